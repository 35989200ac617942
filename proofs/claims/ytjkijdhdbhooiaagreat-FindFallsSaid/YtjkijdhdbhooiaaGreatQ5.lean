/- Part 5: framework, functions, plain laws. -/
import Derived.Test.YtjkijdhdbhooiaaGreatQ4
set_option linter.all false
noncomputable section
namespace Go.Proofs
open Go Go.Pm
set_option maxRecDepth 100000
theorem OD:Tryz.prog.cellsOf 3=1:=krY
theorem zRc:Tryz.prog.cellsOf 22=1:=krY
theorem zRd:Tryz.prog.cellsOf 24=1:=krY
theorem zRe:Tryz.prog.cellsOf 26=2:=krY
theorem ZdE:Tryz.prog.cellsOf 29=4:=krY
theorem zL6:Tryz.prog.cellsOf 38=1:=krY
theorem zNK:Tryz.prog.cellsOf 39=1:=krY
theorem z2c:Tryz.prog.cellsOf 85=2:=krY
theorem Zbp:Tryz.prog.cellsOf 87=5:=krY
theorem zFT:Tryz.prog.cellsOf 92=6:=krY
theorem zcr:Tryz.prog.cellsOf 105=2:=krY
theorem zFU:Tryz.prog.cellsOf 121=1:=krY
theorem zFV:Tryz.prog.cellsOf 122=1:=krY
theorem ztV:Tryz.prog.cellsOf 124=15:=krY
theorem ztW:Tryz.prog.cellsOf 264=3:=krY
section
variable{H:Type}{en:TypeId×Value->H}{w:World}{sp:Nat->Bool}{held:Bool}
theorem zw3:Rd H en Tryz.prog w sp held 121 Int:=zae Tryz.underlying121
theorem zBT:Rd H en Tryz.prog w sp held 38 Int:=zae Tryz.underlying38
theorem uj:Rd H en Tryz.prog w sp held 3 Int:=zae Tryz.underlying3
instance:sK bZ:=⟨λx=>sK.wf x.Low/\sK.wf x.High⟩
theorem zak:Rd H en Tryz.prog w sp held 105 bZ:=by
 intro fuel cs x h;obtain⟨hl,hf⟩:=nK Tryz.underlying105 h;rw[zcr]at hl;obtain⟨n0,y0,g0⟩:=hf 0 _ rfl;have g0:DataW.trod en Tryz.prog w 0 sp held n0 3 ((cs.drop 0).take (Tryz.prog.cellsOf 3))=some y0:=g0;rw[OD]at g0;obtain⟨a0,r0,w0⟩:=uj _ _ _ g0;obtain⟨n1,y1,g1⟩:=hf 1 _ rfl;have g1:DataW.trod en Tryz.prog w 0 sp held n1 3 ((cs.drop 1).take (Tryz.prog.cellsOf 3))=some y1:=g1;rw[OD]at g1;obtain⟨a1,r1,w1⟩:=uj _ _ _ g1;rw[dqo (l:=cs.drop 1) (by rw[Y8];omega)]at r1;have R:=(r0.append r1);rw[<- (show cs.drop 0=(cs.drop 0).take 1++cs.drop 1 from dH cs 0 1)]at R;exact⟨⟨a0,a1⟩,R,⟨w0,w1⟩⟩
instance:sK aT:=⟨λx=>sK.wf x.Time/\sK.wf x.dQ⟩
theorem zw4:Rd H en Tryz.prog w sp held 264 aT:=by
 intro fuel cs x h;obtain⟨hl,hf⟩:=nK Tryz.underlying264 h;rw[ztW]at hl;obtain⟨n0,y0,g0⟩:=hf 0 _ rfl;have g0:DataW.trod en Tryz.prog w 0 sp held n0 3 ((cs.drop 0).take (Tryz.prog.cellsOf 3))=some y0:=g0;rw[OD]at g0;obtain⟨a0,r0,w0⟩:=uj _ _ _ g0;obtain⟨n1,y1,g1⟩:=hf 1 _ rfl;have g1:DataW.trod en Tryz.prog w 0 sp held n1 105 ((cs.drop 1).take (Tryz.prog.cellsOf 105))=some y1:=g1;rw[zcr]at g1;obtain⟨a1,r1,w1⟩:=zak _ _ _ g1;rw[dqo (l:=cs.drop 1) (by rw[Y8];omega)]at r1;have R:=(r0.append r1);rw[<- (show cs.drop 0=(cs.drop 0).take 1++cs.drop 1 from dH cs 0 1)]at R;exact⟨⟨a0,a1⟩,R,⟨w0,w1⟩⟩
theorem zw5:Rd H en Tryz.prog w sp held 122 (Sl aT):=BZ Tryz.underlying122 ztW rfl (by decide) zw4
theorem zCR:Rd H en Tryz.prog w sp held 39 (Sl Int):=BZ Tryz.underlying39 OD rfl (by decide) uj
instance:sK ak:=⟨λx=>sK.wf x.Kind/\sK.wf x.View/\sK.wf x.Z/\sK.wf x.First/\sK.wf x.aS/\sK.wf x.bM/\sK.wf x.dN/\sK.wf x.bC/\sK.wf x.Clock/\sK.wf x.dP/\sK.wf x.Least/\sK.wf x.aT/\sK.wf x.Dead⟩
theorem zw6:Rd H en Tryz.prog w sp held 124 ak:=by
 intro fuel cs x h;obtain⟨hl,hf⟩:=nK Tryz.underlying124 h;rw[ztV]at hl;obtain⟨n0,y0,g0⟩:=hf 0 _ rfl;have g0:DataW.trod en Tryz.prog w 0 sp held n0 121 ((cs.drop 0).take (Tryz.prog.cellsOf 121))=some y0:=g0;rw[zFU]at g0;obtain⟨a0,r0,w0⟩:=zw3 _ _ _ g0;obtain⟨n1,y1,g1⟩:=hf 1 _ rfl;have g1:DataW.trod en Tryz.prog w 0 sp held n1 38 ((cs.drop 1).take (Tryz.prog.cellsOf 38))=some y1:=g1;rw[zL6]at g1;obtain⟨a1,r1,w1⟩:=zBT _ _ _ g1;obtain⟨n2,y2,g2⟩:=hf 2 _ rfl;have g2:DataW.trod en Tryz.prog w 0 sp held n2 3 ((cs.drop 2).take (Tryz.prog.cellsOf 3))=some y2:=g2;rw[OD]at g2;obtain⟨a2,r2,w2⟩:=uj _ _ _ g2;obtain⟨n3,y3,g3⟩:=hf 3 _ rfl;have g3:DataW.trod en Tryz.prog w 0 sp held n3 3 ((cs.drop 3).take (Tryz.prog.cellsOf 3))=some y3:=g3;rw[OD]at g3;obtain⟨a3,r3,w3⟩:=uj _ _ _ g3;obtain⟨n4,y4,g4⟩:=hf 4 _ rfl;have g4:DataW.trod en Tryz.prog w 0 sp held n4 3 ((cs.drop 4).take (Tryz.prog.cellsOf 3))=some y4:=g4;rw[OD]at g4;obtain⟨a4,r4,w4⟩:=uj _ _ _ g4;obtain⟨n5,y5,g5⟩:=hf 5 _ rfl;have g5:DataW.trod en Tryz.prog w 0 sp held n5 3 ((cs.drop 5).take (Tryz.prog.cellsOf 3))=some y5:=g5;rw[OD]at g5;obtain⟨a5,r5,w5⟩:=uj _ _ _ g5;obtain⟨n6,y6,g6⟩:=hf 6 _ rfl;have g6:DataW.trod en Tryz.prog w 0 sp held n6 3 ((cs.drop 6).take (Tryz.prog.cellsOf 3))=some y6:=g6;rw[OD]at g6;obtain⟨a6,r6,w6⟩:=uj _ _ _ g6;obtain⟨n7,y7,g7⟩:=hf 7 _ rfl;have g7:DataW.trod en Tryz.prog w 0 sp held n7 105 ((cs.drop 7).take (Tryz.prog.cellsOf 105))=some y7:=g7;rw[zcr]at g7;obtain⟨a7,r7,w7⟩:=zak _ _ _ g7;obtain⟨n8,y8,g8⟩:=hf 8 _ rfl;have g8:DataW.trod en Tryz.prog w 0 sp held n8 105 ((cs.drop 9).take (Tryz.prog.cellsOf 105))=some y8:=g8;rw[zcr]at g8;obtain⟨a8,r8,w8⟩:=zak _ _ _ g8;obtain⟨n9,y9,g9⟩:=hf 9 _ rfl;have g9:DataW.trod en Tryz.prog w 0 sp held n9 3 ((cs.drop 11).take (Tryz.prog.cellsOf 3))=some y9:=g9;rw[OD]at g9;obtain⟨a9,r9,w9⟩:=uj _ _ _ g9;obtain⟨n10,y10,g10⟩:=hf 10 _ rfl;have g10:DataW.trod en Tryz.prog w 0 sp held n10 3 ((cs.drop 12).take (Tryz.prog.cellsOf 3))=some y10:=g10;rw[OD]at g10;obtain⟨a10,UI,w10⟩:=uj _ _ _ g10;obtain⟨n11,y11,g11⟩:=hf 11 _ rfl;have g11:DataW.trod en Tryz.prog w 0 sp held n11 122 ((cs.drop 13).take (Tryz.prog.cellsOf 122))=some y11:=g11;rw[zFV]at g11;obtain⟨a11,r11,w11⟩:=zw5 _ _ _ g11;obtain⟨n12,y12,g12⟩:=hf 12 _ rfl;have g12:DataW.trod en Tryz.prog w 0 sp held n12 39 ((cs.drop 14).take (Tryz.prog.cellsOf 39))=some y12:=g12;rw[zNK]at g12;obtain⟨a12,r12,w12⟩:=zCR _ _ _ g12;rw[dqo (l:=cs.drop 14) (by rw[Y8];omega)]at r12;have R:=(r0.append (r1.append (r2.append (r3.append (r4.append (r5.append (r6.append (r7.append (r8.append (r9.append (UI.append (r11.append r12))))))))))));rw[<- (show cs.drop 13=(cs.drop 13).take 1++cs.drop 14 from dH cs 13 1)]at R;rw[<- (show cs.drop 12=(cs.drop 12).take 1++cs.drop 13 from dH cs 12 1)]at R;rw[<- (show cs.drop 11=(cs.drop 11).take 1++cs.drop 12 from dH cs 11 1)]at R;rw[<- (show cs.drop 9=(cs.drop 9).take 2++cs.drop 11 from dH cs 9 2)]at R;rw[<- (show cs.drop 7=(cs.drop 7).take 2++cs.drop 9 from dH cs 7 2)]at R;rw[<- (show cs.drop 6=(cs.drop 6).take 1++cs.drop 7 from dH cs 6 1)]at R;rw[<- (show cs.drop 5=(cs.drop 5).take 1++cs.drop 6 from dH cs 5 1)]at R;rw[<- (show cs.drop 4=(cs.drop 4).take 1++cs.drop 5 from dH cs 4 1)]at R;rw[<- (show cs.drop 3=(cs.drop 3).take 1++cs.drop 4 from dH cs 3 1)]at R;rw[<- (show cs.drop 2=(cs.drop 2).take 1++cs.drop 3 from dH cs 2 1)]at R;rw[<- (show cs.drop 1=(cs.drop 1).take 1++cs.drop 2 from dH cs 1 1)]at R;rw[<- (show cs.drop 0=(cs.drop 0).take 1++cs.drop 1 from dH cs 0 1)]at R;exact⟨⟨a0,a1,a2,a3,a4,a5,a6,a7,a8,a9,a10,a11,a12⟩,R,⟨w0,w1,w2,w3,w4,w5,w6,w7,w8,w9,w10,w11,w12⟩⟩
theorem zFW:Rd H en Tryz.prog w sp held 22 (Sl ak):=BZ Tryz.underlying22 ztV rfl (by decide) zw6
instance:sK au:=⟨λx=>sK.wf x.aj⟩
theorem zFX:Rd H en Tryz.prog w sp held 24 au:=by
 intro fuel cs x h;obtain⟨hl,hf⟩:=nK Tryz.underlying24 h;rw[zRd]at hl;obtain⟨n0,y0,g0⟩:=hf 0 _ rfl;have g0:DataW.trod en Tryz.prog w 0 sp held n0 22 ((cs.drop 0).take (Tryz.prog.cellsOf 22))=some y0:=g0;rw[zRc]at g0;obtain⟨a0,r0,w0⟩:=zFW _ _ _ g0;rw[dqo (l:=cs.drop 0) (by rw[Y8];omega)]at r0;have R:=r0;exact⟨⟨a0⟩,R,w0⟩
instance:sK bJ:=⟨λx=>sK.wf x.uS/\sK.wf x.zF⟩
theorem zFY:Rd H en Tryz.prog w sp held 26 bJ:=by
 intro fuel cs x h;obtain⟨hl,hf⟩:=nK Tryz.underlying26 h;rw[zRe]at hl;obtain⟨n0,y0,g0⟩:=hf 0 _ rfl;have g0:DataW.trod en Tryz.prog w 0 sp held n0 3 ((cs.drop 0).take (Tryz.prog.cellsOf 3))=some y0:=g0;rw[OD]at g0;obtain⟨a0,r0,w0⟩:=uj _ _ _ g0;obtain⟨n1,y1,g1⟩:=hf 1 _ rfl;have g1:DataW.trod en Tryz.prog w 0 sp held n1 3 ((cs.drop 1).take (Tryz.prog.cellsOf 3))=some y1:=g1;rw[OD]at g1;obtain⟨a1,r1,w1⟩:=uj _ _ _ g1;rw[dqo (l:=cs.drop 1) (by rw[Y8];omega)]at r1;have R:=(r0.append r1);rw[<- (show cs.drop 0=(cs.drop 0).take 1++cs.drop 1 from dH cs 0 1)]at R;exact⟨⟨a0,a1⟩,R,⟨w0,w1⟩⟩
instance:sK bF:=⟨λx=>sK.wf x.ak/\sK.wf x.Channel/\sK.wf x.jW/\sK.wf x.aT/\sK.wf x.BP/\sK.wf x.Time⟩
theorem zFZ:Rd H en Tryz.prog w sp held 92 bF:=by
 intro fuel cs x h;obtain⟨hl,hf⟩:=nK Tryz.underlying92 h;rw[zFT]at hl;obtain⟨n0,y0,g0⟩:=hf 0 _ rfl;have g0:DataW.trod en Tryz.prog w 0 sp held n0 3 ((cs.drop 0).take (Tryz.prog.cellsOf 3))=some y0:=g0;rw[OD]at g0;obtain⟨a0,r0,w0⟩:=uj _ _ _ g0;obtain⟨n1,y1,g1⟩:=hf 1 _ rfl;have g1:DataW.trod en Tryz.prog w 0 sp held n1 3 ((cs.drop 1).take (Tryz.prog.cellsOf 3))=some y1:=g1;rw[OD]at g1;obtain⟨a1,r1,w1⟩:=uj _ _ _ g1;obtain⟨n2,y2,g2⟩:=hf 2 _ rfl;have g2:DataW.trod en Tryz.prog w 0 sp held n2 3 ((cs.drop 2).take (Tryz.prog.cellsOf 3))=some y2:=g2;rw[OD]at g2;obtain⟨a2,r2,w2⟩:=uj _ _ _ g2;obtain⟨n3,y3,g3⟩:=hf 3 _ rfl;have g3:DataW.trod en Tryz.prog w 0 sp held n3 3 ((cs.drop 3).take (Tryz.prog.cellsOf 3))=some y3:=g3;rw[OD]at g3;obtain⟨a3,r3,w3⟩:=uj _ _ _ g3;obtain⟨n4,y4,g4⟩:=hf 4 _ rfl;have g4:DataW.trod en Tryz.prog w 0 sp held n4 3 ((cs.drop 4).take (Tryz.prog.cellsOf 3))=some y4:=g4;rw[OD]at g4;obtain⟨a4,r4,w4⟩:=uj _ _ _ g4;obtain⟨n5,y5,g5⟩:=hf 5 _ rfl;have g5:DataW.trod en Tryz.prog w 0 sp held n5 3 ((cs.drop 5).take (Tryz.prog.cellsOf 3))=some y5:=g5;rw[OD]at g5;obtain⟨a5,r5,w5⟩:=uj _ _ _ g5;rw[dqo (l:=cs.drop 5) (by rw[Y8];omega)]at r5;have R:=(r0.append (r1.append (r2.append (r3.append (r4.append r5)))));rw[<- (show cs.drop 4=(cs.drop 4).take 1++cs.drop 5 from dH cs 4 1)]at R;rw[<- (show cs.drop 3=(cs.drop 3).take 1++cs.drop 4 from dH cs 3 1)]at R;rw[<- (show cs.drop 2=(cs.drop 2).take 1++cs.drop 3 from dH cs 2 1)]at R;rw[<- (show cs.drop 1=(cs.drop 1).take 1++cs.drop 2 from dH cs 1 1)]at R;rw[<- (show cs.drop 0=(cs.drop 0).take 1++cs.drop 1 from dH cs 0 1)]at R;exact⟨⟨a0,a1,a2,a3,a4,a5⟩,R,⟨w0,w1,w2,w3,w4,w5⟩⟩
theorem zF0:Rd H en Tryz.prog w sp held 27 (Sl bF):=BZ Tryz.underlying27 zFT rfl (by decide) zFZ
instance:sK aP:=⟨λx=>sK.wf x.Num/\sK.wf x.bT⟩
theorem zYj:Rd H en Tryz.prog w sp held 85 aP:=by
 intro fuel cs x h;obtain⟨hl,hf⟩:=nK Tryz.underlying85 h;rw[z2c]at hl;obtain⟨n0,y0,g0⟩:=hf 0 _ rfl;have g0:DataW.trod en Tryz.prog w 0 sp held n0 3 ((cs.drop 0).take (Tryz.prog.cellsOf 3))=some y0:=g0;rw[OD]at g0;obtain⟨a0,r0,w0⟩:=uj _ _ _ g0;obtain⟨n1,y1,g1⟩:=hf 1 _ rfl;have g1:DataW.trod en Tryz.prog w 0 sp held n1 3 ((cs.drop 1).take (Tryz.prog.cellsOf 3))=some y1:=g1;rw[OD]at g1;obtain⟨a1,r1,w1⟩:=uj _ _ _ g1;rw[dqo (l:=cs.drop 1) (by rw[Y8];omega)]at r1;have R:=(r0.append r1);rw[<- (show cs.drop 0=(cs.drop 0).take 1++cs.drop 1 from dH cs 0 1)]at R;exact⟨⟨a0,a1⟩,R,⟨w0,w1⟩⟩
instance:sK Bin:=⟨λx=>sK.wf x.View/\sK.wf x.Low/\sK.wf x.High⟩
theorem z8C:Rd H en Tryz.prog w sp held 87 Bin:=by
 intro fuel cs x h;obtain⟨hl,hf⟩:=nK Tryz.underlying87 h;rw[Zbp]at hl;obtain⟨n0,y0,g0⟩:=hf 0 _ rfl;have g0:DataW.trod en Tryz.prog w 0 sp held n0 38 ((cs.drop 0).take (Tryz.prog.cellsOf 38))=some y0:=g0;rw[zL6]at g0;obtain⟨a0,r0,w0⟩:=zBT _ _ _ g0;obtain⟨n1,y1,g1⟩:=hf 1 _ rfl;have g1:DataW.trod en Tryz.prog w 0 sp held n1 85 ((cs.drop 1).take (Tryz.prog.cellsOf 85))=some y1:=g1;rw[z2c]at g1;obtain⟨a1,r1,w1⟩:=zYj _ _ _ g1;obtain⟨n2,y2,g2⟩:=hf 2 _ rfl;have g2:DataW.trod en Tryz.prog w 0 sp held n2 85 ((cs.drop 3).take (Tryz.prog.cellsOf 85))=some y2:=g2;rw[z2c]at g2;obtain⟨a2,r2,w2⟩:=zYj _ _ _ g2;rw[dqo (l:=cs.drop 3) (by rw[Y8];omega)]at r2;have R:=(r0.append (r1.append r2));rw[<- (show cs.drop 1=(cs.drop 1).take 2++cs.drop 3 from dH cs 1 2)]at R;rw[<- (show cs.drop 0=(cs.drop 0).take 1++cs.drop 1 from dH cs 0 1)]at R;exact⟨⟨a0,a1,a2⟩,R,⟨w0,w1,w2⟩⟩
instance:sK ER:=⟨λx=>sK.wf x.Z/\sK.wf x.X/\sK.wf x.W/\sK.wf x.Y⟩
theorem z2v:Rd H en Tryz.prog w sp held 29 ER:=by
 intro fuel cs x h;obtain⟨hl,hf⟩:=nK Tryz.underlying29 h;rw[ZdE]at hl;obtain⟨n0,y0,g0⟩:=hf 0 _ rfl;have g0:DataW.trod en Tryz.prog w 0 sp held n0 3 ((cs.drop 0).take (Tryz.prog.cellsOf 3))=some y0:=g0;rw[OD]at g0;obtain⟨a0,r0,w0⟩:=uj _ _ _ g0;obtain⟨n1,y1,g1⟩:=hf 1 _ rfl;have g1:DataW.trod en Tryz.prog w 0 sp held n1 3 ((cs.drop 1).take (Tryz.prog.cellsOf 3))=some y1:=g1;rw[OD]at g1;obtain⟨a1,r1,w1⟩:=uj _ _ _ g1;obtain⟨n2,y2,g2⟩:=hf 2 _ rfl;have g2:DataW.trod en Tryz.prog w 0 sp held n2 3 ((cs.drop 2).take (Tryz.prog.cellsOf 3))=some y2:=g2;rw[OD]at g2;obtain⟨a2,r2,w2⟩:=uj _ _ _ g2;obtain⟨n3,y3,g3⟩:=hf 3 _ rfl;have g3:DataW.trod en Tryz.prog w 0 sp held n3 3 ((cs.drop 3).take (Tryz.prog.cellsOf 3))=some y3:=g3;rw[OD]at g3;obtain⟨a3,r3,w3⟩:=uj _ _ _ g3;rw[dqo (l:=cs.drop 3) (by rw[Y8];omega)]at r3;have R:=(r0.append (r1.append (r2.append r3)));rw[<- (show cs.drop 2=(cs.drop 2).take 1++cs.drop 3 from dH cs 2 1)]at R;rw[<- (show cs.drop 1=(cs.drop 1).take 1++cs.drop 2 from dH cs 1 1)]at R;rw[<- (show cs.drop 0=(cs.drop 0).take 1++cs.drop 1 from dH cs 0 1)]at R;exact⟨⟨a0,a1,a2,a3⟩,R,⟨w0,w1,w2,w3⟩⟩
end
structure E23 where
  N:Nat
abbrev G23(E:E23):bU:=gY Tabs.nil []
def A23:dK:=bY aH 23 [] {}
def F23(E:E23):au×(Sl bF)×Int->ae Bool:=ae.ty (aF aH E.N (G23 E) A23 23)
section
variable(E:E23){A:Type}(k:Bool->Option A)
def L8(E:E23)(n:Nat)(a0:au)(v7:Int){A:Type}(k:Bool->Option A):Option A :=
  iP aH (G23 E) E.N A23 23 [1,1,0,1,0] [.n n] (iO k)
    ⟨[(3,.cl (.ptr 3 0)),(7,.int v7)],[(3,eB 24 a0)],[]⟩
theorem e23(a0:au)(a1:Sl bF)(a2:Int):(F23 E (a0,a1,a2)).T k =
  cond (decide ((a0.aj.len:Int)>20))
  (k false)
  (cond (decide ((a1.len:Int)>a2))
 (cond (decide ((a1.len:Int)<=24))
 (k false)
 (cond (decide ((a1.len:Int)>40))
 (k false)
 (L8 E E.N a0 0 k)))
 (cond (decide ((a1.len:Int)>40))
 (k false)
 (L8 E E.N a0 0 k))):=dV
theorem ztX(n0:Nat)(a0:au)(v7:Int):L8 E (n0+1) a0 v7 k =
  cond (decide (v7<(a0.aj.len:Int)))
  (aV (decide (0<=v7/\v7<(a0.aj.len:Int))) (cond (decide (((a0.aj.get v7.toNat).aT.len:Int)>60))
 (k false)
 (aV (decide (0<=v7/\v7<(a0.aj.len:Int))) (cond (decide (((a0.aj.get v7.toNat).Dead.len:Int)>110))
 (k false)
 (L8 E n0 a0 (aO (v7+1)) k)))))
  (k true):=krY
end
theorem o23 [aJ](E:E23):Ok aH 23 (ae.un (F23 E)):=dW ax.nil
structure E26 where
  N:Nat
  c61:au->ae Bool
  c62:bJ->ae Bool
  c85:au×(Sl bF)->ae Bool
def F26(E:E26):au×bJ×(Sl bF)->ae Int:=iK E.N (((Tabs.nil.addF 61 (ae.un E.c61)).addF 62 (ae.un E.c62)).addF 85 (ae.un E.c85)) 26
theorem e26(E:E26){A:Type}(k:Int→Option A)(a0:au)(a1:bJ)(a2:Sl bF):(F26 E (a0,a1,a2)).T k =
  cond (decide ((a2.len:Int)>24))
  (k 3)
  ((E.c61 a0).T λr1 =>
 cond (!r1)
 (k 2)
 ((E.c62 a1).T λr2 =>
 cond (!r2)
 (k 2)
 ((E.c85 (a0,a2)).T λr3 =>
 cond (!r3)
 (k 2)
 (k 0)))):=dV
theorem o26 [aJ](E:E26)(h61:Ok aH 61 (ae.un E.c61))(h62:Ok aH 62 (ae.un E.c62))(h85:Ok aH 85 (ae.un E.c85)):Ok aH 26 (ae.un (F26 E)):=dW (((ax.nil.addF h61).addF h62).addF h85)
structure E34 where
  N:Nat
def F34(E:E34):Int->ae Bool:=iK E.N Tabs.nil 34
theorem e34(E:E34){A:Type}(k:Bool→Option A)(a0:Int):(F34 E (a0)).T k =
  cond (a0==1)
  (k true)
  (k (a0==2)):=dV
theorem o34 [aJ](E:E34):Ok aH 34 (ae.un (F34 E)):=dW ax.nil
structure E47 where
  N:Nat
  zNi:Unit->ae bJ
  c78:au×bJ×(Sl bF)->ae (Int ⊕ ((Pt aU)×Int))
  c79:(Pt aU)×af->ae Bool
  c105:(Pt aU)×af->ae ((Sl ay))
def F47(E:E47):au×(Sl bF)×af->ae ((Sl ay)×Int):=iK E.N ((((Tabs.nil.addF 108 (ae.un E.zNi)).addF 78 (ae.unA E.c78)).addF 79 (ae.un E.c79)).addF 105 (ae.un E.c105)) 47
theorem e47(E:E47){A:Type}(k:((Sl ay)×Int)→Option A)(a0:au)(a1:Sl bF)(a2:af):(F47 E (a0,a1,a2)).T k =
  (E.zNi ()).T λr1 =>
  (E.c78 (a0,r1,a1)).T λr2=>zmz r2
  (λr2=>cond (r2 != 0)
 (k ((⟨0,λ_=>default⟩:(Sl ay)),r2))
 (none))
  (λr2=>cond (r2.2 != 0)
 (k ((⟨0,λ_=>default⟩:(Sl ay)),r2.2))
 ((E.c79 (r2.1,a2)).T λr3 =>
 cond (!r3)
 (k ((⟨0,λ_=>default⟩:(Sl ay)),2))
 ((E.c105 (r2.1,a2)).T λr4 =>
 k (r4,0)))):=dV
theorem o47 [aJ](E:E47)(zWU:Ok aH 108 (ae.un E.zNi))(h78:Ok aH 78 (ae.unA E.c78))(h79:Ok aH 79 (ae.un E.c79))(NT:Ok aH 105 (ae.un E.c105)):Ok aH 47 (ae.un (F47 E)):=dW ((((ax.nil.addF zWU).addF h78).addF h79).addF NT)
structure E60 where
  N:Nat
  zsi:au->ae Int
  Pi:Int×Int×Int->ae Bool
def F60(E:E60):au×bJ->ae Int:=iK E.N ((Tabs.nil.addF 122 (ae.un E.zsi)).addF 123 (ae.un E.Pi)) 60
theorem e60(E:E60){A:Type}(k:Int→Option A)(a0:au)(a1:bJ):(F60 E (a0,a1)).T k =
  (E.zsi a0).T λr1 =>
  cond (r1 != 0)
  (k 2)
  ((E.Pi (a1.uS,1,16)).T λr2 =>
 cond (!r2)
 (k 2)
 ((E.Pi (a1.zF,0,16)).T λr3 =>
 cond (!r3)
 (k 2)
 (k 0))):=dV
theorem o60 [aJ](E:E60)(zBl:Ok aH 122 (ae.un E.zsi))(zdf:Ok aH 123 (ae.un E.Pi)):Ok aH 60 (ae.un (F60 E)):=dW ((ax.nil.addF zBl).addF zdf)
structure E61 where
  N:Nat
  uQ:Int×Int×Int->ae Bool
  c124:ak->ae Bool
abbrev G61(E:E61):bU:=gY ((Tabs.nil.addF 73 (ae.un E.uQ)).addF 124 (ae.un E.c124)) []
def A61:dK:=bY aH 61 [] {}
def F61(E:E61):au->ae Bool:=ae.ty (aF aH E.N (G61 E) A61 61)
section
variable(E:E61){A:Type}(k:Bool->Option A)
def L9(E:E61)(n:Nat)(a0:au)(v3:Int){A:Type}(k:Bool->Option A):Option A :=
  iP aH (G61 E) E.N A61 61 [1,1,0,1,0] [.n n] (iO k)
    ⟨[(1,.cl (.ptr 1 0)),(3,.int v3)],[(1,eB 24 a0)],[]⟩
theorem e61(a0:au):(F61 E (a0)).T k =
  (E.uQ ((a0.aj.len:Int),1,16)).T λr1 =>
  cond (!r1)
  (k false)
  (L9 E E.N a0 0 k):=dV
theorem ztY(n0:Nat)(a0:au)(v3:Int):L9 E (n0+1) a0 v3 k =
  cond (decide (v3<(a0.aj.len:Int)))
  (aV (decide (0<=v3/\v3<(a0.aj.len:Int))) ((E.c124 (a0.aj.get v3.toNat)).T λr1 =>
 cond (!r1)
 (k false)
 (cond (decide (v3>0))
 (aV (decide (0<=v3/\v3<(a0.aj.len:Int))) (aV (decide (0<=(aO (v3-1))/\(aO (v3-1))<(a0.aj.len:Int))) (cond (decide ((a0.aj.get v3.toNat).Z<=(a0.aj.get (aO (v3-1)).toNat).Z))
 (k false)
 (L9 E n0 a0 (aO (v3+1)) k))))
 (L9 E n0 a0 (aO (v3+1)) k))))
  (k true):=krY
end
theorem o61 [aJ](E:E61)(NQ:Ok aH 73 (ae.un E.uQ))(zw7:Ok aH 124 (ae.un E.c124)):Ok aH 61 (ae.un (F61 E)):=dW ((ax.nil.addF NQ).addF zw7)
structure E62 where
  N:Nat
  c86:Int×Int×Int->ae Bool
def F62(E:E62):bJ->ae Bool:=iK E.N (Tabs.nil.addF 86 (ae.un E.c86)) 62
theorem e62(E:E62){A:Type}(k:Bool→Option A)(a0:bJ):(F62 E (a0)).T k =
  (E.c86 (a0.uS,1,16)).T λr1 =>
  cond r1
  ((E.c86 (a0.zF,0,16)).T λr2 =>
 k r2)
  (k false):=dV
theorem o62 [aJ](E:E62)(h86:Ok aH 86 (ae.un E.c86)):Ok aH 62 (ae.un (F62 E)):=dW (ax.nil.addF h86)
structure E65 where
  N:Nat
  c75:au×bF->ae ((Sl ay))
abbrev G65(E:E65):bU:=gY (Tabs.nil.addF 75 (ae.un E.c75)) []
def A65:dK:=bY aH 65 [] {ks:=[(1,3,⟨[],[(7,35,101)],[],[],[],[],[]⟩)]}
def F65(E:E65):au×(Sl bF)×af->ae ((Sl ay)):=ae.ty (aF aH E.N (G65 E) A65 65)
section
variable(E:E65){A:Type}(k:(Sl ay)->Option A)
def zcs(E:E65)(n:Nat)(a0:au)(a1:Sl bF)(a2:af)(v8:Int)(w35:Sl ay){A:Type}(k:(Sl ay)->Option A):Option A :=
  iP aH (G65 E) E.N A65 65 [1,1,0,1,0] [.n n] (iO k)
    ⟨[(1,eP a1),(3,.cl (.ptr 3 0)),(5,.cl (.ptr 5 0)),(7,.cl (.vec 35)),(8,.int v8)],[(3,eB 24 a0),(5,eB 43 a2),(35,eV 101 3 24 w35)],[]⟩
theorem e65(a0:au)(a1:Sl bF)(a2:af):(F65 E (a0,a1,a2)).T k =
  zcs E E.N a0 a1 a2 0 (⟨0,(λ_=>(⟨0,0,0⟩:ay))⟩:(Sl ay)) k:=dV
theorem ztZ(n0:Nat)(a0:au)(a1:Sl bF)(a2:af)(v8:Int)(w35:Sl ay):zcs E (n0+1) a0 a1 a2 v8 w35 k =
  cond (decide (v8<(a2.Hits.len:Int)))
  (aV (decide (0<=v8/\v8<(a2.Hits.len:Int))) (aV (decide (0<=a2.Hits.get v8.toNat/\a2.Hits.get v8.toNat<(a1.len:Int))) ((E.c75 (a0,(a1.get (a2.Hits.get v8.toNat).toNat))).T λr1 =>
 aV (decide (0≤v8∧v8<(a2.bz.len:Int))) (aV (decide (0≤a2.bz.get v8.toNat∧a2.bz.get v8.toNat<(r1.len:Int))) (aV (room (w35.len+1) 24) (zcs E n0 a0 a1 a2 (aO (v8+1)) (⟨(w35.len+1),(jL w35.len w35.get (fun _=>(r1.get (a2.bz.get v8.toNat).toNat)))⟩:(Sl ay)) k))))))
  (k w35):=krY
end
theorem o65 [aJ](E:E65)(h75:Ok aH 75 (ae.un E.c75)):Ok aH 65 (ae.un (F65 E)):=dW (ax.nil.addF h75)
structure E73 where
  N:Nat
def F73(E:E73):Int×Int×Int->ae Bool:=iK E.N Tabs.nil 73
theorem e73(E:E73){A:Type}(k:Bool→Option A)(a0 a1 a2:Int):(F73 E (a0,a1,a2)).T k =
  cond (decide (a0>=a1))
  (k (decide (a0<=a2)))
  (k false):=dV
theorem o73 [aJ](E:E73):Ok aH 73 (ae.un (F73 E)):=dW ax.nil
structure E75 where
  N:Nat
  zsl:ak×Int->ae (Int×Int)
def F75(E:E75):au×bF->ae ((Sl ay)):=iK E.N (Tabs.nil.addF 135 (ae.un E.zsl)) 75
theorem e75(E:E75){A:Type}(k:(Sl ay)→Option A)(a0:au)(a1:bF):(F75 E (a0,a1)).T k =
  aV (decide (0<=a1.ak/\a1.ak<(a0.aj.len:Int))) (cond ((a0.aj.get a1.ak.toNat).Kind != 2)
 (cond (decide ((aO ((aO ((a0.aj.get a1.ak.toNat).First+(aO ((aO ((aO (a1.Channel+a1.jW))-1))*(a0.aj.get a1.ak.toNat).aS))))-(a0.aj.get a1.ak.toNat).dN))>(aO ((aO ((a0.aj.get a1.ak.toNat).First+(aO ((aO (a1.Channel+1))*(a0.aj.get a1.ak.toNat).aS))))+(a0.aj.get a1.ak.toNat).dN))))
 (k (⟨0,λ_=>default⟩:(Sl ay)))
 (k (⟨1,(λ_=>(⟨(a0.aj.get a1.ak.toNat).Z,(aO ((aO ((aO ((a0.aj.get a1.ak.toNat).First+(aO ((aO ((aO (a1.Channel+a1.jW))-1))*(a0.aj.get a1.ak.toNat).aS))))-(a0.aj.get a1.ak.toNat).dN))+(a0.aj.get a1.ak.toNat).bC.Low)),(aO ((aO ((aO ((a0.aj.get a1.ak.toNat).First+(aO ((aO (a1.Channel+1))*(a0.aj.get a1.ak.toNat).aS))))+(a0.aj.get a1.ak.toNat).dN))+(a0.aj.get a1.ak.toNat).bC.High))⟩:ay))⟩:(Sl ay))))
 ((E.zsl ((a0.aj.get a1.ak.toNat),a1.aT)).T λr1 =>
 cond (decide ((aO ((aO ((aO ((a0.aj.get a1.ak.toNat).First+(aO (a1.Channel*(a0.aj.get a1.ak.toNat).aS))))-r1.1))+(a0.aj.get a1.ak.toNat).bC.High))>=(aO ((aO ((aO ((a0.aj.get a1.ak.toNat).First+(aO (a1.Channel*(a0.aj.get a1.ak.toNat).aS))))+r1.1))+(a0.aj.get a1.ak.toNat).bC.Low))))
 (k (⟨1,(λ_=>(⟨(a0.aj.get a1.ak.toNat).Z,(aO ((aO ((aO ((a0.aj.get a1.ak.toNat).First+(aO (a1.Channel*(a0.aj.get a1.ak.toNat).aS))))-r1.2))+(a0.aj.get a1.ak.toNat).bC.Low)),(aO ((aO ((aO ((a0.aj.get a1.ak.toNat).First+(aO (a1.Channel*(a0.aj.get a1.ak.toNat).aS))))+r1.2))+(a0.aj.get a1.ak.toNat).bC.High))⟩:ay))⟩:(Sl ay)))
 (k (⟨2,(GU [(⟨(a0.aj.get a1.ak.toNat).Z,(aO ((aO ((aO ((a0.aj.get a1.ak.toNat).First+(aO (a1.Channel*(a0.aj.get a1.ak.toNat).aS))))-r1.2))+(a0.aj.get a1.ak.toNat).bC.Low)),(aO ((aO ((aO ((a0.aj.get a1.ak.toNat).First+(aO (a1.Channel*(a0.aj.get a1.ak.toNat).aS))))-r1.1))+(a0.aj.get a1.ak.toNat).bC.High))⟩:ay),(⟨(a0.aj.get a1.ak.toNat).Z,(aO ((aO ((aO ((a0.aj.get a1.ak.toNat).First+(aO (a1.Channel*(a0.aj.get a1.ak.toNat).aS))))+r1.1))+(a0.aj.get a1.ak.toNat).bC.Low)),(aO ((aO ((aO ((a0.aj.get a1.ak.toNat).First+(aO (a1.Channel*(a0.aj.get a1.ak.toNat).aS))))+r1.2))+(a0.aj.get a1.ak.toNat).bC.High))⟩:ay)])⟩:(Sl ay))))):=dV
theorem o75 [aJ](E:E75)(zw8:Ok aH 135 (ae.un E.zsl)):Ok aH 75 (ae.un (F75 E)):=dW (ax.nil.addF zw8)
structure E85 where
  N:Nat
  c143:au×bF->ae Bool
abbrev G85(E:E85):bU:=gY (Tabs.nil.addF 143 (ae.un E.c143)) []
def A85:dK:=bY aH 85 [] {}
def F85(E:E85):au×(Sl bF)->ae Bool:=ae.ty (aF aH E.N (G85 E) A85 85)
section
variable(E:E85){A:Type}(k:Bool->Option A)
def zct(E:E85)(n:Nat)(a0:au)(a1:Sl bF)(v5:Int){A:Type}(k:Bool->Option A):Option A :=
  iP aH (G85 E) E.N A85 85 [1,0,1,0] [.n n] (iO k)
    ⟨[(1,eP a1),(2,.cl (.ptr 2 0)),(5,.int v5)],[(2,eB 24 a0)],[]⟩
theorem e85(a0:au)(a1:Sl bF):(F85 E (a0,a1)).T k =
  zct E E.N a0 a1 0 k:=dV
theorem zt0(n0:Nat)(a0:au)(a1:Sl bF)(v5:Int):zct E (n0+1) a0 a1 v5 k =
  cond (decide (v5<(a1.len:Int)))
  (aV (decide (0<=v5/\v5<(a1.len:Int))) ((E.c143 (a0,(a1.get v5.toNat))).T λr1 =>
 cond (!r1)
 (k false)
 (zct E n0 a0 a1 (aO (v5+1)) k)))
  (k true):=krY
end
theorem o85 [aJ](E:E85)(zw9:Ok aH 143 (ae.un E.c143)):Ok aH 85 (ae.un (F85 E)):=dW (ax.nil.addF zw9)
structure E86 where
  N:Nat
def F86(E:E86):Int×Int×Int->ae Bool:=iK E.N Tabs.nil 86
theorem e86(E:E86){A:Type}(k:Bool→Option A)(a0 a1 a2:Int):(F86 E (a0,a1,a2)).T k =
  cond (decide (a0>=a1))
  (k (decide (a0<=a2)))
  (k false):=dV
theorem o86 [aJ](E:E86):Ok aH 86 (ae.un (F86 E)):=dW ax.nil
structure E87 where
  N:Nat
abbrev G87(E:E87):bU:=gY Tabs.nil []
def A87:dK:=bY aH 87 [] {}
def F87(E:E87):(Sl bF)×(Sl Int)×Int->ae Bool:=ae.ty (aF aH E.N (G87 E) A87 87)
section
variable(E:E87){A:Type}(k:Bool->Option A)
def zcu(E:E87)(n:Nat)(a0:Sl bF)(a1:Sl Int)(a2 v7:Int){A:Type}(k:Bool->Option A):Option A :=
  iP aH (G87 E) E.N A87 87 [1,0,1,0] [.n n] (iO k)
    ⟨[(0,eP a0),(1,eP a1),(2,.int a2),(7,.int v7)],[],[]⟩
theorem e87(a0:Sl bF)(a1:Sl Int)(a2:Int):(F87 E (a0,a1,a2)).T k =
  zcu E E.N a0 a1 a2 0 k:=dV
theorem zt1(n0:Nat)(a0:Sl bF)(a1:Sl Int)(a2 v7:Int):zcu E (n0+1) a0 a1 a2 v7 k =
  cond (decide (v7<(a1.len:Int)))
  (aV (decide (0<=v7/\v7<(a1.len:Int))) (aV (decide (0<=a1.get v7.toNat/\a1.get v7.toNat<(a0.len:Int))) (cond ((a0.get (a1.get v7.toNat).toNat).ak==a2)
 (k true)
 (zcu E n0 a0 a1 a2 (aO (v7+1)) k))))
  (k false):=krY
end
theorem o87 [aJ](E:E87):Ok aH 87 (ae.un (F87 E)):=dW ax.nil
structure zNc where
  N:Nat
def zNd(E:zNc):Unit->ae bJ:=iK E.N Tabs.nil 108
theorem e108(E:zNc){A:Type}(k:bJ→Option A):(zNd E ()).T k =
  k (⟨1,0⟩:bJ):=dV
theorem z8X [aJ](E:zNc):Ok aH 108 (ae.un (zNd E)):=dW ax.nil
structure Tf where
  N:Nat
  uQ:Int×Int×Int->ae Bool
  Ui:Int->ae Bool
  c175:(Sl aT)×Int->ae Bool
abbrev ziY(E:Tf):bU:=gY (((Tabs.nil.addF 73 (ae.un E.uQ)).addF 174 (ae.un E.Ui)).addF 175 (ae.un E.c175)) []
def ziZ:dK:=bY aH 124 [] {cut:=[3,5,7]}
def zol(E:Tf):ak->ae Bool:=ae.ty (aF aH E.N (ziY E) ziZ 124)
section
variable(E:Tf){A:Type}(k:Bool->Option A)
def zal(E:Tf)(a0:ak){A:Type}(k:Bool->Option A):Option A :=
  iP aH (ziY E) E.N ziZ 124 [1,1] [] (iO k)
    ⟨[(1,.cl (.ptr 1 0))],[(1,eB 124 a0)],[]⟩
def zi0(E:Tf)(a0:ak){A:Type}(k:Bool->Option A):Option A :=
  iP aH (ziY E) E.N ziZ 124 [1,1,1] [] (iO k)
    ⟨[(1,.cl (.ptr 1 0))],[(1,eB 124 a0)],[]⟩
def zi1(E:Tf)(a0:ak){A:Type}(k:Bool->Option A):Option A :=
  iP aH (ziY E) E.N ziZ 124 [1,1,1,1] [] (iO k)
    ⟨[(1,.cl (.ptr 1 0))],[(1,eB 124 a0)],[]⟩
def uI(E:Tf)(n:Nat)(a0:ak)(v3:Int){A:Type}(k:Bool->Option A):Option A :=
  iP aH (ziY E) E.N ziZ 124 [1,1,1,1,1,0,1,0] [.n n] (iO k)
    ⟨[(1,.cl (.ptr 1 0)),(3,.int v3)],[(1,eB 124 a0)],[]⟩
theorem zRi(a0:ak):(zol E (a0)).T k =
  cond (decide (a0.Kind<1))
  (k false)
  (cond (decide (a0.Kind>3))
 (k false)
 (cond (a0.View != 1)
 (cond (a0.View != 2)
 (k false)
 ((E.uQ (a0.Z,0,100000)).T λr1 =>
 cond (!r1)
 (k false)
 ((E.Ui a0.First).T λr2 =>
 cond (!r2)
 (k false)
 ((E.uQ (a0.aS,2,100000)).T λr3 =>
 cond (!r3)
 (k false)
 ((E.uQ (a0.bM,1,2000)).T λr4 =>
 cond (!r4)
 (k false)
 ((E.uQ (a0.dN,0,100000)).T λr5 =>
 cond (!r5)
 (k false)
 (zal E a0 k)))))))
 ((E.uQ (a0.Z,0,100000)).T λr6 =>
 cond (!r6)
 (k false)
 ((E.Ui a0.First).T λr7 =>
 cond (!r7)
 (k false)
 ((E.uQ (a0.aS,2,100000)).T λr8 =>
 cond (!r8)
 (k false)
 ((E.uQ (a0.bM,1,2000)).T λr9 =>
 cond (!r9)
 (k false)
 ((E.uQ (a0.dN,0,100000)).T λUI =>
 cond (!UI)
 (k false)
 (zal E a0 k)))))))):=dV
theorem zxa(a0:ak):zal E a0 k =
  (E.Ui a0.bC.Low).T λr1 =>
  cond (!r1)
  (k false)
  ((E.Ui a0.bC.High).T λr2 =>
 cond (!r2)
 (k false)
 (cond (decide (a0.bC.Low>a0.bC.High))
 (k false)
 ((E.uQ (a0.Clock.Low,(-1000000000),1000000000)).T λr3 =>
 cond (!r3)
 (k false)
 ((E.uQ (a0.Clock.High,(-1000000000),1000000000)).T λr4 =>
 cond (!r4)
 (k false)
 (cond (decide (a0.Clock.Low>a0.Clock.High))
 (k false)
 (zi0 E a0 k)))))):=krY
theorem zxb(a0:ak):zi0 E a0 k =
  (E.uQ (a0.dP,0,1000000)).T λr1 =>
  cond (!r1)
  (k false)
  ((E.uQ (a0.Least,0,1000000)).T λr2 =>
 cond (!r2)
 (k false)
 ((E.Ui (aO ((aO ((aO (a0.First-a0.aS))-a0.dN))+a0.bC.Low))).T λr3 =>
 cond (!r3)
 (k false)
 ((E.Ui (aO ((aO ((aO (a0.First+(aO ((aO (a0.bM+1))*a0.aS))))+a0.dN))+a0.bC.High))).T λr4 =>
 cond (!r4)
 (k false)
 (zi1 E a0 k)))):=krY
theorem zxc(a0:ak):zi1 E a0 k =
  cond (a0.Kind==2)
  ((E.c175 (a0.aT,a0.aS)).T λr1 =>
 cond (!r1)
 (k false)
 (cond (a0.Kind != 2)
 (cond (decide ((a0.aT.len:Int)>0))
 (k false)
 (cond (decide ((a0.Dead.len:Int)>100))
 (k false)
 (uI E E.N a0 0 k)))
 (cond (decide ((a0.Dead.len:Int)>100))
 (k false)
 (uI E E.N a0 0 k))))
  (cond (a0.Kind != 2)
 (cond (decide ((a0.aT.len:Int)>0))
 (k false)
 (cond (decide ((a0.Dead.len:Int)>100))
 (k false)
 (uI E E.N a0 0 k)))
 (cond (decide ((a0.Dead.len:Int)>100))
 (k false)
 (uI E E.N a0 0 k))):=krY
theorem zi2(n0:Nat)(a0:ak)(v3:Int):uI E (n0+1) a0 v3 k =
  cond (decide (v3<(a0.Dead.len:Int)))
  (aV (decide (0<=v3/\v3<(a0.Dead.len:Int))) ((E.uQ (a0.Dead.get v3.toNat,0,(aO (a0.bM-1)))).T λr1 =>
 cond (!r1)
 (k false)
 (cond (decide (v3>0))
 (aV (decide (0<=v3/\v3<(a0.Dead.len:Int))) (aV (decide (0<=(aO (v3-1))/\(aO (v3-1))<(a0.Dead.len:Int))) (cond (decide (a0.Dead.get v3.toNat<=a0.Dead.get (aO (v3-1)).toNat))
 (k false)
 (uI E n0 a0 (aO (v3+1)) k))))
 (uI E n0 a0 (aO (v3+1)) k))))
  (k true):=krY
end
theorem zRj [aJ](E:Tf)(NQ:Ok aH 73 (ae.un E.uQ))(zxd:Ok aH 174 (ae.un E.Ui))(zxe:Ok aH 175 (ae.un E.c175)):Ok aH 124 (ae.un (zol E)):=dW (((ax.nil.addF NQ).addF zxd).addF zxe)
structure zam where
  N:Nat
abbrev zxf(E:zam):bU:=gY Tabs.nil []
def zxg:dK:=bY aH 135 [] {}
def zom(E:zam):ak×Int->ae (Int×Int):=ae.ty (aF aH E.N (zxf E) zxg 135)
section
variable(E:zam){A:Type}(k:(Int×Int)->Option A)
def Mc(E:zam)(n:Nat)(a0:ak)(a1 v6 v7 v8:Int){A:Type}(k:(Int×Int)->Option A):Option A :=
  iP aH (zxf E) E.N zxg 135 [1,1,0,1,0] [.n n] (iO k)
    ⟨[(1,.int a1),(2,.cl (.ptr 2 0)),(6,.int v6),(7,.int v7),(8,.int v8)],[(2,eB 124 a0)],[]⟩
def Md(E:zam)(n:Nat)(a0:ak)(a1 v6 v7 v9:Int){A:Type}(k:(Int×Int)->Option A):Option A :=
  iP aH (zxf E) E.N zxg 135 [1,1,1,0,1,0] [.n n] (iO k)
    ⟨[(1,.int a1),(2,.cl (.ptr 2 0)),(6,.int v6),(7,.int v7),(9,.int v9)],[(2,eB 124 a0)],[]⟩
theorem zRk(a0:ak)(a1:Int):(zom E (a0,a1)).T k =
  Mc E E.N a0 a1 0 (aO (a0.aS.tdiv 2)) 0 k:=dV
theorem zi3(n0:Nat)(a0:ak)(a1 v6 v7 v8:Int):Mc E (n0+1) a0 a1 v6 v7 v8 k =
  cond (decide (v8<(a0.aT.len:Int)))
  (aV (decide (0<=v8/\v8<(a0.aT.len:Int))) (cond (decide ((a0.aT.get v8.toNat).Time<=(aO (a1-a0.dP))))
 (aV (decide (0<=v8/\v8<(a0.aT.len:Int))) (Mc E n0 a0 a1 (a0.aT.get v8.toNat).dQ.Low v7 (aO (v8+1)) k))
 (Mc E n0 a0 a1 v6 v7 (aO (v8+1)) k)))
  (Md E E.N a0 a1 v6 v7 (aO ((a0.aT.len:Int)-1)) k):=krY
theorem zi4(n0:Nat)(a0:ak)(a1 v6 v7 v9:Int):Md E (n0+1) a0 a1 v6 v7 v9 k =
  cond (decide (v9>=0))
  (aV (decide (0<=v9/\v9<(a0.aT.len:Int))) (cond (decide ((a0.aT.get v9.toNat).Time>=(aO (a1+a0.dP))))
 (aV (decide (0<=v9/\v9<(a0.aT.len:Int))) (Md E n0 a0 a1 v6 (a0.aT.get v9.toNat).dQ.High (aO (v9-1)) k))
 (Md E n0 a0 a1 v6 v7 (aO (v9-1)) k)))
  (k (v6,v7)):=krY
end
theorem zRl [aJ](E:zam):Ok aH 135 (ae.un (zom E)):=dW ax.nil
structure zem where
  N:Nat
abbrev zF1(E:zem):bU:=gY Tabs.nil []
def zF2:dK:=bY aH 137 [] {}
def zon(E:zem):ak×Int->ae Bool:=ae.ty (aF aH E.N (zF1 E) zF2 137)
section
variable(E:zem){A:Type}(k:Bool->Option A)
def Me(E:zem)(n:Nat)(a0:ak)(a1 v5:Int){A:Type}(k:Bool->Option A):Option A :=
  iP aH (zF1 E) E.N zF2 137 [1,0,1,0] [.n n] (iO k)
    ⟨[(1,.int a1),(2,.cl (.ptr 2 0)),(5,.int v5)],[(2,eB 124 a0)],[]⟩
theorem e137(a0:ak)(a1:Int):(zon E (a0,a1)).T k =
  Me E E.N a0 a1 0 k:=dV
theorem zi5(n0:Nat)(a0:ak)(a1 v5:Int):Me E (n0+1) a0 a1 v5 k =
  cond (decide (v5<(a0.Dead.len:Int)))
  (aV (decide (0<=v5/\v5<(a0.Dead.len:Int))) (cond (a0.Dead.get v5.toNat==a1)
 (k true)
 (Me E n0 a0 a1 (aO (v5+1)) k)))
  (k false):=krY
end
theorem zRm [aJ](E:zem):Ok aH 137 (ae.un (zon E)):=dW ax.nil
structure zen where
  N:Nat
  uQ:Int×Int×Int->ae Bool
  OL:ak×Int->ae Bool
abbrev zF3(E:zen):bU:=gY ((Tabs.nil.addF 73 (ae.un E.uQ)).addF 137 (ae.un E.OL)) []
def zF4:dK:=bY aH 143 [] {}
def zoo(E:zen):au×bF->ae Bool:=ae.ty (aF aH E.N (zF3 E) zF4 143)
section
variable(E:zen){A:Type}(k:Bool->Option A)
def Ti(E:zen)(n:Nat)(a0:au)(a1:bF)(v6:Int){A:Type}(k:Bool->Option A):Option A :=
  iP aH (zF3 E) E.N zF4 143 [1,1,1,1,0,1,0] [.n n] (iO k)
    ⟨[(3,.cl (.ptr 3 0)),(5,.cl (.ptr 5 0)),(6,.int v6)],[(3,eB 92 a1),(5,eB 124 (a0.aj.get a1.ak.toNat))],[]⟩
theorem e143(a0:au)(a1:bF):(zoo E (a0,a1)).T k =
  (E.uQ (a1.ak,0,(aO ((a0.aj.len:Int)-1)))).T λr1 =>
  cond (!r1)
  (k false)
  (aV (decide (0<=a1.ak/\a1.ak<(a0.aj.len:Int))) ((E.uQ (a1.Channel,0,(aO ((a0.aj.get a1.ak.toNat).bM-1)))).T λr2 =>
 cond (!r2)
 (k false)
 ((E.uQ (a1.jW,1,(aO ((a0.aj.get a1.ak.toNat).bM-a1.Channel)))).T λr3 =>
 cond (!r3)
 (k false)
 ((E.uQ (a1.BP,(a0.aj.get a1.ak.toNat).Least,1000000)).T λr4 =>
 cond (!r4)
 (k false)
 ((E.uQ (a1.Time,(-1000000000),1000000000)).T λr5 =>
 cond (!r5)
 (k false)
 (Ti E E.N a0 a1 0 k)))))):=dV
theorem zi6(n0:Nat)(a0:au)(a1:bF)(v6:Int):Ti E (n0+1) a0 a1 v6 k =
  cond (decide (v6<a1.jW))
  ((E.OL ((a0.aj.get a1.ak.toNat),(aO (a1.Channel+v6)))).T λr1 =>
 cond r1
 (k false)
 (Ti E n0 a0 a1 (aO (v6+1)) k))
  (cond ((a0.aj.get a1.ak.toNat).Kind==2)
 (cond (a1.jW==1)
 ((E.uQ (a1.aT,0,1000000)).T λr2 =>
 k r2)
 (k false))
 (cond ((a0.aj.get a1.ak.toNat).Kind==3)
 (cond (a1.aT==0)
 (k (a1.Time==0))
 (k false))
 (k (a1.aT==0)))):=krY
end
theorem zRn [aJ](E:zen)(NQ:Ok aH 73 (ae.un E.uQ))(zan:Ok aH 137 (ae.un E.OL)):Ok aH 143 (ae.un (zoo E)):=dW ((ax.nil.addF NQ).addF zan)
structure zop where
  N:Nat
  uQ:Int×Int×Int->ae Bool
def zoq(E:zop):Int->ae Bool:=iK E.N (Tabs.nil.addF 73 (ae.un E.uQ)) 174
theorem zRo(E:zop){A:Type}(k:Bool→Option A)(a0:Int):(zoq E (a0)).T k =
  (E.uQ (a0,(-1000000),1000000)).T λr1 =>
  k r1:=dV
theorem zRp [aJ](E:zop)(NQ:Ok aH 73 (ae.un E.uQ)):Ok aH 174 (ae.un (zoq E)):=dW (ax.nil.addF NQ)
structure zeo where
  N:Nat
  uQ:Int×Int×Int->ae Bool
abbrev zF5(E:zeo):bU:=gY (Tabs.nil.addF 73 (ae.un E.uQ)) []
def zF6:dK:=bY aH 175 [] {}
def zor(E:zeo):(Sl aT)×Int->ae Bool:=ae.ty (aF aH E.N (zF5 E) zF6 175)
section
variable(E:zeo){A:Type}(k:Bool->Option A)
def Gn(E:zeo)(n:Nat)(a0:Sl aT)(a1 v5:Int){A:Type}(k:Bool->Option A):Option A :=
  iP aH (zF5 E) E.N zF6 175 [1,0,1,0] [.n n] (iO k)
    ⟨[(0,eP a0),(1,.int a1),(5,.int v5)],[],[]⟩
theorem zRq(a0:Sl aT)(a1:Int):(zor E (a0,a1)).T k =
  Gn E E.N a0 a1 0 k:=dV
theorem zi7(n0:Nat)(a0:Sl aT)(a1 v5:Int):Gn E (n0+1) a0 a1 v5 k =
  cond (decide (v5<(a0.len:Int)))
  (aV (decide (0<=v5/\v5<(a0.len:Int))) ((E.uQ ((a0.get v5.toNat).Time,0,1000000)).T λr1 =>
 cond (!r1)
 (k false)
 (cond (decide ((a0.get v5.toNat).dQ.Low<0))
 (k false)
 (cond (decide ((a0.get v5.toNat).dQ.Low>(a0.get v5.toNat).dQ.High))
 (k false)
 (cond (decide ((a0.get v5.toNat).dQ.High>(aO (a1.tdiv 2))))
 (k false)
 (cond (decide (v5>0))
 (aV (decide (0<=(aO (v5-1))/\(aO (v5-1))<(a0.len:Int))) (cond (decide ((a0.get v5.toNat).Time<=(a0.get (aO (v5-1)).toNat).Time))
 (k false)
 (aV (decide (0<=(aO (v5-1))/\(aO (v5-1))<(a0.len:Int))) (cond (decide ((a0.get v5.toNat).dQ.Low<(a0.get (aO (v5-1)).toNat).dQ.Low))
 (k false)
 (aV (decide (0<=(aO (v5-1))/\(aO (v5-1))<(a0.len:Int))) (cond (decide ((a0.get v5.toNat).dQ.High<(a0.get (aO (v5-1)).toNat).dQ.High))
 (k false)
 (Gn E n0 a0 a1 (aO (v5+1)) k)))))))
 (Gn E n0 a0 a1 (aO (v5+1)) k)))))))
  ((E.uQ ((a0.len:Int),1,50)).T λr2 =>
 k r2):=krY
end
theorem zRr [aJ](E:zeo)(NQ:Ok aH 73 (ae.un E.uQ)):Ok aH 175 (ae.un (zor E)):=dW (ax.nil.addF NQ)
structure E78 where
  N:Nat
  c60:au×bJ->ae Int
  c138:au×bF->ae Int
  c139:au×bF->ae ((Sl ay)×Int)
abbrev G78(E:E78):bU:=gY (((Tabs.nil.addF 60 (ae.un E.c60)).addF 138 (ae.un E.c138)).addF 139 (ae.un E.c139)) []
def A78:dK:=bY aH 78 [] {ks:=[(1,7,⟨[],[],[(24,2,55,96)],[],[],[],[]⟩)],cut:=[14]}
def F78(E:E78):au×bJ×(Sl bF)->ae (Int ⊕ ((Pt aU)×Int)):=ae.tyA (aF aH E.N (G78 E) A78 78)
section
variable(E:E78){A:Type}(k:(Int ⊕ ((Pt aU)×Int))->Option A)
def WH(E:E78)(n:Nat)(a0:au)(a1:bJ)(a2:Sl bF)(UK:Int)(w55:Sl (Sl ay)){A:Type}(k:(Int ⊕ ((Pt aU)×Int))->Option A):Option A :=
  iP aH (G78 E) E.N A78 78 [1,1,1,1,0,1,0] [.n n] (ziw k)
    ⟨[(3,.cl (.ptr 3 0)),(8,.cl (.ptr 24 0)),(25,eP a2),(26,.int (a2.len:Int)),(27,.int UK)],[(3,eB 24 a0),(24,.box 208 [.p (.sl a0.aj.len 15 (λi=>bH.enc (a0.aj.get i))),.p (.sl a2.len 6 (λi=>bH.enc (a2.get i))),.vec 55,.p (.int .i64 a1.uS),.p (.int .i64 a1.zF)]),(55,eV 96 1 24 w55)],[]⟩
def WI(E:E78)(n0:Nat)(a0:au)(a1:bJ)(a2:Sl bF)(v11:Sl ay)(UK:Int)(w55:Sl (Sl ay)){A:Type}(k:(Int ⊕ ((Pt aU)×Int))->Option A):Option A :=
  iP aH (G78 E) E.N A78 78 [1,1,1,1,0,1,0,0,1,1,0,0,1,1,1,1] [.n n0] (ziw k)
    ⟨[(3,.cl (.ptr 3 0)),(8,.cl (.ptr 24 0)),(11,eP v11),(25,eP a2),(26,.int (a2.len:Int)),(27,.int UK)],[(3,eB 24 a0),(24,.box 208 [.p (.sl a0.aj.len 15 (λi=>bH.enc (a0.aj.get i))),.p (.sl a2.len 6 (λi=>bH.enc (a2.get i))),.vec 55,.p (.int .i64 a1.uS),.p (.int .i64 a1.zF)]),(55,eV 96 1 24 w55)],[]⟩
theorem e78(a0:au)(a1:bJ)(a2:Sl bF):(F78 E (a0,a1,a2)).T k =
  cond (decide ((a2.len:Int)>24))
  (k (.inl 3))
  ((E.c60 (a0,a1)).T λr1 =>
 cond (r1 != 0)
 (k (.inl 2))
 (WH E E.N a0 a1 a2 0 (⟨0,(λ_=>(⟨0,(λ_=>(⟨0,0,0⟩:ay))⟩:(Sl ay)))⟩:(Sl (Sl ay))) k)):=ztN.trans krY
theorem zt2(n0:Nat)(a0:au)(a1:bJ)(a2:Sl bF)(UK:Int)(w55:Sl (Sl ay)):WH E (n0+1) a0 a1 a2 UK w55 k =
  cond (decide (UK<(a2.len:Int)))
  (aV (decide (0<=UK/\UK<(a2.len:Int))) ((E.c138 (a0,(a2.get UK.toNat))).T λr1 =>
 cond (r1 != 0)
 (k (.inl 2))
 ((E.c139 (a0,(a2.get UK.toNat))).T λr2 =>
 cond (r2.2 != 0)
 (cond (r2.2 != 5)
 (k (.inl r2.2))
 (WI E n0 a0 a1 a2 r2.1 UK w55 k))
 (WI E n0 a0 a1 a2 r2.1 UK w55 k))))
  (k (.inr ((⟨(⟨a0,a2,w55,a1⟩:aU)⟩:(Pt aU)),0))):=krY
theorem zF7(n0:Nat)(a0:au)(a1:bJ)(a2:Sl bF)(v11:Sl ay)(UK:Int)(w55:Sl (Sl ay)):WI E n0 a0 a1 a2 v11 UK w55 k =
  aV (room (w55.len+1) 24) (WH E n0 a0 a1 a2 (aO (UK+1)) (⟨(w55.len+1),(jL w55.len w55.get (λ_=>v11))⟩:(Sl (Sl ay))) k):=krY
end
theorem o78 [aJ](E:E78)(h60:Ok aH 60 (ae.un E.c60))(zxi:Ok aH 138 (ae.un E.c138))(zxj:Ok aH 139 (ae.un E.c139)):Ok aH 78 (ae.unA (F78 E)):=zix (wz (((ax.nil.addF h60).addF zxi).addF zxj) (dL krY))
structure E79 where
  N:Nat
  Pi:Int×Int×Int->ae Bool
  Y6:(Pt aU)×Int->ae Int
  c96:Int->ae Bool
abbrev G79(E:E79):bU:=gY (((Tabs.nil.addF 123 (ae.un E.Pi)).addF 140 (ae.un E.Y6)).addF 96 (ae.un E.c96)) [8]
def A79:dK:=bY aH 79 [] {cut:=[7]}
def F79(E:E79):(Pt aU)×af->ae Bool:=ae.ty (aF aH E.N (G79 E) A79 79)
section
variable(E:E79){A:Type}(k:Bool->Option A)
def zDm(E:E79)(n:Nat)(a0:Pt aU)(a1:af)(v12:Int)(mn8:Nat)(mf8:List Int->Option (List Int)){A:Type}(k:Bool->Option A):Option A :=
  iP aH (G79 E) E.N A79 79 [1,1,0,1,0] [.n n] (iO k)
    ⟨[(0,eP a0),(3,.cl (.ptr 3 0)),(5,.cl (.mo 8)),(10,eP a1.Hits),(11,.int (a1.Hits.len:Int)),(12,.int v12)],[(3,eB 43 a1),(8,.mo 3 4 (.one,1,false,[none]) mn8 mf8)],[]⟩
def zJ3(E:E79)(n0:Nat)(a0:Pt aU)(a1:af)(v7 v12:Int)(mn8:Nat)(mf8:List Int->Option (List Int)){A:Type}(k:Bool->Option A):Option A :=
  iP aH (G79 E) E.N A79 79 [1,1,0,1,0,0,1,1,0,0,1,1] [.n n0] (iO k)
    ⟨[(0,eP a0),(3,.cl (.ptr 3 0)),(5,.cl (.mo 8)),(7,.int v7),(10,eP a1.Hits),(11,.int (a1.Hits.len:Int)),(12,.int v12)],[(3,eB 43 a1),(8,.mo 3 4 (.one,1,false,[none]) mn8 mf8)],[]⟩
theorem e79(a0:Pt aU)(a1:af):(F79 E (a0,a1)).T k =
  zDm E E.N a0 a1 0 0 (λ_=>none) k:=dV
theorem z1i(n0:Nat)(a0:Pt aU)(a1:af)(v12:Int)(mn8:Nat)(mf8:List Int→Option (List Int)):zDm E (n0+1) a0 a1 v12 mn8 mf8 k =
  cond (decide (v12<(a1.Hits.len:Int)))
  (aV (decide (0<=v12/\v12<(a1.Hits.len:Int))) ((E.Pi (a1.Hits.get v12.toNat,0,(aO ((a0.v.hits.len:Int)-1)))).T λr1 =>
 cond (!r1)
 (k false)
 (cond (decide (v12>0))
 (aV (decide (0<=(aO (v12-1))/\(aO (v12-1))<(a1.Hits.len:Int))) (cond (decide (a1.Hits.get v12.toNat<=a1.Hits.get (aO (v12-1)).toNat))
 (k false)
 ((E.Y6 (a0,a1.Hits.get v12.toNat)).T λr2 =>
 cond (r2 != a1.View)
 (k false)
 (aV (decide (0<=a1.Hits.get v12.toNat/\a1.Hits.get v12.toNat<(a0.v.hits.len:Int))) (cond (EN (mf8 [(a0.v.hits.get (a1.Hits.get v12.toNat).toNat).ak]) 0 != 0)
 (k false)
 (cond (decide (v12>=(a1.bz.len:Int)))
 (k false)
 (aV (decide (0<=v12/\v12<(a1.bz.len:Int))) (aV (decide (0<=a1.Hits.get v12.toNat/\a1.Hits.get v12.toNat<(a0.v.kW.len:Int))) ((E.Pi (a1.bz.get v12.toNat,0,(aO (((a0.v.kW.get (a1.Hits.get v12.toNat).toNat).len:Int)-1)))).T λr3 =>
 cond (!r3)
 (k false)
 (zJ3 E n0 a0 a1 (a1.Hits.get v12.toNat) v12 mn8 mf8 k))))))))))
 ((E.Y6 (a0,a1.Hits.get v12.toNat)).T λr4 =>
 cond (r4 != a1.View)
 (k false)
 (aV (decide (0<=a1.Hits.get v12.toNat/\a1.Hits.get v12.toNat<(a0.v.hits.len:Int))) (cond (EN (mf8 [(a0.v.hits.get (a1.Hits.get v12.toNat).toNat).ak]) 0 != 0)
 (k false)
 (cond (decide (v12>=(a1.bz.len:Int)))
 (k false)
 (aV (decide (0<=v12/\v12<(a1.bz.len:Int))) (aV (decide (0<=a1.Hits.get v12.toNat/\a1.Hits.get v12.toNat<(a0.v.kW.len:Int))) ((E.Pi (a1.bz.get v12.toNat,0,(aO (((a0.v.kW.get (a1.Hits.get v12.toNat).toNat).len:Int)-1)))).T λr5 =>
 cond (!r5)
 (k false)
 (zJ3 E n0 a0 a1 (a1.Hits.get v12.toNat) v12 mn8 mf8 k)))))))))))
  ((E.c96 a1.View).T λr6 =>
 cond r6
 (cond (decide ((a1.Hits.len:Int)>0))
 (k ((a1.bz.len:Int)==(a1.Hits.len:Int)))
 (k false))
 (k false)):=krY
theorem z8Y(n0:Nat)(a0:Pt aU)(a1:af)(v7 v12:Int)(mn8:Nat)(mf8:List Int→Option (List Int)):zJ3 E n0 a0 a1 v7 v12 mn8 mf8 k =
  aV (decide (0<=v7/\v7<(a0.v.hits.len:Int))) (zDm E n0 a0 a1 (aO (v12+1)) (addN (mf8 [(a0.v.hits.get v7.toNat).ak]) mn8) (IG [(a0.v.hits.get v7.toNat).ak] [1] mf8) k):=krY
end
theorem o79 [aJ](E:E79)(zdf:Ok aH 123 (ae.un E.Pi))(zmA:Ok aH 140 (ae.un E.Y6))(h96:Ok aH 96 (ae.un E.c96)):Ok aH 79 (ae.un (F79 E)):=dW (((ax.nil.addF zdf).addF zmA).addF h96)
structure E96 where
  N:Nat
def F96(E:E96):Int->ae Bool:=iK E.N Tabs.nil 96
theorem e96(E:E96){A:Type}(k:Bool→Option A)(a0:Int):(F96 E (a0)).T k =
  cond (a0==1)
  (k true)
  (k (a0==2)):=dV
theorem o96 [aJ](E:E96):Ok aH 96 (ae.un (F96 E)):=dW ax.nil
structure zep where
  N:Nat
abbrev zF8(E:zep):bU:=gY Tabs.nil []
def zF9:dK:=bY aH 105 [] {ks:=[(1,3,⟨[],[(5,32,101)],[],[],[],[],[]⟩)]}
def zos(E:zep):(Pt aU)×af->ae ((Sl ay)):=ae.ty (aF aH E.N (zF8 E) zF9 105)
section
variable(E:zep){A:Type}(k:(Sl ay)->Option A)
def Tj(E:zep)(n:Nat)(a0:Pt aU)(a1:af)(v11:Int)(w32:Sl ay){A:Type}(k:(Sl ay)->Option A):Option A :=
  iP aH (zF8 E) E.N zF9 105 [1,1,0,1,0] [.n n] (iO k)
    ⟨[(0,eP a0),(3,.cl (.ptr 3 0)),(5,.cl (.vec 32)),(9,eP a1.Hits),(10,.int (a1.Hits.len:Int)),(11,.int v11)],[(3,eB 43 a1),(32,eV 101 3 24 w32)],[]⟩
theorem zRu(a0:Pt aU)(a1:af):(zos E (a0,a1)).T k =
  Tj E E.N a0 a1 0 (⟨0,(λ_=>(⟨0,0,0⟩:ay))⟩:(Sl ay)) k:=dV
theorem zi8(n0:Nat)(a0:Pt aU)(a1:af)(v11:Int)(w32:Sl ay):Tj E (n0+1) a0 a1 v11 w32 k =
  cond (decide (v11<(a1.Hits.len:Int)))
  (aV (decide (0<=v11/\v11<(a1.Hits.len:Int))) (aV (decide (0<=a1.Hits.get v11.toNat/\a1.Hits.get v11.toNat<(a0.v.kW.len:Int))) (aV (decide (0<=v11/\v11<(a1.bz.len:Int))) (aV (decide (0<=a1.bz.get v11.toNat/\a1.bz.get v11.toNat<((a0.v.kW.get (a1.Hits.get v11.toNat).toNat).len:Int))) (aV (room (w32.len+1) 24) (Tj E n0 a0 a1 (aO (v11+1)) (⟨(w32.len+1),(jL w32.len w32.get (λ_=>((a0.v.kW.get (a1.Hits.get v11.toNat).toNat).get (a1.bz.get v11.toNat).toNat)))⟩:(Sl ay)) k))))))
  (k w32):=krY
end
theorem zRv [aJ](E:zep):Ok aH 105 (ae.un (zos E)):=dW ax.nil
structure WJ where
  N:Nat
  Y6:(Pt aU)×Int->ae Int
abbrev zxk(E:WJ):bU:=gY (Tabs.nil.addF 140 (ae.un E.Y6)) []
def zxl:dK:=bY aH 173 [0] {yl:=[7]}
def zGa(E:WJ)(c:List PA):YO:=aI aH (zxk E) E.N zxl 173 c
def zxm(E:WJ):(Pt Int)×(Pt (Pt aU))×(Pt Int)->ae (List (Int×Int)):=ae.tyI λc=>.opt (zGa E c)
section
variable(E:WJ)
def MB(E:WJ)(n:Nat)(a2:(Pt (Pt aU)))(a3:Pt Int)(v5:Int):YO :=
  ptY aH (zxk E) E.N zxl 173 [1,0] [n]
    ⟨[(0,.cl (.vec 4095)),(2,eP a2),(3,eP a3),(5,.int v5)],[(4095,.gone)],[]⟩
def MC(E:WJ)(n0 n:Nat)(a2:(Pt (Pt aU)))(a3:Pt Int)(v5 v29 v30:Int):YO :=
  ptY aH (zxk E) E.N zxl 173 [1,0,0,1,0,0,1,1,0] [n0,n]
    ⟨[(0,.cl (.vec 4095)),(2,eP a2),(3,eP a3),(5,.int v5),(29,.int v29),(30,.int v30)],[(4095,.gone)],[]⟩
theorem zRw(a1:Pt Int)(a2:(Pt (Pt aU)))(a3:Pt Int):zGa E (dG.enc ((a1,a2,a3):(Pt Int)×(Pt (Pt aU))×(Pt Int))) =
  MB E E.N a2 a3 a1.v:=krY
theorem zi9(n0:Nat)(a2:(Pt (Pt aU)))(a3:Pt Int)(v5:Int):MB E (n0+1) a2 a3 v5 =
  cond (decide (v5<(a2.v.v.hits.len:Int)))
  ((E.Y6 (a2.v,v5)).T λr1 =>
 cond (r1 != a3.v)
 (MB E n0 a2 a3 (aO (v5+1)))
 (aV (decide (0≤v5∧v5<(a2.v.v.kW.len:Int))) (MC E n0 E.N a2 a3 v5 ((a2.v.v.kW.get v5.toNat).len:Int) 0)))
  (some []):=krY
theorem zja(n0 n1:Nat)(a2:(Pt (Pt aU)))(a3:Pt Int)(v5 v29 v30:Int):MC E n0 (n1+1) a2 a3 v5 v29 v30 =
  cond (decide (v30<v29))
  (yT (dG.enc ((v5,v30):Int×Int)) (some [])
 (MC E n0 n1 a2 a3 v5 v29 (aO (v30+1))))
  (MB E n0 a2 a3 (aO (v5+1))):=krY
end
theorem zRx(E:WJ)(zmA:Ok aH 140 (ae.un E.Y6)):Ac aH 173 (ae.unI (zxm E)):=SQ (LY (ax.nil.addF zmA) (dL krY))
structure zot where
  N:Nat
def zou(E:zot):(Pt aU)×Int->ae Int:=iK E.N Tabs.nil 140
theorem zRy(E:zot){A:Type}(k:Int→Option A)(a0:Pt aU)(a1:Int):(zou E (a0,a1)).T k =
  aV (decide (0<=a1/\a1<(a0.v.hits.len:Int))) (aV (decide (0<=(a0.v.hits.get a1.toNat).ak/\(a0.v.hits.get a1.toNat).ak<(a0.v.au.aj.len:Int))) (k (a0.v.au.aj.get (a0.v.hits.get a1.toNat).ak.toNat).View)):=dV
theorem zRz [aJ](E:zot):Ok aH 140 (ae.un (zou E)):=dW ax.nil
structure zov where
  N:Nat
  c160:au->ae Bool
def zow(E:zov):au->ae Int:=iK E.N (Tabs.nil.addF 160 (ae.un E.c160)) 122
theorem zRA(E:zov){A:Type}(k:Int→Option A)(a0:au):(zow E (a0)).T k =
  (E.c160 a0).T λr1 =>
  cond (!r1)
  (k 2)
  (k 0):=dV
theorem zRB [aJ](E:zov)(BF:Ok aH 160 (ae.un E.c160)):Ok aH 122 (ae.un (zow E)):=dW (ax.nil.addF BF)
structure zox where
  N:Nat
def zoy(E:zox):Int×Int×Int->ae Bool:=iK E.N Tabs.nil 123
theorem zRC(E:zox){A:Type}(k:Bool→Option A)(a0 a1 a2:Int):(zoy E (a0,a1,a2)).T k =
  cond (decide (a0>=a1))
  (k (decide (a0<=a2)))
  (k false):=dV
theorem zRD [aJ](E:zox):Ok aH 123 (ae.un (zoy E)):=dW ax.nil
structure zoz where
  N:Nat
  Uj:au×bF->ae Bool
def zoA(E:zoz):au×bF->ae Int:=iK E.N (Tabs.nil.addF 188 (ae.un E.Uj)) 138
theorem e138(E:zoz){A:Type}(k:Int→Option A)(a0:au)(a1:bF):(zoA E (a0,a1)).T k =
  (E.Uj (a0,a1)).T λr1 =>
  cond (!r1)
  (k 2)
  (k 0):=dV
theorem zRE [aJ](E:zoz)(zao:Ok aH 188 (ae.un E.Uj)):Ok aH 138 (ae.un (zoA E)):=dW (ax.nil.addF zao)
structure zoB where
  N:Nat
  Uj:au×bF->ae Bool
  uN:au×bF->ae (placed×Bool)
  zsu:placed×bF->ae ((Sl ay))
def zoC(E:zoB):au×bF->ae ((Sl ay)×Int):=iK E.N (((Tabs.nil.addF 188 (ae.un E.Uj)).addF 112 (ae.un E.uN)).addF 189 (ae.un E.zsu)) 139
theorem zRF(E:zoB){A:Type}(k:((Sl ay)×Int)→Option A)(a0:au)(a1:bF):(zoC E (a0,a1)).T k =
  (E.Uj (a0,a1)).T λr1 =>
  cond (!r1)
  (k ((⟨0,λ_=>default⟩:(Sl ay)),2))
  ((E.uN (a0,a1)).T λr2 =>
 (E.zsu (r2.1,a1)).T λr3 =>
 cond ((r3.len:Int)==0)
 (k ((⟨0,λ_=>default⟩:(Sl ay)),5))
 (k (r3,0))):=dV
theorem zRG [aJ](E:zoB)(zao:Ok aH 188 (ae.un E.Uj))(Ap:Ok aH 112 (ae.un E.uN))(zxn:Ok aH 189 (ae.un E.zsu)):Ok aH 139 (ae.un (zoC E)):=dW (((ax.nil.addF zao).addF Ap).addF zxn)
structure zeq where
  N:Nat
  iw:Int×Int×Int->ae Bool
abbrev zGb(E:zeq):bU:=gY (Tabs.nil.addF 161 (ae.un E.iw)) []
def zGc:dK:=bY aH 112 [] {}
def zoD(E:zeq):au×bF->ae (placed×Bool):=ae.ty (aF aH E.N (zGb E) zGc 112)
section
variable(E:zeq){A:Type}(k:(placed×Bool)->Option A)
def Tm(E:zeq)(n:Nat)(a0:au)(a1:bF)(v67:Int){A:Type}(k:(placed×Bool)->Option A):Option A :=
  iP aH (zGb E) E.N zGc 112 [1,1,1,1,0,1,0] [.n n] (iO k)
    ⟨[(3,.cl (.ptr 3 0)),(4,.cl (.ptr 4 0)),(6,.cl (.ptr 6 0)),(65,eP (a0.aj.get a1.ak.toNat).Dead),(66,.int ((a0.aj.get a1.ak.toNat).Dead.len:Int)),(67,.int v67)],[(3,eB 92 a1),(4,.box 185 [.p (.int .i64 0),.p (.int .i64 0),.p (.int .i64 0),.p (.int .i64 0),.p (.int .i64 0),.p (.int .i64 0),.p (.int .i64 0),.p (.int .i64 0),.p (.int .i64 0),.p (.int .i64 0),.p (.int .i64 0),.p (.int .i64 0),.p (.int .i64 0),.p (.nils),.p (.nils),.p (.int .i64 0)]),(6,.box 185 [.p (.int .i64 (a0.aj.get a1.ak.toNat).Kind),.p (.int .i64 (a0.aj.get a1.ak.toNat).View),.p (.int .i64 (a0.aj.get a1.ak.toNat).Z),.p (.int .i64 (a0.aj.get a1.ak.toNat).First),.p (.int .i64 (a0.aj.get a1.ak.toNat).aS),.p (.int .i64 (a0.aj.get a1.ak.toNat).bM),.p (.int .i64 (a0.aj.get a1.ak.toNat).dN),.p (.int .i64 (a0.aj.get a1.ak.toNat).bC.Low),.p (.int .i64 (a0.aj.get a1.ak.toNat).bC.High),.p (.int .i64 (a0.aj.get a1.ak.toNat).Clock.Low),.p (.int .i64 (a0.aj.get a1.ak.toNat).Clock.High),.p (.int .i64 (a0.aj.get a1.ak.toNat).dP),.p (.int .i64 (a0.aj.get a1.ak.toNat).Least),.p (.sl (a0.aj.get a1.ak.toNat).aT.len 3 (λi=>bH.enc ((a0.aj.get a1.ak.toNat).aT.get i))),.p (.sl (a0.aj.get a1.ak.toNat).Dead.len 1 (λi=>bH.enc ((a0.aj.get a1.ak.toNat).Dead.get i))),.p (.int .i64 a1.ak)])],[]⟩
theorem zRH(a0:au)(a1:bF):(zoD E (a0,a1)).T k =
  (E.iw (a1.ak,0,(aO ((a0.aj.len:Int)-1)))).T λr1 =>
  cond (!r1)
  (k ((⟨(⟨0,0,0,0,0,0,0,(⟨0,0⟩:bZ),(⟨0,0⟩:bZ),0,0,(⟨0,λ_=>default⟩:(Sl aT)),(⟨0,λ_=>default⟩:(Sl Int))⟩:ak),0⟩:placed),false))
  (aV (decide (0<=a1.ak/\a1.ak<(a0.aj.len:Int))) ((E.iw (a1.Channel,0,(aO ((a0.aj.get a1.ak.toNat).bM-1)))).T λr2 =>
 cond (!r2)
 (k ((⟨(a0.aj.get a1.ak.toNat),a1.ak⟩:placed),false))
 ((E.iw (a1.jW,1,(aO ((a0.aj.get a1.ak.toNat).bM-a1.Channel)))).T λr3 =>
 cond (!r3)
 (k ((⟨(a0.aj.get a1.ak.toNat),a1.ak⟩:placed),false))
 ((E.iw (a1.BP,(a0.aj.get a1.ak.toNat).Least,1000000)).T λr4 =>
 cond (!r4)
 (k ((⟨(a0.aj.get a1.ak.toNat),a1.ak⟩:placed),false))
 ((E.iw (a1.Time,(-1000000000),1000000000)).T λr5 =>
 cond (!r5)
 (k ((⟨(a0.aj.get a1.ak.toNat),a1.ak⟩:placed),false))
 (Tm E E.N a0 a1 0 k)))))):=dV
theorem zjb(n0:Nat)(a0:au)(a1:bF)(v67:Int):Tm E (n0+1) a0 a1 v67 k =
  cond (decide (v67<((a0.aj.get a1.ak.toNat).Dead.len:Int)))
  (aV (decide (0<=v67/\v67<((a0.aj.get a1.ak.toNat).Dead.len:Int))) ((E.iw ((a0.aj.get a1.ak.toNat).Dead.get v67.toNat,a1.Channel,(aO ((aO (a1.Channel+a1.jW))-1)))).T λr1 =>
 cond r1
 (k ((⟨(a0.aj.get a1.ak.toNat),a1.ak⟩:placed),false))
 (Tm E n0 a0 a1 (aO (v67+1)) k)))
  (cond ((a0.aj.get a1.ak.toNat).Kind==2)
 (cond (a1.jW==1)
 ((E.iw (a1.aT,0,1000000)).T λr2 =>
 k ((⟨(a0.aj.get a1.ak.toNat),a1.ak⟩:placed),r2))
 (k ((⟨(a0.aj.get a1.ak.toNat),a1.ak⟩:placed),false)))
 (cond (a1.aT==0)
 (cond ((a0.aj.get a1.ak.toNat).Kind != 3)
 (k ((⟨(a0.aj.get a1.ak.toNat),a1.ak⟩:placed),true))
 (k ((⟨(a0.aj.get a1.ak.toNat),a1.ak⟩:placed),(a1.Time==0))))
 (k ((⟨(a0.aj.get a1.ak.toNat),a1.ak⟩:placed),false)))):=krY
end
theorem zRI [aJ](E:zeq)(lT:Ok aH 161 (ae.un E.iw)):Ok aH 112 (ae.un (zoD E)):=dW (ax.nil.addF lT)
structure zoE where
  N:Nat
def zoF(E:zoE):Int×Int×Int->ae Bool:=iK E.N Tabs.nil 161
theorem e161(E:zoE){A:Type}(k:Bool→Option A)(a0 a1 a2:Int):(zoF E (a0,a1,a2)).T k =
  cond (decide (a0>=a1))
  (k (decide (a0<=a2)))
  (k false):=dV
theorem zRJ [aJ](E:zoE):Ok aH 161 (ae.un (zoF E)):=dW ax.nil
structure zer where
  N:Nat
  c201:placed->ae Bool
  iw:Int×Int×Int->ae Bool
abbrev zGd(E:zer):bU:=gY ((Tabs.nil.addF 201 (ae.un E.c201)).addF 161 (ae.un E.iw)) []
def zGe:dK:=bY aH 160 [] {}
def zoG(E:zer):au->ae Bool:=ae.ty (aF aH E.N (zGd E) zGe 160)
section
variable(E:zer){A:Type}(k:Bool->Option A)
def Gp(E:zer)(n:Nat)(a0:au)(v9:Int){A:Type}(k:Bool->Option A):Option A :=
  iP aH (zGd E) E.N zGe 160 [1,0,1,0] [.n n] (iO k)
    ⟨[(1,.cl (.ptr 1 0)),(7,eP a0.aj),(8,.int (a0.aj.len:Int)),(9,.int v9)],[(1,eB 24 a0)],[]⟩
theorem e160(a0:au):(zoG E (a0)).T k =
  Gp E E.N a0 0 k:=dV
theorem zjc(n0:Nat)(a0:au)(v9:Int):Gp E (n0+1) a0 v9 k =
  cond (decide (v9<(a0.aj.len:Int)))
  (aV (decide (0<=v9/\v9<(a0.aj.len:Int))) ((E.c201 (⟨(a0.aj.get v9.toNat),v9⟩:placed)).T λr1 =>
 cond (!r1)
 (k false)
 (cond (decide (v9>0))
 (aV (decide (0<=(aO (v9-1))/\(aO (v9-1))<(a0.aj.len:Int))) (cond (decide ((a0.aj.get v9.toNat).Z<=(a0.aj.get (aO (v9-1)).toNat).Z))
 (k false)
 (Gp E n0 a0 (aO (v9+1)) k)))
 (Gp E n0 a0 (aO (v9+1)) k))))
  ((E.iw ((a0.aj.len:Int),1,16)).T λr2 =>
 k r2):=krY
end
theorem zRK [aJ](E:zer)(zxo:Ok aH 201 (ae.un E.c201))(lT:Ok aH 161 (ae.un E.iw)):Ok aH 160 (ae.un (zoG E)):=dW ((ax.nil.addF zxo).addF lT)
structure zoH where
  N:Nat
  iw:Int×Int×Int->ae Bool
def zoI(E:zoH):bZ×Int->ae Bool:=iK E.N (Tabs.nil.addF 161 (ae.un E.iw)) 164
theorem zRL(E:zoH){A:Type}(k:Bool→Option A)(a0:bZ)(a1:Int):(zoI E (a0,a1)).T k =
  (E.iw (a0.Low,(aO (0-a1)),a0.High)).T λr1 =>
  cond r1
  (k (decide (a0.High<=a1)))
  (k false):=dV
theorem zRM [aJ](E:zoH)(lT:Ok aH 161 (ae.un E.iw)):Ok aH 164 (ae.un (zoI E)):=dW (ax.nil.addF lT)
structure zaq where
  N:Nat
  iw:Int×Int×Int->ae Bool
  zfI:placed->ae Bool
  c232:placed->ae Bool
  c233:placed->ae Bool
  c234:placed->ae Bool
abbrev zxp(E:zaq):bU:=gY (((((Tabs.nil.addF 161 (ae.un E.iw)).addF 235 (ae.un E.zfI)).addF 232 (ae.un E.c232)).addF 233 (ae.un E.c233)).addF 234 (ae.un E.c234)) []
def zxq:dK:=bY aH 201 [] {}
def zoJ(E:zaq):placed->ae Bool:=ae.ty (aF aH E.N (zxp E) zxq 201)
abbrev knd(n:Int)(a:placed):placed:={a with ak:={a.ak with Kind:=n}}
section
variable(E:zaq){A:Type}(k:Bool->Option A)
def MF(E:zaq)(a0:placed)(Au:Bool){A:Type}(k:Bool->Option A):Option A :=
  iP aH (zxp E) E.N zxq 201 [1,1,0,0] [.o 4] (iO k)
    ⟨[(16,.bool Au),(15,.int a0.ak.Kind),(14,.cl (.ptr 1 0)),(13,.cl (.ptr 1 0)),(1,.cl (.ptr 1 0)),(3,.cl (.ptr 3 0))],[(1,eB 185 a0),(3,.box 301 [.p (.nilf),.p (.fna 232 (bH.enc a0)),.p (.fna 233 (bH.enc a0)),.p (.fna 234 (bH.enc a0))])],[(2,1,0)]⟩
def wW(E:zaq)(n:Nat)(a0:placed)(v36:Int){A:Type}(k:Bool->Option A):Option A :=
  iP aH (zxp E) E.N zxq 201 [1,1,1,0,1,0] [.n n] (iO k)
    ⟨[(1,.cl (.ptr 1 0)),(34,eP a0.ak.Dead),(35,.int (a0.ak.Dead.len:Int)),(36,.int v36)],[(1,eB 185 a0)],[]⟩
theorem zRN(a0:placed):(zoJ E (a0)).T k =
  (E.iw (a0.ak.Kind,1,3)).T λr1 =>
  MF E a0 r1 k:=dV
theorem zoK(a0:placed):MF E a0 false k =
  k false:=krY
theorem zoL(a0:placed):MF E (knd 1 a0) true k =
  (E.zfI (knd 1 a0)).T λr1 =>
  cond (!r1)
  (k false)
  ((E.c232 (knd 1 a0)).T λr2 =>
 cond (!r2)
 (k false)
 (wW E E.N (knd 1 a0) 0 k)):=krY
theorem zoM(a0:placed):MF E (knd 2 a0) true k =
  (E.zfI (knd 2 a0)).T λr1 =>
  cond (!r1)
  (k false)
  ((E.c233 (knd 2 a0)).T λr2 =>
 cond (!r2)
 (k false)
 (wW E E.N (knd 2 a0) 0 k)):=krY
theorem zoN(a0:placed):MF E (knd 3 a0) true k =
  (E.zfI (knd 3 a0)).T λr1 =>
  cond (!r1)
  (k false)
  ((E.c234 (knd 3 a0)).T λr2 =>
 cond (!r2)
 (k false)
 (wW E E.N (knd 3 a0) 0 k)):=krY
theorem zjd(n0:Nat)(a0:placed)(v36:Int):wW E (n0+1) a0 v36 k =
  cond (decide (v36<(a0.ak.Dead.len:Int)))
  (aV (decide (0<=v36/\v36<(a0.ak.Dead.len:Int))) ((E.iw (a0.ak.Dead.get v36.toNat,0,(aO (a0.ak.bM-1)))).T λr1 =>
 cond (!r1)
 (k false)
 (cond (decide (v36>0))
 (aV (decide (0<=(aO (v36-1))/\(aO (v36-1))<(a0.ak.Dead.len:Int))) (cond (decide (a0.ak.Dead.get v36.toNat<=a0.ak.Dead.get (aO (v36-1)).toNat))
 (k false)
 (wW E n0 a0 (aO (v36+1)) k)))
 (wW E n0 a0 (aO (v36+1)) k))))
  (k (decide ((a0.ak.Dead.len:Int)<=100))):=krY
end
theorem zRO [aJ](E:zaq)(lT:Ok aH 161 (ae.un E.iw))(zje:Ok aH 235 (ae.un E.zfI))(zxr:Ok aH 232 (ae.un E.c232))(zxs:Ok aH 233 (ae.un E.c233))(zxt:Ok aH 234 (ae.un E.c234)):Ok aH 201 (ae.un (zoJ E)):=dW (((((ax.nil.addF lT).addF zje).addF zxr).addF zxs).addF zxt)
structure zoO where
  N:Nat
def zoP(E:zoO):placed->ae Bool:=iK E.N Tabs.nil 232
theorem e232(E:zoO){A:Type}(k:Bool→Option A)(a0:placed):(zoP E (a0)).T k =
  k ((a0.ak.aT.len:Int)==0):=dV
theorem zRP [aJ](E:zoO):Ok aH 232 (ae.un (zoP E)):=dW ax.nil
structure zes where
  N:Nat
  iw:Int×Int×Int->ae Bool
abbrev zGf(E:zes):bU:=gY (Tabs.nil.addF 161 (ae.un E.iw)) []
def zGg:dK:=bY aH 233 [] {}
def zoQ(E:zes):placed->ae Bool:=ae.ty (aF aH E.N (zGf E) zGg 233)
section
variable(E:zes){A:Type}(k:Bool->Option A)
def Gq(E:zes)(n:Nat)(a0:placed)(v9:Int){A:Type}(k:Bool->Option A):Option A :=
  iP aH (zGf E) E.N zGg 233 [1,0,1,0] [.n n] (iO k)
    ⟨[(1,.cl (.ptr 1 0)),(7,eP a0.ak.aT),(8,.int (a0.ak.aT.len:Int)),(9,.int v9)],[(1,eB 185 a0)],[]⟩
theorem e233(a0:placed):(zoQ E (a0)).T k =
  Gq E E.N a0 0 k:=dV
theorem zjf(n0:Nat)(a0:placed)(v9:Int):Gq E (n0+1) a0 v9 k =
  cond (decide (v9<(a0.ak.aT.len:Int)))
  (aV (decide (0<=v9/\v9<(a0.ak.aT.len:Int))) ((E.iw ((a0.ak.aT.get v9.toNat).Time,0,1000000)).T λr1 =>
 cond (!r1)
 (k false)
 ((E.iw ((a0.ak.aT.get v9.toNat).dQ.Low,0,(a0.ak.aT.get v9.toNat).dQ.High)).T λr2 =>
 cond (!r2)
 (k false)
 (cond (decide ((a0.ak.aT.get v9.toNat).dQ.High>(aO (a0.ak.aS.tdiv 2))))
 (k false)
 (cond (decide (v9>0))
 (aV (decide (0<=(aO (v9-1))/\(aO (v9-1))<(a0.ak.aT.len:Int))) (cond (decide ((a0.ak.aT.get v9.toNat).Time<=(a0.ak.aT.get (aO (v9-1)).toNat).Time))
 (k false)
 (aV (decide (0<=(aO (v9-1))/\(aO (v9-1))<(a0.ak.aT.len:Int))) (cond (decide ((a0.ak.aT.get v9.toNat).dQ.Low<(a0.ak.aT.get (aO (v9-1)).toNat).dQ.Low))
 (k false)
 (aV (decide (0<=(aO (v9-1))/\(aO (v9-1))<(a0.ak.aT.len:Int))) (cond (decide ((a0.ak.aT.get v9.toNat).dQ.High<(a0.ak.aT.get (aO (v9-1)).toNat).dQ.High))
 (k false)
 (Gq E n0 a0 (aO (v9+1)) k)))))))
 (Gq E n0 a0 (aO (v9+1)) k))))))
  ((E.iw ((a0.ak.aT.len:Int),1,50)).T λr3 =>
 k r3):=krY
end
theorem zRQ [aJ](E:zes)(lT:Ok aH 161 (ae.un E.iw)):Ok aH 233 (ae.un (zoQ E)):=dW (ax.nil.addF lT)
structure zoR where
  N:Nat
def zoS(E:zoR):placed->ae Bool:=iK E.N Tabs.nil 234
theorem e234(E:zoR){A:Type}(k:Bool→Option A)(a0:placed):(zoS E (a0)).T k =
  k ((a0.ak.aT.len:Int)==0):=dV
theorem zRR [aJ](E:zoR):Ok aH 234 (ae.un (zoS E)):=dW ax.nil
structure zoT where
  N:Nat
  iw:Int×Int×Int->ae Bool
  c164:bZ×Int->ae Bool
def zoU(E:zoT):placed->ae Bool:=iK E.N ((Tabs.nil.addF 161 (ae.un E.iw)).addF 164 (ae.un E.c164)) 235
theorem zRS(E:zoT){A:Type}(k:Bool→Option A)(a0:placed):(zoU E (a0)).T k =
  (E.iw (a0.ak.View,1,2)).T λr1 =>
  cond (!r1)
  (k false)
  ((E.iw (a0.ak.Z,0,100000)).T λr2 =>
 cond (!r2)
 (k false)
 ((E.iw (a0.ak.First,(-1000000),1000000)).T λr3 =>
 cond (!r3)
 (k false)
 ((E.iw (a0.ak.aS,2,100000)).T λr4 =>
 cond (!r4)
 (k false)
 ((E.iw (a0.ak.bM,1,2000)).T λr5 =>
 cond (!r5)
 (k false)
 ((E.iw (a0.ak.dN,0,100000)).T λr6 =>
 cond (!r6)
 (k false)
 ((E.c164 (a0.ak.bC,1000000)).T λr7 =>
 cond (!r7)
 (k false)
 ((E.c164 (a0.ak.Clock,1000000000)).T λr8 =>
 cond (!r8)
 (k false)
 ((E.iw (a0.ak.dP,0,1000000)).T λr9 =>
 cond (!r9)
 (k false)
 ((E.iw (a0.ak.Least,0,1000000)).T λUI =>
 cond (!UI)
 (k false)
 (cond (decide ((aO ((aO ((aO (a0.ak.First-a0.ak.aS))-a0.ak.dN))+a0.ak.bC.Low))>=(-1000000)))
 (k (decide ((aO ((aO ((aO (a0.ak.First+(aO ((aO (a0.ak.bM+1))*a0.ak.aS))))+a0.ak.dN))+a0.ak.bC.High))<=1000000)))
 (k false))))))))))):=dV
theorem zRT [aJ](E:zoT)(lT:Ok aH 161 (ae.un E.iw))(WL:Ok aH 164 (ae.un E.c164)):Ok aH 235 (ae.un (zoU E)):=dW ((ax.nil.addF lT).addF WL)
structure zoV where
  N:Nat
  c160:au->ae Bool
  uN:au×bF->ae (placed×Bool)
def zoW(E:zoV):au×bF->ae Bool:=iK E.N ((Tabs.nil.addF 160 (ae.un E.c160)).addF 112 (ae.un E.uN)) 188
theorem zRU(E:zoV){A:Type}(k:Bool→Option A)(a0:au)(a1:bF):(zoW E (a0,a1)).T k =
  (E.c160 a0).T λr1 =>
  cond (!r1)
  (k false)
  ((E.uN (a0,a1)).T λr2 =>
 k r2.2):=dV
theorem zRV [aJ](E:zoV)(BF:Ok aH 160 (ae.un E.c160))(Ap:Ok aH 112 (ae.un E.uN)):Ok aH 188 (ae.un (zoW E)):=dW ((ax.nil.addF BF).addF Ap)
structure zoX where
  N:Nat
  zfH:placed×Int×Int->ae ay
  zsC:placed×Int->ae (Int×Int)
def zoY(E:zoX):placed×bF->ae ((Sl ay)):=iK E.N ((Tabs.nil.addF 223 (ae.un E.zfH)).addF 224 (ae.un E.zsC)) 189
theorem e189(E:zoX){A:Type}(k:(Sl ay)→Option A)(a0:placed)(a1:bF):(zoY E (a0,a1)).T k =
  cond (a0.ak.Kind != 2)
  (cond (decide ((aO ((aO (a0.ak.First+(aO ((aO ((aO (a1.Channel+a1.jW))-1))*a0.ak.aS))))-a0.ak.dN))>(aO ((aO (a0.ak.First+(aO ((aO (a1.Channel+1))*a0.ak.aS))))+a0.ak.dN))))
 (k (⟨0,λ_=>default⟩:(Sl ay)))
 ((E.zfH (a0,(aO ((aO (a0.ak.First+(aO ((aO ((aO (a1.Channel+a1.jW))-1))*a0.ak.aS))))-a0.ak.dN)),(aO ((aO (a0.ak.First+(aO ((aO (a1.Channel+1))*a0.ak.aS))))+a0.ak.dN)))).T λr1 =>
 k (⟨1,(fun _=>r1)⟩:(Sl ay))))
  ((E.zsC (a0,a1.aT)).T λr2 =>
 (E.zfH (a0,(aO ((aO (a0.ak.First+(aO (a1.Channel*a0.ak.aS))))-r2.2)),(aO ((aO (a0.ak.First+(aO (a1.Channel*a0.ak.aS))))-r2.1)))).T λr3 =>
 (E.zfH (a0,(aO ((aO (a0.ak.First+(aO (a1.Channel*a0.ak.aS))))+r2.1)),(aO ((aO (a0.ak.First+(aO (a1.Channel*a0.ak.aS))))+r2.2)))).T λr4 =>
 cond (decide (r3.High>=r4.Low))
 (k (⟨1,(λ_=>(⟨a0.ak.Z,r3.Low,r4.High⟩:ay))⟩:(Sl ay)))
 (k (⟨2,(GU [r3,r4])⟩:(Sl ay)))):=dV
theorem zRW [aJ](E:zoX)(zxu:Ok aH 223 (ae.un E.zfH))(zxv:Ok aH 224 (ae.un E.zsC)):Ok aH 189 (ae.un (zoY E)):=dW ((ax.nil.addF zxu).addF zxv)
structure zoZ where
  N:Nat
def zo0(E:zoZ):placed×Int×Int->ae ay:=iK E.N Tabs.nil 223
theorem e223(E:zoZ){A:Type}(k:ay→Option A)(a0:placed)(a1 a2:Int):(zo0 E (a0,a1,a2)).T k =
  k (⟨a0.ak.Z,(aO (a1+a0.ak.bC.Low)),(aO (a2+a0.ak.bC.High))⟩:ay):=dV
theorem zRX [aJ](E:zoZ):Ok aH 223 (ae.un (zo0 E)):=dW ax.nil
structure zas where
  N:Nat
  zsH:(Pt (Sl aT))->ae (List (Int×aT))
abbrev zxw(E:zas):bU:=gY ((Tabs.nil.addF 246 (aF aH E.N (gY Tabs.nil []) (bY aH 246 [] {}) 246)).addI 251 (ae.unI E.zsH)) []
def zxx:dK:=bY aH 224 [] {}
def zo1(E:zas):placed×Int->ae (Int×Int):=ae.ty (aF aH E.N (zxw E) zxx 224)
section
variable(E:zas){A:Type}(k:(Int×Int)->Option A)
def MG(E:zas)(n:Nat)(a0:placed)(a1 v6 v20 DF:Int){A:Type}(k:(Int×Int)->Option A):Option A :=
  iP aH (zxw E) E.N zxx 224 [1,1,0,1,0] [.n n] (iO k)
    ⟨[(2,.cl (.ptr 2 0)),(3,.cl (.ptr 3 0)),(6,.int v6),(7,.cl (.ptr 7 0)),(18,eP a0.ak.aT),(19,.int (a0.ak.aT.len:Int)),(20,.int v20)],[(2,eB 185 a0),(3,eB 3 a1),(7,eB 3 DF)],[]⟩
def Gs(E:zas)(l:List (Int×aT))(a0:placed)(a1 v6 DF:Int){A:Type}(k:(Int×Int)->Option A):Option A :=
  iP aH (zxw E) E.N zxx 224 [1,1,1,0,1,0] [.y (l.map dG.enc)] (iO k)
    ⟨[(2,.cl (.ptr 2 0)),(3,.cl (.ptr 3 0)),(6,.int v6),(7,.cl (.ptr 7 0)),(39,.p (.fn 251 [] [.fp [.sl a0.ak.aT.len 3 (λi=>bH.enc (a0.ak.aT.get i))] 0]))],[(2,eB 185 a0),(3,eB 3 a1),(7,eB 3 DF)],[]⟩
theorem e224(a0:placed)(a1:Int):(zo1 E (a0,a1)).T k =
  MG E E.N a0 a1 0 0 (aO (a0.ak.aS.tdiv 2)) k:=dV
theorem zjg(n0:Nat)(a0:placed)(a1 v6 v20 DF:Int):MG E (n0+1) a0 a1 v6 v20 DF k =
  cond (decide (v20<(a0.ak.aT.len:Int)))
  (aV (decide (0<=v20/\v20<(a0.ak.aT.len:Int))) (cond (decide ((a0.ak.aT.get v20.toNat).Time<=(aO (a1-a0.ak.dP))))
 (MG E n0 a0 a1 (a0.ak.aT.get v20.toNat).dQ.Low (aO (v20+1)) DF k)
 (MG E n0 a0 a1 v6 (aO (v20+1)) DF k)))
  ((E.zsH (⟨a0.ak.aT⟩:(Pt (Sl aT)))).T λr1 =>
 Gs E r1 a0 a1 v6 DF k):=krY
theorem zo2(a0:placed)(a1 v6 DF:Int):Gs E [] a0 a1 v6 DF k =
  k (v6,DF):=krY
theorem zxy(y:Int×aT)(l0:List (Int×aT))(a0:placed)(a1 v6 DF:Int):Gs E (y::l0) a0 a1 v6 DF k =
  cond (decide (y.2.Time>=(aO (a1+a0.ak.dP))))
  (Gs E l0 a0 a1 v6 y.2.dQ.High k)
  (Gs E l0 a0 a1 v6 DF k):=krY
end
theorem zRY [aJ](E:zas)(zRZ:Ac aH 251 (ae.unI E.zsH)):Ok aH 224 (ae.un (zo1 E)):=dW ((ax.nil.addF (wz ax.nil (dL krY))).addI zRZ)
structure zat where
  N:Nat
abbrev zGh(E:zat):bU:=gY Tabs.nil []
def zGi:dK:=bY aH 251 [0] {yl:=[3]}
def zGj(E:zat)(c:List PA):YO:=aI aH (zGh E) E.N zGi 251 c
def zxz(E:zat):(Pt (Sl aT))->ae (List (Int×aT)):=ae.tyI λc=>.opt (zGj E c)
section
variable(E:zat)
def Tn(E:zat)(n:Nat)(a1:(Pt (Sl aT)))(v3:Int):YO :=
  ptY aH (zGh E) E.N zGi 251 [1,0] [n]
    ⟨[(0,.cl (.vec 4095)),(1,eP a1),(3,.int v3)],[(4095,.gone)],[]⟩
theorem e251(a1:(Pt (Sl aT))):zGj E (dG.enc ((a1):(Pt (Sl aT)))) =
  Tn E E.N a1 (aO ((a1.v.len:Int)-1)):=krY
theorem zjh(n0:Nat)(a1:(Pt (Sl aT)))(v3:Int):Tn E (n0+1) a1 v3 =
  cond (decide (v3>=0))
  (aV (decide (0<=v3/\v3<(a1.v.len:Int))) (yT (dG.enc ((v3,(a1.v.get v3.toNat)):Int×aT)) (some [])
 (Tn E n0 a1 (aO (v3-1)))))
  (some []):=krY
end
theorem zR0(E:zat):Ac aH 251 (ae.unI (zxz E)):=SQ (LY ax.nil (dL krY))
theorem bf{x:Int}(h1 : -9223372036854775808<=x)(h2:x<=9223372036854775807):aO x=x:=by
 have hb:IntKind.i64.bits=64:=rfl;have hs:IntKind.i64.signed=true:=rfl;unfold aO IntKind.wrap;rw[hb,hs];simp only[OY,pJ];split<;>omega
theorem bP{i:Nat}(h:i<4611686018427387904):aO ((i:Int)+1)=((i+1:Nat):Int):=by rw[bf omY omY];omega
theorem Ar{i:Nat}(h:i<4611686018427387904):aO ((i:Int)-1)=(i:Int)-1:=bf omY omY
section
variable{A ρ:Type}
theorem bn{r:ρ}{k:ρ->Option A}:(ae.ok r).T k=k r:=rfl
theorem bG{p:Prop}[Decidable p]{x:Option A}(h:p):aV (decide p) x=x:=by rw[dZ h];rfl
theorem zGk{p:Prop}[Decidable p]{x y:Option A}(h:p):cond (decide p) x y=x:=by rw[dZ h];rfl
theorem zGl{p:Prop}[Decidable p]{x y:Option A}(h:¬p):cond (decide p) x y=y:=by rw[eU h];rfl
theorem kc{τ:Type}(f:τ->Option A)(b:Bool)(x y:τ):cond b (f x) (f y)=f (cond b x y):=by cases b<;>rfl
theorem two(Y s:Option A):∃f:Bool->Option A,f true=Y/\f false=s:=⟨λb=>cond b Y s,rfl,rfl⟩
theorem zgt(k:Bool->Option A)(a b:Bool):cond a (k b) (k false)=k (a&&b):=by cases a<;>rfl
end
theorem dI{p:Nat->Bool}{n:Nat}:fG p n=true↔∀i,i<n->p i=true:=by
 refine⟨λh i hi=>Q4 h i hi,λh=>?_⟩
 induction n with
 | zero=>rfl
 | succ n ih=>simp only[fG,ih λi hi=>h i omY,h n omY,qjQ]
section
variable{A:Type}
theorem zBU{L:Nat→Int→Option A}{p:Nat→Bool}{m:Nat}{fin stop:Option A}(hm:m<4611686018427387904)
    (hL:∀n i,i<m->(∀j,j<i->p j=true)->L (n+1) (i:Int)=cond (p i) (L n (aO ((i:Int)+1))) stop) (hE:∀n,(∀j,j<m->p j=true)->L (n+1) (m:Int)=fin) :
    ∀n,m<n->L n 0=cond (fG p m) fin stop:=by
  have key:∀(d i n:Nat),i+d=m->d<n->(∀j,j<i->p j=true)->L n (i:Int)=cond (fG p m) fin stop:=by
    intro d
    induction d with
    | zero =>
      intro i n hi hn hp;obtain⟨n,rfl⟩:∃n',n=n'+1:=⟨n-1,omY⟩;have e:i=m:=by omega
      subst e;rw[hE n hp,dI.2 hp];rfl
    | succ d ih =>
      intro i n hi hn hp;obtain⟨n,rfl⟩:∃n',n=n'+1:=⟨n-1,omY⟩;rw[hL n i omY hp];cases kN:p i with
      | true =>
        rw[ed,bP omY];exact ih (i+1) n omY omY λj hj=>by
          by_cases e:j=i
          · rw[e];exact kN
          · exact hp j omY
      | false =>
        have:fG p m=false:=by
          cases e:fG p m with
          | false=>rfl
          | true=>rw[dI.1 e i omY]at kN;cases kN
        rw[this];rfl
  intro n hn;exact key m 0 n omY hn λj hj=>absurd hj omY
theorem loopA{L:Nat→Int→Option A}{p:Nat→Bool}{m:Nat}{fin stop:Option A}(hm:m<4611686018427387904)
    (hL:∀n i,i<m->L (n+1) (i:Int)=cond (p i) (L n (aO ((i:Int)+1))) stop) (hE:∀n,L (n+1) (m:Int)=fin) :
    ∀n,m<n->L n 0=cond (fG p m) fin stop:=zBU hm (λn i hi _=>hL n i hi) λn _=>hE n
end
theorem Gt{p q:Nat->Bool}{n:Nat}(h:∀i,i<n->p i=q i):fG p n=fG q n:=by
 rw[Ut,dI,dI];exact⟨λg i hi=>by rw[<- h i hi];exact g i hi,λg i hi=>by rw[h i hi];exact g i hi⟩
def inB(x a b:Int):Bool:=decide (a<=x/\x<=b)
abbrev BX(C:Int×Int×Int->ae Bool):Prop:=∀x a b,C (x,a,b)=.ok (inB x a b)
theorem s73{E:E73}:BX (F73 E):=λx a b=>ae.ext λk=>by rw[e73,kc k,bn];congr 1;simp only[inB];grind
theorem s86{E:E86}:BX (F86 E):=λx a b=>ae.ext λk=>by rw[e86,kc k,bn];congr 1;simp only[inB];grind
theorem zR1{E:zox}:BX (zoy E):=λx a b=>ae.ext λk=>by rw[zRC,kc k,bn];congr 1;simp only[inB];grind
theorem zR2{E:zoE}:BX (zoF E):=λx a b=>ae.ext λk=>by rw[e161,kc k,bn];congr 1;simp only[inB];grind
abbrev zxA(C:Int->ae Bool):Prop:=∀x,C x=.ok (inB x (-1000000) 1000000)
theorem zR3{E:zop}(NQ:BX E.uQ):zxA (zoq E):=λx=>ae.ext λk=>by rw[zRo];simp only[NQ,bn]
abbrev Big(N:Nat):Prop:=20000000<N
def stB(l:Sl aT)(zji:Int)(i:Nat):Bool :=
  inB (l.get i).Time 0 1000000&&inB (l.get i).dQ.Low 0 (l.get i).dQ.High&&decide ((l.get i).dQ.High≤aO (zji.tdiv 2)) &&
    (decide (i=0)||decide ((l.get (i-1)).Time<(l.get i).Time)&&decide ((l.get (i-1)).dQ.Low<=(l.get i).dQ.Low)&&decide ((l.get (i-1)).dQ.High<=(l.get i).dQ.High))
def rV(l:Sl aT)(zji:Int):Bool:=fG (stB l zji) l.len&&inB l.len 1 50
theorem zcw{i n:Nat}(h:i<n)(hn:n<4611686018427387904)(h0:(i:Int)>0):(0<=aO ((i:Int)-1)/\aO ((i:Int)-1)<(n:Int))/\(aO ((i:Int)-1)).toNat=i-1:=by
 rw[Ar omY];omega
abbrev zxB(C:Sl aT×Int->ae Bool):Prop:=∀l p,l.len<=60->C (l,p)=.ok (rV l p)
theorem zR4{E:zeo}(N:Big E.N)(NQ:BX E.uQ):zxB (zor E):=λl p h=>ae.ext λk=>by
 rw[zRq];refine(loopA (L:=λn v=>Gn E n l p v k) (p:=stB l p) (m:=l.len) (fin:=k (inB l.len 1 50)) (stop:=k false) omY (λn i hi=>?_) (λn=>?_) _ omY).trans ?_
 ·obtain ⟨f, h1, h2⟩ := two (Gn E n l p (aO ((i : Int) + 1)) k) (k false);rw[zi7,bG omY,<- h1,<- h2];simp only[NQ,bn,gU];by_cases h0:(i:Int) > 0
  ·obtain⟨p1,p2⟩:=zcw hi omY h0;simp only[bG p1,p2,kc f];congr 1;simp only[stB,inB];grind
  ·simp only [eU h0,dS,kc f];congr 1;simp only[stB,inB];grind
 ·rw[zi7];simp only[NQ,bn,UQ,QV,dS]
 ·exact zgt k _ _
def lfP(p:ak):Int:=aO (aO (aO (p.First-p.aS)-p.dN)+p.bC.Low)
def rtP(p:ak):Int:=aO (aO (aO (p.First+aO (aO (p.bM+1)*p.aS))+p.dN)+p.bC.High)
def YD(p:ak):Prop:=(1<=p.Kind/\p.Kind<=3)/\(1<=p.View/\p.View<=2)/\(0<=p.Z/\p.Z<=100000)/\(-1000000<=p.First/\p.First<=1000000)/\(2<=p.aS/\p.aS<=100000)/\(1<=p.bM/\p.bM<=2000)/\(0<=p.dN/\p.dN<=100000) /\
 (-1000000<=p.bC.Low/\p.bC.Low<=p.bC.High/\p.bC.High<=1000000)/\(-1000000000<=p.Clock.Low/\p.Clock.Low<=p.Clock.High/\p.Clock.High<=1000000000)/\(0<=p.dP/\p.dP<=1000000)/\(0<=p.Least/\p.Least<=1000000)/\-1000000<=lfP p/\rtP p<=1000000
instance(p:ak):Decidable (YD p):=by unfold YD;infer_instance
theorem xW{a b:Int}(ha:0<=a/\a<=10000)(hb:0<=b/\b<=100000):0<=a*b/\a*b<=1000000000 :=
 ⟨qjf ha.1 hb.1,by have:=Int.mul_le_mul ha.2 hb.2 hb.1 omY;omega⟩
theorem zGm{p:ak}(h1 : -1000000≤p.First∧p.First≤1000000)(h2:2≤p.aS∧p.aS≤100000)(h3:1≤p.bM∧p.bM≤2000)(h4:0≤p.dN∧p.dN≤100000)
    (h5 : -1000000<=p.bC.Low/\p.bC.Low<=p.bC.High/\p.bC.High<=1000000) :
    lfP p=p.First-p.aS-p.dN+p.bC.Low/\rtP p=p.First+(p.bM+1)*p.aS+p.dN+p.bC.High/\lfP p<rtP p:=by
  obtain⟨q1,q2⟩:=xW (a:=p.bM+1) (b:=p.aS) omY omY;have e1:lfP p=p.First-p.aS-p.dN+p.bC.Low:=by
    unfold lfP;rw[bf (x:=p.First-p.aS) omY omY,bf (x:=p.First-p.aS-p.dN) omY omY,bf omY omY]
  have e2:rtP p=p.First+(p.bM+1)*p.aS+p.dN+p.bC.High:=by
    unfold rtP;rw[bf (x:=p.bM+1) omY omY,bf (x:=(p.bM+1)*p.aS) omY omY,bf (x:=p.First+(p.bM+1)*p.aS) omY omY,bf (x:=p.First+(p.bM+1)*p.aS+p.dN) omY omY,bf omY omY]
  exact⟨e1,e2,omY⟩
def dB(p:ak)(i:Nat):Bool:=inB (p.Dead.get i) 0 (aO (p.bM-1))&&(decide (i=0)||decide (p.Dead.get (i-1)<p.Dead.get i))
def plB(p:ak):Bool:=decide (YD p)&&cond (p.Kind==2) (rV p.aT p.aS) (decide (p.aT.len=0))&&decide (p.Dead.len<=100)&&fG (dB p) p.Dead.len
def Few(p:ak):Prop:=p.aT.len<=60/\p.Dead.len<=110
abbrev zxC(C:ak->ae Bool):Prop:=∀p,Few p->C p=.ok (plB p)
theorem zR5{E:Tf}(N:Big E.N)(NQ:BX E.uQ)(zxd:zxA E.Ui)(zxe:zxB E.c175):zxC (zol E):=λp h=>ae.ext λk=>by
 have hl:=h.1;have hd:=h.2;have lp:uI E E.N p 0 k=k (fG (dB p) p.Dead.len):=by
  refine(loopA (L:=λn v=>uI E n p v k) (p:=dB p) (m:=p.Dead.len) (fin:=k true) (stop:=k false) omY (λn i hi=>?_) (λn=>?_) _ omY).trans ?_
  ·obtain ⟨f, h1, h2⟩ := two (uI E n p (aO ((i : Int) + 1)) k) (k false);rw[zi2,bG omY,<- h1,<- h2];simp only[NQ,bn,gU];by_cases h0:(i:Int) > 0
   ·obtain⟨p1,p2⟩:=zcw hi omY h0;simp only[bG p1,bG (show 0<=(i:Int)/\(i:Int)<(p.Dead.len:Int)by omega),p2,kc f];congr 1;simp only[dB];grind
   ·simp only [eU h0,dS,kc f];congr 1;simp only[dB];grind
  ·rw[zi2];simp only[UQ,QV,dS]
  ·rw[kc k];congr 1;cases fG (dB p) p.Dead.len<;>rfl
 rw[zRi];simp only[zxa,zxb,zxc,NQ,zxd,zxe _ _ hl,bn,lp,kc k];congr 1;have lr:=@zGm p;have e1:aO (aO (aO (p.First-p.aS)-p.dN)+p.bC.Low)=lfP p:=rfl;have e2:aO (aO (aO (p.First+aO (aO (p.bM+1)*p.aS))+p.dN)+p.bC.High)=rtP p:=rfl;simp only[e1,e2,plB,YD,inB];generalize rV p.aT p.aS=A;generalize fG (dB p) p.Dead.len=B
 grind (splits:=60)
def sN(s:au):Prop:=s.aj.len<=20/\∀i,i<s.aj.len->Few (s.aj.get i)
def seB(s:au)(i:Nat):Bool:=plB (s.aj.get i)&&(decide (i=0)||decide ((s.aj.get (i-1)).Z<(s.aj.get i).Z))
def fH(s:au):Bool:=inB s.aj.len 1 16&&fG (seB s) s.aj.len
abbrev QSe(C:au->ae Bool):Prop:=∀s,sN s->C s=.ok (fH s)
theorem s61{E:E61}(N:Big E.N)(NQ:BX E.uQ)(zw7:zxC E.c124):QSe (F61 E):=λs h=>ae.ext λk=>by
 have hl:=h.1;rw[e61];have lp:L9 E E.N s 0 k=k (fG (seB s) s.aj.len):=by
  refine(loopA (L:=λn v=>L9 E n s v k) (p:=seB s) (m:=s.aj.len) (fin:=k true) (stop:=k false) omY (λn i hi=>?_) (λn=>?_) _ omY).trans ?_
  ·obtain ⟨f, h1, h2⟩ := two (L9 E n s (aO ((i : Int) + 1)) k) (k false);rw[ztY,bG omY,<- h1,<- h2];simp only[gU,zw7 _ (h.2 i hi),bn];by_cases h0:(i:Int) > 0
   ·obtain⟨p1,p2⟩:=zcw hi omY h0;simp only[bG p1,bG (show 0<=(i:Int)/\(i:Int)<(s.aj.len:Int)by omega),p2,kc f];congr 1;simp only[seB];grind
   ·simp only [eU h0,dS,kc f];congr 1;simp only[seB];grind
  ·rw[ztY];simp only[UQ,QV,dS]
  ·rw[kc k];congr 1;cases fG (seB s) s.aj.len<;>rfl
 simp only[NQ,bn,lp,kc k];congr 1;simp only[fH];cases inB s.aj.len 1 16<;>rfl
/-! The program. -/
abbrev zo4(C:bZ×Int->ae Bool):Prop:=∀x m,0<=m/\m<=1000000000->C (x,m)=.ok (decide (-m<=x.Low/\x.Low<=x.High/\x.High<=m))
theorem zR6{E:zoH}(lT:BX E.iw):zo4 (zoI E):=λx m h=>ae.ext λk=>by
 rw[zRL];simp only[lT,bn,bf (x:=0-m) omY omY,kc k];congr 1;simp only[inB];grind
def shB(p:ak):Bool:=decide ((1<=p.View/\p.View<=2)/\(0<=p.Z/\p.Z<=100000)/\(-1000000<=p.First/\p.First<=1000000)/\(2<=p.aS/\p.aS<=100000)/\(1<=p.bM/\p.bM<=2000)/\(0<=p.dN/\p.dN<=100000) /\
 (-1000000<=p.bC.Low/\p.bC.Low<=p.bC.High/\p.bC.High<=1000000)/\(-1000000000<=p.Clock.Low/\p.Clock.Low<=p.Clock.High/\p.Clock.High<=1000000000)/\(0<=p.dP/\p.dP<=1000000)/\(0<=p.Least/\p.Least<=1000000)/\-1000000<=lfP p/\rtP p<=1000000)
abbrev zxD(C:placed->ae Bool):Prop:=∀p,C p=.ok (shB p.ak)
theorem zR7{E:zoT}(lT:BX E.iw)(WL:zo4 E.c164):zxD (zoU E):=λp=>ae.ext λk=>by
 rw[zRS];simp only[lT,WL _ _ (show(0:Int)<=1000000/\(1000000:Int)<=1000000000 by omega),WL _ _ (show(0:Int)<=1000000000/\(1000000000:Int)<=1000000000 by omega),bn,kc k];congr 1;have e1:aO (aO (aO (p.ak.First-p.ak.aS)-p.ak.dN)+p.ak.bC.Low)=lfP p.ak:=rfl;have e2:aO (aO (aO (p.ak.First+aO (aO (p.ak.bM+1)*p.ak.aS))+p.ak.dN)+p.ak.bC.High)=rtP p.ak:=rfl;simp only[e1,e2,shB,inB]
 grind (splits:=60)
abbrev zeu(C:placed->ae Bool):Prop:=∀p,C p=.ok (decide (p.ak.aT.len=0))
theorem zR8{E:zoO}:zeu (zoP E):=λp=>ae.ext λk=>by
 rw[e232,bn];congr 1;grind
theorem zR9{E:zoR}:zeu (zoS E):=λp=>ae.ext λk=>by
 rw[e234,bn];congr 1;grind
abbrev zxE(C:placed->ae Bool):Prop:=∀q,Few q.ak->C q=.ok (rV q.ak.aT q.ak.aS)
theorem zSa{E:zes}(N:Big E.N)(lT:BX E.iw):zxE (zoQ E):=λq h=>ae.ext λk=>by
 rw[e233];have h':=h.1;refine(loopA (L:=λn v=>Gq E n q v k) (p:=stB q.ak.aT q.ak.aS) (m:=q.ak.aT.len) (fin:=k (inB q.ak.aT.len 1 50)) (stop:=k false) omY (λn i hi=>?_) (λn=>?_) _ omY).trans ?_
 ·obtain ⟨f, h1, h2⟩ := two (Gq E n q (aO ((i : Int) + 1)) k) (k false);rw[zjf,bG omY,<- h1,<- h2];simp only[lT,bn,gU];by_cases h0:(i:Int) > 0
  ·obtain⟨p1,p2⟩:=zcw hi omY h0;simp only[bG p1,p2,kc f];congr 1;simp only[stB,inB];grind
  ·simp only [eU h0,dS,kc f];congr 1;simp only[stB,inB];grind
 ·rw[zjf];simp only[lT,bn,UQ,QV,dS]
 ·exact zgt k _ _
abbrev zxF(C:placed->ae Bool):Prop:=∀q,Few q.ak->C q=.ok (plB q.ak)
theorem zSb{E:zaq}(N:Big E.N)(lT:BX E.iw)(zje:zxD E.zfI)(zxr:zeu E.c232)(zxs:zxE E.c233)(zxt:zeu E.c234):zxF (zoJ E):=λq h=>ae.ext λk=>by
 have lp:∀q:placed,Few q.ak->wW E E.N q 0 k=k (decide (q.ak.Dead.len<=100)&&fG (dB q.ak) q.ak.Dead.len):=by
  intro q h;have h':=h.2;refine(loopA (L:=λn v=>wW E n q v k) (p:=dB q.ak) (m:=q.ak.Dead.len) (fin:=k (decide (q.ak.Dead.len<=100))) (stop:=k false) omY (λn i hi=>?_) (λn=>?_) _ omY).trans ?_
  ·obtain ⟨f, h1, h2⟩ := two (wW E n q (aO ((i : Int) + 1)) k) (k false);rw[zjd,bG omY,<- h1,<- h2];simp only[lT,bn,gU];by_cases h0:(i:Int) > 0
   ·obtain⟨p1,p2⟩:=zcw hi omY h0;simp only[bG p1,p2,kc f];congr 1;simp only[dB];grind
   ·simp only [eU h0,dS,kc f];congr 1;simp only[dB];grind
  ·rw[zjd];simp only[UQ,QV,dS];congr 1;grind
  ·rw[zgt,jq3]
 rw[zRN];simp only[lT,bn];have fin:plB q.ak=(inB q.ak.Kind 1 3&&shB q.ak&&cond (q.ak.Kind==2) (rV q.ak.aT q.ak.aS) (decide (q.ak.aT.len=0))&&(decide (q.ak.Dead.len<=100)&&fG (dB q.ak) q.ak.Dead.len)):=by
  simp only[plB,YD,shB,inB];generalize rV q.ak.aT q.ak.aS=A;generalize fG (dB q.ak) q.ak.Dead.len=B
  grind (splits:=60)
 rw[fin];cases hk:inB q.ak.Kind 1 3 with
 | false=>exact zoK _ _ _
 | true =>
  simp only[inB,pJ]at hk;have hc:q.ak.Kind=1\/q.ak.Kind=2\/q.ak.Kind=3:=by omega
  obtain⟨⟨kd,vw,z,fi,pi,st,sp,of,cl,ji,le,dr,de⟩,ix⟩:=q;rcases hc with e|e|e<;>simp only at e<;>subst e
  ·refine(zoL E k ⟨⟨1,vw,z,fi,pi,st,sp,of,cl,ji,le,dr,de⟩,ix⟩).trans ?_;simp only[zje _,zxr _,bn,lp ⟨⟨1,vw,z,fi,pi,st,sp,of,cl,ji,le,dr,de⟩,ix⟩ h,kc k,knd];congr 1;grind
  ·refine(zoM E k ⟨⟨2,vw,z,fi,pi,st,sp,of,cl,ji,le,dr,de⟩,ix⟩).trans ?_;simp only[zje _,zxs ⟨⟨2,vw,z,fi,pi,st,sp,of,cl,ji,le,dr,de⟩,ix⟩ h,bn,lp ⟨⟨2,vw,z,fi,pi,st,sp,of,cl,ji,le,dr,de⟩,ix⟩ h,kc k,knd];congr 1;grind
  ·refine(zoN E k ⟨⟨3,vw,z,fi,pi,st,sp,of,cl,ji,le,dr,de⟩,ix⟩).trans ?_;simp only[zje _,zxt _,bn,lp ⟨⟨3,vw,z,fi,pi,st,sp,of,cl,ji,le,dr,de⟩,ix⟩ h,kc k,knd];congr 1;grind
theorem zSc{E:zer}(N:Big E.N)(zxo:zxF E.c201)(lT:BX E.iw):QSe (zoG E):=λs h=>ae.ext λk=>by
 rw[e160];have h':=h.1;refine(loopA (L:=λn v=>Gp E n s v k) (p:=seB s) (m:=s.aj.len) (fin:=k (inB s.aj.len 1 16)) (stop:=k false) omY (λn i hi=>?_) (λn=>?_) _ omY).trans ?_
 ·obtain ⟨f, h1, h2⟩ := two (Gp E n s (aO ((i : Int) + 1)) k) (k false);rw[zjc,bG omY,<- h1,<- h2];simp only[gU,zxo ⟨s.aj.get i,(i:Int)⟩ (h.2 i hi),bn];by_cases h0:(i:Int) > 0
  ·obtain⟨p1,p2⟩:=zcw hi omY h0;simp only[bG p1,p2,kc f];congr 1;simp only[seB];grind
  ·simp only [eU h0,dS,kc f];congr 1;simp only[seB];grind
 ·rw[zjc];simp only[lT,bn,UQ,QV,dS]
 ·rw[zgt,jq3];rfl
abbrev zxG(C:au->ae Int):Prop:=∀s,sN s->C s=.ok (cond (fH s) 0 2)
theorem zSd{E:zov}(BF:QSe E.c160):zxG (zow E):=λs h=>ae.ext λk=>by
 rw[zRA];simp only[BF s h,bn,kc k];congr 1;cases fH s<;>rfl
theorem kV{A:Type}{X:Nat->Nat->Option A}{m:Nat}{fin:Option A}(hL:∀n i,i<m->X (n+1) i=X n (i+1))(hE:∀n,X (n+1) m=fin):∀n,m<n->X n 0=fin:=by
 have key:∀d i n,i+d=m->d<n->X n i=fin:=by
  intro d
  induction d with
  | zero =>
   intro i n hi hn;obtain⟨n,rfl⟩:∃n',n=n'+1:=⟨n-1,omY⟩;have e:i=m:=by omega
   subst e;exact hE n
  | succ d ih =>
   intro i n hi hn;obtain⟨n,rfl⟩:∃n',n=n'+1:=⟨n-1,omY⟩;rw[hL n i omY];exact ih (i+1) n omY omY
 intro n hn;exact key m 0 n omY hn
theorem tu{s:au}(h:fH s=true):1<=s.aj.len/\s.aj.len<=16:=by
 simp only[fH,inB,gG,pJ]at h;omega
theorem MH{s:au}(h:fH s=true){i:Nat}(hi:i<s.aj.len):plB (s.aj.get i)=true:=by
 simp only[fH,gG,dI]at h;have:=h.2 i hi;simp only[seB,gG]at this;exact this.1
theorem zGn{p:ak}(h:plB p=true):YD p:=by
 simp only[plB,gG,pJ]at h;exact h.1.1.1
theorem xE{s:au}(h:fH s=true){i:Nat}(hi:i<s.aj.len):YD (s.aj.get i):=zGn (MH h hi)
def knB(p:ak)(h:bF):Bool:=cond (p.Kind==2) (decide (h.jW=1)&&inB h.aT 0 1000000) (cond (p.Kind==3) (decide (h.aT=0)&&decide (h.Time=0)) (decide (h.aT=0)))
def lvB(p:ak)(h:bF):Bool:=fG (λj=>!inB (p.Dead.get j) h.Channel (h.Channel+h.jW-1)) p.Dead.len
def hpB(p:ak)(h:bF):Bool:=inB h.Channel 0 (p.bM-1)&&inB h.jW 1 (p.bM-h.Channel)&&inB h.BP p.Least 1000000&&inB h.Time (-1000000000) 1000000000&&lvB p h&&knB p h
def mD(s:au)(h:bF):Bool:=decide (0<=h.ak/\h.ak<s.aj.len)&&hpB (s.aj.get h.ak.toNat) h
abbrev zo5(C:ak×Int->ae Bool):Prop:=∀p c,Few p->C (p,c)=.ok (!fG (λj=>!decide (p.Dead.get j=c)) p.Dead.len)
theorem zSe{E:zem}(N:Big E.N):zo5 (zon E):=λp c h=>ae.ext λk=>by
 have hd:=h.2;rw[e137];refine(loopA (L:=λn v=>Me E n p c v k) (p:=λj=>!decide (p.Dead.get j=c)) (m:=p.Dead.len) (fin:=k false) (stop:=k true) omY (λn i hi=>?_) (λn=>?_) _ omY).trans ?_
 ·obtain⟨f,h1,h2⟩:=two (Me E n p c (aO ((i:Int)+1)) k) (k true);rw[zi5,bG omY,<- h1,<- h2];simp only[gU,kc f];congr 1;grind
 ·rw[zi5];simp only[UQ,QV,dS]
 ·cases fG (λj=>!decide (p.Dead.get j=c)) p.Dead.len<;>rfl
theorem zGo{p:ak}{h:bF}(hm:0<=h.jW):fG (λi=>fG (λj=>!decide (p.Dead.get j=h.Channel+(i:Int))) p.Dead.len) h.jW.toNat=lvB p h:=by
 rw[Ut];simp only[lvB,dI,NR,dq2,inB];constructor
 ·intro h1 j hj h2;have:=h1 (p.Dead.get j-h.Channel).toNat omY j hj;omega
 ·intro h1 i hi j hj h2;exact h1 j hj omY
abbrev zxH(C:au×bF->ae Bool):Prop:=∀s h,sN s->fH s=true->C (s,h)=.ok (mD s h)
theorem zSf{E:zen}(N:Big E.N)(NQ:BX E.uQ)(zan:zo5 E.OL):zxH (zoo E):=λs h hs hb=>ae.ext λk=>by
 rw[e143,bn];have hl:=tu hb;simp only[NQ,bn,bf (x:=(s.aj.len:Int)-1) omY omY];by_cases hp:0<=h.ak/\h.ak<s.aj.len
 ·have hn := xE hb (i := h.ak.toNat) omY;have hf:=hs.2 h.ak.toNat omY;have e1:inB h.ak 0 (s.aj.len - 1)=true:=by simp only[inB,pJ];omega
  simp only[e1,OZ,dS,bG hp,mD,dZ hp,OY];obtain⟨_,_,_,_,_,Fb,_⟩:=hn;simp only[bf (x:=(s.aj.get h.ak.toNat).bM-1) omY omY,hpB];cases c1:inB h.Channel 0 ((s.aj.get h.ak.toNat).bM-1)with
  | false=>rfl
  | true =>
  simp only[inB,pJ]at c1;simp only[OZ,dS,OY,bf (x:=(s.aj.get h.ak.toNat).bM-h.Channel) omY omY];cases c2:inB h.jW 1 ((s.aj.get h.ak.toNat).bM-h.Channel)with
  | false=>rfl
  | true =>
  simp only[inB,pJ]at c2;simp only[OZ,dS,OY];cases inB h.BP (s.aj.get h.ak.toNat).Least 1000000 with
  | false=>rfl
  | true =>
  cases inB h.Time (-1000000000) 1000000000 with
  | false=>rfl
  | true =>
  simp only[OZ,dS,OY];refine(loopA (L:=λn v=>Ti E n s h v k) (p:=λi=>fG (λj=>!decide ((s.aj.get h.ak.toNat).Dead.get j=h.Channel+(i:Int))) (s.aj.get h.ak.toNat).Dead.len) (m:=h.jW.toNat) (fin:=k (knB (s.aj.get h.ak.toNat) h)) (stop:=k false) omY (λn i hi=>?_) (λn=>?_) _ omY).trans ?_
  ·rw [zi6,dZ (show(i:Int)<h.jW by omega),ed,bf (x:=h.Channel+i) omY omY,zan _ _ hf,bn];cases fG (λj=>!decide ((s.aj.get h.ak.toNat).Dead.get j=h.Channel+(i:Int))) (s.aj.get h.ak.toNat).Dead.len<;>rfl
  ·rw [zi6,eU (show ¬((h.jW.toNat:Int)<h.jW)by omega),dS];simp only[NQ,bn,kc k];congr 1;simp only[knB,inB];grind
  ·rw[zgt,zGo omY]
 ·have e1 : inB h.ak 0 (s.aj.len - 1) = false := by simp only [inB, dq2]; omega
  simp only[e1,qdU,ed,mD,eU hp,qdf]
def ofP(s:au)(h:bF):placed:=cond (decide (0<=h.ak/\h.ak<s.aj.len)) ⟨s.aj.get h.ak.toNat,h.ak⟩ ⟨⟨0,0,0,0,0,0,0,⟨0,0⟩,⟨0,0⟩,0,0,⟨0,λ_=>default⟩,⟨0,λ_=>default⟩⟩,0⟩
abbrev zev(C:au×bF->ae (placed×Bool)):Prop:=∀s h,sN s->fH s=true->C (s,h)=.ok (ofP s h,mD s h)
theorem zSg{E:zeq}(N:Big E.N)(lT:BX E.iw):zev (zoD E):=λs h hs hb=>ae.ext λk=>by
 rw[zRH,bn];have hl:=tu hb;simp only[lT,bn,bf (x:=(s.aj.len:Int)-1) omY omY];by_cases hp:0<=h.ak/\h.ak<s.aj.len
 ·have hn := xE hb (i := h.ak.toNat) omY;have hf:=hs.2 h.ak.toNat omY;have e1:inB h.ak 0 (s.aj.len - 1)=true:=by simp only[inB,pJ];omega
  simp only[e1,OZ,dS,bG hp,mD,dZ hp,OY,ofP,ed];obtain⟨_,_,_,_,_,Fb,_⟩:=hn;have hd:=hf.2;simp only[bf (x:=(s.aj.get h.ak.toNat).bM-1) omY omY,hpB];cases c1:inB h.Channel 0 ((s.aj.get h.ak.toNat).bM-1)with
  | false=>rfl
  | true =>
  simp only[inB,pJ]at c1;simp only[OZ,dS,OY,bf (x:=(s.aj.get h.ak.toNat).bM-h.Channel) omY omY];cases c2:inB h.jW 1 ((s.aj.get h.ak.toNat).bM-h.Channel)with
  | false=>rfl
  | true =>
  simp only[inB,pJ]at c2;simp only[OZ,dS,OY];cases inB h.BP (s.aj.get h.ak.toNat).Least 1000000 with
  | false=>rfl
  | true =>
  cases c3:inB h.Time (-1000000000) 1000000000 with
  | false=>rfl
  | true =>
  simp only[OZ,dS,OY];refine(loopA (L:=λn v=>Tm E n s h v k) (p:=λj=>!inB ((s.aj.get h.ak.toNat).Dead.get j) h.Channel (h.Channel+h.jW-1)) (m:=(s.aj.get h.ak.toNat).Dead.len) (fin:=k (⟨s.aj.get h.ak.toNat,h.ak⟩,knB (s.aj.get h.ak.toNat) h)) (stop:=k (⟨s.aj.get h.ak.toNat,h.ak⟩,false)) omY (λn i hi=>?_) (λn=>?_) _ omY).trans ?_
  ·rw [zjb,dZ (show(i:Int)<_ by omega),ed,bG omY,lT,bn,bf (x:=h.Channel+h.jW) omY omY,bf (x:=h.Channel+h.jW-1) omY omY,gU];cases inB ((s.aj.get h.ak.toNat).Dead.get i) h.Channel (h.Channel+h.jW-1)<;>rfl
  ·rw [zjb]; simp only [UQ, QV, dS, lT, bn, kc k];congr 1;simp only[knB,inB]
   grind
  ·simp only [lvB];cases fG (λj=>!inB ((s.aj.get h.ak.toNat).Dead.get j) h.Channel (h.Channel+h.jW-1)) (s.aj.get h.ak.toNat).Dead.len<;>rfl
 ·have e1 : inB h.ak 0 (s.aj.len - 1) = false := by simp only [inB, dq2]; omega
  simp only[e1,qdU,ed,mD,eU hp,qdf,ofP,dS]
abbrev zo6(C:au×bF->ae Bool):Prop:=∀s h,sN s->C (s,h)=.ok (fH s&&mD s h)
theorem zSh{E:zoV}(BF:QSe E.c160)(Ap:zev E.uN):zo6 (zoW E):=λs h hs=>ae.ext λk=>by
 rw[zRU,BF s hs,bn,bn];cases hb:fH s with
 | false=>rfl
 | true=>simp only[OZ,dS,Ap s h hs hb,bn,OY]
abbrev zxI(C:au×bF->ae Int):Prop:=∀s h,sN s->C (s,h)=.ok (cond (fH s&&mD s h) 0 2)
theorem zSi{E:zoz}(zao:zo6 E.Uj):zxI (zoA E):=λs h hs=>ae.ext λk=>by
 rw[e138,zao s h hs,bn,bn];cases fH s&&mD s h<;>rfl
def vI(l:Sl aT)(t:Int):Nat→Int
  | 0=>0
  | n+1=>cond (decide ((l.get n).Time<=t)) (l.get n).dQ.Low (vI l t n)
def zo(l:Sl aT)(t z:Int):Nat→Int
  | 0=>z
  | d+1=>cond (decide ((l.get (l.len-1-d)).Time>=t)) (l.get (l.len-1-d)).dQ.High (zo l t z d)
def uJ(p:ak)(t:Int):Int×Int:=(vI p.aT (aO (t-p.dP)) p.aT.len,zo p.aT (aO (t+p.dP)) (aO (p.aS.tdiv 2)) p.aT.len)
abbrev zxJ(C:ak×Int->ae (Int×Int)):Prop:=∀p t,Few p->C (p,t)=.ok (uJ p t)
theorem zSj{E:zam}(N:Big E.N):zxJ (zom E):=λp t h=>ae.ext λk=>by
 have hd:=h.1;rw[zRk,bn];refine kV (X:=λn i=>Mc E n p t (vI p.aT (aO (t-p.dP)) i) (aO (p.aS.tdiv 2)) (i:Int) k) (m:=p.aT.len) (λn i hi=>?_) (λn=>?_) _ omY
 ·rw [zi3,dZ (show(i:Int)<_ by omega),ed,bG omY,bG omY,bP omY,gU];simp only[vI];cases decide ((p.aT.get i).Time<=aO (t-p.dP))<;>rfl
 ·rw [zi3]; simp only [UQ, QV, dS];rw[show aO ((p.aT.len:Int) - 1)=aO ((p.aT.len:Int) - 1) - ((0:Nat):Int) by simp];refine kV (X:=λ n i=>Md E n p t (vI p.aT (aO (t - p.dP)) p.aT.len) (zo p.aT (aO (t+p.dP)) (aO (p.aS.tdiv 2)) i) (aO ((p.aT.len:Int) - 1) - (i:Int)) k) (m:=p.aT.len) (λ n i hi=>?_) (λ n=>?_) _ omY
  ·rw [Ar omY,zi4,dZ (show(p.aT.len:Int)-1-i≥0 by omega),ed,bG omY,bG omY,bf (x:=(p.aT.len:Int)-1-i-1) omY omY,show((p.aT.len:Int)-1-i).toNat=p.aT.len-1-i by omega];simp only[zo];cases decide ((p.aT.get (p.aT.len-1-i)).Time>=aO (t+p.dP))<;>simp only[ed,dS]<;>congr 1<;>omega
  ·rw[Ar omY,zi4,eU omY,dS];rfl
def bk(l:Sl aT):Nat→List (Int×aT)
  | 0=>[]
  | n+1=>((n:Int),l.get n)::bk l n
theorem DI{δ ε:Type}[dG δ][dG ε]{R:List PA→YO}{x:δ}{l:List ε}(h:R (dG.enc x)=some (l.map dG.enc))(hc:∀y:ε,dG.ck (α:=ε) (dG.enc y)=true)(hd:∀y:ε,dG.dec (dG.enc y)=y) :
  (ae.tyI (λc=>.opt (R c)) x:ae (List ε))=.ok l:=by
 refine ae.ext λk=>?_;show(ae.opt (R (dG.enc x))).T _=_;rw[h];show(ae.chk ((l.map dG.enc).all (dG.ck (α:=ε))) (ae.ok ((l.map dG.enc).map dG.dec))).T k=k l;rw[show(l.map dG.enc).all (dG.ck (α:=ε))=true by simp[hc],show(l.map dG.enc).map dG.dec=l by rw[qdW];exact(qdg λy _=>hd y).trans (qjR l)];rfl
abbrev zxK(I:Pt (Sl aT)->ae (List (Int×aT))):Prop:=∀l,l.v.len<=60->I l=.ok (bk l.v l.v.len)
theorem zSk{E:zat}(N:Big E.N):zxK (zxz E):=λl h=>by
 refine DI ?_ (λ_=>rfl) (λ_=>rfl);rw[e251];have key:∀d n,d<=l.v.len->d<n->Tn E n l ((d:Int)-1)=some ((bk l.v d).map dG.enc):=by
  intro d
  induction d with
  | zero =>
   intro n _ hn;obtain⟨n,rfl⟩:∃n',n=n'+1:=⟨n-1,omY⟩;rw[zjh,eU omY];rfl
  | succ d ih =>
   intro n hd hn;obtain⟨n,rfl⟩:∃n',n=n'+1:=⟨n-1,omY⟩;rw[zjh,dZ omY,ed,bG omY,show((d+1:Nat):Int)-1=(d:Int)by omega,Ar omY,ih n omY omY,gU];rfl
 rw[Ar omY];exact key _ _ (kC _) omY
abbrev zxL(C:placed×Int->ae (Int×Int)):Prop:=∀q t,Few q.ak->C (q,t)=.ok (uJ q.ak t)
theorem zSl{E:zas}(N:Big E.N)(zSm:zxK E.zsH):zxL (zo1 E):=λq t h=>ae.ext λk=>by
 have hd:=h.1;rw[e224,bn];refine kV (X:=λn i=>MG E n q t (vI q.ak.aT (aO (t-q.ak.dP)) i) (i:Int) (aO (q.ak.aS.tdiv 2)) k) (m:=q.ak.aT.len) (λn i hi=>?_) (λn=>?_) _ omY
 ·rw [zjg,dZ (show(i:Int)<_ by omega),ed,bG omY,bP omY,gU];simp only[vI];cases decide ((q.ak.aT.get i).Time<=aO (t-q.ak.dP))<;>rfl
 ·rw [zjg];simp only [UQ,QV,dS];rw[zSm _ hd,bn];have key:∀d,d<=q.ak.aT.len->Gs E (bk q.ak.aT d) q t (vI q.ak.aT (aO (t-q.ak.dP)) q.ak.aT.len) (zo q.ak.aT (aO (t+q.ak.dP)) (aO (q.ak.aS.tdiv 2)) (q.ak.aT.len-d)) k=k (uJ q.ak t):=by
   intro d
   induction d with
   | zero=>intro _;rw[bk,zo2];rfl
   | succ d ih =>
    intro hi;rw[bk,zxy];have e:q.ak.aT.len-d=(q.ak.aT.len-(d+1))+1:=by omega
    have ih:=ih omY;rw[e]at ih;simp only[zo,show q.ak.aT.len-1-(q.ak.aT.len-(d+1))=d by omega]at ih;revert ih;cases decide ((q.ak.aT.get d).Time>=aO (t+q.ak.dP))<;>exact id
  have:=key q.ak.aT.len (kC _);rwa[Nat.sub_self]at this
def gate(p:ak)(a b:Int):ay:=⟨p.Z,aO (a+p.bC.Low),aO (b+p.bC.High)⟩
def gaP(p:ak)(h:bF):Sl ay :=
  cond (p.Kind != 2)
    (cond (decide (aO (aO (p.First + aO (aO (aO (h.Channel + h.jW) - 1) * p.aS)) - p.dN) > aO (aO (p.First + aO (aO (h.Channel + 1) * p.aS)) + p.dN))) ⟨0, fun _ => default⟩
      ⟨1,λ_=>gate p (aO (aO (p.First+aO (aO (aO (h.Channel+h.jW)-1)*p.aS))-p.dN)) (aO (aO (p.First+aO (aO (h.Channel+1)*p.aS))+p.dN))⟩)
    (cond (decide ((gate p (aO (aO (p.First+aO (h.Channel*p.aS))-(uJ p h.aT).2)) (aO (aO (p.First+aO (h.Channel*p.aS))-(uJ p h.aT).1))).High≥(gate p (aO (aO (p.First+aO (h.Channel*p.aS))+(uJ p h.aT).1)) (aO (aO (p.First+aO (h.Channel*p.aS))+(uJ p h.aT).2))).Low))
      ⟨1,λ_=>⟨p.Z,(gate p (aO (aO (p.First+aO (h.Channel*p.aS))-(uJ p h.aT).2)) (aO (aO (p.First+aO (h.Channel*p.aS))-(uJ p h.aT).1))).Low,(gate p (aO (aO (p.First+aO (h.Channel*p.aS))+(uJ p h.aT).1)) (aO (aO (p.First+aO (h.Channel*p.aS))+(uJ p h.aT).2))).High⟩⟩
      ⟨2,GU [gate p (aO (aO (p.First+aO (h.Channel*p.aS))-(uJ p h.aT).2)) (aO (aO (p.First+aO (h.Channel*p.aS))-(uJ p h.aT).1)),gate p (aO (aO (p.First+aO (h.Channel*p.aS))+(uJ p h.aT).1)) (aO (aO (p.First+aO (h.Channel*p.aS))+(uJ p h.aT).2))]⟩)
theorem zgz(p:ak)(h:bF):(gaP p h).len<=2:=by
 have key:∀(a b c:Bool)(x y z w:Sl ay),x.len<=2->y.len<=2->z.len<=2->w.len<=2->(cond a (cond b x y) (cond c z w)).len<=2:=by
  intro a b c x y z w h1 h2 h3 h4;cases a<;>cases b<;>cases c<;>assumption
 exact key _ _ _ _ _ _ _ (Cf _) (by simp) (by simp) (by simp)
abbrev zxM(C:placed×Int×Int->ae ay):Prop:=∀q a b,C (q,a,b)=.ok (gate q.ak a b)
theorem zSn{E:zoZ}:zxM (zo0 E):=λq a b=>ae.ext λk=>e223 E k q a b
abbrev zxN(C:placed×bF->ae (Sl ay)):Prop:=∀q h,Few q.ak->C (q,h)=.ok (gaP q.ak h)
theorem zSo{E:zoX}(zxu:zxM E.zfH)(zxv:zxL E.zsC):zxN (zoY E):=λq h hf=>ae.ext λk=>by
 rw[e189,bn];simp only[zxu,zxv _ _ hf,bn,kc k];rfl
def yC(s:au)(h:bF):Sl ay:=gaP (s.aj.get h.ak.toNat) h
abbrev Q75(C:au×bF->ae (Sl ay)):Prop:=∀s h,sN s->0<=h.ak/\h.ak<(s.aj.len:Int)->C (s,h)=.ok (yC s h)
theorem s75{E:E75}(zw8:zxJ E.zsl):Q75 (F75 E):=λs h hs hp=>ae.ext λk=>by
 rw[e75,bn,bG hp];simp only[zw8 _ _ (hs.2 h.ak.toNat omY),bn,kc k];rfl
theorem MI{s:au}{h:bF}(hh:mD s h=true):0<=h.ak/\h.ak<s.aj.len:=by
 simp only[mD,gG,pJ]at hh;exact hh.1
theorem zjj{s:au}{h:bF}(hh:mD s h=true):ofP s h=⟨s.aj.get h.ak.toNat,h.ak⟩:=by
 unfold ofP;rw[dZ (MI hh)];rfl
abbrev zxO(C:au×bF->ae (Sl ay×Int)):Prop:=∀s h,sN s->C (s,h)=.ok (cond (fH s&&mD s h) (cond (((yC s h).len:Int)==0) (⟨0,λ_=>default⟩,5) (yC s h,0)) (⟨0,λ_=>default⟩,2))
theorem zSp{E:zoB}(zao:zo6 E.Uj)(Ap:zev E.uN)(zxn:zxN E.zsu):zxO (zoC E):=λs h hs=>ae.ext λk=>by
 rw[zRF,zao s h hs,bn,bn];cases hb:fH s&&mD s h with
 | false=>rfl
 | true =>
  rw[gG]at hb;have hp:=MI hb.2;simp only[OZ,dS,Ap s h hs hb.1,bn,zjj hb.2,zxn ⟨s.aj.get h.ak.toNat,h.ak⟩ h (hs.2 _ omY),kc k];rfl
def qV(r:bJ):Bool:=inB r.uS 1 16&&inB r.zF 0 16
abbrev Q62(C:bJ->ae Bool):Prop:=∀r,C r=.ok (qV r)
theorem s62{E:E62}(h86:BX E.c86):Q62 (F62 E):=λr=>ae.ext λk=>by
 rw[e62];simp only[h86,bn,kc k];congr 1;simp only[qV];cases inB r.uS 1 16<;>rfl
def vwB(x:Int):Bool:=decide (x=1\/x=2)
abbrev QVw(C:Int->ae Bool):Prop:=∀x,C x=.ok (vwB x)
theorem s34{E:E34}:QVw (F34 E):=λx=>ae.ext λk=>by rw[e34,kc k,bn];congr 1;simp only[vwB];grind
theorem s96{E:E96}:QVw (F96 E):=λx=>ae.ext λk=>by rw[e96,kc k,bn];congr 1;simp only[vwB];grind
abbrev Q60(C:au×bJ->ae Int):Prop:=∀s r,sN s->C (s,r)=.ok (cond (fH s&&qV r) 0 2)
theorem s60{E:E60}(zBl:zxG E.zsi)(zdf:BX E.Pi):Q60 (F60 E):=λs r h=>ae.ext λk=>by
 rw[e60];simp only[zBl s h,zdf,bn,kc k,qV];congr 1;cases fH s<;>cases inB r.uS 1 16<;>cases inB r.zF 0 16<;>rfl
def Ce(s:au)(l:Sl bF):Bool:=fG (λi=>mD s (l.get i)) l.len
abbrev Q85(C:au×Sl bF->ae Bool):Prop:=∀s l,sN s->fH s=true->l.len<=40->C (s,l)=.ok (Ce s l)
theorem s85{E:E85}(N:Big E.N)(zw9:zxH E.c143):Q85 (F85 E):=λs l hs hb hl=>ae.ext λk=>by
 rw[e85];refine(loopA (L:=λn v=>zct E n s l v k) (p:=λi=>mD s (l.get i)) (m:=l.len) (fin:=k true) (stop:=k false) omY (λn i hi=>?_) (λn=>?_) _ omY).trans ?_
 ·rw [zt0,dZ (show(i:Int)<_ by omega),ed,bG omY,gU,zw9 _ _ hs hb,bn];cases mD s (l.get i)<;>rfl
 ·rw[zt0];simp only[UQ,QV,dS]
 ·rw[bn];simp only[Ce];cases fG (λi=>mD s (l.get i)) l.len<;>rfl
def gw{α:Type}[bH α](z f:Nat→α):Nat→Sl α
  | 0=>⟨0,z⟩
  | n+1=>⟨n+1,jL n (gw z f n).get λ_=>f n⟩
theorem EO{α:Type}[bH α](z f:Nat->α)(n:Nat):(gw z f n).len=n:=by cases n<;>rfl
theorem Ph{α:Type}[bH α][sQ α]{z f:Nat→α}:∀{n i:Nat},i<n→(gw z f n).get i=f i
  | n+1,i,h=>by
    show jL n (gw z f n).get (λ_=>f n) i=f i;rw[je];by_cases hi:n<=i
    · rw[eX hi,show i=n by omega]
    · rw[fB hi];exact Ph omY
theorem zo7{n b:Nat}(hn:n<=1000000)(hb:b<=1000):room n b=true:=by
 refine dZ ⟨?_,omY⟩;have:=qjH hn hb;omega
theorem jQ{A:Type}{n b:Nat}{x:Option A}(hn:n<=1000000)(hb:b<=1000):aV (room n b) x=x:=by rw[zo7 hn hb];rfl
theorem zo8{p:ak}{h:bF}:(gaP p h).len=0->gaP p h=⟨0,λ_=>default⟩:=by
 have key:∀(a b c:Bool)(y z w:Sl ay),0<y.len->0<z.len->0<w.len->(cond a (cond b (⟨0,λ_=>default⟩:Sl ay) y) (cond c z w)).len=0->cond a (cond b (⟨0,λ_=>default⟩:Sl ay) y) (cond c z w)=⟨0,λ_=>default⟩:=by
  intro a b c y z w h2 h3 h4 h;cases a<;>cases b<;>cases c<;>simp only[ed,dS]at h ⊢ <;> omega
 exact key _ _ _ _ _ _ (by simp) (by simp) (by simp)
def z0:Nat->ay:=λ_=>⟨0,0,0⟩
def evG(s:au)(l:Sl bF):Sl (Sl ay):=gw (λ_=>⟨0,z0⟩) (λi=>yC s (l.get i)) l.len
theorem YZ(s:au)(l:Sl bF):(evG s l).len=l.len:=EO _ _ _
theorem O0{s:au}{l:Sl bF}{i:Nat}(h:i<l.len):(evG s l).get i=yC s (l.get i):=Ph h
def iY(s:au)(r:bJ)(l:Sl bF):Pt aU:=⟨⟨s,l,evG s l,r⟩⟩
def lV(s:au)(r:bJ)(l:Sl bF):Int:=cond (decide (l.len>24)) 3 (cond (fH s&&qV r&&Ce s l) 0 2)
def opn(s:au)(r:bJ)(l:Sl bF):Int ⊕ (Pt aU×Int):=cond (lV s r l==0) (.inr (iY s r l,0)) (.inl (lV s r l))
abbrev Q78(C:au×bJ×Sl bF->ae (Int ⊕ (Pt aU×Int))):Prop:=∀s r l,sN s->l.len<=40->C (s,r,l)=.ok (opn s r l)
theorem s78{E:E78}(N:Big E.N)(h60:Q60 E.c60)(zxi:zxI E.c138)(zxj:zxO E.c139):Q78 (F78 E):=λs r l hs hl=>ae.ext λk=>by
 rw[e78,bn];by_cases h24:(l.len:Int)>24
 ·rw [dZ h24];have:lV s r l=3:=by unfold lV;rw[dZ (show l.len > 24 by omega)];rfl
  simp only[opn,this];rfl
 ·rw [eU h24, dS, h60 s r hs, bn];have e1:lV s r l=cond (fH s && qV r && Ce s l) 0 2:=by unfold lV;rw[eU (show ¬ l.len > 24 by omega)];rfl
  cases hb:fH s&&qV r with
  | false =>
   have:lV s r l=2:=by rw[e1,hb];rfl
   simp only[opn,this];rfl
  | true =>
   have hsb:=(gG _ _▸hb).1;refine(loopA (L:=λn v=>WH E n s r l v (gw (λ_=>⟨0,z0⟩) (λi=>yC s (l.get i)) v.toNat) k) (p:=λi=>mD s (l.get i)) (m:=l.len) (fin:=k (.inr (iY s r l,0))) (stop:=k (.inl 2)) omY (λn i hi=>?_) (λn=>?_) _ omY).trans ?_
   ·rw [zt2,dZ (show(i:Int)<_ by omega),ed,bG omY,gU,zxi _ _ hs,bn,hsb,OY];cases hh:mD s (l.get i)with
    | false=>rfl
    | true =>
     rw[zxj _ _ hs,bn,hsb,hh];have e2:WI E n s r l (yC s (l.get i)) (i:Int) (gw (λ_=>⟨0,z0⟩) (λi=>yC s (l.get i)) i) k=WH E n s r l (aO ((i:Int)+1)) (gw (λ_=>⟨0,z0⟩) (λi=>yC s (l.get i)) (aO ((i:Int)+1)).toNat) k:=by
      rw[zF7,EO,jQ omY omY,bP omY,gU];rfl
     by_cases h0:(yC s (l.get i)).len=0
     ·have e3 : ((yC s (l.get i)).len : Int) == 0 := by rw [h0]; rfl
      simp only[e3,qjQ,ed];show WI E n s r l ⟨0,λ_=>default⟩ _ _ k=_;rw[<- zo8 (p:=s.aj.get (l.get i).ak.toNat) (h:=l.get i) h0];exact e2
     ·have e3 : (((yC s (l.get i)).len : Int) == 0) = false := by rw [qdz]; omega
      simp only[e3,qjQ,ed,dS];exact e2
   ·rw[zt2];simp only[UQ,QV,dS,gU];rfl
   ·have : lV s r l = cond (Ce s l) 0 2 := by rw [e1, hb]; rfl
    simp only[opn,this,Ce];cases fG (λi=>mD s (l.get i)) l.len<;>rfl
def usB(l:Sl bF)(w:Sl Int)(n:Nat)(p:Int):Bool:=fG (λj=>!decide ((l.get (w.get j).toNat).ak=p)) n
abbrev Q87(C:Sl bF×Sl Int×Int->ae Bool):Prop:=∀l w p,w.len<=100->(∀j,j<w.len->0<=w.get j/\w.get j<l.len)->C (l,w,p)=.ok (!usB l w w.len p)
theorem s87{E:E87}(N:Big E.N):Q87 (F87 E):=λl w p hw hv=>ae.ext λk=>by
 rw[e87,bn];refine(loopA (L:=λn v=>zcu E n l w p v k) (p:=λj=>!decide ((l.get (w.get j).toNat).ak=p)) (m:=w.len) (fin:=k false) (stop:=k true) omY (λn i hi=>?_) (λn=>?_) _ omY).trans ?_
 ·have:=hv i hi;rw[zt1,dZ (show(i:Int)<_ by omega),ed,bG omY,gU,bG omY];show cond ((l.get (w.get i).toNat).ak==p) _ _=cond (!((l.get (w.get i).toNat).ak==p)) _ _;cases(l.get (w.get i).toNat).ak==p<;>rfl
 ·rw[zt1];simp only[UQ,QV,dS]
 ·simp only[usB];cases fG (λj=>!decide ((l.get (w.get j).toNat).ak=p)) w.len<;>rfl
def hiA(l:Sl bF)(t:af)(i:Nat):bF:=l.get (t.Hits.get i).toNat
def chP(s:au)(l:Sl bF)(t:af)(i:Nat):Bool :=
 inB (t.Hits.get i) 0 ((l.len:Int)-1)&&(decide (i=0)||decide (t.Hits.get (i-1)<t.Hits.get i))&&decide ((s.aj.get (hiA l t i).ak.toNat).View=t.View)&&inB (t.bz.get i) 0 (((yC s (hiA l t i)).len:Int)-1)&&usB l t.Hits i (hiA l t i).ak
def O1(s:au)(l:Sl bF)(t:af):Bool:=vwB t.View&&decide (0<t.Hits.len)&&decide (t.bz.len=t.Hits.len)&&fG (chP s l t) t.Hits.len
structure Evt (s : au) (l : Sl bF) : Prop where
  sh:sN s
  se:fH s=true
  hi:Ce s l=true
  le:l.len<=40
theorem Evt.pl{s:au}{l:Sl bF}(h:Evt s l){i:Nat}(hi:i<l.len):0<=(l.get i).ak/\(l.get i).ak<s.aj.len:=MI (dI.1 h.hi i hi)
theorem WM{s:au}{l:Sl bF}{t:af}{i:Nat}(h:chP s l t i=true):0<=t.Hits.get i/\t.Hits.get i<l.len:=by
 simp only[chP,gG,inB,pJ]at h;omega
theorem WN{s:au}{l:Sl bF}{t:af}{i:Nat}(h:chP s l t i=true):0<=t.bz.get i/\t.bz.get i<(yC s (hiA l t i)).len:=by
 simp only[chP,gG,inB,pJ]at h;omega
/-! The program. -/
abbrev zvx(C:Pt aU×Int->ae Int):Prop:=∀s l r i,Evt s l->0<=i/\i<(l.len:Int)->C (iY s r l,i)=.ok (s.aj.get (l.get i.toNat).ak.toNat).View
theorem zSt{E:zot}:zvx (zou E):=λs l r i he hi=>ae.ext λk=>by
 have hp:=he.pl (i:=i.toNat) omY;exact(zRy E k _ _).trans ((bG (p:=0<=i/\i<(l.len:Int)) hi).trans (bG (p:=0<=(l.get i.toNat).ak/\(l.get i.toNat).ak<(s.aj.len:Int)) hp))
def mfS(l:Sl bF)(t:af):Nat→List Int→Option (List Int)
  | 0=>λ_=>none
  | i+1=>IG [(hiA l t i).ak] [1] (mfS l t i)
def mnS(l:Sl bF)(t:af):Nat→Nat
  | 0=>0
  | i+1=>addN (mfS l t i [(hiA l t i).ak]) (mnS l t i)
theorem zWV{l:Sl bF}{t:af}{p:Int}:∀i,(EN (mfS l t i [p]) 0 != 0) = !usB l t.Hits i p
  | 0=>rfl
  | i+1=>by
    simp only[mfS,IG,usB,fG];by_cases h:(hiA l t i).ak=p
    · rw[dZ (show [p]=[(hiA l t i).ak]by rw[h]),dZ (show(l.get (t.Hits.get i).toNat).ak=p from h)];simp[EN]
    · rw [eU (show ¬ [p]=[(hiA l t i).ak]by intro e;cases e;exact h rfl),eU (show ¬(l.get (t.Hits.get i).toNat).ak=p from h)];have:=zWV (l:=l) (t:=t) (p:=p) i;simp only[usB]at this;simp only[this,qdU,qje]
abbrev Q79(C:Pt aU×af->ae Bool):Prop:=∀s l r t,Evt s l->t.Hits.len<=30->t.bz.len<=30->C (iY s r l,t)=.ok (O1 s l t)
theorem s79{E:E79}(N:Big E.N)(zdf:BX E.Pi)(zmA:zvx E.Y6)(h96:QVw E.c96):Q79 (F79 E):=λs l r t he ht hs=>ae.ext λk=>by
  have hle:=he.le;rw[e79,bn];refine(zBU (L:=λn v=>zDm E n (iY s r l) t v (mnS l t v.toNat) (mfS l t v.toNat) k) (p:=λi=>chP s l t i&&decide (i<t.bz.len)) (m:=t.Hits.len) (fin:=k (vwB t.View&&decide (0<t.Hits.len)&&decide (t.bz.len=t.Hits.len))) (stop:=k false) omY (λn i hi hp=>?_) (λn _=>?_) _ omY).trans ?_
  · rw [z1i,dZ (show(i:Int)<_ by omega),ed,bG omY,gU,show(iY s r l).v.hits=l from rfl,Ar omY,zdf,bn];cases c1:inB (t.Hits.get i) 0 ((l.len:Int)-1)with
    | false=>simp only[chP,c1,qdf];rfl
    | true =>
    have c1':0<=t.Hits.get i/\t.Hits.get i<(l.len:Int):=by simp only[inB,pJ]at c1;omega
    have Ob:=he.pl (i:=(t.Hits.get i).toNat) omY;have hg:=zgz (s.aj.get (hiA l t i).ak.toNat) (hiA l t i);have hgg:(iY s r l).v.kW.get (t.Hits.get i).toNat=yC s (hiA l t i):=O0 omY;have hgl:((iY s r l).v.kW.len:Int)=l.len:=by show((evG s l).len:Int)=l.len;rw[YZ]
    have e2:zJ3 E n (iY s r l) t (t.Hits.get i) (i:Int) (mnS l t i) (mfS l t i) k=zDm E n (iY s r l) t (aO ((i:Int)+1)) (mnS l t (aO ((i:Int)+1)).toNat) (mfS l t (aO ((i:Int)+1)).toNat) k:=by
      rw[z8Y,bG (by exact c1'),bP omY,gU];rfl
    have c2 : ∀ X : Option _, (E.Y6 (iY s r l, t.Hits.get i)).T (fun r2 => cond (r2 != t.View) X (aV (decide (0 ≤ t.Hits.get i ∧ t.Hits.get i < (l.len : Int))) (cond (EN (mfS l t i [(l.get (t.Hits.get i).toNat).ak]) 0 != 0) X
        (cond (decide ((i:Int)≥(t.bz.len:Int))) X (aV (decide (0≤(i:Int)∧(i:Int)<(t.bz.len:Int))) (aV (decide (0≤t.Hits.get i∧t.Hits.get i<((iY s r l).v.kW.len:Int)))
          ((E.Pi (t.bz.get i,0,aO ((((iY s r l).v.kW.get (t.Hits.get i).toNat).len:Int)-1))).T λr3=>cond (!r3) X (zJ3 E n (iY s r l) t (t.Hits.get i) (i:Int) (mnS l t i) (mfS l t i) k))))))))
        = cond (decide ((s.aj.get (hiA l t i).ak.toNat).View=t.View)&&usB l t.Hits i (hiA l t i).ak&&decide (i<t.bz.len)&&inB (t.bz.get i) 0 (((yC s (hiA l t i)).len:Int)-1)) (zDm E n (iY s r l) t (aO ((i:Int)+1)) (mnS l t (aO ((i:Int)+1)).toNat) (mfS l t (aO ((i:Int)+1)).toNat) k) X:=by
      intro X;rw[zmA s l r _ he c1',bn,bG c1',zWV,hgg,hgl,bG c1',zdf,bn,e2,Ar (by simp only[yC];omega)];by_cases hS:i<t.bz.len
      · rw [eU (show ¬ (i : Int) ≥ (t.bz.len : Int) by omega), bG omY, dZ hS];by_cases v:(s.aj.get (hiA l t i).ak.toNat).View=t.View
        · rw [show((s.aj.get (l.get (t.Hits.get i).toNat).ak.toNat).View != t.View)=false from jqr.2 v,dZ v];show cond (!usB l t.Hits i (hiA l t i).ak) _ _=_;cases usB l t.Hits i (hiA l t i).ak<;>cases inB (t.bz.get i) 0 (((yC s (hiA l t i)).len:Int)-1)<;>rfl
        · rw[show((s.aj.get (l.get (t.Hits.get i).toNat).ak.toNat).View != t.View)=true from jqA.2 v,eU v];rfl
      · rw [dZ (show(i:Int)≥(t.bz.len:Int)by omega),eU hS];simp only[qds,qdf,ed,dS];cases(s.aj.get (l.get (t.Hits.get i).toNat).ak.toNat).View != t.View<;>cases usB l t.Hits i (l.get (t.Hits.get i).toNat).ak<;>rfl
    simp only[OZ,dS];by_cases h0:(i:Int)>0
    · obtain ⟨p1, p2⟩ := zcw (n := t.Hits.len) hi omY h0;rw[dZ h0,ed,bG p1,p2];by_cases d:t.Hits.get i<=t.Hits.get (i - 1)
      · rw [dZ d];have:chP s l t i=false:=by simp only[chP,eU (show ¬ i=0 by omega),eU (show ¬ t.Hits.get (i - 1) < t.Hits.get i by omega),qzf,qds,qdf]
        rw[this];rfl
      · rw [eU d, dS];refine (c2 _).trans ?_;congr 1;simp only[chP,c1,dZ (show t.Hits.get (i - 1) < t.Hits.get i by omega),jqg,OY]
        ac_rfl
    · rw [eU h0, dS];refine (c2 _).trans ?_;congr 1;simp only[chP,c1,dZ (show i=0 by omega),jqh,OY]
      ac_rfl
  · rw [z1i];simp only [UQ,QV,dS,h96,bn];rw[kc k,kc k];congr 1;cases vwB t.View<;>simp<;>grind
  · rw [zgt]; congr 1;simp only[O1];by_cases h3:t.bz.len=t.Hits.len
    · have : fG (fun i => chP s l t i && decide (i < t.bz.len)) t.Hits.len = fG (chP s l t) t.Hits.len := Gt fun i hi => by rw [dZ omY, qje]
      rw[this,jq3]
    · simp only[h3,QV,qds,qdf]
theorem MJ{α:Type}[bH α]{z f g:Nat→α}:∀{n:Nat},(∀i,i<n→f i=g i)→gw z f n=gw z g n
  | 0,_=>rfl
  | n+1,h=>by simp only[gw,MJ (n:=n) λi hi=>h i omY,h n omY]
def gtS(s:au)(l:Sl bF)(t:af):Sl ay:=gw z0 (λi=>(yC s (hiA l t i)).get (t.bz.get i).toNat) t.Hits.len
theorem zf2{s:au}{l:Sl bF}{t:af}(h:O1 s l t=true):t.bz.len=t.Hits.len/\∀i,i<t.Hits.len->chP s l t i=true:=by
 simp only[O1,gG,pJ,dI]at h;exact⟨h.1.2,h.2⟩
abbrev Q65(C:au×Sl bF×af->ae (Sl ay)):Prop:=∀s l t,Evt s l->t.Hits.len<=30->O1 s l t=true->C (s,l,t)=.ok (gtS s l t)
theorem s65{E:E65}(N:Big E.N)(h75:Q75 E.c75):Q65 (F65 E):=λs l t he ht hc=>ae.ext λk=>by
 obtain⟨h1,h2⟩:=zf2 hc;rw[e65,bn];refine kV (X:=λn i=>zcs E n s l t (i:Int) (gw z0 (λi=>(yC s (hiA l t i)).get (t.bz.get i).toNat) i) k) (m:=t.Hits.len) (λn i hi=>?_) (λn=>?_) _ omY
 ·have a1:=WM (h2 i hi);have a2:0<=t.bz.get i/\t.bz.get i<((yC s (l.get (t.Hits.get i).toNat)).len:Int):=WN (h2 i hi);have Ob:=he.pl (i:=(t.Hits.get i).toNat) omY;rw[ztZ,dZ (show(i:Int)<_ by omega),ed,bG omY,gU,bG omY,h75 _ _ he.sh Ob,bn,bG omY,bG a2,EO,jQ omY omY,bP omY];rfl
 ·rw[ztZ];simp only[UQ,QV,dS];rfl
abbrev zjk(C:Pt aU×af->ae (Sl ay)):Prop:=∀s l r t,Evt s l->t.Hits.len<=2100->O1 s l t=true->C (iY s r l,t)=.ok (gtS s l t)
theorem zSu{E:zep}(N:Big E.N):zjk (zos E):=λs l r t he ht hc=>ae.ext λk=>by
 obtain⟨h1,h2⟩:=zf2 hc;have e:gtS s l t=gw z0 (λi=>((evG s l).get (t.Hits.get i).toNat).get (t.bz.get i).toNat) t.Hits.len:=MJ λi hi=>by
  have a1:=WM (h2 i hi);rw[O0 omY];rfl
 rw[zRu,bn,e];refine kV (X:=λn i=>Tj E n (iY s r l) t (i:Int) (gw z0 (λi=>((evG s l).get (t.Hits.get i).toNat).get (t.bz.get i).toNat) i) k) (m:=t.Hits.len) (λn i hi=>?_) (λn=>?_) _ omY
 ·have a1 := WM (h2 i hi);have a2:=WN (h2 i hi);have a3:0<=t.Hits.get i/\t.Hits.get i < ((iY s r l).v.kW.len:Int):=by show _/\t.Hits.get i < ((evG s l).len:Int);rw[YZ];omega
  have a4:0<=t.bz.get i/\t.bz.get i<(((iY s r l).v.kW.get (t.Hits.get i).toNat).len:Int):=by
   show _/\t.bz.get i<(((evG s l).get (t.Hits.get i).toNat).len:Int);rw[O0 omY];exact a2
  rw[zi8,dZ (show(i:Int)<_ by omega),ed,bG omY,gU,bG a3,bG omY,bG a4,EO,jQ omY omY,bP omY];rfl
 ·rw[zi8];simp only[UQ,QV,dS]
abbrev zWW(C:Unit->ae bJ):Prop:=C ()=.ok ⟨1,0⟩
theorem z8Z{E:zNc}:zWW (zNd E):=ae.ext λk=>e108 E k
abbrev Q26(C:au×bJ×Sl bF->ae Int):Prop:=∀s r l,sN s->l.len<=40->C (s,r,l)=.ok (lV s r l)
theorem s26{E:E26}(h61:QSe E.c61)(h62:Q62 E.c62)(h85:Q85 E.c85):Q26 (F26 E):=λs r l hs hl=>ae.ext λk=>by
 rw[e26,bn];by_cases h24:(l.len:Int)>24
 ·rw[dZ h24];simp only[lV,dZ (show l.len>24 by omega),ed]
 ·rw [eU h24,dS,h61 s hs,bn];simp only[lV,eU (show ¬l.len>24 by omega),dS,h62,bn];cases hb:fH s with
  | false=>rfl
  | true =>
   cases qV r with
   | false=>rfl
   | true =>
    simp only[h85 s l hs hb hl,bn];cases Ce s l<;>rfl
theorem E8{s:au}{r:bJ}{l:Sl bF}(hs:sN s)(h:lV s r l=0):Evt s l/\qV r=true/\l.len<=24:=by
 unfold lV at h;by_cases h24:l.len>24
 ·rw[dZ h24]at h;cases h
 ·rw [eU h24,dS]at h;cases e:fH s&&qV r&&Ce s l with
  | false=>rw[e]at h;cases h
  | true =>
   simp only[gG]at e;exact⟨⟨hs,e.1.1,e.2,omY⟩,e.1.2,omY⟩
abbrev Q47(C:au×Sl bF×af->ae (Sl ay×Int)):Prop:=∀s l t,sN s->l.len<=40->t.Hits.len<=30->t.bz.len<=30 ->
 C (s,l,t)=.ok (cond (lV s ⟨1,0⟩ l==0) (cond (O1 s l t) (gtS s l t,0) (⟨0,λ_=>default⟩,2)) (⟨0,λ_=>default⟩,lV s ⟨1,0⟩ l))
theorem s47{E:E47}(zWU:zWW E.zNi)(h78:Q78 E.c78)(h79:Q79 E.c79)(NT:zjk E.c105):Q47 (F47 E):=λs l t hs hl ht hd=>ae.ext λk=>by
 rw[e47,zWU,bn,h78 s _ l hs hl,bn,bn,opn];cases e:lV s ⟨1,0⟩ l==0 with
 | false =>
  show cond (lV s ⟨1,0⟩ l != 0) _ _=_;rw[show(lV s ⟨1,0⟩ l != 0)=true by rw[bne,e];rfl];rfl
 | true =>
  obtain⟨he,_,_⟩:=E8 hs (eq_of_beq e);show(E.c79 (iY s ⟨1,0⟩ l,t)).T _=_;rw[h79 s l _ t he ht hd,bn];cases hc:O1 s l t with
  | false=>rfl
  | true =>
   show(E.c105 (iY s ⟨1,0⟩ l,t)).T _=_;rw[NT s l _ t he omY hc,bn];rfl
def zew(s:au)(l:Sl bF)(m:Int):Bool:=decide (s.aj.len<=20)&&(decide ((l.len:Int)<=m)||decide (l.len>24))&&decide (l.len<=40)&&fG (λi=>decide ((s.aj.get i).aT.len<=60/\(s.aj.get i).Dead.len<=110)) s.aj.len
abbrev Q23(C:au×Sl bF×Int->ae Bool):Prop:=∀s l m,C (s,l,m)=.ok (zew s l m)
theorem s23{E:E23}(N:Big E.N):Q23 (F23 E):=λs l m=>ae.ext λk=>by
 rw[e23,bn];by_cases h20:(s.aj.len:Int)>20
 ·rw[dZ h20];simp only[zew,eU (show ¬s.aj.len<=20 by omega),qdf,ed]
 ·have lp:L8 E E.N s 0 k=k (fG (λi=>decide ((s.aj.get i).aT.len<=60/\(s.aj.get i).Dead.len<=110)) s.aj.len):=by
   refine(loopA (L:=λn v=>L8 E n s v k) (p:=λi=>decide ((s.aj.get i).aT.len<=60/\(s.aj.get i).Dead.len<=110)) (m:=s.aj.len) (fin:=k true) (stop:=k false) omY (λn i hi=>?_) (λn=>?_) _ omY).trans ?_
   ·rw [ztX,dZ (show(i:Int)<_ by omega),ed,bG omY,bG omY,gU];obtain⟨f,h1,h2⟩:=two (L8 E n s (aO ((i:Int)+1)) k) (k false);rw[<- h1,<- h2,kc f,kc f,kc f];congr 1;grind
   ·rw[ztX];simp only[UQ,QV,dS]
   ·cases fG (λi=>decide ((s.aj.get i).aT.len<=60/\(s.aj.get i).Dead.len<=110)) s.aj.len<;>rfl
  rw[eU h20,dS,lp];simp only[kc k,zew];congr 1;generalize fG (λi=>decide ((s.aj.get i).aT.len<=60/\(s.aj.get i).Dead.len<=110)) s.aj.len=B
  grind
theorem zxQ{s:au}{l:Sl bF}{m:Int}(h:zew s l m=true):sN s/\l.len<=40/\((l.len:Int)<=m\/24<l.len):=by
 simp only[zew,gG,pJ,Zb,dI]at h;exact⟨⟨h.1.1.1,λi hi=>h.2 i hi⟩,h.1.2,h.1.1.2⟩
def yD(s:au)(l:Sl bF)(i:Nat):Nat:=(yC s (l.get i)).len
theorem GV(s:au)(l:Sl bF)(i:Nat):yD s l i<=2:=zgz _ _
def QN(s:au)(l:Sl bF)(i:Nat):Int:=(s.aj.get (l.get i).ak.toNat).View
def sdK(i:Int):Nat→Nat→List (Int×Int)
  | 0,_=>[]
  | d+1,k=>(i,(k:Int))::sdK i d (k+1)
def sdL(s:au)(l:Sl bF)(x:Int):Nat→Nat→List (Int×Int)
  | 0,_=>[]
  | d+1,i=>cond (QN s l i==x) (sdK i (yD s l i) 0) []++sdL s l x d (i+1)
abbrev zvL(I:Pt Int×Pt (Pt aU)×Pt Int->ae (List (Int×Int))):Prop:=∀s l r x (fr:Nat),Evt s l->fr<=l.len->I (⟨fr⟩,⟨iY s r l⟩,⟨x⟩)=.ok (sdL s l x (l.len-fr) fr)
theorem zSw{E:WJ}(N:Big E.N)(zmA:zvx E.Y6):zvL (zxm E):=λs l r x fr he hfr=>by
 refine DI ?_ (λ_=>rfl) (λ_=>rfl);refine(zRw E _ _ _).trans ?_;have hl:=he.le;have key:∀d n (i:Nat),i+d=l.len->d<n->MB E n ⟨iY s r l⟩ ⟨x⟩ (i:Int)=some ((sdL s l x d i).map dG.enc):=by
  intro d
  induction d with
  | zero =>
   intro n i hi hn;obtain⟨n,rfl⟩:∃n',n=n'+1:=⟨n-1,omY⟩;exact(zi9 E n _ _ _).trans (zGl (p:=(i:Int)<(l.len:Int)) omY)
  | succ d ih =>
   intro n i hi hn;obtain⟨n,rfl⟩:∃n',n=n'+1:=⟨n-1,omY⟩;have nx:=ih n (i+1) omY omY;refine(zi9 E n _ _ _).trans ((zGk (p:=(i:Int)<(l.len:Int)) omY).trans ?_);rw[bP omY,nx];show(E.Y6 (iY s r l,(i:Int))).T _=_;rw[zmA s l r _ he omY,bn,gU];show cond (QN s l i != x) _ _=_;rw[sdL];cases hv:QN s l i==x with
   | false=>rw[show(QN s l i != x)=true by rw[bne,hv];rfl];rfl
   | true =>
    rw[show(QN s l i != x)=false by rw[bne,hv];rfl,dS,ed];have hg:((iY s r l).v.kW.get i)=yC s (l.get i):=O0 omY;have hgl:(iY s r l).v.kW.len=l.len:=YZ s l;have inn:∀e m (k:Nat),k+e=yD s l i->e<m->MC E n m ⟨iY s r l⟩ ⟨x⟩ (i:Int) (yD s l i:Int) (k:Int)=some ((sdK i e k++sdL s l x d (i+1)).map dG.enc):=by
     have hg2:=GV s l i;intro e
     induction e with
     | zero =>
      intro m k hk hm;obtain⟨m,rfl⟩:∃n',m=n'+1:=⟨m-1,omY⟩;rw[zja,eU omY,dS,bP omY,nx];rfl
     | succ e ih2 =>
      intro m k hk hm;obtain⟨m,rfl⟩:∃n',m=n'+1:=⟨m-1,omY⟩;rw[zja,dZ omY,ed,bP omY,ih2 m (k+1) omY omY];rfl
    have hg2:=GV s l i;rw[bG (by rw[hgl];omega)];show MC E n E.N ⟨iY s r l⟩ ⟨x⟩ (i:Int) (((iY s r l).v.kW.get (i:Int).toNat).len:Int) ((0:Nat):Int)=_;rw[gU,hg];exact inn _ _ _ omY omY
 exact key _ _ _ omY omY
abbrev Q19(C:Unit->ae Bool):Prop:=C ()=.ok true
structure E20 where
  N:Nat
  c72:au×bJ×(Sl bF)×(Sl Bool)->ae (Int ⊕ ((Pt found)×Int))
def F20(E:E20):au×bJ×(Sl bF)->ae ((Sl af)×Int):=iK E.N (Tabs.nil.addF 72 (ae.unA E.c72)) 20
theorem e20(E:E20){A:Type}(k:((Sl af)×Int)→Option A)(a0:au)(a1:bJ)(a2:Sl bF):(F20 E (a0,a1,a2)).T k =
  (E.c72 (a0,a1,a2,(⟨0,λ_=>default⟩:(Sl Bool)))).T λr1=>zmz r1
  (λr1=>cond (r1 != 0)
 (k ((⟨0,λ_=>default⟩:(Sl af)),r1))
 (none))
  (λr1=>cond (r1.2 != 0)
 (k ((⟨0,λ_=>default⟩:(Sl af)),r1.2))
 (k (r1.1.v.aW,0))):=dV
theorem o20 [aJ](E:E20)(h72:Ok aH 72 (ae.unA E.c72)):Ok aH 20 (ae.un (F20 E)):=dW (ax.nil.addF h72)
structure E28 where
  N:Nat
  v88:au×bJ×(Sl bF)×Int->ae (Sl af×Bool)
def F28(E:E28):au×bJ×(Sl bF)->ae ((Sl af)×Bool):=iK E.N (Tabs.nil.addO 88 (.mkv 43 3 56 (ae.unV E.v88))) 28
theorem e28(E:E28){A:Type}(k:((Sl af)×Bool)→Option A)(a0:au)(a1:bJ)(a2:Sl bF):(F28 E (a0,a1,a2)).T k =
  (E.v88 (a0,a1,a2,1)).T λr1 =>
  (E.v88 (a0,a1,a2,2)).T λr2 =>
  aV (room (r1.1.len+r2.1.len) 56) (cond r1.2
 (k ((⟨(r1.1.len+r2.1.len),(jL r1.1.len r1.1.get r2.1.get)⟩:(Sl af)),r2.2))
 (k ((⟨(r1.1.len+r2.1.len),(jL r1.1.len r1.1.get r2.1.get)⟩:(Sl af)),false))):=dV
theorem o28 [aJ](E:E28)(x88:gz aH 88 (.mkv 43 3 56 (ae.unV E.v88))):Ok aH 28 (ae.un (F28 E)):=dW (ax.nil.addO x88)
structure E38 where
  N:Nat
abbrev G38(E:E38):bU:=gY Tabs.nil []
def A38:dK:=bY aH 38 [] {cut:=[8,10]}
def F38(E:E38):(Sl Int)×(Sl Int)->ae Int:=ae.ty (aF aH E.N (G38 E) A38 38)
section
variable(E:E38){A:Type}(k:Int->Option A)
def zcx(E:E38)(n:Nat)(a0 a1:Sl Int)(v5:Int){A:Type}(k:Int->Option A):Option A :=
  iP aH (G38 E) E.N A38 38 [1,0,1,0] [.n n] (iO k)
    ⟨[(0,eP a0),(1,eP a1),(5,.int v5)],[],[]⟩
def zjl(E:E38)(a0 a1:Sl Int){A:Type}(k:Int->Option A):Option A :=
  iP aH (G38 E) E.N A38 38 [1,1] [] (iO k)
    ⟨[(0,eP a0),(1,eP a1)],[],[]⟩
def zt7(E:E38)(a0 a1:Sl Int){A:Type}(k:Int->Option A):Option A :=
  iP aH (G38 E) E.N A38 38 [1,1,1] [] (iO k)
    ⟨[(0,eP a0),(1,eP a1)],[],[]⟩
theorem e38(a0 a1:Sl Int):(F38 E (a0,a1)).T k =
  zcx E E.N a0 a1 0 k:=dV
theorem zt8(n0:Nat)(a0 a1:Sl Int)(v5:Int):zcx E (n0+1) a0 a1 v5 k =
  cond (decide (v5<(a0.len:Int)))
  (cond (decide (v5<(a1.len:Int)))
 (aV (decide (0<=v5/\v5<(a0.len:Int))) (aV (decide (0<=v5/\v5<(a1.len:Int))) (cond (decide (a0.get v5.toNat<a1.get v5.toNat))
 (k (-1))
 (aV (decide (0<=v5/\v5<(a0.len:Int))) (aV (decide (0<=v5/\v5<(a1.len:Int))) (cond (decide (a0.get v5.toNat>a1.get v5.toNat))
 (k 1)
 (zcx E n0 a0 a1 (aO (v5+1)) k)))))))
 (zjl E a0 a1 k))
  (zjl E a0 a1 k):=krY
theorem zt9(a0 a1:Sl Int):zjl E a0 a1 k =
  cond (decide ((a0.len:Int)<(a1.len:Int)))
  (k (-1))
  (zt7 E a0 a1 k):=krY
theorem zua(a0 a1:Sl Int):zt7 E a0 a1 k =
  cond (decide ((a0.len:Int)>(a1.len:Int)))
  (k 1)
  (k 0):=krY
end
theorem o38 [aJ](E:E38):Ok aH 38 (ae.un (F38 E)):=dW ax.nil
structure E50 where
  N:Nat
  zsf:au×(Sl bF)->ae Int
  uN:au×bF->ae (placed×Bool)
  za1:placed×bF->ae bZ
abbrev G50(E:E50):bU:=gY (((Tabs.nil.addF 111 (ae.un E.zsf)).addF 112 (ae.un E.uN)).addF 113 (ae.un E.za1)) []
def A50:dK:=bY aH 50 [] {}
def F50(E:E50):au×(Sl bF)->ae (bZ×Int):=ae.ty (aF aH E.N (G50 E) A50 50)
section
variable(E:E50){A:Type}(k:(bZ×Int)->Option A)
def zcy(E:E50)(n:Nat)(a0:au)(a1:Sl bF)(v42:Int)(x9:bZ){A:Type}(k:(bZ×Int)->Option A):Option A :=
  iP aH (G50 E) E.N A50 50 [1,1,1,1,1,0,1,0] [.n n] (iO k)
    ⟨[(2,.cl (.ptr 2 0)),(4,.cl (.ptr 4 0)),(9,.cl (.ptr 9 0)),(40,.cl (.p (.sl (((a1.len:Int):Int)-1).toNat 6 (λi=>bH.enc ((EM a1.get 1) i))))),(41,.int ((((a1.len:Int):Int)-1).toNat:Int)),(42,.int v42)],[(2,eB 24 a0),(4,.box 105 [.p (.int .i64 0),.p (.int .i64 0)]),(9,eB 105 x9)],[]⟩
theorem e50(a0:au)(a1:Sl bF):(F50 E (a0,a1)).T k =
  (E.zsf (a0,a1)).T λr1 =>
  cond (r1 != 0)
  (k ((⟨0,0⟩:bZ),r1))
  (cond ((a1.len:Int)==0)
 (k ((⟨0,0⟩:bZ),2))
 (aV (decide ((0:Int)<=0/\0<(a1.len:Int))) ((E.uN (a0,(a1.get 0))).T λr2 =>
 aV (decide ((0:Int)<=0/\0<(a1.len:Int))) ((E.za1 (r2.1,(a1.get 0))).T λr3 =>
 aV (decide ((0:Int)<=1/\(1:Int)<=(a1.len:Int)/\(a1.len:Int)<=(a1.len:Int))) (zcy E E.N a0 a1 0 r3 k))))):=dV
theorem zue(n0:Nat)(a0:au)(a1:Sl bF)(v42:Int)(x9:bZ):zcy E (n0+1) a0 a1 v42 x9 k =
  cond (decide (v42<((((a1.len:Int):Int)-1).toNat:Int)))
  (aV (decide (0<=v42/\v42<((((a1.len:Int):Int)-1).toNat:Int))) ((E.uN (a0,((EM a1.get 1) v42.toNat))).T λr1 =>
 (E.za1 (r1.1,((EM a1.get 1) v42.toNat))).T λr2 =>
 zcy E n0 a0 a1 (aO (v42+1)) (⟨(if r2.Low>x9.Low then r2.Low else x9.Low),(if r2.High<x9.High then r2.High else x9.High)⟩:bZ) k))
  (cond (decide (x9.Low>x9.High))
 (k ((⟨0,0⟩:bZ),5))
 (k (x9,0))):=krY
end
theorem o50 [aJ](E:E50)(zxR:Ok aH 111 (ae.un E.zsf))(Ap:Ok aH 112 (ae.un E.uN))(zo9:Ok aH 113 (ae.un E.za1)):Ok aH 50 (ae.un (F50 E)):=dW (((ax.nil.addF zxR).addF Ap).addF zo9)
structure E53 where
  N:Nat
abbrev G53(E:E53):bU:=gY Tabs.nil []
def A53:dK:=bY aH 53 [] {cut:=[7]}
def F53(E:E53):af×af->ae Bool:=ae.ty (aF aH E.N (G53 E) A53 53)
section
variable(E:E53){A:Type}(k:Bool->Option A)
def zcz(E:E53)(n:Nat)(a0 a1:af)(v5 v6:Int){A:Type}(k:Bool->Option A):Option A :=
  iP aH (G53 E) E.N A53 53 [1,1,0,1,0] [.n n] (iO k)
    ⟨[(2,.cl (.ptr 2 0)),(3,.cl (.ptr 3 0)),(5,.int v5),(6,.int v6)],[(2,eB 43 a0),(3,eB 43 a1)],[]⟩
def Qw(E:E53)(n0 n:Nat)(a0 a1:af)(v5 v6:Int){A:Type}(k:Bool->Option A):Option A :=
  iP aH (G53 E) E.N A53 53 [1,1,0,1,0,0,1,0,0,0,0] [.n n0,.n n] (iO k)
    ⟨[(2,.cl (.ptr 2 0)),(3,.cl (.ptr 3 0)),(5,.int v5),(6,.int v6)],[(2,eB 43 a0),(3,eB 43 a1)],[]⟩
def WP(E:E53)(n0:Nat)(a0 a1:af)(v5 v6:Int){A:Type}(k:Bool->Option A):Option A :=
  iP aH (G53 E) E.N A53 53 [1,1,0,1,0,0,1,0,0,1] [.n n0] (iO k)
    ⟨[(2,.cl (.ptr 2 0)),(3,.cl (.ptr 3 0)),(5,.int v5),(6,.int v6)],[(2,eB 43 a0),(3,eB 43 a1)],[]⟩
theorem e53(a0 a1:af):(F53 E (a0,a1)).T k =
  zcz E E.N a0 a1 0 0 k:=dV
theorem zug(n0:Nat)(a0 a1:af)(v5 v6:Int):zcz E (n0+1) a0 a1 v5 v6 k =
  cond (decide (v6<(a1.Hits.len:Int)))
  (Qw E n0 E.N a0 a1 v5 v6 k)
  (k (a0.View==a1.View)):=krY
theorem zuh(n0 n1:Nat)(a0 a1:af)(v5 v6:Int):Qw E n0 (n1+1) a0 a1 v5 v6 k =
  cond (decide (v5<(a0.Hits.len:Int)))
  (aV (decide (0<=v5/\v5<(a0.Hits.len:Int))) (aV (decide (0<=v6/\v6<(a1.Hits.len:Int))) (cond (decide (a0.Hits.get v5.toNat<a1.Hits.get v6.toNat))
 (Qw E n0 n1 a0 a1 (aO (v5+1)) v6 k)
 (WP E n0 a0 a1 v5 v6 k))))
  (WP E n0 a0 a1 v5 v6 k):=krY
theorem zGp(n0:Nat)(a0 a1:af)(v5 v6:Int):WP E n0 a0 a1 v5 v6 k =
  cond (v5==(a0.Hits.len:Int))
  (k false)
  (aV (decide (0<=v5/\v5<(a0.Hits.len:Int))) (aV (decide (0<=v6/\v6<(a1.Hits.len:Int))) (cond (a0.Hits.get v5.toNat != a1.Hits.get v6.toNat)
 (k false)
 (aV (decide (0<=v5/\v5<(a0.bz.len:Int))) (aV (decide (0<=v6/\v6<(a1.bz.len:Int))) (cond (a0.bz.get v5.toNat != a1.bz.get v6.toNat)
 (k false)
 (zcz E n0 a0 a1 v5 (aO (v6+1)) k))))))):=krY
end
theorem o53 [aJ](E:E53):Ok aH 53 (ae.un (F53 E)):=dW ax.nil
structure E55 where
  N:Nat
  Uy:Int×Int->ae aP
abbrev G55(E:E55):bU:=gY (Tabs.nil.addF 71 (ae.un E.Uy)) []
def A55:dK:=bY aH 55 [] {cut:=[3]}
def F55(E:E55):Int×Int×Int×Int->ae Line:=ae.ty (aF aH E.N (G55 E) A55 55)
section
variable(E:E55){A:Type}(k:Line->Option A)
def zjm(E:E55)(v0 v1 v2 v3:Int){A:Type}(k:Line->Option A):Option A :=
  iP aH (G55 E) E.N A55 55 [1,1] [] (iO k)
    ⟨[(0,.int v0),(1,.int v1),(2,.int v2),(3,.int v3),(8,.cl (.ptr 8 0))],[(8,.box 114 [.p (.int .i64 0),.p (.int .i64 0),.p (.int .i64 0),.p (.int .i64 0)])],[]⟩
theorem e55(a0 a1 a2 a3:Int):(F55 E (a0,a1,a2,a3)).T k =
  cond (decide (a2<a0))
  (zjm E a2 a3 a0 a1 k)
  (zjm E a0 a1 a2 a3 k):=dV
theorem zui(v0 v1 v2 v3:Int):zjm E v0 v1 v2 v3 k =
  (E.Uy ((aO (v3-v1)),(aO (v2-v0)))).T λr1 =>
  (E.Uy ((aO ((aO (v1*v2))-(aO (v3*v0)))),(aO (v2-v0)))).T λr2 =>
  k (⟨r1,r2⟩:Line):=krY
end
theorem o55 [aJ](E:E55)(h71:Ok aH 71 (ae.un E.Uy)):Ok aH 55 (ae.un (F55 E)):=dW (ax.nil.addF h71)
structure E56 where
  N:Nat
def F56(E:E56):aP×aP->ae Bool:=iK E.N Tabs.nil 56
theorem e56(E:E56){A:Type}(k:Bool→Option A)(a0 a1:aP):(F56 E (a0,a1)).T k =
  k (decide ((aO (a0.Num*a1.bT))<(aO (a1.Num*a0.bT)))):=dV
theorem o56 [aJ](E:E56):Ok aH 56 (ae.un (F56 E)):=dW ax.nil
structure E57 where
  N:Nat
  c116:Line×ay->ae Bool
abbrev G57(E:E57):bU:=gY (Tabs.nil.addF 116 (ae.un E.c116)) []
def A57:dK:=bY aH 57 [] {ks:=[(1,3,⟨[],[(5,22,3)],[],[],[],[],[]⟩)]}
def F57(E:E57):Line×(Sl ay)->ae ((Sl Int)):=ae.ty (aF aH E.N (G57 E) A57 57)
section
variable(E:E57){A:Type}(k:(Sl Int)->Option A)
def WQ(E:E57)(n:Nat)(a0:Line)(a1:Sl ay)(v6:Int)(UC:Sl Int){A:Type}(k:(Sl Int)->Option A):Option A :=
  iP aH (G57 E) E.N A57 57 [1,1,0,1,0] [.n n] (iO k)
    ⟨[(1,eP a1),(2,.cl (.ptr 2 0)),(5,.cl (.vec 22)),(6,.int v6)],[(2,eB 114 a0),(22,eV 3 1 8 UC)],[]⟩
theorem e57(a0:Line)(a1:Sl ay):(F57 E (a0,a1)).T k =
  WQ E E.N a0 a1 0 (⟨0,(λ_=>0)⟩:(Sl Int)) k:=dV
theorem zuj(n0:Nat)(a0:Line)(a1:Sl ay)(v6:Int)(UC:Sl Int):WQ E (n0+1) a0 a1 v6 UC k =
  cond (decide (v6<(a1.len:Int)))
  (aV (decide (0<=v6/\v6<(a1.len:Int))) ((E.c116 (a0,(a1.get v6.toNat))).T λr1 =>
 cond r1
 (aV (room (UC.len+1) 8) (WQ E n0 a0 a1 (aO (v6+1)) (⟨(UC.len+1),(jL UC.len UC.get (λ_=>v6))⟩:(Sl Int)) k))
 (WQ E n0 a0 a1 (aO (v6+1)) UC k)))
  (k UC):=krY
end
theorem o57 [aJ](E:E57)(zBz:Ok aH 116 (ae.un E.c116)):Ok aH 57 (ae.un (F57 E)):=dW (ax.nil.addF zBz)
structure E71 where
  N:Nat
  Ug:Int×Int->ae Int
def F71(E:E71):Int×Int->ae aP:=iK E.N (Tabs.nil.addF 125 (ae.un E.Ug)) 71
theorem e71(E:E71){A:Type}(k:aP→Option A)(a0 a1:Int):(F71 E (a0,a1)).T k =
  (E.Ug ((if(aO (0-a0))>a0 then(aO (0-a0))else a0),a1)).T λr1 =>
  aV (decide (r1≠0)) (aV (decide (r1≠0)) (k (⟨(aO (a0.tdiv r1)),(aO (a1.tdiv r1))⟩:aP))):=dV
theorem o71 [aJ](E:E71)(zau:Ok aH 125 (ae.un E.Ug)):Ok aH 71 (ae.un (F71 E)):=dW (ax.nil.addF zau)
structure E72 where
  N:Nat
  c78:au×bJ×(Sl bF)->ae (Int ⊕ ((Pt aU)×Int))
  Yp:(Sl Bool)×Bool->ae Bool
  c127:(Pt aU)×Int->ae ((Sl af)×Bool)
  GK:(Sl af)×((dY 129 (Pt aU) Unit) ⊕ (dY 130 Unit (Pt (Pt found))))->ae (Sl af×Unit)
  UF:af×af->ae Int
abbrev G72(E:E72):bU:=gY (((((((Tabs.nil.addN [130]).addO 128 (.mkv 43 3 56 (ae.unV E.GK))).addO 133 (.sort 43 3 56)).addC 134 (ae.un E.UF)).addF 78 (ae.unA E.c78)).addF 126 (ae.un E.Yp)).addF 127 (ae.un E.c127)) []
def A72:dK:=bY aH 72 [] {ks:=[(0,6,⟨[],[],[(35,2,5001,43)],[],[],[],[]⟩),(2,15,⟨[],[],[],[],[57,5001],[],[]⟩)],cut:=[15,16],unr:=[(8,3)],clo:=[130]}
def F72(E:E72):au×bJ×(Sl bF)×(Sl Bool)->ae (Int ⊕ ((Pt found)×Int)):=ae.tyA (aF aH E.N (G72 E) A72 72)
section
variable(E:E72){A:Type}(k:(Int ⊕ ((Pt found)×Int))->Option A)
def zcA(E:E72)(zq:Pt aU)(w57 w67:Sl af){A:Type}(k:(Int ⊕ ((Pt found)×Int))->Option A):Option A :=
  iP aH (G72 E) E.N A72 72 [1,1,1,1,1,1,1] [] (ziw k)
    ⟨[(12,.cl (.ptr 12 0))],[(12,.box 140 [.ptr 35 0]),(35,.box 145 [.p (.fp [.sl zq.v.au.aj.len 15 (λi=>bH.enc (zq.v.au.aj.get i)),.sl zq.v.hits.len 6 (λi=>bH.enc (zq.v.hits.get i)),.sl zq.v.kW.len 1 (λi=>bH.enc (zq.v.kW.get i)),.int .i64 zq.v.rules.uS,.int .i64 zq.v.rules.zF] 0),.vec 57,.vec 67]),(57,.fvec 3 w57.len (λi=>bH.enc (w57.get i))),(67,eV 43 3 56 w67)],[]⟩
theorem e72(a0:au)(a1:bJ)(a2:Sl bF)(a3:Sl Bool):(F72 E (a0,a1,a2,a3)).T k =
  (E.c78 (a0,a1,a2)).T λr1=>zmz r1
  (λr1=>cond (r1==0)
 ((E.Yp (a3,false)).T λr2 =>
 cond r2
 (k (.inl 2))
 (cond (r1 != 0)
 (k (.inl r1))
 (none)))
 (cond (r1 != 0)
 (k (.inl r1))
 (none)))
  (λr1=>cond (r1.2==0)
 ((E.Yp (a3,false)).T λr3 =>
 cond r3
 (k (.inl 2))
 (cond (r1.2 != 0)
 (k (.inl r1.2))
 ((E.c127 (r1.1,1)).T λr4 =>
 cond (!r4.2)
 (k (.inl 8))
 ((E.GK (r4.1,(Sum.inl (⟨r1.1,()⟩:(dY 129 (Pt aU) Unit))))).T λr5 =>
 aV (room r5.1.len 56) ((E.c127 (r1.1,2)).T λr6 =>
 cond (!r6.2)
 (k (.inl 8))
 ((E.GK (r6.1,(Sum.inl (⟨r1.1,()⟩:(dY 129 (Pt aU) Unit))))).T λr7 =>
 aV (room (r5.1.len+r7.1.len) 56) ((E.GK ((⟨(r5.1.len+r7.1.len),(jL r5.1.len r5.1.get r7.1.get)⟩:(Sl af)),(Sum.inr (⟨(),(⟨(⟨(⟨r1.1,(⟨(r5.1.len+r7.1.len),(jL r5.1.len r5.1.get r7.1.get)⟩:(Sl af)),(⟨0,(λ_=>(⟨0,(⟨0,(λ_=>0)⟩:(Sl Int)),(⟨0,(λ_=>0)⟩:(Sl Int))⟩:af))⟩:(Sl af))⟩:found)⟩:(Pt found))⟩:(Pt (Pt found)))⟩:(dY 130 Unit (Pt (Pt found))))))).T λr8 =>
 zcA E r1.1 (⟨(r5.1.len+r7.1.len),(jL r5.1.len r5.1.get r7.1.get)⟩:(Sl af)) r8.1 k)))))))
 (cond (r1.2 != 0)
 (k (.inl r1.2))
 ((E.c127 (r1.1,1)).T λr9 =>
 cond (!r9.2)
 (k (.inl 8))
 ((E.GK (r9.1,(Sum.inl (⟨r1.1,()⟩:(dY 129 (Pt aU) Unit))))).T λUI =>
 aV (room UI.1.len 56) ((E.c127 (r1.1,2)).T λr11 =>
 cond (!r11.2)
 (k (.inl 8))
 ((E.GK (r11.1,(Sum.inl (⟨r1.1,()⟩:(dY 129 (Pt aU) Unit))))).T λr12 =>
 aV (room (UI.1.len+r12.1.len) 56) ((E.GK ((⟨(UI.1.len+r12.1.len),(jL UI.1.len UI.1.get r12.1.get)⟩:(Sl af)),(Sum.inr (⟨(),(⟨(⟨(⟨r1.1,(⟨(UI.1.len+r12.1.len),(jL UI.1.len UI.1.get r12.1.get)⟩:(Sl af)),(⟨0,(λ_=>(⟨0,(⟨0,(λ_=>0)⟩:(Sl Int)),(⟨0,(λ_=>0)⟩:(Sl Int))⟩:af))⟩:(Sl af))⟩:found)⟩:(Pt found))⟩:(Pt (Pt found)))⟩:(dY 130 Unit (Pt (Pt found))))))).T λr13 =>
 zcA E r1.1 (⟨(UI.1.len+r12.1.len),(jL UI.1.len UI.1.get r12.1.get)⟩:(Sl af)) r13.1 k))))))):=ztN.trans krY
theorem zGr(zq:Pt aU)(w57 w67:Sl af):zcA E zq w57 w67 k =
  aV (soP (ae.un E.UF) [] true w67) (k (.inr ((⟨(⟨zq,w57,(⟨w67.len,(soG (ae.un E.UF) [] true w67)⟩:(Sl af))⟩:found)⟩:(Pt found)),0))):=krY
end
theorem o72 [aJ](E:E72)(h78:Ok aH 78 (ae.unA E.c78))(zgh:Ok aH 126 (ae.un E.Yp))(zfU:Ok aH 127 (ae.un E.c127))(zSy:gz aH 128 (.mkv 43 3 56 (ae.unV E.GK)))(zSz:gz aH 133 (.sort 43 3 56))(zSA : @Ok ⟨1⟩ aH 134 (ae.un E.UF)):Ok aH 72 (ae.unA (F72 E)):=zix (wz (((((((ax.nil.addN).addO zSy).addO zSz).addC zSA).addF h78).addF zgh).addF zfU) (dL krY))
structure E74 where
  N:Nat
def F74(E:E74):au×bF->ae bZ:=iK E.N Tabs.nil 74
theorem e74(E:E74){A:Type}(k:bZ→Option A)(a0:au)(a1:bF):(F74 E (a0,a1)).T k =
  aV (decide (0<=a1.ak/\a1.ak<(a0.aj.len:Int))) (cond ((a0.aj.get a1.ak.toNat).Kind==3)
 (k (a0.aj.get a1.ak.toNat).Clock)
 (k (⟨(aO ((aO (a1.Time-(a0.aj.get a1.ak.toNat).Clock.High))-(a0.aj.get a1.ak.toNat).dP)),(aO ((aO (a1.Time-(a0.aj.get a1.ak.toNat).Clock.Low))+(a0.aj.get a1.ak.toNat).dP))⟩:bZ))):=dV
theorem o74 [aJ](E:E74):Ok aH 74 (ae.un (F74 E)):=dW ax.nil
structure E76 where
  N:Nat
  Ug:Int×Int->ae Int
  Uy:Int×Int->ae aP
def F76(E:E76):Line×Int->ae aP:=iK E.N ((Tabs.nil.addF 125 (ae.un E.Ug)).addF 71 (ae.un E.Uy)) 76
theorem e76(E:E76){A:Type}(k:aP→Option A)(a0:Line)(a1:Int):(F76 E (a0,a1)).T k =
  (E.Ug (a0.Start.bT,a0.dM.bT)).T λr1 =>
  aV (decide (r1≠0)) (aV (decide (a0.Start.bT≠0)) (aV (decide (a0.dM.bT≠0)) ((E.Uy ((aO ((aO (a0.Start.Num*(aO ((aO ((aO (a0.Start.bT.tdiv r1))*a0.dM.bT)).tdiv a0.Start.bT))))+(aO ((aO (a0.dM.Num*(aO ((aO ((aO (a0.Start.bT.tdiv r1))*a0.dM.bT)).tdiv a0.dM.bT))))*a1)))),(aO ((aO (a0.Start.bT.tdiv r1))*a0.dM.bT)))).T λr2 =>
 k r2))):=dV
theorem o76 [aJ](E:E76)(zau:Ok aH 125 (ae.un E.Ug))(h71:Ok aH 71 (ae.un E.Uy)):Ok aH 76 (ae.un (F76 E)):=dW ((ax.nil.addF zau).addF h71)
structure E77 where
  N:Nat
  zfF:ak×Int->ae (Int×Int)
  OL:ak×Int->ae Bool
abbrev G77(E:E77):bU:=gY ((Tabs.nil.addF 136 (ae.un E.zfF)).addF 137 (ae.un E.OL)) []
def A77:dK:=bY aH 77 [] {}
def F77(E:E77):ak×bZ->ae (Bool×Bool):=ae.ty (aF aH E.N (G77 E) A77 77)
section
variable(E:E77){A:Type}(k:(Bool×Bool)->Option A)
def ny(E:E77)(n:Nat)(a0:ak)(v6 v7:Int)(v12 jI:Bool)(gQ:Int){A:Type}(k:(Bool×Bool)->Option A):Option A :=
  iP aH (G77 E) E.N A77 77 [1,1,1,1,1,0,1,0] [.n n] (iO k)
    ⟨[(2,.cl (.ptr 2 0)),(6,.int v6),(7,.int v7),(12,.bool v12),(13,.bool jI),(14,.int gQ)],[(2,eB 124 a0)],[]⟩
theorem e77(a0:ak)(a1:bZ):(F77 E (a0,a1)).T k =
  (E.zfF (a0,0)).T λr1 =>
  (E.zfF (a0,(aO (a0.bM-1)))).T λr2 =>
  cond (decide ((aO (a1.Low-a0.bC.High))>=r1.1))
  (ny E E.N a0 (aO (a1.Low-a0.bC.High)) (aO (a1.High-a0.bC.Low)) (decide ((aO (a1.High-a0.bC.Low))<=r2.2)) false 0 k)
  (ny E E.N a0 (aO (a1.Low-a0.bC.High)) (aO (a1.High-a0.bC.Low)) false false 0 k):=dV
theorem zuk(n0:Nat)(a0:ak)(v6 v7:Int)(v12 jI:Bool)(gQ:Int):ny E (n0+1) a0 v6 v7 v12 jI gQ k =
  cond (decide (gQ<a0.bM))
  ((E.zfF (a0,gQ)).T λr1 =>
 (E.OL (a0,gQ)).T λr2 =>
 cond r2
 (cond (decide (r1.1<=v7))
 (cond (decide (r1.2>=v6))
 (ny E n0 a0 v6 v7 false jI (aO (gQ+1)) k)
 (ny E n0 a0 v6 v7 v12 jI (aO (gQ+1)) k))
 (ny E n0 a0 v6 v7 v12 jI (aO (gQ+1)) k))
 (cond (decide ((aO (r1.1-a0.dN))<=v7))
 (cond (decide ((aO (r1.2+a0.dN))>=v6))
 (ny E n0 a0 v6 v7 v12 true (aO (gQ+1)) k)
 (ny E n0 a0 v6 v7 v12 jI (aO (gQ+1)) k))
 (ny E n0 a0 v6 v7 v12 jI (aO (gQ+1)) k)))
  (k (v12,jI)):=krY
end
theorem o77 [aJ](E:E77)(zjn:Ok aH 136 (ae.un E.zfF))(zan:Ok aH 137 (ae.un E.OL)):Ok aH 77 (ae.un (F77 E)):=dW ((ax.nil.addF zjn).addF zan)
structure E88 where
  N:Nat
  c94:au×bJ×(Sl bF)×Int->ae ((Sl af)×Bool)
  c53:af×af->ae Bool
  zsm:af×af->ae Bool
abbrev G88(E:E88):bU:=gY (((Tabs.nil.addF 94 (ae.un E.c94)).addF 53 (ae.un E.c53)).addF 144 (ae.un E.zsm)) []
def A88:dK:=bY aH 88 [] {ks:=[(0,3,⟨[],[(8,5000,43)],[],[],[],[],[]⟩),(1,6,⟨[],[(12,79,43)],[],[],[],[],[]⟩),(1,15,⟨[],[],[],[],[],[12],[]⟩)],cut:=[17]}
def F88(E:E88):au×bJ×(Sl bF)×Int->ae (Sl af×Bool):=ae.tyV (aK aH E.N (G88 E) A88 88 43 3 56)
section
variable(E:E88){A:Type}(k:(Sl af×Bool)->Option A)
def BV(E:E88)(n:Nat)(v10:Sl af)(jI:Int)(w79:Sl af){A:Type}(k:(Sl af×Bool)->Option A):Option A :=
  ptG aH (G88 E) E.N A88 88 [1,1,1,1,0,1,0] [.n n] (zab 43 3 56) (zaa k)
    ⟨[(10,eP v10),(12,.cl (.vec 79)),(13,.int jI)],[(79,eV 43 3 56 w79)],[]⟩
def ML(E:E88)(n0 n:Nat)(v10:Sl af)(jI:Int)(gQ:Bool)(QS:Int)(w79:Sl af){A:Type}(k:(Sl af×Bool)->Option A):Option A :=
  ptG aH (G88 E) E.N A88 88 [1,1,1,1,0,1,0,0,1,0,0,1,0,1,0] [.n n0,.n n] (zab 43 3 56) (zaa k)
    ⟨[(10,eP v10),(12,.cl (.vec 79)),(13,.int jI),(14,.bool gQ),(15,.int QS)],[(79,eV 43 3 56 w79)],[]⟩
def IX(E:E88)(n0 n:Nat)(v10 v12:Sl af)(jI Au:Int){A:Type}(k:(Sl af×Bool)->Option A):Option A :=
  ptG aH (G88 E) E.N A88 88 [1,1,1,1,0,1,0,0,1,0,0,1,1,1,1,0,0] [.n n0,.n n] (zab 43 3 56) (zaa k)
    ⟨[(10,eP v10),(12,eP v12),(13,.int jI),(16,.int Au)],[],[]⟩
def Qx(E:E88)(n0:Nat)(v10 v12:Sl af)(jI Au:Int){A:Type}(k:(Sl af×Bool)->Option A):Option A :=
  ptG aH (G88 E) E.N A88 88 [1,1,1,1,0,1,0,0,1,0,0,1,1,1,1,1] [.n n0] (zab 43 3 56) (zaa k)
    ⟨[(10,eP v10),(12,eP v12),(13,.int jI),(16,.int Au)],[],[]⟩
theorem e88(a0:au)(a1:bJ)(a2:Sl bF)(a3:Int):(F88 E (a0,a1,a2,a3)).T k =
  (E.c94 (a0,a1,a2,a3)).T λr1 =>
  cond (!r1.2)
  (k ((⟨0,(λ_=>(⟨0,(⟨0,(λ_=>0)⟩:(Sl Int)),(⟨0,(λ_=>0)⟩:(Sl Int))⟩:af))⟩:(Sl af)),false))
  (BV E E.N r1.1 0 (⟨0,(λ_=>(⟨0,(⟨0,(λ_=>0)⟩:(Sl Int)),(⟨0,(λ_=>0)⟩:(Sl Int))⟩:af))⟩:(Sl af)) k):=ziB.trans krY
theorem zul(n0:Nat)(v10:Sl af)(jI:Int)(w79:Sl af):BV E (n0+1) v10 jI w79 k =
  cond (decide (jI<(v10.len:Int)))
  (ML E n0 E.N v10 jI true 0 w79 k)
  (k (w79,true)):=krY
theorem zjo(n0 n1:Nat)(v10:Sl af)(jI:Int)(gQ:Bool)(QS:Int)(w79:Sl af):ML E n0 (n1+1) v10 jI gQ QS w79 k =
  cond (decide (QS<(v10.len:Int)))
  (cond gQ
 (cond (jI==QS)
 (ML E n0 n1 v10 jI true (aO (QS+1)) w79 k)
 (aV (decide (0<=QS/\QS<(v10.len:Int))) (aV (decide (0<=jI/\jI<(v10.len:Int))) ((E.c53 ((v10.get QS.toNat),(v10.get jI.toNat))).T λr1 =>
 ML E n0 n1 v10 jI (!r1) (aO (QS+1)) w79 k))))
 (ML E n0 n1 v10 jI false (aO (QS+1)) w79 k))
  (cond (!gQ)
 (BV E n0 v10 (aO (jI+1)) w79 k)
 (IX E n0 E.N v10 w79 jI 0 k)):=krY
theorem zum(n0 n1:Nat)(v10 v12:Sl af)(jI Au:Int):IX E n0 (n1+1) v10 v12 jI Au k =
  cond (decide (Au<(v12.len:Int)))
  (aV (decide (0<=Au/\Au<(v12.len:Int))) (aV (decide (0<=jI/\jI<(v10.len:Int))) ((E.zsm ((v12.get Au.toNat),(v10.get jI.toNat))).T λr1 =>
 cond r1
 (IX E n0 n1 v10 v12 jI (aO (Au+1)) k)
 (Qx E n0 v10 v12 jI Au k))))
  (Qx E n0 v10 v12 jI Au k):=krY
theorem zGu(n0:Nat)(v10 v12:Sl af)(jI Au:Int):Qx E n0 v10 v12 jI Au k =
  aV (decide ((0:Int)<=0/\(0:Int)<=Au/\Au<=(v12.len:Int))) (aV (room ((Au:Int)-0).toNat 56) (aV (decide (0<=jI/\jI<(v10.len:Int))) (aV (room (((Au:Int)-0).toNat+1) 56) (aV (decide ((0:Int)<=Au/\(Au:Int)<=(v12.len:Int)/\(v12.len:Int)<=(v12.len:Int))) (aV (room ((((Au:Int)-0).toNat+1)+(((v12.len:Int):Int)-Au).toNat) 56) (BV E n0 v10 (aO (jI+1)) (⟨((((Au:Int)-0).toNat+1)+(((v12.len:Int):Int)-Au).toNat),(jL (((Au:Int)-0).toNat+1) (jL ((Au:Int)-0).toNat (EM v12.get 0) (λ_=>(v10.get jI.toNat))) (EM v12.get Au.toNat))⟩:(Sl af)) k)))))):=krY
end
theorem o88 [aJ](E:E88)(h94:Ok aH 94 (ae.un E.c94))(h53:Ok aH 53 (ae.un E.c53))(zxS:Ok aH 144 (ae.un E.zsm)):gz aH 88 (.mkv 43 3 56 (ae.unV (F88 E))):=Z9 (SN (((ax.nil.addF h94).addF h53).addF zxS) (dL krY))
structure E90 where
  N:Nat
  c148:(Sl bF)×(Sl Int)->ae ((Sl bF))
  zsn:au×(Sl bF)->ae (bZ×Bool)
def F90(E:E90):au×(Sl bF)×(Sl Int)->ae Bool:=iK E.N ((Tabs.nil.addF 148 (ae.un E.c148)).addF 147 (ae.un E.zsn)) 90
theorem e90(E:E90){A:Type}(k:Bool→Option A)(a0:au)(a1:Sl bF)(a2:Sl Int):(F90 E (a0,a1,a2)).T k =
  (E.c148 (a1,a2)).T λr1 =>
  (E.zsn (a0,r1)).T λr2 =>
  k r2.2:=dV
theorem o90 [aJ](E:E90)(zxT:Ok aH 148 (ae.un E.c148))(zxU:Ok aH 147 (ae.un E.zsn)):Ok aH 90 (ae.un (F90 E)):=dW ((ax.nil.addF zxT).addF zxU)
structure E91 where
  N:Nat
  c65:au×(Sl bF)×af->ae ((Sl ay))
  c87:(Sl bF)×(Sl Int)×Int->ae Bool
  BU:(Sl ay)->ae Bool
  zso:(Sl ay)×Int->ae (aP×aP)
  YW:aP->ae Int
  c86:Int×Int×Int->ae Bool
  c77:ak×bZ->ae (Bool×Bool)
abbrev G91(E:E91):bU:=gY (((((((Tabs.nil.addF 65 (ae.un E.c65)).addF 87 (ae.un E.c87)).addF 149 (ae.un E.BU)).addF 150 (ae.un E.zso)).addF 151 (ae.un E.YW)).addF 86 (ae.un E.c86)).addF 77 (ae.un E.c77)) []
def A91:dK:=bY aH 91 [] {ks:=[(1,4,⟨[],[(7,92,3)],[],[],[],[],[]⟩)]}
def F91(E:E91):au×(Sl bF)×af->ae ((Sl Int)):=ae.ty (aF aH E.N (G91 E) A91 91)
section
variable(E:E91){A:Type}(k:(Sl Int)->Option A)
def sS(E:E91)(n:Nat)(a0:au)(a1:Sl bF)(a2:af)(v8:Sl ay)(v9:Int)(w92:Sl Int){A:Type}(k:(Sl Int)->Option A):Option A :=
  iP aH (G91 E) E.N A91 91 [1,1,1,0,1,0] [.n n] (iO k)
    ⟨[(1,eP a1),(3,.cl (.ptr 3 0)),(5,.cl (.ptr 5 0)),(7,.cl (.vec 92)),(8,eP v8),(9,.int v9)],[(3,eB 24 a0),(5,eB 43 a2),(92,eV 3 1 8 w92)],[]⟩
theorem e91(a0:au)(a1:Sl bF)(a2:af):(F91 E (a0,a1,a2)).T k =
  (E.c65 (a0,a1,a2)).T λr1 =>
  sS E E.N a0 a1 a2 r1 0 (⟨0,(λ_=>0)⟩:(Sl Int)) k:=dV
theorem zun(n0:Nat)(a0:au)(a1:Sl bF)(a2:af)(v8:Sl ay)(v9:Int)(w92:Sl Int):sS E (n0+1) a0 a1 a2 v8 v9 w92 k =
  cond (decide (v9<(a0.aj.len:Int)))
  (aV (decide (0<=v9/\v9<(a0.aj.len:Int))) (cond ((a0.aj.get v9.toNat).View != a2.View)
 (sS E n0 a0 a1 a2 v8 (aO (v9+1)) w92 k)
 ((E.c87 (a1,a2.Hits,v9)).T λr1 =>
 cond r1
 (sS E n0 a0 a1 a2 v8 (aO (v9+1)) w92 k)
 ((E.BU v8).T λr2 =>
 cond r2
 (sS E n0 a0 a1 a2 v8 (aO (v9+1)) w92 k)
 (aV (decide (0<=v9/\v9<(a0.aj.len:Int))) ((E.zso (v8,(a0.aj.get v9.toNat).Z)).T λr3 =>
 (E.YW r3.1).T λr4 =>
 (E.YW (⟨(aO (0-r3.2.Num)),r3.2.bT⟩:aP)).T λr5 =>
 (E.c86 (r4,(-1000000),1000000)).T λr6 =>
 cond (!r6)
 (sS E n0 a0 a1 a2 v8 (aO (v9+1)) w92 k)
 ((E.c86 ((aO (0-r5)),(-1000000),1000000)).T λr7 =>
 cond (!r7)
 (sS E n0 a0 a1 a2 v8 (aO (v9+1)) w92 k)
 (aV (decide (0<=v9/\v9<(a0.aj.len:Int))) ((E.c77 ((a0.aj.get v9.toNat),(⟨r4,(aO (0-r5))⟩:bZ))).T λr8 =>
 cond r8.1
 (aV (room (w92.len+1) 8) (sS E n0 a0 a1 a2 v8 (aO (v9+1)) (⟨(w92.len+1),(jL w92.len w92.get (λ_=>v9))⟩:(Sl Int)) k))
 (sS E n0 a0 a1 a2 v8 (aO (v9+1)) w92 k))))))))))
  (k w92):=krY
end
theorem o91 [aJ](E:E91)(h65:Ok aH 65 (ae.un E.c65))(h87:Ok aH 87 (ae.un E.c87))(IE:Ok aH 149 (ae.un E.BU))(zxV:Ok aH 150 (ae.un E.zso))(zpb:Ok aH 151 (ae.un E.YW))(h86:Ok aH 86 (ae.un E.c86))(h77:Ok aH 77 (ae.un E.c77)):Ok aH 91 (ae.un (F91 E)):=dW (((((((ax.nil.addF h65).addF h87).addF IE).addF zxV).addF zpb).addF h86).addF h77)
structure E92 where
  N:Nat
  c152:(Sl Int)×Int->ae Int
abbrev G92(E:E92):bU:=gY (Tabs.nil.addF 152 (ae.un E.c152)) []
def A92:dK:=bY aH 92 [] {}
def F92(E:E92):af×af->ae Bool:=ae.ty (aF aH E.N (G92 E) A92 92)
section
variable(E:E92){A:Type}(k:Bool->Option A)
def zcD(E:E92)(n:Nat)(a0 a1:af)(v11:Int){A:Type}(k:Bool->Option A):Option A :=
  iP aH (G92 E) E.N A92 92 [1,0,1,0] [.n n] (iO k)
    ⟨[(2,.cl (.ptr 2 0)),(3,.cl (.ptr 3 0)),(9,eP a1.Hits),(10,.int (a1.Hits.len:Int)),(11,.int v11)],[(2,eB 43 a0),(3,eB 43 a1)],[]⟩
theorem e92(a0 a1:af):(F92 E (a0,a1)).T k =
  zcD E E.N a0 a1 0 k:=dV
theorem zuo(n0:Nat)(a0 a1:af)(v11:Int):zcD E (n0+1) a0 a1 v11 k =
  cond (decide (v11<(a1.Hits.len:Int)))
  (aV (decide (0<=v11/\v11<(a1.Hits.len:Int))) ((E.c152 (a0.Hits,a1.Hits.get v11.toNat)).T λr1 =>
 cond (decide (r1<0))
 (k false)
 (aV (decide (0<=r1/\r1<(a0.bz.len:Int))) (aV (decide (0<=v11/\v11<(a1.bz.len:Int))) (cond (a0.bz.get r1.toNat != a1.bz.get v11.toNat)
 (k false)
 (zcD E n0 a0 a1 (aO (v11+1)) k))))))
  (k (a0.View==a1.View)):=krY
end
theorem o92 [aJ](E:E92)(zxW:Ok aH 152 (ae.un E.c152)):Ok aH 92 (ae.un (F92 E)):=dW (ax.nil.addF zxW)
structure E93 where
  N:Nat
  c50:au×(Sl bF)->ae (bZ×Int)
abbrev G93(E:E93):bU:=gY (Tabs.nil.addF 50 (ae.un E.c50)) []
def A93:dK:=bY aH 93 [] {ks:=[(1,3,⟨[],[(6,27,92)],[],[],[],[],[]⟩)]}
def F93(E:E93):(Pt aU)×af->ae (bZ×Bool):=ae.ty (aF aH E.N (G93 E) A93 93)
section
variable(E:E93){A:Type}(k:(bZ×Bool)->Option A)
def zcE(E:E93)(n:Nat)(a0:Pt aU)(a1:af)(gQ:Int)(w27:Sl bF){A:Type}(k:(bZ×Bool)->Option A):Option A :=
  iP aH (G93 E) E.N A93 93 [1,1,0,1,0] [.n n] (iO k)
    ⟨[(0,eP a0),(4,.cl (.ptr 4 0)),(6,.cl (.vec 27)),(12,eP a1.Hits),(13,.int (a1.Hits.len:Int)),(14,.int gQ)],[(4,.box 105 [.p (.int .i64 0),.p (.int .i64 0)]),(27,eV 92 6 48 w27)],[]⟩
theorem e93(a0:Pt aU)(a1:af):(F93 E (a0,a1)).T k =
  zcE E E.N a0 a1 0 (⟨0,(λ_=>(⟨0,0,0,0,0,0⟩:bF))⟩:(Sl bF)) k:=dV
theorem zuq(n0:Nat)(a0:Pt aU)(a1:af)(gQ:Int)(w27:Sl bF):zcE E (n0+1) a0 a1 gQ w27 k =
  cond (decide (gQ<(a1.Hits.len:Int)))
  (aV (decide (0<=gQ/\gQ<(a1.Hits.len:Int))) (aV (decide (0<=a1.Hits.get gQ.toNat/\a1.Hits.get gQ.toNat<(a0.v.hits.len:Int))) (aV (room (w27.len+1) 48) (zcE E n0 a0 a1 (aO (gQ+1)) (⟨(w27.len+1),(jL w27.len w27.get (λ_=>(a0.v.hits.get (a1.Hits.get gQ.toNat).toNat)))⟩:(Sl bF)) k))))
  ((E.c50 (a0.v.au,w27)).T λr1 =>
 k (r1.1,(r1.2==0))):=krY
end
theorem o93 [aJ](E:E93)(h50:Ok aH 50 (ae.un E.c50)):Ok aH 93 (ae.un (F93 E)):=dW (ax.nil.addF h50)
structure E94 where
  N:Nat
  zsp:au×(Sl bF)×Int->ae ((Sl af)×Bool)
  c154:au×bJ×(Sl bF)×af->ae Bool
abbrev G94(E:E94):bU:=gY ((Tabs.nil.addF 153 (ae.un E.zsp)).addF 154 (ae.un E.c154)) []
def A94:dK:=bY aH 94 [] {ks:=[(1,6,⟨[],[(12,43,43)],[],[],[],[],[]⟩)]}
def F94(E:E94):au×bJ×(Sl bF)×Int->ae ((Sl af)×Bool):=ae.ty (aF aH E.N (G94 E) A94 94)
section
variable(E:E94){A:Type}(k:((Sl af)×Bool)->Option A)
def Ik(E:E94)(n:Nat)(a0:au)(a1:bJ)(a2:Sl bF)(v10:Sl af)(jI:Int)(YU:Sl af){A:Type}(k:((Sl af)×Bool)->Option A):Option A :=
  iP aH (G94 E) E.N A94 94 [1,1,1,1,0,1,0] [.n n] (iO k)
    ⟨[(2,eP a2),(4,.cl (.ptr 4 0)),(5,.cl (.ptr 5 0)),(10,eP v10),(12,.cl (.vec 43)),(13,.int jI)],[(4,eB 24 a0),(5,eB 26 a1),(43,eV 43 3 56 YU)],[]⟩
theorem e94(a0:au)(a1:bJ)(a2:Sl bF)(a3:Int):(F94 E (a0,a1,a2,a3)).T k =
  (E.zsp (a0,a2,a3)).T λr1 =>
  cond (!r1.2)
  (k ((⟨0,λ_=>default⟩:(Sl af)),false))
  (Ik E E.N a0 a1 a2 r1.1 0 (⟨0,(λ_=>(⟨0,(⟨0,(λ_=>0)⟩:(Sl Int)),(⟨0,(λ_=>0)⟩:(Sl Int))⟩:af))⟩:(Sl af)) k):=dV
theorem zur(n0:Nat)(a0:au)(a1:bJ)(a2:Sl bF)(v10:Sl af)(jI:Int)(YU:Sl af):Ik E (n0+1) a0 a1 a2 v10 jI YU k =
  cond (decide (jI<(v10.len:Int)))
  (aV (decide (0<=jI/\jI<(v10.len:Int))) ((E.c154 (a0,a1,a2,(v10.get jI.toNat))).T λr1 =>
 cond r1
 (aV (decide (0<=jI/\jI<(v10.len:Int))) (aV (room (YU.len+1) 56) (Ik E n0 a0 a1 a2 v10 (aO (jI+1)) (⟨(YU.len+1),(jL YU.len YU.get (λ_=>(v10.get jI.toNat)))⟩:(Sl af)) k)))
 (Ik E n0 a0 a1 a2 v10 (aO (jI+1)) YU k)))
  (k (YU,true)):=krY
end
theorem o94 [aJ](E:E94)(zxX:Ok aH 153 (ae.un E.zsp))(zxY:Ok aH 154 (ae.un E.c154)):Ok aH 94 (ae.un (F94 E)):=dW ((ax.nil.addF zxX).addF zxY)
structure E97 where
  N:Nat
  zsk:af×(Pt af)->ae Bool
abbrev G97(E:E97):bU:=gY (Tabs.nil.addF 132 (ae.un E.zsk)) []
def A97:dK:=bY aH 97 [] {}
def F97(E:E97):(Sl af)×(dY 132 Unit (Pt af))->ae Int:=ae.ty (aF aH E.N (G97 E) A97 97)
section
variable(E:E97){A:Type}(k:Int->Option A)
def zcF(E:E97)(n:Nat)(a0:Sl af)(a1:(dY 132 Unit (Pt af)))(v8:Int){A:Type}(k:Int->Option A):Option A :=
  iP aH (G97 E) E.N A97 97 [1,0,1,0] [.n n] (iO k)
    ⟨[(0,eP a0),(1,eP a1),(7,.int (a0.len:Int)),(8,.int v8)],[],[]⟩
theorem e97(a0:Sl af)(a1:(dY 132 Unit (Pt af))):(F97 E (a0,a1)).T k =
  zcF E E.N a0 a1 0 k:=dV
theorem zus(n0:Nat)(a0:Sl af)(a1:(dY 132 Unit (Pt af)))(v8:Int):zcF E (n0+1) a0 a1 v8 k =
  cond (decide (v8<(a0.len:Int)))
  (aV (decide (0<=v8/\v8<(a0.len:Int))) ((E.zsk ((a0.get v8.toNat),a1.v)).T λr1 =>
 cond r1
 (k v8)
 (zcF E n0 a0 a1 (aO (v8+1)) k)))
  (k (-1)):=krY
end
theorem o97 [aJ](E:E97)(zxZ:Ok aH 132 (ae.un E.zsk)):Ok aH 97 (ae.un (F97 E)):=dW (ax.nil.addF zxZ)
structure zex where
  N:Nat
  c156:ay->ae Bool
  c157:Int×Int×Int->ae Bool
abbrev zGv(E:zex):bU:=gY ((Tabs.nil.addF 156 (ae.un E.c156)).addF 157 (ae.un E.c157)) []
def zGw:dK:=bY aH 109 [] {}
def zpc(E:zex):(Sl ay)->ae Bool:=ae.ty (aF aH E.N (zGv E) zGw 109)
section
variable(E:zex){A:Type}(k:Bool->Option A)
def Tq(E:zex)(n:Nat)(a0:Sl ay)(v7:Int){A:Type}(k:Bool->Option A):Option A :=
  iP aH (zGv E) E.N zGw 109 [1,0,1,0] [.n n] (iO k)
    ⟨[(0,eP a0),(5,eP a0),(6,.int (a0.len:Int)),(7,.int v7)],[],[]⟩
theorem e109(a0:Sl ay):(zpc E (a0)).T k =
  Tq E E.N a0 0 k:=dV
theorem zjq(n0:Nat)(a0:Sl ay)(v7:Int):Tq E (n0+1) a0 v7 k =
  cond (decide (v7<(a0.len:Int)))
  (aV (decide (0<=v7/\v7<(a0.len:Int))) ((E.c156 (a0.get v7.toNat)).T λr1 =>
 cond (!r1)
 (k false)
 (Tq E n0 a0 (aO (v7+1)) k)))
  ((E.c157 ((a0.len:Int),1,24)).T λr2 =>
 k r2):=krY
end
theorem zSB [aJ](E:zex)(zx0:Ok aH 156 (ae.un E.c156))(BG:Ok aH 157 (ae.un E.c157)):Ok aH 109 (ae.un (zpc E)):=dW ((ax.nil.addF zx0).addF BG)
structure zey where
  N:Nat
  c160:au->ae Bool
  uN:au×bF->ae (placed×Bool)
abbrev zGx(E:zey):bU:=gY ((Tabs.nil.addF 160 (ae.un E.c160)).addF 112 (ae.un E.uN)) []
def zGy:dK:=bY aH 111 [] {}
def zpd(E:zey):au×(Sl bF)->ae Int:=ae.ty (aF aH E.N (zGx E) zGy 111)
section
variable(E:zey){A:Type}(k:Int->Option A)
def Tt(E:zey)(n:Nat)(a0:au)(a1:Sl bF)(v17:Int){A:Type}(k:Int->Option A):Option A :=
  iP aH (zGx E) E.N zGy 111 [1,1,1,0,1,0] [.n n] (iO k)
    ⟨[(2,.cl (.ptr 2 0)),(15,eP a1),(16,.int (a1.len:Int)),(17,.int v17)],[(2,eB 24 a0)],[]⟩
theorem zSC(a0:au)(a1:Sl bF):(zpd E (a0,a1)).T k =
  cond (decide ((a1.len:Int)>2000))
  (k 3)
  ((E.c160 a0).T λr1 =>
 cond (!r1)
 (k 2)
 (Tt E E.N a0 a1 0 k)):=dV
theorem zjr(n0:Nat)(a0:au)(a1:Sl bF)(v17:Int):Tt E (n0+1) a0 a1 v17 k =
  cond (decide (v17<(a1.len:Int)))
  (aV (decide (0<=v17/\v17<(a1.len:Int))) ((E.uN (a0,(a1.get v17.toNat))).T λr1 =>
 cond (!r1.2)
 (k 2)
 (Tt E n0 a0 a1 (aO (v17+1)) k)))
  (k 0):=krY
end
theorem o111 [aJ](E:zey)(BF:Ok aH 160 (ae.un E.c160))(Ap:Ok aH 112 (ae.un E.uN)):Ok aH 111 (ae.un (zpd E)):=dW ((ax.nil.addF BF).addF Ap)
structure zpe where
  N:Nat
def zpf(E:zpe):placed×bF->ae bZ:=iK E.N Tabs.nil 113
theorem zSD(E:zpe){A:Type}(k:bZ→Option A)(a0:placed)(a1:bF):(zpf E (a0,a1)).T k =
  cond (a0.ak.Kind==3)
  (k a0.ak.Clock)
  (k (⟨(aO ((aO (a1.Time-a0.ak.Clock.High))-a0.ak.dP)),(aO ((aO (a1.Time-a0.ak.Clock.Low))+a0.ak.dP))⟩:bZ)):=dV
theorem zSE [aJ](E:zpe):Ok aH 113 (ae.un (zpf E)):=dW ax.nil
structure zpg where
  N:Nat
  c157:Int×Int×Int->ae Bool
  c117:(Sl ay)×((dY 118 Unit Unit) ⊕ (dY 162 Unit (Pt Int)))->ae (set×Int)
  zfG:set×Int->ae (aP×aP)
def zph(E:zpg):(Sl ay)×Int->ae (aP×aP×Int):=iK E.N (((Tabs.nil.addF 157 (ae.un E.c157)).addF 117 (ae.un E.c117)).addF 163 (ae.un E.zfG)) 114
theorem zSF(E:zpg){A:Type}(k:(aP×aP×Int)→Option A)(a0:Sl ay)(a1:Int):(zph E (a0,a1)).T k =
  (E.c157 (a1,(-100000),200000)).T λr1 =>
  cond (!r1)
  (k ((⟨0,0⟩:aP),(⟨0,0⟩:aP),2))
  ((E.c117 (a0,(Sum.inr (⟨(),(⟨a1⟩:(Pt Int))⟩:(dY 162 Unit (Pt Int)))))).T λr2 =>
 cond (r2.2 != 0)
 (k ((⟨0,0⟩:aP),(⟨0,0⟩:aP),r2.2))
 ((E.zfG (r2.1,a1)).T λr3 =>
 k (r3.1,r3.2,0))):=dV
theorem zSG [aJ](E:zpg)(BG:Ok aH 157 (ae.un E.c157))(UM:Ok aH 117 (ae.un E.c117))(zx1:Ok aH 163 (ae.un E.zfG)):Ok aH 114 (ae.un (zph E)):=dW (((ax.nil.addF BG).addF UM).addF zx1)
structure zav where
  N:Nat
  c160:au->ae Bool
  iw:Int×Int×Int->ae Bool
  c164:bZ×Int->ae Bool
  zfJ:(Pt placed)->ae (List (Int×bZ))
abbrev zx2(E:zav):bU:=gY (((((Tabs.nil.addF 160 (ae.un E.c160)).addF 161 (ae.un E.iw)).addF 164 (ae.un E.c164)).addF 165 (aF aH E.N (gY Tabs.nil []) (bY aH 165 [] {}) 165)).addI 204 (ae.unI E.zfJ)) []
def zx3:dK:=bY aH 115 [] {cut:=[10]}
def zpi(E:zav):au×Int×bZ->ae (Bool×Bool×Int):=ae.ty (aF aH E.N (zx2 E) zx3 115)
section
variable(E:zav){A:Type}(k:(Bool×Bool×Int)->Option A)
def uK(E:zav)(l:List (Int×bZ))(a0:au)(a1 mr pz:Int)(tZ:Bool)(pF:Int){A:Type}(k:(Bool×Bool×Int)->Option A):Option A :=
  iP aH (zx2 E) E.N zx3 115 [1,1,1,1,1,1,0,1,0] [.y (l.map dG.enc)] (iO k)
    ⟨[(9,.cl (.ptr 9 0)),(10,.cl (.ptr 10 0)),(11,.cl (.ptr 11 0)),(12,.cl (.ptr 12 0)),(13,.cl (.ptr 13 0)),(56,.p (.fn 204 [] [.fp [.int .i64 (a0.aj.get a1.toNat).Kind,.int .i64 (a0.aj.get a1.toNat).View,.int .i64 (a0.aj.get a1.toNat).Z,.int .i64 (a0.aj.get a1.toNat).First,.int .i64 (a0.aj.get a1.toNat).aS,.int .i64 (a0.aj.get a1.toNat).bM,.int .i64 (a0.aj.get a1.toNat).dN,.int .i64 (a0.aj.get a1.toNat).bC.Low,.int .i64 (a0.aj.get a1.toNat).bC.High,.int .i64 (a0.aj.get a1.toNat).Clock.Low,.int .i64 (a0.aj.get a1.toNat).Clock.High,.int .i64 (a0.aj.get a1.toNat).dP,.int .i64 (a0.aj.get a1.toNat).Least,.sl (a0.aj.get a1.toNat).aT.len 3 (λi=>bH.enc ((a0.aj.get a1.toNat).aT.get i)),.sl (a0.aj.get a1.toNat).Dead.len 1 (λi=>bH.enc ((a0.aj.get a1.toNat).Dead.get i)),.int .i64 a1] 0]))],[(9,.box 185 [.p (.int .i64 (a0.aj.get a1.toNat).Kind),.p (.int .i64 (a0.aj.get a1.toNat).View),.p (.int .i64 (a0.aj.get a1.toNat).Z),.p (.int .i64 (a0.aj.get a1.toNat).First),.p (.int .i64 (a0.aj.get a1.toNat).aS),.p (.int .i64 (a0.aj.get a1.toNat).bM),.p (.int .i64 (a0.aj.get a1.toNat).dN),.p (.int .i64 (a0.aj.get a1.toNat).bC.Low),.p (.int .i64 (a0.aj.get a1.toNat).bC.High),.p (.int .i64 (a0.aj.get a1.toNat).Clock.Low),.p (.int .i64 (a0.aj.get a1.toNat).Clock.High),.p (.int .i64 (a0.aj.get a1.toNat).dP),.p (.int .i64 (a0.aj.get a1.toNat).Least),.p (.sl (a0.aj.get a1.toNat).aT.len 3 (λi=>bH.enc ((a0.aj.get a1.toNat).aT.get i))),.p (.sl (a0.aj.get a1.toNat).Dead.len 1 (λi=>bH.enc ((a0.aj.get a1.toNat).Dead.get i))),.p (.int .i64 a1)]),(10,eB 3 mr),(11,eB 3 pz),(12,eB 4 tZ),(13,eB 3 pF)],[]⟩
def MM(E:zav)(l0:List (Int×bZ))(a0:au)(a1 mr pz:Int)(tZ:Bool)(pF:Int)(x15:bZ){A:Type}(k:(Bool×Bool×Int)->Option A):Option A :=
  iP aH (zx2 E) E.N zx3 115 [1,1,1,1,1,1,0,1,0,0,0,1] [.y (l0.map dG.enc)] (iO k)
    ⟨[(9,.cl (.ptr 9 0)),(10,.cl (.ptr 10 0)),(11,.cl (.ptr 11 0)),(12,.cl (.ptr 12 0)),(13,.cl (.ptr 13 0)),(15,.cl (.ptr 15 0)),(56,.p (.fn 204 [] [.fp [.int .i64 (a0.aj.get a1.toNat).Kind,.int .i64 (a0.aj.get a1.toNat).View,.int .i64 (a0.aj.get a1.toNat).Z,.int .i64 (a0.aj.get a1.toNat).First,.int .i64 (a0.aj.get a1.toNat).aS,.int .i64 (a0.aj.get a1.toNat).bM,.int .i64 (a0.aj.get a1.toNat).dN,.int .i64 (a0.aj.get a1.toNat).bC.Low,.int .i64 (a0.aj.get a1.toNat).bC.High,.int .i64 (a0.aj.get a1.toNat).Clock.Low,.int .i64 (a0.aj.get a1.toNat).Clock.High,.int .i64 (a0.aj.get a1.toNat).dP,.int .i64 (a0.aj.get a1.toNat).Least,.sl (a0.aj.get a1.toNat).aT.len 3 (λi=>bH.enc ((a0.aj.get a1.toNat).aT.get i)),.sl (a0.aj.get a1.toNat).Dead.len 1 (λi=>bH.enc ((a0.aj.get a1.toNat).Dead.get i)),.int .i64 a1] 0]))],[(9,.box 185 [.p (.int .i64 (a0.aj.get a1.toNat).Kind),.p (.int .i64 (a0.aj.get a1.toNat).View),.p (.int .i64 (a0.aj.get a1.toNat).Z),.p (.int .i64 (a0.aj.get a1.toNat).First),.p (.int .i64 (a0.aj.get a1.toNat).aS),.p (.int .i64 (a0.aj.get a1.toNat).bM),.p (.int .i64 (a0.aj.get a1.toNat).dN),.p (.int .i64 (a0.aj.get a1.toNat).bC.Low),.p (.int .i64 (a0.aj.get a1.toNat).bC.High),.p (.int .i64 (a0.aj.get a1.toNat).Clock.Low),.p (.int .i64 (a0.aj.get a1.toNat).Clock.High),.p (.int .i64 (a0.aj.get a1.toNat).dP),.p (.int .i64 (a0.aj.get a1.toNat).Least),.p (.sl (a0.aj.get a1.toNat).aT.len 3 (λi=>bH.enc ((a0.aj.get a1.toNat).aT.get i))),.p (.sl (a0.aj.get a1.toNat).Dead.len 1 (λi=>bH.enc ((a0.aj.get a1.toNat).Dead.get i))),.p (.int .i64 a1)]),(10,eB 3 mr),(11,eB 3 pz),(12,eB 4 tZ),(13,eB 3 pF),(15,eB 105 x15)],[]⟩
theorem e115(a0:au)(a1:Int)(a2:bZ):(zpi E (a0,a1,a2)).T k =
  (E.c160 a0).T λr1 =>
  cond (!r1)
  (k (false,false,2))
  ((E.iw (a1,0,(aO ((a0.aj.len:Int)-1)))).T λr2 =>
 cond (!r2)
 (k (false,false,2))
 ((E.c164 (a2,1000000)).T λr3 =>
 cond (!r3)
 (k (false,false,2))
 (aV (decide (0<=a1/\a1<(a0.aj.len:Int))) ((E.zfJ (⟨(⟨(a0.aj.get a1.toNat),a1⟩:placed)⟩:(Pt placed))).T λr4 =>
 uK E r4 a0 a1 (aO (a2.Low-(a0.aj.get a1.toNat).bC.High)) (aO (a2.High-(a0.aj.get a1.toNat).bC.Low)) false (aO (a2.Low-(a0.aj.get a1.toNat).bC.High)) k)))):=dV
theorem zpj(a0:au)(a1 mr pz:Int)(tZ:Bool)(pF:Int):uK E [] a0 a1 mr pz tZ pF k =
  k (decide (pF>pz),tZ,0):=krY
theorem zaw(y:Int×bZ)(l0:List (Int×bZ))(a0:au)(a1 mr pz:Int)(tZ:Bool)(pF:Int):uK E (y::l0) a0 a1 mr pz tZ pF k =
  cond tZ
  (MM E l0 a0 a1 mr pz true pF y.2 k)
  (cond (decide ((aO (y.2.Low-(a0.aj.get a1.toNat).dN))<=pz))
 (MM E l0 a0 a1 mr pz (decide ((aO (y.2.High+(a0.aj.get a1.toNat).dN))>=mr)) pF y.2 k)
 (MM E l0 a0 a1 mr pz false pF y.2 k)):=krY
theorem zx4(l0:List (Int×bZ))(a0:au)(a1 mr pz:Int)(tZ:Bool)(pF:Int)(x15:bZ):MM E l0 a0 a1 mr pz tZ pF x15 k =
  cond (decide (x15.Low<=pF))
  (cond (decide (pF<=x15.High))
 (uK E l0 a0 a1 mr pz tZ (aO (x15.High+1)) k)
 (uK E l0 a0 a1 mr pz tZ pF k))
  (uK E l0 a0 a1 mr pz tZ pF k):=krY
end
theorem zSH [aJ](E:zav)(BF:Ok aH 160 (ae.un E.c160))(lT:Ok aH 161 (ae.un E.iw))(WL:Ok aH 164 (ae.un E.c164))(zSI:Ac aH 204 (ae.unI E.zfJ)):Ok aH 115 (ae.un (zpi E)):=dW (((((ax.nil.addF BF).addF lT).addF WL).addF (wz ax.nil (dL krY))).addI zSI)
structure zpk where
  N:Nat
  Uh:Line×Int->ae (Int×Int)
def zpl(E:zpk):Line×ay->ae Bool:=iK E.N (Tabs.nil.addF 166 (ae.un E.Uh)) 116
theorem e116(E:zpk){A:Type}(k:Bool→Option A)(a0:Line)(a1:ay):(zpl E (a0,a1)).T k =
  (E.Uh (a0,a1.Z)).T λr1 =>
  cond (decide ((aO (a1.Low*r1.2))<=r1.1))
  (k (decide (r1.1<=(aO (a1.High*r1.2)))))
  (k false):=dV
theorem zSJ [aJ](E:zpk)(zax:Ok aH 166 (ae.un E.Uh)):Ok aH 116 (ae.un (zpl E)):=dW (ax.nil.addF zax)
structure DJ where
  N:Nat
  c109:(Sl ay)->ae Bool
  OM:(Sl ay)->ae set
  c159:set->ae Bool
  c167:list->ae Bool
  zsg:list->ae Bool
def DK(E:DJ):(Sl ay)×(dY 118 Unit Unit)->ae (set×Int):=iK E.N (((((Tabs.nil.addF 109 (ae.un E.c109)).addF 158 (ae.un E.OM)).addF 159 (ae.un E.c159)).addF 167 (ae.un E.c167)).addF 118 (ae.un E.zsg)) 117
theorem zjs(E:DJ){A:Type}(k:(set×Int)→Option A)(a0:Sl ay)(a1:(dY 118 Unit Unit)):(DK E (a0,a1)).T k =
  (E.c109 a0).T λr1 =>
  cond (!r1)
  (k ((⟨(⟨(⟨0,λ_=>default⟩:(Sl ay))⟩:list),(⟨0,λ_=>default⟩:(Sl straight))⟩:set),2))
  ((E.OM a0).T λr2 =>
 (E.c159 r2).T λr3 =>
 cond (!r3)
 (k ((⟨(⟨(⟨0,λ_=>default⟩:(Sl ay))⟩:list),(⟨0,λ_=>default⟩:(Sl straight))⟩:set),5))
 ((E.c167 r2.list).T λr4 =>
 cond r4
 ((E.zsg r2.list).T λr5 =>
 cond (!r5)
 (k ((⟨(⟨(⟨0,λ_=>default⟩:(Sl ay))⟩:list),(⟨0,λ_=>default⟩:(Sl straight))⟩:set),6))
 (k (r2,0)))
 (k (r2,0)))):=dV
theorem zjt [aJ](E:DJ)(YG:Ok aH 109 (ae.un E.c109))(YJ:Ok aH 158 (ae.un E.OM))(YL:Ok aH 159 (ae.un E.c159))(wX:Ok aH 167 (ae.un E.c167))(zx5:Ok aH 118 (ae.un E.zsg)):Ok aH 117 (ae.un (DK E)):=dW (((((ax.nil.addF YG).addF YJ).addF YL).addF wX).addF zx5)
structure DL where
  N:Nat
  c109:(Sl ay)->ae Bool
  OM:(Sl ay)->ae set
  c159:set->ae Bool
  c167:list->ae Bool
  c162:list×(Pt Int)->ae Bool
def DN(E:DL):(Sl ay)×(dY 162 Unit (Pt Int))->ae (set×Int):=iK E.N (((((Tabs.nil.addF 109 (ae.un E.c109)).addF 158 (ae.un E.OM)).addF 159 (ae.un E.c159)).addF 167 (ae.un E.c167)).addF 162 (ae.un E.c162)) 117
theorem zju(E:DL){A:Type}(k:(set×Int)→Option A)(a0:Sl ay)(a1:(dY 162 Unit (Pt Int))):(DN E (a0,a1)).T k =
  (E.c109 a0).T λr1 =>
  cond (!r1)
  (k ((⟨(⟨(⟨0,λ_=>default⟩:(Sl ay))⟩:list),(⟨0,λ_=>default⟩:(Sl straight))⟩:set),2))
  ((E.OM a0).T λr2 =>
 (E.c159 r2).T λr3 =>
 cond (!r3)
 (k ((⟨(⟨(⟨0,λ_=>default⟩:(Sl ay))⟩:list),(⟨0,λ_=>default⟩:(Sl straight))⟩:set),5))
 ((E.c167 r2.list).T λr4 =>
 cond r4
 ((E.c162 (r2.list,a1.v)).T λr5 =>
 cond (!r5)
 (k ((⟨(⟨(⟨0,λ_=>default⟩:(Sl ay))⟩:list),(⟨0,λ_=>default⟩:(Sl straight))⟩:set),6))
 (k (r2,0)))
 (k (r2,0)))):=dV
theorem zjv [aJ](E:DL)(YG:Ok aH 109 (ae.un E.c109))(YJ:Ok aH 158 (ae.un E.OM))(YL:Ok aH 159 (ae.un E.c159))(wX:Ok aH 167 (ae.un E.c167))(zx6:Ok aH 162 (ae.un E.c162)):Ok aH 117 (ae.un (DN E)):=dW (((((ax.nil.addF YG).addF YJ).addF YL).addF wX).addF zx6)
structure zpm where
  N:Nat
def zpn(E:zpm):list->ae Bool:=iK E.N Tabs.nil 118
theorem e118(E:zpm){A:Type}(k:Bool→Option A)(a0:list):(zpn E (a0)).T k =
  k false:=dV
theorem zSK [aJ](E:zpm):Ok aH 118 (ae.un (zpn E)):=dW ax.nil
structure vJ where
  N:Nat
  zsx:straight×(Pt Int)->ae aP
  c168:(Sl aP)×((dY 169 Unit Unit) ⊕ (dY 171 Unit Unit))->ae aP
  kJ:Int×Int->ae aP
abbrev WR(E:vJ):bU:=gY (((Tabs.nil.addF 202 (ae.un E.zsx)).addF 168 (ae.un E.c168)).addF 172 (ae.un E.kJ)) []
def WS:dK:=bY aH 119 [] {ks:=[(1,3,⟨[],[(6,23,85)],[],[],[],[],[]⟩)]}
def DR(E:vJ):set×(dY 202 Unit (Pt Int))->ae (aP×aP):=ae.ty (aF aH E.N (WR E) WS 119)
section
variable(E:vJ){A:Type}(k:(aP×aP)->Option A)
def wY(E:vJ)(n:Nat)(a0:set)(a1:(dY 202 Unit (Pt Int)))(gQ:Int)(O3:Sl aP){A:Type}(k:(aP×aP)->Option A):Option A :=
  iP aH (WR E) E.N WS 119 [1,1,0,1,0] [.n n] (iO k)
    ⟨[(1,eP a1),(4,.cl (.ptr 4 0)),(5,.cl (.ptr 5 0)),(6,.cl (.vec 23)),(12,eP a0.dm),(13,.int (a0.dm.len:Int)),(14,.int gQ)],[(4,.box 85 [.p (.int .i64 0),.p (.int .i64 0)]),(5,.box 85 [.p (.int .i64 0),.p (.int .i64 0)]),(23,eV 85 2 16 O3)],[]⟩
theorem zjw(a0:set)(a1:(dY 202 Unit (Pt Int))):(DR E (a0,a1)).T k =
  wY E E.N a0 a1 0 (⟨0,(λ_=>(⟨0,0⟩:aP))⟩:(Sl aP)) k:=dV
theorem MN(n0:Nat)(a0:set)(a1:(dY 202 Unit (Pt Int)))(gQ:Int)(O3:Sl aP):wY E (n0+1) a0 a1 gQ O3 k =
  cond (decide (gQ<(a0.dm.len:Int)))
  (aV (decide (0<=gQ/\gQ<(a0.dm.len:Int))) ((E.zsx ((a0.dm.get gQ.toNat),a1.v)).T λr1 =>
 aV (room (O3.len+1) 16) (wY E n0 a0 a1 (aO (gQ+1)) (⟨(O3.len+1),(jL O3.len O3.get (fun _=>r1))⟩:(Sl aP)) k)))
  ((E.c168 (O3,(Sum.inl (⟨(),()⟩:(dY 169 Unit Unit))))).T λr2 =>
 (E.c168 (O3,(Sum.inr (⟨(),()⟩:(dY 171 Unit Unit))))).T λr3 =>
 (E.kJ (r2.Num,r2.bT)).T λr4 =>
 (E.kJ (r3.Num,r3.bT)).T λr5 =>
 k (r4,r5)):=krY
end
theorem zjx [aJ](E:vJ)(zx7:Ok aH 202 (ae.un E.zsx))(Tu:Ok aH 168 (ae.un E.c168))(qP:Ok aH 172 (ae.un E.kJ)):Ok aH 119 (ae.un (DR E)):=dW (((ax.nil.addF zx7).addF Tu).addF qP)
structure vK where
  N:Nat
  zsh:straight->ae aP
  c168:(Sl aP)×((dY 169 Unit Unit) ⊕ (dY 171 Unit Unit))->ae aP
  kJ:Int×Int->ae aP
abbrev WT(E:vK):bU:=gY (((Tabs.nil.addF 120 (ae.un E.zsh)).addF 168 (ae.un E.c168)).addF 172 (ae.un E.kJ)) []
def WU:dK:=bY aH 119 [] {ks:=[(1,3,⟨[],[(6,23,85)],[],[],[],[],[]⟩)]}
def DT(E:vK):set×(dY 120 Unit Unit)->ae (aP×aP):=ae.ty (aF aH E.N (WT E) WU 119)
section
variable(E:vK){A:Type}(k:(aP×aP)->Option A)
def wZ(E:vK)(n:Nat)(a0:set)(gQ:Int)(O3:Sl aP){A:Type}(k:(aP×aP)->Option A):Option A :=
  iP aH (WT E) E.N WU 119 [1,1,0,1,0] [.n n] (iO k)
    ⟨[(1,.p (.fn 120 [] [])),(4,.cl (.ptr 4 0)),(5,.cl (.ptr 5 0)),(6,.cl (.vec 23)),(12,eP a0.dm),(13,.int (a0.dm.len:Int)),(14,.int gQ)],[(4,.box 85 [.p (.int .i64 0),.p (.int .i64 0)]),(5,.box 85 [.p (.int .i64 0),.p (.int .i64 0)]),(23,eV 85 2 16 O3)],[]⟩
theorem zjy(a0:set)(a1:(dY 120 Unit Unit)):(DT E (a0,a1)).T k =
  wZ E E.N a0 0 (⟨0,(λ_=>(⟨0,0⟩:aP))⟩:(Sl aP)) k:=dV
theorem MO(n0:Nat)(a0:set)(gQ:Int)(O3:Sl aP):wZ E (n0+1) a0 gQ O3 k =
  cond (decide (gQ<(a0.dm.len:Int)))
  (aV (decide (0<=gQ/\gQ<(a0.dm.len:Int))) ((E.zsh (a0.dm.get gQ.toNat)).T λr1 =>
 aV (room (O3.len+1) 16) (wZ E n0 a0 (aO (gQ+1)) (⟨(O3.len+1),(jL O3.len O3.get (fun _=>r1))⟩:(Sl aP)) k)))
  ((E.c168 (O3,(Sum.inl (⟨(),()⟩:(dY 169 Unit Unit))))).T λr2 =>
 (E.c168 (O3,(Sum.inr (⟨(),()⟩:(dY 171 Unit Unit))))).T λr3 =>
 (E.kJ (r2.Num,r2.bT)).T λr4 =>
 (E.kJ (r3.Num,r3.bT)).T λr5 =>
 k (r4,r5)):=krY
end
theorem zjz [aJ](E:vK)(zx8:Ok aH 120 (ae.un E.zsh))(Tu:Ok aH 168 (ae.un E.c168))(qP:Ok aH 172 (ae.un E.kJ)):Ok aH 119 (ae.un (DT E)):=dW (((ax.nil.addF zx8).addF Tu).addF qP)
structure zpo where
  N:Nat
def zpp(E:zpo):straight->ae aP:=iK E.N Tabs.nil 120
theorem e120(E:zpo){A:Type}(k:aP→Option A)(a0:straight):(zpp E (a0)).T k =
  k (⟨a0.bI,a0.den⟩:aP):=dV
theorem zSL [aJ](E:zpo):Ok aH 120 (ae.un (zpp E)):=dW ax.nil
structure E58 where
  N:Nat
  c117:(Sl ay)×((dY 118 Unit Unit) ⊕ (dY 162 Unit (Pt Int)))->ae (set×Int)
  c119:set×((dY 202 Unit (Pt Int)) ⊕ (dY 120 Unit Unit))->ae (aP×aP)
def F58(E:E58):(Sl ay)->ae (aP×aP×Int):=iK E.N ((Tabs.nil.addF 117 (ae.un E.c117)).addF 119 (ae.un E.c119)) 58
theorem e58(E:E58){A:Type}(k:(aP×aP×Int)→Option A)(a0:Sl ay):(F58 E (a0)).T k =
  (E.c117 (a0,(Sum.inl (⟨(),()⟩:(dY 118 Unit Unit))))).T λr1 =>
  cond (r1.2 != 0)
  (k ((⟨0,0⟩:aP),(⟨0,0⟩:aP),r1.2))
  ((E.c119 (r1.1,(Sum.inr (⟨(),()⟩:(dY 120 Unit Unit))))).T λr2 =>
 k (r2.1,r2.2,0)):=dV
theorem o58 [aJ](E:E58)(UM:Ok aH 117 (ae.un E.c117))(zmK:Ok aH 119 (ae.un E.c119)):Ok aH 58 (ae.un (F58 E)):=dW ((ax.nil.addF UM).addF zmK)
structure zez where
  N:Nat
abbrev zGz(E:zez):bU:=gY Tabs.nil []
def zGA:dK:=bY aH 125 [] {}
def zpq(E:zez):Int×Int->ae Int:=ae.ty (aF aH E.N (zGz E) zGA 125)
section
variable(E:zez){A:Type}(k:Int->Option A)
def Tv(E:zez)(n:Nat)(v0 v1:Int){A:Type}(k:Int->Option A):Option A :=
  iP aH (zGz E) E.N zGA 125 [1,0,0] [.n n] (iO k)
    ⟨[(0,.int v0),(1,.int v1)],[],[]⟩
theorem e125(a0 a1:Int):(zpq E (a0,a1)).T k =
  Tv E E.N a0 a1 k:=dV
theorem zx9(n0:Nat)(v0 v1:Int):Tv E (n0+1) v0 v1 k =
  cond (v1 != 0)
  (aV (decide (v1≠0)) (Tv E n0 v1 (v0.tmod v1) k))
  (k v0):=krY
end
theorem zSM [aJ](E:zez):Ok aH 125 (ae.un (zpq E)):=dW ax.nil
structure zpr where
  N:Nat
  zsr:(Sl Bool)×Bool->ae Int
def zps(E:zpr):(Sl Bool)×Bool->ae Bool:=iK E.N (Tabs.nil.addF 176 (ae.un E.zsr)) 126
theorem e126(E:zpr){A:Type}(k:Bool→Option A)(a0:Sl Bool)(a1:Bool):(zps E (a0,a1)).T k =
  (E.zsr (a0,a1)).T λr1 =>
  k (decide (r1>=0)):=dV
theorem zSN [aJ](E:zpr)(zya:Ok aH 176 (ae.un E.zsr)):Ok aH 126 (ae.un (zps E)):=dW (ax.nil.addF zya)
structure zjA where
  N:Nat
  IQ:af×Int×Bc 143 (Pt aU)×Bc 38 Int×Bw 30 43 3 56 af×Bs 255 178 2 4×Unit->ae ((Bool×Int)×(Unit×Unit×(Pt aU)×Int×Sl af×Unit×Unit))
abbrev zSO(E:zjA):bU:=gY (Tabs.nil.addM 178 (ae.unP 254 E.IQ)) []
def zSP:dK:=bY aH 127 [] {ks:=[(0,3,⟨[],[],[(4,0,5000,43)],[],[],[],[]⟩)],pan:=[4]}
def zpt(E:zjA):(Pt aU)×Int->ae ((Sl af)×Bool):=ae.ty (aD aH (zSO E) E.N zcp 177 zSP 127)
theorem e127(E:zjA){A:Type}(k:((Sl af)×Bool)→Option A)(a0:Pt aU)(a1:Int):(zpt E (a0,a1)).T k =
  (E.IQ ((⟨0,(⟨0,λ_=>default⟩:(Sl Int)),(⟨0,λ_=>default⟩:(Sl Int))⟩:af),0,(⟨a0⟩:Bc 143 (Pt aU)),(⟨a1⟩:Bc 38 Int),(⟨(⟨0,(λ_=>(⟨0,(⟨0,(λ_=>0)⟩:(Sl Int)),(⟨0,(λ_=>0)⟩:(Sl Int))⟩:af))⟩:(Sl af))⟩:Bw 30 43 3 56 af),({}:Bs 255 178 2 4),())).T λr1=>cond r1.1.1
  (k ((⟨0,λ_=>default⟩:(Sl af)),false))
  (k (r1.2.2.2.2.2.1,true)):=zFp.trans krY
theorem zSQ [aJ](E:zjA)(zyb:rJ aH 178 (ae.unP 254 E.IQ)):Ok aH 127 (ae.un (zpt E)):=ztK (ziK (ax.nil.addM zyb) (dL krY) ziO)
structure vM where
  N:Nat
  zsj:(Pt aU)×af->ae Bool
abbrev WV(E:vM):bU:=gY (Tabs.nil.addF 129 (ae.un E.zsj)) []
def WW:dK:=bY aH 128 [] {ks:=[(1,3,⟨[],[(5,20,43)],[],[],[],[],[]⟩)]}
def DU(E:vM):(Sl af)×(dY 129 (Pt aU) Unit)->ae (Sl af×Unit):=ae.tyV (aK aH E.N (WV E) WW 128 43 3 56)
section
variable(E:vM){A:Type}(k:(Sl af×Unit)->Option A)
def rW(E:vM)(n:Nat)(a0:Sl af)(a1:(dY 129 (Pt aU) Unit))(v10:Int)(O6:Sl af){A:Type}(k:(Sl af×Unit)->Option A):Option A :=
  ptG aH (WV E) E.N WW 128 [1,1,0,1,0] [.n n] (zab 43 3 56) (zaa k)
    ⟨[(1,.p (.fn 129 [.fp [.sl a1.a.v.au.aj.len 15 (λi=>bH.enc (a1.a.v.au.aj.get i)),.sl a1.a.v.hits.len 6 (λi=>bH.enc (a1.a.v.hits.get i)),.sl a1.a.v.kW.len 1 (λi=>bH.enc (a1.a.v.kW.get i)),.int .i64 a1.a.v.rules.uS,.int .i64 a1.a.v.rules.zF] 0] [])),(5,.cl (.vec 20)),(8,eP a0),(9,.int (a0.len:Int)),(10,.int v10)],[(20,eV 43 3 56 O6)],[]⟩
theorem zjB(a0:Sl af)(a1:(dY 129 (Pt aU) Unit)):(DU E (a0,a1)).T k =
  rW E E.N a0 a1 0 (⟨0,(λ_=>(⟨0,(⟨0,(λ_=>0)⟩:(Sl Int)),(⟨0,(λ_=>0)⟩:(Sl Int))⟩:af))⟩:(Sl af)) k:=ziB.trans krY
theorem MP(n0:Nat)(a0:Sl af)(a1:(dY 129 (Pt aU) Unit))(v10:Int)(O6:Sl af):rW E (n0+1) a0 a1 v10 O6 k =
  cond (decide (v10<(a0.len:Int)))
  (aV (decide (0<=v10/\v10<(a0.len:Int))) ((E.zsj (a1.a,(a0.get v10.toNat))).T λr1 =>
 cond r1
 (aV (room (O6.len+1) 56) (rW E n0 a0 a1 (aO (v10+1)) (⟨(O6.len+1),(jL O6.len O6.get (λ_=>(a0.get v10.toNat)))⟩:(Sl af)) k))
 (rW E n0 a0 a1 (aO (v10+1)) O6 k)))
  (k (O6,())):=krY
end
theorem zjC [aJ](E:vM)(zyc:Ok aH 129 (ae.un E.zsj)):gz aH 128 (.mkv 43 3 56 (ae.unV (DU E))):=Z9 (SN (ax.nil.addF zyc) (dL krY))
structure vN where
  N:Nat
  c130:af×(Pt (Pt found))->ae Bool
abbrev WX(E:vN):bU:=gY (Tabs.nil.addF 130 (ae.un E.c130)) []
def WY:dK:=bY aH 128 [] {ks:=[(1,3,⟨[],[(5,20,43)],[],[],[],[],[]⟩)]}
def DW(E:vN):(Sl af)×(dY 130 Unit (Pt (Pt found)))->ae (Sl af×Unit):=ae.tyV (aK aH E.N (WX E) WY 128 43 3 56)
section
variable(E:vN){A:Type}(k:(Sl af×Unit)->Option A)
def rX(E:vN)(n:Nat)(a0:Sl af)(a1:(dY 130 Unit (Pt (Pt found))))(v10:Int)(O6:Sl af){A:Type}(k:(Sl af×Unit)->Option A):Option A :=
  ptG aH (WX E) E.N WY 128 [1,1,0,1,0] [.n n] (zab 43 3 56) (zaa k)
    ⟨[(1,eP a1),(5,.cl (.vec 20)),(8,eP a0),(9,.int (a0.len:Int)),(10,.int v10)],[(20,eV 43 3 56 O6)],[]⟩
theorem zjD(a0:Sl af)(a1:(dY 130 Unit (Pt (Pt found)))):(DW E (a0,a1)).T k =
  rX E E.N a0 a1 0 (⟨0,(λ_=>(⟨0,(⟨0,(λ_=>0)⟩:(Sl Int)),(⟨0,(λ_=>0)⟩:(Sl Int))⟩:af))⟩:(Sl af)) k:=ziB.trans krY
theorem MR(n0:Nat)(a0:Sl af)(a1:(dY 130 Unit (Pt (Pt found))))(v10:Int)(O6:Sl af):rX E (n0+1) a0 a1 v10 O6 k =
  cond (decide (v10<(a0.len:Int)))
  (aV (decide (0<=v10/\v10<(a0.len:Int))) ((E.c130 ((a0.get v10.toNat),a1.v)).T λr1 =>
 cond r1
 (aV (room (O6.len+1) 56) (rX E n0 a0 a1 (aO (v10+1)) (⟨(O6.len+1),(jL O6.len O6.get (λ_=>(a0.get v10.toNat)))⟩:(Sl af)) k))
 (rX E n0 a0 a1 (aO (v10+1)) O6 k)))
  (k (O6,())):=krY
end
theorem zjE [aJ](E:vN)(zyd:Ok aH 130 (ae.un E.c130)):gz aH 128 (.mkv 43 3 56 (ae.unV (DW E))):=Z9 (SN (ax.nil.addF zyd) (dL krY))
structure zpu where
  N:Nat
  c141:(Pt aU)×af->ae ((Sl Int))
def zpv(E:zpu):(Pt aU)×af->ae Bool:=iK E.N (Tabs.nil.addF 141 (ae.un E.c141)) 129
theorem e129(E:zpu){A:Type}(k:Bool→Option A)(a0:Pt aU)(a1:af):(zpv E (a0,a1)).T k =
  cond (decide ((a1.Hits.len:Int)>=a0.v.rules.uS))
  ((E.c141 (a0,a1)).T λr1 =>
 k (decide ((r1.len:Int)≤a0.v.rules.zF)))
  (k false):=dV
theorem zSR [aJ](E:zpu)(ztd:Ok aH 141 (ae.un E.c141)):Ok aH 129 (ae.un (zpv E)):=dW (ax.nil.addF ztd)
structure zpw where
  N:Nat
  c131:(Sl af)×(dY 132 Unit (Pt af))->ae Bool
def zpx(E:zpw):af×(Pt (Pt found))->ae Bool:=iK E.N (Tabs.nil.addF 131 (ae.un E.c131)) 130
theorem zSS(E:zpw){A:Type}(k:Bool→Option A)(a0:af)(a1:(Pt (Pt found))):(zpx E (a0,a1)).T k =
  (E.c131 (a1.v.v.fits,(⟨(),(⟨a0⟩:(Pt af))⟩:(dY 132 Unit (Pt af))))).T λr1 =>
  k (!r1):=dV
theorem zST [aJ](E:zpw)(zye:Ok aH 131 (ae.un E.c131)):Ok aH 130 (ae.un (zpx E)):=dW (ax.nil.addF zye)
structure zpy where
  N:Nat
  c97:(Sl af)×(dY 132 Unit (Pt af))->ae Int
def zpz(E:zpy):(Sl af)×(dY 132 Unit (Pt af))->ae Bool:=iK E.N (Tabs.nil.addF 97 (ae.un E.c97)) 131
theorem zSU(E:zpy){A:Type}(k:Bool→Option A)(a0:Sl af)(a1:(dY 132 Unit (Pt af))):(zpz E (a0,a1)).T k =
  (E.c97 (a0,a1)).T λr1 =>
  k (decide (r1>=0)):=dV
theorem zSV [aJ](E:zpy)(h97:Ok aH 97 (ae.un E.c97)):Ok aH 131 (ae.un (zpz E)):=dW (ax.nil.addF h97)
structure zpA where
  N:Nat
  c92:af×af->ae Bool
def zpB(E:zpA):af×(Pt af)->ae Bool:=iK E.N (Tabs.nil.addF 92 (ae.un E.c92)) 132
theorem zSW(E:zpA){A:Type}(k:Bool→Option A)(a0:af)(a1:Pt af):(zpB E (a0,a1)).T k =
  cond (decide ((a0.Hits.len:Int)>(a1.v.Hits.len:Int)))
  ((E.c92 (a0,a1.v)).T λr1 =>
 k r1)
  (k false):=dV
theorem zSX [aJ](E:zpA)(h92:Ok aH 92 (ae.un E.c92)):Ok aH 132 (ae.un (zpB E)):=dW (ax.nil.addF h92)
structure zpC where
  N:Nat
  zst:Int×Int->ae Int
  zlt:(Sl Int)×(Sl Int)->ae Int
  zss:(Sl Int)->ae Int
def zpD(E:zpC):af×af->ae Int:=iK E.N (((Tabs.nil.addF 186 (ae.un E.zst)).addF 187 (ae.un E.zlt)).addF 185 (ae.un E.zss)) 134
theorem zSY(E:zpC){A:Type}(k:Int→Option A)(a0 a1:af):(zpD E (a0,a1)).T k =
  (E.zst (a0.View,a1.View)).T λr1 =>
  (E.zlt (a0.Hits,a1.Hits)).T λr2 =>
  (E.zlt (a0.bz,a1.bz)).T λr3 =>
  (E.zss (⟨3,(GU [r1,r2,r3])⟩:(Sl Int))).T λr4 =>
  k r4:=dV
theorem zSZ [aJ](E:zpC)(zyf:Ok aH 186 (ae.un E.zst))(zpE:Ok aH 187 (ae.un E.zlt))(zyg:Ok aH 185 (ae.un E.zss)):Ok aH 134 (ae.un (zpD E)):=dW (((ax.nil.addF zyf).addF zpE).addF zyg)
structure zpF where
  N:Nat
def zpG(E:zpF):ak×Int->ae (Int×Int):=iK E.N Tabs.nil 136
theorem zS1(E:zpF){A:Type}(k:(Int×Int)→Option A)(a0:ak)(a1:Int):(zpG E (a0,a1)).T k =
  cond (a0.Kind==2)
  (k ((aO ((aO (a0.First+(aO (a1*a0.aS))))-(aO (a0.aS.tdiv 2)))),(aO ((aO ((aO ((aO (a0.First+(aO (a1*a0.aS))))-(aO (a0.aS.tdiv 2))))+a0.aS))-1))))
  (k ((aO ((aO (a0.First+(aO (a1*a0.aS))))-0)),(aO ((aO ((aO ((aO (a0.First+(aO (a1*a0.aS))))-0))+a0.aS))-1)))):=dV
theorem zS2 [aJ](E:zpF):Ok aH 136 (ae.un (zpG E)):=dW ax.nil
structure zeA where
  N:Nat
  c105:(Pt aU)×af->ae ((Sl ay))
  NH:(Sl Int)×((dY 180 Unit ((Pt (Pt aU))×(Pt Int))) ⊕ (dY 190 Unit ((Pt (Pt aU))×(Pt Int))))->ae Bool
  zfX:(Sl ay)×Int->ae (aP×aP×Int)
  OO:aP->ae Int
  zsv:aP->ae Int
  zfY:au×Int×bZ->ae (Bool×Bool×Int)
abbrev zGB(E:zeA):bU:=gY (((((((Tabs.nil.addN [190]).addF 105 (ae.un E.c105)).addF 179 (ae.un E.NH)).addF 114 (ae.un E.zfX)).addF 191 (ae.un E.OO)).addF 192 (ae.un E.zsv)).addF 115 (ae.un E.zfY)) []
def zGC:dK:=bY aH 141 [] {ks:=[(1,4,⟨[],[(5,83,3)],[],[],[],[],[]⟩)],clo:=[190]}
def zpH(E:zeA):(Pt aU)×af->ae ((Sl Int)):=ae.ty (aF aH E.N (zGB E) zGC 141)
section
variable(E:zeA){A:Type}(k:(Sl Int)->Option A)
def nC(E:zeA)(n:Nat)(a0:Pt aU)(a1:af)(v6:Sl ay)(v26:Int)(w83:Sl Int){A:Type}(k:(Sl Int)->Option A):Option A :=
  iP aH (zGB E) E.N zGC 141 [1,1,1,0,1,0] [.n n] (iO k)
    ⟨[(2,.cl (.ptr 2 0)),(3,.cl (.ptr 3 0)),(5,.cl (.vec 83)),(6,eP v6),(24,eP a0.v.au.aj),(25,.int (a0.v.au.aj.len:Int)),(26,.int v26)],[(2,eB 143 a0),(3,eB 43 a1),(83,eV 3 1 8 w83)],[]⟩
theorem zS3(a0:Pt aU)(a1:af):(zpH E (a0,a1)).T k =
  (E.c105 (a0,a1)).T λr1 =>
  nC E E.N a0 a1 r1 0 (⟨0,(λ_=>0)⟩:(Sl Int)) k:=dV
theorem zjF(n0:Nat)(a0:Pt aU)(a1:af)(v6:Sl ay)(v26:Int)(w83:Sl Int):nC E (n0+1) a0 a1 v6 v26 w83 k =
  cond (decide (v26<(a0.v.au.aj.len:Int)))
  (aV (decide (0<=v26/\v26<(a0.v.au.aj.len:Int))) (cond ((a0.v.au.aj.get v26.toNat).View != a1.View)
 (nC E n0 a0 a1 v6 (aO (v26+1)) w83 k)
 ((E.NH (a1.Hits,(Sum.inr (⟨(),((⟨a0⟩:(Pt (Pt aU))),(⟨v26⟩:(Pt Int)))⟩:(dY 190 Unit ((Pt (Pt aU))×(Pt Int))))))).T λr1 =>
 cond r1
 (nC E n0 a0 a1 v6 (aO (v26+1)) w83 k)
 ((E.zfX (v6,(a0.v.au.aj.get v26.toNat).Z)).T λr2 =>
 cond (r2.2.2 != 0)
 (nC E n0 a0 a1 v6 (aO (v26+1)) w83 k)
 ((E.OO r2.1).T λr3 =>
 (E.zsv r2.2.1).T λr4 =>
 cond (decide (r3<(-1000000)))
 (nC E n0 a0 a1 v6 (aO (v26+1)) w83 k)
 (cond (decide (r4>1000000))
 (nC E n0 a0 a1 v6 (aO (v26+1)) w83 k)
 ((E.zfY (a0.v.au,v26,(⟨r3,r4⟩:bZ))).T λr5 =>
 cond (r5.2.2==0)
 (cond r5.1
 (aV (room (w83.len+1) 8) (nC E n0 a0 a1 v6 (aO (v26+1)) (⟨(w83.len+1),(jL w83.len w83.get (λ_=>v26))⟩:(Sl Int)) k))
 (nC E n0 a0 a1 v6 (aO (v26+1)) w83 k))
 (nC E n0 a0 a1 v6 (aO (v26+1)) w83 k))))))))
  (k w83):=krY
end
theorem zS4 [aJ](E:zeA)(NT:Ok aH 105 (ae.un E.c105))(zaz:Ok aH 179 (ae.un E.NH))(zte:Ok aH 114 (ae.un E.zfX))(zaA:Ok aH 191 (ae.un E.OO))(zyh:Ok aH 192 (ae.un E.zsv))(ztf:Ok aH 115 (ae.un E.zfY)):Ok aH 141 (ae.un (zpH E)):=dW (((((((ax.nil.addN).addF NT).addF zaz).addF zte).addF zaA).addF zyh).addF ztf)
structure zpI where
  N:Nat
  c38:(Sl Int)×(Sl Int)->ae Int
def zpJ(E:zpI):af×af->ae Bool:=iK E.N (Tabs.nil.addF 38 (ae.un E.c38)) 144
theorem zS5(E:zpI){A:Type}(k:Bool→Option A)(a0 a1:af):(zpJ E (a0,a1)).T k =
  cond (a0.View != a1.View)
  (k (decide (a0.View<a1.View)))
  ((E.c38 (a0.Hits,a1.Hits)).T λr1 =>
 cond (r1 != 0)
 (k (decide (r1<0)))
 ((E.c38 (a0.bz,a1.bz)).T λr2 =>
 k (decide (r2<0)))):=dV
theorem zS6 [aJ](E:zpI)(h38:Ok aH 38 (ae.un E.c38)):Ok aH 144 (ae.un (zpJ E)):=dW (ax.nil.addF h38)
structure zpK where
  N:Nat
  BU:(Sl ay)->ae Bool
  c193:(Sl ay)->ae (Int×Int×Bool)
  c194:(Sl ay)->ae ((Sl Line))
def zpL(E:zpK):(Sl ay)->ae Bool:=iK E.N (((Tabs.nil.addF 149 (ae.un E.BU)).addF 193 (ae.un E.c193)).addF 194 (ae.un E.c194)) 145
theorem zS7(E:zpK){A:Type}(k:Bool→Option A)(a0:Sl ay):(zpL E (a0)).T k =
  (E.BU a0).T λr1 =>
  cond r1
  ((E.c193 a0).T λr2 =>
 k r2.2.2)
  ((E.c194 a0).T λr3 =>
 k (decide ((r3.len:Int)>0))):=dV
theorem zS8 [aJ](E:zpK)(IE:Ok aH 149 (ae.un E.BU))(zeB:Ok aH 193 (ae.un E.c193))(YM:Ok aH 194 (ae.un E.c194)):Ok aH 145 (ae.un (zpL E)):=dW (((ax.nil.addF IE).addF zeB).addF YM)
structure zeC where
  N:Nat
  c74:au×bF->ae bZ
abbrev zGD(E:zeC):bU:=gY (Tabs.nil.addF 74 (ae.un E.c74)) []
def zGE:dK:=bY aH 147 [] {}
def zpM(E:zeC):au×(Sl bF)->ae (bZ×Bool):=ae.ty (aF aH E.N (zGD E) zGE 147)
section
variable(E:zeC){A:Type}(k:(bZ×Bool)->Option A)
def Tz(E:zeC)(n:Nat)(a0:au)(a1:Sl bF)(v7:Int)(x6:bZ){A:Type}(k:(bZ×Bool)->Option A):Option A :=
  iP aH (zGD E) E.N zGE 147 [1,1,0,1,0] [.n n] (iO k)
    ⟨[(1,eP a1),(2,.cl (.ptr 2 0)),(4,.cl (.ptr 4 0)),(6,.cl (.ptr 6 0)),(7,.int v7)],[(2,eB 24 a0),(4,.box 105 [.p (.int .i64 0),.p (.int .i64 0)]),(6,eB 105 x6)],[]⟩
theorem zS9(a0:au)(a1:Sl bF):(zpM E (a0,a1)).T k =
  aV (decide ((0:Int)<=0/\0<(a1.len:Int))) ((E.c74 (a0,(a1.get 0))).T λr1 =>
 Tz E E.N a0 a1 1 r1 k):=dV
theorem zjG(n0:Nat)(a0:au)(a1:Sl bF)(v7:Int)(x6:bZ):Tz E (n0+1) a0 a1 v7 x6 k =
  cond (decide (v7<(a1.len:Int)))
  (aV (decide (0<=v7/\v7<(a1.len:Int))) ((E.c74 (a0,(a1.get v7.toNat))).T λr1 =>
 Tz E n0 a0 a1 (aO (v7+1)) (⟨(if r1.Low>x6.Low then r1.Low else x6.Low),(if r1.High<x6.High then r1.High else x6.High)⟩:bZ) k))
  (k (x6,decide (x6.Low<=x6.High))):=krY
end
theorem zTa [aJ](E:zeC)(h74:Ok aH 74 (ae.un E.c74)):Ok aH 147 (ae.un (zpM E)):=dW (ax.nil.addF h74)
structure zeD where
  N:Nat
abbrev zGF(E:zeD):bU:=gY Tabs.nil []
def zGG:dK:=bY aH 148 [] {ks:=[(1,3,⟨[],[(5,22,92)],[],[],[],[],[]⟩)]}
def zpN(E:zeD):(Sl bF)×(Sl Int)->ae ((Sl bF)):=ae.ty (aF aH E.N (zGF E) zGG 148)
section
variable(E:zeD){A:Type}(k:(Sl bF)->Option A)
def TA(E:zeD)(n:Nat)(a0:Sl bF)(a1:Sl Int)(v6:Int)(UC:Sl bF){A:Type}(k:(Sl bF)->Option A):Option A :=
  iP aH (zGF E) E.N zGG 148 [1,1,0,1,0] [.n n] (iO k)
    ⟨[(0,eP a0),(1,eP a1),(5,.cl (.vec 22)),(6,.int v6)],[(22,eV 92 6 48 UC)],[]⟩
theorem zTb(a0:Sl bF)(a1:Sl Int):(zpN E (a0,a1)).T k =
  TA E E.N a0 a1 0 (⟨0,(λ_=>(⟨0,0,0,0,0,0⟩:bF))⟩:(Sl bF)) k:=dV
theorem zjH(n0:Nat)(a0:Sl bF)(a1:Sl Int)(v6:Int)(UC:Sl bF):TA E (n0+1) a0 a1 v6 UC k =
  cond (decide (v6<(a1.len:Int)))
  (aV (decide (0<=v6/\v6<(a1.len:Int))) (aV (decide (0<=a1.get v6.toNat/\a1.get v6.toNat<(a0.len:Int))) (aV (room (UC.len+1) 48) (TA E n0 a0 a1 (aO (v6+1)) (⟨(UC.len+1),(jL UC.len UC.get (λ_=>(a0.get (a1.get v6.toNat).toNat)))⟩:(Sl bF)) k))))
  (k UC):=krY
end
theorem zTc [aJ](E:zeD):Ok aH 148 (ae.un (zpN E)):=dW ax.nil
structure zeE where
  N:Nat
abbrev zGH(E:zeE):bU:=gY Tabs.nil []
def zGI:dK:=bY aH 149 [] {}
def zpO(E:zeE):(Sl ay)->ae Bool:=ae.ty (aF aH E.N (zGH E) zGI 149)
section
variable(E:zeE){A:Type}(k:Bool->Option A)
def BH(E:zeE)(n:Nat)(a0:Sl ay)(v3:Int){A:Type}(k:Bool->Option A):Option A :=
  iP aH (zGH E) E.N zGI 149 [1,0,1,0] [.n n] (iO k)
    ⟨[(0,eP a0),(3,.int v3)],[],[]⟩
theorem zTd(a0:Sl ay):(zpO E (a0)).T k =
  BH E E.N a0 1 k:=dV
theorem zjI(n0:Nat)(a0:Sl ay)(v3:Int):BH E (n0+1) a0 v3 k =
  cond (decide (v3<(a0.len:Int)))
  (aV (decide (0<=v3/\v3<(a0.len:Int))) (aV (decide ((0:Int)<=0/\0<(a0.len:Int))) (cond ((a0.get v3.toNat).Z != (a0.get 0).Z)
 (k false)
 (BH E n0 a0 (aO (v3+1)) k))))
  (k true):=krY
end
theorem zTe [aJ](E:zeE):Ok aH 149 (ae.un (zpO E)):=dW ax.nil
structure zaB where
  N:Nat
  BU:(Sl ay)->ae Bool
  c193:(Sl ay)->ae (Int×Int×Bool)
  Uy:Int×Int->ae aP
  c194:(Sl ay)->ae ((Sl Line))
  c76:Line×Int->ae aP
  YB:aP×aP->ae Bool
abbrev zyi(E:zaB):bU:=gY ((((((Tabs.nil.addF 149 (ae.un E.BU)).addF 193 (ae.un E.c193)).addF 71 (ae.un E.Uy)).addF 194 (ae.un E.c194)).addF 76 (ae.un E.c76)).addF 56 (ae.un E.YB)) []
def zyj:dK:=bY aH 150 [] {cut:=[12]}
def zpP(E:zaB):(Sl ay)×Int->ae (aP×aP):=ae.ty (aF aH E.N (zyi E) zyj 150)
section
variable(E:zaB){A:Type}(k:(aP×aP)->Option A)
def BI(E:zaB)(n:Nat)(a1:Int)(v9:Sl Line)(v12:Int)(x10 NS:aP){A:Type}(k:(aP×aP)->Option A):Option A :=
  iP aH (zyi E) E.N zyj 150 [1,1,1,1,0,1,0] [.n n] (iO k)
    ⟨[(1,.int a1),(4,.cl (.ptr 4 0)),(5,.cl (.ptr 5 0)),(9,eP v9),(10,.cl (.ptr 10 0)),(11,.cl (.ptr 11 0)),(12,.int v12)],[(4,.box 85 [.p (.int .i64 0),.p (.int .i64 0)]),(5,.box 85 [.p (.int .i64 0),.p (.int .i64 0)]),(10,eB 85 x10),(11,eB 85 NS)],[]⟩
def zaC(E:zaB)(n0:Nat)(a1:Int)(v9:Sl Line)(v12:Int)(x10 NS x13:aP){A:Type}(k:(aP×aP)->Option A):Option A :=
  iP aH (zyi E) E.N zyj 150 [1,1,1,1,0,1,0,0,1,0,0,1,1] [.n n0] (iO k)
    ⟨[(1,.int a1),(4,.cl (.ptr 4 0)),(5,.cl (.ptr 5 0)),(9,eP v9),(10,.cl (.ptr 10 0)),(11,.cl (.ptr 11 0)),(12,.int v12),(13,.cl (.ptr 13 0))],[(4,.box 85 [.p (.int .i64 0),.p (.int .i64 0)]),(5,.box 85 [.p (.int .i64 0),.p (.int .i64 0)]),(10,eB 85 x10),(11,eB 85 NS),(13,eB 85 x13)],[]⟩
theorem zMT(a0:Sl ay)(a1:Int):(zpP E (a0,a1)).T k =
  (E.BU a0).T λr1 =>
  cond r1
  ((E.c193 a0).T λr2 =>
 (E.Uy (r2.1,1)).T λr3 =>
 (E.Uy (r2.2.1,1)).T λr4 =>
 k (r3,r4))
  ((E.c194 a0).T λr5 =>
 aV (decide ((0:Int)<=0/\0<(r5.len:Int))) ((E.c76 ((r5.get 0),a1)).T λr6 =>
 aV (decide ((0:Int)<=0/\0<(r5.len:Int))) ((E.c76 ((r5.get 0),a1)).T λr7 =>
 BI E E.N a1 r5 1 r6 r7 k))):=dV
theorem zjJ(n0:Nat)(a1:Int)(v9:Sl Line)(v12:Int)(x10 NS:aP):BI E (n0+1) a1 v9 v12 x10 NS k =
  cond (decide (v12<(v9.len:Int)))
  (aV (decide (0<=v12/\v12<(v9.len:Int))) ((E.c76 ((v9.get v12.toNat),a1)).T λr1 =>
 (E.YB (r1,x10)).T λr2 =>
 cond r2
 (zaC E n0 a1 v9 v12 r1 NS r1 k)
 (zaC E n0 a1 v9 v12 x10 NS r1 k)))
  (k (x10,NS)):=krY
theorem zyk(n0:Nat)(a1:Int)(v9:Sl Line)(v12:Int)(x10 NS x13:aP):zaC E n0 a1 v9 v12 x10 NS x13 k =
  (E.YB (NS,x13)).T λr1 =>
  cond r1
  (BI E n0 a1 v9 (aO (v12+1)) x10 x13 k)
  (BI E n0 a1 v9 (aO (v12+1)) x10 NS k):=krY
end
theorem zTf [aJ](E:zaB)(IE:Ok aH 149 (ae.un E.BU))(zeB:Ok aH 193 (ae.un E.c193))(h71:Ok aH 71 (ae.un E.Uy))(YM:Ok aH 194 (ae.un E.c194))(h76:Ok aH 76 (ae.un E.c76))(h56:Ok aH 56 (ae.un E.YB)):Ok aH 150 (ae.un (zpP E)):=dW ((((((ax.nil.addF IE).addF zeB).addF h71).addF YM).addF h76).addF h56)
structure zpQ where
  N:Nat
def zpR(E:zpQ):aP->ae Int:=iK E.N Tabs.nil 151
theorem zTg(E:zpQ){A:Type}(k:Int→Option A)(a0:aP):(zpR E (a0)).T k =
  aV (decide (a0.bT≠0)) (cond (decide ((aO ((aO (a0.Num.tdiv a0.bT))*a0.bT))>a0.Num))
 (k (aO ((aO (a0.Num.tdiv a0.bT))-1)))
 (k (aO (a0.Num.tdiv a0.bT)))):=dV
theorem zTh [aJ](E:zpQ):Ok aH 151 (ae.un (zpR E)):=dW ax.nil
structure zeF where
  N:Nat
abbrev zGK(E:zeF):bU:=gY Tabs.nil []
def zGL:dK:=bY aH 152 [] {}
def zpS(E:zeF):(Sl Int)×Int->ae Int:=ae.ty (aF aH E.N (zGK E) zGL 152)
section
variable(E:zeF){A:Type}(k:Int->Option A)
def TC(E:zeF)(n:Nat)(a0:Sl Int)(a1 v8:Int){A:Type}(k:Int->Option A):Option A :=
  iP aH (zGK E) E.N zGL 152 [1,0,1,0] [.n n] (iO k)
    ⟨[(0,eP a0),(1,.int a1),(7,.int (a0.len:Int)),(8,.int v8)],[],[]⟩
theorem e152(a0:Sl Int)(a1:Int):(zpS E (a0,a1)).T k =
  TC E E.N a0 a1 0 k:=dV
theorem zjK(n0:Nat)(a0:Sl Int)(a1 v8:Int):TC E (n0+1) a0 a1 v8 k =
  cond (decide (v8<(a0.len:Int)))
  (aV (decide (0<=v8/\v8<(a0.len:Int))) (cond (a1==a0.get v8.toNat)
 (k v8)
 (TC E n0 a0 a1 (aO (v8+1)) k)))
  (k (-1)):=krY
end
theorem zTi [aJ](E:zeF):Ok aH 152 (ae.un (zpS E)):=dW ax.nil
structure zpT where
  N:Nat
  NJ:(au×(Sl bF)×af×Int)×Sl af->ae (Sl af)
def zpU(E:zpT):au×(Sl bF)×Int->ae ((Sl af)×Bool):=iK E.N (Tabs.nil.addO 195 (.grow 43 3 56 (ae.unW E.NJ))) 153
theorem e153(E:zpT){A:Type}(k:((Sl af)×Bool)→Option A)(a0:au)(a1:Sl bF)(a2:Int):(zpU E (a0,a1,a2)).T k =
  (E.NJ ((a0,a1,(⟨a2,(⟨0,λ_=>default⟩:(Sl Int)),(⟨0,λ_=>default⟩:(Sl Int))⟩:af),0),(⟨0,(λ_=>(⟨0,(⟨0,λ_=>default⟩:(Sl Int)),(⟨0,λ_=>default⟩:(Sl Int))⟩:af))⟩:(Sl af)))).T λr1 =>
  k (r1,decide ((r1.len:Int)<=2000)):=dV
theorem zTj [aJ](E:zpT)(zyl:gz aH 195 (.grow 43 3 56 (ae.unW E.NJ))):Ok aH 153 (ae.un (zpU E)):=dW (ax.nil.addO zyl)
structure zpV where
  N:Nat
  c196:au×(Sl bF)×af->ae Bool
  c91:au×(Sl bF)×af->ae ((Sl Int))
def zpW(E:zpV):au×bJ×(Sl bF)×af->ae Bool:=iK E.N ((Tabs.nil.addF 196 (ae.un E.c196)).addF 91 (ae.un E.c91)) 154
theorem e154(E:zpV){A:Type}(k:Bool→Option A)(a0:au)(a1:bJ)(a2:Sl bF)(a3:af):(zpW E (a0,a1,a2,a3)).T k =
  (E.c196 (a0,a2,a3)).T λr1 =>
  cond r1
  (cond (decide ((a3.Hits.len:Int)>=a1.uS))
 ((E.c91 (a0,a2,a3)).T λr2 =>
 k (decide ((r2.len:Int)<=a1.zF)))
 (k false))
  (k false):=dV
theorem zTk [aJ](E:zpV)(zaD:Ok aH 196 (ae.un E.c196))(h91:Ok aH 91 (ae.un E.c91)):Ok aH 154 (ae.un (zpW E)):=dW ((ax.nil.addF zaD).addF h91)
structure zpX where
  N:Nat
  c157:Int×Int×Int->ae Bool
def zpY(E:zpX):ay->ae Bool:=iK E.N (Tabs.nil.addF 157 (ae.un E.c157)) 156
theorem zTm(E:zpX){A:Type}(k:Bool→Option A)(a0:ay):(zpY E (a0)).T k =
  (E.c157 (a0.Z,0,100000)).T λr1 =>
  cond r1
  (cond (decide (a0.Low>=(-1000000)))
 (cond (decide (a0.Low<=a0.High))
 (k (decide (a0.High<=1000000)))
 (k false))
 (k false))
  (k false):=dV
theorem zTn [aJ](E:zpX)(BG:Ok aH 157 (ae.un E.c157)):Ok aH 156 (ae.un (zpY E)):=dW (ax.nil.addF BG)
structure zpZ where
  N:Nat
def zp0(E:zpZ):Int×Int×Int->ae Bool:=iK E.N Tabs.nil 157
theorem zTo(E:zpZ){A:Type}(k:Bool→Option A)(a0 a1 a2:Int):(zp0 E (a0,a1,a2)).T k =
  cond (decide (a0>=a1))
  (k (decide (a0<=a2)))
  (k false):=dV
theorem zTp [aJ](E:zpZ):Ok aH 157 (ae.un (zp0 E)):=dW ax.nil
structure zeG where
  N:Nat
  c167:list->ae Bool
  c198:straight->ae Line
  zsw:set×straight->ae Bool
  i228:(Pt list)->ae (List (straight))
abbrev zGM(E:zeG):bU:=gY (((((Tabs.nil.addF 167 (ae.un E.c167)).addF 198 (ae.un E.c198)).addF 199 (ae.un E.zsw)).addF 197 (aF aH E.N (gY Tabs.nil []) (bY aH 197 [] {}) 197)).addI 228 (ae.unI E.i228)) [14]
def zGN:dK:=bY aH 158 [] {ks:=[(1,6,⟨[],[],[(3,1,36,204)],[],[],[],[]⟩)]}
def zp1(E:zeG):(Sl ay)->ae set:=ae.ty (aF aH E.N (zGM E) zGN 158)
section
variable(E:zeG){A:Type}(k:set->Option A)
def pY(E:zeG)(l:List (straight))(a0:Sl ay)(w36:Sl straight)(WZ:Nat)(OE:List Int->Option (List Int)){A:Type}(k:set->Option A):Option A :=
  iP aH (zGM E) E.N zGN 158 [1,1,1,1,0,1,0] [.y (l.map dG.enc)] (iO k)
    ⟨[(2,.cl (.ptr 2 0)),(3,.cl (.ptr 3 0)),(4,.cl (.ptr 4 0)),(17,.p (.fn 228 [] [.fp [.sl a0.len 3 (λi=>bH.enc (a0.get i))] 0]))],[(2,.box 197 [.p (.nils),.p (.nils)]),(3,.box 197 [.p (.sl a0.len 3 (λi=>bH.enc (a0.get i))),.vec 36]),(4,.box 271 [.mo 14]),(36,eV 204 3 24 w36),(14,.mo 114 4 (.ints,4,false,[none]) WZ OE)],[]⟩
theorem zTq(a0:Sl ay):(zp1 E (a0)).T k =
  (E.c167 (⟨a0⟩:list)).T λr1 =>
  cond r1
  (k (⟨(⟨a0⟩:list),(⟨0,λ_=>default⟩:(Sl straight))⟩:set))
  ((E.i228 (⟨(⟨a0⟩:list)⟩:(Pt list))).T λr2 =>
 pY E r2 a0 (⟨0,(λ_=>(⟨0,0,0⟩:straight))⟩:(Sl straight)) 0 (λ_=>none) k):=dV
theorem zp2(a0:Sl ay)(w36:Sl straight)(WZ:Nat)(OE:List Int→Option (List Int)):pY E [] a0 w36 WZ OE k =
  k (⟨(⟨a0⟩:list),w36⟩:set):=krY
theorem zym(y:straight)(l0:List (straight))(a0:Sl ay)(w36:Sl straight)(WZ:Nat)(OE:List Int→Option (List Int)):pY E (y::l0) a0 w36 WZ OE k =
  (E.c198 y).T λr1 =>
  cond (!(EN (OE [r1.dM.Num,r1.dM.bT,r1.Start.Num,r1.Start.bT]) 0 != 0))
  ((E.zsw ((⟨(⟨a0⟩:list),w36⟩:set),y)).T λr2 =>
 cond r2
 (aV (room (w36.len+1) 24) (pY E l0 a0 (⟨(w36.len+1),(jL w36.len w36.get (λ_=>y))⟩:(Sl straight)) (addN (OE [r1.dM.Num,r1.dM.bT,r1.Start.Num,r1.Start.bT]) WZ) (IG [r1.dM.Num,r1.dM.bT,r1.Start.Num,r1.Start.bT] [1] OE) k))
 (pY E l0 a0 w36 WZ OE k))
  (pY E l0 a0 w36 WZ OE k):=krY
end
theorem zTr [aJ](E:zeG)(wX:Ok aH 167 (ae.un E.c167))(zaE:Ok aH 198 (ae.un E.c198))(zyn:Ok aH 199 (ae.un E.zsw))(zTs:Ac aH 228 (ae.unI E.i228)):Ok aH 158 (ae.un (zp1 E)):=dW (((((ax.nil.addF wX).addF zaE).addF zyn).addF (wz ax.nil (dL krY))).addI zTs)
structure zp3 where
  N:Nat
  Uk:list->ae bZ
  c167:list->ae Bool
def zp4(E:zp3):set->ae Bool:=iK E.N ((Tabs.nil.addF 200 (ae.un E.Uk)).addF 167 (ae.un E.c167)) 159
theorem zTt(E:zp3){A:Type}(k:Bool→Option A)(a0:set):(zp4 E (a0)).T k =
  (E.Uk a0.list).T λr1 =>
  (E.c167 a0.list).T λr2 =>
  cond r2
  (k (decide (r1.Low<=r1.High)))
  (k (decide ((a0.dm.len:Int)>0))):=dV
theorem zTu [aJ](E:zp3)(zaF:Ok aH 200 (ae.un E.Uk))(wX:Ok aH 167 (ae.un E.c167)):Ok aH 159 (ae.un (zp4 E)):=dW ((ax.nil.addF zaF).addF wX)
structure zp5 where
  N:Nat
def zp6(E:zp5):list×(Pt Int)->ae Bool:=iK E.N Tabs.nil 162
theorem e162(E:zp5){A:Type}(k:Bool→Option A)(a0:list)(a1:Pt Int):(zp6 E (a0,a1)).T k =
  aV (decide ((0:Int)<=0/\0<(a0.bQ.len:Int))) (k ((a0.bQ.get 0).Z==a1.v)):=dV
theorem zTv [aJ](E:zp5):Ok aH 162 (ae.un (zp6 E)):=dW ax.nil
structure zp7 where
  N:Nat
  c167:list->ae Bool
  Uk:list->ae bZ
  kJ:Int×Int->ae aP
  c119:set×((dY 202 Unit (Pt Int)) ⊕ (dY 120 Unit Unit))->ae (aP×aP)
def zp8(E:zp7):set×Int->ae (aP×aP):=iK E.N ((((Tabs.nil.addF 167 (ae.un E.c167)).addF 200 (ae.un E.Uk)).addF 172 (ae.un E.kJ)).addF 119 (ae.un E.c119)) 163
theorem zTw(E:zp7){A:Type}(k:(aP×aP)→Option A)(a0:set)(a1:Int):(zp8 E (a0,a1)).T k =
  (E.c167 a0.list).T λr1 =>
  cond r1
  ((E.Uk a0.list).T λr2 =>
 (E.kJ (r2.Low,1)).T λr3 =>
 (E.kJ (r2.High,1)).T λr4 =>
 k (r3,r4))
  ((E.c119 (a0,(Sum.inl (⟨(),(⟨a1⟩:(Pt Int))⟩:(dY 202 Unit (Pt Int)))))).T λr5 =>
 k (r5.1,r5.2)):=dV
theorem zTx [aJ](E:zp7)(wX:Ok aH 167 (ae.un E.c167))(zaF:Ok aH 200 (ae.un E.Uk))(qP:Ok aH 172 (ae.un E.kJ))(zmK:Ok aH 119 (ae.un E.c119)):Ok aH 163 (ae.un (zp8 E)):=dW ((((ax.nil.addF wX).addF zaF).addF qP).addF zmK)
structure zp9 where
  N:Nat
def zqa(E:zp9):Line×Int->ae (Int×Int):=iK E.N Tabs.nil 166
theorem e166(E:zp9){A:Type}(k:(Int×Int)→Option A)(a0:Line)(a1:Int):(zqa E (a0,a1)).T k =
  k ((aO ((aO (a0.Start.Num*a0.dM.bT))+(aO ((aO (a0.dM.Num*a1))*a0.Start.bT)))),(aO (a0.Start.bT*a0.dM.bT))):=dV
theorem zTy [aJ](E:zp9):Ok aH 166 (ae.un (zqa E)):=dW ax.nil
structure zqb where
  N:Nat
  c206:(Sl ay)×((dY 207 Unit (Pt list)) ⊕ (dY 230 Unit (Pt straight)) ⊕ (dY 257 Unit (Pt straight)))->ae Bool
def zqc(E:zqb):list->ae Bool:=iK E.N (Tabs.nil.addF 206 (ae.un E.c206)) 167
theorem e167(E:zqb){A:Type}(k:Bool→Option A)(a0:list):(zqc E (a0)).T k =
  (E.c206 (a0.bQ,(Sum.inl (⟨(),(⟨a0⟩:(Pt list))⟩:(dY 207 Unit (Pt list)))))).T λr1 =>
  k (!r1):=dV
theorem zTz [aJ](E:zqb)(MS:Ok aH 206 (ae.un E.c206)):Ok aH 167 (ae.un (zqc E)):=dW (ax.nil.addF MS)
structure vO where
  N:Nat
  zsq:aP×aP->ae Bool
abbrev W9(E:vO):bU:=gY (Tabs.nil.addF 169 (ae.un E.zsq)) []
def Xa:dK:=bY aH 168 [] {}
def DX(E:vO):(Sl aP)×(dY 169 Unit Unit)->ae aP:=ae.ty (aF aH E.N (W9 E) Xa 168)
section
variable(E:vO){A:Type}(k:aP->Option A)
def oD(E:vO)(n:Nat)(a0:Sl aP)(gQ:Int)(x5:aP){A:Type}(k:aP->Option A):Option A :=
  iP aH (W9 E) E.N Xa 168 [1,1,0,1,0] [.n n] (iO k)
    ⟨[(1,.p (.fn 169 [] [])),(4,.cl (.ptr 4 0)),(5,.cl (.ptr 5 0)),(12,.cl (.p (.sl (((a0.len:Int):Int)-1).toNat 2 (λi=>bH.enc ((EM a0.get 1) i))))),(13,.int ((((a0.len:Int):Int)-1).toNat:Int)),(14,.int gQ)],[(4,.box 85 [.p (.int .i64 0),.p (.int .i64 0)]),(5,eB 85 x5)],[]⟩
theorem zjL(a0:Sl aP)(a1:(dY 169 Unit Unit)):(DX E (a0,a1)).T k =
  aV (decide ((0:Int)<=0/\0<(a0.len:Int))) (aV (decide ((0:Int)<=1/\(1:Int)<=(a0.len:Int)/\(a0.len:Int)<=(a0.len:Int))) (oD E E.N a0 0 (a0.get 0) k)):=dV
theorem MV(n0:Nat)(a0:Sl aP)(gQ:Int)(x5:aP):oD E (n0+1) a0 gQ x5 k =
  cond (decide (gQ<((((a0.len:Int):Int)-1).toNat:Int)))
  (aV (decide (0<=gQ/\gQ<((((a0.len:Int):Int)-1).toNat:Int))) ((E.zsq (((EM a0.get 1) gQ.toNat),x5)).T λr1 =>
 cond r1
 (oD E n0 a0 (aO (gQ+1)) ((EM a0.get 1) gQ.toNat) k)
 (oD E n0 a0 (aO (gQ+1)) x5 k)))
  (k x5):=krY
end
theorem zjM [aJ](E:vO)(zyo:Ok aH 169 (ae.un E.zsq)):Ok aH 168 (ae.un (DX E)):=dW (ax.nil.addF zyo)
structure vP where
  N:Nat
  c171:aP×aP->ae Bool
abbrev Xb(E:vP):bU:=gY (Tabs.nil.addF 171 (ae.un E.c171)) []
def Xc:dK:=bY aH 168 [] {}
def DY(E:vP):(Sl aP)×(dY 171 Unit Unit)->ae aP:=ae.ty (aF aH E.N (Xb E) Xc 168)
section
variable(E:vP){A:Type}(k:aP->Option A)
def oG(E:vP)(n:Nat)(a0:Sl aP)(gQ:Int)(x5:aP){A:Type}(k:aP->Option A):Option A :=
  iP aH (Xb E) E.N Xc 168 [1,1,0,1,0] [.n n] (iO k)
    ⟨[(1,.p (.fn 171 [] [])),(4,.cl (.ptr 4 0)),(5,.cl (.ptr 5 0)),(12,.cl (.p (.sl (((a0.len:Int):Int)-1).toNat 2 (λi=>bH.enc ((EM a0.get 1) i))))),(13,.int ((((a0.len:Int):Int)-1).toNat:Int)),(14,.int gQ)],[(4,.box 85 [.p (.int .i64 0),.p (.int .i64 0)]),(5,eB 85 x5)],[]⟩
theorem zjN(a0:Sl aP)(a1:(dY 171 Unit Unit)):(DY E (a0,a1)).T k =
  aV (decide ((0:Int)<=0/\0<(a0.len:Int))) (aV (decide ((0:Int)<=1/\(1:Int)<=(a0.len:Int)/\(a0.len:Int)<=(a0.len:Int))) (oG E E.N a0 0 (a0.get 0) k)):=dV
theorem MW(n0:Nat)(a0:Sl aP)(gQ:Int)(x5:aP):oG E (n0+1) a0 gQ x5 k =
  cond (decide (gQ<((((a0.len:Int):Int)-1).toNat:Int)))
  (aV (decide (0<=gQ/\gQ<((((a0.len:Int):Int)-1).toNat:Int))) ((E.c171 (((EM a0.get 1) gQ.toNat),x5)).T λr1 =>
 cond r1
 (oG E n0 a0 (aO (gQ+1)) ((EM a0.get 1) gQ.toNat) k)
 (oG E n0 a0 (aO (gQ+1)) x5 k)))
  (k x5):=krY
end
theorem zjO [aJ](E:vP)(zyp:Ok aH 171 (ae.un E.c171)):Ok aH 168 (ae.un (DY E)):=dW (ax.nil.addF zyp)
structure zqd where
  N:Nat
  EE:aP×aP->ae Int
def zqe(E:zqd):aP×aP->ae Bool:=iK E.N (Tabs.nil.addF 170 (ae.un E.EE)) 169
theorem e169(E:zqd){A:Type}(k:Bool→Option A)(a0 a1:aP):(zqe E (a0,a1)).T k =
  (E.EE (a0,a1)).T λr1 =>
  k (decide (r1<0)):=dV
theorem zTA [aJ](E:zqd)(MX:Ok aH 170 (ae.un E.EE)):Ok aH 169 (ae.un (zqe E)):=dW (ax.nil.addF MX)
structure zqf where
  N:Nat
  c208:Int×Int->ae Int
def zqg(E:zqf):aP×aP->ae Int:=iK E.N (Tabs.nil.addF 208 (ae.un E.c208)) 170
theorem e170(E:zqf){A:Type}(k:Int→Option A)(a0 a1:aP):(zqg E (a0,a1)).T k =
  (E.c208 ((aO (a0.Num*a1.bT)),(aO (a1.Num*a0.bT)))).T λr1 =>
  k r1:=dV
theorem zTB [aJ](E:zqf)(zaG:Ok aH 208 (ae.un E.c208)):Ok aH 170 (ae.un (zqg E)):=dW (ax.nil.addF zaG)
structure zqh where
  N:Nat
  EE:aP×aP->ae Int
def zqi(E:zqh):aP×aP->ae Bool:=iK E.N (Tabs.nil.addF 170 (ae.un E.EE)) 171
theorem zTC(E:zqh){A:Type}(k:Bool→Option A)(a0 a1:aP):(zqi E (a0,a1)).T k =
  (E.EE (a0,a1)).T λr1 =>
  k (decide (r1>0)):=dV
theorem zTD [aJ](E:zqh)(MX:Ok aH 170 (ae.un E.EE)):Ok aH 171 (ae.un (zqi E)):=dW (ax.nil.addF MX)
structure zqj where
  N:Nat
  zsA:Int×Int->ae Int
def zqk(E:zqj):Int×Int->ae aP:=iK E.N (Tabs.nil.addF 209 (ae.un E.zsA)) 172
theorem zTE(E:zqj){A:Type}(k:aP→Option A)(a0 a1:Int):(zqk E (a0,a1)).T k =
  (E.zsA ((if(aO (0-a0))>a0 then(aO (0-a0))else a0),a1)).T λr1 =>
  aV (decide (r1≠0)) (aV (decide (r1≠0)) (k (⟨(aO (a0.tdiv r1)),(aO (a1.tdiv r1))⟩:aP))):=dV
theorem zTF [aJ](E:zqj)(zyq:Ok aH 209 (ae.un E.zsA)):Ok aH 172 (ae.un (zqk E)):=dW (ax.nil.addF zyq)
structure zeI where
  N:Nat
abbrev zGO(E:zeI):bU:=gY Tabs.nil []
def zGP:dK:=bY aH 176 [] {}
def zql(E:zeI):(Sl Bool)×Bool->ae Int:=ae.ty (aF aH E.N (zGO E) zGP 176)
section
variable(E:zeI){A:Type}(k:Int->Option A)
def TD(E:zeI)(n:Nat)(a0:Sl Bool)(a1:Bool)(v8:Int){A:Type}(k:Int->Option A):Option A :=
  iP aH (zGO E) E.N zGP 176 [1,0,1,0] [.n n] (iO k)
    ⟨[(0,eP a0),(1,.bool a1),(7,.int (a0.len:Int)),(8,.int v8)],[],[]⟩
theorem zTG(a0:Sl Bool)(a1:Bool):(zql E (a0,a1)).T k =
  TD E E.N a0 a1 0 k:=dV
theorem zjP(n0:Nat)(a0:Sl Bool)(a1:Bool)(v8:Int):TD E (n0+1) a0 a1 v8 k =
  cond (decide (v8<(a0.len:Int)))
  (aV (decide (0<=v8/\v8<(a0.len:Int))) (cond (a1==(a0.get v8.toNat))
 (k v8)
 (TD E n0 a0 a1 (aO (v8+1)) k)))
  (k (-1)):=krY
end
theorem zTH [aJ](E:zeI):Ok aH 176 (ae.un (zql E)):=dW ax.nil
structure zeJ where
  N:Nat
  NH:(Sl Int)×((dY 180 Unit ((Pt (Pt aU))×(Pt Int))) ⊕ (dY 190 Unit ((Pt (Pt aU))×(Pt Int))))->ae Bool
  c182:(Pt aU)×af->ae Bool
  i173:(Pt Int)×(Pt (Pt aU))×(Pt Int)->ae (List (Int×Int))
  IQ:af×Int×Bc 143 (Pt aU)×Bc 38 Int×Bw 30 43 3 56 af×Bs 255 178 2 4×Unit->ae ((Bool×Int)×(Unit×Unit×(Pt aU)×Int×Sl af×Unit×Unit))
abbrev zyr(E:zeJ):bU:=gY (((((((Tabs.nil.addN [180]).addO 181 (.clone 3 1 8)).addM 178 (ae.unP 254 E.IQ)).addF 179 (ae.un E.NH)).addF 182 (ae.un E.c182)).addF 121 (aF aH E.N (gY Tabs.nil []) (bY aH 121 [] {}) 121)).addI 173 (ae.unI E.i173)) []
def zqm:dK:=bY aH 178 [2,3,4,5] {clo:=[180],pan:=[9,10]}
def zqn(E:zeJ):af×Int×Bc 143 (Pt aU)×Bc 38 Int×Bw 30 43 3 56 af×Bs 255 178 2 4×Unit->ae ((Bool×Int)×(Unit×Unit×(Pt aU)×Int×Sl af×Unit×Unit)):=ae.tyP 254 λxs=>aM aH E.N (zyr E) zqm 178 xs
section
variable(E:zeJ){A:Type}(k:((Bool×Int)×(Unit×Unit×(Pt aU)×Int×Sl af×Unit×Unit))->Option A)
def qc(E:zeJ)(l:List (Int×Int))(a0:af)(a1:Int)(a2:Pt aU)(a3:Int)(a4:Sl af)(IP:Pt aU)(BJ:Int)(qE:Sl af){A:Type}(k:((Bool×Int)×(Unit×Unit×(Pt aU)×Int×Sl af×Unit×Unit))->Option A):Option A :=
  ptM aH (zyr E) E.N zqm 178 [1,1,0] [.y (l.map dG.enc)] (zwL aH (tX.enc ((a0,a1,⟨a2⟩,⟨a3⟩,⟨a4⟩,{},()):af×Int×Bc 143 (Pt aU)×Bc 38 Int×Bw 30 43 3 56 af×Bs 255 178 2 4×Unit))) (zob 254 ((a0,a1,⟨a2⟩,⟨a3⟩,⟨a4⟩,{},()):af×Int×Bc 143 (Pt aU)×Bc 38 Int×Bw 30 43 3 56 af×Bs 255 178 2 4×Unit) k)
    ⟨[(2,.cl (.ptr 2 0)),(3,.cl (.ptr 3 0)),(4,.cl (.ptr 4 0)),(5,.cl (.ptr 5 0)),(6,.cl (.ptr 6 0)),(14,.p (.fn 173 [] [.fp [.int .i64 a1] 0,.fp [.fp [.sl a2.v.au.aj.len 15 (λi=>bH.enc (a2.v.au.aj.get i)),.sl a2.v.hits.len 6 (λi=>bH.enc (a2.v.hits.get i)),.sl a2.v.kW.len 1 (λi=>bH.enc (a2.v.kW.get i)),.int .i64 a2.v.rules.uS,.int .i64 a2.v.rules.zF] 0] 0,.fp [.int .i64 a3] 0]))],[(2,eB 143 IP),(3,eB 38 BJ),(4,.box 30 [.vec 4100]),(5,.box 255 [.clo 178 [.b 2,.b 3,.b 4,.b 5]]),(6,eB 43 a0),(4100,eV 43 3 56 qE)],[]⟩
theorem zTI(a0:af)(a1:Int)(a2:Pt aU)(a3:Int)(a4:Sl af):(zqn E (a0,a1,⟨a2⟩,⟨a3⟩,⟨a4⟩,{},())).T k =
  (E.i173 ((⟨a1⟩:(Pt Int)),(⟨a2⟩:(Pt (Pt aU))),(⟨a3⟩:(Pt Int)))).T λr1 =>
  qc E r1 a0 a1 a2 a3 a4 a2 a3 a4 k:=zFj.trans krY
theorem zqo(a0:af)(a1:Int)(a2:Pt aU)(a3:Int)(a4:Sl af)(IP:Pt aU)(BJ:Int)(qE:Sl af):qc E [] a0 a1 a2 a3 a4 IP BJ qE k =
  k ((false,0),(),(),IP,BJ,qE,(),()):=krY
theorem zjQ(y:Int×Int)(l0:List (Int×Int))(a0:af)(a1:Int)(a2:Pt aU)(a3:Int)(a4:Sl af)(IP:Pt aU)(BJ:Int)(qE:Sl af):qc E (y::l0) a0 a1 a2 a3 a4 IP BJ qE k =
  (E.NH (a0.Hits,(Sum.inl (⟨(),((⟨IP⟩:(Pt (Pt aU))),(⟨y.1⟩:(Pt Int)))⟩:(dY 180 Unit ((Pt (Pt aU))×(Pt Int))))))).T λr1 =>
  cond r1
  (qc E l0 a0 a1 a2 a3 a4 IP BJ qE k)
  (aV (room a0.Hits.len 8) (aV (room (a0.Hits.len+1) 8) (aV (room a0.bz.len 8) (aV (room (a0.bz.len+1) 8) ((E.c182 (IP,(⟨BJ,(⟨(a0.Hits.len+1),(jL a0.Hits.len a0.Hits.get (λ_=>y.1))⟩:(Sl Int)),(⟨(a0.bz.len+1),(jL a0.bz.len a0.bz.get (λ_=>y.2))⟩:(Sl Int))⟩:af))).T λr2 =>
 cond (!r2)
 (qc E l0 a0 a1 a2 a3 a4 IP BJ qE k)
 (aV (room (qE.len+1) 56) (cond (decide (((qE.len+1):Int)>2000))
 (k ((true,BJ),(),(),IP,BJ,(⟨(qE.len+1),(jL qE.len qE.get (λ_=>(⟨BJ,(⟨(a0.Hits.len+1),(jL a0.Hits.len a0.Hits.get (λ_=>y.1))⟩:(Sl Int)),(⟨(a0.bz.len+1),(jL a0.bz.len a0.bz.get (λ_=>y.2))⟩:(Sl Int))⟩:af)))⟩:(Sl af)),(),()))
 ((E.IQ ((⟨BJ,(⟨(a0.Hits.len+1),(jL a0.Hits.len a0.Hits.get (λ_=>y.1))⟩:(Sl Int)),(⟨(a0.bz.len+1),(jL a0.bz.len a0.bz.get (λ_=>y.2))⟩:(Sl Int))⟩:af),(aO (y.1+1)),(⟨IP⟩:Bc 143 (Pt aU)),(⟨BJ⟩:Bc 38 Int),(⟨(⟨(qE.len+1),(jL qE.len qE.get (λ_=>(⟨BJ,(⟨(a0.Hits.len+1),(jL a0.Hits.len a0.Hits.get (λ_=>y.1))⟩:(Sl Int)),(⟨(a0.bz.len+1),(jL a0.bz.len a0.bz.get (λ_=>y.2))⟩:(Sl Int))⟩:af)))⟩:(Sl af))⟩:Bw 30 43 3 56 af),({}:Bs 255 178 2 4),())).T λr3=>cond r3.1.1
 (k ((true,r3.1.2),(),(),r3.2.2.2.1,r3.2.2.2.2.1,r3.2.2.2.2.2.1,(),()))
 (qc E l0 a0 a1 a2 a3 a4 r3.2.2.2.1 r3.2.2.2.2.1 r3.2.2.2.2.2.1 k))))))))):=krY
end
theorem zTJ(E:zeJ)(zaz:Ok aH 179 (ae.un E.NH))(zys:Ok aH 182 (ae.un E.c182))(zNM:Ac aH 173 (ae.unI E.i173))(zNN:gz aH 181 (.clone 3 1 8))(zyb:rJ aH 178 (ae.unP 254 E.IQ)):rJ aH 178 (ae.unP 254 (zqn E)):=by
  have h:rJ aH 178 (λxs=>aM aH E.N (zyr E) zqm 178 xs):=Z8 (aQ:=λ_=>zqm) (((((((ax.nil.addN).addO zNN).addM zyb).addF zaz).addF zys).addF (wz ax.nil (dL krY))).addI zNM) (dL krY);exact(zwQ h:rJ aH 178 (ae.unP 254 (ae.tyP 254 _:af×Int×Bc 143 (Pt aU)×Bc 38 Int×Bw 30 43 3 56 af×Bs 255 178 2 4×Unit->ae ((Bool×Int)×(Unit×Unit×(Pt aU)×Int×Sl af×Unit×Unit)))))
structure DZ where
  N:Nat
  c210:(Sl Int)×((dY 180 Unit ((Pt (Pt aU))×(Pt Int))) ⊕ (dY 190 Unit ((Pt (Pt aU))×(Pt Int))))->ae Int
def D7(E:DZ):(Sl Int)×(dY 180 Unit ((Pt (Pt aU))×(Pt Int)))->ae Bool:=iK E.N (Tabs.nil.addF 210 (ae.un E.c210)) 179
theorem zjR(E:DZ){A:Type}(k:Bool→Option A)(a0:Sl Int)(a1:(dY 180 Unit ((Pt (Pt aU))×(Pt Int)))):(D7 E (a0,a1)).T k =
  (E.c210 (a0,(Sum.inl a1))).T λr1 =>
  k (decide (r1>=0)):=dV
theorem zjS [aJ](E:DZ)(zaH:Ok aH 210 (ae.un E.c210)):Ok aH 179 (ae.un (D7 E)):=dW (ax.nil.addF zaH)
structure D8 where
  N:Nat
  c210:(Sl Int)×((dY 180 Unit ((Pt (Pt aU))×(Pt Int))) ⊕ (dY 190 Unit ((Pt (Pt aU))×(Pt Int))))->ae Int
def Ea(E:D8):(Sl Int)×(dY 190 Unit ((Pt (Pt aU))×(Pt Int)))->ae Bool:=iK E.N (Tabs.nil.addF 210 (ae.un E.c210)) 179
theorem zjT(E:D8){A:Type}(k:Bool→Option A)(a0:Sl Int)(a1:(dY 190 Unit ((Pt (Pt aU))×(Pt Int)))):(Ea E (a0,a1)).T k =
  (E.c210 (a0,(Sum.inr a1))).T λr1 =>
  k (decide (r1>=0)):=dV
theorem zjU [aJ](E:D8)(zaH:Ok aH 210 (ae.un E.c210)):Ok aH 179 (ae.un (Ea E)):=dW (ax.nil.addF zaH)
structure zqp where
  N:Nat
def zqq(E:zqp):Int×(Pt (Pt aU))×(Pt Int)->ae Bool:=iK E.N Tabs.nil 180
theorem zTK(E:zqp){A:Type}(k:Bool→Option A)(a0:Int)(a1:(Pt (Pt aU)))(a2:Pt Int):(zqq E (a0,a1,a2)).T k =
  aV (decide (0<=a0/\a0<(a1.v.v.hits.len:Int))) (aV (decide (0<=a2.v/\a2.v<(a1.v.v.hits.len:Int))) (k ((a1.v.v.hits.get a0.toNat).ak==(a1.v.v.hits.get a2.v.toNat).ak))):=dV
theorem zTL [aJ](E:zqp):Ok aH 180 (ae.un (zqq E)):=dW ax.nil
structure zqr where
  N:Nat
  c93:(Pt aU)×af->ae (bZ×Bool)
  c105:(Pt aU)×af->ae ((Sl ay))
  zsB:(Sl ay)->ae (Line×Int)
def zqs(E:zqr):(Pt aU)×af->ae Bool:=iK E.N (((Tabs.nil.addF 93 (ae.un E.c93)).addF 105 (ae.un E.c105)).addF 211 (ae.un E.zsB)) 182
theorem zTM(E:zqr){A:Type}(k:Bool→Option A)(a0:Pt aU)(a1:af):(zqs E (a0,a1)).T k =
  (E.c93 (a0,a1)).T λr1 =>
  cond (!r1.2)
  (k false)
  ((E.c105 (a0,a1)).T λr2 =>
 (E.zsB r2).T λr3 =>
 k (r3.2 != 5)):=dV
theorem zTN [aJ](E:zqr)(h93:Ok aH 93 (ae.un E.c93))(NT:Ok aH 105 (ae.un E.c105))(zyt:Ok aH 211 (ae.un E.zsB)):Ok aH 182 (ae.un (zqs E)):=dW (((ax.nil.addF h93).addF NT).addF zyt)
structure zeK where
  N:Nat
abbrev zGR(E:zeK):bU:=gY Tabs.nil []
def zGS:dK:=bY aH 185 [] {}
def zqu(E:zeK):(Sl Int)->ae Int:=ae.ty (aF aH E.N (zGR E) zGS 185)
section
variable(E:zeK){A:Type}(k:Int->Option A)
def Gu(E:zeK)(n:Nat)(a0:Sl Int)(v8:Int){A:Type}(k:Int->Option A):Option A :=
  iP aH (zGR E) E.N zGS 185 [1,1,0,1,0] [.n n] (iO k)
    ⟨[(3,.int 0),(6,eP a0),(7,.int (a0.len:Int)),(8,.int v8)],[],[]⟩
theorem e185(a0:Sl Int):(zqu E (a0)).T k =
  Gu E E.N a0 0 k:=dV
theorem zjV(n0:Nat)(a0:Sl Int)(v8:Int):Gu E (n0+1) a0 v8 k =
  cond (decide (v8<(a0.len:Int)))
  (aV (decide (0<=v8/\v8<(a0.len:Int))) (cond (a0.get v8.toNat != 0)
 (k (a0.get v8.toNat))
 (Gu E n0 a0 (aO (v8+1)) k)))
  (k 0):=krY
end
theorem zTO [aJ](E:zeK):Ok aH 185 (ae.un (zqu E)):=dW ax.nil
structure zqv where
  N:Nat
  c222:Int->ae Bool
def zqw(E:zqv):Int×Int->ae Int:=iK E.N (Tabs.nil.addF 222 (ae.un E.c222)) 186
theorem zTP(E:zqv){A:Type}(k:Int→Option A)(a0 a1:Int):(zqw E (a0,a1)).T k =
  (E.c222 a0).T λr1 =>
  (E.c222 a1).T λr2 =>
  cond r1
  (cond r2
 (k 0)
 (k (-1)))
  (cond r2
 (k 1)
 (cond (decide (a0<a1))
 (k (-1))
 (cond (decide (a0>a1))
 (k 1)
 (k 0)))):=dV
theorem zTQ [aJ](E:zqv)(zqx:Ok aH 222 (ae.un E.c222)):Ok aH 186 (ae.un (zqw E)):=dW (ax.nil.addF zqx)
structure zeL where
  N:Nat
  c208:Int×Int->ae Int
abbrev zGT(E:zeL):bU:=gY (Tabs.nil.addF 208 (ae.un E.c208)) []
def zGU:dK:=bY aH 187 [] {}
def zqy(E:zeL):(Sl Int)×(Sl Int)->ae Int:=ae.ty (aF aH E.N (zGT E) zGU 187)
section
variable(E:zeL){A:Type}(k:Int->Option A)
def TE(E:zeL)(n:Nat)(a0 a1:Sl Int)(v11:Int){A:Type}(k:Int->Option A):Option A :=
  iP aH (zGT E) E.N zGU 187 [1,0,1,0] [.n n] (iO k)
    ⟨[(0,eP a0),(1,eP a1),(9,eP a0),(10,.int (a0.len:Int)),(11,.int v11)],[],[]⟩
theorem e187(a0 a1:Sl Int):(zqy E (a0,a1)).T k =
  TE E E.N a0 a1 0 k:=dV
theorem zjW(n0:Nat)(a0 a1:Sl Int)(v11:Int):TE E (n0+1) a0 a1 v11 k =
  cond (decide (v11<(a0.len:Int)))
  (aV (decide (0<=v11/\v11<(a0.len:Int))) (cond (decide (v11>=(a1.len:Int)))
 (k 1)
 (aV (decide (0<=v11/\v11<(a1.len:Int))) ((E.c208 (a0.get v11.toNat,a1.get v11.toNat)).T λr1 =>
 cond (r1 != 0)
 (k r1)
 (TE E n0 a0 a1 (aO (v11+1)) k)))))
  (cond (decide ((a0.len:Int)<(a1.len:Int)))
 (k (-1))
 (k 0)):=krY
end
theorem zTR [aJ](E:zeL)(zaG:Ok aH 208 (ae.un E.c208)):Ok aH 187 (ae.un (zqy E)):=dW (ax.nil.addF zaG)
structure zqz where
  N:Nat
def zqA(E:zqz):Int×(Pt (Pt aU))×(Pt Int)->ae Bool:=iK E.N Tabs.nil 190
theorem e190(E:zqz){A:Type}(k:Bool→Option A)(a0:Int)(a1:(Pt (Pt aU)))(a2:Pt Int):(zqA E (a0,a1,a2)).T k =
  aV (decide (0<=a0/\a0<(a1.v.v.hits.len:Int))) (k ((a1.v.v.hits.get a0.toNat).ak==a2.v)):=dV
theorem zTS [aJ](E:zqz):Ok aH 190 (ae.un (zqA E)):=dW ax.nil
structure zqB where
  N:Nat
def zqC(E:zqB):aP->ae Int:=iK E.N Tabs.nil 191
theorem zTT(E:zqB){A:Type}(k:Int→Option A)(a0:aP):(zqC E (a0)).T k =
  cond (decide (a0.Num<0))
  (aV (decide (a0.bT≠0)) (k (aO (0-(aO ((aO ((aO ((aO (0-a0.Num))+a0.bT))-1)).tdiv a0.bT))))))
  (aV (decide (a0.bT≠0)) (k (aO (a0.Num.tdiv a0.bT)))):=dV
theorem zTU [aJ](E:zqB):Ok aH 191 (ae.un (zqC E)):=dW ax.nil
structure zqD where
  N:Nat
  OO:aP->ae Int
def zqE(E:zqD):aP->ae Int:=iK E.N (Tabs.nil.addF 191 (ae.un E.OO)) 192
theorem zTV(E:zqD){A:Type}(k:Int→Option A)(a0:aP):(zqE E (a0)).T k =
  (E.OO (⟨(aO (0-a0.Num)),a0.bT⟩:aP)).T λr1 =>
  k (aO (0-r1)):=dV
theorem zTW [aJ](E:zqD)(zaA:Ok aH 191 (ae.un E.OO)):Ok aH 192 (ae.un (zqE E)):=dW (ax.nil.addF zaA)
structure zeM where
  N:Nat
abbrev zGV(E:zeM):bU:=gY Tabs.nil []
def zGW:dK:=bY aH 193 [] {}
def zqF(E:zeM):(Sl ay)->ae (Int×Int×Bool):=ae.ty (aF aH E.N (zGV E) zGW 193)
section
variable(E:zeM){A:Type}(k:(Int×Int×Bool)->Option A)
def TF(E:zeM)(n:Nat)(a0:Sl ay)(v5 v6 v7:Int){A:Type}(k:(Int×Int×Bool)->Option A):Option A :=
  iP aH (zGV E) E.N zGW 193 [1,1,0,1,0] [.n n] (iO k)
    ⟨[(0,eP a0),(5,.int v5),(6,.int v6),(7,.int v7)],[],[]⟩
theorem zTX(a0:Sl ay):(zqF E (a0)).T k =
  aV (decide ((0:Int)<=0/\0<(a0.len:Int))) (aV (decide ((0:Int)<=0/\0<(a0.len:Int))) (TF E E.N a0 (a0.get 0).Low (a0.get 0).High 1 k)):=dV
theorem zjX(n0:Nat)(a0:Sl ay)(v5 v6 v7:Int):TF E (n0+1) a0 v5 v6 v7 k =
  cond (decide (v7<(a0.len:Int)))
  (aV (decide (0<=v7/\v7<(a0.len:Int))) (aV (decide (0<=v7/\v7<(a0.len:Int))) (TF E n0 a0 (if(a0.get v7.toNat).Low>v5 then(a0.get v7.toNat).Low else v5) (if(a0.get v7.toNat).High<v6 then(a0.get v7.toNat).High else v6) (aO (v7+1)) k)))
  (k (v5,v6,decide (v5<=v6))):=krY
end
theorem zTY [aJ](E:zeM):Ok aH 193 (ae.un (zqF E)):=dW ax.nil
structure Qy where
  N:Nat
  zmk:(Sl ay)->ae ((Sl Line))
  c57:Line×(Sl ay)->ae ((Sl Int))
  c226:Line×Line×(Sl ay)->ae Bool
abbrev zjY(E:Qy):bU:=gY (((Tabs.nil.addF 225 (ae.un E.zmk)).addF 57 (ae.un E.c57)).addF 226 (ae.un E.c226)) []
def zjZ:dK:=bY aH 194 [] {ks:=[(0,1,⟨[],[(3,5000,114)],[],[],[],[],[]⟩),(1,4,⟨[],[],[],[],[],[3],[]⟩)],cut:=[10,11]}
def zmd(E:Qy):(Sl ay)->ae ((Sl Line)):=ae.ty (aF aH E.N (zjY E) zjZ 194)
section
variable(E:Qy){A:Type}(k:(Sl Line)->Option A)
def lG(E:Qy)(n:Nat)(a0:Sl ay)(v3 v4:Sl Line)(v5:Int){A:Type}(k:(Sl Line)->Option A):Option A :=
  iP aH (zjY E) E.N zjZ 194 [1,1,1,0,1,0] [.n n] (iO k)
    ⟨[(0,eP a0),(3,eP v3),(4,eP v4),(5,.int v5)],[],[]⟩
def sV(E:Qy)(n0 n:Nat)(a0:Sl ay)(v3 v4:Sl Line)(v5 v6:Int){A:Type}(k:(Sl Line)->Option A):Option A :=
  iP aH (zjY E) E.N zjZ 194 [1,1,1,0,1,0,0,1,0,0,1,1,0,0] [.n n0,.n n] (iO k)
    ⟨[(0,eP a0),(3,eP v3),(4,eP v4),(5,.int v5),(6,.int v6)],[],[]⟩
def qg(E:Qy)(n0:Nat)(a0:Sl ay)(v3 v4:Sl Line)(v5 v6:Int){A:Type}(k:(Sl Line)->Option A):Option A :=
  iP aH (zjY E) E.N zjZ 194 [1,1,1,0,1,0,0,1,0,0,1,1,1] [.n n0] (iO k)
    ⟨[(0,eP a0),(3,eP v3),(4,eP v4),(5,.int v5),(6,.int v6)],[],[]⟩
def Gv(E:Qy)(n0:Nat)(a0:Sl ay)(v3 v4:Sl Line)(v5 v6:Int){A:Type}(k:(Sl Line)->Option A):Option A :=
  iP aH (zjY E) E.N zjZ 194 [1,1,1,0,1,0,0,1,0,0,1,1,1,1] [.n n0] (iO k)
    ⟨[(0,eP a0),(3,eP v3),(4,eP v4),(5,.int v5),(6,.int v6)],[],[]⟩
theorem zMU(a0:Sl ay):(zmd E (a0)).T k =
  (E.zmk a0).T λr1 =>
  lG E E.N a0 (⟨0,(λ_=>(⟨(⟨0,0⟩:aP),(⟨0,0⟩:aP)⟩:Line))⟩:(Sl Line)) r1 0 k:=dV
theorem zaI(n0:Nat)(a0:Sl ay)(v3 v4:Sl Line)(v5:Int):lG E (n0+1) a0 v3 v4 v5 k =
  cond (decide (v5<(v4.len:Int)))
  (aV (decide (0<=v5/\v5<(v4.len:Int))) ((E.c57 ((v4.get v5.toNat),a0)).T λr1 =>
 cond (decide ((r1.len:Int)<(a0.len:Int)))
 (lG E n0 a0 v3 v4 (aO (v5+1)) k)
 (sV E n0 E.N a0 v3 v4 v5 0 k)))
  (k v3):=krY
theorem zaJ(n0 n1:Nat)(a0:Sl ay)(v3 v4:Sl Line)(v5 v6:Int):sV E n0 (n1+1) a0 v3 v4 v5 v6 k =
  cond (decide (v6<(v3.len:Int)))
  (aV (decide (0<=v6/\v6<(v3.len:Int))) (aV (decide (0<=v5/\v5<(v4.len:Int))) ((E.c226 ((v3.get v6.toNat),(v4.get v5.toNat),a0)).T λr1 =>
 cond r1
 (sV E n0 n1 a0 v3 v4 v5 (aO (v6+1)) k)
 (qg E n0 a0 v3 v4 v5 v6 k))))
  (qg E n0 a0 v3 v4 v5 v6 k):=krY
theorem zaK(n0:Nat)(a0:Sl ay)(v3 v4:Sl Line)(v5 v6:Int):qg E n0 a0 v3 v4 v5 v6 k =
  cond (decide (v6<(v3.len:Int)))
  (aV (decide (0<=v6/\v6<(v3.len:Int))) (aV (decide (0<=v5/\v5<(v4.len:Int))) (cond (cond (cond ((v3.get v6.toNat).dM.Num==(v4.get v5.toNat).dM.Num) (cond ((v3.get v6.toNat).dM.bT==(v4.get v5.toNat).dM.bT) true false) false) (cond (cond ((v3.get v6.toNat).Start.Num==(v4.get v5.toNat).Start.Num) (cond ((v3.get v6.toNat).Start.bT==(v4.get v5.toNat).Start.bT) true false) false) true false) false)
 (lG E n0 a0 v3 v4 (aO (v5+1)) k)
 (Gv E n0 a0 v3 v4 v5 v6 k))))
  (Gv E n0 a0 v3 v4 v5 v6 k):=krY
theorem zqG(n0:Nat)(a0:Sl ay)(v3 v4:Sl Line)(v5 v6:Int):Gv E n0 a0 v3 v4 v5 v6 k =
  aV (decide ((0:Int)<=0/\(0:Int)<=v6/\v6<=(v3.len:Int))) (aV (room ((v6:Int)-0).toNat 32) (aV (decide (0<=v5/\v5<(v4.len:Int))) (aV (room (((v6:Int)-0).toNat+1) 32) (aV (decide ((0:Int)<=v6/\(v6:Int)<=(v3.len:Int)/\(v3.len:Int)<=(v3.len:Int))) (aV (room ((((v6:Int)-0).toNat+1)+(((v3.len:Int):Int)-v6).toNat) 32) (lG E n0 a0 (⟨((((v6:Int)-0).toNat+1)+(((v3.len:Int):Int)-v6).toNat),(jL (((v6:Int)-0).toNat+1) (jL ((v6:Int)-0).toNat (EM v3.get 0) (λ_=>(v4.get v5.toNat))) (EM v3.get v6.toNat))⟩:(Sl Line)) v4 (aO (v5+1)) k)))))):=krY
end
theorem zTZ [aJ](E:Qy)(zqH:Ok aH 225 (ae.un E.zmk))(h57:Ok aH 57 (ae.un E.c57))(zqI:Ok aH 226 (ae.un E.c226)):Ok aH 194 (ae.un (zmd E)):=dW (((ax.nil.addF zqH).addF h57).addF zqI)
structure zaL where
  N:Nat
  c87:(Sl bF)×(Sl Int)×Int->ae Bool
  c75:au×bF->ae ((Sl ay))
  c227:af×Int×Int->ae af
  c196:au×(Sl bF)×af->ae Bool
  NJ:(au×(Sl bF)×af×Int)×Sl af->ae (Sl af)
abbrev zyu(E:zaL):bU:=gY (((((Tabs.nil.addO 195 (.grow 43 3 56 (ae.unW E.NJ))).addF 87 (ae.un E.c87)).addF 75 (ae.un E.c75)).addF 227 (ae.un E.c227)).addF 196 (ae.un E.c196)) []
def zyv:dK:=bY aH 195 [] {}
def zqJ(E:zaL):(au×(Sl bF)×af×Int)×Sl af->ae (Sl af):=ae.tyW (aG aH E.N (zyu E) zyv 195 43 3 56)
section
variable(E:zaL){A:Type}(k:(Sl af)->Option A)
def rY(E:zaL)(n:Nat)(a0:au)(a1:Sl bF)(a2:af)(v11:Int)(nD:Sl af){A:Type}(k:(Sl af)->Option A):Option A :=
  ptG aH (zyu E) E.N zyv 195 [1,0,1,0] [.n n] (L6 43 3 56) (zwY k)
    ⟨[(1,eP a1),(4,.cl (.vec 4095)),(5,.cl (.ptr 5 0)),(7,.cl (.ptr 7 0)),(11,.int v11)],[(4095,eV 43 3 56 nD),(5,eB 24 a0),(7,eB 43 a2)],[]⟩
def xe(E:zaL)(n0 n:Nat)(a0:au)(a1:Sl bF)(a2:af)(v11:Int)(jI:Sl ay)(gQ:Int)(nD:Sl af){A:Type}(k:(Sl af)->Option A):Option A :=
  ptG aH (zyu E) E.N zyv 195 [1,0,1,0,0,1,0,0,1,1,1,1,0] [.n n0,.n n] (L6 43 3 56) (zwY k)
    ⟨[(1,eP a1),(4,.cl (.vec 4095)),(5,.cl (.ptr 5 0)),(7,.cl (.ptr 7 0)),(11,.int v11),(13,eP jI),(14,.int gQ)],[(4095,eV 43 3 56 nD),(5,eB 24 a0),(7,eB 43 a2)],[]⟩
theorem e195(a0:au)(a1:Sl bF)(a2:af)(a3:Int)(a4:Sl af):(zqJ E ((a0,a1,a2,a3),a4)).T k =
  rY E E.N a0 a1 a2 a3 a4 k:=zFr.trans krY
theorem zj0(n0:Nat)(a0:au)(a1:Sl bF)(a2:af)(v11:Int)(nD:Sl af):rY E (n0+1) a0 a1 a2 v11 nD k =
  cond (decide (v11<(a1.len:Int)))
  (aV (decide (0<=v11/\v11<(a1.len:Int))) (aV (decide (0<=(a1.get v11.toNat).ak/\(a1.get v11.toNat).ak<(a0.aj.len:Int))) (cond ((a0.aj.get (a1.get v11.toNat).ak.toNat).View != a2.View)
 (rY E n0 a0 a1 a2 (aO (v11+1)) nD k)
 ((E.c87 (a1,a2.Hits,(a1.get v11.toNat).ak)).T λr1 =>
 cond r1
 (rY E n0 a0 a1 a2 (aO (v11+1)) nD k)
 ((E.c75 (a0,(a1.get v11.toNat))).T λr2 =>
 xe E n0 E.N a0 a1 a2 v11 r2 0 nD k)))))
  (k nD):=krY
theorem zaM(n0 n1:Nat)(a0:au)(a1:Sl bF)(a2:af)(v11:Int)(jI:Sl ay)(gQ:Int)(nD:Sl af):xe E n0 (n1+1) a0 a1 a2 v11 jI gQ nD k =
  cond (decide (gQ<(jI.len:Int)))
  (cond (decide ((nD.len:Int)<=2000))
 ((E.c227 (a2,v11,gQ)).T λr1 =>
 (E.c196 (a0,a1,r1)).T λr2 =>
 cond r2
 (aV (room (nD.len+1) 56) ((E.NJ ((a0,a1,r1,(aO (v11+1))),(⟨(nD.len+1),(jL nD.len nD.get (λ_=>r1))⟩:(Sl af)))).T λr3 =>
 xe E n0 n1 a0 a1 a2 v11 jI (aO (gQ+1)) r3 k))
 (xe E n0 n1 a0 a1 a2 v11 jI (aO (gQ+1)) nD k))
 (rY E n0 a0 a1 a2 (aO (v11+1)) nD k))
  (rY E n0 a0 a1 a2 (aO (v11+1)) nD k):=krY
end
theorem zT0 [aJ](E:zaL)(h87:Ok aH 87 (ae.un E.c87))(h75:Ok aH 75 (ae.un E.c75))(zyw:Ok aH 227 (ae.un E.c227))(zaD:Ok aH 196 (ae.un E.c196))(zyl:gz aH 195 (.grow 43 3 56 (ae.unW E.NJ))):gz aH 195 (.grow 43 3 56 (ae.unW (zqJ E))):=zwX (zwW (((((ax.nil.addO zyl).addF h87).addF h75).addF zyw).addF zaD) (dL krY))
structure zqK where
  N:Nat
  c65:au×(Sl bF)×af->ae ((Sl ay))
  c145:(Sl ay)->ae Bool
  c90:au×(Sl bF)×(Sl Int)->ae Bool
def zqL(E:zqK):au×(Sl bF)×af->ae Bool:=iK E.N (((Tabs.nil.addF 65 (ae.un E.c65)).addF 145 (ae.un E.c145)).addF 90 (ae.un E.c90)) 196
theorem zT1(E:zqK){A:Type}(k:Bool→Option A)(a0:au)(a1:Sl bF)(a2:af):(zqL E (a0,a1,a2)).T k =
  (E.c65 (a0,a1,a2)).T λr1 =>
  (E.c145 r1).T λr2 =>
  cond r2
  ((E.c90 (a0,a1,a2.Hits)).T λr3 =>
 k r3)
  (k false):=dV
theorem zT2 [aJ](E:zqK)(h65:Ok aH 65 (ae.un E.c65))(zyx:Ok aH 145 (ae.un E.c145))(h90:Ok aH 90 (ae.un E.c90)):Ok aH 196 (ae.un (zqL E)):=dW (((ax.nil.addF h65).addF zyx).addF h90)
structure zqM where
  N:Nat
  kJ:Int×Int->ae aP
def zqN(E:zqM):straight->ae Line:=iK E.N (Tabs.nil.addF 172 (ae.un E.kJ)) 198
theorem zT3(E:zqM){A:Type}(k:Line→Option A)(a0:straight):(zqN E (a0)).T k =
  (E.kJ (a0.bI,a0.den)).T λr1 =>
  (E.kJ (a0.start,a0.den)).T λr2 =>
  k (⟨r1,r2⟩:Line):=dV
theorem zT4 [aJ](E:zqM)(qP:Ok aH 172 (ae.un E.kJ)):Ok aH 198 (ae.un (zqN E)):=dW (ax.nil.addF qP)
structure zqO where
  N:Nat
  c206:(Sl ay)×((dY 207 Unit (Pt list)) ⊕ (dY 230 Unit (Pt straight)) ⊕ (dY 257 Unit (Pt straight)))->ae Bool
def zqP(E:zqO):set×straight->ae Bool:=iK E.N (Tabs.nil.addF 206 (ae.un E.c206)) 199
theorem e199(E:zqO){A:Type}(k:Bool→Option A)(a0:set)(a1:straight):(zqP E (a0,a1)).T k =
  (E.c206 (a0.list.bQ,(Sum.inr (Sum.inl (⟨(),(⟨a1⟩:(Pt straight))⟩:(dY 230 Unit (Pt straight))))))).T λr1 =>
  k (!r1):=dV
theorem zT5 [aJ](E:zqO)(MS:Ok aH 206 (ae.un E.c206)):Ok aH 199 (ae.un (zqP E)):=dW (ax.nil.addF MS)
structure zeN where
  N:Nat
abbrev zGX(E:zeN):bU:=gY Tabs.nil []
def zGY:dK:=bY aH 200 [] {}
def zqQ(E:zeN):list->ae bZ:=ae.ty (aF aH E.N (zGX E) zGY 200)
section
variable(E:zeN){A:Type}(k:bZ->Option A)
def TG(E:zeN)(n:Nat)(a0:list)(v20:Int)(x3:bZ){A:Type}(k:bZ->Option A):Option A :=
  iP aH (zGX E) E.N zGY 200 [1,1,0,1,0] [.n n] (iO k)
    ⟨[(2,.cl (.ptr 2 0)),(3,.cl (.ptr 3 0)),(18,eP a0.bQ),(19,.int (a0.bQ.len:Int)),(20,.int v20)],[(2,.box 105 [.p (.int .i64 0),.p (.int .i64 0)]),(3,eB 105 x3)],[]⟩
theorem zT6(a0:list):(zqQ E (a0)).T k =
  aV (decide ((0:Int)<=0/\0<(a0.bQ.len:Int))) (aV (decide ((0:Int)<=0/\0<(a0.bQ.len:Int))) (TG E E.N a0 0 (⟨(a0.bQ.get 0).Low,(a0.bQ.get 0).High⟩:bZ) k)):=dV
theorem zj1(n0:Nat)(a0:list)(v20:Int)(x3:bZ):TG E (n0+1) a0 v20 x3 k =
  cond (decide (v20<(a0.bQ.len:Int)))
  (aV (decide (0<=v20/\v20<(a0.bQ.len:Int))) (TG E n0 a0 (aO (v20+1)) (⟨(if(a0.bQ.get v20.toNat).Low>x3.Low then(a0.bQ.get v20.toNat).Low else x3.Low),(if(a0.bQ.get v20.toNat).High<x3.High then(a0.bQ.get v20.toNat).High else x3.High)⟩:bZ) k))
  (k x3):=krY
end
theorem zT7 [aJ](E:zeN):Ok aH 200 (ae.un (zqQ E)):=dW ax.nil
structure zqR where
  N:Nat
  c203:straight×Int->ae aP
def zqS(E:zqR):straight×(Pt Int)->ae aP:=iK E.N (Tabs.nil.addF 203 (ae.un E.c203)) 202
theorem zT8(E:zqR){A:Type}(k:aP→Option A)(a0:straight)(a1:Pt Int):(zqS E (a0,a1)).T k =
  (E.c203 (a0,a1.v)).T λr1 =>
  k r1:=dV
theorem zT9 [aJ](E:zqR)(zyy:Ok aH 203 (ae.un E.c203)):Ok aH 202 (ae.un (zqS E)):=dW (ax.nil.addF zyy)
structure zqT where
  N:Nat
def zqU(E:zqT):straight×Int->ae aP:=iK E.N Tabs.nil 203
theorem e203(E:zqT){A:Type}(k:aP→Option A)(a0:straight)(a1:Int):(zqU E (a0,a1)).T k =
  k (⟨(aO (a0.start+(aO (a0.bI*a1)))),a0.den⟩:aP):=dV
theorem zUa [aJ](E:zqT):Ok aH 203 (ae.un (zqU E)):=dW ax.nil
structure zaN where
  N:Nat
  zsy:(Sl Int)×Int->ae (Int×Bool)
abbrev zGZ(E:zaN):bU:=gY (Tabs.nil.addF 205 (ae.un E.zsy)) []
def zG0:dK:=bY aH 204 [0] {yl:=[9]}
def zG1(E:zaN)(c:List PA):YO:=aI aH (zGZ E) E.N zG0 204 c
def zyz(E:zaN):(Pt placed)->ae (List (Int×bZ)):=ae.tyI λc=>.opt (zG1 E c)
section
variable(E:zaN)
def Gw(E:zaN)(n:Nat)(a1:Pt placed)(v3 GY:Int):YO :=
  ptY aH (zGZ E) E.N zG0 204 [1,1,1,0] [n]
    ⟨[(0,.cl (.vec 4095)),(1,eP a1),(3,.int v3),(18,.int a1.v.ak.bM),(19,.int GY)],[(4095,.gone)],[]⟩
theorem e204(a1:Pt placed):zG1 E (dG.enc ((a1):(Pt placed))) =
  cond (a1.v.ak.Kind==2)
  (Gw E E.N a1 (aO (a1.v.ak.aS.tdiv 2)) 0)
  (Gw E E.N a1 0 0):=krY
theorem zj2(n0:Nat)(a1:Pt placed)(v3 GY:Int):Gw E (n0+1) a1 v3 GY =
  cond (decide (GY<a1.v.ak.bM))
  ((E.zsy (a1.v.ak.Dead,GY)).T λr1 =>
 cond r1.2
 (Gw E n0 a1 v3 (aO (GY+1)))
 (yT (dG.enc ((GY,(⟨(aO ((aO (a1.v.ak.First+(aO (GY*a1.v.ak.aS))))-v3)),(aO ((aO ((aO ((aO (a1.v.ak.First+(aO (GY*a1.v.ak.aS))))-v3))+a1.v.ak.aS))-1))⟩:bZ)):Int×bZ)) (some [])
 (Gw E n0 a1 v3 (aO (GY+1)))))
  (some []):=krY
end
theorem zUb(E:zaN)(zyA:Ok aH 205 (ae.un E.zsy)):Ac aH 204 (ae.unI (zyz E)):=SQ (LY (ax.nil.addF zyA) (dL krY))
structure zeO where
  N:Nat
  c236:Int×Int->ae Bool
  zlv:Int->ae Bool
abbrev zG2(E:zeO):bU:=gY ((Tabs.nil.addF 236 (ae.un E.c236)).addF 237 (ae.un E.zlv)) []
def zG3:dK:=bY aH 205 [] {}
def zqV(E:zeO):(Sl Int)×Int->ae (Int×Bool):=ae.ty (aF aH E.N (zG2 E) zG3 205)
section
variable(E:zeO){A:Type}(k:(Int×Bool)->Option A)
def zu(E:zeO)(n:Nat)(a0:Sl Int)(a1 v7 v8:Int){A:Type}(k:(Int×Bool)->Option A):Option A :=
  iP aH (zG2 E) E.N zG3 205 [1,1,1,0,0] [.n n] (iO k)
    ⟨[(0,eP a0),(1,.int a1),(6,.int (a0.len:Int)),(7,.int v7),(8,.int v8)],[],[]⟩
theorem zUc(a0:Sl Int)(a1:Int):(zqV E (a0,a1)).T k =
  zu E E.N a0 a1 0 (a0.len:Int) k:=dV
theorem TI(n0:Nat)(a0:Sl Int)(a1 v7 v8:Int):zu E (n0+1) a0 a1 v7 v8 k =
  cond (decide (v7<v8))
  (aV (decide (0<=(aO (EZ .u64 (IntKind.u64.wrap (aO (v7+v8))) 1))/\(aO (EZ .u64 (IntKind.u64.wrap (aO (v7+v8))) 1))<(a0.len:Int))) ((E.c236 (a0.get (aO (EZ .u64 (IntKind.u64.wrap (aO (v7+v8))) 1)).toNat,a1)).T λr1 =>
 cond r1
 (zu E n0 a0 a1 (aO ((aO (EZ .u64 (IntKind.u64.wrap (aO (v7+v8))) 1))+1)) v8 k)
 (zu E n0 a0 a1 v7 (aO (EZ .u64 (IntKind.u64.wrap (aO (v7+v8))) 1)) k)))
  (cond (decide (v7<(a0.len:Int)))
 (aV (decide (0<=v7/\v7<(a0.len:Int))) (cond (a0.get v7.toNat==a1)
 (k (v7,true))
 (aV (decide (0<=v7/\v7<(a0.len:Int))) ((E.zlv (a0.get v7.toNat)).T λr2 =>
 cond r2
 ((E.zlv a1).T λr3 =>
 k (v7,r3))
 (k (v7,false))))))
 (k (v7,false))):=krY
end
theorem zUd [aJ](E:zeO)(zyB:Ok aH 236 (ae.un E.c236))(zyC:Ok aH 237 (ae.un E.zlv)):Ok aH 205 (ae.un (zqV E)):=dW ((ax.nil.addF zyB).addF zyC)
structure Eb where
  N:Nat
  EF:(Sl ay)×((dY 207 Unit (Pt list)) ⊕ (dY 230 Unit (Pt straight)) ⊕ (dY 257 Unit (Pt straight)))->ae Int
def Ec(E:Eb):(Sl ay)×(dY 207 Unit (Pt list))->ae Bool:=iK E.N (Tabs.nil.addF 238 (ae.un E.EF)) 206
theorem zj3(E:Eb){A:Type}(k:Bool→Option A)(a0:Sl ay)(a1:(dY 207 Unit (Pt list))):(Ec E (a0,a1)).T k =
  (E.EF (a0,(Sum.inl a1))).T λr1 =>
  k (decide (r1>=0)):=dV
theorem zj4 [aJ](E:Eb)(MZ:Ok aH 238 (ae.un E.EF)):Ok aH 206 (ae.un (Ec E)):=dW (ax.nil.addF MZ)
structure Ed where
  N:Nat
  EF:(Sl ay)×((dY 207 Unit (Pt list)) ⊕ (dY 230 Unit (Pt straight)) ⊕ (dY 257 Unit (Pt straight)))->ae Int
def Ee(E:Ed):(Sl ay)×(dY 230 Unit (Pt straight))->ae Bool:=iK E.N (Tabs.nil.addF 238 (ae.un E.EF)) 206
theorem zj5(E:Ed){A:Type}(k:Bool→Option A)(a0:Sl ay)(a1:(dY 230 Unit (Pt straight))):(Ee E (a0,a1)).T k =
  (E.EF (a0,(Sum.inr (Sum.inl a1)))).T λr1 =>
  k (decide (r1>=0)):=dV
theorem zj6 [aJ](E:Ed)(MZ:Ok aH 238 (ae.un E.EF)):Ok aH 206 (ae.un (Ee E)):=dW (ax.nil.addF MZ)
structure Ef where
  N:Nat
  EF:(Sl ay)×((dY 207 Unit (Pt list)) ⊕ (dY 230 Unit (Pt straight)) ⊕ (dY 257 Unit (Pt straight)))->ae Int
def Eg(E:Ef):(Sl ay)×(dY 257 Unit (Pt straight))->ae Bool:=iK E.N (Tabs.nil.addF 238 (ae.un E.EF)) 206
theorem zj7(E:Ef){A:Type}(k:Bool→Option A)(a0:Sl ay)(a1:(dY 257 Unit (Pt straight))):(Eg E (a0,a1)).T k =
  (E.EF (a0,(Sum.inr (Sum.inr a1)))).T λr1 =>
  k (decide (r1>=0)):=dV
theorem zj8 [aJ](E:Ef)(MZ:Ok aH 238 (ae.un E.EF)):Ok aH 206 (ae.un (Eg E)):=dW (ax.nil.addF MZ)
structure zqW where
  N:Nat
def zqX(E:zqW):ay×(Pt list)->ae Bool:=iK E.N Tabs.nil 207
theorem e207(E:zqW){A:Type}(k:Bool→Option A)(a0:ay)(a1:Pt list):(zqX E (a0,a1)).T k =
  aV (decide ((0:Int)<=0/\0<(a1.v.bQ.len:Int))) (k (a0.Z != (a1.v.bQ.get 0).Z)):=dV
theorem zUe [aJ](E:zqW):Ok aH 207 (ae.un (zqX E)):=dW ax.nil
structure zqY where
  N:Nat
  NI:Int->ae Bool
def zqZ(E:zqY):Int×Int->ae Int:=iK E.N (Tabs.nil.addF 239 (ae.un E.NI)) 208
theorem e208(E:zqY){A:Type}(k:Int→Option A)(a0 a1:Int):(zqZ E (a0,a1)).T k =
  (E.NI a0).T λr1 =>
  (E.NI a1).T λr2 =>
  cond r1
  (cond r2
 (k 0)
 (k (-1)))
  (cond r2
 (k 1)
 (cond (decide (a0<a1))
 (k (-1))
 (cond (decide (a0>a1))
 (k 1)
 (k 0)))):=dV
theorem zUf [aJ](E:zqY)(Xd:Ok aH 239 (ae.un E.NI)):Ok aH 208 (ae.un (zqZ E)):=dW (ax.nil.addF Xd)
structure zeP where
  N:Nat
abbrev zG4(E:zeP):bU:=gY Tabs.nil []
def zG5:dK:=bY aH 209 [] {}
def zq0(E:zeP):Int×Int->ae Int:=ae.ty (aF aH E.N (zG4 E) zG5 209)
section
variable(E:zeP){A:Type}(k:Int->Option A)
def TJ(E:zeP)(n:Nat)(v0 v1:Int){A:Type}(k:Int->Option A):Option A :=
  iP aH (zG4 E) E.N zG5 209 [1,0,0] [.n n] (iO k)
    ⟨[(0,.int v0),(1,.int v1)],[],[]⟩
theorem e209(a0 a1:Int):(zq0 E (a0,a1)).T k =
  TJ E E.N a0 a1 k:=dV
theorem zyD(n0:Nat)(v0 v1:Int):TJ E (n0+1) v0 v1 k =
  cond (decide (v1>0))
  (aV (decide (v1≠0)) (TJ E n0 v1 (v0.tmod v1) k))
  (k v0):=krY
end
theorem zUg [aJ](E:zeP):Ok aH 209 (ae.un (zq0 E)):=dW ax.nil
structure vS where
  N:Nat
  zls:Int×(Pt (Pt aU))×(Pt Int)->ae Bool
abbrev Xe(E:vS):bU:=gY (Tabs.nil.addF 180 (ae.un E.zls)) []
def Xf:dK:=bY aH 210 [] {}
def Eh(E:vS):(Sl Int)×(dY 180 Unit ((Pt (Pt aU))×(Pt Int)))->ae Int:=ae.ty (aF aH E.N (Xe E) Xf 210)
section
variable(E:vS){A:Type}(k:Int->Option A)
def xg(E:vS)(n:Nat)(a0:Sl Int)(a1:(dY 180 Unit ((Pt (Pt aU))×(Pt Int))))(v8:Int){A:Type}(k:Int->Option A):Option A :=
  iP aH (Xe E) E.N Xf 210 [1,0,1,0] [.n n] (iO k)
    ⟨[(0,eP a0),(1,eP a1),(7,.int (a0.len:Int)),(8,.int v8)],[],[]⟩
theorem zj9(a0:Sl Int)(a1:(dY 180 Unit ((Pt (Pt aU))×(Pt Int)))):(Eh E (a0,a1)).T k =
  xg E E.N a0 a1 0 k:=dV
theorem Na(n0:Nat)(a0:Sl Int)(a1:(dY 180 Unit ((Pt (Pt aU))×(Pt Int))))(v8:Int):xg E (n0+1) a0 a1 v8 k =
  cond (decide (v8<(a0.len:Int)))
  (aV (decide (0<=v8/\v8<(a0.len:Int))) ((E.zls (a0.get v8.toNat,a1.v.1,a1.v.2)).T λr1 =>
 cond r1
 (k v8)
 (xg E n0 a0 a1 (aO (v8+1)) k)))
  (k (-1)):=krY
end
theorem zka [aJ](E:vS)(zyE:Ok aH 180 (ae.un E.zls)):Ok aH 210 (ae.un (Eh E)):=dW (ax.nil.addF zyE)
structure vT where
  N:Nat
  zlu:Int×(Pt (Pt aU))×(Pt Int)->ae Bool
abbrev Xg(E:vT):bU:=gY (Tabs.nil.addF 190 (ae.un E.zlu)) []
def Xh:dK:=bY aH 210 [] {}
def Ei(E:vT):(Sl Int)×(dY 190 Unit ((Pt (Pt aU))×(Pt Int)))->ae Int:=ae.ty (aF aH E.N (Xg E) Xh 210)
section
variable(E:vT){A:Type}(k:Int->Option A)
def xh(E:vT)(n:Nat)(a0:Sl Int)(a1:(dY 190 Unit ((Pt (Pt aU))×(Pt Int))))(v8:Int){A:Type}(k:Int->Option A):Option A :=
  iP aH (Xg E) E.N Xh 210 [1,0,1,0] [.n n] (iO k)
    ⟨[(0,eP a0),(1,eP a1),(7,.int (a0.len:Int)),(8,.int v8)],[],[]⟩
theorem zkb(a0:Sl Int)(a1:(dY 190 Unit ((Pt (Pt aU))×(Pt Int)))):(Ei E (a0,a1)).T k =
  xh E E.N a0 a1 0 k:=dV
theorem Nb(n0:Nat)(a0:Sl Int)(a1:(dY 190 Unit ((Pt (Pt aU))×(Pt Int))))(v8:Int):xh E (n0+1) a0 a1 v8 k =
  cond (decide (v8<(a0.len:Int)))
  (aV (decide (0<=v8/\v8<(a0.len:Int))) ((E.zlu (a0.get v8.toNat,a1.v.1,a1.v.2)).T λr1 =>
 cond r1
 (k v8)
 (xh E n0 a0 a1 (aO (v8+1)) k)))
  (k (-1)):=krY
end
theorem zkc [aJ](E:vT)(zyF:Ok aH 190 (ae.un E.zlu)):Ok aH 210 (ae.un (Ei E)):=dW (ax.nil.addF zyF)
structure zq1 where
  N:Nat
  zsF:(Sl ay)->ae ((Sl Line)×Int)
def zq2(E:zq1):(Sl ay)->ae (Line×Int):=iK E.N (Tabs.nil.addF 240 (ae.un E.zsF)) 211
theorem e211(E:zq1){A:Type}(k:(Line×Int)→Option A)(a0:Sl ay):(zq2 E (a0)).T k =
  (E.zsF a0).T λr1 =>
  cond (r1.2 != 0)
  (k ((⟨(⟨0,0⟩:aP),(⟨0,0⟩:aP)⟩:Line),r1.2))
  (aV (decide ((0:Int)<=0/\0<(r1.1.len:Int))) (k ((r1.1.get 0),0))):=dV
theorem zUh [aJ](E:zq1)(zyG:Ok aH 240 (ae.un E.zsF)):Ok aH 211 (ae.un (zq2 E)):=dW (ax.nil.addF zyG)
structure zq3 where
  N:Nat
def zq4(E:zq3):Int->ae Bool:=iK E.N Tabs.nil 222
theorem e222(E:zq3){A:Type}(k:Bool→Option A)(a0:Int):(zq4 E (a0)).T k =
  k (a0 != a0):=dV
theorem zUi [aJ](E:zq3):Ok aH 222 (ae.un (zq4 E)):=dW ax.nil
structure Xi where
  N:Nat
  zlw:ay×Int->ae Int
  c55:Int×Int×Int×Int->ae Line
abbrev zq5(E:Xi):bU:=gY ((Tabs.nil.addF 247 (ae.un E.zlw)).addF 55 (ae.un E.c55)) []
def zq6:dK:=bY aH 225 [] {ks:=[(1,3,⟨[],[(3,65,114)],[],[],[],[],[]⟩),(1,6,⟨[],[(3,65,114)],[],[],[],[],[]⟩),(1,9,⟨[],[(3,65,114)],[],[],[],[],[]⟩)]}
def zq7(E:Xi):(Sl ay)->ae ((Sl Line)):=ae.ty (aF aH E.N (zq5 E) zq6 225)
section
variable(E:Xi){A:Type}(k:(Sl Line)->Option A)
def Nc(E:Xi)(n:Nat)(a0:Sl ay)(v4:Int)(Il:Sl Line){A:Type}(k:(Sl Line)->Option A):Option A :=
  iP aH (zq5 E) E.N zq6 225 [1,1,0,1,0] [.n n] (iO k)
    ⟨[(0,eP a0),(3,.cl (.vec 65)),(4,.int v4)],[(65,eV 114 4 32 Il)],[]⟩
def Gx(E:Xi)(n0 n:Nat)(a0:Sl ay)(v4 v5:Int)(Il:Sl Line){A:Type}(k:(Sl Line)->Option A):Option A :=
  iP aH (zq5 E) E.N zq6 225 [1,1,0,1,0,0,1,0,0,1,0] [.n n0,.n n] (iO k)
    ⟨[(0,eP a0),(3,.cl (.vec 65)),(4,.int v4),(5,.int v5)],[(65,eV 114 4 32 Il)],[]⟩
def Gy(E:Xi)(n0 n1 n:Nat)(a0:Sl ay)(v4 v5 v6:Int)(Il:Sl Line){A:Type}(k:(Sl Line)->Option A):Option A :=
  iP aH (zq5 E) E.N zq6 225 [1,1,0,1,0,0,1,0,0,1,0,0,1,0,0,1,0] [.n n0,.n n1,.n n] (iO k)
    ⟨[(0,eP a0),(3,.cl (.vec 65)),(4,.int v4),(5,.int v5),(6,.int v6)],[(65,eV 114 4 32 Il)],[]⟩
theorem zUj(a0:Sl ay):(zq7 E (a0)).T k =
  Nc E E.N a0 0 (⟨0,(λ_=>(⟨(⟨0,0⟩:aP),(⟨0,0⟩:aP)⟩:Line))⟩:(Sl Line)) k:=dV
theorem zkd(n0:Nat)(a0:Sl ay)(v4:Int)(Il:Sl Line):Nc E (n0+1) a0 v4 Il k =
  cond (decide (v4<(a0.len:Int)))
  (Gx E n0 E.N a0 v4 (aO (v4+1)) Il k)
  (k Il):=krY
theorem zke(n0 n1:Nat)(a0:Sl ay)(v4 v5:Int)(Il:Sl Line):Gx E n0 (n1+1) a0 v4 v5 Il k =
  cond (decide (v5<(a0.len:Int)))
  (Gy E n0 n1 E.N a0 v4 v5 0 Il k)
  (Nc E n0 a0 (aO (v4+1)) Il k):=krY
theorem zaO(n0 n1 n2:Nat)(a0:Sl ay)(v4 v5 v6:Int)(Il:Sl Line):Gy E n0 n1 (n2+1) a0 v4 v5 v6 Il k =
  cond (decide (v6<4))
  (aV (decide (0<=v4/\v4<(a0.len:Int))) (aV (decide (0<=v5/\v5<(a0.len:Int))) (cond ((a0.get v4.toNat).Z != (a0.get v5.toNat).Z)
 (aV (decide (0<=v4/\v4<(a0.len:Int))) (aV (decide (0<=v4/\v4<(a0.len:Int))) ((E.zlw ((a0.get v4.toNat),(aO (v6.tdiv 2)))).T λr1 =>
 aV (decide (0<=v5/\v5<(a0.len:Int))) (aV (decide (0<=v5/\v5<(a0.len:Int))) ((E.zlw ((a0.get v5.toNat),(v6.tmod 2))).T λr2 =>
 (E.c55 ((a0.get v4.toNat).Z,r1,(a0.get v5.toNat).Z,r2)).T λr3 =>
 aV (room (Il.len+1) 32) (Gy E n0 n1 n2 a0 v4 v5 (aO (v6+1)) (⟨(Il.len+1),(jL Il.len Il.get (λ_=>r3))⟩:(Sl Line)) k))))))
 (Gx E n0 n1 a0 v4 (aO (v5+1)) Il k))))
  (Gx E n0 n1 a0 v4 (aO (v5+1)) Il k):=krY
end
theorem zUk [aJ](E:Xi)(zq8:Ok aH 247 (ae.un E.zlw))(h55:Ok aH 55 (ae.un E.c55)):Ok aH 225 (ae.un (zq7 E)):=dW ((ax.nil.addF zq8).addF h55)
structure zq9 where
  N:Nat
  za2:Line×(Sl ay)->ae Bool
  YB:aP×aP->ae Bool
def zra(E:zq9):Line×Line×(Sl ay)->ae Bool:=iK E.N ((Tabs.nil.addF 248 (ae.un E.za2)).addF 56 (ae.un E.YB)) 226
theorem e226(E:zq9){A:Type}(k:Bool→Option A)(a0 a1:Line)(a2:Sl ay):(zra E (a0,a1,a2)).T k =
  (E.za2 (a0,a2)).T λr1 =>
  (E.za2 (a1,a2)).T λr2 =>
  cond (r1 != r2)
  ((E.za2 (a0,a2)).T λr3 =>
 k r3)
  ((E.za2 (a0,a2)).T λr4 =>
 cond r4
 ((E.YB (a0.dM,a1.dM)).T λr5 =>
 k r5)
 ((E.YB (a1.dM,a0.dM)).T λr6 =>
 k r6)):=dV
theorem zUl [aJ](E:zq9)(zrb:Ok aH 248 (ae.un E.za2))(h56:Ok aH 56 (ae.un E.YB)):Ok aH 226 (ae.un (zra E)):=dW ((ax.nil.addF zrb).addF h56)
structure zrd where
  N:Nat
def zre(E:zrd):af×Int×Int->ae af:=iK E.N Tabs.nil 227
theorem e227(E:zrd){A:Type}(k:af→Option A)(a0:af)(a1 a2:Int):(zre E (a0,a1,a2)).T k =
  aV (room a0.Hits.len 8) (aV (room (a0.Hits.len+1) 8) (aV (room a0.bz.len 8) (aV (room (a0.bz.len+1) 8) (k (⟨a0.View,(⟨(a0.Hits.len+1),(jL a0.Hits.len a0.Hits.get (λ_=>a1))⟩:(Sl Int)),(⟨(a0.bz.len+1),(jL a0.bz.len a0.bz.get (λ_=>a2))⟩:(Sl Int))⟩:af))))):=dV
theorem zUm [aJ](E:zrd):Ok aH 227 (ae.un (zre E)):=dW ax.nil
structure Xj where
  N:Nat
  c229:Int×Int×Int×Int->ae straight
abbrev zyH(E:Xj):bU:=gY (Tabs.nil.addF 229 (ae.un E.c229)) []
def zyI:dK:=bY aH 228 [0] {ks:=[(1,4,⟨[],[],[],[],[4],[],[]⟩)],unr:=[(8,3),(11,3)],yl:=[13]}
def zG6(E:Xj)(c:List PA):YO:=aI aH (zyH E) E.N zyI 228 c
def zyJ(E:Xj):(Pt list)->ae (List (straight)):=ae.tyI λc=>.opt (zG6 E c)
section
variable(E:Xj)
def Nh(E:Xj)(n:Nat)(a1:Pt list)(gQ:Int):YO :=
  ptY aH (zyH E) E.N zyI 228 [1,0] [n]
    ⟨[(0,.cl (.vec 4095)),(1,eP a1),(12,eP a1.v.bQ),(13,.int (a1.v.bQ.len:Int)),(14,.int gQ)],[(4095,.gone)],[]⟩
def Nj(E:Xj)(n0 n:Nat)(a1:Pt list)(gQ:Int)(v23:Sl ay)(v24 v25:Int)(x4:ay):YO :=
  ptY aH (zyH E) E.N zyI 228 [1,0,0,1,1,0,0,1,1,0] [n0,n]
    ⟨[(0,.cl (.vec 4095)),(1,eP a1),(4,.cl (.ptr 4 0)),(12,eP a1.v.bQ),(13,.int (a1.v.bQ.len:Int)),(14,.int gQ),(23,eP v23),(24,.int v24),(25,.int v25)],[(4095,.gone),(4,.fbox (bH.enc x4))],[]⟩
theorem e228(a1:Pt list):zG6 E (dG.enc ((a1):(Pt list))) =
  Nh E E.N a1 0:=krY
theorem zkf(n0:Nat)(a1:Pt list)(gQ:Int):Nh E (n0+1) a1 gQ =
  cond (decide (gQ<(a1.v.bQ.len:Int)))
  (aV (decide (0<=gQ/\gQ<(a1.v.bQ.len:Int))) (aV (decide ((0:Int)<=(aO (gQ+1))/\((aO (gQ+1)):Int)<=(a1.v.bQ.len:Int)/\(a1.v.bQ.len:Int)<=(a1.v.bQ.len:Int))) (Nj E n0 E.N a1 gQ (⟨(((a1.v.bQ.len:Int):Int)-(aO (gQ+1))).toNat,(EM a1.v.bQ.get (aO (gQ+1)).toNat)⟩:(Sl ay)) ((((a1.v.bQ.len:Int):Int)-(aO (gQ+1))).toNat:Int) 0 (a1.v.bQ.get gQ.toNat))))
  (some []):=krY
theorem zkg(n0 n1:Nat)(a1:Pt list)(gQ:Int)(v23:Sl ay)(v24 v25:Int)(x4:ay):Nj E n0 (n1+1) a1 gQ v23 v24 v25 x4 =
  cond (decide (v25<v24))
  (aV (decide (0<=v25/\v25<(v23.len:Int))) (cond (x4.Z==(v23.get v25.toNat).Z)
 (Nj E n0 n1 a1 gQ v23 v24 (aO (v25+1)) x4)
 ((E.c229 (x4.Z,x4.Low,(v23.get v25.toNat).Z,(v23.get v25.toNat).Low)).T λr1 =>
 yT (dG.enc (r1:straight)) (some [])
 ((E.c229 (x4.Z,x4.Low,(v23.get v25.toNat).Z,(v23.get v25.toNat).High)).T λr2 =>
 yT (dG.enc (r2:straight)) (some [])
 ((E.c229 (x4.Z,x4.High,(v23.get v25.toNat).Z,(v23.get v25.toNat).Low)).T λr3 =>
 yT (dG.enc (r3:straight)) (some [])
 ((E.c229 (x4.Z,x4.High,(v23.get v25.toNat).Z,(v23.get v25.toNat).High)).T λr4 =>
 yT (dG.enc (r4:straight)) (some [])
 (Nj E n0 n1 a1 gQ v23 v24 (aO (v25+1)) x4)))))))
  (Nh E n0 a1 (aO (gQ+1))):=krY
end
theorem zUn(E:Xj)(zeQ:Ok aH 229 (ae.un E.c229)):Ac aH 228 (ae.unI (zyJ E)):=SQ (LY (ax.nil.addF zeQ) (dL krY))
structure zrf where
  N:Nat
def zrg(E:zrf):Int×Int×Int×Int->ae straight:=iK E.N Tabs.nil 229
theorem e229(E:zrf){A:Type}(k:straight→Option A)(a0 a1 a2 a3:Int):(zrg E (a0,a1,a2,a3)).T k =
  cond (decide (a0>a2))
  (k (⟨(aO (a1-a3)),(aO ((aO (a3*a0))-(aO (a1*a2)))),(aO (a0-a2))⟩:straight))
  (k (⟨(aO (a3-a1)),(aO ((aO (a1*a2))-(aO (a3*a0)))),(aO (a2-a0))⟩:straight)):=dV
theorem zUo [aJ](E:zrf):Ok aH 229 (ae.un (zrg E)):=dW ax.nil
structure zrh where
  N:Nat
  zsE:straight×ay->ae Bool
def zri(E:zrh):ay×(Pt straight)->ae Bool:=iK E.N (Tabs.nil.addF 231 (ae.un E.zsE)) 230
theorem e230(E:zrh){A:Type}(k:Bool→Option A)(a0:ay)(a1:Pt straight):(zri E (a0,a1)).T k =
  (E.zsE (a1.v,a0)).T λr1 =>
  k (!r1):=dV
theorem zUp [aJ](E:zrh)(zyK:Ok aH 231 (ae.un E.zsE)):Ok aH 230 (ae.un (zri E)):=dW (ax.nil.addF zyK)
structure zrj where
  N:Nat
  c157:Int×Int×Int->ae Bool
def zrk(E:zrj):straight×ay->ae Bool:=iK E.N (Tabs.nil.addF 157 (ae.un E.c157)) 231
theorem e231(E:zrj){A:Type}(k:Bool→Option A)(a0:straight)(a1:ay):(zrk E (a0,a1)).T k =
  (E.c157 ((aO (a0.start+(aO (a0.bI*a1.Z)))),(aO (a1.Low*a0.den)),(aO (a1.High*a0.den)))).T λr1 =>
  k r1:=dV
theorem zUq [aJ](E:zrj)(BG:Ok aH 157 (ae.un E.c157)):Ok aH 231 (ae.un (zrk E)):=dW (ax.nil.addF BG)
structure zrl where
  N:Nat
  NI:Int->ae Bool
def zrm(E:zrl):Int×Int->ae Bool:=iK E.N (Tabs.nil.addF 239 (ae.un E.NI)) 236
theorem zUr(E:zrl){A:Type}(k:Bool→Option A)(a0 a1:Int):(zrm E (a0,a1)).T k =
  (E.NI a0).T λr1 =>
  cond r1
  ((E.NI a1).T λr2 =>
 cond (!r2)
 (k true)
 (k (decide (a0<a1))))
  (k (decide (a0<a1))):=dV
theorem zUs [aJ](E:zrl)(Xd:Ok aH 239 (ae.un E.NI)):Ok aH 236 (ae.un (zrm E)):=dW (ax.nil.addF Xd)
structure zrn where
  N:Nat
def zro(E:zrn):Int->ae Bool:=iK E.N Tabs.nil 237
theorem e237(E:zrn){A:Type}(k:Bool→Option A)(a0:Int):(zro E (a0)).T k =
  k (a0 != a0):=dV
theorem zUt [aJ](E:zrn):Ok aH 237 (ae.un (zro E)):=dW ax.nil
structure vU where
  N:Nat
  zsz:ay×(Pt list)->ae Bool
abbrev Xk(E:vU):bU:=gY (Tabs.nil.addF 207 (ae.un E.zsz)) []
def Xl:dK:=bY aH 238 [] {}
def Ej(E:vU):(Sl ay)×(dY 207 Unit (Pt list))->ae Int:=ae.ty (aF aH E.N (Xk E) Xl 238)
section
variable(E:vU){A:Type}(k:Int->Option A)
def xk(E:vU)(n:Nat)(a0:Sl ay)(a1:(dY 207 Unit (Pt list)))(v8:Int){A:Type}(k:Int->Option A):Option A :=
  iP aH (Xk E) E.N Xl 238 [1,0,1,0] [.n n] (iO k)
    ⟨[(0,eP a0),(1,.p (.fn 207 [] [.fp [.sl a1.v.v.bQ.len 3 (λi=>bH.enc (a1.v.v.bQ.get i))] 0])),(7,.int (a0.len:Int)),(8,.int v8)],[],[]⟩
theorem zkh(a0:Sl ay)(a1:(dY 207 Unit (Pt list))):(Ej E (a0,a1)).T k =
  xk E E.N a0 a1 0 k:=dV
theorem Nk(n0:Nat)(a0:Sl ay)(a1:(dY 207 Unit (Pt list)))(v8:Int):xk E (n0+1) a0 a1 v8 k =
  cond (decide (v8<(a0.len:Int)))
  (aV (decide (0<=v8/\v8<(a0.len:Int))) ((E.zsz ((a0.get v8.toNat),a1.v)).T λr1 =>
 cond r1
 (k v8)
 (xk E n0 a0 a1 (aO (v8+1)) k)))
  (k (-1)):=krY
end
theorem zki [aJ](E:vU)(zyL:Ok aH 207 (ae.un E.zsz)):Ok aH 238 (ae.un (Ej E)):=dW (ax.nil.addF zyL)
structure vV where
  N:Nat
  zsD:ay×(Pt straight)->ae Bool
abbrev Xm(E:vV):bU:=gY (Tabs.nil.addF 230 (ae.un E.zsD)) []
def Xn:dK:=bY aH 238 [] {}
def Em(E:vV):(Sl ay)×(dY 230 Unit (Pt straight))->ae Int:=ae.ty (aF aH E.N (Xm E) Xn 238)
section
variable(E:vV){A:Type}(k:Int->Option A)
def xm(E:vV)(n:Nat)(a0:Sl ay)(a1:(dY 230 Unit (Pt straight)))(v8:Int){A:Type}(k:Int->Option A):Option A :=
  iP aH (Xm E) E.N Xn 238 [1,0,1,0] [.n n] (iO k)
    ⟨[(0,eP a0),(1,eP a1),(7,.int (a0.len:Int)),(8,.int v8)],[],[]⟩
theorem zkj(a0:Sl ay)(a1:(dY 230 Unit (Pt straight))):(Em E (a0,a1)).T k =
  xm E E.N a0 a1 0 k:=dV
theorem Nl(n0:Nat)(a0:Sl ay)(a1:(dY 230 Unit (Pt straight)))(v8:Int):xm E (n0+1) a0 a1 v8 k =
  cond (decide (v8<(a0.len:Int)))
  (aV (decide (0<=v8/\v8<(a0.len:Int))) ((E.zsD ((a0.get v8.toNat),a1.v)).T λr1 =>
 cond r1
 (k v8)
 (xm E n0 a0 a1 (aO (v8+1)) k)))
  (k (-1)):=krY
end
theorem zkk [aJ](E:vV)(zyM:Ok aH 230 (ae.un E.zsD)):Ok aH 238 (ae.un (Em E)):=dW (ax.nil.addF zyM)
structure vW where
  N:Nat
  zsG:ay×(Pt straight)->ae Bool
abbrev Xo(E:vW):bU:=gY (Tabs.nil.addF 257 (ae.un E.zsG)) []
def Xp:dK:=bY aH 238 [] {}
def En(E:vW):(Sl ay)×(dY 257 Unit (Pt straight))->ae Int:=ae.ty (aF aH E.N (Xo E) Xp 238)
section
variable(E:vW){A:Type}(k:Int->Option A)
def xn(E:vW)(n:Nat)(a0:Sl ay)(a1:(dY 257 Unit (Pt straight)))(v8:Int){A:Type}(k:Int->Option A):Option A :=
  iP aH (Xo E) E.N Xp 238 [1,0,1,0] [.n n] (iO k)
    ⟨[(0,eP a0),(1,eP a1),(7,.int (a0.len:Int)),(8,.int v8)],[],[]⟩
theorem zkl(a0:Sl ay)(a1:(dY 257 Unit (Pt straight))):(En E (a0,a1)).T k =
  xn E E.N a0 a1 0 k:=dV
theorem Np(n0:Nat)(a0:Sl ay)(a1:(dY 257 Unit (Pt straight)))(v8:Int):xn E (n0+1) a0 a1 v8 k =
  cond (decide (v8<(a0.len:Int)))
  (aV (decide (0<=v8/\v8<(a0.len:Int))) ((E.zsG ((a0.get v8.toNat),a1.v)).T λr1 =>
 cond r1
 (k v8)
 (xn E n0 a0 a1 (aO (v8+1)) k)))
  (k (-1)):=krY
end
theorem zkm [aJ](E:vW)(zyN:Ok aH 257 (ae.un E.zsG)):Ok aH 238 (ae.un (En E)):=dW (ax.nil.addF zyN)
structure zrp where
  N:Nat
def zrq(E:zrp):Int->ae Bool:=iK E.N Tabs.nil 239
theorem zUu(E:zrp){A:Type}(k:Bool→Option A)(a0:Int):(zrq E (a0)).T k =
  k (a0 != a0):=dV
theorem zUv [aJ](E:zrp):Ok aH 239 (ae.un (zrq E)):=dW ax.nil
structure zeR where
  N:Nat
  c117:(Sl ay)×((dY 118 Unit Unit) ⊕ (dY 162 Unit (Pt Int)))->ae (set×Int)
  zlx:set->ae ((Sl straight))
  c198:straight->ae Line
abbrev zG7(E:zeR):bU:=gY (((Tabs.nil.addF 117 (ae.un E.c117)).addF 249 (ae.un E.zlx)).addF 198 (ae.un E.c198)) []
def zG8:dK:=bY aH 240 [] {ks:=[(1,6,⟨[],[(6,28,114)],[],[],[],[],[]⟩)]}
def zkn(E:zeR):(Sl ay)->ae ((Sl Line)×Int):=ae.ty (aF aH E.N (zG7 E) zG8 240)
section
variable(E:zeR){A:Type}(k:((Sl Line)×Int)->Option A)
def Gz(E:zeR)(n:Nat)(Jv:Sl straight)(GY v20:Int)(w28:Sl Line){A:Type}(k:((Sl Line)×Int)->Option A):Option A :=
  iP aH (zG7 E) E.N zG8 240 [1,1,1,1,0,1,0] [.n n] (iO k)
    ⟨[(6,.cl (.vec 28)),(18,eP Jv),(19,.int GY),(20,.int v20)],[(28,eV 114 4 32 w28)],[]⟩
theorem e240(a0:Sl ay):(zkn E (a0)).T k =
  (E.c117 (a0,(Sum.inl (⟨(),()⟩:(dY 118 Unit Unit))))).T λr1 =>
  cond (r1.2 != 0)
  (k ((⟨0,λ_=>default⟩:(Sl Line)),r1.2))
  ((E.zlx r1.1).T λr2 =>
 Gz E E.N r2 (r2.len:Int) 0 (⟨0,(λ_=>(⟨(⟨0,0⟩:aP),(⟨0,0⟩:aP)⟩:Line))⟩:(Sl Line)) k):=dV
theorem zko(n0:Nat)(Jv:Sl straight)(GY v20:Int)(w28:Sl Line):Gz E (n0+1) Jv GY v20 w28 k =
  cond (decide (v20<GY))
  (aV (decide (0<=v20/\v20<(Jv.len:Int))) ((E.c198 (Jv.get v20.toNat)).T λr1 =>
 aV (room (w28.len+1) 32) (Gz E n0 Jv GY (aO (v20+1)) (⟨(w28.len+1),(jL w28.len w28.get (fun _=>r1))⟩:(Sl Line)) k)))
  (k (w28,0)):=krY
end
theorem zUw [aJ](E:zeR)(UM:Ok aH 117 (ae.un E.c117))(zyO:Ok aH 249 (ae.un E.zlx))(zaE:Ok aH 198 (ae.un E.c198)):Ok aH 240 (ae.un (zkn E)):=dW (((ax.nil.addF UM).addF zyO).addF zaE)
structure zrr where
  N:Nat
def zrt(E:zrr):ay×Int->ae Int:=iK E.N Tabs.nil 247
theorem e247(E:zrr){A:Type}(k:Int→Option A)(a0:ay)(a1:Int):(zrt E (a0,a1)).T k =
  cond (a1==0)
  (k a0.Low)
  (k a0.High):=dV
theorem zUx [aJ](E:zrr):Ok aH 247 (ae.un (zrt E)):=dW ax.nil
structure zeS where
  N:Nat
  Uh:Line×Int->ae (Int×Int)
abbrev zG9(E:zeS):bU:=gY (Tabs.nil.addF 166 (ae.un E.Uh)) []
def zHa:dK:=bY aH 248 [] {}
def zru(E:zeS):Line×(Sl ay)->ae Bool:=ae.ty (aF aH E.N (zG9 E) zHa 248)
section
variable(E:zeS){A:Type}(k:Bool->Option A)
def TK(E:zeS)(n:Nat)(a0:Line)(a1:Sl ay)(v5:Int){A:Type}(k:Bool->Option A):Option A :=
  iP aH (zG9 E) E.N zHa 248 [1,0,1,0] [.n n] (iO k)
    ⟨[(1,eP a1),(2,.cl (.ptr 2 0)),(5,.int v5)],[(2,eB 114 a0)],[]⟩
theorem e248(a0:Line)(a1:Sl ay):(zru E (a0,a1)).T k =
  TK E E.N a0 a1 0 k:=dV
theorem zkp(n0:Nat)(a0:Line)(a1:Sl ay)(v5:Int):TK E (n0+1) a0 a1 v5 k =
  cond (decide (v5<(a1.len:Int)))
  (aV (decide (0<=v5/\v5<(a1.len:Int))) ((E.Uh (a0,(a1.get v5.toNat).Z)).T λr1 =>
 aV (decide (0<=v5/\v5<(a1.len:Int))) (cond (r1.1==(aO ((a1.get v5.toNat).Low*r1.2)))
 (k true)
 (TK E n0 a0 a1 (aO (v5+1)) k))))
  (k false):=krY
end
theorem zUy [aJ](E:zeS)(zax:Ok aH 166 (ae.un E.Uh)):Ok aH 248 (ae.un (zru E)):=dW (ax.nil.addF zax)
structure zrv where
  N:Nat
  Yq:straight×straight×(Pt set)->ae Int
def zrx(E:zrv):set->ae ((Sl straight)):=iK E.N (((Tabs.nil.addO 252 (.clone 204 3 24)).addO 253 (.sort 204 3 24)).addC 254 (ae.un E.Yq)) 249
theorem e249(E:zrv){A:Type}(k:(Sl straight)→Option A)(a0:set):(zrx E (a0)).T k =
  aV (room a0.dm.len 24) (aV (soP (ae.un E.Yq) (bH.enc (⟨a0⟩:(Pt set))) true a0.dm) (k (⟨a0.dm.len,(soG (ae.un E.Yq) (bH.enc (⟨a0⟩:(Pt set))) true a0.dm)⟩:(Sl straight)))):=dV
theorem zUz [aJ](E:zrv)(zUA:gz aH 252 (.clone 204 3 24))(zUB:gz aH 253 (.sort 204 3 24))(zUC : @Ok ⟨1⟩ aH 254 (ae.un E.Yq)):Ok aH 249 (ae.un (zrx E)):=dW (((ax.nil.addO zUA).addO zUB).addC zUC)
structure zry where
  N:Nat
  zly:set×straight->ae Bool
  kJ:Int×Int->ae aP
  EE:aP×aP->ae Int
def zrz(E:zry):straight×straight×(Pt set)->ae Int:=iK E.N (((Tabs.nil.addF 255 (ae.un E.zly)).addF 172 (ae.un E.kJ)).addF 170 (ae.un E.EE)) 254
theorem e254(E:zry){A:Type}(k:Int→Option A)(a0 a1:straight)(a2:Pt set):(zrz E (a0,a1,a2)).T k =
  (E.zly (a2.v,a0)).T λr1 =>
  (E.zly (a2.v,a1)).T λr2 =>
  (E.kJ (a0.bI,a0.den)).T λr3 =>
  (E.kJ (a1.bI,a1.den)).T λr4 =>
  (E.EE (r3,r4)).T λr5 =>
  cond r1
  (cond r2
 (k r5)
 (cond r1
 (k (-1))
 (cond r2
 (k 1)
 (k (aO (0-r5))))))
  (cond r1
 (k (-1))
 (cond r2
 (k 1)
 (k (aO (0-r5))))):=dV
theorem zUD [aJ](E:zry)(zrA:Ok aH 255 (ae.un E.zly))(qP:Ok aH 172 (ae.un E.kJ))(MX:Ok aH 170 (ae.un E.EE)):Ok aH 254 (ae.un (zrz E)):=dW (((ax.nil.addF zrA).addF qP).addF MX)
structure zrB where
  N:Nat
  c206:(Sl ay)×((dY 207 Unit (Pt list)) ⊕ (dY 230 Unit (Pt straight)) ⊕ (dY 257 Unit (Pt straight)))->ae Bool
def zrC(E:zrB):set×straight->ae Bool:=iK E.N (Tabs.nil.addF 206 (ae.un E.c206)) 255
theorem zUE(E:zrB){A:Type}(k:Bool→Option A)(a0:set)(a1:straight):(zrC E (a0,a1)).T k =
  (E.c206 (a0.list.bQ,(Sum.inr (Sum.inr (⟨(),(⟨a1⟩:(Pt straight))⟩:(dY 257 Unit (Pt straight))))))).T λr1 =>
  k r1:=dV
theorem zUF [aJ](E:zrB)(MS:Ok aH 206 (ae.un E.c206)):Ok aH 255 (ae.un (zrC E)):=dW (ax.nil.addF MS)
structure zrD where
  N:Nat
def zrE(E:zrD):ay×(Pt straight)->ae Bool:=iK E.N Tabs.nil 257
theorem e257(E:zrD){A:Type}(k:Bool→Option A)(a0:ay)(a1:Pt straight):(zrE E (a0,a1)).T k =
  k ((aO (a1.v.start+(aO (a1.v.bI*a0.Z))))==(aO (a0.Low*a1.v.den))):=dV
theorem zUG [aJ](E:zrD):Ok aH 257 (ae.un (zrE E)):=dW ax.nil
theorem qy{x y X Y:Int}(h1 : -X<=x)(h2:x<=X)(h3:0<=y)(h4:y<=Y) : -(X*Y)<=x*y/\x*y<=X*Y:=by
 have hX:0<=X:=by omega
 have a:=NY h2 h3;have b:=dq8 h4 hX;have c:=NY h1 h3;rw[jqs]at c;omega
def red(num den:Int):aP:=⟨num.tdiv (Int.gcd num den:Int),den.tdiv (Int.gcd num den:Int)⟩
theorem zf3(num:Int):(if -num>num then -num else num)=(num.natAbs:Int):=by split<;>omega
theorem Y0(num den:Int):Int.gcd (num.natAbs:Int) den=Int.gcd num den:=by
 unfold Int.gcd;rw[Int.natAbs_natCast]
theorem lI{num den:Int}(hd:0<den):0<(Int.gcd num den:Int):=by
 have:Int.gcd num den≠0:=λh=>by have:=(Int.gcd_eq_zero_iff.1 h).2;omega
 omega
theorem zHb(num den:Int):∃a,num=(Int.gcd num den:Int)*a:=Int.gcd_dvd_left num den
theorem zHc(num den:Int):∃a,den=(Int.gcd num den:Int)*a:=Int.gcd_dvd_right num den
theorem oM{num den:Int}(hd:0<den):(Int.gcd num den:Int)*(red num den).Num=num:=by
 have hg:=lI (num:=num) hd;obtain⟨a,ha⟩:=zHb num den;show(Int.gcd num den:Int)*num.tdiv (Int.gcd num den:Int)=num;generalize (Int.gcd num den:Int)=g at ha hg ⊢;rw[ha,qjb _ omY]
theorem mG{num den:Int}(hd:0<den):(Int.gcd num den:Int)*(red num den).bT=den:=by
 have hg:=lI (num:=num) hd;obtain⟨a,ha⟩:=zHc num den;show(Int.gcd num den:Int)*den.tdiv (Int.gcd num den:Int)=den;generalize (Int.gcd num den:Int)=g at ha hg ⊢;rw[ha,qjb _ omY]
theorem jf{num den:Int}(hd:0<den):0<(red num den).bT:=by
 have h1:=mG (num:=num) hd;have hg:=lI (num:=num) hd;rcases qdX 0 (red num den).bT with h|h
 ·exact h
 ·have:=dq8 h (yt hg);rw[h1,jqG]at this;omega
theorem GG{num den:Int}(hd:0<den):(red num den).bT<=den:=by
 have h1:=mG (num:=num) hd;have hg:=lI (num:=num) hd;have:=NY (show(1:Int)<=(Int.gcd num den:Int)by omega) (yt (jf (num:=num) hd));omega
theorem zU{num den:Int}(hd:0<den) : -(num.natAbs:Int)<=(red num den).Num/\(red num den).Num<=(num.natAbs:Int):=by
 have h1:=oM (num:=num) hd;have hg:=lI (num:=num) hd;have h2:num.natAbs=(Int.gcd num den)*(red num den).Num.natAbs:=by
  have:=jX Int.natAbs h1;rw[jqZ]at this;simpa using this.symm
 have h3:(red num den).Num.natAbs<=num.natAbs:=by
  rw[h2];exact Nat.le_mul_of_pos_left _ omY
 omega
theorem zcG{num den:Int}(hd:0<den):Int.gcd (red num den).Num (red num den).bT=1:=by
 have h1:=oM (num:=num) hd;have h2:=mG (num:=num) hd;have hg:=lI (num:=num) hd;have h3:Int.gcd ((Int.gcd num den:Int)*(red num den).Num) ((Int.gcd num den:Int)*(red num den).bT)=Int.gcd num den*Int.gcd (red num den).Num (red num den).bT:=by
  rw[Int.gcd_mul_left];simp
 rw[h1,h2]at h3;have h4:Int.gcd num den*1=Int.gcd num den*Int.gcd (red num den).Num (red num den).bT:=by rw[jqq];exact h3
 exact(Nat.eq_of_mul_eq_mul_left omY h4).symm
theorem Y4{a b c d:Int}(hb:0<b)(hd:0<d):red a b=red c d↔a*d=c*b:=by
 have a1:=oM (num:=a) hb;have a2:=mG (num:=a) hb;have c1:=oM (num:=c) hd;have c2:=mG (num:=c) hd;constructor
 ·intro h;rw[h] at a1 a2;generalize hG:(Int.gcd a b:Int)=G at a1 a2;generalize hK:(Int.gcd c d:Int)=K at c1 c2;generalize (red c d).Num=x at a1 c1;generalize (red c d).bT=y at a2 c2;subst a1;subst a2;subst c1;subst c2
  ac_rfl
 ·intro h;have ga:=zcG (num:=a) hb;have gc:=zcG (num:=c) hd;have pa:=jf (num:=a) hb;have pc:=jf (num:=c) hd;have hG:=lI (num:=a) hb;have hK:=lI (num:=c) hd
  -- QJ products of the lowest forms
  have hx:(red a b).Num*(red c d).bT=(red c d).Num*(red a b).bT:=by
   have e:((Int.gcd a b:Int)*(Int.gcd c d:Int))*((red a b).Num*(red c d).bT)=((Int.gcd a b:Int)*(Int.gcd c d:Int))*((red c d).Num*(red a b).bT):=by
    have l1:((Int.gcd a b:Int)*(Int.gcd c d:Int))*((red a b).Num*(red c d).bT)=((Int.gcd a b:Int)*(red a b).Num)*((Int.gcd c d:Int)*(red c d).bT):=by
     generalize (Int.gcd a b:Int)=G;generalize (Int.gcd c d:Int)=K
     ac_rfl
    have l2:((Int.gcd a b:Int)*(Int.gcd c d:Int))*((red c d).Num*(red a b).bT)=((Int.gcd c d:Int)*(red c d).Num)*((Int.gcd a b:Int)*(red a b).bT):=by
     generalize (Int.gcd a b:Int)=G;generalize (Int.gcd c d:Int)=K
     ac_rfl
    rw[l1,l2,a1,a2,c1,c2];exact h
   exact Int.eq_of_mul_eq_mul_left (by have:=jqt hG hK;omega) e
  have yB:=jX Int.natAbs hx;rw[jqZ,jqZ]at yB;have ga':Nat.Coprime (red a b).bT.natAbs (red a b).Num.natAbs:=(jqH _ _).trans ga;have gc':Nat.Coprime (red c d).bT.natAbs (red c d).Num.natAbs:=(jqH _ _).trans gc;have d1:(red a b).bT∣(red c d).bT:=qzg.1 (ga'.dvd_of_dvd_mul_left ⟨(red c d).Num.natAbs,by rw[yB,qdV]⟩);have d2:(red c d).bT∣(red a b).bT:=qzg.1 (gc'.dvd_of_dvd_mul_left ⟨(red a b).Num.natAbs,by rw[<- yB,qdV]⟩);have zsK:(red a b).bT=(red c d).bT:=jqi (Int.le_of_dvd pc d1) (Int.le_of_dvd pa d2);rw[<- zsK]at hx;have zBE:=qjV omY hx;cases h1:red a b;cases h2:red c d;rw[h1,h2]at zsK zBE;simp only at zsK zBE;rw[zsK,zBE]
def EP(z p y q:Int):straight:=if z>y then⟨p-q,q*z-p*y,z-y⟩else⟨q-p,p*y-q*z,y-z⟩
def fC(s:straight):Line:=⟨red s.bI s.den,red s.start s.den⟩
theorem Xq{a b:Int}(ha:0<=a)(hb:0<b):0<=a.tmod b/\a.tmod b<b/\Int.gcd b (a.tmod b)=Int.gcd a b:=by
 refine⟨jqP b ha,Int.tmod_lt_of_pos a hb,?_⟩;obtain⟨m,rfl⟩:=jq5 ha;obtain⟨n,rfl⟩:=jq5 (yt hb);show Nat.gcd n (m%n)=Nat.gcd m n;rw[jqH m n,Nat.gcd_rec n m,jqH]
theorem TL{A:Type}{X:Nat→Int→Int→Option A}{k:Int→Option A}(hX:∀n a b,0≤a→0≤b→X (n+1) a b=if b=0 then k a else X n b (a.tmod b)) :
  ∀(m n:Nat)(a b:Int),0<=a->0<=b->b<2^m->2*m<n->X n a b=k (Int.gcd a b:Int):=by
 have zero:∀a:Int,0<=a->(Int.gcd a 0:Int)=a:=λa ha=>by rw[Int.gcd_zero_right];omega
 intro m
 induction m with
 | zero =>
  intro n a b ha hb hm hn;obtain⟨n,rfl⟩:∃n',n=n'+1:=⟨n-1,omY⟩;have:b=0:=by simp at hm;omega
  subst this;rw[hX n a 0 ha hb,eX rfl,zero a ha]
 | succ m ih =>
  intro n a b ha hb hm hn;obtain⟨n,rfl⟩:∃n',n=n'+1+1:=⟨n-2,omY⟩;rw[hX _ a b ha hb];by_cases h0:b=0
  ·subst h0;rw[eX rfl,zero a ha]
  rw[fB h0];obtain⟨r0,r1,g1⟩:=Xq ha (show 0<b by omega);rw[hX _ b _ hb r0];by_cases h1:a.tmod b=0
  ·rw[eX h1,<- g1,h1,zero b hb]
  rw[fB h1];obtain⟨q0,q1,g2⟩:=Xq hb (show 0<a.tmod b by omega);rw[ih n _ _ r0 q0 ?_ omY,g2,g1];have e:=qzh b (a.tmod b);have hq:1<=b.tdiv (a.tmod b):=by
   rcases qdX 0 (b.tdiv (a.tmod b))with h|h
   ·omega
   ·have:=dq8 h r0;rw[jqG]at this;omega
  have:=dq8 hq r0;rw[qd6]at this;have h2:(2:Int)^(m+1)=2^m*2:=Int.pow_succ 2 m;omega
abbrev zaP(C:Int×Int->ae Int):Prop:=∀a b,0<=a->0<=b->b<=1152921504606846976->C (a,b)=.ok (Int.gcd a b:Int)
theorem zUH{E:zeP}(N:Big E.N):zaP (zq0 E):=λa b ha hb hk=>ae.ext λk=>by
 rw[e209,bn];refine TL (X:=λn a b=>TJ E n a b k) (λn a b h1 h2=>?_) 61 _ a b ha hb omY (by have:=N;omega);rw[zyD];by_cases h:b=0
 ·subst h;rfl
 ·rw[dZ (show b>0 by omega),ed,bG h,fB h]
theorem zUI{E:zez}(N:Big E.N):zaP (zpq E):=λa b ha hb hk=>ae.ext λk=>by
 rw[e125,bn];refine TL (X:=λn a b=>Tv E n a b k) (λn a b h1 h2=>?_) 61 _ a b ha hb omY (by have:=N;omega);rw[zx9];by_cases h:b=0
 ·subst h;rfl
 ·rw[show(b != 0)=true by simpa using h,ed,bG h,fB h]
abbrev IV(C:Int×Int->ae aP):Prop:=∀a b,-1000000000000000000<=a->a<=1000000000000000000->0<b->b<=1000000000000000000->C (a,b)=.ok (red a b)
theorem zuu{num den:Int}(h1 : -1000000000000000000≤num)(h2:num≤1000000000000000000)(hd:0<den)(hd2:den≤1000000000000000000){A:Type}(k:aP→Option A) :
  aV (decide ((Int.gcd num den:Int)≠0)) (aV (decide ((Int.gcd num den:Int)≠0)) (k ⟨aO (num.tdiv (Int.gcd num den:Int)),aO (den.tdiv (Int.gcd num den:Int))⟩))=k (red num den):=by
 have hg:=lI (num:=num) hd;have r1:=zU (num:=num) hd;have r2:=GG (num:=num) hd;have r3:=jf (num:=num) hd;have w1:aO (num.tdiv (Int.gcd num den:Int))=(red num den).Num:=bf (by show _<=(red num den).Num;omega) (by show(red num den).Num<=_;omega);have w2:aO (den.tdiv (Int.gcd num den:Int))=(red num den).bT:=bf (by show _<=(red num den).bT;omega) (by show(red num den).bT<=_;omega);rw[w1,w2,bG omY,bG omY]
theorem zUJ{E:zqj}(zyq:zaP E.zsA):IV (zqk E):=λa b h1 h2 hd hd2=>ae.ext λk=>by
 rw[zTE,show aO (0-a) = -a by rw[bf omY omY];omega,zf3,zyq _ _ omY omY omY,Y0,bn,bn];exact zuu h1 h2 hd hd2 k
theorem s71{E:E71}(zau:zaP E.Ug):IV (F71 E):=λa b h1 h2 hd hd2=>ae.ext λk=>by
 rw[e71,show aO (0-a) = -a by rw[bf omY omY];omega,zf3,zau _ _ omY omY omY,Y0,bn,bn];exact zuu h1 h2 hd hd2 k
theorem zUK{E:zpZ}:BX (zp0 E):=λx a b=>ae.ext λk=>by rw[zTo,kc k,bn];congr 1;simp only[inB];grind
def Io(g:ay):Bool:=inB g.Z 0 100000&&(decide (g.Low >= -1000000)&&(decide (g.Low<=g.High)&&decide (g.High<=1000000)))
def gZ(g:ay):Prop:=(0<=g.Z/\g.Z<=100000)/\-1000000<=g.Low/\g.Low<=g.High/\g.High<=1000000
def dw(l:Sl ay):Prop:=(∀i,i<l.len->gZ (l.get i))/\1<=l.len/\l.len<=24
theorem zkq{g:ay}:Io g=true↔gZ g:=by
 simp only[Io,inB,gG,pJ,gZ,ge_iff_le]
def BK(a b:ay):List straight:=if a.Z=b.Z then []else [EP a.Z a.Low b.Z b.Low,EP a.Z a.Low b.Z b.High,EP a.Z a.High b.Z b.Low,EP a.Z a.High b.Z b.High]
def Eo(g:Sl ay)(i:Nat):Nat→Nat→List straight
  | 0,_=>[]
  | m+1,k=>BK (g.get i) (g.get k)++Eo g i m (k+1)
def OG(g:Sl ay):Nat→Nat→List straight
  | 0,_=>[]
  | m+1,i=>Eo g i (g.len-(i+1)) (i+1)++OG g m (i+1)
def cst(g:Sl ay):List straight:=OG g g.len 0
theorem qF{g:ay}(h:gZ g) : -1000000<=g.Low/\g.Low<=1000000:=⟨h.2.1,by have:=h.2;omega⟩
theorem rZ{g:ay}(h:gZ g) : -1000000<=g.High/\g.High<=1000000:=⟨by have:=h.2;omega,h.2.2.2⟩
abbrev zyP(C:Int×Int×Int×Int->ae straight):Prop:=∀z p y q,(0<=z/\z<=100000)->(0<=y/\y<=100000)->(-1000000<=p/\p<=1000000)->(-1000000<=q/\q<=1000000)->C (z,p,y,q)=.ok (EP z p y q)
theorem zUL{E:zrf}:zyP (zrg E):=λz p y q hz hy hp hq=>ae.ext λk=>by
 have b1:=qy hp.1 hp.2 hy.1 hy.2;have b2:=qy hq.1 hq.2 hz.1 hz.2;rw[e229,bn,bf (x:=p*y) omY omY,bf (x:=q*z) omY omY];unfold EP;by_cases h:z>y
 ·rw[dZ h,ed,eX h,bf (x:=p-q) omY omY,bf (x:=z-y) omY omY,bf (x:=q*z-p*y) omY omY]
 ·rw[eU h,dS,fB h,bf (x:=q-p) omY omY,bf (x:=y-z) omY omY,bf (x:=p*y-q*z) omY omY]
abbrev zyQ(I:Pt list->ae (List straight)):Prop:=∀l:Pt list,dw l.v.bQ->I l=.ok (cst l.v.bQ)
theorem zUM{E:Xj}(N:Big E.N)(zeQ:zyP E.c229):zyQ (zyJ E):=λl G=>by
 have hl:=G.2.2;refine DI ?_ (λ_=>rfl) (λ_=>rfl);rw[e228]
 have inn:∀(n i:Nat)(R:List (List PA))(sl:Sl ay),i<l.v.bQ.len->sl.len=l.v.bQ.len-(i+1)->(∀x,sl.get x=l.v.bQ.get (x+(i+1)))->Nh E n l (aO ((i:Int)+1))=some R ->
   ∀(m j n1:Nat),j+m=sl.len->m<n1->Nj E n n1 l (i:Int) sl (sl.len:Int) (j:Int) (l.v.bQ.get i)=some ((Eo l.v.bQ i m (j+(i+1))).map dG.enc++R):=by
  intro n i R sl hi hs hg hR m
  induction m with
  | zero =>
   intro j n1 hj hn;obtain⟨n1,rfl⟩:∃n',n1=n'+1:=⟨n1-1,omY⟩;rw[zkg,eU omY,dS,hR];rfl
  | succ m ih =>
   intro j n1 hj hn;obtain⟨n1,rfl⟩:∃n',n1=n'+1:=⟨n1-1,omY⟩;have gi:=G.1 i hi;have gk:=G.1 (j+(i+1)) omY;have i1:=ih (j+1) n1 omY omY;rw[zkg,dZ omY,ed,bG omY,bP omY,i1,gU,hg];show _=some (List.map dG.enc (BK (l.v.bQ.get i) (l.v.bQ.get (j+(i+1)))++Eo l.v.bQ i m (j+(i+1)+1))++R);unfold BK;by_cases hz:(l.v.bQ.get i).Z=(l.v.bQ.get (j+(i+1))).Z
   ·rw[eX hz,show((l.v.bQ.get i).Z==(l.v.bQ.get (j+(i+1))).Z)=true by simpa using hz,ed,show j+1+(i+1)=j+(i+1)+1 by omega];rfl
   ·rw[fB hz,show((l.v.bQ.get i).Z==(l.v.bQ.get (j+(i+1))).Z)=false by simpa using hz,dS,zeQ _ _ _ _ gi.1 gk.1 (qF gi) (qF gk),zeQ _ _ _ _ gi.1 gk.1 (qF gi) (rZ gk),zeQ _ _ _ _ gi.1 gk.1 (rZ gi) (qF gk),zeQ _ _ _ _ gi.1 gk.1 (rZ gi) (rZ gk),bn,bn,bn,bn,
     show j+1+(i+1)=j+(i+1)+1 by omega];rfl
 have key:∀(m i n:Nat),i+m=l.v.bQ.len->m<n->Nh E n l (i:Int)=some ((OG l.v.bQ m i).map dG.enc):=by
  intro m
  induction m with
  | zero =>
   intro i n hi hn;obtain⟨n,rfl⟩:∃n',n=n'+1:=⟨n-1,omY⟩;rw[zkf,eU omY];rfl
  | succ m ih =>
   intro i n hi hn;obtain⟨n,rfl⟩:∃n',n=n'+1:=⟨n-1,omY⟩;have i1:=ih (i+1) n omY omY;rw[zkf,dZ omY,ed,bG omY,bP omY,bG omY,gU];have hs:((l.v.bQ.len:Int)-((i+1:Nat):Int)).toNat=l.v.bQ.len-(i+1):=by omega
   have:=inn n i _ ⟨((l.v.bQ.len:Int)-((i+1:Nat):Int)).toNat,EM l.v.bQ.get (((i+1:Nat):Int)).toNat⟩ omY hs (λx=>by show l.v.bQ.get (x+(((i+1:Nat):Int)).toNat)=_;rw[gU]) (by rw[bP omY];exact i1) (l.v.bQ.len-(i+1)) 0 E.N (by show 0+(l.v.bQ.len-(i+1))=((l.v.bQ.len:Int)-((i+1:Nat):Int)).toNat;omega) (by have:=N;omega);rw[NV]at this;refine this.trans ?_;show _=some (((Eo l.v.bQ i (l.v.bQ.len-(i+1)) (i+1))++OG l.v.bQ m (i+1)).map dG.enc);rw[QQ]
 exact key l.v.bQ.len 0 E.N omY (by have:=N;omega)
abbrev zyR(C:ay->ae Bool):Prop:=∀g,C g=.ok (Io g)
theorem zUN{E:zpX}(BG:BX E.c157):zyR (zpY E):=λg=>ae.ext λk=>by
 rw[zTm,BG,bn,bn];unfold Io;cases inB g.Z 0 100000<;>cases decide (g.Low >= -1000000)<;>cases decide (g.Low<=g.High)<;>rfl
def xq(l:Sl ay):Bool:=fG (λi=>Io (l.get i)) l.len&&inB (l.len:Int) 1 24
theorem kU{l:Sl ay}:xq l=true↔dw l:=by
 simp only[xq,gG,dI,inB,pJ,zkq,dw];exact and_congr UX omY
abbrev zmQ(C:Sl ay->ae Bool):Prop:=∀l:Sl ay,l.len<=1000->C l=.ok (xq l)
theorem zUO{E:zex}(N:Big E.N)(zx0:zyR E.c156)(BG:BX E.c157):zmQ (zpc E):=λl hl=>ae.ext λk=>by
 rw[e109,bn,loopA (L:=λn i=>Tq E n l i k) (p:=λi=>Io (l.get i)) (m:=l.len) (fin:=k (inB (l.len:Int) 1 24)) (stop:=k false) omY (λn i hi=>?_) (λn=>?_) _ (by have:=N;omega)]
 ·unfold xq;cases fG (λi=>Io (l.get i)) l.len<;>rfl
 ·rw [zjq,dZ omY,ed,bG omY,zx0,bn,gU];cases Io (l.get i)<;>rfl
 ·rw[zjq,eU omY,dS,BG,bn]
/-! The first one of a list that is as wanted. -/
def fst(p:Nat→Bool):Nat→Nat→Int
  | 0,_=>-1
  | m+1,i=>cond (p i) (i:Int) (fst p m (i+1))
theorem zcH(p:Nat->Bool):∀m i,(0<=fst p m i↔∃j,i<=j/\j<i+m/\p j=true):=by
 intro m
 induction m with
 | zero=>intro i;exact⟨λh=>by simp[fst]at h,λ⟨j,h1,h2,_⟩=>by omega⟩
 | succ m ih =>
  intro i;simp only[fst];cases h:p i with
  | true=>exact⟨λ_=>⟨i,kC _,omY,h⟩,λ_=>by simp⟩
  | false =>
   rw[dS,ih];exact⟨λ⟨j,h1,h2,h3⟩=>⟨j,omY,omY,h3⟩,λ⟨j,h1,h2,h3⟩=>⟨j,by
    have:j≠i:=λe=>by rw[e,h]at h3;cases h3
    omega,omY,h3⟩⟩
theorem xu(p:Nat->Bool)(m:Nat):decide (fst p m 0>=0) = !fG (λi=>!p i) m:=by
 rw[Ut];simp only[pJ,ge_iff_le,zcH,NR,<- qjt,dI];constructor
 ·rintro⟨j,_,h2,h3⟩ h;have:=h j omY;rw[h3]at this;exact absurd rfl this
 ·intro h;apply qdG;intro hc;exact h λi hi hp=>hc ⟨i,Cf _,omY,hp⟩
theorem Ip{A:Type}{L:Nat→Int→Option A}{p:Nat→Bool}{m:Nat}{k:Int→Option A}(hm:m<4611686018427387904)
    (hL:∀n i,i<m->L (n+1) (i:Int)=cond (p i) (k (i:Int)) (L n (aO ((i:Int)+1)))) (hE:∀n,L (n+1) (m:Int)=k (-1)):∀n,m<n->L n 0=k (fst p m 0):=by
  have key:∀(d i n:Nat),i+d=m->d<n->L n (i:Int)=k (fst p d i):=by
    intro d
    induction d with
    | zero =>
      intro i n hi hn;obtain⟨n,rfl⟩:∃n',n=n'+1:=⟨n-1,omY⟩;have e:i=m:=by omega
      subst e;exact hE n
    | succ d ih =>
      intro i n hi hn;obtain⟨n,rfl⟩:∃n',n=n'+1:=⟨n-1,omY⟩;rw[hL n i omY,bP omY,ih (i+1) n omY omY];simp only[fst];cases p i<;>rfl
  intro n hn;exact key m 0 n omY hn
def Qz(x:straight)(g:ay):Bool:=inB (aO (x.start+aO (x.bI*g.Z))) (aO (g.Low*x.den)) (aO (g.High*x.den))
abbrev zyS(C:straight×ay->ae Bool):Prop:=∀x g,C (x,g)=.ok (Qz x g)
theorem zUP{E:zrj}(BG:BX E.c157):zyS (zrk E):=λx g=>ae.ext λk=>by rw[e231,BG,bn,bn];rfl
abbrev zyT(C:ay×Pt straight->ae Bool):Prop:=∀g (x:Pt straight),C (g,x)=.ok (!Qz x.v g)
theorem zUQ{E:zrh}(zyK:zyS E.zsE):zyT (zri E):=λg x=>ae.ext λk=>by rw[e230,zyK,bn,bn]
def Xr(x:straight)(g:ay):Bool:=aO (x.start+aO (x.bI*g.Z))==aO (g.Low*x.den)
abbrev zyU(C:ay×Pt straight->ae Bool):Prop:=∀g (x:Pt straight),C (g,x)=.ok (Xr x.v g)
theorem zUR{E:zrD}:zyU (zrE E):=λg x=>ae.ext λk=>by rw[e257,bn];rfl
abbrev zyV(C:ay×Pt list->ae Bool):Prop:=∀g (x:Pt list),0<x.v.bQ.len->C (g,x)=.ok (g.Z != (x.v.bQ.get 0).Z)
theorem zUS{E:zqW}:zyV (zqX E):=λg x h=>ae.ext λk=>by rw[e207,bn,bG omY]
abbrev zeT:=dY 207 Unit (Pt list) ⊕ dY 230 Unit (Pt straight) ⊕ dY 257 Unit (Pt straight)
def zkr:zeT→ay→Bool
  | .inl c,g=>g.Z != (c.v.v.bQ.get 0).Z
  | .inr (.inl c),g=>!Qz c.v.v g
  | .inr (.inr c),g=>Xr c.v.v g
def okG:zeT→Prop
  | .inl c=>0<c.v.v.bQ.len
  | _=>True
abbrev QIx{γ:Type}(i:γ->zeT)(C:Sl ay×γ->ae Int):Prop:=∀(l:Sl ay)(c:γ),l.len<=1000->okG (i c)->C (l,c)=.ok (fst (λj=>zkr (i c) (l.get j)) l.len 0)
abbrev OH{γ:Type}(i:γ->zeT)(C:Sl ay×γ->ae Bool):Prop:=∀(l:Sl ay)(c:γ),l.len<=1000->okG (i c)->C (l,c)=.ok (!fG (λj=>!zkr (i c) (l.get j)) l.len)
abbrev zks(C:Sl ay×zeT->ae Int):Prop:=QIx id C
abbrev Xt(C:Sl ay×zeT->ae Bool):Prop:=OH id C
theorem zkt{E:vU}(N:Big E.N)(zyL:zyV E.zsz):QIx .inl (Ej E):=λl c hl ho=>ae.ext λk=>by
 rw[zkh,bn];refine Ip (L:=λn i=>xk E n l c i k) (p:=λj=>zkr (.inl c) (l.get j)) (m:=l.len) (k:=k) omY (λn i hi=>?_) (λn=>?_) _ (by have:=N;omega)
 ·rw[Nk,dZ omY,ed,bG omY,zyL _ _ ho,bn,gU];rfl
 ·rw[Nk,eU omY];rfl
theorem zku{E:vV}(N:Big E.N)(zyM:zyT E.zsD):QIx (λc=>.inr (.inl c)) (Em E):=λl c hl ho=>ae.ext λk=>by
 rw[zkj,bn];refine Ip (L:=λn i=>xm E n l c i k) (p:=λj=>zkr (.inr (.inl c)) (l.get j)) (m:=l.len) (k:=k) omY (λn i hi=>?_) (λn=>?_) _ (by have:=N;omega)
 ·rw[Nl,dZ omY,ed,bG omY,zyM,bn,gU];rfl
 ·rw[Nl,eU omY];rfl
theorem zkv{E:vW}(N:Big E.N)(zyN:zyU E.zsG):QIx (λc=>.inr (.inr c)) (En E):=λl c hl ho=>ae.ext λk=>by
 rw[zkl,bn];refine Ip (L:=λn i=>xn E n l c i k) (p:=λj=>zkr (.inr (.inr c)) (l.get j)) (m:=l.len) (k:=k) omY (λn i hi=>?_) (λn=>?_) _ (by have:=N;omega)
 ·rw[Np,dZ omY,ed,bG omY,zyN,bn,gU];rfl
 ·rw[Np,eU omY];rfl
theorem zUT{f:Sl ay×dY 207 Unit (Pt list)->ae Int}{g:Sl ay×dY 230 Unit (Pt straight)->ae Int}{h:Sl ay×dY 257 Unit (Pt straight)->ae Int}(a:QIx .inl f)(b:QIx (λc=>.inr (.inl c)) g)(d:QIx (λc=>.inr (.inr c)) h):zks (ae.two f (ae.two g h)):=λl c hl ho=>by
 rcases c with c|c|c
 ·exact a l c hl ho
 ·exact b l c hl ho
 ·exact d l c hl ho
theorem zkw{E:Eb}(MZ:zks E.EF):OH .inl (Ec E):=λl c hl ho=>ae.ext λk=>by rw[zj3,MZ l (.inl c) hl ho,bn,bn,xu];rfl
theorem zkx{E:Ed}(MZ:zks E.EF):OH (λc=>.inr (.inl c)) (Ee E):=λl c hl ho=>ae.ext λk=>by rw[zj5,MZ l (.inr (.inl c)) hl ho,bn,bn,xu];rfl
theorem zky{E:Ef}(MZ:zks E.EF):OH (λc=>.inr (.inr c)) (Eg E):=λl c hl ho=>ae.ext λk=>by rw[zj7,MZ l (.inr (.inr c)) hl ho,bn,bn,xu];rfl
theorem zUU{f:Sl ay×dY 207 Unit (Pt list)->ae Bool}{g:Sl ay×dY 230 Unit (Pt straight)->ae Bool}{h:Sl ay×dY 257 Unit (Pt straight)->ae Bool}(a:OH .inl f)(b:OH (λc=>.inr (.inl c)) g)(d:OH (λc=>.inr (.inr c)) h):Xt (ae.two f (ae.two g h)):=λl c hl ho=>by
 rcases c with c|c|c
 ·exact a l c hl ho
 ·exact b l c hl ho
 ·exact d l c hl ho
def fQ(l:Sl ay):Bool:=fG (λj=>(l.get j).Z==(l.get 0).Z) l.len
theorem zrF{a b:Int}:(!(a != b))=(a==b):=by cases h:a==b<;>simp[bne,h]
abbrev zaQ(C:list->ae Bool):Prop:=∀x:list,0<x.bQ.len->x.bQ.len<=1000->C x=.ok (fQ x.bQ)
theorem zUV{E:zqb}(MS:Xt E.c206):zaQ (zqc E):=λx h0 h1=>ae.ext λk=>by
 rw[e167,MS x.bQ (.inl ⟨(),⟨x⟩⟩) h1 h0,bn,bn,qzi];congr 1;exact Gt λi _=>zrF
def allB(l:Sl ay)(x:straight):Bool:=fG (λj=>Qz x (l.get j)) l.len
abbrev zyW(C:set×straight->ae Bool):Prop:=∀(s:set) x,s.list.bQ.len<=1000->C (s,x)=.ok (allB s.list.bQ x)
theorem zUW{E:zqO}(MS:Xt E.c206):zyW (zqP E):=λs x h1=>ae.ext λk=>by
 rw[e199,MS s.list.bQ (.inr (.inl ⟨(),⟨x⟩⟩)) h1 trivial,bn,bn,qzi];congr 1;exact Gt λi _=>qzi _
abbrev zyX(C:set×straight->ae Bool):Prop:=∀(s:set) x,s.list.bQ.len<=1000->C (s,x)=.ok (!fG (λj=>!Xr x (s.list.bQ.get j)) s.list.bQ.len)
theorem zUX{E:zrB}(MS:Xt E.c206):zyX (zrC E):=λs x h1=>ae.ext λk=>by
 rw[zUE,MS s.list.bQ (.inr (.inr ⟨(),⟨x⟩⟩)) h1 trivial,bn,bn];rfl
def fP(l:Sl ay):Nat→bZ
  | 0=>⟨(l.get 0).Low,(l.get 0).High⟩
  | n+1=>⟨if(l.get n).Low>(fP l n).Low then(l.get n).Low else(fP l n).Low,if(l.get n).High<(fP l n).High then(l.get n).High else(fP l n).High⟩
abbrev zrG(C:list->ae bZ):Prop:=∀x:list,0<x.bQ.len->x.bQ.len<=1000->C x=.ok (fP x.bQ x.bQ.len)
theorem zUY{E:zeN}(N:Big E.N):zrG (zqQ E):=λx h0 h1=>ae.ext λk=>by
 rw[zT6,bG omY,bG omY,bn];refine kV (X:=λn i=>TG E n x (i:Int) (fP x.bQ i) k) (m:=x.bQ.len) (λn i hi=>?_) (λn=>?_) _ (by have:=N;omega)
 ·rw[zj1,dZ omY,ed,bG omY,bP omY,gU];rfl
 ·rw[zj1,eU omY];rfl
def yw(s:straight):Prop:=(-2000000<=s.bI/\s.bI<=2000000)/\(-200000000000<=s.start/\s.start<=200000000000)/\1<=s.den/\s.den<=100000
theorem ztg{z p y q:Int}(hz:0<=z/\z<=100000)(hy:0<=y/\y<=100000)(hp : -1000000<=p/\p<=1000000)(hq : -1000000<=q/\q<=1000000)(hn:z≠y):yw (EP z p y q):=by
 have b1:=qy hp.1 hp.2 hy.1 hy.2;have b2:=qy hq.1 hq.2 hz.1 hz.2;unfold EP yw;by_cases h:z>y
 ·rw[eX h];exact⟨⟨by show _<=p-q;omega,by show p-q<=_;omega⟩,⟨by show _<=q*z-p*y;omega,by show q*z-p*y<=_;omega⟩,by show _<=z-y;omega,by show z-y<=_;omega⟩
 ·rw[fB h];exact⟨⟨by show _<=q-p;omega,by show q-p<=_;omega⟩,⟨by show _<=p*y-q*z;omega,by show p*y-q*z<=_;omega⟩,by show _<=y-z;omega,by show y-z<=_;omega⟩
theorem zkz{a b:ay}{s:straight}(h:s∈BK a b):a.Z≠b.Z/\∃p q,(p=a.Low\/p=a.High)/\(q=b.Low\/q=b.High)/\s=EP a.Z p b.Z q:=by
 unfold BK at h;by_cases hz:a.Z=b.Z
 ·rw[eX hz]at h;cases h
 ·rw [fB hz] at h;refine⟨hz,?_⟩;simp only[kR,qjN,jq2] at h;rcases h with h | h | h | h
  ·exact⟨_,_,.inl rfl,.inl rfl,h⟩
  ·exact⟨_,_,.inl rfl,.inr rfl,h⟩
  ·exact⟨_,_,.inr rfl,.inl rfl,h⟩
  ·exact⟨_,_,.inr rfl,.inr rfl,h⟩
theorem Xu{g:Sl ay}{i:Nat}{s:straight}:∀{m k:Nat},s∈Eo g i m k→∃j,k≤j∧j<k+m∧s∈BK (g.get i) (g.get j)
  | 0,_,h=>by cases h
  | m+1,k,h=>by
    rcases dU.1 h with h|h
    · exact⟨k,kC _,omY,h⟩
    · obtain⟨j,a,b,c⟩:=Xu h;exact⟨j,omY,omY,c⟩
theorem Xv{g:Sl ay}{s:straight}:∀{m i:Nat},s∈OG g m i→∃a b,i≤a∧a<i+m∧a<b∧b<g.len∧s∈BK (g.get a) (g.get b)
  | 0,_,h=>by cases h
  | m+1,i,h=>by
    rcases dU.1 h with h|h
    · obtain⟨j,a,b,c⟩:=Xu h;exact⟨i,j,kC _,omY,omY,omY,c⟩
    · obtain⟨a,b,h1,h2,h3,h4,h5⟩:=Xv h;exact⟨a,b,omY,omY,h3,h4,h5⟩
theorem zcI{g:Sl ay}{s:straight}(h:s∈cst g):∃a b,a<b/\b<g.len/\(g.get a).Z≠(g.get b).Z/\∃p q,(p=(g.get a).Low\/p=(g.get a).High)/\(q=(g.get b).Low\/q=(g.get b).High)/\s=EP (g.get a).Z p (g.get b).Z q:=by
 obtain⟨a,b,_,_,h3,h4,h5⟩:=Xv h;obtain⟨hz,r⟩:=zkz h5;exact⟨a,b,h3,h4,hz,r⟩
theorem rE{g:Sl ay}(G:dw g){s:straight}(h:s∈cst g):yw s:=by
 obtain⟨a,b,h1,h2,hz,p,q,hp,hq,rfl⟩:=zcI h;have ga:=G.1 a omY;have gb:=G.1 b h2;refine ztg ga.1 gb.1 ?_ ?_ hz
 ·rcases hp with rfl|rfl;exact qF ga;exact rZ ga
 ·rcases hq with rfl|rfl;exact qF gb;exact rZ gb
def uf(l:Line):List Int:=[l.dM.Num,l.dM.bT,l.Start.Num,l.Start.bT]
theorem zeU{a b:Line}(h:uf a=uf b):a=b:=by
 unfold uf at h;simp only[GZ,jqM]at h;obtain⟨h1,h2,h3,h4⟩:=h;obtain⟨⟨a1,a2⟩,a3,a4⟩:=a;obtain⟨⟨b1,b2⟩,b3,b4⟩:=b;simp only at h1 h2 h3 h4;rw[h1,h2,h3,h4]
theorem Xw(a b:ay):(BK a b).length<=4:=by unfold BK;split<;>simp
theorem Xx(g:Sl ay)(i m k:Nat):(Eo g i m k).length<=4*m:=by
 induction m generalizing k with
 | zero=>exact kC _
 | succ m ih=>show(BK _ _++Eo g i m (k+1)).length<=_;rw[Jz];have:=ih (k+1);have:=Xw (g.get i) (g.get k);omega
theorem zkA(g:Sl ay):∀m i,(OG g m i).length<=4*g.len*m:=by
 intro m
 induction m with
 | zero=>intro i;exact kC _
 | succ m ih =>
  intro i;show(Eo g i (g.len-(i+1)) (i+1)++OG g m (i+1)).length<=_;rw[Jz,Nat.mul_succ];have:=ih (i+1);have:=Xx g i (g.len-(i+1)) (i+1);omega
theorem Og{g:Sl ay}(G:dw g):(cst g).length<=2304:=by
 have h1:=zkA g g.len 0;have hl:=G.2.2;have:4*g.len*g.len<=4*24*24:=qjH omY hl;exact EW h1 this
def oO{α:Type}[bH α](v:Sl α)(x:α):Sl α:=⟨v.len+1,jL v.len v.get (λ_=>x)⟩
theorem uM{α:Type}[bH α](l:List α):∀v:Sl α,(l.foldl oO v).len=v.len+l.length:=by
 induction l with
 | nil=>intro v;rfl
 | cons x l ih=>intro v;rw[YC,ih];show v.len+1+l.length=v.len+(l.length+1);omega
theorem TM{α:Type}[bH α][sQ α](l:List α):∀(v:Sl α)(i:Nat),i<v.len->(l.foldl oO v).get i=v.get i:=by
 induction l with
 | nil=>intro v i _;rfl
 | cons x l ih =>
  intro v i hi;rw[YC,ih _ _ (show i<v.len+1 by omega)];show jL v.len v.get (λ_=>x) i=_;rw[je,fB omY]
theorem AV{α:Type}[bH α][sQ α](l:List α):∀(v:Sl α)(i:Nat)(x:α),l[i]? = some x->(l.foldl oO v).get (v.len+i)=x:=by
 induction l with
 | nil=>intro v i x h;simp at h
 | cons y l ih =>
  intro v i x h;rw[YC];cases i with
  | zero =>
   simp only[qdM,bW]at h;subst h;rw[TM l _ _ (show v.len+0<v.len+1 by omega)];show jL v.len v.get (λ_=>y) (v.len+0)=_;rw[je,eX omY]
  | succ i =>
   have:=ih (oO v y) i x (by simpa using h);rw[<- this];congr 1;show v.len+(i+1)=v.len+1+i;omega
abbrev zrH(C:straight->ae Line):Prop:=∀x,yw x->C x=.ok (fC x)
theorem zUZ{E:zqM}(qP:IV E.kJ):zrH (zqN E):=λx h=>ae.ext λk=>by
 obtain⟨h1,h2,h3⟩:=h;rw[zT3,qP _ _ omY omY omY omY,qP _ _ omY omY omY omY,bn,bn,bn];rfl
def GH(g:Sl ay):List straight→List straight→(List Int→Option (List Int))→List straight
  | [],acc,_=>acc
  | y::r,acc,F=>cond (!(EN (F (uf (fC y))) 0 != 0)) (cond (allB g y) (GH g r (acc++[y]) (IG (uf (fC y)) [1] F)) (GH g r acc F)) (GH g r acc F)
def jB(g:Sl ay):List straight:=cond (fQ g) [] (GH g (cst g) [] λ_=>none)
abbrev Iq{α:Type}[Inhabited α]:Sl α:=⟨0,λ_=>default⟩
abbrev zmR(C:Sl ay->ae set):Prop:=∀g,dw g->C g=.ok ⟨⟨g⟩,(jB g).foldl oO Iq⟩
theorem zU0{E:zeG}(wX:zaQ E.c167)(i228:zyQ E.i228)(zaE:zrH E.c198)(zyn:zyW E.zsw):zmR (zp1 E):=λg G=>ae.ext λk=>by
 have hl:=G.2;rw[zTq,wX ⟨g⟩ (by show 0<g.len;omega) (by show g.len<=1000;omega),bn,bn];unfold jB;cases fQ g with
 | true=>rfl
 | false =>
  rw[dS,dS,i228 ⟨⟨g⟩⟩ G,bn];have key:∀(r acc:List straight)(n:Nat)(F:List Int->Option (List Int)),(∀s∈r,yw s)->acc.length+r.length<=10000->pY E r g (acc.foldl oO Iq) n F k=k ⟨⟨g⟩,(GH g r acc F).foldl oO Iq⟩:=by
   intro r
   induction r with
   | nil=>intro acc n F _ _;exact zp2 ..
   | cons y r ih =>
    intro acc n F hs hn;have qJ:∀s∈r,yw s:=λs h=>hs s (jU _ h);rw[Cc]at hn;rw[zym,zaE y (hs y lq),bn,zyn ⟨⟨g⟩,_⟩ y (by show g.len<=1000;omega),bn];have e1:∀m F,pY E r g (acc.foldl oO Iq) m F k=_:=λm F=>ih acc m F qJ omY;have e2:∀m F,pY E r g ((acc++[y]).foldl oO Iq) m F k=_:=λm F=>ih (acc++[y]) m F qJ (by rw[Jz];simp only[Cc,UJ];omega);have hlen:(acc.foldl oO Iq).len=acc.length:=by rw[uM];simp
    have EL:room ((acc.foldl oO Iq).len+1) 24=true:=dZ (by rw[hlen];omega);have hf:(⟨(acc.foldl oO Iq).len+1,jL (acc.foldl oO Iq).len (acc.foldl oO Iq).get (λ_=>y)⟩:Sl straight)=(acc++[y]).foldl oO Iq:=by rw[jqB];rfl
    rw[EL,hf];show cond (!(EN (F (uf (fC y))) 0 != 0)) (cond (allB g y) (pY E r g ((acc++[y]).foldl oO Iq) _ (IG (uf (fC y)) [1] F) k) (pY E r g (acc.foldl oO Iq) n F k)) (pY E r g (acc.foldl oO Iq) n F k)=_;rw[e1,e2];simp only[GH];cases(EN (F (uf (fC y))) 0 != 0)<;>cases allB g y<;>rfl
  exact key (cst g) [] 0 _ (λs h=>rE G h) (by have:=Og G;simp only[UJ];omega)
end Go.Proofs
