/- Part 4 of what the proof rests on: a machine that runs functions of the program on pure values, proved sound; the functions that the law reaches, what they compute, and plain laws of that. -/
import Derived.Test.YtjkijdhdbhooiaaGreatQ3
set_option linter.all false
noncomputable section
namespace Go.Proofs
open Go Go.Pm
set_option maxRecDepth 100000
theorem GY:Tryz.prog.cellsOf 3=1:=by kernel_rfl
theorem zFE:Tryz.prog.cellsOf 22=1:=by kernel_rfl
theorem zFF:Tryz.prog.cellsOf 24=1:=by kernel_rfl
theorem zFG:Tryz.prog.cellsOf 26=2:=by kernel_rfl
theorem zFH:Tryz.prog.cellsOf 29=4:=by kernel_rfl
theorem zFI:Tryz.prog.cellsOf 38=1:=by kernel_rfl
theorem zFJ:Tryz.prog.cellsOf 39=1:=by kernel_rfl
theorem zx6:Tryz.prog.cellsOf 92=6:=by kernel_rfl
theorem XR:Tryz.prog.cellsOf 105=2:=by kernel_rfl
theorem zx7:Tryz.prog.cellsOf 121=1:=by kernel_rfl
theorem zx8:Tryz.prog.cellsOf 122=1:=by kernel_rfl
theorem zmZ:Tryz.prog.cellsOf 124=15:=by kernel_rfl
theorem zm0:Tryz.prog.cellsOf 264=3:=by kernel_rfl
section
variable {H:Type}{en:TypeId×Value->H}{w:World}{sp:Nat->Bool}{held:Bool}
theorem zpr:Rd H en Tryz.prog w sp held 121 Int:=UZ Tryz.underlying121
theorem zx9:Rd H en Tryz.prog w sp held 38 Int:=UZ Tryz.underlying38
theorem mF:Rd H en Tryz.prog w sp held 3 Int:=UZ Tryz.underlying3
instance:oq bV:=⟨λ x=>oq.wf x.Low/\oq.wf x.High⟩
theorem U2:Rd H en Tryz.prog w sp held 105 bV:=by
 intro fuel cs x h;obtain⟨hl,hf⟩:=lC Tryz.underlying105 h;rw[XR] at hl;obtain⟨n0,y0,g0⟩:=hf 0 _ rfl;have g0:DataW.trod en Tryz.prog w 0 sp held n0 3 ((cs.drop 0).take (Tryz.prog.cellsOf 3))=some y0:=g0;rw[GY] at g0;obtain⟨a0,r0,w0⟩:=mF _ _ _ g0;obtain⟨n1,y1,g1⟩:=hf 1 _ rfl;have g1:DataW.trod en Tryz.prog w 0 sp held n1 3 ((cs.drop 1).take (Tryz.prog.cellsOf 3))=some y1:=g1;rw[GY] at g1;obtain⟨a1,r1,w1⟩:=mF _ _ _ g1;rw[List.take_of_length_le (l:=cs.drop 1) (by rw[List.length_drop];omega)] at r1;have R:=(r0.append r1);rw[<- (show cs.drop 0=(cs.drop 0).take 1 ++ cs.drop 1 from dm cs 0 1)] at R;exact⟨⟨a0,a1⟩,R,⟨w0,w1⟩⟩
instance:oq aS:=⟨λ x=>oq.wf x.Time/\oq.wf x.dI⟩
theorem zps:Rd H en Tryz.prog w sp held 264 aS:=by
 intro fuel cs x h;obtain⟨hl,hf⟩:=lC Tryz.underlying264 h;rw[zm0] at hl;obtain⟨n0,y0,g0⟩:=hf 0 _ rfl;have g0:DataW.trod en Tryz.prog w 0 sp held n0 3 ((cs.drop 0).take (Tryz.prog.cellsOf 3))=some y0:=g0;rw[GY] at g0;obtain⟨a0,r0,w0⟩:=mF _ _ _ g0;obtain⟨n1,y1,g1⟩:=hf 1 _ rfl;have g1:DataW.trod en Tryz.prog w 0 sp held n1 105 ((cs.drop 1).take (Tryz.prog.cellsOf 105))=some y1:=g1;rw[XR] at g1;obtain⟨a1,r1,w1⟩:=U2 _ _ _ g1;rw[List.take_of_length_le (l:=cs.drop 1) (by rw[List.length_drop];omega)] at r1;have R:=(r0.append r1);rw[<- (show cs.drop 0=(cs.drop 0).take 1 ++ cs.drop 1 from dm cs 0 1)] at R;exact⟨⟨a0,a1⟩,R,⟨w0,w1⟩⟩
theorem zpt:Rd H en Tryz.prog w sp held 122 (Sl aS):=zq Tryz.underlying122 zm0 rfl (by decide) zps
theorem zya:Rd H en Tryz.prog w sp held 39 (Sl Int):=zq Tryz.underlying39 GY rfl (by decide) mF
instance:oq ai:=⟨λ x=>oq.wf x.Kind/\oq.wf x.View/\oq.wf x.Z/\oq.wf x.First/\oq.wf x.aT/\oq.wf x.bM/\oq.wf x.dE/\oq.wf x.bn/\oq.wf x.Clock/\oq.wf x.dH/\oq.wf x.Least/\oq.wf x.aS/\oq.wf x.Dead⟩
theorem zpu:Rd H en Tryz.prog w sp held 124 ai:=by
 intro fuel cs x h;obtain⟨hl,hf⟩:=lC Tryz.underlying124 h;rw[zmZ] at hl;obtain⟨n0,y0,g0⟩:=hf 0 _ rfl;have g0:DataW.trod en Tryz.prog w 0 sp held n0 121 ((cs.drop 0).take (Tryz.prog.cellsOf 121))=some y0:=g0;rw[zx7] at g0;obtain⟨a0,r0,w0⟩:=zpr _ _ _ g0;obtain⟨n1,y1,g1⟩:=hf 1 _ rfl;have g1:DataW.trod en Tryz.prog w 0 sp held n1 38 ((cs.drop 1).take (Tryz.prog.cellsOf 38))=some y1:=g1;rw[zFI] at g1;obtain⟨a1,r1,w1⟩:=zx9 _ _ _ g1;obtain⟨n2,y2,g2⟩:=hf 2 _ rfl;have g2:DataW.trod en Tryz.prog w 0 sp held n2 3 ((cs.drop 2).take (Tryz.prog.cellsOf 3))=some y2:=g2;rw[GY] at g2;obtain⟨a2,r2,w2⟩:=mF _ _ _ g2;obtain⟨n3,y3,g3⟩:=hf 3 _ rfl;have g3:DataW.trod en Tryz.prog w 0 sp held n3 3 ((cs.drop 3).take (Tryz.prog.cellsOf 3))=some y3:=g3;rw[GY] at g3;obtain⟨a3,r3,w3⟩:=mF _ _ _ g3;obtain⟨n4,y4,g4⟩:=hf 4 _ rfl;have g4:DataW.trod en Tryz.prog w 0 sp held n4 3 ((cs.drop 4).take (Tryz.prog.cellsOf 3))=some y4:=g4;rw[GY] at g4;obtain⟨a4,r4,w4⟩:=mF _ _ _ g4;obtain⟨n5,y5,g5⟩:=hf 5 _ rfl;have g5:DataW.trod en Tryz.prog w 0 sp held n5 3 ((cs.drop 5).take (Tryz.prog.cellsOf 3))=some y5:=g5;rw[GY] at g5;obtain⟨a5,r5,w5⟩:=mF _ _ _ g5;obtain⟨n6,y6,g6⟩:=hf 6 _ rfl;have g6:DataW.trod en Tryz.prog w 0 sp held n6 3 ((cs.drop 6).take (Tryz.prog.cellsOf 3))=some y6:=g6;rw[GY] at g6;obtain⟨a6,r6,w6⟩:=mF _ _ _ g6;obtain⟨n7,y7,g7⟩:=hf 7 _ rfl;have g7:DataW.trod en Tryz.prog w 0 sp held n7 105 ((cs.drop 7).take (Tryz.prog.cellsOf 105))=some y7:=g7;rw[XR] at g7;obtain⟨a7,r7,w7⟩:=U2 _ _ _ g7;obtain⟨n8,y8,g8⟩:=hf 8 _ rfl;have g8:DataW.trod en Tryz.prog w 0 sp held n8 105 ((cs.drop 9).take (Tryz.prog.cellsOf 105))=some y8:=g8;rw[XR] at g8;obtain⟨a8,r8,w8⟩:=U2 _ _ _ g8;obtain⟨n9,y9,g9⟩:=hf 9 _ rfl;have g9:DataW.trod en Tryz.prog w 0 sp held n9 3 ((cs.drop 11).take (Tryz.prog.cellsOf 3))=some y9:=g9;rw[GY] at g9;obtain⟨a9,r9,w9⟩:=mF _ _ _ g9;obtain⟨n10,y10,g10⟩:=hf 10 _ rfl;have g10:DataW.trod en Tryz.prog w 0 sp held n10 3 ((cs.drop 12).take (Tryz.prog.cellsOf 3))=some y10:=g10;rw[GY] at g10;obtain⟨a10,r10,w10⟩:=mF _ _ _ g10;obtain⟨n11,y11,g11⟩:=hf 11 _ rfl;have g11:DataW.trod en Tryz.prog w 0 sp held n11 122 ((cs.drop 13).take (Tryz.prog.cellsOf 122))=some y11:=g11;rw[zx8] at g11;obtain⟨a11,r11,w11⟩:=zpt _ _ _ g11;obtain⟨n12,y12,g12⟩:=hf 12 _ rfl;have g12:DataW.trod en Tryz.prog w 0 sp held n12 39 ((cs.drop 14).take (Tryz.prog.cellsOf 39))=some y12:=g12;rw[zFJ] at g12;obtain⟨a12,r12,w12⟩:=zya _ _ _ g12;rw[List.take_of_length_le (l:=cs.drop 14) (by rw[List.length_drop];omega)] at r12;have R:=(r0.append (r1.append (r2.append (r3.append (r4.append (r5.append (r6.append (r7.append (r8.append (r9.append (r10.append (r11.append r12))))))))))));rw[<- (show cs.drop 13=(cs.drop 13).take 1 ++ cs.drop 14 from dm cs 13 1)] at R;rw[<- (show cs.drop 12=(cs.drop 12).take 1 ++ cs.drop 13 from dm cs 12 1)] at R;rw[<- (show cs.drop 11=(cs.drop 11).take 1 ++ cs.drop 12 from dm cs 11 1)] at R;rw[<- (show cs.drop 9=(cs.drop 9).take 2 ++ cs.drop 11 from dm cs 9 2)] at R;rw[<- (show cs.drop 7=(cs.drop 7).take 2 ++ cs.drop 9 from dm cs 7 2)] at R;rw[<- (show cs.drop 6=(cs.drop 6).take 1 ++ cs.drop 7 from dm cs 6 1)] at R;rw[<- (show cs.drop 5=(cs.drop 5).take 1 ++ cs.drop 6 from dm cs 5 1)] at R;rw[<- (show cs.drop 4=(cs.drop 4).take 1 ++ cs.drop 5 from dm cs 4 1)] at R;rw[<- (show cs.drop 3=(cs.drop 3).take 1 ++ cs.drop 4 from dm cs 3 1)] at R;rw[<- (show cs.drop 2=(cs.drop 2).take 1 ++ cs.drop 3 from dm cs 2 1)] at R;rw[<- (show cs.drop 1=(cs.drop 1).take 1 ++ cs.drop 2 from dm cs 1 1)] at R;rw[<- (show cs.drop 0=(cs.drop 0).take 1 ++ cs.drop 1 from dm cs 0 1)] at R;exact⟨⟨a0,a1,a2,a3,a4,a5,a6,a7,a8,a9,a10,a11,a12⟩,R,⟨w0,w1,w2,w3,w4,w5,w6,w7,w8,w9,w10,w11,w12⟩⟩
theorem zyb:Rd H en Tryz.prog w sp held 22 (Sl ai):=zq Tryz.underlying22 zmZ rfl (by decide) zpu
instance:oq ak:=⟨λ x=>oq.wf x.af⟩
theorem zyc:Rd H en Tryz.prog w sp held 24 ak:=by
 intro fuel cs x h;obtain⟨hl,hf⟩:=lC Tryz.underlying24 h;rw[zFF] at hl;obtain⟨n0,y0,g0⟩:=hf 0 _ rfl;have g0:DataW.trod en Tryz.prog w 0 sp held n0 22 ((cs.drop 0).take (Tryz.prog.cellsOf 22))=some y0:=g0;rw[zFE] at g0;obtain⟨a0,r0,w0⟩:=zyb _ _ _ g0;rw[List.take_of_length_le (l:=cs.drop 0) (by rw[List.length_drop];omega)] at r0;have R:=r0;exact⟨⟨a0⟩,R,w0⟩
instance:oq bF:=⟨λ x=>oq.wf x.oW/\oq.wf x.rU⟩
theorem zyd:Rd H en Tryz.prog w sp held 26 bF:=by
 intro fuel cs x h;obtain⟨hl,hf⟩:=lC Tryz.underlying26 h;rw[zFG] at hl;obtain⟨n0,y0,g0⟩:=hf 0 _ rfl;have g0:DataW.trod en Tryz.prog w 0 sp held n0 3 ((cs.drop 0).take (Tryz.prog.cellsOf 3))=some y0:=g0;rw[GY] at g0;obtain⟨a0,r0,w0⟩:=mF _ _ _ g0;obtain⟨n1,y1,g1⟩:=hf 1 _ rfl;have g1:DataW.trod en Tryz.prog w 0 sp held n1 3 ((cs.drop 1).take (Tryz.prog.cellsOf 3))=some y1:=g1;rw[GY] at g1;obtain⟨a1,r1,w1⟩:=mF _ _ _ g1;rw[List.take_of_length_le (l:=cs.drop 1) (by rw[List.length_drop];omega)] at r1;have R:=(r0.append r1);rw[<- (show cs.drop 0=(cs.drop 0).take 1 ++ cs.drop 1 from dm cs 0 1)] at R;exact⟨⟨a0,a1⟩,R,⟨w0,w1⟩⟩
instance:oq bz:=⟨λ x=>oq.wf x.ai/\oq.wf x.Channel/\oq.wf x.iT/\oq.wf x.aS/\oq.wf x.yx/\oq.wf x.Time⟩
theorem zye:Rd H en Tryz.prog w sp held 92 bz:=by
 intro fuel cs x h;obtain⟨hl,hf⟩:=lC Tryz.underlying92 h;rw[zx6] at hl;obtain⟨n0,y0,g0⟩:=hf 0 _ rfl;have g0:DataW.trod en Tryz.prog w 0 sp held n0 3 ((cs.drop 0).take (Tryz.prog.cellsOf 3))=some y0:=g0;rw[GY] at g0;obtain⟨a0,r0,w0⟩:=mF _ _ _ g0;obtain⟨n1,y1,g1⟩:=hf 1 _ rfl;have g1:DataW.trod en Tryz.prog w 0 sp held n1 3 ((cs.drop 1).take (Tryz.prog.cellsOf 3))=some y1:=g1;rw[GY] at g1;obtain⟨a1,r1,w1⟩:=mF _ _ _ g1;obtain⟨n2,y2,g2⟩:=hf 2 _ rfl;have g2:DataW.trod en Tryz.prog w 0 sp held n2 3 ((cs.drop 2).take (Tryz.prog.cellsOf 3))=some y2:=g2;rw[GY] at g2;obtain⟨a2,r2,w2⟩:=mF _ _ _ g2;obtain⟨n3,y3,g3⟩:=hf 3 _ rfl;have g3:DataW.trod en Tryz.prog w 0 sp held n3 3 ((cs.drop 3).take (Tryz.prog.cellsOf 3))=some y3:=g3;rw[GY] at g3;obtain⟨a3,r3,w3⟩:=mF _ _ _ g3;obtain⟨n4,y4,g4⟩:=hf 4 _ rfl;have g4:DataW.trod en Tryz.prog w 0 sp held n4 3 ((cs.drop 4).take (Tryz.prog.cellsOf 3))=some y4:=g4;rw[GY] at g4;obtain⟨a4,r4,w4⟩:=mF _ _ _ g4;obtain⟨n5,y5,g5⟩:=hf 5 _ rfl;have g5:DataW.trod en Tryz.prog w 0 sp held n5 3 ((cs.drop 5).take (Tryz.prog.cellsOf 3))=some y5:=g5;rw[GY] at g5;obtain⟨a5,r5,w5⟩:=mF _ _ _ g5;rw[List.take_of_length_le (l:=cs.drop 5) (by rw[List.length_drop];omega)] at r5;have R:=(r0.append (r1.append (r2.append (r3.append (r4.append r5)))));rw[<- (show cs.drop 4=(cs.drop 4).take 1 ++ cs.drop 5 from dm cs 4 1)] at R;rw[<- (show cs.drop 3=(cs.drop 3).take 1 ++ cs.drop 4 from dm cs 3 1)] at R;rw[<- (show cs.drop 2=(cs.drop 2).take 1 ++ cs.drop 3 from dm cs 2 1)] at R;rw[<- (show cs.drop 1=(cs.drop 1).take 1 ++ cs.drop 2 from dm cs 1 1)] at R;rw[<- (show cs.drop 0=(cs.drop 0).take 1 ++ cs.drop 1 from dm cs 0 1)] at R;exact⟨⟨a0,a1,a2,a3,a4,a5⟩,R,⟨w0,w1,w2,w3,w4,w5⟩⟩
theorem zyf:Rd H en Tryz.prog w sp held 27 (Sl bz):=zq Tryz.underlying27 zx6 rfl (by decide) zye
instance:oq iY:=⟨λ x=>oq.wf x.Z/\oq.wf x.X/\oq.wf x.W/\oq.wf x.Y⟩
theorem zyg:Rd H en Tryz.prog w sp held 29 iY:=by
 intro fuel cs x h;obtain⟨hl,hf⟩:=lC Tryz.underlying29 h;rw[zFH] at hl;obtain⟨n0,y0,g0⟩:=hf 0 _ rfl;have g0:DataW.trod en Tryz.prog w 0 sp held n0 3 ((cs.drop 0).take (Tryz.prog.cellsOf 3))=some y0:=g0;rw[GY] at g0;obtain⟨a0,r0,w0⟩:=mF _ _ _ g0;obtain⟨n1,y1,g1⟩:=hf 1 _ rfl;have g1:DataW.trod en Tryz.prog w 0 sp held n1 3 ((cs.drop 1).take (Tryz.prog.cellsOf 3))=some y1:=g1;rw[GY] at g1;obtain⟨a1,r1,w1⟩:=mF _ _ _ g1;obtain⟨n2,y2,g2⟩:=hf 2 _ rfl;have g2:DataW.trod en Tryz.prog w 0 sp held n2 3 ((cs.drop 2).take (Tryz.prog.cellsOf 3))=some y2:=g2;rw[GY] at g2;obtain⟨a2,r2,w2⟩:=mF _ _ _ g2;obtain⟨n3,y3,g3⟩:=hf 3 _ rfl;have g3:DataW.trod en Tryz.prog w 0 sp held n3 3 ((cs.drop 3).take (Tryz.prog.cellsOf 3))=some y3:=g3;rw[GY] at g3;obtain⟨a3,r3,w3⟩:=mF _ _ _ g3;rw[List.take_of_length_le (l:=cs.drop 3) (by rw[List.length_drop];omega)] at r3;have R:=(r0.append (r1.append (r2.append r3)));rw[<- (show cs.drop 2=(cs.drop 2).take 1 ++ cs.drop 3 from dm cs 2 1)] at R;rw[<- (show cs.drop 1=(cs.drop 1).take 1 ++ cs.drop 2 from dm cs 1 1)] at R;rw[<- (show cs.drop 0=(cs.drop 0).take 1 ++ cs.drop 1 from dm cs 0 1)] at R;exact⟨⟨a0,a1,a2,a3⟩,R,⟨w0,w1,w2,w3⟩⟩
end
end Go.Proofs

namespace Go.Proofs
open Go Go.Pm
set_option maxRecDepth 100000
structure E23 where
  N:Nat
abbrev G23 (E:E23):bf:=dw Tabs.nil []
def A23:bW:=aU ax 23 [] {}
def F23 (E:E23):ak×(Sl bz)×Int->ae (Bool):=ae.ty (aF ax E.N (G23 E) A23 23)
section
variable (E:E23){A:Type}(k:Bool->Option A)
def GZ (E:E23) (n:Nat) (a0:ak) (v7:Int){A:Type}(k:Bool->Option A):Option A :=
  gV ax (G23 E) E.N A23 23 [1,1,0,1,0] [.n n] (gY k)
    ⟨[(3,.cl (.ptr 3 0)),(7,.int v7)],[(3,eB 24 a0)],[]⟩
theorem e23 (a0:ak) (a1:(Sl bz)) (a2:Int):(F23 E (a0,a1,a2)).T k =
  cond (decide ((a0.af.len:Int) > 20))
  (k false)
  (cond (decide ((a1.len:Int) > a2))
 (cond (decide ((a1.len:Int)<=24))
 (k false)
 (cond (decide ((a1.len:Int) > 40))
 (k false)
 (GZ E E.N a0 0 k)))
 (cond (decide ((a1.len:Int) > 40))
 (k false)
 (GZ E E.N a0 0 k))):=bJ.trans (by kernel_rfl)
theorem zm1 (n0:Nat) (a0:ak) (v7:Int):GZ E (n0+1) a0 v7 k =
  cond (decide (v7 < (a0.af.len:Int)))
  (aZ (decide (0<=v7/\v7 < (a0.af.len:Int))) (cond (decide (((a0.af.get v7.toNat).aS.len:Int) > 60))
 (k false)
 (aZ (decide (0<=v7/\v7 < (a0.af.len:Int))) (cond (decide (((a0.af.get v7.toNat).Dead.len:Int) > 110))
 (k false)
 (GZ E n0 a0 (aO (v7+1)) k)))))
  (k true):=by kernel_rfl
end
theorem o23 [aJ] (E:E23):Ok ax 23 (ae.un (F23 E)):=bg (aP ay.nil (au (by kernel_rfl)))
end Go.Proofs

namespace Go.Proofs
open Go Go.Pm
set_option maxRecDepth 100000
structure E26 where
  N:Nat
  c61:ak->ae (Bool)
  c62:bF->ae (Bool)
  c85:ak×(Sl bz)->ae (Bool)
abbrev G26 (E:E26):bf:=dw (((Tabs.nil.addF 61 (ae.un E.c61)).addF 62 (ae.un E.c62)).addF 85 (ae.un E.c85)) []
def A26:bW:=aU ax 26 [] {}
def F26 (E:E26):ak×bF×(Sl bz)->ae (Int):=ae.ty (aF ax E.N (G26 E) A26 26)
section
variable (E:E26){A:Type}(k:Int->Option A)
theorem e26 (a0:ak) (a1:bF) (a2:(Sl bz)):(F26 E (a0,a1,a2)).T k =
  cond (decide ((a2.len:Int) > 24))
  (k 3)
  ((E.c61 a0).T λ r1 =>
 cond (!r1)
 (k 2)
 ((E.c62 a1).T λ r2 =>
 cond (!r2)
 (k 2)
 ((E.c85 (a0,a2)).T λ r3 =>
 cond (!r3)
 (k 2)
 (k 0)))):=bJ.trans (by kernel_rfl)
end
theorem o26 [aJ] (E:E26) (h61:Ok ax 61 (ae.un E.c61)) (h62:Ok ax 62 (ae.un E.c62)) (h85:Ok ax 85 (ae.un E.c85)):Ok ax 26 (ae.un (F26 E)):=bg (aP (((ay.nil.addF h61).addF h62).addF h85) (au (by kernel_rfl)))
end Go.Proofs




namespace Go.Proofs
open Go Go.Pm
set_option maxRecDepth 100000
structure E60 where
  N:Nat
  zl5:ak->ae (Int)
  zg2:Int×Int×Int->ae (Bool)
abbrev G60 (E:E60):bf:=dw ((Tabs.nil.addF 122 (ae.un E.zl5)).addF 123 (ae.un E.zg2)) []
def A60:bW:=aU ax 60 [] {}
def F60 (E:E60):ak×bF->ae (Int):=ae.ty (aF ax E.N (G60 E) A60 60)
section
variable (E:E60){A:Type}(k:Int->Option A)
theorem e60 (a0:ak) (a1:bF):(F60 E (a0,a1)).T k =
  (E.zl5 a0).T λ r1 =>
  cond (r1 != 0)
  (k 2)
  ((E.zg2 (a1.oW,1,16)).T λ r2 =>
 cond (!r2)
 (k 2)
 ((E.zg2 (a1.rU,0,16)).T λ r3 =>
 cond (!r3)
 (k 2)
 (k 0))):=bJ.trans (by kernel_rfl)
end
theorem o60 [aJ] (E:E60) (h122:Ok ax 122 (ae.un E.zl5)) (zpw:Ok ax 123 (ae.un E.zg2)):Ok ax 60 (ae.un (F60 E)):=bg (aP ((ay.nil.addF h122).addF zpw) (au (by kernel_rfl)))
structure E61 where
  N:Nat
  oZ:Int×Int×Int->ae (Bool)
  c124:ai->ae (Bool)
abbrev G61 (E:E61):bf:=dw ((Tabs.nil.addF 73 (ae.un E.oZ)).addF 124 (ae.un E.c124)) []
def A61:bW:=aU ax 61 [] {}
def F61 (E:E61):ak->ae (Bool):=ae.ty (aF ax E.N (G61 E) A61 61)
section
variable (E:E61){A:Type}(k:Bool->Option A)
def G5 (E:E61) (n:Nat) (a0:ak) (v3:Int){A:Type}(k:Bool->Option A):Option A :=
  gV ax (G61 E) E.N A61 61 [1,1,0,1,0] [.n n] (gY k)
    ⟨[(1,.cl (.ptr 1 0)),(3,.int v3)],[(1,eB 24 a0)],[]⟩
theorem e61 (a0:ak):(F61 E (a0)).T k =
  (E.oZ ((a0.af.len:Int),1,16)).T λ r1 =>
  cond (!r1)
  (k false)
  (G5 E E.N a0 0 k):=bJ.trans (by kernel_rfl)
theorem zm2 (n0:Nat) (a0:ak) (v3:Int):G5 E (n0+1) a0 v3 k =
  cond (decide (v3 < (a0.af.len:Int)))
  (aZ (decide (0<=v3/\v3 < (a0.af.len:Int))) ((E.c124 (a0.af.get v3.toNat)).T λ r1 =>
 cond (!r1)
 (k false)
 (cond (decide (v3 > 0))
 (aZ (decide (0<=v3/\v3 < (a0.af.len:Int))) (aZ (decide (0<=(aO (v3 - 1))/\(aO (v3 - 1)) < (a0.af.len:Int))) (cond (decide ((a0.af.get v3.toNat).Z<=(a0.af.get (aO (v3 - 1)).toNat).Z))
 (k false)
 (G5 E n0 a0 (aO (v3+1)) k))))
 (G5 E n0 a0 (aO (v3+1)) k))))
  (k true):=by kernel_rfl
end
theorem o61 [aJ] (E:E61) (BC:Ok ax 73 (ae.un E.oZ)) (zpy:Ok ax 124 (ae.un E.c124)):Ok ax 61 (ae.un (F61 E)):=bg (aP ((ay.nil.addF BC).addF zpy) (au (by kernel_rfl)))
structure E62 where
  N:Nat
  c86:Int×Int×Int->ae (Bool)
abbrev G62 (E:E62):bf:=dw (Tabs.nil.addF 86 (ae.un E.c86)) []
def A62:bW:=aU ax 62 [] {}
def F62 (E:E62):bF->ae (Bool):=ae.ty (aF ax E.N (G62 E) A62 62)
section
variable (E:E62){A:Type}(k:Bool->Option A)
theorem e62 (a0:bF):(F62 E (a0)).T k =
  (E.c86 (a0.oW,1,16)).T λ r1 =>
  cond r1
  ((E.c86 (a0.rU,0,16)).T λ r2 =>
 k r2)
  (k false):=bJ.trans (by kernel_rfl)
end
theorem o62 [aJ] (E:E62) (h86:Ok ax 86 (ae.un E.c86)):Ok ax 62 (ae.un (F62 E)):=bg (aP (ay.nil.addF h86) (au (by kernel_rfl)))
end Go.Proofs


namespace Go.Proofs
open Go Go.Pm
set_option maxRecDepth 100000
structure E65 where
  N:Nat
  c75:ak×bz->ae ((Sl aB))
abbrev G65 (E:E65):bf:=dw (Tabs.nil.addF 75 (ae.un E.c75)) []
def A65:bW:=aU ax 65 [] { ks:=[(1,3,⟨[],[(7,35,101)],[],[],[],[],[]⟩)] }
def F65 (E:E65):ak×(Sl bz)×aj->ae ((Sl aB)):=ae.ty (aF ax E.N (G65 E) A65 65)
section
variable (E:E65){A:Type}(k:(Sl aB)->Option A)
def XT (E:E65) (n:Nat) (a0:ak) (a1:(Sl bz)) (a2:aj) (v8:Int) (w35:Sl aB){A:Type}(k:(Sl aB)->Option A):Option A :=
  gV ax (G65 E) E.N A65 65 [1,1,0,1,0] [.n n] (gY k)
    ⟨[(1,eP a1),(3,.cl (.ptr 3 0)),(5,.cl (.ptr 5 0)),(7,.cl (.vec 35)),(8,.int v8)],[(3,eB 24 a0),(5,eB 43 a2),(35,eV 101 3 24 w35)],[]⟩
theorem e65 (a0:ak) (a1:(Sl bz)) (a2:aj):(F65 E (a0,a1,a2)).T k =
  XT E E.N a0 a1 a2 0 (⟨0,(λ _=>(⟨0,0,0⟩:aB))⟩:(Sl aB)) k:=bJ.trans (by kernel_rfl)
theorem zm5 (n0:Nat) (a0:ak) (a1:(Sl bz)) (a2:aj) (v8:Int) (w35:Sl aB):XT E (n0+1) a0 a1 a2 v8 w35 k =
  cond (decide (v8 < (a2.Hits.len:Int)))
  (aZ (decide (0<=v8/\v8 < (a2.Hits.len:Int))) (aZ (decide (0<=a2.Hits.get v8.toNat/\a2.Hits.get v8.toNat < (a1.len:Int))) ((E.c75 (a0,(a1.get (a2.Hits.get v8.toNat).toNat))).T λ r1 =>
 aZ (decide (0≤v8∧v8 < (a2.bD.len:Int))) (aZ (decide (0≤a2.bD.get v8.toNat∧a2.bD.get v8.toNat < (r1.len:Int))) (aZ (room (w35.len+1) 24) (XT E n0 a0 a1 a2 (aO (v8+1)) (⟨(w35.len+1),(jf w35.len w35.get (fun _=>(r1.get (a2.bD.get v8.toNat).toNat)))⟩:(Sl aB)) k))))))
  (k w35):=by kernel_rfl
end
theorem o65 [aJ] (E:E65) (h75:Ok ax 75 (ae.un E.c75)):Ok ax 65 (ae.un (F65 E)):=bg (aP (ay.nil.addF h75) (au (by kernel_rfl)))
structure E73 where
  N:Nat
abbrev G73 (E:E73):bf:=dw Tabs.nil []
def A73:bW:=aU ax 73 [] {}
def F73 (E:E73):Int×Int×Int->ae (Bool):=ae.ty (aF ax E.N (G73 E) A73 73)
section
variable (E:E73){A:Type}(k:Bool->Option A)
theorem e73 (a0:Int) (a1:Int) (a2:Int):(F73 E (a0,a1,a2)).T k =
  cond (decide (a0 >= a1))
  (k (decide (a0<=a2)))
  (k false):=bJ.trans (by kernel_rfl)
end
theorem o73 [aJ] (E:E73):Ok ax 73 (ae.un (F73 E)):=bg (aP ay.nil (au (by kernel_rfl)))
structure E75 where
  N:Nat
  zl8:ai×Int->ae (Int×Int)
abbrev G75 (E:E75):bf:=dw (Tabs.nil.addF 135 (ae.un E.zl8)) []
def A75:bW:=aU ax 75 [] {}
def F75 (E:E75):ak×bz->ae ((Sl aB)):=ae.ty (aF ax E.N (G75 E) A75 75)
section
variable (E:E75){A:Type}(k:(Sl aB)->Option A)
theorem e75 (a0:ak) (a1:bz):(F75 E (a0,a1)).T k =
  aZ (decide (0<=a1.ai/\a1.ai < (a0.af.len:Int))) (cond ((a0.af.get a1.ai.toNat).Kind != 2)
 (cond (decide ((aO ((aO ((a0.af.get a1.ai.toNat).First+(aO ((aO ((aO (a1.Channel+a1.iT)) - 1)) * (a0.af.get a1.ai.toNat).aT)))) - (a0.af.get a1.ai.toNat).dE)) > (aO ((aO ((a0.af.get a1.ai.toNat).First+(aO ((aO (a1.Channel+1)) * (a0.af.get a1.ai.toNat).aT))))+(a0.af.get a1.ai.toNat).dE))))
 (k (⟨0,λ _=>default⟩:(Sl aB)))
 (k (⟨1,(λ _=>(⟨(a0.af.get a1.ai.toNat).Z,(aO ((aO ((aO ((a0.af.get a1.ai.toNat).First+(aO ((aO ((aO (a1.Channel+a1.iT)) - 1)) * (a0.af.get a1.ai.toNat).aT)))) - (a0.af.get a1.ai.toNat).dE))+(a0.af.get a1.ai.toNat).bn.Low)),(aO ((aO ((aO ((a0.af.get a1.ai.toNat).First+(aO ((aO (a1.Channel+1)) * (a0.af.get a1.ai.toNat).aT))))+(a0.af.get a1.ai.toNat).dE))+(a0.af.get a1.ai.toNat).bn.High))⟩:aB))⟩:(Sl aB))))
 ((E.zl8 ((a0.af.get a1.ai.toNat),a1.aS)).T λ r1 =>
 cond (decide ((aO ((aO ((aO ((a0.af.get a1.ai.toNat).First+(aO (a1.Channel * (a0.af.get a1.ai.toNat).aT)))) - r1.1))+(a0.af.get a1.ai.toNat).bn.High)) >= (aO ((aO ((aO ((a0.af.get a1.ai.toNat).First+(aO (a1.Channel * (a0.af.get a1.ai.toNat).aT))))+r1.1))+(a0.af.get a1.ai.toNat).bn.Low))))
 (k (⟨1,(λ _=>(⟨(a0.af.get a1.ai.toNat).Z,(aO ((aO ((aO ((a0.af.get a1.ai.toNat).First+(aO (a1.Channel * (a0.af.get a1.ai.toNat).aT)))) - r1.2))+(a0.af.get a1.ai.toNat).bn.Low)),(aO ((aO ((aO ((a0.af.get a1.ai.toNat).First+(aO (a1.Channel * (a0.af.get a1.ai.toNat).aT))))+r1.2))+(a0.af.get a1.ai.toNat).bn.High))⟩:aB))⟩:(Sl aB)))
 (k (⟨2,(QR [(⟨(a0.af.get a1.ai.toNat).Z,(aO ((aO ((aO ((a0.af.get a1.ai.toNat).First+(aO (a1.Channel * (a0.af.get a1.ai.toNat).aT)))) - r1.2))+(a0.af.get a1.ai.toNat).bn.Low)),(aO ((aO ((aO ((a0.af.get a1.ai.toNat).First+(aO (a1.Channel * (a0.af.get a1.ai.toNat).aT)))) - r1.1))+(a0.af.get a1.ai.toNat).bn.High))⟩:aB),(⟨(a0.af.get a1.ai.toNat).Z,(aO ((aO ((aO ((a0.af.get a1.ai.toNat).First+(aO (a1.Channel * (a0.af.get a1.ai.toNat).aT))))+r1.1))+(a0.af.get a1.ai.toNat).bn.Low)),(aO ((aO ((aO ((a0.af.get a1.ai.toNat).First+(aO (a1.Channel * (a0.af.get a1.ai.toNat).aT))))+r1.2))+(a0.af.get a1.ai.toNat).bn.High))⟩:aB)])⟩:(Sl aB))))):=bJ.trans (by kernel_rfl)
end
theorem o75 [aJ] (E:E75) (zpA:Ok ax 135 (ae.un E.zl8)):Ok ax 75 (ae.un (F75 E)):=bg (aP (ay.nil.addF zpA) (au (by kernel_rfl)))
structure E85 where
  N:Nat
  c143:ak×bz->ae (Bool)
abbrev G85 (E:E85):bf:=dw (Tabs.nil.addF 143 (ae.un E.c143)) []
def A85:bW:=aU ax 85 [] {}
def F85 (E:E85):ak×(Sl bz)->ae (Bool):=ae.ty (aF ax E.N (G85 E) A85 85)
section
variable (E:E85){A:Type}(k:Bool->Option A)
def XU (E:E85) (n:Nat) (a0:ak) (a1:(Sl bz)) (v5:Int){A:Type}(k:Bool->Option A):Option A :=
  gV ax (G85 E) E.N A85 85 [1,0,1,0] [.n n] (gY k)
    ⟨[(1,eP a1),(2,.cl (.ptr 2 0)),(5,.int v5)],[(2,eB 24 a0)],[]⟩
theorem e85 (a0:ak) (a1:(Sl bz)):(F85 E (a0,a1)).T k =
  XU E E.N a0 a1 0 k:=bJ.trans (by kernel_rfl)
theorem zm6 (n0:Nat) (a0:ak) (a1:(Sl bz)) (v5:Int):XU E (n0+1) a0 a1 v5 k =
  cond (decide (v5 < (a1.len:Int)))
  (aZ (decide (0<=v5/\v5 < (a1.len:Int))) ((E.c143 (a0,(a1.get v5.toNat))).T λ r1 =>
 cond (!r1)
 (k false)
 (XU E n0 a0 a1 (aO (v5+1)) k)))
  (k true):=by kernel_rfl
end
theorem o85 [aJ] (E:E85) (zpC:Ok ax 143 (ae.un E.c143)):Ok ax 85 (ae.un (F85 E)):=bg (aP (ay.nil.addF zpC) (au (by kernel_rfl)))
structure E86 where
  N:Nat
abbrev G86 (E:E86):bf:=dw Tabs.nil []
def A86:bW:=aU ax 86 [] {}
def F86 (E:E86):Int×Int×Int->ae (Bool):=ae.ty (aF ax E.N (G86 E) A86 86)
section
variable (E:E86){A:Type}(k:Bool->Option A)
theorem e86 (a0:Int) (a1:Int) (a2:Int):(F86 E (a0,a1,a2)).T k =
  cond (decide (a0 >= a1))
  (k (decide (a0<=a2)))
  (k false):=bJ.trans (by kernel_rfl)
end
theorem o86 [aJ] (E:E86):Ok ax 86 (ae.un (F86 E)):=bg (aP ay.nil (au (by kernel_rfl)))
structure E87 where
  N:Nat
abbrev G87 (E:E87):bf:=dw Tabs.nil []
def A87:bW:=aU ax 87 [] {}
def F87 (E:E87):(Sl bz)×(Sl Int)×Int->ae (Bool):=ae.ty (aF ax E.N (G87 E) A87 87)
section
variable (E:E87){A:Type}(k:Bool->Option A)
def XV (E:E87) (n:Nat) (a0:(Sl bz)) (a1:(Sl Int)) (a2:Int) (v7:Int){A:Type}(k:Bool->Option A):Option A :=
  gV ax (G87 E) E.N A87 87 [1,0,1,0] [.n n] (gY k)
    ⟨[(0,eP a0),(1,eP a1),(2,.int a2),(7,.int v7)],[],[]⟩
theorem e87 (a0:(Sl bz)) (a1:(Sl Int)) (a2:Int):(F87 E (a0,a1,a2)).T k =
  XV E E.N a0 a1 a2 0 k:=bJ.trans (by kernel_rfl)
theorem zm7 (n0:Nat) (a0:(Sl bz)) (a1:(Sl Int)) (a2:Int) (v7:Int):XV E (n0+1) a0 a1 a2 v7 k =
  cond (decide (v7 < (a1.len:Int)))
  (aZ (decide (0<=v7/\v7 < (a1.len:Int))) (aZ (decide (0<=a1.get v7.toNat/\a1.get v7.toNat < (a0.len:Int))) (cond ((a0.get (a1.get v7.toNat).toNat).ai == a2)
 (k true)
 (XV E n0 a0 a1 a2 (aO (v7+1)) k))))
  (k false):=by kernel_rfl
end
theorem o87 [aJ] (E:E87):Ok ax 87 (ae.un (F87 E)):=bg (aP ay.nil (au (by kernel_rfl)))
end Go.Proofs

namespace Go.Proofs
open Go Go.Pm
set_option maxRecDepth 100000
structure JG where
  N:Nat
  oZ:Int×Int×Int->ae (Bool)
  OW:Int->ae (Bool)
  c175:(Sl aS)×Int->ae (Bool)
abbrev zd1 (E:JG):bf:=dw (((Tabs.nil.addF 73 (ae.un E.oZ)).addF 174 (ae.un E.OW)).addF 175 (ae.un E.c175)) []
def zd2:bW:=aU ax 124 [] { cut:=[3,5,7] }
def ziL (E:JG):ai->ae (Bool):=ae.ty (aF ax E.N (zd1 E) zd2 124)
section
variable (E:JG){A:Type}(k:Bool->Option A)
def U3 (E:JG) (a0:ai){A:Type}(k:Bool->Option A):Option A :=
  gV ax (zd1 E) E.N zd2 124 [1,1] [] (gY k)
    ⟨[(1,.cl (.ptr 1 0))],[(1,eB 124 a0)],[]⟩
def zd3 (E:JG) (a0:ai){A:Type}(k:Bool->Option A):Option A :=
  gV ax (zd1 E) E.N zd2 124 [1,1,1] [] (gY k)
    ⟨[(1,.cl (.ptr 1 0))],[(1,eB 124 a0)],[]⟩
def zd4 (E:JG) (a0:ai){A:Type}(k:Bool->Option A):Option A :=
  gV ax (zd1 E) E.N zd2 124 [1,1,1,1] [] (gY k)
    ⟨[(1,.cl (.ptr 1 0))],[(1,eB 124 a0)],[]⟩
def qx (E:JG) (n:Nat) (a0:ai) (v3:Int){A:Type}(k:Bool->Option A):Option A :=
  gV ax (zd1 E) E.N zd2 124 [1,1,1,1,1,0,1,0] [.n n] (gY k)
    ⟨[(1,.cl (.ptr 1 0)),(3,.int v3)],[(1,eB 124 a0)],[]⟩
theorem zFN (a0:ai):(ziL E (a0)).T k =
  cond (decide (a0.Kind < 1))
  (k false)
  (cond (decide (a0.Kind > 3))
 (k false)
 (cond (a0.View != 1)
 (cond (a0.View != 2)
 (k false)
 ((E.oZ (a0.Z,0,100000)).T λ r1 =>
 cond (!r1)
 (k false)
 ((E.OW a0.First).T λ r2 =>
 cond (!r2)
 (k false)
 ((E.oZ (a0.aT,2,100000)).T λ r3 =>
 cond (!r3)
 (k false)
 ((E.oZ (a0.bM,1,2000)).T λ r4 =>
 cond (!r4)
 (k false)
 ((E.oZ (a0.dE,0,100000)).T λ r5 =>
 cond (!r5)
 (k false)
 (U3 E a0 k)))))))
 ((E.oZ (a0.Z,0,100000)).T λ r6 =>
 cond (!r6)
 (k false)
 ((E.OW a0.First).T λ r7 =>
 cond (!r7)
 (k false)
 ((E.oZ (a0.aT,2,100000)).T λ r8 =>
 cond (!r8)
 (k false)
 ((E.oZ (a0.bM,1,2000)).T λ r9 =>
 cond (!r9)
 (k false)
 ((E.oZ (a0.dE,0,100000)).T λ r10 =>
 cond (!r10)
 (k false)
 (U3 E a0 k)))))))):=bJ.trans (by kernel_rfl)
theorem zpE (a0:ai):U3 E a0 k =
  (E.OW a0.bn.Low).T λ r1 =>
  cond (!r1)
  (k false)
  ((E.OW a0.bn.High).T λ r2 =>
 cond (!r2)
 (k false)
 (cond (decide (a0.bn.Low > a0.bn.High))
 (k false)
 ((E.oZ (a0.Clock.Low,(-1000000000),1000000000)).T λ r3 =>
 cond (!r3)
 (k false)
 ((E.oZ (a0.Clock.High,(-1000000000),1000000000)).T λ r4 =>
 cond (!r4)
 (k false)
 (cond (decide (a0.Clock.Low > a0.Clock.High))
 (k false)
 (zd3 E a0 k)))))):=by kernel_rfl
theorem zpF (a0:ai):zd3 E a0 k =
  (E.oZ (a0.dH,0,1000000)).T λ r1 =>
  cond (!r1)
  (k false)
  ((E.oZ (a0.Least,0,1000000)).T λ r2 =>
 cond (!r2)
 (k false)
 ((E.OW (aO ((aO ((aO (a0.First - a0.aT)) - a0.dE))+a0.bn.Low))).T λ r3 =>
 cond (!r3)
 (k false)
 ((E.OW (aO ((aO ((aO (a0.First+(aO ((aO (a0.bM+1)) * a0.aT))))+a0.dE))+a0.bn.High))).T λ r4 =>
 cond (!r4)
 (k false)
 (zd4 E a0 k)))):=by kernel_rfl
theorem zpG (a0:ai):zd4 E a0 k =
  cond (a0.Kind == 2)
  ((E.c175 (a0.aS,a0.aT)).T λ r1 =>
 cond (!r1)
 (k false)
 (cond (a0.Kind != 2)
 (cond (decide ((a0.aS.len:Int) > 0))
 (k false)
 (cond (decide ((a0.Dead.len:Int) > 100))
 (k false)
 (qx E E.N a0 0 k)))
 (cond (decide ((a0.Dead.len:Int) > 100))
 (k false)
 (qx E E.N a0 0 k))))
  (cond (a0.Kind != 2)
 (cond (decide ((a0.aS.len:Int) > 0))
 (k false)
 (cond (decide ((a0.Dead.len:Int) > 100))
 (k false)
 (qx E E.N a0 0 k)))
 (cond (decide ((a0.Dead.len:Int) > 100))
 (k false)
 (qx E E.N a0 0 k))):=by kernel_rfl
theorem zd5 (n0:Nat) (a0:ai) (v3:Int):qx E (n0+1) a0 v3 k =
  cond (decide (v3 < (a0.Dead.len:Int)))
  (aZ (decide (0<=v3/\v3 < (a0.Dead.len:Int))) ((E.oZ (a0.Dead.get v3.toNat,0,(aO (a0.bM - 1)))).T λ r1 =>
 cond (!r1)
 (k false)
 (cond (decide (v3 > 0))
 (aZ (decide (0<=v3/\v3 < (a0.Dead.len:Int))) (aZ (decide (0<=(aO (v3 - 1))/\(aO (v3 - 1)) < (a0.Dead.len:Int))) (cond (decide (a0.Dead.get v3.toNat<=a0.Dead.get (aO (v3 - 1)).toNat))
 (k false)
 (qx E n0 a0 (aO (v3+1)) k))))
 (qx E n0 a0 (aO (v3+1)) k))))
  (k true):=by kernel_rfl
end
theorem zFO [aJ] (E:JG) (BC:Ok ax 73 (ae.un E.oZ)) (zpH:Ok ax 174 (ae.un E.OW)) (zpI:Ok ax 175 (ae.un E.c175)):Ok ax 124 (ae.un (ziL E)):=bg (aP (((ay.nil.addF BC).addF zpH).addF zpI) (au (by kernel_rfl)))
structure QS where
  N:Nat
abbrev zpJ (E:QS):bf:=dw Tabs.nil []
def zpK:bW:=aU ax 135 [] {}
def ziM (E:QS):ai×Int->ae (Int×Int):=ae.ty (aF ax E.N (zpJ E) zpK 135)
section
variable (E:QS){A:Type}(k:(Int×Int)->Option A)
def G6 (E:QS) (n:Nat) (a0:ai) (a1:Int) (v6:Int) (v7:Int) (v8:Int){A:Type}(k:(Int×Int)->Option A):Option A :=
  gV ax (zpJ E) E.N zpK 135 [1,1,0,1,0] [.n n] (gY k)
    ⟨[(1,.int a1),(2,.cl (.ptr 2 0)),(6,.int v6),(7,.int v7),(8,.int v8)],[(2,eB 124 a0)],[]⟩
def G7 (E:QS) (n:Nat) (a0:ai) (a1:Int) (v6:Int) (v7:Int) (v9:Int){A:Type}(k:(Int×Int)->Option A):Option A :=
  gV ax (zpJ E) E.N zpK 135 [1,1,1,0,1,0] [.n n] (gY k)
    ⟨[(1,.int a1),(2,.cl (.ptr 2 0)),(6,.int v6),(7,.int v7),(9,.int v9)],[(2,eB 124 a0)],[]⟩
theorem zFP (a0:ai) (a1:Int):(ziM E (a0,a1)).T k =
  G6 E E.N a0 a1 0 (aO (a0.aT.tdiv 2)) 0 k:=bJ.trans (by kernel_rfl)
theorem zd6 (n0:Nat) (a0:ai) (a1:Int) (v6:Int) (v7:Int) (v8:Int):G6 E (n0+1) a0 a1 v6 v7 v8 k =
  cond (decide (v8 < (a0.aS.len:Int)))
  (aZ (decide (0<=v8/\v8 < (a0.aS.len:Int))) (cond (decide ((a0.aS.get v8.toNat).Time<=(aO (a1 - a0.dH))))
 (aZ (decide (0<=v8/\v8 < (a0.aS.len:Int))) (G6 E n0 a0 a1 (a0.aS.get v8.toNat).dI.Low v7 (aO (v8+1)) k))
 (G6 E n0 a0 a1 v6 v7 (aO (v8+1)) k)))
  (G7 E E.N a0 a1 v6 v7 (aO ((a0.aS.len:Int) - 1)) k):=by kernel_rfl
theorem zd7 (n0:Nat) (a0:ai) (a1:Int) (v6:Int) (v7:Int) (v9:Int):G7 E (n0+1) a0 a1 v6 v7 v9 k =
  cond (decide (v9 >= 0))
  (aZ (decide (0<=v9/\v9 < (a0.aS.len:Int))) (cond (decide ((a0.aS.get v9.toNat).Time >= (aO (a1+a0.dH))))
 (aZ (decide (0<=v9/\v9 < (a0.aS.len:Int))) (G7 E n0 a0 a1 v6 (a0.aS.get v9.toNat).dI.High (aO (v9 - 1)) k))
 (G7 E n0 a0 a1 v6 v7 (aO (v9 - 1)) k)))
  (k (v6,v7)):=by kernel_rfl
end
theorem zFQ [aJ] (E:QS):Ok ax 135 (ae.un (ziM E)):=bg (aP ay.nil (au (by kernel_rfl)))
structure U4 where
  N:Nat
abbrev zyh (E:U4):bf:=dw Tabs.nil []
def zyi:bW:=aU ax 137 [] {}
def ziN (E:U4):ai×Int->ae (Bool):=ae.ty (aF ax E.N (zyh E) zyi 137)
section
variable (E:U4){A:Type}(k:Bool->Option A)
def G8 (E:U4) (n:Nat) (a0:ai) (a1:Int) (v5:Int){A:Type}(k:Bool->Option A):Option A :=
  gV ax (zyh E) E.N zyi 137 [1,0,1,0] [.n n] (gY k)
    ⟨[(1,.int a1),(2,.cl (.ptr 2 0)),(5,.int v5)],[(2,eB 124 a0)],[]⟩
theorem e137 (a0:ai) (a1:Int):(ziN E (a0,a1)).T k =
  G8 E E.N a0 a1 0 k:=bJ.trans (by kernel_rfl)
theorem zd8 (n0:Nat) (a0:ai) (a1:Int) (v5:Int):G8 E (n0+1) a0 a1 v5 k =
  cond (decide (v5 < (a0.Dead.len:Int)))
  (aZ (decide (0<=v5/\v5 < (a0.Dead.len:Int))) (cond (a0.Dead.get v5.toNat == a1)
 (k true)
 (G8 E n0 a0 a1 (aO (v5+1)) k)))
  (k false):=by kernel_rfl
end
theorem zFR [aJ] (E:U4):Ok ax 137 (ae.un (ziN E)):=bg (aP ay.nil (au (by kernel_rfl)))
structure U5 where
  N:Nat
  oZ:Int×Int×Int->ae (Bool)
  JP:ai×Int->ae (Bool)
abbrev zyj (E:U5):bf:=dw ((Tabs.nil.addF 73 (ae.un E.oZ)).addF 137 (ae.un E.JP)) []
def zyk:bW:=aU ax 143 [] {}
def ziO (E:U5):ak×bz->ae (Bool):=ae.ty (aF ax E.N (zyj E) zyk 143)
section
variable (E:U5){A:Type}(k:Bool->Option A)
def Nz (E:U5) (n:Nat) (a0:ak) (a1:bz) (v6:Int){A:Type}(k:Bool->Option A):Option A :=
  gV ax (zyj E) E.N zyk 143 [1,1,1,1,0,1,0] [.n n] (gY k)
    ⟨[(3,.cl (.ptr 3 0)),(5,.cl (.ptr 5 0)),(6,.int v6)],[(3,eB 92 a1),(5,eB 124 (a0.af.get a1.ai.toNat))],[]⟩
theorem e143 (a0:ak) (a1:bz):(ziO E (a0,a1)).T k =
  (E.oZ (a1.ai,0,(aO ((a0.af.len:Int) - 1)))).T λ r1 =>
  cond (!r1)
  (k false)
  (aZ (decide (0<=a1.ai/\a1.ai < (a0.af.len:Int))) ((E.oZ (a1.Channel,0,(aO ((a0.af.get a1.ai.toNat).bM - 1)))).T λ r2 =>
 cond (!r2)
 (k false)
 ((E.oZ (a1.iT,1,(aO ((a0.af.get a1.ai.toNat).bM - a1.Channel)))).T λ r3 =>
 cond (!r3)
 (k false)
 ((E.oZ (a1.yx,(a0.af.get a1.ai.toNat).Least,1000000)).T λ r4 =>
 cond (!r4)
 (k false)
 ((E.oZ (a1.Time,(-1000000000),1000000000)).T λ r5 =>
 cond (!r5)
 (k false)
 (Nz E E.N a0 a1 0 k)))))):=bJ.trans (by kernel_rfl)
theorem zd9 (n0:Nat) (a0:ak) (a1:bz) (v6:Int):Nz E (n0+1) a0 a1 v6 k =
  cond (decide (v6 < a1.iT))
  ((E.JP ((a0.af.get a1.ai.toNat),(aO (a1.Channel+v6)))).T λ r1 =>
 cond r1
 (k false)
 (Nz E n0 a0 a1 (aO (v6+1)) k))
  (cond ((a0.af.get a1.ai.toNat).Kind == 2)
 (cond (a1.iT == 1)
 ((E.oZ (a1.aS,0,1000000)).T λ r2 =>
 k r2)
 (k false))
 (cond ((a0.af.get a1.ai.toNat).Kind == 3)
 (cond (a1.aS == 0)
 (k (a1.Time == 0))
 (k false))
 (k (a1.aS == 0)))):=by kernel_rfl
end
theorem zFS [aJ] (E:U5) (BC:Ok ax 73 (ae.un E.oZ)) (U6:Ok ax 137 (ae.un E.JP)):Ok ax 143 (ae.un (ziO E)):=bg (aP ((ay.nil.addF BC).addF U6) (au (by kernel_rfl)))
structure ZH where
  N:Nat
  oZ:Int×Int×Int->ae (Bool)
abbrev zFT (E:ZH):bf:=dw (Tabs.nil.addF 73 (ae.un E.oZ)) []
def zFU:bW:=aU ax 174 [] {}
def ziP (E:ZH):Int->ae (Bool):=ae.ty (aF ax E.N (zFT E) zFU 174)
section
variable (E:ZH){A:Type}(k:Bool->Option A)
theorem zFV (a0:Int):(ziP E (a0)).T k =
  (E.oZ (a0,(-1000000),1000000)).T λ r1 =>
  k r1:=bJ.trans (by kernel_rfl)
end
theorem zFW [aJ] (E:ZH) (BC:Ok ax 73 (ae.un E.oZ)):Ok ax 174 (ae.un (ziP E)):=bg (aP (ay.nil.addF BC) (au (by kernel_rfl)))
structure U7 where
  N:Nat
  oZ:Int×Int×Int->ae (Bool)
abbrev zyl (E:U7):bf:=dw (Tabs.nil.addF 73 (ae.un E.oZ)) []
def zym:bW:=aU ax 175 [] {}
def ziQ (E:U7):(Sl aS)×Int->ae (Bool):=ae.ty (aF ax E.N (zyl E) zym 175)
section
variable (E:U7){A:Type}(k:Bool->Option A)
def BD (E:U7) (n:Nat) (a0:(Sl aS)) (a1:Int) (v5:Int){A:Type}(k:Bool->Option A):Option A :=
  gV ax (zyl E) E.N zym 175 [1,0,1,0] [.n n] (gY k)
    ⟨[(0,eP a0),(1,.int a1),(5,.int v5)],[],[]⟩
theorem zFX (a0:(Sl aS)) (a1:Int):(ziQ E (a0,a1)).T k =
  BD E E.N a0 a1 0 k:=bJ.trans (by kernel_rfl)
theorem zea (n0:Nat) (a0:(Sl aS)) (a1:Int) (v5:Int):BD E (n0+1) a0 a1 v5 k =
  cond (decide (v5 < (a0.len:Int)))
  (aZ (decide (0<=v5/\v5 < (a0.len:Int))) ((E.oZ ((a0.get v5.toNat).Time,0,1000000)).T λ r1 =>
 cond (!r1)
 (k false)
 (cond (decide ((a0.get v5.toNat).dI.Low < 0))
 (k false)
 (cond (decide ((a0.get v5.toNat).dI.Low > (a0.get v5.toNat).dI.High))
 (k false)
 (cond (decide ((a0.get v5.toNat).dI.High > (aO (a1.tdiv 2))))
 (k false)
 (cond (decide (v5 > 0))
 (aZ (decide (0<=(aO (v5 - 1))/\(aO (v5 - 1)) < (a0.len:Int))) (cond (decide ((a0.get v5.toNat).Time<=(a0.get (aO (v5 - 1)).toNat).Time))
 (k false)
 (aZ (decide (0<=(aO (v5 - 1))/\(aO (v5 - 1)) < (a0.len:Int))) (cond (decide ((a0.get v5.toNat).dI.Low < (a0.get (aO (v5 - 1)).toNat).dI.Low))
 (k false)
 (aZ (decide (0<=(aO (v5 - 1))/\(aO (v5 - 1)) < (a0.len:Int))) (cond (decide ((a0.get v5.toNat).dI.High < (a0.get (aO (v5 - 1)).toNat).dI.High))
 (k false)
 (BD E n0 a0 a1 (aO (v5+1)) k)))))))
 (BD E n0 a0 a1 (aO (v5+1)) k)))))))
  ((E.oZ ((a0.len:Int),1,50)).T λ r2 =>
 k r2):=by kernel_rfl
end
theorem zFY [aJ] (E:U7) (BC:Ok ax 73 (ae.un E.oZ)):Ok ax 175 (ae.un (ziQ E)):=bg (aP (ay.nil.addF BC) (au (by kernel_rfl)))
structure E78 where
  N:Nat
  c60:ak×bF->ae (Int)
  c138:ak×bz->ae (Int)
  c139:ak×bz->ae ((Sl aB)×Int)
abbrev G78 (E:E78):bf:=dw (((Tabs.nil.addF 60 (ae.un E.c60)).addF 138 (ae.un E.c138)).addF 139 (ae.un E.c139)) []
def A78:bW:=aU ax 78 [] { ks:=[(1,7,⟨[],[],[(24,2,55,96)],[],[],[],[]⟩)],cut:=[14] }
def F78 (E:E78):ak×bF×(Sl bz)->ae (Int ⊕ ((Pt aX)×Int)):=ae.tyA (aF ax E.N (G78 E) A78 78)
section
variable (E:E78){A:Type}(k:(Int ⊕ ((Pt aX)×Int))->Option A)
def QT (E:E78) (n:Nat) (a0:ak) (a1:bF) (a2:(Sl bz)) (v27:Int) (XW:Sl (Sl aB)) {A:Type}(k:(Int ⊕ ((Pt aX)×Int))->Option A):Option A :=
  gV ax (G78 E) E.N A78 78 [1,1,1,1,0,1,0] [.n n] (zdF k)
    ⟨[(3,.cl (.ptr 3 0)),(8,.cl (.ptr 24 0)),(25,eP a2),(26,.int (a2.len:Int)),(27,.int v27)],[(3,eB 24 a0),(24,.box 208 [.p (.sl a0.af.len 15 (λ i=>bG.enc (a0.af.get i))),.p (.sl a2.len 6 (λ i=>bG.enc (a2.get i))),.vec 55,.p (.int .i64 a1.oW),.p (.int .i64 a1.rU)]),(55,eV 96 1 24 XW)],[]⟩
def QU (E:E78) (n0:Nat) (a0:ak) (a1:bF) (a2:(Sl bz)) (v11:(Sl aB)) (v27:Int) (XW:Sl (Sl aB)) {A:Type}(k:(Int ⊕ ((Pt aX)×Int))->Option A):Option A :=
  gV ax (G78 E) E.N A78 78 [1,1,1,1,0,1,0,0,1,1,0,0,1,1,1,1] [.n n0] (zdF k)
    ⟨[(3,.cl (.ptr 3 0)),(8,.cl (.ptr 24 0)),(11,eP v11),(25,eP a2),(26,.int (a2.len:Int)),(27,.int v27)],[(3,eB 24 a0),(24,.box 208 [.p (.sl a0.af.len 15 (λ i=>bG.enc (a0.af.get i))),.p (.sl a2.len 6 (λ i=>bG.enc (a2.get i))),.vec 55,.p (.int .i64 a1.oW),.p (.int .i64 a1.rU)]),(55,eV 96 1 24 XW)],[]⟩
theorem e78 (a0:ak) (a1:bF) (a2:(Sl bz)):(F78 E (a0,a1,a2)).T k =
  cond (decide ((a2.len:Int) > 24))
  (k (.inl 3))
  ((E.c60 (a0,a1)).T λ r1 =>
 cond (r1 != 0)
 (k (.inl 2))
 (QT E E.N a0 a1 a2 0 (⟨0,(λ _=>(⟨0,(λ _=>(⟨0,0,0⟩:aB))⟩:(Sl aB)))⟩:(Sl (Sl aB))) k)):=zmT.trans (by kernel_rfl)
theorem zm9 (n0:Nat) (a0:ak) (a1:bF) (a2:(Sl bz)) (v27:Int) (XW:Sl (Sl aB)):QT E (n0+1) a0 a1 a2 v27 XW k =
  cond (decide (v27 < (a2.len:Int)))
  (aZ (decide (0<=v27/\v27 < (a2.len:Int))) ((E.c138 (a0,(a2.get v27.toNat))).T λ r1 =>
 cond (r1 != 0)
 (k (.inl 2))
 ((E.c139 (a0,(a2.get v27.toNat))).T λ r2 =>
 cond (r2.2 != 0)
 (cond (r2.2 != 5)
 (k (.inl r2.2))
 (QU E n0 a0 a1 a2 r2.1 v27 XW k))
 (QU E n0 a0 a1 a2 r2.1 v27 XW k))))
  (k (.inr ((⟨(⟨a0,a2,XW,a1⟩:aX)⟩:(Pt aX)),0))):=by kernel_rfl
theorem zyn (n0:Nat) (a0:ak) (a1:bF) (a2:(Sl bz)) (v11:(Sl aB)) (v27:Int) (XW:Sl (Sl aB)):QU E n0 a0 a1 a2 v11 v27 XW k =
  aZ (room (XW.len+1) 24) (QT E n0 a0 a1 a2 (aO (v27+1)) (⟨(XW.len+1),(jf XW.len XW.get (λ _=>v11))⟩:(Sl (Sl aB))) k):=by kernel_rfl
end
theorem o78 [aJ] (E:E78) (h60:Ok ax 60 (ae.un E.c60)) (zpL:Ok ax 138 (ae.un E.c138)) (zpM:Ok ax 139 (ae.un E.c139)):Ok ax 78 (ae.unA (F78 E)):=zdG (aP (((ay.nil.addF h60).addF zpL).addF zpM) (au (by kernel_rfl)))
end Go.Proofs


namespace Go.Proofs
open Go Go.Pm
set_option maxRecDepth 100000
structure U8 where
  N:Nat
abbrev zyo (E:U8):bf:=dw Tabs.nil []
def zyp:bW:=aU ax 105 [] { ks:=[(1,3,⟨[],[(5,32,101)],[],[],[],[],[]⟩)] }
def ziR (E:U8):(Pt aX)×aj->ae ((Sl aB)):=ae.ty (aF ax E.N (zyo E) zyp 105)
section
variable (E:U8){A:Type}(k:(Sl aB)->Option A)
def NC (E:U8) (n:Nat) (a0:(Pt aX)) (a1:aj) (v11:Int) (w32:Sl aB){A:Type}(k:(Sl aB)->Option A):Option A :=
  gV ax (zyo E) E.N zyp 105 [1,1,0,1,0] [.n n] (gY k)
    ⟨[(0,eP a0),(3,.cl (.ptr 3 0)),(5,.cl (.vec 32)),(9,eP a1.Hits),(10,.int (a1.Hits.len:Int)),(11,.int v11)],[(3,eB 43 a1),(32,eV 101 3 24 w32)],[]⟩
theorem zF1 (a0:(Pt aX)) (a1:aj):(ziR E (a0,a1)).T k =
  NC E E.N a0 a1 0 (⟨0,(λ _=>(⟨0,0,0⟩:aB))⟩:(Sl aB)) k:=bJ.trans (by kernel_rfl)
theorem zeb (n0:Nat) (a0:(Pt aX)) (a1:aj) (v11:Int) (w32:Sl aB):NC E (n0+1) a0 a1 v11 w32 k =
  cond (decide (v11 < (a1.Hits.len:Int)))
  (aZ (decide (0<=v11/\v11 < (a1.Hits.len:Int))) (aZ (decide (0<=a1.Hits.get v11.toNat/\a1.Hits.get v11.toNat < (a0.v.kV.len:Int))) (aZ (decide (0<=v11/\v11 < (a1.bD.len:Int))) (aZ (decide (0<=a1.bD.get v11.toNat/\a1.bD.get v11.toNat < ((a0.v.kV.get (a1.Hits.get v11.toNat).toNat).len:Int))) (aZ (room (w32.len+1) 24) (NC E n0 a0 a1 (aO (v11+1)) (⟨(w32.len+1),(jf w32.len w32.get (λ _=>((a0.v.kV.get (a1.Hits.get v11.toNat).toNat).get (a1.bD.get v11.toNat).toNat)))⟩:(Sl aB)) k))))))
  (k w32):=by kernel_rfl
end
theorem zF2 [aJ] (E:U8):Ok ax 105 (ae.un (ziR E)):=bg (aP ay.nil (au (by kernel_rfl)))
structure ND where
  N:Nat
  zg3:(Pt aX)×Int->ae (Int)
abbrev zpN (E:ND):bf:=dw (Tabs.nil.addF 140 (ae.un E.zg3)) []
def zpO:bW:=aU ax 173 [0] { yl:=[7] }
def zyq (E:ND) (c:List PA):YO:=aI ax (zpN E) E.N zpO 173 c
def zpP (E:ND):(Pt Int)×(Pt (Pt aX))×(Pt Int)->ae (List (Int×Int)):=ae.tyI λ c=>.opt (zyq E c)
section
variable (E:ND)
def G9 (E:ND) (n:Nat) (a2:(Pt (Pt aX))) (a3:(Pt Int)) (v5:Int):YO :=
  ptY ax (zpN E) E.N zpO 173 [1,0] [n]
    ⟨[(0,.cl (.vec 4095)),(2,eP a2),(3,eP a3),(5,.int v5)],[(4095,.gone)],[]⟩
def Ha (E:ND) (n0:Nat) (n:Nat) (a2:(Pt (Pt aX))) (a3:(Pt Int)) (v5:Int) (v29:Int) (v30:Int):YO :=
  ptY ax (zpN E) E.N zpO 173 [1,0,0,1,0,0,1,1,0] [n0,n]
    ⟨[(0,.cl (.vec 4095)),(2,eP a2),(3,eP a3),(5,.int v5),(29,.int v29),(30,.int v30)],[(4095,.gone)],[]⟩
theorem zF3 (a1:(Pt Int)) (a2:(Pt (Pt aX))) (a3:(Pt Int)):zyq E (dC.enc ((a1,a2,a3):(Pt Int)×(Pt (Pt aX))×(Pt Int))) =
  G9 E E.N a2 a3 a1.v:=by kernel_rfl
theorem zec (n0:Nat) (a2:(Pt (Pt aX))) (a3:(Pt Int)) (v5:Int):G9 E (n0+1) a2 a3 v5 =
  cond (decide (v5 < (a2.v.v.hits.len:Int)))
  ((E.zg3 (a2.v,v5)).T λ r1 =>
 cond (r1 != a3.v)
 (G9 E n0 a2 a3 (aO (v5+1)))
 (aZ (decide (0≤v5∧v5 < (a2.v.v.kV.len:Int))) (Ha E n0 E.N a2 a3 v5 ((a2.v.v.kV.get v5.toNat).len:Int) 0)))
  (some []):=by kernel_rfl
theorem zed (n0:Nat) (n1:Nat) (a2:(Pt (Pt aX))) (a3:(Pt Int)) (v5:Int) (v29:Int) (v30:Int):Ha E n0 (n1+1) a2 a3 v5 v29 v30 =
  cond (decide (v30 < v29))
  (yT (dC.enc ((v5,v30):Int×Int)) (some [])
 (Ha E n0 n1 a2 a3 v5 v29 (aO (v30+1))))
  (G9 E n0 a2 a3 (aO (v5+1))):=by kernel_rfl
end
theorem zF4 (E:ND) (zpQ:Ok ax 140 (ae.un E.zg3)):qL ax 173 (ae.unI (zpP E)):=Nr (GU (ay.nil.addF zpQ) (au (by kernel_rfl)))
structure ZI where
  N:Nat
abbrev zF5 (E:ZI):bf:=dw Tabs.nil []
def zF6:bW:=aU ax 140 [] {}
def ziS (E:ZI):(Pt aX)×Int->ae (Int):=ae.ty (aF ax E.N (zF5 E) zF6 140)
section
variable (E:ZI){A:Type}(k:Int->Option A)
theorem zF7 (a0:(Pt aX)) (a1:Int):(ziS E (a0,a1)).T k =
  aZ (decide (0<=a1/\a1 < (a0.v.hits.len:Int))) (aZ (decide (0<=(a0.v.hits.get a1.toNat).ai/\(a0.v.hits.get a1.toNat).ai < (a0.v.ak.af.len:Int))) (k (a0.v.ak.af.get (a0.v.hits.get a1.toNat).ai.toNat).View)):=bJ.trans (by kernel_rfl)
end
theorem zF8 [aJ] (E:ZI):Ok ax 140 (ae.un (ziS E)):=bg (aP ay.nil (au (by kernel_rfl)))
structure ZJ where
  N:Nat
  c160:ak->ae (Bool)
abbrev zF9 (E:ZJ):bf:=dw (Tabs.nil.addF 160 (ae.un E.c160)) []
def zGa:bW:=aU ax 122 [] {}
def ziT (E:ZJ):ak->ae (Int):=ae.ty (aF ax E.N (zF9 E) zGa 122)
section
variable (E:ZJ){A:Type}(k:Int->Option A)
theorem zGb (a0:ak):(ziT E (a0)).T k =
  (E.c160 a0).T λ r1 =>
  cond (!r1)
  (k 2)
  (k 0):=bJ.trans (by kernel_rfl)
end
theorem zGc [aJ] (E:ZJ) (xY:Ok ax 160 (ae.un E.c160)):Ok ax 122 (ae.un (ziT E)):=bg (aP (ay.nil.addF xY) (au (by kernel_rfl)))
structure ZK where
  N:Nat
abbrev zGd (E:ZK):bf:=dw Tabs.nil []
def zGe:bW:=aU ax 123 [] {}
def ziU (E:ZK):Int×Int×Int->ae (Bool):=ae.ty (aF ax E.N (zGd E) zGe 123)
section
variable (E:ZK){A:Type}(k:Bool->Option A)
theorem zGf (a0:Int) (a1:Int) (a2:Int):(ziU E (a0,a1,a2)).T k =
  cond (decide (a0 >= a1))
  (k (decide (a0<=a2)))
  (k false):=bJ.trans (by kernel_rfl)
end
theorem zGg [aJ] (E:ZK):Ok ax 123 (ae.un (ziU E)):=bg (aP ay.nil (au (by kernel_rfl)))
structure ZL where
  N:Nat
  OX:ak×bz->ae (Bool)
abbrev zGh (E:ZL):bf:=dw (Tabs.nil.addF 188 (ae.un E.OX)) []
def zGi:bW:=aU ax 138 [] {}
def ziV (E:ZL):ak×bz->ae (Int):=ae.ty (aF ax E.N (zGh E) zGi 138)
section
variable (E:ZL){A:Type}(k:Int->Option A)
theorem e138 (a0:ak) (a1:bz):(ziV E (a0,a1)).T k =
  (E.OX (a0,a1)).T λ r1 =>
  cond (!r1)
  (k 2)
  (k 0):=bJ.trans (by kernel_rfl)
end
theorem zGj [aJ] (E:ZL) (U9:Ok ax 188 (ae.un E.OX)):Ok ax 138 (ae.un (ziV E)):=bg (aP (ay.nil.addF U9) (au (by kernel_rfl)))
structure ZM where
  N:Nat
  OX:ak×bz->ae (Bool)
  qH:ak×bz->ae (placed×Bool)
  zmh:placed×bz->ae ((Sl aB))
abbrev zGk (E:ZM):bf:=dw (((Tabs.nil.addF 188 (ae.un E.OX)).addF 112 (ae.un E.qH)).addF 189 (ae.un E.zmh)) []
def zGl:bW:=aU ax 139 [] {}
def ziW (E:ZM):ak×bz->ae ((Sl aB)×Int):=ae.ty (aF ax E.N (zGk E) zGl 139)
section
variable (E:ZM){A:Type}(k:((Sl aB)×Int)->Option A)
theorem zGm (a0:ak) (a1:bz):(ziW E (a0,a1)).T k =
  (E.OX (a0,a1)).T λ r1 =>
  cond (!r1)
  (k ((⟨0,λ _=>default⟩:(Sl aB)),2))
  ((E.qH (a0,a1)).T λ r2 =>
 (E.zmh (r2.1,a1)).T λ r3 =>
 cond ((r3.len:Int) == 0)
 (k ((⟨0,λ _=>default⟩:(Sl aB)),5))
 (k (r3,0))):=bJ.trans (by kernel_rfl)
end
theorem zGn [aJ] (E:ZM) (U9:Ok ax 188 (ae.un E.OX)) (h112:Ok ax 112 (ae.un E.qH)) (zpR:Ok ax 189 (ae.un E.zmh)):Ok ax 139 (ae.un (ziW E)):=bg (aP (((ay.nil.addF U9).addF h112).addF zpR) (au (by kernel_rfl)))
structure Va where
  N:Nat
  fP:Int×Int×Int->ae (Bool)
abbrev zyr (E:Va):bf:=dw (Tabs.nil.addF 161 (ae.un E.fP)) []
def zys:bW:=aU ax 112 [] {}
def ziX (E:Va):ak×bz->ae (placed×Bool):=ae.ty (aF ax E.N (zyr E) zys 112)
section
variable (E:Va){A:Type}(k:(placed×Bool)->Option A)
def NE (E:Va) (n:Nat) (a0:ak) (a1:bz) (v67:Int){A:Type}(k:(placed×Bool)->Option A):Option A :=
  gV ax (zyr E) E.N zys 112 [1,1,1,1,0,1,0] [.n n] (gY k)
    ⟨[(3,.cl (.ptr 3 0)),(4,.cl (.ptr 4 0)),(6,.cl (.ptr 6 0)),(65,eP (a0.af.get a1.ai.toNat).Dead),(66,.int ((a0.af.get a1.ai.toNat).Dead.len:Int)),(67,.int v67)],[(3,eB 92 a1),(4,.box 185 [.p (.int .i64 0),.p (.int .i64 0),.p (.int .i64 0),.p (.int .i64 0),.p (.int .i64 0),.p (.int .i64 0),.p (.int .i64 0),.p (.int .i64 0),.p (.int .i64 0),.p (.int .i64 0),.p (.int .i64 0),.p (.int .i64 0),.p (.int .i64 0),.p (.nils),.p (.nils),.p (.int .i64 0)]),(6,.box 185 [.p (.int .i64 (a0.af.get a1.ai.toNat).Kind),.p (.int .i64 (a0.af.get a1.ai.toNat).View),.p (.int .i64 (a0.af.get a1.ai.toNat).Z),.p (.int .i64 (a0.af.get a1.ai.toNat).First),.p (.int .i64 (a0.af.get a1.ai.toNat).aT),.p (.int .i64 (a0.af.get a1.ai.toNat).bM),.p (.int .i64 (a0.af.get a1.ai.toNat).dE),.p (.int .i64 (a0.af.get a1.ai.toNat).bn.Low),.p (.int .i64 (a0.af.get a1.ai.toNat).bn.High),.p (.int .i64 (a0.af.get a1.ai.toNat).Clock.Low),.p (.int .i64 (a0.af.get a1.ai.toNat).Clock.High),.p (.int .i64 (a0.af.get a1.ai.toNat).dH),.p (.int .i64 (a0.af.get a1.ai.toNat).Least),.p (.sl (a0.af.get a1.ai.toNat).aS.len 3 (λ i=>bG.enc ((a0.af.get a1.ai.toNat).aS.get i))),.p (.sl (a0.af.get a1.ai.toNat).Dead.len 1 (λ i=>bG.enc ((a0.af.get a1.ai.toNat).Dead.get i))),.p (.int .i64 a1.ai)])],[]⟩
theorem zGo (a0:ak) (a1:bz):(ziX E (a0,a1)).T k =
  (E.fP (a1.ai,0,(aO ((a0.af.len:Int) - 1)))).T λ r1 =>
  cond (!r1)
  (k ((⟨(⟨0,0,0,0,0,0,0,(⟨0,0⟩:bV),(⟨0,0⟩:bV),0,0,(⟨0,λ _=>default⟩:(Sl aS)),(⟨0,λ _=>default⟩:(Sl Int))⟩:ai),0⟩:placed),false))
  (aZ (decide (0<=a1.ai/\a1.ai < (a0.af.len:Int))) ((E.fP (a1.Channel,0,(aO ((a0.af.get a1.ai.toNat).bM - 1)))).T λ r2 =>
 cond (!r2)
 (k ((⟨(a0.af.get a1.ai.toNat),a1.ai⟩:placed),false))
 ((E.fP (a1.iT,1,(aO ((a0.af.get a1.ai.toNat).bM - a1.Channel)))).T λ r3 =>
 cond (!r3)
 (k ((⟨(a0.af.get a1.ai.toNat),a1.ai⟩:placed),false))
 ((E.fP (a1.yx,(a0.af.get a1.ai.toNat).Least,1000000)).T λ r4 =>
 cond (!r4)
 (k ((⟨(a0.af.get a1.ai.toNat),a1.ai⟩:placed),false))
 ((E.fP (a1.Time,(-1000000000),1000000000)).T λ r5 =>
 cond (!r5)
 (k ((⟨(a0.af.get a1.ai.toNat),a1.ai⟩:placed),false))
 (NE E E.N a0 a1 0 k)))))):=bJ.trans (by kernel_rfl)
theorem zee (n0:Nat) (a0:ak) (a1:bz) (v67:Int):NE E (n0+1) a0 a1 v67 k =
  cond (decide (v67 < ((a0.af.get a1.ai.toNat).Dead.len:Int)))
  (aZ (decide (0<=v67/\v67 < ((a0.af.get a1.ai.toNat).Dead.len:Int))) ((E.fP ((a0.af.get a1.ai.toNat).Dead.get v67.toNat,a1.Channel,(aO ((aO (a1.Channel+a1.iT)) - 1)))).T λ r1 =>
 cond r1
 (k ((⟨(a0.af.get a1.ai.toNat),a1.ai⟩:placed),false))
 (NE E n0 a0 a1 (aO (v67+1)) k)))
  (cond ((a0.af.get a1.ai.toNat).Kind == 2)
 (cond (a1.iT == 1)
 ((E.fP (a1.aS,0,1000000)).T λ r2 =>
 k ((⟨(a0.af.get a1.ai.toNat),a1.ai⟩:placed),r2))
 (k ((⟨(a0.af.get a1.ai.toNat),a1.ai⟩:placed),false)))
 (cond (a1.aS == 0)
 (cond ((a0.af.get a1.ai.toNat).Kind != 3)
 (k ((⟨(a0.af.get a1.ai.toNat),a1.ai⟩:placed),true))
 (k ((⟨(a0.af.get a1.ai.toNat),a1.ai⟩:placed),(a1.Time == 0))))
 (k ((⟨(a0.af.get a1.ai.toNat),a1.ai⟩:placed),false)))):=by kernel_rfl
end
theorem zGp [aJ] (E:Va) (jH:Ok ax 161 (ae.un E.fP)):Ok ax 112 (ae.un (ziX E)):=bg (aP (ay.nil.addF jH) (au (by kernel_rfl)))
structure ZN where
  N:Nat
abbrev zGq (E:ZN):bf:=dw Tabs.nil []
def zGr:bW:=aU ax 161 [] {}
def ziY (E:ZN):Int×Int×Int->ae (Bool):=ae.ty (aF ax E.N (zGq E) zGr 161)
section
variable (E:ZN){A:Type}(k:Bool->Option A)
theorem e161 (a0:Int) (a1:Int) (a2:Int):(ziY E (a0,a1,a2)).T k =
  cond (decide (a0 >= a1))
  (k (decide (a0<=a2)))
  (k false):=bJ.trans (by kernel_rfl)
end
theorem zGs [aJ] (E:ZN):Ok ax 161 (ae.un (ziY E)):=bg (aP ay.nil (au (by kernel_rfl)))
structure Vb where
  N:Nat
  c201:placed->ae (Bool)
  fP:Int×Int×Int->ae (Bool)
abbrev zyt (E:Vb):bf:=dw ((Tabs.nil.addF 201 (ae.un E.c201)).addF 161 (ae.un E.fP)) []
def zyu:bW:=aU ax 160 [] {}
def ziZ (E:Vb):ak->ae (Bool):=ae.ty (aF ax E.N (zyt E) zyu 160)
section
variable (E:Vb){A:Type}(k:Bool->Option A)
def BF (E:Vb) (n:Nat) (a0:ak) (v9:Int){A:Type}(k:Bool->Option A):Option A :=
  gV ax (zyt E) E.N zyu 160 [1,0,1,0] [.n n] (gY k)
    ⟨[(1,.cl (.ptr 1 0)),(7,eP a0.af),(8,.int (a0.af.len:Int)),(9,.int v9)],[(1,eB 24 a0)],[]⟩
theorem e160 (a0:ak):(ziZ E (a0)).T k =
  BF E E.N a0 0 k:=bJ.trans (by kernel_rfl)
theorem zef (n0:Nat) (a0:ak) (v9:Int):BF E (n0+1) a0 v9 k =
  cond (decide (v9 < (a0.af.len:Int)))
  (aZ (decide (0<=v9/\v9 < (a0.af.len:Int))) ((E.c201 (⟨(a0.af.get v9.toNat),v9⟩:placed)).T λ r1 =>
 cond (!r1)
 (k false)
 (cond (decide (v9 > 0))
 (aZ (decide (0<=(aO (v9 - 1))/\(aO (v9 - 1)) < (a0.af.len:Int))) (cond (decide ((a0.af.get v9.toNat).Z<=(a0.af.get (aO (v9 - 1)).toNat).Z))
 (k false)
 (BF E n0 a0 (aO (v9+1)) k)))
 (BF E n0 a0 (aO (v9+1)) k))))
  ((E.fP ((a0.af.len:Int),1,16)).T λ r2 =>
 k r2):=by kernel_rfl
end
theorem zGt [aJ] (E:Vb) (zpS:Ok ax 201 (ae.un E.c201)) (jH:Ok ax 161 (ae.un E.fP)):Ok ax 160 (ae.un (ziZ E)):=bg (aP ((ay.nil.addF zpS).addF jH) (au (by kernel_rfl)))
structure ZO where
  N:Nat
  fP:Int×Int×Int->ae (Bool)
abbrev zGu (E:ZO):bf:=dw (Tabs.nil.addF 161 (ae.un E.fP)) []
def zGv:bW:=aU ax 164 [] {}
def zi0 (E:ZO):bV×Int->ae (Bool):=ae.ty (aF ax E.N (zGu E) zGv 164)
section
variable (E:ZO){A:Type}(k:Bool->Option A)
theorem zGw (a0:bV) (a1:Int):(zi0 E (a0,a1)).T k =
  (E.fP (a0.Low,(aO (0 - a1)),a0.High)).T λ r1 =>
  cond r1
  (k (decide (a0.High<=a1)))
  (k false):=bJ.trans (by kernel_rfl)
end
theorem zGx [aJ] (E:ZO) (jH:Ok ax 161 (ae.un E.fP)):Ok ax 164 (ae.un (zi0 E)):=bg (aP (ay.nil.addF jH) (au (by kernel_rfl)))
structure QV where
  N:Nat
  fP:Int×Int×Int->ae (Bool)
  zb4:placed->ae (Bool)
  c232:placed->ae (Bool)
  c233:placed->ae (Bool)
  c234:placed->ae (Bool)
abbrev zpT (E:QV):bf:=dw (((((Tabs.nil.addF 161 (ae.un E.fP)).addF 235 (ae.un E.zb4)).addF 232 (ae.un E.c232)).addF 233 (ae.un E.c233)).addF 234 (ae.un E.c234)) []
def zpU:bW:=aU ax 201 [] {}
def zi1 (E:QV):placed->ae (Bool):=ae.ty (aF ax E.N (zpT E) zpU 201)
abbrev Vd (n:Int) (a:placed):placed:={ a with ai:={ a.ai with Kind:=n } }
section
variable (E:QV){A:Type}(k:Bool->Option A)
def He (E:QV) (a0:placed) (v16:Bool){A:Type}(k:Bool->Option A):Option A :=
  gV ax (zpT E) E.N zpU 201 [1,1,0,0] [.o 4] (gY k)
    ⟨[(16,.bool v16),(15,.int a0.ai.Kind),(14,.cl (.ptr 1 0)),(13,.cl (.ptr 1 0)),(1,.cl (.ptr 1 0)),(3,.cl (.ptr 3 0))],[(1,eB 185 a0),(3,.box 301 [.p (.nilf),.p (.fna 232 (bG.enc a0)),.p (.fna 233 (bG.enc a0)),.p (.fna 234 (bG.enc a0))])],[(2,1,0)]⟩
def sZ (E:QV) (n:Nat) (a0:placed) (v36:Int){A:Type}(k:Bool->Option A):Option A :=
  gV ax (zpT E) E.N zpU 201 [1,1,1,0,1,0] [.n n] (gY k)
    ⟨[(1,.cl (.ptr 1 0)),(34,eP a0.ai.Dead),(35,.int (a0.ai.Dead.len:Int)),(36,.int v36)],[(1,eB 185 a0)],[]⟩
theorem zGy (a0:placed):(zi1 E (a0)).T k =
  (E.fP (a0.ai.Kind,1,3)).T λ r1 =>
  He E a0 r1 k:=bJ.trans (by kernel_rfl)
theorem zi2 (a0:placed):He E a0 false k =
  k false:=by kernel_rfl
theorem zi3 (a0:placed):He E (Vd 1 a0) true k =
  (E.zb4 (Vd 1 a0)).T λ r1 =>
  cond (!r1)
  (k false)
  ((E.c232 (Vd 1 a0)).T λ r2 =>
 cond (!r2)
 (k false)
 (sZ E E.N (Vd 1 a0) 0 k)):=by kernel_rfl
theorem zi4 (a0:placed):He E (Vd 2 a0) true k =
  (E.zb4 (Vd 2 a0)).T λ r1 =>
  cond (!r1)
  (k false)
  ((E.c233 (Vd 2 a0)).T λ r2 =>
 cond (!r2)
 (k false)
 (sZ E E.N (Vd 2 a0) 0 k)):=by kernel_rfl
theorem zi5 (a0:placed):He E (Vd 3 a0) true k =
  (E.zb4 (Vd 3 a0)).T λ r1 =>
  cond (!r1)
  (k false)
  ((E.c234 (Vd 3 a0)).T λ r2 =>
 cond (!r2)
 (k false)
 (sZ E E.N (Vd 3 a0) 0 k)):=by kernel_rfl
theorem zeg (n0:Nat) (a0:placed) (v36:Int):sZ E (n0+1) a0 v36 k =
  cond (decide (v36 < (a0.ai.Dead.len:Int)))
  (aZ (decide (0<=v36/\v36 < (a0.ai.Dead.len:Int))) ((E.fP (a0.ai.Dead.get v36.toNat,0,(aO (a0.ai.bM - 1)))).T λ r1 =>
 cond (!r1)
 (k false)
 (cond (decide (v36 > 0))
 (aZ (decide (0<=(aO (v36 - 1))/\(aO (v36 - 1)) < (a0.ai.Dead.len:Int))) (cond (decide (a0.ai.Dead.get v36.toNat<=a0.ai.Dead.get (aO (v36 - 1)).toNat))
 (k false)
 (sZ E n0 a0 (aO (v36+1)) k)))
 (sZ E n0 a0 (aO (v36+1)) k))))
  (k (decide ((a0.ai.Dead.len:Int)<=100))):=by kernel_rfl
end
theorem zGz [aJ] (E:QV) (jH:Ok ax 161 (ae.un E.fP)) (zeh:Ok ax 235 (ae.un E.zb4)) (zpV:Ok ax 232 (ae.un E.c232)) (zpW:Ok ax 233 (ae.un E.c233)) (zpX:Ok ax 234 (ae.un E.c234)):Ok ax 201 (ae.un (zi1 E)):=bg (aP (((((ay.nil.addF jH).addF zeh).addF zpV).addF zpW).addF zpX) (au (by kernel_rfl)))
structure ZP where
  N:Nat
abbrev zGA (E:ZP):bf:=dw Tabs.nil []
def zGB:bW:=aU ax 232 [] {}
def zi6 (E:ZP):placed->ae (Bool):=ae.ty (aF ax E.N (zGA E) zGB 232)
section
variable (E:ZP){A:Type}(k:Bool->Option A)
theorem e232 (a0:placed):(zi6 E (a0)).T k =
  k ((a0.ai.aS.len:Int) == 0):=bJ.trans (by kernel_rfl)
end
theorem zGC [aJ] (E:ZP):Ok ax 232 (ae.un (zi6 E)):=bg (aP ay.nil (au (by kernel_rfl)))
structure Ve where
  N:Nat
  fP:Int×Int×Int->ae (Bool)
abbrev zyv (E:Ve):bf:=dw (Tabs.nil.addF 161 (ae.un E.fP)) []
def zyw:bW:=aU ax 233 [] {}
def zi7 (E:Ve):placed->ae (Bool):=ae.ty (aF ax E.N (zyv E) zyw 233)
section
variable (E:Ve){A:Type}(k:Bool->Option A)
def BG (E:Ve) (n:Nat) (a0:placed) (v9:Int){A:Type}(k:Bool->Option A):Option A :=
  gV ax (zyv E) E.N zyw 233 [1,0,1,0] [.n n] (gY k)
    ⟨[(1,.cl (.ptr 1 0)),(7,eP a0.ai.aS),(8,.int (a0.ai.aS.len:Int)),(9,.int v9)],[(1,eB 185 a0)],[]⟩
theorem e233 (a0:placed):(zi7 E (a0)).T k =
  BG E E.N a0 0 k:=bJ.trans (by kernel_rfl)
theorem zei (n0:Nat) (a0:placed) (v9:Int):BG E (n0+1) a0 v9 k =
  cond (decide (v9 < (a0.ai.aS.len:Int)))
  (aZ (decide (0<=v9/\v9 < (a0.ai.aS.len:Int))) ((E.fP ((a0.ai.aS.get v9.toNat).Time,0,1000000)).T λ r1 =>
 cond (!r1)
 (k false)
 ((E.fP ((a0.ai.aS.get v9.toNat).dI.Low,0,(a0.ai.aS.get v9.toNat).dI.High)).T λ r2 =>
 cond (!r2)
 (k false)
 (cond (decide ((a0.ai.aS.get v9.toNat).dI.High > (aO (a0.ai.aT.tdiv 2))))
 (k false)
 (cond (decide (v9 > 0))
 (aZ (decide (0<=(aO (v9 - 1))/\(aO (v9 - 1)) < (a0.ai.aS.len:Int))) (cond (decide ((a0.ai.aS.get v9.toNat).Time<=(a0.ai.aS.get (aO (v9 - 1)).toNat).Time))
 (k false)
 (aZ (decide (0<=(aO (v9 - 1))/\(aO (v9 - 1)) < (a0.ai.aS.len:Int))) (cond (decide ((a0.ai.aS.get v9.toNat).dI.Low < (a0.ai.aS.get (aO (v9 - 1)).toNat).dI.Low))
 (k false)
 (aZ (decide (0<=(aO (v9 - 1))/\(aO (v9 - 1)) < (a0.ai.aS.len:Int))) (cond (decide ((a0.ai.aS.get v9.toNat).dI.High < (a0.ai.aS.get (aO (v9 - 1)).toNat).dI.High))
 (k false)
 (BG E n0 a0 (aO (v9+1)) k)))))))
 (BG E n0 a0 (aO (v9+1)) k))))))
  ((E.fP ((a0.ai.aS.len:Int),1,50)).T λ r3 =>
 k r3):=by kernel_rfl
end
theorem zGD [aJ] (E:Ve) (jH:Ok ax 161 (ae.un E.fP)):Ok ax 233 (ae.un (zi7 E)):=bg (aP (ay.nil.addF jH) (au (by kernel_rfl)))
structure ZQ where
  N:Nat
abbrev zGE (E:ZQ):bf:=dw Tabs.nil []
def zGF:bW:=aU ax 234 [] {}
def zi8 (E:ZQ):placed->ae (Bool):=ae.ty (aF ax E.N (zGE E) zGF 234)
section
variable (E:ZQ){A:Type}(k:Bool->Option A)
theorem e234 (a0:placed):(zi8 E (a0)).T k =
  k ((a0.ai.aS.len:Int) == 0):=bJ.trans (by kernel_rfl)
end
theorem zGG [aJ] (E:ZQ):Ok ax 234 (ae.un (zi8 E)):=bg (aP ay.nil (au (by kernel_rfl)))
structure ZR where
  N:Nat
  fP:Int×Int×Int->ae (Bool)
  c164:bV×Int->ae (Bool)
abbrev zGH (E:ZR):bf:=dw ((Tabs.nil.addF 161 (ae.un E.fP)).addF 164 (ae.un E.c164)) []
def zGI:bW:=aU ax 235 [] {}
def zi9 (E:ZR):placed->ae (Bool):=ae.ty (aF ax E.N (zGH E) zGI 235)
section
variable (E:ZR){A:Type}(k:Bool->Option A)
theorem zGJ (a0:placed):(zi9 E (a0)).T k =
  (E.fP (a0.ai.View,1,2)).T λ r1 =>
  cond (!r1)
  (k false)
  ((E.fP (a0.ai.Z,0,100000)).T λ r2 =>
 cond (!r2)
 (k false)
 ((E.fP (a0.ai.First,(-1000000),1000000)).T λ r3 =>
 cond (!r3)
 (k false)
 ((E.fP (a0.ai.aT,2,100000)).T λ r4 =>
 cond (!r4)
 (k false)
 ((E.fP (a0.ai.bM,1,2000)).T λ r5 =>
 cond (!r5)
 (k false)
 ((E.fP (a0.ai.dE,0,100000)).T λ r6 =>
 cond (!r6)
 (k false)
 ((E.c164 (a0.ai.bn,1000000)).T λ r7 =>
 cond (!r7)
 (k false)
 ((E.c164 (a0.ai.Clock,1000000000)).T λ r8 =>
 cond (!r8)
 (k false)
 ((E.fP (a0.ai.dH,0,1000000)).T λ r9 =>
 cond (!r9)
 (k false)
 ((E.fP (a0.ai.Least,0,1000000)).T λ r10 =>
 cond (!r10)
 (k false)
 (cond (decide ((aO ((aO ((aO (a0.ai.First - a0.ai.aT)) - a0.ai.dE))+a0.ai.bn.Low)) >= (-1000000)))
 (k (decide ((aO ((aO ((aO (a0.ai.First+(aO ((aO (a0.ai.bM+1)) * a0.ai.aT))))+a0.ai.dE))+a0.ai.bn.High))<=1000000)))
 (k false))))))))))):=bJ.trans (by kernel_rfl)
end
theorem zGK [aJ] (E:ZR) (jH:Ok ax 161 (ae.un E.fP)) (QX:Ok ax 164 (ae.un E.c164)):Ok ax 235 (ae.un (zi9 E)):=bg (aP ((ay.nil.addF jH).addF QX) (au (by kernel_rfl)))
structure ZT where
  N:Nat
  c160:ak->ae (Bool)
  qH:ak×bz->ae (placed×Bool)
abbrev zGL (E:ZT):bf:=dw ((Tabs.nil.addF 160 (ae.un E.c160)).addF 112 (ae.un E.qH)) []
def zGM:bW:=aU ax 188 [] {}
def zja (E:ZT):ak×bz->ae (Bool):=ae.ty (aF ax E.N (zGL E) zGM 188)
section
variable (E:ZT){A:Type}(k:Bool->Option A)
theorem zGN (a0:ak) (a1:bz):(zja E (a0,a1)).T k =
  (E.c160 a0).T λ r1 =>
  cond (!r1)
  (k false)
  ((E.qH (a0,a1)).T λ r2 =>
 k r2.2):=bJ.trans (by kernel_rfl)
end
theorem zGO [aJ] (E:ZT) (xY:Ok ax 160 (ae.un E.c160)) (h112:Ok ax 112 (ae.un E.qH)):Ok ax 188 (ae.un (zja E)):=bg (aP ((ay.nil.addF xY).addF h112) (au (by kernel_rfl)))
structure ZU where
  N:Nat
  zb3:placed×Int×Int->ae (aB)
  zmp:placed×Int->ae (Int×Int)
abbrev zGP (E:ZU):bf:=dw ((Tabs.nil.addF 223 (ae.un E.zb3)).addF 224 (ae.un E.zmp)) []
def zGQ:bW:=aU ax 189 [] {}
def zjb (E:ZU):placed×bz->ae ((Sl aB)):=ae.ty (aF ax E.N (zGP E) zGQ 189)
section
variable (E:ZU){A:Type}(k:(Sl aB)->Option A)
theorem e189 (a0:placed) (a1:bz):(zjb E (a0,a1)).T k =
  cond (a0.ai.Kind != 2)
  (cond (decide ((aO ((aO (a0.ai.First+(aO ((aO ((aO (a1.Channel+a1.iT)) - 1)) * a0.ai.aT)))) - a0.ai.dE)) > (aO ((aO (a0.ai.First+(aO ((aO (a1.Channel+1)) * a0.ai.aT))))+a0.ai.dE))))
 (k (⟨0,λ _=>default⟩:(Sl aB)))
 ((E.zb3 (a0,(aO ((aO (a0.ai.First+(aO ((aO ((aO (a1.Channel+a1.iT)) - 1)) * a0.ai.aT)))) - a0.ai.dE)),(aO ((aO (a0.ai.First+(aO ((aO (a1.Channel+1)) * a0.ai.aT))))+a0.ai.dE)))).T λ r1 =>
 k (⟨1,(fun _=>r1)⟩:(Sl aB))))
  ((E.zmp (a0,a1.aS)).T λ r2 =>
 (E.zb3 (a0,(aO ((aO (a0.ai.First+(aO (a1.Channel * a0.ai.aT)))) - r2.2)),(aO ((aO (a0.ai.First+(aO (a1.Channel * a0.ai.aT)))) - r2.1)))).T λ r3 =>
 (E.zb3 (a0,(aO ((aO (a0.ai.First+(aO (a1.Channel * a0.ai.aT))))+r2.1)),(aO ((aO (a0.ai.First+(aO (a1.Channel * a0.ai.aT))))+r2.2)))).T λ r4 =>
 cond (decide (r3.High >= r4.Low))
 (k (⟨1,(λ _=>(⟨a0.ai.Z,r3.Low,r4.High⟩:aB))⟩:(Sl aB)))
 (k (⟨2,(QR [r3,r4])⟩:(Sl aB)))):=bJ.trans (by kernel_rfl)
end
theorem zGR [aJ] (E:ZU) (zpY:Ok ax 223 (ae.un E.zb3)) (zpZ:Ok ax 224 (ae.un E.zmp)):Ok ax 189 (ae.un (zjb E)):=bg (aP ((ay.nil.addF zpY).addF zpZ) (au (by kernel_rfl)))
structure ZV where
  N:Nat
abbrev zGS (E:ZV):bf:=dw Tabs.nil []
def zGT:bW:=aU ax 223 [] {}
def zjc (E:ZV):placed×Int×Int->ae (aB):=ae.ty (aF ax E.N (zGS E) zGT 223)
section
variable (E:ZV){A:Type}(k:aB->Option A)
theorem e223 (a0:placed) (a1:Int) (a2:Int):(zjc E (a0,a1,a2)).T k =
  k (⟨a0.ai.Z,(aO (a1+a0.ai.bn.Low)),(aO (a2+a0.ai.bn.High))⟩:aB):=bJ.trans (by kernel_rfl)
end
theorem zGU [aJ] (E:ZV):Ok ax 223 (ae.un (zjc E)):=bg (aP ay.nil (au (by kernel_rfl)))
structure QY where
  N:Nat
  zmz:(Pt (Sl aS))->ae (List (Int×aS))
abbrev zp0 (E:QY):bf:=dw ((Tabs.nil.addF 246 (aF ax E.N (dw Tabs.nil []) (aU ax 246 [] {}) 246)).addI 251 (ae.unI E.zmz)) []
def zp1:bW:=aU ax 224 [] {}
def zjd (E:QY):placed×Int->ae (Int×Int):=ae.ty (aF ax E.N (zp0 E) zp1 224)
section
variable (E:QY){A:Type}(k:(Int×Int)->Option A)
def Hf (E:QY) (n:Nat) (a0:placed) (a1:Int) (v6:Int) (v20:Int) (zu:Int){A:Type}(k:(Int×Int)->Option A):Option A :=
  gV ax (zp0 E) E.N zp1 224 [1,1,0,1,0] [.n n] (gY k)
    ⟨[(2,.cl (.ptr 2 0)),(3,.cl (.ptr 3 0)),(6,.int v6),(7,.cl (.ptr 7 0)),(18,eP a0.ai.aS),(19,.int (a0.ai.aS.len:Int)),(20,.int v20)],[(2,eB 185 a0),(3,eB 3 a1),(7,eB 3 zu)],[]⟩
def BH (E:QY) (l:List (Int×aS)) (a0:placed) (a1:Int) (v6:Int) (zu:Int){A:Type}(k:(Int×Int)->Option A):Option A :=
  gV ax (zp0 E) E.N zp1 224 [1,1,1,0,1,0] [.y (l.map dC.enc)] (gY k)
    ⟨[(2,.cl (.ptr 2 0)),(3,.cl (.ptr 3 0)),(6,.int v6),(7,.cl (.ptr 7 0)),(39,.p (.fn 251 [] [.fp [.sl a0.ai.aS.len 3 (λ i=>bG.enc (a0.ai.aS.get i))] 0]))],[(2,eB 185 a0),(3,eB 3 a1),(7,eB 3 zu)],[]⟩
theorem e224 (a0:placed) (a1:Int):(zjd E (a0,a1)).T k =
  Hf E E.N a0 a1 0 0 (aO (a0.ai.aT.tdiv 2)) k:=bJ.trans (by kernel_rfl)
theorem zej (n0:Nat) (a0:placed) (a1:Int) (v6:Int) (v20:Int) (zu:Int):Hf E (n0+1) a0 a1 v6 v20 zu k =
  cond (decide (v20 < (a0.ai.aS.len:Int)))
  (aZ (decide (0<=v20/\v20 < (a0.ai.aS.len:Int))) (cond (decide ((a0.ai.aS.get v20.toNat).Time<=(aO (a1 - a0.ai.dH))))
 (Hf E n0 a0 a1 (a0.ai.aS.get v20.toNat).dI.Low (aO (v20+1)) zu k)
 (Hf E n0 a0 a1 v6 (aO (v20+1)) zu k)))
  ((E.zmz (⟨a0.ai.aS⟩:(Pt (Sl aS)))).T λ r1 =>
 BH E r1 a0 a1 v6 zu k):=by kernel_rfl
theorem zje (a0:placed) (a1:Int) (v6:Int) (zu:Int):BH E [] a0 a1 v6 zu k =
  k (v6,zu):=by kernel_rfl
theorem zp2 (y:Int×aS) (l0:List (Int×aS)) (a0:placed) (a1:Int) (v6:Int) (zu:Int):BH E (y :: l0) a0 a1 v6 zu k =
  cond (decide (y.2.Time >= (aO (a1+a0.ai.dH))))
  (BH E l0 a0 a1 v6 y.2.dI.High k)
  (BH E l0 a0 a1 v6 zu k):=by kernel_rfl
end
theorem zGV [aJ] (E:QY) (zGW:qL ax 251 (ae.unI E.zmz)):Ok ax 224 (ae.un (zjd E)):=bg (aP ((ay.nil.addF (aP ay.nil (au (by kernel_rfl)))).addI zGW) (au (by kernel_rfl)))
structure QZ where
  N:Nat
abbrev zyx (E:QZ):bf:=dw Tabs.nil []
def zyy:bW:=aU ax 251 [0] { yl:=[3] }
def zyz (E:QZ) (c:List PA):YO:=aI ax (zyx E) E.N zyy 251 c
def zp3 (E:QZ):(Pt (Sl aS))->ae (List (Int×aS)):=ae.tyI λ c=>.opt (zyz E c)
section
variable (E:QZ)
def NF (E:QZ) (n:Nat) (a1:(Pt (Sl aS))) (v3:Int):YO :=
  ptY ax (zyx E) E.N zyy 251 [1,0] [n]
    ⟨[(0,.cl (.vec 4095)),(1,eP a1),(3,.int v3)],[(4095,.gone)],[]⟩
theorem e251 (a1:(Pt (Sl aS))):zyz E (dC.enc ((a1):(Pt (Sl aS)))) =
  NF E E.N a1 (aO ((a1.v.len:Int) - 1)):=by kernel_rfl
theorem zek (n0:Nat) (a1:(Pt (Sl aS))) (v3:Int):NF E (n0+1) a1 v3 =
  cond (decide (v3 >= 0))
  (aZ (decide (0<=v3/\v3 < (a1.v.len:Int))) (yT (dC.enc ((v3,(a1.v.get v3.toNat)):Int×aS)) (some [])
 (NF E n0 a1 (aO (v3 - 1)))))
  (some []):=by kernel_rfl
end
theorem zGX (E:QZ):qL ax 251 (ae.unI (zp3 E)):=Nr (GU ay.nil (au (by kernel_rfl)))
theorem aY {x:Int}(h1 : -9223372036854775808<=x) (h2:x<=9223372036854775807):aO x=x:=by
 have hb:IntKind.i64.bits=64:=rfl;have hs:IntKind.i64.signed=true:=rfl;unfold aO IntKind.wrap;rw[hb,hs];simp only[Bool.true_and,decide_eq_true_eq];split <;> omega
theorem bQ {i:Nat}(h:i < 4611686018427387904):aO ((i:Int)+1)=((i+1:Nat):Int):=by rw[aY (by omega) (by omega)];omega
theorem BI {i:Nat}(h:i < 4611686018427387904):aO ((i:Int) - 1)=(i:Int) - 1:=aY (by omega) (by omega)
section
variable {A ρ:Type}
theorem bi {r:ρ}{k:ρ->Option A} : (ae.ok r).T k=k r:=rfl
theorem bC {p:Prop} [Decidable p] {x:Option A}(h:p):aZ (decide p) x=x:=by rw[decide_eq_true h];rfl
theorem zyA {p:Prop} [Decidable p] {x y:Option A}(h:p):cond (decide p) x y=x:=by rw[decide_eq_true h];rfl
theorem zyB {p:Prop} [Decidable p] {x y:Option A}(h : ¬ p):cond (decide p) x y=y:=by rw[decide_eq_false h];rfl
theorem kc {τ:Type}(f:τ->Option A) (b:Bool) (x y:τ):cond b (f x) (f y)=f (cond b x y):=by cases b <;> rfl
theorem two (Y s:Option A):∃ f:Bool->Option A,f true=Y/\f false=s:=⟨λ b=>cond b Y s,rfl,rfl⟩
theorem zel (k:Bool->Option A) (a b:Bool):cond a (k b) (k false)=k (a && b):=by cases a <;> rfl
end
theorem dA {p:Nat->Bool}{n:Nat} : dS p n=true↔∀ i,i < n->p i=true:=by
 refine⟨λ h i hi=>LQ h i hi,λ h=>?_⟩
 induction n with
 | zero=>rfl
 | succ n ih=>simp only[dS,ih λ i hi=>h i (by omega),h n (by omega),Bool.and_self]
section
variable {A:Type}
theorem zyC {L : Nat → Int → Option A} {p : Nat → Bool} {m : Nat} {fin stop : Option A} (hm : m < 4611686018427387904)
    (hL:∀ n i,i < m->(∀ j,j < i->p j=true)->L (n+1) (i:Int)=cond (p i) (L n (aO ((i:Int)+1))) stop) (hE:∀ n,(∀ j,j < m->p j=true)->L (n+1) (m:Int)=fin) :
    ∀ n,m < n->L n 0=cond (dS p m) fin stop:=by
  have key:∀ (d i n:Nat),i+d=m->d < n->(∀ j,j < i->p j=true)->L n (i:Int)=cond (dS p m) fin stop:=by
    intro d
    induction d with
    | zero =>
      intro i n hi hn hp;obtain⟨n,rfl⟩:∃ n',n=n'+1:=⟨n - 1,by omega⟩;have e:i=m:=by omega
      subst e;rw[hE n hp,dA.2 hp];rfl
    | succ d ih =>
      intro i n hi hn hp;obtain⟨n,rfl⟩:∃ n',n=n'+1:=⟨n - 1,by omega⟩;rw[hL n i (by omega) hp];cases hi':p i with
      | true =>
        rw[cond_true,bQ (by omega)];exact ih (i+1) n (by omega) (by omega) λ j hj=>by
          by_cases e:j=i
          · rw[e];exact hi'
          · exact hp j (by omega)
      | false =>
        have:dS p m=false:=by
          cases e:dS p m with
          | false=>rfl
          | true=>rw[dA.1 e i (by omega)] at hi';cases hi'
        rw[this];rfl
  intro n hn;exact key m 0 n (by omega) hn λ j hj=>absurd hj (by omega)
theorem loopA {L : Nat → Int → Option A} {p : Nat → Bool} {m : Nat} {fin stop : Option A} (hm : m < 4611686018427387904)
    (hL:∀ n i,i < m->L (n+1) (i:Int)=cond (p i) (L n (aO ((i:Int)+1))) stop) (hE:∀ n,L (n+1) (m:Int)=fin) :
    ∀ n,m < n->L n 0=cond (dS p m) fin stop:=zyC hm (λ n i hi _=>hL n i hi) λ n _=>hE n
end
theorem Hg {p q:Nat->Bool}{n:Nat}(h:∀ i,i < n->p i=q i):dS p n=dS q n:=by
 rw[Bool.eq_iff_iff,dA,dA];exact⟨λ g i hi=>by rw[<- h i hi];exact g i hi,λ g i hi=>by rw[h i hi];exact g i hi⟩
def inB (x a b:Int):Bool:=decide (a<=x/\x<=b)
abbrev yA (C:Int×Int×Int->ae Bool):Prop:=∀ x a b,C (x,a,b)=.ok (inB x a b)
theorem s73 {E:E73} : yA (F73 E):=λ x a b=>ae.ext λ k=>by rw[e73,kc k,bi];congr 1;simp only[inB];grind
theorem s86 {E:E86} : yA (F86 E):=λ x a b=>ae.ext λ k=>by rw[e86,kc k,bi];congr 1;simp only[inB];grind
theorem zGY {E:ZK} : yA (ziU E):=λ x a b=>ae.ext λ k=>by rw[zGf,kc k,bi];congr 1;simp only[inB];grind
theorem zGZ {E:ZN} : yA (ziY E):=λ x a b=>ae.ext λ k=>by rw[e161,kc k,bi];congr 1;simp only[inB];grind
abbrev zp4 (C:Int->ae Bool):Prop:=∀ x,C x=.ok (inB x (-1000000) 1000000)
theorem zG0 {E:ZH}(BC:yA E.oZ):zp4 (ziP E):=λ x=>ae.ext λ k=>by rw[zFV];simp only[BC,bi]
abbrev Big (N:Nat):Prop:=100000 < N
def stB (l:Sl aS) (zem:Int) (i:Nat):Bool :=
  inB (l.get i).Time 0 1000000 && inB (l.get i).dI.Low 0 (l.get i).dI.High && decide ((l.get i).dI.High ≤ aO (zem.tdiv 2)) &&
    (decide (i=0) || decide ((l.get (i - 1)).Time < (l.get i).Time) && decide ((l.get (i - 1)).dI.Low<=(l.get i).dI.Low) && decide ((l.get (i - 1)).dI.High<=(l.get i).dI.High))
def ou (l:Sl aS) (zem:Int):Bool:=dS (stB l zem) l.len && inB l.len 1 50
theorem ZW {i n:Nat}(h:i < n) (hn:n < 4611686018427387904) (h0:(i:Int) > 0):(0<=aO ((i:Int) - 1)/\aO ((i:Int) - 1) < (n:Int))/\(aO ((i:Int) - 1)).toNat=i - 1:=by
 rw[BI (by omega)];omega
abbrev zp5 (C:Sl aS×Int->ae Bool):Prop:=∀ l p,l.len<=60->C (l,p)=.ok (ou l p)
theorem zG1 {E:U7}(N:Big E.N) (BC:yA E.oZ):zp5 (ziQ E):=λ l p h=>ae.ext λ k=>by
 rw[zFX];refine (loopA (L:=λ n v=>BD E n l p v k) (p:=stB l p) (m:=l.len) (fin:=k (inB l.len 1 50)) (stop:=k false) (by omega) (λ n i hi=>?_) (λ n=>?_) _ (by omega)).trans ?_
 ·obtain ⟨f, h1, h2⟩ := two (BD E n l p (aO ((i : Int) + 1)) k) (k false);rw[zea,bC (by omega),<- h1,<- h2];simp only[BC,bi,Int.toNat_natCast];by_cases h0:(i:Int) > 0
  ·obtain ⟨p1, p2⟩ := ZW hi (by omega) h0;simp only[bC p1,p2,kc f];congr 1;simp only[stB,inB];grind
  ·simp only [decide_eq_false h0, cond_false, kc f];congr 1;simp only[stB,inB];grind
 ·rw[zea];simp only[BC,bi,Int.lt_irrefl,decide_false,cond_false]
 ·exact zel k _ _
def lfP (p:ai):Int:=aO (aO (aO (p.First - p.aT) - p.dE)+p.bn.Low)
def rtP (p:ai):Int:=aO (aO (aO (p.First+aO (aO (p.bM+1) * p.aT))+p.dE)+p.bn.High)
def Q4 (p:ai):Prop:=(1<=p.Kind/\p.Kind<=3)/\(1<=p.View/\p.View<=2)/\(0<=p.Z/\p.Z<=100000)/\(-1000000<=p.First/\p.First<=1000000)/\(2<=p.aT/\p.aT<=100000)/\(1<=p.bM/\p.bM<=2000)/\(0<=p.dE/\p.dE<=100000) /\
 (-1000000<=p.bn.Low/\p.bn.Low<=p.bn.High/\p.bn.High<=1000000)/\(-1000000000<=p.Clock.Low/\p.Clock.Low<=p.Clock.High/\p.Clock.High<=1000000000)/\(0<=p.dH/\p.dH<=1000000)/\(0<=p.Least/\p.Least<=1000000)/\-1000000<=lfP p/\rtP p<=1000000
instance (p:ai):Decidable (Q4 p):=by unfold Q4;infer_instance
theorem tq {a b:Int}(ha:0<=a/\a<=10000) (hb:0<=b/\b<=100000):0<=a * b/\a * b<=1000000000 :=
 ⟨Int.mul_nonneg ha.1 hb.1,by have:=Int.mul_le_mul ha.2 hb.2 hb.1 (by omega);omega⟩
theorem zyD {p : ai} (h1 : -1000000 ≤ p.First ∧ p.First ≤ 1000000) (h2 : 2 ≤ p.aT ∧ p.aT ≤ 100000) (h3 : 1 ≤ p.bM ∧ p.bM ≤ 2000) (h4 : 0 ≤ p.dE ∧ p.dE ≤ 100000)
    (h5 : -1000000<=p.bn.Low/\p.bn.Low<=p.bn.High/\p.bn.High<=1000000) :
    lfP p=p.First - p.aT - p.dE+p.bn.Low/\rtP p=p.First+(p.bM+1) * p.aT+p.dE+p.bn.High/\lfP p < rtP p:=by
  obtain⟨q1,q2⟩:=tq (a:=p.bM+1) (b:=p.aT) (by omega) (by omega);have e1:lfP p=p.First - p.aT - p.dE+p.bn.Low:=by
    unfold lfP;rw[aY (x:=p.First - p.aT) (by omega) (by omega),aY (x:=p.First - p.aT - p.dE) (by omega) (by omega),aY (by omega) (by omega)]
  have e2:rtP p=p.First+(p.bM+1) * p.aT+p.dE+p.bn.High:=by
    unfold rtP;rw[aY (x:=p.bM+1) (by omega) (by omega),aY (x:=(p.bM+1) * p.aT) (by omega) (by omega),aY (x:=p.First+(p.bM+1) * p.aT) (by omega) (by omega),aY (x:=p.First+(p.bM+1) * p.aT+p.dE) (by omega) (by omega),aY (by omega) (by omega)]
  exact⟨e1,e2,by omega⟩
def dB (p:ai) (i:Nat):Bool:=inB (p.Dead.get i) 0 (aO (p.bM - 1)) && (decide (i=0) || decide (p.Dead.get (i - 1) < p.Dead.get i))
def ZX (p:ai):Bool:=decide (Q4 p) && cond (p.Kind == 2) (ou p.aS p.aT) (decide (p.aS.len=0)) && decide (p.Dead.len<=100) && dS (dB p) p.Dead.len
def Few (p:ai):Prop:=p.aS.len<=60/\p.Dead.len<=110
abbrev zp6 (C:ai->ae Bool):Prop:=∀ p,Few p->C p=.ok (ZX p)
theorem zG2 {E:JG}(N:Big E.N) (BC:yA E.oZ) (zpH:zp4 E.OW) (zpI:zp5 E.c175):zp6 (ziL E):=λ p h=>ae.ext λ k=>by
 have hl:=h.1;have hd:=h.2;have lp:qx E E.N p 0 k=k (dS (dB p) p.Dead.len):=by
  refine (loopA (L:=λ n v=>qx E n p v k) (p:=dB p) (m:=p.Dead.len) (fin:=k true) (stop:=k false) (by omega) (λ n i hi=>?_) (λ n=>?_) _ (by omega)).trans ?_
  ·obtain ⟨f, h1, h2⟩ := two (qx E n p (aO ((i : Int) + 1)) k) (k false);rw[zd5,bC (by omega),<- h1,<- h2];simp only[BC,bi,Int.toNat_natCast];by_cases h0:(i:Int) > 0
   ·obtain ⟨p1, p2⟩ := ZW hi (by omega) h0;simp only[bC p1,bC (show 0<=(i:Int)/\(i:Int) < (p.Dead.len:Int) by omega),p2,kc f];congr 1;simp only[dB];grind
   ·simp only [decide_eq_false h0, cond_false, kc f];congr 1;simp only[dB];grind
  ·rw[zd5];simp only[Int.lt_irrefl,decide_false,cond_false]
  ·rw[kc k];congr 1;cases dS (dB p) p.Dead.len <;> rfl
 rw[zFN];simp only[zpE,zpF,zpG,BC,zpH,zpI _ _ hl,bi,lp,kc k];congr 1;have lr:=@zyD p;have e1:aO (aO (aO (p.First - p.aT) - p.dE)+p.bn.Low)=lfP p:=rfl;have e2:aO (aO (aO (p.First+aO (aO (p.bM+1) * p.aT))+p.dE)+p.bn.High)=rtP p:=rfl;simp only[e1,e2,ZX,Q4,inB];generalize ou p.aS p.aT=A;generalize dS (dB p) p.Dead.len=B
 grind (splits:=60)
def qy (s:ak):Prop:=s.af.len<=20/\∀ i,i < s.af.len->Few (s.af.get i)
def seB (s:ak) (i:Nat):Bool:=ZX (s.af.get i) && (decide (i=0) || decide ((s.af.get (i - 1)).Z < (s.af.get i).Z))
def dW (s:ak):Bool:=inB s.af.len 1 16 && dS (seB s) s.af.len
abbrev QSe (C:ak->ae Bool):Prop:=∀ s,qy s->C s=.ok (dW s)
theorem s61 {E:E61}(N:Big E.N) (BC:yA E.oZ) (zpy:zp6 E.c124):QSe (F61 E):=λ s h=>ae.ext λ k=>by
 have hl:=h.1;rw[e61];have lp:G5 E E.N s 0 k=k (dS (seB s) s.af.len):=by
  refine (loopA (L:=λ n v=>G5 E n s v k) (p:=seB s) (m:=s.af.len) (fin:=k true) (stop:=k false) (by omega) (λ n i hi=>?_) (λ n=>?_) _ (by omega)).trans ?_
  ·obtain ⟨f, h1, h2⟩ := two (G5 E n s (aO ((i : Int) + 1)) k) (k false);rw[zm2,bC (by omega),<- h1,<- h2];simp only[Int.toNat_natCast,zpy _ (h.2 i hi),bi];by_cases h0:(i:Int) > 0
   ·obtain ⟨p1, p2⟩ := ZW hi (by omega) h0;simp only[bC p1,bC (show 0<=(i:Int)/\(i:Int) < (s.af.len:Int) by omega),p2,kc f];congr 1;simp only[seB];grind
   ·simp only [decide_eq_false h0, cond_false, kc f];congr 1;simp only[seB];grind
  ·rw[zm2];simp only[Int.lt_irrefl,decide_false,cond_false]
  ·rw[kc k];congr 1;cases dS (seB s) s.af.len <;> rfl
 simp only[BC,bi,lp,kc k];congr 1;simp only[dW];cases inB s.af.len 1 16 <;> rfl
/-! The program. -/
abbrev zjg (C:bV×Int->ae Bool):Prop:=∀ x m,0<=m/\m<=1000000000->C (x,m)=.ok (decide (-m<=x.Low/\x.Low<=x.High/\x.High<=m))
theorem zG3 {E:ZO}(jH:yA E.fP):zjg (zi0 E):=λ x m h=>ae.ext λ k=>by
 rw[zGw];simp only[jH,bi,aY (x:=0 - m) (by omega) (by omega),kc k];congr 1;simp only[inB];grind
def shB (p:ai):Bool:=decide ((1<=p.View/\p.View<=2)/\(0<=p.Z/\p.Z<=100000)/\(-1000000<=p.First/\p.First<=1000000)/\(2<=p.aT/\p.aT<=100000)/\(1<=p.bM/\p.bM<=2000)/\(0<=p.dE/\p.dE<=100000) /\
 (-1000000<=p.bn.Low/\p.bn.Low<=p.bn.High/\p.bn.High<=1000000)/\(-1000000000<=p.Clock.Low/\p.Clock.Low<=p.Clock.High/\p.Clock.High<=1000000000)/\(0<=p.dH/\p.dH<=1000000)/\(0<=p.Least/\p.Least<=1000000)/\-1000000<=lfP p/\rtP p<=1000000)
abbrev zp7 (C:placed->ae Bool):Prop:=∀ p,C p=.ok (shB p.ai)
theorem zG4 {E:ZR}(jH:yA E.fP) (QX:zjg E.c164):zp7 (zi9 E):=λ p=>ae.ext λ k=>by
 rw[zGJ];simp only[jH,QX _ _ (show (0:Int)<=1000000/\(1000000:Int)<=1000000000 by omega),QX _ _ (show (0:Int)<=1000000000/\(1000000000:Int)<=1000000000 by omega),bi,kc k];congr 1;have e1:aO (aO (aO (p.ai.First - p.ai.aT) - p.ai.dE)+p.ai.bn.Low)=lfP p.ai:=rfl;have e2:aO (aO (aO (p.ai.First+aO (aO (p.ai.bM+1) * p.ai.aT))+p.ai.dE)+p.ai.bn.High)=rtP p.ai:=rfl;simp only[e1,e2,shB,inB]
 grind (splits:=60)
abbrev ZY (C:placed->ae Bool):Prop:=∀ p,C p=.ok (decide (p.ai.aS.len=0))
theorem zG5 {E:ZP} : ZY (zi6 E):=λ p=>ae.ext λ k=>by
 rw[e232,bi];congr 1;grind
theorem zG6 {E:ZQ} : ZY (zi8 E):=λ p=>ae.ext λ k=>by
 rw[e234,bi];congr 1;grind
abbrev zp8 (C:placed->ae Bool):Prop:=∀ q,Few q.ai->C q=.ok (ou q.ai.aS q.ai.aT)
theorem zG7 {E:Ve}(N:Big E.N) (jH:yA E.fP):zp8 (zi7 E):=λ q h=>ae.ext λ k=>by
 rw[e233];have h':=h.1;refine (loopA (L:=λ n v=>BG E n q v k) (p:=stB q.ai.aS q.ai.aT) (m:=q.ai.aS.len) (fin:=k (inB q.ai.aS.len 1 50)) (stop:=k false) (by omega) (λ n i hi=>?_) (λ n=>?_) _ (by omega)).trans ?_
 ·obtain ⟨f, h1, h2⟩ := two (BG E n q (aO ((i : Int) + 1)) k) (k false);rw[zei,bC (by omega),<- h1,<- h2];simp only[jH,bi,Int.toNat_natCast];by_cases h0:(i:Int) > 0
  ·obtain ⟨p1, p2⟩ := ZW hi (by omega) h0;simp only[bC p1,p2,kc f];congr 1;simp only[stB,inB];grind
  ·simp only [decide_eq_false h0, cond_false, kc f];congr 1;simp only[stB,inB];grind
 ·rw[zei];simp only[jH,bi,Int.lt_irrefl,decide_false,cond_false]
 ·exact zel k _ _
abbrev zp9 (C:placed->ae Bool):Prop:=∀ q,Few q.ai->C q=.ok (ZX q.ai)
theorem zG8 {E:QV}(N:Big E.N) (jH:yA E.fP) (zeh:zp7 E.zb4) (zpV:ZY E.c232) (zpW:zp8 E.c233) (zpX:ZY E.c234):zp9 (zi1 E):=λ q h=>ae.ext λ k=>by
 have lp:∀ q:placed,Few q.ai->sZ E E.N q 0 k=k (decide (q.ai.Dead.len<=100) && dS (dB q.ai) q.ai.Dead.len):=by
  intro q h;have h':=h.2;refine (loopA (L:=λ n v=>sZ E n q v k) (p:=dB q.ai) (m:=q.ai.Dead.len) (fin:=k (decide (q.ai.Dead.len<=100))) (stop:=k false) (by omega) (λ n i hi=>?_) (λ n=>?_) _ (by omega)).trans ?_
  ·obtain ⟨f, h1, h2⟩ := two (sZ E n q (aO ((i : Int) + 1)) k) (k false);rw[zeg,bC (by omega),<- h1,<- h2];simp only[jH,bi,Int.toNat_natCast];by_cases h0:(i:Int) > 0
   ·obtain ⟨p1, p2⟩ := ZW hi (by omega) h0;simp only[bC p1,p2,kc f];congr 1;simp only[dB];grind
   ·simp only [decide_eq_false h0, cond_false, kc f];congr 1;simp only[dB];grind
  ·rw[zeg];simp only[Int.lt_irrefl,decide_false,cond_false];congr 1;grind
  ·rw[zel,Bool.and_comm]
 rw[zGy];simp only[jH,bi];have fin:ZX q.ai=(inB q.ai.Kind 1 3 && shB q.ai && cond (q.ai.Kind == 2) (ou q.ai.aS q.ai.aT) (decide (q.ai.aS.len=0)) && (decide (q.ai.Dead.len<=100) && dS (dB q.ai) q.ai.Dead.len)):=by
  simp only[ZX,Q4,shB,inB];generalize ou q.ai.aS q.ai.aT=A;generalize dS (dB q.ai) q.ai.Dead.len=B
  grind (splits:=60)
 rw[fin];cases hk:inB q.ai.Kind 1 3 with
 | false=>exact zi2 _ _ _
 | true =>
  simp only[inB,decide_eq_true_eq] at hk;have hc:q.ai.Kind=1\/q.ai.Kind=2\/q.ai.Kind=3:=by omega
  obtain⟨⟨kd,vw,z,fi,pi,st,sp,of,cl,ji,le,dr,de⟩,ix⟩:=q;rcases hc with e | e | e <;> simp only at e <;> subst e
  ·refine (zi3 E k ⟨⟨1, vw, z, fi, pi, st, sp, of, cl, ji, le, dr, de⟩, ix⟩).trans ?_;simp only[zeh _,zpV _,bi,lp ⟨⟨1,vw,z,fi,pi,st,sp,of,cl,ji,le,dr,de⟩,ix⟩ h,kc k,Vd];congr 1;grind
  ·refine (zi4 E k ⟨⟨2, vw, z, fi, pi, st, sp, of, cl, ji, le, dr, de⟩, ix⟩).trans ?_;simp only[zeh _,zpW ⟨⟨2,vw,z,fi,pi,st,sp,of,cl,ji,le,dr,de⟩,ix⟩ h,bi,lp ⟨⟨2,vw,z,fi,pi,st,sp,of,cl,ji,le,dr,de⟩,ix⟩ h,kc k,Vd];congr 1;grind
  ·refine (zi5 E k ⟨⟨3, vw, z, fi, pi, st, sp, of, cl, ji, le, dr, de⟩, ix⟩).trans ?_;simp only[zeh _,zpX _,bi,lp ⟨⟨3,vw,z,fi,pi,st,sp,of,cl,ji,le,dr,de⟩,ix⟩ h,kc k,Vd];congr 1;grind
theorem zG9 {E:Vb}(N:Big E.N) (zpS:zp9 E.c201) (jH:yA E.fP):QSe (ziZ E):=λ s h=>ae.ext λ k=>by
 rw[e160];have h':=h.1;refine (loopA (L:=λ n v=>BF E n s v k) (p:=seB s) (m:=s.af.len) (fin:=k (inB s.af.len 1 16)) (stop:=k false) (by omega) (λ n i hi=>?_) (λ n=>?_) _ (by omega)).trans ?_
 ·obtain ⟨f, h1, h2⟩ := two (BF E n s (aO ((i : Int) + 1)) k) (k false);rw[zef,bC (by omega),<- h1,<- h2];simp only[Int.toNat_natCast,zpS ⟨s.af.get i,(i:Int)⟩ (h.2 i hi),bi];by_cases h0:(i:Int) > 0
  ·obtain ⟨p1, p2⟩ := ZW hi (by omega) h0;simp only[bC p1,p2,kc f];congr 1;simp only[seB];grind
  ·simp only [decide_eq_false h0, cond_false, kc f];congr 1;simp only[seB];grind
 ·rw[zef];simp only[jH,bi,Int.lt_irrefl,decide_false,cond_false]
 ·rw[zel,Bool.and_comm];rfl
abbrev zqa (C:ak->ae Int):Prop:=∀ s,qy s->C s=.ok (cond (dW s) 0 2)
theorem zHa {E:ZJ}(xY:QSe E.c160):zqa (ziT E):=λ s h=>ae.ext λ k=>by
 rw[zGb];simp only[xY s h,bi,kc k];congr 1;cases dW s <;> rfl
theorem kz {A:Type}{X:Nat->Nat->Option A}{m:Nat}{fin:Option A}(hL:∀ n i,i < m->X (n+1) i=X n (i+1)) (hE:∀ n,X (n+1) m=fin):∀ n,m < n->X n 0=fin:=by
 have key:∀ d i n,i+d=m->d < n->X n i=fin:=by
  intro d
  induction d with
  | zero =>
   intro i n hi hn;obtain⟨n,rfl⟩:∃ n',n=n'+1:=⟨n - 1,by omega⟩;have e:i=m:=by omega
   subst e;exact hE n
  | succ d ih =>
   intro i n hi hn;obtain⟨n,rfl⟩:∃ n',n=n'+1:=⟨n - 1,by omega⟩;rw[hL n i (by omega)];exact ih (i+1) n (by omega) (by omega)
 intro n hn;exact key m 0 n (by omega) hn
theorem nN {s:ak}(h:dW s=true):1<=s.af.len/\s.af.len<=16:=by
 simp only[dW,inB,fA,decide_eq_true_eq] at h;omega
theorem Hl {s:ak}(h:dW s=true){i:Nat}(hi:i < s.af.len):ZX (s.af.get i)=true:=by
 simp only[dW,fA,dA] at h;have:=h.2 i hi;simp only[seB,fA] at this;exact this.1
theorem zyE {p:ai}(h:ZX p=true):Q4 p:=by
 simp only[ZX,fA,decide_eq_true_eq] at h;exact h.1.1.1
theorem ni {s:ak}(h:dW s=true){i:Nat}(hi:i < s.af.len):Q4 (s.af.get i):=zyE (Hl h hi)
def knB (p:ai) (h:bz):Bool:=cond (p.Kind == 2) (decide (h.iT=1) && inB h.aS 0 1000000) (cond (p.Kind == 3) (decide (h.aS=0) && decide (h.Time=0)) (decide (h.aS=0)))
def lvB (p:ai) (h:bz):Bool:=dS (λ j=>!inB (p.Dead.get j) h.Channel (h.Channel+h.iT - 1)) p.Dead.len
def hpB (p:ai) (h:bz):Bool:=inB h.Channel 0 (p.bM - 1) && inB h.iT 1 (p.bM - h.Channel) && inB h.yx p.Least 1000000 && inB h.Time (-1000000000) 1000000000 && lvB p h && knB p h
def jR (s:ak) (h:bz):Bool:=decide (0<=h.ai/\h.ai < s.af.len) && hpB (s.af.get h.ai.toNat) h
abbrev zjh (C:ai×Int->ae Bool):Prop:=∀ p c,Few p->C (p,c)=.ok (!dS (λ j=>!decide (p.Dead.get j=c)) p.Dead.len)
theorem zHb {E:U4}(N:Big E.N):zjh (ziN E):=λ p c h=>ae.ext λ k=>by
 have hd:=h.2;rw[e137];refine (loopA (L:=λ n v=>G8 E n p c v k) (p:=λ j=>!decide (p.Dead.get j=c)) (m:=p.Dead.len) (fin:=k false) (stop:=k true) (by omega) (λ n i hi=>?_) (λ n=>?_) _ (by omega)).trans ?_
 ·obtain ⟨f, h1, h2⟩ := two (G8 E n p c (aO ((i : Int) + 1)) k) (k true);rw[zd8,bC (by omega),<- h1,<- h2];simp only[Int.toNat_natCast,kc f];congr 1;grind
 ·rw[zd8];simp only[Int.lt_irrefl,decide_false,cond_false]
 ·cases dS (λ j=>!decide (p.Dead.get j=c)) p.Dead.len <;> rfl
theorem zyG {p:ai}{h:bz}(hm:0<=h.iT):dS (λ i=>dS (λ j=>!decide (p.Dead.get j=h.Channel+(i:Int))) p.Dead.len) h.iT.toNat=lvB p h:=by
 rw[Bool.eq_iff_iff];simp only[lvB,dA,Bool.not_eq_true',decide_eq_false_iff_not,inB];constructor
 ·intro h1 j hj h2;have:=h1 (p.Dead.get j - h.Channel).toNat (by omega) j hj;omega
 ·intro h1 i hi j hj h2;exact h1 j hj (by omega)
abbrev zqb (C:ak×bz->ae Bool):Prop:=∀ s h,qy s->dW s=true->C (s,h)=.ok (jR s h)
theorem zHc {E:U5}(N:Big E.N) (BC:yA E.oZ) (U6:zjh E.JP):zqb (ziO E):=λ s h hs hb=>ae.ext λ k=>by
 rw[e143,bi];have hl:=nN hb;simp only[BC,bi,aY (x:=(s.af.len:Int) - 1) (by omega) (by omega)];by_cases hp:0<=h.ai/\h.ai < s.af.len
 ·have hn := ni hb (i := h.ai.toNat) (by omega);have hf:=hs.2 h.ai.toNat (by omega);have e1:inB h.ai 0 (s.af.len - 1)=true:=by simp only[inB,decide_eq_true_eq];omega
  simp only[e1,Bool.not_true,cond_false,bC hp,jR,decide_eq_true hp,Bool.true_and];obtain⟨_,_,_,_,_,hst,_⟩:=hn;simp only[aY (x:=(s.af.get h.ai.toNat).bM - 1) (by omega) (by omega),hpB];cases c1:inB h.Channel 0 ((s.af.get h.ai.toNat).bM - 1) with
  | false=>rfl
  | true =>
  simp only[inB,decide_eq_true_eq] at c1;simp only[Bool.not_true,cond_false,Bool.true_and,aY (x:=(s.af.get h.ai.toNat).bM - h.Channel) (by omega) (by omega)];cases c2:inB h.iT 1 ((s.af.get h.ai.toNat).bM - h.Channel) with
  | false=>rfl
  | true =>
  simp only[inB,decide_eq_true_eq] at c2;simp only[Bool.not_true,cond_false,Bool.true_and];cases inB h.yx (s.af.get h.ai.toNat).Least 1000000 with
  | false=>rfl
  | true =>
  cases inB h.Time (-1000000000) 1000000000 with
  | false=>rfl
  | true =>
  simp only[Bool.not_true,cond_false,Bool.true_and];refine (loopA (L:=λ n v=>Nz E n s h v k) (p:=λ i=>dS (λ j=>!decide ((s.af.get h.ai.toNat).Dead.get j=h.Channel+(i:Int))) (s.af.get h.ai.toNat).Dead.len) (m:=h.iT.toNat) (fin:=k (knB (s.af.get h.ai.toNat) h)) (stop:=k false) (by omega) (λ n i hi=>?_) (λ n=>?_) _ (by omega)).trans ?_
  ·rw [zd9, decide_eq_true (show (i : Int) < h.iT by omega), cond_true, aY (x := h.Channel + i) (by omega) (by omega), U6 _ _ hf, bi];cases dS (λ j=>!decide ((s.af.get h.ai.toNat).Dead.get j=h.Channel+(i:Int))) (s.af.get h.ai.toNat).Dead.len <;> rfl
  ·rw [zd9, decide_eq_false (show ¬ ((h.iT.toNat : Int) < h.iT) by omega), cond_false];simp only[BC,bi,kc k];congr 1;simp only[knB,inB];grind
  ·rw[zel,zyG (by omega)]
 ·have e1 : inB h.ai 0 (s.af.len - 1) = false := by simp only [inB, decide_eq_false_iff_not]; omega
  simp only[e1,Bool.not_false,cond_true,jR,decide_eq_false hp,Bool.false_and]
def ofP (s:ak) (h:bz):placed:=cond (decide (0<=h.ai/\h.ai < s.af.len)) ⟨s.af.get h.ai.toNat,h.ai⟩ ⟨⟨0,0,0,0,0,0,0,⟨0,0⟩,⟨0,0⟩,0,0,⟨0,λ _=>default⟩,⟨0,λ _=>default⟩⟩,0⟩
abbrev ZZ (C:ak×bz->ae (placed×Bool)):Prop:=∀ s h,qy s->dW s=true->C (s,h)=.ok (ofP s h,jR s h)
theorem zHd {E:Va}(N:Big E.N) (jH:yA E.fP):ZZ (ziX E):=λ s h hs hb=>ae.ext λ k=>by
 rw[zGo,bi];have hl:=nN hb;simp only[jH,bi,aY (x:=(s.af.len:Int) - 1) (by omega) (by omega)];by_cases hp:0<=h.ai/\h.ai < s.af.len
 ·have hn := ni hb (i := h.ai.toNat) (by omega);have hf:=hs.2 h.ai.toNat (by omega);have e1:inB h.ai 0 (s.af.len - 1)=true:=by simp only[inB,decide_eq_true_eq];omega
  simp only[e1,Bool.not_true,cond_false,bC hp,jR,decide_eq_true hp,Bool.true_and,ofP,cond_true];obtain⟨_,_,_,_,_,hst,_⟩:=hn;have hd:=hf.2;simp only[aY (x:=(s.af.get h.ai.toNat).bM - 1) (by omega) (by omega),hpB];cases c1:inB h.Channel 0 ((s.af.get h.ai.toNat).bM - 1) with
  | false=>rfl
  | true =>
  simp only[inB,decide_eq_true_eq] at c1;simp only[Bool.not_true,cond_false,Bool.true_and,aY (x:=(s.af.get h.ai.toNat).bM - h.Channel) (by omega) (by omega)];cases c2:inB h.iT 1 ((s.af.get h.ai.toNat).bM - h.Channel) with
  | false=>rfl
  | true =>
  simp only[inB,decide_eq_true_eq] at c2;simp only[Bool.not_true,cond_false,Bool.true_and];cases inB h.yx (s.af.get h.ai.toNat).Least 1000000 with
  | false=>rfl
  | true =>
  cases c3:inB h.Time (-1000000000) 1000000000 with
  | false=>rfl
  | true =>
  simp only[Bool.not_true,cond_false,Bool.true_and];refine (loopA (L:=λ n v=>NE E n s h v k) (p:=λ j=>!inB ((s.af.get h.ai.toNat).Dead.get j) h.Channel (h.Channel+h.iT - 1)) (m:=(s.af.get h.ai.toNat).Dead.len) (fin:=k (⟨s.af.get h.ai.toNat,h.ai⟩,knB (s.af.get h.ai.toNat) h)) (stop:=k (⟨s.af.get h.ai.toNat,h.ai⟩,false)) (by omega) (λ n i hi=>?_) (λ n=>?_) _ (by omega)).trans ?_
  ·rw [zee, decide_eq_true (show (i : Int) < _ by omega), cond_true, bC (by omega), jH, bi, aY (x := h.Channel + h.iT) (by omega) (by omega), aY (x := h.Channel + h.iT - 1) (by omega) (by omega), Int.toNat_natCast];cases inB ((s.af.get h.ai.toNat).Dead.get i) h.Channel (h.Channel+h.iT - 1) <;> rfl
  ·rw [zee]; simp only [Int.lt_irrefl, decide_false, cond_false, jH, bi, kc k];congr 1;simp only[knB,inB]
   grind
  ·simp only [lvB];cases dS (λ j=>!inB ((s.af.get h.ai.toNat).Dead.get j) h.Channel (h.Channel+h.iT - 1)) (s.af.get h.ai.toNat).Dead.len <;> rfl
 ·have e1 : inB h.ai 0 (s.af.len - 1) = false := by simp only [inB, decide_eq_false_iff_not]; omega
  simp only[e1,Bool.not_false,cond_true,jR,decide_eq_false hp,Bool.false_and,ofP,cond_false]
abbrev zji (C:ak×bz->ae Bool):Prop:=∀ s h,qy s->C (s,h)=.ok (dW s && jR s h)
theorem zHe {E:ZT}(xY:QSe E.c160) (h112:ZZ E.qH):zji (zja E):=λ s h hs=>ae.ext λ k=>by
 rw[zGN,xY s hs,bi,bi];cases hb:dW s with
 | false=>rfl
 | true=>simp only[Bool.not_true,cond_false,h112 s h hs hb,bi,Bool.true_and]
abbrev zqc (C:ak×bz->ae Int):Prop:=∀ s h,qy s->C (s,h)=.ok (cond (dW s && jR s h) 0 2)
theorem zHf {E:ZL}(U9:zji E.OX):zqc (ziV E):=λ s h hs=>ae.ext λ k=>by
 rw[e138,U9 s h hs,bi,bi];cases dW s && jR s h <;> rfl
def qZ (l : Sl aS) (t : Int) : Nat → Int
  | 0=>0
  | n+1=>cond (decide ((l.get n).Time<=t)) (l.get n).dI.Low (qZ l t n)
def vO (l : Sl aS) (t z : Int) : Nat → Int
  | 0=>z
  | d+1=>cond (decide ((l.get (l.len - 1 - d)).Time >= t)) (l.get (l.len - 1 - d)).dI.High (vO l t z d)
def qA (p:ai) (t:Int):Int×Int:=(qZ p.aS (aO (t - p.dH)) p.aS.len,vO p.aS (aO (t+p.dH)) (aO (p.aT.tdiv 2)) p.aS.len)
abbrev zqd (C:ai×Int->ae (Int×Int)):Prop:=∀ p t,Few p->C (p,t)=.ok (qA p t)
theorem zHg {E:QS}(N:Big E.N):zqd (ziM E):=λ p t h=>ae.ext λ k=>by
 have hd:=h.1;rw[zFP,bi];refine kz (X:=λ n i=>G6 E n p t (qZ p.aS (aO (t - p.dH)) i) (aO (p.aT.tdiv 2)) (i:Int) k) (m:=p.aS.len) (λ n i hi=>?_) (λ n=>?_) _ (by omega)
 ·rw [zd6, decide_eq_true (show (i : Int) < _ by omega), cond_true, bC (by omega), bC (by omega), bQ (by omega), Int.toNat_natCast];simp only[qZ];cases decide ((p.aS.get i).Time<=aO (t - p.dH)) <;> rfl
 ·rw [zd6]; simp only [Int.lt_irrefl, decide_false, cond_false];rw[show aO ((p.aS.len:Int) - 1)=aO ((p.aS.len:Int) - 1) - ((0:Nat):Int) by simp];refine kz (X:=λ n i=>G7 E n p t (qZ p.aS (aO (t - p.dH)) p.aS.len) (vO p.aS (aO (t+p.dH)) (aO (p.aT.tdiv 2)) i) (aO ((p.aS.len:Int) - 1) - (i:Int)) k) (m:=p.aS.len) (λ n i hi=>?_) (λ n=>?_) _ (by omega)
  ·rw [BI (by omega), zd7, decide_eq_true (show (p.aS.len : Int) - 1 - i ≥ 0 by omega), cond_true, bC (by omega), bC (by omega), aY (x := (p.aS.len : Int) - 1 - i - 1) (by omega) (by omega), show ((p.aS.len : Int) - 1 - i).toNat = p.aS.len - 1 - i by omega];simp only[vO];cases decide ((p.aS.get (p.aS.len - 1 - i)).Time >= aO (t+p.dH)) <;> simp only[cond_true,cond_false] <;> congr 1 <;> omega
  ·rw[BI (by omega),zd7,decide_eq_false (by omega),cond_false];rfl
def bk (l : Sl aS) : Nat → List (Int × aS)
  | 0=>[]
  | n+1=>((n:Int),l.get n) :: bk l n
theorem zx {δ ε : Type} [dC δ] [dC ε] {R : List PA → YO} {x : δ} {l : List ε} (h : R (dC.enc x) = some (l.map dC.enc)) (hc : ∀ y : ε, dC.ck (α := ε) (dC.enc y) = true) (hd : ∀ y : ε, dC.dec (dC.enc y) = y) :
  (ae.tyI (λ c=>.opt (R c)) x:ae (List ε))=.ok l:=by
 refine ae.ext λ k=>?_;show (ae.opt (R (dC.enc x))).T _=_;rw[h];show (ae.chk ((l.map dC.enc).all (dC.ck (α:=ε))) (ae.ok ((l.map dC.enc).map dC.dec))).T k=k l;rw[show (l.map dC.enc).all (dC.ck (α:=ε))=true by simp[hc],show (l.map dC.enc).map dC.dec=l by rw[List.map_map];exact (List.map_congr_left λ y _=>hd y).trans (List.map_id l)];rfl
abbrev zqe (I:Pt (Sl aS)->ae (List (Int×aS))):Prop:=∀ l,l.v.len<=60->I l=.ok (bk l.v l.v.len)
theorem zHh {E:QZ}(N:Big E.N):zqe (zp3 E):=λ l h=>by
 refine zx ?_ (λ _=>rfl) (λ _=>rfl);rw[e251];have key:∀ d n,d<=l.v.len->d < n->NF E n l ((d:Int) - 1)=some ((bk l.v d).map dC.enc):=by
  intro d
  induction d with
  | zero =>
   intro n _ hn;obtain⟨n,rfl⟩:∃ n',n=n'+1:=⟨n - 1,by omega⟩;rw[zek,decide_eq_false (by omega)];rfl
  | succ d ih =>
   intro n hd hn;obtain⟨n,rfl⟩:∃ n',n=n'+1:=⟨n - 1,by omega⟩;rw[zek,decide_eq_true (by omega),cond_true,bC (by omega),show ((d+1:Nat):Int) - 1=(d:Int) by omega,BI (by omega),ih n (by omega) (by omega),Int.toNat_natCast];rfl
 rw[BI (by omega)];exact key _ _ (iM _) (by omega)
abbrev zqf (C:placed×Int->ae (Int×Int)):Prop:=∀ q t,Few q.ai->C (q,t)=.ok (qA q.ai t)
theorem zHi {E:QY}(N:Big E.N) (zHj:zqe E.zmz):zqf (zjd E):=λ q t h=>ae.ext λ k=>by
 have hd:=h.1;rw[e224,bi];refine kz (X:=λ n i=>Hf E n q t (qZ q.ai.aS (aO (t - q.ai.dH)) i) (i:Int) (aO (q.ai.aT.tdiv 2)) k) (m:=q.ai.aS.len) (λ n i hi=>?_) (λ n=>?_) _ (by omega)
 ·rw [zej, decide_eq_true (show (i : Int) < _ by omega), cond_true, bC (by omega), bQ (by omega), Int.toNat_natCast];simp only[qZ];cases decide ((q.ai.aS.get i).Time<=aO (t - q.ai.dH)) <;> rfl
 ·rw [zej]; simp only [Int.lt_irrefl, decide_false, cond_false];rw[zHj _ hd,bi];have key:∀ d,d<=q.ai.aS.len->BH E (bk q.ai.aS d) q t (qZ q.ai.aS (aO (t - q.ai.dH)) q.ai.aS.len) (vO q.ai.aS (aO (t+q.ai.dH)) (aO (q.ai.aT.tdiv 2)) (q.ai.aS.len - d)) k=k (qA q.ai t):=by
   intro d
   induction d with
   | zero=>intro _;rw[bk,zje];rfl
   | succ d ih =>
    intro hi;rw[bk,zp2];have e:q.ai.aS.len - d=(q.ai.aS.len - (d+1))+1:=by omega
    have ih:=ih (by omega);rw[e] at ih;simp only[vO,show q.ai.aS.len - 1 - (q.ai.aS.len - (d+1))=d by omega] at ih;revert ih;cases decide ((q.ai.aS.get d).Time >= aO (t+q.ai.dH)) <;> exact id
  have:=key q.ai.aS.len (iM _);rwa[Nat.sub_self] at this
def gate (p:ai) (a b:Int):aB:=⟨p.Z,aO (a+p.bn.Low),aO (b+p.bn.High)⟩
def gaP (p:ai) (h:bz):Sl aB :=
  cond (p.Kind != 2)
    (cond (decide (aO (aO (p.First + aO (aO (aO (h.Channel + h.iT) - 1) * p.aT)) - p.dE) > aO (aO (p.First + aO (aO (h.Channel + 1) * p.aT)) + p.dE))) ⟨0, fun _ => default⟩
      ⟨1,λ _=>gate p (aO (aO (p.First+aO (aO (aO (h.Channel+h.iT) - 1) * p.aT)) - p.dE)) (aO (aO (p.First+aO (aO (h.Channel+1) * p.aT))+p.dE))⟩)
    (cond (decide ((gate p (aO (aO (p.First + aO (h.Channel * p.aT)) - (qA p h.aS).2)) (aO (aO (p.First + aO (h.Channel * p.aT)) - (qA p h.aS).1))).High ≥ (gate p (aO (aO (p.First + aO (h.Channel * p.aT)) + (qA p h.aS).1)) (aO (aO (p.First + aO (h.Channel * p.aT)) + (qA p h.aS).2))).Low))
      ⟨1,λ _=>⟨p.Z,(gate p (aO (aO (p.First+aO (h.Channel * p.aT)) - (qA p h.aS).2)) (aO (aO (p.First+aO (h.Channel * p.aT)) - (qA p h.aS).1))).Low,(gate p (aO (aO (p.First+aO (h.Channel * p.aT))+(qA p h.aS).1)) (aO (aO (p.First+aO (h.Channel * p.aT))+(qA p h.aS).2))).High⟩⟩
      ⟨2,QR [gate p (aO (aO (p.First+aO (h.Channel * p.aT)) - (qA p h.aS).2)) (aO (aO (p.First+aO (h.Channel * p.aT)) - (qA p h.aS).1)),gate p (aO (aO (p.First+aO (h.Channel * p.aT))+(qA p h.aS).1)) (aO (aO (p.First+aO (h.Channel * p.aT))+(qA p h.aS).2))]⟩)
theorem zjj (p:ai) (h:bz):(gaP p h).len<=2:=by
 have key:∀ (a b c:Bool) (x y z w:Sl aB),x.len<=2->y.len<=2->z.len<=2->w.len<=2->(cond a (cond b x y) (cond c z w)).len<=2:=by
  intro a b c x y z w h1 h2 h3 h4;cases a <;> cases b <;> cases c <;> assumption
 exact key _ _ _ _ _ _ _ (Nat.zero_le _) (by simp) (by simp) (by simp)
abbrev zqg (C:placed×Int×Int->ae aB):Prop:=∀ q a b,C (q,a,b)=.ok (gate q.ai a b)
theorem zHk {E:ZV} : zqg (zjc E):=λ q a b=>ae.ext λ k=>e223 E k q a b
abbrev zqh (C:placed×bz->ae (Sl aB)):Prop:=∀ q h,Few q.ai->C (q,h)=.ok (gaP q.ai h)
theorem zHl {E:ZU}(zpY:zqg E.zb3) (zpZ:zqf E.zmp):zqh (zjb E):=λ q h hf=>ae.ext λ k=>by
 rw[e189,bi];simp only[zpY,zpZ _ _ hf,bi,kc k];rfl
def tu (s:ak) (h:bz):Sl aB:=gaP (s.af.get h.ai.toNat) h
abbrev Q75 (C:ak×bz->ae (Sl aB)):Prop:=∀ s h,qy s->0<=h.ai/\h.ai < (s.af.len:Int)->C (s,h)=.ok (tu s h)
theorem s75 {E:E75}(zpA:zqd E.zl8):Q75 (F75 E):=λ s h hs hp=>ae.ext λ k=>by
 rw[e75,bi,bC hp];simp only[zpA _ _ (hs.2 h.ai.toNat (by omega)),bi,kc k];rfl
theorem Hm {s:ak}{h:bz}(hh:jR s h=true):0<=h.ai/\h.ai < s.af.len:=by
 simp only[jR,fA,decide_eq_true_eq] at hh;exact hh.1
theorem zen {s:ak}{h:bz}(hh:jR s h=true):ofP s h=⟨s.af.get h.ai.toNat,h.ai⟩:=by
 unfold ofP;rw[decide_eq_true (Hm hh)];rfl
abbrev zqi (C:ak×bz->ae (Sl aB×Int)):Prop:=∀ s h,qy s->C (s,h)=.ok (cond (dW s && jR s h) (cond (((tu s h).len:Int) == 0) (⟨0,λ _=>default⟩,5) (tu s h,0)) (⟨0,λ _=>default⟩,2))
theorem zHm {E:ZM}(U9:zji E.OX) (h112:ZZ E.qH) (zpR:zqh E.zmh):zqi (ziW E):=λ s h hs=>ae.ext λ k=>by
 rw[zGm,U9 s h hs,bi,bi];cases hb:dW s && jR s h with
 | false=>rfl
 | true =>
  rw[fA] at hb;have hp:=Hm hb.2;simp only[Bool.not_true,cond_false,h112 s h hs hb.1,bi,zen hb.2,zpR ⟨s.af.get h.ai.toNat,h.ai⟩ h (hs.2 _ (by omega)),kc k];rfl
def lD (r:bF):Bool:=inB r.oW 1 16 && inB r.rU 0 16
abbrev Q62 (C:bF->ae Bool):Prop:=∀ r,C r=.ok (lD r)
theorem s62 {E:E62}(h86:yA E.c86):Q62 (F62 E):=λ r=>ae.ext λ k=>by
 rw[e62];simp only[h86,bi,kc k];congr 1;simp only[lD];cases inB r.oW 1 16 <;> rfl
def vwB (x:Int):Bool:=decide (x=1\/x=2)
abbrev Q60 (C:ak×bF->ae Int):Prop:=∀ s r,qy s->C (s,r)=.ok (cond (dW s && lD r) 0 2)
theorem s60 {E:E60}(h122:zqa E.zl5) (zpw:yA E.zg2):Q60 (F60 E):=λ s r h=>ae.ext λ k=>by
 rw[e60];simp only[h122 s h,zpw,bi,kc k,lD];congr 1;cases dW s <;> cases inB r.oW 1 16 <;> cases inB r.rU 0 16 <;> rfl
def zy (s:ak) (l:Sl bz):Bool:=dS (λ i=>jR s (l.get i)) l.len
abbrev Q85 (C:ak×Sl bz->ae Bool):Prop:=∀ s l,qy s->dW s=true->l.len<=40->C (s,l)=.ok (zy s l)
theorem s85 {E:E85}(N:Big E.N) (zpC:zqb E.c143):Q85 (F85 E):=λ s l hs hb hl=>ae.ext λ k=>by
 rw[e85];refine (loopA (L:=λ n v=>XU E n s l v k) (p:=λ i=>jR s (l.get i)) (m:=l.len) (fin:=k true) (stop:=k false) (by omega) (λ n i hi=>?_) (λ n=>?_) _ (by omega)).trans ?_
 ·rw [zm6, decide_eq_true (show (i : Int) < _ by omega), cond_true, bC (by omega), Int.toNat_natCast, zpC _ _ hs hb, bi];cases jR s (l.get i) <;> rfl
 ·rw[zm6];simp only[Int.lt_irrefl,decide_false,cond_false]
 ·rw[bi];simp only[zy];cases dS (λ i=>jR s (l.get i)) l.len <;> rfl
def gw {α : Type} [bG α] (z f : Nat → α) : Nat → Sl α
  | 0=>⟨0,z⟩
  | n+1=>⟨n+1,jf n (gw z f n).get λ _=>f n⟩
theorem BJ {α:Type} [bG α] (z f:Nat->α) (n:Nat):(gw z f n).len=n:=by cases n <;> rfl
theorem NG {α : Type} [bG α] [qp α] {z f : Nat → α} : ∀ {n i : Nat}, i < n → (gw z f n).get i = f i
  | n+1,i,h=>by
    show jf n (gw z f n).get (λ _=>f n) i=f i;rw[gJ];by_cases hi:n<=i
    · rw[if_pos hi,show i=n by omega]
    · rw[if_neg hi];exact NG (by omega)
theorem zjk {n b:Nat}(hn:n<=1000000) (hb:b<=1000):room n b=true:=by
 refine decide_eq_true ⟨?_,by omega⟩;have:=Nat.mul_le_mul hn hb;omega
theorem jl {A:Type}{n b:Nat}{x:Option A}(hn:n<=1000000) (hb:b<=1000):aZ (room n b) x=x:=by rw[zjk hn hb];rfl
theorem zjl {p:ai}{h:bz} : (gaP p h).len=0->gaP p h=⟨0,λ _=>default⟩:=by
 have key:∀ (a b c:Bool) (y z w:Sl aB),0 < y.len->0 < z.len->0 < w.len->(cond a (cond b (⟨0,λ _=>default⟩:Sl aB) y) (cond c z w)).len=0->cond a (cond b (⟨0,λ _=>default⟩:Sl aB) y) (cond c z w)=⟨0,λ _=>default⟩:=by
  intro a b c y z w h2 h3 h4 h;cases a <;> cases b <;> cases c <;> simp only[cond_true,cond_false] at h ⊢ <;> omega
 exact key _ _ _ _ _ _ (by simp) (by simp) (by simp)
def z0:Nat->aB:=λ _=>⟨0,0,0⟩
def evG (s:ak) (l:Sl bz):Sl (Sl aB):=gw (λ _=>⟨0,z0⟩) (λ i=>tu s (l.get i)) l.len
theorem XX (s:ak) (l:Sl bz):(evG s l).len=l.len:=BJ _ _ _
theorem NH {s:ak}{l:Sl bz}{i:Nat}(h:i < l.len):(evG s l).get i=tu s (l.get i):=NG h
def iR (s:ak) (r:bF) (l:Sl bz):Pt aX:=⟨⟨s,l,evG s l,r⟩⟩
def uC (s:ak) (r:bF) (l:Sl bz):Int:=cond (decide (l.len > 24)) 3 (cond (dW s && lD r && zy s l) 0 2)
def opn (s:ak) (r:bF) (l:Sl bz):Int ⊕ (Pt aX×Int):=cond (uC s r l == 0) (.inr (iR s r l,0)) (.inl (uC s r l))
abbrev Q78 (C:ak×bF×Sl bz->ae (Int ⊕ (Pt aX×Int))):Prop:=∀ s r l,qy s->l.len<=40->C (s,r,l)=.ok (opn s r l)
theorem s78 {E:E78}(N:Big E.N) (h60:Q60 E.c60) (zpL:zqc E.c138) (zpM:zqi E.c139):Q78 (F78 E):=λ s r l hs hl=>ae.ext λ k=>by
 rw[e78,bi];by_cases qB:(l.len:Int) > 24
 ·rw [decide_eq_true qB];have:uC s r l=3:=by unfold uC;rw[decide_eq_true (show l.len > 24 by omega)];rfl
  simp only[opn,this];rfl
 ·rw [decide_eq_false qB, cond_false, h60 s r hs, bi];have e1:uC s r l=cond (dW s && lD r && zy s l) 0 2:=by unfold uC;rw[decide_eq_false (show ¬ l.len > 24 by omega)];rfl
  cases hb:dW s && lD r with
  | false =>
   have:uC s r l=2:=by rw[e1,hb];rfl
   simp only[opn,this];rfl
  | true =>
   have hsb:=(fA _ _ ▸ hb).1;refine (loopA (L:=λ n v=>QT E n s r l v (gw (λ _=>⟨0,z0⟩) (λ i=>tu s (l.get i)) v.toNat) k) (p:=λ i=>jR s (l.get i)) (m:=l.len) (fin:=k (.inr (iR s r l,0))) (stop:=k (.inl 2)) (by omega) (λ n i hi=>?_) (λ n=>?_) _ (by omega)).trans ?_
   ·rw [zm9, decide_eq_true (show (i : Int) < _ by omega), cond_true, bC (by omega), Int.toNat_natCast, zpL _ _ hs, bi, hsb, Bool.true_and];cases hh:jR s (l.get i) with
    | false=>rfl
    | true =>
     rw[zpM _ _ hs,bi,hsb,hh];have e2:QU E n s r l (tu s (l.get i)) (i:Int) (gw (λ _=>⟨0,z0⟩) (λ i=>tu s (l.get i)) i) k=QT E n s r l (aO ((i:Int)+1)) (gw (λ _=>⟨0,z0⟩) (λ i=>tu s (l.get i)) (aO ((i:Int)+1)).toNat) k:=by
      rw[zyn,BJ,jl (by omega) (by omega),bQ (by omega),Int.toNat_natCast];rfl
     by_cases h0:(tu s (l.get i)).len=0
     ·have e3 : ((tu s (l.get i)).len : Int) == 0 := by rw [h0]; rfl
      simp only[e3,Bool.and_self,cond_true];show QU E n s r l ⟨0,λ _=>default⟩ _ _ k=_;rw[<- zjl (p:=s.af.get (l.get i).ai.toNat) (h:=l.get i) h0];exact e2
     ·have e3 : (((tu s (l.get i)).len : Int) == 0) = false := by rw [dqU]; omega
      simp only[e3,Bool.and_self,cond_true,cond_false];exact e2
   ·rw[zm9];simp only[Int.lt_irrefl,decide_false,cond_false,Int.toNat_natCast];rfl
   ·have : uC s r l = cond (zy s l) 0 2 := by rw [e1, hb]; rfl
    simp only[opn,this,zy];cases dS (λ i=>jR s (l.get i)) l.len <;> rfl
def usB (l:Sl bz) (w:Sl Int) (n:Nat) (p:Int):Bool:=dS (λ j=>!decide ((l.get (w.get j).toNat).ai=p)) n
abbrev Q87 (C:Sl bz×Sl Int×Int->ae Bool):Prop:=∀ l w p,w.len<=100->(∀ j,j < w.len->0<=w.get j/\w.get j < l.len)->C (l,w,p)=.ok (!usB l w w.len p)
theorem s87 {E:E87}(N:Big E.N):Q87 (F87 E):=λ l w p hw hv=>ae.ext λ k=>by
 rw[e87,bi];refine (loopA (L:=λ n v=>XV E n l w p v k) (p:=λ j=>!decide ((l.get (w.get j).toNat).ai=p)) (m:=w.len) (fin:=k false) (stop:=k true) (by omega) (λ n i hi=>?_) (λ n=>?_) _ (by omega)).trans ?_
 ·have := hv i hi;rw[zm7,decide_eq_true (show (i:Int) < _ by omega),cond_true,bC (by omega),Int.toNat_natCast,bC (by omega)];show cond ((l.get (w.get i).toNat).ai == p) _ _=cond (!((l.get (w.get i).toNat).ai == p)) _ _;cases (l.get (w.get i).toNat).ai == p <;> rfl
 ·rw[zm7];simp only[Int.lt_irrefl,decide_false,cond_false]
 ·simp only[usB];cases dS (λ j=>!decide ((l.get (w.get j).toNat).ai=p)) w.len <;> rfl
def hiA (l:Sl bz) (t:aj) (i:Nat):bz:=l.get (t.Hits.get i).toNat
def chP (s:ak) (l:Sl bz) (t:aj) (i:Nat):Bool :=
 inB (t.Hits.get i) 0 ((l.len:Int) - 1) && (decide (i=0) || decide (t.Hits.get (i - 1) < t.Hits.get i)) && decide ((s.af.get (hiA l t i).ai.toNat).View=t.View) && inB (t.bD.get i) 0 (((tu s (hiA l t i)).len:Int) - 1) && usB l t.Hits i (hiA l t i).ai
def Z4 (s:ak) (l:Sl bz) (t:aj):Bool:=vwB t.View && decide (0 < t.Hits.len) && decide (t.bD.len=t.Hits.len) && dS (chP s l t) t.Hits.len
structure Evt (s : ak) (l : Sl bz) : Prop where
  sh:qy s
  se:dW s=true
  hi:zy s l=true
  le:l.len<=40
theorem Evt.pl {s:ak}{l:Sl bz}(h:Evt s l){i:Nat}(hi:i < l.len):0<=(l.get i).ai/\(l.get i).ai < s.af.len:=Hm (dA.1 h.hi i hi)
theorem Vf {s:ak}{l:Sl bz}{t:aj}{i:Nat}(h:chP s l t i=true):0<=t.Hits.get i/\t.Hits.get i < l.len:=by
 simp only[chP,fA,inB,decide_eq_true_eq] at h;omega
theorem Q5 {s:ak}{l:Sl bz}{t:aj}{i:Nat}(h:chP s l t i=true):0<=t.bD.get i/\t.bD.get i < (tu s (hiA l t i)).len:=by
 simp only[chP,fA,inB,decide_eq_true_eq] at h;omega
/-! The program. -/
abbrev zql (C:Pt aX×Int->ae Int):Prop:=∀ s l r i,Evt s l->0<=i/\i < (l.len:Int)->C (iR s r l,i)=.ok (s.af.get (l.get i.toNat).ai.toNat).View
theorem zHs {E:ZI} : zql (ziS E):=λ s l r i he hi=>ae.ext λ k=>by
 have hp:=he.pl (i:=i.toNat) (by omega);exact (zF7 E k _ _).trans ((bC (p:=0<=i/\i < (l.len:Int)) hi).trans (bC (p:=0<=(l.get i.toNat).ai/\(l.get i.toNat).ai < (s.af.len:Int)) hp))
theorem Ho {α : Type} [bG α] {z f g : Nat → α} : ∀ {n : Nat}, (∀ i, i < n → f i = g i) → gw z f n = gw z g n
  | 0,_=>rfl
  | n+1,h=>by simp only[gw,Ho (n:=n) λ i hi=>h i (by omega),h n (by omega)]
def gtS (s:ak) (l:Sl bz) (t:aj):Sl aB:=gw z0 (λ i=>(tu s (hiA l t i)).get (t.bD.get i).toNat) t.Hits.len
theorem zeo {s:ak}{l:Sl bz}{t:aj}(h:Z4 s l t=true):t.bD.len=t.Hits.len/\∀ i,i < t.Hits.len->chP s l t i=true:=by
 simp only[Z4,fA,decide_eq_true_eq,dA] at h;exact⟨h.1.2,h.2⟩
abbrev Q65 (C:ak×Sl bz×aj->ae (Sl aB)):Prop:=∀ s l t,Evt s l->t.Hits.len<=30->Z4 s l t=true->C (s,l,t)=.ok (gtS s l t)
theorem s65 {E:E65}(N:Big E.N) (h75:Q75 E.c75):Q65 (F65 E):=λ s l t he ht hc=>ae.ext λ k=>by
 obtain⟨h1,h2⟩:=zeo hc;rw[e65,bi];refine kz (X:=λ n i=>XT E n s l t (i:Int) (gw z0 (λ i=>(tu s (hiA l t i)).get (t.bD.get i).toNat) i) k) (m:=t.Hits.len) (λ n i hi=>?_) (λ n=>?_) _ (by omega)
 ·have a1 := Vf (h2 i hi);have a2:0<=t.bD.get i/\t.bD.get i < ((tu s (l.get (t.Hits.get i).toNat)).len:Int):=Q5 (h2 i hi);have hpl:=he.pl (i:=(t.Hits.get i).toNat) (by omega);rw[zm5,decide_eq_true (show (i:Int) < _ by omega),cond_true,bC (by omega),Int.toNat_natCast,bC (by omega),h75 _ _ he.sh hpl,bi,bC (by omega),bC a2,BJ,jl (by omega) (by omega),bQ (by omega)];rfl
 ·rw[zm5];simp only[Int.lt_irrefl,decide_false,cond_false];rfl
abbrev zjm (C:Pt aX×aj->ae (Sl aB)):Prop:=∀ s l r t,Evt s l->t.Hits.len<=2100->Z4 s l t=true->C (iR s r l,t)=.ok (gtS s l t)
theorem zHt {E:U8}(N:Big E.N):zjm (ziR E):=λ s l r t he ht hc=>ae.ext λ k=>by
 obtain⟨h1,h2⟩:=zeo hc;have e:gtS s l t=gw z0 (λ i=>((evG s l).get (t.Hits.get i).toNat).get (t.bD.get i).toNat) t.Hits.len:=Ho λ i hi=>by
  have a1:=Vf (h2 i hi);rw[NH (by omega)];rfl
 rw[zF1,bi,e];refine kz (X:=λ n i=>NC E n (iR s r l) t (i:Int) (gw z0 (λ i=>((evG s l).get (t.Hits.get i).toNat).get (t.bD.get i).toNat) i) k) (m:=t.Hits.len) (λ n i hi=>?_) (λ n=>?_) _ (by omega)
 ·have a1 := Vf (h2 i hi);have a2:=Q5 (h2 i hi);have a3:0<=t.Hits.get i/\t.Hits.get i < ((iR s r l).v.kV.len:Int):=by show _/\t.Hits.get i < ((evG s l).len:Int);rw[XX];omega
  have a4:0<=t.bD.get i/\t.bD.get i < (((iR s r l).v.kV.get (t.Hits.get i).toNat).len:Int):=by
   show _/\t.bD.get i < (((evG s l).get (t.Hits.get i).toNat).len:Int);rw[NH (by omega)];exact a2
  rw[zeb,decide_eq_true (show (i:Int) < _ by omega),cond_true,bC (by omega),Int.toNat_natCast,bC a3,bC (by omega),bC a4,BJ,jl (by omega) (by omega),bQ (by omega)];rfl
 ·rw[zeb];simp only[Int.lt_irrefl,decide_false,cond_false]
abbrev Q26 (C:ak×bF×Sl bz->ae Int):Prop:=∀ s r l,qy s->l.len<=40->C (s,r,l)=.ok (uC s r l)
theorem s26 {E:E26}(h61:QSe E.c61) (h62:Q62 E.c62) (h85:Q85 E.c85):Q26 (F26 E):=λ s r l hs hl=>ae.ext λ k=>by
 rw[e26,bi];by_cases qB:(l.len:Int) > 24
 ·rw[decide_eq_true qB];simp only[uC,decide_eq_true (show l.len > 24 by omega),cond_true]
 ·rw [decide_eq_false qB, cond_false, h61 s hs, bi];simp only[uC,decide_eq_false (show ¬ l.len > 24 by omega),cond_false,h62,bi];cases hb:dW s with
  | false=>rfl
  | true =>
   cases lD r with
   | false=>rfl
   | true =>
    simp only[h85 s l hs hb hl,bi];cases zy s l <;> rfl
theorem NI {s:ak}{r:bF}{l:Sl bz}(hs:qy s) (h:uC s r l=0):Evt s l/\lD r=true/\l.len<=24:=by
 unfold uC at h;by_cases qB:l.len > 24
 ·rw[decide_eq_true qB] at h;cases h
 ·rw [decide_eq_false qB, cond_false] at h;cases e:dW s && lD r && zy s l with
  | false=>rw[e] at h;cases h
  | true =>
   simp only[fA] at e;exact⟨⟨hs,e.1.1,e.2,by omega⟩,e.1.2,by omega⟩
def Z5 (s:ak) (l:Sl bz) (m:Int):Bool:=decide (s.af.len<=20) && (decide ((l.len:Int)<=m) || decide (l.len > 24)) && decide (l.len<=40) && dS (λ i=>decide ((s.af.get i).aS.len<=60/\(s.af.get i).Dead.len<=110)) s.af.len
abbrev Q23 (C:ak×Sl bz×Int->ae Bool):Prop:=∀ s l m,C (s,l,m)=.ok (Z5 s l m)
theorem s23 {E:E23}(N:Big E.N):Q23 (F23 E):=λ s l m=>ae.ext λ k=>by
 rw[e23,bi];by_cases h20:(s.af.len:Int) > 20
 ·rw[decide_eq_true h20];simp only[Z5,decide_eq_false (show ¬ s.af.len<=20 by omega),Bool.false_and,cond_true]
 ·have lp:GZ E E.N s 0 k=k (dS (λ i=>decide ((s.af.get i).aS.len<=60/\(s.af.get i).Dead.len<=110)) s.af.len):=by
   refine (loopA (L:=λ n v=>GZ E n s v k) (p:=λ i=>decide ((s.af.get i).aS.len<=60/\(s.af.get i).Dead.len<=110)) (m:=s.af.len) (fin:=k true) (stop:=k false) (by omega) (λ n i hi=>?_) (λ n=>?_) _ (by omega)).trans ?_
   ·rw [zm1, decide_eq_true (show (i : Int) < _ by omega), cond_true, bC (by omega), bC (by omega), Int.toNat_natCast];obtain⟨f,h1,h2⟩:=two (GZ E n s (aO ((i:Int)+1)) k) (k false);rw[<- h1,<- h2,kc f,kc f,kc f];congr 1;grind
   ·rw[zm1];simp only[Int.lt_irrefl,decide_false,cond_false]
   ·cases dS (λ i=>decide ((s.af.get i).aS.len<=60/\(s.af.get i).Dead.len<=110)) s.af.len <;> rfl
  rw[decide_eq_false h20,cond_false,lp];simp only[kc k,Z5];congr 1;generalize dS (λ i=>decide ((s.af.get i).aS.len<=60/\(s.af.get i).Dead.len<=110)) s.af.len=B
  grind
theorem zqm {s:ak}{l:Sl bz}{m:Int}(h:Z5 s l m=true):qy s/\l.len<=40/\((l.len:Int)<=m\/24 < l.len):=by
 simp only[Z5,fA,decide_eq_true_eq,Bool.or_eq_true,dA] at h;exact⟨⟨h.1.1.1,λ i hi=>h.2 i hi⟩,h.1.2,h.1.1.2⟩
def vP (s:ak) (l:Sl bz) (i:Nat):Nat:=(tu s (l.get i)).len
theorem zA (s:ak) (l:Sl bz) (i:Nat):vP s l i<=2:=zjj _ _
def O4 (s:ak) (l:Sl bz) (i:Nat):Int:=(s.af.get (l.get i).ai.toNat).View
def cf (n : Nat → Int) : Nat → Nat → Int
  | 0,j=>cond (j == 0) 1 0
  | p+1,0=>cf n p 0
  | p+1,j+1=>aO (cf n p (j+1)+aO (n p * cf n p j))
def XY (i : Int) : Nat → Nat → List (Int × Int)
  | 0,_=>[]
  | d+1,k=>(i,(k:Int)) :: XY i d (k+1)
def sdL (s : ak) (l : Sl bz) (x : Int) : Nat → Nat → List (Int × Int)
  | 0,_=>[]
  | d+1,i=>cond (O4 s l i == x) (XY i (vP s l i) 0) [] ++ sdL s l x d (i+1)
abbrev zqn (I:Pt Int×Pt (Pt aX)×Pt Int->ae (List (Int×Int))):Prop:=∀ s l r x (fr:Nat),Evt s l->fr<=l.len->I (⟨fr⟩,⟨iR s r l⟩,⟨x⟩)=.ok (sdL s l x (l.len - fr) fr)
theorem zHw {E:ND}(N:Big E.N) (zpQ:zql E.zg3):zqn (zpP E):=λ s l r x fr he hfr=>by
 refine zx ?_ (λ _=>rfl) (λ _=>rfl);refine (zF3 E _ _ _).trans ?_;have hl:=he.le;have key:∀ d n (i:Nat),i+d=l.len->d < n->G9 E n ⟨iR s r l⟩ ⟨x⟩ (i:Int)=some ((sdL s l x d i).map dC.enc):=by
  intro d
  induction d with
  | zero =>
   intro n i hi hn;obtain⟨n,rfl⟩:∃ n',n=n'+1:=⟨n - 1,by omega⟩;exact (zec E n _ _ _).trans (zyB (p:=(i:Int) < (l.len:Int)) (by omega))
  | succ d ih =>
   intro n i hi hn;obtain⟨n,rfl⟩:∃ n',n=n'+1:=⟨n - 1,by omega⟩;have nx:=ih n (i+1) (by omega) (by omega);refine (zec E n _ _ _).trans ((zyA (p:=(i:Int) < (l.len:Int)) (by omega)).trans ?_);rw[bQ (by omega),nx];show (E.zg3 (iR s r l,(i:Int))).T _=_;rw[zpQ s l r _ he (by omega),bi,Int.toNat_natCast];show cond (O4 s l i != x) _ _=_;rw[sdL];cases hv:O4 s l i == x with
   | false=>rw[show (O4 s l i != x)=true by rw[bne,hv];rfl];rfl
   | true =>
    rw[show (O4 s l i != x)=false by rw[bne,hv];rfl,cond_false,cond_true];have hg:((iR s r l).v.kV.get i)=tu s (l.get i):=NH (by omega);have hgl:(iR s r l).v.kV.len=l.len:=XX s l;have XZ:∀ e m (k:Nat),k+e=vP s l i->e < m->Ha E n m ⟨iR s r l⟩ ⟨x⟩ (i:Int) (vP s l i:Int) (k:Int)=some ((XY i e k ++ sdL s l x d (i+1)).map dC.enc):=by
     have hg2:=zA s l i;intro e
     induction e with
     | zero =>
      intro m k hk hm;obtain⟨m,rfl⟩:∃ n',m=n'+1:=⟨m - 1,by omega⟩;rw[zed,decide_eq_false (by omega),cond_false,bQ (by omega),nx];rfl
     | succ e ih2 =>
      intro m k hk hm;obtain⟨m,rfl⟩:∃ n',m=n'+1:=⟨m - 1,by omega⟩;rw[zed,decide_eq_true (by omega),cond_true,bQ (by omega),ih2 m (k+1) (by omega) (by omega)];rfl
    have hg2:=zA s l i;rw[bC (by rw[hgl];omega)];show Ha E n E.N ⟨iR s r l⟩ ⟨x⟩ (i:Int) (((iR s r l).v.kV.get (i:Int).toNat).len:Int) ((0:Nat):Int)=_;rw[Int.toNat_natCast,hg];exact XZ _ _ _ (by omega) (by omega)
 exact key _ _ _ (by omega) (by omega)
abbrev Q19 (C:Unit->ae Bool):Prop:=C ()=.ok true
structure E20 where
  N:Nat
  c72:ak×bF×(Sl bz)×(Sl Bool)->ae (Int ⊕ ((Pt found)×Int))
abbrev G20 (E:E20):bf:=dw (Tabs.nil.addF 72 (ae.unA E.c72)) []
def A20:bW:=aU ax 20 [] {}
def F20 (E:E20):ak×bF×(Sl bz)->ae ((Sl aj)×Int):=ae.ty (aF ax E.N (G20 E) A20 20)
section
variable (E:E20){A:Type}(k:((Sl aj)×Int)->Option A)
theorem e20 (a0:ak) (a1:bF) (a2:(Sl bz)):(F20 E (a0,a1,a2)).T k =
  (E.c72 (a0,a1,a2,(⟨0,λ _=>default⟩:(Sl Bool)))).T λ r1=>zpg r1
  (λ r1=>cond (r1 != 0)
 (k ((⟨0,λ _=>default⟩:(Sl aj)),r1))
 (none))
  (λ r1=>cond (r1.2 != 0)
 (k ((⟨0,λ _=>default⟩:(Sl aj)),r1.2))
 (k (r1.1.v.fZ,0))):=bJ.trans (by kernel_rfl)
end
theorem o20 [aJ] (E:E20) (h72:Ok ax 72 (ae.unA E.c72)):Ok ax 20 (ae.un (F20 E)):=bg (aP (ay.nil.addF h72) (au (by kernel_rfl)))
structure E28 where
  N:Nat
  v88:ak×bF×(Sl bz)×Int->ae (Sl aj×Bool)
abbrev G28 (E:E28):bf:=dw (Tabs.nil.addO 88 (.mkv 43 3 56 (ae.unV E.v88))) []
def A28:bW:=aU ax 28 [] {}
def F28 (E:E28):ak×bF×(Sl bz)->ae ((Sl aj)×Bool):=ae.ty (aF ax E.N (G28 E) A28 28)
section
variable (E:E28){A:Type}(k:((Sl aj)×Bool)->Option A)
theorem e28 (a0:ak) (a1:bF) (a2:(Sl bz)):(F28 E (a0,a1,a2)).T k =
  (E.v88 (a0,a1,a2,1)).T λ r1 =>
  (E.v88 (a0,a1,a2,2)).T λ r2 =>
  aZ (room (r1.1.len+r2.1.len) 56) (cond r1.2
 (k ((⟨(r1.1.len+r2.1.len),(jf r1.1.len r1.1.get r2.1.get)⟩:(Sl aj)),r2.2))
 (k ((⟨(r1.1.len+r2.1.len),(jf r1.1.len r1.1.get r2.1.get)⟩:(Sl aj)),false))):=bJ.trans (by kernel_rfl)
end
theorem o28 [aJ] (E:E28) (x88:ed ax 88 (.mkv 43 3 56 (ae.unV E.v88))):Ok ax 28 (ae.un (F28 E)):=bg (aP (ay.nil.addO x88) (au (by kernel_rfl)))
end Go.Proofs

namespace Go.Proofs
open Go Go.Pm
set_option maxRecDepth 100000
structure E38 where
  N:Nat
abbrev G38 (E:E38):bf:=dw Tabs.nil []
def A38:bW:=aU ax 38 [] { cut:=[8,10] }
def F38 (E:E38):(Sl Int)×(Sl Int)->ae (Int):=ae.ty (aF ax E.N (G38 E) A38 38)
section
variable (E:E38){A:Type}(k:Int->Option A)
def X0 (E:E38) (n:Nat) (a0:(Sl Int)) (a1:(Sl Int)) (v5:Int){A:Type}(k:Int->Option A):Option A :=
  gV ax (G38 E) E.N A38 38 [1,0,1,0] [.n n] (gY k)
    ⟨[(0,eP a0),(1,eP a1),(5,.int v5)],[],[]⟩
def zep (E:E38) (a0:(Sl Int)) (a1:(Sl Int)) {A:Type}(k:Int->Option A):Option A :=
  gV ax (G38 E) E.N A38 38 [1,1] [] (gY k)
    ⟨[(0,eP a0),(1,eP a1)],[],[]⟩
def zne (E:E38) (a0:(Sl Int)) (a1:(Sl Int)) {A:Type}(k:Int->Option A):Option A :=
  gV ax (G38 E) E.N A38 38 [1,1,1] [] (gY k)
    ⟨[(0,eP a0),(1,eP a1)],[],[]⟩
theorem e38 (a0:(Sl Int)) (a1:(Sl Int)):(F38 E (a0,a1)).T k =
  X0 E E.N a0 a1 0 k:=bJ.trans (by kernel_rfl)
theorem znf (n0:Nat) (a0:(Sl Int)) (a1:(Sl Int)) (v5:Int):X0 E (n0+1) a0 a1 v5 k =
  cond (decide (v5 < (a0.len:Int)))
  (cond (decide (v5 < (a1.len:Int)))
 (aZ (decide (0<=v5/\v5 < (a0.len:Int))) (aZ (decide (0<=v5/\v5 < (a1.len:Int))) (cond (decide (a0.get v5.toNat < a1.get v5.toNat))
 (k (-1))
 (aZ (decide (0<=v5/\v5 < (a0.len:Int))) (aZ (decide (0<=v5/\v5 < (a1.len:Int))) (cond (decide (a0.get v5.toNat > a1.get v5.toNat))
 (k 1)
 (X0 E n0 a0 a1 (aO (v5+1)) k)))))))
 (zep E a0 a1 k))
  (zep E a0 a1 k):=by kernel_rfl
theorem zng (a0:(Sl Int)) (a1:(Sl Int)):zep E a0 a1 k =
  cond (decide ((a0.len:Int) < (a1.len:Int)))
  (k (-1))
  (zne E a0 a1 k):=by kernel_rfl
theorem znh (a0:(Sl Int)) (a1:(Sl Int)):zne E a0 a1 k =
  cond (decide ((a0.len:Int) > (a1.len:Int)))
  (k 1)
  (k 0):=by kernel_rfl
end
theorem o38 [aJ] (E:E38):Ok ax 38 (ae.un (F38 E)):=bg (aP ay.nil (au (by kernel_rfl)))
structure E48 where
  N:Nat
abbrev G48 (E:E48):bf:=dw Tabs.nil []
def A48:bW:=aU ax 48 [] {}
def F48 (E:E48):(Sl Int)×Int->ae (Bool):=ae.ty (aF ax E.N (G48 E) A48 48)
section
variable (E:E48){A:Type}(k:Bool->Option A)
def X3 (E:E48) (n:Nat) (a0:(Sl Int)) (a1:Int) (v5:Int){A:Type}(k:Bool->Option A):Option A :=
  gV ax (G48 E) E.N A48 48 [1,0,1,0] [.n n] (gY k)
    ⟨[(0,eP a0),(1,.int a1),(5,.int v5)],[],[]⟩
theorem e48 (a0:(Sl Int)) (a1:Int):(F48 E (a0,a1)).T k =
  X3 E E.N a0 a1 0 k:=bJ.trans (by kernel_rfl)
theorem zni (n0:Nat) (a0:(Sl Int)) (a1:Int) (v5:Int):X3 E (n0+1) a0 a1 v5 k =
  cond (decide (v5 < (a0.len:Int)))
  (aZ (decide (0<=v5/\v5 < (a0.len:Int))) (cond (a0.get v5.toNat == a1)
 (k true)
 (X3 E n0 a0 a1 (aO (v5+1)) k)))
  (k false):=by kernel_rfl
end
theorem o48 [aJ] (E:E48):Ok ax 48 (ae.un (F48 E)):=bg (aP ay.nil (au (by kernel_rfl)))
structure E50 where
  N:Nat
  zl3:ak×(Sl bz)->ae (Int)
  qH:ak×bz->ae (placed×Bool)
  Wv:placed×bz->ae (bV)
abbrev G50 (E:E50):bf:=dw (((Tabs.nil.addF 111 (ae.un E.zl3)).addF 112 (ae.un E.qH)).addF 113 (ae.un E.Wv)) []
def A50:bW:=aU ax 50 [] {}
def F50 (E:E50):ak×(Sl bz)->ae (bV×Int):=ae.ty (aF ax E.N (G50 E) A50 50)
section
variable (E:E50){A:Type}(k:(bV×Int)->Option A)
def X4 (E:E50) (n:Nat) (a0:ak) (a1:(Sl bz)) (v42:Int) (x9:bV){A:Type}(k:(bV×Int)->Option A):Option A :=
  gV ax (G50 E) E.N A50 50 [1,1,1,1,1,0,1,0] [.n n] (gY k)
    ⟨[(2,.cl (.ptr 2 0)),(4,.cl (.ptr 4 0)),(9,.cl (.ptr 9 0)),(40,.cl (.p (.sl (((a1.len:Int):Int) - 1).toNat 6 (λ i=>bG.enc ((JF a1.get 1) i))))),(41,.int ((((a1.len:Int):Int) - 1).toNat:Int)),(42,.int v42)],[(2,eB 24 a0),(4,.box 105 [.p (.int .i64 0),.p (.int .i64 0)]),(9,eB 105 x9)],[]⟩
theorem e50 (a0:ak) (a1:(Sl bz)):(F50 E (a0,a1)).T k =
  (E.zl3 (a0,a1)).T λ r1 =>
  cond (r1 != 0)
  (k ((⟨0,0⟩:bV),r1))
  (cond ((a1.len:Int) == 0)
 (k ((⟨0,0⟩:bV),2))
 (aZ (decide ((0:Int)<=0/\0 < (a1.len:Int))) ((E.qH (a0,(a1.get 0))).T λ r2 =>
 aZ (decide ((0:Int)<=0/\0 < (a1.len:Int))) ((E.Wv (r2.1,(a1.get 0))).T λ r3 =>
 aZ (decide ((0:Int)<=1/\(1:Int)<=(a1.len:Int)/\(a1.len:Int)<=(a1.len:Int))) (X4 E E.N a0 a1 0 r3 k))))):=bJ.trans (by kernel_rfl)
theorem znj (n0:Nat) (a0:ak) (a1:(Sl bz)) (v42:Int) (x9:bV):X4 E (n0+1) a0 a1 v42 x9 k =
  cond (decide (v42 < ((((a1.len:Int):Int) - 1).toNat:Int)))
  (aZ (decide (0<=v42/\v42 < ((((a1.len:Int):Int) - 1).toNat:Int))) ((E.qH (a0,((JF a1.get 1) v42.toNat))).T λ r1 =>
 (E.Wv (r1.1,((JF a1.get 1) v42.toNat))).T λ r2 =>
 X4 E n0 a0 a1 (aO (v42+1)) (⟨(if r2.Low > x9.Low then r2.Low else x9.Low),(if r2.High < x9.High then r2.High else x9.High)⟩:bV) k))
  (cond (decide (x9.Low > x9.High))
 (k ((⟨0,0⟩:bV),5))
 (k (x9,0))):=by kernel_rfl
end
theorem o50 [aJ] (E:E50) (zqq:Ok ax 111 (ae.un E.zl3)) (h112:Ok ax 112 (ae.un E.qH)) (zjo:Ok ax 113 (ae.un E.Wv)):Ok ax 50 (ae.un (F50 E)):=bg (aP (((ay.nil.addF zqq).addF h112).addF zjo) (au (by kernel_rfl)))
end Go.Proofs

namespace Go.Proofs
open Go Go.Pm
set_option maxRecDepth 100000
structure E53 where
  N:Nat
abbrev G53 (E:E53):bf:=dw Tabs.nil []
def A53:bW:=aU ax 53 [] { cut:=[7] }
def F53 (E:E53):aj×aj->ae (Bool):=ae.ty (aF ax E.N (G53 E) A53 53)
section
variable (E:E53){A:Type}(k:Bool->Option A)
def X5 (E:E53) (n:Nat) (a0:aj) (a1:aj) (v5:Int) (v6:Int){A:Type}(k:Bool->Option A):Option A :=
  gV ax (G53 E) E.N A53 53 [1,1,0,1,0] [.n n] (gY k)
    ⟨[(2,.cl (.ptr 2 0)),(3,.cl (.ptr 3 0)),(5,.int v5),(6,.int v6)],[(2,eB 43 a0),(3,eB 43 a1)],[]⟩
def Le (E:E53) (n0:Nat) (n:Nat) (a0:aj) (a1:aj) (v5:Int) (v6:Int){A:Type}(k:Bool->Option A):Option A :=
  gV ax (G53 E) E.N A53 53 [1,1,0,1,0,0,1,0,0,0,0] [.n n0,.n n] (gY k)
    ⟨[(2,.cl (.ptr 2 0)),(3,.cl (.ptr 3 0)),(5,.int v5),(6,.int v6)],[(2,eB 43 a0),(3,eB 43 a1)],[]⟩
def Q7 (E:E53) (n0:Nat) (a0:aj) (a1:aj) (v5:Int) (v6:Int){A:Type}(k:Bool->Option A):Option A :=
  gV ax (G53 E) E.N A53 53 [1,1,0,1,0,0,1,0,0,1] [.n n0] (gY k)
    ⟨[(2,.cl (.ptr 2 0)),(3,.cl (.ptr 3 0)),(5,.int v5),(6,.int v6)],[(2,eB 43 a0),(3,eB 43 a1)],[]⟩
theorem e53 (a0:aj) (a1:aj):(F53 E (a0,a1)).T k =
  X5 E E.N a0 a1 0 0 k:=bJ.trans (by kernel_rfl)
theorem znk (n0:Nat) (a0:aj) (a1:aj) (v5:Int) (v6:Int):X5 E (n0+1) a0 a1 v5 v6 k =
  cond (decide (v6 < (a1.Hits.len:Int)))
  (Le E n0 E.N a0 a1 v5 v6 k)
  (k (a0.View == a1.View)):=by kernel_rfl
theorem znl (n0:Nat) (n1:Nat) (a0:aj) (a1:aj) (v5:Int) (v6:Int):Le E n0 (n1+1) a0 a1 v5 v6 k =
  cond (decide (v5 < (a0.Hits.len:Int)))
  (aZ (decide (0<=v5/\v5 < (a0.Hits.len:Int))) (aZ (decide (0<=v6/\v6 < (a1.Hits.len:Int))) (cond (decide (a0.Hits.get v5.toNat < a1.Hits.get v6.toNat))
 (Le E n0 n1 a0 a1 (aO (v5+1)) v6 k)
 (Q7 E n0 a0 a1 v5 v6 k))))
  (Q7 E n0 a0 a1 v5 v6 k):=by kernel_rfl
theorem zyK (n0:Nat) (a0:aj) (a1:aj) (v5:Int) (v6:Int):Q7 E n0 a0 a1 v5 v6 k =
  cond (v5 == (a0.Hits.len:Int))
  (k false)
  (aZ (decide (0<=v5/\v5 < (a0.Hits.len:Int))) (aZ (decide (0<=v6/\v6 < (a1.Hits.len:Int))) (cond (a0.Hits.get v5.toNat != a1.Hits.get v6.toNat)
 (k false)
 (aZ (decide (0<=v5/\v5 < (a0.bD.len:Int))) (aZ (decide (0<=v6/\v6 < (a1.bD.len:Int))) (cond (a0.bD.get v5.toNat != a1.bD.get v6.toNat)
 (k false)
 (X5 E n0 a0 a1 v5 (aO (v6+1)) k))))))):=by kernel_rfl
end
theorem o53 [aJ] (E:E53):Ok ax 53 (ae.un (F53 E)):=bg (aP ay.nil (au (by kernel_rfl)))
structure E55 where
  N:Nat
  O7:Int×Int->ae (aQ)
abbrev G55 (E:E55):bf:=dw (Tabs.nil.addF 71 (ae.un E.O7)) []
def A55:bW:=aU ax 55 [] { cut:=[3] }
def F55 (E:E55):Int×Int×Int×Int->ae (Line):=ae.ty (aF ax E.N (G55 E) A55 55)
section
variable (E:E55){A:Type}(k:Line->Option A)
def zeq (E:E55) (v0:Int) (v1:Int) (v2:Int) (v3:Int){A:Type}(k:Line->Option A):Option A :=
  gV ax (G55 E) E.N A55 55 [1,1] [] (gY k)
    ⟨[(0,.int v0),(1,.int v1),(2,.int v2),(3,.int v3),(8,.cl (.ptr 8 0))],[(8,.box 114 [.p (.int .i64 0),.p (.int .i64 0),.p (.int .i64 0),.p (.int .i64 0)])],[]⟩
theorem e55 (a0:Int) (a1:Int) (a2:Int) (a3:Int):(F55 E (a0,a1,a2,a3)).T k =
  cond (decide (a2 < a0))
  (zeq E a2 a3 a0 a1 k)
  (zeq E a0 a1 a2 a3 k):=bJ.trans (by kernel_rfl)
theorem znm (v0:Int) (v1:Int) (v2:Int) (v3:Int):zeq E v0 v1 v2 v3 k =
  (E.O7 ((aO (v3 - v1)),(aO (v2 - v0)))).T λ r1 =>
  (E.O7 ((aO ((aO (v1 * v2)) - (aO (v3 * v0)))),(aO (v2 - v0)))).T λ r2 =>
  k (⟨r1,r2⟩:Line):=by kernel_rfl
end
theorem o55 [aJ] (E:E55) (Vg:Ok ax 71 (ae.un E.O7)):Ok ax 55 (ae.un (F55 E)):=bg (aP (ay.nil.addF Vg) (au (by kernel_rfl)))
structure E56 where
  N:Nat
abbrev G56 (E:E56):bf:=dw Tabs.nil []
def A56:bW:=aU ax 56 [] {}
def F56 (E:E56):aQ×aQ->ae (Bool):=ae.ty (aF ax E.N (G56 E) A56 56)
section
variable (E:E56){A:Type}(k:Bool->Option A)
theorem e56 (a0:aQ) (a1:aQ):(F56 E (a0,a1)).T k =
  k (decide ((aO (a0.Num * a1.bI)) < (aO (a1.Num * a0.bI)))):=bJ.trans (by kernel_rfl)
end
theorem o56 [aJ] (E:E56):Ok ax 56 (ae.un (F56 E)):=bg (aP ay.nil (au (by kernel_rfl)))
structure E57 where
  N:Nat
  c116:Line×aB->ae (Bool)
abbrev G57 (E:E57):bf:=dw (Tabs.nil.addF 116 (ae.un E.c116)) []
def A57:bW:=aU ax 57 [] { ks:=[(1,3,⟨[],[(5,22,3)],[],[],[],[],[]⟩)] }
def F57 (E:E57):Line×(Sl aB)->ae ((Sl Int)):=ae.ty (aF ax E.N (G57 E) A57 57)
section
variable (E:E57){A:Type}(k:(Sl Int)->Option A)
def Q8 (E:E57) (n:Nat) (a0:Line) (a1:(Sl aB)) (v6:Int) (O5:Sl Int){A:Type}(k:(Sl Int)->Option A):Option A :=
  gV ax (G57 E) E.N A57 57 [1,1,0,1,0] [.n n] (gY k)
    ⟨[(1,eP a1),(2,.cl (.ptr 2 0)),(5,.cl (.vec 22)),(6,.int v6)],[(2,eB 114 a0),(22,eV 3 1 8 O5)],[]⟩
theorem e57 (a0:Line) (a1:(Sl aB)):(F57 E (a0,a1)).T k =
  Q8 E E.N a0 a1 0 (⟨0,(λ _=>0)⟩:(Sl Int)) k:=bJ.trans (by kernel_rfl)
theorem znn (n0:Nat) (a0:Line) (a1:(Sl aB)) (v6:Int) (O5:Sl Int):Q8 E (n0+1) a0 a1 v6 O5 k =
  cond (decide (v6 < (a1.len:Int)))
  (aZ (decide (0<=v6/\v6 < (a1.len:Int))) ((E.c116 (a0,(a1.get v6.toNat))).T λ r1 =>
 cond r1
 (aZ (room (O5.len+1) 8) (Q8 E n0 a0 a1 (aO (v6+1)) (⟨(O5.len+1),(jf O5.len O5.get (λ _=>v6))⟩:(Sl Int)) k))
 (Q8 E n0 a0 a1 (aO (v6+1)) O5 k)))
  (k O5):=by kernel_rfl
end
theorem o57 [aJ] (E:E57) (h116:Ok ax 116 (ae.un E.c116)):Ok ax 57 (ae.un (F57 E)):=bg (aP (ay.nil.addF h116) (au (by kernel_rfl)))
end Go.Proofs



namespace Go.Proofs
open Go Go.Pm
set_option maxRecDepth 100000
structure E71 where
  N:Nat
  OT:Int×Int->ae (Int)
abbrev G71 (E:E71):bf:=dw (Tabs.nil.addF 125 (ae.un E.OT)) []
def A71:bW:=aU ax 71 [] {}
def F71 (E:E71):Int×Int->ae (aQ):=ae.ty (aF ax E.N (G71 E) A71 71)
section
variable (E:E71){A:Type}(k:aQ->Option A)
theorem e71 (a0:Int) (a1:Int):(F71 E (a0,a1)).T k =
  (E.OT ((if (aO (0 - a0)) > a0 then (aO (0 - a0)) else a0),a1)).T λ r1 =>
  aZ (decide (r1 ≠ 0)) (aZ (decide (r1 ≠ 0)) (k (⟨(aO (a0.tdiv r1)),(aO (a1.tdiv r1))⟩:aQ))):=bJ.trans (by kernel_rfl)
end
theorem o71 [aJ] (E:E71) (Vh:Ok ax 125 (ae.un E.OT)):Ok ax 71 (ae.un (F71 E)):=bg (aP (ay.nil.addF Vh) (au (by kernel_rfl)))
structure E72 where
  N:Nat
  c78:ak×bF×(Sl bz)->ae (Int ⊕ ((Pt aX)×Int))
  zb0:(Sl Bool)×Bool->ae (Bool)
  c127:(Pt aX)×Int->ae ((Sl aj)×Bool)
  DU:(Sl aj)×((dN 129 (Pt aX) Unit) ⊕ (dN 130 Unit (Pt (Pt found))))->ae (Sl aj×Unit)
  TF:aj×aj->ae (Int)
abbrev G72 (E:E72):bf:=dw (((((((Tabs.nil.addN [130]).addO 128 (.mkv 43 3 56 (ae.unV E.DU))).addO 133 (.sort 43 3 56)).addC 134 (ae.un E.TF)).addF 78 (ae.unA E.c78)).addF 126 (ae.un E.zb0)).addF 127 (ae.un E.c127)) []
def A72:bW:=aU ax 72 [] { ks:=[(0,6,⟨[],[],[(35,2,5001,43)],[],[],[],[]⟩),(2,15,⟨[],[],[],[],[57,5001],[],[]⟩)],cut:=[15,16],unr:=[(8,3)],clo:=[130] }
def F72 (E:E72):ak×bF×(Sl bz)×(Sl Bool)->ae (Int ⊕ ((Pt found)×Int)):=ae.tyA (aF ax E.N (G72 E) A72 72)
section
variable (E:E72){A:Type}(k:(Int ⊕ ((Pt found)×Int))->Option A)
def X6 (E:E72) (vS:(Pt aX)) (w57:Sl aj) (w67:Sl aj){A:Type}(k:(Int ⊕ ((Pt found)×Int))->Option A):Option A :=
  gV ax (G72 E) E.N A72 72 [1,1,1,1,1,1,1] [] (zdF k)
    ⟨[(12,.cl (.ptr 12 0))],[(12,.box 140 [.ptr 35 0]),(35,.box 145 [.p (.fp [.sl vS.v.ak.af.len 15 (λ i=>bG.enc (vS.v.ak.af.get i)),.sl vS.v.hits.len 6 (λ i=>bG.enc (vS.v.hits.get i)),.sl vS.v.kV.len 1 (λ i=>bG.enc (vS.v.kV.get i)),.int .i64 vS.v.rules.oW,.int .i64 vS.v.rules.rU] 0),.vec 57,.vec 67]),(57,.fvec 3 w57.len (λ i=>bG.enc (w57.get i))),(67,eV 43 3 56 w67)],[]⟩
theorem e72 (a0:ak) (a1:bF) (a2:(Sl bz)) (a3:(Sl Bool)):(F72 E (a0,a1,a2,a3)).T k =
  (E.c78 (a0,a1,a2)).T λ r1=>zpg r1
  (λ r1=>cond (r1 == 0)
 ((E.zb0 (a3,false)).T λ r2 =>
 cond r2
 (k (.inl 2))
 (cond (r1 != 0)
 (k (.inl r1))
 (none)))
 (cond (r1 != 0)
 (k (.inl r1))
 (none)))
  (λ r1=>cond (r1.2 == 0)
 ((E.zb0 (a3,false)).T λ r3 =>
 cond r3
 (k (.inl 2))
 (cond (r1.2 != 0)
 (k (.inl r1.2))
 ((E.c127 (r1.1,1)).T λ r4 =>
 cond (!r4.2)
 (k (.inl 8))
 ((E.DU (r4.1,(Sum.inl (⟨r1.1,()⟩:(dN 129 (Pt aX) Unit))))).T λ r5 =>
 aZ (room r5.1.len 56) ((E.c127 (r1.1,2)).T λ r6 =>
 cond (!r6.2)
 (k (.inl 8))
 ((E.DU (r6.1,(Sum.inl (⟨r1.1,()⟩:(dN 129 (Pt aX) Unit))))).T λ r7 =>
 aZ (room (r5.1.len+r7.1.len) 56) ((E.DU ((⟨(r5.1.len+r7.1.len),(jf r5.1.len r5.1.get r7.1.get)⟩:(Sl aj)),(Sum.inr (⟨(),(⟨(⟨(⟨r1.1,(⟨(r5.1.len+r7.1.len),(jf r5.1.len r5.1.get r7.1.get)⟩:(Sl aj)),(⟨0,(λ _=>(⟨0,(⟨0,(λ _=>0)⟩:(Sl Int)),(⟨0,(λ _=>0)⟩:(Sl Int))⟩:aj))⟩:(Sl aj))⟩:found)⟩:(Pt found))⟩:(Pt (Pt found)))⟩:(dN 130 Unit (Pt (Pt found))))))).T λ r8 =>
 X6 E r1.1 (⟨(r5.1.len+r7.1.len),(jf r5.1.len r5.1.get r7.1.get)⟩:(Sl aj)) r8.1 k)))))))
 (cond (r1.2 != 0)
 (k (.inl r1.2))
 ((E.c127 (r1.1,1)).T λ r9 =>
 cond (!r9.2)
 (k (.inl 8))
 ((E.DU (r9.1,(Sum.inl (⟨r1.1,()⟩:(dN 129 (Pt aX) Unit))))).T λ r10 =>
 aZ (room r10.1.len 56) ((E.c127 (r1.1,2)).T λ r11 =>
 cond (!r11.2)
 (k (.inl 8))
 ((E.DU (r11.1,(Sum.inl (⟨r1.1,()⟩:(dN 129 (Pt aX) Unit))))).T λ r12 =>
 aZ (room (r10.1.len+r12.1.len) 56) ((E.DU ((⟨(r10.1.len+r12.1.len),(jf r10.1.len r10.1.get r12.1.get)⟩:(Sl aj)),(Sum.inr (⟨(),(⟨(⟨(⟨r1.1,(⟨(r10.1.len+r12.1.len),(jf r10.1.len r10.1.get r12.1.get)⟩:(Sl aj)),(⟨0,(λ _=>(⟨0,(⟨0,(λ _=>0)⟩:(Sl Int)),(⟨0,(λ _=>0)⟩:(Sl Int))⟩:aj))⟩:(Sl aj))⟩:found)⟩:(Pt found))⟩:(Pt (Pt found)))⟩:(dN 130 Unit (Pt (Pt found))))))).T λ r13 =>
 X6 E r1.1 (⟨(r10.1.len+r12.1.len),(jf r10.1.len r10.1.get r12.1.get)⟩:(Sl aj)) r13.1 k))))))):=zmT.trans (by kernel_rfl)
theorem zyM (vS:(Pt aX)) (w57:Sl aj) (w67:Sl aj):X6 E vS w57 w67 k =
  aZ (soP (ae.un E.TF) [] true w67) (k (.inr ((⟨(⟨vS,w57,(⟨w67.len,(soG (ae.un E.TF) [] true w67)⟩:(Sl aj))⟩:found)⟩:(Pt found)),0))):=by kernel_rfl
end
theorem o72 [aJ] (E:E72) (h78:Ok ax 78 (ae.unA E.c78)) (zqv:Ok ax 126 (ae.un E.zb0)) (h127:Ok ax 127 (ae.un E.c127)) (zHy:ed ax 128 (.mkv 43 3 56 (ae.unV E.DU))) (zHz:ed ax 133 (.sort 43 3 56)) (zHA : @Ok ⟨1⟩ ax 134 (ae.un E.TF)):Ok ax 72 (ae.unA (F72 E)):=zdG (aP (((((((ay.nil.addN).addO zHy).addO zHz).addC zHA).addF h78).addF zqv).addF h127) (au (by kernel_rfl)))
structure E74 where
  N:Nat
abbrev G74 (E:E74):bf:=dw Tabs.nil []
def A74:bW:=aU ax 74 [] {}
def F74 (E:E74):ak×bz->ae (bV):=ae.ty (aF ax E.N (G74 E) A74 74)
section
variable (E:E74){A:Type}(k:bV->Option A)
theorem e74 (a0:ak) (a1:bz):(F74 E (a0,a1)).T k =
  aZ (decide (0<=a1.ai/\a1.ai < (a0.af.len:Int))) (cond ((a0.af.get a1.ai.toNat).Kind == 3)
 (k (a0.af.get a1.ai.toNat).Clock)
 (k (⟨(aO ((aO (a1.Time - (a0.af.get a1.ai.toNat).Clock.High)) - (a0.af.get a1.ai.toNat).dH)),(aO ((aO (a1.Time - (a0.af.get a1.ai.toNat).Clock.Low))+(a0.af.get a1.ai.toNat).dH))⟩:bV))):=bJ.trans (by kernel_rfl)
end
theorem o74 [aJ] (E:E74):Ok ax 74 (ae.un (F74 E)):=bg (aP ay.nil (au (by kernel_rfl)))
structure E76 where
  N:Nat
  OT:Int×Int->ae (Int)
  O7:Int×Int->ae (aQ)
abbrev G76 (E:E76):bf:=dw ((Tabs.nil.addF 125 (ae.un E.OT)).addF 71 (ae.un E.O7)) []
def A76:bW:=aU ax 76 [] {}
def F76 (E:E76):Line×Int->ae (aQ):=ae.ty (aF ax E.N (G76 E) A76 76)
section
variable (E:E76){A:Type}(k:aQ->Option A)
theorem e76 (a0:Line) (a1:Int):(F76 E (a0,a1)).T k =
  (E.OT (a0.Start.bI,a0.dM.bI)).T λ r1 =>
  aZ (decide (r1 ≠ 0)) (aZ (decide (a0.Start.bI ≠ 0)) (aZ (decide (a0.dM.bI ≠ 0)) ((E.O7 ((aO ((aO (a0.Start.Num * (aO ((aO ((aO (a0.Start.bI.tdiv r1)) * a0.dM.bI)).tdiv a0.Start.bI))))+(aO ((aO (a0.dM.Num * (aO ((aO ((aO (a0.Start.bI.tdiv r1)) * a0.dM.bI)).tdiv a0.dM.bI)))) * a1)))),(aO ((aO (a0.Start.bI.tdiv r1)) * a0.dM.bI)))).T λ r2 =>
 k r2))):=bJ.trans (by kernel_rfl)
end
theorem o76 [aJ] (E:E76) (Vh:Ok ax 125 (ae.un E.OT)) (Vg:Ok ax 71 (ae.un E.O7)):Ok ax 76 (ae.un (F76 E)):=bg (aP ((ay.nil.addF Vh).addF Vg) (au (by kernel_rfl)))
structure E77 where
  N:Nat
  zb1:ai×Int->ae (Int×Int)
  JP:ai×Int->ae (Bool)
abbrev G77 (E:E77):bf:=dw ((Tabs.nil.addF 136 (ae.un E.zb1)).addF 137 (ae.un E.JP)) []
def A77:bW:=aU ax 77 [] {}
def F77 (E:E77):ai×bV->ae (Bool×Bool):=ae.ty (aF ax E.N (G77 E) A77 77)
section
variable (E:E77){A:Type}(k:(Bool×Bool)->Option A)
def kC (E:E77) (n:Nat) (a0:ai) (v6:Int) (v7:Int) (v12:Bool) (v13:Bool) (v14:Int){A:Type}(k:(Bool×Bool)->Option A):Option A :=
  gV ax (G77 E) E.N A77 77 [1,1,1,1,1,0,1,0] [.n n] (gY k)
    ⟨[(2,.cl (.ptr 2 0)),(6,.int v6),(7,.int v7),(12,.bool v12),(13,.bool v13),(14,.int v14)],[(2,eB 124 a0)],[]⟩
theorem e77 (a0:ai) (a1:bV):(F77 E (a0,a1)).T k =
  (E.zb1 (a0,0)).T λ r1 =>
  (E.zb1 (a0,(aO (a0.bM - 1)))).T λ r2 =>
  cond (decide ((aO (a1.Low - a0.bn.High)) >= r1.1))
  (kC E E.N a0 (aO (a1.Low - a0.bn.High)) (aO (a1.High - a0.bn.Low)) (decide ((aO (a1.High - a0.bn.Low))<=r2.2)) false 0 k)
  (kC E E.N a0 (aO (a1.Low - a0.bn.High)) (aO (a1.High - a0.bn.Low)) false false 0 k):=bJ.trans (by kernel_rfl)
theorem zno (n0:Nat) (a0:ai) (v6:Int) (v7:Int) (v12:Bool) (v13:Bool) (v14:Int):kC E (n0+1) a0 v6 v7 v12 v13 v14 k =
  cond (decide (v14 < a0.bM))
  ((E.zb1 (a0,v14)).T λ r1 =>
 (E.JP (a0,v14)).T λ r2 =>
 cond r2
 (cond (decide (r1.1<=v7))
 (cond (decide (r1.2 >= v6))
 (kC E n0 a0 v6 v7 false v13 (aO (v14+1)) k)
 (kC E n0 a0 v6 v7 v12 v13 (aO (v14+1)) k))
 (kC E n0 a0 v6 v7 v12 v13 (aO (v14+1)) k))
 (cond (decide ((aO (r1.1 - a0.dE))<=v7))
 (cond (decide ((aO (r1.2+a0.dE)) >= v6))
 (kC E n0 a0 v6 v7 v12 true (aO (v14+1)) k)
 (kC E n0 a0 v6 v7 v12 v13 (aO (v14+1)) k))
 (kC E n0 a0 v6 v7 v12 v13 (aO (v14+1)) k)))
  (k (v12,v13)):=by kernel_rfl
end
theorem o77 [aJ] (E:E77) (zer:Ok ax 136 (ae.un E.zb1)) (U6:Ok ax 137 (ae.un E.JP)):Ok ax 77 (ae.un (F77 E)):=bg (aP ((ay.nil.addF zer).addF U6) (au (by kernel_rfl)))
structure E88 where
  N:Nat
  c94:ak×bF×(Sl bz)×Int->ae ((Sl aj)×Bool)
  c53:aj×aj->ae (Bool)
  zl9:aj×aj->ae (Bool)
abbrev G88 (E:E88):bf:=dw (((Tabs.nil.addF 94 (ae.un E.c94)).addF 53 (ae.un E.c53)).addF 144 (ae.un E.zl9)) []
def A88:bW:=aU ax 88 [] { ks:=[(0,3,⟨[],[(8,5000,43)],[],[],[],[],[]⟩),(1,6,⟨[],[(12,79,43)],[],[],[],[],[]⟩),(1,15,⟨[],[],[],[],[],[12],[]⟩)],cut:=[17] }
def F88 (E:E88):ak×bF×(Sl bz)×Int->ae (Sl aj×Bool):=ae.tyV (aK ax E.N (G88 E) A88 88 43 3 56)
section
variable (E:E88){A:Type}(k:(Sl aj×Bool)->Option A)
def xu (E:E88) (n:Nat) (v10:(Sl aj)) (v13:Int) (X7:Sl aj){A:Type}(k:(Sl aj×Bool)->Option A):Option A :=
  ptG ax (G88 E) E.N A88 88 [1,1,1,1,0,1,0] [.n n] (UX 43 3 56) (UW k)
    ⟨[(10,eP v10),(12,.cl (.vec 79)),(13,.int v13)],[(79,eV 43 3 56 X7)],[]⟩
def Dq (E:E88) (n0:Nat) (n:Nat) (v10:(Sl aj)) (v13:Int) (v14:Bool) (v15:Int) (X7:Sl aj){A:Type}(k:(Sl aj×Bool)->Option A):Option A :=
  ptG ax (G88 E) E.N A88 88 [1,1,1,1,0,1,0,0,1,0,0,1,0,1,0] [.n n0,.n n] (UX 43 3 56) (UW k)
    ⟨[(10,eP v10),(12,.cl (.vec 79)),(13,.int v13),(14,.bool v14),(15,.int v15)],[(79,eV 43 3 56 X7)],[]⟩
def Hq (E:E88) (n0:Nat) (n:Nat) (v10:(Sl aj)) (v12:(Sl aj)) (v13:Int) (v16:Int){A:Type}(k:(Sl aj×Bool)->Option A):Option A :=
  ptG ax (G88 E) E.N A88 88 [1,1,1,1,0,1,0,0,1,0,0,1,1,1,1,0,0] [.n n0,.n n] (UX 43 3 56) (UW k)
    ⟨[(10,eP v10),(12,eP v12),(13,.int v13),(16,.int v16)],[],[]⟩
def Lh (E:E88) (n0:Nat) (v10:(Sl aj)) (v12:(Sl aj)) (v13:Int) (v16:Int){A:Type}(k:(Sl aj×Bool)->Option A):Option A :=
  ptG ax (G88 E) E.N A88 88 [1,1,1,1,0,1,0,0,1,0,0,1,1,1,1,1] [.n n0] (UX 43 3 56) (UW k)
    ⟨[(10,eP v10),(12,eP v12),(13,.int v13),(16,.int v16)],[],[]⟩
theorem e88 (a0:ak) (a1:bF) (a2:(Sl bz)) (a3:Int):(F88 E (a0,a1,a2,a3)).T k =
  (E.c94 (a0,a1,a2,a3)).T λ r1 =>
  cond (!r1.2)
  (k ((⟨0,(λ _=>(⟨0,(⟨0,(λ _=>0)⟩:(Sl Int)),(⟨0,(λ _=>0)⟩:(Sl Int))⟩:aj))⟩:(Sl aj)),false))
  (xu E E.N r1.1 0 (⟨0,(λ _=>(⟨0,(⟨0,(λ _=>0)⟩:(Sl Int)),(⟨0,(λ _=>0)⟩:(Sl Int))⟩:aj))⟩:(Sl aj)) k):=zdJ.trans (by kernel_rfl)
theorem znp (n0:Nat) (v10:(Sl aj)) (v13:Int) (X7:Sl aj):xu E (n0+1) v10 v13 X7 k =
  cond (decide (v13 < (v10.len:Int)))
  (Dq E n0 E.N v10 v13 true 0 X7 k)
  (k (X7,true)):=by kernel_rfl
theorem X8 (n0:Nat) (n1:Nat) (v10:(Sl aj)) (v13:Int) (v14:Bool) (v15:Int) (X7:Sl aj):Dq E n0 (n1+1) v10 v13 v14 v15 X7 k =
  cond (decide (v15 < (v10.len:Int)))
  (cond v14
 (cond (v13 == v15)
 (Dq E n0 n1 v10 v13 true (aO (v15+1)) X7 k)
 (aZ (decide (0<=v15/\v15 < (v10.len:Int))) (aZ (decide (0<=v13/\v13 < (v10.len:Int))) ((E.c53 ((v10.get v15.toNat),(v10.get v13.toNat))).T λ r1 =>
 Dq E n0 n1 v10 v13 (!r1) (aO (v15+1)) X7 k))))
 (Dq E n0 n1 v10 v13 false (aO (v15+1)) X7 k))
  (cond (!v14)
 (xu E n0 v10 (aO (v13+1)) X7 k)
 (Hq E n0 E.N v10 X7 v13 0 k)):=by kernel_rfl
theorem znq (n0:Nat) (n1:Nat) (v10:(Sl aj)) (v12:(Sl aj)) (v13:Int) (v16:Int):Hq E n0 (n1+1) v10 v12 v13 v16 k =
  cond (decide (v16 < (v12.len:Int)))
  (aZ (decide (0<=v16/\v16 < (v12.len:Int))) (aZ (decide (0<=v13/\v13 < (v10.len:Int))) ((E.zl9 ((v12.get v16.toNat),(v10.get v13.toNat))).T λ r1 =>
 cond r1
 (Hq E n0 n1 v10 v12 v13 (aO (v16+1)) k)
 (Lh E n0 v10 v12 v13 v16 k))))
  (Lh E n0 v10 v12 v13 v16 k):=by kernel_rfl
theorem zyP (n0:Nat) (v10:(Sl aj)) (v12:(Sl aj)) (v13:Int) (v16:Int):Lh E n0 v10 v12 v13 v16 k =
  aZ (decide ((0:Int)<=0/\(0:Int)<=v16/\v16<=(v12.len:Int))) (aZ (room ((v16:Int) - 0).toNat 56) (aZ (decide (0<=v13/\v13 < (v10.len:Int))) (aZ (room (((v16:Int) - 0).toNat+1) 56) (aZ (decide ((0:Int)<=v16/\(v16:Int)<=(v12.len:Int)/\(v12.len:Int)<=(v12.len:Int))) (aZ (room ((((v16:Int) - 0).toNat+1)+(((v12.len:Int):Int) - v16).toNat) 56) (xu E n0 v10 (aO (v13+1)) (⟨((((v16:Int) - 0).toNat+1)+(((v12.len:Int):Int) - v16).toNat),(jf (((v16:Int) - 0).toNat+1) (jf ((v16:Int) - 0).toNat (JF v12.get 0) (λ _=>(v10.get v13.toNat))) (JF v12.get v16.toNat))⟩:(Sl aj)) k)))))):=by kernel_rfl
end
theorem o88 [aJ] (E:E88) (h94:Ok ax 94 (ae.un E.c94)) (h53:Ok ax 53 (ae.un E.c53)) (zqx:Ok ax 144 (ae.un E.zl9)):ed ax 88 (.mkv 43 3 56 (ae.unV (F88 E))):=UV (Nq (((ay.nil.addF h94).addF h53).addF zqx) (au (by kernel_rfl)))
structure E90 where
  N:Nat
  c148:(Sl bz)×(Sl Int)->ae ((Sl bz))
  zma:ak×(Sl bz)->ae (bV×Bool)
abbrev G90 (E:E90):bf:=dw ((Tabs.nil.addF 148 (ae.un E.c148)).addF 147 (ae.un E.zma)) []
def A90:bW:=aU ax 90 [] {}
def F90 (E:E90):ak×(Sl bz)×(Sl Int)->ae (Bool):=ae.ty (aF ax E.N (G90 E) A90 90)
section
variable (E:E90){A:Type}(k:Bool->Option A)
theorem e90 (a0:ak) (a1:(Sl bz)) (a2:(Sl Int)):(F90 E (a0,a1,a2)).T k =
  (E.c148 (a1,a2)).T λ r1 =>
  (E.zma (a0,r1)).T λ r2 =>
  k r2.2:=bJ.trans (by kernel_rfl)
end
theorem o90 [aJ] (E:E90) (zqy:Ok ax 148 (ae.un E.c148)) (zqz:Ok ax 147 (ae.un E.zma)):Ok ax 90 (ae.un (F90 E)):=bg (aP ((ay.nil.addF zqy).addF zqz) (au (by kernel_rfl)))
structure E91 where
  N:Nat
  c65:ak×(Sl bz)×aj->ae ((Sl aB))
  c87:(Sl bz)×(Sl Int)×Int->ae (Bool)
  Ak:(Sl aB)->ae (Bool)
  zmb:(Sl aB)×Int->ae (aQ×aQ)
  Wx:aQ->ae (Int)
  c86:Int×Int×Int->ae (Bool)
  c77:ai×bV->ae (Bool×Bool)
abbrev G91 (E:E91):bf:=dw (((((((Tabs.nil.addF 65 (ae.un E.c65)).addF 87 (ae.un E.c87)).addF 149 (ae.un E.Ak)).addF 150 (ae.un E.zmb)).addF 151 (ae.un E.Wx)).addF 86 (ae.un E.c86)).addF 77 (ae.un E.c77)) []
def A91:bW:=aU ax 91 [] { ks:=[(1,4,⟨[],[(7,92,3)],[],[],[],[],[]⟩)] }
def F91 (E:E91):ak×(Sl bz)×aj->ae ((Sl Int)):=ae.ty (aF ax E.N (G91 E) A91 91)
section
variable (E:E91){A:Type}(k:(Sl Int)->Option A)
def uw (E:E91) (n:Nat) (a0:ak) (a1:(Sl bz)) (a2:aj) (v8:(Sl aB)) (v9:Int) (X9:Sl Int){A:Type}(k:(Sl Int)->Option A):Option A :=
  gV ax (G91 E) E.N A91 91 [1,1,1,0,1,0] [.n n] (gY k)
    ⟨[(1,eP a1),(3,.cl (.ptr 3 0)),(5,.cl (.ptr 5 0)),(7,.cl (.vec 92)),(8,eP v8),(9,.int v9)],[(3,eB 24 a0),(5,eB 43 a2),(92,eV 3 1 8 X9)],[]⟩
theorem e91 (a0:ak) (a1:(Sl bz)) (a2:aj):(F91 E (a0,a1,a2)).T k =
  (E.c65 (a0,a1,a2)).T λ r1 =>
  uw E E.N a0 a1 a2 r1 0 (⟨0,(λ _=>0)⟩:(Sl Int)) k:=bJ.trans (by kernel_rfl)
theorem znr (n0:Nat) (a0:ak) (a1:(Sl bz)) (a2:aj) (v8:(Sl aB)) (v9:Int) (X9:Sl Int):uw E (n0+1) a0 a1 a2 v8 v9 X9 k =
  cond (decide (v9 < (a0.af.len:Int)))
  (aZ (decide (0<=v9/\v9 < (a0.af.len:Int))) (cond ((a0.af.get v9.toNat).View != a2.View)
 (uw E n0 a0 a1 a2 v8 (aO (v9+1)) X9 k)
 ((E.c87 (a1,a2.Hits,v9)).T λ r1 =>
 cond r1
 (uw E n0 a0 a1 a2 v8 (aO (v9+1)) X9 k)
 ((E.Ak v8).T λ r2 =>
 cond r2
 (uw E n0 a0 a1 a2 v8 (aO (v9+1)) X9 k)
 (aZ (decide (0<=v9/\v9 < (a0.af.len:Int))) ((E.zmb (v8,(a0.af.get v9.toNat).Z)).T λ r3 =>
 (E.Wx r3.1).T λ r4 =>
 (E.Wx (⟨(aO (0 - r3.2.Num)),r3.2.bI⟩:aQ)).T λ r5 =>
 (E.c86 (r4,(-1000000),1000000)).T λ r6 =>
 cond (!r6)
 (uw E n0 a0 a1 a2 v8 (aO (v9+1)) X9 k)
 ((E.c86 ((aO (0 - r5)),(-1000000),1000000)).T λ r7 =>
 cond (!r7)
 (uw E n0 a0 a1 a2 v8 (aO (v9+1)) X9 k)
 (aZ (decide (0<=v9/\v9 < (a0.af.len:Int))) ((E.c77 ((a0.af.get v9.toNat),(⟨r4,(aO (0 - r5))⟩:bV))).T λ r8 =>
 cond r8.1
 (aZ (room (X9.len+1) 8) (uw E n0 a0 a1 a2 v8 (aO (v9+1)) (⟨(X9.len+1),(jf X9.len X9.get (λ _=>v9))⟩:(Sl Int)) k))
 (uw E n0 a0 a1 a2 v8 (aO (v9+1)) X9 k))))))))))
  (k X9):=by kernel_rfl
end
theorem o91 [aJ] (E:E91) (h65:Ok ax 65 (ae.un E.c65)) (h87:Ok ax 87 (ae.un E.c87)) (DN:Ok ax 149 (ae.un E.Ak)) (zqB:Ok ax 150 (ae.un E.zmb)) (zjr:Ok ax 151 (ae.un E.Wx)) (h86:Ok ax 86 (ae.un E.c86)) (h77:Ok ax 77 (ae.un E.c77)):Ok ax 91 (ae.un (F91 E)):=bg (aP (((((((ay.nil.addF h65).addF h87).addF DN).addF zqB).addF zjr).addF h86).addF h77) (au (by kernel_rfl)))
structure E92 where
  N:Nat
  c152:(Sl Int)×Int->ae (Int)
abbrev G92 (E:E92):bf:=dw (Tabs.nil.addF 152 (ae.un E.c152)) []
def A92:bW:=aU ax 92 [] {}
def F92 (E:E92):aj×aj->ae (Bool):=ae.ty (aF ax E.N (G92 E) A92 92)
section
variable (E:E92){A:Type}(k:Bool->Option A)
def Ya (E:E92) (n:Nat) (a0:aj) (a1:aj) (v11:Int){A:Type}(k:Bool->Option A):Option A :=
  gV ax (G92 E) E.N A92 92 [1,0,1,0] [.n n] (gY k)
    ⟨[(2,.cl (.ptr 2 0)),(3,.cl (.ptr 3 0)),(9,eP a1.Hits),(10,.int (a1.Hits.len:Int)),(11,.int v11)],[(2,eB 43 a0),(3,eB 43 a1)],[]⟩
theorem e92 (a0:aj) (a1:aj):(F92 E (a0,a1)).T k =
  Ya E E.N a0 a1 0 k:=bJ.trans (by kernel_rfl)
theorem zns (n0:Nat) (a0:aj) (a1:aj) (v11:Int):Ya E (n0+1) a0 a1 v11 k =
  cond (decide (v11 < (a1.Hits.len:Int)))
  (aZ (decide (0<=v11/\v11 < (a1.Hits.len:Int))) ((E.c152 (a0.Hits,a1.Hits.get v11.toNat)).T λ r1 =>
 cond (decide (r1 < 0))
 (k false)
 (aZ (decide (0<=r1/\r1 < (a0.bD.len:Int))) (aZ (decide (0<=v11/\v11 < (a1.bD.len:Int))) (cond (a0.bD.get r1.toNat != a1.bD.get v11.toNat)
 (k false)
 (Ya E n0 a0 a1 (aO (v11+1)) k))))))
  (k (a0.View == a1.View)):=by kernel_rfl
end
theorem o92 [aJ] (E:E92) (zqE:Ok ax 152 (ae.un E.c152)):Ok ax 92 (ae.un (F92 E)):=bg (aP (ay.nil.addF zqE) (au (by kernel_rfl)))
structure E93 where
  N:Nat
  c50:ak×(Sl bz)->ae (bV×Int)
abbrev G93 (E:E93):bf:=dw (Tabs.nil.addF 50 (ae.un E.c50)) []
def A93:bW:=aU ax 93 [] { ks:=[(1,3,⟨[],[(6,27,92)],[],[],[],[],[]⟩)] }
def F93 (E:E93):(Pt aX)×aj->ae (bV×Bool):=ae.ty (aF ax E.N (G93 E) A93 93)
section
variable (E:E93){A:Type}(k:(bV×Bool)->Option A)
def Yb (E:E93) (n:Nat) (a0:(Pt aX)) (a1:aj) (v14:Int) (w27:Sl bz){A:Type}(k:(bV×Bool)->Option A):Option A :=
  gV ax (G93 E) E.N A93 93 [1,1,0,1,0] [.n n] (gY k)
    ⟨[(0,eP a0),(4,.cl (.ptr 4 0)),(6,.cl (.vec 27)),(12,eP a1.Hits),(13,.int (a1.Hits.len:Int)),(14,.int v14)],[(4,.box 105 [.p (.int .i64 0),.p (.int .i64 0)]),(27,eV 92 6 48 w27)],[]⟩
theorem e93 (a0:(Pt aX)) (a1:aj):(F93 E (a0,a1)).T k =
  Yb E E.N a0 a1 0 (⟨0,(λ _=>(⟨0,0,0,0,0,0⟩:bz))⟩:(Sl bz)) k:=bJ.trans (by kernel_rfl)
theorem znu (n0:Nat) (a0:(Pt aX)) (a1:aj) (v14:Int) (w27:Sl bz):Yb E (n0+1) a0 a1 v14 w27 k =
  cond (decide (v14 < (a1.Hits.len:Int)))
  (aZ (decide (0<=v14/\v14 < (a1.Hits.len:Int))) (aZ (decide (0<=a1.Hits.get v14.toNat/\a1.Hits.get v14.toNat < (a0.v.hits.len:Int))) (aZ (room (w27.len+1) 48) (Yb E n0 a0 a1 (aO (v14+1)) (⟨(w27.len+1),(jf w27.len w27.get (λ _=>(a0.v.hits.get (a1.Hits.get v14.toNat).toNat)))⟩:(Sl bz)) k))))
  ((E.c50 (a0.v.ak,w27)).T λ r1 =>
 k (r1.1,(r1.2 == 0))):=by kernel_rfl
end
theorem o93 [aJ] (E:E93) (h50:Ok ax 50 (ae.un E.c50)):Ok ax 93 (ae.un (F93 E)):=bg (aP (ay.nil.addF h50) (au (by kernel_rfl)))
structure E94 where
  N:Nat
  zmc:ak×(Sl bz)×Int->ae ((Sl aj)×Bool)
  c154:ak×bF×(Sl bz)×aj->ae (Bool)
abbrev G94 (E:E94):bf:=dw ((Tabs.nil.addF 153 (ae.un E.zmc)).addF 154 (ae.un E.c154)) []
def A94:bW:=aU ax 94 [] { ks:=[(1,6,⟨[],[(12,43,43)],[],[],[],[],[]⟩)] }
def F94 (E:E94):ak×bF×(Sl bz)×Int->ae ((Sl aj)×Bool):=ae.ty (aF ax E.N (G94 E) A94 94)
section
variable (E:E94){A:Type}(k:((Sl aj)×Bool)->Option A)
def Dt (E:E94) (n:Nat) (a0:ak) (a1:bF) (a2:(Sl bz)) (v10:(Sl aj)) (v13:Int) (w43:Sl aj){A:Type}(k:((Sl aj)×Bool)->Option A):Option A :=
  gV ax (G94 E) E.N A94 94 [1,1,1,1,0,1,0] [.n n] (gY k)
    ⟨[(2,eP a2),(4,.cl (.ptr 4 0)),(5,.cl (.ptr 5 0)),(10,eP v10),(12,.cl (.vec 43)),(13,.int v13)],[(4,eB 24 a0),(5,eB 26 a1),(43,eV 43 3 56 w43)],[]⟩
theorem e94 (a0:ak) (a1:bF) (a2:(Sl bz)) (a3:Int):(F94 E (a0,a1,a2,a3)).T k =
  (E.zmc (a0,a2,a3)).T λ r1 =>
  cond (!r1.2)
  (k ((⟨0,λ _=>default⟩:(Sl aj)),false))
  (Dt E E.N a0 a1 a2 r1.1 0 (⟨0,(λ _=>(⟨0,(⟨0,(λ _=>0)⟩:(Sl Int)),(⟨0,(λ _=>0)⟩:(Sl Int))⟩:aj))⟩:(Sl aj)) k):=bJ.trans (by kernel_rfl)
theorem znv (n0:Nat) (a0:ak) (a1:bF) (a2:(Sl bz)) (v10:(Sl aj)) (v13:Int) (w43:Sl aj):Dt E (n0+1) a0 a1 a2 v10 v13 w43 k =
  cond (decide (v13 < (v10.len:Int)))
  (aZ (decide (0<=v13/\v13 < (v10.len:Int))) ((E.c154 (a0,a1,a2,(v10.get v13.toNat))).T λ r1 =>
 cond r1
 (aZ (decide (0<=v13/\v13 < (v10.len:Int))) (aZ (room (w43.len+1) 56) (Dt E n0 a0 a1 a2 v10 (aO (v13+1)) (⟨(w43.len+1),(jf w43.len w43.get (λ _=>(v10.get v13.toNat)))⟩:(Sl aj)) k)))
 (Dt E n0 a0 a1 a2 v10 (aO (v13+1)) w43 k)))
  (k (w43,true)):=by kernel_rfl
end
theorem o94 [aJ] (E:E94) (zqH:Ok ax 153 (ae.un E.zmc)) (zqI:Ok ax 154 (ae.un E.c154)):Ok ax 94 (ae.un (F94 E)):=bg (aP ((ay.nil.addF zqH).addF zqI) (au (by kernel_rfl)))
structure E97 where
  N:Nat
  zl7:aj×(Pt aj)->ae (Bool)
abbrev G97 (E:E97):bf:=dw (Tabs.nil.addF 132 (ae.un E.zl7)) []
def A97:bW:=aU ax 97 [] {}
def F97 (E:E97):(Sl aj)×(dN 132 Unit (Pt aj))->ae (Int):=ae.ty (aF ax E.N (G97 E) A97 97)
section
variable (E:E97){A:Type}(k:Int->Option A)
def Yc (E:E97) (n:Nat) (a0:(Sl aj)) (a1:(dN 132 Unit (Pt aj))) (v8:Int){A:Type}(k:Int->Option A):Option A :=
  gV ax (G97 E) E.N A97 97 [1,0,1,0] [.n n] (gY k)
    ⟨[(0,eP a0),(1,eP a1),(7,.int (a0.len:Int)),(8,.int v8)],[],[]⟩
theorem e97 (a0:(Sl aj)) (a1:(dN 132 Unit (Pt aj))):(F97 E (a0,a1)).T k =
  Yc E E.N a0 a1 0 k:=bJ.trans (by kernel_rfl)
theorem znw (n0:Nat) (a0:(Sl aj)) (a1:(dN 132 Unit (Pt aj))) (v8:Int):Yc E (n0+1) a0 a1 v8 k =
  cond (decide (v8 < (a0.len:Int)))
  (aZ (decide (0<=v8/\v8 < (a0.len:Int))) ((E.zl7 ((a0.get v8.toNat),a1.v)).T λ r1 =>
 cond r1
 (k v8)
 (Yc E n0 a0 a1 (aO (v8+1)) k)))
  (k (-1)):=by kernel_rfl
end
theorem o97 [aJ] (E:E97) (zqK:Ok ax 132 (ae.un E.zl7)):Ok ax 97 (ae.un (F97 E)):=bg (aP (ay.nil.addF zqK) (au (by kernel_rfl)))
end Go.Proofs

namespace Go.Proofs
open Go Go.Pm
set_option maxRecDepth 100000
structure Vj where
  N:Nat
  c156:aB->ae (Bool)
  c157:Int×Int×Int->ae (Bool)
abbrev zyQ (E:Vj):bf:=dw ((Tabs.nil.addF 156 (ae.un E.c156)).addF 157 (ae.un E.c157)) []
def zyR:bW:=aU ax 109 [] {}
def zjt (E:Vj):(Sl aB)->ae (Bool):=ae.ty (aF ax E.N (zyQ E) zyR 109)
section
variable (E:Vj){A:Type}(k:Bool->Option A)
def NJ (E:Vj) (n:Nat) (a0:(Sl aB)) (v7:Int){A:Type}(k:Bool->Option A):Option A :=
  gV ax (zyQ E) E.N zyR 109 [1,0,1,0] [.n n] (gY k)
    ⟨[(0,eP a0),(5,eP a0),(6,.int (a0.len:Int)),(7,.int v7)],[],[]⟩
theorem e109 (a0:(Sl aB)):(zjt E (a0)).T k =
  NJ E E.N a0 0 k:=bJ.trans (by kernel_rfl)
theorem zes (n0:Nat) (a0:(Sl aB)) (v7:Int):NJ E (n0+1) a0 v7 k =
  cond (decide (v7 < (a0.len:Int)))
  (aZ (decide (0<=v7/\v7 < (a0.len:Int))) ((E.c156 (a0.get v7.toNat)).T λ r1 =>
 cond (!r1)
 (k false)
 (NJ E n0 a0 (aO (v7+1)) k)))
  ((E.c157 ((a0.len:Int),1,24)).T λ r2 =>
 k r2):=by kernel_rfl
end
theorem zHD [aJ] (E:Vj) (zqL:Ok ax 156 (ae.un E.c156)) (xZ:Ok ax 157 (ae.un E.c157)):Ok ax 109 (ae.un (zjt E)):=bg (aP ((ay.nil.addF zqL).addF xZ) (au (by kernel_rfl)))
structure Vk where
  N:Nat
  c160:ak->ae (Bool)
  qH:ak×bz->ae (placed×Bool)
abbrev zyS (E:Vk):bf:=dw ((Tabs.nil.addF 160 (ae.un E.c160)).addF 112 (ae.un E.qH)) []
def zyT:bW:=aU ax 111 [] {}
def zju (E:Vk):ak×(Sl bz)->ae (Int):=ae.ty (aF ax E.N (zyS E) zyT 111)
section
variable (E:Vk){A:Type}(k:Int->Option A)
def NL (E:Vk) (n:Nat) (a0:ak) (a1:(Sl bz)) (v17:Int){A:Type}(k:Int->Option A):Option A :=
  gV ax (zyS E) E.N zyT 111 [1,1,1,0,1,0] [.n n] (gY k)
    ⟨[(2,.cl (.ptr 2 0)),(15,eP a1),(16,.int (a1.len:Int)),(17,.int v17)],[(2,eB 24 a0)],[]⟩
theorem zHE (a0:ak) (a1:(Sl bz)):(zju E (a0,a1)).T k =
  cond (decide ((a1.len:Int) > 2000))
  (k 3)
  ((E.c160 a0).T λ r1 =>
 cond (!r1)
 (k 2)
 (NL E E.N a0 a1 0 k)):=bJ.trans (by kernel_rfl)
theorem zet (n0:Nat) (a0:ak) (a1:(Sl bz)) (v17:Int):NL E (n0+1) a0 a1 v17 k =
  cond (decide (v17 < (a1.len:Int)))
  (aZ (decide (0<=v17/\v17 < (a1.len:Int))) ((E.qH (a0,(a1.get v17.toNat))).T λ r1 =>
 cond (!r1.2)
 (k 2)
 (NL E n0 a0 a1 (aO (v17+1)) k)))
  (k 0):=by kernel_rfl
end
theorem o111 [aJ] (E:Vk) (xY:Ok ax 160 (ae.un E.c160)) (h112:Ok ax 112 (ae.un E.qH)):Ok ax 111 (ae.un (zju E)):=bg (aP ((ay.nil.addF xY).addF h112) (au (by kernel_rfl)))
structure Z7 where
  N:Nat
abbrev zHF (E:Z7):bf:=dw Tabs.nil []
def zHG:bW:=aU ax 113 [] {}
def zjv (E:Z7):placed×bz->ae (bV):=ae.ty (aF ax E.N (zHF E) zHG 113)
section
variable (E:Z7){A:Type}(k:bV->Option A)
theorem zHH (a0:placed) (a1:bz):(zjv E (a0,a1)).T k =
  cond (a0.ai.Kind == 3)
  (k a0.ai.Clock)
  (k (⟨(aO ((aO (a1.Time - a0.ai.Clock.High)) - a0.ai.dH)),(aO ((aO (a1.Time - a0.ai.Clock.Low))+a0.ai.dH))⟩:bV)):=bJ.trans (by kernel_rfl)
end
theorem zHI [aJ] (E:Z7):Ok ax 113 (ae.un (zjv E)):=bg (aP ay.nil (au (by kernel_rfl)))
structure Z8 where
  N:Nat
  c157:Int×Int×Int->ae (Bool)
  c117:(Sl aB)×((dN 118 Unit Unit) ⊕ (dN 162 Unit (Pt Int)))->ae (set×Int)
  zb2:set×Int->ae (aQ×aQ)
abbrev zHJ (E:Z8):bf:=dw (((Tabs.nil.addF 157 (ae.un E.c157)).addF 117 (ae.un E.c117)).addF 163 (ae.un E.zb2)) []
def zHK:bW:=aU ax 114 [] {}
def zjw (E:Z8):(Sl aB)×Int->ae (aQ×aQ×Int):=ae.ty (aF ax E.N (zHJ E) zHK 114)
section
variable (E:Z8){A:Type}(k:(aQ×aQ×Int)->Option A)
theorem zHL (a0:(Sl aB)) (a1:Int):(zjw E (a0,a1)).T k =
  (E.c157 (a1,(-100000),200000)).T λ r1 =>
  cond (!r1)
  (k ((⟨0,0⟩:aQ),(⟨0,0⟩:aQ),2))
  ((E.c117 (a0,(Sum.inr (⟨(),(⟨a1⟩:(Pt Int))⟩:(dN 162 Unit (Pt Int)))))).T λ r2 =>
 cond (r2.2 != 0)
 (k ((⟨0,0⟩:aQ),(⟨0,0⟩:aQ),r2.2))
 ((E.zb2 (r2.1,a1)).T λ r3 =>
 k (r3.1,r3.2,0))):=bJ.trans (by kernel_rfl)
end
theorem zHM [aJ] (E:Z8) (xZ:Ok ax 157 (ae.un E.c157)) (Vl:Ok ax 117 (ae.un E.c117)) (zqM:Ok ax 163 (ae.un E.zb2)):Ok ax 114 (ae.un (zjw E)):=bg (aP (((ay.nil.addF xZ).addF Vl).addF zqM) (au (by kernel_rfl)))
structure Q9 where
  N:Nat
  c160:ak->ae (Bool)
  fP:Int×Int×Int->ae (Bool)
  c164:bV×Int->ae (Bool)
  zb5:(Pt placed)->ae (List (Int×bV))
abbrev zqN (E:Q9):bf:=dw (((((Tabs.nil.addF 160 (ae.un E.c160)).addF 161 (ae.un E.fP)).addF 164 (ae.un E.c164)).addF 165 (aF ax E.N (dw Tabs.nil []) (aU ax 165 [] {}) 165)).addI 204 (ae.unI E.zb5)) []
def zqO:bW:=aU ax 115 [] { cut:=[10] }
def zjx (E:Q9):ak×Int×bV->ae (Bool×Bool×Int):=ae.ty (aF ax E.N (zqN E) zqO 115)
section
variable (E:Q9){A:Type}(k:(Bool×Bool×Int)->Option A)
def qC (E:Q9) (l:List (Int×bV)) (a0:ak) (a1:Int) (mW:Int) (lZ:Int) (pI:Bool) (l7:Int){A:Type}(k:(Bool×Bool×Int)->Option A):Option A :=
  gV ax (zqN E) E.N zqO 115 [1,1,1,1,1,1,0,1,0] [.y (l.map dC.enc)] (gY k)
    ⟨[(9,.cl (.ptr 9 0)),(10,.cl (.ptr 10 0)),(11,.cl (.ptr 11 0)),(12,.cl (.ptr 12 0)),(13,.cl (.ptr 13 0)),(56,.p (.fn 204 [] [.fp [.int .i64 (a0.af.get a1.toNat).Kind,.int .i64 (a0.af.get a1.toNat).View,.int .i64 (a0.af.get a1.toNat).Z,.int .i64 (a0.af.get a1.toNat).First,.int .i64 (a0.af.get a1.toNat).aT,.int .i64 (a0.af.get a1.toNat).bM,.int .i64 (a0.af.get a1.toNat).dE,.int .i64 (a0.af.get a1.toNat).bn.Low,.int .i64 (a0.af.get a1.toNat).bn.High,.int .i64 (a0.af.get a1.toNat).Clock.Low,.int .i64 (a0.af.get a1.toNat).Clock.High,.int .i64 (a0.af.get a1.toNat).dH,.int .i64 (a0.af.get a1.toNat).Least,.sl (a0.af.get a1.toNat).aS.len 3 (λ i=>bG.enc ((a0.af.get a1.toNat).aS.get i)),.sl (a0.af.get a1.toNat).Dead.len 1 (λ i=>bG.enc ((a0.af.get a1.toNat).Dead.get i)),.int .i64 a1] 0]))],[(9,.box 185 [.p (.int .i64 (a0.af.get a1.toNat).Kind),.p (.int .i64 (a0.af.get a1.toNat).View),.p (.int .i64 (a0.af.get a1.toNat).Z),.p (.int .i64 (a0.af.get a1.toNat).First),.p (.int .i64 (a0.af.get a1.toNat).aT),.p (.int .i64 (a0.af.get a1.toNat).bM),.p (.int .i64 (a0.af.get a1.toNat).dE),.p (.int .i64 (a0.af.get a1.toNat).bn.Low),.p (.int .i64 (a0.af.get a1.toNat).bn.High),.p (.int .i64 (a0.af.get a1.toNat).Clock.Low),.p (.int .i64 (a0.af.get a1.toNat).Clock.High),.p (.int .i64 (a0.af.get a1.toNat).dH),.p (.int .i64 (a0.af.get a1.toNat).Least),.p (.sl (a0.af.get a1.toNat).aS.len 3 (λ i=>bG.enc ((a0.af.get a1.toNat).aS.get i))),.p (.sl (a0.af.get a1.toNat).Dead.len 1 (λ i=>bG.enc ((a0.af.get a1.toNat).Dead.get i))),.p (.int .i64 a1)]),(10,eB 3 mW),(11,eB 3 lZ),(12,eB 4 pI),(13,eB 3 l7)],[]⟩
def Hr (E:Q9) (l0:List (Int×bV)) (a0:ak) (a1:Int) (mW:Int) (lZ:Int) (pI:Bool) (l7:Int) (x15:bV){A:Type}(k:(Bool×Bool×Int)->Option A):Option A :=
  gV ax (zqN E) E.N zqO 115 [1,1,1,1,1,1,0,1,0,0,0,1] [.y (l0.map dC.enc)] (gY k)
    ⟨[(9,.cl (.ptr 9 0)),(10,.cl (.ptr 10 0)),(11,.cl (.ptr 11 0)),(12,.cl (.ptr 12 0)),(13,.cl (.ptr 13 0)),(15,.cl (.ptr 15 0)),(56,.p (.fn 204 [] [.fp [.int .i64 (a0.af.get a1.toNat).Kind,.int .i64 (a0.af.get a1.toNat).View,.int .i64 (a0.af.get a1.toNat).Z,.int .i64 (a0.af.get a1.toNat).First,.int .i64 (a0.af.get a1.toNat).aT,.int .i64 (a0.af.get a1.toNat).bM,.int .i64 (a0.af.get a1.toNat).dE,.int .i64 (a0.af.get a1.toNat).bn.Low,.int .i64 (a0.af.get a1.toNat).bn.High,.int .i64 (a0.af.get a1.toNat).Clock.Low,.int .i64 (a0.af.get a1.toNat).Clock.High,.int .i64 (a0.af.get a1.toNat).dH,.int .i64 (a0.af.get a1.toNat).Least,.sl (a0.af.get a1.toNat).aS.len 3 (λ i=>bG.enc ((a0.af.get a1.toNat).aS.get i)),.sl (a0.af.get a1.toNat).Dead.len 1 (λ i=>bG.enc ((a0.af.get a1.toNat).Dead.get i)),.int .i64 a1] 0]))],[(9,.box 185 [.p (.int .i64 (a0.af.get a1.toNat).Kind),.p (.int .i64 (a0.af.get a1.toNat).View),.p (.int .i64 (a0.af.get a1.toNat).Z),.p (.int .i64 (a0.af.get a1.toNat).First),.p (.int .i64 (a0.af.get a1.toNat).aT),.p (.int .i64 (a0.af.get a1.toNat).bM),.p (.int .i64 (a0.af.get a1.toNat).dE),.p (.int .i64 (a0.af.get a1.toNat).bn.Low),.p (.int .i64 (a0.af.get a1.toNat).bn.High),.p (.int .i64 (a0.af.get a1.toNat).Clock.Low),.p (.int .i64 (a0.af.get a1.toNat).Clock.High),.p (.int .i64 (a0.af.get a1.toNat).dH),.p (.int .i64 (a0.af.get a1.toNat).Least),.p (.sl (a0.af.get a1.toNat).aS.len 3 (λ i=>bG.enc ((a0.af.get a1.toNat).aS.get i))),.p (.sl (a0.af.get a1.toNat).Dead.len 1 (λ i=>bG.enc ((a0.af.get a1.toNat).Dead.get i))),.p (.int .i64 a1)]),(10,eB 3 mW),(11,eB 3 lZ),(12,eB 4 pI),(13,eB 3 l7),(15,eB 105 x15)],[]⟩
theorem e115 (a0:ak) (a1:Int) (a2:bV):(zjx E (a0,a1,a2)).T k =
  (E.c160 a0).T λ r1 =>
  cond (!r1)
  (k (false,false,2))
  ((E.fP (a1,0,(aO ((a0.af.len:Int) - 1)))).T λ r2 =>
 cond (!r2)
 (k (false,false,2))
 ((E.c164 (a2,1000000)).T λ r3 =>
 cond (!r3)
 (k (false,false,2))
 (aZ (decide (0<=a1/\a1 < (a0.af.len:Int))) ((E.zb5 (⟨(⟨(a0.af.get a1.toNat),a1⟩:placed)⟩:(Pt placed))).T λ r4 =>
 qC E r4 a0 a1 (aO (a2.Low - (a0.af.get a1.toNat).bn.High)) (aO (a2.High - (a0.af.get a1.toNat).bn.Low)) false (aO (a2.Low - (a0.af.get a1.toNat).bn.High)) k)))):=bJ.trans (by kernel_rfl)
theorem zjy (a0:ak) (a1:Int) (mW:Int) (lZ:Int) (pI:Bool) (l7:Int):qC E [] a0 a1 mW lZ pI l7 k =
  k (decide (l7 > lZ),pI,0):=by kernel_rfl
theorem Vm (y:Int×bV) (l0:List (Int×bV)) (a0:ak) (a1:Int) (mW:Int) (lZ:Int) (pI:Bool) (l7:Int):qC E (y :: l0) a0 a1 mW lZ pI l7 k =
  cond pI
  (Hr E l0 a0 a1 mW lZ true l7 y.2 k)
  (cond (decide ((aO (y.2.Low - (a0.af.get a1.toNat).dE))<=lZ))
 (Hr E l0 a0 a1 mW lZ (decide ((aO (y.2.High+(a0.af.get a1.toNat).dE)) >= mW)) l7 y.2 k)
 (Hr E l0 a0 a1 mW lZ false l7 y.2 k)):=by kernel_rfl
theorem zqP (l0:List (Int×bV)) (a0:ak) (a1:Int) (mW:Int) (lZ:Int) (pI:Bool) (l7:Int) (x15:bV):Hr E l0 a0 a1 mW lZ pI l7 x15 k =
  cond (decide (x15.Low<=l7))
  (cond (decide (l7<=x15.High))
 (qC E l0 a0 a1 mW lZ pI (aO (x15.High+1)) k)
 (qC E l0 a0 a1 mW lZ pI l7 k))
  (qC E l0 a0 a1 mW lZ pI l7 k):=by kernel_rfl
end
theorem zHN [aJ] (E:Q9) (xY:Ok ax 160 (ae.un E.c160)) (jH:Ok ax 161 (ae.un E.fP)) (QX:Ok ax 164 (ae.un E.c164)) (zHO:qL ax 204 (ae.unI E.zb5)):Ok ax 115 (ae.un (zjx E)):=bg (aP (((((ay.nil.addF xY).addF jH).addF QX).addF (aP ay.nil (au (by kernel_rfl)))).addI zHO) (au (by kernel_rfl)))
structure Z9 where
  N:Nat
  OV:Line×Int->ae (Int×Int)
abbrev zHP (E:Z9):bf:=dw (Tabs.nil.addF 166 (ae.un E.OV)) []
def zHQ:bW:=aU ax 116 [] {}
def zjz (E:Z9):Line×aB->ae (Bool):=ae.ty (aF ax E.N (zHP E) zHQ 116)
section
variable (E:Z9){A:Type}(k:Bool->Option A)
theorem e116 (a0:Line) (a1:aB):(zjz E (a0,a1)).T k =
  (E.OV (a0,a1.Z)).T λ r1 =>
  cond (decide ((aO (a1.Low * r1.2))<=r1.1))
  (k (decide (r1.1<=(aO (a1.High * r1.2)))))
  (k false):=bJ.trans (by kernel_rfl)
end
theorem zHR [aJ] (E:Z9) (Vo:Ok ax 166 (ae.un E.OV)):Ok ax 116 (ae.un (zjz E)):=bg (aP (ay.nil.addF Vo) (au (by kernel_rfl)))
structure rq where
  N:Nat
  c109:(Sl aB)->ae (Bool)
  OU:(Sl aB)->ae (set)
  c159:set->ae (Bool)
  c167:list->ae (Bool)
  zl4:list->ae (Bool)
abbrev zeu (E:rq):bf:=dw (((((Tabs.nil.addF 109 (ae.un E.c109)).addF 158 (ae.un E.OU)).addF 159 (ae.un E.c159)).addF 167 (ae.un E.c167)).addF 118 (ae.un E.zl4)) []
def zev:bW:=aU ax 117 [] {}
def zB (E:rq):(Sl aB)×(dN 118 Unit Unit)->ae (set×Int):=ae.ty (aF ax E.N (zeu E) zev 117)
section
variable (E:rq){A:Type}(k:(set×Int)->Option A)
theorem zew (a0:(Sl aB)) (a1:(dN 118 Unit Unit)):(zB E (a0,a1)).T k =
  (E.c109 a0).T λ r1 =>
  cond (!r1)
  (k ((⟨(⟨(⟨0,λ _=>default⟩:(Sl aB))⟩:list),(⟨0,λ _=>default⟩:(Sl straight))⟩:set),2))
  ((E.OU a0).T λ r2 =>
 (E.c159 r2).T λ r3 =>
 cond (!r3)
 (k ((⟨(⟨(⟨0,λ _=>default⟩:(Sl aB))⟩:list),(⟨0,λ _=>default⟩:(Sl straight))⟩:set),5))
 ((E.c167 r2.list).T λ r4 =>
 cond r4
 ((E.zl4 r2.list).T λ r5 =>
 cond (!r5)
 (k ((⟨(⟨(⟨0,λ _=>default⟩:(Sl aB))⟩:list),(⟨0,λ _=>default⟩:(Sl straight))⟩:set),6))
 (k (r2,0)))
 (k (r2,0)))):=bJ.trans (by kernel_rfl)
end
theorem zex [aJ] (E:rq) (Vp:Ok ax 109 (ae.un E.c109)) (Vq:Ok ax 158 (ae.un E.OU)) (Vr:Ok ax 159 (ae.un E.c159)) (tC:Ok ax 167 (ae.un E.c167)) (zqQ:Ok ax 118 (ae.un E.zl4)):Ok ax 117 (ae.un (zB E)):=bg (aP (((((ay.nil.addF Vp).addF Vq).addF Vr).addF tC).addF zqQ) (au (by kernel_rfl)))
structure ru where
  N:Nat
  c109:(Sl aB)->ae (Bool)
  OU:(Sl aB)->ae (set)
  c159:set->ae (Bool)
  c167:list->ae (Bool)
  c162:list×(Pt Int)->ae (Bool)
abbrev zey (E:ru):bf:=dw (((((Tabs.nil.addF 109 (ae.un E.c109)).addF 158 (ae.un E.OU)).addF 159 (ae.un E.c159)).addF 167 (ae.un E.c167)).addF 162 (ae.un E.c162)) []
def zez:bW:=aU ax 117 [] {}
def zC (E:ru):(Sl aB)×(dN 162 Unit (Pt Int))->ae (set×Int):=ae.ty (aF ax E.N (zey E) zez 117)
section
variable (E:ru){A:Type}(k:(set×Int)->Option A)
theorem zeA (a0:(Sl aB)) (a1:(dN 162 Unit (Pt Int))):(zC E (a0,a1)).T k =
  (E.c109 a0).T λ r1 =>
  cond (!r1)
  (k ((⟨(⟨(⟨0,λ _=>default⟩:(Sl aB))⟩:list),(⟨0,λ _=>default⟩:(Sl straight))⟩:set),2))
  ((E.OU a0).T λ r2 =>
 (E.c159 r2).T λ r3 =>
 cond (!r3)
 (k ((⟨(⟨(⟨0,λ _=>default⟩:(Sl aB))⟩:list),(⟨0,λ _=>default⟩:(Sl straight))⟩:set),5))
 ((E.c167 r2.list).T λ r4 =>
 cond r4
 ((E.c162 (r2.list,a1.v)).T λ r5 =>
 cond (!r5)
 (k ((⟨(⟨(⟨0,λ _=>default⟩:(Sl aB))⟩:list),(⟨0,λ _=>default⟩:(Sl straight))⟩:set),6))
 (k (r2,0)))
 (k (r2,0)))):=bJ.trans (by kernel_rfl)
end
theorem zeB [aJ] (E:ru) (Vp:Ok ax 109 (ae.un E.c109)) (Vq:Ok ax 158 (ae.un E.OU)) (Vr:Ok ax 159 (ae.un E.c159)) (tC:Ok ax 167 (ae.un E.c167)) (zqR:Ok ax 162 (ae.un E.c162)):Ok ax 117 (ae.un (zC E)):=bg (aP (((((ay.nil.addF Vp).addF Vq).addF Vr).addF tC).addF zqR) (au (by kernel_rfl)))
structure zaa where
  N:Nat
abbrev zHS (E:zaa):bf:=dw Tabs.nil []
def zHT:bW:=aU ax 118 [] {}
def zjA (E:zaa):list->ae (Bool):=ae.ty (aF ax E.N (zHS E) zHT 118)
section
variable (E:zaa){A:Type}(k:Bool->Option A)
theorem e118 (a0:list):(zjA E (a0)).T k =
  k false:=bJ.trans (by kernel_rfl)
end
theorem zHU [aJ] (E:zaa):Ok ax 118 (ae.un (zjA E)):=bg (aP ay.nil (au (by kernel_rfl)))
structure Vs where
  N:Nat
  zmk:straight×(Pt Int)->ae (aQ)
  c168:(Sl aQ)×((dN 169 Unit Unit) ⊕ (dN 171 Unit Unit))->ae (aQ)
  lK:Int×Int->ae (aQ)
abbrev zyU (E:Vs):bf:=dw (((Tabs.nil.addF 202 (ae.un E.zmk)).addF 168 (ae.un E.c168)).addF 172 (ae.un E.lK)) []
def zyV:bW:=aU ax 119 [] { ks:=[(1,3,⟨[],[(6,23,85)],[],[],[],[],[]⟩)] }
def zjB (E:Vs):set×(dN 202 Unit (Pt Int))->ae (aQ×aQ):=ae.ty (aF ax E.N (zyU E) zyV 119)
section
variable (E:Vs){A:Type}(k:(aQ×aQ)->Option A)
def NM (E:Vs) (n:Nat) (a0:set) (a1:(dN 202 Unit (Pt Int))) (v14:Int) (w23:Sl aQ){A:Type}(k:(aQ×aQ)->Option A):Option A :=
  gV ax (zyU E) E.N zyV 119 [1,1,0,1,0] [.n n] (gY k)
    ⟨[(1,eP a1),(4,.cl (.ptr 4 0)),(5,.cl (.ptr 5 0)),(6,.cl (.vec 23)),(12,eP a0.cO),(13,.int (a0.cO.len:Int)),(14,.int v14)],[(4,.box 85 [.p (.int .i64 0),.p (.int .i64 0)]),(5,.box 85 [.p (.int .i64 0),.p (.int .i64 0)]),(23,eV 85 2 16 w23)],[]⟩
theorem e119 (a0:set) (a1:(dN 202 Unit (Pt Int))):(zjB E (a0,a1)).T k =
  NM E E.N a0 a1 0 (⟨0,(λ _=>(⟨0,0⟩:aQ))⟩:(Sl aQ)) k:=bJ.trans (by kernel_rfl)
theorem zeC (n0:Nat) (a0:set) (a1:(dN 202 Unit (Pt Int))) (v14:Int) (w23:Sl aQ):NM E (n0+1) a0 a1 v14 w23 k =
  cond (decide (v14 < (a0.cO.len:Int)))
  (aZ (decide (0<=v14/\v14 < (a0.cO.len:Int))) ((E.zmk ((a0.cO.get v14.toNat),a1.v)).T λ r1 =>
 aZ (room (w23.len+1) 16) (NM E n0 a0 a1 (aO (v14+1)) (⟨(w23.len+1),(jf w23.len w23.get (fun _=>r1))⟩:(Sl aQ)) k)))
  ((E.c168 (w23,(Sum.inl (⟨(),()⟩:(dN 169 Unit Unit))))).T λ r2 =>
 (E.c168 (w23,(Sum.inr (⟨(),()⟩:(dN 171 Unit Unit))))).T λ r3 =>
 (E.lK (r2.Num,r2.bI)).T λ r4 =>
 (E.lK (r3.Num,r3.bI)).T λ r5 =>
 k (r4,r5)):=by kernel_rfl
end
theorem zHV [aJ] (E:Vs) (zqS:Ok ax 202 (ae.un E.zmk)) (zjD:Ok ax 168 (ae.un E.c168)) (tH:Ok ax 172 (ae.un E.lK)):Ok ax 119 (ae.un (zjB E)):=bg (aP (((ay.nil.addF zqS).addF zjD).addF tH) (au (by kernel_rfl)))
structure Vt where
  N:Nat
abbrev zyW (E:Vt):bf:=dw Tabs.nil []
def zyX:bW:=aU ax 125 [] {}
def zjE (E:Vt):Int×Int->ae (Int):=ae.ty (aF ax E.N (zyW E) zyX 125)
section
variable (E:Vt){A:Type}(k:Int->Option A)
def NP (E:Vt) (n:Nat) (v0:Int) (v1:Int){A:Type}(k:Int->Option A):Option A :=
  gV ax (zyW E) E.N zyX 125 [1,0,0] [.n n] (gY k)
    ⟨[(0,.int v0),(1,.int v1)],[],[]⟩
theorem e125 (a0:Int) (a1:Int):(zjE E (a0,a1)).T k =
  NP E E.N a0 a1 k:=bJ.trans (by kernel_rfl)
theorem zqT (n0:Nat) (v0:Int) (v1:Int):NP E (n0+1) v0 v1 k =
  cond (v1 != 0)
  (aZ (decide (v1 ≠ 0)) (NP E n0 v1 (v0.tmod v1) k))
  (k v0):=by kernel_rfl
end
theorem zHW [aJ] (E:Vt):Ok ax 125 (ae.un (zjE E)):=bg (aP ay.nil (au (by kernel_rfl)))
structure zab where
  N:Nat
  zme:(Sl Bool)×Bool->ae (Int)
abbrev zHX (E:zab):bf:=dw (Tabs.nil.addF 176 (ae.un E.zme)) []
def zHY:bW:=aU ax 126 [] {}
def zjF (E:zab):(Sl Bool)×Bool->ae (Bool):=ae.ty (aF ax E.N (zHX E) zHY 126)
section
variable (E:zab){A:Type}(k:Bool->Option A)
theorem e126 (a0:(Sl Bool)) (a1:Bool):(zjF E (a0,a1)).T k =
  (E.zme (a0,a1)).T λ r1 =>
  k (decide (r1 >= 0)):=bJ.trans (by kernel_rfl)
end
theorem zHZ [aJ] (E:zab) (zqU:Ok ax 176 (ae.un E.zme)):Ok ax 126 (ae.un (zjF E)):=bg (aP (ay.nil.addF zqU) (au (by kernel_rfl)))
structure zac where
  N:Nat
  Jr:aj×Int×Bc 143 (Pt aX)×Bc 38 Int×Bw 30 43 3 56 aj×Bs 255 178 2 4×Unit->ae ((Unit)×(Unit×Unit×(Pt aX)×Int×Sl aj×Unit×Unit))
abbrev zH0 (E:zac):bf:=dw (Tabs.nil.addM 178 (ae.unM E.Jr)) []
def zH1:bW:=aU ax 127 [] { ks:=[(0,3,⟨[],[],[(4,0,5000,43)],[],[],[],[]⟩)] }
def zjG (E:zac):(Pt aX)×Int->ae ((Sl aj)×Bool):=ae.ty (aD ax (zH0 E) E.N zdW 177 zH1 127)
section
variable (E:zac){A:Type}(k:((Sl aj)×Bool)->Option A)
theorem e127 (a0:(Pt aX)) (a1:Int):(zjG E (a0,a1)).T k =
  (E.Jr ((⟨0,(⟨0,λ _=>default⟩:(Sl Int)),(⟨0,λ _=>default⟩:(Sl Int))⟩:aj),0,(⟨a0⟩:Bc 143 (Pt aX)),(⟨a1⟩:Bc 38 Int),(⟨(⟨0,(λ _=>(⟨0,(⟨0,(λ _=>0)⟩:(Sl Int)),(⟨0,(λ _=>0)⟩:(Sl Int))⟩:aj))⟩:(Sl aj))⟩:Bw 30 43 3 56 aj),({} : Bs 255 178 2 4),())).T λ r1 =>
  k (r1.2.2.2.2.2.1,true):=zx1.trans (by kernel_rfl)
end
theorem zH2 [aJ] (E:zac) (zqV:nV ax 178 (ae.unM E.Jr)):Ok ax 127 (ae.un (zjG E)):=bg (zdT (ay.nil.addM zqV) (au (by kernel_rfl)) zdX)
structure oz where
  N:Nat
  zl6:(Pt aX)×aj->ae (Bool)
abbrev Rf (E:oz):bf:=dw (Tabs.nil.addF 129 (ae.un E.zl6)) []
def Rh:bW:=aU ax 128 [] { ks:=[(1,3,⟨[],[(5,20,43)],[],[],[],[],[]⟩)] }
def zD (E:oz):(Sl aj)×(dN 129 (Pt aX) Unit)->ae (Sl aj×Unit):=ae.tyV (aK ax E.N (Rf E) Rh 128 43 3 56)
section
variable (E:oz){A:Type}(k:(Sl aj×Unit)->Option A)
def oC (E:oz) (n:Nat) (a0:(Sl aj)) (a1:(dN 129 (Pt aX) Unit)) (v10:Int) (NQ:Sl aj){A:Type}(k:(Sl aj×Unit)->Option A):Option A :=
  ptG ax (Rf E) E.N Rh 128 [1,1,0,1,0] [.n n] (UX 43 3 56) (UW k)
    ⟨[(1,.p (.fn 129 [.fp [.sl a1.a.v.ak.af.len 15 (λ i=>bG.enc (a1.a.v.ak.af.get i)),.sl a1.a.v.hits.len 6 (λ i=>bG.enc (a1.a.v.hits.get i)),.sl a1.a.v.kV.len 1 (λ i=>bG.enc (a1.a.v.kV.get i)),.int .i64 a1.a.v.rules.oW,.int .i64 a1.a.v.rules.rU] 0] [])),(5,.cl (.vec 20)),(8,eP a0),(9,.int (a0.len:Int)),(10,.int v10)],[(20,eV 43 3 56 NQ)],[]⟩
theorem zeD (a0:(Sl aj)) (a1:(dN 129 (Pt aX) Unit)):(zD E (a0,a1)).T k =
  oC E E.N a0 a1 0 (⟨0,(λ _=>(⟨0,(⟨0,(λ _=>0)⟩:(Sl Int)),(⟨0,(λ _=>0)⟩:(Sl Int))⟩:aj))⟩:(Sl aj)) k:=zdJ.trans (by kernel_rfl)
theorem Ht (n0:Nat) (a0:(Sl aj)) (a1:(dN 129 (Pt aX) Unit)) (v10:Int) (NQ:Sl aj):oC E (n0+1) a0 a1 v10 NQ k =
  cond (decide (v10 < (a0.len:Int)))
  (aZ (decide (0<=v10/\v10 < (a0.len:Int))) ((E.zl6 (a1.a,(a0.get v10.toNat))).T λ r1 =>
 cond r1
 (aZ (room (NQ.len+1) 56) (oC E n0 a0 a1 (aO (v10+1)) (⟨(NQ.len+1),(jf NQ.len NQ.get (λ _=>(a0.get v10.toNat)))⟩:(Sl aj)) k))
 (oC E n0 a0 a1 (aO (v10+1)) NQ k)))
  (k (NQ,())):=by kernel_rfl
end
theorem zeE [aJ] (E:oz) (zqW:Ok ax 129 (ae.un E.zl6)):ed ax 128 (.mkv 43 3 56 (ae.unV (zD E))):=UV (Nq (ay.nil.addF zqW) (au (by kernel_rfl)))
structure oD where
  N:Nat
  c130:aj×(Pt (Pt found))->ae (Bool)
abbrev Ri (E:oD):bf:=dw (Tabs.nil.addF 130 (ae.un E.c130)) []
def Rj:bW:=aU ax 128 [] { ks:=[(1,3,⟨[],[(5,20,43)],[],[],[],[],[]⟩)] }
def zF (E:oD):(Sl aj)×(dN 130 Unit (Pt (Pt found)))->ae (Sl aj×Unit):=ae.tyV (aK ax E.N (Ri E) Rj 128 43 3 56)
section
variable (E:oD){A:Type}(k:(Sl aj×Unit)->Option A)
def oG (E:oD) (n:Nat) (a0:(Sl aj)) (a1:(dN 130 Unit (Pt (Pt found)))) (v10:Int) (NQ:Sl aj){A:Type}(k:(Sl aj×Unit)->Option A):Option A :=
  ptG ax (Ri E) E.N Rj 128 [1,1,0,1,0] [.n n] (UX 43 3 56) (UW k)
    ⟨[(1,eP a1),(5,.cl (.vec 20)),(8,eP a0),(9,.int (a0.len:Int)),(10,.int v10)],[(20,eV 43 3 56 NQ)],[]⟩
theorem zeF (a0:(Sl aj)) (a1:(dN 130 Unit (Pt (Pt found)))):(zF E (a0,a1)).T k =
  oG E E.N a0 a1 0 (⟨0,(λ _=>(⟨0,(⟨0,(λ _=>0)⟩:(Sl Int)),(⟨0,(λ _=>0)⟩:(Sl Int))⟩:aj))⟩:(Sl aj)) k:=zdJ.trans (by kernel_rfl)
theorem Hu (n0:Nat) (a0:(Sl aj)) (a1:(dN 130 Unit (Pt (Pt found)))) (v10:Int) (NQ:Sl aj):oG E (n0+1) a0 a1 v10 NQ k =
  cond (decide (v10 < (a0.len:Int)))
  (aZ (decide (0<=v10/\v10 < (a0.len:Int))) ((E.c130 ((a0.get v10.toNat),a1.v)).T λ r1 =>
 cond r1
 (aZ (room (NQ.len+1) 56) (oG E n0 a0 a1 (aO (v10+1)) (⟨(NQ.len+1),(jf NQ.len NQ.get (λ _=>(a0.get v10.toNat)))⟩:(Sl aj)) k))
 (oG E n0 a0 a1 (aO (v10+1)) NQ k)))
  (k (NQ,())):=by kernel_rfl
end
theorem zeG [aJ] (E:oD) (zqX:Ok ax 130 (ae.un E.c130)):ed ax 128 (.mkv 43 3 56 (ae.unV (zF E))):=UV (Nq (ay.nil.addF zqX) (au (by kernel_rfl)))
structure zad where
  N:Nat
  c141:(Pt aX)×aj->ae ((Sl Int))
abbrev zH3 (E:zad):bf:=dw (Tabs.nil.addF 141 (ae.un E.c141)) []
def zH4:bW:=aU ax 129 [] {}
def zjH (E:zad):(Pt aX)×aj->ae (Bool):=ae.ty (aF ax E.N (zH3 E) zH4 129)
section
variable (E:zad){A:Type}(k:Bool->Option A)
theorem e129 (a0:(Pt aX)) (a1:aj):(zjH E (a0,a1)).T k =
  cond (decide ((a1.Hits.len:Int) >= a0.v.rules.oW))
  ((E.c141 (a0,a1)).T λ r1 =>
 k (decide ((r1.len:Int)≤a0.v.rules.rU)))
  (k false):=bJ.trans (by kernel_rfl)
end
theorem zH5 [aJ] (E:zad) (zqY:Ok ax 141 (ae.un E.c141)):Ok ax 129 (ae.un (zjH E)):=bg (aP (ay.nil.addF zqY) (au (by kernel_rfl)))
structure zae where
  N:Nat
  c131:(Sl aj)×(dN 132 Unit (Pt aj))->ae (Bool)
abbrev zH6 (E:zae):bf:=dw (Tabs.nil.addF 131 (ae.un E.c131)) []
def zH7:bW:=aU ax 130 [] {}
def zjI (E:zae):aj×(Pt (Pt found))->ae (Bool):=ae.ty (aF ax E.N (zH6 E) zH7 130)
section
variable (E:zae){A:Type}(k:Bool->Option A)
theorem zH8 (a0:aj) (a1:(Pt (Pt found))):(zjI E (a0,a1)).T k =
  (E.c131 (a1.v.v.fits,(⟨(),(⟨a0⟩:(Pt aj))⟩:(dN 132 Unit (Pt aj))))).T λ r1 =>
  k (!r1):=bJ.trans (by kernel_rfl)
end
theorem zH9 [aJ] (E:zae) (zqZ:Ok ax 131 (ae.un E.c131)):Ok ax 130 (ae.un (zjI E)):=bg (aP (ay.nil.addF zqZ) (au (by kernel_rfl)))
structure zaf where
  N:Nat
  c97:(Sl aj)×(dN 132 Unit (Pt aj))->ae (Int)
abbrev zIa (E:zaf):bf:=dw (Tabs.nil.addF 97 (ae.un E.c97)) []
def zIb:bW:=aU ax 131 [] {}
def zjJ (E:zaf):(Sl aj)×(dN 132 Unit (Pt aj))->ae (Bool):=ae.ty (aF ax E.N (zIa E) zIb 131)
section
variable (E:zaf){A:Type}(k:Bool->Option A)
theorem zIc (a0:(Sl aj)) (a1:(dN 132 Unit (Pt aj))):(zjJ E (a0,a1)).T k =
  (E.c97 (a0,a1)).T λ r1 =>
  k (decide (r1 >= 0)):=bJ.trans (by kernel_rfl)
end
theorem zId [aJ] (E:zaf) (h97:Ok ax 97 (ae.un E.c97)):Ok ax 131 (ae.un (zjJ E)):=bg (aP (ay.nil.addF h97) (au (by kernel_rfl)))
structure zah where
  N:Nat
  c92:aj×aj->ae (Bool)
abbrev zIe (E:zah):bf:=dw (Tabs.nil.addF 92 (ae.un E.c92)) []
def zIf:bW:=aU ax 132 [] {}
def zjK (E:zah):aj×(Pt aj)->ae (Bool):=ae.ty (aF ax E.N (zIe E) zIf 132)
section
variable (E:zah){A:Type}(k:Bool->Option A)
theorem zIg (a0:aj) (a1:(Pt aj)):(zjK E (a0,a1)).T k =
  cond (decide ((a0.Hits.len:Int) > (a1.v.Hits.len:Int)))
  ((E.c92 (a0,a1.v)).T λ r1 =>
 k r1)
  (k false):=bJ.trans (by kernel_rfl)
end
theorem zIh [aJ] (E:zah) (h92:Ok ax 92 (ae.un E.c92)):Ok ax 132 (ae.un (zjK E)):=bg (aP (ay.nil.addF h92) (au (by kernel_rfl)))
structure zai where
  N:Nat
  zmg:Int×Int->ae (Int)
  zg5:(Sl Int)×(Sl Int)->ae (Int)
  zmf:(Sl Int)->ae (Int)
abbrev zIj (E:zai):bf:=dw (((Tabs.nil.addF 186 (ae.un E.zmg)).addF 187 (ae.un E.zg5)).addF 185 (ae.un E.zmf)) []
def zIk:bW:=aU ax 134 [] {}
def zjL (E:zai):aj×aj->ae (Int):=ae.ty (aF ax E.N (zIj E) zIk 134)
section
variable (E:zai){A:Type}(k:Int->Option A)
theorem zIl (a0:aj) (a1:aj):(zjL E (a0,a1)).T k =
  (E.zmg (a0.View,a1.View)).T λ r1 =>
  (E.zg5 (a0.Hits,a1.Hits)).T λ r2 =>
  (E.zg5 (a0.bD,a1.bD)).T λ r3 =>
  (E.zmf (⟨3,(QR [r1,r2,r3])⟩:(Sl Int))).T λ r4 =>
  k r4:=bJ.trans (by kernel_rfl)
end
theorem zIm [aJ] (E:zai) (zq0:Ok ax 186 (ae.un E.zmg)) (zjM:Ok ax 187 (ae.un E.zg5)) (zq1:Ok ax 185 (ae.un E.zmf)):Ok ax 134 (ae.un (zjL E)):=bg (aP (((ay.nil.addF zq0).addF zjM).addF zq1) (au (by kernel_rfl)))
structure zaj where
  N:Nat
abbrev zIn (E:zaj):bf:=dw Tabs.nil []
def zIo:bW:=aU ax 136 [] {}
def zjN (E:zaj):ai×Int->ae (Int×Int):=ae.ty (aF ax E.N (zIn E) zIo 136)
section
variable (E:zaj){A:Type}(k:(Int×Int)->Option A)
theorem zIp (a0:ai) (a1:Int):(zjN E (a0,a1)).T k =
  cond (a0.Kind == 2)
  (k ((aO ((aO (a0.First+(aO (a1 * a0.aT)))) - (aO (a0.aT.tdiv 2)))),(aO ((aO ((aO ((aO (a0.First+(aO (a1 * a0.aT)))) - (aO (a0.aT.tdiv 2))))+a0.aT)) - 1))))
  (k ((aO ((aO (a0.First+(aO (a1 * a0.aT)))) - 0)),(aO ((aO ((aO ((aO (a0.First+(aO (a1 * a0.aT)))) - 0))+a0.aT)) - 1)))):=bJ.trans (by kernel_rfl)
end
theorem zIq [aJ] (E:zaj):Ok ax 136 (ae.un (zjN E)):=bg (aP ay.nil (au (by kernel_rfl)))
structure Vu where
  N:Nat
  c105:(Pt aX)×aj->ae ((Sl aB))
  Jp:(Sl Int)×((dN 180 Unit ((Pt (Pt aX))×(Pt Int))) ⊕ (dN 190 Unit ((Pt (Pt aX))×(Pt Int))))->ae (Bool)
  zg0:(Sl aB)×Int->ae (aQ×aQ×Int)
  JR:aQ->ae (Int)
  zmi:aQ->ae (Int)
  zg1:ak×Int×bV->ae (Bool×Bool×Int)
abbrev zyY (E:Vu):bf:=dw (((((((Tabs.nil.addN [190]).addF 105 (ae.un E.c105)).addF 179 (ae.un E.Jp)).addF 114 (ae.un E.zg0)).addF 191 (ae.un E.JR)).addF 192 (ae.un E.zmi)).addF 115 (ae.un E.zg1)) []
def zyZ:bW:=aU ax 141 [] { ks:=[(1,4,⟨[],[(5,83,3)],[],[],[],[],[]⟩)],clo:=[190] }
def zjO (E:Vu):(Pt aX)×aj->ae ((Sl Int)):=ae.ty (aF ax E.N (zyY E) zyZ 141)
section
variable (E:Vu){A:Type}(k:(Sl Int)->Option A)
def kD (E:Vu) (n:Nat) (a0:(Pt aX)) (a1:aj) (v6:(Sl aB)) (v26:Int) (Vw:Sl Int){A:Type}(k:(Sl Int)->Option A):Option A :=
  gV ax (zyY E) E.N zyZ 141 [1,1,1,0,1,0] [.n n] (gY k)
    ⟨[(2,.cl (.ptr 2 0)),(3,.cl (.ptr 3 0)),(5,.cl (.vec 83)),(6,eP v6),(24,eP a0.v.ak.af),(25,.int (a0.v.ak.af.len:Int)),(26,.int v26)],[(2,eB 143 a0),(3,eB 43 a1),(83,eV 3 1 8 Vw)],[]⟩
theorem zIr (a0:(Pt aX)) (a1:aj):(zjO E (a0,a1)).T k =
  (E.c105 (a0,a1)).T λ r1 =>
  kD E E.N a0 a1 r1 0 (⟨0,(λ _=>0)⟩:(Sl Int)) k:=bJ.trans (by kernel_rfl)
theorem zeH (n0:Nat) (a0:(Pt aX)) (a1:aj) (v6:(Sl aB)) (v26:Int) (Vw:Sl Int):kD E (n0+1) a0 a1 v6 v26 Vw k =
  cond (decide (v26 < (a0.v.ak.af.len:Int)))
  (aZ (decide (0<=v26/\v26 < (a0.v.ak.af.len:Int))) (cond ((a0.v.ak.af.get v26.toNat).View != a1.View)
 (kD E n0 a0 a1 v6 (aO (v26+1)) Vw k)
 ((E.Jp (a1.Hits,(Sum.inr (⟨(),((⟨a0⟩:(Pt (Pt aX))),(⟨v26⟩:(Pt Int)))⟩:(dN 190 Unit ((Pt (Pt aX))×(Pt Int))))))).T λ r1 =>
 cond r1
 (kD E n0 a0 a1 v6 (aO (v26+1)) Vw k)
 ((E.zg0 (v6,(a0.v.ak.af.get v26.toNat).Z)).T λ r2 =>
 cond (r2.2.2 != 0)
 (kD E n0 a0 a1 v6 (aO (v26+1)) Vw k)
 ((E.JR r2.1).T λ r3 =>
 (E.zmi r2.2.1).T λ r4 =>
 cond (decide (r3 < (-1000000)))
 (kD E n0 a0 a1 v6 (aO (v26+1)) Vw k)
 (cond (decide (r4 > 1000000))
 (kD E n0 a0 a1 v6 (aO (v26+1)) Vw k)
 ((E.zg1 (a0.v.ak,v26,(⟨r3,r4⟩:bV))).T λ r5 =>
 cond (r5.2.2 == 0)
 (cond r5.1
 (aZ (room (Vw.len+1) 8) (kD E n0 a0 a1 v6 (aO (v26+1)) (⟨(Vw.len+1),(jf Vw.len Vw.get (λ _=>v26))⟩:(Sl Int)) k))
 (kD E n0 a0 a1 v6 (aO (v26+1)) Vw k))
 (kD E n0 a0 a1 v6 (aO (v26+1)) Vw k))))))))
  (k Vw):=by kernel_rfl
end
theorem zIs [aJ] (E:Vu) (Vx:Ok ax 105 (ae.un E.c105)) (Vy:Ok ax 179 (ae.un E.Jp)) (zq2:Ok ax 114 (ae.un E.zg0)) (Vz:Ok ax 191 (ae.un E.JR)) (zq3:Ok ax 192 (ae.un E.zmi)) (zq4:Ok ax 115 (ae.un E.zg1)):Ok ax 141 (ae.un (zjO E)):=bg (aP (((((((ay.nil.addN).addF Vx).addF Vy).addF zq2).addF Vz).addF zq3).addF zq4) (au (by kernel_rfl)))
structure zak where
  N:Nat
  c38:(Sl Int)×(Sl Int)->ae (Int)
abbrev zIt (E:zak):bf:=dw (Tabs.nil.addF 38 (ae.un E.c38)) []
def zIu:bW:=aU ax 144 [] {}
def zjP (E:zak):aj×aj->ae (Bool):=ae.ty (aF ax E.N (zIt E) zIu 144)
section
variable (E:zak){A:Type}(k:Bool->Option A)
theorem zIv (a0:aj) (a1:aj):(zjP E (a0,a1)).T k =
  cond (a0.View != a1.View)
  (k (decide (a0.View < a1.View)))
  ((E.c38 (a0.Hits,a1.Hits)).T λ r1 =>
 cond (r1 != 0)
 (k (decide (r1 < 0)))
 ((E.c38 (a0.bD,a1.bD)).T λ r2 =>
 k (decide (r2 < 0)))):=bJ.trans (by kernel_rfl)
end
theorem zIw [aJ] (E:zak) (h38:Ok ax 38 (ae.un E.c38)):Ok ax 144 (ae.un (zjP E)):=bg (aP (ay.nil.addF h38) (au (by kernel_rfl)))
structure zal where
  N:Nat
  Ak:(Sl aB)->ae (Bool)
  c193:(Sl aB)->ae (Int×Int×Bool)
  c194:(Sl aB)->ae ((Sl Line))
abbrev zIx (E:zal):bf:=dw (((Tabs.nil.addF 149 (ae.un E.Ak)).addF 193 (ae.un E.c193)).addF 194 (ae.un E.c194)) []
def zIy:bW:=aU ax 145 [] {}
def zjQ (E:zal):(Sl aB)->ae (Bool):=ae.ty (aF ax E.N (zIx E) zIy 145)
section
variable (E:zal){A:Type}(k:Bool->Option A)
theorem zIz (a0:(Sl aB)):(zjQ E (a0)).T k =
  (E.Ak a0).T λ r1 =>
  cond r1
  ((E.c193 a0).T λ r2 =>
 k r2.2.2)
  ((E.c194 a0).T λ r3 =>
 k (decide ((r3.len:Int) > 0))):=bJ.trans (by kernel_rfl)
end
theorem zIA [aJ] (E:zal) (DN:Ok ax 149 (ae.un E.Ak)) (VA:Ok ax 193 (ae.un E.c193)) (VB:Ok ax 194 (ae.un E.c194)):Ok ax 145 (ae.un (zjQ E)):=bg (aP (((ay.nil.addF DN).addF VA).addF VB) (au (by kernel_rfl)))
structure VC where
  N:Nat
  c74:ak×bz->ae (bV)
abbrev zy0 (E:VC):bf:=dw (Tabs.nil.addF 74 (ae.un E.c74)) []
def zy1:bW:=aU ax 147 [] {}
def zjR (E:VC):ak×(Sl bz)->ae (bV×Bool):=ae.ty (aF ax E.N (zy0 E) zy1 147)
section
variable (E:VC){A:Type}(k:(bV×Bool)->Option A)
def NR (E:VC) (n:Nat) (a0:ak) (a1:(Sl bz)) (v7:Int) (x6:bV){A:Type}(k:(bV×Bool)->Option A):Option A :=
  gV ax (zy0 E) E.N zy1 147 [1,1,0,1,0] [.n n] (gY k)
    ⟨[(1,eP a1),(2,.cl (.ptr 2 0)),(4,.cl (.ptr 4 0)),(6,.cl (.ptr 6 0)),(7,.int v7)],[(2,eB 24 a0),(4,.box 105 [.p (.int .i64 0),.p (.int .i64 0)]),(6,eB 105 x6)],[]⟩
theorem zIB (a0:ak) (a1:(Sl bz)):(zjR E (a0,a1)).T k =
  aZ (decide ((0:Int)<=0/\0 < (a1.len:Int))) ((E.c74 (a0,(a1.get 0))).T λ r1 =>
 NR E E.N a0 a1 1 r1 k):=bJ.trans (by kernel_rfl)
theorem zeI (n0:Nat) (a0:ak) (a1:(Sl bz)) (v7:Int) (x6:bV):NR E (n0+1) a0 a1 v7 x6 k =
  cond (decide (v7 < (a1.len:Int)))
  (aZ (decide (0<=v7/\v7 < (a1.len:Int))) ((E.c74 (a0,(a1.get v7.toNat))).T λ r1 =>
 NR E n0 a0 a1 (aO (v7+1)) (⟨(if r1.Low > x6.Low then r1.Low else x6.Low),(if r1.High < x6.High then r1.High else x6.High)⟩:bV) k))
  (k (x6,decide (x6.Low<=x6.High))):=by kernel_rfl
end
theorem zIC [aJ] (E:VC) (h74:Ok ax 74 (ae.un E.c74)):Ok ax 147 (ae.un (zjR E)):=bg (aP (ay.nil.addF h74) (au (by kernel_rfl)))
structure VD where
  N:Nat
abbrev zy2 (E:VD):bf:=dw Tabs.nil []
def zy3:bW:=aU ax 148 [] { ks:=[(1,3,⟨[],[(5,22,92)],[],[],[],[],[]⟩)] }
def zjT (E:VD):(Sl bz)×(Sl Int)->ae ((Sl bz)):=ae.ty (aF ax E.N (zy2 E) zy3 148)
section
variable (E:VD){A:Type}(k:(Sl bz)->Option A)
def NS (E:VD) (n:Nat) (a0:(Sl bz)) (a1:(Sl Int)) (v6:Int) (O5:Sl bz){A:Type}(k:(Sl bz)->Option A):Option A :=
  gV ax (zy2 E) E.N zy3 148 [1,1,0,1,0] [.n n] (gY k)
    ⟨[(0,eP a0),(1,eP a1),(5,.cl (.vec 22)),(6,.int v6)],[(22,eV 92 6 48 O5)],[]⟩
theorem zID (a0:(Sl bz)) (a1:(Sl Int)):(zjT E (a0,a1)).T k =
  NS E E.N a0 a1 0 (⟨0,(λ _=>(⟨0,0,0,0,0,0⟩:bz))⟩:(Sl bz)) k:=bJ.trans (by kernel_rfl)
theorem zeJ (n0:Nat) (a0:(Sl bz)) (a1:(Sl Int)) (v6:Int) (O5:Sl bz):NS E (n0+1) a0 a1 v6 O5 k =
  cond (decide (v6 < (a1.len:Int)))
  (aZ (decide (0<=v6/\v6 < (a1.len:Int))) (aZ (decide (0<=a1.get v6.toNat/\a1.get v6.toNat < (a0.len:Int))) (aZ (room (O5.len+1) 48) (NS E n0 a0 a1 (aO (v6+1)) (⟨(O5.len+1),(jf O5.len O5.get (λ _=>(a0.get (a1.get v6.toNat).toNat)))⟩:(Sl bz)) k))))
  (k O5):=by kernel_rfl
end
theorem zIE [aJ] (E:VD):Ok ax 148 (ae.un (zjT E)):=bg (aP ay.nil (au (by kernel_rfl)))
structure VE where
  N:Nat
abbrev zy4 (E:VE):bf:=dw Tabs.nil []
def zy5:bW:=aU ax 149 [] {}
def zjU (E:VE):(Sl aB)->ae (Bool):=ae.ty (aF ax E.N (zy4 E) zy5 149)
section
variable (E:VE){A:Type}(k:Bool->Option A)
def yc (E:VE) (n:Nat) (a0:(Sl aB)) (v3:Int){A:Type}(k:Bool->Option A):Option A :=
  gV ax (zy4 E) E.N zy5 149 [1,0,1,0] [.n n] (gY k)
    ⟨[(0,eP a0),(3,.int v3)],[],[]⟩
theorem zIF (a0:(Sl aB)):(zjU E (a0)).T k =
  yc E E.N a0 1 k:=bJ.trans (by kernel_rfl)
theorem zeK (n0:Nat) (a0:(Sl aB)) (v3:Int):yc E (n0+1) a0 v3 k =
  cond (decide (v3 < (a0.len:Int)))
  (aZ (decide (0<=v3/\v3 < (a0.len:Int))) (aZ (decide ((0:Int)<=0/\0 < (a0.len:Int))) (cond ((a0.get v3.toNat).Z != (a0.get 0).Z)
 (k false)
 (yc E n0 a0 (aO (v3+1)) k))))
  (k true):=by kernel_rfl
end
theorem zIG [aJ] (E:VE):Ok ax 149 (ae.un (zjU E)):=bg (aP ay.nil (au (by kernel_rfl)))
structure Rk where
  N:Nat
  Ak:(Sl aB)->ae (Bool)
  c193:(Sl aB)->ae (Int×Int×Bool)
  O7:Int×Int->ae (aQ)
  c194:(Sl aB)->ae ((Sl Line))
  c76:Line×Int->ae (aQ)
  c56:aQ×aQ->ae (Bool)
abbrev zq5 (E:Rk):bf:=dw ((((((Tabs.nil.addF 149 (ae.un E.Ak)).addF 193 (ae.un E.c193)).addF 71 (ae.un E.O7)).addF 194 (ae.un E.c194)).addF 76 (ae.un E.c76)).addF 56 (ae.un E.c56)) []
def zq6:bW:=aU ax 150 [] { cut:=[12] }
def zjV (E:Rk):(Sl aB)×Int->ae (aQ×aQ):=ae.ty (aF ax E.N (zq5 E) zq6 150)
section
variable (E:Rk){A:Type}(k:(aQ×aQ)->Option A)
def yf (E:Rk) (n:Nat) (a1:Int) (v9:(Sl Line)) (v12:Int) (x10:aQ) (x11:aQ){A:Type}(k:(aQ×aQ)->Option A):Option A :=
  gV ax (zq5 E) E.N zq6 150 [1,1,1,1,0,1,0] [.n n] (gY k)
    ⟨[(1,.int a1),(4,.cl (.ptr 4 0)),(5,.cl (.ptr 5 0)),(9,eP v9),(10,.cl (.ptr 10 0)),(11,.cl (.ptr 11 0)),(12,.int v12)],[(4,.box 85 [.p (.int .i64 0),.p (.int .i64 0)]),(5,.box 85 [.p (.int .i64 0),.p (.int .i64 0)]),(10,eB 85 x10),(11,eB 85 x11)],[]⟩
def VF (E:Rk) (n0:Nat) (a1:Int) (v9:(Sl Line)) (v12:Int) (x10:aQ) (x11:aQ) (x13:aQ){A:Type}(k:(aQ×aQ)->Option A):Option A :=
  gV ax (zq5 E) E.N zq6 150 [1,1,1,1,0,1,0,0,1,0,0,1,1] [.n n0] (gY k)
    ⟨[(1,.int a1),(4,.cl (.ptr 4 0)),(5,.cl (.ptr 5 0)),(9,eP v9),(10,.cl (.ptr 10 0)),(11,.cl (.ptr 11 0)),(12,.int v12),(13,.cl (.ptr 13 0))],[(4,.box 85 [.p (.int .i64 0),.p (.int .i64 0)]),(5,.box 85 [.p (.int .i64 0),.p (.int .i64 0)]),(10,eB 85 x10),(11,eB 85 x11),(13,eB 85 x13)],[]⟩
theorem zy7 (a0:(Sl aB)) (a1:Int):(zjV E (a0,a1)).T k =
  (E.Ak a0).T λ r1 =>
  cond r1
  ((E.c193 a0).T λ r2 =>
 (E.O7 (r2.1,1)).T λ r3 =>
 (E.O7 (r2.2.1,1)).T λ r4 =>
 k (r3,r4))
  ((E.c194 a0).T λ r5 =>
 aZ (decide ((0:Int)<=0/\0 < (r5.len:Int))) ((E.c76 ((r5.get 0),a1)).T λ r6 =>
 aZ (decide ((0:Int)<=0/\0 < (r5.len:Int))) ((E.c76 ((r5.get 0),a1)).T λ r7 =>
 yf E E.N a1 r5 1 r6 r7 k))):=bJ.trans (by kernel_rfl)
theorem zeL (n0:Nat) (a1:Int) (v9:(Sl Line)) (v12:Int) (x10:aQ) (x11:aQ):yf E (n0+1) a1 v9 v12 x10 x11 k =
  cond (decide (v12 < (v9.len:Int)))
  (aZ (decide (0<=v12/\v12 < (v9.len:Int))) ((E.c76 ((v9.get v12.toNat),a1)).T λ r1 =>
 (E.c56 (r1,x10)).T λ r2 =>
 cond r2
 (VF E n0 a1 v9 v12 r1 x11 r1 k)
 (VF E n0 a1 v9 v12 x10 x11 r1 k)))
  (k (x10,x11)):=by kernel_rfl
theorem zq7 (n0:Nat) (a1:Int) (v9:(Sl Line)) (v12:Int) (x10:aQ) (x11:aQ) (x13:aQ):VF E n0 a1 v9 v12 x10 x11 x13 k =
  (E.c56 (x11,x13)).T λ r1 =>
  cond r1
  (yf E n0 a1 v9 (aO (v12+1)) x10 x13 k)
  (yf E n0 a1 v9 (aO (v12+1)) x10 x11 k):=by kernel_rfl
end
theorem zIH [aJ] (E:Rk) (DN:Ok ax 149 (ae.un E.Ak)) (VA:Ok ax 193 (ae.un E.c193)) (Vg:Ok ax 71 (ae.un E.O7)) (VB:Ok ax 194 (ae.un E.c194)) (h76:Ok ax 76 (ae.un E.c76)) (h56:Ok ax 56 (ae.un E.c56)):Ok ax 150 (ae.un (zjV E)):=bg (aP ((((((ay.nil.addF DN).addF VA).addF Vg).addF VB).addF h76).addF h56) (au (by kernel_rfl)))
structure zam where
  N:Nat
abbrev zII (E:zam):bf:=dw Tabs.nil []
def zIJ:bW:=aU ax 151 [] {}
def zjX (E:zam):aQ->ae (Int):=ae.ty (aF ax E.N (zII E) zIJ 151)
section
variable (E:zam){A:Type}(k:Int->Option A)
theorem zIK (a0:aQ):(zjX E (a0)).T k =
  aZ (decide (a0.bI ≠ 0)) (cond (decide ((aO ((aO (a0.Num.tdiv a0.bI)) * a0.bI)) > a0.Num))
 (k (aO ((aO (a0.Num.tdiv a0.bI)) - 1)))
 (k (aO (a0.Num.tdiv a0.bI)))):=bJ.trans (by kernel_rfl)
end
theorem zIL [aJ] (E:zam):Ok ax 151 (ae.un (zjX E)):=bg (aP ay.nil (au (by kernel_rfl)))
structure VG where
  N:Nat
abbrev zy8 (E:VG):bf:=dw Tabs.nil []
def zy9:bW:=aU ax 152 [] {}
def zjY (E:VG):(Sl Int)×Int->ae (Int):=ae.ty (aF ax E.N (zy8 E) zy9 152)
section
variable (E:VG){A:Type}(k:Int->Option A)
def NT (E:VG) (n:Nat) (a0:(Sl Int)) (a1:Int) (v8:Int){A:Type}(k:Int->Option A):Option A :=
  gV ax (zy8 E) E.N zy9 152 [1,0,1,0] [.n n] (gY k)
    ⟨[(0,eP a0),(1,.int a1),(7,.int (a0.len:Int)),(8,.int v8)],[],[]⟩
theorem e152 (a0:(Sl Int)) (a1:Int):(zjY E (a0,a1)).T k =
  NT E E.N a0 a1 0 k:=bJ.trans (by kernel_rfl)
theorem zeM (n0:Nat) (a0:(Sl Int)) (a1:Int) (v8:Int):NT E (n0+1) a0 a1 v8 k =
  cond (decide (v8 < (a0.len:Int)))
  (aZ (decide (0<=v8/\v8 < (a0.len:Int))) (cond (a1 == a0.get v8.toNat)
 (k v8)
 (NT E n0 a0 a1 (aO (v8+1)) k)))
  (k (-1)):=by kernel_rfl
end
theorem zIM [aJ] (E:VG):Ok ax 152 (ae.un (zjY E)):=bg (aP ay.nil (au (by kernel_rfl)))
structure zan where
  N:Nat
  Js:(ak×(Sl bz)×aj×Int)×Sl aj->ae (Sl aj)
abbrev zIN (E:zan):bf:=dw (Tabs.nil.addO 195 (.grow 43 3 56 (ae.unW E.Js))) []
def zIO:bW:=aU ax 153 [] {}
def zjZ (E:zan):ak×(Sl bz)×Int->ae ((Sl aj)×Bool):=ae.ty (aF ax E.N (zIN E) zIO 153)
section
variable (E:zan){A:Type}(k:((Sl aj)×Bool)->Option A)
theorem e153 (a0:ak) (a1:(Sl bz)) (a2:Int):(zjZ E (a0,a1,a2)).T k =
  (E.Js ((a0,a1,(⟨a2,(⟨0,λ _=>default⟩:(Sl Int)),(⟨0,λ _=>default⟩:(Sl Int))⟩:aj),0),(⟨0,(λ _=>(⟨0,(⟨0,λ _=>default⟩:(Sl Int)),(⟨0,λ _=>default⟩:(Sl Int))⟩:aj))⟩:(Sl aj)))).T λ r1 =>
  k (r1,decide ((r1.len:Int)<=2000)):=bJ.trans (by kernel_rfl)
end
theorem zIP [aJ] (E:zan) (zq9:ed ax 195 (.grow 43 3 56 (ae.unW E.Js))):Ok ax 153 (ae.un (zjZ E)):=bg (aP (ay.nil.addO zq9) (au (by kernel_rfl)))
structure zao where
  N:Nat
  c196:ak×(Sl bz)×aj->ae (Bool)
  c91:ak×(Sl bz)×aj->ae ((Sl Int))
abbrev zIQ (E:zao):bf:=dw ((Tabs.nil.addF 196 (ae.un E.c196)).addF 91 (ae.un E.c91)) []
def zIR:bW:=aU ax 154 [] {}
def zj0 (E:zao):ak×bF×(Sl bz)×aj->ae (Bool):=ae.ty (aF ax E.N (zIQ E) zIR 154)
section
variable (E:zao){A:Type}(k:Bool->Option A)
theorem e154 (a0:ak) (a1:bF) (a2:(Sl bz)) (a3:aj):(zj0 E (a0,a1,a2,a3)).T k =
  (E.c196 (a0,a2,a3)).T λ r1 =>
  cond r1
  (cond (decide ((a3.Hits.len:Int) >= a1.oW))
 ((E.c91 (a0,a2,a3)).T λ r2 =>
 k (decide ((r2.len:Int)<=a1.rU)))
 (k false))
  (k false):=bJ.trans (by kernel_rfl)
end
theorem zIS [aJ] (E:zao) (VH:Ok ax 196 (ae.un E.c196)) (h91:Ok ax 91 (ae.un E.c91)):Ok ax 154 (ae.un (zj0 E)):=bg (aP ((ay.nil.addF VH).addF h91) (au (by kernel_rfl)))
structure zaq where
  N:Nat
  c157:Int×Int×Int->ae (Bool)
abbrev zIU (E:zaq):bf:=dw (Tabs.nil.addF 157 (ae.un E.c157)) []
def zIV:bW:=aU ax 156 [] {}
def zj1 (E:zaq):aB->ae (Bool):=ae.ty (aF ax E.N (zIU E) zIV 156)
section
variable (E:zaq){A:Type}(k:Bool->Option A)
theorem zIW (a0:aB):(zj1 E (a0)).T k =
  (E.c157 (a0.Z,0,100000)).T λ r1 =>
  cond r1
  (cond (decide (a0.Low >= (-1000000)))
 (cond (decide (a0.Low<=a0.High))
 (k (decide (a0.High<=1000000)))
 (k false))
 (k false))
  (k false):=bJ.trans (by kernel_rfl)
end
theorem zIX [aJ] (E:zaq) (xZ:Ok ax 157 (ae.un E.c157)):Ok ax 156 (ae.un (zj1 E)):=bg (aP (ay.nil.addF xZ) (au (by kernel_rfl)))
structure zar where
  N:Nat
abbrev zIY (E:zar):bf:=dw Tabs.nil []
def zIZ:bW:=aU ax 157 [] {}
def zj2 (E:zar):Int×Int×Int->ae (Bool):=ae.ty (aF ax E.N (zIY E) zIZ 157)
section
variable (E:zar){A:Type}(k:Bool->Option A)
theorem zI0 (a0:Int) (a1:Int) (a2:Int):(zj2 E (a0,a1,a2)).T k =
  cond (decide (a0 >= a1))
  (k (decide (a0<=a2)))
  (k false):=bJ.trans (by kernel_rfl)
end
theorem zI1 [aJ] (E:zar):Ok ax 157 (ae.un (zj2 E)):=bg (aP ay.nil (au (by kernel_rfl)))
structure VJ where
  N:Nat
  c167:list->ae (Bool)
  c198:straight->ae (Line)
  zmj:set×straight->ae (Bool)
  i228:(Pt list)->ae (List (straight))
abbrev zza (E:VJ):bf:=dw (((((Tabs.nil.addF 167 (ae.un E.c167)).addF 198 (ae.un E.c198)).addF 199 (ae.un E.zmj)).addF 197 (aF ax E.N (dw Tabs.nil []) (aU ax 197 [] {}) 197)).addI 228 (ae.unI E.i228)) [14]
def zzb:bW:=aU ax 158 [] { ks:=[(1,6,⟨[],[],[(3,1,36,204)],[],[],[],[]⟩)] }
def zj3 (E:VJ):(Sl aB)->ae (set):=ae.ty (aF ax E.N (zza E) zzb 158)
section
variable (E:VJ){A:Type}(k:set->Option A)
def mG (E:VJ) (l:List (straight)) (a0:(Sl aB)) (w36:Sl straight) (Rl:Nat) (JH:List Int->Option (List Int)) {A:Type}(k:set->Option A):Option A :=
  gV ax (zza E) E.N zzb 158 [1,1,1,1,0,1,0] [.y (l.map dC.enc)] (gY k)
    ⟨[(2,.cl (.ptr 2 0)),(3,.cl (.ptr 3 0)),(4,.cl (.ptr 4 0)),(17,.p (.fn 228 [] [.fp [.sl a0.len 3 (λ i=>bG.enc (a0.get i))] 0]))],[(2,.box 197 [.p (.nils),.p (.nils)]),(3,.box 197 [.p (.sl a0.len 3 (λ i=>bG.enc (a0.get i))),.vec 36]),(4,.box 271 [.mo 14]),(36,eV 204 3 24 w36),(14,.mo 114 4 (.ints,4,false,[none]) Rl JH)],[]⟩
theorem zI2 (a0:(Sl aB)):(zj3 E (a0)).T k =
  (E.c167 (⟨a0⟩:list)).T λ r1 =>
  cond r1
  (k (⟨(⟨a0⟩:list),(⟨0,λ _=>default⟩:(Sl straight))⟩:set))
  ((E.i228 (⟨(⟨a0⟩:list)⟩:(Pt list))).T λ r2 =>
 mG E r2 a0 (⟨0,(λ _=>(⟨0,0,0⟩:straight))⟩:(Sl straight)) 0 (λ _=>none) k):=bJ.trans (by kernel_rfl)
theorem zj4 (a0:(Sl aB)) (w36:Sl straight) (Rl:Nat) (JH:List Int→Option (List Int)):mG E [] a0 w36 Rl JH k =
  k (⟨(⟨a0⟩:list),w36⟩:set):=by kernel_rfl
theorem zra (y:straight) (l0:List (straight)) (a0:(Sl aB)) (w36:Sl straight) (Rl:Nat) (JH:List Int→Option (List Int)):mG E (y :: l0) a0 w36 Rl JH k =
  (E.c198 y).T λ r1 =>
  cond (!(DF (JH [r1.dM.Num,r1.dM.bI,r1.Start.Num,r1.Start.bI]) 0 != 0))
  ((E.zmj ((⟨(⟨a0⟩:list),w36⟩:set),y)).T λ r2 =>
 cond r2
 (aZ (room (w36.len+1) 24) (mG E l0 a0 (⟨(w36.len+1),(jf w36.len w36.get (λ _=>y))⟩:(Sl straight)) (addN (JH [r1.dM.Num,r1.dM.bI,r1.Start.Num,r1.Start.bI]) Rl) (EH [r1.dM.Num,r1.dM.bI,r1.Start.Num,r1.Start.bI] [1] JH) k))
 (mG E l0 a0 w36 Rl JH k))
  (mG E l0 a0 w36 Rl JH k):=by kernel_rfl
end
theorem zI3 [aJ] (E:VJ) (tC:Ok ax 167 (ae.un E.c167)) (VK:Ok ax 198 (ae.un E.c198)) (zrb:Ok ax 199 (ae.un E.zmj)) (zI4:qL ax 228 (ae.unI E.i228)):Ok ax 158 (ae.un (zj3 E)):=bg (aP (((((ay.nil.addF tC).addF VK).addF zrb).addF (aP ay.nil (au (by kernel_rfl)))).addI zI4) (au (by kernel_rfl)))
structure zat where
  N:Nat
  OY:list->ae (bV)
  c167:list->ae (Bool)
abbrev zI5 (E:zat):bf:=dw ((Tabs.nil.addF 200 (ae.un E.OY)).addF 167 (ae.un E.c167)) []
def zI6:bW:=aU ax 159 [] {}
def zj5 (E:zat):set->ae (Bool):=ae.ty (aF ax E.N (zI5 E) zI6 159)
section
variable (E:zat){A:Type}(k:Bool->Option A)
theorem zI7 (a0:set):(zj5 E (a0)).T k =
  (E.OY a0.list).T λ r1 =>
  (E.c167 a0.list).T λ r2 =>
  cond r2
  (k (decide (r1.Low<=r1.High)))
  (k (decide ((a0.cO.len:Int) > 0))):=bJ.trans (by kernel_rfl)
end
theorem zI8 [aJ] (E:zat) (VL:Ok ax 200 (ae.un E.OY)) (tC:Ok ax 167 (ae.un E.c167)):Ok ax 159 (ae.un (zj5 E)):=bg (aP ((ay.nil.addF VL).addF tC) (au (by kernel_rfl)))
structure zau where
  N:Nat
abbrev zI9 (E:zau):bf:=dw Tabs.nil []
def zJa:bW:=aU ax 162 [] {}
def zj6 (E:zau):list×(Pt Int)->ae (Bool):=ae.ty (aF ax E.N (zI9 E) zJa 162)
section
variable (E:zau){A:Type}(k:Bool->Option A)
theorem e162 (a0:list) (a1:(Pt Int)):(zj6 E (a0,a1)).T k =
  aZ (decide ((0:Int)<=0/\0 < (a0.bK.len:Int))) (k ((a0.bK.get 0).Z == a1.v)):=bJ.trans (by kernel_rfl)
end
theorem zJb [aJ] (E:zau):Ok ax 162 (ae.un (zj6 E)):=bg (aP ay.nil (au (by kernel_rfl)))
structure zav where
  N:Nat
  c167:list->ae (Bool)
  OY:list->ae (bV)
  lK:Int×Int->ae (aQ)
  c119:set×(dN 202 Unit (Pt Int))->ae (aQ×aQ)
abbrev zJc (E:zav):bf:=dw ((((Tabs.nil.addF 167 (ae.un E.c167)).addF 200 (ae.un E.OY)).addF 172 (ae.un E.lK)).addF 119 (ae.un E.c119)) []
def zJd:bW:=aU ax 163 [] {}
def zj7 (E:zav):set×Int->ae (aQ×aQ):=ae.ty (aF ax E.N (zJc E) zJd 163)
section
variable (E:zav){A:Type}(k:(aQ×aQ)->Option A)
theorem zJe (a0:set) (a1:Int):(zj7 E (a0,a1)).T k =
  (E.c167 a0.list).T λ r1 =>
  cond r1
  ((E.OY a0.list).T λ r2 =>
 (E.lK (r2.Low,1)).T λ r3 =>
 (E.lK (r2.High,1)).T λ r4 =>
 k (r3,r4))
  ((E.c119 (a0,(⟨(),(⟨a1⟩:(Pt Int))⟩:(dN 202 Unit (Pt Int))))).T λ r5 =>
 k (r5.1,r5.2)):=bJ.trans (by kernel_rfl)
end
theorem zJf [aJ] (E:zav) (tC:Ok ax 167 (ae.un E.c167)) (VL:Ok ax 200 (ae.un E.OY)) (tH:Ok ax 172 (ae.un E.lK)) (h119:Ok ax 119 (ae.un E.c119)):Ok ax 163 (ae.un (zj7 E)):=bg (aP ((((ay.nil.addF tC).addF VL).addF tH).addF h119) (au (by kernel_rfl)))
structure zaw where
  N:Nat
abbrev zJg (E:zaw):bf:=dw Tabs.nil []
def zJh:bW:=aU ax 166 [] {}
def zj8 (E:zaw):Line×Int->ae (Int×Int):=ae.ty (aF ax E.N (zJg E) zJh 166)
section
variable (E:zaw){A:Type}(k:(Int×Int)->Option A)
theorem e166 (a0:Line) (a1:Int):(zj8 E (a0,a1)).T k =
  k ((aO ((aO (a0.Start.Num * a0.dM.bI))+(aO ((aO (a0.dM.Num * a1)) * a0.Start.bI)))),(aO (a0.Start.bI * a0.dM.bI))):=bJ.trans (by kernel_rfl)
end
theorem zJi [aJ] (E:zaw):Ok ax 166 (ae.un (zj8 E)):=bg (aP ay.nil (au (by kernel_rfl)))
structure zax where
  N:Nat
  c206:(Sl aB)×((dN 207 Unit (Pt list)) ⊕ (dN 230 Unit (Pt straight)) ⊕ (dN 257 Unit (Pt straight)))->ae (Bool)
abbrev zJj (E:zax):bf:=dw (Tabs.nil.addF 206 (ae.un E.c206)) []
def zJk:bW:=aU ax 167 [] {}
def zj9 (E:zax):list->ae (Bool):=ae.ty (aF ax E.N (zJj E) zJk 167)
section
variable (E:zax){A:Type}(k:Bool->Option A)
theorem e167 (a0:list):(zj9 E (a0)).T k =
  (E.c206 (a0.bK,(Sum.inl (⟨(),(⟨a0⟩:(Pt list))⟩:(dN 207 Unit (Pt list)))))).T λ r1 =>
  k (!r1):=bJ.trans (by kernel_rfl)
end
theorem zJl [aJ] (E:zax) (Hy:Ok ax 206 (ae.un E.c206)):Ok ax 167 (ae.un (zj9 E)):=bg (aP (ay.nil.addF Hy) (au (by kernel_rfl)))
structure oH where
  N:Nat
  zmd:aQ×aQ->ae (Bool)
abbrev Rn (E:oH):bf:=dw (Tabs.nil.addF 169 (ae.un E.zmd)) []
def Rq:bW:=aU ax 168 [] {}
def zG (E:oH):(Sl aQ)×(dN 169 Unit Unit)->ae (aQ):=ae.ty (aF ax E.N (Rn E) Rq 168)
section
variable (E:oH){A:Type}(k:aQ->Option A)
def lF (E:oH) (n:Nat) (a0:(Sl aQ)) (v14:Int) (x5:aQ){A:Type}(k:aQ->Option A):Option A :=
  gV ax (Rn E) E.N Rq 168 [1,1,0,1,0] [.n n] (gY k)
    ⟨[(1,.p (.fn 169 [] [])),(4,.cl (.ptr 4 0)),(5,.cl (.ptr 5 0)),(12,.cl (.p (.sl (((a0.len:Int):Int) - 1).toNat 2 (λ i=>bG.enc ((JF a0.get 1) i))))),(13,.int ((((a0.len:Int):Int) - 1).toNat:Int)),(14,.int v14)],[(4,.box 85 [.p (.int .i64 0),.p (.int .i64 0)]),(5,eB 85 x5)],[]⟩
theorem zeN (a0:(Sl aQ)) (a1:(dN 169 Unit Unit)):(zG E (a0,a1)).T k =
  aZ (decide ((0:Int)<=0/\0 < (a0.len:Int))) (aZ (decide ((0:Int)<=1/\(1:Int)<=(a0.len:Int)/\(a0.len:Int)<=(a0.len:Int))) (lF E E.N a0 0 (a0.get 0) k)):=bJ.trans (by kernel_rfl)
theorem Hz (n0:Nat) (a0:(Sl aQ)) (v14:Int) (x5:aQ):lF E (n0+1) a0 v14 x5 k =
  cond (decide (v14 < ((((a0.len:Int):Int) - 1).toNat:Int)))
  (aZ (decide (0<=v14/\v14 < ((((a0.len:Int):Int) - 1).toNat:Int))) ((E.zmd (((JF a0.get 1) v14.toNat),x5)).T λ r1 =>
 cond r1
 (lF E n0 a0 (aO (v14+1)) ((JF a0.get 1) v14.toNat) k)
 (lF E n0 a0 (aO (v14+1)) x5 k)))
  (k x5):=by kernel_rfl
end
theorem zeO [aJ] (E:oH) (zrd:Ok ax 169 (ae.un E.zmd)):Ok ax 168 (ae.un (zG E)):=bg (aP (ay.nil.addF zrd) (au (by kernel_rfl)))
structure oI where
  N:Nat
  c171:aQ×aQ->ae (Bool)
abbrev Ru (E:oI):bf:=dw (Tabs.nil.addF 171 (ae.un E.c171)) []
def Rw:bW:=aU ax 168 [] {}
def zH (E:oI):(Sl aQ)×(dN 171 Unit Unit)->ae (aQ):=ae.ty (aF ax E.N (Ru E) Rw 168)
section
variable (E:oI){A:Type}(k:aQ->Option A)
def lG (E:oI) (n:Nat) (a0:(Sl aQ)) (v14:Int) (x5:aQ){A:Type}(k:aQ->Option A):Option A :=
  gV ax (Ru E) E.N Rw 168 [1,1,0,1,0] [.n n] (gY k)
    ⟨[(1,.p (.fn 171 [] [])),(4,.cl (.ptr 4 0)),(5,.cl (.ptr 5 0)),(12,.cl (.p (.sl (((a0.len:Int):Int) - 1).toNat 2 (λ i=>bG.enc ((JF a0.get 1) i))))),(13,.int ((((a0.len:Int):Int) - 1).toNat:Int)),(14,.int v14)],[(4,.box 85 [.p (.int .i64 0),.p (.int .i64 0)]),(5,eB 85 x5)],[]⟩
theorem zeP (a0:(Sl aQ)) (a1:(dN 171 Unit Unit)):(zH E (a0,a1)).T k =
  aZ (decide ((0:Int)<=0/\0 < (a0.len:Int))) (aZ (decide ((0:Int)<=1/\(1:Int)<=(a0.len:Int)/\(a0.len:Int)<=(a0.len:Int))) (lG E E.N a0 0 (a0.get 0) k)):=bJ.trans (by kernel_rfl)
theorem HY (n0:Nat) (a0:(Sl aQ)) (v14:Int) (x5:aQ):lG E (n0+1) a0 v14 x5 k =
  cond (decide (v14 < ((((a0.len:Int):Int) - 1).toNat:Int)))
  (aZ (decide (0<=v14/\v14 < ((((a0.len:Int):Int) - 1).toNat:Int))) ((E.c171 (((JF a0.get 1) v14.toNat),x5)).T λ r1 =>
 cond r1
 (lG E n0 a0 (aO (v14+1)) ((JF a0.get 1) v14.toNat) k)
 (lG E n0 a0 (aO (v14+1)) x5 k)))
  (k x5):=by kernel_rfl
end
theorem zeQ [aJ] (E:oI) (zre:Ok ax 171 (ae.un E.c171)):Ok ax 168 (ae.un (zH E)):=bg (aP (ay.nil.addF zre) (au (by kernel_rfl)))
structure zay where
  N:Nat
  Am:aQ×aQ->ae (Int)
abbrev zJm (E:zay):bf:=dw (Tabs.nil.addF 170 (ae.un E.Am)) []
def zJn:bW:=aU ax 169 [] {}
def zka (E:zay):aQ×aQ->ae (Bool):=ae.ty (aF ax E.N (zJm E) zJn 169)
section
variable (E:zay){A:Type}(k:Bool->Option A)
theorem e169 (a0:aQ) (a1:aQ):(zka E (a0,a1)).T k =
  (E.Am (a0,a1)).T λ r1 =>
  k (decide (r1 < 0)):=bJ.trans (by kernel_rfl)
end
theorem zJo [aJ] (E:zay) (H5:Ok ax 170 (ae.un E.Am)):Ok ax 169 (ae.un (zka E)):=bg (aP (ay.nil.addF H5) (au (by kernel_rfl)))
structure zaz where
  N:Nat
  c208:Int×Int->ae (Int)
abbrev zJp (E:zaz):bf:=dw (Tabs.nil.addF 208 (ae.un E.c208)) []
def zJq:bW:=aU ax 170 [] {}
def zkb (E:zaz):aQ×aQ->ae (Int):=ae.ty (aF ax E.N (zJp E) zJq 170)
section
variable (E:zaz){A:Type}(k:Int->Option A)
theorem e170 (a0:aQ) (a1:aQ):(zkb E (a0,a1)).T k =
  (E.c208 ((aO (a0.Num * a1.bI)),(aO (a1.Num * a0.bI)))).T λ r1 =>
  k r1:=bJ.trans (by kernel_rfl)
end
theorem zJr [aJ] (E:zaz) (VM:Ok ax 208 (ae.un E.c208)):Ok ax 170 (ae.un (zkb E)):=bg (aP (ay.nil.addF VM) (au (by kernel_rfl)))
structure zaA where
  N:Nat
  Am:aQ×aQ->ae (Int)
abbrev zJs (E:zaA):bf:=dw (Tabs.nil.addF 170 (ae.un E.Am)) []
def zJt:bW:=aU ax 171 [] {}
def zkc (E:zaA):aQ×aQ->ae (Bool):=ae.ty (aF ax E.N (zJs E) zJt 171)
section
variable (E:zaA){A:Type}(k:Bool->Option A)
theorem zJu (a0:aQ) (a1:aQ):(zkc E (a0,a1)).T k =
  (E.Am (a0,a1)).T λ r1 =>
  k (decide (r1 > 0)):=bJ.trans (by kernel_rfl)
end
theorem zJv [aJ] (E:zaA) (H5:Ok ax 170 (ae.un E.Am)):Ok ax 171 (ae.un (zkc E)):=bg (aP (ay.nil.addF H5) (au (by kernel_rfl)))
structure zaB where
  N:Nat
  zmn:Int×Int->ae (Int)
abbrev zJw (E:zaB):bf:=dw (Tabs.nil.addF 209 (ae.un E.zmn)) []
def zJx:bW:=aU ax 172 [] {}
def zkd (E:zaB):Int×Int->ae (aQ):=ae.ty (aF ax E.N (zJw E) zJx 172)
section
variable (E:zaB){A:Type}(k:aQ->Option A)
theorem zJy (a0:Int) (a1:Int):(zkd E (a0,a1)).T k =
  (E.zmn ((if (aO (0 - a0)) > a0 then (aO (0 - a0)) else a0),a1)).T λ r1 =>
  aZ (decide (r1 ≠ 0)) (aZ (decide (r1 ≠ 0)) (k (⟨(aO (a0.tdiv r1)),(aO (a1.tdiv r1))⟩:aQ))):=bJ.trans (by kernel_rfl)
end
theorem zJz [aJ] (E:zaB) (zrf:Ok ax 209 (ae.un E.zmn)):Ok ax 172 (ae.un (zkd E)):=bg (aP (ay.nil.addF zrf) (au (by kernel_rfl)))
structure VN where
  N:Nat
abbrev zzc (E:VN):bf:=dw Tabs.nil []
def zzd:bW:=aU ax 176 [] {}
def zke (E:VN):(Sl Bool)×Bool->ae (Int):=ae.ty (aF ax E.N (zzc E) zzd 176)
section
variable (E:VN){A:Type}(k:Int->Option A)
def NU (E:VN) (n:Nat) (a0:(Sl Bool)) (a1:Bool) (v8:Int){A:Type}(k:Int->Option A):Option A :=
  gV ax (zzc E) E.N zzd 176 [1,0,1,0] [.n n] (gY k)
    ⟨[(0,eP a0),(1,.bool a1),(7,.int (a0.len:Int)),(8,.int v8)],[],[]⟩
theorem zJA (a0:(Sl Bool)) (a1:Bool):(zke E (a0,a1)).T k =
  NU E E.N a0 a1 0 k:=bJ.trans (by kernel_rfl)
theorem zeR (n0:Nat) (a0:(Sl Bool)) (a1:Bool) (v8:Int):NU E (n0+1) a0 a1 v8 k =
  cond (decide (v8 < (a0.len:Int)))
  (aZ (decide (0<=v8/\v8 < (a0.len:Int))) (cond (a1 == (a0.get v8.toNat))
 (k v8)
 (NU E n0 a0 a1 (aO (v8+1)) k)))
  (k (-1)):=by kernel_rfl
end
theorem zJB [aJ] (E:VN):Ok ax 176 (ae.un (zke E)):=bg (aP ay.nil (au (by kernel_rfl)))
structure zaC where
  N:Nat
  Jp:(Sl Int)×((dN 180 Unit ((Pt (Pt aX))×(Pt Int))) ⊕ (dN 190 Unit ((Pt (Pt aX))×(Pt Int))))->ae (Bool)
  c182:(Pt aX)×aj->ae (Bool)
  i173:(Pt Int)×(Pt (Pt aX))×(Pt Int)->ae (List (Int×Int))
  Jr:aj×Int×Bc 143 (Pt aX)×Bc 38 Int×Bw 30 43 3 56 aj×Bs 255 178 2 4×Unit->ae ((Unit)×(Unit×Unit×(Pt aX)×Int×Sl aj×Unit×Unit))
abbrev zrg (E:zaC):bf:=dw (((((((Tabs.nil.addN [180]).addO 181 (.clone 3 1 8)).addM 178 (ae.unM E.Jr)).addF 179 (ae.un E.Jp)).addF 182 (ae.un E.c182)).addF 121 (aF ax E.N (dw Tabs.nil []) (aU ax 121 [] {}) 121)).addI 173 (ae.unI E.i173)) []
def zkf:bW:=aU ax 178 [2,3,4,5] { clo:=[180] }
def zkg (E:zaC):aj×Int×Bc 143 (Pt aX)×Bc 38 Int×Bw 30 43 3 56 aj×Bs 255 178 2 4×Unit->ae ((Unit)×(Unit×Unit×(Pt aX)×Int×Sl aj×Unit×Unit)):=ae.tyM λ xs=>aM ax E.N (zrg E) zkf 178 xs
section
variable (E:zaC){A:Type}(k:((Unit)×(Unit×Unit×(Pt aX)×Int×Sl aj×Unit×Unit))->Option A)
def mJ (E:zaC) (l:List (Int×Int)) (a0:aj) (a1:Int) (a2:(Pt aX)) (a3:Int) (a4:(Sl aj)) (H6:(Pt aX)) (DR:Int) (ry:Sl aj){A:Type}(k:((Unit)×(Unit×Unit×(Pt aX)×Int×Sl aj×Unit×Unit))->Option A):Option A :=
  ptG ax (zrg E) E.N zkf 178 [1,1,0] [.y (l.map dC.enc)] (XM ax (wH.enc ((a0,a1,⟨a2⟩,⟨a3⟩,⟨a4⟩,{},()):aj×Int×Bc 143 (Pt aX)×Bc 38 Int×Bw 30 43 3 56 aj×Bs 255 178 2 4×Unit))) (zxY ((a0,a1,⟨a2⟩,⟨a3⟩,⟨a4⟩,{},()):aj×Int×Bc 143 (Pt aX)×Bc 38 Int×Bw 30 43 3 56 aj×Bs 255 178 2 4×Unit) k)
    ⟨[(2,.cl (.ptr 2 0)),(3,.cl (.ptr 3 0)),(4,.cl (.ptr 4 0)),(5,.cl (.ptr 5 0)),(6,.cl (.ptr 6 0)),(14,.p (.fn 173 [] [.fp [.int .i64 a1] 0,.fp [.fp [.sl a2.v.ak.af.len 15 (λ i=>bG.enc (a2.v.ak.af.get i)),.sl a2.v.hits.len 6 (λ i=>bG.enc (a2.v.hits.get i)),.sl a2.v.kV.len 1 (λ i=>bG.enc (a2.v.kV.get i)),.int .i64 a2.v.rules.oW,.int .i64 a2.v.rules.rU] 0] 0,.fp [.int .i64 a3] 0]))],[(2,eB 143 H6),(3,eB 38 DR),(4,.box 30 [.vec 4100]),(5,.box 255 [.clo 178 [.b 2,.b 3,.b 4,.b 5]]),(6,eB 43 a0),(4100,eV 43 3 56 ry)],[]⟩
theorem zJC (a0:aj) (a1:Int) (a2:(Pt aX)) (a3:Int) (a4:(Sl aj)):(zkg E (a0,a1,⟨a2⟩,⟨a3⟩,⟨a4⟩,{},())).T k =
  (E.i173 ((⟨a1⟩:(Pt Int)),(⟨a2⟩:(Pt (Pt aX))),(⟨a3⟩:(Pt Int)))).T λ r1 =>
  mJ E r1 a0 a1 a2 a3 a4 a2 a3 a4 k:=zxZ.trans (by kernel_rfl)
theorem zkh (a0:aj) (a1:Int) (a2:(Pt aX)) (a3:Int) (a4:(Sl aj)) (H6:(Pt aX)) (DR:Int) (ry:Sl aj):mJ E [] a0 a1 a2 a3 a4 H6 DR ry k =
  k ((),(),(),H6,DR,ry,(),()):=by kernel_rfl
theorem zeS (y:Int×Int) (l0:List (Int×Int)) (a0:aj) (a1:Int) (a2:(Pt aX)) (a3:Int) (a4:(Sl aj)) (H6:(Pt aX)) (DR:Int) (ry:Sl aj):mJ E (y :: l0) a0 a1 a2 a3 a4 H6 DR ry k =
  (E.Jp (a0.Hits,(Sum.inl (⟨(),((⟨H6⟩:(Pt (Pt aX))),(⟨y.1⟩:(Pt Int)))⟩:(dN 180 Unit ((Pt (Pt aX))×(Pt Int))))))).T λ r1 =>
  cond r1
  (mJ E l0 a0 a1 a2 a3 a4 H6 DR ry k)
  (aZ (room a0.Hits.len 8) (aZ (room (a0.Hits.len+1) 8) (aZ (room a0.bD.len 8) (aZ (room (a0.bD.len+1) 8) ((E.c182 (H6,(⟨DR,(⟨(a0.Hits.len+1),(jf a0.Hits.len a0.Hits.get (λ _=>y.1))⟩:(Sl Int)),(⟨(a0.bD.len+1),(jf a0.bD.len a0.bD.get (λ _=>y.2))⟩:(Sl Int))⟩:aj))).T λ r2 =>
 cond (!r2)
 (mJ E l0 a0 a1 a2 a3 a4 H6 DR ry k)
 (aZ (room (ry.len+1) 56) (cond (decide (((ry.len+1):Int) > 2000))
 (none)
 ((E.Jr ((⟨DR,(⟨(a0.Hits.len+1),(jf a0.Hits.len a0.Hits.get (λ _=>y.1))⟩:(Sl Int)),(⟨(a0.bD.len+1),(jf a0.bD.len a0.bD.get (λ _=>y.2))⟩:(Sl Int))⟩:aj),(aO (y.1+1)),(⟨H6⟩:Bc 143 (Pt aX)),(⟨DR⟩:Bc 38 Int),(⟨(⟨(ry.len+1),(jf ry.len ry.get (λ _=>(⟨DR,(⟨(a0.Hits.len+1),(jf a0.Hits.len a0.Hits.get (λ _=>y.1))⟩:(Sl Int)),(⟨(a0.bD.len+1),(jf a0.bD.len a0.bD.get (λ _=>y.2))⟩:(Sl Int))⟩:aj)))⟩:(Sl aj))⟩:Bw 30 43 3 56 aj),({} : Bs 255 178 2 4),())).T λ r3 =>
 mJ E l0 a0 a1 a2 a3 a4 r3.2.2.2.1 r3.2.2.2.2.1 r3.2.2.2.2.2.1 k)))))))):=by kernel_rfl
end
theorem zJD (E:zaC) (Vy:Ok ax 179 (ae.un E.Jp)) (zrh:Ok ax 182 (ae.un E.c182)) (zJE:qL ax 173 (ae.unI E.i173)) (zJF:ed ax 181 (.clone 3 1 8)) (zqV:nV ax 178 (ae.unM E.Jr)):nV ax 178 (ae.unM (zkg E)):=by
  have h : nV ax 178 (λ xs => aM ax E.N (zrg E) zkf 178 xs) := UT (aV := λ _ => zkf) (((((((ay.nil.addN).addO zJF).addM zqV).addF Vy).addF zrh).addF (aP ay.nil (au (by kernel_rfl)))).addI zJE) (au (by kernel_rfl));exact (zpj h : nV ax 178 (ae.unM (ae.tyM _ : aj × Int × Bc 143 (Pt aX) × Bc 38 Int × Bw 30 43 3 56 aj × Bs 255 178 2 4 × Unit -> ae ((Unit) × (Unit × Unit × (Pt aX) × Int × Sl aj × Unit × Unit)))))
structure rC where
  N:Nat
  c210:(Sl Int)×((dN 180 Unit ((Pt (Pt aX))×(Pt Int))) ⊕ (dN 190 Unit ((Pt (Pt aX))×(Pt Int))))->ae (Int)
abbrev zeT (E:rC):bf:=dw (Tabs.nil.addF 210 (ae.un E.c210)) []
def zeU:bW:=aU ax 179 [] {}
def zI (E:rC):(Sl Int)×(dN 180 Unit ((Pt (Pt aX))×(Pt Int)))->ae (Bool):=ae.ty (aF ax E.N (zeT E) zeU 179)
section
variable (E:rC){A:Type}(k:Bool->Option A)
theorem zeV (a0:(Sl Int)) (a1:(dN 180 Unit ((Pt (Pt aX))×(Pt Int)))):(zI E (a0,a1)).T k =
  (E.c210 (a0,(Sum.inl a1))).T λ r1 =>
  k (decide (r1 >= 0)):=bJ.trans (by kernel_rfl)
end
theorem zeW [aJ] (E:rC) (VO:Ok ax 210 (ae.un E.c210)):Ok ax 179 (ae.un (zI E)):=bg (aP (ay.nil.addF VO) (au (by kernel_rfl)))
structure rD where
  N:Nat
  c210:(Sl Int)×((dN 180 Unit ((Pt (Pt aX))×(Pt Int))) ⊕ (dN 190 Unit ((Pt (Pt aX))×(Pt Int))))->ae (Int)
abbrev zeX (E:rD):bf:=dw (Tabs.nil.addF 210 (ae.un E.c210)) []
def zeY:bW:=aU ax 179 [] {}
def zJ (E:rD):(Sl Int)×(dN 190 Unit ((Pt (Pt aX))×(Pt Int)))->ae (Bool):=ae.ty (aF ax E.N (zeX E) zeY 179)
section
variable (E:rD){A:Type}(k:Bool->Option A)
theorem zeZ (a0:(Sl Int)) (a1:(dN 190 Unit ((Pt (Pt aX))×(Pt Int)))):(zJ E (a0,a1)).T k =
  (E.c210 (a0,(Sum.inr a1))).T λ r1 =>
  k (decide (r1 >= 0)):=bJ.trans (by kernel_rfl)
end
theorem ze0 [aJ] (E:rD) (VO:Ok ax 210 (ae.un E.c210)):Ok ax 179 (ae.un (zJ E)):=bg (aP (ay.nil.addF VO) (au (by kernel_rfl)))
structure zaD where
  N:Nat
abbrev zJG (E:zaD):bf:=dw Tabs.nil []
def zJH:bW:=aU ax 180 [] {}
def zki (E:zaD):Int×(Pt (Pt aX))×(Pt Int)->ae (Bool):=ae.ty (aF ax E.N (zJG E) zJH 180)
section
variable (E:zaD){A:Type}(k:Bool->Option A)
theorem zJI (a0:Int) (a1:(Pt (Pt aX))) (a2:(Pt Int)):(zki E (a0,a1,a2)).T k =
  aZ (decide (0<=a0/\a0 < (a1.v.v.hits.len:Int))) (aZ (decide (0<=a2.v/\a2.v < (a1.v.v.hits.len:Int))) (k ((a1.v.v.hits.get a0.toNat).ai == (a1.v.v.hits.get a2.v.toNat).ai))):=bJ.trans (by kernel_rfl)
end
theorem zJJ [aJ] (E:zaD):Ok ax 180 (ae.un (zki E)):=bg (aP ay.nil (au (by kernel_rfl)))
structure zaE where
  N:Nat
  c93:(Pt aX)×aj->ae (bV×Bool)
  c105:(Pt aX)×aj->ae ((Sl aB))
  zmo:(Sl aB)->ae (Line×Int)
abbrev zJK (E:zaE):bf:=dw (((Tabs.nil.addF 93 (ae.un E.c93)).addF 105 (ae.un E.c105)).addF 211 (ae.un E.zmo)) []
def zJL:bW:=aU ax 182 [] {}
def zkj (E:zaE):(Pt aX)×aj->ae (Bool):=ae.ty (aF ax E.N (zJK E) zJL 182)
section
variable (E:zaE){A:Type}(k:Bool->Option A)
theorem zJM (a0:(Pt aX)) (a1:aj):(zkj E (a0,a1)).T k =
  (E.c93 (a0,a1)).T λ r1 =>
  cond (!r1.2)
  (k false)
  ((E.c105 (a0,a1)).T λ r2 =>
 (E.zmo r2).T λ r3 =>
 k (r3.2 != 5)):=bJ.trans (by kernel_rfl)
end
theorem zJN [aJ] (E:zaE) (h93:Ok ax 93 (ae.un E.c93)) (Vx:Ok ax 105 (ae.un E.c105)) (zri:Ok ax 211 (ae.un E.zmo)):Ok ax 182 (ae.un (zkj E)):=bg (aP (((ay.nil.addF h93).addF Vx).addF zri) (au (by kernel_rfl)))
structure VP where
  N:Nat
abbrev zze (E:VP):bf:=dw Tabs.nil []
def zzf:bW:=aU ax 185 [] {}
def zkk (E:VP):(Sl Int)->ae (Int):=ae.ty (aF ax E.N (zze E) zzf 185)
section
variable (E:VP){A:Type}(k:Int->Option A)
def BK (E:VP) (n:Nat) (a0:(Sl Int)) (v8:Int){A:Type}(k:Int->Option A):Option A :=
  gV ax (zze E) E.N zzf 185 [1,1,0,1,0] [.n n] (gY k)
    ⟨[(3,.int 0),(6,eP a0),(7,.int (a0.len:Int)),(8,.int v8)],[],[]⟩
theorem e185 (a0:(Sl Int)):(zkk E (a0)).T k =
  BK E E.N a0 0 k:=bJ.trans (by kernel_rfl)
theorem ze1 (n0:Nat) (a0:(Sl Int)) (v8:Int):BK E (n0+1) a0 v8 k =
  cond (decide (v8 < (a0.len:Int)))
  (aZ (decide (0<=v8/\v8 < (a0.len:Int))) (cond (a0.get v8.toNat != 0)
 (k (a0.get v8.toNat))
 (BK E n0 a0 (aO (v8+1)) k)))
  (k 0):=by kernel_rfl
end
theorem zJP [aJ] (E:VP):Ok ax 185 (ae.un (zkk E)):=bg (aP ay.nil (au (by kernel_rfl)))
structure zaF where
  N:Nat
  c222:Int->ae (Bool)
abbrev zJQ (E:zaF):bf:=dw (Tabs.nil.addF 222 (ae.un E.c222)) []
def zJR:bW:=aU ax 186 [] {}
def zkl (E:zaF):Int×Int->ae (Int):=ae.ty (aF ax E.N (zJQ E) zJR 186)
section
variable (E:zaF){A:Type}(k:Int->Option A)
theorem zJS (a0:Int) (a1:Int):(zkl E (a0,a1)).T k =
  (E.c222 a0).T λ r1 =>
  (E.c222 a1).T λ r2 =>
  cond r1
  (cond r2
 (k 0)
 (k (-1)))
  (cond r2
 (k 1)
 (cond (decide (a0 < a1))
 (k (-1))
 (cond (decide (a0 > a1))
 (k 1)
 (k 0)))):=bJ.trans (by kernel_rfl)
end
theorem zJT [aJ] (E:zaF) (zkm:Ok ax 222 (ae.un E.c222)):Ok ax 186 (ae.un (zkl E)):=bg (aP (ay.nil.addF zkm) (au (by kernel_rfl)))
structure VQ where
  N:Nat
  c208:Int×Int->ae (Int)
abbrev zzg (E:VQ):bf:=dw (Tabs.nil.addF 208 (ae.un E.c208)) []
def zzh:bW:=aU ax 187 [] {}
def zkn (E:VQ):(Sl Int)×(Sl Int)->ae (Int):=ae.ty (aF ax E.N (zzg E) zzh 187)
section
variable (E:VQ){A:Type}(k:Int->Option A)
def NV (E:VQ) (n:Nat) (a0:(Sl Int)) (a1:(Sl Int)) (v11:Int){A:Type}(k:Int->Option A):Option A :=
  gV ax (zzg E) E.N zzh 187 [1,0,1,0] [.n n] (gY k)
    ⟨[(0,eP a0),(1,eP a1),(9,eP a0),(10,.int (a0.len:Int)),(11,.int v11)],[],[]⟩
theorem e187 (a0:(Sl Int)) (a1:(Sl Int)):(zkn E (a0,a1)).T k =
  NV E E.N a0 a1 0 k:=bJ.trans (by kernel_rfl)
theorem ze2 (n0:Nat) (a0:(Sl Int)) (a1:(Sl Int)) (v11:Int):NV E (n0+1) a0 a1 v11 k =
  cond (decide (v11 < (a0.len:Int)))
  (aZ (decide (0<=v11/\v11 < (a0.len:Int))) (cond (decide (v11 >= (a1.len:Int)))
 (k 1)
 (aZ (decide (0<=v11/\v11 < (a1.len:Int))) ((E.c208 (a0.get v11.toNat,a1.get v11.toNat)).T λ r1 =>
 cond (r1 != 0)
 (k r1)
 (NV E n0 a0 a1 (aO (v11+1)) k)))))
  (cond (decide ((a0.len:Int) < (a1.len:Int)))
 (k (-1))
 (k 0)):=by kernel_rfl
end
theorem zJU [aJ] (E:VQ) (VM:Ok ax 208 (ae.un E.c208)):Ok ax 187 (ae.un (zkn E)):=bg (aP (ay.nil.addF VM) (au (by kernel_rfl)))
structure zaG where
  N:Nat
abbrev zJV (E:zaG):bf:=dw Tabs.nil []
def zJW:bW:=aU ax 190 [] {}
def zko (E:zaG):Int×(Pt (Pt aX))×(Pt Int)->ae (Bool):=ae.ty (aF ax E.N (zJV E) zJW 190)
section
variable (E:zaG){A:Type}(k:Bool->Option A)
theorem e190 (a0:Int) (a1:(Pt (Pt aX))) (a2:(Pt Int)):(zko E (a0,a1,a2)).T k =
  aZ (decide (0<=a0/\a0 < (a1.v.v.hits.len:Int))) (k ((a1.v.v.hits.get a0.toNat).ai == a2.v)):=bJ.trans (by kernel_rfl)
end
theorem zJX [aJ] (E:zaG):Ok ax 190 (ae.un (zko E)):=bg (aP ay.nil (au (by kernel_rfl)))
structure zaH where
  N:Nat
abbrev zJY (E:zaH):bf:=dw Tabs.nil []
def zJZ:bW:=aU ax 191 [] {}
def zkp (E:zaH):aQ->ae (Int):=ae.ty (aF ax E.N (zJY E) zJZ 191)
section
variable (E:zaH){A:Type}(k:Int->Option A)
theorem zJ0 (a0:aQ):(zkp E (a0)).T k =
  cond (decide (a0.Num < 0))
  (aZ (decide (a0.bI ≠ 0)) (k (aO (0 - (aO ((aO ((aO ((aO (0 - a0.Num))+a0.bI)) - 1)).tdiv a0.bI))))))
  (aZ (decide (a0.bI ≠ 0)) (k (aO (a0.Num.tdiv a0.bI)))):=bJ.trans (by kernel_rfl)
end
theorem zJ1 [aJ] (E:zaH):Ok ax 191 (ae.un (zkp E)):=bg (aP ay.nil (au (by kernel_rfl)))
structure zaI where
  N:Nat
  JR:aQ->ae (Int)
abbrev zJ2 (E:zaI):bf:=dw (Tabs.nil.addF 191 (ae.un E.JR)) []
def zJ3:bW:=aU ax 192 [] {}
def zkq (E:zaI):aQ->ae (Int):=ae.ty (aF ax E.N (zJ2 E) zJ3 192)
section
variable (E:zaI){A:Type}(k:Int->Option A)
theorem zJ4 (a0:aQ):(zkq E (a0)).T k =
  (E.JR (⟨(aO (0 - a0.Num)),a0.bI⟩:aQ)).T λ r1 =>
  k (aO (0 - r1)):=bJ.trans (by kernel_rfl)
end
theorem zJ5 [aJ] (E:zaI) (Vz:Ok ax 191 (ae.un E.JR)):Ok ax 192 (ae.un (zkq E)):=bg (aP (ay.nil.addF Vz) (au (by kernel_rfl)))
structure VS where
  N:Nat
abbrev zzi (E:VS):bf:=dw Tabs.nil []
def zzj:bW:=aU ax 193 [] {}
def zkr (E:VS):(Sl aB)->ae (Int×Int×Bool):=ae.ty (aF ax E.N (zzi E) zzj 193)
section
variable (E:VS){A:Type}(k:(Int×Int×Bool)->Option A)
def NW (E:VS) (n:Nat) (a0:(Sl aB)) (v5:Int) (v6:Int) (v7:Int){A:Type}(k:(Int×Int×Bool)->Option A):Option A :=
  gV ax (zzi E) E.N zzj 193 [1,1,0,1,0] [.n n] (gY k)
    ⟨[(0,eP a0),(5,.int v5),(6,.int v6),(7,.int v7)],[],[]⟩
theorem zJ6 (a0:(Sl aB)):(zkr E (a0)).T k =
  aZ (decide ((0:Int)<=0/\0 < (a0.len:Int))) (aZ (decide ((0:Int)<=0/\0 < (a0.len:Int))) (NW E E.N a0 (a0.get 0).Low (a0.get 0).High 1 k)):=bJ.trans (by kernel_rfl)
theorem ze3 (n0:Nat) (a0:(Sl aB)) (v5:Int) (v6:Int) (v7:Int):NW E (n0+1) a0 v5 v6 v7 k =
  cond (decide (v7 < (a0.len:Int)))
  (aZ (decide (0<=v7/\v7 < (a0.len:Int))) (aZ (decide (0<=v7/\v7 < (a0.len:Int))) (NW E n0 a0 (if (a0.get v7.toNat).Low > v5 then (a0.get v7.toNat).Low else v5) (if (a0.get v7.toNat).High < v6 then (a0.get v7.toNat).High else v6) (aO (v7+1)) k)))
  (k (v5,v6,decide (v5<=v6))):=by kernel_rfl
end
theorem zJ7 [aJ] (E:VS):Ok ax 193 (ae.un (zkr E)):=bg (aP ay.nil (au (by kernel_rfl)))
structure JI where
  N:Nat
  zmq:(Sl aB)->ae ((Sl Line))
  c57:Line×(Sl aB)->ae ((Sl Int))
  c226:Line×Line×(Sl aB)->ae (Bool)
abbrev ze4 (E:JI):bf:=dw (((Tabs.nil.addF 225 (ae.un E.zmq)).addF 57 (ae.un E.c57)).addF 226 (ae.un E.c226)) []
def ze5:bW:=aU ax 194 [] { ks:=[(0,1,⟨[],[(3,5000,114)],[],[],[],[],[]⟩),(1,4,⟨[],[],[],[],[],[3],[]⟩)],cut:=[10,11] }
def zks (E:JI):(Sl aB)->ae ((Sl Line)):=ae.ty (aF ax E.N (ze4 E) ze5 194)
section
variable (E:JI){A:Type}(k:(Sl Line)->Option A)
def mM (E:JI) (n:Nat) (a0:(Sl aB)) (v3:(Sl Line)) (v4:(Sl Line)) (v5:Int){A:Type}(k:(Sl Line)->Option A):Option A :=
  gV ax (ze4 E) E.N ze5 194 [1,1,1,0,1,0] [.n n] (gY k)
    ⟨[(0,eP a0),(3,eP v3),(4,eP v4),(5,.int v5)],[],[]⟩
def vT (E:JI) (n0:Nat) (n:Nat) (a0:(Sl aB)) (v3:(Sl Line)) (v4:(Sl Line)) (v5:Int) (v6:Int){A:Type}(k:(Sl Line)->Option A):Option A :=
  gV ax (ze4 E) E.N ze5 194 [1,1,1,0,1,0,0,1,0,0,1,1,0,0] [.n n0,.n n] (gY k)
    ⟨[(0,eP a0),(3,eP v3),(4,eP v4),(5,.int v5),(6,.int v6)],[],[]⟩
def tJ (E:JI) (n0:Nat) (a0:(Sl aB)) (v3:(Sl Line)) (v4:(Sl Line)) (v5:Int) (v6:Int){A:Type}(k:(Sl Line)->Option A):Option A :=
  gV ax (ze4 E) E.N ze5 194 [1,1,1,0,1,0,0,1,0,0,1,1,1] [.n n0] (gY k)
    ⟨[(0,eP a0),(3,eP v3),(4,eP v4),(5,.int v5),(6,.int v6)],[],[]⟩
def H7 (E:JI) (n0:Nat) (a0:(Sl aB)) (v3:(Sl Line)) (v4:(Sl Line)) (v5:Int) (v6:Int){A:Type}(k:(Sl Line)->Option A):Option A :=
  gV ax (ze4 E) E.N ze5 194 [1,1,1,0,1,0,0,1,0,0,1,1,1,1] [.n n0] (gY k)
    ⟨[(0,eP a0),(3,eP v3),(4,eP v4),(5,.int v5),(6,.int v6)],[],[]⟩
theorem zJ8 (a0:(Sl aB)):(zks E (a0)).T k =
  (E.zmq a0).T λ r1 =>
  mM E E.N a0 (⟨0,(λ _=>(⟨(⟨0,0⟩:aQ),(⟨0,0⟩:aQ)⟩:Line))⟩:(Sl Line)) r1 0 k:=bJ.trans (by kernel_rfl)
theorem ze6 (n0:Nat) (a0:(Sl aB)) (v3:(Sl Line)) (v4:(Sl Line)) (v5:Int):mM E (n0+1) a0 v3 v4 v5 k =
  cond (decide (v5 < (v4.len:Int)))
  (aZ (decide (0<=v5/\v5 < (v4.len:Int))) ((E.c57 ((v4.get v5.toNat),a0)).T λ r1 =>
 cond (decide ((r1.len:Int) < (a0.len:Int)))
 (mM E n0 a0 v3 v4 (aO (v5+1)) k)
 (vT E n0 E.N a0 v3 v4 v5 0 k)))
  (k v3):=by kernel_rfl
theorem ze7 (n0:Nat) (n1:Nat) (a0:(Sl aB)) (v3:(Sl Line)) (v4:(Sl Line)) (v5:Int) (v6:Int):vT E n0 (n1+1) a0 v3 v4 v5 v6 k =
  cond (decide (v6 < (v3.len:Int)))
  (aZ (decide (0<=v6/\v6 < (v3.len:Int))) (aZ (decide (0<=v5/\v5 < (v4.len:Int))) ((E.c226 ((v3.get v6.toNat),(v4.get v5.toNat),a0)).T λ r1 =>
 cond r1
 (vT E n0 n1 a0 v3 v4 v5 (aO (v6+1)) k)
 (tJ E n0 a0 v3 v4 v5 v6 k))))
  (tJ E n0 a0 v3 v4 v5 v6 k):=by kernel_rfl
theorem ze8 (n0:Nat) (a0:(Sl aB)) (v3:(Sl Line)) (v4:(Sl Line)) (v5:Int) (v6:Int):tJ E n0 a0 v3 v4 v5 v6 k =
  cond (decide (v6 < (v3.len:Int)))
  (aZ (decide (0<=v6/\v6 < (v3.len:Int))) (aZ (decide (0<=v5/\v5 < (v4.len:Int))) (cond (cond (cond ((v3.get v6.toNat).dM.Num == (v4.get v5.toNat).dM.Num) (cond ((v3.get v6.toNat).dM.bI == (v4.get v5.toNat).dM.bI) true false) false) (cond (cond ((v3.get v6.toNat).Start.Num == (v4.get v5.toNat).Start.Num) (cond ((v3.get v6.toNat).Start.bI == (v4.get v5.toNat).Start.bI) true false) false) true false) false)
 (mM E n0 a0 v3 v4 (aO (v5+1)) k)
 (H7 E n0 a0 v3 v4 v5 v6 k))))
  (H7 E n0 a0 v3 v4 v5 v6 k):=by kernel_rfl
theorem zrj (n0:Nat) (a0:(Sl aB)) (v3:(Sl Line)) (v4:(Sl Line)) (v5:Int) (v6:Int):H7 E n0 a0 v3 v4 v5 v6 k =
  aZ (decide ((0:Int)<=0/\(0:Int)<=v6/\v6<=(v3.len:Int))) (aZ (room ((v6:Int) - 0).toNat 32) (aZ (decide (0<=v5/\v5 < (v4.len:Int))) (aZ (room (((v6:Int) - 0).toNat+1) 32) (aZ (decide ((0:Int)<=v6/\(v6:Int)<=(v3.len:Int)/\(v3.len:Int)<=(v3.len:Int))) (aZ (room ((((v6:Int) - 0).toNat+1)+(((v3.len:Int):Int) - v6).toNat) 32) (mM E n0 a0 (⟨((((v6:Int) - 0).toNat+1)+(((v3.len:Int):Int) - v6).toNat),(jf (((v6:Int) - 0).toNat+1) (jf ((v6:Int) - 0).toNat (JF v3.get 0) (λ _=>(v4.get v5.toNat))) (JF v3.get v6.toNat))⟩:(Sl Line)) v4 (aO (v5+1)) k)))))):=by kernel_rfl
end
theorem zJ9 [aJ] (E:JI) (zrk:Ok ax 225 (ae.un E.zmq)) (h57:Ok ax 57 (ae.un E.c57)) (zrl:Ok ax 226 (ae.un E.c226)):Ok ax 194 (ae.un (zks E)):=bg (aP (((ay.nil.addF zrk).addF h57).addF zrl) (au (by kernel_rfl)))
structure VT where
  N:Nat
  c87:(Sl bz)×(Sl Int)×Int->ae (Bool)
  c75:ak×bz->ae ((Sl aB))
  c227:aj×Int×Int->ae (aj)
  c196:ak×(Sl bz)×aj->ae (Bool)
  Js:(ak×(Sl bz)×aj×Int)×Sl aj->ae (Sl aj)
abbrev zrm (E:VT):bf:=dw (((((Tabs.nil.addO 195 (.grow 43 3 56 (ae.unW E.Js))).addF 87 (ae.un E.c87)).addF 75 (ae.un E.c75)).addF 227 (ae.un E.c227)).addF 196 (ae.un E.c196)) []
def zrn:bW:=aU ax 195 [] {}
def zkt (E:VT):(ak×(Sl bz)×aj×Int)×Sl aj->ae (Sl aj):=ae.tyW (aG ax E.N (zrm E) zrn 195 43 3 56)
section
variable (E:VT){A:Type}(k:(Sl aj)->Option A)
def oJ (E:VT) (n:Nat) (a0:ak) (a1:(Sl bz)) (a2:aj) (v11:Int) (kE:Sl aj){A:Type}(k:(Sl aj)->Option A):Option A :=
  ptG ax (zrm E) E.N zrn 195 [1,0,1,0] [.n n] (GX 43 3 56) (zpq k)
    ⟨[(1,eP a1),(4,.cl (.vec 4095)),(5,.cl (.ptr 5 0)),(7,.cl (.ptr 7 0)),(11,.int v11)],[(4095,eV 43 3 56 kE),(5,eB 24 a0),(7,eB 43 a2)],[]⟩
def tK (E:VT) (n0:Nat) (n:Nat) (a0:ak) (a1:(Sl bz)) (a2:aj) (v11:Int) (v13:(Sl aB)) (v14:Int) (kE:Sl aj){A:Type}(k:(Sl aj)->Option A):Option A :=
  ptG ax (zrm E) E.N zrn 195 [1,0,1,0,0,1,0,0,1,1,1,1,0] [.n n0,.n n] (GX 43 3 56) (zpq k)
    ⟨[(1,eP a1),(4,.cl (.vec 4095)),(5,.cl (.ptr 5 0)),(7,.cl (.ptr 7 0)),(11,.int v11),(13,eP v13),(14,.int v14)],[(4095,eV 43 3 56 kE),(5,eB 24 a0),(7,eB 43 a2)],[]⟩
theorem e195 (a0:ak) (a1:(Sl bz)) (a2:aj) (a3:Int) (a4:(Sl aj)):(zkt E ((a0,a1,a2,a3),a4)).T k =
  oJ E E.N a0 a1 a2 a3 a4 k:=zx3.trans (by kernel_rfl)
theorem ze9 (n0:Nat) (a0:ak) (a1:(Sl bz)) (a2:aj) (v11:Int) (kE:Sl aj):oJ E (n0+1) a0 a1 a2 v11 kE k =
  cond (decide (v11 < (a1.len:Int)))
  (aZ (decide (0<=v11/\v11 < (a1.len:Int))) (aZ (decide (0<=(a1.get v11.toNat).ai/\(a1.get v11.toNat).ai < (a0.af.len:Int))) (cond ((a0.af.get (a1.get v11.toNat).ai.toNat).View != a2.View)
 (oJ E n0 a0 a1 a2 (aO (v11+1)) kE k)
 ((E.c87 (a1,a2.Hits,(a1.get v11.toNat).ai)).T λ r1 =>
 cond r1
 (oJ E n0 a0 a1 a2 (aO (v11+1)) kE k)
 ((E.c75 (a0,(a1.get v11.toNat))).T λ r2 =>
 tK E n0 E.N a0 a1 a2 v11 r2 0 kE k)))))
  (k kE):=by kernel_rfl
theorem VU (n0:Nat) (n1:Nat) (a0:ak) (a1:(Sl bz)) (a2:aj) (v11:Int) (v13:(Sl aB)) (v14:Int) (kE:Sl aj):tK E n0 (n1+1) a0 a1 a2 v11 v13 v14 kE k =
  cond (decide (v14 < (v13.len:Int)))
  (cond (decide ((kE.len:Int)<=2000))
 ((E.c227 (a2,v11,v14)).T λ r1 =>
 (E.c196 (a0,a1,r1)).T λ r2 =>
 cond r2
 (aZ (room (kE.len+1) 56) ((E.Js ((a0,a1,r1,(aO (v11+1))),(⟨(kE.len+1),(jf kE.len kE.get (λ _=>r1))⟩:(Sl aj)))).T λ r3 =>
 tK E n0 n1 a0 a1 a2 v11 v13 (aO (v14+1)) r3 k))
 (tK E n0 n1 a0 a1 a2 v11 v13 (aO (v14+1)) kE k))
 (oJ E n0 a0 a1 a2 (aO (v11+1)) kE k))
  (oJ E n0 a0 a1 a2 (aO (v11+1)) kE k):=by kernel_rfl
end
theorem zKa [aJ] (E:VT) (h87:Ok ax 87 (ae.un E.c87)) (h75:Ok ax 75 (ae.un E.c75)) (zro:Ok ax 227 (ae.un E.c227)) (VH:Ok ax 196 (ae.un E.c196)) (zq9:ed ax 195 (.grow 43 3 56 (ae.unW E.Js))):ed ax 195 (.grow 43 3 56 (ae.unW (zkt E))):=zpp (zpo (((((ay.nil.addO zq9).addF h87).addF h75).addF zro).addF VH) (au (by kernel_rfl)))
structure zaJ where
  N:Nat
  c65:ak×(Sl bz)×aj->ae ((Sl aB))
  c145:(Sl aB)->ae (Bool)
  c90:ak×(Sl bz)×(Sl Int)->ae (Bool)
abbrev zKb (E:zaJ):bf:=dw (((Tabs.nil.addF 65 (ae.un E.c65)).addF 145 (ae.un E.c145)).addF 90 (ae.un E.c90)) []
def zKc:bW:=aU ax 196 [] {}
def zku (E:zaJ):ak×(Sl bz)×aj->ae (Bool):=ae.ty (aF ax E.N (zKb E) zKc 196)
section
variable (E:zaJ){A:Type}(k:Bool->Option A)
theorem zKd (a0:ak) (a1:(Sl bz)) (a2:aj):(zku E (a0,a1,a2)).T k =
  (E.c65 (a0,a1,a2)).T λ r1 =>
  (E.c145 r1).T λ r2 =>
  cond r2
  ((E.c90 (a0,a1,a2.Hits)).T λ r3 =>
 k r3)
  (k false):=bJ.trans (by kernel_rfl)
end
theorem zKe [aJ] (E:zaJ) (h65:Ok ax 65 (ae.un E.c65)) (zrp:Ok ax 145 (ae.un E.c145)) (h90:Ok ax 90 (ae.un E.c90)):Ok ax 196 (ae.un (zku E)):=bg (aP (((ay.nil.addF h65).addF zrp).addF h90) (au (by kernel_rfl)))
structure zaK where
  N:Nat
  lK:Int×Int->ae (aQ)
abbrev zKg (E:zaK):bf:=dw (Tabs.nil.addF 172 (ae.un E.lK)) []
def zKh:bW:=aU ax 198 [] {}
def zkv (E:zaK):straight->ae (Line):=ae.ty (aF ax E.N (zKg E) zKh 198)
section
variable (E:zaK){A:Type}(k:Line->Option A)
theorem zKi (a0:straight):(zkv E (a0)).T k =
  (E.lK (a0.bT,a0.den)).T λ r1 =>
  (E.lK (a0.start,a0.den)).T λ r2 =>
  k (⟨r1,r2⟩:Line):=bJ.trans (by kernel_rfl)
end
theorem zKj [aJ] (E:zaK) (tH:Ok ax 172 (ae.un E.lK)):Ok ax 198 (ae.un (zkv E)):=bg (aP (ay.nil.addF tH) (au (by kernel_rfl)))
structure zaL where
  N:Nat
  c206:(Sl aB)×((dN 207 Unit (Pt list)) ⊕ (dN 230 Unit (Pt straight)) ⊕ (dN 257 Unit (Pt straight)))->ae (Bool)
abbrev zKk (E:zaL):bf:=dw (Tabs.nil.addF 206 (ae.un E.c206)) []
def zKl:bW:=aU ax 199 [] {}
def zkw (E:zaL):set×straight->ae (Bool):=ae.ty (aF ax E.N (zKk E) zKl 199)
section
variable (E:zaL){A:Type}(k:Bool->Option A)
theorem e199 (a0:set) (a1:straight):(zkw E (a0,a1)).T k =
  (E.c206 (a0.list.bK,(Sum.inr (Sum.inl (⟨(),(⟨a1⟩:(Pt straight))⟩:(dN 230 Unit (Pt straight))))))).T λ r1 =>
  k (!r1):=bJ.trans (by kernel_rfl)
end
theorem zKm [aJ] (E:zaL) (Hy:Ok ax 206 (ae.un E.c206)):Ok ax 199 (ae.un (zkw E)):=bg (aP (ay.nil.addF Hy) (au (by kernel_rfl)))
structure VV where
  N:Nat
abbrev zzk (E:VV):bf:=dw Tabs.nil []
def zzl:bW:=aU ax 200 [] {}
def zkx (E:VV):list->ae (bV):=ae.ty (aF ax E.N (zzk E) zzl 200)
section
variable (E:VV){A:Type}(k:bV->Option A)
def NY (E:VV) (n:Nat) (a0:list) (v20:Int) (x3:bV){A:Type}(k:bV->Option A):Option A :=
  gV ax (zzk E) E.N zzl 200 [1,1,0,1,0] [.n n] (gY k)
    ⟨[(2,.cl (.ptr 2 0)),(3,.cl (.ptr 3 0)),(18,eP a0.bK),(19,.int (a0.bK.len:Int)),(20,.int v20)],[(2,.box 105 [.p (.int .i64 0),.p (.int .i64 0)]),(3,eB 105 x3)],[]⟩
theorem zKn (a0:list):(zkx E (a0)).T k =
  aZ (decide ((0:Int)<=0/\0 < (a0.bK.len:Int))) (aZ (decide ((0:Int)<=0/\0 < (a0.bK.len:Int))) (NY E E.N a0 0 (⟨(a0.bK.get 0).Low,(a0.bK.get 0).High⟩:bV) k)):=bJ.trans (by kernel_rfl)
theorem zfa (n0:Nat) (a0:list) (v20:Int) (x3:bV):NY E (n0+1) a0 v20 x3 k =
  cond (decide (v20 < (a0.bK.len:Int)))
  (aZ (decide (0<=v20/\v20 < (a0.bK.len:Int))) (NY E n0 a0 (aO (v20+1)) (⟨(if (a0.bK.get v20.toNat).Low > x3.Low then (a0.bK.get v20.toNat).Low else x3.Low),(if (a0.bK.get v20.toNat).High < x3.High then (a0.bK.get v20.toNat).High else x3.High)⟩:bV) k))
  (k x3):=by kernel_rfl
end
theorem zKo [aJ] (E:VV):Ok ax 200 (ae.un (zkx E)):=bg (aP ay.nil (au (by kernel_rfl)))
structure zaM where
  N:Nat
  c203:straight×Int->ae (aQ)
abbrev zKp (E:zaM):bf:=dw (Tabs.nil.addF 203 (ae.un E.c203)) []
def zKq:bW:=aU ax 202 [] {}
def zky (E:zaM):straight×(Pt Int)->ae (aQ):=ae.ty (aF ax E.N (zKp E) zKq 202)
section
variable (E:zaM){A:Type}(k:aQ->Option A)
theorem zKr (a0:straight) (a1:(Pt Int)):(zky E (a0,a1)).T k =
  (E.c203 (a0,a1.v)).T λ r1 =>
  k r1:=bJ.trans (by kernel_rfl)
end
theorem zKs [aJ] (E:zaM) (zrq:Ok ax 203 (ae.un E.c203)):Ok ax 202 (ae.un (zky E)):=bg (aP (ay.nil.addF zrq) (au (by kernel_rfl)))
structure zaN where
  N:Nat
abbrev zKt (E:zaN):bf:=dw Tabs.nil []
def zKu:bW:=aU ax 203 [] {}
def zkz (E:zaN):straight×Int->ae (aQ):=ae.ty (aF ax E.N (zKt E) zKu 203)
section
variable (E:zaN){A:Type}(k:aQ->Option A)
theorem e203 (a0:straight) (a1:Int):(zkz E (a0,a1)).T k =
  k (⟨(aO (a0.start+(aO (a0.bT * a1)))),a0.den⟩:aQ):=bJ.trans (by kernel_rfl)
end
theorem zKv [aJ] (E:zaN):Ok ax 203 (ae.un (zkz E)):=bg (aP ay.nil (au (by kernel_rfl)))
structure Rx where
  N:Nat
  zml:(Sl Int)×Int->ae (Int×Bool)
abbrev zzm (E:Rx):bf:=dw (Tabs.nil.addF 205 (ae.un E.zml)) []
def zzn:bW:=aU ax 204 [0] { yl:=[9] }
def zzo (E:Rx) (c:List PA):YO:=aI ax (zzm E) E.N zzn 204 c
def zrr (E:Rx):(Pt placed)->ae (List (Int×bV)):=ae.tyI λ c=>.opt (zzo E c)
section
variable (E:Rx)
def BL (E:Rx) (n:Nat) (a1:(Pt placed)) (v3:Int) (v19:Int):YO :=
  ptY ax (zzm E) E.N zzn 204 [1,1,1,0] [n]
    ⟨[(0,.cl (.vec 4095)),(1,eP a1),(3,.int v3),(18,.int a1.v.ai.bM),(19,.int v19)],[(4095,.gone)],[]⟩
theorem e204 (a1:(Pt placed)):zzo E (dC.enc ((a1):(Pt placed))) =
  cond (a1.v.ai.Kind == 2)
  (BL E E.N a1 (aO (a1.v.ai.aT.tdiv 2)) 0)
  (BL E E.N a1 0 0):=by kernel_rfl
theorem zfb (n0:Nat) (a1:(Pt placed)) (v3:Int) (v19:Int):BL E (n0+1) a1 v3 v19 =
  cond (decide (v19 < a1.v.ai.bM))
  ((E.zml (a1.v.ai.Dead,v19)).T λ r1 =>
 cond r1.2
 (BL E n0 a1 v3 (aO (v19+1)))
 (yT (dC.enc ((v19,(⟨(aO ((aO (a1.v.ai.First+(aO (v19 * a1.v.ai.aT)))) - v3)),(aO ((aO ((aO ((aO (a1.v.ai.First+(aO (v19 * a1.v.ai.aT)))) - v3))+a1.v.ai.aT)) - 1))⟩:bV)):Int×bV)) (some [])
 (BL E n0 a1 v3 (aO (v19+1)))))
  (some []):=by kernel_rfl
end
theorem zKw (E:Rx) (zrt:Ok ax 205 (ae.un E.zml)):qL ax 204 (ae.unI (zrr E)):=Nr (GU (ay.nil.addF zrt) (au (by kernel_rfl)))
structure VW where
  N:Nat
  c236:Int×Int->ae (Bool)
  zg7:Int->ae (Bool)
abbrev zzp (E:VW):bf:=dw ((Tabs.nil.addF 236 (ae.un E.c236)).addF 237 (ae.un E.zg7)) []
def zzq:bW:=aU ax 205 [] {}
def zkA (E:VW):(Sl Int)×Int->ae (Int×Bool):=ae.ty (aF ax E.N (zzp E) zzq 205)
section
variable (E:VW){A:Type}(k:(Int×Bool)->Option A)
def vU (E:VW) (n:Nat) (a0:(Sl Int)) (a1:Int) (v7:Int) (v8:Int){A:Type}(k:(Int×Bool)->Option A):Option A :=
  gV ax (zzp E) E.N zzq 205 [1,1,1,0,0] [.n n] (gY k)
    ⟨[(0,eP a0),(1,.int a1),(6,.int (a0.len:Int)),(7,.int v7),(8,.int v8)],[],[]⟩
theorem zKx (a0:(Sl Int)) (a1:Int):(zkA E (a0,a1)).T k =
  vU E E.N a0 a1 0 (a0.len:Int) k:=bJ.trans (by kernel_rfl)
theorem NZ (n0:Nat) (a0:(Sl Int)) (a1:Int) (v7:Int) (v8:Int):vU E (n0+1) a0 a1 v7 v8 k =
  cond (decide (v7 < v8))
  (aZ (decide (0<=(aO (yE .u64 (IntKind.u64.wrap (aO (v7+v8))) 1))/\(aO (yE .u64 (IntKind.u64.wrap (aO (v7+v8))) 1)) < (a0.len:Int))) ((E.c236 (a0.get (aO (yE .u64 (IntKind.u64.wrap (aO (v7+v8))) 1)).toNat,a1)).T λ r1 =>
 cond r1
 (vU E n0 a0 a1 (aO ((aO (yE .u64 (IntKind.u64.wrap (aO (v7+v8))) 1))+1)) v8 k)
 (vU E n0 a0 a1 v7 (aO (yE .u64 (IntKind.u64.wrap (aO (v7+v8))) 1)) k)))
  (cond (decide (v7 < (a0.len:Int)))
 (aZ (decide (0<=v7/\v7 < (a0.len:Int))) (cond (a0.get v7.toNat == a1)
 (k (v7,true))
 (aZ (decide (0<=v7/\v7 < (a0.len:Int))) ((E.zg7 (a0.get v7.toNat)).T λ r2 =>
 cond r2
 ((E.zg7 a1).T λ r3 =>
 k (v7,r3))
 (k (v7,false))))))
 (k (v7,false))):=by kernel_rfl
end
theorem zKz [aJ] (E:VW) (zru:Ok ax 236 (ae.un E.c236)) (zrv:Ok ax 237 (ae.un E.zg7)):Ok ax 205 (ae.un (zkA E)):=bg (aP ((ay.nil.addF zru).addF zrv) (au (by kernel_rfl)))
structure rE where
  N:Nat
  Ap:(Sl aB)×((dN 207 Unit (Pt list)) ⊕ (dN 230 Unit (Pt straight)) ⊕ (dN 257 Unit (Pt straight)))->ae (Int)
abbrev zfc (E:rE):bf:=dw (Tabs.nil.addF 238 (ae.un E.Ap)) []
def zfd:bW:=aU ax 206 [] {}
def zK (E:rE):(Sl aB)×(dN 207 Unit (Pt list))->ae (Bool):=ae.ty (aF ax E.N (zfc E) zfd 206)
section
variable (E:rE){A:Type}(k:Bool->Option A)
theorem zfe (a0:(Sl aB)) (a1:(dN 207 Unit (Pt list))):(zK E (a0,a1)).T k =
  (E.Ap (a0,(Sum.inl a1))).T λ r1 =>
  k (decide (r1 >= 0)):=bJ.trans (by kernel_rfl)
end
theorem zff [aJ] (E:rE) (H8:Ok ax 238 (ae.un E.Ap)):Ok ax 206 (ae.un (zK E)):=bg (aP (ay.nil.addF H8) (au (by kernel_rfl)))
structure rF where
  N:Nat
  Ap:(Sl aB)×((dN 207 Unit (Pt list)) ⊕ (dN 230 Unit (Pt straight)) ⊕ (dN 257 Unit (Pt straight)))->ae (Int)
abbrev zfg (E:rF):bf:=dw (Tabs.nil.addF 238 (ae.un E.Ap)) []
def zfh:bW:=aU ax 206 [] {}
def zL (E:rF):(Sl aB)×(dN 230 Unit (Pt straight))->ae (Bool):=ae.ty (aF ax E.N (zfg E) zfh 206)
section
variable (E:rF){A:Type}(k:Bool->Option A)
theorem zfi (a0:(Sl aB)) (a1:(dN 230 Unit (Pt straight))):(zL E (a0,a1)).T k =
  (E.Ap (a0,(Sum.inr (Sum.inl a1)))).T λ r1 =>
  k (decide (r1 >= 0)):=bJ.trans (by kernel_rfl)
end
theorem zfj [aJ] (E:rF) (H8:Ok ax 238 (ae.un E.Ap)):Ok ax 206 (ae.un (zL E)):=bg (aP (ay.nil.addF H8) (au (by kernel_rfl)))
structure rG where
  N:Nat
  Ap:(Sl aB)×((dN 207 Unit (Pt list)) ⊕ (dN 230 Unit (Pt straight)) ⊕ (dN 257 Unit (Pt straight)))->ae (Int)
abbrev zfk (E:rG):bf:=dw (Tabs.nil.addF 238 (ae.un E.Ap)) []
def zfl:bW:=aU ax 206 [] {}
def zM (E:rG):(Sl aB)×(dN 257 Unit (Pt straight))->ae (Bool):=ae.ty (aF ax E.N (zfk E) zfl 206)
section
variable (E:rG){A:Type}(k:Bool->Option A)
theorem zfm (a0:(Sl aB)) (a1:(dN 257 Unit (Pt straight))):(zM E (a0,a1)).T k =
  (E.Ap (a0,(Sum.inr (Sum.inr a1)))).T λ r1 =>
  k (decide (r1 >= 0)):=bJ.trans (by kernel_rfl)
end
theorem zfn [aJ] (E:rG) (H8:Ok ax 238 (ae.un E.Ap)):Ok ax 206 (ae.un (zM E)):=bg (aP (ay.nil.addF H8) (au (by kernel_rfl)))
structure zaO where
  N:Nat
abbrev zKA (E:zaO):bf:=dw Tabs.nil []
def zKB:bW:=aU ax 207 [] {}
def zkB (E:zaO):aB×(Pt list)->ae (Bool):=ae.ty (aF ax E.N (zKA E) zKB 207)
section
variable (E:zaO){A:Type}(k:Bool->Option A)
theorem e207 (a0:aB) (a1:(Pt list)):(zkB E (a0,a1)).T k =
  aZ (decide ((0:Int)<=0/\0 < (a1.v.bK.len:Int))) (k (a0.Z != (a1.v.bK.get 0).Z)):=bJ.trans (by kernel_rfl)
end
theorem zKC [aJ] (E:zaO):Ok ax 207 (ae.un (zkB E)):=bg (aP ay.nil (au (by kernel_rfl)))
structure zaP where
  N:Nat
  Jq:Int->ae (Bool)
abbrev zKD (E:zaP):bf:=dw (Tabs.nil.addF 239 (ae.un E.Jq)) []
def zKE:bW:=aU ax 208 [] {}
def zkC (E:zaP):Int×Int->ae (Int):=ae.ty (aF ax E.N (zKD E) zKE 208)
section
variable (E:zaP){A:Type}(k:Int->Option A)
theorem e208 (a0:Int) (a1:Int):(zkC E (a0,a1)).T k =
  (E.Jq a0).T λ r1 =>
  (E.Jq a1).T λ r2 =>
  cond r1
  (cond r2
 (k 0)
 (k (-1)))
  (cond r2
 (k 1)
 (cond (decide (a0 < a1))
 (k (-1))
 (cond (decide (a0 > a1))
 (k 1)
 (k 0)))):=bJ.trans (by kernel_rfl)
end
theorem zKF [aJ] (E:zaP) (Ry:Ok ax 239 (ae.un E.Jq)):Ok ax 208 (ae.un (zkC E)):=bg (aP (ay.nil.addF Ry) (au (by kernel_rfl)))
structure VX where
  N:Nat
abbrev zzr (E:VX):bf:=dw Tabs.nil []
def zzs:bW:=aU ax 209 [] {}
def zkD (E:VX):Int×Int->ae (Int):=ae.ty (aF ax E.N (zzr E) zzs 209)
section
variable (E:VX){A:Type}(k:Int->Option A)
def N7 (E:VX) (n:Nat) (v0:Int) (v1:Int){A:Type}(k:Int->Option A):Option A :=
  gV ax (zzr E) E.N zzs 209 [1,0,0] [.n n] (gY k)
    ⟨[(0,.int v0),(1,.int v1)],[],[]⟩
theorem e209 (a0:Int) (a1:Int):(zkD E (a0,a1)).T k =
  N7 E E.N a0 a1 k:=bJ.trans (by kernel_rfl)
theorem zrx (n0:Nat) (v0:Int) (v1:Int):N7 E (n0+1) v0 v1 k =
  cond (decide (v1 > 0))
  (aZ (decide (v1 ≠ 0)) (N7 E n0 v1 (v0.tmod v1) k))
  (k v0):=by kernel_rfl
end
theorem zKG [aJ] (E:VX):Ok ax 209 (ae.un (zkD E)):=bg (aP ay.nil (au (by kernel_rfl)))
structure oK where
  N:Nat
  zg4:Int×(Pt (Pt aX))×(Pt Int)->ae (Bool)
abbrev Rz (E:oK):bf:=dw (Tabs.nil.addF 180 (ae.un E.zg4)) []
def RD:bW:=aU ax 210 [] {}
def zN (E:oK):(Sl Int)×(dN 180 Unit ((Pt (Pt aX))×(Pt Int)))->ae (Int):=ae.ty (aF ax E.N (Rz E) RD 210)
section
variable (E:oK){A:Type}(k:Int->Option A)
def tN (E:oK) (n:Nat) (a0:(Sl Int)) (a1:(dN 180 Unit ((Pt (Pt aX))×(Pt Int)))) (v8:Int){A:Type}(k:Int->Option A):Option A :=
  gV ax (Rz E) E.N RD 210 [1,0,1,0] [.n n] (gY k)
    ⟨[(0,eP a0),(1,eP a1),(7,.int (a0.len:Int)),(8,.int v8)],[],[]⟩
theorem zfo (a0:(Sl Int)) (a1:(dN 180 Unit ((Pt (Pt aX))×(Pt Int)))):(zN E (a0,a1)).T k =
  tN E E.N a0 a1 0 k:=bJ.trans (by kernel_rfl)
theorem H9 (n0:Nat) (a0:(Sl Int)) (a1:(dN 180 Unit ((Pt (Pt aX))×(Pt Int)))) (v8:Int):tN E (n0+1) a0 a1 v8 k =
  cond (decide (v8 < (a0.len:Int)))
  (aZ (decide (0<=v8/\v8 < (a0.len:Int))) ((E.zg4 (a0.get v8.toNat,a1.v.1,a1.v.2)).T λ r1 =>
 cond r1
 (k v8)
 (tN E n0 a0 a1 (aO (v8+1)) k)))
  (k (-1)):=by kernel_rfl
end
theorem zfp [aJ] (E:oK) (zry:Ok ax 180 (ae.un E.zg4)):Ok ax 210 (ae.un (zN E)):=bg (aP (ay.nil.addF zry) (au (by kernel_rfl)))
structure oM where
  N:Nat
  zg6:Int×(Pt (Pt aX))×(Pt Int)->ae (Bool)
abbrev RF (E:oM):bf:=dw (Tabs.nil.addF 190 (ae.un E.zg6)) []
def RG:bW:=aU ax 210 [] {}
def zO (E:oM):(Sl Int)×(dN 190 Unit ((Pt (Pt aX))×(Pt Int)))->ae (Int):=ae.ty (aF ax E.N (RF E) RG 210)
section
variable (E:oM){A:Type}(k:Int->Option A)
def tV (E:oM) (n:Nat) (a0:(Sl Int)) (a1:(dN 190 Unit ((Pt (Pt aX))×(Pt Int)))) (v8:Int){A:Type}(k:Int->Option A):Option A :=
  gV ax (RF E) E.N RG 210 [1,0,1,0] [.n n] (gY k)
    ⟨[(0,eP a0),(1,eP a1),(7,.int (a0.len:Int)),(8,.int v8)],[],[]⟩
theorem zfq (a0:(Sl Int)) (a1:(dN 190 Unit ((Pt (Pt aX))×(Pt Int)))):(zO E (a0,a1)).T k =
  tV E E.N a0 a1 0 k:=bJ.trans (by kernel_rfl)
theorem Ia (n0:Nat) (a0:(Sl Int)) (a1:(dN 190 Unit ((Pt (Pt aX))×(Pt Int)))) (v8:Int):tV E (n0+1) a0 a1 v8 k =
  cond (decide (v8 < (a0.len:Int)))
  (aZ (decide (0<=v8/\v8 < (a0.len:Int))) ((E.zg6 (a0.get v8.toNat,a1.v.1,a1.v.2)).T λ r1 =>
 cond r1
 (k v8)
 (tV E n0 a0 a1 (aO (v8+1)) k)))
  (k (-1)):=by kernel_rfl
end
theorem zfr [aJ] (E:oM) (zrz:Ok ax 190 (ae.un E.zg6)):Ok ax 210 (ae.un (zO E)):=bg (aP (ay.nil.addF zrz) (au (by kernel_rfl)))
structure zaQ where
  N:Nat
  zmt:(Sl aB)->ae ((Sl Line)×Int)
abbrev zKH (E:zaQ):bf:=dw (Tabs.nil.addF 240 (ae.un E.zmt)) []
def zKI:bW:=aU ax 211 [] {}
def zkE (E:zaQ):(Sl aB)->ae (Line×Int):=ae.ty (aF ax E.N (zKH E) zKI 211)
section
variable (E:zaQ){A:Type}(k:(Line×Int)->Option A)
theorem e211 (a0:(Sl aB)):(zkE E (a0)).T k =
  (E.zmt a0).T λ r1 =>
  cond (r1.2 != 0)
  (k ((⟨(⟨0,0⟩:aQ),(⟨0,0⟩:aQ)⟩:Line),r1.2))
  (aZ (decide ((0:Int)<=0/\0 < (r1.1.len:Int))) (k ((r1.1.get 0),0))):=bJ.trans (by kernel_rfl)
end
theorem zKJ [aJ] (E:zaQ) (zrA:Ok ax 240 (ae.un E.zmt)):Ok ax 211 (ae.un (zkE E)):=bg (aP (ay.nil.addF zrA) (au (by kernel_rfl)))
structure zaR where
  N:Nat
abbrev zKK (E:zaR):bf:=dw Tabs.nil []
def zKL:bW:=aU ax 222 [] {}
def zkF (E:zaR):Int->ae (Bool):=ae.ty (aF ax E.N (zKK E) zKL 222)
section
variable (E:zaR){A:Type}(k:Bool->Option A)
theorem e222 (a0:Int):(zkF E (a0)).T k =
  k (a0 != a0):=bJ.trans (by kernel_rfl)
end
theorem zKM [aJ] (E:zaR):Ok ax 222 (ae.un (zkF E)):=bg (aP ay.nil (au (by kernel_rfl)))
structure N8 where
  N:Nat
  zg8:aB×Int->ae (Int)
  c55:Int×Int×Int×Int->ae (Line)
abbrev zkG (E:N8):bf:=dw ((Tabs.nil.addF 247 (ae.un E.zg8)).addF 55 (ae.un E.c55)) []
def zkH:bW:=aU ax 225 [] { ks:=[(1,3,⟨[],[(3,65,114)],[],[],[],[],[]⟩),(1,6,⟨[],[(3,65,114)],[],[],[],[],[]⟩),(1,9,⟨[],[(3,65,114)],[],[],[],[],[]⟩)] }
def zkI (E:N8):(Sl aB)->ae ((Sl Line)):=ae.ty (aF ax E.N (zkG E) zkH 225)
section
variable (E:N8){A:Type}(k:(Sl Line)->Option A)
def Ib (E:N8) (n:Nat) (a0:(Sl aB)) (v4:Int) (JJ:Sl Line){A:Type}(k:(Sl Line)->Option A):Option A :=
  gV ax (zkG E) E.N zkH 225 [1,1,0,1,0] [.n n] (gY k)
    ⟨[(0,eP a0),(3,.cl (.vec 65)),(4,.int v4)],[(65,eV 114 4 32 JJ)],[]⟩
def BM (E:N8) (n0:Nat) (n:Nat) (a0:(Sl aB)) (v4:Int) (v5:Int) (JJ:Sl Line){A:Type}(k:(Sl Line)->Option A):Option A :=
  gV ax (zkG E) E.N zkH 225 [1,1,0,1,0,0,1,0,0,1,0] [.n n0,.n n] (gY k)
    ⟨[(0,eP a0),(3,.cl (.vec 65)),(4,.int v4),(5,.int v5)],[(65,eV 114 4 32 JJ)],[]⟩
def BN (E:N8) (n0:Nat) (n1:Nat) (n:Nat) (a0:(Sl aB)) (v4:Int) (v5:Int) (v6:Int) (JJ:Sl Line){A:Type}(k:(Sl Line)->Option A):Option A :=
  gV ax (zkG E) E.N zkH 225 [1,1,0,1,0,0,1,0,0,1,0,0,1,0,0,1,0] [.n n0,.n n1,.n n] (gY k)
    ⟨[(0,eP a0),(3,.cl (.vec 65)),(4,.int v4),(5,.int v5),(6,.int v6)],[(65,eV 114 4 32 JJ)],[]⟩
theorem zKN (a0:(Sl aB)):(zkI E (a0)).T k =
  Ib E E.N a0 0 (⟨0,(λ _=>(⟨(⟨0,0⟩:aQ),(⟨0,0⟩:aQ)⟩:Line))⟩:(Sl Line)) k:=bJ.trans (by kernel_rfl)
theorem zfs (n0:Nat) (a0:(Sl aB)) (v4:Int) (JJ:Sl Line):Ib E (n0+1) a0 v4 JJ k =
  cond (decide (v4 < (a0.len:Int)))
  (BM E n0 E.N a0 v4 (aO (v4+1)) JJ k)
  (k JJ):=by kernel_rfl
theorem zft (n0:Nat) (n1:Nat) (a0:(Sl aB)) (v4:Int) (v5:Int) (JJ:Sl Line):BM E n0 (n1+1) a0 v4 v5 JJ k =
  cond (decide (v5 < (a0.len:Int)))
  (BN E n0 n1 E.N a0 v4 v5 0 JJ k)
  (Ib E n0 a0 (aO (v4+1)) JJ k):=by kernel_rfl
theorem VY (n0:Nat) (n1:Nat) (n2:Nat) (a0:(Sl aB)) (v4:Int) (v5:Int) (v6:Int) (JJ:Sl Line):BN E n0 n1 (n2+1) a0 v4 v5 v6 JJ k =
  cond (decide (v6 < 4))
  (aZ (decide (0<=v4/\v4 < (a0.len:Int))) (aZ (decide (0<=v5/\v5 < (a0.len:Int))) (cond ((a0.get v4.toNat).Z != (a0.get v5.toNat).Z)
 (aZ (decide (0<=v4/\v4 < (a0.len:Int))) (aZ (decide (0<=v4/\v4 < (a0.len:Int))) ((E.zg8 ((a0.get v4.toNat),(aO (v6.tdiv 2)))).T λ r1 =>
 aZ (decide (0<=v5/\v5 < (a0.len:Int))) (aZ (decide (0<=v5/\v5 < (a0.len:Int))) ((E.zg8 ((a0.get v5.toNat),(v6.tmod 2))).T λ r2 =>
 (E.c55 ((a0.get v4.toNat).Z,r1,(a0.get v5.toNat).Z,r2)).T λ r3 =>
 aZ (room (JJ.len+1) 32) (BN E n0 n1 n2 a0 v4 v5 (aO (v6+1)) (⟨(JJ.len+1),(jf JJ.len JJ.get (λ _=>r3))⟩:(Sl Line)) k))))))
 (BM E n0 n1 a0 v4 (aO (v5+1)) JJ k))))
  (BM E n0 n1 a0 v4 (aO (v5+1)) JJ k):=by kernel_rfl
end
theorem zKO [aJ] (E:N8) (zkJ:Ok ax 247 (ae.un E.zg8)) (h55:Ok ax 55 (ae.un E.c55)):Ok ax 225 (ae.un (zkI E)):=bg (aP ((ay.nil.addF zkJ).addF h55) (au (by kernel_rfl)))
structure zaS where
  N:Nat
  Wy:Line×(Sl aB)->ae (Bool)
  c56:aQ×aQ->ae (Bool)
abbrev zKP (E:zaS):bf:=dw ((Tabs.nil.addF 248 (ae.un E.Wy)).addF 56 (ae.un E.c56)) []
def zKQ:bW:=aU ax 226 [] {}
def zkK (E:zaS):Line×Line×(Sl aB)->ae (Bool):=ae.ty (aF ax E.N (zKP E) zKQ 226)
section
variable (E:zaS){A:Type}(k:Bool->Option A)
theorem e226 (a0:Line) (a1:Line) (a2:(Sl aB)):(zkK E (a0,a1,a2)).T k =
  (E.Wy (a0,a2)).T λ r1 =>
  (E.Wy (a1,a2)).T λ r2 =>
  cond (r1 != r2)
  ((E.Wy (a0,a2)).T λ r3 =>
 k r3)
  ((E.Wy (a0,a2)).T λ r4 =>
 cond r4
 ((E.c56 (a0.dM,a1.dM)).T λ r5 =>
 k r5)
 ((E.c56 (a1.dM,a0.dM)).T λ r6 =>
 k r6)):=bJ.trans (by kernel_rfl)
end
theorem zKR [aJ] (E:zaS) (zkL:Ok ax 248 (ae.un E.Wy)) (h56:Ok ax 56 (ae.un E.c56)):Ok ax 226 (ae.un (zkK E)):=bg (aP ((ay.nil.addF zkL).addF h56) (au (by kernel_rfl)))
structure zaT where
  N:Nat
abbrev zKS (E:zaT):bf:=dw Tabs.nil []
def zKT:bW:=aU ax 227 [] {}
def zkM (E:zaT):aj×Int×Int->ae (aj):=ae.ty (aF ax E.N (zKS E) zKT 227)
section
variable (E:zaT){A:Type}(k:aj->Option A)
theorem e227 (a0:aj) (a1:Int) (a2:Int):(zkM E (a0,a1,a2)).T k =
  aZ (room a0.Hits.len 8) (aZ (room (a0.Hits.len+1) 8) (aZ (room a0.bD.len 8) (aZ (room (a0.bD.len+1) 8) (k (⟨a0.View,(⟨(a0.Hits.len+1),(jf a0.Hits.len a0.Hits.get (λ _=>a1))⟩:(Sl Int)),(⟨(a0.bD.len+1),(jf a0.bD.len a0.bD.get (λ _=>a2))⟩:(Sl Int))⟩:aj))))):=bJ.trans (by kernel_rfl)
end
theorem zKU [aJ] (E:zaT):Ok ax 227 (ae.un (zkM E)):=bg (aP ay.nil (au (by kernel_rfl)))
structure N9 where
  N:Nat
  c229:Int×Int×Int×Int->ae (straight)
abbrev zrC (E:N9):bf:=dw (Tabs.nil.addF 229 (ae.un E.c229)) []
def zrD:bW:=aU ax 228 [0] { ks:=[(1,4,⟨[],[],[],[],[4],[],[]⟩)],unr:=[(8,3),(11,3)],yl:=[13] }
def zzt (E:N9) (c:List PA):YO:=aI ax (zrC E) E.N zrD 228 c
def zrE (E:N9):(Pt list)->ae (List (straight)):=ae.tyI λ c=>.opt (zzt E c)
section
variable (E:N9)
def Ic (E:N9) (n:Nat) (a1:(Pt list)) (v14:Int):YO :=
  ptY ax (zrC E) E.N zrD 228 [1,0] [n]
    ⟨[(0,.cl (.vec 4095)),(1,eP a1),(12,eP a1.v.bK),(13,.int (a1.v.bK.len:Int)),(14,.int v14)],[(4095,.gone)],[]⟩
def Ie (E:N9) (n0:Nat) (n:Nat) (a1:(Pt list)) (v14:Int) (v23:(Sl aB)) (v24:Int) (v25:Int) (x4:aB):YO :=
  ptY ax (zrC E) E.N zrD 228 [1,0,0,1,1,0,0,1,1,0] [n0,n]
    ⟨[(0,.cl (.vec 4095)),(1,eP a1),(4,.cl (.ptr 4 0)),(12,eP a1.v.bK),(13,.int (a1.v.bK.len:Int)),(14,.int v14),(23,eP v23),(24,.int v24),(25,.int v25)],[(4095,.gone),(4,.fbox (bG.enc x4))],[]⟩
theorem e228 (a1:(Pt list)):zzt E (dC.enc ((a1):(Pt list))) =
  Ic E E.N a1 0:=by kernel_rfl
theorem zfu (n0:Nat) (a1:(Pt list)) (v14:Int):Ic E (n0+1) a1 v14 =
  cond (decide (v14 < (a1.v.bK.len:Int)))
  (aZ (decide (0<=v14/\v14 < (a1.v.bK.len:Int))) (aZ (decide ((0:Int)<=(aO (v14+1))/\((aO (v14+1)):Int)<=(a1.v.bK.len:Int)/\(a1.v.bK.len:Int)<=(a1.v.bK.len:Int))) (Ie E n0 E.N a1 v14 (⟨(((a1.v.bK.len:Int):Int) - (aO (v14+1))).toNat,(JF a1.v.bK.get (aO (v14+1)).toNat)⟩:(Sl aB)) ((((a1.v.bK.len:Int):Int) - (aO (v14+1))).toNat:Int) 0 (a1.v.bK.get v14.toNat))))
  (some []):=by kernel_rfl
theorem zfv (n0:Nat) (n1:Nat) (a1:(Pt list)) (v14:Int) (v23:(Sl aB)) (v24:Int) (v25:Int) (x4:aB):Ie E n0 (n1+1) a1 v14 v23 v24 v25 x4 =
  cond (decide (v25 < v24))
  (aZ (decide (0<=v25/\v25 < (v23.len:Int))) (cond (x4.Z == (v23.get v25.toNat).Z)
 (Ie E n0 n1 a1 v14 v23 v24 (aO (v25+1)) x4)
 ((E.c229 (x4.Z,x4.Low,(v23.get v25.toNat).Z,(v23.get v25.toNat).Low)).T λ r1 =>
 yT (dC.enc (r1:straight)) (some [])
 ((E.c229 (x4.Z,x4.Low,(v23.get v25.toNat).Z,(v23.get v25.toNat).High)).T λ r2 =>
 yT (dC.enc (r2:straight)) (some [])
 ((E.c229 (x4.Z,x4.High,(v23.get v25.toNat).Z,(v23.get v25.toNat).Low)).T λ r3 =>
 yT (dC.enc (r3:straight)) (some [])
 ((E.c229 (x4.Z,x4.High,(v23.get v25.toNat).Z,(v23.get v25.toNat).High)).T λ r4 =>
 yT (dC.enc (r4:straight)) (some [])
 (Ie E n0 n1 a1 v14 v23 v24 (aO (v25+1)) x4)))))))
  (Ic E n0 a1 (aO (v14+1))):=by kernel_rfl
end
theorem zKV (E:N9) (zaU:Ok ax 229 (ae.un E.c229)):qL ax 228 (ae.unI (zrE E)):=Nr (GU (ay.nil.addF zaU) (au (by kernel_rfl)))
structure zaV where
  N:Nat
abbrev zKW (E:zaV):bf:=dw Tabs.nil []
def zKX:bW:=aU ax 229 [] {}
def zkN (E:zaV):Int×Int×Int×Int->ae (straight):=ae.ty (aF ax E.N (zKW E) zKX 229)
section
variable (E:zaV){A:Type}(k:straight->Option A)
theorem e229 (a0:Int) (a1:Int) (a2:Int) (a3:Int):(zkN E (a0,a1,a2,a3)).T k =
  cond (decide (a0 > a2))
  (k (⟨(aO (a1 - a3)),(aO ((aO (a3 * a0)) - (aO (a1 * a2)))),(aO (a0 - a2))⟩:straight))
  (k (⟨(aO (a3 - a1)),(aO ((aO (a1 * a2)) - (aO (a3 * a0)))),(aO (a2 - a0))⟩:straight)):=bJ.trans (by kernel_rfl)
end
theorem zKY [aJ] (E:zaV):Ok ax 229 (ae.un (zkN E)):=bg (aP ay.nil (au (by kernel_rfl)))
structure zaW where
  N:Nat
  zms:straight×aB->ae (Bool)
abbrev zKZ (E:zaW):bf:=dw (Tabs.nil.addF 231 (ae.un E.zms)) []
def zK1:bW:=aU ax 230 [] {}
def zkO (E:zaW):aB×(Pt straight)->ae (Bool):=ae.ty (aF ax E.N (zKZ E) zK1 230)
section
variable (E:zaW){A:Type}(k:Bool->Option A)
theorem e230 (a0:aB) (a1:(Pt straight)):(zkO E (a0,a1)).T k =
  (E.zms (a1.v,a0)).T λ r1 =>
  k (!r1):=bJ.trans (by kernel_rfl)
end
theorem zK2 [aJ] (E:zaW) (zrF:Ok ax 231 (ae.un E.zms)):Ok ax 230 (ae.un (zkO E)):=bg (aP (ay.nil.addF zrF) (au (by kernel_rfl)))
structure zaX where
  N:Nat
  c157:Int×Int×Int->ae (Bool)
abbrev zK3 (E:zaX):bf:=dw (Tabs.nil.addF 157 (ae.un E.c157)) []
def zK4:bW:=aU ax 231 [] {}
def zkP (E:zaX):straight×aB->ae (Bool):=ae.ty (aF ax E.N (zK3 E) zK4 231)
section
variable (E:zaX){A:Type}(k:Bool->Option A)
theorem e231 (a0:straight) (a1:aB):(zkP E (a0,a1)).T k =
  (E.c157 ((aO (a0.start+(aO (a0.bT * a1.Z)))),(aO (a1.Low * a0.den)),(aO (a1.High * a0.den)))).T λ r1 =>
  k r1:=bJ.trans (by kernel_rfl)
end
theorem zK5 [aJ] (E:zaX) (xZ:Ok ax 157 (ae.un E.c157)):Ok ax 231 (ae.un (zkP E)):=bg (aP (ay.nil.addF xZ) (au (by kernel_rfl)))
structure zaY where
  N:Nat
  Jq:Int->ae (Bool)
abbrev zK6 (E:zaY):bf:=dw (Tabs.nil.addF 239 (ae.un E.Jq)) []
def zK7:bW:=aU ax 236 [] {}
def zkQ (E:zaY):Int×Int->ae (Bool):=ae.ty (aF ax E.N (zK6 E) zK7 236)
section
variable (E:zaY){A:Type}(k:Bool->Option A)
theorem zK8 (a0:Int) (a1:Int):(zkQ E (a0,a1)).T k =
  (E.Jq a0).T λ r1 =>
  cond r1
  ((E.Jq a1).T λ r2 =>
 cond (!r2)
 (k true)
 (k (decide (a0 < a1))))
  (k (decide (a0 < a1))):=bJ.trans (by kernel_rfl)
end
theorem zK9 [aJ] (E:zaY) (Ry:Ok ax 239 (ae.un E.Jq)):Ok ax 236 (ae.un (zkQ E)):=bg (aP (ay.nil.addF Ry) (au (by kernel_rfl)))
structure zaZ where
  N:Nat
abbrev zLa (E:zaZ):bf:=dw Tabs.nil []
def zLb:bW:=aU ax 237 [] {}
def zkR (E:zaZ):Int->ae (Bool):=ae.ty (aF ax E.N (zLa E) zLb 237)
section
variable (E:zaZ){A:Type}(k:Bool->Option A)
theorem e237 (a0:Int):(zkR E (a0)).T k =
  k (a0 != a0):=bJ.trans (by kernel_rfl)
end
theorem zLc [aJ] (E:zaZ):Ok ax 237 (ae.un (zkR E)):=bg (aP ay.nil (au (by kernel_rfl)))
structure oN where
  N:Nat
  zmm:aB×(Pt list)->ae (Bool)
abbrev RH (E:oN):bf:=dw (Tabs.nil.addF 207 (ae.un E.zmm)) []
def RI:bW:=aU ax 238 [] {}
def zQ (E:oN):(Sl aB)×(dN 207 Unit (Pt list))->ae (Int):=ae.ty (aF ax E.N (RH E) RI 238)
section
variable (E:oN){A:Type}(k:Int->Option A)
def tX (E:oN) (n:Nat) (a0:(Sl aB)) (a1:(dN 207 Unit (Pt list))) (v8:Int){A:Type}(k:Int->Option A):Option A :=
  gV ax (RH E) E.N RI 238 [1,0,1,0] [.n n] (gY k)
    ⟨[(0,eP a0),(1,.p (.fn 207 [] [.fp [.sl a1.v.v.bK.len 3 (λ i=>bG.enc (a1.v.v.bK.get i))] 0])),(7,.int (a0.len:Int)),(8,.int v8)],[],[]⟩
theorem zfw (a0:(Sl aB)) (a1:(dN 207 Unit (Pt list))):(zQ E (a0,a1)).T k =
  tX E E.N a0 a1 0 k:=bJ.trans (by kernel_rfl)
theorem Ig (n0:Nat) (a0:(Sl aB)) (a1:(dN 207 Unit (Pt list))) (v8:Int):tX E (n0+1) a0 a1 v8 k =
  cond (decide (v8 < (a0.len:Int)))
  (aZ (decide (0<=v8/\v8 < (a0.len:Int))) ((E.zmm ((a0.get v8.toNat),a1.v)).T λ r1 =>
 cond r1
 (k v8)
 (tX E n0 a0 a1 (aO (v8+1)) k)))
  (k (-1)):=by kernel_rfl
end
theorem zfx [aJ] (E:oN) (zrG:Ok ax 207 (ae.un E.zmm)):Ok ax 238 (ae.un (zQ E)):=bg (aP (ay.nil.addF zrG) (au (by kernel_rfl)))
structure oO where
  N:Nat
  zmr:aB×(Pt straight)->ae (Bool)
abbrev RJ (E:oO):bf:=dw (Tabs.nil.addF 230 (ae.un E.zmr)) []
def RN:bW:=aU ax 238 [] {}
def zS (E:oO):(Sl aB)×(dN 230 Unit (Pt straight))->ae (Int):=ae.ty (aF ax E.N (RJ E) RN 238)
section
variable (E:oO){A:Type}(k:Int->Option A)
def tY (E:oO) (n:Nat) (a0:(Sl aB)) (a1:(dN 230 Unit (Pt straight))) (v8:Int){A:Type}(k:Int->Option A):Option A :=
  gV ax (RJ E) E.N RN 238 [1,0,1,0] [.n n] (gY k)
    ⟨[(0,eP a0),(1,eP a1),(7,.int (a0.len:Int)),(8,.int v8)],[],[]⟩
theorem zfy (a0:(Sl aB)) (a1:(dN 230 Unit (Pt straight))):(zS E (a0,a1)).T k =
  tY E E.N a0 a1 0 k:=bJ.trans (by kernel_rfl)
theorem Ih (n0:Nat) (a0:(Sl aB)) (a1:(dN 230 Unit (Pt straight))) (v8:Int):tY E (n0+1) a0 a1 v8 k =
  cond (decide (v8 < (a0.len:Int)))
  (aZ (decide (0<=v8/\v8 < (a0.len:Int))) ((E.zmr ((a0.get v8.toNat),a1.v)).T λ r1 =>
 cond r1
 (k v8)
 (tY E n0 a0 a1 (aO (v8+1)) k)))
  (k (-1)):=by kernel_rfl
end
theorem zfz [aJ] (E:oO) (zrH:Ok ax 230 (ae.un E.zmr)):Ok ax 238 (ae.un (zS E)):=bg (aP (ay.nil.addF zrH) (au (by kernel_rfl)))
structure oP where
  N:Nat
  zmu:aB×(Pt straight)->ae (Bool)
abbrev RP (E:oP):bf:=dw (Tabs.nil.addF 257 (ae.un E.zmu)) []
def RQ:bW:=aU ax 238 [] {}
def zT (E:oP):(Sl aB)×(dN 257 Unit (Pt straight))->ae (Int):=ae.ty (aF ax E.N (RP E) RQ 238)
section
variable (E:oP){A:Type}(k:Int->Option A)
def tZ (E:oP) (n:Nat) (a0:(Sl aB)) (a1:(dN 257 Unit (Pt straight))) (v8:Int){A:Type}(k:Int->Option A):Option A :=
  gV ax (RP E) E.N RQ 238 [1,0,1,0] [.n n] (gY k)
    ⟨[(0,eP a0),(1,eP a1),(7,.int (a0.len:Int)),(8,.int v8)],[],[]⟩
theorem zfA (a0:(Sl aB)) (a1:(dN 257 Unit (Pt straight))):(zT E (a0,a1)).T k =
  tZ E E.N a0 a1 0 k:=bJ.trans (by kernel_rfl)
theorem Ii (n0:Nat) (a0:(Sl aB)) (a1:(dN 257 Unit (Pt straight))) (v8:Int):tZ E (n0+1) a0 a1 v8 k =
  cond (decide (v8 < (a0.len:Int)))
  (aZ (decide (0<=v8/\v8 < (a0.len:Int))) ((E.zmu ((a0.get v8.toNat),a1.v)).T λ r1 =>
 cond r1
 (k v8)
 (tZ E n0 a0 a1 (aO (v8+1)) k)))
  (k (-1)):=by kernel_rfl
end
theorem zfB [aJ] (E:oP) (zrI:Ok ax 257 (ae.un E.zmu)):Ok ax 238 (ae.un (zT E)):=bg (aP (ay.nil.addF zrI) (au (by kernel_rfl)))
structure za0 where
  N:Nat
abbrev zLd (E:za0):bf:=dw Tabs.nil []
def zLe:bW:=aU ax 239 [] {}
def zkS (E:za0):Int->ae (Bool):=ae.ty (aF ax E.N (zLd E) zLe 239)
section
variable (E:za0){A:Type}(k:Bool->Option A)
theorem zLf (a0:Int):(zkS E (a0)).T k =
  k (a0 != a0):=bJ.trans (by kernel_rfl)
end
theorem zLg [aJ] (E:za0):Ok ax 239 (ae.un (zkS E)):=bg (aP ay.nil (au (by kernel_rfl)))
structure VZ where
  N:Nat
  c117:(Sl aB)×((dN 118 Unit Unit) ⊕ (dN 162 Unit (Pt Int)))->ae (set×Int)
  zg9:set->ae ((Sl straight))
  c198:straight->ae (Line)
abbrev zzu (E:VZ):bf:=dw (((Tabs.nil.addF 117 (ae.un E.c117)).addF 249 (ae.un E.zg9)).addF 198 (ae.un E.c198)) []
def zzv:bW:=aU ax 240 [] { ks:=[(1,6,⟨[],[(6,28,114)],[],[],[],[],[]⟩)] }
def zfC (E:VZ):(Sl aB)->ae ((Sl Line)×Int):=ae.ty (aF ax E.N (zzu E) zzv 240)
section
variable (E:VZ){A:Type}(k:((Sl Line)×Int)->Option A)
def BO (E:VZ) (n:Nat) (v18:(Sl straight)) (v19:Int) (v20:Int) (w28:Sl Line){A:Type}(k:((Sl Line)×Int)->Option A):Option A :=
  gV ax (zzu E) E.N zzv 240 [1,1,1,1,0,1,0] [.n n] (gY k)
    ⟨[(6,.cl (.vec 28)),(18,eP v18),(19,.int v19),(20,.int v20)],[(28,eV 114 4 32 w28)],[]⟩
theorem e240 (a0:(Sl aB)):(zfC E (a0)).T k =
  (E.c117 (a0,(Sum.inl (⟨(),()⟩:(dN 118 Unit Unit))))).T λ r1 =>
  cond (r1.2 != 0)
  (k ((⟨0,λ _=>default⟩:(Sl Line)),r1.2))
  ((E.zg9 r1.1).T λ r2 =>
 BO E E.N r2 (r2.len:Int) 0 (⟨0,(λ _=>(⟨(⟨0,0⟩:aQ),(⟨0,0⟩:aQ)⟩:Line))⟩:(Sl Line)) k):=bJ.trans (by kernel_rfl)
theorem zfD (n0:Nat) (v18:(Sl straight)) (v19:Int) (v20:Int) (w28:Sl Line):BO E (n0+1) v18 v19 v20 w28 k =
  cond (decide (v20 < v19))
  (aZ (decide (0<=v20/\v20 < (v18.len:Int))) ((E.c198 (v18.get v20.toNat)).T λ r1 =>
 aZ (room (w28.len+1) 32) (BO E n0 v18 v19 (aO (v20+1)) (⟨(w28.len+1),(jf w28.len w28.get (fun _=>r1))⟩:(Sl Line)) k)))
  (k (w28,0)):=by kernel_rfl
end
theorem zLh [aJ] (E:VZ) (Vl:Ok ax 117 (ae.un E.c117)) (zrJ:Ok ax 249 (ae.un E.zg9)) (VK:Ok ax 198 (ae.un E.c198)):Ok ax 240 (ae.un (zfC E)):=bg (aP (((ay.nil.addF Vl).addF zrJ).addF VK) (au (by kernel_rfl)))
structure za1 where
  N:Nat
abbrev zLi (E:za1):bf:=dw Tabs.nil []
def zLj:bW:=aU ax 247 [] {}
def zkT (E:za1):aB×Int->ae (Int):=ae.ty (aF ax E.N (zLi E) zLj 247)
section
variable (E:za1){A:Type}(k:Int->Option A)
theorem e247 (a0:aB) (a1:Int):(zkT E (a0,a1)).T k =
  cond (a1 == 0)
  (k a0.Low)
  (k a0.High):=bJ.trans (by kernel_rfl)
end
theorem zLk [aJ] (E:za1):Ok ax 247 (ae.un (zkT E)):=bg (aP ay.nil (au (by kernel_rfl)))
structure V3 where
  N:Nat
  OV:Line×Int->ae (Int×Int)
abbrev zzw (E:V3):bf:=dw (Tabs.nil.addF 166 (ae.un E.OV)) []
def zzx:bW:=aU ax 248 [] {}
def zkU (E:V3):Line×(Sl aB)->ae (Bool):=ae.ty (aF ax E.N (zzw E) zzx 248)
section
variable (E:V3){A:Type}(k:Bool->Option A)
def Oa (E:V3) (n:Nat) (a0:Line) (a1:(Sl aB)) (v5:Int){A:Type}(k:Bool->Option A):Option A :=
  gV ax (zzw E) E.N zzx 248 [1,0,1,0] [.n n] (gY k)
    ⟨[(1,eP a1),(2,.cl (.ptr 2 0)),(5,.int v5)],[(2,eB 114 a0)],[]⟩
theorem e248 (a0:Line) (a1:(Sl aB)):(zkU E (a0,a1)).T k =
  Oa E E.N a0 a1 0 k:=bJ.trans (by kernel_rfl)
theorem zfE (n0:Nat) (a0:Line) (a1:(Sl aB)) (v5:Int):Oa E (n0+1) a0 a1 v5 k =
  cond (decide (v5 < (a1.len:Int)))
  (aZ (decide (0<=v5/\v5 < (a1.len:Int))) ((E.OV (a0,(a1.get v5.toNat).Z)).T λ r1 =>
 aZ (decide (0<=v5/\v5 < (a1.len:Int))) (cond (r1.1 == (aO ((a1.get v5.toNat).Low * r1.2)))
 (k true)
 (Oa E n0 a0 a1 (aO (v5+1)) k))))
  (k false):=by kernel_rfl
end
theorem zLl [aJ] (E:V3) (Vo:Ok ax 166 (ae.un E.OV)):Ok ax 248 (ae.un (zkU E)):=bg (aP (ay.nil.addF Vo) (au (by kernel_rfl)))
structure za2 where
  N:Nat
  TG:straight×straight×(Pt set)->ae (Int)
abbrev zLm (E:za2):bf:=dw (((Tabs.nil.addO 252 (.clone 204 3 24)).addO 253 (.sort 204 3 24)).addC 254 (ae.un E.TG)) []
def zLn:bW:=aU ax 249 [] {}
def zkV (E:za2):set->ae ((Sl straight)):=ae.ty (aF ax E.N (zLm E) zLn 249)
section
variable (E:za2){A:Type}(k:(Sl straight)->Option A)
theorem e249 (a0:set):(zkV E (a0)).T k =
  aZ (room a0.cO.len 24) (aZ (soP (ae.un E.TG) (bG.enc (⟨a0⟩:(Pt set))) true a0.cO) (k (⟨a0.cO.len,(soG (ae.un E.TG) (bG.enc (⟨a0⟩:(Pt set))) true a0.cO)⟩:(Sl straight)))):=bJ.trans (by kernel_rfl)
end
theorem zLo [aJ] (E:za2) (zLp:ed ax 252 (.clone 204 3 24)) (zLq:ed ax 253 (.sort 204 3 24)) (zLr : @Ok ⟨1⟩ ax 254 (ae.un E.TG)):Ok ax 249 (ae.un (zkV E)):=bg (aP (((ay.nil.addO zLp).addO zLq).addC zLr) (au (by kernel_rfl)))
structure za3 where
  N:Nat
  zha:set×straight->ae (Bool)
  lK:Int×Int->ae (aQ)
  Am:aQ×aQ->ae (Int)
abbrev zLs (E:za3):bf:=dw (((Tabs.nil.addF 255 (ae.un E.zha)).addF 172 (ae.un E.lK)).addF 170 (ae.un E.Am)) []
def zLt:bW:=aU ax 254 [] {}
def zkW (E:za3):straight×straight×(Pt set)->ae (Int):=ae.ty (aF ax E.N (zLs E) zLt 254)
section
variable (E:za3){A:Type}(k:Int->Option A)
theorem e254 (a0:straight) (a1:straight) (a2:(Pt set)):(zkW E (a0,a1,a2)).T k =
  (E.zha (a2.v,a0)).T λ r1 =>
  (E.zha (a2.v,a1)).T λ r2 =>
  (E.lK (a0.bT,a0.den)).T λ r3 =>
  (E.lK (a1.bT,a1.den)).T λ r4 =>
  (E.Am (r3,r4)).T λ r5 =>
  cond r1
  (cond r2
 (k r5)
 (cond r1
 (k (-1))
 (cond r2
 (k 1)
 (k (aO (0 - r5))))))
  (cond r1
 (k (-1))
 (cond r2
 (k 1)
 (k (aO (0 - r5))))):=bJ.trans (by kernel_rfl)
end
theorem zLu [aJ] (E:za3) (zkX:Ok ax 255 (ae.un E.zha)) (tH:Ok ax 172 (ae.un E.lK)) (H5:Ok ax 170 (ae.un E.Am)):Ok ax 254 (ae.un (zkW E)):=bg (aP (((ay.nil.addF zkX).addF tH).addF H5) (au (by kernel_rfl)))
structure za4 where
  N:Nat
  c206:(Sl aB)×((dN 207 Unit (Pt list)) ⊕ (dN 230 Unit (Pt straight)) ⊕ (dN 257 Unit (Pt straight)))->ae (Bool)
abbrev zLv (E:za4):bf:=dw (Tabs.nil.addF 206 (ae.un E.c206)) []
def zLw:bW:=aU ax 255 [] {}
def zkY (E:za4):set×straight->ae (Bool):=ae.ty (aF ax E.N (zLv E) zLw 255)
section
variable (E:za4){A:Type}(k:Bool->Option A)
theorem zLx (a0:set) (a1:straight):(zkY E (a0,a1)).T k =
  (E.c206 (a0.list.bK,(Sum.inr (Sum.inr (⟨(),(⟨a1⟩:(Pt straight))⟩:(dN 257 Unit (Pt straight))))))).T λ r1 =>
  k r1:=bJ.trans (by kernel_rfl)
end
theorem zLy [aJ] (E:za4) (Hy:Ok ax 206 (ae.un E.c206)):Ok ax 255 (ae.un (zkY E)):=bg (aP (ay.nil.addF Hy) (au (by kernel_rfl)))
structure za5 where
  N:Nat
abbrev zLz (E:za5):bf:=dw Tabs.nil []
def zLA:bW:=aU ax 257 [] {}
def zkZ (E:za5):aB×(Pt straight)->ae (Bool):=ae.ty (aF ax E.N (zLz E) zLA 257)
section
variable (E:za5){A:Type}(k:Bool->Option A)
theorem e257 (a0:aB) (a1:(Pt straight)):(zkZ E (a0,a1)).T k =
  k ((aO (a1.v.start+(aO (a1.v.bT * a0.Z)))) == (aO (a0.Low * a1.v.den))):=bJ.trans (by kernel_rfl)
end
theorem zLB [aJ] (E:za5):Ok ax 257 (ae.un (zkZ E)):=bg (aP ay.nil (au (by kernel_rfl)))
end Go.Proofs
namespace Go.Proofs
end Go.Proofs
namespace Go.Proofs
open Go Go.Pm
set_option maxRecDepth 100000
theorem l9 {x y X Y:Int}(h1 : -X<=x) (h2:x<=X) (h3:0<=y) (h4:y<=Y) : -(X * Y)<=x * y/\x * y<=X * Y:=by
 have hX:0<=X:=by omega
 have a:=Int.mul_le_mul_of_nonneg_right h2 h3;have b:=Int.mul_le_mul_of_nonneg_left h4 hX;have c:=Int.mul_le_mul_of_nonneg_right h1 h3;rw[Int.neg_mul] at c;omega
def red (num den:Int):aQ:=⟨num.tdiv (Int.gcd num den:Int),den.tdiv (Int.gcd num den:Int)⟩
theorem zfF (num:Int):(if -num > num then -num else num)=(num.natAbs:Int):=by split <;> omega
theorem Yd (num den:Int):Int.gcd (num.natAbs:Int) den=Int.gcd num den:=by
 unfold Int.gcd;rw[Int.natAbs_natCast]
theorem jw {num den:Int}(hd:0 < den):0 < (Int.gcd num den:Int):=by
 have:Int.gcd num den ≠ 0:=λ h=>by have:=(Int.gcd_eq_zero_iff.1 h).2;omega
 omega
theorem zzy (num den:Int):∃ a,num=(Int.gcd num den:Int) * a:=Int.gcd_dvd_left num den
theorem zzz (num den:Int):∃ a,den=(Int.gcd num den:Int) * a:=Int.gcd_dvd_right num den
theorem lM {num den:Int}(hd:0 < den):(Int.gcd num den:Int) * (red num den).Num=num:=by
 have hg:=jw (num:=num) hd;obtain⟨a,ha⟩:=zzy num den;show (Int.gcd num den:Int) * num.tdiv (Int.gcd num den:Int)=num;generalize (Int.gcd num den:Int)=g at ha hg ⊢;rw[ha,Int.mul_tdiv_cancel_left _ (by omega)]
theorem kF {num den:Int}(hd:0 < den):(Int.gcd num den:Int) * (red num den).bI=den:=by
 have hg:=jw (num:=num) hd;obtain⟨a,ha⟩:=zzz num den;show (Int.gcd num den:Int) * den.tdiv (Int.gcd num den:Int)=den;generalize (Int.gcd num den:Int)=g at ha hg ⊢;rw[ha,Int.mul_tdiv_cancel_left _ (by omega)]
theorem gW {num den:Int}(hd:0 < den):0 < (red num den).bI:=by
 have h1:=kF (num:=num) hd;have hg:=jw (num:=num) hd;rcases Int.lt_or_le 0 (red num den).bI with h | h
 ·exact h
 ·have := Int.mul_le_mul_of_nonneg_left h (Int.le_of_lt hg);rw[h1,Int.mul_zero] at this;omega
theorem BP {num den:Int}(hd:0 < den):(red num den).bI<=den:=by
 have h1:=kF (num:=num) hd;have hg:=jw (num:=num) hd;have:=Int.mul_le_mul_of_nonneg_right (show (1:Int)<=(Int.gcd num den:Int) by omega) (Int.le_of_lt (gW (num:=num) hd));omega
theorem wI {num den:Int}(hd:0 < den) : -(num.natAbs:Int)<=(red num den).Num/\(red num den).Num<=(num.natAbs:Int):=by
 have h1:=lM (num:=num) hd;have hg:=jw (num:=num) hd;have h2:num.natAbs=(Int.gcd num den) * (red num den).Num.natAbs:=by
  have:=congrArg Int.natAbs h1;rw[Int.natAbs_mul] at this;simpa using this.symm
 have h3:(red num den).Num.natAbs<=num.natAbs:=by
  rw[h2];exact Nat.le_mul_of_pos_left _ (by omega)
 omega
theorem Ye {num den:Int}(hd:0 < den):Int.gcd (red num den).Num (red num den).bI=1:=by
 have h1:=lM (num:=num) hd;have h2:=kF (num:=num) hd;have hg:=jw (num:=num) hd;have h3:Int.gcd ((Int.gcd num den:Int) * (red num den).Num) ((Int.gcd num den:Int) * (red num den).bI)=Int.gcd num den * Int.gcd (red num den).Num (red num den).bI:=by
  rw[Int.gcd_mul_left];simp
 rw[h1,h2] at h3;have h4:Int.gcd num den * 1=Int.gcd num den * Int.gcd (red num den).Num (red num den).bI:=by rw[Nat.mul_one];exact h3
 exact (Nat.eq_of_mul_eq_mul_left (by omega) h4).symm
theorem V4 {a b c d:Int}(hb:0 < b) (hd:0 < d):red a b=red c d↔a * d=c * b:=by
 have a1:=lM (num:=a) hb;have a2:=kF (num:=a) hb;have c1:=lM (num:=c) hd;have c2:=kF (num:=c) hd;constructor
 ·intro h;rw[h] at a1 a2;generalize hG:(Int.gcd a b:Int)=G at a1 a2;generalize hK:(Int.gcd c d:Int)=K at c1 c2;generalize (red c d).Num=x at a1 c1;generalize (red c d).bI=y at a2 c2;subst a1;subst a2;subst c1;subst c2
  ac_rfl
 ·intro h;have ga:=Ye (num:=a) hb;have gc:=Ye (num:=c) hd;have pa:=gW (num:=a) hb;have pc:=gW (num:=c) hd;have hG:=jw (num:=a) hb;have hK:=jw (num:=c) hd
  -- cross products of the lowest forms
  have hx:(red a b).Num * (red c d).bI=(red c d).Num * (red a b).bI:=by
   have e:((Int.gcd a b:Int) * (Int.gcd c d:Int)) * ((red a b).Num * (red c d).bI)=((Int.gcd a b:Int) * (Int.gcd c d:Int)) * ((red c d).Num * (red a b).bI):=by
    have l1:((Int.gcd a b:Int) * (Int.gcd c d:Int)) * ((red a b).Num * (red c d).bI)=((Int.gcd a b:Int) * (red a b).Num) * ((Int.gcd c d:Int) * (red c d).bI):=by
     generalize (Int.gcd a b:Int)=G;generalize (Int.gcd c d:Int)=K
     ac_rfl
    have l2:((Int.gcd a b:Int) * (Int.gcd c d:Int)) * ((red c d).Num * (red a b).bI)=((Int.gcd c d:Int) * (red c d).Num) * ((Int.gcd a b:Int) * (red a b).bI):=by
     generalize (Int.gcd a b:Int)=G;generalize (Int.gcd c d:Int)=K
     ac_rfl
    rw[l1,l2,a1,a2,c1,c2];exact h
   exact Int.eq_of_mul_eq_mul_left (by have:=Int.mul_pos hG hK;omega) e
  have hx':=congrArg Int.natAbs hx;rw[Int.natAbs_mul,Int.natAbs_mul] at hx';have ga':Nat.Coprime (red a b).bI.natAbs (red a b).Num.natAbs:=(Nat.gcd_comm _ _).trans ga;have gc':Nat.Coprime (red c d).bI.natAbs (red c d).Num.natAbs:=(Nat.gcd_comm _ _).trans gc;have d1:(red a b).bI ∣ (red c d).bI:=Int.natAbs_dvd_natAbs.1 (ga'.dvd_of_dvd_mul_left ⟨(red c d).Num.natAbs,by rw[hx',Nat.mul_comm]⟩);have d2:(red c d).bI ∣ (red a b).bI:=Int.natAbs_dvd_natAbs.1 (gc'.dvd_of_dvd_mul_left ⟨(red a b).Num.natAbs,by rw[<- hx',Nat.mul_comm]⟩);have hden:(red a b).bI=(red c d).bI:=Int.le_antisymm (Int.le_of_dvd pc d1) (Int.le_of_dvd pa d2);rw[<- hden] at hx;have hnum:=Int.eq_of_mul_eq_mul_right (by omega) hx;cases h1:red a b;cases h2:red c d;rw[h1,h2] at hden hnum;simp only at hden hnum;rw[hden,hnum]
def zU (z p y q:Int):straight:=if z > y then ⟨p - q,q * z - p * y,z - y⟩ else ⟨q - p,p * y - q * z,y - z⟩
def dQ (s:straight):Line:=⟨red s.bT s.den,red s.start s.den⟩
theorem RU {a b:Int}(ha:0<=a) (hb:0 < b):0<=a.tmod b/\a.tmod b < b/\Int.gcd b (a.tmod b)=Int.gcd a b:=by
 refine⟨Int.tmod_nonneg b ha,Int.tmod_lt_of_pos a hb,?_⟩;obtain⟨m,rfl⟩:=Int.eq_ofNat_of_zero_le ha;obtain⟨n,rfl⟩:=Int.eq_ofNat_of_zero_le (Int.le_of_lt hb);show Nat.gcd n (m % n)=Nat.gcd m n;rw[Nat.gcd_comm m n,Nat.gcd_rec n m,Nat.gcd_comm]
theorem RV {A : Type} {X : Nat → Int → Int → Option A} {k : Int → Option A} (hX : ∀ n a b, 0 ≤ a → 0 ≤ b → X (n + 1) a b = if b = 0 then k a else X n b (a.tmod b)) :
  ∀ (m n:Nat) (a b:Int),0<=a->0<=b->b < 2 ^ m->2 * m < n->X n a b=k (Int.gcd a b:Int):=by
 have zero:∀ a:Int,0<=a->(Int.gcd a 0:Int)=a:=λ a ha=>by rw[Int.gcd_zero_right];omega
 intro m
 induction m with
 | zero =>
  intro n a b ha hb hm hn;obtain⟨n,rfl⟩:∃ n',n=n'+1:=⟨n - 1,by omega⟩;have:b=0:=by simp at hm;omega
  subst this;rw[hX n a 0 ha hb,if_pos rfl,zero a ha]
 | succ m ih =>
  intro n a b ha hb hm hn;obtain⟨n,rfl⟩:∃ n',n=n'+1+1:=⟨n - 2,by omega⟩;rw[hX _ a b ha hb];by_cases h0:b=0
  ·subst h0;rw[if_pos rfl,zero a ha]
  rw[if_neg h0];obtain⟨r0,r1,g1⟩:=RU ha (show 0 < b by omega);rw[hX _ b _ hb r0];by_cases h1:a.tmod b=0
  ·rw[if_pos h1,<- g1,h1,zero b hb]
  rw[if_neg h1];obtain⟨q0,q1,g2⟩:=RU hb (show 0 < a.tmod b by omega);rw[ih n _ _ r0 q0 ?_ (by omega),g2,g1];have e:=Int.tmod_add_mul_tdiv b (a.tmod b);have hq:1<=b.tdiv (a.tmod b):=by
   rcases Int.lt_or_le 0 (b.tdiv (a.tmod b)) with h | h
   ·omega
   ·have := Int.mul_le_mul_of_nonneg_left h r0;rw[Int.mul_zero] at this;omega
  have:=Int.mul_le_mul_of_nonneg_left hq r0;rw[Int.mul_one] at this;have h2:(2:Int) ^ (m+1)=2 ^ m * 2:=Int.pow_succ 2 m;omega
abbrev V5 (C:Int×Int->ae Int):Prop:=∀ a b,0<=a->0<=b->b<=1152921504606846976->C (a,b)=.ok (Int.gcd a b:Int)
theorem zLC {E:VX}(N:Big E.N):V5 (zkD E):=λ a b ha hb hk=>ae.ext λ k=>by
 rw[e209,bi];refine RV (X:=λ n a b=>N7 E n a b k) (λ n a b h1 h2=>?_) 61 _ a b ha hb (by omega) (by have:=N;omega);rw[zrx];by_cases h:b=0
 ·subst h;rfl
 ·rw[decide_eq_true (show b > 0 by omega),cond_true,bC h,if_neg h]
theorem zLD {E:Vt}(N:Big E.N):V5 (zjE E):=λ a b ha hb hk=>ae.ext λ k=>by
 rw[e125,bi];refine RV (X:=λ n a b=>NP E n a b k) (λ n a b h1 h2=>?_) 61 _ a b ha hb (by omega) (by have:=N;omega);rw[zqT];by_cases h:b=0
 ·subst h;rfl
 ·rw[show (b != 0)=true by simpa using h,cond_true,bC h,if_neg h]
abbrev Ij (C:Int×Int->ae aQ):Prop:=∀ a b,-1000000000000000000<=a->a<=1000000000000000000->0 < b->b<=1000000000000000000->C (a,b)=.ok (red a b)
theorem zny {num den : Int} (h1 : -1000000000000000000 ≤ num) (h2 : num ≤ 1000000000000000000) (hd : 0 < den) (hd2 : den ≤ 1000000000000000000) {A : Type} (k : aQ → Option A) :
  aZ (decide ((Int.gcd num den:Int) ≠ 0)) (aZ (decide ((Int.gcd num den:Int) ≠ 0)) (k ⟨aO (num.tdiv (Int.gcd num den:Int)),aO (den.tdiv (Int.gcd num den:Int))⟩))=k (red num den):=by
 have hg:=jw (num:=num) hd;have r1:=wI (num:=num) hd;have r2:=BP (num:=num) hd;have r3:=gW (num:=num) hd;have w1:aO (num.tdiv (Int.gcd num den:Int))=(red num den).Num:=aY (by show _<=(red num den).Num;omega) (by show (red num den).Num<=_;omega);have w2:aO (den.tdiv (Int.gcd num den:Int))=(red num den).bI:=aY (by show _<=(red num den).bI;omega) (by show (red num den).bI<=_;omega);rw[w1,w2,bC (by omega),bC (by omega)]
theorem zLE {E:zaB}(zrf:V5 E.zmn):Ij (zkd E):=λ a b h1 h2 hd hd2=>ae.ext λ k=>by
 rw[zJy,show aO (0 - a) = -a by rw[aY (by omega) (by omega)];omega,zfF,zrf _ _ (by omega) (by omega) (by omega),Yd,bi,bi];exact zny h1 h2 hd hd2 k
theorem s71 {E:E71}(Vh:V5 E.OT):Ij (F71 E):=λ a b h1 h2 hd hd2=>ae.ext λ k=>by
 rw[e71,show aO (0 - a) = -a by rw[aY (by omega) (by omega)];omega,zfF,Vh _ _ (by omega) (by omega) (by omega),Yd,bi,bi];exact zny h1 h2 hd hd2 k
end Go.Proofs
