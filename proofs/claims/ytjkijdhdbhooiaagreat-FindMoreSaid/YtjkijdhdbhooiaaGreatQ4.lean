/- Part 4 of what the proof rests on: a machine that runs functions of the program on pure values, proved sound; the functions that the law reaches, what they compute, and plain laws of that. -/
import Derived.Test.YtjkijdhdbhooiaaGreatQ3
set_option linter.all false
noncomputable section
namespace Go.Proofs
open Go Go.Pm
set_option maxRecDepth 100000
theorem MX:Tryz.prog.cellsOf 3=1:=by kernel_rfl
theorem zEm:Tryz.prog.cellsOf 22=1:=by kernel_rfl
theorem zEn:Tryz.prog.cellsOf 24=1:=by kernel_rfl
theorem zEo:Tryz.prog.cellsOf 26=2:=by kernel_rfl
theorem zEp:Tryz.prog.cellsOf 38=1:=by kernel_rfl
theorem zEq:Tryz.prog.cellsOf 39=1:=by kernel_rfl
theorem zxd:Tryz.prog.cellsOf 92=6:=by kernel_rfl
theorem Xj:Tryz.prog.cellsOf 105=2:=by kernel_rfl
theorem zxe:Tryz.prog.cellsOf 121=1:=by kernel_rfl
theorem zxf:Tryz.prog.cellsOf 122=1:=by kernel_rfl
theorem zl7:Tryz.prog.cellsOf 124=15:=by kernel_rfl
theorem zl8:Tryz.prog.cellsOf 264=3:=by kernel_rfl
section
variable {H:Type}{en:TypeId×Value->H}{w:World}{sp:Nat->Bool}{held:Bool}
theorem zoz:Rd H en Tryz.prog w sp held 121 Int:=Ur Tryz.underlying121
theorem zxg:Rd H en Tryz.prog w sp held 38 Int:=Ur Tryz.underlying38
theorem rZ:Rd H en Tryz.prog w sp held 3 Int:=Ur Tryz.underlying3
instance:ql bZ:=⟨λ x=>ql.wf x.Low/\ql.wf x.High⟩
theorem Uu:Rd H en Tryz.prog w sp held 105 bZ:=by
 intro fuel cs x h;obtain⟨hl,hf⟩:=ny Tryz.underlying105 h;rw[Xj] at hl;obtain⟨n0,y0,g0⟩:=hf 0 _ rfl;have g0:DataW.trod en Tryz.prog w 0 sp held n0 3 ((cs.drop 0).take (Tryz.prog.cellsOf 3))=some y0:=g0;rw[MX] at g0;obtain⟨a0,r0,w0⟩:=rZ _ _ _ g0;obtain⟨n1,y1,g1⟩:=hf 1 _ rfl;have g1:DataW.trod en Tryz.prog w 0 sp held n1 3 ((cs.drop 1).take (Tryz.prog.cellsOf 3))=some y1:=g1;rw[MX] at g1;obtain⟨a1,r1,w1⟩:=rZ _ _ _ g1;rw[List.take_of_length_le (l:=cs.drop 1) (by rw[List.length_drop];omega)] at r1;have R:=(r0.append r1);rw[<- (show cs.drop 0=(cs.drop 0).take 1 ++ cs.drop 1 from dG cs 0 1)] at R;exact⟨⟨a0,a1⟩,R,⟨w0,w1⟩⟩
instance:ql aQ:=⟨λ x=>ql.wf x.Time/\ql.wf x.dI⟩
theorem zoA:Rd H en Tryz.prog w sp held 264 aQ:=by
 intro fuel cs x h;obtain⟨hl,hf⟩:=ny Tryz.underlying264 h;rw[zl8] at hl;obtain⟨n0,y0,g0⟩:=hf 0 _ rfl;have g0:DataW.trod en Tryz.prog w 0 sp held n0 3 ((cs.drop 0).take (Tryz.prog.cellsOf 3))=some y0:=g0;rw[MX] at g0;obtain⟨a0,r0,w0⟩:=rZ _ _ _ g0;obtain⟨n1,y1,g1⟩:=hf 1 _ rfl;have g1:DataW.trod en Tryz.prog w 0 sp held n1 105 ((cs.drop 1).take (Tryz.prog.cellsOf 105))=some y1:=g1;rw[Xj] at g1;obtain⟨a1,r1,w1⟩:=Uu _ _ _ g1;rw[List.take_of_length_le (l:=cs.drop 1) (by rw[List.length_drop];omega)] at r1;have R:=(r0.append r1);rw[<- (show cs.drop 0=(cs.drop 0).take 1 ++ cs.drop 1 from dG cs 0 1)] at R;exact⟨⟨a0,a1⟩,R,⟨w0,w1⟩⟩
theorem zoB:Rd H en Tryz.prog w sp held 122 (Sl aQ):=yU Tryz.underlying122 zl8 rfl (by decide) zoA
theorem zxh:Rd H en Tryz.prog w sp held 39 (Sl Int):=yU Tryz.underlying39 MX rfl (by decide) rZ
instance:ql af:=⟨λ x=>ql.wf x.Kind/\ql.wf x.View/\ql.wf x.Z/\ql.wf x.First/\ql.wf x.aZ/\ql.wf x.bM/\ql.wf x.dD/\ql.wf x.bu/\ql.wf x.Clock/\ql.wf x.dH/\ql.wf x.Least/\ql.wf x.aQ/\ql.wf x.Dead⟩
theorem zoC:Rd H en Tryz.prog w sp held 124 af:=by
 intro fuel cs x h;obtain⟨hl,hf⟩:=ny Tryz.underlying124 h;rw[zl7] at hl;obtain⟨n0,y0,g0⟩:=hf 0 _ rfl;have g0:DataW.trod en Tryz.prog w 0 sp held n0 121 ((cs.drop 0).take (Tryz.prog.cellsOf 121))=some y0:=g0;rw[zxe] at g0;obtain⟨a0,r0,w0⟩:=zoz _ _ _ g0;obtain⟨n1,y1,g1⟩:=hf 1 _ rfl;have g1:DataW.trod en Tryz.prog w 0 sp held n1 38 ((cs.drop 1).take (Tryz.prog.cellsOf 38))=some y1:=g1;rw[zEp] at g1;obtain⟨a1,r1,w1⟩:=zxg _ _ _ g1;obtain⟨n2,y2,g2⟩:=hf 2 _ rfl;have g2:DataW.trod en Tryz.prog w 0 sp held n2 3 ((cs.drop 2).take (Tryz.prog.cellsOf 3))=some y2:=g2;rw[MX] at g2;obtain⟨a2,r2,w2⟩:=rZ _ _ _ g2;obtain⟨n3,y3,g3⟩:=hf 3 _ rfl;have g3:DataW.trod en Tryz.prog w 0 sp held n3 3 ((cs.drop 3).take (Tryz.prog.cellsOf 3))=some y3:=g3;rw[MX] at g3;obtain⟨a3,r3,w3⟩:=rZ _ _ _ g3;obtain⟨n4,y4,g4⟩:=hf 4 _ rfl;have g4:DataW.trod en Tryz.prog w 0 sp held n4 3 ((cs.drop 4).take (Tryz.prog.cellsOf 3))=some y4:=g4;rw[MX] at g4;obtain⟨a4,r4,w4⟩:=rZ _ _ _ g4;obtain⟨n5,y5,g5⟩:=hf 5 _ rfl;have g5:DataW.trod en Tryz.prog w 0 sp held n5 3 ((cs.drop 5).take (Tryz.prog.cellsOf 3))=some y5:=g5;rw[MX] at g5;obtain⟨a5,r5,w5⟩:=rZ _ _ _ g5;obtain⟨n6,y6,g6⟩:=hf 6 _ rfl;have g6:DataW.trod en Tryz.prog w 0 sp held n6 3 ((cs.drop 6).take (Tryz.prog.cellsOf 3))=some y6:=g6;rw[MX] at g6;obtain⟨a6,r6,w6⟩:=rZ _ _ _ g6;obtain⟨n7,y7,g7⟩:=hf 7 _ rfl;have g7:DataW.trod en Tryz.prog w 0 sp held n7 105 ((cs.drop 7).take (Tryz.prog.cellsOf 105))=some y7:=g7;rw[Xj] at g7;obtain⟨a7,r7,w7⟩:=Uu _ _ _ g7;obtain⟨n8,y8,g8⟩:=hf 8 _ rfl;have g8:DataW.trod en Tryz.prog w 0 sp held n8 105 ((cs.drop 9).take (Tryz.prog.cellsOf 105))=some y8:=g8;rw[Xj] at g8;obtain⟨a8,r8,w8⟩:=Uu _ _ _ g8;obtain⟨n9,y9,g9⟩:=hf 9 _ rfl;have g9:DataW.trod en Tryz.prog w 0 sp held n9 3 ((cs.drop 11).take (Tryz.prog.cellsOf 3))=some y9:=g9;rw[MX] at g9;obtain⟨a9,r9,w9⟩:=rZ _ _ _ g9;obtain⟨n10,y10,g10⟩:=hf 10 _ rfl;have g10:DataW.trod en Tryz.prog w 0 sp held n10 3 ((cs.drop 12).take (Tryz.prog.cellsOf 3))=some y10:=g10;rw[MX] at g10;obtain⟨a10,r10,w10⟩:=rZ _ _ _ g10;obtain⟨n11,y11,g11⟩:=hf 11 _ rfl;have g11:DataW.trod en Tryz.prog w 0 sp held n11 122 ((cs.drop 13).take (Tryz.prog.cellsOf 122))=some y11:=g11;rw[zxf] at g11;obtain⟨a11,r11,w11⟩:=zoB _ _ _ g11;obtain⟨n12,y12,g12⟩:=hf 12 _ rfl;have g12:DataW.trod en Tryz.prog w 0 sp held n12 39 ((cs.drop 14).take (Tryz.prog.cellsOf 39))=some y12:=g12;rw[zEq] at g12;obtain⟨a12,r12,w12⟩:=zxh _ _ _ g12;rw[List.take_of_length_le (l:=cs.drop 14) (by rw[List.length_drop];omega)] at r12;have R:=(r0.append (r1.append (r2.append (r3.append (r4.append (r5.append (r6.append (r7.append (r8.append (r9.append (r10.append (r11.append r12))))))))))));rw[<- (show cs.drop 13=(cs.drop 13).take 1 ++ cs.drop 14 from dG cs 13 1)] at R;rw[<- (show cs.drop 12=(cs.drop 12).take 1 ++ cs.drop 13 from dG cs 12 1)] at R;rw[<- (show cs.drop 11=(cs.drop 11).take 1 ++ cs.drop 12 from dG cs 11 1)] at R;rw[<- (show cs.drop 9=(cs.drop 9).take 2 ++ cs.drop 11 from dG cs 9 2)] at R;rw[<- (show cs.drop 7=(cs.drop 7).take 2 ++ cs.drop 9 from dG cs 7 2)] at R;rw[<- (show cs.drop 6=(cs.drop 6).take 1 ++ cs.drop 7 from dG cs 6 1)] at R;rw[<- (show cs.drop 5=(cs.drop 5).take 1 ++ cs.drop 6 from dG cs 5 1)] at R;rw[<- (show cs.drop 4=(cs.drop 4).take 1 ++ cs.drop 5 from dG cs 4 1)] at R;rw[<- (show cs.drop 3=(cs.drop 3).take 1 ++ cs.drop 4 from dG cs 3 1)] at R;rw[<- (show cs.drop 2=(cs.drop 2).take 1 ++ cs.drop 3 from dG cs 2 1)] at R;rw[<- (show cs.drop 1=(cs.drop 1).take 1 ++ cs.drop 2 from dG cs 1 1)] at R;rw[<- (show cs.drop 0=(cs.drop 0).take 1 ++ cs.drop 1 from dG cs 0 1)] at R;exact⟨⟨a0,a1,a2,a3,a4,a5,a6,a7,a8,a9,a10,a11,a12⟩,R,⟨w0,w1,w2,w3,w4,w5,w6,w7,w8,w9,w10,w11,w12⟩⟩
theorem zxi:Rd H en Tryz.prog w sp held 22 (Sl af):=yU Tryz.underlying22 zl7 rfl (by decide) zoC
instance:ql au:=⟨λ x=>ql.wf x.aj⟩
theorem zxj:Rd H en Tryz.prog w sp held 24 au:=by
 intro fuel cs x h;obtain⟨hl,hf⟩:=ny Tryz.underlying24 h;rw[zEn] at hl;obtain⟨n0,y0,g0⟩:=hf 0 _ rfl;have g0:DataW.trod en Tryz.prog w 0 sp held n0 22 ((cs.drop 0).take (Tryz.prog.cellsOf 22))=some y0:=g0;rw[zEm] at g0;obtain⟨a0,r0,w0⟩:=zxi _ _ _ g0;rw[List.take_of_length_le (l:=cs.drop 0) (by rw[List.length_drop];omega)] at r0;have R:=r0;exact⟨⟨a0⟩,R,w0⟩
instance:ql bP:=⟨λ x=>ql.wf x.vC/\ql.wf x.xU⟩
theorem zxk:Rd H en Tryz.prog w sp held 26 bP:=by
 intro fuel cs x h;obtain⟨hl,hf⟩:=ny Tryz.underlying26 h;rw[zEo] at hl;obtain⟨n0,y0,g0⟩:=hf 0 _ rfl;have g0:DataW.trod en Tryz.prog w 0 sp held n0 3 ((cs.drop 0).take (Tryz.prog.cellsOf 3))=some y0:=g0;rw[MX] at g0;obtain⟨a0,r0,w0⟩:=rZ _ _ _ g0;obtain⟨n1,y1,g1⟩:=hf 1 _ rfl;have g1:DataW.trod en Tryz.prog w 0 sp held n1 3 ((cs.drop 1).take (Tryz.prog.cellsOf 3))=some y1:=g1;rw[MX] at g1;obtain⟨a1,r1,w1⟩:=rZ _ _ _ g1;rw[List.take_of_length_le (l:=cs.drop 1) (by rw[List.length_drop];omega)] at r1;have R:=(r0.append r1);rw[<- (show cs.drop 0=(cs.drop 0).take 1 ++ cs.drop 1 from dG cs 0 1)] at R;exact⟨⟨a0,a1⟩,R,⟨w0,w1⟩⟩
instance:ql bz:=⟨λ x=>ql.wf x.af/\ql.wf x.Channel/\ql.wf x.iO/\ql.wf x.aQ/\ql.wf x.xR/\ql.wf x.Time⟩
theorem zl9:Rd H en Tryz.prog w sp held 92 bz:=by
 intro fuel cs x h;obtain⟨hl,hf⟩:=ny Tryz.underlying92 h;rw[zxd] at hl;obtain⟨n0,y0,g0⟩:=hf 0 _ rfl;have g0:DataW.trod en Tryz.prog w 0 sp held n0 3 ((cs.drop 0).take (Tryz.prog.cellsOf 3))=some y0:=g0;rw[MX] at g0;obtain⟨a0,r0,w0⟩:=rZ _ _ _ g0;obtain⟨n1,y1,g1⟩:=hf 1 _ rfl;have g1:DataW.trod en Tryz.prog w 0 sp held n1 3 ((cs.drop 1).take (Tryz.prog.cellsOf 3))=some y1:=g1;rw[MX] at g1;obtain⟨a1,r1,w1⟩:=rZ _ _ _ g1;obtain⟨n2,y2,g2⟩:=hf 2 _ rfl;have g2:DataW.trod en Tryz.prog w 0 sp held n2 3 ((cs.drop 2).take (Tryz.prog.cellsOf 3))=some y2:=g2;rw[MX] at g2;obtain⟨a2,r2,w2⟩:=rZ _ _ _ g2;obtain⟨n3,y3,g3⟩:=hf 3 _ rfl;have g3:DataW.trod en Tryz.prog w 0 sp held n3 3 ((cs.drop 3).take (Tryz.prog.cellsOf 3))=some y3:=g3;rw[MX] at g3;obtain⟨a3,r3,w3⟩:=rZ _ _ _ g3;obtain⟨n4,y4,g4⟩:=hf 4 _ rfl;have g4:DataW.trod en Tryz.prog w 0 sp held n4 3 ((cs.drop 4).take (Tryz.prog.cellsOf 3))=some y4:=g4;rw[MX] at g4;obtain⟨a4,r4,w4⟩:=rZ _ _ _ g4;obtain⟨n5,y5,g5⟩:=hf 5 _ rfl;have g5:DataW.trod en Tryz.prog w 0 sp held n5 3 ((cs.drop 5).take (Tryz.prog.cellsOf 3))=some y5:=g5;rw[MX] at g5;obtain⟨a5,r5,w5⟩:=rZ _ _ _ g5;rw[List.take_of_length_le (l:=cs.drop 5) (by rw[List.length_drop];omega)] at r5;have R:=(r0.append (r1.append (r2.append (r3.append (r4.append r5)))));rw[<- (show cs.drop 4=(cs.drop 4).take 1 ++ cs.drop 5 from dG cs 4 1)] at R;rw[<- (show cs.drop 3=(cs.drop 3).take 1 ++ cs.drop 4 from dG cs 3 1)] at R;rw[<- (show cs.drop 2=(cs.drop 2).take 1 ++ cs.drop 3 from dG cs 2 1)] at R;rw[<- (show cs.drop 1=(cs.drop 1).take 1 ++ cs.drop 2 from dG cs 1 1)] at R;rw[<- (show cs.drop 0=(cs.drop 0).take 1 ++ cs.drop 1 from dG cs 0 1)] at R;exact⟨⟨a0,a1,a2,a3,a4,a5⟩,R,⟨w0,w1,w2,w3,w4,w5⟩⟩
theorem zxl:Rd H en Tryz.prog w sp held 27 (Sl bz):=yU Tryz.underlying27 zxd rfl (by decide) zl9
end
end Go.Proofs

namespace Go.Proofs
open Go Go.Pm
set_option maxRecDepth 100000
structure E23 where
  N:Nat
abbrev G23 (E:E23):aX:=dh Tabs.nil []
def A23:bW:=aU ax 23 [] {}
def F23 (E:E23):au×(Sl bz)×Int->ae (Bool):=ae.ty (aF ax E.N (G23 E) A23 23)
section
variable (E:E23){A:Type}(k:Bool->Option A)
def Gs (E:E23) (n:Nat) (a0:au) (v7:Int){A:Type}(k:Bool->Option A):Option A :=
  iG ax (G23 E) E.N A23 23 [1,1,0,1,0] [.n n] (iI k)
    ⟨[(3,.cl (.ptr 3 0)),(7,.int v7)],[(3,eB 24 a0)],[]⟩
theorem e23 (a0:au) (a1:(Sl bz)) (a2:Int):(F23 E (a0,a1,a2)).T k =
  cond (decide ((a0.aj.len:Int) > 20))
  (k false)
  (cond (decide ((a1.len:Int) > a2))
 (cond (decide ((a1.len:Int)<=24))
 (k false)
 (cond (decide ((a1.len:Int) > 40))
 (k false)
 (Gs E E.N a0 0 k)))
 (cond (decide ((a1.len:Int) > 40))
 (k false)
 (Gs E E.N a0 0 k))):=bH.trans (by kernel_rfl)
theorem zma (n0:Nat) (a0:au) (v7:Int):Gs E (n0+1) a0 v7 k =
  cond (decide (v7 < (a0.aj.len:Int)))
  (bf (decide (0<=v7/\v7 < (a0.aj.len:Int))) (cond (decide (((a0.aj.get v7.toNat).aQ.len:Int) > 60))
 (k false)
 (bf (decide (0<=v7/\v7 < (a0.aj.len:Int))) (cond (decide (((a0.aj.get v7.toNat).Dead.len:Int) > 110))
 (k false)
 (Gs E n0 a0 (aO (v7+1)) k)))))
  (k true):=by kernel_rfl
end
theorem o23 [aJ] (E:E23):Ok ax 23 (ae.un (F23 E)):=aY (aP ay.nil (ak (by kernel_rfl)))
end Go.Proofs

namespace Go.Proofs
open Go Go.Pm
set_option maxRecDepth 100000
structure E26 where
  N:Nat
  c61:au->ae (Bool)
  c62:bP->ae (Bool)
  c85:au×(Sl bz)->ae (Bool)
abbrev G26 (E:E26):aX:=dh (((Tabs.nil.addF 61 (ae.un E.c61)).addF 62 (ae.un E.c62)).addF 85 (ae.un E.c85)) []
def A26:bW:=aU ax 26 [] {}
def F26 (E:E26):au×bP×(Sl bz)->ae (Int):=ae.ty (aF ax E.N (G26 E) A26 26)
section
variable (E:E26){A:Type}(k:Int->Option A)
theorem e26 (a0:au) (a1:bP) (a2:(Sl bz)):(F26 E (a0,a1,a2)).T k =
  cond (decide ((a2.len:Int) > 24))
  (k 3)
  ((E.c61 a0).T λ r1 =>
 cond (!r1)
 (k 2)
 ((E.c62 a1).T λ r2 =>
 cond (!r2)
 (k 2)
 ((E.c85 (a0,a2)).T λ r3 =>
 cond (!r3)
 (k 2)
 (k 0)))):=bH.trans (by kernel_rfl)
end
theorem o26 [aJ] (E:E26) (h61:Ok ax 61 (ae.un E.c61)) (h62:Ok ax 62 (ae.un E.c62)) (h85:Ok ax 85 (ae.un E.c85)):Ok ax 26 (ae.un (F26 E)):=aY (aP (((ay.nil.addF h61).addF h62).addF h85) (ak (by kernel_rfl)))
end Go.Proofs




namespace Go.Proofs
open Go Go.Pm
set_option maxRecDepth 100000
structure E60 where
  N:Nat
  zlg:au->ae (Int)
  zgm:Int×Int×Int->ae (Bool)
abbrev G60 (E:E60):aX:=dh ((Tabs.nil.addF 122 (ae.un E.zlg)).addF 123 (ae.un E.zgm)) []
def A60:bW:=aU ax 60 [] {}
def F60 (E:E60):au×bP->ae (Int):=ae.ty (aF ax E.N (G60 E) A60 60)
section
variable (E:E60){A:Type}(k:Int->Option A)
theorem e60 (a0:au) (a1:bP):(F60 E (a0,a1)).T k =
  (E.zlg a0).T λ r1 =>
  cond (r1 != 0)
  (k 2)
  ((E.zgm (a1.vC,1,16)).T λ r2 =>
 cond (!r2)
 (k 2)
 ((E.zgm (a1.xU,0,16)).T λ r3 =>
 cond (!r3)
 (k 2)
 (k 0))):=bH.trans (by kernel_rfl)
end
theorem o60 [aJ] (E:E60) (h122:Ok ax 122 (ae.un E.zlg)) (zoE:Ok ax 123 (ae.un E.zgm)):Ok ax 60 (ae.un (F60 E)):=aY (aP ((ay.nil.addF h122).addF zoE) (ak (by kernel_rfl)))
structure E61 where
  N:Nat
  qm:Int×Int×Int->ae (Bool)
  c124:af->ae (Bool)
abbrev G61 (E:E61):aX:=dh ((Tabs.nil.addF 73 (ae.un E.qm)).addF 124 (ae.un E.c124)) []
def A61:bW:=aU ax 61 [] {}
def F61 (E:E61):au->ae (Bool):=ae.ty (aF ax E.N (G61 E) A61 61)
section
variable (E:E61){A:Type}(k:Bool->Option A)
def Gt (E:E61) (n:Nat) (a0:au) (v3:Int){A:Type}(k:Bool->Option A):Option A :=
  iG ax (G61 E) E.N A61 61 [1,1,0,1,0] [.n n] (iI k)
    ⟨[(1,.cl (.ptr 1 0)),(3,.int v3)],[(1,eB 24 a0)],[]⟩
theorem e61 (a0:au):(F61 E (a0)).T k =
  (E.qm ((a0.aj.len:Int),1,16)).T λ r1 =>
  cond (!r1)
  (k false)
  (Gt E E.N a0 0 k):=bH.trans (by kernel_rfl)
theorem zmb (n0:Nat) (a0:au) (v3:Int):Gt E (n0+1) a0 v3 k =
  cond (decide (v3 < (a0.aj.len:Int)))
  (bf (decide (0<=v3/\v3 < (a0.aj.len:Int))) ((E.c124 (a0.aj.get v3.toNat)).T λ r1 =>
 cond (!r1)
 (k false)
 (cond (decide (v3 > 0))
 (bf (decide (0<=v3/\v3 < (a0.aj.len:Int))) (bf (decide (0<=(aO (v3 - 1))/\(aO (v3 - 1)) < (a0.aj.len:Int))) (cond (decide ((a0.aj.get v3.toNat).Z<=(a0.aj.get (aO (v3 - 1)).toNat).Z))
 (k false)
 (Gt E n0 a0 (aO (v3+1)) k))))
 (Gt E n0 a0 (aO (v3+1)) k))))
  (k true):=by kernel_rfl
end
theorem o61 [aJ] (E:E61) (Jc:Ok ax 73 (ae.un E.qm)) (zoG:Ok ax 124 (ae.un E.c124)):Ok ax 61 (ae.un (F61 E)):=aY (aP ((ay.nil.addF Jc).addF zoG) (ak (by kernel_rfl)))
structure E62 where
  N:Nat
  c86:Int×Int×Int->ae (Bool)
abbrev G62 (E:E62):aX:=dh (Tabs.nil.addF 86 (ae.un E.c86)) []
def A62:bW:=aU ax 62 [] {}
def F62 (E:E62):bP->ae (Bool):=ae.ty (aF ax E.N (G62 E) A62 62)
section
variable (E:E62){A:Type}(k:Bool->Option A)
theorem e62 (a0:bP):(F62 E (a0)).T k =
  (E.c86 (a0.vC,1,16)).T λ r1 =>
  cond r1
  ((E.c86 (a0.xU,0,16)).T λ r2 =>
 k r2)
  (k false):=bH.trans (by kernel_rfl)
end
theorem o62 [aJ] (E:E62) (h86:Ok ax 86 (ae.un E.c86)):Ok ax 62 (ae.un (F62 E)):=aY (aP (ay.nil.addF h86) (ak (by kernel_rfl)))
end Go.Proofs


namespace Go.Proofs
open Go Go.Pm
set_option maxRecDepth 100000
structure E65 where
  N:Nat
  c75:au×bz->ae ((Sl aC))
abbrev G65 (E:E65):aX:=dh (Tabs.nil.addF 75 (ae.un E.c75)) []
def A65:bW:=aU ax 65 [] { ks:=[(1,3,⟨[],[(7,35,101)],[],[],[],[],[]⟩)] }
def F65 (E:E65):au×(Sl bz)×ai->ae ((Sl aC)):=ae.ty (aF ax E.N (G65 E) A65 65)
section
variable (E:E65){A:Type}(k:(Sl aC)->Option A)
def Xk (E:E65) (n:Nat) (a0:au) (a1:(Sl bz)) (a2:ai) (v8:Int) (w35:Sl aC){A:Type}(k:(Sl aC)->Option A):Option A :=
  iG ax (G65 E) E.N A65 65 [1,1,0,1,0] [.n n] (iI k)
    ⟨[(1,eP a1),(3,.cl (.ptr 3 0)),(5,.cl (.ptr 5 0)),(7,.cl (.vec 35)),(8,.int v8)],[(3,eB 24 a0),(5,eB 43 a2),(35,eV 101 3 24 w35)],[]⟩
theorem e65 (a0:au) (a1:(Sl bz)) (a2:ai):(F65 E (a0,a1,a2)).T k =
  Xk E E.N a0 a1 a2 0 (⟨0,(λ _=>(⟨0,0,0⟩:aC))⟩:(Sl aC)) k:=bH.trans (by kernel_rfl)
theorem zme (n0:Nat) (a0:au) (a1:(Sl bz)) (a2:ai) (v8:Int) (w35:Sl aC):Xk E (n0+1) a0 a1 a2 v8 w35 k =
  cond (decide (v8 < (a2.Hits.len:Int)))
  (bf (decide (0<=v8/\v8 < (a2.Hits.len:Int))) (bf (decide (0<=a2.Hits.get v8.toNat/\a2.Hits.get v8.toNat < (a1.len:Int))) ((E.c75 (a0,(a1.get (a2.Hits.get v8.toNat).toNat))).T λ r1 =>
 bf (decide (0≤v8∧v8 < (a2.bC.len:Int))) (bf (decide (0≤a2.bC.get v8.toNat∧a2.bC.get v8.toNat < (r1.len:Int))) (bf (room (w35.len+1) 24) (Xk E n0 a0 a1 a2 (aO (v8+1)) (⟨(w35.len+1),(jb w35.len w35.get (fun _=>(r1.get (a2.bC.get v8.toNat).toNat)))⟩:(Sl aC)) k))))))
  (k w35):=by kernel_rfl
end
theorem o65 [aJ] (E:E65) (h75:Ok ax 75 (ae.un E.c75)):Ok ax 65 (ae.un (F65 E)):=aY (aP (ay.nil.addF h75) (ak (by kernel_rfl)))
structure E73 where
  N:Nat
abbrev G73 (E:E73):aX:=dh Tabs.nil []
def A73:bW:=aU ax 73 [] {}
def F73 (E:E73):Int×Int×Int->ae (Bool):=ae.ty (aF ax E.N (G73 E) A73 73)
section
variable (E:E73){A:Type}(k:Bool->Option A)
theorem e73 (a0:Int) (a1:Int) (a2:Int):(F73 E (a0,a1,a2)).T k =
  cond (decide (a0 >= a1))
  (k (decide (a0<=a2)))
  (k false):=bH.trans (by kernel_rfl)
end
theorem o73 [aJ] (E:E73):Ok ax 73 (ae.un (F73 E)):=aY (aP ay.nil (ak (by kernel_rfl)))
structure E75 where
  N:Nat
  zlj:af×Int->ae (Int×Int)
abbrev G75 (E:E75):aX:=dh (Tabs.nil.addF 135 (ae.un E.zlj)) []
def A75:bW:=aU ax 75 [] {}
def F75 (E:E75):au×bz->ae ((Sl aC)):=ae.ty (aF ax E.N (G75 E) A75 75)
section
variable (E:E75){A:Type}(k:(Sl aC)->Option A)
theorem e75 (a0:au) (a1:bz):(F75 E (a0,a1)).T k =
  bf (decide (0<=a1.af/\a1.af < (a0.aj.len:Int))) (cond ((a0.aj.get a1.af.toNat).Kind != 2)
 (cond (decide ((aO ((aO ((a0.aj.get a1.af.toNat).First+(aO ((aO ((aO (a1.Channel+a1.iO)) - 1)) * (a0.aj.get a1.af.toNat).aZ)))) - (a0.aj.get a1.af.toNat).dD)) > (aO ((aO ((a0.aj.get a1.af.toNat).First+(aO ((aO (a1.Channel+1)) * (a0.aj.get a1.af.toNat).aZ))))+(a0.aj.get a1.af.toNat).dD))))
 (k (⟨0,λ _=>default⟩:(Sl aC)))
 (k (⟨1,(λ _=>(⟨(a0.aj.get a1.af.toNat).Z,(aO ((aO ((aO ((a0.aj.get a1.af.toNat).First+(aO ((aO ((aO (a1.Channel+a1.iO)) - 1)) * (a0.aj.get a1.af.toNat).aZ)))) - (a0.aj.get a1.af.toNat).dD))+(a0.aj.get a1.af.toNat).bu.Low)),(aO ((aO ((aO ((a0.aj.get a1.af.toNat).First+(aO ((aO (a1.Channel+1)) * (a0.aj.get a1.af.toNat).aZ))))+(a0.aj.get a1.af.toNat).dD))+(a0.aj.get a1.af.toNat).bu.High))⟩:aC))⟩:(Sl aC))))
 ((E.zlj ((a0.aj.get a1.af.toNat),a1.aQ)).T λ r1 =>
 cond (decide ((aO ((aO ((aO ((a0.aj.get a1.af.toNat).First+(aO (a1.Channel * (a0.aj.get a1.af.toNat).aZ)))) - r1.1))+(a0.aj.get a1.af.toNat).bu.High)) >= (aO ((aO ((aO ((a0.aj.get a1.af.toNat).First+(aO (a1.Channel * (a0.aj.get a1.af.toNat).aZ))))+r1.1))+(a0.aj.get a1.af.toNat).bu.Low))))
 (k (⟨1,(λ _=>(⟨(a0.aj.get a1.af.toNat).Z,(aO ((aO ((aO ((a0.aj.get a1.af.toNat).First+(aO (a1.Channel * (a0.aj.get a1.af.toNat).aZ)))) - r1.2))+(a0.aj.get a1.af.toNat).bu.Low)),(aO ((aO ((aO ((a0.aj.get a1.af.toNat).First+(aO (a1.Channel * (a0.aj.get a1.af.toNat).aZ))))+r1.2))+(a0.aj.get a1.af.toNat).bu.High))⟩:aC))⟩:(Sl aC)))
 (k (⟨2,(Qr [(⟨(a0.aj.get a1.af.toNat).Z,(aO ((aO ((aO ((a0.aj.get a1.af.toNat).First+(aO (a1.Channel * (a0.aj.get a1.af.toNat).aZ)))) - r1.2))+(a0.aj.get a1.af.toNat).bu.Low)),(aO ((aO ((aO ((a0.aj.get a1.af.toNat).First+(aO (a1.Channel * (a0.aj.get a1.af.toNat).aZ)))) - r1.1))+(a0.aj.get a1.af.toNat).bu.High))⟩:aC),(⟨(a0.aj.get a1.af.toNat).Z,(aO ((aO ((aO ((a0.aj.get a1.af.toNat).First+(aO (a1.Channel * (a0.aj.get a1.af.toNat).aZ))))+r1.1))+(a0.aj.get a1.af.toNat).bu.Low)),(aO ((aO ((aO ((a0.aj.get a1.af.toNat).First+(aO (a1.Channel * (a0.aj.get a1.af.toNat).aZ))))+r1.2))+(a0.aj.get a1.af.toNat).bu.High))⟩:aC)])⟩:(Sl aC))))):=bH.trans (by kernel_rfl)
end
theorem o75 [aJ] (E:E75) (zoJ:Ok ax 135 (ae.un E.zlj)):Ok ax 75 (ae.un (F75 E)):=aY (aP (ay.nil.addF zoJ) (ak (by kernel_rfl)))
structure E85 where
  N:Nat
  c143:au×bz->ae (Bool)
abbrev G85 (E:E85):aX:=dh (Tabs.nil.addF 143 (ae.un E.c143)) []
def A85:bW:=aU ax 85 [] {}
def F85 (E:E85):au×(Sl bz)->ae (Bool):=ae.ty (aF ax E.N (G85 E) A85 85)
section
variable (E:E85){A:Type}(k:Bool->Option A)
def Xl (E:E85) (n:Nat) (a0:au) (a1:(Sl bz)) (v5:Int){A:Type}(k:Bool->Option A):Option A :=
  iG ax (G85 E) E.N A85 85 [1,0,1,0] [.n n] (iI k)
    ⟨[(1,eP a1),(2,.cl (.ptr 2 0)),(5,.int v5)],[(2,eB 24 a0)],[]⟩
theorem e85 (a0:au) (a1:(Sl bz)):(F85 E (a0,a1)).T k =
  Xl E E.N a0 a1 0 k:=bH.trans (by kernel_rfl)
theorem zmf (n0:Nat) (a0:au) (a1:(Sl bz)) (v5:Int):Xl E (n0+1) a0 a1 v5 k =
  cond (decide (v5 < (a1.len:Int)))
  (bf (decide (0<=v5/\v5 < (a1.len:Int))) ((E.c143 (a0,(a1.get v5.toNat))).T λ r1 =>
 cond (!r1)
 (k false)
 (Xl E n0 a0 a1 (aO (v5+1)) k)))
  (k true):=by kernel_rfl
end
theorem o85 [aJ] (E:E85) (zoL:Ok ax 143 (ae.un E.c143)):Ok ax 85 (ae.un (F85 E)):=aY (aP (ay.nil.addF zoL) (ak (by kernel_rfl)))
structure E86 where
  N:Nat
abbrev G86 (E:E86):aX:=dh Tabs.nil []
def A86:bW:=aU ax 86 [] {}
def F86 (E:E86):Int×Int×Int->ae (Bool):=ae.ty (aF ax E.N (G86 E) A86 86)
section
variable (E:E86){A:Type}(k:Bool->Option A)
theorem e86 (a0:Int) (a1:Int) (a2:Int):(F86 E (a0,a1,a2)).T k =
  cond (decide (a0 >= a1))
  (k (decide (a0<=a2)))
  (k false):=bH.trans (by kernel_rfl)
end
theorem o86 [aJ] (E:E86):Ok ax 86 (ae.un (F86 E)):=aY (aP ay.nil (ak (by kernel_rfl)))
structure E87 where
  N:Nat
abbrev G87 (E:E87):aX:=dh Tabs.nil []
def A87:bW:=aU ax 87 [] {}
def F87 (E:E87):(Sl bz)×(Sl Int)×Int->ae (Bool):=ae.ty (aF ax E.N (G87 E) A87 87)
section
variable (E:E87){A:Type}(k:Bool->Option A)
def Xm (E:E87) (n:Nat) (a0:(Sl bz)) (a1:(Sl Int)) (a2:Int) (v7:Int){A:Type}(k:Bool->Option A):Option A :=
  iG ax (G87 E) E.N A87 87 [1,0,1,0] [.n n] (iI k)
    ⟨[(0,eP a0),(1,eP a1),(2,.int a2),(7,.int v7)],[],[]⟩
theorem e87 (a0:(Sl bz)) (a1:(Sl Int)) (a2:Int):(F87 E (a0,a1,a2)).T k =
  Xm E E.N a0 a1 a2 0 k:=bH.trans (by kernel_rfl)
theorem zmg (n0:Nat) (a0:(Sl bz)) (a1:(Sl Int)) (a2:Int) (v7:Int):Xm E (n0+1) a0 a1 a2 v7 k =
  cond (decide (v7 < (a1.len:Int)))
  (bf (decide (0<=v7/\v7 < (a1.len:Int))) (bf (decide (0<=a1.get v7.toNat/\a1.get v7.toNat < (a0.len:Int))) (cond ((a0.get (a1.get v7.toNat).toNat).af == a2)
 (k true)
 (Xm E n0 a0 a1 a2 (aO (v7+1)) k))))
  (k false):=by kernel_rfl
end
theorem o87 [aJ] (E:E87):Ok ax 87 (ae.un (F87 E)):=aY (aP ay.nil (ak (by kernel_rfl)))
end Go.Proofs

namespace Go.Proofs
open Go Go.Pm
set_option maxRecDepth 100000
structure Jo where
  N:Nat
  qm:Int×Int×Int->ae (Bool)
  Ot:Int->ae (Bool)
  c175:(Sl aQ)×Int->ae (Bool)
abbrev zds (E:Jo):aX:=dh (((Tabs.nil.addF 73 (ae.un E.qm)).addF 174 (ae.un E.Ot)).addF 175 (ae.un E.c175)) []
def zdt:bW:=aU ax 124 [] { cut:=[3,5,7] }
def zhY (E:Jo):af->ae (Bool):=ae.ty (aF ax E.N (zds E) zdt 124)
section
variable (E:Jo){A:Type}(k:Bool->Option A)
def Uw (E:Jo) (a0:af){A:Type}(k:Bool->Option A):Option A :=
  iG ax (zds E) E.N zdt 124 [1,1] [] (iI k)
    ⟨[(1,.cl (.ptr 1 0))],[(1,eB 124 a0)],[]⟩
def zdu (E:Jo) (a0:af){A:Type}(k:Bool->Option A):Option A :=
  iG ax (zds E) E.N zdt 124 [1,1,1] [] (iI k)
    ⟨[(1,.cl (.ptr 1 0))],[(1,eB 124 a0)],[]⟩
def zdv (E:Jo) (a0:af){A:Type}(k:Bool->Option A):Option A :=
  iG ax (zds E) E.N zdt 124 [1,1,1,1] [] (iI k)
    ⟨[(1,.cl (.ptr 1 0))],[(1,eB 124 a0)],[]⟩
def pU (E:Jo) (n:Nat) (a0:af) (v3:Int){A:Type}(k:Bool->Option A):Option A :=
  iG ax (zds E) E.N zdt 124 [1,1,1,1,1,0,1,0] [.n n] (iI k)
    ⟨[(1,.cl (.ptr 1 0)),(3,.int v3)],[(1,eB 124 a0)],[]⟩
theorem zEu (a0:af):(zhY E (a0)).T k =
  cond (decide (a0.Kind < 1))
  (k false)
  (cond (decide (a0.Kind > 3))
 (k false)
 (cond (a0.View != 1)
 (cond (a0.View != 2)
 (k false)
 ((E.qm (a0.Z,0,100000)).T λ r1 =>
 cond (!r1)
 (k false)
 ((E.Ot a0.First).T λ r2 =>
 cond (!r2)
 (k false)
 ((E.qm (a0.aZ,2,100000)).T λ r3 =>
 cond (!r3)
 (k false)
 ((E.qm (a0.bM,1,2000)).T λ r4 =>
 cond (!r4)
 (k false)
 ((E.qm (a0.dD,0,100000)).T λ r5 =>
 cond (!r5)
 (k false)
 (Uw E a0 k)))))))
 ((E.qm (a0.Z,0,100000)).T λ r6 =>
 cond (!r6)
 (k false)
 ((E.Ot a0.First).T λ r7 =>
 cond (!r7)
 (k false)
 ((E.qm (a0.aZ,2,100000)).T λ r8 =>
 cond (!r8)
 (k false)
 ((E.qm (a0.bM,1,2000)).T λ r9 =>
 cond (!r9)
 (k false)
 ((E.qm (a0.dD,0,100000)).T λ r10 =>
 cond (!r10)
 (k false)
 (Uw E a0 k)))))))):=bH.trans (by kernel_rfl)
theorem zoN (a0:af):Uw E a0 k =
  (E.Ot a0.bu.Low).T λ r1 =>
  cond (!r1)
  (k false)
  ((E.Ot a0.bu.High).T λ r2 =>
 cond (!r2)
 (k false)
 (cond (decide (a0.bu.Low > a0.bu.High))
 (k false)
 ((E.qm (a0.Clock.Low,(-1000000000),1000000000)).T λ r3 =>
 cond (!r3)
 (k false)
 ((E.qm (a0.Clock.High,(-1000000000),1000000000)).T λ r4 =>
 cond (!r4)
 (k false)
 (cond (decide (a0.Clock.Low > a0.Clock.High))
 (k false)
 (zdu E a0 k)))))):=by kernel_rfl
theorem zoO (a0:af):zdu E a0 k =
  (E.qm (a0.dH,0,1000000)).T λ r1 =>
  cond (!r1)
  (k false)
  ((E.qm (a0.Least,0,1000000)).T λ r2 =>
 cond (!r2)
 (k false)
 ((E.Ot (aO ((aO ((aO (a0.First - a0.aZ)) - a0.dD))+a0.bu.Low))).T λ r3 =>
 cond (!r3)
 (k false)
 ((E.Ot (aO ((aO ((aO (a0.First+(aO ((aO (a0.bM+1)) * a0.aZ))))+a0.dD))+a0.bu.High))).T λ r4 =>
 cond (!r4)
 (k false)
 (zdv E a0 k)))):=by kernel_rfl
theorem zoP (a0:af):zdv E a0 k =
  cond (a0.Kind == 2)
  ((E.c175 (a0.aQ,a0.aZ)).T λ r1 =>
 cond (!r1)
 (k false)
 (cond (a0.Kind != 2)
 (cond (decide ((a0.aQ.len:Int) > 0))
 (k false)
 (cond (decide ((a0.Dead.len:Int) > 100))
 (k false)
 (pU E E.N a0 0 k)))
 (cond (decide ((a0.Dead.len:Int) > 100))
 (k false)
 (pU E E.N a0 0 k))))
  (cond (a0.Kind != 2)
 (cond (decide ((a0.aQ.len:Int) > 0))
 (k false)
 (cond (decide ((a0.Dead.len:Int) > 100))
 (k false)
 (pU E E.N a0 0 k)))
 (cond (decide ((a0.Dead.len:Int) > 100))
 (k false)
 (pU E E.N a0 0 k))):=by kernel_rfl
theorem zdw (n0:Nat) (a0:af) (v3:Int):pU E (n0+1) a0 v3 k =
  cond (decide (v3 < (a0.Dead.len:Int)))
  (bf (decide (0<=v3/\v3 < (a0.Dead.len:Int))) ((E.qm (a0.Dead.get v3.toNat,0,(aO (a0.bM - 1)))).T λ r1 =>
 cond (!r1)
 (k false)
 (cond (decide (v3 > 0))
 (bf (decide (0<=v3/\v3 < (a0.Dead.len:Int))) (bf (decide (0<=(aO (v3 - 1))/\(aO (v3 - 1)) < (a0.Dead.len:Int))) (cond (decide (a0.Dead.get v3.toNat<=a0.Dead.get (aO (v3 - 1)).toNat))
 (k false)
 (pU E n0 a0 (aO (v3+1)) k))))
 (pU E n0 a0 (aO (v3+1)) k))))
  (k true):=by kernel_rfl
end
theorem zEv [aJ] (E:Jo) (Jc:Ok ax 73 (ae.un E.qm)) (zoQ:Ok ax 174 (ae.un E.Ot)) (zoR:Ok ax 175 (ae.un E.c175)):Ok ax 124 (ae.un (zhY E)):=aY (aP (((ay.nil.addF Jc).addF zoQ).addF zoR) (ak (by kernel_rfl)))
structure Qs where
  N:Nat
abbrev zoS (E:Qs):aX:=dh Tabs.nil []
def zoT:bW:=aU ax 135 [] {}
def zhZ (E:Qs):af×Int->ae (Int×Int):=ae.ty (aF ax E.N (zoS E) zoT 135)
section
variable (E:Qs){A:Type}(k:(Int×Int)->Option A)
def Gu (E:Qs) (n:Nat) (a0:af) (a1:Int) (v6:Int) (v7:Int) (v8:Int){A:Type}(k:(Int×Int)->Option A):Option A :=
  iG ax (zoS E) E.N zoT 135 [1,1,0,1,0] [.n n] (iI k)
    ⟨[(1,.int a1),(2,.cl (.ptr 2 0)),(6,.int v6),(7,.int v7),(8,.int v8)],[(2,eB 124 a0)],[]⟩
def Gv (E:Qs) (n:Nat) (a0:af) (a1:Int) (v6:Int) (v7:Int) (v9:Int){A:Type}(k:(Int×Int)->Option A):Option A :=
  iG ax (zoS E) E.N zoT 135 [1,1,1,0,1,0] [.n n] (iI k)
    ⟨[(1,.int a1),(2,.cl (.ptr 2 0)),(6,.int v6),(7,.int v7),(9,.int v9)],[(2,eB 124 a0)],[]⟩
theorem zEw (a0:af) (a1:Int):(zhZ E (a0,a1)).T k =
  Gu E E.N a0 a1 0 (aO (a0.aZ.tdiv 2)) 0 k:=bH.trans (by kernel_rfl)
theorem zdx (n0:Nat) (a0:af) (a1:Int) (v6:Int) (v7:Int) (v8:Int):Gu E (n0+1) a0 a1 v6 v7 v8 k =
  cond (decide (v8 < (a0.aQ.len:Int)))
  (bf (decide (0<=v8/\v8 < (a0.aQ.len:Int))) (cond (decide ((a0.aQ.get v8.toNat).Time<=(aO (a1 - a0.dH))))
 (bf (decide (0<=v8/\v8 < (a0.aQ.len:Int))) (Gu E n0 a0 a1 (a0.aQ.get v8.toNat).dI.Low v7 (aO (v8+1)) k))
 (Gu E n0 a0 a1 v6 v7 (aO (v8+1)) k)))
  (Gv E E.N a0 a1 v6 v7 (aO ((a0.aQ.len:Int) - 1)) k):=by kernel_rfl
theorem zdy (n0:Nat) (a0:af) (a1:Int) (v6:Int) (v7:Int) (v9:Int):Gv E (n0+1) a0 a1 v6 v7 v9 k =
  cond (decide (v9 >= 0))
  (bf (decide (0<=v9/\v9 < (a0.aQ.len:Int))) (cond (decide ((a0.aQ.get v9.toNat).Time >= (aO (a1+a0.dH))))
 (bf (decide (0<=v9/\v9 < (a0.aQ.len:Int))) (Gv E n0 a0 a1 v6 (a0.aQ.get v9.toNat).dI.High (aO (v9 - 1)) k))
 (Gv E n0 a0 a1 v6 v7 (aO (v9 - 1)) k)))
  (k (v6,v7)):=by kernel_rfl
end
theorem zEx [aJ] (E:Qs):Ok ax 135 (ae.un (zhZ E)):=aY (aP ay.nil (ak (by kernel_rfl)))
structure Ux where
  N:Nat
abbrev zxm (E:Ux):aX:=dh Tabs.nil []
def zxn:bW:=aU ax 137 [] {}
def zh0 (E:Ux):af×Int->ae (Bool):=ae.ty (aF ax E.N (zxm E) zxn 137)
section
variable (E:Ux){A:Type}(k:Bool->Option A)
def Gw (E:Ux) (n:Nat) (a0:af) (a1:Int) (v5:Int){A:Type}(k:Bool->Option A):Option A :=
  iG ax (zxm E) E.N zxn 137 [1,0,1,0] [.n n] (iI k)
    ⟨[(1,.int a1),(2,.cl (.ptr 2 0)),(5,.int v5)],[(2,eB 124 a0)],[]⟩
theorem e137 (a0:af) (a1:Int):(zh0 E (a0,a1)).T k =
  Gw E E.N a0 a1 0 k:=bH.trans (by kernel_rfl)
theorem zdz (n0:Nat) (a0:af) (a1:Int) (v5:Int):Gw E (n0+1) a0 a1 v5 k =
  cond (decide (v5 < (a0.Dead.len:Int)))
  (bf (decide (0<=v5/\v5 < (a0.Dead.len:Int))) (cond (a0.Dead.get v5.toNat == a1)
 (k true)
 (Gw E n0 a0 a1 (aO (v5+1)) k)))
  (k false):=by kernel_rfl
end
theorem zEy [aJ] (E:Ux):Ok ax 137 (ae.un (zh0 E)):=aY (aP ay.nil (ak (by kernel_rfl)))
structure Uy where
  N:Nat
  qm:Int×Int×Int->ae (Bool)
  Jw:af×Int->ae (Bool)
abbrev zxo (E:Uy):aX:=dh ((Tabs.nil.addF 73 (ae.un E.qm)).addF 137 (ae.un E.Jw)) []
def zxp:bW:=aU ax 143 [] {}
def zh1 (E:Uy):au×bz->ae (Bool):=ae.ty (aF ax E.N (zxo E) zxp 143)
section
variable (E:Uy){A:Type}(k:Bool->Option A)
def MZ (E:Uy) (n:Nat) (a0:au) (a1:bz) (v6:Int){A:Type}(k:Bool->Option A):Option A :=
  iG ax (zxo E) E.N zxp 143 [1,1,1,1,0,1,0] [.n n] (iI k)
    ⟨[(3,.cl (.ptr 3 0)),(5,.cl (.ptr 5 0)),(6,.int v6)],[(3,eB 92 a1),(5,eB 124 (a0.aj.get a1.af.toNat))],[]⟩
theorem e143 (a0:au) (a1:bz):(zh1 E (a0,a1)).T k =
  (E.qm (a1.af,0,(aO ((a0.aj.len:Int) - 1)))).T λ r1 =>
  cond (!r1)
  (k false)
  (bf (decide (0<=a1.af/\a1.af < (a0.aj.len:Int))) ((E.qm (a1.Channel,0,(aO ((a0.aj.get a1.af.toNat).bM - 1)))).T λ r2 =>
 cond (!r2)
 (k false)
 ((E.qm (a1.iO,1,(aO ((a0.aj.get a1.af.toNat).bM - a1.Channel)))).T λ r3 =>
 cond (!r3)
 (k false)
 ((E.qm (a1.xR,(a0.aj.get a1.af.toNat).Least,1000000)).T λ r4 =>
 cond (!r4)
 (k false)
 ((E.qm (a1.Time,(-1000000000),1000000000)).T λ r5 =>
 cond (!r5)
 (k false)
 (MZ E E.N a0 a1 0 k)))))):=bH.trans (by kernel_rfl)
theorem zdA (n0:Nat) (a0:au) (a1:bz) (v6:Int):MZ E (n0+1) a0 a1 v6 k =
  cond (decide (v6 < a1.iO))
  ((E.Jw ((a0.aj.get a1.af.toNat),(aO (a1.Channel+v6)))).T λ r1 =>
 cond r1
 (k false)
 (MZ E n0 a0 a1 (aO (v6+1)) k))
  (cond ((a0.aj.get a1.af.toNat).Kind == 2)
 (cond (a1.iO == 1)
 ((E.qm (a1.aQ,0,1000000)).T λ r2 =>
 k r2)
 (k false))
 (cond ((a0.aj.get a1.af.toNat).Kind == 3)
 (cond (a1.aQ == 0)
 (k (a1.Time == 0))
 (k false))
 (k (a1.aQ == 0)))):=by kernel_rfl
end
theorem zEz [aJ] (E:Uy) (Jc:Ok ax 73 (ae.un E.qm)) (Uz:Ok ax 137 (ae.un E.Jw)):Ok ax 143 (ae.un (zh1 E)):=aY (aP ((ay.nil.addF Jc).addF Uz) (ak (by kernel_rfl)))
structure Y7 where
  N:Nat
  qm:Int×Int×Int->ae (Bool)
abbrev zEA (E:Y7):aX:=dh (Tabs.nil.addF 73 (ae.un E.qm)) []
def zEB:bW:=aU ax 174 [] {}
def zh2 (E:Y7):Int->ae (Bool):=ae.ty (aF ax E.N (zEA E) zEB 174)
section
variable (E:Y7){A:Type}(k:Bool->Option A)
theorem zEC (a0:Int):(zh2 E (a0)).T k =
  (E.qm (a0,(-1000000),1000000)).T λ r1 =>
  k r1:=bH.trans (by kernel_rfl)
end
theorem zED [aJ] (E:Y7) (Jc:Ok ax 73 (ae.un E.qm)):Ok ax 174 (ae.un (zh2 E)):=aY (aP (ay.nil.addF Jc) (ak (by kernel_rfl)))
structure UA where
  N:Nat
  qm:Int×Int×Int->ae (Bool)
abbrev zxq (E:UA):aX:=dh (Tabs.nil.addF 73 (ae.un E.qm)) []
def zxr:bW:=aU ax 175 [] {}
def zh3 (E:UA):(Sl aQ)×Int->ae (Bool):=ae.ty (aF ax E.N (zxq E) zxr 175)
section
variable (E:UA){A:Type}(k:Bool->Option A)
def A8 (E:UA) (n:Nat) (a0:(Sl aQ)) (a1:Int) (v5:Int){A:Type}(k:Bool->Option A):Option A :=
  iG ax (zxq E) E.N zxr 175 [1,0,1,0] [.n n] (iI k)
    ⟨[(0,eP a0),(1,.int a1),(5,.int v5)],[],[]⟩
theorem zEE (a0:(Sl aQ)) (a1:Int):(zh3 E (a0,a1)).T k =
  A8 E E.N a0 a1 0 k:=bH.trans (by kernel_rfl)
theorem zdB (n0:Nat) (a0:(Sl aQ)) (a1:Int) (v5:Int):A8 E (n0+1) a0 a1 v5 k =
  cond (decide (v5 < (a0.len:Int)))
  (bf (decide (0<=v5/\v5 < (a0.len:Int))) ((E.qm ((a0.get v5.toNat).Time,0,1000000)).T λ r1 =>
 cond (!r1)
 (k false)
 (cond (decide ((a0.get v5.toNat).dI.Low < 0))
 (k false)
 (cond (decide ((a0.get v5.toNat).dI.Low > (a0.get v5.toNat).dI.High))
 (k false)
 (cond (decide ((a0.get v5.toNat).dI.High > (aO (a1.tdiv 2))))
 (k false)
 (cond (decide (v5 > 0))
 (bf (decide (0<=(aO (v5 - 1))/\(aO (v5 - 1)) < (a0.len:Int))) (cond (decide ((a0.get v5.toNat).Time<=(a0.get (aO (v5 - 1)).toNat).Time))
 (k false)
 (bf (decide (0<=(aO (v5 - 1))/\(aO (v5 - 1)) < (a0.len:Int))) (cond (decide ((a0.get v5.toNat).dI.Low < (a0.get (aO (v5 - 1)).toNat).dI.Low))
 (k false)
 (bf (decide (0<=(aO (v5 - 1))/\(aO (v5 - 1)) < (a0.len:Int))) (cond (decide ((a0.get v5.toNat).dI.High < (a0.get (aO (v5 - 1)).toNat).dI.High))
 (k false)
 (A8 E n0 a0 a1 (aO (v5+1)) k)))))))
 (A8 E n0 a0 a1 (aO (v5+1)) k)))))))
  ((E.qm ((a0.len:Int),1,50)).T λ r2 =>
 k r2):=by kernel_rfl
end
theorem zEF [aJ] (E:UA) (Jc:Ok ax 73 (ae.un E.qm)):Ok ax 175 (ae.un (zh3 E)):=aY (aP (ay.nil.addF Jc) (ak (by kernel_rfl)))
structure E78 where
  N:Nat
  c60:au×bP->ae (Int)
  c138:au×bz->ae (Int)
  c139:au×bz->ae ((Sl aC)×Int)
abbrev G78 (E:E78):aX:=dh (((Tabs.nil.addF 60 (ae.un E.c60)).addF 138 (ae.un E.c138)).addF 139 (ae.un E.c139)) []
def A78:bW:=aU ax 78 [] { ks:=[(1,7,⟨[],[],[(24,2,55,96)],[],[],[],[]⟩)],cut:=[14] }
def F78 (E:E78):au×bP×(Sl bz)->ae (Int ⊕ ((Pt aW)×Int)):=ae.tyA (aF ax E.N (G78 E) A78 78)
section
variable (E:E78){A:Type}(k:(Int ⊕ ((Pt aW)×Int))->Option A)
def Qu (E:E78) (n:Nat) (a0:au) (a1:bP) (a2:(Sl bz)) (v27:Int) (Xn:Sl (Sl aC)) {A:Type}(k:(Int ⊕ ((Pt aW)×Int))->Option A):Option A :=
  iG ax (G78 E) E.N A78 78 [1,1,1,1,0,1,0] [.n n] (zc7 k)
    ⟨[(3,.cl (.ptr 3 0)),(8,.cl (.ptr 24 0)),(25,eP a2),(26,.int (a2.len:Int)),(27,.int v27)],[(3,eB 24 a0),(24,.box 208 [.p (.sl a0.aj.len 15 (λ i=>bG.enc (a0.aj.get i))),.p (.sl a2.len 6 (λ i=>bG.enc (a2.get i))),.vec 55,.p (.int .i64 a1.vC),.p (.int .i64 a1.xU)]),(55,eV 96 1 24 Xn)],[]⟩
def Qv (E:E78) (n0:Nat) (a0:au) (a1:bP) (a2:(Sl bz)) (v11:(Sl aC)) (v27:Int) (Xn:Sl (Sl aC)) {A:Type}(k:(Int ⊕ ((Pt aW)×Int))->Option A):Option A :=
  iG ax (G78 E) E.N A78 78 [1,1,1,1,0,1,0,0,1,1,0,0,1,1,1,1] [.n n0] (zc7 k)
    ⟨[(3,.cl (.ptr 3 0)),(8,.cl (.ptr 24 0)),(11,eP v11),(25,eP a2),(26,.int (a2.len:Int)),(27,.int v27)],[(3,eB 24 a0),(24,.box 208 [.p (.sl a0.aj.len 15 (λ i=>bG.enc (a0.aj.get i))),.p (.sl a2.len 6 (λ i=>bG.enc (a2.get i))),.vec 55,.p (.int .i64 a1.vC),.p (.int .i64 a1.xU)]),(55,eV 96 1 24 Xn)],[]⟩
theorem e78 (a0:au) (a1:bP) (a2:(Sl bz)):(F78 E (a0,a1,a2)).T k =
  cond (decide ((a2.len:Int) > 24))
  (k (.inl 3))
  ((E.c60 (a0,a1)).T λ r1 =>
 cond (r1 != 0)
 (k (.inl 2))
 (Qu E E.N a0 a1 a2 0 (⟨0,(λ _=>(⟨0,(λ _=>(⟨0,0,0⟩:aC))⟩:(Sl aC)))⟩:(Sl (Sl aC))) k)):=zl1.trans (by kernel_rfl)
theorem zmi (n0:Nat) (a0:au) (a1:bP) (a2:(Sl bz)) (v27:Int) (Xn:Sl (Sl aC)):Qu E (n0+1) a0 a1 a2 v27 Xn k =
  cond (decide (v27 < (a2.len:Int)))
  (bf (decide (0<=v27/\v27 < (a2.len:Int))) ((E.c138 (a0,(a2.get v27.toNat))).T λ r1 =>
 cond (r1 != 0)
 (k (.inl 2))
 ((E.c139 (a0,(a2.get v27.toNat))).T λ r2 =>
 cond (r2.2 != 0)
 (cond (r2.2 != 5)
 (k (.inl r2.2))
 (Qv E n0 a0 a1 a2 r2.1 v27 Xn k))
 (Qv E n0 a0 a1 a2 r2.1 v27 Xn k))))
  (k (.inr ((⟨(⟨a0,a2,Xn,a1⟩:aW)⟩:(Pt aW)),0))):=by kernel_rfl
theorem zxs (n0:Nat) (a0:au) (a1:bP) (a2:(Sl bz)) (v11:(Sl aC)) (v27:Int) (Xn:Sl (Sl aC)):Qv E n0 a0 a1 a2 v11 v27 Xn k =
  bf (room (Xn.len+1) 24) (Qu E n0 a0 a1 a2 (aO (v27+1)) (⟨(Xn.len+1),(jb Xn.len Xn.get (λ _=>v11))⟩:(Sl (Sl aC))) k):=by kernel_rfl
end
theorem o78 [aJ] (E:E78) (h60:Ok ax 60 (ae.un E.c60)) (zoU:Ok ax 138 (ae.un E.c138)) (zoV:Ok ax 139 (ae.un E.c139)):Ok ax 78 (ae.unA (F78 E)):=zc8 (aP (((ay.nil.addF h60).addF zoU).addF zoV) (ak (by kernel_rfl)))
end Go.Proofs


namespace Go.Proofs
open Go Go.Pm
set_option maxRecDepth 100000
structure UB where
  N:Nat
abbrev zxt (E:UB):aX:=dh Tabs.nil []
def zxu:bW:=aU ax 105 [] { ks:=[(1,3,⟨[],[(5,32,101)],[],[],[],[],[]⟩)] }
def zh4 (E:UB):(Pt aW)×ai->ae ((Sl aC)):=ae.ty (aF ax E.N (zxt E) zxu 105)
section
variable (E:UB){A:Type}(k:(Sl aC)->Option A)
def Na (E:UB) (n:Nat) (a0:(Pt aW)) (a1:ai) (v11:Int) (w32:Sl aC){A:Type}(k:(Sl aC)->Option A):Option A :=
  iG ax (zxt E) E.N zxu 105 [1,1,0,1,0] [.n n] (iI k)
    ⟨[(0,eP a0),(3,.cl (.ptr 3 0)),(5,.cl (.vec 32)),(9,eP a1.Hits),(10,.int (a1.Hits.len:Int)),(11,.int v11)],[(3,eB 43 a1),(32,eV 101 3 24 w32)],[]⟩
theorem zEI (a0:(Pt aW)) (a1:ai):(zh4 E (a0,a1)).T k =
  Na E E.N a0 a1 0 (⟨0,(λ _=>(⟨0,0,0⟩:aC))⟩:(Sl aC)) k:=bH.trans (by kernel_rfl)
theorem zdC (n0:Nat) (a0:(Pt aW)) (a1:ai) (v11:Int) (w32:Sl aC):Na E (n0+1) a0 a1 v11 w32 k =
  cond (decide (v11 < (a1.Hits.len:Int)))
  (bf (decide (0<=v11/\v11 < (a1.Hits.len:Int))) (bf (decide (0<=a1.Hits.get v11.toNat/\a1.Hits.get v11.toNat < (a0.v.kN.len:Int))) (bf (decide (0<=v11/\v11 < (a1.bC.len:Int))) (bf (decide (0<=a1.bC.get v11.toNat/\a1.bC.get v11.toNat < ((a0.v.kN.get (a1.Hits.get v11.toNat).toNat).len:Int))) (bf (room (w32.len+1) 24) (Na E n0 a0 a1 (aO (v11+1)) (⟨(w32.len+1),(jb w32.len w32.get (λ _=>((a0.v.kN.get (a1.Hits.get v11.toNat).toNat).get (a1.bC.get v11.toNat).toNat)))⟩:(Sl aC)) k))))))
  (k w32):=by kernel_rfl
end
theorem zEJ [aJ] (E:UB):Ok ax 105 (ae.un (zh4 E)):=aY (aP ay.nil (ak (by kernel_rfl)))
structure Nb where
  N:Nat
  zgn:(Pt aW)×Int->ae (Int)
abbrev zoW (E:Nb):aX:=dh (Tabs.nil.addF 140 (ae.un E.zgn)) []
def zoX:bW:=aU ax 173 [0] { yl:=[7] }
def zxv (E:Nb) (c:List PA):YO:=aI ax (zoW E) E.N zoX 173 c
def zoY (E:Nb):(Pt Int)×(Pt (Pt aW))×(Pt Int)->ae (List (Int×Int)):=ae.tyI λ c=>.opt (zxv E c)
section
variable (E:Nb)
def Gx (E:Nb) (n:Nat) (a2:(Pt (Pt aW))) (a3:(Pt Int)) (v5:Int):YO :=
  ptY ax (zoW E) E.N zoX 173 [1,0] [n]
    ⟨[(0,.cl (.vec 4095)),(2,eP a2),(3,eP a3),(5,.int v5)],[(4095,.gone)],[]⟩
def Gy (E:Nb) (n0:Nat) (n:Nat) (a2:(Pt (Pt aW))) (a3:(Pt Int)) (v5:Int) (v29:Int) (v30:Int):YO :=
  ptY ax (zoW E) E.N zoX 173 [1,0,0,1,0,0,1,1,0] [n0,n]
    ⟨[(0,.cl (.vec 4095)),(2,eP a2),(3,eP a3),(5,.int v5),(29,.int v29),(30,.int v30)],[(4095,.gone)],[]⟩
theorem zEK (a1:(Pt Int)) (a2:(Pt (Pt aW))) (a3:(Pt Int)):zxv E (dw.enc ((a1,a2,a3):(Pt Int)×(Pt (Pt aW))×(Pt Int))) =
  Gx E E.N a2 a3 a1.v:=by kernel_rfl
theorem zdD (n0:Nat) (a2:(Pt (Pt aW))) (a3:(Pt Int)) (v5:Int):Gx E (n0+1) a2 a3 v5 =
  cond (decide (v5 < (a2.v.v.hits.len:Int)))
  ((E.zgn (a2.v,v5)).T λ r1 =>
 cond (r1 != a3.v)
 (Gx E n0 a2 a3 (aO (v5+1)))
 (bf (decide (0≤v5∧v5 < (a2.v.v.kN.len:Int))) (Gy E n0 E.N a2 a3 v5 ((a2.v.v.kN.get v5.toNat).len:Int) 0)))
  (some []):=by kernel_rfl
theorem zdE (n0:Nat) (n1:Nat) (a2:(Pt (Pt aW))) (a3:(Pt Int)) (v5:Int) (v29:Int) (v30:Int):Gy E n0 (n1+1) a2 a3 v5 v29 v30 =
  cond (decide (v30 < v29))
  (yT (dw.enc ((v5,v30):Int×Int)) (some [])
 (Gy E n0 n1 a2 a3 v5 v29 (aO (v30+1))))
  (Gx E n0 a2 a3 (aO (v5+1))):=by kernel_rfl
end
theorem zEL (E:Nb) (zoZ:Ok ax 140 (ae.un E.zgn)):qx ax 173 (ae.unI (zoY E)):=MO (Gn (ay.nil.addF zoZ) (ak (by kernel_rfl)))
structure Y8 where
  N:Nat
abbrev zEM (E:Y8):aX:=dh Tabs.nil []
def zEN:bW:=aU ax 140 [] {}
def zh5 (E:Y8):(Pt aW)×Int->ae (Int):=ae.ty (aF ax E.N (zEM E) zEN 140)
section
variable (E:Y8){A:Type}(k:Int->Option A)
theorem zEO (a0:(Pt aW)) (a1:Int):(zh5 E (a0,a1)).T k =
  bf (decide (0<=a1/\a1 < (a0.v.hits.len:Int))) (bf (decide (0<=(a0.v.hits.get a1.toNat).af/\(a0.v.hits.get a1.toNat).af < (a0.v.au.aj.len:Int))) (k (a0.v.au.aj.get (a0.v.hits.get a1.toNat).af.toNat).View)):=bH.trans (by kernel_rfl)
end
theorem zEP [aJ] (E:Y8):Ok ax 140 (ae.un (zh5 E)):=aY (aP ay.nil (ak (by kernel_rfl)))
structure Y9 where
  N:Nat
  c160:au->ae (Bool)
abbrev zEQ (E:Y9):aX:=dh (Tabs.nil.addF 160 (ae.un E.c160)) []
def zER:bW:=aU ax 122 [] {}
def zh6 (E:Y9):au->ae (Int):=ae.ty (aF ax E.N (zEQ E) zER 122)
section
variable (E:Y9){A:Type}(k:Int->Option A)
theorem zES (a0:au):(zh6 E (a0)).T k =
  (E.c160 a0).T λ r1 =>
  cond (!r1)
  (k 2)
  (k 0):=bH.trans (by kernel_rfl)
end
theorem zET [aJ] (E:Y9) (xG:Ok ax 160 (ae.un E.c160)):Ok ax 122 (ae.un (zh6 E)):=aY (aP (ay.nil.addF xG) (ak (by kernel_rfl)))
structure Za where
  N:Nat
abbrev zEU (E:Za):aX:=dh Tabs.nil []
def zEV:bW:=aU ax 123 [] {}
def zh7 (E:Za):Int×Int×Int->ae (Bool):=ae.ty (aF ax E.N (zEU E) zEV 123)
section
variable (E:Za){A:Type}(k:Bool->Option A)
theorem zEW (a0:Int) (a1:Int) (a2:Int):(zh7 E (a0,a1,a2)).T k =
  cond (decide (a0 >= a1))
  (k (decide (a0<=a2)))
  (k false):=bH.trans (by kernel_rfl)
end
theorem zEX [aJ] (E:Za):Ok ax 123 (ae.un (zh7 E)):=aY (aP ay.nil (ak (by kernel_rfl)))
structure Zb where
  N:Nat
  Ou:au×bz->ae (Bool)
abbrev zEY (E:Zb):aX:=dh (Tabs.nil.addF 188 (ae.un E.Ou)) []
def zEZ:bW:=aU ax 138 [] {}
def zh8 (E:Zb):au×bz->ae (Int):=ae.ty (aF ax E.N (zEY E) zEZ 138)
section
variable (E:Zb){A:Type}(k:Int->Option A)
theorem e138 (a0:au) (a1:bz):(zh8 E (a0,a1)).T k =
  (E.Ou (a0,a1)).T λ r1 =>
  cond (!r1)
  (k 2)
  (k 0):=bH.trans (by kernel_rfl)
end
theorem zE1 [aJ] (E:Zb) (UC:Ok ax 188 (ae.un E.Ou)):Ok ax 138 (ae.un (zh8 E)):=aY (aP (ay.nil.addF UC) (ak (by kernel_rfl)))
structure Zc where
  N:Nat
  Ou:au×bz->ae (Bool)
  qh:au×bz->ae (placed×Bool)
  zls:placed×bz->ae ((Sl aC))
abbrev zE2 (E:Zc):aX:=dh (((Tabs.nil.addF 188 (ae.un E.Ou)).addF 112 (ae.un E.qh)).addF 189 (ae.un E.zls)) []
def zE3:bW:=aU ax 139 [] {}
def zh9 (E:Zc):au×bz->ae ((Sl aC)×Int):=ae.ty (aF ax E.N (zE2 E) zE3 139)
section
variable (E:Zc){A:Type}(k:((Sl aC)×Int)->Option A)
theorem zE4 (a0:au) (a1:bz):(zh9 E (a0,a1)).T k =
  (E.Ou (a0,a1)).T λ r1 =>
  cond (!r1)
  (k ((⟨0,λ _=>default⟩:(Sl aC)),2))
  ((E.qh (a0,a1)).T λ r2 =>
 (E.zls (r2.1,a1)).T λ r3 =>
 cond ((r3.len:Int) == 0)
 (k ((⟨0,λ _=>default⟩:(Sl aC)),5))
 (k (r3,0))):=bH.trans (by kernel_rfl)
end
theorem zE5 [aJ] (E:Zc) (UC:Ok ax 188 (ae.un E.Ou)) (h112:Ok ax 112 (ae.un E.qh)) (zo0:Ok ax 189 (ae.un E.zls)):Ok ax 139 (ae.un (zh9 E)):=aY (aP (((ay.nil.addF UC).addF h112).addF zo0) (ak (by kernel_rfl)))
structure UD where
  N:Nat
  fJ:Int×Int×Int->ae (Bool)
abbrev zxw (E:UD):aX:=dh (Tabs.nil.addF 161 (ae.un E.fJ)) []
def zxx:bW:=aU ax 112 [] {}
def zia (E:UD):au×bz->ae (placed×Bool):=ae.ty (aF ax E.N (zxw E) zxx 112)
section
variable (E:UD){A:Type}(k:(placed×Bool)->Option A)
def Nc (E:UD) (n:Nat) (a0:au) (a1:bz) (v67:Int){A:Type}(k:(placed×Bool)->Option A):Option A :=
  iG ax (zxw E) E.N zxx 112 [1,1,1,1,0,1,0] [.n n] (iI k)
    ⟨[(3,.cl (.ptr 3 0)),(4,.cl (.ptr 4 0)),(6,.cl (.ptr 6 0)),(65,eP (a0.aj.get a1.af.toNat).Dead),(66,.int ((a0.aj.get a1.af.toNat).Dead.len:Int)),(67,.int v67)],[(3,eB 92 a1),(4,.box 185 [.p (.int .i64 0),.p (.int .i64 0),.p (.int .i64 0),.p (.int .i64 0),.p (.int .i64 0),.p (.int .i64 0),.p (.int .i64 0),.p (.int .i64 0),.p (.int .i64 0),.p (.int .i64 0),.p (.int .i64 0),.p (.int .i64 0),.p (.int .i64 0),.p (.nils),.p (.nils),.p (.int .i64 0)]),(6,.box 185 [.p (.int .i64 (a0.aj.get a1.af.toNat).Kind),.p (.int .i64 (a0.aj.get a1.af.toNat).View),.p (.int .i64 (a0.aj.get a1.af.toNat).Z),.p (.int .i64 (a0.aj.get a1.af.toNat).First),.p (.int .i64 (a0.aj.get a1.af.toNat).aZ),.p (.int .i64 (a0.aj.get a1.af.toNat).bM),.p (.int .i64 (a0.aj.get a1.af.toNat).dD),.p (.int .i64 (a0.aj.get a1.af.toNat).bu.Low),.p (.int .i64 (a0.aj.get a1.af.toNat).bu.High),.p (.int .i64 (a0.aj.get a1.af.toNat).Clock.Low),.p (.int .i64 (a0.aj.get a1.af.toNat).Clock.High),.p (.int .i64 (a0.aj.get a1.af.toNat).dH),.p (.int .i64 (a0.aj.get a1.af.toNat).Least),.p (.sl (a0.aj.get a1.af.toNat).aQ.len 3 (λ i=>bG.enc ((a0.aj.get a1.af.toNat).aQ.get i))),.p (.sl (a0.aj.get a1.af.toNat).Dead.len 1 (λ i=>bG.enc ((a0.aj.get a1.af.toNat).Dead.get i))),.p (.int .i64 a1.af)])],[]⟩
theorem zE6 (a0:au) (a1:bz):(zia E (a0,a1)).T k =
  (E.fJ (a1.af,0,(aO ((a0.aj.len:Int) - 1)))).T λ r1 =>
  cond (!r1)
  (k ((⟨(⟨0,0,0,0,0,0,0,(⟨0,0⟩:bZ),(⟨0,0⟩:bZ),0,0,(⟨0,λ _=>default⟩:(Sl aQ)),(⟨0,λ _=>default⟩:(Sl Int))⟩:af),0⟩:placed),false))
  (bf (decide (0<=a1.af/\a1.af < (a0.aj.len:Int))) ((E.fJ (a1.Channel,0,(aO ((a0.aj.get a1.af.toNat).bM - 1)))).T λ r2 =>
 cond (!r2)
 (k ((⟨(a0.aj.get a1.af.toNat),a1.af⟩:placed),false))
 ((E.fJ (a1.iO,1,(aO ((a0.aj.get a1.af.toNat).bM - a1.Channel)))).T λ r3 =>
 cond (!r3)
 (k ((⟨(a0.aj.get a1.af.toNat),a1.af⟩:placed),false))
 ((E.fJ (a1.xR,(a0.aj.get a1.af.toNat).Least,1000000)).T λ r4 =>
 cond (!r4)
 (k ((⟨(a0.aj.get a1.af.toNat),a1.af⟩:placed),false))
 ((E.fJ (a1.Time,(-1000000000),1000000000)).T λ r5 =>
 cond (!r5)
 (k ((⟨(a0.aj.get a1.af.toNat),a1.af⟩:placed),false))
 (Nc E E.N a0 a1 0 k)))))):=bH.trans (by kernel_rfl)
theorem zdF (n0:Nat) (a0:au) (a1:bz) (v67:Int):Nc E (n0+1) a0 a1 v67 k =
  cond (decide (v67 < ((a0.aj.get a1.af.toNat).Dead.len:Int)))
  (bf (decide (0<=v67/\v67 < ((a0.aj.get a1.af.toNat).Dead.len:Int))) ((E.fJ ((a0.aj.get a1.af.toNat).Dead.get v67.toNat,a1.Channel,(aO ((aO (a1.Channel+a1.iO)) - 1)))).T λ r1 =>
 cond r1
 (k ((⟨(a0.aj.get a1.af.toNat),a1.af⟩:placed),false))
 (Nc E n0 a0 a1 (aO (v67+1)) k)))
  (cond ((a0.aj.get a1.af.toNat).Kind == 2)
 (cond (a1.iO == 1)
 ((E.fJ (a1.aQ,0,1000000)).T λ r2 =>
 k ((⟨(a0.aj.get a1.af.toNat),a1.af⟩:placed),r2))
 (k ((⟨(a0.aj.get a1.af.toNat),a1.af⟩:placed),false)))
 (cond (a1.aQ == 0)
 (cond ((a0.aj.get a1.af.toNat).Kind != 3)
 (k ((⟨(a0.aj.get a1.af.toNat),a1.af⟩:placed),true))
 (k ((⟨(a0.aj.get a1.af.toNat),a1.af⟩:placed),(a1.Time == 0))))
 (k ((⟨(a0.aj.get a1.af.toNat),a1.af⟩:placed),false)))):=by kernel_rfl
end
theorem zE7 [aJ] (E:UD) (jD:Ok ax 161 (ae.un E.fJ)):Ok ax 112 (ae.un (zia E)):=aY (aP (ay.nil.addF jD) (ak (by kernel_rfl)))
structure Zd where
  N:Nat
abbrev zE8 (E:Zd):aX:=dh Tabs.nil []
def zE9:bW:=aU ax 161 [] {}
def zib (E:Zd):Int×Int×Int->ae (Bool):=ae.ty (aF ax E.N (zE8 E) zE9 161)
section
variable (E:Zd){A:Type}(k:Bool->Option A)
theorem e161 (a0:Int) (a1:Int) (a2:Int):(zib E (a0,a1,a2)).T k =
  cond (decide (a0 >= a1))
  (k (decide (a0<=a2)))
  (k false):=bH.trans (by kernel_rfl)
end
theorem zFa [aJ] (E:Zd):Ok ax 161 (ae.un (zib E)):=aY (aP ay.nil (ak (by kernel_rfl)))
structure UE where
  N:Nat
  c201:placed->ae (Bool)
  fJ:Int×Int×Int->ae (Bool)
abbrev zxy (E:UE):aX:=dh ((Tabs.nil.addF 201 (ae.un E.c201)).addF 161 (ae.un E.fJ)) []
def zxz:bW:=aU ax 160 [] {}
def zic (E:UE):au->ae (Bool):=ae.ty (aF ax E.N (zxy E) zxz 160)
section
variable (E:UE){A:Type}(k:Bool->Option A)
def Ba (E:UE) (n:Nat) (a0:au) (v9:Int){A:Type}(k:Bool->Option A):Option A :=
  iG ax (zxy E) E.N zxz 160 [1,0,1,0] [.n n] (iI k)
    ⟨[(1,.cl (.ptr 1 0)),(7,eP a0.aj),(8,.int (a0.aj.len:Int)),(9,.int v9)],[(1,eB 24 a0)],[]⟩
theorem e160 (a0:au):(zic E (a0)).T k =
  Ba E E.N a0 0 k:=bH.trans (by kernel_rfl)
theorem zdG (n0:Nat) (a0:au) (v9:Int):Ba E (n0+1) a0 v9 k =
  cond (decide (v9 < (a0.aj.len:Int)))
  (bf (decide (0<=v9/\v9 < (a0.aj.len:Int))) ((E.c201 (⟨(a0.aj.get v9.toNat),v9⟩:placed)).T λ r1 =>
 cond (!r1)
 (k false)
 (cond (decide (v9 > 0))
 (bf (decide (0<=(aO (v9 - 1))/\(aO (v9 - 1)) < (a0.aj.len:Int))) (cond (decide ((a0.aj.get v9.toNat).Z<=(a0.aj.get (aO (v9 - 1)).toNat).Z))
 (k false)
 (Ba E n0 a0 (aO (v9+1)) k)))
 (Ba E n0 a0 (aO (v9+1)) k))))
  ((E.fJ ((a0.aj.len:Int),1,16)).T λ r2 =>
 k r2):=by kernel_rfl
end
theorem zFb [aJ] (E:UE) (zo1:Ok ax 201 (ae.un E.c201)) (jD:Ok ax 161 (ae.un E.fJ)):Ok ax 160 (ae.un (zic E)):=aY (aP ((ay.nil.addF zo1).addF jD) (ak (by kernel_rfl)))
structure Ze where
  N:Nat
  fJ:Int×Int×Int->ae (Bool)
abbrev zFc (E:Ze):aX:=dh (Tabs.nil.addF 161 (ae.un E.fJ)) []
def zFd:bW:=aU ax 164 [] {}
def zid (E:Ze):bZ×Int->ae (Bool):=ae.ty (aF ax E.N (zFc E) zFd 164)
section
variable (E:Ze){A:Type}(k:Bool->Option A)
theorem zFe (a0:bZ) (a1:Int):(zid E (a0,a1)).T k =
  (E.fJ (a0.Low,(aO (0 - a1)),a0.High)).T λ r1 =>
  cond r1
  (k (decide (a0.High<=a1)))
  (k false):=bH.trans (by kernel_rfl)
end
theorem zFf [aJ] (E:Ze) (jD:Ok ax 161 (ae.un E.fJ)):Ok ax 164 (ae.un (zid E)):=aY (aP (ay.nil.addF jD) (ak (by kernel_rfl)))
structure Qw where
  N:Nat
  fJ:Int×Int×Int->ae (Bool)
  zbt:placed->ae (Bool)
  c232:placed->ae (Bool)
  c233:placed->ae (Bool)
  c234:placed->ae (Bool)
abbrev zo2 (E:Qw):aX:=dh (((((Tabs.nil.addF 161 (ae.un E.fJ)).addF 235 (ae.un E.zbt)).addF 232 (ae.un E.c232)).addF 233 (ae.un E.c233)).addF 234 (ae.un E.c234)) []
def zo3:bW:=aU ax 201 [] {}
def zie (E:Qw):placed->ae (Bool):=ae.ty (aF ax E.N (zo2 E) zo3 201)
abbrev UF (n:Int) (a:placed):placed:={ a with af:={ a.af with Kind:=n } }
section
variable (E:Qw){A:Type}(k:Bool->Option A)
def Gz (E:Qw) (a0:placed) (v16:Bool){A:Type}(k:Bool->Option A):Option A :=
  iG ax (zo2 E) E.N zo3 201 [1,1,0,0] [.o 4] (iI k)
    ⟨[(16,.bool v16),(15,.int a0.af.Kind),(14,.cl (.ptr 1 0)),(13,.cl (.ptr 1 0)),(1,.cl (.ptr 1 0)),(3,.cl (.ptr 3 0))],[(1,eB 185 a0),(3,.box 301 [.p (.nilf),.p (.fna 232 (bG.enc a0)),.p (.fna 233 (bG.enc a0)),.p (.fna 234 (bG.enc a0))])],[(2,1,0)]⟩
def su (E:Qw) (n:Nat) (a0:placed) (v36:Int){A:Type}(k:Bool->Option A):Option A :=
  iG ax (zo2 E) E.N zo3 201 [1,1,1,0,1,0] [.n n] (iI k)
    ⟨[(1,.cl (.ptr 1 0)),(34,eP a0.af.Dead),(35,.int (a0.af.Dead.len:Int)),(36,.int v36)],[(1,eB 185 a0)],[]⟩
theorem zFg (a0:placed):(zie E (a0)).T k =
  (E.fJ (a0.af.Kind,1,3)).T λ r1 =>
  Gz E a0 r1 k:=bH.trans (by kernel_rfl)
theorem zif (a0:placed):Gz E a0 false k =
  k false:=by kernel_rfl
theorem zih (a0:placed):Gz E (UF 1 a0) true k =
  (E.zbt (UF 1 a0)).T λ r1 =>
  cond (!r1)
  (k false)
  ((E.c232 (UF 1 a0)).T λ r2 =>
 cond (!r2)
 (k false)
 (su E E.N (UF 1 a0) 0 k)):=by kernel_rfl
theorem zii (a0:placed):Gz E (UF 2 a0) true k =
  (E.zbt (UF 2 a0)).T λ r1 =>
  cond (!r1)
  (k false)
  ((E.c233 (UF 2 a0)).T λ r2 =>
 cond (!r2)
 (k false)
 (su E E.N (UF 2 a0) 0 k)):=by kernel_rfl
theorem zij (a0:placed):Gz E (UF 3 a0) true k =
  (E.zbt (UF 3 a0)).T λ r1 =>
  cond (!r1)
  (k false)
  ((E.c234 (UF 3 a0)).T λ r2 =>
 cond (!r2)
 (k false)
 (su E E.N (UF 3 a0) 0 k)):=by kernel_rfl
theorem zdH (n0:Nat) (a0:placed) (v36:Int):su E (n0+1) a0 v36 k =
  cond (decide (v36 < (a0.af.Dead.len:Int)))
  (bf (decide (0<=v36/\v36 < (a0.af.Dead.len:Int))) ((E.fJ (a0.af.Dead.get v36.toNat,0,(aO (a0.af.bM - 1)))).T λ r1 =>
 cond (!r1)
 (k false)
 (cond (decide (v36 > 0))
 (bf (decide (0<=(aO (v36 - 1))/\(aO (v36 - 1)) < (a0.af.Dead.len:Int))) (cond (decide (a0.af.Dead.get v36.toNat<=a0.af.Dead.get (aO (v36 - 1)).toNat))
 (k false)
 (su E n0 a0 (aO (v36+1)) k)))
 (su E n0 a0 (aO (v36+1)) k))))
  (k (decide ((a0.af.Dead.len:Int)<=100))):=by kernel_rfl
end
theorem zFh [aJ] (E:Qw) (jD:Ok ax 161 (ae.un E.fJ)) (zdI:Ok ax 235 (ae.un E.zbt)) (zo4:Ok ax 232 (ae.un E.c232)) (zo5:Ok ax 233 (ae.un E.c233)) (zo6:Ok ax 234 (ae.un E.c234)):Ok ax 201 (ae.un (zie E)):=aY (aP (((((ay.nil.addF jD).addF zdI).addF zo4).addF zo5).addF zo6) (ak (by kernel_rfl)))
structure Zf where
  N:Nat
abbrev zFi (E:Zf):aX:=dh Tabs.nil []
def zFj:bW:=aU ax 232 [] {}
def zik (E:Zf):placed->ae (Bool):=ae.ty (aF ax E.N (zFi E) zFj 232)
section
variable (E:Zf){A:Type}(k:Bool->Option A)
theorem e232 (a0:placed):(zik E (a0)).T k =
  k ((a0.af.aQ.len:Int) == 0):=bH.trans (by kernel_rfl)
end
theorem zFk [aJ] (E:Zf):Ok ax 232 (ae.un (zik E)):=aY (aP ay.nil (ak (by kernel_rfl)))
structure UG where
  N:Nat
  fJ:Int×Int×Int->ae (Bool)
abbrev zxA (E:UG):aX:=dh (Tabs.nil.addF 161 (ae.un E.fJ)) []
def zxB:bW:=aU ax 233 [] {}
def zil (E:UG):placed->ae (Bool):=ae.ty (aF ax E.N (zxA E) zxB 233)
section
variable (E:UG){A:Type}(k:Bool->Option A)
def Bd (E:UG) (n:Nat) (a0:placed) (v9:Int){A:Type}(k:Bool->Option A):Option A :=
  iG ax (zxA E) E.N zxB 233 [1,0,1,0] [.n n] (iI k)
    ⟨[(1,.cl (.ptr 1 0)),(7,eP a0.af.aQ),(8,.int (a0.af.aQ.len:Int)),(9,.int v9)],[(1,eB 185 a0)],[]⟩
theorem e233 (a0:placed):(zil E (a0)).T k =
  Bd E E.N a0 0 k:=bH.trans (by kernel_rfl)
theorem zdJ (n0:Nat) (a0:placed) (v9:Int):Bd E (n0+1) a0 v9 k =
  cond (decide (v9 < (a0.af.aQ.len:Int)))
  (bf (decide (0<=v9/\v9 < (a0.af.aQ.len:Int))) ((E.fJ ((a0.af.aQ.get v9.toNat).Time,0,1000000)).T λ r1 =>
 cond (!r1)
 (k false)
 ((E.fJ ((a0.af.aQ.get v9.toNat).dI.Low,0,(a0.af.aQ.get v9.toNat).dI.High)).T λ r2 =>
 cond (!r2)
 (k false)
 (cond (decide ((a0.af.aQ.get v9.toNat).dI.High > (aO (a0.af.aZ.tdiv 2))))
 (k false)
 (cond (decide (v9 > 0))
 (bf (decide (0<=(aO (v9 - 1))/\(aO (v9 - 1)) < (a0.af.aQ.len:Int))) (cond (decide ((a0.af.aQ.get v9.toNat).Time<=(a0.af.aQ.get (aO (v9 - 1)).toNat).Time))
 (k false)
 (bf (decide (0<=(aO (v9 - 1))/\(aO (v9 - 1)) < (a0.af.aQ.len:Int))) (cond (decide ((a0.af.aQ.get v9.toNat).dI.Low < (a0.af.aQ.get (aO (v9 - 1)).toNat).dI.Low))
 (k false)
 (bf (decide (0<=(aO (v9 - 1))/\(aO (v9 - 1)) < (a0.af.aQ.len:Int))) (cond (decide ((a0.af.aQ.get v9.toNat).dI.High < (a0.af.aQ.get (aO (v9 - 1)).toNat).dI.High))
 (k false)
 (Bd E n0 a0 (aO (v9+1)) k)))))))
 (Bd E n0 a0 (aO (v9+1)) k))))))
  ((E.fJ ((a0.af.aQ.len:Int),1,50)).T λ r3 =>
 k r3):=by kernel_rfl
end
theorem zFl [aJ] (E:UG) (jD:Ok ax 161 (ae.un E.fJ)):Ok ax 233 (ae.un (zil E)):=aY (aP (ay.nil.addF jD) (ak (by kernel_rfl)))
structure Zg where
  N:Nat
abbrev zFm (E:Zg):aX:=dh Tabs.nil []
def zFn:bW:=aU ax 234 [] {}
def zim (E:Zg):placed->ae (Bool):=ae.ty (aF ax E.N (zFm E) zFn 234)
section
variable (E:Zg){A:Type}(k:Bool->Option A)
theorem e234 (a0:placed):(zim E (a0)).T k =
  k ((a0.af.aQ.len:Int) == 0):=bH.trans (by kernel_rfl)
end
theorem zFo [aJ] (E:Zg):Ok ax 234 (ae.un (zim E)):=aY (aP ay.nil (ak (by kernel_rfl)))
structure Zh where
  N:Nat
  fJ:Int×Int×Int->ae (Bool)
  c164:bZ×Int->ae (Bool)
abbrev zFp (E:Zh):aX:=dh ((Tabs.nil.addF 161 (ae.un E.fJ)).addF 164 (ae.un E.c164)) []
def zFq:bW:=aU ax 235 [] {}
def zin (E:Zh):placed->ae (Bool):=ae.ty (aF ax E.N (zFp E) zFq 235)
section
variable (E:Zh){A:Type}(k:Bool->Option A)
theorem zFr (a0:placed):(zin E (a0)).T k =
  (E.fJ (a0.af.View,1,2)).T λ r1 =>
  cond (!r1)
  (k false)
  ((E.fJ (a0.af.Z,0,100000)).T λ r2 =>
 cond (!r2)
 (k false)
 ((E.fJ (a0.af.First,(-1000000),1000000)).T λ r3 =>
 cond (!r3)
 (k false)
 ((E.fJ (a0.af.aZ,2,100000)).T λ r4 =>
 cond (!r4)
 (k false)
 ((E.fJ (a0.af.bM,1,2000)).T λ r5 =>
 cond (!r5)
 (k false)
 ((E.fJ (a0.af.dD,0,100000)).T λ r6 =>
 cond (!r6)
 (k false)
 ((E.c164 (a0.af.bu,1000000)).T λ r7 =>
 cond (!r7)
 (k false)
 ((E.c164 (a0.af.Clock,1000000000)).T λ r8 =>
 cond (!r8)
 (k false)
 ((E.fJ (a0.af.dH,0,1000000)).T λ r9 =>
 cond (!r9)
 (k false)
 ((E.fJ (a0.af.Least,0,1000000)).T λ r10 =>
 cond (!r10)
 (k false)
 (cond (decide ((aO ((aO ((aO (a0.af.First - a0.af.aZ)) - a0.af.dD))+a0.af.bu.Low)) >= (-1000000)))
 (k (decide ((aO ((aO ((aO (a0.af.First+(aO ((aO (a0.af.bM+1)) * a0.af.aZ))))+a0.af.dD))+a0.af.bu.High))<=1000000)))
 (k false))))))))))):=bH.trans (by kernel_rfl)
end
theorem zFs [aJ] (E:Zh) (jD:Ok ax 161 (ae.un E.fJ)) (Qx:Ok ax 164 (ae.un E.c164)):Ok ax 235 (ae.un (zin E)):=aY (aP ((ay.nil.addF jD).addF Qx) (ak (by kernel_rfl)))
structure Zi where
  N:Nat
  c160:au->ae (Bool)
  qh:au×bz->ae (placed×Bool)
abbrev zFt (E:Zi):aX:=dh ((Tabs.nil.addF 160 (ae.un E.c160)).addF 112 (ae.un E.qh)) []
def zFu:bW:=aU ax 188 [] {}
def zio (E:Zi):au×bz->ae (Bool):=ae.ty (aF ax E.N (zFt E) zFu 188)
section
variable (E:Zi){A:Type}(k:Bool->Option A)
theorem zFv (a0:au) (a1:bz):(zio E (a0,a1)).T k =
  (E.c160 a0).T λ r1 =>
  cond (!r1)
  (k false)
  ((E.qh (a0,a1)).T λ r2 =>
 k r2.2):=bH.trans (by kernel_rfl)
end
theorem zFw [aJ] (E:Zi) (xG:Ok ax 160 (ae.un E.c160)) (h112:Ok ax 112 (ae.un E.qh)):Ok ax 188 (ae.un (zio E)):=aY (aP ((ay.nil.addF xG).addF h112) (ak (by kernel_rfl)))
structure Zj where
  N:Nat
  zbs:placed×Int×Int->ae (aC)
  zlA:placed×Int->ae (Int×Int)
abbrev zFx (E:Zj):aX:=dh ((Tabs.nil.addF 223 (ae.un E.zbs)).addF 224 (ae.un E.zlA)) []
def zFy:bW:=aU ax 189 [] {}
def ziq (E:Zj):placed×bz->ae ((Sl aC)):=ae.ty (aF ax E.N (zFx E) zFy 189)
section
variable (E:Zj){A:Type}(k:(Sl aC)->Option A)
theorem e189 (a0:placed) (a1:bz):(ziq E (a0,a1)).T k =
  cond (a0.af.Kind != 2)
  (cond (decide ((aO ((aO (a0.af.First+(aO ((aO ((aO (a1.Channel+a1.iO)) - 1)) * a0.af.aZ)))) - a0.af.dD)) > (aO ((aO (a0.af.First+(aO ((aO (a1.Channel+1)) * a0.af.aZ))))+a0.af.dD))))
 (k (⟨0,λ _=>default⟩:(Sl aC)))
 ((E.zbs (a0,(aO ((aO (a0.af.First+(aO ((aO ((aO (a1.Channel+a1.iO)) - 1)) * a0.af.aZ)))) - a0.af.dD)),(aO ((aO (a0.af.First+(aO ((aO (a1.Channel+1)) * a0.af.aZ))))+a0.af.dD)))).T λ r1 =>
 k (⟨1,(fun _=>r1)⟩:(Sl aC))))
  ((E.zlA (a0,a1.aQ)).T λ r2 =>
 (E.zbs (a0,(aO ((aO (a0.af.First+(aO (a1.Channel * a0.af.aZ)))) - r2.2)),(aO ((aO (a0.af.First+(aO (a1.Channel * a0.af.aZ)))) - r2.1)))).T λ r3 =>
 (E.zbs (a0,(aO ((aO (a0.af.First+(aO (a1.Channel * a0.af.aZ))))+r2.1)),(aO ((aO (a0.af.First+(aO (a1.Channel * a0.af.aZ))))+r2.2)))).T λ r4 =>
 cond (decide (r3.High >= r4.Low))
 (k (⟨1,(λ _=>(⟨a0.af.Z,r3.Low,r4.High⟩:aC))⟩:(Sl aC)))
 (k (⟨2,(Qr [r3,r4])⟩:(Sl aC)))):=bH.trans (by kernel_rfl)
end
theorem zFz [aJ] (E:Zj) (zo7:Ok ax 223 (ae.un E.zbs)) (zo8:Ok ax 224 (ae.un E.zlA)):Ok ax 189 (ae.un (ziq E)):=aY (aP ((ay.nil.addF zo7).addF zo8) (ak (by kernel_rfl)))
structure Zk where
  N:Nat
abbrev zFA (E:Zk):aX:=dh Tabs.nil []
def zFB:bW:=aU ax 223 [] {}
def zir (E:Zk):placed×Int×Int->ae (aC):=ae.ty (aF ax E.N (zFA E) zFB 223)
section
variable (E:Zk){A:Type}(k:aC->Option A)
theorem e223 (a0:placed) (a1:Int) (a2:Int):(zir E (a0,a1,a2)).T k =
  k (⟨a0.af.Z,(aO (a1+a0.af.bu.Low)),(aO (a2+a0.af.bu.High))⟩:aC):=bH.trans (by kernel_rfl)
end
theorem zFC [aJ] (E:Zk):Ok ax 223 (ae.un (zir E)):=aY (aP ay.nil (ak (by kernel_rfl)))
structure Qy where
  N:Nat
  zlH:(Pt (Sl aQ))->ae (List (Int×aQ))
abbrev zo9 (E:Qy):aX:=dh ((Tabs.nil.addF 246 (aF ax E.N (dh Tabs.nil []) (aU ax 246 [] {}) 246)).addI 251 (ae.unI E.zlH)) []
def zpa:bW:=aU ax 224 [] {}
def zis (E:Qy):placed×Int->ae (Int×Int):=ae.ty (aF ax E.N (zo9 E) zpa 224)
section
variable (E:Qy){A:Type}(k:(Int×Int)->Option A)
def GG (E:Qy) (n:Nat) (a0:placed) (a1:Int) (v6:Int) (v20:Int) (yV:Int){A:Type}(k:(Int×Int)->Option A):Option A :=
  iG ax (zo9 E) E.N zpa 224 [1,1,0,1,0] [.n n] (iI k)
    ⟨[(2,.cl (.ptr 2 0)),(3,.cl (.ptr 3 0)),(6,.int v6),(7,.cl (.ptr 7 0)),(18,eP a0.af.aQ),(19,.int (a0.af.aQ.len:Int)),(20,.int v20)],[(2,eB 185 a0),(3,eB 3 a1),(7,eB 3 yV)],[]⟩
def Be (E:Qy) (l:List (Int×aQ)) (a0:placed) (a1:Int) (v6:Int) (yV:Int){A:Type}(k:(Int×Int)->Option A):Option A :=
  iG ax (zo9 E) E.N zpa 224 [1,1,1,0,1,0] [.y (l.map dw.enc)] (iI k)
    ⟨[(2,.cl (.ptr 2 0)),(3,.cl (.ptr 3 0)),(6,.int v6),(7,.cl (.ptr 7 0)),(39,.p (.fn 251 [] [.fp [.sl a0.af.aQ.len 3 (λ i=>bG.enc (a0.af.aQ.get i))] 0]))],[(2,eB 185 a0),(3,eB 3 a1),(7,eB 3 yV)],[]⟩
theorem e224 (a0:placed) (a1:Int):(zis E (a0,a1)).T k =
  GG E E.N a0 a1 0 0 (aO (a0.af.aZ.tdiv 2)) k:=bH.trans (by kernel_rfl)
theorem zdK (n0:Nat) (a0:placed) (a1:Int) (v6:Int) (v20:Int) (yV:Int):GG E (n0+1) a0 a1 v6 v20 yV k =
  cond (decide (v20 < (a0.af.aQ.len:Int)))
  (bf (decide (0<=v20/\v20 < (a0.af.aQ.len:Int))) (cond (decide ((a0.af.aQ.get v20.toNat).Time<=(aO (a1 - a0.af.dH))))
 (GG E n0 a0 a1 (a0.af.aQ.get v20.toNat).dI.Low (aO (v20+1)) yV k)
 (GG E n0 a0 a1 v6 (aO (v20+1)) yV k)))
  ((E.zlH (⟨a0.af.aQ⟩:(Pt (Sl aQ)))).T λ r1 =>
 Be E r1 a0 a1 v6 yV k):=by kernel_rfl
theorem zit (a0:placed) (a1:Int) (v6:Int) (yV:Int):Be E [] a0 a1 v6 yV k =
  k (v6,yV):=by kernel_rfl
theorem zpb (y:Int×aQ) (l0:List (Int×aQ)) (a0:placed) (a1:Int) (v6:Int) (yV:Int):Be E (y :: l0) a0 a1 v6 yV k =
  cond (decide (y.2.Time >= (aO (a1+a0.af.dH))))
  (Be E l0 a0 a1 v6 y.2.dI.High k)
  (Be E l0 a0 a1 v6 yV k):=by kernel_rfl
end
theorem zFD [aJ] (E:Qy) (zFE:qx ax 251 (ae.unI E.zlH)):Ok ax 224 (ae.un (zis E)):=aY (aP ((ay.nil.addF (aP ay.nil (ak (by kernel_rfl)))).addI zFE) (ak (by kernel_rfl)))
structure Qz where
  N:Nat
abbrev zxC (E:Qz):aX:=dh Tabs.nil []
def zxD:bW:=aU ax 251 [0] { yl:=[3] }
def zxE (E:Qz) (c:List PA):YO:=aI ax (zxC E) E.N zxD 251 c
def zpc (E:Qz):(Pt (Sl aQ))->ae (List (Int×aQ)):=ae.tyI λ c=>.opt (zxE E c)
section
variable (E:Qz)
def Nh (E:Qz) (n:Nat) (a1:(Pt (Sl aQ))) (v3:Int):YO :=
  ptY ax (zxC E) E.N zxD 251 [1,0] [n]
    ⟨[(0,.cl (.vec 4095)),(1,eP a1),(3,.int v3)],[(4095,.gone)],[]⟩
theorem e251 (a1:(Pt (Sl aQ))):zxE E (dw.enc ((a1):(Pt (Sl aQ)))) =
  Nh E E.N a1 (aO ((a1.v.len:Int) - 1)):=by kernel_rfl
theorem zdL (n0:Nat) (a1:(Pt (Sl aQ))) (v3:Int):Nh E (n0+1) a1 v3 =
  cond (decide (v3 >= 0))
  (bf (decide (0<=v3/\v3 < (a1.v.len:Int))) (yT (dw.enc ((v3,(a1.v.get v3.toNat)):Int×aQ)) (some [])
 (Nh E n0 a1 (aO (v3 - 1)))))
  (some []):=by kernel_rfl
end
theorem zFF (E:Qz):qx ax 251 (ae.unI (zpc E)):=MO (Gn ay.nil (ak (by kernel_rfl)))
theorem bg {x:Int}(h1 : -9223372036854775808<=x) (h2:x<=9223372036854775807):aO x=x:=by
 have hb:IntKind.i64.bits=64:=rfl;have hs:IntKind.i64.signed=true:=rfl;unfold aO IntKind.wrap;rw[hb,hs];simp only[Bool.true_and,decide_eq_true_eq];split <;> omega
theorem bT {i:Nat}(h:i < 4611686018427387904):aO ((i:Int)+1)=((i+1:Nat):Int):=by rw[bg (by omega) (by omega)];omega
theorem Bf {i:Nat}(h:i < 4611686018427387904):aO ((i:Int) - 1)=(i:Int) - 1:=bg (by omega) (by omega)
section
variable {A ρ:Type}
theorem bn {r:ρ}{k:ρ->Option A} : (ae.ok r).T k=k r:=rfl
theorem bD {p:Prop} [Decidable p] {x:Option A}(h:p):bf (decide p) x=x:=by rw[decide_eq_true h];rfl
theorem zxF {p:Prop} [Decidable p] {x y:Option A}(h:p):cond (decide p) x y=x:=by rw[decide_eq_true h];rfl
theorem zxG {p:Prop} [Decidable p] {x y:Option A}(h : ¬ p):cond (decide p) x y=y:=by rw[decide_eq_false h];rfl
theorem kc {τ:Type}(f:τ->Option A) (b:Bool) (x y:τ):cond b (f x) (f y)=f (cond b x y):=by cases b <;> rfl
theorem two (Y s:Option A):∃ f:Bool->Option A,f true=Y/\f false=s:=⟨λ b=>cond b Y s,rfl,rfl⟩
theorem zdM (k:Bool->Option A) (a b:Bool):cond a (k b) (k false)=k (a && b):=by cases a <;> rfl
end
theorem dC {p:Nat->Bool}{n:Nat} : dR p n=true↔∀ i,i < n->p i=true:=by
 refine⟨λ h i hi=>Lh h i hi,λ h=>?_⟩
 induction n with
 | zero=>rfl
 | succ n ih=>simp only[dR,ih λ i hi=>h i (by omega),h n (by omega),Bool.and_self]
section
variable {A:Type}
theorem zxH {L : Nat → Int → Option A} {p : Nat → Bool} {m : Nat} {fin stop : Option A} (hm : m < 4611686018427387904)
    (hL:∀ n i,i < m->(∀ j,j < i->p j=true)->L (n+1) (i:Int)=cond (p i) (L n (aO ((i:Int)+1))) stop) (hE:∀ n,(∀ j,j < m->p j=true)->L (n+1) (m:Int)=fin) :
    ∀ n,m < n->L n 0=cond (dR p m) fin stop:=by
  have key:∀ (d i n:Nat),i+d=m->d < n->(∀ j,j < i->p j=true)->L n (i:Int)=cond (dR p m) fin stop:=by
    intro d
    induction d with
    | zero =>
      intro i n hi hn hp;obtain⟨n,rfl⟩:∃ n',n=n'+1:=⟨n - 1,by omega⟩;have e:i=m:=by omega
      subst e;rw[hE n hp,dC.2 hp];rfl
    | succ d ih =>
      intro i n hi hn hp;obtain⟨n,rfl⟩:∃ n',n=n'+1:=⟨n - 1,by omega⟩;rw[hL n i (by omega) hp];cases hi':p i with
      | true =>
        rw[cond_true,bT (by omega)];exact ih (i+1) n (by omega) (by omega) λ j hj=>by
          by_cases e:j=i
          · rw[e];exact hi'
          · exact hp j (by omega)
      | false =>
        have:dR p m=false:=by
          cases e:dR p m with
          | false=>rfl
          | true=>rw[dC.1 e i (by omega)] at hi';cases hi'
        rw[this];rfl
  intro n hn;exact key m 0 n (by omega) hn λ j hj=>absurd hj (by omega)
theorem loopA {L : Nat → Int → Option A} {p : Nat → Bool} {m : Nat} {fin stop : Option A} (hm : m < 4611686018427387904)
    (hL:∀ n i,i < m->L (n+1) (i:Int)=cond (p i) (L n (aO ((i:Int)+1))) stop) (hE:∀ n,L (n+1) (m:Int)=fin) :
    ∀ n,m < n->L n 0=cond (dR p m) fin stop:=zxH hm (λ n i hi _=>hL n i hi) λ n _=>hE n
end
theorem GH {p q:Nat->Bool}{n:Nat}(h:∀ i,i < n->p i=q i):dR p n=dR q n:=by
 rw[Bool.eq_iff_iff,dC,dC];exact⟨λ g i hi=>by rw[<- h i hi];exact g i hi,λ g i hi=>by rw[h i hi];exact g i hi⟩
def inB (x a b:Int):Bool:=decide (a<=x/\x<=b)
abbrev yX (C:Int×Int×Int->ae Bool):Prop:=∀ x a b,C (x,a,b)=.ok (inB x a b)
theorem s73 {E:E73} : yX (F73 E):=λ x a b=>ae.ext λ k=>by rw[e73,kc k,bn];congr 1;simp only[inB];grind
theorem s86 {E:E86} : yX (F86 E):=λ x a b=>ae.ext λ k=>by rw[e86,kc k,bn];congr 1;simp only[inB];grind
theorem zFG {E:Za} : yX (zh7 E):=λ x a b=>ae.ext λ k=>by rw[zEW,kc k,bn];congr 1;simp only[inB];grind
theorem zFH {E:Zd} : yX (zib E):=λ x a b=>ae.ext λ k=>by rw[e161,kc k,bn];congr 1;simp only[inB];grind
abbrev zpd (C:Int->ae Bool):Prop:=∀ x,C x=.ok (inB x (-1000000) 1000000)
theorem zFI {E:Y7}(Jc:yX E.qm):zpd (zh2 E):=λ x=>ae.ext λ k=>by rw[zEC];simp only[Jc,bn]
abbrev Big (N:Nat):Prop:=100000 < N
def stB (l:Sl aQ) (zdN:Int) (i:Nat):Bool :=
  inB (l.get i).Time 0 1000000 && inB (l.get i).dI.Low 0 (l.get i).dI.High && decide ((l.get i).dI.High ≤ aO (zdN.tdiv 2)) &&
    (decide (i=0) || decide ((l.get (i - 1)).Time < (l.get i).Time) && decide ((l.get (i - 1)).dI.Low<=(l.get i).dI.Low) && decide ((l.get (i - 1)).dI.High<=(l.get i).dI.High))
def nR (l:Sl aQ) (zdN:Int):Bool:=dR (stB l zdN) l.len && inB l.len 1 50
theorem Zl {i n:Nat}(h:i < n) (hn:n < 4611686018427387904) (h0:(i:Int) > 0):(0<=aO ((i:Int) - 1)/\aO ((i:Int) - 1) < (n:Int))/\(aO ((i:Int) - 1)).toNat=i - 1:=by
 rw[Bf (by omega)];omega
abbrev zpe (C:Sl aQ×Int->ae Bool):Prop:=∀ l p,l.len<=60->C (l,p)=.ok (nR l p)
theorem zFJ {E:UA}(N:Big E.N) (Jc:yX E.qm):zpe (zh3 E):=λ l p h=>ae.ext λ k=>by
 rw[zEE];refine (loopA (L:=λ n v=>A8 E n l p v k) (p:=stB l p) (m:=l.len) (fin:=k (inB l.len 1 50)) (stop:=k false) (by omega) (λ n i hi=>?_) (λ n=>?_) _ (by omega)).trans ?_
 ·obtain ⟨f, h1, h2⟩ := two (A8 E n l p (aO ((i : Int) + 1)) k) (k false);rw[zdB,bD (by omega),<- h1,<- h2];simp only[Jc,bn,Int.toNat_natCast];by_cases h0:(i:Int) > 0
  ·obtain ⟨p1, p2⟩ := Zl hi (by omega) h0;simp only[bD p1,p2,kc f];congr 1;simp only[stB,inB];grind
  ·simp only [decide_eq_false h0, cond_false, kc f];congr 1;simp only[stB,inB];grind
 ·rw[zdB];simp only[Jc,bn,Int.lt_irrefl,decide_false,cond_false]
 ·exact zdM k _ _
def lfP (p:af):Int:=aO (aO (aO (p.First - p.aZ) - p.dD)+p.bu.Low)
def rtP (p:af):Int:=aO (aO (aO (p.First+aO (aO (p.bM+1) * p.aZ))+p.dD)+p.bu.High)
def Xo (p:af):Prop:=(1<=p.Kind/\p.Kind<=3)/\(1<=p.View/\p.View<=2)/\(0<=p.Z/\p.Z<=100000)/\(-1000000<=p.First/\p.First<=1000000)/\(2<=p.aZ/\p.aZ<=100000)/\(1<=p.bM/\p.bM<=2000)/\(0<=p.dD/\p.dD<=100000) /\
 (-1000000<=p.bu.Low/\p.bu.Low<=p.bu.High/\p.bu.High<=1000000)/\(-1000000000<=p.Clock.Low/\p.Clock.Low<=p.Clock.High/\p.Clock.High<=1000000000)/\(0<=p.dH/\p.dH<=1000000)/\(0<=p.Least/\p.Least<=1000000)/\-1000000<=lfP p/\rtP p<=1000000
instance (p:af):Decidable (Xo p):=by unfold Xo;infer_instance
theorem vV {a b:Int}(ha:0<=a/\a<=10000) (hb:0<=b/\b<=100000):0<=a * b/\a * b<=1000000000 :=
 ⟨Int.mul_nonneg ha.1 hb.1,by have:=Int.mul_le_mul ha.2 hb.2 hb.1 (by omega);omega⟩
theorem zxI {p : af} (h1 : -1000000 ≤ p.First ∧ p.First ≤ 1000000) (h2 : 2 ≤ p.aZ ∧ p.aZ ≤ 100000) (h3 : 1 ≤ p.bM ∧ p.bM ≤ 2000) (h4 : 0 ≤ p.dD ∧ p.dD ≤ 100000)
    (h5 : -1000000<=p.bu.Low/\p.bu.Low<=p.bu.High/\p.bu.High<=1000000) :
    lfP p=p.First - p.aZ - p.dD+p.bu.Low/\rtP p=p.First+(p.bM+1) * p.aZ+p.dD+p.bu.High/\lfP p < rtP p:=by
  obtain⟨q1,q2⟩:=vV (a:=p.bM+1) (b:=p.aZ) (by omega) (by omega);have e1:lfP p=p.First - p.aZ - p.dD+p.bu.Low:=by
    unfold lfP;rw[bg (x:=p.First - p.aZ) (by omega) (by omega),bg (x:=p.First - p.aZ - p.dD) (by omega) (by omega),bg (by omega) (by omega)]
  have e2:rtP p=p.First+(p.bM+1) * p.aZ+p.dD+p.bu.High:=by
    unfold rtP;rw[bg (x:=p.bM+1) (by omega) (by omega),bg (x:=(p.bM+1) * p.aZ) (by omega) (by omega),bg (x:=p.First+(p.bM+1) * p.aZ) (by omega) (by omega),bg (x:=p.First+(p.bM+1) * p.aZ+p.dD) (by omega) (by omega),bg (by omega) (by omega)]
  exact⟨e1,e2,by omega⟩
def dB (p:af) (i:Nat):Bool:=inB (p.Dead.get i) 0 (aO (p.bM - 1)) && (decide (i=0) || decide (p.Dead.get (i - 1) < p.Dead.get i))
def Zm (p:af):Bool:=decide (Xo p) && cond (p.Kind == 2) (nR p.aQ p.aZ) (decide (p.aQ.len=0)) && decide (p.Dead.len<=100) && dR (dB p) p.Dead.len
def Few (p:af):Prop:=p.aQ.len<=60/\p.Dead.len<=110
abbrev zpf (C:af->ae Bool):Prop:=∀ p,Few p->C p=.ok (Zm p)
theorem zFK {E:Jo}(N:Big E.N) (Jc:yX E.qm) (zoQ:zpd E.Ot) (zoR:zpe E.c175):zpf (zhY E):=λ p h=>ae.ext λ k=>by
 have hl:=h.1;have hd:=h.2;have lp:pU E E.N p 0 k=k (dR (dB p) p.Dead.len):=by
  refine (loopA (L:=λ n v=>pU E n p v k) (p:=dB p) (m:=p.Dead.len) (fin:=k true) (stop:=k false) (by omega) (λ n i hi=>?_) (λ n=>?_) _ (by omega)).trans ?_
  ·obtain ⟨f, h1, h2⟩ := two (pU E n p (aO ((i : Int) + 1)) k) (k false);rw[zdw,bD (by omega),<- h1,<- h2];simp only[Jc,bn,Int.toNat_natCast];by_cases h0:(i:Int) > 0
   ·obtain ⟨p1, p2⟩ := Zl hi (by omega) h0;simp only[bD p1,bD (show 0<=(i:Int)/\(i:Int) < (p.Dead.len:Int) by omega),p2,kc f];congr 1;simp only[dB];grind
   ·simp only [decide_eq_false h0, cond_false, kc f];congr 1;simp only[dB];grind
  ·rw[zdw];simp only[Int.lt_irrefl,decide_false,cond_false]
  ·rw[kc k];congr 1;cases dR (dB p) p.Dead.len <;> rfl
 rw[zEu];simp only[zoN,zoO,zoP,Jc,zoQ,zoR _ _ hl,bn,lp,kc k];congr 1;have lr:=@zxI p;have e1:aO (aO (aO (p.First - p.aZ) - p.dD)+p.bu.Low)=lfP p:=rfl;have e2:aO (aO (aO (p.First+aO (aO (p.bM+1) * p.aZ))+p.dD)+p.bu.High)=rtP p:=rfl;simp only[e1,e2,Zm,Xo,inB];generalize nR p.aQ p.aZ=A;generalize dR (dB p) p.Dead.len=B
 grind (splits:=60)
def pV (s:au):Prop:=s.aj.len<=20/\∀ i,i < s.aj.len->Few (s.aj.get i)
def seB (s:au) (i:Nat):Bool:=Zm (s.aj.get i) && (decide (i=0) || decide ((s.aj.get (i - 1)).Z < (s.aj.get i).Z))
def dU (s:au):Bool:=inB s.aj.len 1 16 && dR (seB s) s.aj.len
abbrev QSe (C:au->ae Bool):Prop:=∀ s,pV s->C s=.ok (dU s)
theorem s61 {E:E61}(N:Big E.N) (Jc:yX E.qm) (zoG:zpf E.c124):QSe (F61 E):=λ s h=>ae.ext λ k=>by
 have hl:=h.1;rw[e61];have lp:Gt E E.N s 0 k=k (dR (seB s) s.aj.len):=by
  refine (loopA (L:=λ n v=>Gt E n s v k) (p:=seB s) (m:=s.aj.len) (fin:=k true) (stop:=k false) (by omega) (λ n i hi=>?_) (λ n=>?_) _ (by omega)).trans ?_
  ·obtain ⟨f, h1, h2⟩ := two (Gt E n s (aO ((i : Int) + 1)) k) (k false);rw[zmb,bD (by omega),<- h1,<- h2];simp only[Int.toNat_natCast,zoG _ (h.2 i hi),bn];by_cases h0:(i:Int) > 0
   ·obtain ⟨p1, p2⟩ := Zl hi (by omega) h0;simp only[bD p1,bD (show 0<=(i:Int)/\(i:Int) < (s.aj.len:Int) by omega),p2,kc f];congr 1;simp only[seB];grind
   ·simp only [decide_eq_false h0, cond_false, kc f];congr 1;simp only[seB];grind
  ·rw[zmb];simp only[Int.lt_irrefl,decide_false,cond_false]
  ·rw[kc k];congr 1;cases dR (seB s) s.aj.len <;> rfl
 simp only[Jc,bn,lp,kc k];congr 1;simp only[dU];cases inB s.aj.len 1 16 <;> rfl
/-! The program. -/
abbrev ziv (C:bZ×Int->ae Bool):Prop:=∀ x m,0<=m/\m<=1000000000->C (x,m)=.ok (decide (-m<=x.Low/\x.Low<=x.High/\x.High<=m))
theorem zFL {E:Ze}(jD:yX E.fJ):ziv (zid E):=λ x m h=>ae.ext λ k=>by
 rw[zFe];simp only[jD,bn,bg (x:=0 - m) (by omega) (by omega),kc k];congr 1;simp only[inB];grind
def shB (p:af):Bool:=decide ((1<=p.View/\p.View<=2)/\(0<=p.Z/\p.Z<=100000)/\(-1000000<=p.First/\p.First<=1000000)/\(2<=p.aZ/\p.aZ<=100000)/\(1<=p.bM/\p.bM<=2000)/\(0<=p.dD/\p.dD<=100000) /\
 (-1000000<=p.bu.Low/\p.bu.Low<=p.bu.High/\p.bu.High<=1000000)/\(-1000000000<=p.Clock.Low/\p.Clock.Low<=p.Clock.High/\p.Clock.High<=1000000000)/\(0<=p.dH/\p.dH<=1000000)/\(0<=p.Least/\p.Least<=1000000)/\-1000000<=lfP p/\rtP p<=1000000)
abbrev zpg (C:placed->ae Bool):Prop:=∀ p,C p=.ok (shB p.af)
theorem zFM {E:Zh}(jD:yX E.fJ) (Qx:ziv E.c164):zpg (zin E):=λ p=>ae.ext λ k=>by
 rw[zFr];simp only[jD,Qx _ _ (show (0:Int)<=1000000/\(1000000:Int)<=1000000000 by omega),Qx _ _ (show (0:Int)<=1000000000/\(1000000000:Int)<=1000000000 by omega),bn,kc k];congr 1;have e1:aO (aO (aO (p.af.First - p.af.aZ) - p.af.dD)+p.af.bu.Low)=lfP p.af:=rfl;have e2:aO (aO (aO (p.af.First+aO (aO (p.af.bM+1) * p.af.aZ))+p.af.dD)+p.af.bu.High)=rtP p.af:=rfl;simp only[e1,e2,shB,inB]
 grind (splits:=60)
abbrev Zn (C:placed->ae Bool):Prop:=∀ p,C p=.ok (decide (p.af.aQ.len=0))
theorem zFN {E:Zf} : Zn (zik E):=λ p=>ae.ext λ k=>by
 rw[e232,bn];congr 1;grind
theorem zFO {E:Zg} : Zn (zim E):=λ p=>ae.ext λ k=>by
 rw[e234,bn];congr 1;grind
abbrev zph (C:placed->ae Bool):Prop:=∀ q,Few q.af->C q=.ok (nR q.af.aQ q.af.aZ)
theorem zFP {E:UG}(N:Big E.N) (jD:yX E.fJ):zph (zil E):=λ q h=>ae.ext λ k=>by
 rw[e233];have h':=h.1;refine (loopA (L:=λ n v=>Bd E n q v k) (p:=stB q.af.aQ q.af.aZ) (m:=q.af.aQ.len) (fin:=k (inB q.af.aQ.len 1 50)) (stop:=k false) (by omega) (λ n i hi=>?_) (λ n=>?_) _ (by omega)).trans ?_
 ·obtain ⟨f, h1, h2⟩ := two (Bd E n q (aO ((i : Int) + 1)) k) (k false);rw[zdJ,bD (by omega),<- h1,<- h2];simp only[jD,bn,Int.toNat_natCast];by_cases h0:(i:Int) > 0
  ·obtain ⟨p1, p2⟩ := Zl hi (by omega) h0;simp only[bD p1,p2,kc f];congr 1;simp only[stB,inB];grind
  ·simp only [decide_eq_false h0, cond_false, kc f];congr 1;simp only[stB,inB];grind
 ·rw[zdJ];simp only[jD,bn,Int.lt_irrefl,decide_false,cond_false]
 ·exact zdM k _ _
abbrev zpi (C:placed->ae Bool):Prop:=∀ q,Few q.af->C q=.ok (Zm q.af)
theorem zFQ {E:Qw}(N:Big E.N) (jD:yX E.fJ) (zdI:zpg E.zbt) (zo4:Zn E.c232) (zo5:zph E.c233) (zo6:Zn E.c234):zpi (zie E):=λ q h=>ae.ext λ k=>by
 have lp:∀ q:placed,Few q.af->su E E.N q 0 k=k (decide (q.af.Dead.len<=100) && dR (dB q.af) q.af.Dead.len):=by
  intro q h;have h':=h.2;refine (loopA (L:=λ n v=>su E n q v k) (p:=dB q.af) (m:=q.af.Dead.len) (fin:=k (decide (q.af.Dead.len<=100))) (stop:=k false) (by omega) (λ n i hi=>?_) (λ n=>?_) _ (by omega)).trans ?_
  ·obtain ⟨f, h1, h2⟩ := two (su E n q (aO ((i : Int) + 1)) k) (k false);rw[zdH,bD (by omega),<- h1,<- h2];simp only[jD,bn,Int.toNat_natCast];by_cases h0:(i:Int) > 0
   ·obtain ⟨p1, p2⟩ := Zl hi (by omega) h0;simp only[bD p1,p2,kc f];congr 1;simp only[dB];grind
   ·simp only [decide_eq_false h0, cond_false, kc f];congr 1;simp only[dB];grind
  ·rw[zdH];simp only[Int.lt_irrefl,decide_false,cond_false];congr 1;grind
  ·rw[zdM,Bool.and_comm]
 rw[zFg];simp only[jD,bn];have fin:Zm q.af=(inB q.af.Kind 1 3 && shB q.af && cond (q.af.Kind == 2) (nR q.af.aQ q.af.aZ) (decide (q.af.aQ.len=0)) && (decide (q.af.Dead.len<=100) && dR (dB q.af) q.af.Dead.len)):=by
  simp only[Zm,Xo,shB,inB];generalize nR q.af.aQ q.af.aZ=A;generalize dR (dB q.af) q.af.Dead.len=B
  grind (splits:=60)
 rw[fin];cases hk:inB q.af.Kind 1 3 with
 | false=>exact zif _ _ _
 | true =>
  simp only[inB,decide_eq_true_eq] at hk;have hc:q.af.Kind=1\/q.af.Kind=2\/q.af.Kind=3:=by omega
  obtain⟨⟨kd,vw,z,fi,pi,st,sp,of,cl,ji,le,dr,de⟩,ix⟩:=q;rcases hc with e | e | e <;> simp only at e <;> subst e
  ·refine (zih E k ⟨⟨1, vw, z, fi, pi, st, sp, of, cl, ji, le, dr, de⟩, ix⟩).trans ?_;simp only[zdI _,zo4 _,bn,lp ⟨⟨1,vw,z,fi,pi,st,sp,of,cl,ji,le,dr,de⟩,ix⟩ h,kc k,UF];congr 1;grind
  ·refine (zii E k ⟨⟨2, vw, z, fi, pi, st, sp, of, cl, ji, le, dr, de⟩, ix⟩).trans ?_;simp only[zdI _,zo5 ⟨⟨2,vw,z,fi,pi,st,sp,of,cl,ji,le,dr,de⟩,ix⟩ h,bn,lp ⟨⟨2,vw,z,fi,pi,st,sp,of,cl,ji,le,dr,de⟩,ix⟩ h,kc k,UF];congr 1;grind
  ·refine (zij E k ⟨⟨3, vw, z, fi, pi, st, sp, of, cl, ji, le, dr, de⟩, ix⟩).trans ?_;simp only[zdI _,zo6 _,bn,lp ⟨⟨3,vw,z,fi,pi,st,sp,of,cl,ji,le,dr,de⟩,ix⟩ h,kc k,UF];congr 1;grind
theorem zFR {E:UE}(N:Big E.N) (zo1:zpi E.c201) (jD:yX E.fJ):QSe (zic E):=λ s h=>ae.ext λ k=>by
 rw[e160];have h':=h.1;refine (loopA (L:=λ n v=>Ba E n s v k) (p:=seB s) (m:=s.aj.len) (fin:=k (inB s.aj.len 1 16)) (stop:=k false) (by omega) (λ n i hi=>?_) (λ n=>?_) _ (by omega)).trans ?_
 ·obtain ⟨f, h1, h2⟩ := two (Ba E n s (aO ((i : Int) + 1)) k) (k false);rw[zdG,bD (by omega),<- h1,<- h2];simp only[Int.toNat_natCast,zo1 ⟨s.aj.get i,(i:Int)⟩ (h.2 i hi),bn];by_cases h0:(i:Int) > 0
  ·obtain ⟨p1, p2⟩ := Zl hi (by omega) h0;simp only[bD p1,p2,kc f];congr 1;simp only[seB];grind
  ·simp only [decide_eq_false h0, cond_false, kc f];congr 1;simp only[seB];grind
 ·rw[zdG];simp only[jD,bn,Int.lt_irrefl,decide_false,cond_false]
 ·rw[zdM,Bool.and_comm];rfl
abbrev zpj (C:au->ae Int):Prop:=∀ s,pV s->C s=.ok (cond (dU s) 0 2)
theorem zFS {E:Y9}(xG:QSe E.c160):zpj (zh6 E):=λ s h=>ae.ext λ k=>by
 rw[zES];simp only[xG s h,bn,kc k];congr 1;cases dU s <;> rfl
theorem jW {A:Type}{X:Nat->Nat->Option A}{m:Nat}{fin:Option A}(hL:∀ n i,i < m->X (n+1) i=X n (i+1)) (hE:∀ n,X (n+1) m=fin):∀ n,m < n->X n 0=fin:=by
 have key:∀ d i n,i+d=m->d < n->X n i=fin:=by
  intro d
  induction d with
  | zero =>
   intro i n hi hn;obtain⟨n,rfl⟩:∃ n',n=n'+1:=⟨n - 1,by omega⟩;have e:i=m:=by omega
   subst e;exact hE n
  | succ d ih =>
   intro i n hi hn;obtain⟨n,rfl⟩:∃ n',n=n'+1:=⟨n - 1,by omega⟩;rw[hL n i (by omega)];exact ih (i+1) n (by omega) (by omega)
 intro n hn;exact key m 0 n (by omega) hn
theorem qL {s:au}(h:dU s=true):1<=s.aj.len/\s.aj.len<=16:=by
 simp only[dU,inB,fM,decide_eq_true_eq] at h;omega
theorem GI {s:au}(h:dU s=true){i:Nat}(hi:i < s.aj.len):Zm (s.aj.get i)=true:=by
 simp only[dU,fM,dC] at h;have:=h.2 i hi;simp only[seB,fM] at this;exact this.1
theorem zxJ {p:af}(h:Zm p=true):Xo p:=by
 simp only[Zm,fM,decide_eq_true_eq] at h;exact h.1.1.1
theorem vW {s:au}(h:dU s=true){i:Nat}(hi:i < s.aj.len):Xo (s.aj.get i):=zxJ (GI h hi)
def knB (p:af) (h:bz):Bool:=cond (p.Kind == 2) (decide (h.iO=1) && inB h.aQ 0 1000000) (cond (p.Kind == 3) (decide (h.aQ=0) && decide (h.Time=0)) (decide (h.aQ=0)))
def lvB (p:af) (h:bz):Bool:=dR (λ j=>!inB (p.Dead.get j) h.Channel (h.Channel+h.iO - 1)) p.Dead.len
def hpB (p:af) (h:bz):Bool:=inB h.Channel 0 (p.bM - 1) && inB h.iO 1 (p.bM - h.Channel) && inB h.xR p.Least 1000000 && inB h.Time (-1000000000) 1000000000 && lvB p h && knB p h
def jX (s:au) (h:bz):Bool:=decide (0<=h.af/\h.af < s.aj.len) && hpB (s.aj.get h.af.toNat) h
abbrev ziw (C:af×Int->ae Bool):Prop:=∀ p c,Few p->C (p,c)=.ok (!dR (λ j=>!decide (p.Dead.get j=c)) p.Dead.len)
theorem zFT {E:Ux}(N:Big E.N):ziw (zh0 E):=λ p c h=>ae.ext λ k=>by
 have hd:=h.2;rw[e137];refine (loopA (L:=λ n v=>Gw E n p c v k) (p:=λ j=>!decide (p.Dead.get j=c)) (m:=p.Dead.len) (fin:=k false) (stop:=k true) (by omega) (λ n i hi=>?_) (λ n=>?_) _ (by omega)).trans ?_
 ·obtain ⟨f, h1, h2⟩ := two (Gw E n p c (aO ((i : Int) + 1)) k) (k true);rw[zdz,bD (by omega),<- h1,<- h2];simp only[Int.toNat_natCast,kc f];congr 1;grind
 ·rw[zdz];simp only[Int.lt_irrefl,decide_false,cond_false]
 ·cases dR (λ j=>!decide (p.Dead.get j=c)) p.Dead.len <;> rfl
theorem zxL {p:af}{h:bz}(hm:0<=h.iO):dR (λ i=>dR (λ j=>!decide (p.Dead.get j=h.Channel+(i:Int))) p.Dead.len) h.iO.toNat=lvB p h:=by
 rw[Bool.eq_iff_iff];simp only[lvB,dC,Bool.not_eq_true',decide_eq_false_iff_not,inB];constructor
 ·intro h1 j hj h2;have:=h1 (p.Dead.get j - h.Channel).toNat (by omega) j hj;omega
 ·intro h1 i hi j hj h2;exact h1 j hj (by omega)
abbrev zpk (C:au×bz->ae Bool):Prop:=∀ s h,pV s->dU s=true->C (s,h)=.ok (jX s h)
theorem zFU {E:Uy}(N:Big E.N) (Jc:yX E.qm) (Uz:ziw E.Jw):zpk (zh1 E):=λ s h hs hb=>ae.ext λ k=>by
 rw[e143,bn];have hl:=qL hb;simp only[Jc,bn,bg (x:=(s.aj.len:Int) - 1) (by omega) (by omega)];by_cases hp:0<=h.af/\h.af < s.aj.len
 ·have hn := vW hb (i := h.af.toNat) (by omega);have hf:=hs.2 h.af.toNat (by omega);have e1:inB h.af 0 (s.aj.len - 1)=true:=by simp only[inB,decide_eq_true_eq];omega
  simp only[e1,Bool.not_true,cond_false,bD hp,jX,decide_eq_true hp,Bool.true_and];obtain⟨_,_,_,_,_,hst,_⟩:=hn;simp only[bg (x:=(s.aj.get h.af.toNat).bM - 1) (by omega) (by omega),hpB];cases c1:inB h.Channel 0 ((s.aj.get h.af.toNat).bM - 1) with
  | false=>rfl
  | true =>
  simp only[inB,decide_eq_true_eq] at c1;simp only[Bool.not_true,cond_false,Bool.true_and,bg (x:=(s.aj.get h.af.toNat).bM - h.Channel) (by omega) (by omega)];cases c2:inB h.iO 1 ((s.aj.get h.af.toNat).bM - h.Channel) with
  | false=>rfl
  | true =>
  simp only[inB,decide_eq_true_eq] at c2;simp only[Bool.not_true,cond_false,Bool.true_and];cases inB h.xR (s.aj.get h.af.toNat).Least 1000000 with
  | false=>rfl
  | true =>
  cases inB h.Time (-1000000000) 1000000000 with
  | false=>rfl
  | true =>
  simp only[Bool.not_true,cond_false,Bool.true_and];refine (loopA (L:=λ n v=>MZ E n s h v k) (p:=λ i=>dR (λ j=>!decide ((s.aj.get h.af.toNat).Dead.get j=h.Channel+(i:Int))) (s.aj.get h.af.toNat).Dead.len) (m:=h.iO.toNat) (fin:=k (knB (s.aj.get h.af.toNat) h)) (stop:=k false) (by omega) (λ n i hi=>?_) (λ n=>?_) _ (by omega)).trans ?_
  ·rw [zdA, decide_eq_true (show (i : Int) < h.iO by omega), cond_true, bg (x := h.Channel + i) (by omega) (by omega), Uz _ _ hf, bn];cases dR (λ j=>!decide ((s.aj.get h.af.toNat).Dead.get j=h.Channel+(i:Int))) (s.aj.get h.af.toNat).Dead.len <;> rfl
  ·rw [zdA, decide_eq_false (show ¬ ((h.iO.toNat : Int) < h.iO) by omega), cond_false];simp only[Jc,bn,kc k];congr 1;simp only[knB,inB];grind
  ·rw[zdM,zxL (by omega)]
 ·have e1 : inB h.af 0 (s.aj.len - 1) = false := by simp only [inB, decide_eq_false_iff_not]; omega
  simp only[e1,Bool.not_false,cond_true,jX,decide_eq_false hp,Bool.false_and]
def ofP (s:au) (h:bz):placed:=cond (decide (0<=h.af/\h.af < s.aj.len)) ⟨s.aj.get h.af.toNat,h.af⟩ ⟨⟨0,0,0,0,0,0,0,⟨0,0⟩,⟨0,0⟩,0,0,⟨0,λ _=>default⟩,⟨0,λ _=>default⟩⟩,0⟩
abbrev Zo (C:au×bz->ae (placed×Bool)):Prop:=∀ s h,pV s->dU s=true->C (s,h)=.ok (ofP s h,jX s h)
theorem zFV {E:UD}(N:Big E.N) (jD:yX E.fJ):Zo (zia E):=λ s h hs hb=>ae.ext λ k=>by
 rw[zE6,bn];have hl:=qL hb;simp only[jD,bn,bg (x:=(s.aj.len:Int) - 1) (by omega) (by omega)];by_cases hp:0<=h.af/\h.af < s.aj.len
 ·have hn := vW hb (i := h.af.toNat) (by omega);have hf:=hs.2 h.af.toNat (by omega);have e1:inB h.af 0 (s.aj.len - 1)=true:=by simp only[inB,decide_eq_true_eq];omega
  simp only[e1,Bool.not_true,cond_false,bD hp,jX,decide_eq_true hp,Bool.true_and,ofP,cond_true];obtain⟨_,_,_,_,_,hst,_⟩:=hn;have hd:=hf.2;simp only[bg (x:=(s.aj.get h.af.toNat).bM - 1) (by omega) (by omega),hpB];cases c1:inB h.Channel 0 ((s.aj.get h.af.toNat).bM - 1) with
  | false=>rfl
  | true =>
  simp only[inB,decide_eq_true_eq] at c1;simp only[Bool.not_true,cond_false,Bool.true_and,bg (x:=(s.aj.get h.af.toNat).bM - h.Channel) (by omega) (by omega)];cases c2:inB h.iO 1 ((s.aj.get h.af.toNat).bM - h.Channel) with
  | false=>rfl
  | true =>
  simp only[inB,decide_eq_true_eq] at c2;simp only[Bool.not_true,cond_false,Bool.true_and];cases inB h.xR (s.aj.get h.af.toNat).Least 1000000 with
  | false=>rfl
  | true =>
  cases c3:inB h.Time (-1000000000) 1000000000 with
  | false=>rfl
  | true =>
  simp only[Bool.not_true,cond_false,Bool.true_and];refine (loopA (L:=λ n v=>Nc E n s h v k) (p:=λ j=>!inB ((s.aj.get h.af.toNat).Dead.get j) h.Channel (h.Channel+h.iO - 1)) (m:=(s.aj.get h.af.toNat).Dead.len) (fin:=k (⟨s.aj.get h.af.toNat,h.af⟩,knB (s.aj.get h.af.toNat) h)) (stop:=k (⟨s.aj.get h.af.toNat,h.af⟩,false)) (by omega) (λ n i hi=>?_) (λ n=>?_) _ (by omega)).trans ?_
  ·rw [zdF, decide_eq_true (show (i : Int) < _ by omega), cond_true, bD (by omega), jD, bn, bg (x := h.Channel + h.iO) (by omega) (by omega), bg (x := h.Channel + h.iO - 1) (by omega) (by omega), Int.toNat_natCast];cases inB ((s.aj.get h.af.toNat).Dead.get i) h.Channel (h.Channel+h.iO - 1) <;> rfl
  ·rw [zdF]; simp only [Int.lt_irrefl, decide_false, cond_false, jD, bn, kc k];congr 1;simp only[knB,inB]
   grind
  ·simp only [lvB];cases dR (λ j=>!inB ((s.aj.get h.af.toNat).Dead.get j) h.Channel (h.Channel+h.iO - 1)) (s.aj.get h.af.toNat).Dead.len <;> rfl
 ·have e1 : inB h.af 0 (s.aj.len - 1) = false := by simp only [inB, decide_eq_false_iff_not]; omega
  simp only[e1,Bool.not_false,cond_true,jX,decide_eq_false hp,Bool.false_and,ofP,cond_false]
abbrev zix (C:au×bz->ae Bool):Prop:=∀ s h,pV s->C (s,h)=.ok (dU s && jX s h)
theorem zFW {E:Zi}(xG:QSe E.c160) (h112:Zo E.qh):zix (zio E):=λ s h hs=>ae.ext λ k=>by
 rw[zFv,xG s hs,bn,bn];cases hb:dU s with
 | false=>rfl
 | true=>simp only[Bool.not_true,cond_false,h112 s h hs hb,bn,Bool.true_and]
abbrev zpl (C:au×bz->ae Int):Prop:=∀ s h,pV s->C (s,h)=.ok (cond (dU s && jX s h) 0 2)
theorem zFX {E:Zb}(UC:zix E.Ou):zpl (zh8 E):=λ s h hs=>ae.ext λ k=>by
 rw[e138,UC s h hs,bn,bn];cases dU s && jX s h <;> rfl
def qM (l : Sl aQ) (t : Int) : Nat → Int
  | 0=>0
  | n+1=>cond (decide ((l.get n).Time<=t)) (l.get n).dI.Low (qM l t n)
def uX (l : Sl aQ) (t z : Int) : Nat → Int
  | 0=>z
  | d+1=>cond (decide ((l.get (l.len - 1 - d)).Time >= t)) (l.get (l.len - 1 - d)).dI.High (uX l t z d)
def pW (p:af) (t:Int):Int×Int:=(qM p.aQ (aO (t - p.dH)) p.aQ.len,uX p.aQ (aO (t+p.dH)) (aO (p.aZ.tdiv 2)) p.aQ.len)
abbrev zpm (C:af×Int->ae (Int×Int)):Prop:=∀ p t,Few p->C (p,t)=.ok (pW p t)
theorem zFY {E:Qs}(N:Big E.N):zpm (zhZ E):=λ p t h=>ae.ext λ k=>by
 have hd:=h.1;rw[zEw,bn];refine jW (X:=λ n i=>Gu E n p t (qM p.aQ (aO (t - p.dH)) i) (aO (p.aZ.tdiv 2)) (i:Int) k) (m:=p.aQ.len) (λ n i hi=>?_) (λ n=>?_) _ (by omega)
 ·rw [zdx, decide_eq_true (show (i : Int) < _ by omega), cond_true, bD (by omega), bD (by omega), bT (by omega), Int.toNat_natCast];simp only[qM];cases decide ((p.aQ.get i).Time<=aO (t - p.dH)) <;> rfl
 ·rw [zdx]; simp only [Int.lt_irrefl, decide_false, cond_false];rw[show aO ((p.aQ.len:Int) - 1)=aO ((p.aQ.len:Int) - 1) - ((0:Nat):Int) by simp];refine jW (X:=λ n i=>Gv E n p t (qM p.aQ (aO (t - p.dH)) p.aQ.len) (uX p.aQ (aO (t+p.dH)) (aO (p.aZ.tdiv 2)) i) (aO ((p.aQ.len:Int) - 1) - (i:Int)) k) (m:=p.aQ.len) (λ n i hi=>?_) (λ n=>?_) _ (by omega)
  ·rw [Bf (by omega), zdy, decide_eq_true (show (p.aQ.len : Int) - 1 - i ≥ 0 by omega), cond_true, bD (by omega), bD (by omega), bg (x := (p.aQ.len : Int) - 1 - i - 1) (by omega) (by omega), show ((p.aQ.len : Int) - 1 - i).toNat = p.aQ.len - 1 - i by omega];simp only[uX];cases decide ((p.aQ.get (p.aQ.len - 1 - i)).Time >= aO (t+p.dH)) <;> simp only[cond_true,cond_false] <;> congr 1 <;> omega
  ·rw[Bf (by omega),zdy,decide_eq_false (by omega),cond_false];rfl
def bk (l : Sl aQ) : Nat → List (Int × aQ)
  | 0=>[]
  | n+1=>((n:Int),l.get n) :: bk l n
theorem yY {δ ε : Type} [dw δ] [dw ε] {R : List PA → YO} {x : δ} {l : List ε} (h : R (dw.enc x) = some (l.map dw.enc)) (hc : ∀ y : ε, dw.ck (α := ε) (dw.enc y) = true) (hd : ∀ y : ε, dw.dec (dw.enc y) = y) :
  (ae.tyI (λ c=>.opt (R c)) x:ae (List ε))=.ok l:=by
 refine ae.ext λ k=>?_;show (ae.opt (R (dw.enc x))).T _=_;rw[h];show (ae.chk ((l.map dw.enc).all (dw.ck (α:=ε))) (ae.ok ((l.map dw.enc).map dw.dec))).T k=k l;rw[show (l.map dw.enc).all (dw.ck (α:=ε))=true by simp[hc],show (l.map dw.enc).map dw.dec=l by rw[List.map_map];exact (List.map_congr_left λ y _=>hd y).trans (List.map_id l)];rfl
abbrev zpn (I:Pt (Sl aQ)->ae (List (Int×aQ))):Prop:=∀ l,l.v.len<=60->I l=.ok (bk l.v l.v.len)
theorem zFZ {E:Qz}(N:Big E.N):zpn (zpc E):=λ l h=>by
 refine yY ?_ (λ _=>rfl) (λ _=>rfl);rw[e251];have key:∀ d n,d<=l.v.len->d < n->Nh E n l ((d:Int) - 1)=some ((bk l.v d).map dw.enc):=by
  intro d
  induction d with
  | zero =>
   intro n _ hn;obtain⟨n,rfl⟩:∃ n',n=n'+1:=⟨n - 1,by omega⟩;rw[zdL,decide_eq_false (by omega)];rfl
  | succ d ih =>
   intro n hd hn;obtain⟨n,rfl⟩:∃ n',n=n'+1:=⟨n - 1,by omega⟩;rw[zdL,decide_eq_true (by omega),cond_true,bD (by omega),show ((d+1:Nat):Int) - 1=(d:Int) by omega,Bf (by omega),ih n (by omega) (by omega),Int.toNat_natCast];rfl
 rw[Bf (by omega)];exact key _ _ (iZ _) (by omega)
abbrev zpo (C:placed×Int->ae (Int×Int)):Prop:=∀ q t,Few q.af->C (q,t)=.ok (pW q.af t)
theorem zF0 {E:Qy}(N:Big E.N) (zF1:zpn E.zlH):zpo (zis E):=λ q t h=>ae.ext λ k=>by
 have hd:=h.1;rw[e224,bn];refine jW (X:=λ n i=>GG E n q t (qM q.af.aQ (aO (t - q.af.dH)) i) (i:Int) (aO (q.af.aZ.tdiv 2)) k) (m:=q.af.aQ.len) (λ n i hi=>?_) (λ n=>?_) _ (by omega)
 ·rw [zdK, decide_eq_true (show (i : Int) < _ by omega), cond_true, bD (by omega), bT (by omega), Int.toNat_natCast];simp only[qM];cases decide ((q.af.aQ.get i).Time<=aO (t - q.af.dH)) <;> rfl
 ·rw [zdK]; simp only [Int.lt_irrefl, decide_false, cond_false];rw[zF1 _ hd,bn];have key:∀ d,d<=q.af.aQ.len->Be E (bk q.af.aQ d) q t (qM q.af.aQ (aO (t - q.af.dH)) q.af.aQ.len) (uX q.af.aQ (aO (t+q.af.dH)) (aO (q.af.aZ.tdiv 2)) (q.af.aQ.len - d)) k=k (pW q.af t):=by
   intro d
   induction d with
   | zero=>intro _;rw[bk,zit];rfl
   | succ d ih =>
    intro hi;rw[bk,zpb];have e:q.af.aQ.len - d=(q.af.aQ.len - (d+1))+1:=by omega
    have ih:=ih (by omega);rw[e] at ih;simp only[uX,show q.af.aQ.len - 1 - (q.af.aQ.len - (d+1))=d by omega] at ih;revert ih;cases decide ((q.af.aQ.get d).Time >= aO (t+q.af.dH)) <;> exact id
  have:=key q.af.aQ.len (iZ _);rwa[Nat.sub_self] at this
def gate (p:af) (a b:Int):aC:=⟨p.Z,aO (a+p.bu.Low),aO (b+p.bu.High)⟩
def gaP (p:af) (h:bz):Sl aC :=
  cond (p.Kind != 2)
    (cond (decide (aO (aO (p.First + aO (aO (aO (h.Channel + h.iO) - 1) * p.aZ)) - p.dD) > aO (aO (p.First + aO (aO (h.Channel + 1) * p.aZ)) + p.dD))) ⟨0, fun _ => default⟩
      ⟨1,λ _=>gate p (aO (aO (p.First+aO (aO (aO (h.Channel+h.iO) - 1) * p.aZ)) - p.dD)) (aO (aO (p.First+aO (aO (h.Channel+1) * p.aZ))+p.dD))⟩)
    (cond (decide ((gate p (aO (aO (p.First + aO (h.Channel * p.aZ)) - (pW p h.aQ).2)) (aO (aO (p.First + aO (h.Channel * p.aZ)) - (pW p h.aQ).1))).High ≥ (gate p (aO (aO (p.First + aO (h.Channel * p.aZ)) + (pW p h.aQ).1)) (aO (aO (p.First + aO (h.Channel * p.aZ)) + (pW p h.aQ).2))).Low))
      ⟨1,λ _=>⟨p.Z,(gate p (aO (aO (p.First+aO (h.Channel * p.aZ)) - (pW p h.aQ).2)) (aO (aO (p.First+aO (h.Channel * p.aZ)) - (pW p h.aQ).1))).Low,(gate p (aO (aO (p.First+aO (h.Channel * p.aZ))+(pW p h.aQ).1)) (aO (aO (p.First+aO (h.Channel * p.aZ))+(pW p h.aQ).2))).High⟩⟩
      ⟨2,Qr [gate p (aO (aO (p.First+aO (h.Channel * p.aZ)) - (pW p h.aQ).2)) (aO (aO (p.First+aO (h.Channel * p.aZ)) - (pW p h.aQ).1)),gate p (aO (aO (p.First+aO (h.Channel * p.aZ))+(pW p h.aQ).1)) (aO (aO (p.First+aO (h.Channel * p.aZ))+(pW p h.aQ).2))]⟩)
theorem ziy (p:af) (h:bz):(gaP p h).len<=2:=by
 have key:∀ (a b c:Bool) (x y z w:Sl aC),x.len<=2->y.len<=2->z.len<=2->w.len<=2->(cond a (cond b x y) (cond c z w)).len<=2:=by
  intro a b c x y z w h1 h2 h3 h4;cases a <;> cases b <;> cases c <;> assumption
 exact key _ _ _ _ _ _ _ (Nat.zero_le _) (by simp) (by simp) (by simp)
abbrev zpp (C:placed×Int×Int->ae aC):Prop:=∀ q a b,C (q,a,b)=.ok (gate q.af a b)
theorem zF2 {E:Zk} : zpp (zir E):=λ q a b=>ae.ext λ k=>e223 E k q a b
abbrev zpq (C:placed×bz->ae (Sl aC)):Prop:=∀ q h,Few q.af->C (q,h)=.ok (gaP q.af h)
theorem zF3 {E:Zj}(zo7:zpp E.zbs) (zo8:zpo E.zlA):zpq (ziq E):=λ q h hf=>ae.ext λ k=>by
 rw[e189,bn];simp only[zo7,zo8 _ _ hf,bn,kc k];rfl
def xW (s:au) (h:bz):Sl aC:=gaP (s.aj.get h.af.toNat) h
abbrev Q75 (C:au×bz->ae (Sl aC)):Prop:=∀ s h,pV s->0<=h.af/\h.af < (s.aj.len:Int)->C (s,h)=.ok (xW s h)
theorem s75 {E:E75}(zoJ:zpm E.zlj):Q75 (F75 E):=λ s h hs hp=>ae.ext λ k=>by
 rw[e75,bn,bD hp];simp only[zoJ _ _ (hs.2 h.af.toNat (by omega)),bn,kc k];rfl
theorem GK {s:au}{h:bz}(hh:jX s h=true):0<=h.af/\h.af < s.aj.len:=by
 simp only[jX,fM,decide_eq_true_eq] at hh;exact hh.1
theorem zdO {s:au}{h:bz}(hh:jX s h=true):ofP s h=⟨s.aj.get h.af.toNat,h.af⟩:=by
 unfold ofP;rw[decide_eq_true (GK hh)];rfl
abbrev zpr (C:au×bz->ae (Sl aC×Int)):Prop:=∀ s h,pV s->C (s,h)=.ok (cond (dU s && jX s h) (cond (((xW s h).len:Int) == 0) (⟨0,λ _=>default⟩,5) (xW s h,0)) (⟨0,λ _=>default⟩,2))
theorem zF4 {E:Zc}(UC:zix E.Ou) (h112:Zo E.qh) (zo0:zpq E.zls):zpr (zh9 E):=λ s h hs=>ae.ext λ k=>by
 rw[zE4,UC s h hs,bn,bn];cases hb:dU s && jX s h with
 | false=>rfl
 | true =>
  rw[fM] at hb;have hp:=GK hb.2;simp only[Bool.not_true,cond_false,h112 s h hs hb.1,bn,zdO hb.2,zo0 ⟨s.aj.get h.af.toNat,h.af⟩ h (hs.2 _ (by omega)),kc k];rfl
def lV (r:bP):Bool:=inB r.vC 1 16 && inB r.xU 0 16
abbrev Q62 (C:bP->ae Bool):Prop:=∀ r,C r=.ok (lV r)
theorem s62 {E:E62}(h86:yX E.c86):Q62 (F62 E):=λ r=>ae.ext λ k=>by
 rw[e62];simp only[h86,bn,kc k];congr 1;simp only[lV];cases inB r.vC 1 16 <;> rfl
def vwB (x:Int):Bool:=decide (x=1\/x=2)
abbrev Q60 (C:au×bP->ae Int):Prop:=∀ s r,pV s->C (s,r)=.ok (cond (dU s && lV r) 0 2)
theorem s60 {E:E60}(h122:zpj E.zlg) (zoE:yX E.zgm):Q60 (F60 E):=λ s r h=>ae.ext λ k=>by
 rw[e60];simp only[h122 s h,zoE,bn,kc k,lV];congr 1;cases dU s <;> cases inB r.vC 1 16 <;> cases inB r.xU 0 16 <;> rfl
def yZ (s:au) (l:Sl bz):Bool:=dR (λ i=>jX s (l.get i)) l.len
abbrev Q85 (C:au×Sl bz->ae Bool):Prop:=∀ s l,pV s->dU s=true->l.len<=40->C (s,l)=.ok (yZ s l)
theorem s85 {E:E85}(N:Big E.N) (zoL:zpk E.c143):Q85 (F85 E):=λ s l hs hb hl=>ae.ext λ k=>by
 rw[e85];refine (loopA (L:=λ n v=>Xl E n s l v k) (p:=λ i=>jX s (l.get i)) (m:=l.len) (fin:=k true) (stop:=k false) (by omega) (λ n i hi=>?_) (λ n=>?_) _ (by omega)).trans ?_
 ·rw [zmf, decide_eq_true (show (i : Int) < _ by omega), cond_true, bD (by omega), Int.toNat_natCast, zoL _ _ hs hb, bn];cases jX s (l.get i) <;> rfl
 ·rw[zmf];simp only[Int.lt_irrefl,decide_false,cond_false]
 ·rw[bn];simp only[yZ];cases dR (λ i=>jX s (l.get i)) l.len <;> rfl
def gw {α : Type} [bG α] (z f : Nat → α) : Nat → Sl α
  | 0=>⟨0,z⟩
  | n+1=>⟨n+1,jb n (gw z f n).get λ _=>f n⟩
theorem GL {α:Type} [bG α] (z f:Nat->α) (n:Nat):(gw z f n).len=n:=by cases n <;> rfl
theorem UH {α : Type} [bG α] [qi α] {z f : Nat → α} : ∀ {n i : Nat}, i < n → (gw z f n).get i = f i
  | n+1,i,h=>by
    show jb n (gw z f n).get (λ _=>f n) i=f i;rw[gX];by_cases hi:n<=i
    · rw[if_pos hi,show i=n by omega]
    · rw[if_neg hi];exact UH (by omega)
theorem ziz {n b:Nat}(hn:n<=1000000) (hb:b<=1000):room n b=true:=by
 refine decide_eq_true ⟨?_,by omega⟩;have:=Nat.mul_le_mul hn hb;omega
theorem jl {A:Type}{n b:Nat}{x:Option A}(hn:n<=1000000) (hb:b<=1000):bf (room n b) x=x:=by rw[ziz hn hb];rfl
theorem ziA {p:af}{h:bz} : (gaP p h).len=0->gaP p h=⟨0,λ _=>default⟩:=by
 have key:∀ (a b c:Bool) (y z w:Sl aC),0 < y.len->0 < z.len->0 < w.len->(cond a (cond b (⟨0,λ _=>default⟩:Sl aC) y) (cond c z w)).len=0->cond a (cond b (⟨0,λ _=>default⟩:Sl aC) y) (cond c z w)=⟨0,λ _=>default⟩:=by
  intro a b c y z w h2 h3 h4 h;cases a <;> cases b <;> cases c <;> simp only[cond_true,cond_false] at h ⊢ <;> omega
 exact key _ _ _ _ _ _ (by simp) (by simp) (by simp)
def z0:Nat->aC:=λ _=>⟨0,0,0⟩
def evG (s:au) (l:Sl bz):Sl (Sl aC):=gw (λ _=>⟨0,z0⟩) (λ i=>xW s (l.get i)) l.len
theorem Xp (s:au) (l:Sl bz):(evG s l).len=l.len:=GL _ _ _
theorem Nj {s:au}{l:Sl bz}{i:Nat}(h:i < l.len):(evG s l).get i=xW s (l.get i):=UH h
def iM (s:au) (r:bP) (l:Sl bz):Pt aW:=⟨⟨s,l,evG s l,r⟩⟩
def qN (s:au) (r:bP) (l:Sl bz):Int:=cond (decide (l.len > 24)) 3 (cond (dU s && lV r && yZ s l) 0 2)
def opn (s:au) (r:bP) (l:Sl bz):Int ⊕ (Pt aW×Int):=cond (qN s r l == 0) (.inr (iM s r l,0)) (.inl (qN s r l))
abbrev Q78 (C:au×bP×Sl bz->ae (Int ⊕ (Pt aW×Int))):Prop:=∀ s r l,pV s->l.len<=40->C (s,r,l)=.ok (opn s r l)
theorem s78 {E:E78}(N:Big E.N) (h60:Q60 E.c60) (zoU:zpl E.c138) (zoV:zpr E.c139):Q78 (F78 E):=λ s r l hs hl=>ae.ext λ k=>by
 rw[e78,bn];by_cases uf:(l.len:Int) > 24
 ·rw [decide_eq_true uf];have:qN s r l=3:=by unfold qN;rw[decide_eq_true (show l.len > 24 by omega)];rfl
  simp only[opn,this];rfl
 ·rw [decide_eq_false uf, cond_false, h60 s r hs, bn];have e1:qN s r l=cond (dU s && lV r && yZ s l) 0 2:=by unfold qN;rw[decide_eq_false (show ¬ l.len > 24 by omega)];rfl
  cases hb:dU s && lV r with
  | false =>
   have:qN s r l=2:=by rw[e1,hb];rfl
   simp only[opn,this];rfl
  | true =>
   have hsb:=(fM _ _ ▸ hb).1;refine (loopA (L:=λ n v=>Qu E n s r l v (gw (λ _=>⟨0,z0⟩) (λ i=>xW s (l.get i)) v.toNat) k) (p:=λ i=>jX s (l.get i)) (m:=l.len) (fin:=k (.inr (iM s r l,0))) (stop:=k (.inl 2)) (by omega) (λ n i hi=>?_) (λ n=>?_) _ (by omega)).trans ?_
   ·rw [zmi, decide_eq_true (show (i : Int) < _ by omega), cond_true, bD (by omega), Int.toNat_natCast, zoU _ _ hs, bn, hsb, Bool.true_and];cases hh:jX s (l.get i) with
    | false=>rfl
    | true =>
     rw[zoV _ _ hs,bn,hsb,hh];have e2:Qv E n s r l (xW s (l.get i)) (i:Int) (gw (λ _=>⟨0,z0⟩) (λ i=>xW s (l.get i)) i) k=Qu E n s r l (aO ((i:Int)+1)) (gw (λ _=>⟨0,z0⟩) (λ i=>xW s (l.get i)) (aO ((i:Int)+1)).toNat) k:=by
      rw[zxs,GL,jl (by omega) (by omega),bT (by omega),Int.toNat_natCast];rfl
     by_cases h0:(xW s (l.get i)).len=0
     ·have e3 : ((xW s (l.get i)).len : Int) == 0 := by rw [h0]; rfl
      simp only[e3,Bool.and_self,cond_true];show Qv E n s r l ⟨0,λ _=>default⟩ _ _ k=_;rw[<- ziA (p:=s.aj.get (l.get i).af.toNat) (h:=l.get i) h0];exact e2
     ·have e3 : (((xW s (l.get i)).len : Int) == 0) = false := by rw [dqU]; omega
      simp only[e3,Bool.and_self,cond_true,cond_false];exact e2
   ·rw[zmi];simp only[Int.lt_irrefl,decide_false,cond_false,Int.toNat_natCast];rfl
   ·have : qN s r l = cond (yZ s l) 0 2 := by rw [e1, hb]; rfl
    simp only[opn,this,yZ];cases dR (λ i=>jX s (l.get i)) l.len <;> rfl
def usB (l:Sl bz) (w:Sl Int) (n:Nat) (p:Int):Bool:=dR (λ j=>!decide ((l.get (w.get j).toNat).af=p)) n
abbrev Q87 (C:Sl bz×Sl Int×Int->ae Bool):Prop:=∀ l w p,w.len<=100->(∀ j,j < w.len->0<=w.get j/\w.get j < l.len)->C (l,w,p)=.ok (!usB l w w.len p)
theorem s87 {E:E87}(N:Big E.N):Q87 (F87 E):=λ l w p hw hv=>ae.ext λ k=>by
 rw[e87,bn];refine (loopA (L:=λ n v=>Xm E n l w p v k) (p:=λ j=>!decide ((l.get (w.get j).toNat).af=p)) (m:=w.len) (fin:=k false) (stop:=k true) (by omega) (λ n i hi=>?_) (λ n=>?_) _ (by omega)).trans ?_
 ·have := hv i hi;rw[zmg,decide_eq_true (show (i:Int) < _ by omega),cond_true,bD (by omega),Int.toNat_natCast,bD (by omega)];show cond ((l.get (w.get i).toNat).af == p) _ _=cond (!((l.get (w.get i).toNat).af == p)) _ _;cases (l.get (w.get i).toNat).af == p <;> rfl
 ·rw[zmg];simp only[Int.lt_irrefl,decide_false,cond_false]
 ·simp only[usB];cases dR (λ j=>!decide ((l.get (w.get j).toNat).af=p)) w.len <;> rfl
def hiA (l:Sl bz) (t:ai) (i:Nat):bz:=l.get (t.Hits.get i).toNat
def chP (s:au) (l:Sl bz) (t:ai) (i:Nat):Bool :=
 inB (t.Hits.get i) 0 ((l.len:Int) - 1) && (decide (i=0) || decide (t.Hits.get (i - 1) < t.Hits.get i)) && decide ((s.aj.get (hiA l t i).af.toNat).View=t.View) && inB (t.bC.get i) 0 (((xW s (hiA l t i)).len:Int) - 1) && usB l t.Hits i (hiA l t i).af
def Zp (s:au) (l:Sl bz) (t:ai):Bool:=vwB t.View && decide (0 < t.Hits.len) && decide (t.bC.len=t.Hits.len) && dR (chP s l t) t.Hits.len
structure Evt (s : au) (l : Sl bz) : Prop where
  sh:pV s
  se:dU s=true
  hi:yZ s l=true
  le:l.len<=40
theorem Evt.pl {s:au}{l:Sl bz}(h:Evt s l){i:Nat}(hi:i < l.len):0<=(l.get i).af/\(l.get i).af < s.aj.len:=GK (dC.1 h.hi i hi)
theorem UI {s:au}{l:Sl bz}{t:ai}{i:Nat}(h:chP s l t i=true):0<=t.Hits.get i/\t.Hits.get i < l.len:=by
 simp only[chP,fM,inB,decide_eq_true_eq] at h;omega
theorem QA {s:au}{l:Sl bz}{t:ai}{i:Nat}(h:chP s l t i=true):0<=t.bC.get i/\t.bC.get i < (xW s (hiA l t i)).len:=by
 simp only[chP,fM,inB,decide_eq_true_eq] at h;omega
/-! The program. -/
abbrev zpu (C:Pt aW×Int->ae Int):Prop:=∀ s l r i,Evt s l->0<=i/\i < (l.len:Int)->C (iM s r l,i)=.ok (s.aj.get (l.get i.toNat).af.toNat).View
theorem zGa {E:Y8} : zpu (zh5 E):=λ s l r i he hi=>ae.ext λ k=>by
 have hp:=he.pl (i:=i.toNat) (by omega);exact (zEO E k _ _).trans ((bD (p:=0<=i/\i < (l.len:Int)) hi).trans (bD (p:=0<=(l.get i.toNat).af/\(l.get i.toNat).af < (s.aj.len:Int)) hp))
theorem zf {α : Type} [bG α] {z f g : Nat → α} : ∀ {n : Nat}, (∀ i, i < n → f i = g i) → gw z f n = gw z g n
  | 0,_=>rfl
  | n+1,h=>by simp only[gw,zf (n:=n) λ i hi=>h i (by omega),h n (by omega)]
def gtS (s:au) (l:Sl bz) (t:ai):Sl aC:=gw z0 (λ i=>(xW s (hiA l t i)).get (t.bC.get i).toNat) t.Hits.len
theorem zdP {s:au}{l:Sl bz}{t:ai}(h:Zp s l t=true):t.bC.len=t.Hits.len/\∀ i,i < t.Hits.len->chP s l t i=true:=by
 simp only[Zp,fM,decide_eq_true_eq,dC] at h;exact⟨h.1.2,h.2⟩
abbrev Q65 (C:au×Sl bz×ai->ae (Sl aC)):Prop:=∀ s l t,Evt s l->t.Hits.len<=30->Zp s l t=true->C (s,l,t)=.ok (gtS s l t)
theorem s65 {E:E65}(N:Big E.N) (h75:Q75 E.c75):Q65 (F65 E):=λ s l t he ht hc=>ae.ext λ k=>by
 obtain⟨h1,h2⟩:=zdP hc;rw[e65,bn];refine jW (X:=λ n i=>Xk E n s l t (i:Int) (gw z0 (λ i=>(xW s (hiA l t i)).get (t.bC.get i).toNat) i) k) (m:=t.Hits.len) (λ n i hi=>?_) (λ n=>?_) _ (by omega)
 ·have a1 := UI (h2 i hi);have a2:0<=t.bC.get i/\t.bC.get i < ((xW s (l.get (t.Hits.get i).toNat)).len:Int):=QA (h2 i hi);have hpl:=he.pl (i:=(t.Hits.get i).toNat) (by omega);rw[zme,decide_eq_true (show (i:Int) < _ by omega),cond_true,bD (by omega),Int.toNat_natCast,bD (by omega),h75 _ _ he.sh hpl,bn,bD (by omega),bD a2,GL,jl (by omega) (by omega),bT (by omega)];rfl
 ·rw[zme];simp only[Int.lt_irrefl,decide_false,cond_false];rfl
abbrev ziB (C:Pt aW×ai->ae (Sl aC)):Prop:=∀ s l r t,Evt s l->t.Hits.len<=2100->Zp s l t=true->C (iM s r l,t)=.ok (gtS s l t)
theorem zGb {E:UB}(N:Big E.N):ziB (zh4 E):=λ s l r t he ht hc=>ae.ext λ k=>by
 obtain⟨h1,h2⟩:=zdP hc;have e:gtS s l t=gw z0 (λ i=>((evG s l).get (t.Hits.get i).toNat).get (t.bC.get i).toNat) t.Hits.len:=zf λ i hi=>by
  have a1:=UI (h2 i hi);rw[Nj (by omega)];rfl
 rw[zEI,bn,e];refine jW (X:=λ n i=>Na E n (iM s r l) t (i:Int) (gw z0 (λ i=>((evG s l).get (t.Hits.get i).toNat).get (t.bC.get i).toNat) i) k) (m:=t.Hits.len) (λ n i hi=>?_) (λ n=>?_) _ (by omega)
 ·have a1 := UI (h2 i hi);have a2:=QA (h2 i hi);have a3:0<=t.Hits.get i/\t.Hits.get i < ((iM s r l).v.kN.len:Int):=by show _/\t.Hits.get i < ((evG s l).len:Int);rw[Xp];omega
  have a4:0<=t.bC.get i/\t.bC.get i < (((iM s r l).v.kN.get (t.Hits.get i).toNat).len:Int):=by
   show _/\t.bC.get i < (((evG s l).get (t.Hits.get i).toNat).len:Int);rw[Nj (by omega)];exact a2
  rw[zdC,decide_eq_true (show (i:Int) < _ by omega),cond_true,bD (by omega),Int.toNat_natCast,bD a3,bD (by omega),bD a4,GL,jl (by omega) (by omega),bT (by omega)];rfl
 ·rw[zdC];simp only[Int.lt_irrefl,decide_false,cond_false]
abbrev Q26 (C:au×bP×Sl bz->ae Int):Prop:=∀ s r l,pV s->l.len<=40->C (s,r,l)=.ok (qN s r l)
theorem s26 {E:E26}(h61:QSe E.c61) (h62:Q62 E.c62) (h85:Q85 E.c85):Q26 (F26 E):=λ s r l hs hl=>ae.ext λ k=>by
 rw[e26,bn];by_cases uf:(l.len:Int) > 24
 ·rw[decide_eq_true uf];simp only[qN,decide_eq_true (show l.len > 24 by omega),cond_true]
 ·rw [decide_eq_false uf, cond_false, h61 s hs, bn];simp only[qN,decide_eq_false (show ¬ l.len > 24 by omega),cond_false,h62,bn];cases hb:dU s with
  | false=>rfl
  | true =>
   cases lV r with
   | false=>rfl
   | true =>
    simp only[h85 s l hs hb hl,bn];cases yZ s l <;> rfl
theorem Nk {s:au}{r:bP}{l:Sl bz}(hs:pV s) (h:qN s r l=0):Evt s l/\lV r=true/\l.len<=24:=by
 unfold qN at h;by_cases uf:l.len > 24
 ·rw[decide_eq_true uf] at h;cases h
 ·rw [decide_eq_false uf, cond_false] at h;cases e:dU s && lV r && yZ s l with
  | false=>rw[e] at h;cases h
  | true =>
   simp only[fM] at e;exact⟨⟨hs,e.1.1,e.2,by omega⟩,e.1.2,by omega⟩
def Zq (s:au) (l:Sl bz) (m:Int):Bool:=decide (s.aj.len<=20) && (decide ((l.len:Int)<=m) || decide (l.len > 24)) && decide (l.len<=40) && dR (λ i=>decide ((s.aj.get i).aQ.len<=60/\(s.aj.get i).Dead.len<=110)) s.aj.len
abbrev Q23 (C:au×Sl bz×Int->ae Bool):Prop:=∀ s l m,C (s,l,m)=.ok (Zq s l m)
theorem s23 {E:E23}(N:Big E.N):Q23 (F23 E):=λ s l m=>ae.ext λ k=>by
 rw[e23,bn];by_cases h20:(s.aj.len:Int) > 20
 ·rw[decide_eq_true h20];simp only[Zq,decide_eq_false (show ¬ s.aj.len<=20 by omega),Bool.false_and,cond_true]
 ·have lp:Gs E E.N s 0 k=k (dR (λ i=>decide ((s.aj.get i).aQ.len<=60/\(s.aj.get i).Dead.len<=110)) s.aj.len):=by
   refine (loopA (L:=λ n v=>Gs E n s v k) (p:=λ i=>decide ((s.aj.get i).aQ.len<=60/\(s.aj.get i).Dead.len<=110)) (m:=s.aj.len) (fin:=k true) (stop:=k false) (by omega) (λ n i hi=>?_) (λ n=>?_) _ (by omega)).trans ?_
   ·rw [zma, decide_eq_true (show (i : Int) < _ by omega), cond_true, bD (by omega), bD (by omega), Int.toNat_natCast];obtain⟨f,h1,h2⟩:=two (Gs E n s (aO ((i:Int)+1)) k) (k false);rw[<- h1,<- h2,kc f,kc f,kc f];congr 1;grind
   ·rw[zma];simp only[Int.lt_irrefl,decide_false,cond_false]
   ·cases dR (λ i=>decide ((s.aj.get i).aQ.len<=60/\(s.aj.get i).Dead.len<=110)) s.aj.len <;> rfl
  rw[decide_eq_false h20,cond_false,lp];simp only[kc k,Zq];congr 1;generalize dR (λ i=>decide ((s.aj.get i).aQ.len<=60/\(s.aj.get i).Dead.len<=110)) s.aj.len=B
  grind
theorem zpv {s:au}{l:Sl bz}{m:Int}(h:Zq s l m=true):pV s/\l.len<=40/\((l.len:Int)<=m\/24 < l.len):=by
 simp only[Zq,fM,decide_eq_true_eq,Bool.or_eq_true,dC] at h;exact⟨⟨h.1.1.1,λ i hi=>h.2 i hi⟩,h.1.2,h.1.1.2⟩
def xH (s:au) (l:Sl bz) (i:Nat):Nat:=(xW s (l.get i)).len
theorem DU (s:au) (l:Sl bz) (i:Nat):xH s l i<=2:=ziy _ _
def OA (s:au) (l:Sl bz) (i:Nat):Int:=(s.aj.get (l.get i).af.toNat).View
def cf (n : Nat → Int) : Nat → Nat → Int
  | 0,j=>cond (j == 0) 1 0
  | p+1,0=>cf n p 0
  | p+1,j+1=>aO (cf n p (j+1)+aO (n p * cf n p j))
def Xq (i : Int) : Nat → Nat → List (Int × Int)
  | 0,_=>[]
  | d+1,k=>(i,(k:Int)) :: Xq i d (k+1)
def sdL (s : au) (l : Sl bz) (x : Int) : Nat → Nat → List (Int × Int)
  | 0,_=>[]
  | d+1,i=>cond (OA s l i == x) (Xq i (xH s l i) 0) [] ++ sdL s l x d (i+1)
abbrev zpw (I:Pt Int×Pt (Pt aW)×Pt Int->ae (List (Int×Int))):Prop:=∀ s l r x (fr:Nat),Evt s l->fr<=l.len->I (⟨fr⟩,⟨iM s r l⟩,⟨x⟩)=.ok (sdL s l x (l.len - fr) fr)
theorem zGe {E:Nb}(N:Big E.N) (zoZ:zpu E.zgn):zpw (zoY E):=λ s l r x fr he hfr=>by
 refine yY ?_ (λ _=>rfl) (λ _=>rfl);refine (zEK E _ _ _).trans ?_;have hl:=he.le;have key:∀ d n (i:Nat),i+d=l.len->d < n->Gx E n ⟨iM s r l⟩ ⟨x⟩ (i:Int)=some ((sdL s l x d i).map dw.enc):=by
  intro d
  induction d with
  | zero =>
   intro n i hi hn;obtain⟨n,rfl⟩:∃ n',n=n'+1:=⟨n - 1,by omega⟩;exact (zdD E n _ _ _).trans (zxG (p:=(i:Int) < (l.len:Int)) (by omega))
  | succ d ih =>
   intro n i hi hn;obtain⟨n,rfl⟩:∃ n',n=n'+1:=⟨n - 1,by omega⟩;have nx:=ih n (i+1) (by omega) (by omega);refine (zdD E n _ _ _).trans ((zxF (p:=(i:Int) < (l.len:Int)) (by omega)).trans ?_);rw[bT (by omega),nx];show (E.zgn (iM s r l,(i:Int))).T _=_;rw[zoZ s l r _ he (by omega),bn,Int.toNat_natCast];show cond (OA s l i != x) _ _=_;rw[sdL];cases hv:OA s l i == x with
   | false=>rw[show (OA s l i != x)=true by rw[bne,hv];rfl];rfl
   | true =>
    rw[show (OA s l i != x)=false by rw[bne,hv];rfl,cond_false,cond_true];have hg:((iM s r l).v.kN.get i)=xW s (l.get i):=Nj (by omega);have hgl:(iM s r l).v.kN.len=l.len:=Xp s l;have inn:∀ e m (k:Nat),k+e=xH s l i->e < m->Gy E n m ⟨iM s r l⟩ ⟨x⟩ (i:Int) (xH s l i:Int) (k:Int)=some ((Xq i e k ++ sdL s l x d (i+1)).map dw.enc):=by
     have hg2:=DU s l i;intro e
     induction e with
     | zero =>
      intro m k hk hm;obtain⟨m,rfl⟩:∃ n',m=n'+1:=⟨m - 1,by omega⟩;rw[zdE,decide_eq_false (by omega),cond_false,bT (by omega),nx];rfl
     | succ e ih2 =>
      intro m k hk hm;obtain⟨m,rfl⟩:∃ n',m=n'+1:=⟨m - 1,by omega⟩;rw[zdE,decide_eq_true (by omega),cond_true,bT (by omega),ih2 m (k+1) (by omega) (by omega)];rfl
    have hg2:=DU s l i;rw[bD (by rw[hgl];omega)];show Gy E n E.N ⟨iM s r l⟩ ⟨x⟩ (i:Int) (((iM s r l).v.kN.get (i:Int).toNat).len:Int) ((0:Nat):Int)=_;rw[Int.toNat_natCast,hg];exact inn _ _ _ (by omega) (by omega)
 exact key _ _ _ (by omega) (by omega)
abbrev Q19 (C:Unit->ae Bool):Prop:=C ()=.ok true
structure E20 where
  N:Nat
  c72:au×bP×(Sl bz)×(Sl Bool)->ae (Int ⊕ ((Pt found)×Int))
abbrev G20 (E:E20):aX:=dh (Tabs.nil.addF 72 (ae.unA E.c72)) []
def A20:bW:=aU ax 20 [] {}
def F20 (E:E20):au×bP×(Sl bz)->ae ((Sl ai)×Int):=ae.ty (aF ax E.N (G20 E) A20 20)
section
variable (E:E20){A:Type}(k:((Sl ai)×Int)->Option A)
theorem e20 (a0:au) (a1:bP) (a2:(Sl bz)):(F20 E (a0,a1,a2)).T k =
  (E.c72 (a0,a1,a2,(⟨0,λ _=>default⟩:(Sl Bool)))).T λ r1=>zon r1
  (λ r1=>cond (r1 != 0)
 (k ((⟨0,λ _=>default⟩:(Sl ai)),r1))
 (none))
  (λ r1=>cond (r1.2 != 0)
 (k ((⟨0,λ _=>default⟩:(Sl ai)),r1.2))
 (k (r1.1.v.l7,0))):=bH.trans (by kernel_rfl)
end
theorem o20 [aJ] (E:E20) (h72:Ok ax 72 (ae.unA E.c72)):Ok ax 20 (ae.un (F20 E)):=aY (aP (ay.nil.addF h72) (ak (by kernel_rfl)))
structure E28 where
  N:Nat
  v88:au×bP×(Sl bz)×Int->ae (Sl ai×Bool)
abbrev G28 (E:E28):aX:=dh (Tabs.nil.addO 88 (.mkv 43 3 56 (ae.unV E.v88))) []
def A28:bW:=aU ax 28 [] {}
def F28 (E:E28):au×bP×(Sl bz)->ae ((Sl ai)×Bool):=ae.ty (aF ax E.N (G28 E) A28 28)
section
variable (E:E28){A:Type}(k:((Sl ai)×Bool)->Option A)
theorem e28 (a0:au) (a1:bP) (a2:(Sl bz)):(F28 E (a0,a1,a2)).T k =
  (E.v88 (a0,a1,a2,1)).T λ r1 =>
  (E.v88 (a0,a1,a2,2)).T λ r2 =>
  bf (room (r1.1.len+r2.1.len) 56) (cond r1.2
 (k ((⟨(r1.1.len+r2.1.len),(jb r1.1.len r1.1.get r2.1.get)⟩:(Sl ai)),r2.2))
 (k ((⟨(r1.1.len+r2.1.len),(jb r1.1.len r1.1.get r2.1.get)⟩:(Sl ai)),false))):=bH.trans (by kernel_rfl)
end
theorem o28 [aJ] (E:E28) (x88:dX ax 88 (.mkv 43 3 56 (ae.unV E.v88))):Ok ax 28 (ae.un (F28 E)):=aY (aP (ay.nil.addO x88) (ak (by kernel_rfl)))
end Go.Proofs

namespace Go.Proofs
open Go Go.Pm
set_option maxRecDepth 100000
structure E38 where
  N:Nat
abbrev G38 (E:E38):aX:=dh Tabs.nil []
def A38:bW:=aU ax 38 [] { cut:=[8,10] }
def F38 (E:E38):(Sl Int)×(Sl Int)->ae (Int):=ae.ty (aF ax E.N (G38 E) A38 38)
section
variable (E:E38){A:Type}(k:Int->Option A)
def Xr (E:E38) (n:Nat) (a0:(Sl Int)) (a1:(Sl Int)) (v5:Int){A:Type}(k:Int->Option A):Option A :=
  iG ax (G38 E) E.N A38 38 [1,0,1,0] [.n n] (iI k)
    ⟨[(0,eP a0),(1,eP a1),(5,.int v5)],[],[]⟩
def zdQ (E:E38) (a0:(Sl Int)) (a1:(Sl Int)) {A:Type}(k:Int->Option A):Option A :=
  iG ax (G38 E) E.N A38 38 [1,1] [] (iI k)
    ⟨[(0,eP a0),(1,eP a1)],[],[]⟩
def zmn (E:E38) (a0:(Sl Int)) (a1:(Sl Int)) {A:Type}(k:Int->Option A):Option A :=
  iG ax (G38 E) E.N A38 38 [1,1,1] [] (iI k)
    ⟨[(0,eP a0),(1,eP a1)],[],[]⟩
theorem e38 (a0:(Sl Int)) (a1:(Sl Int)):(F38 E (a0,a1)).T k =
  Xr E E.N a0 a1 0 k:=bH.trans (by kernel_rfl)
theorem zmo (n0:Nat) (a0:(Sl Int)) (a1:(Sl Int)) (v5:Int):Xr E (n0+1) a0 a1 v5 k =
  cond (decide (v5 < (a0.len:Int)))
  (cond (decide (v5 < (a1.len:Int)))
 (bf (decide (0<=v5/\v5 < (a0.len:Int))) (bf (decide (0<=v5/\v5 < (a1.len:Int))) (cond (decide (a0.get v5.toNat < a1.get v5.toNat))
 (k (-1))
 (bf (decide (0<=v5/\v5 < (a0.len:Int))) (bf (decide (0<=v5/\v5 < (a1.len:Int))) (cond (decide (a0.get v5.toNat > a1.get v5.toNat))
 (k 1)
 (Xr E n0 a0 a1 (aO (v5+1)) k)))))))
 (zdQ E a0 a1 k))
  (zdQ E a0 a1 k):=by kernel_rfl
theorem zmp (a0:(Sl Int)) (a1:(Sl Int)):zdQ E a0 a1 k =
  cond (decide ((a0.len:Int) < (a1.len:Int)))
  (k (-1))
  (zmn E a0 a1 k):=by kernel_rfl
theorem zmq (a0:(Sl Int)) (a1:(Sl Int)):zmn E a0 a1 k =
  cond (decide ((a0.len:Int) > (a1.len:Int)))
  (k 1)
  (k 0):=by kernel_rfl
end
theorem o38 [aJ] (E:E38):Ok ax 38 (ae.un (F38 E)):=aY (aP ay.nil (ak (by kernel_rfl)))
end Go.Proofs

namespace Go.Proofs
open Go Go.Pm
set_option maxRecDepth 100000
structure E50 where
  N:Nat
  zle:au×(Sl bz)->ae (Int)
  qh:au×bz->ae (placed×Bool)
  VL:placed×bz->ae (bZ)
abbrev G50 (E:E50):aX:=dh (((Tabs.nil.addF 111 (ae.un E.zle)).addF 112 (ae.un E.qh)).addF 113 (ae.un E.VL)) []
def A50:bW:=aU ax 50 [] {}
def F50 (E:E50):au×(Sl bz)->ae (bZ×Int):=ae.ty (aF ax E.N (G50 E) A50 50)
section
variable (E:E50){A:Type}(k:(bZ×Int)->Option A)
def Xt (E:E50) (n:Nat) (a0:au) (a1:(Sl bz)) (v42:Int) (x9:bZ){A:Type}(k:(bZ×Int)->Option A):Option A :=
  iG ax (G50 E) E.N A50 50 [1,1,1,1,1,0,1,0] [.n n] (iI k)
    ⟨[(2,.cl (.ptr 2 0)),(4,.cl (.ptr 4 0)),(9,.cl (.ptr 9 0)),(40,.cl (.p (.sl (((a1.len:Int):Int) - 1).toNat 6 (λ i=>bG.enc ((Jn a1.get 1) i))))),(41,.int ((((a1.len:Int):Int) - 1).toNat:Int)),(42,.int v42)],[(2,eB 24 a0),(4,.box 105 [.p (.int .i64 0),.p (.int .i64 0)]),(9,eB 105 x9)],[]⟩
theorem e50 (a0:au) (a1:(Sl bz)):(F50 E (a0,a1)).T k =
  (E.zle (a0,a1)).T λ r1 =>
  cond (r1 != 0)
  (k ((⟨0,0⟩:bZ),r1))
  (cond ((a1.len:Int) == 0)
 (k ((⟨0,0⟩:bZ),2))
 (bf (decide ((0:Int)<=0/\0 < (a1.len:Int))) ((E.qh (a0,(a1.get 0))).T λ r2 =>
 bf (decide ((0:Int)<=0/\0 < (a1.len:Int))) ((E.VL (r2.1,(a1.get 0))).T λ r3 =>
 bf (decide ((0:Int)<=1/\(1:Int)<=(a1.len:Int)/\(a1.len:Int)<=(a1.len:Int))) (Xt E E.N a0 a1 0 r3 k))))):=bH.trans (by kernel_rfl)
theorem zmr (n0:Nat) (a0:au) (a1:(Sl bz)) (v42:Int) (x9:bZ):Xt E (n0+1) a0 a1 v42 x9 k =
  cond (decide (v42 < ((((a1.len:Int):Int) - 1).toNat:Int)))
  (bf (decide (0<=v42/\v42 < ((((a1.len:Int):Int) - 1).toNat:Int))) ((E.qh (a0,((Jn a1.get 1) v42.toNat))).T λ r1 =>
 (E.VL (r1.1,((Jn a1.get 1) v42.toNat))).T λ r2 =>
 Xt E n0 a0 a1 (aO (v42+1)) (⟨(if r2.Low > x9.Low then r2.Low else x9.Low),(if r2.High < x9.High then r2.High else x9.High)⟩:bZ) k))
  (cond (decide (x9.Low > x9.High))
 (k ((⟨0,0⟩:bZ),5))
 (k (x9,0))):=by kernel_rfl
end
theorem o50 [aJ] (E:E50) (zpy:Ok ax 111 (ae.un E.zle)) (h112:Ok ax 112 (ae.un E.qh)) (ziE:Ok ax 113 (ae.un E.VL)):Ok ax 50 (ae.un (F50 E)):=aY (aP (((ay.nil.addF zpy).addF h112).addF ziE) (ak (by kernel_rfl)))
end Go.Proofs

namespace Go.Proofs
open Go Go.Pm
set_option maxRecDepth 100000
structure E53 where
  N:Nat
abbrev G53 (E:E53):aX:=dh Tabs.nil []
def A53:bW:=aU ax 53 [] { cut:=[7] }
def F53 (E:E53):ai×ai->ae (Bool):=ae.ty (aF ax E.N (G53 E) A53 53)
section
variable (E:E53){A:Type}(k:Bool->Option A)
def Xu (E:E53) (n:Nat) (a0:ai) (a1:ai) (v5:Int) (v6:Int){A:Type}(k:Bool->Option A):Option A :=
  iG ax (G53 E) E.N A53 53 [1,1,0,1,0] [.n n] (iI k)
    ⟨[(2,.cl (.ptr 2 0)),(3,.cl (.ptr 3 0)),(5,.int v5),(6,.int v6)],[(2,eB 43 a0),(3,eB 43 a1)],[]⟩
def KL (E:E53) (n0:Nat) (n:Nat) (a0:ai) (a1:ai) (v5:Int) (v6:Int){A:Type}(k:Bool->Option A):Option A :=
  iG ax (G53 E) E.N A53 53 [1,1,0,1,0,0,1,0,0,0,0] [.n n0,.n n] (iI k)
    ⟨[(2,.cl (.ptr 2 0)),(3,.cl (.ptr 3 0)),(5,.int v5),(6,.int v6)],[(2,eB 43 a0),(3,eB 43 a1)],[]⟩
def QB (E:E53) (n0:Nat) (a0:ai) (a1:ai) (v5:Int) (v6:Int){A:Type}(k:Bool->Option A):Option A :=
  iG ax (G53 E) E.N A53 53 [1,1,0,1,0,0,1,0,0,1] [.n n0] (iI k)
    ⟨[(2,.cl (.ptr 2 0)),(3,.cl (.ptr 3 0)),(5,.int v5),(6,.int v6)],[(2,eB 43 a0),(3,eB 43 a1)],[]⟩
theorem e53 (a0:ai) (a1:ai):(F53 E (a0,a1)).T k =
  Xu E E.N a0 a1 0 0 k:=bH.trans (by kernel_rfl)
theorem zms (n0:Nat) (a0:ai) (a1:ai) (v5:Int) (v6:Int):Xu E (n0+1) a0 a1 v5 v6 k =
  cond (decide (v6 < (a1.Hits.len:Int)))
  (KL E n0 E.N a0 a1 v5 v6 k)
  (k (a0.View == a1.View)):=by kernel_rfl
theorem zmt (n0:Nat) (n1:Nat) (a0:ai) (a1:ai) (v5:Int) (v6:Int):KL E n0 (n1+1) a0 a1 v5 v6 k =
  cond (decide (v5 < (a0.Hits.len:Int)))
  (bf (decide (0<=v5/\v5 < (a0.Hits.len:Int))) (bf (decide (0<=v6/\v6 < (a1.Hits.len:Int))) (cond (decide (a0.Hits.get v5.toNat < a1.Hits.get v6.toNat))
 (KL E n0 n1 a0 a1 (aO (v5+1)) v6 k)
 (QB E n0 a0 a1 v5 v6 k))))
  (QB E n0 a0 a1 v5 v6 k):=by kernel_rfl
theorem zxO (n0:Nat) (a0:ai) (a1:ai) (v5:Int) (v6:Int):QB E n0 a0 a1 v5 v6 k =
  cond (v5 == (a0.Hits.len:Int))
  (k false)
  (bf (decide (0<=v5/\v5 < (a0.Hits.len:Int))) (bf (decide (0<=v6/\v6 < (a1.Hits.len:Int))) (cond (a0.Hits.get v5.toNat != a1.Hits.get v6.toNat)
 (k false)
 (bf (decide (0<=v5/\v5 < (a0.bC.len:Int))) (bf (decide (0<=v6/\v6 < (a1.bC.len:Int))) (cond (a0.bC.get v5.toNat != a1.bC.get v6.toNat)
 (k false)
 (Xu E n0 a0 a1 v5 (aO (v6+1)) k))))))):=by kernel_rfl
end
theorem o53 [aJ] (E:E53):Ok ax 53 (ae.un (F53 E)):=aY (aP ay.nil (ak (by kernel_rfl)))
structure E55 where
  N:Nat
  OD:Int×Int->ae (aS)
abbrev G55 (E:E55):aX:=dh (Tabs.nil.addF 71 (ae.un E.OD)) []
def A55:bW:=aU ax 55 [] { cut:=[3] }
def F55 (E:E55):Int×Int×Int×Int->ae (Line):=ae.ty (aF ax E.N (G55 E) A55 55)
section
variable (E:E55){A:Type}(k:Line->Option A)
def zdR (E:E55) (v0:Int) (v1:Int) (v2:Int) (v3:Int){A:Type}(k:Line->Option A):Option A :=
  iG ax (G55 E) E.N A55 55 [1,1] [] (iI k)
    ⟨[(0,.int v0),(1,.int v1),(2,.int v2),(3,.int v3),(8,.cl (.ptr 8 0))],[(8,.box 114 [.p (.int .i64 0),.p (.int .i64 0),.p (.int .i64 0),.p (.int .i64 0)])],[]⟩
theorem e55 (a0:Int) (a1:Int) (a2:Int) (a3:Int):(F55 E (a0,a1,a2,a3)).T k =
  cond (decide (a2 < a0))
  (zdR E a2 a3 a0 a1 k)
  (zdR E a0 a1 a2 a3 k):=bH.trans (by kernel_rfl)
theorem zmu (v0:Int) (v1:Int) (v2:Int) (v3:Int):zdR E v0 v1 v2 v3 k =
  (E.OD ((aO (v3 - v1)),(aO (v2 - v0)))).T λ r1 =>
  (E.OD ((aO ((aO (v1 * v2)) - (aO (v3 * v0)))),(aO (v2 - v0)))).T λ r2 =>
  k (⟨r1,r2⟩:Line):=by kernel_rfl
end
theorem o55 [aJ] (E:E55) (UJ:Ok ax 71 (ae.un E.OD)):Ok ax 55 (ae.un (F55 E)):=aY (aP (ay.nil.addF UJ) (ak (by kernel_rfl)))
structure E56 where
  N:Nat
abbrev G56 (E:E56):aX:=dh Tabs.nil []
def A56:bW:=aU ax 56 [] {}
def F56 (E:E56):aS×aS->ae (Bool):=ae.ty (aF ax E.N (G56 E) A56 56)
section
variable (E:E56){A:Type}(k:Bool->Option A)
theorem e56 (a0:aS) (a1:aS):(F56 E (a0,a1)).T k =
  k (decide ((aO (a0.Num * a1.cO)) < (aO (a1.Num * a0.cO)))):=bH.trans (by kernel_rfl)
end
theorem o56 [aJ] (E:E56):Ok ax 56 (ae.un (F56 E)):=aY (aP ay.nil (ak (by kernel_rfl)))
structure E57 where
  N:Nat
  c116:Line×aC->ae (Bool)
abbrev G57 (E:E57):aX:=dh (Tabs.nil.addF 116 (ae.un E.c116)) []
def A57:bW:=aU ax 57 [] { ks:=[(1,3,⟨[],[(5,22,3)],[],[],[],[],[]⟩)] }
def F57 (E:E57):Line×(Sl aC)->ae ((Sl Int)):=ae.ty (aF ax E.N (G57 E) A57 57)
section
variable (E:E57){A:Type}(k:(Sl Int)->Option A)
def QC (E:E57) (n:Nat) (a0:Line) (a1:(Sl aC)) (v6:Int) (OB:Sl Int){A:Type}(k:(Sl Int)->Option A):Option A :=
  iG ax (G57 E) E.N A57 57 [1,1,0,1,0] [.n n] (iI k)
    ⟨[(1,eP a1),(2,.cl (.ptr 2 0)),(5,.cl (.vec 22)),(6,.int v6)],[(2,eB 114 a0),(22,eV 3 1 8 OB)],[]⟩
theorem e57 (a0:Line) (a1:(Sl aC)):(F57 E (a0,a1)).T k =
  QC E E.N a0 a1 0 (⟨0,(λ _=>0)⟩:(Sl Int)) k:=bH.trans (by kernel_rfl)
theorem zmv (n0:Nat) (a0:Line) (a1:(Sl aC)) (v6:Int) (OB:Sl Int):QC E (n0+1) a0 a1 v6 OB k =
  cond (decide (v6 < (a1.len:Int)))
  (bf (decide (0<=v6/\v6 < (a1.len:Int))) ((E.c116 (a0,(a1.get v6.toNat))).T λ r1 =>
 cond r1
 (bf (room (OB.len+1) 8) (QC E n0 a0 a1 (aO (v6+1)) (⟨(OB.len+1),(jb OB.len OB.get (λ _=>v6))⟩:(Sl Int)) k))
 (QC E n0 a0 a1 (aO (v6+1)) OB k)))
  (k OB):=by kernel_rfl
end
theorem o57 [aJ] (E:E57) (h116:Ok ax 116 (ae.un E.c116)):Ok ax 57 (ae.un (F57 E)):=aY (aP (ay.nil.addF h116) (ak (by kernel_rfl)))
end Go.Proofs



namespace Go.Proofs
open Go Go.Pm
set_option maxRecDepth 100000
structure E71 where
  N:Nat
  Om:Int×Int->ae (Int)
abbrev G71 (E:E71):aX:=dh (Tabs.nil.addF 125 (ae.un E.Om)) []
def A71:bW:=aU ax 71 [] {}
def F71 (E:E71):Int×Int->ae (aS):=ae.ty (aF ax E.N (G71 E) A71 71)
section
variable (E:E71){A:Type}(k:aS->Option A)
theorem e71 (a0:Int) (a1:Int):(F71 E (a0,a1)).T k =
  (E.Om ((if (aO (0 - a0)) > a0 then (aO (0 - a0)) else a0),a1)).T λ r1 =>
  bf (decide (r1 ≠ 0)) (bf (decide (r1 ≠ 0)) (k (⟨(aO (a0.tdiv r1)),(aO (a1.tdiv r1))⟩:aS))):=bH.trans (by kernel_rfl)
end
theorem o71 [aJ] (E:E71) (UK:Ok ax 125 (ae.un E.Om)):Ok ax 71 (ae.un (F71 E)):=aY (aP (ay.nil.addF UK) (ak (by kernel_rfl)))
structure E72 where
  N:Nat
  c78:au×bP×(Sl bz)->ae (Int ⊕ ((Pt aW)×Int))
  zbp:(Sl Bool)×Bool->ae (Bool)
  c127:(Pt aW)×Int->ae ((Sl ai)×Bool)
  Dn:(Sl ai)×((dN 129 (Pt aW) Unit) ⊕ (dN 130 Unit (Pt (Pt found))))->ae (Sl ai×Unit)
  Sv:ai×ai->ae (Int)
abbrev G72 (E:E72):aX:=dh (((((((Tabs.nil.addN [130]).addO 128 (.mkv 43 3 56 (ae.unV E.Dn))).addO 133 (.sort 43 3 56)).addC 134 (ae.un E.Sv)).addF 78 (ae.unA E.c78)).addF 126 (ae.un E.zbp)).addF 127 (ae.un E.c127)) []
def A72:bW:=aU ax 72 [] { ks:=[(0,6,⟨[],[],[(35,2,5001,43)],[],[],[],[]⟩),(2,15,⟨[],[],[],[],[57,5001],[],[]⟩)],cut:=[15,16],unr:=[(8,3)],clo:=[130] }
def F72 (E:E72):au×bP×(Sl bz)×(Sl Bool)->ae (Int ⊕ ((Pt found)×Int)):=ae.tyA (aF ax E.N (G72 E) A72 72)
section
variable (E:E72){A:Type}(k:(Int ⊕ ((Pt found)×Int))->Option A)
def Xv (E:E72) (uY:(Pt aW)) (w57:Sl ai) (w67:Sl ai){A:Type}(k:(Int ⊕ ((Pt found)×Int))->Option A):Option A :=
  iG ax (G72 E) E.N A72 72 [1,1,1,1,1,1,1] [] (zc7 k)
    ⟨[(12,.cl (.ptr 12 0))],[(12,.box 140 [.ptr 35 0]),(35,.box 145 [.p (.fp [.sl uY.v.au.aj.len 15 (λ i=>bG.enc (uY.v.au.aj.get i)),.sl uY.v.hits.len 6 (λ i=>bG.enc (uY.v.hits.get i)),.sl uY.v.kN.len 1 (λ i=>bG.enc (uY.v.kN.get i)),.int .i64 uY.v.rules.vC,.int .i64 uY.v.rules.xU] 0),.vec 57,.vec 67]),(57,.fvec 3 w57.len (λ i=>bG.enc (w57.get i))),(67,eV 43 3 56 w67)],[]⟩
theorem e72 (a0:au) (a1:bP) (a2:(Sl bz)) (a3:(Sl Bool)):(F72 E (a0,a1,a2,a3)).T k =
  (E.c78 (a0,a1,a2)).T λ r1=>zon r1
  (λ r1=>cond (r1 == 0)
 ((E.zbp (a3,false)).T λ r2 =>
 cond r2
 (k (.inl 2))
 (cond (r1 != 0)
 (k (.inl r1))
 (none)))
 (cond (r1 != 0)
 (k (.inl r1))
 (none)))
  (λ r1=>cond (r1.2 == 0)
 ((E.zbp (a3,false)).T λ r3 =>
 cond r3
 (k (.inl 2))
 (cond (r1.2 != 0)
 (k (.inl r1.2))
 ((E.c127 (r1.1,1)).T λ r4 =>
 cond (!r4.2)
 (k (.inl 8))
 ((E.Dn (r4.1,(Sum.inl (⟨r1.1,()⟩:(dN 129 (Pt aW) Unit))))).T λ r5 =>
 bf (room r5.1.len 56) ((E.c127 (r1.1,2)).T λ r6 =>
 cond (!r6.2)
 (k (.inl 8))
 ((E.Dn (r6.1,(Sum.inl (⟨r1.1,()⟩:(dN 129 (Pt aW) Unit))))).T λ r7 =>
 bf (room (r5.1.len+r7.1.len) 56) ((E.Dn ((⟨(r5.1.len+r7.1.len),(jb r5.1.len r5.1.get r7.1.get)⟩:(Sl ai)),(Sum.inr (⟨(),(⟨(⟨(⟨r1.1,(⟨(r5.1.len+r7.1.len),(jb r5.1.len r5.1.get r7.1.get)⟩:(Sl ai)),(⟨0,(λ _=>(⟨0,(⟨0,(λ _=>0)⟩:(Sl Int)),(⟨0,(λ _=>0)⟩:(Sl Int))⟩:ai))⟩:(Sl ai))⟩:found)⟩:(Pt found))⟩:(Pt (Pt found)))⟩:(dN 130 Unit (Pt (Pt found))))))).T λ r8 =>
 Xv E r1.1 (⟨(r5.1.len+r7.1.len),(jb r5.1.len r5.1.get r7.1.get)⟩:(Sl ai)) r8.1 k)))))))
 (cond (r1.2 != 0)
 (k (.inl r1.2))
 ((E.c127 (r1.1,1)).T λ r9 =>
 cond (!r9.2)
 (k (.inl 8))
 ((E.Dn (r9.1,(Sum.inl (⟨r1.1,()⟩:(dN 129 (Pt aW) Unit))))).T λ r10 =>
 bf (room r10.1.len 56) ((E.c127 (r1.1,2)).T λ r11 =>
 cond (!r11.2)
 (k (.inl 8))
 ((E.Dn (r11.1,(Sum.inl (⟨r1.1,()⟩:(dN 129 (Pt aW) Unit))))).T λ r12 =>
 bf (room (r10.1.len+r12.1.len) 56) ((E.Dn ((⟨(r10.1.len+r12.1.len),(jb r10.1.len r10.1.get r12.1.get)⟩:(Sl ai)),(Sum.inr (⟨(),(⟨(⟨(⟨r1.1,(⟨(r10.1.len+r12.1.len),(jb r10.1.len r10.1.get r12.1.get)⟩:(Sl ai)),(⟨0,(λ _=>(⟨0,(⟨0,(λ _=>0)⟩:(Sl Int)),(⟨0,(λ _=>0)⟩:(Sl Int))⟩:ai))⟩:(Sl ai))⟩:found)⟩:(Pt found))⟩:(Pt (Pt found)))⟩:(dN 130 Unit (Pt (Pt found))))))).T λ r13 =>
 Xv E r1.1 (⟨(r10.1.len+r12.1.len),(jb r10.1.len r10.1.get r12.1.get)⟩:(Sl ai)) r13.1 k))))))):=zl1.trans (by kernel_rfl)
theorem zxQ (uY:(Pt aW)) (w57:Sl ai) (w67:Sl ai):Xv E uY w57 w67 k =
  bf (soP (ae.un E.Sv) [] true w67) (k (.inr ((⟨(⟨uY,w57,(⟨w67.len,(soG (ae.un E.Sv) [] true w67)⟩:(Sl ai))⟩:found)⟩:(Pt found)),0))):=by kernel_rfl
end
theorem o72 [aJ] (E:E72) (h78:Ok ax 78 (ae.unA E.c78)) (zpC:Ok ax 126 (ae.un E.zbp)) (h127:Ok ax 127 (ae.un E.c127)) (zGg:dX ax 128 (.mkv 43 3 56 (ae.unV E.Dn))) (zGh:dX ax 133 (.sort 43 3 56)) (zGi : @Ok ⟨1⟩ ax 134 (ae.un E.Sv)):Ok ax 72 (ae.unA (F72 E)):=zc8 (aP (((((((ay.nil.addN).addO zGg).addO zGh).addC zGi).addF h78).addF zpC).addF h127) (ak (by kernel_rfl)))
structure E74 where
  N:Nat
abbrev G74 (E:E74):aX:=dh Tabs.nil []
def A74:bW:=aU ax 74 [] {}
def F74 (E:E74):au×bz->ae (bZ):=ae.ty (aF ax E.N (G74 E) A74 74)
section
variable (E:E74){A:Type}(k:bZ->Option A)
theorem e74 (a0:au) (a1:bz):(F74 E (a0,a1)).T k =
  bf (decide (0<=a1.af/\a1.af < (a0.aj.len:Int))) (cond ((a0.aj.get a1.af.toNat).Kind == 3)
 (k (a0.aj.get a1.af.toNat).Clock)
 (k (⟨(aO ((aO (a1.Time - (a0.aj.get a1.af.toNat).Clock.High)) - (a0.aj.get a1.af.toNat).dH)),(aO ((aO (a1.Time - (a0.aj.get a1.af.toNat).Clock.Low))+(a0.aj.get a1.af.toNat).dH))⟩:bZ))):=bH.trans (by kernel_rfl)
end
theorem o74 [aJ] (E:E74):Ok ax 74 (ae.un (F74 E)):=aY (aP ay.nil (ak (by kernel_rfl)))
structure E76 where
  N:Nat
  Om:Int×Int->ae (Int)
  OD:Int×Int->ae (aS)
abbrev G76 (E:E76):aX:=dh ((Tabs.nil.addF 125 (ae.un E.Om)).addF 71 (ae.un E.OD)) []
def A76:bW:=aU ax 76 [] {}
def F76 (E:E76):Line×Int->ae (aS):=ae.ty (aF ax E.N (G76 E) A76 76)
section
variable (E:E76){A:Type}(k:aS->Option A)
theorem e76 (a0:Line) (a1:Int):(F76 E (a0,a1)).T k =
  (E.Om (a0.Start.cO,a0.dM.cO)).T λ r1 =>
  bf (decide (r1 ≠ 0)) (bf (decide (a0.Start.cO ≠ 0)) (bf (decide (a0.dM.cO ≠ 0)) ((E.OD ((aO ((aO (a0.Start.Num * (aO ((aO ((aO (a0.Start.cO.tdiv r1)) * a0.dM.cO)).tdiv a0.Start.cO))))+(aO ((aO (a0.dM.Num * (aO ((aO ((aO (a0.Start.cO.tdiv r1)) * a0.dM.cO)).tdiv a0.dM.cO)))) * a1)))),(aO ((aO (a0.Start.cO.tdiv r1)) * a0.dM.cO)))).T λ r2 =>
 k r2))):=bH.trans (by kernel_rfl)
end
theorem o76 [aJ] (E:E76) (UK:Ok ax 125 (ae.un E.Om)) (UJ:Ok ax 71 (ae.un E.OD)):Ok ax 76 (ae.un (F76 E)):=aY (aP ((ay.nil.addF UK).addF UJ) (ak (by kernel_rfl)))
structure E77 where
  N:Nat
  zbq:af×Int->ae (Int×Int)
  Jw:af×Int->ae (Bool)
abbrev G77 (E:E77):aX:=dh ((Tabs.nil.addF 136 (ae.un E.zbq)).addF 137 (ae.un E.Jw)) []
def A77:bW:=aU ax 77 [] {}
def F77 (E:E77):af×bZ->ae (Bool×Bool):=ae.ty (aF ax E.N (G77 E) A77 77)
section
variable (E:E77){A:Type}(k:(Bool×Bool)->Option A)
def jY (E:E77) (n:Nat) (a0:af) (v6:Int) (v7:Int) (v12:Bool) (v13:Bool) (v14:Int){A:Type}(k:(Bool×Bool)->Option A):Option A :=
  iG ax (G77 E) E.N A77 77 [1,1,1,1,1,0,1,0] [.n n] (iI k)
    ⟨[(2,.cl (.ptr 2 0)),(6,.int v6),(7,.int v7),(12,.bool v12),(13,.bool v13),(14,.int v14)],[(2,eB 124 a0)],[]⟩
theorem e77 (a0:af) (a1:bZ):(F77 E (a0,a1)).T k =
  (E.zbq (a0,0)).T λ r1 =>
  (E.zbq (a0,(aO (a0.bM - 1)))).T λ r2 =>
  cond (decide ((aO (a1.Low - a0.bu.High)) >= r1.1))
  (jY E E.N a0 (aO (a1.Low - a0.bu.High)) (aO (a1.High - a0.bu.Low)) (decide ((aO (a1.High - a0.bu.Low))<=r2.2)) false 0 k)
  (jY E E.N a0 (aO (a1.Low - a0.bu.High)) (aO (a1.High - a0.bu.Low)) false false 0 k):=bH.trans (by kernel_rfl)
theorem zmw (n0:Nat) (a0:af) (v6:Int) (v7:Int) (v12:Bool) (v13:Bool) (v14:Int):jY E (n0+1) a0 v6 v7 v12 v13 v14 k =
  cond (decide (v14 < a0.bM))
  ((E.zbq (a0,v14)).T λ r1 =>
 (E.Jw (a0,v14)).T λ r2 =>
 cond r2
 (cond (decide (r1.1<=v7))
 (cond (decide (r1.2 >= v6))
 (jY E n0 a0 v6 v7 false v13 (aO (v14+1)) k)
 (jY E n0 a0 v6 v7 v12 v13 (aO (v14+1)) k))
 (jY E n0 a0 v6 v7 v12 v13 (aO (v14+1)) k))
 (cond (decide ((aO (r1.1 - a0.dD))<=v7))
 (cond (decide ((aO (r1.2+a0.dD)) >= v6))
 (jY E n0 a0 v6 v7 v12 true (aO (v14+1)) k)
 (jY E n0 a0 v6 v7 v12 v13 (aO (v14+1)) k))
 (jY E n0 a0 v6 v7 v12 v13 (aO (v14+1)) k)))
  (k (v12,v13)):=by kernel_rfl
end
theorem o77 [aJ] (E:E77) (zdS:Ok ax 136 (ae.un E.zbq)) (Uz:Ok ax 137 (ae.un E.Jw)):Ok ax 77 (ae.un (F77 E)):=aY (aP ((ay.nil.addF zdS).addF Uz) (ak (by kernel_rfl)))
structure E88 where
  N:Nat
  c94:au×bP×(Sl bz)×Int->ae ((Sl ai)×Bool)
  c53:ai×ai->ae (Bool)
  zlk:ai×ai->ae (Bool)
abbrev G88 (E:E88):aX:=dh (((Tabs.nil.addF 94 (ae.un E.c94)).addF 53 (ae.un E.c53)).addF 144 (ae.un E.zlk)) []
def A88:bW:=aU ax 88 [] { ks:=[(0,3,⟨[],[(8,5000,43)],[],[],[],[],[]⟩),(1,6,⟨[],[(12,79,43)],[],[],[],[],[]⟩),(1,15,⟨[],[],[],[],[],[12],[]⟩)],cut:=[17] }
def F88 (E:E88):au×bP×(Sl bz)×Int->ae (Sl ai×Bool):=ae.tyV (aK ax E.N (G88 E) A88 88 43 3 56)
section
variable (E:E88){A:Type}(k:(Sl ai×Bool)->Option A)
def wU (E:E88) (n:Nat) (v10:(Sl ai)) (v13:Int) (Xw:Sl ai){A:Type}(k:(Sl ai×Bool)->Option A):Option A :=
  ptG ax (G88 E) E.N A88 88 [1,1,1,1,0,1,0] [.n n] (Un 43 3 56) (Um k)
    ⟨[(10,eP v10),(12,.cl (.vec 79)),(13,.int v13)],[(79,eV 43 3 56 Xw)],[]⟩
def CG (E:E88) (n0:Nat) (n:Nat) (v10:(Sl ai)) (v13:Int) (v14:Bool) (v15:Int) (Xw:Sl ai){A:Type}(k:(Sl ai×Bool)->Option A):Option A :=
  ptG ax (G88 E) E.N A88 88 [1,1,1,1,0,1,0,0,1,0,0,1,0,1,0] [.n n0,.n n] (Un 43 3 56) (Um k)
    ⟨[(10,eP v10),(12,.cl (.vec 79)),(13,.int v13),(14,.bool v14),(15,.int v15)],[(79,eV 43 3 56 Xw)],[]⟩
def GM (E:E88) (n0:Nat) (n:Nat) (v10:(Sl ai)) (v12:(Sl ai)) (v13:Int) (v16:Int){A:Type}(k:(Sl ai×Bool)->Option A):Option A :=
  ptG ax (G88 E) E.N A88 88 [1,1,1,1,0,1,0,0,1,0,0,1,1,1,1,0,0] [.n n0,.n n] (Un 43 3 56) (Um k)
    ⟨[(10,eP v10),(12,eP v12),(13,.int v13),(16,.int v16)],[],[]⟩
def KN (E:E88) (n0:Nat) (v10:(Sl ai)) (v12:(Sl ai)) (v13:Int) (v16:Int){A:Type}(k:(Sl ai×Bool)->Option A):Option A :=
  ptG ax (G88 E) E.N A88 88 [1,1,1,1,0,1,0,0,1,0,0,1,1,1,1,1] [.n n0] (Un 43 3 56) (Um k)
    ⟨[(10,eP v10),(12,eP v12),(13,.int v13),(16,.int v16)],[],[]⟩
theorem e88 (a0:au) (a1:bP) (a2:(Sl bz)) (a3:Int):(F88 E (a0,a1,a2,a3)).T k =
  (E.c94 (a0,a1,a2,a3)).T λ r1 =>
  cond (!r1.2)
  (k ((⟨0,(λ _=>(⟨0,(⟨0,(λ _=>0)⟩:(Sl Int)),(⟨0,(λ _=>0)⟩:(Sl Int))⟩:ai))⟩:(Sl ai)),false))
  (wU E E.N r1.1 0 (⟨0,(λ _=>(⟨0,(⟨0,(λ _=>0)⟩:(Sl Int)),(⟨0,(λ _=>0)⟩:(Sl Int))⟩:ai))⟩:(Sl ai)) k):=zdb.trans (by kernel_rfl)
theorem zmx (n0:Nat) (v10:(Sl ai)) (v13:Int) (Xw:Sl ai):wU E (n0+1) v10 v13 Xw k =
  cond (decide (v13 < (v10.len:Int)))
  (CG E n0 E.N v10 v13 true 0 Xw k)
  (k (Xw,true)):=by kernel_rfl
theorem Xx (n0:Nat) (n1:Nat) (v10:(Sl ai)) (v13:Int) (v14:Bool) (v15:Int) (Xw:Sl ai):CG E n0 (n1+1) v10 v13 v14 v15 Xw k =
  cond (decide (v15 < (v10.len:Int)))
  (cond v14
 (cond (v13 == v15)
 (CG E n0 n1 v10 v13 true (aO (v15+1)) Xw k)
 (bf (decide (0<=v15/\v15 < (v10.len:Int))) (bf (decide (0<=v13/\v13 < (v10.len:Int))) ((E.c53 ((v10.get v15.toNat),(v10.get v13.toNat))).T λ r1 =>
 CG E n0 n1 v10 v13 (!r1) (aO (v15+1)) Xw k))))
 (CG E n0 n1 v10 v13 false (aO (v15+1)) Xw k))
  (cond (!v14)
 (wU E n0 v10 (aO (v13+1)) Xw k)
 (GM E n0 E.N v10 Xw v13 0 k)):=by kernel_rfl
theorem zmy (n0:Nat) (n1:Nat) (v10:(Sl ai)) (v12:(Sl ai)) (v13:Int) (v16:Int):GM E n0 (n1+1) v10 v12 v13 v16 k =
  cond (decide (v16 < (v12.len:Int)))
  (bf (decide (0<=v16/\v16 < (v12.len:Int))) (bf (decide (0<=v13/\v13 < (v10.len:Int))) ((E.zlk ((v12.get v16.toNat),(v10.get v13.toNat))).T λ r1 =>
 cond r1
 (GM E n0 n1 v10 v12 v13 (aO (v16+1)) k)
 (KN E n0 v10 v12 v13 v16 k))))
  (KN E n0 v10 v12 v13 v16 k):=by kernel_rfl
theorem zxT (n0:Nat) (v10:(Sl ai)) (v12:(Sl ai)) (v13:Int) (v16:Int):KN E n0 v10 v12 v13 v16 k =
  bf (decide ((0:Int)<=0/\(0:Int)<=v16/\v16<=(v12.len:Int))) (bf (room ((v16:Int) - 0).toNat 56) (bf (decide (0<=v13/\v13 < (v10.len:Int))) (bf (room (((v16:Int) - 0).toNat+1) 56) (bf (decide ((0:Int)<=v16/\(v16:Int)<=(v12.len:Int)/\(v12.len:Int)<=(v12.len:Int))) (bf (room ((((v16:Int) - 0).toNat+1)+(((v12.len:Int):Int) - v16).toNat) 56) (wU E n0 v10 (aO (v13+1)) (⟨((((v16:Int) - 0).toNat+1)+(((v12.len:Int):Int) - v16).toNat),(jb (((v16:Int) - 0).toNat+1) (jb ((v16:Int) - 0).toNat (Jn v12.get 0) (λ _=>(v10.get v13.toNat))) (Jn v12.get v16.toNat))⟩:(Sl ai)) k)))))):=by kernel_rfl
end
theorem o88 [aJ] (E:E88) (h94:Ok ax 94 (ae.un E.c94)) (h53:Ok ax 53 (ae.un E.c53)) (zpF:Ok ax 144 (ae.un E.zlk)):dX ax 88 (.mkv 43 3 56 (ae.unV (F88 E))):=Ul (MN (((ay.nil.addF h94).addF h53).addF zpF) (ak (by kernel_rfl)))
structure E90 where
  N:Nat
  c148:(Sl bz)×(Sl Int)->ae ((Sl bz))
  zll:au×(Sl bz)->ae (bZ×Bool)
abbrev G90 (E:E90):aX:=dh ((Tabs.nil.addF 148 (ae.un E.c148)).addF 147 (ae.un E.zll)) []
def A90:bW:=aU ax 90 [] {}
def F90 (E:E90):au×(Sl bz)×(Sl Int)->ae (Bool):=ae.ty (aF ax E.N (G90 E) A90 90)
section
variable (E:E90){A:Type}(k:Bool->Option A)
theorem e90 (a0:au) (a1:(Sl bz)) (a2:(Sl Int)):(F90 E (a0,a1,a2)).T k =
  (E.c148 (a1,a2)).T λ r1 =>
  (E.zll (a0,r1)).T λ r2 =>
  k r2.2:=bH.trans (by kernel_rfl)
end
theorem o90 [aJ] (E:E90) (zpG:Ok ax 148 (ae.un E.c148)) (zpH:Ok ax 147 (ae.un E.zll)):Ok ax 90 (ae.un (F90 E)):=aY (aP ((ay.nil.addF zpG).addF zpH) (ak (by kernel_rfl)))
structure E91 where
  N:Nat
  c65:au×(Sl bz)×ai->ae ((Sl aC))
  c87:(Sl bz)×(Sl Int)×Int->ae (Bool)
  zS:(Sl aC)->ae (Bool)
  zlm:(Sl aC)×Int->ae (aS×aS)
  VM:aS->ae (Int)
  c86:Int×Int×Int->ae (Bool)
  c77:af×bZ->ae (Bool×Bool)
abbrev G91 (E:E91):aX:=dh (((((((Tabs.nil.addF 65 (ae.un E.c65)).addF 87 (ae.un E.c87)).addF 149 (ae.un E.zS)).addF 150 (ae.un E.zlm)).addF 151 (ae.un E.VM)).addF 86 (ae.un E.c86)).addF 77 (ae.un E.c77)) []
def A91:bW:=aU ax 91 [] { ks:=[(1,4,⟨[],[(7,92,3)],[],[],[],[],[]⟩)] }
def F91 (E:E91):au×(Sl bz)×ai->ae ((Sl Int)):=ae.ty (aF ax E.N (G91 E) A91 91)
section
variable (E:E91){A:Type}(k:(Sl Int)->Option A)
def tX (E:E91) (n:Nat) (a0:au) (a1:(Sl bz)) (a2:ai) (v8:(Sl aC)) (v9:Int) (Xy:Sl Int){A:Type}(k:(Sl Int)->Option A):Option A :=
  iG ax (G91 E) E.N A91 91 [1,1,1,0,1,0] [.n n] (iI k)
    ⟨[(1,eP a1),(3,.cl (.ptr 3 0)),(5,.cl (.ptr 5 0)),(7,.cl (.vec 92)),(8,eP v8),(9,.int v9)],[(3,eB 24 a0),(5,eB 43 a2),(92,eV 3 1 8 Xy)],[]⟩
theorem e91 (a0:au) (a1:(Sl bz)) (a2:ai):(F91 E (a0,a1,a2)).T k =
  (E.c65 (a0,a1,a2)).T λ r1 =>
  tX E E.N a0 a1 a2 r1 0 (⟨0,(λ _=>0)⟩:(Sl Int)) k:=bH.trans (by kernel_rfl)
theorem zmz (n0:Nat) (a0:au) (a1:(Sl bz)) (a2:ai) (v8:(Sl aC)) (v9:Int) (Xy:Sl Int):tX E (n0+1) a0 a1 a2 v8 v9 Xy k =
  cond (decide (v9 < (a0.aj.len:Int)))
  (bf (decide (0<=v9/\v9 < (a0.aj.len:Int))) (cond ((a0.aj.get v9.toNat).View != a2.View)
 (tX E n0 a0 a1 a2 v8 (aO (v9+1)) Xy k)
 ((E.c87 (a1,a2.Hits,v9)).T λ r1 =>
 cond r1
 (tX E n0 a0 a1 a2 v8 (aO (v9+1)) Xy k)
 ((E.zS v8).T λ r2 =>
 cond r2
 (tX E n0 a0 a1 a2 v8 (aO (v9+1)) Xy k)
 (bf (decide (0<=v9/\v9 < (a0.aj.len:Int))) ((E.zlm (v8,(a0.aj.get v9.toNat).Z)).T λ r3 =>
 (E.VM r3.1).T λ r4 =>
 (E.VM (⟨(aO (0 - r3.2.Num)),r3.2.cO⟩:aS)).T λ r5 =>
 (E.c86 (r4,(-1000000),1000000)).T λ r6 =>
 cond (!r6)
 (tX E n0 a0 a1 a2 v8 (aO (v9+1)) Xy k)
 ((E.c86 ((aO (0 - r5)),(-1000000),1000000)).T λ r7 =>
 cond (!r7)
 (tX E n0 a0 a1 a2 v8 (aO (v9+1)) Xy k)
 (bf (decide (0<=v9/\v9 < (a0.aj.len:Int))) ((E.c77 ((a0.aj.get v9.toNat),(⟨r4,(aO (0 - r5))⟩:bZ))).T λ r8 =>
 cond r8.1
 (bf (room (Xy.len+1) 8) (tX E n0 a0 a1 a2 v8 (aO (v9+1)) (⟨(Xy.len+1),(jb Xy.len Xy.get (λ _=>v9))⟩:(Sl Int)) k))
 (tX E n0 a0 a1 a2 v8 (aO (v9+1)) Xy k))))))))))
  (k Xy):=by kernel_rfl
end
theorem o91 [aJ] (E:E91) (h65:Ok ax 65 (ae.un E.c65)) (h87:Ok ax 87 (ae.un E.c87)) (Dh:Ok ax 149 (ae.un E.zS)) (zpJ:Ok ax 150 (ae.un E.zlm)) (ziG:Ok ax 151 (ae.un E.VM)) (h86:Ok ax 86 (ae.un E.c86)) (h77:Ok ax 77 (ae.un E.c77)):Ok ax 91 (ae.un (F91 E)):=aY (aP (((((((ay.nil.addF h65).addF h87).addF Dh).addF zpJ).addF ziG).addF h86).addF h77) (ak (by kernel_rfl)))
structure E92 where
  N:Nat
  c152:(Sl Int)×Int->ae (Int)
abbrev G92 (E:E92):aX:=dh (Tabs.nil.addF 152 (ae.un E.c152)) []
def A92:bW:=aU ax 92 [] {}
def F92 (E:E92):ai×ai->ae (Bool):=ae.ty (aF ax E.N (G92 E) A92 92)
section
variable (E:E92){A:Type}(k:Bool->Option A)
def Xz (E:E92) (n:Nat) (a0:ai) (a1:ai) (v11:Int){A:Type}(k:Bool->Option A):Option A :=
  iG ax (G92 E) E.N A92 92 [1,0,1,0] [.n n] (iI k)
    ⟨[(2,.cl (.ptr 2 0)),(3,.cl (.ptr 3 0)),(9,eP a1.Hits),(10,.int (a1.Hits.len:Int)),(11,.int v11)],[(2,eB 43 a0),(3,eB 43 a1)],[]⟩
theorem e92 (a0:ai) (a1:ai):(F92 E (a0,a1)).T k =
  Xz E E.N a0 a1 0 k:=bH.trans (by kernel_rfl)
theorem zmA (n0:Nat) (a0:ai) (a1:ai) (v11:Int):Xz E (n0+1) a0 a1 v11 k =
  cond (decide (v11 < (a1.Hits.len:Int)))
  (bf (decide (0<=v11/\v11 < (a1.Hits.len:Int))) ((E.c152 (a0.Hits,a1.Hits.get v11.toNat)).T λ r1 =>
 cond (decide (r1 < 0))
 (k false)
 (bf (decide (0<=r1/\r1 < (a0.bC.len:Int))) (bf (decide (0<=v11/\v11 < (a1.bC.len:Int))) (cond (a0.bC.get r1.toNat != a1.bC.get v11.toNat)
 (k false)
 (Xz E n0 a0 a1 (aO (v11+1)) k))))))
  (k (a0.View == a1.View)):=by kernel_rfl
end
theorem o92 [aJ] (E:E92) (zpL:Ok ax 152 (ae.un E.c152)):Ok ax 92 (ae.un (F92 E)):=aY (aP (ay.nil.addF zpL) (ak (by kernel_rfl)))
structure E93 where
  N:Nat
  c50:au×(Sl bz)->ae (bZ×Int)
abbrev G93 (E:E93):aX:=dh (Tabs.nil.addF 50 (ae.un E.c50)) []
def A93:bW:=aU ax 93 [] { ks:=[(1,3,⟨[],[(6,27,92)],[],[],[],[],[]⟩)] }
def F93 (E:E93):(Pt aW)×ai->ae (bZ×Bool):=ae.ty (aF ax E.N (G93 E) A93 93)
section
variable (E:E93){A:Type}(k:(bZ×Bool)->Option A)
def XB (E:E93) (n:Nat) (a0:(Pt aW)) (a1:ai) (v14:Int) (w27:Sl bz){A:Type}(k:(bZ×Bool)->Option A):Option A :=
  iG ax (G93 E) E.N A93 93 [1,1,0,1,0] [.n n] (iI k)
    ⟨[(0,eP a0),(4,.cl (.ptr 4 0)),(6,.cl (.vec 27)),(12,eP a1.Hits),(13,.int (a1.Hits.len:Int)),(14,.int v14)],[(4,.box 105 [.p (.int .i64 0),.p (.int .i64 0)]),(27,eV 92 6 48 w27)],[]⟩
theorem e93 (a0:(Pt aW)) (a1:ai):(F93 E (a0,a1)).T k =
  XB E E.N a0 a1 0 (⟨0,(λ _=>(⟨0,0,0,0,0,0⟩:bz))⟩:(Sl bz)) k:=bH.trans (by kernel_rfl)
theorem zmC (n0:Nat) (a0:(Pt aW)) (a1:ai) (v14:Int) (w27:Sl bz):XB E (n0+1) a0 a1 v14 w27 k =
  cond (decide (v14 < (a1.Hits.len:Int)))
  (bf (decide (0<=v14/\v14 < (a1.Hits.len:Int))) (bf (decide (0<=a1.Hits.get v14.toNat/\a1.Hits.get v14.toNat < (a0.v.hits.len:Int))) (bf (room (w27.len+1) 48) (XB E n0 a0 a1 (aO (v14+1)) (⟨(w27.len+1),(jb w27.len w27.get (λ _=>(a0.v.hits.get (a1.Hits.get v14.toNat).toNat)))⟩:(Sl bz)) k))))
  ((E.c50 (a0.v.au,w27)).T λ r1 =>
 k (r1.1,(r1.2 == 0))):=by kernel_rfl
end
theorem o93 [aJ] (E:E93) (h50:Ok ax 50 (ae.un E.c50)):Ok ax 93 (ae.un (F93 E)):=aY (aP (ay.nil.addF h50) (ak (by kernel_rfl)))
structure E94 where
  N:Nat
  zln:au×(Sl bz)×Int->ae ((Sl ai)×Bool)
  c154:au×bP×(Sl bz)×ai->ae (Bool)
abbrev G94 (E:E94):aX:=dh ((Tabs.nil.addF 153 (ae.un E.zln)).addF 154 (ae.un E.c154)) []
def A94:bW:=aU ax 94 [] { ks:=[(1,6,⟨[],[(12,43,43)],[],[],[],[],[]⟩)] }
def F94 (E:E94):au×bP×(Sl bz)×Int->ae ((Sl ai)×Bool):=ae.ty (aF ax E.N (G94 E) A94 94)
section
variable (E:E94){A:Type}(k:((Sl ai)×Bool)->Option A)
def CJ (E:E94) (n:Nat) (a0:au) (a1:bP) (a2:(Sl bz)) (v10:(Sl ai)) (v13:Int) (w43:Sl ai){A:Type}(k:((Sl ai)×Bool)->Option A):Option A :=
  iG ax (G94 E) E.N A94 94 [1,1,1,1,0,1,0] [.n n] (iI k)
    ⟨[(2,eP a2),(4,.cl (.ptr 4 0)),(5,.cl (.ptr 5 0)),(10,eP v10),(12,.cl (.vec 43)),(13,.int v13)],[(4,eB 24 a0),(5,eB 26 a1),(43,eV 43 3 56 w43)],[]⟩
theorem e94 (a0:au) (a1:bP) (a2:(Sl bz)) (a3:Int):(F94 E (a0,a1,a2,a3)).T k =
  (E.zln (a0,a2,a3)).T λ r1 =>
  cond (!r1.2)
  (k ((⟨0,λ _=>default⟩:(Sl ai)),false))
  (CJ E E.N a0 a1 a2 r1.1 0 (⟨0,(λ _=>(⟨0,(⟨0,(λ _=>0)⟩:(Sl Int)),(⟨0,(λ _=>0)⟩:(Sl Int))⟩:ai))⟩:(Sl ai)) k):=bH.trans (by kernel_rfl)
theorem zmD (n0:Nat) (a0:au) (a1:bP) (a2:(Sl bz)) (v10:(Sl ai)) (v13:Int) (w43:Sl ai):CJ E (n0+1) a0 a1 a2 v10 v13 w43 k =
  cond (decide (v13 < (v10.len:Int)))
  (bf (decide (0<=v13/\v13 < (v10.len:Int))) ((E.c154 (a0,a1,a2,(v10.get v13.toNat))).T λ r1 =>
 cond r1
 (bf (decide (0<=v13/\v13 < (v10.len:Int))) (bf (room (w43.len+1) 56) (CJ E n0 a0 a1 a2 v10 (aO (v13+1)) (⟨(w43.len+1),(jb w43.len w43.get (λ _=>(v10.get v13.toNat)))⟩:(Sl ai)) k)))
 (CJ E n0 a0 a1 a2 v10 (aO (v13+1)) w43 k)))
  (k (w43,true)):=by kernel_rfl
end
theorem o94 [aJ] (E:E94) (zpO:Ok ax 153 (ae.un E.zln)) (zpP:Ok ax 154 (ae.un E.c154)):Ok ax 94 (ae.un (F94 E)):=aY (aP ((ay.nil.addF zpO).addF zpP) (ak (by kernel_rfl)))
structure E97 where
  N:Nat
  zli:ai×(Pt ai)->ae (Bool)
abbrev G97 (E:E97):aX:=dh (Tabs.nil.addF 132 (ae.un E.zli)) []
def A97:bW:=aU ax 97 [] {}
def F97 (E:E97):(Sl ai)×(dN 132 Unit (Pt ai))->ae (Int):=ae.ty (aF ax E.N (G97 E) A97 97)
section
variable (E:E97){A:Type}(k:Int->Option A)
def XD (E:E97) (n:Nat) (a0:(Sl ai)) (a1:(dN 132 Unit (Pt ai))) (v8:Int){A:Type}(k:Int->Option A):Option A :=
  iG ax (G97 E) E.N A97 97 [1,0,1,0] [.n n] (iI k)
    ⟨[(0,eP a0),(1,eP a1),(7,.int (a0.len:Int)),(8,.int v8)],[],[]⟩
theorem e97 (a0:(Sl ai)) (a1:(dN 132 Unit (Pt ai))):(F97 E (a0,a1)).T k =
  XD E E.N a0 a1 0 k:=bH.trans (by kernel_rfl)
theorem zmE (n0:Nat) (a0:(Sl ai)) (a1:(dN 132 Unit (Pt ai))) (v8:Int):XD E (n0+1) a0 a1 v8 k =
  cond (decide (v8 < (a0.len:Int)))
  (bf (decide (0<=v8/\v8 < (a0.len:Int))) ((E.zli ((a0.get v8.toNat),a1.v)).T λ r1 =>
 cond r1
 (k v8)
 (XD E n0 a0 a1 (aO (v8+1)) k)))
  (k (-1)):=by kernel_rfl
end
theorem o97 [aJ] (E:E97) (zpR:Ok ax 132 (ae.un E.zli)):Ok ax 97 (ae.un (F97 E)):=aY (aP (ay.nil.addF zpR) (ak (by kernel_rfl)))
end Go.Proofs

namespace Go.Proofs
open Go Go.Pm
set_option maxRecDepth 100000
structure UL where
  N:Nat
  c156:aC->ae (Bool)
  c157:Int×Int×Int->ae (Bool)
abbrev zxU (E:UL):aX:=dh ((Tabs.nil.addF 156 (ae.un E.c156)).addF 157 (ae.un E.c157)) []
def zxV:bW:=aU ax 109 [] {}
def ziI (E:UL):(Sl aC)->ae (Bool):=ae.ty (aF ax E.N (zxU E) zxV 109)
section
variable (E:UL){A:Type}(k:Bool->Option A)
def Nl (E:UL) (n:Nat) (a0:(Sl aC)) (v7:Int){A:Type}(k:Bool->Option A):Option A :=
  iG ax (zxU E) E.N zxV 109 [1,0,1,0] [.n n] (iI k)
    ⟨[(0,eP a0),(5,eP a0),(6,.int (a0.len:Int)),(7,.int v7)],[],[]⟩
theorem e109 (a0:(Sl aC)):(ziI E (a0)).T k =
  Nl E E.N a0 0 k:=bH.trans (by kernel_rfl)
theorem zdT (n0:Nat) (a0:(Sl aC)) (v7:Int):Nl E (n0+1) a0 v7 k =
  cond (decide (v7 < (a0.len:Int)))
  (bf (decide (0<=v7/\v7 < (a0.len:Int))) ((E.c156 (a0.get v7.toNat)).T λ r1 =>
 cond (!r1)
 (k false)
 (Nl E n0 a0 (aO (v7+1)) k)))
  ((E.c157 ((a0.len:Int),1,24)).T λ r2 =>
 k r2):=by kernel_rfl
end
theorem zGl [aJ] (E:UL) (zpS:Ok ax 156 (ae.un E.c156)) (xI:Ok ax 157 (ae.un E.c157)):Ok ax 109 (ae.un (ziI E)):=aY (aP ((ay.nil.addF zpS).addF xI) (ak (by kernel_rfl)))
structure UM where
  N:Nat
  c160:au->ae (Bool)
  qh:au×bz->ae (placed×Bool)
abbrev zxW (E:UM):aX:=dh ((Tabs.nil.addF 160 (ae.un E.c160)).addF 112 (ae.un E.qh)) []
def zxX:bW:=aU ax 111 [] {}
def ziJ (E:UM):au×(Sl bz)->ae (Int):=ae.ty (aF ax E.N (zxW E) zxX 111)
section
variable (E:UM){A:Type}(k:Int->Option A)
def Np (E:UM) (n:Nat) (a0:au) (a1:(Sl bz)) (v17:Int){A:Type}(k:Int->Option A):Option A :=
  iG ax (zxW E) E.N zxX 111 [1,1,1,0,1,0] [.n n] (iI k)
    ⟨[(2,.cl (.ptr 2 0)),(15,eP a1),(16,.int (a1.len:Int)),(17,.int v17)],[(2,eB 24 a0)],[]⟩
theorem zGm (a0:au) (a1:(Sl bz)):(ziJ E (a0,a1)).T k =
  cond (decide ((a1.len:Int) > 2000))
  (k 3)
  ((E.c160 a0).T λ r1 =>
 cond (!r1)
 (k 2)
 (Np E E.N a0 a1 0 k)):=bH.trans (by kernel_rfl)
theorem zdU (n0:Nat) (a0:au) (a1:(Sl bz)) (v17:Int):Np E (n0+1) a0 a1 v17 k =
  cond (decide (v17 < (a1.len:Int)))
  (bf (decide (0<=v17/\v17 < (a1.len:Int))) ((E.qh (a0,(a1.get v17.toNat))).T λ r1 =>
 cond (!r1.2)
 (k 2)
 (Np E n0 a0 a1 (aO (v17+1)) k)))
  (k 0):=by kernel_rfl
end
theorem o111 [aJ] (E:UM) (xG:Ok ax 160 (ae.un E.c160)) (h112:Ok ax 112 (ae.un E.qh)):Ok ax 111 (ae.un (ziJ E)):=aY (aP ((ay.nil.addF xG).addF h112) (ak (by kernel_rfl)))
structure Zr where
  N:Nat
abbrev zGn (E:Zr):aX:=dh Tabs.nil []
def zGo:bW:=aU ax 113 [] {}
def ziK (E:Zr):placed×bz->ae (bZ):=ae.ty (aF ax E.N (zGn E) zGo 113)
section
variable (E:Zr){A:Type}(k:bZ->Option A)
theorem zGp (a0:placed) (a1:bz):(ziK E (a0,a1)).T k =
  cond (a0.af.Kind == 3)
  (k a0.af.Clock)
  (k (⟨(aO ((aO (a1.Time - a0.af.Clock.High)) - a0.af.dH)),(aO ((aO (a1.Time - a0.af.Clock.Low))+a0.af.dH))⟩:bZ)):=bH.trans (by kernel_rfl)
end
theorem zGq [aJ] (E:Zr):Ok ax 113 (ae.un (ziK E)):=aY (aP ay.nil (ak (by kernel_rfl)))
structure Zt where
  N:Nat
  c157:Int×Int×Int->ae (Bool)
  c117:(Sl aC)×((dN 118 Unit Unit) ⊕ (dN 162 Unit (Pt Int)))->ae (set×Int)
  zbr:set×Int->ae (aS×aS)
abbrev zGr (E:Zt):aX:=dh (((Tabs.nil.addF 157 (ae.un E.c157)).addF 117 (ae.un E.c117)).addF 163 (ae.un E.zbr)) []
def zGs:bW:=aU ax 114 [] {}
def ziL (E:Zt):(Sl aC)×Int->ae (aS×aS×Int):=ae.ty (aF ax E.N (zGr E) zGs 114)
section
variable (E:Zt){A:Type}(k:(aS×aS×Int)->Option A)
theorem zGt (a0:(Sl aC)) (a1:Int):(ziL E (a0,a1)).T k =
  (E.c157 (a1,(-100000),200000)).T λ r1 =>
  cond (!r1)
  (k ((⟨0,0⟩:aS),(⟨0,0⟩:aS),2))
  ((E.c117 (a0,(Sum.inr (⟨(),(⟨a1⟩:(Pt Int))⟩:(dN 162 Unit (Pt Int)))))).T λ r2 =>
 cond (r2.2 != 0)
 (k ((⟨0,0⟩:aS),(⟨0,0⟩:aS),r2.2))
 ((E.zbr (r2.1,a1)).T λ r3 =>
 k (r3.1,r3.2,0))):=bH.trans (by kernel_rfl)
end
theorem zGu [aJ] (E:Zt) (xI:Ok ax 157 (ae.un E.c157)) (UN:Ok ax 117 (ae.un E.c117)) (zpT:Ok ax 163 (ae.un E.zbr)):Ok ax 114 (ae.un (ziL E)):=aY (aP (((ay.nil.addF xI).addF UN).addF zpT) (ak (by kernel_rfl)))
structure QD where
  N:Nat
  c160:au->ae (Bool)
  fJ:Int×Int×Int->ae (Bool)
  c164:bZ×Int->ae (Bool)
  zbu:(Pt placed)->ae (List (Int×bZ))
abbrev zpU (E:QD):aX:=dh (((((Tabs.nil.addF 160 (ae.un E.c160)).addF 161 (ae.un E.fJ)).addF 164 (ae.un E.c164)).addF 165 (aF ax E.N (dh Tabs.nil []) (aU ax 165 [] {}) 165)).addI 204 (ae.unI E.zbu)) []
def zpV:bW:=aU ax 115 [] { cut:=[10] }
def ziM (E:QD):au×Int×bZ->ae (Bool×Bool×Int):=ae.ty (aF ax E.N (zpU E) zpV 115)
section
variable (E:QD){A:Type}(k:(Bool×Bool×Int)->Option A)
def pX (E:QD) (l:List (Int×bZ)) (a0:au) (a1:Int) (mi:Int) (lM:Int) (oW:Bool) (lN:Int){A:Type}(k:(Bool×Bool×Int)->Option A):Option A :=
  iG ax (zpU E) E.N zpV 115 [1,1,1,1,1,1,0,1,0] [.y (l.map dw.enc)] (iI k)
    ⟨[(9,.cl (.ptr 9 0)),(10,.cl (.ptr 10 0)),(11,.cl (.ptr 11 0)),(12,.cl (.ptr 12 0)),(13,.cl (.ptr 13 0)),(56,.p (.fn 204 [] [.fp [.int .i64 (a0.aj.get a1.toNat).Kind,.int .i64 (a0.aj.get a1.toNat).View,.int .i64 (a0.aj.get a1.toNat).Z,.int .i64 (a0.aj.get a1.toNat).First,.int .i64 (a0.aj.get a1.toNat).aZ,.int .i64 (a0.aj.get a1.toNat).bM,.int .i64 (a0.aj.get a1.toNat).dD,.int .i64 (a0.aj.get a1.toNat).bu.Low,.int .i64 (a0.aj.get a1.toNat).bu.High,.int .i64 (a0.aj.get a1.toNat).Clock.Low,.int .i64 (a0.aj.get a1.toNat).Clock.High,.int .i64 (a0.aj.get a1.toNat).dH,.int .i64 (a0.aj.get a1.toNat).Least,.sl (a0.aj.get a1.toNat).aQ.len 3 (λ i=>bG.enc ((a0.aj.get a1.toNat).aQ.get i)),.sl (a0.aj.get a1.toNat).Dead.len 1 (λ i=>bG.enc ((a0.aj.get a1.toNat).Dead.get i)),.int .i64 a1] 0]))],[(9,.box 185 [.p (.int .i64 (a0.aj.get a1.toNat).Kind),.p (.int .i64 (a0.aj.get a1.toNat).View),.p (.int .i64 (a0.aj.get a1.toNat).Z),.p (.int .i64 (a0.aj.get a1.toNat).First),.p (.int .i64 (a0.aj.get a1.toNat).aZ),.p (.int .i64 (a0.aj.get a1.toNat).bM),.p (.int .i64 (a0.aj.get a1.toNat).dD),.p (.int .i64 (a0.aj.get a1.toNat).bu.Low),.p (.int .i64 (a0.aj.get a1.toNat).bu.High),.p (.int .i64 (a0.aj.get a1.toNat).Clock.Low),.p (.int .i64 (a0.aj.get a1.toNat).Clock.High),.p (.int .i64 (a0.aj.get a1.toNat).dH),.p (.int .i64 (a0.aj.get a1.toNat).Least),.p (.sl (a0.aj.get a1.toNat).aQ.len 3 (λ i=>bG.enc ((a0.aj.get a1.toNat).aQ.get i))),.p (.sl (a0.aj.get a1.toNat).Dead.len 1 (λ i=>bG.enc ((a0.aj.get a1.toNat).Dead.get i))),.p (.int .i64 a1)]),(10,eB 3 mi),(11,eB 3 lM),(12,eB 4 oW),(13,eB 3 lN)],[]⟩
def GN (E:QD) (l0:List (Int×bZ)) (a0:au) (a1:Int) (mi:Int) (lM:Int) (oW:Bool) (lN:Int) (x15:bZ){A:Type}(k:(Bool×Bool×Int)->Option A):Option A :=
  iG ax (zpU E) E.N zpV 115 [1,1,1,1,1,1,0,1,0,0,0,1] [.y (l0.map dw.enc)] (iI k)
    ⟨[(9,.cl (.ptr 9 0)),(10,.cl (.ptr 10 0)),(11,.cl (.ptr 11 0)),(12,.cl (.ptr 12 0)),(13,.cl (.ptr 13 0)),(15,.cl (.ptr 15 0)),(56,.p (.fn 204 [] [.fp [.int .i64 (a0.aj.get a1.toNat).Kind,.int .i64 (a0.aj.get a1.toNat).View,.int .i64 (a0.aj.get a1.toNat).Z,.int .i64 (a0.aj.get a1.toNat).First,.int .i64 (a0.aj.get a1.toNat).aZ,.int .i64 (a0.aj.get a1.toNat).bM,.int .i64 (a0.aj.get a1.toNat).dD,.int .i64 (a0.aj.get a1.toNat).bu.Low,.int .i64 (a0.aj.get a1.toNat).bu.High,.int .i64 (a0.aj.get a1.toNat).Clock.Low,.int .i64 (a0.aj.get a1.toNat).Clock.High,.int .i64 (a0.aj.get a1.toNat).dH,.int .i64 (a0.aj.get a1.toNat).Least,.sl (a0.aj.get a1.toNat).aQ.len 3 (λ i=>bG.enc ((a0.aj.get a1.toNat).aQ.get i)),.sl (a0.aj.get a1.toNat).Dead.len 1 (λ i=>bG.enc ((a0.aj.get a1.toNat).Dead.get i)),.int .i64 a1] 0]))],[(9,.box 185 [.p (.int .i64 (a0.aj.get a1.toNat).Kind),.p (.int .i64 (a0.aj.get a1.toNat).View),.p (.int .i64 (a0.aj.get a1.toNat).Z),.p (.int .i64 (a0.aj.get a1.toNat).First),.p (.int .i64 (a0.aj.get a1.toNat).aZ),.p (.int .i64 (a0.aj.get a1.toNat).bM),.p (.int .i64 (a0.aj.get a1.toNat).dD),.p (.int .i64 (a0.aj.get a1.toNat).bu.Low),.p (.int .i64 (a0.aj.get a1.toNat).bu.High),.p (.int .i64 (a0.aj.get a1.toNat).Clock.Low),.p (.int .i64 (a0.aj.get a1.toNat).Clock.High),.p (.int .i64 (a0.aj.get a1.toNat).dH),.p (.int .i64 (a0.aj.get a1.toNat).Least),.p (.sl (a0.aj.get a1.toNat).aQ.len 3 (λ i=>bG.enc ((a0.aj.get a1.toNat).aQ.get i))),.p (.sl (a0.aj.get a1.toNat).Dead.len 1 (λ i=>bG.enc ((a0.aj.get a1.toNat).Dead.get i))),.p (.int .i64 a1)]),(10,eB 3 mi),(11,eB 3 lM),(12,eB 4 oW),(13,eB 3 lN),(15,eB 105 x15)],[]⟩
theorem e115 (a0:au) (a1:Int) (a2:bZ):(ziM E (a0,a1,a2)).T k =
  (E.c160 a0).T λ r1 =>
  cond (!r1)
  (k (false,false,2))
  ((E.fJ (a1,0,(aO ((a0.aj.len:Int) - 1)))).T λ r2 =>
 cond (!r2)
 (k (false,false,2))
 ((E.c164 (a2,1000000)).T λ r3 =>
 cond (!r3)
 (k (false,false,2))
 (bf (decide (0<=a1/\a1 < (a0.aj.len:Int))) ((E.zbu (⟨(⟨(a0.aj.get a1.toNat),a1⟩:placed)⟩:(Pt placed))).T λ r4 =>
 pX E r4 a0 a1 (aO (a2.Low - (a0.aj.get a1.toNat).bu.High)) (aO (a2.High - (a0.aj.get a1.toNat).bu.Low)) false (aO (a2.Low - (a0.aj.get a1.toNat).bu.High)) k)))):=bH.trans (by kernel_rfl)
theorem ziN (a0:au) (a1:Int) (mi:Int) (lM:Int) (oW:Bool) (lN:Int):pX E [] a0 a1 mi lM oW lN k =
  k (decide (lN > lM),oW,0):=by kernel_rfl
theorem UO (y:Int×bZ) (l0:List (Int×bZ)) (a0:au) (a1:Int) (mi:Int) (lM:Int) (oW:Bool) (lN:Int):pX E (y :: l0) a0 a1 mi lM oW lN k =
  cond oW
  (GN E l0 a0 a1 mi lM true lN y.2 k)
  (cond (decide ((aO (y.2.Low - (a0.aj.get a1.toNat).dD))<=lM))
 (GN E l0 a0 a1 mi lM (decide ((aO (y.2.High+(a0.aj.get a1.toNat).dD)) >= mi)) lN y.2 k)
 (GN E l0 a0 a1 mi lM false lN y.2 k)):=by kernel_rfl
theorem zpW (l0:List (Int×bZ)) (a0:au) (a1:Int) (mi:Int) (lM:Int) (oW:Bool) (lN:Int) (x15:bZ):GN E l0 a0 a1 mi lM oW lN x15 k =
  cond (decide (x15.Low<=lN))
  (cond (decide (lN<=x15.High))
 (pX E l0 a0 a1 mi lM oW (aO (x15.High+1)) k)
 (pX E l0 a0 a1 mi lM oW lN k))
  (pX E l0 a0 a1 mi lM oW lN k):=by kernel_rfl
end
theorem zGv [aJ] (E:QD) (xG:Ok ax 160 (ae.un E.c160)) (jD:Ok ax 161 (ae.un E.fJ)) (Qx:Ok ax 164 (ae.un E.c164)) (zGw:qx ax 204 (ae.unI E.zbu)):Ok ax 115 (ae.un (ziM E)):=aY (aP (((((ay.nil.addF xG).addF jD).addF Qx).addF (aP ay.nil (ak (by kernel_rfl)))).addI zGw) (ak (by kernel_rfl)))
structure Zu where
  N:Nat
  Oq:Line×Int->ae (Int×Int)
abbrev zGx (E:Zu):aX:=dh (Tabs.nil.addF 166 (ae.un E.Oq)) []
def zGy:bW:=aU ax 116 [] {}
def ziO (E:Zu):Line×aC->ae (Bool):=ae.ty (aF ax E.N (zGx E) zGy 116)
section
variable (E:Zu){A:Type}(k:Bool->Option A)
theorem e116 (a0:Line) (a1:aC):(ziO E (a0,a1)).T k =
  (E.Oq (a0,a1.Z)).T λ r1 =>
  cond (decide ((aO (a1.Low * r1.2))<=r1.1))
  (k (decide (r1.1<=(aO (a1.High * r1.2)))))
  (k false):=bH.trans (by kernel_rfl)
end
theorem zGz [aJ] (E:Zu) (UQ:Ok ax 166 (ae.un E.Oq)):Ok ax 116 (ae.un (ziO E)):=aY (aP (ay.nil.addF UQ) (ak (by kernel_rfl)))
structure qO where
  N:Nat
  c109:(Sl aC)->ae (Bool)
  Oo:(Sl aC)->ae (set)
  c159:set->ae (Bool)
  c167:list->ae (Bool)
  zlf:list->ae (Bool)
abbrev zdV (E:qO):aX:=dh (((((Tabs.nil.addF 109 (ae.un E.c109)).addF 158 (ae.un E.Oo)).addF 159 (ae.un E.c159)).addF 167 (ae.un E.c167)).addF 118 (ae.un E.zlf)) []
def zdW:bW:=aU ax 117 [] {}
def zg (E:qO):(Sl aC)×(dN 118 Unit Unit)->ae (set×Int):=ae.ty (aF ax E.N (zdV E) zdW 117)
section
variable (E:qO){A:Type}(k:(set×Int)->Option A)
theorem zdX (a0:(Sl aC)) (a1:(dN 118 Unit Unit)):(zg E (a0,a1)).T k =
  (E.c109 a0).T λ r1 =>
  cond (!r1)
  (k ((⟨(⟨(⟨0,λ _=>default⟩:(Sl aC))⟩:list),(⟨0,λ _=>default⟩:(Sl straight))⟩:set),2))
  ((E.Oo a0).T λ r2 =>
 (E.c159 r2).T λ r3 =>
 cond (!r3)
 (k ((⟨(⟨(⟨0,λ _=>default⟩:(Sl aC))⟩:list),(⟨0,λ _=>default⟩:(Sl straight))⟩:set),5))
 ((E.c167 r2.list).T λ r4 =>
 cond r4
 ((E.zlf r2.list).T λ r5 =>
 cond (!r5)
 (k ((⟨(⟨(⟨0,λ _=>default⟩:(Sl aC))⟩:list),(⟨0,λ _=>default⟩:(Sl straight))⟩:set),6))
 (k (r2,0)))
 (k (r2,0)))):=bH.trans (by kernel_rfl)
end
theorem zdY [aJ] (E:qO) (UR:Ok ax 109 (ae.un E.c109)) (UT:Ok ax 158 (ae.un E.Oo)) (UU:Ok ax 159 (ae.un E.c159)) (sD:Ok ax 167 (ae.un E.c167)) (zpX:Ok ax 118 (ae.un E.zlf)):Ok ax 117 (ae.un (zg E)):=aY (aP (((((ay.nil.addF UR).addF UT).addF UU).addF sD).addF zpX) (ak (by kernel_rfl)))
structure qP where
  N:Nat
  c109:(Sl aC)->ae (Bool)
  Oo:(Sl aC)->ae (set)
  c159:set->ae (Bool)
  c167:list->ae (Bool)
  c162:list×(Pt Int)->ae (Bool)
abbrev zdZ (E:qP):aX:=dh (((((Tabs.nil.addF 109 (ae.un E.c109)).addF 158 (ae.un E.Oo)).addF 159 (ae.un E.c159)).addF 167 (ae.un E.c167)).addF 162 (ae.un E.c162)) []
def zd0:bW:=aU ax 117 [] {}
def zh (E:qP):(Sl aC)×(dN 162 Unit (Pt Int))->ae (set×Int):=ae.ty (aF ax E.N (zdZ E) zd0 117)
section
variable (E:qP){A:Type}(k:(set×Int)->Option A)
theorem zd1 (a0:(Sl aC)) (a1:(dN 162 Unit (Pt Int))):(zh E (a0,a1)).T k =
  (E.c109 a0).T λ r1 =>
  cond (!r1)
  (k ((⟨(⟨(⟨0,λ _=>default⟩:(Sl aC))⟩:list),(⟨0,λ _=>default⟩:(Sl straight))⟩:set),2))
  ((E.Oo a0).T λ r2 =>
 (E.c159 r2).T λ r3 =>
 cond (!r3)
 (k ((⟨(⟨(⟨0,λ _=>default⟩:(Sl aC))⟩:list),(⟨0,λ _=>default⟩:(Sl straight))⟩:set),5))
 ((E.c167 r2.list).T λ r4 =>
 cond r4
 ((E.c162 (r2.list,a1.v)).T λ r5 =>
 cond (!r5)
 (k ((⟨(⟨(⟨0,λ _=>default⟩:(Sl aC))⟩:list),(⟨0,λ _=>default⟩:(Sl straight))⟩:set),6))
 (k (r2,0)))
 (k (r2,0)))):=bH.trans (by kernel_rfl)
end
theorem zd2 [aJ] (E:qP) (UR:Ok ax 109 (ae.un E.c109)) (UT:Ok ax 158 (ae.un E.Oo)) (UU:Ok ax 159 (ae.un E.c159)) (sD:Ok ax 167 (ae.un E.c167)) (zpY:Ok ax 162 (ae.un E.c162)):Ok ax 117 (ae.un (zh E)):=aY (aP (((((ay.nil.addF UR).addF UT).addF UU).addF sD).addF zpY) (ak (by kernel_rfl)))
structure Zv where
  N:Nat
abbrev zGA (E:Zv):aX:=dh Tabs.nil []
def zGB:bW:=aU ax 118 [] {}
def ziP (E:Zv):list->ae (Bool):=ae.ty (aF ax E.N (zGA E) zGB 118)
section
variable (E:Zv){A:Type}(k:Bool->Option A)
theorem e118 (a0:list):(ziP E (a0)).T k =
  k false:=bH.trans (by kernel_rfl)
end
theorem zGC [aJ] (E:Zv):Ok ax 118 (ae.un (ziP E)):=aY (aP ay.nil (ak (by kernel_rfl)))
structure UV where
  N:Nat
  zlv:straight×(Pt Int)->ae (aS)
  c168:(Sl aS)×((dN 169 Unit Unit) ⊕ (dN 171 Unit Unit))->ae (aS)
  lu:Int×Int->ae (aS)
abbrev zxY (E:UV):aX:=dh (((Tabs.nil.addF 202 (ae.un E.zlv)).addF 168 (ae.un E.c168)).addF 172 (ae.un E.lu)) []
def zxZ:bW:=aU ax 119 [] { ks:=[(1,3,⟨[],[(6,23,85)],[],[],[],[],[]⟩)] }
def ziQ (E:UV):set×(dN 202 Unit (Pt Int))->ae (aS×aS):=ae.ty (aF ax E.N (zxY E) zxZ 119)
section
variable (E:UV){A:Type}(k:(aS×aS)->Option A)
def Nq (E:UV) (n:Nat) (a0:set) (a1:(dN 202 Unit (Pt Int))) (v14:Int) (w23:Sl aS){A:Type}(k:(aS×aS)->Option A):Option A :=
  iG ax (zxY E) E.N zxZ 119 [1,1,0,1,0] [.n n] (iI k)
    ⟨[(1,eP a1),(4,.cl (.ptr 4 0)),(5,.cl (.ptr 5 0)),(6,.cl (.vec 23)),(12,eP a0.cu),(13,.int (a0.cu.len:Int)),(14,.int v14)],[(4,.box 85 [.p (.int .i64 0),.p (.int .i64 0)]),(5,.box 85 [.p (.int .i64 0),.p (.int .i64 0)]),(23,eV 85 2 16 w23)],[]⟩
theorem e119 (a0:set) (a1:(dN 202 Unit (Pt Int))):(ziQ E (a0,a1)).T k =
  Nq E E.N a0 a1 0 (⟨0,(λ _=>(⟨0,0⟩:aS))⟩:(Sl aS)) k:=bH.trans (by kernel_rfl)
theorem zd3 (n0:Nat) (a0:set) (a1:(dN 202 Unit (Pt Int))) (v14:Int) (w23:Sl aS):Nq E (n0+1) a0 a1 v14 w23 k =
  cond (decide (v14 < (a0.cu.len:Int)))
  (bf (decide (0<=v14/\v14 < (a0.cu.len:Int))) ((E.zlv ((a0.cu.get v14.toNat),a1.v)).T λ r1 =>
 bf (room (w23.len+1) 16) (Nq E n0 a0 a1 (aO (v14+1)) (⟨(w23.len+1),(jb w23.len w23.get (fun _=>r1))⟩:(Sl aS)) k)))
  ((E.c168 (w23,(Sum.inl (⟨(),()⟩:(dN 169 Unit Unit))))).T λ r2 =>
 (E.c168 (w23,(Sum.inr (⟨(),()⟩:(dN 171 Unit Unit))))).T λ r3 =>
 (E.lu (r2.Num,r2.cO)).T λ r4 =>
 (E.lu (r3.Num,r3.cO)).T λ r5 =>
 k (r4,r5)):=by kernel_rfl
end
theorem zGD [aJ] (E:UV) (zpZ:Ok ax 202 (ae.un E.zlv)) (ziS:Ok ax 168 (ae.un E.c168)) (sF:Ok ax 172 (ae.un E.lu)):Ok ax 119 (ae.un (ziQ E)):=aY (aP (((ay.nil.addF zpZ).addF ziS).addF sF) (ak (by kernel_rfl)))
structure UW where
  N:Nat
abbrev zx0 (E:UW):aX:=dh Tabs.nil []
def zx1:bW:=aU ax 125 [] {}
def ziT (E:UW):Int×Int->ae (Int):=ae.ty (aF ax E.N (zx0 E) zx1 125)
section
variable (E:UW){A:Type}(k:Int->Option A)
def Nr (E:UW) (n:Nat) (v0:Int) (v1:Int){A:Type}(k:Int->Option A):Option A :=
  iG ax (zx0 E) E.N zx1 125 [1,0,0] [.n n] (iI k)
    ⟨[(0,.int v0),(1,.int v1)],[],[]⟩
theorem e125 (a0:Int) (a1:Int):(ziT E (a0,a1)).T k =
  Nr E E.N a0 a1 k:=bH.trans (by kernel_rfl)
theorem zp0 (n0:Nat) (v0:Int) (v1:Int):Nr E (n0+1) v0 v1 k =
  cond (v1 != 0)
  (bf (decide (v1 ≠ 0)) (Nr E n0 v1 (v0.tmod v1) k))
  (k v0):=by kernel_rfl
end
theorem zGE [aJ] (E:UW):Ok ax 125 (ae.un (ziT E)):=aY (aP ay.nil (ak (by kernel_rfl)))
structure Zw where
  N:Nat
  zlp:(Sl Bool)×Bool->ae (Int)
abbrev zGF (E:Zw):aX:=dh (Tabs.nil.addF 176 (ae.un E.zlp)) []
def zGG:bW:=aU ax 126 [] {}
def ziU (E:Zw):(Sl Bool)×Bool->ae (Bool):=ae.ty (aF ax E.N (zGF E) zGG 126)
section
variable (E:Zw){A:Type}(k:Bool->Option A)
theorem e126 (a0:(Sl Bool)) (a1:Bool):(ziU E (a0,a1)).T k =
  (E.zlp (a0,a1)).T λ r1 =>
  k (decide (r1 >= 0)):=bH.trans (by kernel_rfl)
end
theorem zGH [aJ] (E:Zw) (zp1:Ok ax 176 (ae.un E.zlp)):Ok ax 126 (ae.un (ziU E)):=aY (aP (ay.nil.addF zp1) (ak (by kernel_rfl)))
structure Zx where
  N:Nat
  I9:ai×Int×Bc 143 (Pt aW)×Bc 38 Int×Bw 30 43 3 56 ai×Bs 255 178 2 4×Unit->ae ((Unit)×(Unit×Unit×(Pt aW)×Int×Sl ai×Unit×Unit))
abbrev zGI (E:Zx):aX:=dh (Tabs.nil.addM 178 (ae.unM E.I9)) []
def zGJ:bW:=aU ax 127 [] { ks:=[(0,3,⟨[],[],[(4,0,5000,43)],[],[],[],[]⟩)] }
def ziV (E:Zx):(Pt aW)×Int->ae ((Sl ai)×Bool):=ae.ty (aD ax (zGI E) E.N zdo 177 zGJ 127)
section
variable (E:Zx){A:Type}(k:((Sl ai)×Bool)->Option A)
theorem e127 (a0:(Pt aW)) (a1:Int):(ziV E (a0,a1)).T k =
  (E.I9 ((⟨0,(⟨0,λ _=>default⟩:(Sl Int)),(⟨0,λ _=>default⟩:(Sl Int))⟩:ai),0,(⟨a0⟩:Bc 143 (Pt aW)),(⟨a1⟩:Bc 38 Int),(⟨(⟨0,(λ _=>(⟨0,(⟨0,(λ _=>0)⟩:(Sl Int)),(⟨0,(λ _=>0)⟩:(Sl Int))⟩:ai))⟩:(Sl ai))⟩:Bw 30 43 3 56 ai),({} : Bs 255 178 2 4),())).T λ r1 =>
  k (r1.2.2.2.2.2.1,true):=zw8.trans (by kernel_rfl)
end
theorem zGK [aJ] (E:Zx) (zp2:nJ ax 178 (ae.unM E.I9)):Ok ax 127 (ae.un (ziV E)):=aY (zdl (ay.nil.addM zp2) (ak (by kernel_rfl)) zdp)
structure nS where
  N:Nat
  zlh:(Pt aW)×ai->ae (Bool)
abbrev QE (E:nS):aX:=dh (Tabs.nil.addF 129 (ae.un E.zlh)) []
def QF:bW:=aU ax 128 [] { ks:=[(1,3,⟨[],[(5,20,43)],[],[],[],[],[]⟩)] }
def zi (E:nS):(Sl ai)×(dN 129 (Pt aW) Unit)->ae (Sl ai×Unit):=ae.tyV (aK ax E.N (QE E) QF 128 43 3 56)
section
variable (E:nS){A:Type}(k:(Sl ai×Unit)->Option A)
def nT (E:nS) (n:Nat) (a0:(Sl ai)) (a1:(dN 129 (Pt aW) Unit)) (v10:Int) (Ns:Sl ai){A:Type}(k:(Sl ai×Unit)->Option A):Option A :=
  ptG ax (QE E) E.N QF 128 [1,1,0,1,0] [.n n] (Un 43 3 56) (Um k)
    ⟨[(1,.p (.fn 129 [.fp [.sl a1.a.v.au.aj.len 15 (λ i=>bG.enc (a1.a.v.au.aj.get i)),.sl a1.a.v.hits.len 6 (λ i=>bG.enc (a1.a.v.hits.get i)),.sl a1.a.v.kN.len 1 (λ i=>bG.enc (a1.a.v.kN.get i)),.int .i64 a1.a.v.rules.vC,.int .i64 a1.a.v.rules.xU] 0] [])),(5,.cl (.vec 20)),(8,eP a0),(9,.int (a0.len:Int)),(10,.int v10)],[(20,eV 43 3 56 Ns)],[]⟩
theorem zd4 (a0:(Sl ai)) (a1:(dN 129 (Pt aW) Unit)):(zi E (a0,a1)).T k =
  nT E E.N a0 a1 0 (⟨0,(λ _=>(⟨0,(⟨0,(λ _=>0)⟩:(Sl Int)),(⟨0,(λ _=>0)⟩:(Sl Int))⟩:ai))⟩:(Sl ai)) k:=zdb.trans (by kernel_rfl)
theorem GR (n0:Nat) (a0:(Sl ai)) (a1:(dN 129 (Pt aW) Unit)) (v10:Int) (Ns:Sl ai):nT E (n0+1) a0 a1 v10 Ns k =
  cond (decide (v10 < (a0.len:Int)))
  (bf (decide (0<=v10/\v10 < (a0.len:Int))) ((E.zlh (a1.a,(a0.get v10.toNat))).T λ r1 =>
 cond r1
 (bf (room (Ns.len+1) 56) (nT E n0 a0 a1 (aO (v10+1)) (⟨(Ns.len+1),(jb Ns.len Ns.get (λ _=>(a0.get v10.toNat)))⟩:(Sl ai)) k))
 (nT E n0 a0 a1 (aO (v10+1)) Ns k)))
  (k (Ns,())):=by kernel_rfl
end
theorem zd5 [aJ] (E:nS) (zp3:Ok ax 129 (ae.un E.zlh)):dX ax 128 (.mkv 43 3 56 (ae.unV (zi E))):=Ul (MN (ay.nil.addF zp3) (ak (by kernel_rfl)))
structure nU where
  N:Nat
  c130:ai×(Pt (Pt found))->ae (Bool)
abbrev QG (E:nU):aX:=dh (Tabs.nil.addF 130 (ae.un E.c130)) []
def QH:bW:=aU ax 128 [] { ks:=[(1,3,⟨[],[(5,20,43)],[],[],[],[],[]⟩)] }
def zk (E:nU):(Sl ai)×(dN 130 Unit (Pt (Pt found)))->ae (Sl ai×Unit):=ae.tyV (aK ax E.N (QG E) QH 128 43 3 56)
section
variable (E:nU){A:Type}(k:(Sl ai×Unit)->Option A)
def nV (E:nU) (n:Nat) (a0:(Sl ai)) (a1:(dN 130 Unit (Pt (Pt found)))) (v10:Int) (Ns:Sl ai){A:Type}(k:(Sl ai×Unit)->Option A):Option A :=
  ptG ax (QG E) E.N QH 128 [1,1,0,1,0] [.n n] (Un 43 3 56) (Um k)
    ⟨[(1,eP a1),(5,.cl (.vec 20)),(8,eP a0),(9,.int (a0.len:Int)),(10,.int v10)],[(20,eV 43 3 56 Ns)],[]⟩
theorem zd6 (a0:(Sl ai)) (a1:(dN 130 Unit (Pt (Pt found)))):(zk E (a0,a1)).T k =
  nV E E.N a0 a1 0 (⟨0,(λ _=>(⟨0,(⟨0,(λ _=>0)⟩:(Sl Int)),(⟨0,(λ _=>0)⟩:(Sl Int))⟩:ai))⟩:(Sl ai)) k:=zdb.trans (by kernel_rfl)
theorem GU (n0:Nat) (a0:(Sl ai)) (a1:(dN 130 Unit (Pt (Pt found)))) (v10:Int) (Ns:Sl ai):nV E (n0+1) a0 a1 v10 Ns k =
  cond (decide (v10 < (a0.len:Int)))
  (bf (decide (0<=v10/\v10 < (a0.len:Int))) ((E.c130 ((a0.get v10.toNat),a1.v)).T λ r1 =>
 cond r1
 (bf (room (Ns.len+1) 56) (nV E n0 a0 a1 (aO (v10+1)) (⟨(Ns.len+1),(jb Ns.len Ns.get (λ _=>(a0.get v10.toNat)))⟩:(Sl ai)) k))
 (nV E n0 a0 a1 (aO (v10+1)) Ns k)))
  (k (Ns,())):=by kernel_rfl
end
theorem zd7 [aJ] (E:nU) (zp4:Ok ax 130 (ae.un E.c130)):dX ax 128 (.mkv 43 3 56 (ae.unV (zk E))):=Ul (MN (ay.nil.addF zp4) (ak (by kernel_rfl)))
structure Zy where
  N:Nat
  c141:(Pt aW)×ai->ae ((Sl Int))
abbrev zGL (E:Zy):aX:=dh (Tabs.nil.addF 141 (ae.un E.c141)) []
def zGM:bW:=aU ax 129 [] {}
def ziW (E:Zy):(Pt aW)×ai->ae (Bool):=ae.ty (aF ax E.N (zGL E) zGM 129)
section
variable (E:Zy){A:Type}(k:Bool->Option A)
theorem e129 (a0:(Pt aW)) (a1:ai):(ziW E (a0,a1)).T k =
  cond (decide ((a1.Hits.len:Int) >= a0.v.rules.vC))
  ((E.c141 (a0,a1)).T λ r1 =>
 k (decide ((r1.len:Int)≤a0.v.rules.xU)))
  (k false):=bH.trans (by kernel_rfl)
end
theorem zGN [aJ] (E:Zy) (zp5:Ok ax 141 (ae.un E.c141)):Ok ax 129 (ae.un (ziW E)):=aY (aP (ay.nil.addF zp5) (ak (by kernel_rfl)))
structure Zz where
  N:Nat
  c131:(Sl ai)×(dN 132 Unit (Pt ai))->ae (Bool)
abbrev zGO (E:Zz):aX:=dh (Tabs.nil.addF 131 (ae.un E.c131)) []
def zGP:bW:=aU ax 130 [] {}
def ziX (E:Zz):ai×(Pt (Pt found))->ae (Bool):=ae.ty (aF ax E.N (zGO E) zGP 130)
section
variable (E:Zz){A:Type}(k:Bool->Option A)
theorem zGQ (a0:ai) (a1:(Pt (Pt found))):(ziX E (a0,a1)).T k =
  (E.c131 (a1.v.v.fits,(⟨(),(⟨a0⟩:(Pt ai))⟩:(dN 132 Unit (Pt ai))))).T λ r1 =>
  k (!r1):=bH.trans (by kernel_rfl)
end
theorem zGR [aJ] (E:Zz) (zp6:Ok ax 131 (ae.un E.c131)):Ok ax 130 (ae.un (ziX E)):=aY (aP (ay.nil.addF zp6) (ak (by kernel_rfl)))
structure ZA where
  N:Nat
  c97:(Sl ai)×(dN 132 Unit (Pt ai))->ae (Int)
abbrev zGS (E:ZA):aX:=dh (Tabs.nil.addF 97 (ae.un E.c97)) []
def zGT:bW:=aU ax 131 [] {}
def ziY (E:ZA):(Sl ai)×(dN 132 Unit (Pt ai))->ae (Bool):=ae.ty (aF ax E.N (zGS E) zGT 131)
section
variable (E:ZA){A:Type}(k:Bool->Option A)
theorem zGU (a0:(Sl ai)) (a1:(dN 132 Unit (Pt ai))):(ziY E (a0,a1)).T k =
  (E.c97 (a0,a1)).T λ r1 =>
  k (decide (r1 >= 0)):=bH.trans (by kernel_rfl)
end
theorem zGV [aJ] (E:ZA) (h97:Ok ax 97 (ae.un E.c97)):Ok ax 131 (ae.un (ziY E)):=aY (aP (ay.nil.addF h97) (ak (by kernel_rfl)))
structure ZB where
  N:Nat
  c92:ai×ai->ae (Bool)
abbrev zGW (E:ZB):aX:=dh (Tabs.nil.addF 92 (ae.un E.c92)) []
def zGX:bW:=aU ax 132 [] {}
def ziZ (E:ZB):ai×(Pt ai)->ae (Bool):=ae.ty (aF ax E.N (zGW E) zGX 132)
section
variable (E:ZB){A:Type}(k:Bool->Option A)
theorem zGY (a0:ai) (a1:(Pt ai)):(ziZ E (a0,a1)).T k =
  cond (decide ((a0.Hits.len:Int) > (a1.v.Hits.len:Int)))
  ((E.c92 (a0,a1.v)).T λ r1 =>
 k r1)
  (k false):=bH.trans (by kernel_rfl)
end
theorem zGZ [aJ] (E:ZB) (h92:Ok ax 92 (ae.un E.c92)):Ok ax 132 (ae.un (ziZ E)):=aY (aP (ay.nil.addF h92) (ak (by kernel_rfl)))
structure ZC where
  N:Nat
  zlr:Int×Int->ae (Int)
  zgp:(Sl Int)×(Sl Int)->ae (Int)
  zlq:(Sl Int)->ae (Int)
abbrev zG1 (E:ZC):aX:=dh (((Tabs.nil.addF 186 (ae.un E.zlr)).addF 187 (ae.un E.zgp)).addF 185 (ae.un E.zlq)) []
def zG2:bW:=aU ax 134 [] {}
def zi0 (E:ZC):ai×ai->ae (Int):=ae.ty (aF ax E.N (zG1 E) zG2 134)
section
variable (E:ZC){A:Type}(k:Int->Option A)
theorem zG3 (a0:ai) (a1:ai):(zi0 E (a0,a1)).T k =
  (E.zlr (a0.View,a1.View)).T λ r1 =>
  (E.zgp (a0.Hits,a1.Hits)).T λ r2 =>
  (E.zgp (a0.bC,a1.bC)).T λ r3 =>
  (E.zlq (⟨3,(Qr [r1,r2,r3])⟩:(Sl Int))).T λ r4 =>
  k r4:=bH.trans (by kernel_rfl)
end
theorem zG4 [aJ] (E:ZC) (zp7:Ok ax 186 (ae.un E.zlr)) (zi1:Ok ax 187 (ae.un E.zgp)) (zp8:Ok ax 185 (ae.un E.zlq)):Ok ax 134 (ae.un (zi0 E)):=aY (aP (((ay.nil.addF zp7).addF zi1).addF zp8) (ak (by kernel_rfl)))
structure ZE where
  N:Nat
abbrev zG5 (E:ZE):aX:=dh Tabs.nil []
def zG6:bW:=aU ax 136 [] {}
def zi2 (E:ZE):af×Int->ae (Int×Int):=ae.ty (aF ax E.N (zG5 E) zG6 136)
section
variable (E:ZE){A:Type}(k:(Int×Int)->Option A)
theorem zG7 (a0:af) (a1:Int):(zi2 E (a0,a1)).T k =
  cond (a0.Kind == 2)
  (k ((aO ((aO (a0.First+(aO (a1 * a0.aZ)))) - (aO (a0.aZ.tdiv 2)))),(aO ((aO ((aO ((aO (a0.First+(aO (a1 * a0.aZ)))) - (aO (a0.aZ.tdiv 2))))+a0.aZ)) - 1))))
  (k ((aO ((aO (a0.First+(aO (a1 * a0.aZ)))) - 0)),(aO ((aO ((aO ((aO (a0.First+(aO (a1 * a0.aZ)))) - 0))+a0.aZ)) - 1)))):=bH.trans (by kernel_rfl)
end
theorem zG8 [aJ] (E:ZE):Ok ax 136 (ae.un (zi2 E)):=aY (aP ay.nil (ak (by kernel_rfl)))
structure UX where
  N:Nat
  c105:(Pt aW)×ai->ae ((Sl aC))
  I7:(Sl Int)×((dN 180 Unit ((Pt (Pt aW))×(Pt Int))) ⊕ (dN 190 Unit ((Pt (Pt aW))×(Pt Int))))->ae (Bool)
  zgk:(Sl aC)×Int->ae (aS×aS×Int)
  Jy:aS->ae (Int)
  zlt:aS->ae (Int)
  zgl:au×Int×bZ->ae (Bool×Bool×Int)
abbrev zx2 (E:UX):aX:=dh (((((((Tabs.nil.addN [190]).addF 105 (ae.un E.c105)).addF 179 (ae.un E.I7)).addF 114 (ae.un E.zgk)).addF 191 (ae.un E.Jy)).addF 192 (ae.un E.zlt)).addF 115 (ae.un E.zgl)) []
def zx3:bW:=aU ax 141 [] { ks:=[(1,4,⟨[],[(5,83,3)],[],[],[],[],[]⟩)],clo:=[190] }
def zi3 (E:UX):(Pt aW)×ai->ae ((Sl Int)):=ae.ty (aF ax E.N (zx2 E) zx3 141)
section
variable (E:UX){A:Type}(k:(Sl Int)->Option A)
def jZ (E:UX) (n:Nat) (a0:(Pt aW)) (a1:ai) (v6:(Sl aC)) (v26:Int) (UY:Sl Int){A:Type}(k:(Sl Int)->Option A):Option A :=
  iG ax (zx2 E) E.N zx3 141 [1,1,1,0,1,0] [.n n] (iI k)
    ⟨[(2,.cl (.ptr 2 0)),(3,.cl (.ptr 3 0)),(5,.cl (.vec 83)),(6,eP v6),(24,eP a0.v.au.aj),(25,.int (a0.v.au.aj.len:Int)),(26,.int v26)],[(2,eB 143 a0),(3,eB 43 a1),(83,eV 3 1 8 UY)],[]⟩
theorem zG9 (a0:(Pt aW)) (a1:ai):(zi3 E (a0,a1)).T k =
  (E.c105 (a0,a1)).T λ r1 =>
  jZ E E.N a0 a1 r1 0 (⟨0,(λ _=>0)⟩:(Sl Int)) k:=bH.trans (by kernel_rfl)
theorem zd8 (n0:Nat) (a0:(Pt aW)) (a1:ai) (v6:(Sl aC)) (v26:Int) (UY:Sl Int):jZ E (n0+1) a0 a1 v6 v26 UY k =
  cond (decide (v26 < (a0.v.au.aj.len:Int)))
  (bf (decide (0<=v26/\v26 < (a0.v.au.aj.len:Int))) (cond ((a0.v.au.aj.get v26.toNat).View != a1.View)
 (jZ E n0 a0 a1 v6 (aO (v26+1)) UY k)
 ((E.I7 (a1.Hits,(Sum.inr (⟨(),((⟨a0⟩:(Pt (Pt aW))),(⟨v26⟩:(Pt Int)))⟩:(dN 190 Unit ((Pt (Pt aW))×(Pt Int))))))).T λ r1 =>
 cond r1
 (jZ E n0 a0 a1 v6 (aO (v26+1)) UY k)
 ((E.zgk (v6,(a0.v.au.aj.get v26.toNat).Z)).T λ r2 =>
 cond (r2.2.2 != 0)
 (jZ E n0 a0 a1 v6 (aO (v26+1)) UY k)
 ((E.Jy r2.1).T λ r3 =>
 (E.zlt r2.2.1).T λ r4 =>
 cond (decide (r3 < (-1000000)))
 (jZ E n0 a0 a1 v6 (aO (v26+1)) UY k)
 (cond (decide (r4 > 1000000))
 (jZ E n0 a0 a1 v6 (aO (v26+1)) UY k)
 ((E.zgl (a0.v.au,v26,(⟨r3,r4⟩:bZ))).T λ r5 =>
 cond (r5.2.2 == 0)
 (cond r5.1
 (bf (room (UY.len+1) 8) (jZ E n0 a0 a1 v6 (aO (v26+1)) (⟨(UY.len+1),(jb UY.len UY.get (λ _=>v26))⟩:(Sl Int)) k))
 (jZ E n0 a0 a1 v6 (aO (v26+1)) UY k))
 (jZ E n0 a0 a1 v6 (aO (v26+1)) UY k))))))))
  (k UY):=by kernel_rfl
end
theorem zHa [aJ] (E:UX) (UZ:Ok ax 105 (ae.un E.c105)) (U0:Ok ax 179 (ae.un E.I7)) (zp9:Ok ax 114 (ae.un E.zgk)) (U1:Ok ax 191 (ae.un E.Jy)) (zqa:Ok ax 192 (ae.un E.zlt)) (zqb:Ok ax 115 (ae.un E.zgl)):Ok ax 141 (ae.un (zi3 E)):=aY (aP (((((((ay.nil.addN).addF UZ).addF U0).addF zp9).addF U1).addF zqa).addF zqb) (ak (by kernel_rfl)))
structure ZF where
  N:Nat
  c38:(Sl Int)×(Sl Int)->ae (Int)
abbrev zHb (E:ZF):aX:=dh (Tabs.nil.addF 38 (ae.un E.c38)) []
def zHc:bW:=aU ax 144 [] {}
def zi4 (E:ZF):ai×ai->ae (Bool):=ae.ty (aF ax E.N (zHb E) zHc 144)
section
variable (E:ZF){A:Type}(k:Bool->Option A)
theorem zHd (a0:ai) (a1:ai):(zi4 E (a0,a1)).T k =
  cond (a0.View != a1.View)
  (k (decide (a0.View < a1.View)))
  ((E.c38 (a0.Hits,a1.Hits)).T λ r1 =>
 cond (r1 != 0)
 (k (decide (r1 < 0)))
 ((E.c38 (a0.bC,a1.bC)).T λ r2 =>
 k (decide (r2 < 0)))):=bH.trans (by kernel_rfl)
end
theorem zHe [aJ] (E:ZF) (h38:Ok ax 38 (ae.un E.c38)):Ok ax 144 (ae.un (zi4 E)):=aY (aP (ay.nil.addF h38) (ak (by kernel_rfl)))
structure ZG where
  N:Nat
  zS:(Sl aC)->ae (Bool)
  c193:(Sl aC)->ae (Int×Int×Bool)
  c194:(Sl aC)->ae ((Sl Line))
abbrev zHf (E:ZG):aX:=dh (((Tabs.nil.addF 149 (ae.un E.zS)).addF 193 (ae.un E.c193)).addF 194 (ae.un E.c194)) []
def zHg:bW:=aU ax 145 [] {}
def zi5 (E:ZG):(Sl aC)->ae (Bool):=ae.ty (aF ax E.N (zHf E) zHg 145)
section
variable (E:ZG){A:Type}(k:Bool->Option A)
theorem zHh (a0:(Sl aC)):(zi5 E (a0)).T k =
  (E.zS a0).T λ r1 =>
  cond r1
  ((E.c193 a0).T λ r2 =>
 k r2.2.2)
  ((E.c194 a0).T λ r3 =>
 k (decide ((r3.len:Int) > 0))):=bH.trans (by kernel_rfl)
end
theorem zHi [aJ] (E:ZG) (Dh:Ok ax 149 (ae.un E.zS)) (U2:Ok ax 193 (ae.un E.c193)) (U3:Ok ax 194 (ae.un E.c194)):Ok ax 145 (ae.un (zi5 E)):=aY (aP (((ay.nil.addF Dh).addF U2).addF U3) (ak (by kernel_rfl)))
structure U4 where
  N:Nat
  c74:au×bz->ae (bZ)
abbrev zx4 (E:U4):aX:=dh (Tabs.nil.addF 74 (ae.un E.c74)) []
def zx5:bW:=aU ax 147 [] {}
def zi6 (E:U4):au×(Sl bz)->ae (bZ×Bool):=ae.ty (aF ax E.N (zx4 E) zx5 147)
section
variable (E:U4){A:Type}(k:(bZ×Bool)->Option A)
def Nu (E:U4) (n:Nat) (a0:au) (a1:(Sl bz)) (v7:Int) (x6:bZ){A:Type}(k:(bZ×Bool)->Option A):Option A :=
  iG ax (zx4 E) E.N zx5 147 [1,1,0,1,0] [.n n] (iI k)
    ⟨[(1,eP a1),(2,.cl (.ptr 2 0)),(4,.cl (.ptr 4 0)),(6,.cl (.ptr 6 0)),(7,.int v7)],[(2,eB 24 a0),(4,.box 105 [.p (.int .i64 0),.p (.int .i64 0)]),(6,eB 105 x6)],[]⟩
theorem zHj (a0:au) (a1:(Sl bz)):(zi6 E (a0,a1)).T k =
  bf (decide ((0:Int)<=0/\0 < (a1.len:Int))) ((E.c74 (a0,(a1.get 0))).T λ r1 =>
 Nu E E.N a0 a1 1 r1 k):=bH.trans (by kernel_rfl)
theorem zd9 (n0:Nat) (a0:au) (a1:(Sl bz)) (v7:Int) (x6:bZ):Nu E (n0+1) a0 a1 v7 x6 k =
  cond (decide (v7 < (a1.len:Int)))
  (bf (decide (0<=v7/\v7 < (a1.len:Int))) ((E.c74 (a0,(a1.get v7.toNat))).T λ r1 =>
 Nu E n0 a0 a1 (aO (v7+1)) (⟨(if r1.Low > x6.Low then r1.Low else x6.Low),(if r1.High < x6.High then r1.High else x6.High)⟩:bZ) k))
  (k (x6,decide (x6.Low<=x6.High))):=by kernel_rfl
end
theorem zHk [aJ] (E:U4) (h74:Ok ax 74 (ae.un E.c74)):Ok ax 147 (ae.un (zi6 E)):=aY (aP (ay.nil.addF h74) (ak (by kernel_rfl)))
structure U5 where
  N:Nat
abbrev zx6 (E:U5):aX:=dh Tabs.nil []
def zx7:bW:=aU ax 148 [] { ks:=[(1,3,⟨[],[(5,22,92)],[],[],[],[],[]⟩)] }
def zi7 (E:U5):(Sl bz)×(Sl Int)->ae ((Sl bz)):=ae.ty (aF ax E.N (zx6 E) zx7 148)
section
variable (E:U5){A:Type}(k:(Sl bz)->Option A)
def Nv (E:U5) (n:Nat) (a0:(Sl bz)) (a1:(Sl Int)) (v6:Int) (OB:Sl bz){A:Type}(k:(Sl bz)->Option A):Option A :=
  iG ax (zx6 E) E.N zx7 148 [1,1,0,1,0] [.n n] (iI k)
    ⟨[(0,eP a0),(1,eP a1),(5,.cl (.vec 22)),(6,.int v6)],[(22,eV 92 6 48 OB)],[]⟩
theorem zHl (a0:(Sl bz)) (a1:(Sl Int)):(zi7 E (a0,a1)).T k =
  Nv E E.N a0 a1 0 (⟨0,(λ _=>(⟨0,0,0,0,0,0⟩:bz))⟩:(Sl bz)) k:=bH.trans (by kernel_rfl)
theorem zea (n0:Nat) (a0:(Sl bz)) (a1:(Sl Int)) (v6:Int) (OB:Sl bz):Nv E (n0+1) a0 a1 v6 OB k =
  cond (decide (v6 < (a1.len:Int)))
  (bf (decide (0<=v6/\v6 < (a1.len:Int))) (bf (decide (0<=a1.get v6.toNat/\a1.get v6.toNat < (a0.len:Int))) (bf (room (OB.len+1) 48) (Nv E n0 a0 a1 (aO (v6+1)) (⟨(OB.len+1),(jb OB.len OB.get (λ _=>(a0.get (a1.get v6.toNat).toNat)))⟩:(Sl bz)) k))))
  (k OB):=by kernel_rfl
end
theorem zHm [aJ] (E:U5):Ok ax 148 (ae.un (zi7 E)):=aY (aP ay.nil (ak (by kernel_rfl)))
structure U6 where
  N:Nat
abbrev zx8 (E:U6):aX:=dh Tabs.nil []
def zx9:bW:=aU ax 149 [] {}
def zi8 (E:U6):(Sl aC)->ae (Bool):=ae.ty (aF ax E.N (zx8 E) zx9 149)
section
variable (E:U6){A:Type}(k:Bool->Option A)
def xJ (E:U6) (n:Nat) (a0:(Sl aC)) (v3:Int){A:Type}(k:Bool->Option A):Option A :=
  iG ax (zx8 E) E.N zx9 149 [1,0,1,0] [.n n] (iI k)
    ⟨[(0,eP a0),(3,.int v3)],[],[]⟩
theorem zHn (a0:(Sl aC)):(zi8 E (a0)).T k =
  xJ E E.N a0 1 k:=bH.trans (by kernel_rfl)
theorem zeb (n0:Nat) (a0:(Sl aC)) (v3:Int):xJ E (n0+1) a0 v3 k =
  cond (decide (v3 < (a0.len:Int)))
  (bf (decide (0<=v3/\v3 < (a0.len:Int))) (bf (decide ((0:Int)<=0/\0 < (a0.len:Int))) (cond ((a0.get v3.toNat).Z != (a0.get 0).Z)
 (k false)
 (xJ E n0 a0 (aO (v3+1)) k))))
  (k true):=by kernel_rfl
end
theorem zHo [aJ] (E:U6):Ok ax 149 (ae.un (zi8 E)):=aY (aP ay.nil (ak (by kernel_rfl)))
structure QI where
  N:Nat
  zS:(Sl aC)->ae (Bool)
  c193:(Sl aC)->ae (Int×Int×Bool)
  OD:Int×Int->ae (aS)
  c194:(Sl aC)->ae ((Sl Line))
  c76:Line×Int->ae (aS)
  c56:aS×aS->ae (Bool)
abbrev zqc (E:QI):aX:=dh ((((((Tabs.nil.addF 149 (ae.un E.zS)).addF 193 (ae.un E.c193)).addF 71 (ae.un E.OD)).addF 194 (ae.un E.c194)).addF 76 (ae.un E.c76)).addF 56 (ae.un E.c56)) []
def zqd:bW:=aU ax 150 [] { cut:=[12] }
def zi9 (E:QI):(Sl aC)×Int->ae (aS×aS):=ae.ty (aF ax E.N (zqc E) zqd 150)
section
variable (E:QI){A:Type}(k:(aS×aS)->Option A)
def xK (E:QI) (n:Nat) (a1:Int) (v9:(Sl Line)) (v12:Int) (x10:aS) (x11:aS){A:Type}(k:(aS×aS)->Option A):Option A :=
  iG ax (zqc E) E.N zqd 150 [1,1,1,1,0,1,0] [.n n] (iI k)
    ⟨[(1,.int a1),(4,.cl (.ptr 4 0)),(5,.cl (.ptr 5 0)),(9,eP v9),(10,.cl (.ptr 10 0)),(11,.cl (.ptr 11 0)),(12,.int v12)],[(4,.box 85 [.p (.int .i64 0),.p (.int .i64 0)]),(5,.box 85 [.p (.int .i64 0),.p (.int .i64 0)]),(10,eB 85 x10),(11,eB 85 x11)],[]⟩
def U7 (E:QI) (n0:Nat) (a1:Int) (v9:(Sl Line)) (v12:Int) (x10:aS) (x11:aS) (x13:aS){A:Type}(k:(aS×aS)->Option A):Option A :=
  iG ax (zqc E) E.N zqd 150 [1,1,1,1,0,1,0,0,1,0,0,1,1] [.n n0] (iI k)
    ⟨[(1,.int a1),(4,.cl (.ptr 4 0)),(5,.cl (.ptr 5 0)),(9,eP v9),(10,.cl (.ptr 10 0)),(11,.cl (.ptr 11 0)),(12,.int v12),(13,.cl (.ptr 13 0))],[(4,.box 85 [.p (.int .i64 0),.p (.int .i64 0)]),(5,.box 85 [.p (.int .i64 0),.p (.int .i64 0)]),(10,eB 85 x10),(11,eB 85 x11),(13,eB 85 x13)],[]⟩
theorem zyb (a0:(Sl aC)) (a1:Int):(zi9 E (a0,a1)).T k =
  (E.zS a0).T λ r1 =>
  cond r1
  ((E.c193 a0).T λ r2 =>
 (E.OD (r2.1,1)).T λ r3 =>
 (E.OD (r2.2.1,1)).T λ r4 =>
 k (r3,r4))
  ((E.c194 a0).T λ r5 =>
 bf (decide ((0:Int)<=0/\0 < (r5.len:Int))) ((E.c76 ((r5.get 0),a1)).T λ r6 =>
 bf (decide ((0:Int)<=0/\0 < (r5.len:Int))) ((E.c76 ((r5.get 0),a1)).T λ r7 =>
 xK E E.N a1 r5 1 r6 r7 k))):=bH.trans (by kernel_rfl)
theorem zec (n0:Nat) (a1:Int) (v9:(Sl Line)) (v12:Int) (x10:aS) (x11:aS):xK E (n0+1) a1 v9 v12 x10 x11 k =
  cond (decide (v12 < (v9.len:Int)))
  (bf (decide (0<=v12/\v12 < (v9.len:Int))) ((E.c76 ((v9.get v12.toNat),a1)).T λ r1 =>
 (E.c56 (r1,x10)).T λ r2 =>
 cond r2
 (U7 E n0 a1 v9 v12 r1 x11 r1 k)
 (U7 E n0 a1 v9 v12 x10 x11 r1 k)))
  (k (x10,x11)):=by kernel_rfl
theorem zqe (n0:Nat) (a1:Int) (v9:(Sl Line)) (v12:Int) (x10:aS) (x11:aS) (x13:aS):U7 E n0 a1 v9 v12 x10 x11 x13 k =
  (E.c56 (x11,x13)).T λ r1 =>
  cond r1
  (xK E n0 a1 v9 (aO (v12+1)) x10 x13 k)
  (xK E n0 a1 v9 (aO (v12+1)) x10 x11 k):=by kernel_rfl
end
theorem zHp [aJ] (E:QI) (Dh:Ok ax 149 (ae.un E.zS)) (U2:Ok ax 193 (ae.un E.c193)) (UJ:Ok ax 71 (ae.un E.OD)) (U3:Ok ax 194 (ae.un E.c194)) (h76:Ok ax 76 (ae.un E.c76)) (h56:Ok ax 56 (ae.un E.c56)):Ok ax 150 (ae.un (zi9 E)):=aY (aP ((((((ay.nil.addF Dh).addF U2).addF UJ).addF U3).addF h76).addF h56) (ak (by kernel_rfl)))
structure ZH where
  N:Nat
abbrev zHr (E:ZH):aX:=dh Tabs.nil []
def zHs:bW:=aU ax 151 [] {}
def zjb (E:ZH):aS->ae (Int):=ae.ty (aF ax E.N (zHr E) zHs 151)
section
variable (E:ZH){A:Type}(k:Int->Option A)
theorem zHt (a0:aS):(zjb E (a0)).T k =
  bf (decide (a0.cO ≠ 0)) (cond (decide ((aO ((aO (a0.Num.tdiv a0.cO)) * a0.cO)) > a0.Num))
 (k (aO ((aO (a0.Num.tdiv a0.cO)) - 1)))
 (k (aO (a0.Num.tdiv a0.cO)))):=bH.trans (by kernel_rfl)
end
theorem zHu [aJ] (E:ZH):Ok ax 151 (ae.un (zjb E)):=aY (aP ay.nil (ak (by kernel_rfl)))
structure U8 where
  N:Nat
abbrev zyc (E:U8):aX:=dh Tabs.nil []
def zyd:bW:=aU ax 152 [] {}
def zjc (E:U8):(Sl Int)×Int->ae (Int):=ae.ty (aF ax E.N (zyc E) zyd 152)
section
variable (E:U8){A:Type}(k:Int->Option A)
def Nw (E:U8) (n:Nat) (a0:(Sl Int)) (a1:Int) (v8:Int){A:Type}(k:Int->Option A):Option A :=
  iG ax (zyc E) E.N zyd 152 [1,0,1,0] [.n n] (iI k)
    ⟨[(0,eP a0),(1,.int a1),(7,.int (a0.len:Int)),(8,.int v8)],[],[]⟩
theorem e152 (a0:(Sl Int)) (a1:Int):(zjc E (a0,a1)).T k =
  Nw E E.N a0 a1 0 k:=bH.trans (by kernel_rfl)
theorem zed (n0:Nat) (a0:(Sl Int)) (a1:Int) (v8:Int):Nw E (n0+1) a0 a1 v8 k =
  cond (decide (v8 < (a0.len:Int)))
  (bf (decide (0<=v8/\v8 < (a0.len:Int))) (cond (a1 == a0.get v8.toNat)
 (k v8)
 (Nw E n0 a0 a1 (aO (v8+1)) k)))
  (k (-1)):=by kernel_rfl
end
theorem zHv [aJ] (E:U8):Ok ax 152 (ae.un (zjc E)):=aY (aP ay.nil (ak (by kernel_rfl)))
structure ZI where
  N:Nat
  Ja:(au×(Sl bz)×ai×Int)×Sl ai->ae (Sl ai)
abbrev zHw (E:ZI):aX:=dh (Tabs.nil.addO 195 (.grow 43 3 56 (ae.unW E.Ja))) []
def zHx:bW:=aU ax 153 [] {}
def zjd (E:ZI):au×(Sl bz)×Int->ae ((Sl ai)×Bool):=ae.ty (aF ax E.N (zHw E) zHx 153)
section
variable (E:ZI){A:Type}(k:((Sl ai)×Bool)->Option A)
theorem e153 (a0:au) (a1:(Sl bz)) (a2:Int):(zjd E (a0,a1,a2)).T k =
  (E.Ja ((a0,a1,(⟨a2,(⟨0,λ _=>default⟩:(Sl Int)),(⟨0,λ _=>default⟩:(Sl Int))⟩:ai),0),(⟨0,(λ _=>(⟨0,(⟨0,λ _=>default⟩:(Sl Int)),(⟨0,λ _=>default⟩:(Sl Int))⟩:ai))⟩:(Sl ai)))).T λ r1 =>
  k (r1,decide ((r1.len:Int)<=2000)):=bH.trans (by kernel_rfl)
end
theorem zHy [aJ] (E:ZI) (zqf:dX ax 195 (.grow 43 3 56 (ae.unW E.Ja))):Ok ax 153 (ae.un (zjd E)):=aY (aP (ay.nil.addO zqf) (ak (by kernel_rfl)))
structure ZJ where
  N:Nat
  c196:au×(Sl bz)×ai->ae (Bool)
  c91:au×(Sl bz)×ai->ae ((Sl Int))
abbrev zHz (E:ZJ):aX:=dh ((Tabs.nil.addF 196 (ae.un E.c196)).addF 91 (ae.un E.c91)) []
def zHA:bW:=aU ax 154 [] {}
def zje (E:ZJ):au×bP×(Sl bz)×ai->ae (Bool):=ae.ty (aF ax E.N (zHz E) zHA 154)
section
variable (E:ZJ){A:Type}(k:Bool->Option A)
theorem e154 (a0:au) (a1:bP) (a2:(Sl bz)) (a3:ai):(zje E (a0,a1,a2,a3)).T k =
  (E.c196 (a0,a2,a3)).T λ r1 =>
  cond r1
  (cond (decide ((a3.Hits.len:Int) >= a1.vC))
 ((E.c91 (a0,a2,a3)).T λ r2 =>
 k (decide ((r2.len:Int)<=a1.xU)))
 (k false))
  (k false):=bH.trans (by kernel_rfl)
end
theorem zHB [aJ] (E:ZJ) (U9:Ok ax 196 (ae.un E.c196)) (h91:Ok ax 91 (ae.un E.c91)):Ok ax 154 (ae.un (zje E)):=aY (aP ((ay.nil.addF U9).addF h91) (ak (by kernel_rfl)))
structure ZK where
  N:Nat
  c157:Int×Int×Int->ae (Bool)
abbrev zHD (E:ZK):aX:=dh (Tabs.nil.addF 157 (ae.un E.c157)) []
def zHE:bW:=aU ax 156 [] {}
def zjf (E:ZK):aC->ae (Bool):=ae.ty (aF ax E.N (zHD E) zHE 156)
section
variable (E:ZK){A:Type}(k:Bool->Option A)
theorem zHF (a0:aC):(zjf E (a0)).T k =
  (E.c157 (a0.Z,0,100000)).T λ r1 =>
  cond r1
  (cond (decide (a0.Low >= (-1000000)))
 (cond (decide (a0.Low<=a0.High))
 (k (decide (a0.High<=1000000)))
 (k false))
 (k false))
  (k false):=bH.trans (by kernel_rfl)
end
theorem zHG [aJ] (E:ZK) (xI:Ok ax 157 (ae.un E.c157)):Ok ax 156 (ae.un (zjf E)):=aY (aP (ay.nil.addF xI) (ak (by kernel_rfl)))
structure ZL where
  N:Nat
abbrev zHH (E:ZL):aX:=dh Tabs.nil []
def zHI:bW:=aU ax 157 [] {}
def zjg (E:ZL):Int×Int×Int->ae (Bool):=ae.ty (aF ax E.N (zHH E) zHI 157)
section
variable (E:ZL){A:Type}(k:Bool->Option A)
theorem zHJ (a0:Int) (a1:Int) (a2:Int):(zjg E (a0,a1,a2)).T k =
  cond (decide (a0 >= a1))
  (k (decide (a0<=a2)))
  (k false):=bH.trans (by kernel_rfl)
end
theorem zHK [aJ] (E:ZL):Ok ax 157 (ae.un (zjg E)):=aY (aP ay.nil (ak (by kernel_rfl)))
structure Va where
  N:Nat
  c167:list->ae (Bool)
  c198:straight->ae (Line)
  zlu:set×straight->ae (Bool)
  i228:(Pt list)->ae (List (straight))
abbrev zye (E:Va):aX:=dh (((((Tabs.nil.addF 167 (ae.un E.c167)).addF 198 (ae.un E.c198)).addF 199 (ae.un E.zlu)).addF 197 (aF ax E.N (dh Tabs.nil []) (aU ax 197 [] {}) 197)).addI 228 (ae.unI E.i228)) [14]
def zyf:bW:=aU ax 158 [] { ks:=[(1,6,⟨[],[],[(3,1,36,204)],[],[],[],[]⟩)] }
def zjh (E:Va):(Sl aC)->ae (set):=ae.ty (aF ax E.N (zye E) zyf 158)
section
variable (E:Va){A:Type}(k:set->Option A)
def lW (E:Va) (l:List (straight)) (a0:(Sl aC)) (ZM:Sl straight) (QJ:Nat) (Jp:List Int->Option (List Int)) {A:Type}(k:set->Option A):Option A :=
  iG ax (zye E) E.N zyf 158 [1,1,1,1,0,1,0] [.y (l.map dw.enc)] (iI k)
    ⟨[(2,.cl (.ptr 2 0)),(3,.cl (.ptr 3 0)),(4,.cl (.ptr 4 0)),(17,.p (.fn 228 [] [.fp [.sl a0.len 3 (λ i=>bG.enc (a0.get i))] 0]))],[(2,.box 197 [.p (.nils),.p (.nils)]),(3,.box 197 [.p (.sl a0.len 3 (λ i=>bG.enc (a0.get i))),.vec 36]),(4,.box 271 [.mo 14]),(36,eV 204 3 24 ZM),(14,.mo 114 4 (.ints,4,false,[none]) QJ Jp)],[]⟩
theorem zHL (a0:(Sl aC)):(zjh E (a0)).T k =
  (E.c167 (⟨a0⟩:list)).T λ r1 =>
  cond r1
  (k (⟨(⟨a0⟩:list),(⟨0,λ _=>default⟩:(Sl straight))⟩:set))
  ((E.i228 (⟨(⟨a0⟩:list)⟩:(Pt list))).T λ r2 =>
 lW E r2 a0 (⟨0,(λ _=>(⟨0,0,0⟩:straight))⟩:(Sl straight)) 0 (λ _=>none) k):=bH.trans (by kernel_rfl)
theorem zji (a0:(Sl aC)) (ZM:Sl straight) (QJ:Nat) (Jp:List Int→Option (List Int)):lW E [] a0 ZM QJ Jp k =
  k (⟨(⟨a0⟩:list),ZM⟩:set):=by kernel_rfl
theorem zqg (y:straight) (l0:List (straight)) (a0:(Sl aC)) (ZM:Sl straight) (QJ:Nat) (Jp:List Int→Option (List Int)):lW E (y :: l0) a0 ZM QJ Jp k =
  (E.c198 y).T λ r1 =>
  cond (!(CX (Jp [r1.dM.Num,r1.dM.cO,r1.Start.Num,r1.Start.cO]) 0 != 0))
  ((E.zlu ((⟨(⟨a0⟩:list),ZM⟩:set),y)).T λ r2 =>
 cond r2
 (bf (room (ZM.len+1) 24) (lW E l0 a0 (⟨(ZM.len+1),(jb ZM.len ZM.get (λ _=>y))⟩:(Sl straight)) (addN (Jp [r1.dM.Num,r1.dM.cO,r1.Start.Num,r1.Start.cO]) QJ) (Eg [r1.dM.Num,r1.dM.cO,r1.Start.Num,r1.Start.cO] [1] Jp) k))
 (lW E l0 a0 ZM QJ Jp k))
  (lW E l0 a0 ZM QJ Jp k):=by kernel_rfl
end
theorem zHM [aJ] (E:Va) (sD:Ok ax 167 (ae.un E.c167)) (Vb:Ok ax 198 (ae.un E.c198)) (zqh:Ok ax 199 (ae.un E.zlu)) (zHN:qx ax 228 (ae.unI E.i228)):Ok ax 158 (ae.un (zjh E)):=aY (aP (((((ay.nil.addF sD).addF Vb).addF zqh).addF (aP ay.nil (ak (by kernel_rfl)))).addI zHN) (ak (by kernel_rfl)))
structure ZN where
  N:Nat
  Ov:list->ae (bZ)
  c167:list->ae (Bool)
abbrev zHO (E:ZN):aX:=dh ((Tabs.nil.addF 200 (ae.un E.Ov)).addF 167 (ae.un E.c167)) []
def zHP:bW:=aU ax 159 [] {}
def zjj (E:ZN):set->ae (Bool):=ae.ty (aF ax E.N (zHO E) zHP 159)
section
variable (E:ZN){A:Type}(k:Bool->Option A)
theorem zHQ (a0:set):(zjj E (a0)).T k =
  (E.Ov a0.list).T λ r1 =>
  (E.c167 a0.list).T λ r2 =>
  cond r2
  (k (decide (r1.Low<=r1.High)))
  (k (decide ((a0.cu.len:Int) > 0))):=bH.trans (by kernel_rfl)
end
theorem zHR [aJ] (E:ZN) (Vd:Ok ax 200 (ae.un E.Ov)) (sD:Ok ax 167 (ae.un E.c167)):Ok ax 159 (ae.un (zjj E)):=aY (aP ((ay.nil.addF Vd).addF sD) (ak (by kernel_rfl)))
structure ZO where
  N:Nat
abbrev zHS (E:ZO):aX:=dh Tabs.nil []
def zHT:bW:=aU ax 162 [] {}
def zjk (E:ZO):list×(Pt Int)->ae (Bool):=ae.ty (aF ax E.N (zHS E) zHT 162)
section
variable (E:ZO){A:Type}(k:Bool->Option A)
theorem e162 (a0:list) (a1:(Pt Int)):(zjk E (a0,a1)).T k =
  bf (decide ((0:Int)<=0/\0 < (a0.bI.len:Int))) (k ((a0.bI.get 0).Z == a1.v)):=bH.trans (by kernel_rfl)
end
theorem zHU [aJ] (E:ZO):Ok ax 162 (ae.un (zjk E)):=aY (aP ay.nil (ak (by kernel_rfl)))
structure ZP where
  N:Nat
  c167:list->ae (Bool)
  Ov:list->ae (bZ)
  lu:Int×Int->ae (aS)
  c119:set×(dN 202 Unit (Pt Int))->ae (aS×aS)
abbrev zHV (E:ZP):aX:=dh ((((Tabs.nil.addF 167 (ae.un E.c167)).addF 200 (ae.un E.Ov)).addF 172 (ae.un E.lu)).addF 119 (ae.un E.c119)) []
def zHW:bW:=aU ax 163 [] {}
def zjl (E:ZP):set×Int->ae (aS×aS):=ae.ty (aF ax E.N (zHV E) zHW 163)
section
variable (E:ZP){A:Type}(k:(aS×aS)->Option A)
theorem zHX (a0:set) (a1:Int):(zjl E (a0,a1)).T k =
  (E.c167 a0.list).T λ r1 =>
  cond r1
  ((E.Ov a0.list).T λ r2 =>
 (E.lu (r2.Low,1)).T λ r3 =>
 (E.lu (r2.High,1)).T λ r4 =>
 k (r3,r4))
  ((E.c119 (a0,(⟨(),(⟨a1⟩:(Pt Int))⟩:(dN 202 Unit (Pt Int))))).T λ r5 =>
 k (r5.1,r5.2)):=bH.trans (by kernel_rfl)
end
theorem zHY [aJ] (E:ZP) (sD:Ok ax 167 (ae.un E.c167)) (Vd:Ok ax 200 (ae.un E.Ov)) (sF:Ok ax 172 (ae.un E.lu)) (h119:Ok ax 119 (ae.un E.c119)):Ok ax 163 (ae.un (zjl E)):=aY (aP ((((ay.nil.addF sD).addF Vd).addF sF).addF h119) (ak (by kernel_rfl)))
structure ZQ where
  N:Nat
abbrev zHZ (E:ZQ):aX:=dh Tabs.nil []
def zH0:bW:=aU ax 166 [] {}
def zjm (E:ZQ):Line×Int->ae (Int×Int):=ae.ty (aF ax E.N (zHZ E) zH0 166)
section
variable (E:ZQ){A:Type}(k:(Int×Int)->Option A)
theorem e166 (a0:Line) (a1:Int):(zjm E (a0,a1)).T k =
  k ((aO ((aO (a0.Start.Num * a0.dM.cO))+(aO ((aO (a0.dM.Num * a1)) * a0.Start.cO)))),(aO (a0.Start.cO * a0.dM.cO))):=bH.trans (by kernel_rfl)
end
theorem zH1 [aJ] (E:ZQ):Ok ax 166 (ae.un (zjm E)):=aY (aP ay.nil (ak (by kernel_rfl)))
structure ZR where
  N:Nat
  c206:(Sl aC)×((dN 207 Unit (Pt list)) ⊕ (dN 230 Unit (Pt straight)) ⊕ (dN 257 Unit (Pt straight)))->ae (Bool)
abbrev zH2 (E:ZR):aX:=dh (Tabs.nil.addF 206 (ae.un E.c206)) []
def zH3:bW:=aU ax 167 [] {}
def zjn (E:ZR):list->ae (Bool):=ae.ty (aF ax E.N (zH2 E) zH3 167)
section
variable (E:ZR){A:Type}(k:Bool->Option A)
theorem e167 (a0:list):(zjn E (a0)).T k =
  (E.c206 (a0.bI,(Sum.inl (⟨(),(⟨a0⟩:(Pt list))⟩:(dN 207 Unit (Pt list)))))).T λ r1 =>
  k (!r1):=bH.trans (by kernel_rfl)
end
theorem zH4 [aJ] (E:ZR) (GV:Ok ax 206 (ae.un E.c206)):Ok ax 167 (ae.un (zjn E)):=aY (aP (ay.nil.addF GV) (ak (by kernel_rfl)))
structure nX where
  N:Nat
  zlo:aS×aS->ae (Bool)
abbrev QK (E:nX):aX:=dh (Tabs.nil.addF 169 (ae.un E.zlo)) []
def QL:bW:=aU ax 168 [] {}
def zl (E:nX):(Sl aS)×(dN 169 Unit Unit)->ae (aS):=ae.ty (aF ax E.N (QK E) QL 168)
section
variable (E:nX){A:Type}(k:aS->Option A)
def kY (E:nX) (n:Nat) (a0:(Sl aS)) (v14:Int) (x5:aS){A:Type}(k:aS->Option A):Option A :=
  iG ax (QK E) E.N QL 168 [1,1,0,1,0] [.n n] (iI k)
    ⟨[(1,.p (.fn 169 [] [])),(4,.cl (.ptr 4 0)),(5,.cl (.ptr 5 0)),(12,.cl (.p (.sl (((a0.len:Int):Int) - 1).toNat 2 (λ i=>bG.enc ((Jn a0.get 1) i))))),(13,.int ((((a0.len:Int):Int) - 1).toNat:Int)),(14,.int v14)],[(4,.box 85 [.p (.int .i64 0),.p (.int .i64 0)]),(5,eB 85 x5)],[]⟩
theorem zee (a0:(Sl aS)) (a1:(dN 169 Unit Unit)):(zl E (a0,a1)).T k =
  bf (decide ((0:Int)<=0/\0 < (a0.len:Int))) (bf (decide ((0:Int)<=1/\(1:Int)<=(a0.len:Int)/\(a0.len:Int)<=(a0.len:Int))) (kY E E.N a0 0 (a0.get 0) k)):=bH.trans (by kernel_rfl)
theorem GX (n0:Nat) (a0:(Sl aS)) (v14:Int) (x5:aS):kY E (n0+1) a0 v14 x5 k =
  cond (decide (v14 < ((((a0.len:Int):Int) - 1).toNat:Int)))
  (bf (decide (0<=v14/\v14 < ((((a0.len:Int):Int) - 1).toNat:Int))) ((E.zlo (((Jn a0.get 1) v14.toNat),x5)).T λ r1 =>
 cond r1
 (kY E n0 a0 (aO (v14+1)) ((Jn a0.get 1) v14.toNat) k)
 (kY E n0 a0 (aO (v14+1)) x5 k)))
  (k x5):=by kernel_rfl
end
theorem zef [aJ] (E:nX) (zqi:Ok ax 169 (ae.un E.zlo)):Ok ax 168 (ae.un (zl E)):=aY (aP (ay.nil.addF zqi) (ak (by kernel_rfl)))
structure nY where
  N:Nat
  c171:aS×aS->ae (Bool)
abbrev QN (E:nY):aX:=dh (Tabs.nil.addF 171 (ae.un E.c171)) []
def QO:bW:=aU ax 168 [] {}
def zn (E:nY):(Sl aS)×(dN 171 Unit Unit)->ae (aS):=ae.ty (aF ax E.N (QN E) QO 168)
section
variable (E:nY){A:Type}(k:aS->Option A)
def kZ (E:nY) (n:Nat) (a0:(Sl aS)) (v14:Int) (x5:aS){A:Type}(k:aS->Option A):Option A :=
  iG ax (QN E) E.N QO 168 [1,1,0,1,0] [.n n] (iI k)
    ⟨[(1,.p (.fn 171 [] [])),(4,.cl (.ptr 4 0)),(5,.cl (.ptr 5 0)),(12,.cl (.p (.sl (((a0.len:Int):Int) - 1).toNat 2 (λ i=>bG.enc ((Jn a0.get 1) i))))),(13,.int ((((a0.len:Int):Int) - 1).toNat:Int)),(14,.int v14)],[(4,.box 85 [.p (.int .i64 0),.p (.int .i64 0)]),(5,eB 85 x5)],[]⟩
theorem zeg (a0:(Sl aS)) (a1:(dN 171 Unit Unit)):(zn E (a0,a1)).T k =
  bf (decide ((0:Int)<=0/\0 < (a0.len:Int))) (bf (decide ((0:Int)<=1/\(1:Int)<=(a0.len:Int)/\(a0.len:Int)<=(a0.len:Int))) (kZ E E.N a0 0 (a0.get 0) k)):=bH.trans (by kernel_rfl)
theorem GY (n0:Nat) (a0:(Sl aS)) (v14:Int) (x5:aS):kZ E (n0+1) a0 v14 x5 k =
  cond (decide (v14 < ((((a0.len:Int):Int) - 1).toNat:Int)))
  (bf (decide (0<=v14/\v14 < ((((a0.len:Int):Int) - 1).toNat:Int))) ((E.c171 (((Jn a0.get 1) v14.toNat),x5)).T λ r1 =>
 cond r1
 (kZ E n0 a0 (aO (v14+1)) ((Jn a0.get 1) v14.toNat) k)
 (kZ E n0 a0 (aO (v14+1)) x5 k)))
  (k x5):=by kernel_rfl
end
theorem zeh [aJ] (E:nY) (zqj:Ok ax 171 (ae.un E.c171)):Ok ax 168 (ae.un (zn E)):=aY (aP (ay.nil.addF zqj) (ak (by kernel_rfl)))
structure ZT where
  N:Nat
  zT:aS×aS->ae (Int)
abbrev zH5 (E:ZT):aX:=dh (Tabs.nil.addF 170 (ae.un E.zT)) []
def zH6:bW:=aU ax 169 [] {}
def zjo (E:ZT):aS×aS->ae (Bool):=ae.ty (aF ax E.N (zH5 E) zH6 169)
section
variable (E:ZT){A:Type}(k:Bool->Option A)
theorem e169 (a0:aS) (a1:aS):(zjo E (a0,a1)).T k =
  (E.zT (a0,a1)).T λ r1 =>
  k (decide (r1 < 0)):=bH.trans (by kernel_rfl)
end
theorem zH7 [aJ] (E:ZT) (GZ:Ok ax 170 (ae.un E.zT)):Ok ax 169 (ae.un (zjo E)):=aY (aP (ay.nil.addF GZ) (ak (by kernel_rfl)))
structure ZU where
  N:Nat
  c208:Int×Int->ae (Int)
abbrev zH8 (E:ZU):aX:=dh (Tabs.nil.addF 208 (ae.un E.c208)) []
def zH9:bW:=aU ax 170 [] {}
def zjq (E:ZU):aS×aS->ae (Int):=ae.ty (aF ax E.N (zH8 E) zH9 170)
section
variable (E:ZU){A:Type}(k:Int->Option A)
theorem e170 (a0:aS) (a1:aS):(zjq E (a0,a1)).T k =
  (E.c208 ((aO (a0.Num * a1.cO)),(aO (a1.Num * a0.cO)))).T λ r1 =>
  k r1:=bH.trans (by kernel_rfl)
end
theorem zIa [aJ] (E:ZU) (Ve:Ok ax 208 (ae.un E.c208)):Ok ax 170 (ae.un (zjq E)):=aY (aP (ay.nil.addF Ve) (ak (by kernel_rfl)))
structure ZV where
  N:Nat
  zT:aS×aS->ae (Int)
abbrev zIb (E:ZV):aX:=dh (Tabs.nil.addF 170 (ae.un E.zT)) []
def zIc:bW:=aU ax 171 [] {}
def zjr (E:ZV):aS×aS->ae (Bool):=ae.ty (aF ax E.N (zIb E) zIc 171)
section
variable (E:ZV){A:Type}(k:Bool->Option A)
theorem zId (a0:aS) (a1:aS):(zjr E (a0,a1)).T k =
  (E.zT (a0,a1)).T λ r1 =>
  k (decide (r1 > 0)):=bH.trans (by kernel_rfl)
end
theorem zIe [aJ] (E:ZV) (GZ:Ok ax 170 (ae.un E.zT)):Ok ax 171 (ae.un (zjr E)):=aY (aP (ay.nil.addF GZ) (ak (by kernel_rfl)))
structure ZW where
  N:Nat
  zly:Int×Int->ae (Int)
abbrev zIf (E:ZW):aX:=dh (Tabs.nil.addF 209 (ae.un E.zly)) []
def zIg:bW:=aU ax 172 [] {}
def zjs (E:ZW):Int×Int->ae (aS):=ae.ty (aF ax E.N (zIf E) zIg 172)
section
variable (E:ZW){A:Type}(k:aS->Option A)
theorem zIh (a0:Int) (a1:Int):(zjs E (a0,a1)).T k =
  (E.zly ((if (aO (0 - a0)) > a0 then (aO (0 - a0)) else a0),a1)).T λ r1 =>
  bf (decide (r1 ≠ 0)) (bf (decide (r1 ≠ 0)) (k (⟨(aO (a0.tdiv r1)),(aO (a1.tdiv r1))⟩:aS))):=bH.trans (by kernel_rfl)
end
theorem zIi [aJ] (E:ZW) (zqk:Ok ax 209 (ae.un E.zly)):Ok ax 172 (ae.un (zjs E)):=aY (aP (ay.nil.addF zqk) (ak (by kernel_rfl)))
structure Vf where
  N:Nat
abbrev zyg (E:Vf):aX:=dh Tabs.nil []
def zyh:bW:=aU ax 176 [] {}
def zjt (E:Vf):(Sl Bool)×Bool->ae (Int):=ae.ty (aF ax E.N (zyg E) zyh 176)
section
variable (E:Vf){A:Type}(k:Int->Option A)
def Ny (E:Vf) (n:Nat) (a0:(Sl Bool)) (a1:Bool) (v8:Int){A:Type}(k:Int->Option A):Option A :=
  iG ax (zyg E) E.N zyh 176 [1,0,1,0] [.n n] (iI k)
    ⟨[(0,eP a0),(1,.bool a1),(7,.int (a0.len:Int)),(8,.int v8)],[],[]⟩
theorem zIj (a0:(Sl Bool)) (a1:Bool):(zjt E (a0,a1)).T k =
  Ny E E.N a0 a1 0 k:=bH.trans (by kernel_rfl)
theorem zei (n0:Nat) (a0:(Sl Bool)) (a1:Bool) (v8:Int):Ny E (n0+1) a0 a1 v8 k =
  cond (decide (v8 < (a0.len:Int)))
  (bf (decide (0<=v8/\v8 < (a0.len:Int))) (cond (a1 == (a0.get v8.toNat))
 (k v8)
 (Ny E n0 a0 a1 (aO (v8+1)) k)))
  (k (-1)):=by kernel_rfl
end
theorem zIk [aJ] (E:Vf):Ok ax 176 (ae.un (zjt E)):=aY (aP ay.nil (ak (by kernel_rfl)))
structure ZX where
  N:Nat
  I7:(Sl Int)×((dN 180 Unit ((Pt (Pt aW))×(Pt Int))) ⊕ (dN 190 Unit ((Pt (Pt aW))×(Pt Int))))->ae (Bool)
  c182:(Pt aW)×ai->ae (Bool)
  i173:(Pt Int)×(Pt (Pt aW))×(Pt Int)->ae (List (Int×Int))
  I9:ai×Int×Bc 143 (Pt aW)×Bc 38 Int×Bw 30 43 3 56 ai×Bs 255 178 2 4×Unit->ae ((Unit)×(Unit×Unit×(Pt aW)×Int×Sl ai×Unit×Unit))
abbrev zql (E:ZX):aX:=dh (((((((Tabs.nil.addN [180]).addO 181 (.clone 3 1 8)).addM 178 (ae.unM E.I9)).addF 179 (ae.un E.I7)).addF 182 (ae.un E.c182)).addF 121 (aF ax E.N (dh Tabs.nil []) (aU ax 121 [] {}) 121)).addI 173 (ae.unI E.i173)) []
def zju:bW:=aU ax 178 [2,3,4,5] { clo:=[180] }
def zjv (E:ZX):ai×Int×Bc 143 (Pt aW)×Bc 38 Int×Bw 30 43 3 56 ai×Bs 255 178 2 4×Unit->ae ((Unit)×(Unit×Unit×(Pt aW)×Int×Sl ai×Unit×Unit)):=ae.tyM λ xs=>aM ax E.N (zql E) zju 178 xs
section
variable (E:ZX){A:Type}(k:((Unit)×(Unit×Unit×(Pt aW)×Int×Sl ai×Unit×Unit))->Option A)
def lX (E:ZX) (l:List (Int×Int)) (a0:ai) (a1:Int) (a2:(Pt aW)) (a3:Int) (a4:(Sl ai)) (G5:(Pt aW)) (Di:Int) (qQ:Sl ai){A:Type}(k:((Unit)×(Unit×Unit×(Pt aW)×Int×Sl ai×Unit×Unit))->Option A):Option A :=
  ptG ax (zql E) E.N zju 178 [1,1,0] [.y (l.map dw.enc)] (Xe ax (vU.enc ((a0,a1,⟨a2⟩,⟨a3⟩,⟨a4⟩,{},()):ai×Int×Bc 143 (Pt aW)×Bc 38 Int×Bw 30 43 3 56 ai×Bs 255 178 2 4×Unit))) (zw5 ((a0,a1,⟨a2⟩,⟨a3⟩,⟨a4⟩,{},()):ai×Int×Bc 143 (Pt aW)×Bc 38 Int×Bw 30 43 3 56 ai×Bs 255 178 2 4×Unit) k)
    ⟨[(2,.cl (.ptr 2 0)),(3,.cl (.ptr 3 0)),(4,.cl (.ptr 4 0)),(5,.cl (.ptr 5 0)),(6,.cl (.ptr 6 0)),(14,.p (.fn 173 [] [.fp [.int .i64 a1] 0,.fp [.fp [.sl a2.v.au.aj.len 15 (λ i=>bG.enc (a2.v.au.aj.get i)),.sl a2.v.hits.len 6 (λ i=>bG.enc (a2.v.hits.get i)),.sl a2.v.kN.len 1 (λ i=>bG.enc (a2.v.kN.get i)),.int .i64 a2.v.rules.vC,.int .i64 a2.v.rules.xU] 0] 0,.fp [.int .i64 a3] 0]))],[(2,eB 143 G5),(3,eB 38 Di),(4,.box 30 [.vec 4100]),(5,.box 255 [.clo 178 [.b 2,.b 3,.b 4,.b 5]]),(6,eB 43 a0),(4100,eV 43 3 56 qQ)],[]⟩
theorem zIl (a0:ai) (a1:Int) (a2:(Pt aW)) (a3:Int) (a4:(Sl ai)):(zjv E (a0,a1,⟨a2⟩,⟨a3⟩,⟨a4⟩,{},())).T k =
  (E.i173 ((⟨a1⟩:(Pt Int)),(⟨a2⟩:(Pt (Pt aW))),(⟨a3⟩:(Pt Int)))).T λ r1 =>
  lX E r1 a0 a1 a2 a3 a4 a2 a3 a4 k:=zw6.trans (by kernel_rfl)
theorem zjw (a0:ai) (a1:Int) (a2:(Pt aW)) (a3:Int) (a4:(Sl ai)) (G5:(Pt aW)) (Di:Int) (qQ:Sl ai):lX E [] a0 a1 a2 a3 a4 G5 Di qQ k =
  k ((),(),(),G5,Di,qQ,(),()):=by kernel_rfl
theorem zej (y:Int×Int) (l0:List (Int×Int)) (a0:ai) (a1:Int) (a2:(Pt aW)) (a3:Int) (a4:(Sl ai)) (G5:(Pt aW)) (Di:Int) (qQ:Sl ai):lX E (y :: l0) a0 a1 a2 a3 a4 G5 Di qQ k =
  (E.I7 (a0.Hits,(Sum.inl (⟨(),((⟨G5⟩:(Pt (Pt aW))),(⟨y.1⟩:(Pt Int)))⟩:(dN 180 Unit ((Pt (Pt aW))×(Pt Int))))))).T λ r1 =>
  cond r1
  (lX E l0 a0 a1 a2 a3 a4 G5 Di qQ k)
  (bf (room a0.Hits.len 8) (bf (room (a0.Hits.len+1) 8) (bf (room a0.bC.len 8) (bf (room (a0.bC.len+1) 8) ((E.c182 (G5,(⟨Di,(⟨(a0.Hits.len+1),(jb a0.Hits.len a0.Hits.get (λ _=>y.1))⟩:(Sl Int)),(⟨(a0.bC.len+1),(jb a0.bC.len a0.bC.get (λ _=>y.2))⟩:(Sl Int))⟩:ai))).T λ r2 =>
 cond (!r2)
 (lX E l0 a0 a1 a2 a3 a4 G5 Di qQ k)
 (bf (room (qQ.len+1) 56) (cond (decide (((qQ.len+1):Int) > 2000))
 (none)
 ((E.I9 ((⟨Di,(⟨(a0.Hits.len+1),(jb a0.Hits.len a0.Hits.get (λ _=>y.1))⟩:(Sl Int)),(⟨(a0.bC.len+1),(jb a0.bC.len a0.bC.get (λ _=>y.2))⟩:(Sl Int))⟩:ai),(aO (y.1+1)),(⟨G5⟩:Bc 143 (Pt aW)),(⟨Di⟩:Bc 38 Int),(⟨(⟨(qQ.len+1),(jb qQ.len qQ.get (λ _=>(⟨Di,(⟨(a0.Hits.len+1),(jb a0.Hits.len a0.Hits.get (λ _=>y.1))⟩:(Sl Int)),(⟨(a0.bC.len+1),(jb a0.bC.len a0.bC.get (λ _=>y.2))⟩:(Sl Int))⟩:ai)))⟩:(Sl ai))⟩:Bw 30 43 3 56 ai),({} : Bs 255 178 2 4),())).T λ r3 =>
 lX E l0 a0 a1 a2 a3 a4 r3.2.2.2.1 r3.2.2.2.2.1 r3.2.2.2.2.2.1 k)))))))):=by kernel_rfl
end
theorem zIm (E:ZX) (U0:Ok ax 179 (ae.un E.I7)) (zqm:Ok ax 182 (ae.un E.c182)) (zIn:qx ax 173 (ae.unI E.i173)) (zIo:dX ax 181 (.clone 3 1 8)) (zp2:nJ ax 178 (ae.unM E.I9)):nJ ax 178 (ae.unM (zjv E)):=by
  have h : nJ ax 178 (λ xs => aM ax E.N (zql E) zju 178 xs) := Uj (aT := λ _ => zju) (((((((ay.nil.addN).addO zIo).addM zp2).addF U0).addF zqm).addF (aP ay.nil (ak (by kernel_rfl)))).addI zIn) (ak (by kernel_rfl));exact (zoq h : nJ ax 178 (ae.unM (ae.tyM _ : ai × Int × Bc 143 (Pt aW) × Bc 38 Int × Bw 30 43 3 56 ai × Bs 255 178 2 4 × Unit -> ae ((Unit) × (Unit × Unit × (Pt aW) × Int × Sl ai × Unit × Unit)))))
structure qR where
  N:Nat
  c210:(Sl Int)×((dN 180 Unit ((Pt (Pt aW))×(Pt Int))) ⊕ (dN 190 Unit ((Pt (Pt aW))×(Pt Int))))->ae (Int)
abbrev zek (E:qR):aX:=dh (Tabs.nil.addF 210 (ae.un E.c210)) []
def zel:bW:=aU ax 179 [] {}
def zo (E:qR):(Sl Int)×(dN 180 Unit ((Pt (Pt aW))×(Pt Int)))->ae (Bool):=ae.ty (aF ax E.N (zek E) zel 179)
section
variable (E:qR){A:Type}(k:Bool->Option A)
theorem zem (a0:(Sl Int)) (a1:(dN 180 Unit ((Pt (Pt aW))×(Pt Int)))):(zo E (a0,a1)).T k =
  (E.c210 (a0,(Sum.inl a1))).T λ r1 =>
  k (decide (r1 >= 0)):=bH.trans (by kernel_rfl)
end
theorem zen [aJ] (E:qR) (Vg:Ok ax 210 (ae.un E.c210)):Ok ax 179 (ae.un (zo E)):=aY (aP (ay.nil.addF Vg) (ak (by kernel_rfl)))
structure qU where
  N:Nat
  c210:(Sl Int)×((dN 180 Unit ((Pt (Pt aW))×(Pt Int))) ⊕ (dN 190 Unit ((Pt (Pt aW))×(Pt Int))))->ae (Int)
abbrev zeo (E:qU):aX:=dh (Tabs.nil.addF 210 (ae.un E.c210)) []
def zep:bW:=aU ax 179 [] {}
def zq (E:qU):(Sl Int)×(dN 190 Unit ((Pt (Pt aW))×(Pt Int)))->ae (Bool):=ae.ty (aF ax E.N (zeo E) zep 179)
section
variable (E:qU){A:Type}(k:Bool->Option A)
theorem zeq (a0:(Sl Int)) (a1:(dN 190 Unit ((Pt (Pt aW))×(Pt Int)))):(zq E (a0,a1)).T k =
  (E.c210 (a0,(Sum.inr a1))).T λ r1 =>
  k (decide (r1 >= 0)):=bH.trans (by kernel_rfl)
end
theorem zer [aJ] (E:qU) (Vg:Ok ax 210 (ae.un E.c210)):Ok ax 179 (ae.un (zq E)):=aY (aP (ay.nil.addF Vg) (ak (by kernel_rfl)))
structure ZY where
  N:Nat
abbrev zIp (E:ZY):aX:=dh Tabs.nil []
def zIq:bW:=aU ax 180 [] {}
def zjx (E:ZY):Int×(Pt (Pt aW))×(Pt Int)->ae (Bool):=ae.ty (aF ax E.N (zIp E) zIq 180)
section
variable (E:ZY){A:Type}(k:Bool->Option A)
theorem zIr (a0:Int) (a1:(Pt (Pt aW))) (a2:(Pt Int)):(zjx E (a0,a1,a2)).T k =
  bf (decide (0<=a0/\a0 < (a1.v.v.hits.len:Int))) (bf (decide (0<=a2.v/\a2.v < (a1.v.v.hits.len:Int))) (k ((a1.v.v.hits.get a0.toNat).af == (a1.v.v.hits.get a2.v.toNat).af))):=bH.trans (by kernel_rfl)
end
theorem zIs [aJ] (E:ZY):Ok ax 180 (ae.un (zjx E)):=aY (aP ay.nil (ak (by kernel_rfl)))
structure ZZ where
  N:Nat
  c93:(Pt aW)×ai->ae (bZ×Bool)
  c105:(Pt aW)×ai->ae ((Sl aC))
  zlz:(Sl aC)->ae (Line×Int)
abbrev zIt (E:ZZ):aX:=dh (((Tabs.nil.addF 93 (ae.un E.c93)).addF 105 (ae.un E.c105)).addF 211 (ae.un E.zlz)) []
def zIu:bW:=aU ax 182 [] {}
def zjy (E:ZZ):(Pt aW)×ai->ae (Bool):=ae.ty (aF ax E.N (zIt E) zIu 182)
section
variable (E:ZZ){A:Type}(k:Bool->Option A)
theorem zIv (a0:(Pt aW)) (a1:ai):(zjy E (a0,a1)).T k =
  (E.c93 (a0,a1)).T λ r1 =>
  cond (!r1.2)
  (k false)
  ((E.c105 (a0,a1)).T λ r2 =>
 (E.zlz r2).T λ r3 =>
 k (r3.2 != 5)):=bH.trans (by kernel_rfl)
end
theorem zIw [aJ] (E:ZZ) (h93:Ok ax 93 (ae.un E.c93)) (UZ:Ok ax 105 (ae.un E.c105)) (zqn:Ok ax 211 (ae.un E.zlz)):Ok ax 182 (ae.un (zjy E)):=aY (aP (((ay.nil.addF h93).addF UZ).addF zqn) (ak (by kernel_rfl)))
structure Vh where
  N:Nat
abbrev zyi (E:Vh):aX:=dh Tabs.nil []
def zyj:bW:=aU ax 185 [] {}
def zjz (E:Vh):(Sl Int)->ae (Int):=ae.ty (aF ax E.N (zyi E) zyj 185)
section
variable (E:Vh){A:Type}(k:Int->Option A)
def Bg (E:Vh) (n:Nat) (a0:(Sl Int)) (v8:Int){A:Type}(k:Int->Option A):Option A :=
  iG ax (zyi E) E.N zyj 185 [1,1,0,1,0] [.n n] (iI k)
    ⟨[(3,.int 0),(6,eP a0),(7,.int (a0.len:Int)),(8,.int v8)],[],[]⟩
theorem e185 (a0:(Sl Int)):(zjz E (a0)).T k =
  Bg E E.N a0 0 k:=bH.trans (by kernel_rfl)
theorem zes (n0:Nat) (a0:(Sl Int)) (v8:Int):Bg E (n0+1) a0 v8 k =
  cond (decide (v8 < (a0.len:Int)))
  (bf (decide (0<=v8/\v8 < (a0.len:Int))) (cond (a0.get v8.toNat != 0)
 (k (a0.get v8.toNat))
 (Bg E n0 a0 (aO (v8+1)) k)))
  (k 0):=by kernel_rfl
end
theorem zIy [aJ] (E:Vh):Ok ax 185 (ae.un (zjz E)):=aY (aP ay.nil (ak (by kernel_rfl)))
structure Z4 where
  N:Nat
  c222:Int->ae (Bool)
abbrev zIz (E:Z4):aX:=dh (Tabs.nil.addF 222 (ae.un E.c222)) []
def zIA:bW:=aU ax 186 [] {}
def zjA (E:Z4):Int×Int->ae (Int):=ae.ty (aF ax E.N (zIz E) zIA 186)
section
variable (E:Z4){A:Type}(k:Int->Option A)
theorem zIB (a0:Int) (a1:Int):(zjA E (a0,a1)).T k =
  (E.c222 a0).T λ r1 =>
  (E.c222 a1).T λ r2 =>
  cond r1
  (cond r2
 (k 0)
 (k (-1)))
  (cond r2
 (k 1)
 (cond (decide (a0 < a1))
 (k (-1))
 (cond (decide (a0 > a1))
 (k 1)
 (k 0)))):=bH.trans (by kernel_rfl)
end
theorem zIC [aJ] (E:Z4) (zjB:Ok ax 222 (ae.un E.c222)):Ok ax 186 (ae.un (zjA E)):=aY (aP (ay.nil.addF zjB) (ak (by kernel_rfl)))
structure Vj where
  N:Nat
  c208:Int×Int->ae (Int)
abbrev zyk (E:Vj):aX:=dh (Tabs.nil.addF 208 (ae.un E.c208)) []
def zyl:bW:=aU ax 187 [] {}
def zjC (E:Vj):(Sl Int)×(Sl Int)->ae (Int):=ae.ty (aF ax E.N (zyk E) zyl 187)
section
variable (E:Vj){A:Type}(k:Int->Option A)
def Nz (E:Vj) (n:Nat) (a0:(Sl Int)) (a1:(Sl Int)) (v11:Int){A:Type}(k:Int->Option A):Option A :=
  iG ax (zyk E) E.N zyl 187 [1,0,1,0] [.n n] (iI k)
    ⟨[(0,eP a0),(1,eP a1),(9,eP a0),(10,.int (a0.len:Int)),(11,.int v11)],[],[]⟩
theorem e187 (a0:(Sl Int)) (a1:(Sl Int)):(zjC E (a0,a1)).T k =
  Nz E E.N a0 a1 0 k:=bH.trans (by kernel_rfl)
theorem zet (n0:Nat) (a0:(Sl Int)) (a1:(Sl Int)) (v11:Int):Nz E (n0+1) a0 a1 v11 k =
  cond (decide (v11 < (a0.len:Int)))
  (bf (decide (0<=v11/\v11 < (a0.len:Int))) (cond (decide (v11 >= (a1.len:Int)))
 (k 1)
 (bf (decide (0<=v11/\v11 < (a1.len:Int))) ((E.c208 (a0.get v11.toNat,a1.get v11.toNat)).T λ r1 =>
 cond (r1 != 0)
 (k r1)
 (Nz E n0 a0 a1 (aO (v11+1)) k)))))
  (cond (decide ((a0.len:Int) < (a1.len:Int)))
 (k (-1))
 (k 0)):=by kernel_rfl
end
theorem zID [aJ] (E:Vj) (Ve:Ok ax 208 (ae.un E.c208)):Ok ax 187 (ae.un (zjC E)):=aY (aP (ay.nil.addF Ve) (ak (by kernel_rfl)))
structure Z5 where
  N:Nat
abbrev zIE (E:Z5):aX:=dh Tabs.nil []
def zIF:bW:=aU ax 190 [] {}
def zjD (E:Z5):Int×(Pt (Pt aW))×(Pt Int)->ae (Bool):=ae.ty (aF ax E.N (zIE E) zIF 190)
section
variable (E:Z5){A:Type}(k:Bool->Option A)
theorem e190 (a0:Int) (a1:(Pt (Pt aW))) (a2:(Pt Int)):(zjD E (a0,a1,a2)).T k =
  bf (decide (0<=a0/\a0 < (a1.v.v.hits.len:Int))) (k ((a1.v.v.hits.get a0.toNat).af == a2.v)):=bH.trans (by kernel_rfl)
end
theorem zIG [aJ] (E:Z5):Ok ax 190 (ae.un (zjD E)):=aY (aP ay.nil (ak (by kernel_rfl)))
structure Z7 where
  N:Nat
abbrev zIH (E:Z7):aX:=dh Tabs.nil []
def zII:bW:=aU ax 191 [] {}
def zjE (E:Z7):aS->ae (Int):=ae.ty (aF ax E.N (zIH E) zII 191)
section
variable (E:Z7){A:Type}(k:Int->Option A)
theorem zIJ (a0:aS):(zjE E (a0)).T k =
  cond (decide (a0.Num < 0))
  (bf (decide (a0.cO ≠ 0)) (k (aO (0 - (aO ((aO ((aO ((aO (0 - a0.Num))+a0.cO)) - 1)).tdiv a0.cO))))))
  (bf (decide (a0.cO ≠ 0)) (k (aO (a0.Num.tdiv a0.cO)))):=bH.trans (by kernel_rfl)
end
theorem zIK [aJ] (E:Z7):Ok ax 191 (ae.un (zjE E)):=aY (aP ay.nil (ak (by kernel_rfl)))
structure Z8 where
  N:Nat
  Jy:aS->ae (Int)
abbrev zIL (E:Z8):aX:=dh (Tabs.nil.addF 191 (ae.un E.Jy)) []
def zIM:bW:=aU ax 192 [] {}
def zjF (E:Z8):aS->ae (Int):=ae.ty (aF ax E.N (zIL E) zIM 192)
section
variable (E:Z8){A:Type}(k:Int->Option A)
theorem zIN (a0:aS):(zjF E (a0)).T k =
  (E.Jy (⟨(aO (0 - a0.Num)),a0.cO⟩:aS)).T λ r1 =>
  k (aO (0 - r1)):=bH.trans (by kernel_rfl)
end
theorem zIO [aJ] (E:Z8) (U1:Ok ax 191 (ae.un E.Jy)):Ok ax 192 (ae.un (zjF E)):=aY (aP (ay.nil.addF U1) (ak (by kernel_rfl)))
structure Vk where
  N:Nat
abbrev zym (E:Vk):aX:=dh Tabs.nil []
def zyn:bW:=aU ax 193 [] {}
def zjG (E:Vk):(Sl aC)->ae (Int×Int×Bool):=ae.ty (aF ax E.N (zym E) zyn 193)
section
variable (E:Vk){A:Type}(k:(Int×Int×Bool)->Option A)
def NC (E:Vk) (n:Nat) (a0:(Sl aC)) (v5:Int) (v6:Int) (v7:Int){A:Type}(k:(Int×Int×Bool)->Option A):Option A :=
  iG ax (zym E) E.N zyn 193 [1,1,0,1,0] [.n n] (iI k)
    ⟨[(0,eP a0),(5,.int v5),(6,.int v6),(7,.int v7)],[],[]⟩
theorem zIP (a0:(Sl aC)):(zjG E (a0)).T k =
  bf (decide ((0:Int)<=0/\0 < (a0.len:Int))) (bf (decide ((0:Int)<=0/\0 < (a0.len:Int))) (NC E E.N a0 (a0.get 0).Low (a0.get 0).High 1 k)):=bH.trans (by kernel_rfl)
theorem zeu (n0:Nat) (a0:(Sl aC)) (v5:Int) (v6:Int) (v7:Int):NC E (n0+1) a0 v5 v6 v7 k =
  cond (decide (v7 < (a0.len:Int)))
  (bf (decide (0<=v7/\v7 < (a0.len:Int))) (bf (decide (0<=v7/\v7 < (a0.len:Int))) (NC E n0 a0 (if (a0.get v7.toNat).Low > v5 then (a0.get v7.toNat).Low else v5) (if (a0.get v7.toNat).High < v6 then (a0.get v7.toNat).High else v6) (aO (v7+1)) k)))
  (k (v5,v6,decide (v5<=v6))):=by kernel_rfl
end
theorem zIQ [aJ] (E:Vk):Ok ax 193 (ae.un (zjG E)):=aY (aP ay.nil (ak (by kernel_rfl)))
structure Jq where
  N:Nat
  zlB:(Sl aC)->ae ((Sl Line))
  c57:Line×(Sl aC)->ae ((Sl Int))
  c226:Line×Line×(Sl aC)->ae (Bool)
abbrev zev (E:Jq):aX:=dh (((Tabs.nil.addF 225 (ae.un E.zlB)).addF 57 (ae.un E.c57)).addF 226 (ae.un E.c226)) []
def zew:bW:=aU ax 194 [] { ks:=[(0,1,⟨[],[(3,5000,114)],[],[],[],[],[]⟩),(1,4,⟨[],[],[],[],[],[3],[]⟩)],cut:=[10,11] }
def zjH (E:Jq):(Sl aC)->ae ((Sl Line)):=ae.ty (aF ax E.N (zev E) zew 194)
section
variable (E:Jq){A:Type}(k:(Sl Line)->Option A)
def lY (E:Jq) (n:Nat) (a0:(Sl aC)) (v3:(Sl Line)) (v4:(Sl Line)) (v5:Int){A:Type}(k:(Sl Line)->Option A):Option A :=
  iG ax (zev E) E.N zew 194 [1,1,1,0,1,0] [.n n] (iI k)
    ⟨[(0,eP a0),(3,eP v3),(4,eP v4),(5,.int v5)],[],[]⟩
def uZ (E:Jq) (n0:Nat) (n:Nat) (a0:(Sl aC)) (v3:(Sl Line)) (v4:(Sl Line)) (v5:Int) (v6:Int){A:Type}(k:(Sl Line)->Option A):Option A :=
  iG ax (zev E) E.N zew 194 [1,1,1,0,1,0,0,1,0,0,1,1,0,0] [.n n0,.n n] (iI k)
    ⟨[(0,eP a0),(3,eP v3),(4,eP v4),(5,.int v5),(6,.int v6)],[],[]⟩
def sG (E:Jq) (n0:Nat) (a0:(Sl aC)) (v3:(Sl Line)) (v4:(Sl Line)) (v5:Int) (v6:Int){A:Type}(k:(Sl Line)->Option A):Option A :=
  iG ax (zev E) E.N zew 194 [1,1,1,0,1,0,0,1,0,0,1,1,1] [.n n0] (iI k)
    ⟨[(0,eP a0),(3,eP v3),(4,eP v4),(5,.int v5),(6,.int v6)],[],[]⟩
def G6 (E:Jq) (n0:Nat) (a0:(Sl aC)) (v3:(Sl Line)) (v4:(Sl Line)) (v5:Int) (v6:Int){A:Type}(k:(Sl Line)->Option A):Option A :=
  iG ax (zev E) E.N zew 194 [1,1,1,0,1,0,0,1,0,0,1,1,1,1] [.n n0] (iI k)
    ⟨[(0,eP a0),(3,eP v3),(4,eP v4),(5,.int v5),(6,.int v6)],[],[]⟩
theorem zIR (a0:(Sl aC)):(zjH E (a0)).T k =
  (E.zlB a0).T λ r1 =>
  lY E E.N a0 (⟨0,(λ _=>(⟨(⟨0,0⟩:aS),(⟨0,0⟩:aS)⟩:Line))⟩:(Sl Line)) r1 0 k:=bH.trans (by kernel_rfl)
theorem zex (n0:Nat) (a0:(Sl aC)) (v3:(Sl Line)) (v4:(Sl Line)) (v5:Int):lY E (n0+1) a0 v3 v4 v5 k =
  cond (decide (v5 < (v4.len:Int)))
  (bf (decide (0<=v5/\v5 < (v4.len:Int))) ((E.c57 ((v4.get v5.toNat),a0)).T λ r1 =>
 cond (decide ((r1.len:Int) < (a0.len:Int)))
 (lY E n0 a0 v3 v4 (aO (v5+1)) k)
 (uZ E n0 E.N a0 v3 v4 v5 0 k)))
  (k v3):=by kernel_rfl
theorem zey (n0:Nat) (n1:Nat) (a0:(Sl aC)) (v3:(Sl Line)) (v4:(Sl Line)) (v5:Int) (v6:Int):uZ E n0 (n1+1) a0 v3 v4 v5 v6 k =
  cond (decide (v6 < (v3.len:Int)))
  (bf (decide (0<=v6/\v6 < (v3.len:Int))) (bf (decide (0<=v5/\v5 < (v4.len:Int))) ((E.c226 ((v3.get v6.toNat),(v4.get v5.toNat),a0)).T λ r1 =>
 cond r1
 (uZ E n0 n1 a0 v3 v4 v5 (aO (v6+1)) k)
 (sG E n0 a0 v3 v4 v5 v6 k))))
  (sG E n0 a0 v3 v4 v5 v6 k):=by kernel_rfl
theorem zez (n0:Nat) (a0:(Sl aC)) (v3:(Sl Line)) (v4:(Sl Line)) (v5:Int) (v6:Int):sG E n0 a0 v3 v4 v5 v6 k =
  cond (decide (v6 < (v3.len:Int)))
  (bf (decide (0<=v6/\v6 < (v3.len:Int))) (bf (decide (0<=v5/\v5 < (v4.len:Int))) (cond (cond (cond ((v3.get v6.toNat).dM.Num == (v4.get v5.toNat).dM.Num) (cond ((v3.get v6.toNat).dM.cO == (v4.get v5.toNat).dM.cO) true false) false) (cond (cond ((v3.get v6.toNat).Start.Num == (v4.get v5.toNat).Start.Num) (cond ((v3.get v6.toNat).Start.cO == (v4.get v5.toNat).Start.cO) true false) false) true false) false)
 (lY E n0 a0 v3 v4 (aO (v5+1)) k)
 (G6 E n0 a0 v3 v4 v5 v6 k))))
  (G6 E n0 a0 v3 v4 v5 v6 k):=by kernel_rfl
theorem zqo (n0:Nat) (a0:(Sl aC)) (v3:(Sl Line)) (v4:(Sl Line)) (v5:Int) (v6:Int):G6 E n0 a0 v3 v4 v5 v6 k =
  bf (decide ((0:Int)<=0/\(0:Int)<=v6/\v6<=(v3.len:Int))) (bf (room ((v6:Int) - 0).toNat 32) (bf (decide (0<=v5/\v5 < (v4.len:Int))) (bf (room (((v6:Int) - 0).toNat+1) 32) (bf (decide ((0:Int)<=v6/\(v6:Int)<=(v3.len:Int)/\(v3.len:Int)<=(v3.len:Int))) (bf (room ((((v6:Int) - 0).toNat+1)+(((v3.len:Int):Int) - v6).toNat) 32) (lY E n0 a0 (⟨((((v6:Int) - 0).toNat+1)+(((v3.len:Int):Int) - v6).toNat),(jb (((v6:Int) - 0).toNat+1) (jb ((v6:Int) - 0).toNat (Jn v3.get 0) (λ _=>(v4.get v5.toNat))) (Jn v3.get v6.toNat))⟩:(Sl Line)) v4 (aO (v5+1)) k)))))):=by kernel_rfl
end
theorem zIS [aJ] (E:Jq) (zqp:Ok ax 225 (ae.un E.zlB)) (h57:Ok ax 57 (ae.un E.c57)) (zqq:Ok ax 226 (ae.un E.c226)):Ok ax 194 (ae.un (zjH E)):=aY (aP (((ay.nil.addF zqp).addF h57).addF zqq) (ak (by kernel_rfl)))
structure Vl where
  N:Nat
  c87:(Sl bz)×(Sl Int)×Int->ae (Bool)
  c75:au×bz->ae ((Sl aC))
  c227:ai×Int×Int->ae (ai)
  c196:au×(Sl bz)×ai->ae (Bool)
  Ja:(au×(Sl bz)×ai×Int)×Sl ai->ae (Sl ai)
abbrev zqr (E:Vl):aX:=dh (((((Tabs.nil.addO 195 (.grow 43 3 56 (ae.unW E.Ja))).addF 87 (ae.un E.c87)).addF 75 (ae.un E.c75)).addF 227 (ae.un E.c227)).addF 196 (ae.un E.c196)) []
def zqs:bW:=aU ax 195 [] {}
def zjI (E:Vl):(au×(Sl bz)×ai×Int)×Sl ai->ae (Sl ai):=ae.tyW (aG ax E.N (zqr E) zqs 195 43 3 56)
section
variable (E:Vl){A:Type}(k:(Sl ai)->Option A)
def nZ (E:Vl) (n:Nat) (a0:au) (a1:(Sl bz)) (a2:ai) (v11:Int) (ku:Sl ai){A:Type}(k:(Sl ai)->Option A):Option A :=
  ptG ax (zqr E) E.N zqs 195 [1,0,1,0] [.n n] (Gq 43 3 56) (zox k)
    ⟨[(1,eP a1),(4,.cl (.vec 4095)),(5,.cl (.ptr 5 0)),(7,.cl (.ptr 7 0)),(11,.int v11)],[(4095,eV 43 3 56 ku),(5,eB 24 a0),(7,eB 43 a2)],[]⟩
def sH (E:Vl) (n0:Nat) (n:Nat) (a0:au) (a1:(Sl bz)) (a2:ai) (v11:Int) (v13:(Sl aC)) (v14:Int) (ku:Sl ai){A:Type}(k:(Sl ai)->Option A):Option A :=
  ptG ax (zqr E) E.N zqs 195 [1,0,1,0,0,1,0,0,1,1,1,1,0] [.n n0,.n n] (Gq 43 3 56) (zox k)
    ⟨[(1,eP a1),(4,.cl (.vec 4095)),(5,.cl (.ptr 5 0)),(7,.cl (.ptr 7 0)),(11,.int v11),(13,eP v13),(14,.int v14)],[(4095,eV 43 3 56 ku),(5,eB 24 a0),(7,eB 43 a2)],[]⟩
theorem e195 (a0:au) (a1:(Sl bz)) (a2:ai) (a3:Int) (a4:(Sl ai)):(zjI E ((a0,a1,a2,a3),a4)).T k =
  nZ E E.N a0 a1 a2 a3 a4 k:=zxa.trans (by kernel_rfl)
theorem zeA (n0:Nat) (a0:au) (a1:(Sl bz)) (a2:ai) (v11:Int) (ku:Sl ai):nZ E (n0+1) a0 a1 a2 v11 ku k =
  cond (decide (v11 < (a1.len:Int)))
  (bf (decide (0<=v11/\v11 < (a1.len:Int))) (bf (decide (0<=(a1.get v11.toNat).af/\(a1.get v11.toNat).af < (a0.aj.len:Int))) (cond ((a0.aj.get (a1.get v11.toNat).af.toNat).View != a2.View)
 (nZ E n0 a0 a1 a2 (aO (v11+1)) ku k)
 ((E.c87 (a1,a2.Hits,(a1.get v11.toNat).af)).T λ r1 =>
 cond r1
 (nZ E n0 a0 a1 a2 (aO (v11+1)) ku k)
 ((E.c75 (a0,(a1.get v11.toNat))).T λ r2 =>
 sH E n0 E.N a0 a1 a2 v11 r2 0 ku k)))))
  (k ku):=by kernel_rfl
theorem Vm (n0:Nat) (n1:Nat) (a0:au) (a1:(Sl bz)) (a2:ai) (v11:Int) (v13:(Sl aC)) (v14:Int) (ku:Sl ai):sH E n0 (n1+1) a0 a1 a2 v11 v13 v14 ku k =
  cond (decide (v14 < (v13.len:Int)))
  (cond (decide ((ku.len:Int)<=2000))
 ((E.c227 (a2,v11,v14)).T λ r1 =>
 (E.c196 (a0,a1,r1)).T λ r2 =>
 cond r2
 (bf (room (ku.len+1) 56) ((E.Ja ((a0,a1,r1,(aO (v11+1))),(⟨(ku.len+1),(jb ku.len ku.get (λ _=>r1))⟩:(Sl ai)))).T λ r3 =>
 sH E n0 n1 a0 a1 a2 v11 v13 (aO (v14+1)) r3 k))
 (sH E n0 n1 a0 a1 a2 v11 v13 (aO (v14+1)) ku k))
 (nZ E n0 a0 a1 a2 (aO (v11+1)) ku k))
  (nZ E n0 a0 a1 a2 (aO (v11+1)) ku k):=by kernel_rfl
end
theorem zIT [aJ] (E:Vl) (h87:Ok ax 87 (ae.un E.c87)) (h75:Ok ax 75 (ae.un E.c75)) (zqu:Ok ax 227 (ae.un E.c227)) (U9:Ok ax 196 (ae.un E.c196)) (zqf:dX ax 195 (.grow 43 3 56 (ae.unW E.Ja))):dX ax 195 (.grow 43 3 56 (ae.unW (zjI E))):=zow (zov (((((ay.nil.addO zqf).addF h87).addF h75).addF zqu).addF U9) (ak (by kernel_rfl)))
structure Z9 where
  N:Nat
  c65:au×(Sl bz)×ai->ae ((Sl aC))
  c145:(Sl aC)->ae (Bool)
  c90:au×(Sl bz)×(Sl Int)->ae (Bool)
abbrev zIU (E:Z9):aX:=dh (((Tabs.nil.addF 65 (ae.un E.c65)).addF 145 (ae.un E.c145)).addF 90 (ae.un E.c90)) []
def zIV:bW:=aU ax 196 [] {}
def zjJ (E:Z9):au×(Sl bz)×ai->ae (Bool):=ae.ty (aF ax E.N (zIU E) zIV 196)
section
variable (E:Z9){A:Type}(k:Bool->Option A)
theorem zIW (a0:au) (a1:(Sl bz)) (a2:ai):(zjJ E (a0,a1,a2)).T k =
  (E.c65 (a0,a1,a2)).T λ r1 =>
  (E.c145 r1).T λ r2 =>
  cond r2
  ((E.c90 (a0,a1,a2.Hits)).T λ r3 =>
 k r3)
  (k false):=bH.trans (by kernel_rfl)
end
theorem zIX [aJ] (E:Z9) (h65:Ok ax 65 (ae.un E.c65)) (zqv:Ok ax 145 (ae.un E.c145)) (h90:Ok ax 90 (ae.un E.c90)):Ok ax 196 (ae.un (zjJ E)):=aY (aP (((ay.nil.addF h65).addF zqv).addF h90) (ak (by kernel_rfl)))
structure zaa where
  N:Nat
  lu:Int×Int->ae (aS)
abbrev zIZ (E:zaa):aX:=dh (Tabs.nil.addF 172 (ae.un E.lu)) []
def zI0:bW:=aU ax 198 [] {}
def zjK (E:zaa):straight->ae (Line):=ae.ty (aF ax E.N (zIZ E) zI0 198)
section
variable (E:zaa){A:Type}(k:Line->Option A)
theorem zI1 (a0:straight):(zjK E (a0)).T k =
  (E.lu (a0.bK,a0.den)).T λ r1 =>
  (E.lu (a0.start,a0.den)).T λ r2 =>
  k (⟨r1,r2⟩:Line):=bH.trans (by kernel_rfl)
end
theorem zI2 [aJ] (E:zaa) (sF:Ok ax 172 (ae.un E.lu)):Ok ax 198 (ae.un (zjK E)):=aY (aP (ay.nil.addF sF) (ak (by kernel_rfl)))
structure zab where
  N:Nat
  c206:(Sl aC)×((dN 207 Unit (Pt list)) ⊕ (dN 230 Unit (Pt straight)) ⊕ (dN 257 Unit (Pt straight)))->ae (Bool)
abbrev zI3 (E:zab):aX:=dh (Tabs.nil.addF 206 (ae.un E.c206)) []
def zI4:bW:=aU ax 199 [] {}
def zjL (E:zab):set×straight->ae (Bool):=ae.ty (aF ax E.N (zI3 E) zI4 199)
section
variable (E:zab){A:Type}(k:Bool->Option A)
theorem e199 (a0:set) (a1:straight):(zjL E (a0,a1)).T k =
  (E.c206 (a0.list.bI,(Sum.inr (Sum.inl (⟨(),(⟨a1⟩:(Pt straight))⟩:(dN 230 Unit (Pt straight))))))).T λ r1 =>
  k (!r1):=bH.trans (by kernel_rfl)
end
theorem zI5 [aJ] (E:zab) (GV:Ok ax 206 (ae.un E.c206)):Ok ax 199 (ae.un (zjL E)):=aY (aP (ay.nil.addF GV) (ak (by kernel_rfl)))
structure Vo where
  N:Nat
abbrev zyo (E:Vo):aX:=dh Tabs.nil []
def zyp:bW:=aU ax 200 [] {}
def zjM (E:Vo):list->ae (bZ):=ae.ty (aF ax E.N (zyo E) zyp 200)
section
variable (E:Vo){A:Type}(k:bZ->Option A)
def ND (E:Vo) (n:Nat) (a0:list) (v20:Int) (x3:bZ){A:Type}(k:bZ->Option A):Option A :=
  iG ax (zyo E) E.N zyp 200 [1,1,0,1,0] [.n n] (iI k)
    ⟨[(2,.cl (.ptr 2 0)),(3,.cl (.ptr 3 0)),(18,eP a0.bI),(19,.int (a0.bI.len:Int)),(20,.int v20)],[(2,.box 105 [.p (.int .i64 0),.p (.int .i64 0)]),(3,eB 105 x3)],[]⟩
theorem zI6 (a0:list):(zjM E (a0)).T k =
  bf (decide ((0:Int)<=0/\0 < (a0.bI.len:Int))) (bf (decide ((0:Int)<=0/\0 < (a0.bI.len:Int))) (ND E E.N a0 0 (⟨(a0.bI.get 0).Low,(a0.bI.get 0).High⟩:bZ) k)):=bH.trans (by kernel_rfl)
theorem zeB (n0:Nat) (a0:list) (v20:Int) (x3:bZ):ND E (n0+1) a0 v20 x3 k =
  cond (decide (v20 < (a0.bI.len:Int)))
  (bf (decide (0<=v20/\v20 < (a0.bI.len:Int))) (ND E n0 a0 (aO (v20+1)) (⟨(if (a0.bI.get v20.toNat).Low > x3.Low then (a0.bI.get v20.toNat).Low else x3.Low),(if (a0.bI.get v20.toNat).High < x3.High then (a0.bI.get v20.toNat).High else x3.High)⟩:bZ) k))
  (k x3):=by kernel_rfl
end
theorem zI7 [aJ] (E:Vo):Ok ax 200 (ae.un (zjM E)):=aY (aP ay.nil (ak (by kernel_rfl)))
structure zac where
  N:Nat
  c203:straight×Int->ae (aS)
abbrev zI8 (E:zac):aX:=dh (Tabs.nil.addF 203 (ae.un E.c203)) []
def zI9:bW:=aU ax 202 [] {}
def zjN (E:zac):straight×(Pt Int)->ae (aS):=ae.ty (aF ax E.N (zI8 E) zI9 202)
section
variable (E:zac){A:Type}(k:aS->Option A)
theorem zJa (a0:straight) (a1:(Pt Int)):(zjN E (a0,a1)).T k =
  (E.c203 (a0,a1.v)).T λ r1 =>
  k r1:=bH.trans (by kernel_rfl)
end
theorem zJb [aJ] (E:zac) (zqw:Ok ax 203 (ae.un E.c203)):Ok ax 202 (ae.un (zjN E)):=aY (aP (ay.nil.addF zqw) (ak (by kernel_rfl)))
structure zad where
  N:Nat
abbrev zJc (E:zad):aX:=dh Tabs.nil []
def zJd:bW:=aU ax 203 [] {}
def zjO (E:zad):straight×Int->ae (aS):=ae.ty (aF ax E.N (zJc E) zJd 203)
section
variable (E:zad){A:Type}(k:aS->Option A)
theorem e203 (a0:straight) (a1:Int):(zjO E (a0,a1)).T k =
  k (⟨(aO (a0.start+(aO (a0.bK * a1)))),a0.den⟩:aS):=bH.trans (by kernel_rfl)
end
theorem zJe [aJ] (E:zad):Ok ax 203 (ae.un (zjO E)):=aY (aP ay.nil (ak (by kernel_rfl)))
structure QP where
  N:Nat
  zlw:(Sl Int)×Int->ae (Int×Bool)
abbrev zyq (E:QP):aX:=dh (Tabs.nil.addF 205 (ae.un E.zlw)) []
def zyr:bW:=aU ax 204 [0] { yl:=[9] }
def zys (E:QP) (c:List PA):YO:=aI ax (zyq E) E.N zyr 204 c
def zqx (E:QP):(Pt placed)->ae (List (Int×bZ)):=ae.tyI λ c=>.opt (zys E c)
section
variable (E:QP)
def Bh (E:QP) (n:Nat) (a1:(Pt placed)) (v3:Int) (v19:Int):YO :=
  ptY ax (zyq E) E.N zyr 204 [1,1,1,0] [n]
    ⟨[(0,.cl (.vec 4095)),(1,eP a1),(3,.int v3),(18,.int a1.v.af.bM),(19,.int v19)],[(4095,.gone)],[]⟩
theorem e204 (a1:(Pt placed)):zys E (dw.enc ((a1):(Pt placed))) =
  cond (a1.v.af.Kind == 2)
  (Bh E E.N a1 (aO (a1.v.af.aZ.tdiv 2)) 0)
  (Bh E E.N a1 0 0):=by kernel_rfl
theorem zeC (n0:Nat) (a1:(Pt placed)) (v3:Int) (v19:Int):Bh E (n0+1) a1 v3 v19 =
  cond (decide (v19 < a1.v.af.bM))
  ((E.zlw (a1.v.af.Dead,v19)).T λ r1 =>
 cond r1.2
 (Bh E n0 a1 v3 (aO (v19+1)))
 (yT (dw.enc ((v19,(⟨(aO ((aO (a1.v.af.First+(aO (v19 * a1.v.af.aZ)))) - v3)),(aO ((aO ((aO ((aO (a1.v.af.First+(aO (v19 * a1.v.af.aZ)))) - v3))+a1.v.af.aZ)) - 1))⟩:bZ)):Int×bZ)) (some [])
 (Bh E n0 a1 v3 (aO (v19+1)))))
  (some []):=by kernel_rfl
end
theorem zJf (E:QP) (zqy:Ok ax 205 (ae.un E.zlw)):qx ax 204 (ae.unI (zqx E)):=MO (Gn (ay.nil.addF zqy) (ak (by kernel_rfl)))
structure Vp where
  N:Nat
  c236:Int×Int->ae (Bool)
  zgr:Int->ae (Bool)
abbrev zyt (E:Vp):aX:=dh ((Tabs.nil.addF 236 (ae.un E.c236)).addF 237 (ae.un E.zgr)) []
def zyu:bW:=aU ax 205 [] {}
def zjP (E:Vp):(Sl Int)×Int->ae (Int×Bool):=ae.ty (aF ax E.N (zyt E) zyu 205)
section
variable (E:Vp){A:Type}(k:(Int×Bool)->Option A)
def ve (E:Vp) (n:Nat) (a0:(Sl Int)) (a1:Int) (v7:Int) (v8:Int){A:Type}(k:(Int×Bool)->Option A):Option A :=
  iG ax (zyt E) E.N zyu 205 [1,1,1,0,0] [.n n] (iI k)
    ⟨[(0,eP a0),(1,.int a1),(6,.int (a0.len:Int)),(7,.int v7),(8,.int v8)],[],[]⟩
theorem zJg (a0:(Sl Int)) (a1:Int):(zjP E (a0,a1)).T k =
  ve E E.N a0 a1 0 (a0.len:Int) k:=bH.trans (by kernel_rfl)
theorem NE (n0:Nat) (a0:(Sl Int)) (a1:Int) (v7:Int) (v8:Int):ve E (n0+1) a0 a1 v7 v8 k =
  cond (decide (v7 < v8))
  (bf (decide (0<=(aO (CW .u64 (IntKind.u64.wrap (aO (v7+v8))) 1))/\(aO (CW .u64 (IntKind.u64.wrap (aO (v7+v8))) 1)) < (a0.len:Int))) ((E.c236 (a0.get (aO (CW .u64 (IntKind.u64.wrap (aO (v7+v8))) 1)).toNat,a1)).T λ r1 =>
 cond r1
 (ve E n0 a0 a1 (aO ((aO (CW .u64 (IntKind.u64.wrap (aO (v7+v8))) 1))+1)) v8 k)
 (ve E n0 a0 a1 v7 (aO (CW .u64 (IntKind.u64.wrap (aO (v7+v8))) 1)) k)))
  (cond (decide (v7 < (a0.len:Int)))
 (bf (decide (0<=v7/\v7 < (a0.len:Int))) (cond (a0.get v7.toNat == a1)
 (k (v7,true))
 (bf (decide (0<=v7/\v7 < (a0.len:Int))) ((E.zgr (a0.get v7.toNat)).T λ r2 =>
 cond r2
 ((E.zgr a1).T λ r3 =>
 k (v7,r3))
 (k (v7,false))))))
 (k (v7,false))):=by kernel_rfl
end
theorem zJh [aJ] (E:Vp) (zqz:Ok ax 236 (ae.un E.c236)) (zqA:Ok ax 237 (ae.un E.zgr)):Ok ax 205 (ae.un (zjP E)):=aY (aP ((ay.nil.addF zqz).addF zqA) (ak (by kernel_rfl)))
structure qV where
  N:Nat
  zU:(Sl aC)×((dN 207 Unit (Pt list)) ⊕ (dN 230 Unit (Pt straight)) ⊕ (dN 257 Unit (Pt straight)))->ae (Int)
abbrev zeD (E:qV):aX:=dh (Tabs.nil.addF 238 (ae.un E.zU)) []
def zeE:bW:=aU ax 206 [] {}
def zu (E:qV):(Sl aC)×(dN 207 Unit (Pt list))->ae (Bool):=ae.ty (aF ax E.N (zeD E) zeE 206)
section
variable (E:qV){A:Type}(k:Bool->Option A)
theorem zeF (a0:(Sl aC)) (a1:(dN 207 Unit (Pt list))):(zu E (a0,a1)).T k =
  (E.zU (a0,(Sum.inl a1))).T λ r1 =>
  k (decide (r1 >= 0)):=bH.trans (by kernel_rfl)
end
theorem zeG [aJ] (E:qV) (G7:Ok ax 238 (ae.un E.zU)):Ok ax 206 (ae.un (zu E)):=aY (aP (ay.nil.addF G7) (ak (by kernel_rfl)))
structure qW where
  N:Nat
  zU:(Sl aC)×((dN 207 Unit (Pt list)) ⊕ (dN 230 Unit (Pt straight)) ⊕ (dN 257 Unit (Pt straight)))->ae (Int)
abbrev zeH (E:qW):aX:=dh (Tabs.nil.addF 238 (ae.un E.zU)) []
def zeI:bW:=aU ax 206 [] {}
def zx (E:qW):(Sl aC)×(dN 230 Unit (Pt straight))->ae (Bool):=ae.ty (aF ax E.N (zeH E) zeI 206)
section
variable (E:qW){A:Type}(k:Bool->Option A)
theorem zeJ (a0:(Sl aC)) (a1:(dN 230 Unit (Pt straight))):(zx E (a0,a1)).T k =
  (E.zU (a0,(Sum.inr (Sum.inl a1)))).T λ r1 =>
  k (decide (r1 >= 0)):=bH.trans (by kernel_rfl)
end
theorem zeK [aJ] (E:qW) (G7:Ok ax 238 (ae.un E.zU)):Ok ax 206 (ae.un (zx E)):=aY (aP (ay.nil.addF G7) (ak (by kernel_rfl)))
structure qX where
  N:Nat
  zU:(Sl aC)×((dN 207 Unit (Pt list)) ⊕ (dN 230 Unit (Pt straight)) ⊕ (dN 257 Unit (Pt straight)))->ae (Int)
abbrev zeL (E:qX):aX:=dh (Tabs.nil.addF 238 (ae.un E.zU)) []
def zeM:bW:=aU ax 206 [] {}
def zy (E:qX):(Sl aC)×(dN 257 Unit (Pt straight))->ae (Bool):=ae.ty (aF ax E.N (zeL E) zeM 206)
section
variable (E:qX){A:Type}(k:Bool->Option A)
theorem zeN (a0:(Sl aC)) (a1:(dN 257 Unit (Pt straight))):(zy E (a0,a1)).T k =
  (E.zU (a0,(Sum.inr (Sum.inr a1)))).T λ r1 =>
  k (decide (r1 >= 0)):=bH.trans (by kernel_rfl)
end
theorem zeO [aJ] (E:qX) (G7:Ok ax 238 (ae.un E.zU)):Ok ax 206 (ae.un (zy E)):=aY (aP (ay.nil.addF G7) (ak (by kernel_rfl)))
structure zae where
  N:Nat
abbrev zJi (E:zae):aX:=dh Tabs.nil []
def zJj:bW:=aU ax 207 [] {}
def zjQ (E:zae):aC×(Pt list)->ae (Bool):=ae.ty (aF ax E.N (zJi E) zJj 207)
section
variable (E:zae){A:Type}(k:Bool->Option A)
theorem e207 (a0:aC) (a1:(Pt list)):(zjQ E (a0,a1)).T k =
  bf (decide ((0:Int)<=0/\0 < (a1.v.bI.len:Int))) (k (a0.Z != (a1.v.bI.get 0).Z)):=bH.trans (by kernel_rfl)
end
theorem zJk [aJ] (E:zae):Ok ax 207 (ae.un (zjQ E)):=aY (aP ay.nil (ak (by kernel_rfl)))
structure zaf where
  N:Nat
  I8:Int->ae (Bool)
abbrev zJl (E:zaf):aX:=dh (Tabs.nil.addF 239 (ae.un E.I8)) []
def zJm:bW:=aU ax 208 [] {}
def zjR (E:zaf):Int×Int->ae (Int):=ae.ty (aF ax E.N (zJl E) zJm 208)
section
variable (E:zaf){A:Type}(k:Int->Option A)
theorem e208 (a0:Int) (a1:Int):(zjR E (a0,a1)).T k =
  (E.I8 a0).T λ r1 =>
  (E.I8 a1).T λ r2 =>
  cond r1
  (cond r2
 (k 0)
 (k (-1)))
  (cond r2
 (k 1)
 (cond (decide (a0 < a1))
 (k (-1))
 (cond (decide (a0 > a1))
 (k 1)
 (k 0)))):=bH.trans (by kernel_rfl)
end
theorem zJn [aJ] (E:zaf) (QQ:Ok ax 239 (ae.un E.I8)):Ok ax 208 (ae.un (zjR E)):=aY (aP (ay.nil.addF QQ) (ak (by kernel_rfl)))
structure Vq where
  N:Nat
abbrev zyv (E:Vq):aX:=dh Tabs.nil []
def zyw:bW:=aU ax 209 [] {}
def zjS (E:Vq):Int×Int->ae (Int):=ae.ty (aF ax E.N (zyv E) zyw 209)
section
variable (E:Vq){A:Type}(k:Int->Option A)
def NF (E:Vq) (n:Nat) (v0:Int) (v1:Int){A:Type}(k:Int->Option A):Option A :=
  iG ax (zyv E) E.N zyw 209 [1,0,0] [.n n] (iI k)
    ⟨[(0,.int v0),(1,.int v1)],[],[]⟩
theorem e209 (a0:Int) (a1:Int):(zjS E (a0,a1)).T k =
  NF E E.N a0 a1 k:=bH.trans (by kernel_rfl)
theorem zqB (n0:Nat) (v0:Int) (v1:Int):NF E (n0+1) v0 v1 k =
  cond (decide (v1 > 0))
  (bf (decide (v1 ≠ 0)) (NF E n0 v1 (v0.tmod v1) k))
  (k v0):=by kernel_rfl
end
theorem zJo [aJ] (E:Vq):Ok ax 209 (ae.un (zjS E)):=aY (aP ay.nil (ak (by kernel_rfl)))
structure og where
  N:Nat
  zgo:Int×(Pt (Pt aW))×(Pt Int)->ae (Bool)
abbrev QR (E:og):aX:=dh (Tabs.nil.addF 180 (ae.un E.zgo)) []
def QS:bW:=aU ax 210 [] {}
def zA (E:og):(Sl Int)×(dN 180 Unit ((Pt (Pt aW))×(Pt Int)))->ae (Int):=ae.ty (aF ax E.N (QR E) QS 210)
section
variable (E:og){A:Type}(k:Int->Option A)
def sK (E:og) (n:Nat) (a0:(Sl Int)) (a1:(dN 180 Unit ((Pt (Pt aW))×(Pt Int)))) (v8:Int){A:Type}(k:Int->Option A):Option A :=
  iG ax (QR E) E.N QS 210 [1,0,1,0] [.n n] (iI k)
    ⟨[(0,eP a0),(1,eP a1),(7,.int (a0.len:Int)),(8,.int v8)],[],[]⟩
theorem zeP (a0:(Sl Int)) (a1:(dN 180 Unit ((Pt (Pt aW))×(Pt Int)))):(zA E (a0,a1)).T k =
  sK E E.N a0 a1 0 k:=bH.trans (by kernel_rfl)
theorem G8 (n0:Nat) (a0:(Sl Int)) (a1:(dN 180 Unit ((Pt (Pt aW))×(Pt Int)))) (v8:Int):sK E (n0+1) a0 a1 v8 k =
  cond (decide (v8 < (a0.len:Int)))
  (bf (decide (0<=v8/\v8 < (a0.len:Int))) ((E.zgo (a0.get v8.toNat,a1.v.1,a1.v.2)).T λ r1 =>
 cond r1
 (k v8)
 (sK E n0 a0 a1 (aO (v8+1)) k)))
  (k (-1)):=by kernel_rfl
end
theorem zeQ [aJ] (E:og) (zqC:Ok ax 180 (ae.un E.zgo)):Ok ax 210 (ae.un (zA E)):=aY (aP (ay.nil.addF zqC) (ak (by kernel_rfl)))
structure oh where
  N:Nat
  zgq:Int×(Pt (Pt aW))×(Pt Int)->ae (Bool)
abbrev QT (E:oh):aX:=dh (Tabs.nil.addF 190 (ae.un E.zgq)) []
def QU:bW:=aU ax 210 [] {}
def zB (E:oh):(Sl Int)×(dN 190 Unit ((Pt (Pt aW))×(Pt Int)))->ae (Int):=ae.ty (aF ax E.N (QT E) QU 210)
section
variable (E:oh){A:Type}(k:Int->Option A)
def sN (E:oh) (n:Nat) (a0:(Sl Int)) (a1:(dN 190 Unit ((Pt (Pt aW))×(Pt Int)))) (v8:Int){A:Type}(k:Int->Option A):Option A :=
  iG ax (QT E) E.N QU 210 [1,0,1,0] [.n n] (iI k)
    ⟨[(0,eP a0),(1,eP a1),(7,.int (a0.len:Int)),(8,.int v8)],[],[]⟩
theorem zeR (a0:(Sl Int)) (a1:(dN 190 Unit ((Pt (Pt aW))×(Pt Int)))):(zB E (a0,a1)).T k =
  sN E E.N a0 a1 0 k:=bH.trans (by kernel_rfl)
theorem G9 (n0:Nat) (a0:(Sl Int)) (a1:(dN 190 Unit ((Pt (Pt aW))×(Pt Int)))) (v8:Int):sN E (n0+1) a0 a1 v8 k =
  cond (decide (v8 < (a0.len:Int)))
  (bf (decide (0<=v8/\v8 < (a0.len:Int))) ((E.zgq (a0.get v8.toNat,a1.v.1,a1.v.2)).T λ r1 =>
 cond r1
 (k v8)
 (sN E n0 a0 a1 (aO (v8+1)) k)))
  (k (-1)):=by kernel_rfl
end
theorem zeS [aJ] (E:oh) (zqD:Ok ax 190 (ae.un E.zgq)):Ok ax 210 (ae.un (zB E)):=aY (aP (ay.nil.addF zqD) (ak (by kernel_rfl)))
structure zah where
  N:Nat
  zlE:(Sl aC)->ae ((Sl Line)×Int)
abbrev zJp (E:zah):aX:=dh (Tabs.nil.addF 240 (ae.un E.zlE)) []
def zJq:bW:=aU ax 211 [] {}
def zjT (E:zah):(Sl aC)->ae (Line×Int):=ae.ty (aF ax E.N (zJp E) zJq 211)
section
variable (E:zah){A:Type}(k:(Line×Int)->Option A)
theorem e211 (a0:(Sl aC)):(zjT E (a0)).T k =
  (E.zlE a0).T λ r1 =>
  cond (r1.2 != 0)
  (k ((⟨(⟨0,0⟩:aS),(⟨0,0⟩:aS)⟩:Line),r1.2))
  (bf (decide ((0:Int)<=0/\0 < (r1.1.len:Int))) (k ((r1.1.get 0),0))):=bH.trans (by kernel_rfl)
end
theorem zJr [aJ] (E:zah) (zqE:Ok ax 240 (ae.un E.zlE)):Ok ax 211 (ae.un (zjT E)):=aY (aP (ay.nil.addF zqE) (ak (by kernel_rfl)))
structure zai where
  N:Nat
abbrev zJs (E:zai):aX:=dh Tabs.nil []
def zJt:bW:=aU ax 222 [] {}
def zjU (E:zai):Int->ae (Bool):=ae.ty (aF ax E.N (zJs E) zJt 222)
section
variable (E:zai){A:Type}(k:Bool->Option A)
theorem e222 (a0:Int):(zjU E (a0)).T k =
  k (a0 != a0):=bH.trans (by kernel_rfl)
end
theorem zJu [aJ] (E:zai):Ok ax 222 (ae.un (zjU E)):=aY (aP ay.nil (ak (by kernel_rfl)))
structure NG where
  N:Nat
  zgs:aC×Int->ae (Int)
  c55:Int×Int×Int×Int->ae (Line)
abbrev zjV (E:NG):aX:=dh ((Tabs.nil.addF 247 (ae.un E.zgs)).addF 55 (ae.un E.c55)) []
def zjW:bW:=aU ax 225 [] { ks:=[(1,3,⟨[],[(3,65,114)],[],[],[],[],[]⟩),(1,6,⟨[],[(3,65,114)],[],[],[],[],[]⟩),(1,9,⟨[],[(3,65,114)],[],[],[],[],[]⟩)] }
def zjX (E:NG):(Sl aC)->ae ((Sl Line)):=ae.ty (aF ax E.N (zjV E) zjW 225)
section
variable (E:NG){A:Type}(k:(Sl Line)->Option A)
def Ha (E:NG) (n:Nat) (a0:(Sl aC)) (v4:Int) (Jr:Sl Line){A:Type}(k:(Sl Line)->Option A):Option A :=
  iG ax (zjV E) E.N zjW 225 [1,1,0,1,0] [.n n] (iI k)
    ⟨[(0,eP a0),(3,.cl (.vec 65)),(4,.int v4)],[(65,eV 114 4 32 Jr)],[]⟩
def Bi (E:NG) (n0:Nat) (n:Nat) (a0:(Sl aC)) (v4:Int) (v5:Int) (Jr:Sl Line){A:Type}(k:(Sl Line)->Option A):Option A :=
  iG ax (zjV E) E.N zjW 225 [1,1,0,1,0,0,1,0,0,1,0] [.n n0,.n n] (iI k)
    ⟨[(0,eP a0),(3,.cl (.vec 65)),(4,.int v4),(5,.int v5)],[(65,eV 114 4 32 Jr)],[]⟩
def Bj (E:NG) (n0:Nat) (n1:Nat) (n:Nat) (a0:(Sl aC)) (v4:Int) (v5:Int) (v6:Int) (Jr:Sl Line){A:Type}(k:(Sl Line)->Option A):Option A :=
  iG ax (zjV E) E.N zjW 225 [1,1,0,1,0,0,1,0,0,1,0,0,1,0,0,1,0] [.n n0,.n n1,.n n] (iI k)
    ⟨[(0,eP a0),(3,.cl (.vec 65)),(4,.int v4),(5,.int v5),(6,.int v6)],[(65,eV 114 4 32 Jr)],[]⟩
theorem zJv (a0:(Sl aC)):(zjX E (a0)).T k =
  Ha E E.N a0 0 (⟨0,(λ _=>(⟨(⟨0,0⟩:aS),(⟨0,0⟩:aS)⟩:Line))⟩:(Sl Line)) k:=bH.trans (by kernel_rfl)
theorem zeT (n0:Nat) (a0:(Sl aC)) (v4:Int) (Jr:Sl Line):Ha E (n0+1) a0 v4 Jr k =
  cond (decide (v4 < (a0.len:Int)))
  (Bi E n0 E.N a0 v4 (aO (v4+1)) Jr k)
  (k Jr):=by kernel_rfl
theorem zeU (n0:Nat) (n1:Nat) (a0:(Sl aC)) (v4:Int) (v5:Int) (Jr:Sl Line):Bi E n0 (n1+1) a0 v4 v5 Jr k =
  cond (decide (v5 < (a0.len:Int)))
  (Bj E n0 n1 E.N a0 v4 v5 0 Jr k)
  (Ha E n0 a0 (aO (v4+1)) Jr k):=by kernel_rfl
theorem Vr (n0:Nat) (n1:Nat) (n2:Nat) (a0:(Sl aC)) (v4:Int) (v5:Int) (v6:Int) (Jr:Sl Line):Bj E n0 n1 (n2+1) a0 v4 v5 v6 Jr k =
  cond (decide (v6 < 4))
  (bf (decide (0<=v4/\v4 < (a0.len:Int))) (bf (decide (0<=v5/\v5 < (a0.len:Int))) (cond ((a0.get v4.toNat).Z != (a0.get v5.toNat).Z)
 (bf (decide (0<=v4/\v4 < (a0.len:Int))) (bf (decide (0<=v4/\v4 < (a0.len:Int))) ((E.zgs ((a0.get v4.toNat),(aO (v6.tdiv 2)))).T λ r1 =>
 bf (decide (0<=v5/\v5 < (a0.len:Int))) (bf (decide (0<=v5/\v5 < (a0.len:Int))) ((E.zgs ((a0.get v5.toNat),(v6.tmod 2))).T λ r2 =>
 (E.c55 ((a0.get v4.toNat).Z,r1,(a0.get v5.toNat).Z,r2)).T λ r3 =>
 bf (room (Jr.len+1) 32) (Bj E n0 n1 n2 a0 v4 v5 (aO (v6+1)) (⟨(Jr.len+1),(jb Jr.len Jr.get (λ _=>r3))⟩:(Sl Line)) k))))))
 (Bi E n0 n1 a0 v4 (aO (v5+1)) Jr k))))
  (Bi E n0 n1 a0 v4 (aO (v5+1)) Jr k):=by kernel_rfl
end
theorem zJw [aJ] (E:NG) (zjY:Ok ax 247 (ae.un E.zgs)) (h55:Ok ax 55 (ae.un E.c55)):Ok ax 225 (ae.un (zjX E)):=aY (aP ((ay.nil.addF zjY).addF h55) (ak (by kernel_rfl)))
structure zaj where
  N:Nat
  VN:Line×(Sl aC)->ae (Bool)
  c56:aS×aS->ae (Bool)
abbrev zJy (E:zaj):aX:=dh ((Tabs.nil.addF 248 (ae.un E.VN)).addF 56 (ae.un E.c56)) []
def zJz:bW:=aU ax 226 [] {}
def zjZ (E:zaj):Line×Line×(Sl aC)->ae (Bool):=ae.ty (aF ax E.N (zJy E) zJz 226)
section
variable (E:zaj){A:Type}(k:Bool->Option A)
theorem e226 (a0:Line) (a1:Line) (a2:(Sl aC)):(zjZ E (a0,a1,a2)).T k =
  (E.VN (a0,a2)).T λ r1 =>
  (E.VN (a1,a2)).T λ r2 =>
  cond (r1 != r2)
  ((E.VN (a0,a2)).T λ r3 =>
 k r3)
  ((E.VN (a0,a2)).T λ r4 =>
 cond r4
 ((E.c56 (a0.dM,a1.dM)).T λ r5 =>
 k r5)
 ((E.c56 (a1.dM,a0.dM)).T λ r6 =>
 k r6)):=bH.trans (by kernel_rfl)
end
theorem zJA [aJ] (E:zaj) (zj0:Ok ax 248 (ae.un E.VN)) (h56:Ok ax 56 (ae.un E.c56)):Ok ax 226 (ae.un (zjZ E)):=aY (aP ((ay.nil.addF zj0).addF h56) (ak (by kernel_rfl)))
structure zak where
  N:Nat
abbrev zJB (E:zak):aX:=dh Tabs.nil []
def zJC:bW:=aU ax 227 [] {}
def zj1 (E:zak):ai×Int×Int->ae (ai):=ae.ty (aF ax E.N (zJB E) zJC 227)
section
variable (E:zak){A:Type}(k:ai->Option A)
theorem e227 (a0:ai) (a1:Int) (a2:Int):(zj1 E (a0,a1,a2)).T k =
  bf (room a0.Hits.len 8) (bf (room (a0.Hits.len+1) 8) (bf (room a0.bC.len 8) (bf (room (a0.bC.len+1) 8) (k (⟨a0.View,(⟨(a0.Hits.len+1),(jb a0.Hits.len a0.Hits.get (λ _=>a1))⟩:(Sl Int)),(⟨(a0.bC.len+1),(jb a0.bC.len a0.bC.get (λ _=>a2))⟩:(Sl Int))⟩:ai))))):=bH.trans (by kernel_rfl)
end
theorem zJD [aJ] (E:zak):Ok ax 227 (ae.un (zj1 E)):=aY (aP ay.nil (ak (by kernel_rfl)))
structure NH where
  N:Nat
  c229:Int×Int×Int×Int->ae (straight)
abbrev zqF (E:NH):aX:=dh (Tabs.nil.addF 229 (ae.un E.c229)) []
def zqG:bW:=aU ax 228 [0] { ks:=[(1,4,⟨[],[],[],[],[4],[],[]⟩)],unr:=[(8,3),(11,3)],yl:=[13] }
def zyx (E:NH) (c:List PA):YO:=aI ax (zqF E) E.N zqG 228 c
def zqH (E:NH):(Pt list)->ae (List (straight)):=ae.tyI λ c=>.opt (zyx E c)
section
variable (E:NH)
def He (E:NH) (n:Nat) (a1:(Pt list)) (v14:Int):YO :=
  ptY ax (zqF E) E.N zqG 228 [1,0] [n]
    ⟨[(0,.cl (.vec 4095)),(1,eP a1),(12,eP a1.v.bI),(13,.int (a1.v.bI.len:Int)),(14,.int v14)],[(4095,.gone)],[]⟩
def Hf (E:NH) (n0:Nat) (n:Nat) (a1:(Pt list)) (v14:Int) (v23:(Sl aC)) (v24:Int) (v25:Int) (x4:aC):YO :=
  ptY ax (zqF E) E.N zqG 228 [1,0,0,1,1,0,0,1,1,0] [n0,n]
    ⟨[(0,.cl (.vec 4095)),(1,eP a1),(4,.cl (.ptr 4 0)),(12,eP a1.v.bI),(13,.int (a1.v.bI.len:Int)),(14,.int v14),(23,eP v23),(24,.int v24),(25,.int v25)],[(4095,.gone),(4,.fbox (bG.enc x4))],[]⟩
theorem e228 (a1:(Pt list)):zyx E (dw.enc ((a1):(Pt list))) =
  He E E.N a1 0:=by kernel_rfl
theorem zeV (n0:Nat) (a1:(Pt list)) (v14:Int):He E (n0+1) a1 v14 =
  cond (decide (v14 < (a1.v.bI.len:Int)))
  (bf (decide (0<=v14/\v14 < (a1.v.bI.len:Int))) (bf (decide ((0:Int)<=(aO (v14+1))/\((aO (v14+1)):Int)<=(a1.v.bI.len:Int)/\(a1.v.bI.len:Int)<=(a1.v.bI.len:Int))) (Hf E n0 E.N a1 v14 (⟨(((a1.v.bI.len:Int):Int) - (aO (v14+1))).toNat,(Jn a1.v.bI.get (aO (v14+1)).toNat)⟩:(Sl aC)) ((((a1.v.bI.len:Int):Int) - (aO (v14+1))).toNat:Int) 0 (a1.v.bI.get v14.toNat))))
  (some []):=by kernel_rfl
theorem zeW (n0:Nat) (n1:Nat) (a1:(Pt list)) (v14:Int) (v23:(Sl aC)) (v24:Int) (v25:Int) (x4:aC):Hf E n0 (n1+1) a1 v14 v23 v24 v25 x4 =
  cond (decide (v25 < v24))
  (bf (decide (0<=v25/\v25 < (v23.len:Int))) (cond (x4.Z == (v23.get v25.toNat).Z)
 (Hf E n0 n1 a1 v14 v23 v24 (aO (v25+1)) x4)
 ((E.c229 (x4.Z,x4.Low,(v23.get v25.toNat).Z,(v23.get v25.toNat).Low)).T λ r1 =>
 yT (dw.enc (r1:straight)) (some [])
 ((E.c229 (x4.Z,x4.Low,(v23.get v25.toNat).Z,(v23.get v25.toNat).High)).T λ r2 =>
 yT (dw.enc (r2:straight)) (some [])
 ((E.c229 (x4.Z,x4.High,(v23.get v25.toNat).Z,(v23.get v25.toNat).Low)).T λ r3 =>
 yT (dw.enc (r3:straight)) (some [])
 ((E.c229 (x4.Z,x4.High,(v23.get v25.toNat).Z,(v23.get v25.toNat).High)).T λ r4 =>
 yT (dw.enc (r4:straight)) (some [])
 (Hf E n0 n1 a1 v14 v23 v24 (aO (v25+1)) x4)))))))
  (He E n0 a1 (aO (v14+1))):=by kernel_rfl
end
theorem zJE (E:NH) (zal:Ok ax 229 (ae.un E.c229)):qx ax 228 (ae.unI (zqH E)):=MO (Gn (ay.nil.addF zal) (ak (by kernel_rfl)))
structure zam where
  N:Nat
abbrev zJF (E:zam):aX:=dh Tabs.nil []
def zJG:bW:=aU ax 229 [] {}
def zj2 (E:zam):Int×Int×Int×Int->ae (straight):=ae.ty (aF ax E.N (zJF E) zJG 229)
section
variable (E:zam){A:Type}(k:straight->Option A)
theorem e229 (a0:Int) (a1:Int) (a2:Int) (a3:Int):(zj2 E (a0,a1,a2,a3)).T k =
  cond (decide (a0 > a2))
  (k (⟨(aO (a1 - a3)),(aO ((aO (a3 * a0)) - (aO (a1 * a2)))),(aO (a0 - a2))⟩:straight))
  (k (⟨(aO (a3 - a1)),(aO ((aO (a1 * a2)) - (aO (a3 * a0)))),(aO (a2 - a0))⟩:straight)):=bH.trans (by kernel_rfl)
end
theorem zJH [aJ] (E:zam):Ok ax 229 (ae.un (zj2 E)):=aY (aP ay.nil (ak (by kernel_rfl)))
structure zan where
  N:Nat
  zlD:straight×aC->ae (Bool)
abbrev zJI (E:zan):aX:=dh (Tabs.nil.addF 231 (ae.un E.zlD)) []
def zJJ:bW:=aU ax 230 [] {}
def zj3 (E:zan):aC×(Pt straight)->ae (Bool):=ae.ty (aF ax E.N (zJI E) zJJ 230)
section
variable (E:zan){A:Type}(k:Bool->Option A)
theorem e230 (a0:aC) (a1:(Pt straight)):(zj3 E (a0,a1)).T k =
  (E.zlD (a1.v,a0)).T λ r1 =>
  k (!r1):=bH.trans (by kernel_rfl)
end
theorem zJK [aJ] (E:zan) (zqI:Ok ax 231 (ae.un E.zlD)):Ok ax 230 (ae.un (zj3 E)):=aY (aP (ay.nil.addF zqI) (ak (by kernel_rfl)))
structure zao where
  N:Nat
  c157:Int×Int×Int->ae (Bool)
abbrev zJL (E:zao):aX:=dh (Tabs.nil.addF 157 (ae.un E.c157)) []
def zJM:bW:=aU ax 231 [] {}
def zj4 (E:zao):straight×aC->ae (Bool):=ae.ty (aF ax E.N (zJL E) zJM 231)
section
variable (E:zao){A:Type}(k:Bool->Option A)
theorem e231 (a0:straight) (a1:aC):(zj4 E (a0,a1)).T k =
  (E.c157 ((aO (a0.start+(aO (a0.bK * a1.Z)))),(aO (a1.Low * a0.den)),(aO (a1.High * a0.den)))).T λ r1 =>
  k r1:=bH.trans (by kernel_rfl)
end
theorem zJN [aJ] (E:zao) (xI:Ok ax 157 (ae.un E.c157)):Ok ax 231 (ae.un (zj4 E)):=aY (aP (ay.nil.addF xI) (ak (by kernel_rfl)))
structure zaq where
  N:Nat
  I8:Int->ae (Bool)
abbrev zJO (E:zaq):aX:=dh (Tabs.nil.addF 239 (ae.un E.I8)) []
def zJP:bW:=aU ax 236 [] {}
def zj5 (E:zaq):Int×Int->ae (Bool):=ae.ty (aF ax E.N (zJO E) zJP 236)
section
variable (E:zaq){A:Type}(k:Bool->Option A)
theorem zJQ (a0:Int) (a1:Int):(zj5 E (a0,a1)).T k =
  (E.I8 a0).T λ r1 =>
  cond r1
  ((E.I8 a1).T λ r2 =>
 cond (!r2)
 (k true)
 (k (decide (a0 < a1))))
  (k (decide (a0 < a1))):=bH.trans (by kernel_rfl)
end
theorem zJR [aJ] (E:zaq) (QQ:Ok ax 239 (ae.un E.I8)):Ok ax 236 (ae.un (zj5 E)):=aY (aP (ay.nil.addF QQ) (ak (by kernel_rfl)))
structure zar where
  N:Nat
abbrev zJS (E:zar):aX:=dh Tabs.nil []
def zJT:bW:=aU ax 237 [] {}
def zj6 (E:zar):Int->ae (Bool):=ae.ty (aF ax E.N (zJS E) zJT 237)
section
variable (E:zar){A:Type}(k:Bool->Option A)
theorem e237 (a0:Int):(zj6 E (a0)).T k =
  k (a0 != a0):=bH.trans (by kernel_rfl)
end
theorem zJU [aJ] (E:zar):Ok ax 237 (ae.un (zj6 E)):=aY (aP ay.nil (ak (by kernel_rfl)))
structure oq where
  N:Nat
  zlx:aC×(Pt list)->ae (Bool)
abbrev QV (E:oq):aX:=dh (Tabs.nil.addF 207 (ae.un E.zlx)) []
def QX:bW:=aU ax 238 [] {}
def zC (E:oq):(Sl aC)×(dN 207 Unit (Pt list))->ae (Int):=ae.ty (aF ax E.N (QV E) QX 238)
section
variable (E:oq){A:Type}(k:Int->Option A)
def sO (E:oq) (n:Nat) (a0:(Sl aC)) (a1:(dN 207 Unit (Pt list))) (v8:Int){A:Type}(k:Int->Option A):Option A :=
  iG ax (QV E) E.N QX 238 [1,0,1,0] [.n n] (iI k)
    ⟨[(0,eP a0),(1,.p (.fn 207 [] [.fp [.sl a1.v.v.bI.len 3 (λ i=>bG.enc (a1.v.v.bI.get i))] 0])),(7,.int (a0.len:Int)),(8,.int v8)],[],[]⟩
theorem zeX (a0:(Sl aC)) (a1:(dN 207 Unit (Pt list))):(zC E (a0,a1)).T k =
  sO E E.N a0 a1 0 k:=bH.trans (by kernel_rfl)
theorem Hg (n0:Nat) (a0:(Sl aC)) (a1:(dN 207 Unit (Pt list))) (v8:Int):sO E (n0+1) a0 a1 v8 k =
  cond (decide (v8 < (a0.len:Int)))
  (bf (decide (0<=v8/\v8 < (a0.len:Int))) ((E.zlx ((a0.get v8.toNat),a1.v)).T λ r1 =>
 cond r1
 (k v8)
 (sO E n0 a0 a1 (aO (v8+1)) k)))
  (k (-1)):=by kernel_rfl
end
theorem zeY [aJ] (E:oq) (zqJ:Ok ax 207 (ae.un E.zlx)):Ok ax 238 (ae.un (zC E)):=aY (aP (ay.nil.addF zqJ) (ak (by kernel_rfl)))
structure ou where
  N:Nat
  zlC:aC×(Pt straight)->ae (Bool)
abbrev QY (E:ou):aX:=dh (Tabs.nil.addF 230 (ae.un E.zlC)) []
def QZ:bW:=aU ax 238 [] {}
def zD (E:ou):(Sl aC)×(dN 230 Unit (Pt straight))->ae (Int):=ae.ty (aF ax E.N (QY E) QZ 238)
section
variable (E:ou){A:Type}(k:Int->Option A)
def sQ (E:ou) (n:Nat) (a0:(Sl aC)) (a1:(dN 230 Unit (Pt straight))) (v8:Int){A:Type}(k:Int->Option A):Option A :=
  iG ax (QY E) E.N QZ 238 [1,0,1,0] [.n n] (iI k)
    ⟨[(0,eP a0),(1,eP a1),(7,.int (a0.len:Int)),(8,.int v8)],[],[]⟩
theorem zeZ (a0:(Sl aC)) (a1:(dN 230 Unit (Pt straight))):(zD E (a0,a1)).T k =
  sQ E E.N a0 a1 0 k:=bH.trans (by kernel_rfl)
theorem Hl (n0:Nat) (a0:(Sl aC)) (a1:(dN 230 Unit (Pt straight))) (v8:Int):sQ E (n0+1) a0 a1 v8 k =
  cond (decide (v8 < (a0.len:Int)))
  (bf (decide (0<=v8/\v8 < (a0.len:Int))) ((E.zlC ((a0.get v8.toNat),a1.v)).T λ r1 =>
 cond r1
 (k v8)
 (sQ E n0 a0 a1 (aO (v8+1)) k)))
  (k (-1)):=by kernel_rfl
end
theorem ze0 [aJ] (E:ou) (zqK:Ok ax 230 (ae.un E.zlC)):Ok ax 238 (ae.un (zD E)):=aY (aP (ay.nil.addF zqK) (ak (by kernel_rfl)))
structure oz where
  N:Nat
  zlF:aC×(Pt straight)->ae (Bool)
abbrev Q3 (E:oz):aX:=dh (Tabs.nil.addF 257 (ae.un E.zlF)) []
def Q4:bW:=aU ax 238 [] {}
def zF (E:oz):(Sl aC)×(dN 257 Unit (Pt straight))->ae (Int):=ae.ty (aF ax E.N (Q3 E) Q4 238)
section
variable (E:oz){A:Type}(k:Int->Option A)
def sS (E:oz) (n:Nat) (a0:(Sl aC)) (a1:(dN 257 Unit (Pt straight))) (v8:Int){A:Type}(k:Int->Option A):Option A :=
  iG ax (Q3 E) E.N Q4 238 [1,0,1,0] [.n n] (iI k)
    ⟨[(0,eP a0),(1,eP a1),(7,.int (a0.len:Int)),(8,.int v8)],[],[]⟩
theorem ze1 (a0:(Sl aC)) (a1:(dN 257 Unit (Pt straight))):(zF E (a0,a1)).T k =
  sS E E.N a0 a1 0 k:=bH.trans (by kernel_rfl)
theorem Hm (n0:Nat) (a0:(Sl aC)) (a1:(dN 257 Unit (Pt straight))) (v8:Int):sS E (n0+1) a0 a1 v8 k =
  cond (decide (v8 < (a0.len:Int)))
  (bf (decide (0<=v8/\v8 < (a0.len:Int))) ((E.zlF ((a0.get v8.toNat),a1.v)).T λ r1 =>
 cond r1
 (k v8)
 (sS E n0 a0 a1 (aO (v8+1)) k)))
  (k (-1)):=by kernel_rfl
end
theorem ze2 [aJ] (E:oz) (zqL:Ok ax 257 (ae.un E.zlF)):Ok ax 238 (ae.un (zF E)):=aY (aP (ay.nil.addF zqL) (ak (by kernel_rfl)))
structure zas where
  N:Nat
abbrev zJV (E:zas):aX:=dh Tabs.nil []
def zJW:bW:=aU ax 239 [] {}
def zj7 (E:zas):Int->ae (Bool):=ae.ty (aF ax E.N (zJV E) zJW 239)
section
variable (E:zas){A:Type}(k:Bool->Option A)
theorem zJX (a0:Int):(zj7 E (a0)).T k =
  k (a0 != a0):=bH.trans (by kernel_rfl)
end
theorem zJY [aJ] (E:zas):Ok ax 239 (ae.un (zj7 E)):=aY (aP ay.nil (ak (by kernel_rfl)))
structure Vs where
  N:Nat
  c117:(Sl aC)×((dN 118 Unit Unit) ⊕ (dN 162 Unit (Pt Int)))->ae (set×Int)
  zgt:set->ae ((Sl straight))
  c198:straight->ae (Line)
abbrev zyy (E:Vs):aX:=dh (((Tabs.nil.addF 117 (ae.un E.c117)).addF 249 (ae.un E.zgt)).addF 198 (ae.un E.c198)) []
def zyz:bW:=aU ax 240 [] { ks:=[(1,6,⟨[],[(6,28,114)],[],[],[],[],[]⟩)] }
def ze3 (E:Vs):(Sl aC)->ae ((Sl Line)×Int):=ae.ty (aF ax E.N (zyy E) zyz 240)
section
variable (E:Vs){A:Type}(k:((Sl Line)×Int)->Option A)
def Bl (E:Vs) (n:Nat) (v18:(Sl straight)) (v19:Int) (v20:Int) (w28:Sl Line){A:Type}(k:((Sl Line)×Int)->Option A):Option A :=
  iG ax (zyy E) E.N zyz 240 [1,1,1,1,0,1,0] [.n n] (iI k)
    ⟨[(6,.cl (.vec 28)),(18,eP v18),(19,.int v19),(20,.int v20)],[(28,eV 114 4 32 w28)],[]⟩
theorem e240 (a0:(Sl aC)):(ze3 E (a0)).T k =
  (E.c117 (a0,(Sum.inl (⟨(),()⟩:(dN 118 Unit Unit))))).T λ r1 =>
  cond (r1.2 != 0)
  (k ((⟨0,λ _=>default⟩:(Sl Line)),r1.2))
  ((E.zgt r1.1).T λ r2 =>
 Bl E E.N r2 (r2.len:Int) 0 (⟨0,(λ _=>(⟨(⟨0,0⟩:aS),(⟨0,0⟩:aS)⟩:Line))⟩:(Sl Line)) k):=bH.trans (by kernel_rfl)
theorem ze4 (n0:Nat) (v18:(Sl straight)) (v19:Int) (v20:Int) (w28:Sl Line):Bl E (n0+1) v18 v19 v20 w28 k =
  cond (decide (v20 < v19))
  (bf (decide (0<=v20/\v20 < (v18.len:Int))) ((E.c198 (v18.get v20.toNat)).T λ r1 =>
 bf (room (w28.len+1) 32) (Bl E n0 v18 v19 (aO (v20+1)) (⟨(w28.len+1),(jb w28.len w28.get (fun _=>r1))⟩:(Sl Line)) k)))
  (k (w28,0)):=by kernel_rfl
end
theorem zJZ [aJ] (E:Vs) (UN:Ok ax 117 (ae.un E.c117)) (zqM:Ok ax 249 (ae.un E.zgt)) (Vb:Ok ax 198 (ae.un E.c198)):Ok ax 240 (ae.un (ze3 E)):=aY (aP (((ay.nil.addF UN).addF zqM).addF Vb) (ak (by kernel_rfl)))
structure zat where
  N:Nat
abbrev zJ0 (E:zat):aX:=dh Tabs.nil []
def zJ1:bW:=aU ax 247 [] {}
def zj8 (E:zat):aC×Int->ae (Int):=ae.ty (aF ax E.N (zJ0 E) zJ1 247)
section
variable (E:zat){A:Type}(k:Int->Option A)
theorem e247 (a0:aC) (a1:Int):(zj8 E (a0,a1)).T k =
  cond (a1 == 0)
  (k a0.Low)
  (k a0.High):=bH.trans (by kernel_rfl)
end
theorem zJ2 [aJ] (E:zat):Ok ax 247 (ae.un (zj8 E)):=aY (aP ay.nil (ak (by kernel_rfl)))
structure Vt where
  N:Nat
  Oq:Line×Int->ae (Int×Int)
abbrev zyA (E:Vt):aX:=dh (Tabs.nil.addF 166 (ae.un E.Oq)) []
def zyB:bW:=aU ax 248 [] {}
def zj9 (E:Vt):Line×(Sl aC)->ae (Bool):=ae.ty (aF ax E.N (zyA E) zyB 248)
section
variable (E:Vt){A:Type}(k:Bool->Option A)
def NI (E:Vt) (n:Nat) (a0:Line) (a1:(Sl aC)) (v5:Int){A:Type}(k:Bool->Option A):Option A :=
  iG ax (zyA E) E.N zyB 248 [1,0,1,0] [.n n] (iI k)
    ⟨[(1,eP a1),(2,.cl (.ptr 2 0)),(5,.int v5)],[(2,eB 114 a0)],[]⟩
theorem e248 (a0:Line) (a1:(Sl aC)):(zj9 E (a0,a1)).T k =
  NI E E.N a0 a1 0 k:=bH.trans (by kernel_rfl)
theorem ze5 (n0:Nat) (a0:Line) (a1:(Sl aC)) (v5:Int):NI E (n0+1) a0 a1 v5 k =
  cond (decide (v5 < (a1.len:Int)))
  (bf (decide (0<=v5/\v5 < (a1.len:Int))) ((E.Oq (a0,(a1.get v5.toNat).Z)).T λ r1 =>
 bf (decide (0<=v5/\v5 < (a1.len:Int))) (cond (r1.1 == (aO ((a1.get v5.toNat).Low * r1.2)))
 (k true)
 (NI E n0 a0 a1 (aO (v5+1)) k))))
  (k false):=by kernel_rfl
end
theorem zJ3 [aJ] (E:Vt) (UQ:Ok ax 166 (ae.un E.Oq)):Ok ax 248 (ae.un (zj9 E)):=aY (aP (ay.nil.addF UQ) (ak (by kernel_rfl)))
structure zau where
  N:Nat
  Sz:straight×straight×(Pt set)->ae (Int)
abbrev zJ4 (E:zau):aX:=dh (((Tabs.nil.addO 252 (.clone 204 3 24)).addO 253 (.sort 204 3 24)).addC 254 (ae.un E.Sz)) []
def zJ5:bW:=aU ax 249 [] {}
def zka (E:zau):set->ae ((Sl straight)):=ae.ty (aF ax E.N (zJ4 E) zJ5 249)
section
variable (E:zau){A:Type}(k:(Sl straight)->Option A)
theorem e249 (a0:set):(zka E (a0)).T k =
  bf (room a0.cu.len 24) (bf (soP (ae.un E.Sz) (bG.enc (⟨a0⟩:(Pt set))) true a0.cu) (k (⟨a0.cu.len,(soG (ae.un E.Sz) (bG.enc (⟨a0⟩:(Pt set))) true a0.cu)⟩:(Sl straight)))):=bH.trans (by kernel_rfl)
end
theorem zJ6 [aJ] (E:zau) (zJ7:dX ax 252 (.clone 204 3 24)) (zJ8:dX ax 253 (.sort 204 3 24)) (zJ9 : @Ok ⟨1⟩ ax 254 (ae.un E.Sz)):Ok ax 249 (ae.un (zka E)):=aY (aP (((ay.nil.addO zJ7).addO zJ8).addC zJ9) (ak (by kernel_rfl)))
structure zav where
  N:Nat
  zgu:set×straight->ae (Bool)
  lu:Int×Int->ae (aS)
  zT:aS×aS->ae (Int)
abbrev zKa (E:zav):aX:=dh (((Tabs.nil.addF 255 (ae.un E.zgu)).addF 172 (ae.un E.lu)).addF 170 (ae.un E.zT)) []
def zKb:bW:=aU ax 254 [] {}
def zkb (E:zav):straight×straight×(Pt set)->ae (Int):=ae.ty (aF ax E.N (zKa E) zKb 254)
section
variable (E:zav){A:Type}(k:Int->Option A)
theorem e254 (a0:straight) (a1:straight) (a2:(Pt set)):(zkb E (a0,a1,a2)).T k =
  (E.zgu (a2.v,a0)).T λ r1 =>
  (E.zgu (a2.v,a1)).T λ r2 =>
  (E.lu (a0.bK,a0.den)).T λ r3 =>
  (E.lu (a1.bK,a1.den)).T λ r4 =>
  (E.zT (r3,r4)).T λ r5 =>
  cond r1
  (cond r2
 (k r5)
 (cond r1
 (k (-1))
 (cond r2
 (k 1)
 (k (aO (0 - r5))))))
  (cond r1
 (k (-1))
 (cond r2
 (k 1)
 (k (aO (0 - r5))))):=bH.trans (by kernel_rfl)
end
theorem zKc [aJ] (E:zav) (zkc:Ok ax 255 (ae.un E.zgu)) (sF:Ok ax 172 (ae.un E.lu)) (GZ:Ok ax 170 (ae.un E.zT)):Ok ax 254 (ae.un (zkb E)):=aY (aP (((ay.nil.addF zkc).addF sF).addF GZ) (ak (by kernel_rfl)))
structure zaw where
  N:Nat
  c206:(Sl aC)×((dN 207 Unit (Pt list)) ⊕ (dN 230 Unit (Pt straight)) ⊕ (dN 257 Unit (Pt straight)))->ae (Bool)
abbrev zKd (E:zaw):aX:=dh (Tabs.nil.addF 206 (ae.un E.c206)) []
def zKe:bW:=aU ax 255 [] {}
def zkd (E:zaw):set×straight->ae (Bool):=ae.ty (aF ax E.N (zKd E) zKe 255)
section
variable (E:zaw){A:Type}(k:Bool->Option A)
theorem zKf (a0:set) (a1:straight):(zkd E (a0,a1)).T k =
  (E.c206 (a0.list.bI,(Sum.inr (Sum.inr (⟨(),(⟨a1⟩:(Pt straight))⟩:(dN 257 Unit (Pt straight))))))).T λ r1 =>
  k r1:=bH.trans (by kernel_rfl)
end
theorem zKg [aJ] (E:zaw) (GV:Ok ax 206 (ae.un E.c206)):Ok ax 255 (ae.un (zkd E)):=aY (aP (ay.nil.addF GV) (ak (by kernel_rfl)))
structure zax where
  N:Nat
abbrev zKh (E:zax):aX:=dh Tabs.nil []
def zKi:bW:=aU ax 257 [] {}
def zke (E:zax):aC×(Pt straight)->ae (Bool):=ae.ty (aF ax E.N (zKh E) zKi 257)
section
variable (E:zax){A:Type}(k:Bool->Option A)
theorem e257 (a0:aC) (a1:(Pt straight)):(zke E (a0,a1)).T k =
  k ((aO (a1.v.start+(aO (a1.v.bK * a0.Z)))) == (aO (a0.Low * a1.v.den))):=bH.trans (by kernel_rfl)
end
theorem zKj [aJ] (E:zax):Ok ax 257 (ae.un (zke E)):=aY (aP ay.nil (ak (by kernel_rfl)))
end Go.Proofs
namespace Go.Proofs
end Go.Proofs
namespace Go.Proofs
open Go Go.Pm
set_option maxRecDepth 100000
theorem mJ {x y X Y:Int}(h1 : -X<=x) (h2:x<=X) (h3:0<=y) (h4:y<=Y) : -(X * Y)<=x * y/\x * y<=X * Y:=by
 have hX:0<=X:=by omega
 have a:=Int.mul_le_mul_of_nonneg_right h2 h3;have b:=Int.mul_le_mul_of_nonneg_left h4 hX;have c:=Int.mul_le_mul_of_nonneg_right h1 h3;rw[Int.neg_mul] at c;omega
def red (num den:Int):aS:=⟨num.tdiv (Int.gcd num den:Int),den.tdiv (Int.gcd num den:Int)⟩
theorem ze6 (num:Int):(if -num > num then -num else num)=(num.natAbs:Int):=by split <;> omega
theorem XE (num den:Int):Int.gcd (num.natAbs:Int) den=Int.gcd num den:=by
 unfold Int.gcd;rw[Int.natAbs_natCast]
theorem jo {num den:Int}(hd:0 < den):0 < (Int.gcd num den:Int):=by
 have:Int.gcd num den ≠ 0:=λ h=>by have:=(Int.gcd_eq_zero_iff.1 h).2;omega
 omega
theorem zyC (num den:Int):∃ a,num=(Int.gcd num den:Int) * a:=Int.gcd_dvd_left num den
theorem zyD (num den:Int):∃ a,den=(Int.gcd num den:Int) * a:=Int.gcd_dvd_right num den
theorem mM {num den:Int}(hd:0 < den):(Int.gcd num den:Int) * (red num den).Num=num:=by
 have hg:=jo (num:=num) hd;obtain⟨a,ha⟩:=zyC num den;show (Int.gcd num den:Int) * num.tdiv (Int.gcd num den:Int)=num;generalize (Int.gcd num den:Int)=g at ha hg ⊢;rw[ha,Int.mul_tdiv_cancel_left _ (by omega)]
theorem lC {num den:Int}(hd:0 < den):(Int.gcd num den:Int) * (red num den).cO=den:=by
 have hg:=jo (num:=num) hd;obtain⟨a,ha⟩:=zyD num den;show (Int.gcd num den:Int) * den.tdiv (Int.gcd num den:Int)=den;generalize (Int.gcd num den:Int)=g at ha hg ⊢;rw[ha,Int.mul_tdiv_cancel_left _ (by omega)]
theorem kw {num den:Int}(hd:0 < den):0 < (red num den).cO:=by
 have h1:=lC (num:=num) hd;have hg:=jo (num:=num) hd;rcases Int.lt_or_le 0 (red num den).cO with h | h
 ·exact h
 ·have := Int.mul_le_mul_of_nonneg_left h (Int.le_of_lt hg);rw[h1,Int.mul_zero] at this;omega
theorem Ho {num den:Int}(hd:0 < den):(red num den).cO<=den:=by
 have h1:=lC (num:=num) hd;have hg:=jo (num:=num) hd;have:=Int.mul_le_mul_of_nonneg_right (show (1:Int)<=(Int.gcd num den:Int) by omega) (Int.le_of_lt (kw (num:=num) hd));omega
theorem zG {num den:Int}(hd:0 < den) : -(num.natAbs:Int)<=(red num den).Num/\(red num den).Num<=(num.natAbs:Int):=by
 have h1:=mM (num:=num) hd;have hg:=jo (num:=num) hd;have h2:num.natAbs=(Int.gcd num den) * (red num den).Num.natAbs:=by
  have:=congrArg Int.natAbs h1;rw[Int.natAbs_mul] at this;simpa using this.symm
 have h3:(red num den).Num.natAbs<=num.natAbs:=by
  rw[h2];exact Nat.le_mul_of_pos_left _ (by omega)
 omega
theorem XF {num den:Int}(hd:0 < den):Int.gcd (red num den).Num (red num den).cO=1:=by
 have h1:=mM (num:=num) hd;have h2:=lC (num:=num) hd;have hg:=jo (num:=num) hd;have h3:Int.gcd ((Int.gcd num den:Int) * (red num den).Num) ((Int.gcd num den:Int) * (red num den).cO)=Int.gcd num den * Int.gcd (red num den).Num (red num den).cO:=by
  rw[Int.gcd_mul_left];simp
 rw[h1,h2] at h3;have h4:Int.gcd num den * 1=Int.gcd num den * Int.gcd (red num den).Num (red num den).cO:=by rw[Nat.mul_one];exact h3
 exact (Nat.eq_of_mul_eq_mul_left (by omega) h4).symm
theorem Vu {a b c d:Int}(hb:0 < b) (hd:0 < d):red a b=red c d↔a * d=c * b:=by
 have a1:=mM (num:=a) hb;have a2:=lC (num:=a) hb;have c1:=mM (num:=c) hd;have c2:=lC (num:=c) hd;constructor
 ·intro h;rw[h] at a1 a2;generalize hG:(Int.gcd a b:Int)=G at a1 a2;generalize hK:(Int.gcd c d:Int)=K at c1 c2;generalize (red c d).Num=x at a1 c1;generalize (red c d).cO=y at a2 c2;subst a1;subst a2;subst c1;subst c2
  ac_rfl
 ·intro h;have ga:=XF (num:=a) hb;have gc:=XF (num:=c) hd;have pa:=kw (num:=a) hb;have pc:=kw (num:=c) hd;have hG:=jo (num:=a) hb;have hK:=jo (num:=c) hd
  -- cross products of the lowest forms
  have hx:(red a b).Num * (red c d).cO=(red c d).Num * (red a b).cO:=by
   have e:((Int.gcd a b:Int) * (Int.gcd c d:Int)) * ((red a b).Num * (red c d).cO)=((Int.gcd a b:Int) * (Int.gcd c d:Int)) * ((red c d).Num * (red a b).cO):=by
    have l1:((Int.gcd a b:Int) * (Int.gcd c d:Int)) * ((red a b).Num * (red c d).cO)=((Int.gcd a b:Int) * (red a b).Num) * ((Int.gcd c d:Int) * (red c d).cO):=by
     generalize (Int.gcd a b:Int)=G;generalize (Int.gcd c d:Int)=K
     ac_rfl
    have l2:((Int.gcd a b:Int) * (Int.gcd c d:Int)) * ((red c d).Num * (red a b).cO)=((Int.gcd c d:Int) * (red c d).Num) * ((Int.gcd a b:Int) * (red a b).cO):=by
     generalize (Int.gcd a b:Int)=G;generalize (Int.gcd c d:Int)=K
     ac_rfl
    rw[l1,l2,a1,a2,c1,c2];exact h
   exact Int.eq_of_mul_eq_mul_left (by have:=Int.mul_pos hG hK;omega) e
  have hx':=congrArg Int.natAbs hx;rw[Int.natAbs_mul,Int.natAbs_mul] at hx';have ga':Nat.Coprime (red a b).cO.natAbs (red a b).Num.natAbs:=(Nat.gcd_comm _ _).trans ga;have gc':Nat.Coprime (red c d).cO.natAbs (red c d).Num.natAbs:=(Nat.gcd_comm _ _).trans gc;have d1:(red a b).cO ∣ (red c d).cO:=Int.natAbs_dvd_natAbs.1 (ga'.dvd_of_dvd_mul_left ⟨(red c d).Num.natAbs,by rw[hx',Nat.mul_comm]⟩);have d2:(red c d).cO ∣ (red a b).cO:=Int.natAbs_dvd_natAbs.1 (gc'.dvd_of_dvd_mul_left ⟨(red a b).Num.natAbs,by rw[<- hx',Nat.mul_comm]⟩);have hden:(red a b).cO=(red c d).cO:=Int.le_antisymm (Int.le_of_dvd pc d1) (Int.le_of_dvd pa d2);rw[<- hden] at hx;have hnum:=Int.eq_of_mul_eq_mul_right (by omega) hx;cases h1:red a b;cases h2:red c d;rw[h1,h2] at hden hnum;simp only at hden hnum;rw[hden,hnum]
def zV (z p y q:Int):straight:=if z > y then ⟨p - q,q * z - p * y,z - y⟩ else ⟨q - p,p * y - q * z,y - z⟩
def eQ (s:straight):Line:=⟨red s.bK s.den,red s.start s.den⟩
theorem Q5 {a b:Int}(ha:0<=a) (hb:0 < b):0<=a.tmod b/\a.tmod b < b/\Int.gcd b (a.tmod b)=Int.gcd a b:=by
 refine⟨Int.tmod_nonneg b ha,Int.tmod_lt_of_pos a hb,?_⟩;obtain⟨m,rfl⟩:=Int.eq_ofNat_of_zero_le ha;obtain⟨n,rfl⟩:=Int.eq_ofNat_of_zero_le (Int.le_of_lt hb);show Nat.gcd n (m % n)=Nat.gcd m n;rw[Nat.gcd_comm m n,Nat.gcd_rec n m,Nat.gcd_comm]
theorem Q7 {A : Type} {X : Nat → Int → Int → Option A} {k : Int → Option A} (hX : ∀ n a b, 0 ≤ a → 0 ≤ b → X (n + 1) a b = if b = 0 then k a else X n b (a.tmod b)) :
  ∀ (m n:Nat) (a b:Int),0<=a->0<=b->b < 2 ^ m->2 * m < n->X n a b=k (Int.gcd a b:Int):=by
 have zero:∀ a:Int,0<=a->(Int.gcd a 0:Int)=a:=λ a ha=>by rw[Int.gcd_zero_right];omega
 intro m
 induction m with
 | zero =>
  intro n a b ha hb hm hn;obtain⟨n,rfl⟩:∃ n',n=n'+1:=⟨n - 1,by omega⟩;have:b=0:=by simp at hm;omega
  subst this;rw[hX n a 0 ha hb,if_pos rfl,zero a ha]
 | succ m ih =>
  intro n a b ha hb hm hn;obtain⟨n,rfl⟩:∃ n',n=n'+1+1:=⟨n - 2,by omega⟩;rw[hX _ a b ha hb];by_cases h0:b=0
  ·subst h0;rw[if_pos rfl,zero a ha]
  rw[if_neg h0];obtain⟨r0,r1,g1⟩:=Q5 ha (show 0 < b by omega);rw[hX _ b _ hb r0];by_cases h1:a.tmod b=0
  ·rw[if_pos h1,<- g1,h1,zero b hb]
  rw[if_neg h1];obtain⟨q0,q1,g2⟩:=Q5 hb (show 0 < a.tmod b by omega);rw[ih n _ _ r0 q0 ?_ (by omega),g2,g1];have e:=Int.tmod_add_mul_tdiv b (a.tmod b);have hq:1<=b.tdiv (a.tmod b):=by
   rcases Int.lt_or_le 0 (b.tdiv (a.tmod b)) with h | h
   ·omega
   ·have := Int.mul_le_mul_of_nonneg_left h r0;rw[Int.mul_zero] at this;omega
  have:=Int.mul_le_mul_of_nonneg_left hq r0;rw[Int.mul_one] at this;have h2:(2:Int) ^ (m+1)=2 ^ m * 2:=Int.pow_succ 2 m;omega
abbrev Vw (C:Int×Int->ae Int):Prop:=∀ a b,0<=a->0<=b->b<=1152921504606846976->C (a,b)=.ok (Int.gcd a b:Int)
theorem zKk {E:Vq}(N:Big E.N):Vw (zjS E):=λ a b ha hb hk=>ae.ext λ k=>by
 rw[e209,bn];refine Q7 (X:=λ n a b=>NF E n a b k) (λ n a b h1 h2=>?_) 61 _ a b ha hb (by omega) (by have:=N;omega);rw[zqB];by_cases h:b=0
 ·subst h;rfl
 ·rw[decide_eq_true (show b > 0 by omega),cond_true,bD h,if_neg h]
theorem zKl {E:UW}(N:Big E.N):Vw (ziT E):=λ a b ha hb hk=>ae.ext λ k=>by
 rw[e125,bn];refine Q7 (X:=λ n a b=>Nr E n a b k) (λ n a b h1 h2=>?_) 61 _ a b ha hb (by omega) (by have:=N;omega);rw[zp0];by_cases h:b=0
 ·subst h;rfl
 ·rw[show (b != 0)=true by simpa using h,cond_true,bD h,if_neg h]
abbrev Hq (C:Int×Int->ae aS):Prop:=∀ a b,-1000000000000000000<=a->a<=1000000000000000000->0 < b->b<=1000000000000000000->C (a,b)=.ok (red a b)
theorem zmG {num den : Int} (h1 : -1000000000000000000 ≤ num) (h2 : num ≤ 1000000000000000000) (hd : 0 < den) (hd2 : den ≤ 1000000000000000000) {A : Type} (k : aS → Option A) :
  bf (decide ((Int.gcd num den:Int) ≠ 0)) (bf (decide ((Int.gcd num den:Int) ≠ 0)) (k ⟨aO (num.tdiv (Int.gcd num den:Int)),aO (den.tdiv (Int.gcd num den:Int))⟩))=k (red num den):=by
 have hg:=jo (num:=num) hd;have r1:=zG (num:=num) hd;have r2:=Ho (num:=num) hd;have r3:=kw (num:=num) hd;have w1:aO (num.tdiv (Int.gcd num den:Int))=(red num den).Num:=bg (by show _<=(red num den).Num;omega) (by show (red num den).Num<=_;omega);have w2:aO (den.tdiv (Int.gcd num den:Int))=(red num den).cO:=bg (by show _<=(red num den).cO;omega) (by show (red num den).cO<=_;omega);rw[w1,w2,bD (by omega),bD (by omega)]
theorem zKm {E:ZW}(zqk:Vw E.zly):Hq (zjs E):=λ a b h1 h2 hd hd2=>ae.ext λ k=>by
 rw[zIh,show aO (0 - a) = -a by rw[bg (by omega) (by omega)];omega,ze6,zqk _ _ (by omega) (by omega) (by omega),XE,bn,bn];exact zmG h1 h2 hd hd2 k
theorem s71 {E:E71}(UK:Vw E.Om):Hq (F71 E):=λ a b h1 h2 hd hd2=>ae.ext λ k=>by
 rw[e71,show aO (0 - a) = -a by rw[bg (by omega) (by omega)];omega,ze6,UK _ _ (by omega) (by omega) (by omega),XE,bn,bn];exact zmG h1 h2 hd hd2 k
end Go.Proofs
