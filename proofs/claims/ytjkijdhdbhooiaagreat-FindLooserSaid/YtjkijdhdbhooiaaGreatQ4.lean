/- Part 4 of what the proof rests on: a machine that runs functions of the program on pure values, proved sound; the functions that the law reaches, what they compute, and plain laws of that. -/
import Derived.Test.YtjkijdhdbhooiaaGreatQ3
set_option linter.all false
noncomputable section
namespace Go.Proofs
open Go Go.Pm
set_option maxRecDepth 100000
theorem MM:Tryz.prog.cellsOf 3=1:=by kernel_rfl
theorem zD6:Tryz.prog.cellsOf 22=1:=by kernel_rfl
theorem zD7:Tryz.prog.cellsOf 24=1:=by kernel_rfl
theorem zD8:Tryz.prog.cellsOf 26=2:=by kernel_rfl
theorem zD9:Tryz.prog.cellsOf 38=1:=by kernel_rfl
theorem zEa:Tryz.prog.cellsOf 39=1:=by kernel_rfl
theorem zwX:Tryz.prog.cellsOf 92=6:=by kernel_rfl
theorem Xe:Tryz.prog.cellsOf 105=2:=by kernel_rfl
theorem zwY:Tryz.prog.cellsOf 121=1:=by kernel_rfl
theorem zwZ:Tryz.prog.cellsOf 122=1:=by kernel_rfl
theorem zlW:Tryz.prog.cellsOf 124=15:=by kernel_rfl
theorem zlX:Tryz.prog.cellsOf 264=3:=by kernel_rfl
section
variable {H:Type}{en:TypeId×Value->H}{w:World}{sp:Nat->Bool}{held:Bool}
theorem zol:Rd H en Tryz.prog w sp held 121 Int:=Ui Tryz.underlying121
theorem zw0:Rd H en Tryz.prog w sp held 38 Int:=Ui Tryz.underlying38
theorem pU:Rd H en Tryz.prog w sp held 3 Int:=Ui Tryz.underlying3
instance:qo bZ:=⟨λ x=>qo.wf x.Low/\qo.wf x.High⟩
theorem Uk:Rd H en Tryz.prog w sp held 105 bZ:=by
 intro fuel cs x h;obtain⟨hl,hf⟩:=nz Tryz.underlying105 h;rw[Xe] at hl;obtain⟨n0,y0,g0⟩:=hf 0 _ rfl;have g0:DataW.trod en Tryz.prog w 0 sp held n0 3 ((cs.drop 0).take (Tryz.prog.cellsOf 3))=some y0:=g0;rw[MM] at g0;obtain⟨a0,r0,w0⟩:=pU _ _ _ g0;obtain⟨n1,y1,g1⟩:=hf 1 _ rfl;have g1:DataW.trod en Tryz.prog w 0 sp held n1 3 ((cs.drop 1).take (Tryz.prog.cellsOf 3))=some y1:=g1;rw[MM] at g1;obtain⟨a1,r1,w1⟩:=pU _ _ _ g1;rw[List.take_of_length_le (l:=cs.drop 1) (by rw[List.length_drop];omega)] at r1;have R:=(r0.append r1);rw[<- (show cs.drop 0=(cs.drop 0).take 1 ++ cs.drop 1 from dF cs 0 1)] at R;exact⟨⟨a0,a1⟩,R,⟨w0,w1⟩⟩
instance:qo aQ:=⟨λ x=>qo.wf x.Time/\qo.wf x.dI⟩
theorem zom:Rd H en Tryz.prog w sp held 264 aQ:=by
 intro fuel cs x h;obtain⟨hl,hf⟩:=nz Tryz.underlying264 h;rw[zlX] at hl;obtain⟨n0,y0,g0⟩:=hf 0 _ rfl;have g0:DataW.trod en Tryz.prog w 0 sp held n0 3 ((cs.drop 0).take (Tryz.prog.cellsOf 3))=some y0:=g0;rw[MM] at g0;obtain⟨a0,r0,w0⟩:=pU _ _ _ g0;obtain⟨n1,y1,g1⟩:=hf 1 _ rfl;have g1:DataW.trod en Tryz.prog w 0 sp held n1 105 ((cs.drop 1).take (Tryz.prog.cellsOf 105))=some y1:=g1;rw[Xe] at g1;obtain⟨a1,r1,w1⟩:=Uk _ _ _ g1;rw[List.take_of_length_le (l:=cs.drop 1) (by rw[List.length_drop];omega)] at r1;have R:=(r0.append r1);rw[<- (show cs.drop 0=(cs.drop 0).take 1 ++ cs.drop 1 from dF cs 0 1)] at R;exact⟨⟨a0,a1⟩,R,⟨w0,w1⟩⟩
theorem zon:Rd H en Tryz.prog w sp held 122 (Sl aQ):=yM Tryz.underlying122 zlX rfl (by decide) zom
theorem zw1:Rd H en Tryz.prog w sp held 39 (Sl Int):=yM Tryz.underlying39 MM rfl (by decide) pU
instance:qo af:=⟨λ x=>qo.wf x.Kind/\qo.wf x.View/\qo.wf x.Z/\qo.wf x.First/\qo.wf x.aZ/\qo.wf x.bM/\qo.wf x.dC/\qo.wf x.bu/\qo.wf x.Clock/\qo.wf x.dH/\qo.wf x.Least/\qo.wf x.aQ/\qo.wf x.Dead⟩
theorem zoo:Rd H en Tryz.prog w sp held 124 af:=by
 intro fuel cs x h;obtain⟨hl,hf⟩:=nz Tryz.underlying124 h;rw[zlW] at hl;obtain⟨n0,y0,g0⟩:=hf 0 _ rfl;have g0:DataW.trod en Tryz.prog w 0 sp held n0 121 ((cs.drop 0).take (Tryz.prog.cellsOf 121))=some y0:=g0;rw[zwY] at g0;obtain⟨a0,r0,w0⟩:=zol _ _ _ g0;obtain⟨n1,y1,g1⟩:=hf 1 _ rfl;have g1:DataW.trod en Tryz.prog w 0 sp held n1 38 ((cs.drop 1).take (Tryz.prog.cellsOf 38))=some y1:=g1;rw[zD9] at g1;obtain⟨a1,r1,w1⟩:=zw0 _ _ _ g1;obtain⟨n2,y2,g2⟩:=hf 2 _ rfl;have g2:DataW.trod en Tryz.prog w 0 sp held n2 3 ((cs.drop 2).take (Tryz.prog.cellsOf 3))=some y2:=g2;rw[MM] at g2;obtain⟨a2,r2,w2⟩:=pU _ _ _ g2;obtain⟨n3,y3,g3⟩:=hf 3 _ rfl;have g3:DataW.trod en Tryz.prog w 0 sp held n3 3 ((cs.drop 3).take (Tryz.prog.cellsOf 3))=some y3:=g3;rw[MM] at g3;obtain⟨a3,r3,w3⟩:=pU _ _ _ g3;obtain⟨n4,y4,g4⟩:=hf 4 _ rfl;have g4:DataW.trod en Tryz.prog w 0 sp held n4 3 ((cs.drop 4).take (Tryz.prog.cellsOf 3))=some y4:=g4;rw[MM] at g4;obtain⟨a4,r4,w4⟩:=pU _ _ _ g4;obtain⟨n5,y5,g5⟩:=hf 5 _ rfl;have g5:DataW.trod en Tryz.prog w 0 sp held n5 3 ((cs.drop 5).take (Tryz.prog.cellsOf 3))=some y5:=g5;rw[MM] at g5;obtain⟨a5,r5,w5⟩:=pU _ _ _ g5;obtain⟨n6,y6,g6⟩:=hf 6 _ rfl;have g6:DataW.trod en Tryz.prog w 0 sp held n6 3 ((cs.drop 6).take (Tryz.prog.cellsOf 3))=some y6:=g6;rw[MM] at g6;obtain⟨a6,r6,w6⟩:=pU _ _ _ g6;obtain⟨n7,y7,g7⟩:=hf 7 _ rfl;have g7:DataW.trod en Tryz.prog w 0 sp held n7 105 ((cs.drop 7).take (Tryz.prog.cellsOf 105))=some y7:=g7;rw[Xe] at g7;obtain⟨a7,r7,w7⟩:=Uk _ _ _ g7;obtain⟨n8,y8,g8⟩:=hf 8 _ rfl;have g8:DataW.trod en Tryz.prog w 0 sp held n8 105 ((cs.drop 9).take (Tryz.prog.cellsOf 105))=some y8:=g8;rw[Xe] at g8;obtain⟨a8,r8,w8⟩:=Uk _ _ _ g8;obtain⟨n9,y9,g9⟩:=hf 9 _ rfl;have g9:DataW.trod en Tryz.prog w 0 sp held n9 3 ((cs.drop 11).take (Tryz.prog.cellsOf 3))=some y9:=g9;rw[MM] at g9;obtain⟨a9,r9,w9⟩:=pU _ _ _ g9;obtain⟨n10,y10,g10⟩:=hf 10 _ rfl;have g10:DataW.trod en Tryz.prog w 0 sp held n10 3 ((cs.drop 12).take (Tryz.prog.cellsOf 3))=some y10:=g10;rw[MM] at g10;obtain⟨a10,r10,w10⟩:=pU _ _ _ g10;obtain⟨n11,y11,g11⟩:=hf 11 _ rfl;have g11:DataW.trod en Tryz.prog w 0 sp held n11 122 ((cs.drop 13).take (Tryz.prog.cellsOf 122))=some y11:=g11;rw[zwZ] at g11;obtain⟨a11,r11,w11⟩:=zon _ _ _ g11;obtain⟨n12,y12,g12⟩:=hf 12 _ rfl;have g12:DataW.trod en Tryz.prog w 0 sp held n12 39 ((cs.drop 14).take (Tryz.prog.cellsOf 39))=some y12:=g12;rw[zEa] at g12;obtain⟨a12,r12,w12⟩:=zw1 _ _ _ g12;rw[List.take_of_length_le (l:=cs.drop 14) (by rw[List.length_drop];omega)] at r12;have R:=(r0.append (r1.append (r2.append (r3.append (r4.append (r5.append (r6.append (r7.append (r8.append (r9.append (r10.append (r11.append r12))))))))))));rw[<- (show cs.drop 13=(cs.drop 13).take 1 ++ cs.drop 14 from dF cs 13 1)] at R;rw[<- (show cs.drop 12=(cs.drop 12).take 1 ++ cs.drop 13 from dF cs 12 1)] at R;rw[<- (show cs.drop 11=(cs.drop 11).take 1 ++ cs.drop 12 from dF cs 11 1)] at R;rw[<- (show cs.drop 9=(cs.drop 9).take 2 ++ cs.drop 11 from dF cs 9 2)] at R;rw[<- (show cs.drop 7=(cs.drop 7).take 2 ++ cs.drop 9 from dF cs 7 2)] at R;rw[<- (show cs.drop 6=(cs.drop 6).take 1 ++ cs.drop 7 from dF cs 6 1)] at R;rw[<- (show cs.drop 5=(cs.drop 5).take 1 ++ cs.drop 6 from dF cs 5 1)] at R;rw[<- (show cs.drop 4=(cs.drop 4).take 1 ++ cs.drop 5 from dF cs 4 1)] at R;rw[<- (show cs.drop 3=(cs.drop 3).take 1 ++ cs.drop 4 from dF cs 3 1)] at R;rw[<- (show cs.drop 2=(cs.drop 2).take 1 ++ cs.drop 3 from dF cs 2 1)] at R;rw[<- (show cs.drop 1=(cs.drop 1).take 1 ++ cs.drop 2 from dF cs 1 1)] at R;rw[<- (show cs.drop 0=(cs.drop 0).take 1 ++ cs.drop 1 from dF cs 0 1)] at R;exact⟨⟨a0,a1,a2,a3,a4,a5,a6,a7,a8,a9,a10,a11,a12⟩,R,⟨w0,w1,w2,w3,w4,w5,w6,w7,w8,w9,w10,w11,w12⟩⟩
theorem zw2:Rd H en Tryz.prog w sp held 22 (Sl af):=yM Tryz.underlying22 zlW rfl (by decide) zoo
instance:qo au:=⟨λ x=>qo.wf x.aj⟩
theorem zw3:Rd H en Tryz.prog w sp held 24 au:=by
 intro fuel cs x h;obtain⟨hl,hf⟩:=nz Tryz.underlying24 h;rw[zD7] at hl;obtain⟨n0,y0,g0⟩:=hf 0 _ rfl;have g0:DataW.trod en Tryz.prog w 0 sp held n0 22 ((cs.drop 0).take (Tryz.prog.cellsOf 22))=some y0:=g0;rw[zD6] at g0;obtain⟨a0,r0,w0⟩:=zw2 _ _ _ g0;rw[List.take_of_length_le (l:=cs.drop 0) (by rw[List.length_drop];omega)] at r0;have R:=r0;exact⟨⟨a0⟩,R,w0⟩
instance:qo bP:=⟨λ x=>qo.wf x.jL/\qo.wf x.kF⟩
theorem zw4:Rd H en Tryz.prog w sp held 26 bP:=by
 intro fuel cs x h;obtain⟨hl,hf⟩:=nz Tryz.underlying26 h;rw[zD8] at hl;obtain⟨n0,y0,g0⟩:=hf 0 _ rfl;have g0:DataW.trod en Tryz.prog w 0 sp held n0 3 ((cs.drop 0).take (Tryz.prog.cellsOf 3))=some y0:=g0;rw[MM] at g0;obtain⟨a0,r0,w0⟩:=pU _ _ _ g0;obtain⟨n1,y1,g1⟩:=hf 1 _ rfl;have g1:DataW.trod en Tryz.prog w 0 sp held n1 3 ((cs.drop 1).take (Tryz.prog.cellsOf 3))=some y1:=g1;rw[MM] at g1;obtain⟨a1,r1,w1⟩:=pU _ _ _ g1;rw[List.take_of_length_le (l:=cs.drop 1) (by rw[List.length_drop];omega)] at r1;have R:=(r0.append r1);rw[<- (show cs.drop 0=(cs.drop 0).take 1 ++ cs.drop 1 from dF cs 0 1)] at R;exact⟨⟨a0,a1⟩,R,⟨w0,w1⟩⟩
instance:qo bC:=⟨λ x=>qo.wf x.af/\qo.wf x.Channel/\qo.wf x.iM/\qo.wf x.aQ/\qo.wf x.xO/\qo.wf x.Time⟩
theorem zw5:Rd H en Tryz.prog w sp held 92 bC:=by
 intro fuel cs x h;obtain⟨hl,hf⟩:=nz Tryz.underlying92 h;rw[zwX] at hl;obtain⟨n0,y0,g0⟩:=hf 0 _ rfl;have g0:DataW.trod en Tryz.prog w 0 sp held n0 3 ((cs.drop 0).take (Tryz.prog.cellsOf 3))=some y0:=g0;rw[MM] at g0;obtain⟨a0,r0,w0⟩:=pU _ _ _ g0;obtain⟨n1,y1,g1⟩:=hf 1 _ rfl;have g1:DataW.trod en Tryz.prog w 0 sp held n1 3 ((cs.drop 1).take (Tryz.prog.cellsOf 3))=some y1:=g1;rw[MM] at g1;obtain⟨a1,r1,w1⟩:=pU _ _ _ g1;obtain⟨n2,y2,g2⟩:=hf 2 _ rfl;have g2:DataW.trod en Tryz.prog w 0 sp held n2 3 ((cs.drop 2).take (Tryz.prog.cellsOf 3))=some y2:=g2;rw[MM] at g2;obtain⟨a2,r2,w2⟩:=pU _ _ _ g2;obtain⟨n3,y3,g3⟩:=hf 3 _ rfl;have g3:DataW.trod en Tryz.prog w 0 sp held n3 3 ((cs.drop 3).take (Tryz.prog.cellsOf 3))=some y3:=g3;rw[MM] at g3;obtain⟨a3,r3,w3⟩:=pU _ _ _ g3;obtain⟨n4,y4,g4⟩:=hf 4 _ rfl;have g4:DataW.trod en Tryz.prog w 0 sp held n4 3 ((cs.drop 4).take (Tryz.prog.cellsOf 3))=some y4:=g4;rw[MM] at g4;obtain⟨a4,r4,w4⟩:=pU _ _ _ g4;obtain⟨n5,y5,g5⟩:=hf 5 _ rfl;have g5:DataW.trod en Tryz.prog w 0 sp held n5 3 ((cs.drop 5).take (Tryz.prog.cellsOf 3))=some y5:=g5;rw[MM] at g5;obtain⟨a5,r5,w5⟩:=pU _ _ _ g5;rw[List.take_of_length_le (l:=cs.drop 5) (by rw[List.length_drop];omega)] at r5;have R:=(r0.append (r1.append (r2.append (r3.append (r4.append r5)))));rw[<- (show cs.drop 4=(cs.drop 4).take 1 ++ cs.drop 5 from dF cs 4 1)] at R;rw[<- (show cs.drop 3=(cs.drop 3).take 1 ++ cs.drop 4 from dF cs 3 1)] at R;rw[<- (show cs.drop 2=(cs.drop 2).take 1 ++ cs.drop 3 from dF cs 2 1)] at R;rw[<- (show cs.drop 1=(cs.drop 1).take 1 ++ cs.drop 2 from dF cs 1 1)] at R;rw[<- (show cs.drop 0=(cs.drop 0).take 1 ++ cs.drop 1 from dF cs 0 1)] at R;exact⟨⟨a0,a1,a2,a3,a4,a5⟩,R,⟨w0,w1,w2,w3,w4,w5⟩⟩
theorem zw6:Rd H en Tryz.prog w sp held 27 (Sl bC):=yM Tryz.underlying27 zwX rfl (by decide) zw5
end
end Go.Proofs

namespace Go.Proofs
open Go Go.Pm
set_option maxRecDepth 100000
structure E23 where
  N:Nat
abbrev G23 (E:E23):aX:=dh Tabs.nil []
def A23:bW:=aU ax 23 [] {}
def F23 (E:E23):au×(Sl bC)×Int->ae (Bool):=ae.ty (aF ax E.N (G23 E) A23 23)
section
variable (E:E23){A:Type}(k:Bool->Option A)
def Gf (E:E23) (n:Nat) (a0:au) (v7:Int){A:Type}(k:Bool->Option A):Option A :=
  iG ax (G23 E) E.N A23 23 [1,1,0,1,0] [.n n] (iH k)
    ⟨[(3,.cl (.ptr 3 0)),(7,.int v7)],[(3,eB 24 a0)],[]⟩
theorem e23 (a0:au) (a1:(Sl bC)) (a2:Int):(F23 E (a0,a1,a2)).T k =
  cond (decide ((a0.aj.len:Int) > 20))
  (k false)
  (cond (decide ((a1.len:Int) > a2))
 (cond (decide ((a1.len:Int)<=24))
 (k false)
 (cond (decide ((a1.len:Int) > 40))
 (k false)
 (Gf E E.N a0 0 k)))
 (cond (decide ((a1.len:Int) > 40))
 (k false)
 (Gf E E.N a0 0 k))):=bH.trans (by kernel_rfl)
theorem zlY (n0:Nat) (a0:au) (v7:Int):Gf E (n0+1) a0 v7 k =
  cond (decide (v7 < (a0.aj.len:Int)))
  (bf (decide (0<=v7/\v7 < (a0.aj.len:Int))) (cond (decide (((a0.aj.get v7.toNat).aQ.len:Int) > 60))
 (k false)
 (bf (decide (0<=v7/\v7 < (a0.aj.len:Int))) (cond (decide (((a0.aj.get v7.toNat).Dead.len:Int) > 110))
 (k false)
 (Gf E n0 a0 (aO (v7+1)) k)))))
  (k true):=by kernel_rfl
end
theorem o23 [aJ] (E:E23):Ok ax 23 (ae.un (F23 E)):=aY (aP ay.nil (ak (by kernel_rfl)))
end Go.Proofs

namespace Go.Proofs
open Go Go.Pm
set_option maxRecDepth 100000
structure E26 where
  N:Nat
  c61:au->ae (Bool)
  c62:bP->ae (Bool)
  c85:au×(Sl bC)->ae (Bool)
abbrev G26 (E:E26):aX:=dh (((Tabs.nil.addF 61 (ae.un E.c61)).addF 62 (ae.un E.c62)).addF 85 (ae.un E.c85)) []
def A26:bW:=aU ax 26 [] {}
def F26 (E:E26):au×bP×(Sl bC)->ae (Int):=ae.ty (aF ax E.N (G26 E) A26 26)
section
variable (E:E26){A:Type}(k:Int->Option A)
theorem e26 (a0:au) (a1:bP) (a2:(Sl bC)):(F26 E (a0,a1,a2)).T k =
  cond (decide ((a2.len:Int) > 24))
  (k 3)
  ((E.c61 a0).T λ r1 =>
 cond (!r1)
 (k 2)
 ((E.c62 a1).T λ r2 =>
 cond (!r2)
 (k 2)
 ((E.c85 (a0,a2)).T λ r3 =>
 cond (!r3)
 (k 2)
 (k 0)))):=bH.trans (by kernel_rfl)
end
theorem o26 [aJ] (E:E26) (h61:Ok ax 61 (ae.un E.c61)) (h62:Ok ax 62 (ae.un E.c62)) (h85:Ok ax 85 (ae.un E.c85)):Ok ax 26 (ae.un (F26 E)):=aY (aP (((ay.nil.addF h61).addF h62).addF h85) (ak (by kernel_rfl)))
end Go.Proofs




namespace Go.Proofs
open Go Go.Pm
set_option maxRecDepth 100000
structure E60 where
  N:Nat
  zk5:au->ae (Int)
  zgd:Int×Int×Int->ae (Bool)
abbrev G60 (E:E60):aX:=dh ((Tabs.nil.addF 122 (ae.un E.zk5)).addF 123 (ae.un E.zgd)) []
def A60:bW:=aU ax 60 [] {}
def F60 (E:E60):au×bP->ae (Int):=ae.ty (aF ax E.N (G60 E) A60 60)
section
variable (E:E60){A:Type}(k:Int->Option A)
theorem e60 (a0:au) (a1:bP):(F60 E (a0,a1)).T k =
  (E.zk5 a0).T λ r1 =>
  cond (r1 != 0)
  (k 2)
  ((E.zgd (a1.jL,1,16)).T λ r2 =>
 cond (!r2)
 (k 2)
 ((E.zgd (a1.kF,0,16)).T λ r3 =>
 cond (!r3)
 (k 2)
 (k 0))):=bH.trans (by kernel_rfl)
end
theorem o60 [aJ] (E:E60) (h122:Ok ax 122 (ae.un E.zk5)) (zoq:Ok ax 123 (ae.un E.zgd)):Ok ax 60 (ae.un (F60 E)):=aY (aP ((ay.nil.addF h122).addF zoq) (ak (by kernel_rfl)))
structure E61 where
  N:Nat
  qw:Int×Int×Int->ae (Bool)
  c124:af->ae (Bool)
abbrev G61 (E:E61):aX:=dh ((Tabs.nil.addF 73 (ae.un E.qw)).addF 124 (ae.un E.c124)) []
def A61:bW:=aU ax 61 [] {}
def F61 (E:E61):au->ae (Bool):=ae.ty (aF ax E.N (G61 E) A61 61)
section
variable (E:E61){A:Type}(k:Bool->Option A)
def Gg (E:E61) (n:Nat) (a0:au) (v3:Int){A:Type}(k:Bool->Option A):Option A :=
  iG ax (G61 E) E.N A61 61 [1,1,0,1,0] [.n n] (iH k)
    ⟨[(1,.cl (.ptr 1 0)),(3,.int v3)],[(1,eB 24 a0)],[]⟩
theorem e61 (a0:au):(F61 E (a0)).T k =
  (E.qw ((a0.aj.len:Int),1,16)).T λ r1 =>
  cond (!r1)
  (k false)
  (Gg E E.N a0 0 k):=bH.trans (by kernel_rfl)
theorem zlZ (n0:Nat) (a0:au) (v3:Int):Gg E (n0+1) a0 v3 k =
  cond (decide (v3 < (a0.aj.len:Int)))
  (bf (decide (0<=v3/\v3 < (a0.aj.len:Int))) ((E.c124 (a0.aj.get v3.toNat)).T λ r1 =>
 cond (!r1)
 (k false)
 (cond (decide (v3 > 0))
 (bf (decide (0<=v3/\v3 < (a0.aj.len:Int))) (bf (decide (0<=(aO (v3 - 1))/\(aO (v3 - 1)) < (a0.aj.len:Int))) (cond (decide ((a0.aj.get v3.toNat).Z<=(a0.aj.get (aO (v3 - 1)).toNat).Z))
 (k false)
 (Gg E n0 a0 (aO (v3+1)) k))))
 (Gg E n0 a0 (aO (v3+1)) k))))
  (k true):=by kernel_rfl
end
theorem o61 [aJ] (E:E61) (IY:Ok ax 73 (ae.un E.qw)) (zos:Ok ax 124 (ae.un E.c124)):Ok ax 61 (ae.un (F61 E)):=aY (aP ((ay.nil.addF IY).addF zos) (ak (by kernel_rfl)))
structure E62 where
  N:Nat
  c86:Int×Int×Int->ae (Bool)
abbrev G62 (E:E62):aX:=dh (Tabs.nil.addF 86 (ae.un E.c86)) []
def A62:bW:=aU ax 62 [] {}
def F62 (E:E62):bP->ae (Bool):=ae.ty (aF ax E.N (G62 E) A62 62)
section
variable (E:E62){A:Type}(k:Bool->Option A)
theorem e62 (a0:bP):(F62 E (a0)).T k =
  (E.c86 (a0.jL,1,16)).T λ r1 =>
  cond r1
  ((E.c86 (a0.kF,0,16)).T λ r2 =>
 k r2)
  (k false):=bH.trans (by kernel_rfl)
end
theorem o62 [aJ] (E:E62) (h86:Ok ax 86 (ae.un E.c86)):Ok ax 62 (ae.un (F62 E)):=aY (aP (ay.nil.addF h86) (ak (by kernel_rfl)))
end Go.Proofs


namespace Go.Proofs
open Go Go.Pm
set_option maxRecDepth 100000
structure E65 where
  N:Nat
  c75:au×bC->ae ((Sl aC))
abbrev G65 (E:E65):aX:=dh (Tabs.nil.addF 75 (ae.un E.c75)) []
def A65:bW:=aU ax 65 [] { ks:=[(1,3,⟨[],[(7,35,101)],[],[],[],[],[]⟩)] }
def F65 (E:E65):au×(Sl bC)×ai->ae ((Sl aC)):=ae.ty (aF ax E.N (G65 E) A65 65)
section
variable (E:E65){A:Type}(k:(Sl aC)->Option A)
def Xf (E:E65) (n:Nat) (a0:au) (a1:(Sl bC)) (a2:ai) (v8:Int) (w35:Sl aC){A:Type}(k:(Sl aC)->Option A):Option A :=
  iG ax (G65 E) E.N A65 65 [1,1,0,1,0] [.n n] (iH k)
    ⟨[(1,eP a1),(3,.cl (.ptr 3 0)),(5,.cl (.ptr 5 0)),(7,.cl (.vec 35)),(8,.int v8)],[(3,eB 24 a0),(5,eB 43 a2),(35,eV 101 3 24 w35)],[]⟩
theorem e65 (a0:au) (a1:(Sl bC)) (a2:ai):(F65 E (a0,a1,a2)).T k =
  Xf E E.N a0 a1 a2 0 (⟨0,(λ _=>(⟨0,0,0⟩:aC))⟩:(Sl aC)) k:=bH.trans (by kernel_rfl)
theorem zl2 (n0:Nat) (a0:au) (a1:(Sl bC)) (a2:ai) (v8:Int) (w35:Sl aC):Xf E (n0+1) a0 a1 a2 v8 w35 k =
  cond (decide (v8 < (a2.Hits.len:Int)))
  (bf (decide (0<=v8/\v8 < (a2.Hits.len:Int))) (bf (decide (0<=a2.Hits.get v8.toNat/\a2.Hits.get v8.toNat < (a1.len:Int))) ((E.c75 (a0,(a1.get (a2.Hits.get v8.toNat).toNat))).T λ r1 =>
 bf (decide (0≤v8∧v8 < (a2.bz.len:Int))) (bf (decide (0≤a2.bz.get v8.toNat∧a2.bz.get v8.toNat < (r1.len:Int))) (bf (room (w35.len+1) 24) (Xf E n0 a0 a1 a2 (aO (v8+1)) (⟨(w35.len+1),(jd w35.len w35.get (fun _=>(r1.get (a2.bz.get v8.toNat).toNat)))⟩:(Sl aC)) k))))))
  (k w35):=by kernel_rfl
end
theorem o65 [aJ] (E:E65) (h75:Ok ax 75 (ae.un E.c75)):Ok ax 65 (ae.un (F65 E)):=aY (aP (ay.nil.addF h75) (ak (by kernel_rfl)))
structure E73 where
  N:Nat
abbrev G73 (E:E73):aX:=dh Tabs.nil []
def A73:bW:=aU ax 73 [] {}
def F73 (E:E73):Int×Int×Int->ae (Bool):=ae.ty (aF ax E.N (G73 E) A73 73)
section
variable (E:E73){A:Type}(k:Bool->Option A)
theorem e73 (a0:Int) (a1:Int) (a2:Int):(F73 E (a0,a1,a2)).T k =
  cond (decide (a0 >= a1))
  (k (decide (a0<=a2)))
  (k false):=bH.trans (by kernel_rfl)
end
theorem o73 [aJ] (E:E73):Ok ax 73 (ae.un (F73 E)):=aY (aP ay.nil (ak (by kernel_rfl)))
structure E75 where
  N:Nat
  zk8:af×Int->ae (Int×Int)
abbrev G75 (E:E75):aX:=dh (Tabs.nil.addF 135 (ae.un E.zk8)) []
def A75:bW:=aU ax 75 [] {}
def F75 (E:E75):au×bC->ae ((Sl aC)):=ae.ty (aF ax E.N (G75 E) A75 75)
section
variable (E:E75){A:Type}(k:(Sl aC)->Option A)
theorem e75 (a0:au) (a1:bC):(F75 E (a0,a1)).T k =
  bf (decide (0<=a1.af/\a1.af < (a0.aj.len:Int))) (cond ((a0.aj.get a1.af.toNat).Kind != 2)
 (cond (decide ((aO ((aO ((a0.aj.get a1.af.toNat).First+(aO ((aO ((aO (a1.Channel+a1.iM)) - 1)) * (a0.aj.get a1.af.toNat).aZ)))) - (a0.aj.get a1.af.toNat).dC)) > (aO ((aO ((a0.aj.get a1.af.toNat).First+(aO ((aO (a1.Channel+1)) * (a0.aj.get a1.af.toNat).aZ))))+(a0.aj.get a1.af.toNat).dC))))
 (k (⟨0,λ _=>default⟩:(Sl aC)))
 (k (⟨1,(λ _=>(⟨(a0.aj.get a1.af.toNat).Z,(aO ((aO ((aO ((a0.aj.get a1.af.toNat).First+(aO ((aO ((aO (a1.Channel+a1.iM)) - 1)) * (a0.aj.get a1.af.toNat).aZ)))) - (a0.aj.get a1.af.toNat).dC))+(a0.aj.get a1.af.toNat).bu.Low)),(aO ((aO ((aO ((a0.aj.get a1.af.toNat).First+(aO ((aO (a1.Channel+1)) * (a0.aj.get a1.af.toNat).aZ))))+(a0.aj.get a1.af.toNat).dC))+(a0.aj.get a1.af.toNat).bu.High))⟩:aC))⟩:(Sl aC))))
 ((E.zk8 ((a0.aj.get a1.af.toNat),a1.aQ)).T λ r1 =>
 cond (decide ((aO ((aO ((aO ((a0.aj.get a1.af.toNat).First+(aO (a1.Channel * (a0.aj.get a1.af.toNat).aZ)))) - r1.1))+(a0.aj.get a1.af.toNat).bu.High)) >= (aO ((aO ((aO ((a0.aj.get a1.af.toNat).First+(aO (a1.Channel * (a0.aj.get a1.af.toNat).aZ))))+r1.1))+(a0.aj.get a1.af.toNat).bu.Low))))
 (k (⟨1,(λ _=>(⟨(a0.aj.get a1.af.toNat).Z,(aO ((aO ((aO ((a0.aj.get a1.af.toNat).First+(aO (a1.Channel * (a0.aj.get a1.af.toNat).aZ)))) - r1.2))+(a0.aj.get a1.af.toNat).bu.Low)),(aO ((aO ((aO ((a0.aj.get a1.af.toNat).First+(aO (a1.Channel * (a0.aj.get a1.af.toNat).aZ))))+r1.2))+(a0.aj.get a1.af.toNat).bu.High))⟩:aC))⟩:(Sl aC)))
 (k (⟨2,(Qi [(⟨(a0.aj.get a1.af.toNat).Z,(aO ((aO ((aO ((a0.aj.get a1.af.toNat).First+(aO (a1.Channel * (a0.aj.get a1.af.toNat).aZ)))) - r1.2))+(a0.aj.get a1.af.toNat).bu.Low)),(aO ((aO ((aO ((a0.aj.get a1.af.toNat).First+(aO (a1.Channel * (a0.aj.get a1.af.toNat).aZ)))) - r1.1))+(a0.aj.get a1.af.toNat).bu.High))⟩:aC),(⟨(a0.aj.get a1.af.toNat).Z,(aO ((aO ((aO ((a0.aj.get a1.af.toNat).First+(aO (a1.Channel * (a0.aj.get a1.af.toNat).aZ))))+r1.1))+(a0.aj.get a1.af.toNat).bu.Low)),(aO ((aO ((aO ((a0.aj.get a1.af.toNat).First+(aO (a1.Channel * (a0.aj.get a1.af.toNat).aZ))))+r1.2))+(a0.aj.get a1.af.toNat).bu.High))⟩:aC)])⟩:(Sl aC))))):=bH.trans (by kernel_rfl)
end
theorem o75 [aJ] (E:E75) (zov:Ok ax 135 (ae.un E.zk8)):Ok ax 75 (ae.un (F75 E)):=aY (aP (ay.nil.addF zov) (ak (by kernel_rfl)))
structure E85 where
  N:Nat
  c143:au×bC->ae (Bool)
abbrev G85 (E:E85):aX:=dh (Tabs.nil.addF 143 (ae.un E.c143)) []
def A85:bW:=aU ax 85 [] {}
def F85 (E:E85):au×(Sl bC)->ae (Bool):=ae.ty (aF ax E.N (G85 E) A85 85)
section
variable (E:E85){A:Type}(k:Bool->Option A)
def Xg (E:E85) (n:Nat) (a0:au) (a1:(Sl bC)) (v5:Int){A:Type}(k:Bool->Option A):Option A :=
  iG ax (G85 E) E.N A85 85 [1,0,1,0] [.n n] (iH k)
    ⟨[(1,eP a1),(2,.cl (.ptr 2 0)),(5,.int v5)],[(2,eB 24 a0)],[]⟩
theorem e85 (a0:au) (a1:(Sl bC)):(F85 E (a0,a1)).T k =
  Xg E E.N a0 a1 0 k:=bH.trans (by kernel_rfl)
theorem zl3 (n0:Nat) (a0:au) (a1:(Sl bC)) (v5:Int):Xg E (n0+1) a0 a1 v5 k =
  cond (decide (v5 < (a1.len:Int)))
  (bf (decide (0<=v5/\v5 < (a1.len:Int))) ((E.c143 (a0,(a1.get v5.toNat))).T λ r1 =>
 cond (!r1)
 (k false)
 (Xg E n0 a0 a1 (aO (v5+1)) k)))
  (k true):=by kernel_rfl
end
theorem o85 [aJ] (E:E85) (zox:Ok ax 143 (ae.un E.c143)):Ok ax 85 (ae.un (F85 E)):=aY (aP (ay.nil.addF zox) (ak (by kernel_rfl)))
structure E86 where
  N:Nat
abbrev G86 (E:E86):aX:=dh Tabs.nil []
def A86:bW:=aU ax 86 [] {}
def F86 (E:E86):Int×Int×Int->ae (Bool):=ae.ty (aF ax E.N (G86 E) A86 86)
section
variable (E:E86){A:Type}(k:Bool->Option A)
theorem e86 (a0:Int) (a1:Int) (a2:Int):(F86 E (a0,a1,a2)).T k =
  cond (decide (a0 >= a1))
  (k (decide (a0<=a2)))
  (k false):=bH.trans (by kernel_rfl)
end
theorem o86 [aJ] (E:E86):Ok ax 86 (ae.un (F86 E)):=aY (aP ay.nil (ak (by kernel_rfl)))
structure E87 where
  N:Nat
abbrev G87 (E:E87):aX:=dh Tabs.nil []
def A87:bW:=aU ax 87 [] {}
def F87 (E:E87):(Sl bC)×(Sl Int)×Int->ae (Bool):=ae.ty (aF ax E.N (G87 E) A87 87)
section
variable (E:E87){A:Type}(k:Bool->Option A)
def Xh (E:E87) (n:Nat) (a0:(Sl bC)) (a1:(Sl Int)) (a2:Int) (v7:Int){A:Type}(k:Bool->Option A):Option A :=
  iG ax (G87 E) E.N A87 87 [1,0,1,0] [.n n] (iH k)
    ⟨[(0,eP a0),(1,eP a1),(2,.int a2),(7,.int v7)],[],[]⟩
theorem e87 (a0:(Sl bC)) (a1:(Sl Int)) (a2:Int):(F87 E (a0,a1,a2)).T k =
  Xh E E.N a0 a1 a2 0 k:=bH.trans (by kernel_rfl)
theorem zl4 (n0:Nat) (a0:(Sl bC)) (a1:(Sl Int)) (a2:Int) (v7:Int):Xh E (n0+1) a0 a1 a2 v7 k =
  cond (decide (v7 < (a1.len:Int)))
  (bf (decide (0<=v7/\v7 < (a1.len:Int))) (bf (decide (0<=a1.get v7.toNat/\a1.get v7.toNat < (a0.len:Int))) (cond ((a0.get (a1.get v7.toNat).toNat).af == a2)
 (k true)
 (Xh E n0 a0 a1 a2 (aO (v7+1)) k))))
  (k false):=by kernel_rfl
end
theorem o87 [aJ] (E:E87):Ok ax 87 (ae.un (F87 E)):=aY (aP ay.nil (ak (by kernel_rfl)))
end Go.Proofs

namespace Go.Proofs
open Go Go.Pm
set_option maxRecDepth 100000
structure Jg where
  N:Nat
  qw:Int×Int×Int->ae (Bool)
  Oe:Int->ae (Bool)
  c175:(Sl aQ)×Int->ae (Bool)
abbrev zdk (E:Jg):aX:=dh (((Tabs.nil.addF 73 (ae.un E.qw)).addF 174 (ae.un E.Oe)).addF 175 (ae.un E.c175)) []
def zdl:bW:=aU ax 124 [] { cut:=[3,5,7] }
def zhQ (E:Jg):af->ae (Bool):=ae.ty (aF ax E.N (zdk E) zdl 124)
section
variable (E:Jg){A:Type}(k:Bool->Option A)
def Ul (E:Jg) (a0:af){A:Type}(k:Bool->Option A):Option A :=
  iG ax (zdk E) E.N zdl 124 [1,1] [] (iH k)
    ⟨[(1,.cl (.ptr 1 0))],[(1,eB 124 a0)],[]⟩
def zdm (E:Jg) (a0:af){A:Type}(k:Bool->Option A):Option A :=
  iG ax (zdk E) E.N zdl 124 [1,1,1] [] (iH k)
    ⟨[(1,.cl (.ptr 1 0))],[(1,eB 124 a0)],[]⟩
def zdn (E:Jg) (a0:af){A:Type}(k:Bool->Option A):Option A :=
  iG ax (zdk E) E.N zdl 124 [1,1,1,1] [] (iH k)
    ⟨[(1,.cl (.ptr 1 0))],[(1,eB 124 a0)],[]⟩
def pV (E:Jg) (n:Nat) (a0:af) (v3:Int){A:Type}(k:Bool->Option A):Option A :=
  iG ax (zdk E) E.N zdl 124 [1,1,1,1,1,0,1,0] [.n n] (iH k)
    ⟨[(1,.cl (.ptr 1 0)),(3,.int v3)],[(1,eB 124 a0)],[]⟩
theorem zEe (a0:af):(zhQ E (a0)).T k =
  cond (decide (a0.Kind < 1))
  (k false)
  (cond (decide (a0.Kind > 3))
 (k false)
 (cond (a0.View != 1)
 (cond (a0.View != 2)
 (k false)
 ((E.qw (a0.Z,0,100000)).T λ r1 =>
 cond (!r1)
 (k false)
 ((E.Oe a0.First).T λ r2 =>
 cond (!r2)
 (k false)
 ((E.qw (a0.aZ,2,100000)).T λ r3 =>
 cond (!r3)
 (k false)
 ((E.qw (a0.bM,1,2000)).T λ r4 =>
 cond (!r4)
 (k false)
 ((E.qw (a0.dC,0,100000)).T λ r5 =>
 cond (!r5)
 (k false)
 (Ul E a0 k)))))))
 ((E.qw (a0.Z,0,100000)).T λ r6 =>
 cond (!r6)
 (k false)
 ((E.Oe a0.First).T λ r7 =>
 cond (!r7)
 (k false)
 ((E.qw (a0.aZ,2,100000)).T λ r8 =>
 cond (!r8)
 (k false)
 ((E.qw (a0.bM,1,2000)).T λ r9 =>
 cond (!r9)
 (k false)
 ((E.qw (a0.dC,0,100000)).T λ r10 =>
 cond (!r10)
 (k false)
 (Ul E a0 k)))))))):=bH.trans (by kernel_rfl)
theorem zoz (a0:af):Ul E a0 k =
  (E.Oe a0.bu.Low).T λ r1 =>
  cond (!r1)
  (k false)
  ((E.Oe a0.bu.High).T λ r2 =>
 cond (!r2)
 (k false)
 (cond (decide (a0.bu.Low > a0.bu.High))
 (k false)
 ((E.qw (a0.Clock.Low,(-1000000000),1000000000)).T λ r3 =>
 cond (!r3)
 (k false)
 ((E.qw (a0.Clock.High,(-1000000000),1000000000)).T λ r4 =>
 cond (!r4)
 (k false)
 (cond (decide (a0.Clock.Low > a0.Clock.High))
 (k false)
 (zdm E a0 k)))))):=by kernel_rfl
theorem zoA (a0:af):zdm E a0 k =
  (E.qw (a0.dH,0,1000000)).T λ r1 =>
  cond (!r1)
  (k false)
  ((E.qw (a0.Least,0,1000000)).T λ r2 =>
 cond (!r2)
 (k false)
 ((E.Oe (aO ((aO ((aO (a0.First - a0.aZ)) - a0.dC))+a0.bu.Low))).T λ r3 =>
 cond (!r3)
 (k false)
 ((E.Oe (aO ((aO ((aO (a0.First+(aO ((aO (a0.bM+1)) * a0.aZ))))+a0.dC))+a0.bu.High))).T λ r4 =>
 cond (!r4)
 (k false)
 (zdn E a0 k)))):=by kernel_rfl
theorem zoB (a0:af):zdn E a0 k =
  cond (a0.Kind == 2)
  ((E.c175 (a0.aQ,a0.aZ)).T λ r1 =>
 cond (!r1)
 (k false)
 (cond (a0.Kind != 2)
 (cond (decide ((a0.aQ.len:Int) > 0))
 (k false)
 (cond (decide ((a0.Dead.len:Int) > 100))
 (k false)
 (pV E E.N a0 0 k)))
 (cond (decide ((a0.Dead.len:Int) > 100))
 (k false)
 (pV E E.N a0 0 k))))
  (cond (a0.Kind != 2)
 (cond (decide ((a0.aQ.len:Int) > 0))
 (k false)
 (cond (decide ((a0.Dead.len:Int) > 100))
 (k false)
 (pV E E.N a0 0 k)))
 (cond (decide ((a0.Dead.len:Int) > 100))
 (k false)
 (pV E E.N a0 0 k))):=by kernel_rfl
theorem zdo (n0:Nat) (a0:af) (v3:Int):pV E (n0+1) a0 v3 k =
  cond (decide (v3 < (a0.Dead.len:Int)))
  (bf (decide (0<=v3/\v3 < (a0.Dead.len:Int))) ((E.qw (a0.Dead.get v3.toNat,0,(aO (a0.bM - 1)))).T λ r1 =>
 cond (!r1)
 (k false)
 (cond (decide (v3 > 0))
 (bf (decide (0<=v3/\v3 < (a0.Dead.len:Int))) (bf (decide (0<=(aO (v3 - 1))/\(aO (v3 - 1)) < (a0.Dead.len:Int))) (cond (decide (a0.Dead.get v3.toNat<=a0.Dead.get (aO (v3 - 1)).toNat))
 (k false)
 (pV E n0 a0 (aO (v3+1)) k))))
 (pV E n0 a0 (aO (v3+1)) k))))
  (k true):=by kernel_rfl
end
theorem zEf [aJ] (E:Jg) (IY:Ok ax 73 (ae.un E.qw)) (zoC:Ok ax 174 (ae.un E.Oe)) (zoD:Ok ax 175 (ae.un E.c175)):Ok ax 124 (ae.un (zhQ E)):=aY (aP (((ay.nil.addF IY).addF zoC).addF zoD) (ak (by kernel_rfl)))
structure Qj where
  N:Nat
abbrev zoE (E:Qj):aX:=dh Tabs.nil []
def zoF:bW:=aU ax 135 [] {}
def zhR (E:Qj):af×Int->ae (Int×Int):=ae.ty (aF ax E.N (zoE E) zoF 135)
section
variable (E:Qj){A:Type}(k:(Int×Int)->Option A)
def Gi (E:Qj) (n:Nat) (a0:af) (a1:Int) (v6:Int) (v7:Int) (v8:Int){A:Type}(k:(Int×Int)->Option A):Option A :=
  iG ax (zoE E) E.N zoF 135 [1,1,0,1,0] [.n n] (iH k)
    ⟨[(1,.int a1),(2,.cl (.ptr 2 0)),(6,.int v6),(7,.int v7),(8,.int v8)],[(2,eB 124 a0)],[]⟩
def Gj (E:Qj) (n:Nat) (a0:af) (a1:Int) (v6:Int) (v7:Int) (v9:Int){A:Type}(k:(Int×Int)->Option A):Option A :=
  iG ax (zoE E) E.N zoF 135 [1,1,1,0,1,0] [.n n] (iH k)
    ⟨[(1,.int a1),(2,.cl (.ptr 2 0)),(6,.int v6),(7,.int v7),(9,.int v9)],[(2,eB 124 a0)],[]⟩
theorem zEg (a0:af) (a1:Int):(zhR E (a0,a1)).T k =
  Gi E E.N a0 a1 0 (aO (a0.aZ.tdiv 2)) 0 k:=bH.trans (by kernel_rfl)
theorem zdp (n0:Nat) (a0:af) (a1:Int) (v6:Int) (v7:Int) (v8:Int):Gi E (n0+1) a0 a1 v6 v7 v8 k =
  cond (decide (v8 < (a0.aQ.len:Int)))
  (bf (decide (0<=v8/\v8 < (a0.aQ.len:Int))) (cond (decide ((a0.aQ.get v8.toNat).Time<=(aO (a1 - a0.dH))))
 (bf (decide (0<=v8/\v8 < (a0.aQ.len:Int))) (Gi E n0 a0 a1 (a0.aQ.get v8.toNat).dI.Low v7 (aO (v8+1)) k))
 (Gi E n0 a0 a1 v6 v7 (aO (v8+1)) k)))
  (Gj E E.N a0 a1 v6 v7 (aO ((a0.aQ.len:Int) - 1)) k):=by kernel_rfl
theorem zdq (n0:Nat) (a0:af) (a1:Int) (v6:Int) (v7:Int) (v9:Int):Gj E (n0+1) a0 a1 v6 v7 v9 k =
  cond (decide (v9 >= 0))
  (bf (decide (0<=v9/\v9 < (a0.aQ.len:Int))) (cond (decide ((a0.aQ.get v9.toNat).Time >= (aO (a1+a0.dH))))
 (bf (decide (0<=v9/\v9 < (a0.aQ.len:Int))) (Gj E n0 a0 a1 v6 (a0.aQ.get v9.toNat).dI.High (aO (v9 - 1)) k))
 (Gj E n0 a0 a1 v6 v7 (aO (v9 - 1)) k)))
  (k (v6,v7)):=by kernel_rfl
end
theorem zEh [aJ] (E:Qj):Ok ax 135 (ae.un (zhR E)):=aY (aP ay.nil (ak (by kernel_rfl)))
structure Um where
  N:Nat
abbrev zw7 (E:Um):aX:=dh Tabs.nil []
def zw8:bW:=aU ax 137 [] {}
def zhS (E:Um):af×Int->ae (Bool):=ae.ty (aF ax E.N (zw7 E) zw8 137)
section
variable (E:Um){A:Type}(k:Bool->Option A)
def Gl (E:Um) (n:Nat) (a0:af) (a1:Int) (v5:Int){A:Type}(k:Bool->Option A):Option A :=
  iG ax (zw7 E) E.N zw8 137 [1,0,1,0] [.n n] (iH k)
    ⟨[(1,.int a1),(2,.cl (.ptr 2 0)),(5,.int v5)],[(2,eB 124 a0)],[]⟩
theorem e137 (a0:af) (a1:Int):(zhS E (a0,a1)).T k =
  Gl E E.N a0 a1 0 k:=bH.trans (by kernel_rfl)
theorem zdr (n0:Nat) (a0:af) (a1:Int) (v5:Int):Gl E (n0+1) a0 a1 v5 k =
  cond (decide (v5 < (a0.Dead.len:Int)))
  (bf (decide (0<=v5/\v5 < (a0.Dead.len:Int))) (cond (a0.Dead.get v5.toNat == a1)
 (k true)
 (Gl E n0 a0 a1 (aO (v5+1)) k)))
  (k false):=by kernel_rfl
end
theorem zEi [aJ] (E:Um):Ok ax 137 (ae.un (zhS E)):=aY (aP ay.nil (ak (by kernel_rfl)))
structure Un where
  N:Nat
  qw:Int×Int×Int->ae (Bool)
  Jp:af×Int->ae (Bool)
abbrev zw9 (E:Un):aX:=dh ((Tabs.nil.addF 73 (ae.un E.qw)).addF 137 (ae.un E.Jp)) []
def zxa:bW:=aU ax 143 [] {}
def zhT (E:Un):au×bC->ae (Bool):=ae.ty (aF ax E.N (zw9 E) zxa 143)
section
variable (E:Un){A:Type}(k:Bool->Option A)
def MN (E:Un) (n:Nat) (a0:au) (a1:bC) (v6:Int){A:Type}(k:Bool->Option A):Option A :=
  iG ax (zw9 E) E.N zxa 143 [1,1,1,1,0,1,0] [.n n] (iH k)
    ⟨[(3,.cl (.ptr 3 0)),(5,.cl (.ptr 5 0)),(6,.int v6)],[(3,eB 92 a1),(5,eB 124 (a0.aj.get a1.af.toNat))],[]⟩
theorem e143 (a0:au) (a1:bC):(zhT E (a0,a1)).T k =
  (E.qw (a1.af,0,(aO ((a0.aj.len:Int) - 1)))).T λ r1 =>
  cond (!r1)
  (k false)
  (bf (decide (0<=a1.af/\a1.af < (a0.aj.len:Int))) ((E.qw (a1.Channel,0,(aO ((a0.aj.get a1.af.toNat).bM - 1)))).T λ r2 =>
 cond (!r2)
 (k false)
 ((E.qw (a1.iM,1,(aO ((a0.aj.get a1.af.toNat).bM - a1.Channel)))).T λ r3 =>
 cond (!r3)
 (k false)
 ((E.qw (a1.xO,(a0.aj.get a1.af.toNat).Least,1000000)).T λ r4 =>
 cond (!r4)
 (k false)
 ((E.qw (a1.Time,(-1000000000),1000000000)).T λ r5 =>
 cond (!r5)
 (k false)
 (MN E E.N a0 a1 0 k)))))):=bH.trans (by kernel_rfl)
theorem zds (n0:Nat) (a0:au) (a1:bC) (v6:Int):MN E (n0+1) a0 a1 v6 k =
  cond (decide (v6 < a1.iM))
  ((E.Jp ((a0.aj.get a1.af.toNat),(aO (a1.Channel+v6)))).T λ r1 =>
 cond r1
 (k false)
 (MN E n0 a0 a1 (aO (v6+1)) k))
  (cond ((a0.aj.get a1.af.toNat).Kind == 2)
 (cond (a1.iM == 1)
 ((E.qw (a1.aQ,0,1000000)).T λ r2 =>
 k r2)
 (k false))
 (cond ((a0.aj.get a1.af.toNat).Kind == 3)
 (cond (a1.aQ == 0)
 (k (a1.Time == 0))
 (k false))
 (k (a1.aQ == 0)))):=by kernel_rfl
end
theorem zEj [aJ] (E:Un) (IY:Ok ax 73 (ae.un E.qw)) (Uo:Ok ax 137 (ae.un E.Jp)):Ok ax 143 (ae.un (zhT E)):=aY (aP ((ay.nil.addF IY).addF Uo) (ak (by kernel_rfl)))
structure Y1 where
  N:Nat
  qw:Int×Int×Int->ae (Bool)
abbrev zEk (E:Y1):aX:=dh (Tabs.nil.addF 73 (ae.un E.qw)) []
def zEl:bW:=aU ax 174 [] {}
def zhU (E:Y1):Int->ae (Bool):=ae.ty (aF ax E.N (zEk E) zEl 174)
section
variable (E:Y1){A:Type}(k:Bool->Option A)
theorem zEm (a0:Int):(zhU E (a0)).T k =
  (E.qw (a0,(-1000000),1000000)).T λ r1 =>
  k r1:=bH.trans (by kernel_rfl)
end
theorem zEn [aJ] (E:Y1) (IY:Ok ax 73 (ae.un E.qw)):Ok ax 174 (ae.un (zhU E)):=aY (aP (ay.nil.addF IY) (ak (by kernel_rfl)))
structure Ur where
  N:Nat
  qw:Int×Int×Int->ae (Bool)
abbrev zxb (E:Ur):aX:=dh (Tabs.nil.addF 73 (ae.un E.qw)) []
def zxc:bW:=aU ax 175 [] {}
def zhV (E:Ur):(Sl aQ)×Int->ae (Bool):=ae.ty (aF ax E.N (zxb E) zxc 175)
section
variable (E:Ur){A:Type}(k:Bool->Option A)
def AV (E:Ur) (n:Nat) (a0:(Sl aQ)) (a1:Int) (v5:Int){A:Type}(k:Bool->Option A):Option A :=
  iG ax (zxb E) E.N zxc 175 [1,0,1,0] [.n n] (iH k)
    ⟨[(0,eP a0),(1,.int a1),(5,.int v5)],[],[]⟩
theorem zEo (a0:(Sl aQ)) (a1:Int):(zhV E (a0,a1)).T k =
  AV E E.N a0 a1 0 k:=bH.trans (by kernel_rfl)
theorem zdt (n0:Nat) (a0:(Sl aQ)) (a1:Int) (v5:Int):AV E (n0+1) a0 a1 v5 k =
  cond (decide (v5 < (a0.len:Int)))
  (bf (decide (0<=v5/\v5 < (a0.len:Int))) ((E.qw ((a0.get v5.toNat).Time,0,1000000)).T λ r1 =>
 cond (!r1)
 (k false)
 (cond (decide ((a0.get v5.toNat).dI.Low < 0))
 (k false)
 (cond (decide ((a0.get v5.toNat).dI.Low > (a0.get v5.toNat).dI.High))
 (k false)
 (cond (decide ((a0.get v5.toNat).dI.High > (aO (a1.tdiv 2))))
 (k false)
 (cond (decide (v5 > 0))
 (bf (decide (0<=(aO (v5 - 1))/\(aO (v5 - 1)) < (a0.len:Int))) (cond (decide ((a0.get v5.toNat).Time<=(a0.get (aO (v5 - 1)).toNat).Time))
 (k false)
 (bf (decide (0<=(aO (v5 - 1))/\(aO (v5 - 1)) < (a0.len:Int))) (cond (decide ((a0.get v5.toNat).dI.Low < (a0.get (aO (v5 - 1)).toNat).dI.Low))
 (k false)
 (bf (decide (0<=(aO (v5 - 1))/\(aO (v5 - 1)) < (a0.len:Int))) (cond (decide ((a0.get v5.toNat).dI.High < (a0.get (aO (v5 - 1)).toNat).dI.High))
 (k false)
 (AV E n0 a0 a1 (aO (v5+1)) k)))))))
 (AV E n0 a0 a1 (aO (v5+1)) k)))))))
  ((E.qw ((a0.len:Int),1,50)).T λ r2 =>
 k r2):=by kernel_rfl
end
theorem zEp [aJ] (E:Ur) (IY:Ok ax 73 (ae.un E.qw)):Ok ax 175 (ae.un (zhV E)):=aY (aP (ay.nil.addF IY) (ak (by kernel_rfl)))
structure E78 where
  N:Nat
  c60:au×bP->ae (Int)
  c138:au×bC->ae (Int)
  c139:au×bC->ae ((Sl aC)×Int)
abbrev G78 (E:E78):aX:=dh (((Tabs.nil.addF 60 (ae.un E.c60)).addF 138 (ae.un E.c138)).addF 139 (ae.un E.c139)) []
def A78:bW:=aU ax 78 [] { ks:=[(1,7,⟨[],[],[(24,2,55,96)],[],[],[],[]⟩)],cut:=[14] }
def F78 (E:E78):au×bP×(Sl bC)->ae (Int ⊕ ((Pt aW)×Int)):=ae.tyA (aF ax E.N (G78 E) A78 78)
section
variable (E:E78){A:Type}(k:(Int ⊕ ((Pt aW)×Int))->Option A)
def Qk (E:E78) (n:Nat) (a0:au) (a1:bP) (a2:(Sl bC)) (v27:Int) (Xi:Sl (Sl aC)) {A:Type}(k:(Int ⊕ ((Pt aW)×Int))->Option A):Option A :=
  iG ax (G78 E) E.N A78 78 [1,1,1,1,0,1,0] [.n n] (zcY k)
    ⟨[(3,.cl (.ptr 3 0)),(8,.cl (.ptr 24 0)),(25,eP a2),(26,.int (a2.len:Int)),(27,.int v27)],[(3,eB 24 a0),(24,.box 208 [.p (.sl a0.aj.len 15 (λ i=>bG.enc (a0.aj.get i))),.p (.sl a2.len 6 (λ i=>bG.enc (a2.get i))),.vec 55,.p (.int .i64 a1.jL),.p (.int .i64 a1.kF)]),(55,eV 96 1 24 Xi)],[]⟩
def Ql (E:E78) (n0:Nat) (a0:au) (a1:bP) (a2:(Sl bC)) (v11:(Sl aC)) (v27:Int) (Xi:Sl (Sl aC)) {A:Type}(k:(Int ⊕ ((Pt aW)×Int))->Option A):Option A :=
  iG ax (G78 E) E.N A78 78 [1,1,1,1,0,1,0,0,1,1,0,0,1,1,1,1] [.n n0] (zcY k)
    ⟨[(3,.cl (.ptr 3 0)),(8,.cl (.ptr 24 0)),(11,eP v11),(25,eP a2),(26,.int (a2.len:Int)),(27,.int v27)],[(3,eB 24 a0),(24,.box 208 [.p (.sl a0.aj.len 15 (λ i=>bG.enc (a0.aj.get i))),.p (.sl a2.len 6 (λ i=>bG.enc (a2.get i))),.vec 55,.p (.int .i64 a1.jL),.p (.int .i64 a1.kF)]),(55,eV 96 1 24 Xi)],[]⟩
theorem e78 (a0:au) (a1:bP) (a2:(Sl bC)):(F78 E (a0,a1,a2)).T k =
  cond (decide ((a2.len:Int) > 24))
  (k (.inl 3))
  ((E.c60 (a0,a1)).T λ r1 =>
 cond (r1 != 0)
 (k (.inl 2))
 (Qk E E.N a0 a1 a2 0 (⟨0,(λ _=>(⟨0,(λ _=>(⟨0,0,0⟩:aC))⟩:(Sl aC)))⟩:(Sl (Sl aC))) k)):=zlQ.trans (by kernel_rfl)
theorem zl6 (n0:Nat) (a0:au) (a1:bP) (a2:(Sl bC)) (v27:Int) (Xi:Sl (Sl aC)):Qk E (n0+1) a0 a1 a2 v27 Xi k =
  cond (decide (v27 < (a2.len:Int)))
  (bf (decide (0<=v27/\v27 < (a2.len:Int))) ((E.c138 (a0,(a2.get v27.toNat))).T λ r1 =>
 cond (r1 != 0)
 (k (.inl 2))
 ((E.c139 (a0,(a2.get v27.toNat))).T λ r2 =>
 cond (r2.2 != 0)
 (cond (r2.2 != 5)
 (k (.inl r2.2))
 (Ql E n0 a0 a1 a2 r2.1 v27 Xi k))
 (Ql E n0 a0 a1 a2 r2.1 v27 Xi k))))
  (k (.inr ((⟨(⟨a0,a2,Xi,a1⟩:aW)⟩:(Pt aW)),0))):=by kernel_rfl
theorem zxd (n0:Nat) (a0:au) (a1:bP) (a2:(Sl bC)) (v11:(Sl aC)) (v27:Int) (Xi:Sl (Sl aC)):Ql E n0 a0 a1 a2 v11 v27 Xi k =
  bf (room (Xi.len+1) 24) (Qk E n0 a0 a1 a2 (aO (v27+1)) (⟨(Xi.len+1),(jd Xi.len Xi.get (λ _=>v11))⟩:(Sl (Sl aC))) k):=by kernel_rfl
end
theorem o78 [aJ] (E:E78) (h60:Ok ax 60 (ae.un E.c60)) (zoG:Ok ax 138 (ae.un E.c138)) (zoH:Ok ax 139 (ae.un E.c139)):Ok ax 78 (ae.unA (F78 E)):=zcZ (aP (((ay.nil.addF h60).addF zoG).addF zoH) (ak (by kernel_rfl)))
end Go.Proofs


namespace Go.Proofs
open Go Go.Pm
set_option maxRecDepth 100000
structure Us where
  N:Nat
abbrev zxe (E:Us):aX:=dh Tabs.nil []
def zxf:bW:=aU ax 105 [] { ks:=[(1,3,⟨[],[(5,32,101)],[],[],[],[],[]⟩)] }
def zhW (E:Us):(Pt aW)×ai->ae ((Sl aC)):=ae.ty (aF ax E.N (zxe E) zxf 105)
section
variable (E:Us){A:Type}(k:(Sl aC)->Option A)
def MO (E:Us) (n:Nat) (a0:(Pt aW)) (a1:ai) (v11:Int) (w32:Sl aC){A:Type}(k:(Sl aC)->Option A):Option A :=
  iG ax (zxe E) E.N zxf 105 [1,1,0,1,0] [.n n] (iH k)
    ⟨[(0,eP a0),(3,.cl (.ptr 3 0)),(5,.cl (.vec 32)),(9,eP a1.Hits),(10,.int (a1.Hits.len:Int)),(11,.int v11)],[(3,eB 43 a1),(32,eV 101 3 24 w32)],[]⟩
theorem zEs (a0:(Pt aW)) (a1:ai):(zhW E (a0,a1)).T k =
  MO E E.N a0 a1 0 (⟨0,(λ _=>(⟨0,0,0⟩:aC))⟩:(Sl aC)) k:=bH.trans (by kernel_rfl)
theorem zdu (n0:Nat) (a0:(Pt aW)) (a1:ai) (v11:Int) (w32:Sl aC):MO E (n0+1) a0 a1 v11 w32 k =
  cond (decide (v11 < (a1.Hits.len:Int)))
  (bf (decide (0<=v11/\v11 < (a1.Hits.len:Int))) (bf (decide (0<=a1.Hits.get v11.toNat/\a1.Hits.get v11.toNat < (a0.v.kQ.len:Int))) (bf (decide (0<=v11/\v11 < (a1.bz.len:Int))) (bf (decide (0<=a1.bz.get v11.toNat/\a1.bz.get v11.toNat < ((a0.v.kQ.get (a1.Hits.get v11.toNat).toNat).len:Int))) (bf (room (w32.len+1) 24) (MO E n0 a0 a1 (aO (v11+1)) (⟨(w32.len+1),(jd w32.len w32.get (λ _=>((a0.v.kQ.get (a1.Hits.get v11.toNat).toNat).get (a1.bz.get v11.toNat).toNat)))⟩:(Sl aC)) k))))))
  (k w32):=by kernel_rfl
end
theorem zEt [aJ] (E:Us):Ok ax 105 (ae.un (zhW E)):=aY (aP ay.nil (ak (by kernel_rfl)))
structure MP where
  N:Nat
  zge:(Pt aW)×Int->ae (Int)
abbrev zoI (E:MP):aX:=dh (Tabs.nil.addF 140 (ae.un E.zge)) []
def zoJ:bW:=aU ax 173 [0] { yl:=[7] }
def zxg (E:MP) (c:List PA):YO:=aI ax (zoI E) E.N zoJ 173 c
def zoK (E:MP):(Pt Int)×(Pt (Pt aW))×(Pt Int)->ae (List (Int×Int)):=ae.tyI λ c=>.opt (zxg E c)
section
variable (E:MP)
def Gn (E:MP) (n:Nat) (a2:(Pt (Pt aW))) (a3:(Pt Int)) (v5:Int):YO :=
  ptY ax (zoI E) E.N zoJ 173 [1,0] [n]
    ⟨[(0,.cl (.vec 4095)),(2,eP a2),(3,eP a3),(5,.int v5)],[(4095,.gone)],[]⟩
def Gp (E:MP) (n0:Nat) (n:Nat) (a2:(Pt (Pt aW))) (a3:(Pt Int)) (v5:Int) (v29:Int) (v30:Int):YO :=
  ptY ax (zoI E) E.N zoJ 173 [1,0,0,1,0,0,1,1,0] [n0,n]
    ⟨[(0,.cl (.vec 4095)),(2,eP a2),(3,eP a3),(5,.int v5),(29,.int v29),(30,.int v30)],[(4095,.gone)],[]⟩
theorem zEu (a1:(Pt Int)) (a2:(Pt (Pt aW))) (a3:(Pt Int)):zxg E (dw.enc ((a1,a2,a3):(Pt Int)×(Pt (Pt aW))×(Pt Int))) =
  Gn E E.N a2 a3 a1.v:=by kernel_rfl
theorem zdv (n0:Nat) (a2:(Pt (Pt aW))) (a3:(Pt Int)) (v5:Int):Gn E (n0+1) a2 a3 v5 =
  cond (decide (v5 < (a2.v.v.hits.len:Int)))
  ((E.zge (a2.v,v5)).T λ r1 =>
 cond (r1 != a3.v)
 (Gn E n0 a2 a3 (aO (v5+1)))
 (bf (decide (0≤v5∧v5 < (a2.v.v.kQ.len:Int))) (Gp E n0 E.N a2 a3 v5 ((a2.v.v.kQ.get v5.toNat).len:Int) 0)))
  (some []):=by kernel_rfl
theorem zdw (n0:Nat) (n1:Nat) (a2:(Pt (Pt aW))) (a3:(Pt Int)) (v5:Int) (v29:Int) (v30:Int):Gp E n0 (n1+1) a2 a3 v5 v29 v30 =
  cond (decide (v30 < v29))
  (yT (dw.enc ((v5,v30):Int×Int)) (some [])
 (Gp E n0 n1 a2 a3 v5 v29 (aO (v30+1))))
  (Gn E n0 a2 a3 (aO (v5+1))):=by kernel_rfl
end
theorem zEv (E:MP) (zoL:Ok ax 140 (ae.un E.zge)):qB ax 173 (ae.unI (zoK E)):=MF (F6 (ay.nil.addF zoL) (ak (by kernel_rfl)))
structure Y2 where
  N:Nat
abbrev zEw (E:Y2):aX:=dh Tabs.nil []
def zEx:bW:=aU ax 140 [] {}
def zhX (E:Y2):(Pt aW)×Int->ae (Int):=ae.ty (aF ax E.N (zEw E) zEx 140)
section
variable (E:Y2){A:Type}(k:Int->Option A)
theorem zEy (a0:(Pt aW)) (a1:Int):(zhX E (a0,a1)).T k =
  bf (decide (0<=a1/\a1 < (a0.v.hits.len:Int))) (bf (decide (0<=(a0.v.hits.get a1.toNat).af/\(a0.v.hits.get a1.toNat).af < (a0.v.au.aj.len:Int))) (k (a0.v.au.aj.get (a0.v.hits.get a1.toNat).af.toNat).View)):=bH.trans (by kernel_rfl)
end
theorem zEz [aJ] (E:Y2):Ok ax 140 (ae.un (zhX E)):=aY (aP ay.nil (ak (by kernel_rfl)))
structure Y3 where
  N:Nat
  c160:au->ae (Bool)
abbrev zEA (E:Y3):aX:=dh (Tabs.nil.addF 160 (ae.un E.c160)) []
def zEB:bW:=aU ax 122 [] {}
def zhY (E:Y3):au->ae (Int):=ae.ty (aF ax E.N (zEA E) zEB 122)
section
variable (E:Y3){A:Type}(k:Int->Option A)
theorem zEC (a0:au):(zhY E (a0)).T k =
  (E.c160 a0).T λ r1 =>
  cond (!r1)
  (k 2)
  (k 0):=bH.trans (by kernel_rfl)
end
theorem zED [aJ] (E:Y3) (xE:Ok ax 160 (ae.un E.c160)):Ok ax 122 (ae.un (zhY E)):=aY (aP (ay.nil.addF xE) (ak (by kernel_rfl)))
structure Y4 where
  N:Nat
abbrev zEE (E:Y4):aX:=dh Tabs.nil []
def zEF:bW:=aU ax 123 [] {}
def zhZ (E:Y4):Int×Int×Int->ae (Bool):=ae.ty (aF ax E.N (zEE E) zEF 123)
section
variable (E:Y4){A:Type}(k:Bool->Option A)
theorem zEG (a0:Int) (a1:Int) (a2:Int):(zhZ E (a0,a1,a2)).T k =
  cond (decide (a0 >= a1))
  (k (decide (a0<=a2)))
  (k false):=bH.trans (by kernel_rfl)
end
theorem zEH [aJ] (E:Y4):Ok ax 123 (ae.un (zhZ E)):=aY (aP ay.nil (ak (by kernel_rfl)))
structure Y5 where
  N:Nat
  Og:au×bC->ae (Bool)
abbrev zEI (E:Y5):aX:=dh (Tabs.nil.addF 188 (ae.un E.Og)) []
def zEJ:bW:=aU ax 138 [] {}
def zh0 (E:Y5):au×bC->ae (Int):=ae.ty (aF ax E.N (zEI E) zEJ 138)
section
variable (E:Y5){A:Type}(k:Int->Option A)
theorem e138 (a0:au) (a1:bC):(zh0 E (a0,a1)).T k =
  (E.Og (a0,a1)).T λ r1 =>
  cond (!r1)
  (k 2)
  (k 0):=bH.trans (by kernel_rfl)
end
theorem zEK [aJ] (E:Y5) (Ut:Ok ax 188 (ae.un E.Og)):Ok ax 138 (ae.un (zh0 E)):=aY (aP (ay.nil.addF Ut) (ak (by kernel_rfl)))
structure Y6 where
  N:Nat
  Og:au×bC->ae (Bool)
  ql:au×bC->ae (placed×Bool)
  zlh:placed×bC->ae ((Sl aC))
abbrev zEL (E:Y6):aX:=dh (((Tabs.nil.addF 188 (ae.un E.Og)).addF 112 (ae.un E.ql)).addF 189 (ae.un E.zlh)) []
def zEM:bW:=aU ax 139 [] {}
def zh1 (E:Y6):au×bC->ae ((Sl aC)×Int):=ae.ty (aF ax E.N (zEL E) zEM 139)
section
variable (E:Y6){A:Type}(k:((Sl aC)×Int)->Option A)
theorem zEN (a0:au) (a1:bC):(zh1 E (a0,a1)).T k =
  (E.Og (a0,a1)).T λ r1 =>
  cond (!r1)
  (k ((⟨0,λ _=>default⟩:(Sl aC)),2))
  ((E.ql (a0,a1)).T λ r2 =>
 (E.zlh (r2.1,a1)).T λ r3 =>
 cond ((r3.len:Int) == 0)
 (k ((⟨0,λ _=>default⟩:(Sl aC)),5))
 (k (r3,0))):=bH.trans (by kernel_rfl)
end
theorem zEO [aJ] (E:Y6) (Ut:Ok ax 188 (ae.un E.Og)) (h112:Ok ax 112 (ae.un E.ql)) (zoM:Ok ax 189 (ae.un E.zlh)):Ok ax 139 (ae.un (zh1 E)):=aY (aP (((ay.nil.addF Ut).addF h112).addF zoM) (ak (by kernel_rfl)))
structure Uu where
  N:Nat
  fK:Int×Int×Int->ae (Bool)
abbrev zxh (E:Uu):aX:=dh (Tabs.nil.addF 161 (ae.un E.fK)) []
def zxi:bW:=aU ax 112 [] {}
def zh2 (E:Uu):au×bC->ae (placed×Bool):=ae.ty (aF ax E.N (zxh E) zxi 112)
section
variable (E:Uu){A:Type}(k:(placed×Bool)->Option A)
def MR (E:Uu) (n:Nat) (a0:au) (a1:bC) (v67:Int){A:Type}(k:(placed×Bool)->Option A):Option A :=
  iG ax (zxh E) E.N zxi 112 [1,1,1,1,0,1,0] [.n n] (iH k)
    ⟨[(3,.cl (.ptr 3 0)),(4,.cl (.ptr 4 0)),(6,.cl (.ptr 6 0)),(65,eP (a0.aj.get a1.af.toNat).Dead),(66,.int ((a0.aj.get a1.af.toNat).Dead.len:Int)),(67,.int v67)],[(3,eB 92 a1),(4,.box 185 [.p (.int .i64 0),.p (.int .i64 0),.p (.int .i64 0),.p (.int .i64 0),.p (.int .i64 0),.p (.int .i64 0),.p (.int .i64 0),.p (.int .i64 0),.p (.int .i64 0),.p (.int .i64 0),.p (.int .i64 0),.p (.int .i64 0),.p (.int .i64 0),.p (.nils),.p (.nils),.p (.int .i64 0)]),(6,.box 185 [.p (.int .i64 (a0.aj.get a1.af.toNat).Kind),.p (.int .i64 (a0.aj.get a1.af.toNat).View),.p (.int .i64 (a0.aj.get a1.af.toNat).Z),.p (.int .i64 (a0.aj.get a1.af.toNat).First),.p (.int .i64 (a0.aj.get a1.af.toNat).aZ),.p (.int .i64 (a0.aj.get a1.af.toNat).bM),.p (.int .i64 (a0.aj.get a1.af.toNat).dC),.p (.int .i64 (a0.aj.get a1.af.toNat).bu.Low),.p (.int .i64 (a0.aj.get a1.af.toNat).bu.High),.p (.int .i64 (a0.aj.get a1.af.toNat).Clock.Low),.p (.int .i64 (a0.aj.get a1.af.toNat).Clock.High),.p (.int .i64 (a0.aj.get a1.af.toNat).dH),.p (.int .i64 (a0.aj.get a1.af.toNat).Least),.p (.sl (a0.aj.get a1.af.toNat).aQ.len 3 (λ i=>bG.enc ((a0.aj.get a1.af.toNat).aQ.get i))),.p (.sl (a0.aj.get a1.af.toNat).Dead.len 1 (λ i=>bG.enc ((a0.aj.get a1.af.toNat).Dead.get i))),.p (.int .i64 a1.af)])],[]⟩
theorem zEP (a0:au) (a1:bC):(zh2 E (a0,a1)).T k =
  (E.fK (a1.af,0,(aO ((a0.aj.len:Int) - 1)))).T λ r1 =>
  cond (!r1)
  (k ((⟨(⟨0,0,0,0,0,0,0,(⟨0,0⟩:bZ),(⟨0,0⟩:bZ),0,0,(⟨0,λ _=>default⟩:(Sl aQ)),(⟨0,λ _=>default⟩:(Sl Int))⟩:af),0⟩:placed),false))
  (bf (decide (0<=a1.af/\a1.af < (a0.aj.len:Int))) ((E.fK (a1.Channel,0,(aO ((a0.aj.get a1.af.toNat).bM - 1)))).T λ r2 =>
 cond (!r2)
 (k ((⟨(a0.aj.get a1.af.toNat),a1.af⟩:placed),false))
 ((E.fK (a1.iM,1,(aO ((a0.aj.get a1.af.toNat).bM - a1.Channel)))).T λ r3 =>
 cond (!r3)
 (k ((⟨(a0.aj.get a1.af.toNat),a1.af⟩:placed),false))
 ((E.fK (a1.xO,(a0.aj.get a1.af.toNat).Least,1000000)).T λ r4 =>
 cond (!r4)
 (k ((⟨(a0.aj.get a1.af.toNat),a1.af⟩:placed),false))
 ((E.fK (a1.Time,(-1000000000),1000000000)).T λ r5 =>
 cond (!r5)
 (k ((⟨(a0.aj.get a1.af.toNat),a1.af⟩:placed),false))
 (MR E E.N a0 a1 0 k)))))):=bH.trans (by kernel_rfl)
theorem zdx (n0:Nat) (a0:au) (a1:bC) (v67:Int):MR E (n0+1) a0 a1 v67 k =
  cond (decide (v67 < ((a0.aj.get a1.af.toNat).Dead.len:Int)))
  (bf (decide (0<=v67/\v67 < ((a0.aj.get a1.af.toNat).Dead.len:Int))) ((E.fK ((a0.aj.get a1.af.toNat).Dead.get v67.toNat,a1.Channel,(aO ((aO (a1.Channel+a1.iM)) - 1)))).T λ r1 =>
 cond r1
 (k ((⟨(a0.aj.get a1.af.toNat),a1.af⟩:placed),false))
 (MR E n0 a0 a1 (aO (v67+1)) k)))
  (cond ((a0.aj.get a1.af.toNat).Kind == 2)
 (cond (a1.iM == 1)
 ((E.fK (a1.aQ,0,1000000)).T λ r2 =>
 k ((⟨(a0.aj.get a1.af.toNat),a1.af⟩:placed),r2))
 (k ((⟨(a0.aj.get a1.af.toNat),a1.af⟩:placed),false)))
 (cond (a1.aQ == 0)
 (cond ((a0.aj.get a1.af.toNat).Kind != 3)
 (k ((⟨(a0.aj.get a1.af.toNat),a1.af⟩:placed),true))
 (k ((⟨(a0.aj.get a1.af.toNat),a1.af⟩:placed),(a1.Time == 0))))
 (k ((⟨(a0.aj.get a1.af.toNat),a1.af⟩:placed),false)))):=by kernel_rfl
end
theorem zEQ [aJ] (E:Uu) (jC:Ok ax 161 (ae.un E.fK)):Ok ax 112 (ae.un (zh2 E)):=aY (aP (ay.nil.addF jC) (ak (by kernel_rfl)))
structure Y7 where
  N:Nat
abbrev zER (E:Y7):aX:=dh Tabs.nil []
def zES:bW:=aU ax 161 [] {}
def zh3 (E:Y7):Int×Int×Int->ae (Bool):=ae.ty (aF ax E.N (zER E) zES 161)
section
variable (E:Y7){A:Type}(k:Bool->Option A)
theorem e161 (a0:Int) (a1:Int) (a2:Int):(zh3 E (a0,a1,a2)).T k =
  cond (decide (a0 >= a1))
  (k (decide (a0<=a2)))
  (k false):=bH.trans (by kernel_rfl)
end
theorem zET [aJ] (E:Y7):Ok ax 161 (ae.un (zh3 E)):=aY (aP ay.nil (ak (by kernel_rfl)))
structure Uw where
  N:Nat
  c201:placed->ae (Bool)
  fK:Int×Int×Int->ae (Bool)
abbrev zxj (E:Uw):aX:=dh ((Tabs.nil.addF 201 (ae.un E.c201)).addF 161 (ae.un E.fK)) []
def zxk:bW:=aU ax 160 [] {}
def zh4 (E:Uw):au->ae (Bool):=ae.ty (aF ax E.N (zxj E) zxk 160)
section
variable (E:Uw){A:Type}(k:Bool->Option A)
def AX (E:Uw) (n:Nat) (a0:au) (v9:Int){A:Type}(k:Bool->Option A):Option A :=
  iG ax (zxj E) E.N zxk 160 [1,0,1,0] [.n n] (iH k)
    ⟨[(1,.cl (.ptr 1 0)),(7,eP a0.aj),(8,.int (a0.aj.len:Int)),(9,.int v9)],[(1,eB 24 a0)],[]⟩
theorem e160 (a0:au):(zh4 E (a0)).T k =
  AX E E.N a0 0 k:=bH.trans (by kernel_rfl)
theorem zdy (n0:Nat) (a0:au) (v9:Int):AX E (n0+1) a0 v9 k =
  cond (decide (v9 < (a0.aj.len:Int)))
  (bf (decide (0<=v9/\v9 < (a0.aj.len:Int))) ((E.c201 (⟨(a0.aj.get v9.toNat),v9⟩:placed)).T λ r1 =>
 cond (!r1)
 (k false)
 (cond (decide (v9 > 0))
 (bf (decide (0<=(aO (v9 - 1))/\(aO (v9 - 1)) < (a0.aj.len:Int))) (cond (decide ((a0.aj.get v9.toNat).Z<=(a0.aj.get (aO (v9 - 1)).toNat).Z))
 (k false)
 (AX E n0 a0 (aO (v9+1)) k)))
 (AX E n0 a0 (aO (v9+1)) k))))
  ((E.fK ((a0.aj.len:Int),1,16)).T λ r2 =>
 k r2):=by kernel_rfl
end
theorem zEU [aJ] (E:Uw) (zoN:Ok ax 201 (ae.un E.c201)) (jC:Ok ax 161 (ae.un E.fK)):Ok ax 160 (ae.un (zh4 E)):=aY (aP ((ay.nil.addF zoN).addF jC) (ak (by kernel_rfl)))
structure Y8 where
  N:Nat
  fK:Int×Int×Int->ae (Bool)
abbrev zEV (E:Y8):aX:=dh (Tabs.nil.addF 161 (ae.un E.fK)) []
def zEW:bW:=aU ax 164 [] {}
def zh5 (E:Y8):bZ×Int->ae (Bool):=ae.ty (aF ax E.N (zEV E) zEW 164)
section
variable (E:Y8){A:Type}(k:Bool->Option A)
theorem zEX (a0:bZ) (a1:Int):(zh5 E (a0,a1)).T k =
  (E.fK (a0.Low,(aO (0 - a1)),a0.High)).T λ r1 =>
  cond r1
  (k (decide (a0.High<=a1)))
  (k false):=bH.trans (by kernel_rfl)
end
theorem zEY [aJ] (E:Y8) (jC:Ok ax 161 (ae.un E.fK)):Ok ax 164 (ae.un (zh5 E)):=aY (aP (ay.nil.addF jC) (ak (by kernel_rfl)))
structure Qm where
  N:Nat
  fK:Int×Int×Int->ae (Bool)
  zbl:placed->ae (Bool)
  c232:placed->ae (Bool)
  c233:placed->ae (Bool)
  c234:placed->ae (Bool)
abbrev zoO (E:Qm):aX:=dh (((((Tabs.nil.addF 161 (ae.un E.fK)).addF 235 (ae.un E.zbl)).addF 232 (ae.un E.c232)).addF 233 (ae.un E.c233)).addF 234 (ae.un E.c234)) []
def zoP:bW:=aU ax 201 [] {}
def zh6 (E:Qm):placed->ae (Bool):=ae.ty (aF ax E.N (zoO E) zoP 201)
abbrev Ux (n:Int) (a:placed):placed:={ a with af:={ a.af with Kind:=n } }
section
variable (E:Qm){A:Type}(k:Bool->Option A)
def Gq (E:Qm) (a0:placed) (v16:Bool){A:Type}(k:Bool->Option A):Option A :=
  iG ax (zoO E) E.N zoP 201 [1,1,0,0] [.o 4] (iH k)
    ⟨[(16,.bool v16),(15,.int a0.af.Kind),(14,.cl (.ptr 1 0)),(13,.cl (.ptr 1 0)),(1,.cl (.ptr 1 0)),(3,.cl (.ptr 3 0))],[(1,eB 185 a0),(3,.box 301 [.p (.nilf),.p (.fna 232 (bG.enc a0)),.p (.fna 233 (bG.enc a0)),.p (.fna 234 (bG.enc a0))])],[(2,1,0)]⟩
def sF (E:Qm) (n:Nat) (a0:placed) (v36:Int){A:Type}(k:Bool->Option A):Option A :=
  iG ax (zoO E) E.N zoP 201 [1,1,1,0,1,0] [.n n] (iH k)
    ⟨[(1,.cl (.ptr 1 0)),(34,eP a0.af.Dead),(35,.int (a0.af.Dead.len:Int)),(36,.int v36)],[(1,eB 185 a0)],[]⟩
theorem zEZ (a0:placed):(zh6 E (a0)).T k =
  (E.fK (a0.af.Kind,1,3)).T λ r1 =>
  Gq E a0 r1 k:=bH.trans (by kernel_rfl)
theorem zh7 (a0:placed):Gq E a0 false k =
  k false:=by kernel_rfl
theorem zh8 (a0:placed):Gq E (Ux 1 a0) true k =
  (E.zbl (Ux 1 a0)).T λ r1 =>
  cond (!r1)
  (k false)
  ((E.c232 (Ux 1 a0)).T λ r2 =>
 cond (!r2)
 (k false)
 (sF E E.N (Ux 1 a0) 0 k)):=by kernel_rfl
theorem zh9 (a0:placed):Gq E (Ux 2 a0) true k =
  (E.zbl (Ux 2 a0)).T λ r1 =>
  cond (!r1)
  (k false)
  ((E.c233 (Ux 2 a0)).T λ r2 =>
 cond (!r2)
 (k false)
 (sF E E.N (Ux 2 a0) 0 k)):=by kernel_rfl
theorem zia (a0:placed):Gq E (Ux 3 a0) true k =
  (E.zbl (Ux 3 a0)).T λ r1 =>
  cond (!r1)
  (k false)
  ((E.c234 (Ux 3 a0)).T λ r2 =>
 cond (!r2)
 (k false)
 (sF E E.N (Ux 3 a0) 0 k)):=by kernel_rfl
theorem zdz (n0:Nat) (a0:placed) (v36:Int):sF E (n0+1) a0 v36 k =
  cond (decide (v36 < (a0.af.Dead.len:Int)))
  (bf (decide (0<=v36/\v36 < (a0.af.Dead.len:Int))) ((E.fK (a0.af.Dead.get v36.toNat,0,(aO (a0.af.bM - 1)))).T λ r1 =>
 cond (!r1)
 (k false)
 (cond (decide (v36 > 0))
 (bf (decide (0<=(aO (v36 - 1))/\(aO (v36 - 1)) < (a0.af.Dead.len:Int))) (cond (decide (a0.af.Dead.get v36.toNat<=a0.af.Dead.get (aO (v36 - 1)).toNat))
 (k false)
 (sF E n0 a0 (aO (v36+1)) k)))
 (sF E n0 a0 (aO (v36+1)) k))))
  (k (decide ((a0.af.Dead.len:Int)<=100))):=by kernel_rfl
end
theorem zE1 [aJ] (E:Qm) (jC:Ok ax 161 (ae.un E.fK)) (zdA:Ok ax 235 (ae.un E.zbl)) (zoQ:Ok ax 232 (ae.un E.c232)) (zoR:Ok ax 233 (ae.un E.c233)) (zoS:Ok ax 234 (ae.un E.c234)):Ok ax 201 (ae.un (zh6 E)):=aY (aP (((((ay.nil.addF jC).addF zdA).addF zoQ).addF zoR).addF zoS) (ak (by kernel_rfl)))
structure Y9 where
  N:Nat
abbrev zE2 (E:Y9):aX:=dh Tabs.nil []
def zE3:bW:=aU ax 232 [] {}
def zib (E:Y9):placed->ae (Bool):=ae.ty (aF ax E.N (zE2 E) zE3 232)
section
variable (E:Y9){A:Type}(k:Bool->Option A)
theorem e232 (a0:placed):(zib E (a0)).T k =
  k ((a0.af.aQ.len:Int) == 0):=bH.trans (by kernel_rfl)
end
theorem zE4 [aJ] (E:Y9):Ok ax 232 (ae.un (zib E)):=aY (aP ay.nil (ak (by kernel_rfl)))
structure Uy where
  N:Nat
  fK:Int×Int×Int->ae (Bool)
abbrev zxl (E:Uy):aX:=dh (Tabs.nil.addF 161 (ae.un E.fK)) []
def zxm:bW:=aU ax 233 [] {}
def zic (E:Uy):placed->ae (Bool):=ae.ty (aF ax E.N (zxl E) zxm 233)
section
variable (E:Uy){A:Type}(k:Bool->Option A)
def AY (E:Uy) (n:Nat) (a0:placed) (v9:Int){A:Type}(k:Bool->Option A):Option A :=
  iG ax (zxl E) E.N zxm 233 [1,0,1,0] [.n n] (iH k)
    ⟨[(1,.cl (.ptr 1 0)),(7,eP a0.af.aQ),(8,.int (a0.af.aQ.len:Int)),(9,.int v9)],[(1,eB 185 a0)],[]⟩
theorem e233 (a0:placed):(zic E (a0)).T k =
  AY E E.N a0 0 k:=bH.trans (by kernel_rfl)
theorem zdB (n0:Nat) (a0:placed) (v9:Int):AY E (n0+1) a0 v9 k =
  cond (decide (v9 < (a0.af.aQ.len:Int)))
  (bf (decide (0<=v9/\v9 < (a0.af.aQ.len:Int))) ((E.fK ((a0.af.aQ.get v9.toNat).Time,0,1000000)).T λ r1 =>
 cond (!r1)
 (k false)
 ((E.fK ((a0.af.aQ.get v9.toNat).dI.Low,0,(a0.af.aQ.get v9.toNat).dI.High)).T λ r2 =>
 cond (!r2)
 (k false)
 (cond (decide ((a0.af.aQ.get v9.toNat).dI.High > (aO (a0.af.aZ.tdiv 2))))
 (k false)
 (cond (decide (v9 > 0))
 (bf (decide (0<=(aO (v9 - 1))/\(aO (v9 - 1)) < (a0.af.aQ.len:Int))) (cond (decide ((a0.af.aQ.get v9.toNat).Time<=(a0.af.aQ.get (aO (v9 - 1)).toNat).Time))
 (k false)
 (bf (decide (0<=(aO (v9 - 1))/\(aO (v9 - 1)) < (a0.af.aQ.len:Int))) (cond (decide ((a0.af.aQ.get v9.toNat).dI.Low < (a0.af.aQ.get (aO (v9 - 1)).toNat).dI.Low))
 (k false)
 (bf (decide (0<=(aO (v9 - 1))/\(aO (v9 - 1)) < (a0.af.aQ.len:Int))) (cond (decide ((a0.af.aQ.get v9.toNat).dI.High < (a0.af.aQ.get (aO (v9 - 1)).toNat).dI.High))
 (k false)
 (AY E n0 a0 (aO (v9+1)) k)))))))
 (AY E n0 a0 (aO (v9+1)) k))))))
  ((E.fK ((a0.af.aQ.len:Int),1,50)).T λ r3 =>
 k r3):=by kernel_rfl
end
theorem zE5 [aJ] (E:Uy) (jC:Ok ax 161 (ae.un E.fK)):Ok ax 233 (ae.un (zic E)):=aY (aP (ay.nil.addF jC) (ak (by kernel_rfl)))
structure Za where
  N:Nat
abbrev zE6 (E:Za):aX:=dh Tabs.nil []
def zE7:bW:=aU ax 234 [] {}
def zid (E:Za):placed->ae (Bool):=ae.ty (aF ax E.N (zE6 E) zE7 234)
section
variable (E:Za){A:Type}(k:Bool->Option A)
theorem e234 (a0:placed):(zid E (a0)).T k =
  k ((a0.af.aQ.len:Int) == 0):=bH.trans (by kernel_rfl)
end
theorem zE8 [aJ] (E:Za):Ok ax 234 (ae.un (zid E)):=aY (aP ay.nil (ak (by kernel_rfl)))
structure Zb where
  N:Nat
  fK:Int×Int×Int->ae (Bool)
  c164:bZ×Int->ae (Bool)
abbrev zE9 (E:Zb):aX:=dh ((Tabs.nil.addF 161 (ae.un E.fK)).addF 164 (ae.un E.c164)) []
def zFa:bW:=aU ax 235 [] {}
def zie (E:Zb):placed->ae (Bool):=ae.ty (aF ax E.N (zE9 E) zFa 235)
section
variable (E:Zb){A:Type}(k:Bool->Option A)
theorem zFb (a0:placed):(zie E (a0)).T k =
  (E.fK (a0.af.View,1,2)).T λ r1 =>
  cond (!r1)
  (k false)
  ((E.fK (a0.af.Z,0,100000)).T λ r2 =>
 cond (!r2)
 (k false)
 ((E.fK (a0.af.First,(-1000000),1000000)).T λ r3 =>
 cond (!r3)
 (k false)
 ((E.fK (a0.af.aZ,2,100000)).T λ r4 =>
 cond (!r4)
 (k false)
 ((E.fK (a0.af.bM,1,2000)).T λ r5 =>
 cond (!r5)
 (k false)
 ((E.fK (a0.af.dC,0,100000)).T λ r6 =>
 cond (!r6)
 (k false)
 ((E.c164 (a0.af.bu,1000000)).T λ r7 =>
 cond (!r7)
 (k false)
 ((E.c164 (a0.af.Clock,1000000000)).T λ r8 =>
 cond (!r8)
 (k false)
 ((E.fK (a0.af.dH,0,1000000)).T λ r9 =>
 cond (!r9)
 (k false)
 ((E.fK (a0.af.Least,0,1000000)).T λ r10 =>
 cond (!r10)
 (k false)
 (cond (decide ((aO ((aO ((aO (a0.af.First - a0.af.aZ)) - a0.af.dC))+a0.af.bu.Low)) >= (-1000000)))
 (k (decide ((aO ((aO ((aO (a0.af.First+(aO ((aO (a0.af.bM+1)) * a0.af.aZ))))+a0.af.dC))+a0.af.bu.High))<=1000000)))
 (k false))))))))))):=bH.trans (by kernel_rfl)
end
theorem zFc [aJ] (E:Zb) (jC:Ok ax 161 (ae.un E.fK)) (Qn:Ok ax 164 (ae.un E.c164)):Ok ax 235 (ae.un (zie E)):=aY (aP ((ay.nil.addF jC).addF Qn) (ak (by kernel_rfl)))
structure Zc where
  N:Nat
  c160:au->ae (Bool)
  ql:au×bC->ae (placed×Bool)
abbrev zFd (E:Zc):aX:=dh ((Tabs.nil.addF 160 (ae.un E.c160)).addF 112 (ae.un E.ql)) []
def zFe:bW:=aU ax 188 [] {}
def zif (E:Zc):au×bC->ae (Bool):=ae.ty (aF ax E.N (zFd E) zFe 188)
section
variable (E:Zc){A:Type}(k:Bool->Option A)
theorem zFf (a0:au) (a1:bC):(zif E (a0,a1)).T k =
  (E.c160 a0).T λ r1 =>
  cond (!r1)
  (k false)
  ((E.ql (a0,a1)).T λ r2 =>
 k r2.2):=bH.trans (by kernel_rfl)
end
theorem zFg [aJ] (E:Zc) (xE:Ok ax 160 (ae.un E.c160)) (h112:Ok ax 112 (ae.un E.ql)):Ok ax 188 (ae.un (zif E)):=aY (aP ((ay.nil.addF xE).addF h112) (ak (by kernel_rfl)))
structure Zd where
  N:Nat
  zbk:placed×Int×Int->ae (aC)
  zlp:placed×Int->ae (Int×Int)
abbrev zFh (E:Zd):aX:=dh ((Tabs.nil.addF 223 (ae.un E.zbk)).addF 224 (ae.un E.zlp)) []
def zFi:bW:=aU ax 189 [] {}
def zih (E:Zd):placed×bC->ae ((Sl aC)):=ae.ty (aF ax E.N (zFh E) zFi 189)
section
variable (E:Zd){A:Type}(k:(Sl aC)->Option A)
theorem e189 (a0:placed) (a1:bC):(zih E (a0,a1)).T k =
  cond (a0.af.Kind != 2)
  (cond (decide ((aO ((aO (a0.af.First+(aO ((aO ((aO (a1.Channel+a1.iM)) - 1)) * a0.af.aZ)))) - a0.af.dC)) > (aO ((aO (a0.af.First+(aO ((aO (a1.Channel+1)) * a0.af.aZ))))+a0.af.dC))))
 (k (⟨0,λ _=>default⟩:(Sl aC)))
 ((E.zbk (a0,(aO ((aO (a0.af.First+(aO ((aO ((aO (a1.Channel+a1.iM)) - 1)) * a0.af.aZ)))) - a0.af.dC)),(aO ((aO (a0.af.First+(aO ((aO (a1.Channel+1)) * a0.af.aZ))))+a0.af.dC)))).T λ r1 =>
 k (⟨1,(fun _=>r1)⟩:(Sl aC))))
  ((E.zlp (a0,a1.aQ)).T λ r2 =>
 (E.zbk (a0,(aO ((aO (a0.af.First+(aO (a1.Channel * a0.af.aZ)))) - r2.2)),(aO ((aO (a0.af.First+(aO (a1.Channel * a0.af.aZ)))) - r2.1)))).T λ r3 =>
 (E.zbk (a0,(aO ((aO (a0.af.First+(aO (a1.Channel * a0.af.aZ))))+r2.1)),(aO ((aO (a0.af.First+(aO (a1.Channel * a0.af.aZ))))+r2.2)))).T λ r4 =>
 cond (decide (r3.High >= r4.Low))
 (k (⟨1,(λ _=>(⟨a0.af.Z,r3.Low,r4.High⟩:aC))⟩:(Sl aC)))
 (k (⟨2,(Qi [r3,r4])⟩:(Sl aC)))):=bH.trans (by kernel_rfl)
end
theorem zFj [aJ] (E:Zd) (zoT:Ok ax 223 (ae.un E.zbk)) (zoU:Ok ax 224 (ae.un E.zlp)):Ok ax 189 (ae.un (zih E)):=aY (aP ((ay.nil.addF zoT).addF zoU) (ak (by kernel_rfl)))
structure Ze where
  N:Nat
abbrev zFk (E:Ze):aX:=dh Tabs.nil []
def zFl:bW:=aU ax 223 [] {}
def zii (E:Ze):placed×Int×Int->ae (aC):=ae.ty (aF ax E.N (zFk E) zFl 223)
section
variable (E:Ze){A:Type}(k:aC->Option A)
theorem e223 (a0:placed) (a1:Int) (a2:Int):(zii E (a0,a1,a2)).T k =
  k (⟨a0.af.Z,(aO (a1+a0.af.bu.Low)),(aO (a2+a0.af.bu.High))⟩:aC):=bH.trans (by kernel_rfl)
end
theorem zFm [aJ] (E:Ze):Ok ax 223 (ae.un (zii E)):=aY (aP ay.nil (ak (by kernel_rfl)))
structure Qo where
  N:Nat
  zlw:(Pt (Sl aQ))->ae (List (Int×aQ))
abbrev zoV (E:Qo):aX:=dh ((Tabs.nil.addF 246 (aF ax E.N (dh Tabs.nil []) (aU ax 246 [] {}) 246)).addI 251 (ae.unI E.zlw)) []
def zoW:bW:=aU ax 224 [] {}
def zij (E:Qo):placed×Int->ae (Int×Int):=ae.ty (aF ax E.N (zoV E) zoW 224)
section
variable (E:Qo){A:Type}(k:(Int×Int)->Option A)
def Gs (E:Qo) (n:Nat) (a0:placed) (a1:Int) (v6:Int) (v20:Int) (yN:Int){A:Type}(k:(Int×Int)->Option A):Option A :=
  iG ax (zoV E) E.N zoW 224 [1,1,0,1,0] [.n n] (iH k)
    ⟨[(2,.cl (.ptr 2 0)),(3,.cl (.ptr 3 0)),(6,.int v6),(7,.cl (.ptr 7 0)),(18,eP a0.af.aQ),(19,.int (a0.af.aQ.len:Int)),(20,.int v20)],[(2,eB 185 a0),(3,eB 3 a1),(7,eB 3 yN)],[]⟩
def AZ (E:Qo) (l:List (Int×aQ)) (a0:placed) (a1:Int) (v6:Int) (yN:Int){A:Type}(k:(Int×Int)->Option A):Option A :=
  iG ax (zoV E) E.N zoW 224 [1,1,1,0,1,0] [.y (l.map dw.enc)] (iH k)
    ⟨[(2,.cl (.ptr 2 0)),(3,.cl (.ptr 3 0)),(6,.int v6),(7,.cl (.ptr 7 0)),(39,.p (.fn 251 [] [.fp [.sl a0.af.aQ.len 3 (λ i=>bG.enc (a0.af.aQ.get i))] 0]))],[(2,eB 185 a0),(3,eB 3 a1),(7,eB 3 yN)],[]⟩
theorem e224 (a0:placed) (a1:Int):(zij E (a0,a1)).T k =
  Gs E E.N a0 a1 0 0 (aO (a0.af.aZ.tdiv 2)) k:=bH.trans (by kernel_rfl)
theorem zdC (n0:Nat) (a0:placed) (a1:Int) (v6:Int) (v20:Int) (yN:Int):Gs E (n0+1) a0 a1 v6 v20 yN k =
  cond (decide (v20 < (a0.af.aQ.len:Int)))
  (bf (decide (0<=v20/\v20 < (a0.af.aQ.len:Int))) (cond (decide ((a0.af.aQ.get v20.toNat).Time<=(aO (a1 - a0.af.dH))))
 (Gs E n0 a0 a1 (a0.af.aQ.get v20.toNat).dI.Low (aO (v20+1)) yN k)
 (Gs E n0 a0 a1 v6 (aO (v20+1)) yN k)))
  ((E.zlw (⟨a0.af.aQ⟩:(Pt (Sl aQ)))).T λ r1 =>
 AZ E r1 a0 a1 v6 yN k):=by kernel_rfl
theorem zik (a0:placed) (a1:Int) (v6:Int) (yN:Int):AZ E [] a0 a1 v6 yN k =
  k (v6,yN):=by kernel_rfl
theorem zoX (y:Int×aQ) (l0:List (Int×aQ)) (a0:placed) (a1:Int) (v6:Int) (yN:Int):AZ E (y :: l0) a0 a1 v6 yN k =
  cond (decide (y.2.Time >= (aO (a1+a0.af.dH))))
  (AZ E l0 a0 a1 v6 y.2.dI.High k)
  (AZ E l0 a0 a1 v6 yN k):=by kernel_rfl
end
theorem zFn [aJ] (E:Qo) (zFo:qB ax 251 (ae.unI E.zlw)):Ok ax 224 (ae.un (zij E)):=aY (aP ((ay.nil.addF (aP ay.nil (ak (by kernel_rfl)))).addI zFo) (ak (by kernel_rfl)))
structure Qp where
  N:Nat
abbrev zxn (E:Qp):aX:=dh Tabs.nil []
def zxo:bW:=aU ax 251 [0] { yl:=[3] }
def zxp (E:Qp) (c:List PA):YO:=aI ax (zxn E) E.N zxo 251 c
def zoY (E:Qp):(Pt (Sl aQ))->ae (List (Int×aQ)):=ae.tyI λ c=>.opt (zxp E c)
section
variable (E:Qp)
def MS (E:Qp) (n:Nat) (a1:(Pt (Sl aQ))) (v3:Int):YO :=
  ptY ax (zxn E) E.N zxo 251 [1,0] [n]
    ⟨[(0,.cl (.vec 4095)),(1,eP a1),(3,.int v3)],[(4095,.gone)],[]⟩
theorem e251 (a1:(Pt (Sl aQ))):zxp E (dw.enc ((a1):(Pt (Sl aQ)))) =
  MS E E.N a1 (aO ((a1.v.len:Int) - 1)):=by kernel_rfl
theorem zdD (n0:Nat) (a1:(Pt (Sl aQ))) (v3:Int):MS E (n0+1) a1 v3 =
  cond (decide (v3 >= 0))
  (bf (decide (0<=v3/\v3 < (a1.v.len:Int))) (yT (dw.enc ((v3,(a1.v.get v3.toNat)):Int×aQ)) (some [])
 (MS E n0 a1 (aO (v3 - 1)))))
  (some []):=by kernel_rfl
end
theorem zFp (E:Qp):qB ax 251 (ae.unI (zoY E)):=MF (F6 ay.nil (ak (by kernel_rfl)))
theorem bg {x:Int}(h1 : -9223372036854775808<=x) (h2:x<=9223372036854775807):aO x=x:=by
 have hb:IntKind.i64.bits=64:=rfl;have hs:IntKind.i64.signed=true:=rfl;unfold aO IntKind.wrap;rw[hb,hs];simp only[Bool.true_and,decide_eq_true_eq];split <;> omega
theorem bT {i:Nat}(h:i < 4611686018427387904):aO ((i:Int)+1)=((i+1:Nat):Int):=by rw[bg (by omega) (by omega)];omega
theorem A7 {i:Nat}(h:i < 4611686018427387904):aO ((i:Int) - 1)=(i:Int) - 1:=bg (by omega) (by omega)
section
variable {A ρ:Type}
theorem bn {r:ρ}{k:ρ->Option A} : (ae.ok r).T k=k r:=rfl
theorem bD {p:Prop} [Decidable p] {x:Option A}(h:p):bf (decide p) x=x:=by rw[decide_eq_true h];rfl
theorem zxq {p:Prop} [Decidable p] {x y:Option A}(h:p):cond (decide p) x y=x:=by rw[decide_eq_true h];rfl
theorem zxr {p:Prop} [Decidable p] {x y:Option A}(h : ¬ p):cond (decide p) x y=y:=by rw[decide_eq_false h];rfl
theorem kc {τ:Type}(f:τ->Option A) (b:Bool) (x y:τ):cond b (f x) (f y)=f (cond b x y):=by cases b <;> rfl
theorem two (Y s:Option A):∃ f:Bool->Option A,f true=Y/\f false=s:=⟨λ b=>cond b Y s,rfl,rfl⟩
theorem zdE (k:Bool->Option A) (a b:Bool):cond a (k b) (k false)=k (a && b):=by cases a <;> rfl
end
theorem dG {p:Nat->Bool}{n:Nat} : dR p n=true↔∀ i,i < n->p i=true:=by
 refine⟨λ h i hi=>KW h i hi,λ h=>?_⟩
 induction n with
 | zero=>rfl
 | succ n ih=>simp only[dR,ih λ i hi=>h i (by omega),h n (by omega),Bool.and_self]
section
variable {A:Type}
theorem zxs {L : Nat → Int → Option A} {p : Nat → Bool} {m : Nat} {fin stop : Option A} (hm : m < 4611686018427387904)
    (hL:∀ n i,i < m->(∀ j,j < i->p j=true)->L (n+1) (i:Int)=cond (p i) (L n (aO ((i:Int)+1))) stop) (hE:∀ n,(∀ j,j < m->p j=true)->L (n+1) (m:Int)=fin) :
    ∀ n,m < n->L n 0=cond (dR p m) fin stop:=by
  have key:∀ (d i n:Nat),i+d=m->d < n->(∀ j,j < i->p j=true)->L n (i:Int)=cond (dR p m) fin stop:=by
    intro d
    induction d with
    | zero =>
      intro i n hi hn hp;obtain⟨n,rfl⟩:∃ n',n=n'+1:=⟨n - 1,by omega⟩;have e:i=m:=by omega
      subst e;rw[hE n hp,dG.2 hp];rfl
    | succ d ih =>
      intro i n hi hn hp;obtain⟨n,rfl⟩:∃ n',n=n'+1:=⟨n - 1,by omega⟩;rw[hL n i (by omega) hp];cases hi':p i with
      | true =>
        rw[cond_true,bT (by omega)];exact ih (i+1) n (by omega) (by omega) λ j hj=>by
          by_cases e:j=i
          · rw[e];exact hi'
          · exact hp j (by omega)
      | false =>
        have:dR p m=false:=by
          cases e:dR p m with
          | false=>rfl
          | true=>rw[dG.1 e i (by omega)] at hi';cases hi'
        rw[this];rfl
  intro n hn;exact key m 0 n (by omega) hn λ j hj=>absurd hj (by omega)
theorem loopA {L : Nat → Int → Option A} {p : Nat → Bool} {m : Nat} {fin stop : Option A} (hm : m < 4611686018427387904)
    (hL:∀ n i,i < m->L (n+1) (i:Int)=cond (p i) (L n (aO ((i:Int)+1))) stop) (hE:∀ n,L (n+1) (m:Int)=fin) :
    ∀ n,m < n->L n 0=cond (dR p m) fin stop:=zxs hm (λ n i hi _=>hL n i hi) λ n _=>hE n
end
theorem Gt {p q:Nat->Bool}{n:Nat}(h:∀ i,i < n->p i=q i):dR p n=dR q n:=by
 rw[Bool.eq_iff_iff,dG,dG];exact⟨λ g i hi=>by rw[<- h i hi];exact g i hi,λ g i hi=>by rw[h i hi];exact g i hi⟩
def inB (x a b:Int):Bool:=decide (a<=x/\x<=b)
abbrev yO (C:Int×Int×Int->ae Bool):Prop:=∀ x a b,C (x,a,b)=.ok (inB x a b)
theorem s73 {E:E73} : yO (F73 E):=λ x a b=>ae.ext λ k=>by rw[e73,kc k,bn];congr 1;simp only[inB];grind
theorem s86 {E:E86} : yO (F86 E):=λ x a b=>ae.ext λ k=>by rw[e86,kc k,bn];congr 1;simp only[inB];grind
theorem zFq {E:Y4} : yO (zhZ E):=λ x a b=>ae.ext λ k=>by rw[zEG,kc k,bn];congr 1;simp only[inB];grind
theorem zFr {E:Y7} : yO (zh3 E):=λ x a b=>ae.ext λ k=>by rw[e161,kc k,bn];congr 1;simp only[inB];grind
abbrev zoZ (C:Int->ae Bool):Prop:=∀ x,C x=.ok (inB x (-1000000) 1000000)
theorem zFs {E:Y1}(IY:yO E.qw):zoZ (zhU E):=λ x=>ae.ext λ k=>by rw[zEm];simp only[IY,bn]
abbrev Big (N:Nat):Prop:=100000 < N
def stB (l:Sl aQ) (zdF:Int) (i:Nat):Bool :=
  inB (l.get i).Time 0 1000000 && inB (l.get i).dI.Low 0 (l.get i).dI.High && decide ((l.get i).dI.High ≤ aO (zdF.tdiv 2)) &&
    (decide (i=0) || decide ((l.get (i - 1)).Time < (l.get i).Time) && decide ((l.get (i - 1)).dI.Low<=(l.get i).dI.Low) && decide ((l.get (i - 1)).dI.High<=(l.get i).dI.High))
def nS (l:Sl aQ) (zdF:Int):Bool:=dR (stB l zdF) l.len && inB l.len 1 50
theorem Zf {i n:Nat}(h:i < n) (hn:n < 4611686018427387904) (h0:(i:Int) > 0):(0<=aO ((i:Int) - 1)/\aO ((i:Int) - 1) < (n:Int))/\(aO ((i:Int) - 1)).toNat=i - 1:=by
 rw[A7 (by omega)];omega
abbrev zo0 (C:Sl aQ×Int->ae Bool):Prop:=∀ l p,l.len<=60->C (l,p)=.ok (nS l p)
theorem zFt {E:Ur}(N:Big E.N) (IY:yO E.qw):zo0 (zhV E):=λ l p h=>ae.ext λ k=>by
 rw[zEo];refine (loopA (L:=λ n v=>AV E n l p v k) (p:=stB l p) (m:=l.len) (fin:=k (inB l.len 1 50)) (stop:=k false) (by omega) (λ n i hi=>?_) (λ n=>?_) _ (by omega)).trans ?_
 ·obtain ⟨f, h1, h2⟩ := two (AV E n l p (aO ((i : Int) + 1)) k) (k false);rw[zdt,bD (by omega),<- h1,<- h2];simp only[IY,bn,Int.toNat_natCast];by_cases h0:(i:Int) > 0
  ·obtain ⟨p1, p2⟩ := Zf hi (by omega) h0;simp only[bD p1,p2,kc f];congr 1;simp only[stB,inB];grind
  ·simp only [decide_eq_false h0, cond_false, kc f];congr 1;simp only[stB,inB];grind
 ·rw[zdt];simp only[IY,bn,Int.lt_irrefl,decide_false,cond_false]
 ·exact zdE k _ _
def lfP (p:af):Int:=aO (aO (aO (p.First - p.aZ) - p.dC)+p.bu.Low)
def rtP (p:af):Int:=aO (aO (aO (p.First+aO (aO (p.bM+1) * p.aZ))+p.dC)+p.bu.High)
def Xj (p:af):Prop:=(1<=p.Kind/\p.Kind<=3)/\(1<=p.View/\p.View<=2)/\(0<=p.Z/\p.Z<=100000)/\(-1000000<=p.First/\p.First<=1000000)/\(2<=p.aZ/\p.aZ<=100000)/\(1<=p.bM/\p.bM<=2000)/\(0<=p.dC/\p.dC<=100000) /\
 (-1000000<=p.bu.Low/\p.bu.Low<=p.bu.High/\p.bu.High<=1000000)/\(-1000000000<=p.Clock.Low/\p.Clock.Low<=p.Clock.High/\p.Clock.High<=1000000000)/\(0<=p.dH/\p.dH<=1000000)/\(0<=p.Least/\p.Least<=1000000)/\-1000000<=lfP p/\rtP p<=1000000
instance (p:af):Decidable (Xj p):=by unfold Xj;infer_instance
theorem vU {a b:Int}(ha:0<=a/\a<=10000) (hb:0<=b/\b<=100000):0<=a * b/\a * b<=1000000000 :=
 ⟨Int.mul_nonneg ha.1 hb.1,by have:=Int.mul_le_mul ha.2 hb.2 hb.1 (by omega);omega⟩
theorem zxt {p : af} (h1 : -1000000 ≤ p.First ∧ p.First ≤ 1000000) (h2 : 2 ≤ p.aZ ∧ p.aZ ≤ 100000) (h3 : 1 ≤ p.bM ∧ p.bM ≤ 2000) (h4 : 0 ≤ p.dC ∧ p.dC ≤ 100000)
    (h5 : -1000000<=p.bu.Low/\p.bu.Low<=p.bu.High/\p.bu.High<=1000000) :
    lfP p=p.First - p.aZ - p.dC+p.bu.Low/\rtP p=p.First+(p.bM+1) * p.aZ+p.dC+p.bu.High/\lfP p < rtP p:=by
  obtain⟨q1,q2⟩:=vU (a:=p.bM+1) (b:=p.aZ) (by omega) (by omega);have e1:lfP p=p.First - p.aZ - p.dC+p.bu.Low:=by
    unfold lfP;rw[bg (x:=p.First - p.aZ) (by omega) (by omega),bg (x:=p.First - p.aZ - p.dC) (by omega) (by omega),bg (by omega) (by omega)]
  have e2:rtP p=p.First+(p.bM+1) * p.aZ+p.dC+p.bu.High:=by
    unfold rtP;rw[bg (x:=p.bM+1) (by omega) (by omega),bg (x:=(p.bM+1) * p.aZ) (by omega) (by omega),bg (x:=p.First+(p.bM+1) * p.aZ) (by omega) (by omega),bg (x:=p.First+(p.bM+1) * p.aZ+p.dC) (by omega) (by omega),bg (by omega) (by omega)]
  exact⟨e1,e2,by omega⟩
def dB (p:af) (i:Nat):Bool:=inB (p.Dead.get i) 0 (aO (p.bM - 1)) && (decide (i=0) || decide (p.Dead.get (i - 1) < p.Dead.get i))
def Zg (p:af):Bool:=decide (Xj p) && cond (p.Kind == 2) (nS p.aQ p.aZ) (decide (p.aQ.len=0)) && decide (p.Dead.len<=100) && dR (dB p) p.Dead.len
def Few (p:af):Prop:=p.aQ.len<=60/\p.Dead.len<=110
abbrev zo1 (C:af->ae Bool):Prop:=∀ p,Few p->C p=.ok (Zg p)
theorem zFu {E:Jg}(N:Big E.N) (IY:yO E.qw) (zoC:zoZ E.Oe) (zoD:zo0 E.c175):zo1 (zhQ E):=λ p h=>ae.ext λ k=>by
 have hl:=h.1;have hd:=h.2;have lp:pV E E.N p 0 k=k (dR (dB p) p.Dead.len):=by
  refine (loopA (L:=λ n v=>pV E n p v k) (p:=dB p) (m:=p.Dead.len) (fin:=k true) (stop:=k false) (by omega) (λ n i hi=>?_) (λ n=>?_) _ (by omega)).trans ?_
  ·obtain ⟨f, h1, h2⟩ := two (pV E n p (aO ((i : Int) + 1)) k) (k false);rw[zdo,bD (by omega),<- h1,<- h2];simp only[IY,bn,Int.toNat_natCast];by_cases h0:(i:Int) > 0
   ·obtain ⟨p1, p2⟩ := Zf hi (by omega) h0;simp only[bD p1,bD (show 0<=(i:Int)/\(i:Int) < (p.Dead.len:Int) by omega),p2,kc f];congr 1;simp only[dB];grind
   ·simp only [decide_eq_false h0, cond_false, kc f];congr 1;simp only[dB];grind
  ·rw[zdo];simp only[Int.lt_irrefl,decide_false,cond_false]
  ·rw[kc k];congr 1;cases dR (dB p) p.Dead.len <;> rfl
 rw[zEe];simp only[zoz,zoA,zoB,IY,zoC,zoD _ _ hl,bn,lp,kc k];congr 1;have lr:=@zxt p;have e1:aO (aO (aO (p.First - p.aZ) - p.dC)+p.bu.Low)=lfP p:=rfl;have e2:aO (aO (aO (p.First+aO (aO (p.bM+1) * p.aZ))+p.dC)+p.bu.High)=rtP p:=rfl;simp only[e1,e2,Zg,Xj,inB];generalize nS p.aQ p.aZ=A;generalize dR (dB p) p.Dead.len=B
 grind (splits:=60)
def pW (s:au):Prop:=s.aj.len<=20/\∀ i,i < s.aj.len->Few (s.aj.get i)
def seB (s:au) (i:Nat):Bool:=Zg (s.aj.get i) && (decide (i=0) || decide ((s.aj.get (i - 1)).Z < (s.aj.get i).Z))
def dU (s:au):Bool:=inB s.aj.len 1 16 && dR (seB s) s.aj.len
abbrev QSe (C:au->ae Bool):Prop:=∀ s,pW s->C s=.ok (dU s)
theorem s61 {E:E61}(N:Big E.N) (IY:yO E.qw) (zos:zo1 E.c124):QSe (F61 E):=λ s h=>ae.ext λ k=>by
 have hl:=h.1;rw[e61];have lp:Gg E E.N s 0 k=k (dR (seB s) s.aj.len):=by
  refine (loopA (L:=λ n v=>Gg E n s v k) (p:=seB s) (m:=s.aj.len) (fin:=k true) (stop:=k false) (by omega) (λ n i hi=>?_) (λ n=>?_) _ (by omega)).trans ?_
  ·obtain ⟨f, h1, h2⟩ := two (Gg E n s (aO ((i : Int) + 1)) k) (k false);rw[zlZ,bD (by omega),<- h1,<- h2];simp only[Int.toNat_natCast,zos _ (h.2 i hi),bn];by_cases h0:(i:Int) > 0
   ·obtain ⟨p1, p2⟩ := Zf hi (by omega) h0;simp only[bD p1,bD (show 0<=(i:Int)/\(i:Int) < (s.aj.len:Int) by omega),p2,kc f];congr 1;simp only[seB];grind
   ·simp only [decide_eq_false h0, cond_false, kc f];congr 1;simp only[seB];grind
  ·rw[zlZ];simp only[Int.lt_irrefl,decide_false,cond_false]
  ·rw[kc k];congr 1;cases dR (seB s) s.aj.len <;> rfl
 simp only[IY,bn,lp,kc k];congr 1;simp only[dU];cases inB s.aj.len 1 16 <;> rfl
/-! The program. -/
abbrev zim (C:bZ×Int->ae Bool):Prop:=∀ x m,0<=m/\m<=1000000000->C (x,m)=.ok (decide (-m<=x.Low/\x.Low<=x.High/\x.High<=m))
theorem zFv {E:Y8}(jC:yO E.fK):zim (zh5 E):=λ x m h=>ae.ext λ k=>by
 rw[zEX];simp only[jC,bn,bg (x:=0 - m) (by omega) (by omega),kc k];congr 1;simp only[inB];grind
def shB (p:af):Bool:=decide ((1<=p.View/\p.View<=2)/\(0<=p.Z/\p.Z<=100000)/\(-1000000<=p.First/\p.First<=1000000)/\(2<=p.aZ/\p.aZ<=100000)/\(1<=p.bM/\p.bM<=2000)/\(0<=p.dC/\p.dC<=100000) /\
 (-1000000<=p.bu.Low/\p.bu.Low<=p.bu.High/\p.bu.High<=1000000)/\(-1000000000<=p.Clock.Low/\p.Clock.Low<=p.Clock.High/\p.Clock.High<=1000000000)/\(0<=p.dH/\p.dH<=1000000)/\(0<=p.Least/\p.Least<=1000000)/\-1000000<=lfP p/\rtP p<=1000000)
abbrev zo2 (C:placed->ae Bool):Prop:=∀ p,C p=.ok (shB p.af)
theorem zFw {E:Zb}(jC:yO E.fK) (Qn:zim E.c164):zo2 (zie E):=λ p=>ae.ext λ k=>by
 rw[zFb];simp only[jC,Qn _ _ (show (0:Int)<=1000000/\(1000000:Int)<=1000000000 by omega),Qn _ _ (show (0:Int)<=1000000000/\(1000000000:Int)<=1000000000 by omega),bn,kc k];congr 1;have e1:aO (aO (aO (p.af.First - p.af.aZ) - p.af.dC)+p.af.bu.Low)=lfP p.af:=rfl;have e2:aO (aO (aO (p.af.First+aO (aO (p.af.bM+1) * p.af.aZ))+p.af.dC)+p.af.bu.High)=rtP p.af:=rfl;simp only[e1,e2,shB,inB]
 grind (splits:=60)
abbrev Zh (C:placed->ae Bool):Prop:=∀ p,C p=.ok (decide (p.af.aQ.len=0))
theorem zFx {E:Y9} : Zh (zib E):=λ p=>ae.ext λ k=>by
 rw[e232,bn];congr 1;grind
theorem zFy {E:Za} : Zh (zid E):=λ p=>ae.ext λ k=>by
 rw[e234,bn];congr 1;grind
abbrev zo3 (C:placed->ae Bool):Prop:=∀ q,Few q.af->C q=.ok (nS q.af.aQ q.af.aZ)
theorem zFz {E:Uy}(N:Big E.N) (jC:yO E.fK):zo3 (zic E):=λ q h=>ae.ext λ k=>by
 rw[e233];have h':=h.1;refine (loopA (L:=λ n v=>AY E n q v k) (p:=stB q.af.aQ q.af.aZ) (m:=q.af.aQ.len) (fin:=k (inB q.af.aQ.len 1 50)) (stop:=k false) (by omega) (λ n i hi=>?_) (λ n=>?_) _ (by omega)).trans ?_
 ·obtain ⟨f, h1, h2⟩ := two (AY E n q (aO ((i : Int) + 1)) k) (k false);rw[zdB,bD (by omega),<- h1,<- h2];simp only[jC,bn,Int.toNat_natCast];by_cases h0:(i:Int) > 0
  ·obtain ⟨p1, p2⟩ := Zf hi (by omega) h0;simp only[bD p1,p2,kc f];congr 1;simp only[stB,inB];grind
  ·simp only [decide_eq_false h0, cond_false, kc f];congr 1;simp only[stB,inB];grind
 ·rw[zdB];simp only[jC,bn,Int.lt_irrefl,decide_false,cond_false]
 ·exact zdE k _ _
abbrev zo4 (C:placed->ae Bool):Prop:=∀ q,Few q.af->C q=.ok (Zg q.af)
theorem zFA {E:Qm}(N:Big E.N) (jC:yO E.fK) (zdA:zo2 E.zbl) (zoQ:Zh E.c232) (zoR:zo3 E.c233) (zoS:Zh E.c234):zo4 (zh6 E):=λ q h=>ae.ext λ k=>by
 have lp:∀ q:placed,Few q.af->sF E E.N q 0 k=k (decide (q.af.Dead.len<=100) && dR (dB q.af) q.af.Dead.len):=by
  intro q h;have h':=h.2;refine (loopA (L:=λ n v=>sF E n q v k) (p:=dB q.af) (m:=q.af.Dead.len) (fin:=k (decide (q.af.Dead.len<=100))) (stop:=k false) (by omega) (λ n i hi=>?_) (λ n=>?_) _ (by omega)).trans ?_
  ·obtain ⟨f, h1, h2⟩ := two (sF E n q (aO ((i : Int) + 1)) k) (k false);rw[zdz,bD (by omega),<- h1,<- h2];simp only[jC,bn,Int.toNat_natCast];by_cases h0:(i:Int) > 0
   ·obtain ⟨p1, p2⟩ := Zf hi (by omega) h0;simp only[bD p1,p2,kc f];congr 1;simp only[dB];grind
   ·simp only [decide_eq_false h0, cond_false, kc f];congr 1;simp only[dB];grind
  ·rw[zdz];simp only[Int.lt_irrefl,decide_false,cond_false];congr 1;grind
  ·rw[zdE,Bool.and_comm]
 rw[zEZ];simp only[jC,bn];have fin:Zg q.af=(inB q.af.Kind 1 3 && shB q.af && cond (q.af.Kind == 2) (nS q.af.aQ q.af.aZ) (decide (q.af.aQ.len=0)) && (decide (q.af.Dead.len<=100) && dR (dB q.af) q.af.Dead.len)):=by
  simp only[Zg,Xj,shB,inB];generalize nS q.af.aQ q.af.aZ=A;generalize dR (dB q.af) q.af.Dead.len=B
  grind (splits:=60)
 rw[fin];cases hk:inB q.af.Kind 1 3 with
 | false=>exact zh7 _ _ _
 | true =>
  simp only[inB,decide_eq_true_eq] at hk;have hc:q.af.Kind=1\/q.af.Kind=2\/q.af.Kind=3:=by omega
  obtain⟨⟨kd,vw,z,fi,pi,st,sp,of,cl,ji,le,dr,de⟩,ix⟩:=q;rcases hc with e | e | e <;> simp only at e <;> subst e
  ·refine (zh8 E k ⟨⟨1, vw, z, fi, pi, st, sp, of, cl, ji, le, dr, de⟩, ix⟩).trans ?_;simp only[zdA _,zoQ _,bn,lp ⟨⟨1,vw,z,fi,pi,st,sp,of,cl,ji,le,dr,de⟩,ix⟩ h,kc k,Ux];congr 1;grind
  ·refine (zh9 E k ⟨⟨2, vw, z, fi, pi, st, sp, of, cl, ji, le, dr, de⟩, ix⟩).trans ?_;simp only[zdA _,zoR ⟨⟨2,vw,z,fi,pi,st,sp,of,cl,ji,le,dr,de⟩,ix⟩ h,bn,lp ⟨⟨2,vw,z,fi,pi,st,sp,of,cl,ji,le,dr,de⟩,ix⟩ h,kc k,Ux];congr 1;grind
  ·refine (zia E k ⟨⟨3, vw, z, fi, pi, st, sp, of, cl, ji, le, dr, de⟩, ix⟩).trans ?_;simp only[zdA _,zoS _,bn,lp ⟨⟨3,vw,z,fi,pi,st,sp,of,cl,ji,le,dr,de⟩,ix⟩ h,kc k,Ux];congr 1;grind
theorem zFB {E:Uw}(N:Big E.N) (zoN:zo4 E.c201) (jC:yO E.fK):QSe (zh4 E):=λ s h=>ae.ext λ k=>by
 rw[e160];have h':=h.1;refine (loopA (L:=λ n v=>AX E n s v k) (p:=seB s) (m:=s.aj.len) (fin:=k (inB s.aj.len 1 16)) (stop:=k false) (by omega) (λ n i hi=>?_) (λ n=>?_) _ (by omega)).trans ?_
 ·obtain ⟨f, h1, h2⟩ := two (AX E n s (aO ((i : Int) + 1)) k) (k false);rw[zdy,bD (by omega),<- h1,<- h2];simp only[Int.toNat_natCast,zoN ⟨s.aj.get i,(i:Int)⟩ (h.2 i hi),bn];by_cases h0:(i:Int) > 0
  ·obtain ⟨p1, p2⟩ := Zf hi (by omega) h0;simp only[bD p1,p2,kc f];congr 1;simp only[seB];grind
  ·simp only [decide_eq_false h0, cond_false, kc f];congr 1;simp only[seB];grind
 ·rw[zdy];simp only[jC,bn,Int.lt_irrefl,decide_false,cond_false]
 ·rw[zdE,Bool.and_comm];rfl
abbrev zo5 (C:au->ae Int):Prop:=∀ s,pW s->C s=.ok (cond (dU s) 0 2)
theorem zFC {E:Y3}(xE:QSe E.c160):zo5 (zhY E):=λ s h=>ae.ext λ k=>by
 rw[zEC];simp only[xE s h,bn,kc k];congr 1;cases dU s <;> rfl
theorem jX {A:Type}{X:Nat->Nat->Option A}{m:Nat}{fin:Option A}(hL:∀ n i,i < m->X (n+1) i=X n (i+1)) (hE:∀ n,X (n+1) m=fin):∀ n,m < n->X n 0=fin:=by
 have key:∀ d i n,i+d=m->d < n->X n i=fin:=by
  intro d
  induction d with
  | zero =>
   intro i n hi hn;obtain⟨n,rfl⟩:∃ n',n=n'+1:=⟨n - 1,by omega⟩;have e:i=m:=by omega
   subst e;exact hE n
  | succ d ih =>
   intro i n hi hn;obtain⟨n,rfl⟩:∃ n',n=n'+1:=⟨n - 1,by omega⟩;rw[hL n i (by omega)];exact ih (i+1) n (by omega) (by omega)
 intro n hn;exact key m 0 n (by omega) hn
theorem qO {s:au}(h:dU s=true):1<=s.aj.len/\s.aj.len<=16:=by
 simp only[dU,inB,fE,decide_eq_true_eq] at h;omega
theorem Gu {s:au}(h:dU s=true){i:Nat}(hi:i < s.aj.len):Zg (s.aj.get i)=true:=by
 simp only[dU,fE,dG] at h;have:=h.2 i hi;simp only[seB,fE] at this;exact this.1
theorem zxu {p:af}(h:Zg p=true):Xj p:=by
 simp only[Zg,fE,decide_eq_true_eq] at h;exact h.1.1.1
theorem vV {s:au}(h:dU s=true){i:Nat}(hi:i < s.aj.len):Xj (s.aj.get i):=zxu (Gu h hi)
def knB (p:af) (h:bC):Bool:=cond (p.Kind == 2) (decide (h.iM=1) && inB h.aQ 0 1000000) (cond (p.Kind == 3) (decide (h.aQ=0) && decide (h.Time=0)) (decide (h.aQ=0)))
def lvB (p:af) (h:bC):Bool:=dR (λ j=>!inB (p.Dead.get j) h.Channel (h.Channel+h.iM - 1)) p.Dead.len
def hpB (p:af) (h:bC):Bool:=inB h.Channel 0 (p.bM - 1) && inB h.iM 1 (p.bM - h.Channel) && inB h.xO p.Least 1000000 && inB h.Time (-1000000000) 1000000000 && lvB p h && knB p h
def jY (s:au) (h:bC):Bool:=decide (0<=h.af/\h.af < s.aj.len) && hpB (s.aj.get h.af.toNat) h
abbrev zin (C:af×Int->ae Bool):Prop:=∀ p c,Few p->C (p,c)=.ok (!dR (λ j=>!decide (p.Dead.get j=c)) p.Dead.len)
theorem zFD {E:Um}(N:Big E.N):zin (zhS E):=λ p c h=>ae.ext λ k=>by
 have hd:=h.2;rw[e137];refine (loopA (L:=λ n v=>Gl E n p c v k) (p:=λ j=>!decide (p.Dead.get j=c)) (m:=p.Dead.len) (fin:=k false) (stop:=k true) (by omega) (λ n i hi=>?_) (λ n=>?_) _ (by omega)).trans ?_
 ·obtain ⟨f, h1, h2⟩ := two (Gl E n p c (aO ((i : Int) + 1)) k) (k true);rw[zdr,bD (by omega),<- h1,<- h2];simp only[Int.toNat_natCast,kc f];congr 1;grind
 ·rw[zdr];simp only[Int.lt_irrefl,decide_false,cond_false]
 ·cases dR (λ j=>!decide (p.Dead.get j=c)) p.Dead.len <;> rfl
theorem zxw {p:af}{h:bC}(hm:0<=h.iM):dR (λ i=>dR (λ j=>!decide (p.Dead.get j=h.Channel+(i:Int))) p.Dead.len) h.iM.toNat=lvB p h:=by
 rw[Bool.eq_iff_iff];simp only[lvB,dG,Bool.not_eq_true',decide_eq_false_iff_not,inB];constructor
 ·intro h1 j hj h2;have:=h1 (p.Dead.get j - h.Channel).toNat (by omega) j hj;omega
 ·intro h1 i hi j hj h2;exact h1 j hj (by omega)
abbrev zo6 (C:au×bC->ae Bool):Prop:=∀ s h,pW s->dU s=true->C (s,h)=.ok (jY s h)
theorem zFE {E:Un}(N:Big E.N) (IY:yO E.qw) (Uo:zin E.Jp):zo6 (zhT E):=λ s h hs hb=>ae.ext λ k=>by
 rw[e143,bn];have hl:=qO hb;simp only[IY,bn,bg (x:=(s.aj.len:Int) - 1) (by omega) (by omega)];by_cases hp:0<=h.af/\h.af < s.aj.len
 ·have hn := vV hb (i := h.af.toNat) (by omega);have hf:=hs.2 h.af.toNat (by omega);have e1:inB h.af 0 (s.aj.len - 1)=true:=by simp only[inB,decide_eq_true_eq];omega
  simp only[e1,Bool.not_true,cond_false,bD hp,jY,decide_eq_true hp,Bool.true_and];obtain⟨_,_,_,_,_,hst,_⟩:=hn;simp only[bg (x:=(s.aj.get h.af.toNat).bM - 1) (by omega) (by omega),hpB];cases c1:inB h.Channel 0 ((s.aj.get h.af.toNat).bM - 1) with
  | false=>rfl
  | true =>
  simp only[inB,decide_eq_true_eq] at c1;simp only[Bool.not_true,cond_false,Bool.true_and,bg (x:=(s.aj.get h.af.toNat).bM - h.Channel) (by omega) (by omega)];cases c2:inB h.iM 1 ((s.aj.get h.af.toNat).bM - h.Channel) with
  | false=>rfl
  | true =>
  simp only[inB,decide_eq_true_eq] at c2;simp only[Bool.not_true,cond_false,Bool.true_and];cases inB h.xO (s.aj.get h.af.toNat).Least 1000000 with
  | false=>rfl
  | true =>
  cases inB h.Time (-1000000000) 1000000000 with
  | false=>rfl
  | true =>
  simp only[Bool.not_true,cond_false,Bool.true_and];refine (loopA (L:=λ n v=>MN E n s h v k) (p:=λ i=>dR (λ j=>!decide ((s.aj.get h.af.toNat).Dead.get j=h.Channel+(i:Int))) (s.aj.get h.af.toNat).Dead.len) (m:=h.iM.toNat) (fin:=k (knB (s.aj.get h.af.toNat) h)) (stop:=k false) (by omega) (λ n i hi=>?_) (λ n=>?_) _ (by omega)).trans ?_
  ·rw [zds, decide_eq_true (show (i : Int) < h.iM by omega), cond_true, bg (x := h.Channel + i) (by omega) (by omega), Uo _ _ hf, bn];cases dR (λ j=>!decide ((s.aj.get h.af.toNat).Dead.get j=h.Channel+(i:Int))) (s.aj.get h.af.toNat).Dead.len <;> rfl
  ·rw [zds, decide_eq_false (show ¬ ((h.iM.toNat : Int) < h.iM) by omega), cond_false];simp only[IY,bn,kc k];congr 1;simp only[knB,inB];grind
  ·rw[zdE,zxw (by omega)]
 ·have e1 : inB h.af 0 (s.aj.len - 1) = false := by simp only [inB, decide_eq_false_iff_not]; omega
  simp only[e1,Bool.not_false,cond_true,jY,decide_eq_false hp,Bool.false_and]
def ofP (s:au) (h:bC):placed:=cond (decide (0<=h.af/\h.af < s.aj.len)) ⟨s.aj.get h.af.toNat,h.af⟩ ⟨⟨0,0,0,0,0,0,0,⟨0,0⟩,⟨0,0⟩,0,0,⟨0,λ _=>default⟩,⟨0,λ _=>default⟩⟩,0⟩
abbrev Zi (C:au×bC->ae (placed×Bool)):Prop:=∀ s h,pW s->dU s=true->C (s,h)=.ok (ofP s h,jY s h)
theorem zFF {E:Uu}(N:Big E.N) (jC:yO E.fK):Zi (zh2 E):=λ s h hs hb=>ae.ext λ k=>by
 rw[zEP,bn];have hl:=qO hb;simp only[jC,bn,bg (x:=(s.aj.len:Int) - 1) (by omega) (by omega)];by_cases hp:0<=h.af/\h.af < s.aj.len
 ·have hn := vV hb (i := h.af.toNat) (by omega);have hf:=hs.2 h.af.toNat (by omega);have e1:inB h.af 0 (s.aj.len - 1)=true:=by simp only[inB,decide_eq_true_eq];omega
  simp only[e1,Bool.not_true,cond_false,bD hp,jY,decide_eq_true hp,Bool.true_and,ofP,cond_true];obtain⟨_,_,_,_,_,hst,_⟩:=hn;have hd:=hf.2;simp only[bg (x:=(s.aj.get h.af.toNat).bM - 1) (by omega) (by omega),hpB];cases c1:inB h.Channel 0 ((s.aj.get h.af.toNat).bM - 1) with
  | false=>rfl
  | true =>
  simp only[inB,decide_eq_true_eq] at c1;simp only[Bool.not_true,cond_false,Bool.true_and,bg (x:=(s.aj.get h.af.toNat).bM - h.Channel) (by omega) (by omega)];cases c2:inB h.iM 1 ((s.aj.get h.af.toNat).bM - h.Channel) with
  | false=>rfl
  | true =>
  simp only[inB,decide_eq_true_eq] at c2;simp only[Bool.not_true,cond_false,Bool.true_and];cases inB h.xO (s.aj.get h.af.toNat).Least 1000000 with
  | false=>rfl
  | true =>
  cases c3:inB h.Time (-1000000000) 1000000000 with
  | false=>rfl
  | true =>
  simp only[Bool.not_true,cond_false,Bool.true_and];refine (loopA (L:=λ n v=>MR E n s h v k) (p:=λ j=>!inB ((s.aj.get h.af.toNat).Dead.get j) h.Channel (h.Channel+h.iM - 1)) (m:=(s.aj.get h.af.toNat).Dead.len) (fin:=k (⟨s.aj.get h.af.toNat,h.af⟩,knB (s.aj.get h.af.toNat) h)) (stop:=k (⟨s.aj.get h.af.toNat,h.af⟩,false)) (by omega) (λ n i hi=>?_) (λ n=>?_) _ (by omega)).trans ?_
  ·rw [zdx, decide_eq_true (show (i : Int) < _ by omega), cond_true, bD (by omega), jC, bn, bg (x := h.Channel + h.iM) (by omega) (by omega), bg (x := h.Channel + h.iM - 1) (by omega) (by omega), Int.toNat_natCast];cases inB ((s.aj.get h.af.toNat).Dead.get i) h.Channel (h.Channel+h.iM - 1) <;> rfl
  ·rw [zdx]; simp only [Int.lt_irrefl, decide_false, cond_false, jC, bn, kc k];congr 1;simp only[knB,inB]
   grind
  ·simp only [lvB];cases dR (λ j=>!inB ((s.aj.get h.af.toNat).Dead.get j) h.Channel (h.Channel+h.iM - 1)) (s.aj.get h.af.toNat).Dead.len <;> rfl
 ·have e1 : inB h.af 0 (s.aj.len - 1) = false := by simp only [inB, decide_eq_false_iff_not]; omega
  simp only[e1,Bool.not_false,cond_true,jY,decide_eq_false hp,Bool.false_and,ofP,cond_false]
abbrev zio (C:au×bC->ae Bool):Prop:=∀ s h,pW s->C (s,h)=.ok (dU s && jY s h)
theorem zFG {E:Zc}(xE:QSe E.c160) (h112:Zi E.ql):zio (zif E):=λ s h hs=>ae.ext λ k=>by
 rw[zFf,xE s hs,bn,bn];cases hb:dU s with
 | false=>rfl
 | true=>simp only[Bool.not_true,cond_false,h112 s h hs hb,bn,Bool.true_and]
abbrev zo7 (C:au×bC->ae Int):Prop:=∀ s h,pW s->C (s,h)=.ok (cond (dU s && jY s h) 0 2)
theorem zFH {E:Y5}(Ut:zio E.Og):zo7 (zh0 E):=λ s h hs=>ae.ext λ k=>by
 rw[e138,Ut s h hs,bn,bn];cases dU s && jY s h <;> rfl
def qP (l : Sl aQ) (t : Int) : Nat → Int
  | 0=>0
  | n+1=>cond (decide ((l.get n).Time<=t)) (l.get n).dI.Low (qP l t n)
def uY (l : Sl aQ) (t z : Int) : Nat → Int
  | 0=>z
  | d+1=>cond (decide ((l.get (l.len - 1 - d)).Time >= t)) (l.get (l.len - 1 - d)).dI.High (uY l t z d)
def pX (p:af) (t:Int):Int×Int:=(qP p.aQ (aO (t - p.dH)) p.aQ.len,uY p.aQ (aO (t+p.dH)) (aO (p.aZ.tdiv 2)) p.aQ.len)
abbrev zo8 (C:af×Int->ae (Int×Int)):Prop:=∀ p t,Few p->C (p,t)=.ok (pX p t)
theorem zFI {E:Qj}(N:Big E.N):zo8 (zhR E):=λ p t h=>ae.ext λ k=>by
 have hd:=h.1;rw[zEg,bn];refine jX (X:=λ n i=>Gi E n p t (qP p.aQ (aO (t - p.dH)) i) (aO (p.aZ.tdiv 2)) (i:Int) k) (m:=p.aQ.len) (λ n i hi=>?_) (λ n=>?_) _ (by omega)
 ·rw [zdp, decide_eq_true (show (i : Int) < _ by omega), cond_true, bD (by omega), bD (by omega), bT (by omega), Int.toNat_natCast];simp only[qP];cases decide ((p.aQ.get i).Time<=aO (t - p.dH)) <;> rfl
 ·rw [zdp]; simp only [Int.lt_irrefl, decide_false, cond_false];rw[show aO ((p.aQ.len:Int) - 1)=aO ((p.aQ.len:Int) - 1) - ((0:Nat):Int) by simp];refine jX (X:=λ n i=>Gj E n p t (qP p.aQ (aO (t - p.dH)) p.aQ.len) (uY p.aQ (aO (t+p.dH)) (aO (p.aZ.tdiv 2)) i) (aO ((p.aQ.len:Int) - 1) - (i:Int)) k) (m:=p.aQ.len) (λ n i hi=>?_) (λ n=>?_) _ (by omega)
  ·rw [A7 (by omega), zdq, decide_eq_true (show (p.aQ.len : Int) - 1 - i ≥ 0 by omega), cond_true, bD (by omega), bD (by omega), bg (x := (p.aQ.len : Int) - 1 - i - 1) (by omega) (by omega), show ((p.aQ.len : Int) - 1 - i).toNat = p.aQ.len - 1 - i by omega];simp only[uY];cases decide ((p.aQ.get (p.aQ.len - 1 - i)).Time >= aO (t+p.dH)) <;> simp only[cond_true,cond_false] <;> congr 1 <;> omega
  ·rw[A7 (by omega),zdq,decide_eq_false (by omega),cond_false];rfl
def bk (l : Sl aQ) : Nat → List (Int × aQ)
  | 0=>[]
  | n+1=>((n:Int),l.get n) :: bk l n
theorem yP {δ ε : Type} [dw δ] [dw ε] {R : List PA → YO} {x : δ} {l : List ε} (h : R (dw.enc x) = some (l.map dw.enc)) (hc : ∀ y : ε, dw.ck (α := ε) (dw.enc y) = true) (hd : ∀ y : ε, dw.dec (dw.enc y) = y) :
  (ae.tyI (λ c=>.opt (R c)) x:ae (List ε))=.ok l:=by
 refine ae.ext λ k=>?_;show (ae.opt (R (dw.enc x))).T _=_;rw[h];show (ae.chk ((l.map dw.enc).all (dw.ck (α:=ε))) (ae.ok ((l.map dw.enc).map dw.dec))).T k=k l;rw[show (l.map dw.enc).all (dw.ck (α:=ε))=true by simp[hc],show (l.map dw.enc).map dw.dec=l by rw[List.map_map];exact (List.map_congr_left λ y _=>hd y).trans (List.map_id l)];rfl
abbrev zo9 (I:Pt (Sl aQ)->ae (List (Int×aQ))):Prop:=∀ l,l.v.len<=60->I l=.ok (bk l.v l.v.len)
theorem zFJ {E:Qp}(N:Big E.N):zo9 (zoY E):=λ l h=>by
 refine yP ?_ (λ _=>rfl) (λ _=>rfl);rw[e251];have key:∀ d n,d<=l.v.len->d < n->MS E n l ((d:Int) - 1)=some ((bk l.v d).map dw.enc):=by
  intro d
  induction d with
  | zero =>
   intro n _ hn;obtain⟨n,rfl⟩:∃ n',n=n'+1:=⟨n - 1,by omega⟩;rw[zdD,decide_eq_false (by omega)];rfl
  | succ d ih =>
   intro n hd hn;obtain⟨n,rfl⟩:∃ n',n=n'+1:=⟨n - 1,by omega⟩;rw[zdD,decide_eq_true (by omega),cond_true,bD (by omega),show ((d+1:Nat):Int) - 1=(d:Int) by omega,A7 (by omega),ih n (by omega) (by omega),Int.toNat_natCast];rfl
 rw[A7 (by omega)];exact key _ _ (iZ _) (by omega)
abbrev zpa (C:placed×Int->ae (Int×Int)):Prop:=∀ q t,Few q.af->C (q,t)=.ok (pX q.af t)
theorem zFK {E:Qo}(N:Big E.N) (zFL:zo9 E.zlw):zpa (zij E):=λ q t h=>ae.ext λ k=>by
 have hd:=h.1;rw[e224,bn];refine jX (X:=λ n i=>Gs E n q t (qP q.af.aQ (aO (t - q.af.dH)) i) (i:Int) (aO (q.af.aZ.tdiv 2)) k) (m:=q.af.aQ.len) (λ n i hi=>?_) (λ n=>?_) _ (by omega)
 ·rw [zdC, decide_eq_true (show (i : Int) < _ by omega), cond_true, bD (by omega), bT (by omega), Int.toNat_natCast];simp only[qP];cases decide ((q.af.aQ.get i).Time<=aO (t - q.af.dH)) <;> rfl
 ·rw [zdC]; simp only [Int.lt_irrefl, decide_false, cond_false];rw[zFL _ hd,bn];have key:∀ d,d<=q.af.aQ.len->AZ E (bk q.af.aQ d) q t (qP q.af.aQ (aO (t - q.af.dH)) q.af.aQ.len) (uY q.af.aQ (aO (t+q.af.dH)) (aO (q.af.aZ.tdiv 2)) (q.af.aQ.len - d)) k=k (pX q.af t):=by
   intro d
   induction d with
   | zero=>intro _;rw[bk,zik];rfl
   | succ d ih =>
    intro hi;rw[bk,zoX];have e:q.af.aQ.len - d=(q.af.aQ.len - (d+1))+1:=by omega
    have ih:=ih (by omega);rw[e] at ih;simp only[uY,show q.af.aQ.len - 1 - (q.af.aQ.len - (d+1))=d by omega] at ih;revert ih;cases decide ((q.af.aQ.get d).Time >= aO (t+q.af.dH)) <;> exact id
  have:=key q.af.aQ.len (iZ _);rwa[Nat.sub_self] at this
def gate (p:af) (a b:Int):aC:=⟨p.Z,aO (a+p.bu.Low),aO (b+p.bu.High)⟩
def gaP (p:af) (h:bC):Sl aC :=
  cond (p.Kind != 2)
    (cond (decide (aO (aO (p.First + aO (aO (aO (h.Channel + h.iM) - 1) * p.aZ)) - p.dC) > aO (aO (p.First + aO (aO (h.Channel + 1) * p.aZ)) + p.dC))) ⟨0, fun _ => default⟩
      ⟨1,λ _=>gate p (aO (aO (p.First+aO (aO (aO (h.Channel+h.iM) - 1) * p.aZ)) - p.dC)) (aO (aO (p.First+aO (aO (h.Channel+1) * p.aZ))+p.dC))⟩)
    (cond (decide ((gate p (aO (aO (p.First + aO (h.Channel * p.aZ)) - (pX p h.aQ).2)) (aO (aO (p.First + aO (h.Channel * p.aZ)) - (pX p h.aQ).1))).High ≥ (gate p (aO (aO (p.First + aO (h.Channel * p.aZ)) + (pX p h.aQ).1)) (aO (aO (p.First + aO (h.Channel * p.aZ)) + (pX p h.aQ).2))).Low))
      ⟨1,λ _=>⟨p.Z,(gate p (aO (aO (p.First+aO (h.Channel * p.aZ)) - (pX p h.aQ).2)) (aO (aO (p.First+aO (h.Channel * p.aZ)) - (pX p h.aQ).1))).Low,(gate p (aO (aO (p.First+aO (h.Channel * p.aZ))+(pX p h.aQ).1)) (aO (aO (p.First+aO (h.Channel * p.aZ))+(pX p h.aQ).2))).High⟩⟩
      ⟨2,Qi [gate p (aO (aO (p.First+aO (h.Channel * p.aZ)) - (pX p h.aQ).2)) (aO (aO (p.First+aO (h.Channel * p.aZ)) - (pX p h.aQ).1)),gate p (aO (aO (p.First+aO (h.Channel * p.aZ))+(pX p h.aQ).1)) (aO (aO (p.First+aO (h.Channel * p.aZ))+(pX p h.aQ).2))]⟩)
theorem ziq (p:af) (h:bC):(gaP p h).len<=2:=by
 have key:∀ (a b c:Bool) (x y z w:Sl aC),x.len<=2->y.len<=2->z.len<=2->w.len<=2->(cond a (cond b x y) (cond c z w)).len<=2:=by
  intro a b c x y z w h1 h2 h3 h4;cases a <;> cases b <;> cases c <;> assumption
 exact key _ _ _ _ _ _ _ (Nat.zero_le _) (by simp) (by simp) (by simp)
abbrev zpb (C:placed×Int×Int->ae aC):Prop:=∀ q a b,C (q,a,b)=.ok (gate q.af a b)
theorem zFM {E:Ze} : zpb (zii E):=λ q a b=>ae.ext λ k=>e223 E k q a b
abbrev zpc (C:placed×bC->ae (Sl aC)):Prop:=∀ q h,Few q.af->C (q,h)=.ok (gaP q.af h)
theorem zFN {E:Zd}(zoT:zpb E.zbk) (zoU:zpa E.zlp):zpc (zih E):=λ q h hf=>ae.ext λ k=>by
 rw[e189,bn];simp only[zoT,zoU _ _ hf,bn,kc k];rfl
def xP (s:au) (h:bC):Sl aC:=gaP (s.aj.get h.af.toNat) h
abbrev Q75 (C:au×bC->ae (Sl aC)):Prop:=∀ s h,pW s->0<=h.af/\h.af < (s.aj.len:Int)->C (s,h)=.ok (xP s h)
theorem s75 {E:E75}(zov:zo8 E.zk8):Q75 (F75 E):=λ s h hs hp=>ae.ext λ k=>by
 rw[e75,bn,bD hp];simp only[zov _ _ (hs.2 h.af.toNat (by omega)),bn,kc k];rfl
theorem Gv {s:au}{h:bC}(hh:jY s h=true):0<=h.af/\h.af < s.aj.len:=by
 simp only[jY,fE,decide_eq_true_eq] at hh;exact hh.1
theorem zdG {s:au}{h:bC}(hh:jY s h=true):ofP s h=⟨s.aj.get h.af.toNat,h.af⟩:=by
 unfold ofP;rw[decide_eq_true (Gv hh)];rfl
abbrev zpd (C:au×bC->ae (Sl aC×Int)):Prop:=∀ s h,pW s->C (s,h)=.ok (cond (dU s && jY s h) (cond (((xP s h).len:Int) == 0) (⟨0,λ _=>default⟩,5) (xP s h,0)) (⟨0,λ _=>default⟩,2))
theorem zFO {E:Y6}(Ut:zio E.Og) (h112:Zi E.ql) (zoM:zpc E.zlh):zpd (zh1 E):=λ s h hs=>ae.ext λ k=>by
 rw[zEN,Ut s h hs,bn,bn];cases hb:dU s && jY s h with
 | false=>rfl
 | true =>
  rw[fE] at hb;have hp:=Gv hb.2;simp only[Bool.not_true,cond_false,h112 s h hs hb.1,bn,zdG hb.2,zoM ⟨s.aj.get h.af.toNat,h.af⟩ h (hs.2 _ (by omega)),kc k];rfl
def jD (r:bP):Bool:=inB r.jL 1 16 && inB r.kF 0 16
abbrev Q62 (C:bP->ae Bool):Prop:=∀ r,C r=.ok (jD r)
theorem s62 {E:E62}(h86:yO E.c86):Q62 (F62 E):=λ r=>ae.ext λ k=>by
 rw[e62];simp only[h86,bn,kc k];congr 1;simp only[jD];cases inB r.jL 1 16 <;> rfl
def vwB (x:Int):Bool:=decide (x=1\/x=2)
abbrev Q60 (C:au×bP->ae Int):Prop:=∀ s r,pW s->C (s,r)=.ok (cond (dU s && jD r) 0 2)
theorem s60 {E:E60}(h122:zo5 E.zk5) (zoq:yO E.zgd):Q60 (F60 E):=λ s r h=>ae.ext λ k=>by
 rw[e60];simp only[h122 s h,zoq,bn,kc k,jD];congr 1;cases dU s <;> cases inB r.jL 1 16 <;> cases inB r.kF 0 16 <;> rfl
def yQ (s:au) (l:Sl bC):Bool:=dR (λ i=>jY s (l.get i)) l.len
abbrev Q85 (C:au×Sl bC->ae Bool):Prop:=∀ s l,pW s->dU s=true->l.len<=40->C (s,l)=.ok (yQ s l)
theorem s85 {E:E85}(N:Big E.N) (zox:zo6 E.c143):Q85 (F85 E):=λ s l hs hb hl=>ae.ext λ k=>by
 rw[e85];refine (loopA (L:=λ n v=>Xg E n s l v k) (p:=λ i=>jY s (l.get i)) (m:=l.len) (fin:=k true) (stop:=k false) (by omega) (λ n i hi=>?_) (λ n=>?_) _ (by omega)).trans ?_
 ·rw [zl3, decide_eq_true (show (i : Int) < _ by omega), cond_true, bD (by omega), Int.toNat_natCast, zox _ _ hs hb, bn];cases jY s (l.get i) <;> rfl
 ·rw[zl3];simp only[Int.lt_irrefl,decide_false,cond_false]
 ·rw[bn];simp only[yQ];cases dR (λ i=>jY s (l.get i)) l.len <;> rfl
def gw {α : Type} [bG α] (z f : Nat → α) : Nat → Sl α
  | 0=>⟨0,z⟩
  | n+1=>⟨n+1,jd n (gw z f n).get λ _=>f n⟩
theorem Gw {α:Type} [bG α] (z f:Nat->α) (n:Nat):(gw z f n).len=n:=by cases n <;> rfl
theorem Uz {α : Type} [bG α] [qm α] {z f : Nat → α} : ∀ {n i : Nat}, i < n → (gw z f n).get i = f i
  | n+1,i,h=>by
    show jd n (gw z f n).get (λ _=>f n) i=f i;rw[iy];by_cases hi:n<=i
    · rw[if_pos hi,show i=n by omega]
    · rw[if_neg hi];exact Uz (by omega)
theorem zir {n b:Nat}(hn:n<=1000000) (hb:b<=1000):room n b=true:=by
 refine decide_eq_true ⟨?_,by omega⟩;have:=Nat.mul_le_mul hn hb;omega
theorem jl {A:Type}{n b:Nat}{x:Option A}(hn:n<=1000000) (hb:b<=1000):bf (room n b) x=x:=by rw[zir hn hb];rfl
theorem zis {p:af}{h:bC} : (gaP p h).len=0->gaP p h=⟨0,λ _=>default⟩:=by
 have key:∀ (a b c:Bool) (y z w:Sl aC),0 < y.len->0 < z.len->0 < w.len->(cond a (cond b (⟨0,λ _=>default⟩:Sl aC) y) (cond c z w)).len=0->cond a (cond b (⟨0,λ _=>default⟩:Sl aC) y) (cond c z w)=⟨0,λ _=>default⟩:=by
  intro a b c y z w h2 h3 h4 h;cases a <;> cases b <;> cases c <;> simp only[cond_true,cond_false] at h ⊢ <;> omega
 exact key _ _ _ _ _ _ (by simp) (by simp) (by simp)
def z0:Nat->aC:=λ _=>⟨0,0,0⟩
def evG (s:au) (l:Sl bC):Sl (Sl aC):=gw (λ _=>⟨0,z0⟩) (λ i=>xP s (l.get i)) l.len
theorem Xk (s:au) (l:Sl bC):(evG s l).len=l.len:=Gw _ _ _
theorem MV {s:au}{l:Sl bC}{i:Nat}(h:i < l.len):(evG s l).get i=xP s (l.get i):=Uz h
def iL (s:au) (r:bP) (l:Sl bC):Pt aW:=⟨⟨s,l,evG s l,r⟩⟩
def qQ (s:au) (r:bP) (l:Sl bC):Int:=cond (decide (l.len > 24)) 3 (cond (dU s && jD r && yQ s l) 0 2)
def opn (s:au) (r:bP) (l:Sl bC):Int ⊕ (Pt aW×Int):=cond (qQ s r l == 0) (.inr (iL s r l,0)) (.inl (qQ s r l))
abbrev Q78 (C:au×bP×Sl bC->ae (Int ⊕ (Pt aW×Int))):Prop:=∀ s r l,pW s->l.len<=40->C (s,r,l)=.ok (opn s r l)
theorem s78 {E:E78}(N:Big E.N) (h60:Q60 E.c60) (zoG:zo7 E.c138) (zoH:zpd E.c139):Q78 (F78 E):=λ s r l hs hl=>ae.ext λ k=>by
 rw[e78,bn];by_cases uZ:(l.len:Int) > 24
 ·rw [decide_eq_true uZ];have:qQ s r l=3:=by unfold qQ;rw[decide_eq_true (show l.len > 24 by omega)];rfl
  simp only[opn,this];rfl
 ·rw [decide_eq_false uZ, cond_false, h60 s r hs, bn];have e1:qQ s r l=cond (dU s && jD r && yQ s l) 0 2:=by unfold qQ;rw[decide_eq_false (show ¬ l.len > 24 by omega)];rfl
  cases hb:dU s && jD r with
  | false =>
   have:qQ s r l=2:=by rw[e1,hb];rfl
   simp only[opn,this];rfl
  | true =>
   have hsb:=(fE _ _ ▸ hb).1;refine (loopA (L:=λ n v=>Qk E n s r l v (gw (λ _=>⟨0,z0⟩) (λ i=>xP s (l.get i)) v.toNat) k) (p:=λ i=>jY s (l.get i)) (m:=l.len) (fin:=k (.inr (iL s r l,0))) (stop:=k (.inl 2)) (by omega) (λ n i hi=>?_) (λ n=>?_) _ (by omega)).trans ?_
   ·rw [zl6, decide_eq_true (show (i : Int) < _ by omega), cond_true, bD (by omega), Int.toNat_natCast, zoG _ _ hs, bn, hsb, Bool.true_and];cases hh:jY s (l.get i) with
    | false=>rfl
    | true =>
     rw[zoH _ _ hs,bn,hsb,hh];have e2:Ql E n s r l (xP s (l.get i)) (i:Int) (gw (λ _=>⟨0,z0⟩) (λ i=>xP s (l.get i)) i) k=Qk E n s r l (aO ((i:Int)+1)) (gw (λ _=>⟨0,z0⟩) (λ i=>xP s (l.get i)) (aO ((i:Int)+1)).toNat) k:=by
      rw[zxd,Gw,jl (by omega) (by omega),bT (by omega),Int.toNat_natCast];rfl
     by_cases h0:(xP s (l.get i)).len=0
     ·have e3 : ((xP s (l.get i)).len : Int) == 0 := by rw [h0]; rfl
      simp only[e3,Bool.and_self,cond_true];show Ql E n s r l ⟨0,λ _=>default⟩ _ _ k=_;rw[<- zis (p:=s.aj.get (l.get i).af.toNat) (h:=l.get i) h0];exact e2
     ·have e3 : (((xP s (l.get i)).len : Int) == 0) = false := by rw [dqU]; omega
      simp only[e3,Bool.and_self,cond_true,cond_false];exact e2
   ·rw[zl6];simp only[Int.lt_irrefl,decide_false,cond_false,Int.toNat_natCast];rfl
   ·have : qQ s r l = cond (yQ s l) 0 2 := by rw [e1, hb]; rfl
    simp only[opn,this,yQ];cases dR (λ i=>jY s (l.get i)) l.len <;> rfl
def usB (l:Sl bC) (w:Sl Int) (n:Nat) (p:Int):Bool:=dR (λ j=>!decide ((l.get (w.get j).toNat).af=p)) n
abbrev Q87 (C:Sl bC×Sl Int×Int->ae Bool):Prop:=∀ l w p,w.len<=100->(∀ j,j < w.len->0<=w.get j/\w.get j < l.len)->C (l,w,p)=.ok (!usB l w w.len p)
theorem s87 {E:E87}(N:Big E.N):Q87 (F87 E):=λ l w p hw hv=>ae.ext λ k=>by
 rw[e87,bn];refine (loopA (L:=λ n v=>Xh E n l w p v k) (p:=λ j=>!decide ((l.get (w.get j).toNat).af=p)) (m:=w.len) (fin:=k false) (stop:=k true) (by omega) (λ n i hi=>?_) (λ n=>?_) _ (by omega)).trans ?_
 ·have := hv i hi;rw[zl4,decide_eq_true (show (i:Int) < _ by omega),cond_true,bD (by omega),Int.toNat_natCast,bD (by omega)];show cond ((l.get (w.get i).toNat).af == p) _ _=cond (!((l.get (w.get i).toNat).af == p)) _ _;cases (l.get (w.get i).toNat).af == p <;> rfl
 ·rw[zl4];simp only[Int.lt_irrefl,decide_false,cond_false]
 ·simp only[usB];cases dR (λ j=>!decide ((l.get (w.get j).toNat).af=p)) w.len <;> rfl
def hiA (l:Sl bC) (t:ai) (i:Nat):bC:=l.get (t.Hits.get i).toNat
def chP (s:au) (l:Sl bC) (t:ai) (i:Nat):Bool :=
 inB (t.Hits.get i) 0 ((l.len:Int) - 1) && (decide (i=0) || decide (t.Hits.get (i - 1) < t.Hits.get i)) && decide ((s.aj.get (hiA l t i).af.toNat).View=t.View) && inB (t.bz.get i) 0 (((xP s (hiA l t i)).len:Int) - 1) && usB l t.Hits i (hiA l t i).af
def Zj (s:au) (l:Sl bC) (t:ai):Bool:=vwB t.View && decide (0 < t.Hits.len) && decide (t.bz.len=t.Hits.len) && dR (chP s l t) t.Hits.len
structure Evt (s : au) (l : Sl bC) : Prop where
  sh:pW s
  se:dU s=true
  hi:yQ s l=true
  le:l.len<=40
theorem Evt.pl {s:au}{l:Sl bC}(h:Evt s l){i:Nat}(hi:i < l.len):0<=(l.get i).af/\(l.get i).af < s.aj.len:=Gv (dG.1 h.hi i hi)
theorem UA {s:au}{l:Sl bC}{t:ai}{i:Nat}(h:chP s l t i=true):0<=t.Hits.get i/\t.Hits.get i < l.len:=by
 simp only[chP,fE,inB,decide_eq_true_eq] at h;omega
theorem Qq {s:au}{l:Sl bC}{t:ai}{i:Nat}(h:chP s l t i=true):0<=t.bz.get i/\t.bz.get i < (xP s (hiA l t i)).len:=by
 simp only[chP,fE,inB,decide_eq_true_eq] at h;omega
/-! The program. -/
abbrev zpg (C:Pt aW×Int->ae Int):Prop:=∀ s l r i,Evt s l->0<=i/\i < (l.len:Int)->C (iL s r l,i)=.ok (s.aj.get (l.get i.toNat).af.toNat).View
theorem zFU {E:Y2} : zpg (zhX E):=λ s l r i he hi=>ae.ext λ k=>by
 have hp:=he.pl (i:=i.toNat) (by omega);exact (zEy E k _ _).trans ((bD (p:=0<=i/\i < (l.len:Int)) hi).trans (bD (p:=0<=(l.get i.toNat).af/\(l.get i.toNat).af < (s.aj.len:Int)) hp))
theorem Gx {α : Type} [bG α] {z f g : Nat → α} : ∀ {n : Nat}, (∀ i, i < n → f i = g i) → gw z f n = gw z g n
  | 0,_=>rfl
  | n+1,h=>by simp only[gw,Gx (n:=n) λ i hi=>h i (by omega),h n (by omega)]
def gtS (s:au) (l:Sl bC) (t:ai):Sl aC:=gw z0 (λ i=>(xP s (hiA l t i)).get (t.bz.get i).toNat) t.Hits.len
theorem zdH {s:au}{l:Sl bC}{t:ai}(h:Zj s l t=true):t.bz.len=t.Hits.len/\∀ i,i < t.Hits.len->chP s l t i=true:=by
 simp only[Zj,fE,decide_eq_true_eq,dG] at h;exact⟨h.1.2,h.2⟩
abbrev Q65 (C:au×Sl bC×ai->ae (Sl aC)):Prop:=∀ s l t,Evt s l->t.Hits.len<=30->Zj s l t=true->C (s,l,t)=.ok (gtS s l t)
theorem s65 {E:E65}(N:Big E.N) (h75:Q75 E.c75):Q65 (F65 E):=λ s l t he ht hc=>ae.ext λ k=>by
 obtain⟨h1,h2⟩:=zdH hc;rw[e65,bn];refine jX (X:=λ n i=>Xf E n s l t (i:Int) (gw z0 (λ i=>(xP s (hiA l t i)).get (t.bz.get i).toNat) i) k) (m:=t.Hits.len) (λ n i hi=>?_) (λ n=>?_) _ (by omega)
 ·have a1 := UA (h2 i hi);have a2:0<=t.bz.get i/\t.bz.get i < ((xP s (l.get (t.Hits.get i).toNat)).len:Int):=Qq (h2 i hi);have hpl:=he.pl (i:=(t.Hits.get i).toNat) (by omega);rw[zl2,decide_eq_true (show (i:Int) < _ by omega),cond_true,bD (by omega),Int.toNat_natCast,bD (by omega),h75 _ _ he.sh hpl,bn,bD (by omega),bD a2,Gw,jl (by omega) (by omega),bT (by omega)];rfl
 ·rw[zl2];simp only[Int.lt_irrefl,decide_false,cond_false];rfl
abbrev zit (C:Pt aW×ai->ae (Sl aC)):Prop:=∀ s l r t,Evt s l->t.Hits.len<=2100->Zj s l t=true->C (iL s r l,t)=.ok (gtS s l t)
theorem zFV {E:Us}(N:Big E.N):zit (zhW E):=λ s l r t he ht hc=>ae.ext λ k=>by
 obtain⟨h1,h2⟩:=zdH hc;have e:gtS s l t=gw z0 (λ i=>((evG s l).get (t.Hits.get i).toNat).get (t.bz.get i).toNat) t.Hits.len:=Gx λ i hi=>by
  have a1:=UA (h2 i hi);rw[MV (by omega)];rfl
 rw[zEs,bn,e];refine jX (X:=λ n i=>MO E n (iL s r l) t (i:Int) (gw z0 (λ i=>((evG s l).get (t.Hits.get i).toNat).get (t.bz.get i).toNat) i) k) (m:=t.Hits.len) (λ n i hi=>?_) (λ n=>?_) _ (by omega)
 ·have a1 := UA (h2 i hi);have a2:=Qq (h2 i hi);have a3:0<=t.Hits.get i/\t.Hits.get i < ((iL s r l).v.kQ.len:Int):=by show _/\t.Hits.get i < ((evG s l).len:Int);rw[Xk];omega
  have a4:0<=t.bz.get i/\t.bz.get i < (((iL s r l).v.kQ.get (t.Hits.get i).toNat).len:Int):=by
   show _/\t.bz.get i < (((evG s l).get (t.Hits.get i).toNat).len:Int);rw[MV (by omega)];exact a2
  rw[zdu,decide_eq_true (show (i:Int) < _ by omega),cond_true,bD (by omega),Int.toNat_natCast,bD a3,bD (by omega),bD a4,Gw,jl (by omega) (by omega),bT (by omega)];rfl
 ·rw[zdu];simp only[Int.lt_irrefl,decide_false,cond_false]
abbrev Q26 (C:au×bP×Sl bC->ae Int):Prop:=∀ s r l,pW s->l.len<=40->C (s,r,l)=.ok (qQ s r l)
theorem s26 {E:E26}(h61:QSe E.c61) (h62:Q62 E.c62) (h85:Q85 E.c85):Q26 (F26 E):=λ s r l hs hl=>ae.ext λ k=>by
 rw[e26,bn];by_cases uZ:(l.len:Int) > 24
 ·rw[decide_eq_true uZ];simp only[qQ,decide_eq_true (show l.len > 24 by omega),cond_true]
 ·rw [decide_eq_false uZ, cond_false, h61 s hs, bn];simp only[qQ,decide_eq_false (show ¬ l.len > 24 by omega),cond_false,h62,bn];cases hb:dU s with
  | false=>rfl
  | true =>
   cases jD r with
   | false=>rfl
   | true =>
    simp only[h85 s l hs hb hl,bn];cases yQ s l <;> rfl
theorem MW {s:au}{r:bP}{l:Sl bC}(hs:pW s) (h:qQ s r l=0):Evt s l/\jD r=true/\l.len<=24:=by
 unfold qQ at h;by_cases uZ:l.len > 24
 ·rw[decide_eq_true uZ] at h;cases h
 ·rw [decide_eq_false uZ, cond_false] at h;cases e:dU s && jD r && yQ s l with
  | false=>rw[e] at h;cases h
  | true =>
   simp only[fE] at e;exact⟨⟨hs,e.1.1,e.2,by omega⟩,e.1.2,by omega⟩
def Zk (s:au) (l:Sl bC) (m:Int):Bool:=decide (s.aj.len<=20) && (decide ((l.len:Int)<=m) || decide (l.len > 24)) && decide (l.len<=40) && dR (λ i=>decide ((s.aj.get i).aQ.len<=60/\(s.aj.get i).Dead.len<=110)) s.aj.len
abbrev Q23 (C:au×Sl bC×Int->ae Bool):Prop:=∀ s l m,C (s,l,m)=.ok (Zk s l m)
theorem s23 {E:E23}(N:Big E.N):Q23 (F23 E):=λ s l m=>ae.ext λ k=>by
 rw[e23,bn];by_cases h20:(s.aj.len:Int) > 20
 ·rw[decide_eq_true h20];simp only[Zk,decide_eq_false (show ¬ s.aj.len<=20 by omega),Bool.false_and,cond_true]
 ·have lp:Gf E E.N s 0 k=k (dR (λ i=>decide ((s.aj.get i).aQ.len<=60/\(s.aj.get i).Dead.len<=110)) s.aj.len):=by
   refine (loopA (L:=λ n v=>Gf E n s v k) (p:=λ i=>decide ((s.aj.get i).aQ.len<=60/\(s.aj.get i).Dead.len<=110)) (m:=s.aj.len) (fin:=k true) (stop:=k false) (by omega) (λ n i hi=>?_) (λ n=>?_) _ (by omega)).trans ?_
   ·rw [zlY, decide_eq_true (show (i : Int) < _ by omega), cond_true, bD (by omega), bD (by omega), Int.toNat_natCast];obtain⟨f,h1,h2⟩:=two (Gf E n s (aO ((i:Int)+1)) k) (k false);rw[<- h1,<- h2,kc f,kc f,kc f];congr 1;grind
   ·rw[zlY];simp only[Int.lt_irrefl,decide_false,cond_false]
   ·cases dR (λ i=>decide ((s.aj.get i).aQ.len<=60/\(s.aj.get i).Dead.len<=110)) s.aj.len <;> rfl
  rw[decide_eq_false h20,cond_false,lp];simp only[kc k,Zk];congr 1;generalize dR (λ i=>decide ((s.aj.get i).aQ.len<=60/\(s.aj.get i).Dead.len<=110)) s.aj.len=B
  grind
theorem zph {s:au}{l:Sl bC}{m:Int}(h:Zk s l m=true):pW s/\l.len<=40/\((l.len:Int)<=m\/24 < l.len):=by
 simp only[Zk,fE,decide_eq_true_eq,Bool.or_eq_true,dG] at h;exact⟨⟨h.1.1.1,λ i hi=>h.2 i hi⟩,h.1.2,h.1.1.2⟩
def yR (s:au) (l:Sl bC) (i:Nat):Nat:=(xP s (l.get i)).len
theorem DF (s:au) (l:Sl bC) (i:Nat):yR s l i<=2:=ziq _ _
def Qr (s:au) (l:Sl bC) (i:Nat):Int:=(s.aj.get (l.get i).af.toNat).View
def cf (n : Nat → Int) : Nat → Nat → Int
  | 0,j=>cond (j == 0) 1 0
  | p+1,0=>cf n p 0
  | p+1,j+1=>aO (cf n p (j+1)+aO (n p * cf n p j))
def Xl (i : Int) : Nat → Nat → List (Int × Int)
  | 0,_=>[]
  | d+1,k=>(i,(k:Int)) :: Xl i d (k+1)
def sdL (s : au) (l : Sl bC) (x : Int) : Nat → Nat → List (Int × Int)
  | 0,_=>[]
  | d+1,i=>cond (Qr s l i == x) (Xl i (yR s l i) 0) [] ++ sdL s l x d (i+1)
abbrev zpi (I:Pt Int×Pt (Pt aW)×Pt Int->ae (List (Int×Int))):Prop:=∀ s l r x (fr:Nat),Evt s l->fr<=l.len->I (⟨fr⟩,⟨iL s r l⟩,⟨x⟩)=.ok (sdL s l x (l.len - fr) fr)
theorem zFY {E:MP}(N:Big E.N) (zoL:zpg E.zge):zpi (zoK E):=λ s l r x fr he hfr=>by
 refine yP ?_ (λ _=>rfl) (λ _=>rfl);refine (zEu E _ _ _).trans ?_;have hl:=he.le;have key:∀ d n (i:Nat),i+d=l.len->d < n->Gn E n ⟨iL s r l⟩ ⟨x⟩ (i:Int)=some ((sdL s l x d i).map dw.enc):=by
  intro d
  induction d with
  | zero =>
   intro n i hi hn;obtain⟨n,rfl⟩:∃ n',n=n'+1:=⟨n - 1,by omega⟩;exact (zdv E n _ _ _).trans (zxr (p:=(i:Int) < (l.len:Int)) (by omega))
  | succ d ih =>
   intro n i hi hn;obtain⟨n,rfl⟩:∃ n',n=n'+1:=⟨n - 1,by omega⟩;have nx:=ih n (i+1) (by omega) (by omega);refine (zdv E n _ _ _).trans ((zxq (p:=(i:Int) < (l.len:Int)) (by omega)).trans ?_);rw[bT (by omega),nx];show (E.zge (iL s r l,(i:Int))).T _=_;rw[zoL s l r _ he (by omega),bn,Int.toNat_natCast];show cond (Qr s l i != x) _ _=_;rw[sdL];cases hv:Qr s l i == x with
   | false=>rw[show (Qr s l i != x)=true by rw[bne,hv];rfl];rfl
   | true =>
    rw[show (Qr s l i != x)=false by rw[bne,hv];rfl,cond_false,cond_true];have hg:((iL s r l).v.kQ.get i)=xP s (l.get i):=MV (by omega);have hgl:(iL s r l).v.kQ.len=l.len:=Xk s l;have inn:∀ e m (k:Nat),k+e=yR s l i->e < m->Gp E n m ⟨iL s r l⟩ ⟨x⟩ (i:Int) (yR s l i:Int) (k:Int)=some ((Xl i e k ++ sdL s l x d (i+1)).map dw.enc):=by
     have hg2:=DF s l i;intro e
     induction e with
     | zero =>
      intro m k hk hm;obtain⟨m,rfl⟩:∃ n',m=n'+1:=⟨m - 1,by omega⟩;rw[zdw,decide_eq_false (by omega),cond_false,bT (by omega),nx];rfl
     | succ e ih2 =>
      intro m k hk hm;obtain⟨m,rfl⟩:∃ n',m=n'+1:=⟨m - 1,by omega⟩;rw[zdw,decide_eq_true (by omega),cond_true,bT (by omega),ih2 m (k+1) (by omega) (by omega)];rfl
    have hg2:=DF s l i;rw[bD (by rw[hgl];omega)];show Gp E n E.N ⟨iL s r l⟩ ⟨x⟩ (i:Int) (((iL s r l).v.kQ.get (i:Int).toNat).len:Int) ((0:Nat):Int)=_;rw[Int.toNat_natCast,hg];exact inn _ _ _ (by omega) (by omega)
 exact key _ _ _ (by omega) (by omega)
abbrev Q19 (C:Unit->ae Bool):Prop:=C ()=.ok true
structure E20 where
  N:Nat
  c72:au×bP×(Sl bC)×(Sl Bool)->ae (Int ⊕ ((Pt found)×Int))
abbrev G20 (E:E20):aX:=dh (Tabs.nil.addF 72 (ae.unA E.c72)) []
def A20:bW:=aU ax 20 [] {}
def F20 (E:E20):au×bP×(Sl bC)->ae ((Sl ai)×Int):=ae.ty (aF ax E.N (G20 E) A20 20)
section
variable (E:E20){A:Type}(k:((Sl ai)×Int)->Option A)
theorem e20 (a0:au) (a1:bP) (a2:(Sl bC)):(F20 E (a0,a1,a2)).T k =
  (E.c72 (a0,a1,a2,(⟨0,λ _=>default⟩:(Sl Bool)))).T λ r1=>zoa r1
  (λ r1=>cond (r1 != 0)
 (k ((⟨0,λ _=>default⟩:(Sl ai)),r1))
 (none))
  (λ r1=>cond (r1.2 != 0)
 (k ((⟨0,λ _=>default⟩:(Sl ai)),r1.2))
 (k (r1.1.v.lD,0))):=bH.trans (by kernel_rfl)
end
theorem o20 [aJ] (E:E20) (h72:Ok ax 72 (ae.unA E.c72)):Ok ax 20 (ae.un (F20 E)):=aY (aP (ay.nil.addF h72) (ak (by kernel_rfl)))
structure E28 where
  N:Nat
  v88:au×bP×(Sl bC)×Int->ae (Sl ai×Bool)
abbrev G28 (E:E28):aX:=dh (Tabs.nil.addO 88 (.mkv 43 3 56 (ae.unV E.v88))) []
def A28:bW:=aU ax 28 [] {}
def F28 (E:E28):au×bP×(Sl bC)->ae ((Sl ai)×Bool):=ae.ty (aF ax E.N (G28 E) A28 28)
section
variable (E:E28){A:Type}(k:((Sl ai)×Bool)->Option A)
theorem e28 (a0:au) (a1:bP) (a2:(Sl bC)):(F28 E (a0,a1,a2)).T k =
  (E.v88 (a0,a1,a2,1)).T λ r1 =>
  (E.v88 (a0,a1,a2,2)).T λ r2 =>
  bf (room (r1.1.len+r2.1.len) 56) (cond r1.2
 (k ((⟨(r1.1.len+r2.1.len),(jd r1.1.len r1.1.get r2.1.get)⟩:(Sl ai)),r2.2))
 (k ((⟨(r1.1.len+r2.1.len),(jd r1.1.len r1.1.get r2.1.get)⟩:(Sl ai)),false))):=bH.trans (by kernel_rfl)
end
theorem o28 [aJ] (E:E28) (x88:dX ax 88 (.mkv 43 3 56 (ae.unV E.v88))):Ok ax 28 (ae.un (F28 E)):=aY (aP (ay.nil.addO x88) (ak (by kernel_rfl)))
end Go.Proofs

namespace Go.Proofs
open Go Go.Pm
set_option maxRecDepth 100000
structure E38 where
  N:Nat
abbrev G38 (E:E38):aX:=dh Tabs.nil []
def A38:bW:=aU ax 38 [] { cut:=[8,10] }
def F38 (E:E38):(Sl Int)×(Sl Int)->ae (Int):=ae.ty (aF ax E.N (G38 E) A38 38)
section
variable (E:E38){A:Type}(k:Int->Option A)
def Xm (E:E38) (n:Nat) (a0:(Sl Int)) (a1:(Sl Int)) (v5:Int){A:Type}(k:Int->Option A):Option A :=
  iG ax (G38 E) E.N A38 38 [1,0,1,0] [.n n] (iH k)
    ⟨[(0,eP a0),(1,eP a1),(5,.int v5)],[],[]⟩
def zdI (E:E38) (a0:(Sl Int)) (a1:(Sl Int)) {A:Type}(k:Int->Option A):Option A :=
  iG ax (G38 E) E.N A38 38 [1,1] [] (iH k)
    ⟨[(0,eP a0),(1,eP a1)],[],[]⟩
def zmb (E:E38) (a0:(Sl Int)) (a1:(Sl Int)) {A:Type}(k:Int->Option A):Option A :=
  iG ax (G38 E) E.N A38 38 [1,1,1] [] (iH k)
    ⟨[(0,eP a0),(1,eP a1)],[],[]⟩
theorem e38 (a0:(Sl Int)) (a1:(Sl Int)):(F38 E (a0,a1)).T k =
  Xm E E.N a0 a1 0 k:=bH.trans (by kernel_rfl)
theorem zmc (n0:Nat) (a0:(Sl Int)) (a1:(Sl Int)) (v5:Int):Xm E (n0+1) a0 a1 v5 k =
  cond (decide (v5 < (a0.len:Int)))
  (cond (decide (v5 < (a1.len:Int)))
 (bf (decide (0<=v5/\v5 < (a0.len:Int))) (bf (decide (0<=v5/\v5 < (a1.len:Int))) (cond (decide (a0.get v5.toNat < a1.get v5.toNat))
 (k (-1))
 (bf (decide (0<=v5/\v5 < (a0.len:Int))) (bf (decide (0<=v5/\v5 < (a1.len:Int))) (cond (decide (a0.get v5.toNat > a1.get v5.toNat))
 (k 1)
 (Xm E n0 a0 a1 (aO (v5+1)) k)))))))
 (zdI E a0 a1 k))
  (zdI E a0 a1 k):=by kernel_rfl
theorem zmd (a0:(Sl Int)) (a1:(Sl Int)):zdI E a0 a1 k =
  cond (decide ((a0.len:Int) < (a1.len:Int)))
  (k (-1))
  (zmb E a0 a1 k):=by kernel_rfl
theorem zme (a0:(Sl Int)) (a1:(Sl Int)):zmb E a0 a1 k =
  cond (decide ((a0.len:Int) > (a1.len:Int)))
  (k 1)
  (k 0):=by kernel_rfl
end
theorem o38 [aJ] (E:E38):Ok ax 38 (ae.un (F38 E)):=aY (aP ay.nil (ak (by kernel_rfl)))
end Go.Proofs

namespace Go.Proofs
open Go Go.Pm
set_option maxRecDepth 100000
structure E50 where
  N:Nat
  zk3:au×(Sl bC)->ae (Int)
  ql:au×bC->ae (placed×Bool)
  VF:placed×bC->ae (bZ)
abbrev G50 (E:E50):aX:=dh (((Tabs.nil.addF 111 (ae.un E.zk3)).addF 112 (ae.un E.ql)).addF 113 (ae.un E.VF)) []
def A50:bW:=aU ax 50 [] {}
def F50 (E:E50):au×(Sl bC)->ae (bZ×Int):=ae.ty (aF ax E.N (G50 E) A50 50)
section
variable (E:E50){A:Type}(k:(bZ×Int)->Option A)
def Xn (E:E50) (n:Nat) (a0:au) (a1:(Sl bC)) (v42:Int) (x9:bZ){A:Type}(k:(bZ×Int)->Option A):Option A :=
  iG ax (G50 E) E.N A50 50 [1,1,1,1,1,0,1,0] [.n n] (iH k)
    ⟨[(2,.cl (.ptr 2 0)),(4,.cl (.ptr 4 0)),(9,.cl (.ptr 9 0)),(40,.cl (.p (.sl (((a1.len:Int):Int) - 1).toNat 6 (λ i=>bG.enc ((Jf a1.get 1) i))))),(41,.int ((((a1.len:Int):Int) - 1).toNat:Int)),(42,.int v42)],[(2,eB 24 a0),(4,.box 105 [.p (.int .i64 0),.p (.int .i64 0)]),(9,eB 105 x9)],[]⟩
theorem e50 (a0:au) (a1:(Sl bC)):(F50 E (a0,a1)).T k =
  (E.zk3 (a0,a1)).T λ r1 =>
  cond (r1 != 0)
  (k ((⟨0,0⟩:bZ),r1))
  (cond ((a1.len:Int) == 0)
 (k ((⟨0,0⟩:bZ),2))
 (bf (decide ((0:Int)<=0/\0 < (a1.len:Int))) ((E.ql (a0,(a1.get 0))).T λ r2 =>
 bf (decide ((0:Int)<=0/\0 < (a1.len:Int))) ((E.VF (r2.1,(a1.get 0))).T λ r3 =>
 bf (decide ((0:Int)<=1/\(1:Int)<=(a1.len:Int)/\(a1.len:Int)<=(a1.len:Int))) (Xn E E.N a0 a1 0 r3 k))))):=bH.trans (by kernel_rfl)
theorem zmf (n0:Nat) (a0:au) (a1:(Sl bC)) (v42:Int) (x9:bZ):Xn E (n0+1) a0 a1 v42 x9 k =
  cond (decide (v42 < ((((a1.len:Int):Int) - 1).toNat:Int)))
  (bf (decide (0<=v42/\v42 < ((((a1.len:Int):Int) - 1).toNat:Int))) ((E.ql (a0,((Jf a1.get 1) v42.toNat))).T λ r1 =>
 (E.VF (r1.1,((Jf a1.get 1) v42.toNat))).T λ r2 =>
 Xn E n0 a0 a1 (aO (v42+1)) (⟨(if r2.Low > x9.Low then r2.Low else x9.Low),(if r2.High < x9.High then r2.High else x9.High)⟩:bZ) k))
  (cond (decide (x9.Low > x9.High))
 (k ((⟨0,0⟩:bZ),5))
 (k (x9,0))):=by kernel_rfl
end
theorem o50 [aJ] (E:E50) (zpk:Ok ax 111 (ae.un E.zk3)) (h112:Ok ax 112 (ae.un E.ql)) (ziw:Ok ax 113 (ae.un E.VF)):Ok ax 50 (ae.un (F50 E)):=aY (aP (((ay.nil.addF zpk).addF h112).addF ziw) (ak (by kernel_rfl)))
end Go.Proofs

namespace Go.Proofs
open Go Go.Pm
set_option maxRecDepth 100000
structure E53 where
  N:Nat
abbrev G53 (E:E53):aX:=dh Tabs.nil []
def A53:bW:=aU ax 53 [] { cut:=[7] }
def F53 (E:E53):ai×ai->ae (Bool):=ae.ty (aF ax E.N (G53 E) A53 53)
section
variable (E:E53){A:Type}(k:Bool->Option A)
def Xo (E:E53) (n:Nat) (a0:ai) (a1:ai) (v5:Int) (v6:Int){A:Type}(k:Bool->Option A):Option A :=
  iG ax (G53 E) E.N A53 53 [1,1,0,1,0] [.n n] (iH k)
    ⟨[(2,.cl (.ptr 2 0)),(3,.cl (.ptr 3 0)),(5,.int v5),(6,.int v6)],[(2,eB 43 a0),(3,eB 43 a1)],[]⟩
def Kz (E:E53) (n0:Nat) (n:Nat) (a0:ai) (a1:ai) (v5:Int) (v6:Int){A:Type}(k:Bool->Option A):Option A :=
  iG ax (G53 E) E.N A53 53 [1,1,0,1,0,0,1,0,0,0,0] [.n n0,.n n] (iH k)
    ⟨[(2,.cl (.ptr 2 0)),(3,.cl (.ptr 3 0)),(5,.int v5),(6,.int v6)],[(2,eB 43 a0),(3,eB 43 a1)],[]⟩
def Qs (E:E53) (n0:Nat) (a0:ai) (a1:ai) (v5:Int) (v6:Int){A:Type}(k:Bool->Option A):Option A :=
  iG ax (G53 E) E.N A53 53 [1,1,0,1,0,0,1,0,0,1] [.n n0] (iH k)
    ⟨[(2,.cl (.ptr 2 0)),(3,.cl (.ptr 3 0)),(5,.int v5),(6,.int v6)],[(2,eB 43 a0),(3,eB 43 a1)],[]⟩
theorem e53 (a0:ai) (a1:ai):(F53 E (a0,a1)).T k =
  Xo E E.N a0 a1 0 0 k:=bH.trans (by kernel_rfl)
theorem zmg (n0:Nat) (a0:ai) (a1:ai) (v5:Int) (v6:Int):Xo E (n0+1) a0 a1 v5 v6 k =
  cond (decide (v6 < (a1.Hits.len:Int)))
  (Kz E n0 E.N a0 a1 v5 v6 k)
  (k (a0.View == a1.View)):=by kernel_rfl
theorem zmh (n0:Nat) (n1:Nat) (a0:ai) (a1:ai) (v5:Int) (v6:Int):Kz E n0 (n1+1) a0 a1 v5 v6 k =
  cond (decide (v5 < (a0.Hits.len:Int)))
  (bf (decide (0<=v5/\v5 < (a0.Hits.len:Int))) (bf (decide (0<=v6/\v6 < (a1.Hits.len:Int))) (cond (decide (a0.Hits.get v5.toNat < a1.Hits.get v6.toNat))
 (Kz E n0 n1 a0 a1 (aO (v5+1)) v6 k)
 (Qs E n0 a0 a1 v5 v6 k))))
  (Qs E n0 a0 a1 v5 v6 k):=by kernel_rfl
theorem zxz (n0:Nat) (a0:ai) (a1:ai) (v5:Int) (v6:Int):Qs E n0 a0 a1 v5 v6 k =
  cond (v5 == (a0.Hits.len:Int))
  (k false)
  (bf (decide (0<=v5/\v5 < (a0.Hits.len:Int))) (bf (decide (0<=v6/\v6 < (a1.Hits.len:Int))) (cond (a0.Hits.get v5.toNat != a1.Hits.get v6.toNat)
 (k false)
 (bf (decide (0<=v5/\v5 < (a0.bz.len:Int))) (bf (decide (0<=v6/\v6 < (a1.bz.len:Int))) (cond (a0.bz.get v5.toNat != a1.bz.get v6.toNat)
 (k false)
 (Xo E n0 a0 a1 v5 (aO (v6+1)) k))))))):=by kernel_rfl
end
theorem o53 [aJ] (E:E53):Ok ax 53 (ae.un (F53 E)):=aY (aP ay.nil (ak (by kernel_rfl)))
structure E55 where
  N:Nat
  Ou:Int×Int->ae (aS)
abbrev G55 (E:E55):aX:=dh (Tabs.nil.addF 71 (ae.un E.Ou)) []
def A55:bW:=aU ax 55 [] { cut:=[3] }
def F55 (E:E55):Int×Int×Int×Int->ae (Line):=ae.ty (aF ax E.N (G55 E) A55 55)
section
variable (E:E55){A:Type}(k:Line->Option A)
def zdJ (E:E55) (v0:Int) (v1:Int) (v2:Int) (v3:Int){A:Type}(k:Line->Option A):Option A :=
  iG ax (G55 E) E.N A55 55 [1,1] [] (iH k)
    ⟨[(0,.int v0),(1,.int v1),(2,.int v2),(3,.int v3),(8,.cl (.ptr 8 0))],[(8,.box 114 [.p (.int .i64 0),.p (.int .i64 0),.p (.int .i64 0),.p (.int .i64 0)])],[]⟩
theorem e55 (a0:Int) (a1:Int) (a2:Int) (a3:Int):(F55 E (a0,a1,a2,a3)).T k =
  cond (decide (a2 < a0))
  (zdJ E a2 a3 a0 a1 k)
  (zdJ E a0 a1 a2 a3 k):=bH.trans (by kernel_rfl)
theorem zmi (v0:Int) (v1:Int) (v2:Int) (v3:Int):zdJ E v0 v1 v2 v3 k =
  (E.Ou ((aO (v3 - v1)),(aO (v2 - v0)))).T λ r1 =>
  (E.Ou ((aO ((aO (v1 * v2)) - (aO (v3 * v0)))),(aO (v2 - v0)))).T λ r2 =>
  k (⟨r1,r2⟩:Line):=by kernel_rfl
end
theorem o55 [aJ] (E:E55) (UB:Ok ax 71 (ae.un E.Ou)):Ok ax 55 (ae.un (F55 E)):=aY (aP (ay.nil.addF UB) (ak (by kernel_rfl)))
structure E56 where
  N:Nat
abbrev G56 (E:E56):aX:=dh Tabs.nil []
def A56:bW:=aU ax 56 [] {}
def F56 (E:E56):aS×aS->ae (Bool):=ae.ty (aF ax E.N (G56 E) A56 56)
section
variable (E:E56){A:Type}(k:Bool->Option A)
theorem e56 (a0:aS) (a1:aS):(F56 E (a0,a1)).T k =
  k (decide ((aO (a0.Num * a1.cO)) < (aO (a1.Num * a0.cO)))):=bH.trans (by kernel_rfl)
end
theorem o56 [aJ] (E:E56):Ok ax 56 (ae.un (F56 E)):=aY (aP ay.nil (ak (by kernel_rfl)))
structure E57 where
  N:Nat
  c116:Line×aC->ae (Bool)
abbrev G57 (E:E57):aX:=dh (Tabs.nil.addF 116 (ae.un E.c116)) []
def A57:bW:=aU ax 57 [] { ks:=[(1,3,⟨[],[(5,22,3)],[],[],[],[],[]⟩)] }
def F57 (E:E57):Line×(Sl aC)->ae ((Sl Int)):=ae.ty (aF ax E.N (G57 E) A57 57)
section
variable (E:E57){A:Type}(k:(Sl Int)->Option A)
def Qu (E:E57) (n:Nat) (a0:Line) (a1:(Sl aC)) (v6:Int) (Oo:Sl Int){A:Type}(k:(Sl Int)->Option A):Option A :=
  iG ax (G57 E) E.N A57 57 [1,1,0,1,0] [.n n] (iH k)
    ⟨[(1,eP a1),(2,.cl (.ptr 2 0)),(5,.cl (.vec 22)),(6,.int v6)],[(2,eB 114 a0),(22,eV 3 1 8 Oo)],[]⟩
theorem e57 (a0:Line) (a1:(Sl aC)):(F57 E (a0,a1)).T k =
  Qu E E.N a0 a1 0 (⟨0,(λ _=>0)⟩:(Sl Int)) k:=bH.trans (by kernel_rfl)
theorem zmj (n0:Nat) (a0:Line) (a1:(Sl aC)) (v6:Int) (Oo:Sl Int):Qu E (n0+1) a0 a1 v6 Oo k =
  cond (decide (v6 < (a1.len:Int)))
  (bf (decide (0<=v6/\v6 < (a1.len:Int))) ((E.c116 (a0,(a1.get v6.toNat))).T λ r1 =>
 cond r1
 (bf (room (Oo.len+1) 8) (Qu E n0 a0 a1 (aO (v6+1)) (⟨(Oo.len+1),(jd Oo.len Oo.get (λ _=>v6))⟩:(Sl Int)) k))
 (Qu E n0 a0 a1 (aO (v6+1)) Oo k)))
  (k Oo):=by kernel_rfl
end
theorem o57 [aJ] (E:E57) (h116:Ok ax 116 (ae.un E.c116)):Ok ax 57 (ae.un (F57 E)):=aY (aP (ay.nil.addF h116) (ak (by kernel_rfl)))
end Go.Proofs



namespace Go.Proofs
open Go Go.Pm
set_option maxRecDepth 100000
structure E71 where
  N:Nat
  Oa:Int×Int->ae (Int)
abbrev G71 (E:E71):aX:=dh (Tabs.nil.addF 125 (ae.un E.Oa)) []
def A71:bW:=aU ax 71 [] {}
def F71 (E:E71):Int×Int->ae (aS):=ae.ty (aF ax E.N (G71 E) A71 71)
section
variable (E:E71){A:Type}(k:aS->Option A)
theorem e71 (a0:Int) (a1:Int):(F71 E (a0,a1)).T k =
  (E.Oa ((if (aO (0 - a0)) > a0 then (aO (0 - a0)) else a0),a1)).T λ r1 =>
  bf (decide (r1 ≠ 0)) (bf (decide (r1 ≠ 0)) (k (⟨(aO (a0.tdiv r1)),(aO (a1.tdiv r1))⟩:aS))):=bH.trans (by kernel_rfl)
end
theorem o71 [aJ] (E:E71) (UC:Ok ax 125 (ae.un E.Oa)):Ok ax 71 (ae.un (F71 E)):=aY (aP (ay.nil.addF UC) (ak (by kernel_rfl)))
structure E72 where
  N:Nat
  c78:au×bP×(Sl bC)->ae (Int ⊕ ((Pt aW)×Int))
  zbh:(Sl Bool)×Bool->ae (Bool)
  c127:(Pt aW)×Int->ae ((Sl ai)×Bool)
  CZ:(Sl ai)×((dN 129 (Pt aW) Unit) ⊕ (dN 130 Unit (Pt (Pt found))))->ae (Sl ai×Unit)
  RU:ai×ai->ae (Int)
abbrev G72 (E:E72):aX:=dh (((((((Tabs.nil.addN [130]).addO 128 (.mkv 43 3 56 (ae.unV E.CZ))).addO 133 (.sort 43 3 56)).addC 134 (ae.un E.RU)).addF 78 (ae.unA E.c78)).addF 126 (ae.un E.zbh)).addF 127 (ae.un E.c127)) []
def A72:bW:=aU ax 72 [] { ks:=[(0,6,⟨[],[],[(35,2,5001,43)],[],[],[],[]⟩),(2,15,⟨[],[],[],[],[57,5001],[],[]⟩)],cut:=[15,16],unr:=[(8,3)],clo:=[130] }
def F72 (E:E72):au×bP×(Sl bC)×(Sl Bool)->ae (Int ⊕ ((Pt found)×Int)):=ae.tyA (aF ax E.N (G72 E) A72 72)
section
variable (E:E72){A:Type}(k:(Int ⊕ ((Pt found)×Int))->Option A)
def Xp (E:E72) (ve:(Pt aW)) (w57:Sl ai) (w67:Sl ai){A:Type}(k:(Int ⊕ ((Pt found)×Int))->Option A):Option A :=
  iG ax (G72 E) E.N A72 72 [1,1,1,1,1,1,1] [] (zcY k)
    ⟨[(12,.cl (.ptr 12 0))],[(12,.box 140 [.ptr 35 0]),(35,.box 145 [.p (.fp [.sl ve.v.au.aj.len 15 (λ i=>bG.enc (ve.v.au.aj.get i)),.sl ve.v.hits.len 6 (λ i=>bG.enc (ve.v.hits.get i)),.sl ve.v.kQ.len 1 (λ i=>bG.enc (ve.v.kQ.get i)),.int .i64 ve.v.rules.jL,.int .i64 ve.v.rules.kF] 0),.vec 57,.vec 67]),(57,.fvec 3 w57.len (λ i=>bG.enc (w57.get i))),(67,eV 43 3 56 w67)],[]⟩
theorem e72 (a0:au) (a1:bP) (a2:(Sl bC)) (a3:(Sl Bool)):(F72 E (a0,a1,a2,a3)).T k =
  (E.c78 (a0,a1,a2)).T λ r1=>zoa r1
  (λ r1=>cond (r1 == 0)
 ((E.zbh (a3,false)).T λ r2 =>
 cond r2
 (k (.inl 2))
 (cond (r1 != 0)
 (k (.inl r1))
 (none)))
 (cond (r1 != 0)
 (k (.inl r1))
 (none)))
  (λ r1=>cond (r1.2 == 0)
 ((E.zbh (a3,false)).T λ r3 =>
 cond r3
 (k (.inl 2))
 (cond (r1.2 != 0)
 (k (.inl r1.2))
 ((E.c127 (r1.1,1)).T λ r4 =>
 cond (!r4.2)
 (k (.inl 8))
 ((E.CZ (r4.1,(Sum.inl (⟨r1.1,()⟩:(dN 129 (Pt aW) Unit))))).T λ r5 =>
 bf (room r5.1.len 56) ((E.c127 (r1.1,2)).T λ r6 =>
 cond (!r6.2)
 (k (.inl 8))
 ((E.CZ (r6.1,(Sum.inl (⟨r1.1,()⟩:(dN 129 (Pt aW) Unit))))).T λ r7 =>
 bf (room (r5.1.len+r7.1.len) 56) ((E.CZ ((⟨(r5.1.len+r7.1.len),(jd r5.1.len r5.1.get r7.1.get)⟩:(Sl ai)),(Sum.inr (⟨(),(⟨(⟨(⟨r1.1,(⟨(r5.1.len+r7.1.len),(jd r5.1.len r5.1.get r7.1.get)⟩:(Sl ai)),(⟨0,(λ _=>(⟨0,(⟨0,(λ _=>0)⟩:(Sl Int)),(⟨0,(λ _=>0)⟩:(Sl Int))⟩:ai))⟩:(Sl ai))⟩:found)⟩:(Pt found))⟩:(Pt (Pt found)))⟩:(dN 130 Unit (Pt (Pt found))))))).T λ r8 =>
 Xp E r1.1 (⟨(r5.1.len+r7.1.len),(jd r5.1.len r5.1.get r7.1.get)⟩:(Sl ai)) r8.1 k)))))))
 (cond (r1.2 != 0)
 (k (.inl r1.2))
 ((E.c127 (r1.1,1)).T λ r9 =>
 cond (!r9.2)
 (k (.inl 8))
 ((E.CZ (r9.1,(Sum.inl (⟨r1.1,()⟩:(dN 129 (Pt aW) Unit))))).T λ r10 =>
 bf (room r10.1.len 56) ((E.c127 (r1.1,2)).T λ r11 =>
 cond (!r11.2)
 (k (.inl 8))
 ((E.CZ (r11.1,(Sum.inl (⟨r1.1,()⟩:(dN 129 (Pt aW) Unit))))).T λ r12 =>
 bf (room (r10.1.len+r12.1.len) 56) ((E.CZ ((⟨(r10.1.len+r12.1.len),(jd r10.1.len r10.1.get r12.1.get)⟩:(Sl ai)),(Sum.inr (⟨(),(⟨(⟨(⟨r1.1,(⟨(r10.1.len+r12.1.len),(jd r10.1.len r10.1.get r12.1.get)⟩:(Sl ai)),(⟨0,(λ _=>(⟨0,(⟨0,(λ _=>0)⟩:(Sl Int)),(⟨0,(λ _=>0)⟩:(Sl Int))⟩:ai))⟩:(Sl ai))⟩:found)⟩:(Pt found))⟩:(Pt (Pt found)))⟩:(dN 130 Unit (Pt (Pt found))))))).T λ r13 =>
 Xp E r1.1 (⟨(r10.1.len+r12.1.len),(jd r10.1.len r10.1.get r12.1.get)⟩:(Sl ai)) r13.1 k))))))):=zlQ.trans (by kernel_rfl)
theorem zxB (ve:(Pt aW)) (w57:Sl ai) (w67:Sl ai):Xp E ve w57 w67 k =
  bf (soP (ae.un E.RU) [] true w67) (k (.inr ((⟨(⟨ve,w57,(⟨w67.len,(soG (ae.un E.RU) [] true w67)⟩:(Sl ai))⟩:found)⟩:(Pt found)),0))):=by kernel_rfl
end
theorem o72 [aJ] (E:E72) (h78:Ok ax 78 (ae.unA E.c78)) (zpo:Ok ax 126 (ae.un E.zbh)) (h127:Ok ax 127 (ae.un E.c127)) (zF0:dX ax 128 (.mkv 43 3 56 (ae.unV E.CZ))) (zF1:dX ax 133 (.sort 43 3 56)) (zF2 : @Ok ⟨1⟩ ax 134 (ae.un E.RU)):Ok ax 72 (ae.unA (F72 E)):=zcZ (aP (((((((ay.nil.addN).addO zF0).addO zF1).addC zF2).addF h78).addF zpo).addF h127) (ak (by kernel_rfl)))
structure E74 where
  N:Nat
abbrev G74 (E:E74):aX:=dh Tabs.nil []
def A74:bW:=aU ax 74 [] {}
def F74 (E:E74):au×bC->ae (bZ):=ae.ty (aF ax E.N (G74 E) A74 74)
section
variable (E:E74){A:Type}(k:bZ->Option A)
theorem e74 (a0:au) (a1:bC):(F74 E (a0,a1)).T k =
  bf (decide (0<=a1.af/\a1.af < (a0.aj.len:Int))) (cond ((a0.aj.get a1.af.toNat).Kind == 3)
 (k (a0.aj.get a1.af.toNat).Clock)
 (k (⟨(aO ((aO (a1.Time - (a0.aj.get a1.af.toNat).Clock.High)) - (a0.aj.get a1.af.toNat).dH)),(aO ((aO (a1.Time - (a0.aj.get a1.af.toNat).Clock.Low))+(a0.aj.get a1.af.toNat).dH))⟩:bZ))):=bH.trans (by kernel_rfl)
end
theorem o74 [aJ] (E:E74):Ok ax 74 (ae.un (F74 E)):=aY (aP ay.nil (ak (by kernel_rfl)))
structure E76 where
  N:Nat
  Oa:Int×Int->ae (Int)
  Ou:Int×Int->ae (aS)
abbrev G76 (E:E76):aX:=dh ((Tabs.nil.addF 125 (ae.un E.Oa)).addF 71 (ae.un E.Ou)) []
def A76:bW:=aU ax 76 [] {}
def F76 (E:E76):Line×Int->ae (aS):=ae.ty (aF ax E.N (G76 E) A76 76)
section
variable (E:E76){A:Type}(k:aS->Option A)
theorem e76 (a0:Line) (a1:Int):(F76 E (a0,a1)).T k =
  (E.Oa (a0.Start.cO,a0.dM.cO)).T λ r1 =>
  bf (decide (r1 ≠ 0)) (bf (decide (a0.Start.cO ≠ 0)) (bf (decide (a0.dM.cO ≠ 0)) ((E.Ou ((aO ((aO (a0.Start.Num * (aO ((aO ((aO (a0.Start.cO.tdiv r1)) * a0.dM.cO)).tdiv a0.Start.cO))))+(aO ((aO (a0.dM.Num * (aO ((aO ((aO (a0.Start.cO.tdiv r1)) * a0.dM.cO)).tdiv a0.dM.cO)))) * a1)))),(aO ((aO (a0.Start.cO.tdiv r1)) * a0.dM.cO)))).T λ r2 =>
 k r2))):=bH.trans (by kernel_rfl)
end
theorem o76 [aJ] (E:E76) (UC:Ok ax 125 (ae.un E.Oa)) (UB:Ok ax 71 (ae.un E.Ou)):Ok ax 76 (ae.un (F76 E)):=aY (aP ((ay.nil.addF UC).addF UB) (ak (by kernel_rfl)))
structure E77 where
  N:Nat
  zbi:af×Int->ae (Int×Int)
  Jp:af×Int->ae (Bool)
abbrev G77 (E:E77):aX:=dh ((Tabs.nil.addF 136 (ae.un E.zbi)).addF 137 (ae.un E.Jp)) []
def A77:bW:=aU ax 77 [] {}
def F77 (E:E77):af×bZ->ae (Bool×Bool):=ae.ty (aF ax E.N (G77 E) A77 77)
section
variable (E:E77){A:Type}(k:(Bool×Bool)->Option A)
def jZ (E:E77) (n:Nat) (a0:af) (v6:Int) (v7:Int) (v12:Bool) (v13:Bool) (v14:Int){A:Type}(k:(Bool×Bool)->Option A):Option A :=
  iG ax (G77 E) E.N A77 77 [1,1,1,1,1,0,1,0] [.n n] (iH k)
    ⟨[(2,.cl (.ptr 2 0)),(6,.int v6),(7,.int v7),(12,.bool v12),(13,.bool v13),(14,.int v14)],[(2,eB 124 a0)],[]⟩
theorem e77 (a0:af) (a1:bZ):(F77 E (a0,a1)).T k =
  (E.zbi (a0,0)).T λ r1 =>
  (E.zbi (a0,(aO (a0.bM - 1)))).T λ r2 =>
  cond (decide ((aO (a1.Low - a0.bu.High)) >= r1.1))
  (jZ E E.N a0 (aO (a1.Low - a0.bu.High)) (aO (a1.High - a0.bu.Low)) (decide ((aO (a1.High - a0.bu.Low))<=r2.2)) false 0 k)
  (jZ E E.N a0 (aO (a1.Low - a0.bu.High)) (aO (a1.High - a0.bu.Low)) false false 0 k):=bH.trans (by kernel_rfl)
theorem zmk (n0:Nat) (a0:af) (v6:Int) (v7:Int) (v12:Bool) (v13:Bool) (v14:Int):jZ E (n0+1) a0 v6 v7 v12 v13 v14 k =
  cond (decide (v14 < a0.bM))
  ((E.zbi (a0,v14)).T λ r1 =>
 (E.Jp (a0,v14)).T λ r2 =>
 cond r2
 (cond (decide (r1.1<=v7))
 (cond (decide (r1.2 >= v6))
 (jZ E n0 a0 v6 v7 false v13 (aO (v14+1)) k)
 (jZ E n0 a0 v6 v7 v12 v13 (aO (v14+1)) k))
 (jZ E n0 a0 v6 v7 v12 v13 (aO (v14+1)) k))
 (cond (decide ((aO (r1.1 - a0.dC))<=v7))
 (cond (decide ((aO (r1.2+a0.dC)) >= v6))
 (jZ E n0 a0 v6 v7 v12 true (aO (v14+1)) k)
 (jZ E n0 a0 v6 v7 v12 v13 (aO (v14+1)) k))
 (jZ E n0 a0 v6 v7 v12 v13 (aO (v14+1)) k)))
  (k (v12,v13)):=by kernel_rfl
end
theorem o77 [aJ] (E:E77) (zdK:Ok ax 136 (ae.un E.zbi)) (Uo:Ok ax 137 (ae.un E.Jp)):Ok ax 77 (ae.un (F77 E)):=aY (aP ((ay.nil.addF zdK).addF Uo) (ak (by kernel_rfl)))
structure E88 where
  N:Nat
  c94:au×bP×(Sl bC)×Int->ae ((Sl ai)×Bool)
  c53:ai×ai->ae (Bool)
  zk9:ai×ai->ae (Bool)
abbrev G88 (E:E88):aX:=dh (((Tabs.nil.addF 94 (ae.un E.c94)).addF 53 (ae.un E.c53)).addF 144 (ae.un E.zk9)) []
def A88:bW:=aU ax 88 [] { ks:=[(0,3,⟨[],[(8,5000,43)],[],[],[],[],[]⟩),(1,6,⟨[],[(12,79,43)],[],[],[],[],[]⟩),(1,15,⟨[],[],[],[],[],[12],[]⟩)],cut:=[17] }
def F88 (E:E88):au×bP×(Sl bC)×Int->ae (Sl ai×Bool):=ae.tyV (aK ax E.N (G88 E) A88 88 43 3 56)
section
variable (E:E88){A:Type}(k:(Sl ai×Bool)->Option A)
def wR (E:E88) (n:Nat) (v10:(Sl ai)) (v13:Int) (Xq:Sl ai){A:Type}(k:(Sl ai×Bool)->Option A):Option A :=
  ptG ax (G88 E) E.N A88 88 [1,1,1,1,0,1,0] [.n n] (Ug 43 3 56) (Uf k)
    ⟨[(10,eP v10),(12,.cl (.vec 79)),(13,.int v13)],[(79,eV 43 3 56 Xq)],[]⟩
def Ce (E:E88) (n0:Nat) (n:Nat) (v10:(Sl ai)) (v13:Int) (v14:Bool) (v15:Int) (Xq:Sl ai){A:Type}(k:(Sl ai×Bool)->Option A):Option A :=
  ptG ax (G88 E) E.N A88 88 [1,1,1,1,0,1,0,0,1,0,0,1,0,1,0] [.n n0,.n n] (Ug 43 3 56) (Uf k)
    ⟨[(10,eP v10),(12,.cl (.vec 79)),(13,.int v13),(14,.bool v14),(15,.int v15)],[(79,eV 43 3 56 Xq)],[]⟩
def Gy (E:E88) (n0:Nat) (n:Nat) (v10:(Sl ai)) (v12:(Sl ai)) (v13:Int) (v16:Int){A:Type}(k:(Sl ai×Bool)->Option A):Option A :=
  ptG ax (G88 E) E.N A88 88 [1,1,1,1,0,1,0,0,1,0,0,1,1,1,1,0,0] [.n n0,.n n] (Ug 43 3 56) (Uf k)
    ⟨[(10,eP v10),(12,eP v12),(13,.int v13),(16,.int v16)],[],[]⟩
def KA (E:E88) (n0:Nat) (v10:(Sl ai)) (v12:(Sl ai)) (v13:Int) (v16:Int){A:Type}(k:(Sl ai×Bool)->Option A):Option A :=
  ptG ax (G88 E) E.N A88 88 [1,1,1,1,0,1,0,0,1,0,0,1,1,1,1,1] [.n n0] (Ug 43 3 56) (Uf k)
    ⟨[(10,eP v10),(12,eP v12),(13,.int v13),(16,.int v16)],[],[]⟩
theorem e88 (a0:au) (a1:bP) (a2:(Sl bC)) (a3:Int):(F88 E (a0,a1,a2,a3)).T k =
  (E.c94 (a0,a1,a2,a3)).T λ r1 =>
  cond (!r1.2)
  (k ((⟨0,(λ _=>(⟨0,(⟨0,(λ _=>0)⟩:(Sl Int)),(⟨0,(λ _=>0)⟩:(Sl Int))⟩:ai))⟩:(Sl ai)),false))
  (wR E E.N r1.1 0 (⟨0,(λ _=>(⟨0,(⟨0,(λ _=>0)⟩:(Sl Int)),(⟨0,(λ _=>0)⟩:(Sl Int))⟩:ai))⟩:(Sl ai)) k):=zc2.trans (by kernel_rfl)
theorem zml (n0:Nat) (v10:(Sl ai)) (v13:Int) (Xq:Sl ai):wR E (n0+1) v10 v13 Xq k =
  cond (decide (v13 < (v10.len:Int)))
  (Ce E n0 E.N v10 v13 true 0 Xq k)
  (k (Xq,true)):=by kernel_rfl
theorem Xr (n0:Nat) (n1:Nat) (v10:(Sl ai)) (v13:Int) (v14:Bool) (v15:Int) (Xq:Sl ai):Ce E n0 (n1+1) v10 v13 v14 v15 Xq k =
  cond (decide (v15 < (v10.len:Int)))
  (cond v14
 (cond (v13 == v15)
 (Ce E n0 n1 v10 v13 true (aO (v15+1)) Xq k)
 (bf (decide (0<=v15/\v15 < (v10.len:Int))) (bf (decide (0<=v13/\v13 < (v10.len:Int))) ((E.c53 ((v10.get v15.toNat),(v10.get v13.toNat))).T λ r1 =>
 Ce E n0 n1 v10 v13 (!r1) (aO (v15+1)) Xq k))))
 (Ce E n0 n1 v10 v13 false (aO (v15+1)) Xq k))
  (cond (!v14)
 (wR E n0 v10 (aO (v13+1)) Xq k)
 (Gy E n0 E.N v10 Xq v13 0 k)):=by kernel_rfl
theorem zmm (n0:Nat) (n1:Nat) (v10:(Sl ai)) (v12:(Sl ai)) (v13:Int) (v16:Int):Gy E n0 (n1+1) v10 v12 v13 v16 k =
  cond (decide (v16 < (v12.len:Int)))
  (bf (decide (0<=v16/\v16 < (v12.len:Int))) (bf (decide (0<=v13/\v13 < (v10.len:Int))) ((E.zk9 ((v12.get v16.toNat),(v10.get v13.toNat))).T λ r1 =>
 cond r1
 (Gy E n0 n1 v10 v12 v13 (aO (v16+1)) k)
 (KA E n0 v10 v12 v13 v16 k))))
  (KA E n0 v10 v12 v13 v16 k):=by kernel_rfl
theorem zxE (n0:Nat) (v10:(Sl ai)) (v12:(Sl ai)) (v13:Int) (v16:Int):KA E n0 v10 v12 v13 v16 k =
  bf (decide ((0:Int)<=0/\(0:Int)<=v16/\v16<=(v12.len:Int))) (bf (room ((v16:Int) - 0).toNat 56) (bf (decide (0<=v13/\v13 < (v10.len:Int))) (bf (room (((v16:Int) - 0).toNat+1) 56) (bf (decide ((0:Int)<=v16/\(v16:Int)<=(v12.len:Int)/\(v12.len:Int)<=(v12.len:Int))) (bf (room ((((v16:Int) - 0).toNat+1)+(((v12.len:Int):Int) - v16).toNat) 56) (wR E n0 v10 (aO (v13+1)) (⟨((((v16:Int) - 0).toNat+1)+(((v12.len:Int):Int) - v16).toNat),(jd (((v16:Int) - 0).toNat+1) (jd ((v16:Int) - 0).toNat (Jf v12.get 0) (λ _=>(v10.get v13.toNat))) (Jf v12.get v16.toNat))⟩:(Sl ai)) k)))))):=by kernel_rfl
end
theorem o88 [aJ] (E:E88) (h94:Ok ax 94 (ae.un E.c94)) (h53:Ok ax 53 (ae.un E.c53)) (zpr:Ok ax 144 (ae.un E.zk9)):dX ax 88 (.mkv 43 3 56 (ae.unV (F88 E))):=Ue (MC (((ay.nil.addF h94).addF h53).addF zpr) (ak (by kernel_rfl)))
structure E90 where
  N:Nat
  c148:(Sl bC)×(Sl Int)->ae ((Sl bC))
  zla:au×(Sl bC)->ae (bZ×Bool)
abbrev G90 (E:E90):aX:=dh ((Tabs.nil.addF 148 (ae.un E.c148)).addF 147 (ae.un E.zla)) []
def A90:bW:=aU ax 90 [] {}
def F90 (E:E90):au×(Sl bC)×(Sl Int)->ae (Bool):=ae.ty (aF ax E.N (G90 E) A90 90)
section
variable (E:E90){A:Type}(k:Bool->Option A)
theorem e90 (a0:au) (a1:(Sl bC)) (a2:(Sl Int)):(F90 E (a0,a1,a2)).T k =
  (E.c148 (a1,a2)).T λ r1 =>
  (E.zla (a0,r1)).T λ r2 =>
  k r2.2:=bH.trans (by kernel_rfl)
end
theorem o90 [aJ] (E:E90) (zps:Ok ax 148 (ae.un E.c148)) (zpt:Ok ax 147 (ae.un E.zla)):Ok ax 90 (ae.un (F90 E)):=aY (aP ((ay.nil.addF zps).addF zpt) (ak (by kernel_rfl)))
structure E91 where
  N:Nat
  c65:au×(Sl bC)×ai->ae ((Sl aC))
  c87:(Sl bC)×(Sl Int)×Int->ae (Bool)
  zI:(Sl aC)->ae (Bool)
  zlb:(Sl aC)×Int->ae (aS×aS)
  VG:aS->ae (Int)
  c86:Int×Int×Int->ae (Bool)
  c77:af×bZ->ae (Bool×Bool)
abbrev G91 (E:E91):aX:=dh (((((((Tabs.nil.addF 65 (ae.un E.c65)).addF 87 (ae.un E.c87)).addF 149 (ae.un E.zI)).addF 150 (ae.un E.zlb)).addF 151 (ae.un E.VG)).addF 86 (ae.un E.c86)).addF 77 (ae.un E.c77)) []
def A91:bW:=aU ax 91 [] { ks:=[(1,4,⟨[],[(7,92,3)],[],[],[],[],[]⟩)] }
def F91 (E:E91):au×(Sl bC)×ai->ae ((Sl Int)):=ae.ty (aF ax E.N (G91 E) A91 91)
section
variable (E:E91){A:Type}(k:(Sl Int)->Option A)
def tZ (E:E91) (n:Nat) (a0:au) (a1:(Sl bC)) (a2:ai) (v8:(Sl aC)) (v9:Int) (Xt:Sl Int){A:Type}(k:(Sl Int)->Option A):Option A :=
  iG ax (G91 E) E.N A91 91 [1,1,1,0,1,0] [.n n] (iH k)
    ⟨[(1,eP a1),(3,.cl (.ptr 3 0)),(5,.cl (.ptr 5 0)),(7,.cl (.vec 92)),(8,eP v8),(9,.int v9)],[(3,eB 24 a0),(5,eB 43 a2),(92,eV 3 1 8 Xt)],[]⟩
theorem e91 (a0:au) (a1:(Sl bC)) (a2:ai):(F91 E (a0,a1,a2)).T k =
  (E.c65 (a0,a1,a2)).T λ r1 =>
  tZ E E.N a0 a1 a2 r1 0 (⟨0,(λ _=>0)⟩:(Sl Int)) k:=bH.trans (by kernel_rfl)
theorem zmn (n0:Nat) (a0:au) (a1:(Sl bC)) (a2:ai) (v8:(Sl aC)) (v9:Int) (Xt:Sl Int):tZ E (n0+1) a0 a1 a2 v8 v9 Xt k =
  cond (decide (v9 < (a0.aj.len:Int)))
  (bf (decide (0<=v9/\v9 < (a0.aj.len:Int))) (cond ((a0.aj.get v9.toNat).View != a2.View)
 (tZ E n0 a0 a1 a2 v8 (aO (v9+1)) Xt k)
 ((E.c87 (a1,a2.Hits,v9)).T λ r1 =>
 cond r1
 (tZ E n0 a0 a1 a2 v8 (aO (v9+1)) Xt k)
 ((E.zI v8).T λ r2 =>
 cond r2
 (tZ E n0 a0 a1 a2 v8 (aO (v9+1)) Xt k)
 (bf (decide (0<=v9/\v9 < (a0.aj.len:Int))) ((E.zlb (v8,(a0.aj.get v9.toNat).Z)).T λ r3 =>
 (E.VG r3.1).T λ r4 =>
 (E.VG (⟨(aO (0 - r3.2.Num)),r3.2.cO⟩:aS)).T λ r5 =>
 (E.c86 (r4,(-1000000),1000000)).T λ r6 =>
 cond (!r6)
 (tZ E n0 a0 a1 a2 v8 (aO (v9+1)) Xt k)
 ((E.c86 ((aO (0 - r5)),(-1000000),1000000)).T λ r7 =>
 cond (!r7)
 (tZ E n0 a0 a1 a2 v8 (aO (v9+1)) Xt k)
 (bf (decide (0<=v9/\v9 < (a0.aj.len:Int))) ((E.c77 ((a0.aj.get v9.toNat),(⟨r4,(aO (0 - r5))⟩:bZ))).T λ r8 =>
 cond r8.1
 (bf (room (Xt.len+1) 8) (tZ E n0 a0 a1 a2 v8 (aO (v9+1)) (⟨(Xt.len+1),(jd Xt.len Xt.get (λ _=>v9))⟩:(Sl Int)) k))
 (tZ E n0 a0 a1 a2 v8 (aO (v9+1)) Xt k))))))))))
  (k Xt):=by kernel_rfl
end
theorem o91 [aJ] (E:E91) (h65:Ok ax 65 (ae.un E.c65)) (h87:Ok ax 87 (ae.un E.c87)) (CV:Ok ax 149 (ae.un E.zI)) (zpv:Ok ax 150 (ae.un E.zlb)) (ziy:Ok ax 151 (ae.un E.VG)) (h86:Ok ax 86 (ae.un E.c86)) (h77:Ok ax 77 (ae.un E.c77)):Ok ax 91 (ae.un (F91 E)):=aY (aP (((((((ay.nil.addF h65).addF h87).addF CV).addF zpv).addF ziy).addF h86).addF h77) (ak (by kernel_rfl)))
structure E92 where
  N:Nat
  c152:(Sl Int)×Int->ae (Int)
abbrev G92 (E:E92):aX:=dh (Tabs.nil.addF 152 (ae.un E.c152)) []
def A92:bW:=aU ax 92 [] {}
def F92 (E:E92):ai×ai->ae (Bool):=ae.ty (aF ax E.N (G92 E) A92 92)
section
variable (E:E92){A:Type}(k:Bool->Option A)
def Xu (E:E92) (n:Nat) (a0:ai) (a1:ai) (v11:Int){A:Type}(k:Bool->Option A):Option A :=
  iG ax (G92 E) E.N A92 92 [1,0,1,0] [.n n] (iH k)
    ⟨[(2,.cl (.ptr 2 0)),(3,.cl (.ptr 3 0)),(9,eP a1.Hits),(10,.int (a1.Hits.len:Int)),(11,.int v11)],[(2,eB 43 a0),(3,eB 43 a1)],[]⟩
theorem e92 (a0:ai) (a1:ai):(F92 E (a0,a1)).T k =
  Xu E E.N a0 a1 0 k:=bH.trans (by kernel_rfl)
theorem zmo (n0:Nat) (a0:ai) (a1:ai) (v11:Int):Xu E (n0+1) a0 a1 v11 k =
  cond (decide (v11 < (a1.Hits.len:Int)))
  (bf (decide (0<=v11/\v11 < (a1.Hits.len:Int))) ((E.c152 (a0.Hits,a1.Hits.get v11.toNat)).T λ r1 =>
 cond (decide (r1 < 0))
 (k false)
 (bf (decide (0<=r1/\r1 < (a0.bz.len:Int))) (bf (decide (0<=v11/\v11 < (a1.bz.len:Int))) (cond (a0.bz.get r1.toNat != a1.bz.get v11.toNat)
 (k false)
 (Xu E n0 a0 a1 (aO (v11+1)) k))))))
  (k (a0.View == a1.View)):=by kernel_rfl
end
theorem o92 [aJ] (E:E92) (zpx:Ok ax 152 (ae.un E.c152)):Ok ax 92 (ae.un (F92 E)):=aY (aP (ay.nil.addF zpx) (ak (by kernel_rfl)))
structure E93 where
  N:Nat
  c50:au×(Sl bC)->ae (bZ×Int)
abbrev G93 (E:E93):aX:=dh (Tabs.nil.addF 50 (ae.un E.c50)) []
def A93:bW:=aU ax 93 [] { ks:=[(1,3,⟨[],[(6,27,92)],[],[],[],[],[]⟩)] }
def F93 (E:E93):(Pt aW)×ai->ae (bZ×Bool):=ae.ty (aF ax E.N (G93 E) A93 93)
section
variable (E:E93){A:Type}(k:(bZ×Bool)->Option A)
def Xv (E:E93) (n:Nat) (a0:(Pt aW)) (a1:ai) (v14:Int) (w27:Sl bC){A:Type}(k:(bZ×Bool)->Option A):Option A :=
  iG ax (G93 E) E.N A93 93 [1,1,0,1,0] [.n n] (iH k)
    ⟨[(0,eP a0),(4,.cl (.ptr 4 0)),(6,.cl (.vec 27)),(12,eP a1.Hits),(13,.int (a1.Hits.len:Int)),(14,.int v14)],[(4,.box 105 [.p (.int .i64 0),.p (.int .i64 0)]),(27,eV 92 6 48 w27)],[]⟩
theorem e93 (a0:(Pt aW)) (a1:ai):(F93 E (a0,a1)).T k =
  Xv E E.N a0 a1 0 (⟨0,(λ _=>(⟨0,0,0,0,0,0⟩:bC))⟩:(Sl bC)) k:=bH.trans (by kernel_rfl)
theorem zmq (n0:Nat) (a0:(Pt aW)) (a1:ai) (v14:Int) (w27:Sl bC):Xv E (n0+1) a0 a1 v14 w27 k =
  cond (decide (v14 < (a1.Hits.len:Int)))
  (bf (decide (0<=v14/\v14 < (a1.Hits.len:Int))) (bf (decide (0<=a1.Hits.get v14.toNat/\a1.Hits.get v14.toNat < (a0.v.hits.len:Int))) (bf (room (w27.len+1) 48) (Xv E n0 a0 a1 (aO (v14+1)) (⟨(w27.len+1),(jd w27.len w27.get (λ _=>(a0.v.hits.get (a1.Hits.get v14.toNat).toNat)))⟩:(Sl bC)) k))))
  ((E.c50 (a0.v.au,w27)).T λ r1 =>
 k (r1.1,(r1.2 == 0))):=by kernel_rfl
end
theorem o93 [aJ] (E:E93) (h50:Ok ax 50 (ae.un E.c50)):Ok ax 93 (ae.un (F93 E)):=aY (aP (ay.nil.addF h50) (ak (by kernel_rfl)))
structure E94 where
  N:Nat
  zlc:au×(Sl bC)×Int->ae ((Sl ai)×Bool)
  c154:au×bP×(Sl bC)×ai->ae (Bool)
abbrev G94 (E:E94):aX:=dh ((Tabs.nil.addF 153 (ae.un E.zlc)).addF 154 (ae.un E.c154)) []
def A94:bW:=aU ax 94 [] { ks:=[(1,6,⟨[],[(12,43,43)],[],[],[],[],[]⟩)] }
def F94 (E:E94):au×bP×(Sl bC)×Int->ae ((Sl ai)×Bool):=ae.ty (aF ax E.N (G94 E) A94 94)
section
variable (E:E94){A:Type}(k:((Sl ai)×Bool)->Option A)
def Cf (E:E94) (n:Nat) (a0:au) (a1:bP) (a2:(Sl bC)) (v10:(Sl ai)) (v13:Int) (w43:Sl ai){A:Type}(k:((Sl ai)×Bool)->Option A):Option A :=
  iG ax (G94 E) E.N A94 94 [1,1,1,1,0,1,0] [.n n] (iH k)
    ⟨[(2,eP a2),(4,.cl (.ptr 4 0)),(5,.cl (.ptr 5 0)),(10,eP v10),(12,.cl (.vec 43)),(13,.int v13)],[(4,eB 24 a0),(5,eB 26 a1),(43,eV 43 3 56 w43)],[]⟩
theorem e94 (a0:au) (a1:bP) (a2:(Sl bC)) (a3:Int):(F94 E (a0,a1,a2,a3)).T k =
  (E.zlc (a0,a2,a3)).T λ r1 =>
  cond (!r1.2)
  (k ((⟨0,λ _=>default⟩:(Sl ai)),false))
  (Cf E E.N a0 a1 a2 r1.1 0 (⟨0,(λ _=>(⟨0,(⟨0,(λ _=>0)⟩:(Sl Int)),(⟨0,(λ _=>0)⟩:(Sl Int))⟩:ai))⟩:(Sl ai)) k):=bH.trans (by kernel_rfl)
theorem zmr (n0:Nat) (a0:au) (a1:bP) (a2:(Sl bC)) (v10:(Sl ai)) (v13:Int) (w43:Sl ai):Cf E (n0+1) a0 a1 a2 v10 v13 w43 k =
  cond (decide (v13 < (v10.len:Int)))
  (bf (decide (0<=v13/\v13 < (v10.len:Int))) ((E.c154 (a0,a1,a2,(v10.get v13.toNat))).T λ r1 =>
 cond r1
 (bf (decide (0<=v13/\v13 < (v10.len:Int))) (bf (room (w43.len+1) 56) (Cf E n0 a0 a1 a2 v10 (aO (v13+1)) (⟨(w43.len+1),(jd w43.len w43.get (λ _=>(v10.get v13.toNat)))⟩:(Sl ai)) k)))
 (Cf E n0 a0 a1 a2 v10 (aO (v13+1)) w43 k)))
  (k (w43,true)):=by kernel_rfl
end
theorem o94 [aJ] (E:E94) (zpA:Ok ax 153 (ae.un E.zlc)) (zpB:Ok ax 154 (ae.un E.c154)):Ok ax 94 (ae.un (F94 E)):=aY (aP ((ay.nil.addF zpA).addF zpB) (ak (by kernel_rfl)))
structure E97 where
  N:Nat
  zk7:ai×(Pt ai)->ae (Bool)
abbrev G97 (E:E97):aX:=dh (Tabs.nil.addF 132 (ae.un E.zk7)) []
def A97:bW:=aU ax 97 [] {}
def F97 (E:E97):(Sl ai)×(dN 132 Unit (Pt ai))->ae (Int):=ae.ty (aF ax E.N (G97 E) A97 97)
section
variable (E:E97){A:Type}(k:Int->Option A)
def Xw (E:E97) (n:Nat) (a0:(Sl ai)) (a1:(dN 132 Unit (Pt ai))) (v8:Int){A:Type}(k:Int->Option A):Option A :=
  iG ax (G97 E) E.N A97 97 [1,0,1,0] [.n n] (iH k)
    ⟨[(0,eP a0),(1,eP a1),(7,.int (a0.len:Int)),(8,.int v8)],[],[]⟩
theorem e97 (a0:(Sl ai)) (a1:(dN 132 Unit (Pt ai))):(F97 E (a0,a1)).T k =
  Xw E E.N a0 a1 0 k:=bH.trans (by kernel_rfl)
theorem zms (n0:Nat) (a0:(Sl ai)) (a1:(dN 132 Unit (Pt ai))) (v8:Int):Xw E (n0+1) a0 a1 v8 k =
  cond (decide (v8 < (a0.len:Int)))
  (bf (decide (0<=v8/\v8 < (a0.len:Int))) ((E.zk7 ((a0.get v8.toNat),a1.v)).T λ r1 =>
 cond r1
 (k v8)
 (Xw E n0 a0 a1 (aO (v8+1)) k)))
  (k (-1)):=by kernel_rfl
end
theorem o97 [aJ] (E:E97) (zpD:Ok ax 132 (ae.un E.zk7)):Ok ax 97 (ae.un (F97 E)):=aY (aP (ay.nil.addF zpD) (ak (by kernel_rfl)))
end Go.Proofs

namespace Go.Proofs
open Go Go.Pm
set_option maxRecDepth 100000
structure UD where
  N:Nat
  c156:aC->ae (Bool)
  c157:Int×Int×Int->ae (Bool)
abbrev zxF (E:UD):aX:=dh ((Tabs.nil.addF 156 (ae.un E.c156)).addF 157 (ae.un E.c157)) []
def zxG:bW:=aU ax 109 [] {}
def ziA (E:UD):(Sl aC)->ae (Bool):=ae.ty (aF ax E.N (zxF E) zxG 109)
section
variable (E:UD){A:Type}(k:Bool->Option A)
def MX (E:UD) (n:Nat) (a0:(Sl aC)) (v7:Int){A:Type}(k:Bool->Option A):Option A :=
  iG ax (zxF E) E.N zxG 109 [1,0,1,0] [.n n] (iH k)
    ⟨[(0,eP a0),(5,eP a0),(6,.int (a0.len:Int)),(7,.int v7)],[],[]⟩
theorem e109 (a0:(Sl aC)):(ziA E (a0)).T k =
  MX E E.N a0 0 k:=bH.trans (by kernel_rfl)
theorem zdL (n0:Nat) (a0:(Sl aC)) (v7:Int):MX E (n0+1) a0 v7 k =
  cond (decide (v7 < (a0.len:Int)))
  (bf (decide (0<=v7/\v7 < (a0.len:Int))) ((E.c156 (a0.get v7.toNat)).T λ r1 =>
 cond (!r1)
 (k false)
 (MX E n0 a0 (aO (v7+1)) k)))
  ((E.c157 ((a0.len:Int),1,24)).T λ r2 =>
 k r2):=by kernel_rfl
end
theorem zF5 [aJ] (E:UD) (zpE:Ok ax 156 (ae.un E.c156)) (xG:Ok ax 157 (ae.un E.c157)):Ok ax 109 (ae.un (ziA E)):=aY (aP ((ay.nil.addF zpE).addF xG) (ak (by kernel_rfl)))
structure UE where
  N:Nat
  c160:au->ae (Bool)
  ql:au×bC->ae (placed×Bool)
abbrev zxH (E:UE):aX:=dh ((Tabs.nil.addF 160 (ae.un E.c160)).addF 112 (ae.un E.ql)) []
def zxI:bW:=aU ax 111 [] {}
def ziB (E:UE):au×(Sl bC)->ae (Int):=ae.ty (aF ax E.N (zxH E) zxI 111)
section
variable (E:UE){A:Type}(k:Int->Option A)
def MZ (E:UE) (n:Nat) (a0:au) (a1:(Sl bC)) (v17:Int){A:Type}(k:Int->Option A):Option A :=
  iG ax (zxH E) E.N zxI 111 [1,1,1,0,1,0] [.n n] (iH k)
    ⟨[(2,.cl (.ptr 2 0)),(15,eP a1),(16,.int (a1.len:Int)),(17,.int v17)],[(2,eB 24 a0)],[]⟩
theorem zF6 (a0:au) (a1:(Sl bC)):(ziB E (a0,a1)).T k =
  cond (decide ((a1.len:Int) > 2000))
  (k 3)
  ((E.c160 a0).T λ r1 =>
 cond (!r1)
 (k 2)
 (MZ E E.N a0 a1 0 k)):=bH.trans (by kernel_rfl)
theorem zdM (n0:Nat) (a0:au) (a1:(Sl bC)) (v17:Int):MZ E (n0+1) a0 a1 v17 k =
  cond (decide (v17 < (a1.len:Int)))
  (bf (decide (0<=v17/\v17 < (a1.len:Int))) ((E.ql (a0,(a1.get v17.toNat))).T λ r1 =>
 cond (!r1.2)
 (k 2)
 (MZ E n0 a0 a1 (aO (v17+1)) k)))
  (k 0):=by kernel_rfl
end
theorem o111 [aJ] (E:UE) (xE:Ok ax 160 (ae.un E.c160)) (h112:Ok ax 112 (ae.un E.ql)):Ok ax 111 (ae.un (ziB E)):=aY (aP ((ay.nil.addF xE).addF h112) (ak (by kernel_rfl)))
structure Zl where
  N:Nat
abbrev zF7 (E:Zl):aX:=dh Tabs.nil []
def zF8:bW:=aU ax 113 [] {}
def ziC (E:Zl):placed×bC->ae (bZ):=ae.ty (aF ax E.N (zF7 E) zF8 113)
section
variable (E:Zl){A:Type}(k:bZ->Option A)
theorem zF9 (a0:placed) (a1:bC):(ziC E (a0,a1)).T k =
  cond (a0.af.Kind == 3)
  (k a0.af.Clock)
  (k (⟨(aO ((aO (a1.Time - a0.af.Clock.High)) - a0.af.dH)),(aO ((aO (a1.Time - a0.af.Clock.Low))+a0.af.dH))⟩:bZ)):=bH.trans (by kernel_rfl)
end
theorem zGa [aJ] (E:Zl):Ok ax 113 (ae.un (ziC E)):=aY (aP ay.nil (ak (by kernel_rfl)))
structure Zm where
  N:Nat
  c157:Int×Int×Int->ae (Bool)
  c117:(Sl aC)×((dN 118 Unit Unit) ⊕ (dN 162 Unit (Pt Int)))->ae (set×Int)
  zbj:set×Int->ae (aS×aS)
abbrev zGb (E:Zm):aX:=dh (((Tabs.nil.addF 157 (ae.un E.c157)).addF 117 (ae.un E.c117)).addF 163 (ae.un E.zbj)) []
def zGc:bW:=aU ax 114 [] {}
def ziD (E:Zm):(Sl aC)×Int->ae (aS×aS×Int):=ae.ty (aF ax E.N (zGb E) zGc 114)
section
variable (E:Zm){A:Type}(k:(aS×aS×Int)->Option A)
theorem zGd (a0:(Sl aC)) (a1:Int):(ziD E (a0,a1)).T k =
  (E.c157 (a1,(-100000),200000)).T λ r1 =>
  cond (!r1)
  (k ((⟨0,0⟩:aS),(⟨0,0⟩:aS),2))
  ((E.c117 (a0,(Sum.inr (⟨(),(⟨a1⟩:(Pt Int))⟩:(dN 162 Unit (Pt Int)))))).T λ r2 =>
 cond (r2.2 != 0)
 (k ((⟨0,0⟩:aS),(⟨0,0⟩:aS),r2.2))
 ((E.zbj (r2.1,a1)).T λ r3 =>
 k (r3.1,r3.2,0))):=bH.trans (by kernel_rfl)
end
theorem zGe [aJ] (E:Zm) (xG:Ok ax 157 (ae.un E.c157)) (UF:Ok ax 117 (ae.un E.c117)) (zpF:Ok ax 163 (ae.un E.zbj)):Ok ax 114 (ae.un (ziD E)):=aY (aP (((ay.nil.addF xG).addF UF).addF zpF) (ak (by kernel_rfl)))
structure Qv where
  N:Nat
  c160:au->ae (Bool)
  fK:Int×Int×Int->ae (Bool)
  c164:bZ×Int->ae (Bool)
  zbm:(Pt placed)->ae (List (Int×bZ))
abbrev zpG (E:Qv):aX:=dh (((((Tabs.nil.addF 160 (ae.un E.c160)).addF 161 (ae.un E.fK)).addF 164 (ae.un E.c164)).addF 165 (aF ax E.N (dh Tabs.nil []) (aU ax 165 [] {}) 165)).addI 204 (ae.unI E.zbm)) []
def zpH:bW:=aU ax 115 [] { cut:=[10] }
def ziE (E:Qv):au×Int×bZ->ae (Bool×Bool×Int):=ae.ty (aF ax E.N (zpG E) zpH 115)
section
variable (E:Qv){A:Type}(k:(Bool×Bool×Int)->Option A)
def pY (E:Qv) (l:List (Int×bZ)) (a0:au) (a1:Int) (mD:Int) (lS:Int) (oW:Bool) (lT:Int){A:Type}(k:(Bool×Bool×Int)->Option A):Option A :=
  iG ax (zpG E) E.N zpH 115 [1,1,1,1,1,1,0,1,0] [.y (l.map dw.enc)] (iH k)
    ⟨[(9,.cl (.ptr 9 0)),(10,.cl (.ptr 10 0)),(11,.cl (.ptr 11 0)),(12,.cl (.ptr 12 0)),(13,.cl (.ptr 13 0)),(56,.p (.fn 204 [] [.fp [.int .i64 (a0.aj.get a1.toNat).Kind,.int .i64 (a0.aj.get a1.toNat).View,.int .i64 (a0.aj.get a1.toNat).Z,.int .i64 (a0.aj.get a1.toNat).First,.int .i64 (a0.aj.get a1.toNat).aZ,.int .i64 (a0.aj.get a1.toNat).bM,.int .i64 (a0.aj.get a1.toNat).dC,.int .i64 (a0.aj.get a1.toNat).bu.Low,.int .i64 (a0.aj.get a1.toNat).bu.High,.int .i64 (a0.aj.get a1.toNat).Clock.Low,.int .i64 (a0.aj.get a1.toNat).Clock.High,.int .i64 (a0.aj.get a1.toNat).dH,.int .i64 (a0.aj.get a1.toNat).Least,.sl (a0.aj.get a1.toNat).aQ.len 3 (λ i=>bG.enc ((a0.aj.get a1.toNat).aQ.get i)),.sl (a0.aj.get a1.toNat).Dead.len 1 (λ i=>bG.enc ((a0.aj.get a1.toNat).Dead.get i)),.int .i64 a1] 0]))],[(9,.box 185 [.p (.int .i64 (a0.aj.get a1.toNat).Kind),.p (.int .i64 (a0.aj.get a1.toNat).View),.p (.int .i64 (a0.aj.get a1.toNat).Z),.p (.int .i64 (a0.aj.get a1.toNat).First),.p (.int .i64 (a0.aj.get a1.toNat).aZ),.p (.int .i64 (a0.aj.get a1.toNat).bM),.p (.int .i64 (a0.aj.get a1.toNat).dC),.p (.int .i64 (a0.aj.get a1.toNat).bu.Low),.p (.int .i64 (a0.aj.get a1.toNat).bu.High),.p (.int .i64 (a0.aj.get a1.toNat).Clock.Low),.p (.int .i64 (a0.aj.get a1.toNat).Clock.High),.p (.int .i64 (a0.aj.get a1.toNat).dH),.p (.int .i64 (a0.aj.get a1.toNat).Least),.p (.sl (a0.aj.get a1.toNat).aQ.len 3 (λ i=>bG.enc ((a0.aj.get a1.toNat).aQ.get i))),.p (.sl (a0.aj.get a1.toNat).Dead.len 1 (λ i=>bG.enc ((a0.aj.get a1.toNat).Dead.get i))),.p (.int .i64 a1)]),(10,eB 3 mD),(11,eB 3 lS),(12,eB 4 oW),(13,eB 3 lT)],[]⟩
def Gz (E:Qv) (l0:List (Int×bZ)) (a0:au) (a1:Int) (mD:Int) (lS:Int) (oW:Bool) (lT:Int) (x15:bZ){A:Type}(k:(Bool×Bool×Int)->Option A):Option A :=
  iG ax (zpG E) E.N zpH 115 [1,1,1,1,1,1,0,1,0,0,0,1] [.y (l0.map dw.enc)] (iH k)
    ⟨[(9,.cl (.ptr 9 0)),(10,.cl (.ptr 10 0)),(11,.cl (.ptr 11 0)),(12,.cl (.ptr 12 0)),(13,.cl (.ptr 13 0)),(15,.cl (.ptr 15 0)),(56,.p (.fn 204 [] [.fp [.int .i64 (a0.aj.get a1.toNat).Kind,.int .i64 (a0.aj.get a1.toNat).View,.int .i64 (a0.aj.get a1.toNat).Z,.int .i64 (a0.aj.get a1.toNat).First,.int .i64 (a0.aj.get a1.toNat).aZ,.int .i64 (a0.aj.get a1.toNat).bM,.int .i64 (a0.aj.get a1.toNat).dC,.int .i64 (a0.aj.get a1.toNat).bu.Low,.int .i64 (a0.aj.get a1.toNat).bu.High,.int .i64 (a0.aj.get a1.toNat).Clock.Low,.int .i64 (a0.aj.get a1.toNat).Clock.High,.int .i64 (a0.aj.get a1.toNat).dH,.int .i64 (a0.aj.get a1.toNat).Least,.sl (a0.aj.get a1.toNat).aQ.len 3 (λ i=>bG.enc ((a0.aj.get a1.toNat).aQ.get i)),.sl (a0.aj.get a1.toNat).Dead.len 1 (λ i=>bG.enc ((a0.aj.get a1.toNat).Dead.get i)),.int .i64 a1] 0]))],[(9,.box 185 [.p (.int .i64 (a0.aj.get a1.toNat).Kind),.p (.int .i64 (a0.aj.get a1.toNat).View),.p (.int .i64 (a0.aj.get a1.toNat).Z),.p (.int .i64 (a0.aj.get a1.toNat).First),.p (.int .i64 (a0.aj.get a1.toNat).aZ),.p (.int .i64 (a0.aj.get a1.toNat).bM),.p (.int .i64 (a0.aj.get a1.toNat).dC),.p (.int .i64 (a0.aj.get a1.toNat).bu.Low),.p (.int .i64 (a0.aj.get a1.toNat).bu.High),.p (.int .i64 (a0.aj.get a1.toNat).Clock.Low),.p (.int .i64 (a0.aj.get a1.toNat).Clock.High),.p (.int .i64 (a0.aj.get a1.toNat).dH),.p (.int .i64 (a0.aj.get a1.toNat).Least),.p (.sl (a0.aj.get a1.toNat).aQ.len 3 (λ i=>bG.enc ((a0.aj.get a1.toNat).aQ.get i))),.p (.sl (a0.aj.get a1.toNat).Dead.len 1 (λ i=>bG.enc ((a0.aj.get a1.toNat).Dead.get i))),.p (.int .i64 a1)]),(10,eB 3 mD),(11,eB 3 lS),(12,eB 4 oW),(13,eB 3 lT),(15,eB 105 x15)],[]⟩
theorem e115 (a0:au) (a1:Int) (a2:bZ):(ziE E (a0,a1,a2)).T k =
  (E.c160 a0).T λ r1 =>
  cond (!r1)
  (k (false,false,2))
  ((E.fK (a1,0,(aO ((a0.aj.len:Int) - 1)))).T λ r2 =>
 cond (!r2)
 (k (false,false,2))
 ((E.c164 (a2,1000000)).T λ r3 =>
 cond (!r3)
 (k (false,false,2))
 (bf (decide (0<=a1/\a1 < (a0.aj.len:Int))) ((E.zbm (⟨(⟨(a0.aj.get a1.toNat),a1⟩:placed)⟩:(Pt placed))).T λ r4 =>
 pY E r4 a0 a1 (aO (a2.Low - (a0.aj.get a1.toNat).bu.High)) (aO (a2.High - (a0.aj.get a1.toNat).bu.Low)) false (aO (a2.Low - (a0.aj.get a1.toNat).bu.High)) k)))):=bH.trans (by kernel_rfl)
theorem ziF (a0:au) (a1:Int) (mD:Int) (lS:Int) (oW:Bool) (lT:Int):pY E [] a0 a1 mD lS oW lT k =
  k (decide (lT > lS),oW,0):=by kernel_rfl
theorem UG (y:Int×bZ) (l0:List (Int×bZ)) (a0:au) (a1:Int) (mD:Int) (lS:Int) (oW:Bool) (lT:Int):pY E (y :: l0) a0 a1 mD lS oW lT k =
  cond oW
  (Gz E l0 a0 a1 mD lS true lT y.2 k)
  (cond (decide ((aO (y.2.Low - (a0.aj.get a1.toNat).dC))<=lS))
 (Gz E l0 a0 a1 mD lS (decide ((aO (y.2.High+(a0.aj.get a1.toNat).dC)) >= mD)) lT y.2 k)
 (Gz E l0 a0 a1 mD lS false lT y.2 k)):=by kernel_rfl
theorem zpI (l0:List (Int×bZ)) (a0:au) (a1:Int) (mD:Int) (lS:Int) (oW:Bool) (lT:Int) (x15:bZ):Gz E l0 a0 a1 mD lS oW lT x15 k =
  cond (decide (x15.Low<=lT))
  (cond (decide (lT<=x15.High))
 (pY E l0 a0 a1 mD lS oW (aO (x15.High+1)) k)
 (pY E l0 a0 a1 mD lS oW lT k))
  (pY E l0 a0 a1 mD lS oW lT k):=by kernel_rfl
end
theorem zGf [aJ] (E:Qv) (xE:Ok ax 160 (ae.un E.c160)) (jC:Ok ax 161 (ae.un E.fK)) (Qn:Ok ax 164 (ae.un E.c164)) (zGg:qB ax 204 (ae.unI E.zbm)):Ok ax 115 (ae.un (ziE E)):=aY (aP (((((ay.nil.addF xE).addF jC).addF Qn).addF (aP ay.nil (ak (by kernel_rfl)))).addI zGg) (ak (by kernel_rfl)))
structure Zn where
  N:Nat
  Oc:Line×Int->ae (Int×Int)
abbrev zGh (E:Zn):aX:=dh (Tabs.nil.addF 166 (ae.un E.Oc)) []
def zGi:bW:=aU ax 116 [] {}
def ziG (E:Zn):Line×aC->ae (Bool):=ae.ty (aF ax E.N (zGh E) zGi 116)
section
variable (E:Zn){A:Type}(k:Bool->Option A)
theorem e116 (a0:Line) (a1:aC):(ziG E (a0,a1)).T k =
  (E.Oc (a0,a1.Z)).T λ r1 =>
  cond (decide ((aO (a1.Low * r1.2))<=r1.1))
  (k (decide (r1.1<=(aO (a1.High * r1.2)))))
  (k false):=bH.trans (by kernel_rfl)
end
theorem zGj [aJ] (E:Zn) (UH:Ok ax 166 (ae.un E.Oc)):Ok ax 116 (ae.un (ziG E)):=aY (aP (ay.nil.addF UH) (ak (by kernel_rfl)))
structure qR where
  N:Nat
  c109:(Sl aC)->ae (Bool)
  Ob:(Sl aC)->ae (set)
  c159:set->ae (Bool)
  c167:list->ae (Bool)
  zk4:list->ae (Bool)
abbrev zdN (E:qR):aX:=dh (((((Tabs.nil.addF 109 (ae.un E.c109)).addF 158 (ae.un E.Ob)).addF 159 (ae.un E.c159)).addF 167 (ae.un E.c167)).addF 118 (ae.un E.zk4)) []
def zdO:bW:=aU ax 117 [] {}
def yS (E:qR):(Sl aC)×(dN 118 Unit Unit)->ae (set×Int):=ae.ty (aF ax E.N (zdN E) zdO 117)
section
variable (E:qR){A:Type}(k:(set×Int)->Option A)
theorem zdP (a0:(Sl aC)) (a1:(dN 118 Unit Unit)):(yS E (a0,a1)).T k =
  (E.c109 a0).T λ r1 =>
  cond (!r1)
  (k ((⟨(⟨(⟨0,λ _=>default⟩:(Sl aC))⟩:list),(⟨0,λ _=>default⟩:(Sl straight))⟩:set),2))
  ((E.Ob a0).T λ r2 =>
 (E.c159 r2).T λ r3 =>
 cond (!r3)
 (k ((⟨(⟨(⟨0,λ _=>default⟩:(Sl aC))⟩:list),(⟨0,λ _=>default⟩:(Sl straight))⟩:set),5))
 ((E.c167 r2.list).T λ r4 =>
 cond r4
 ((E.zk4 r2.list).T λ r5 =>
 cond (!r5)
 (k ((⟨(⟨(⟨0,λ _=>default⟩:(Sl aC))⟩:list),(⟨0,λ _=>default⟩:(Sl straight))⟩:set),6))
 (k (r2,0)))
 (k (r2,0)))):=bH.trans (by kernel_rfl)
end
theorem zdQ [aJ] (E:qR) (UI:Ok ax 109 (ae.un E.c109)) (UJ:Ok ax 158 (ae.un E.Ob)) (UK:Ok ax 159 (ae.un E.c159)) (sG:Ok ax 167 (ae.un E.c167)) (zpJ:Ok ax 118 (ae.un E.zk4)):Ok ax 117 (ae.un (yS E)):=aY (aP (((((ay.nil.addF UI).addF UJ).addF UK).addF sG).addF zpJ) (ak (by kernel_rfl)))
structure qU where
  N:Nat
  c109:(Sl aC)->ae (Bool)
  Ob:(Sl aC)->ae (set)
  c159:set->ae (Bool)
  c167:list->ae (Bool)
  c162:list×(Pt Int)->ae (Bool)
abbrev zdR (E:qU):aX:=dh (((((Tabs.nil.addF 109 (ae.un E.c109)).addF 158 (ae.un E.Ob)).addF 159 (ae.un E.c159)).addF 167 (ae.un E.c167)).addF 162 (ae.un E.c162)) []
def zdS:bW:=aU ax 117 [] {}
def yU (E:qU):(Sl aC)×(dN 162 Unit (Pt Int))->ae (set×Int):=ae.ty (aF ax E.N (zdR E) zdS 117)
section
variable (E:qU){A:Type}(k:(set×Int)->Option A)
theorem zdT (a0:(Sl aC)) (a1:(dN 162 Unit (Pt Int))):(yU E (a0,a1)).T k =
  (E.c109 a0).T λ r1 =>
  cond (!r1)
  (k ((⟨(⟨(⟨0,λ _=>default⟩:(Sl aC))⟩:list),(⟨0,λ _=>default⟩:(Sl straight))⟩:set),2))
  ((E.Ob a0).T λ r2 =>
 (E.c159 r2).T λ r3 =>
 cond (!r3)
 (k ((⟨(⟨(⟨0,λ _=>default⟩:(Sl aC))⟩:list),(⟨0,λ _=>default⟩:(Sl straight))⟩:set),5))
 ((E.c167 r2.list).T λ r4 =>
 cond r4
 ((E.c162 (r2.list,a1.v)).T λ r5 =>
 cond (!r5)
 (k ((⟨(⟨(⟨0,λ _=>default⟩:(Sl aC))⟩:list),(⟨0,λ _=>default⟩:(Sl straight))⟩:set),6))
 (k (r2,0)))
 (k (r2,0)))):=bH.trans (by kernel_rfl)
end
theorem zdU [aJ] (E:qU) (UI:Ok ax 109 (ae.un E.c109)) (UJ:Ok ax 158 (ae.un E.Ob)) (UK:Ok ax 159 (ae.un E.c159)) (sG:Ok ax 167 (ae.un E.c167)) (zpK:Ok ax 162 (ae.un E.c162)):Ok ax 117 (ae.un (yU E)):=aY (aP (((((ay.nil.addF UI).addF UJ).addF UK).addF sG).addF zpK) (ak (by kernel_rfl)))
structure Zo where
  N:Nat
abbrev zGk (E:Zo):aX:=dh Tabs.nil []
def zGl:bW:=aU ax 118 [] {}
def ziH (E:Zo):list->ae (Bool):=ae.ty (aF ax E.N (zGk E) zGl 118)
section
variable (E:Zo){A:Type}(k:Bool->Option A)
theorem e118 (a0:list):(ziH E (a0)).T k =
  k false:=bH.trans (by kernel_rfl)
end
theorem zGm [aJ] (E:Zo):Ok ax 118 (ae.un (ziH E)):=aY (aP ay.nil (ak (by kernel_rfl)))
structure UL where
  N:Nat
  zlk:straight×(Pt Int)->ae (aS)
  c168:(Sl aS)×((dN 169 Unit Unit) ⊕ (dN 171 Unit Unit))->ae (aS)
  lC:Int×Int->ae (aS)
abbrev zxJ (E:UL):aX:=dh (((Tabs.nil.addF 202 (ae.un E.zlk)).addF 168 (ae.un E.c168)).addF 172 (ae.un E.lC)) []
def zxK:bW:=aU ax 119 [] { ks:=[(1,3,⟨[],[(6,23,85)],[],[],[],[],[]⟩)] }
def ziI (E:UL):set×(dN 202 Unit (Pt Int))->ae (aS×aS):=ae.ty (aF ax E.N (zxJ E) zxK 119)
section
variable (E:UL){A:Type}(k:(aS×aS)->Option A)
def Na (E:UL) (n:Nat) (a0:set) (a1:(dN 202 Unit (Pt Int))) (v14:Int) (w23:Sl aS){A:Type}(k:(aS×aS)->Option A):Option A :=
  iG ax (zxJ E) E.N zxK 119 [1,1,0,1,0] [.n n] (iH k)
    ⟨[(1,eP a1),(4,.cl (.ptr 4 0)),(5,.cl (.ptr 5 0)),(6,.cl (.vec 23)),(12,eP a0.cu),(13,.int (a0.cu.len:Int)),(14,.int v14)],[(4,.box 85 [.p (.int .i64 0),.p (.int .i64 0)]),(5,.box 85 [.p (.int .i64 0),.p (.int .i64 0)]),(23,eV 85 2 16 w23)],[]⟩
theorem e119 (a0:set) (a1:(dN 202 Unit (Pt Int))):(ziI E (a0,a1)).T k =
  Na E E.N a0 a1 0 (⟨0,(λ _=>(⟨0,0⟩:aS))⟩:(Sl aS)) k:=bH.trans (by kernel_rfl)
theorem zdV (n0:Nat) (a0:set) (a1:(dN 202 Unit (Pt Int))) (v14:Int) (w23:Sl aS):Na E (n0+1) a0 a1 v14 w23 k =
  cond (decide (v14 < (a0.cu.len:Int)))
  (bf (decide (0<=v14/\v14 < (a0.cu.len:Int))) ((E.zlk ((a0.cu.get v14.toNat),a1.v)).T λ r1 =>
 bf (room (w23.len+1) 16) (Na E n0 a0 a1 (aO (v14+1)) (⟨(w23.len+1),(jd w23.len w23.get (fun _=>r1))⟩:(Sl aS)) k)))
  ((E.c168 (w23,(Sum.inl (⟨(),()⟩:(dN 169 Unit Unit))))).T λ r2 =>
 (E.c168 (w23,(Sum.inr (⟨(),()⟩:(dN 171 Unit Unit))))).T λ r3 =>
 (E.lC (r2.Num,r2.cO)).T λ r4 =>
 (E.lC (r3.Num,r3.cO)).T λ r5 =>
 k (r4,r5)):=by kernel_rfl
end
theorem zGn [aJ] (E:UL) (zpL:Ok ax 202 (ae.un E.zlk)) (ziK:Ok ax 168 (ae.un E.c168)) (sH:Ok ax 172 (ae.un E.lC)):Ok ax 119 (ae.un (ziI E)):=aY (aP (((ay.nil.addF zpL).addF ziK).addF sH) (ak (by kernel_rfl)))
structure UM where
  N:Nat
abbrev zxL (E:UM):aX:=dh Tabs.nil []
def zxM:bW:=aU ax 125 [] {}
def ziL (E:UM):Int×Int->ae (Int):=ae.ty (aF ax E.N (zxL E) zxM 125)
section
variable (E:UM){A:Type}(k:Int->Option A)
def Nb (E:UM) (n:Nat) (v0:Int) (v1:Int){A:Type}(k:Int->Option A):Option A :=
  iG ax (zxL E) E.N zxM 125 [1,0,0] [.n n] (iH k)
    ⟨[(0,.int v0),(1,.int v1)],[],[]⟩
theorem e125 (a0:Int) (a1:Int):(ziL E (a0,a1)).T k =
  Nb E E.N a0 a1 k:=bH.trans (by kernel_rfl)
theorem zpM (n0:Nat) (v0:Int) (v1:Int):Nb E (n0+1) v0 v1 k =
  cond (v1 != 0)
  (bf (decide (v1 ≠ 0)) (Nb E n0 v1 (v0.tmod v1) k))
  (k v0):=by kernel_rfl
end
theorem zGo [aJ] (E:UM):Ok ax 125 (ae.un (ziL E)):=aY (aP ay.nil (ak (by kernel_rfl)))
structure Zp where
  N:Nat
  zle:(Sl Bool)×Bool->ae (Int)
abbrev zGp (E:Zp):aX:=dh (Tabs.nil.addF 176 (ae.un E.zle)) []
def zGq:bW:=aU ax 126 [] {}
def ziM (E:Zp):(Sl Bool)×Bool->ae (Bool):=ae.ty (aF ax E.N (zGp E) zGq 126)
section
variable (E:Zp){A:Type}(k:Bool->Option A)
theorem e126 (a0:(Sl Bool)) (a1:Bool):(ziM E (a0,a1)).T k =
  (E.zle (a0,a1)).T λ r1 =>
  k (decide (r1 >= 0)):=bH.trans (by kernel_rfl)
end
theorem zGr [aJ] (E:Zp) (zpN:Ok ax 176 (ae.un E.zle)):Ok ax 126 (ae.un (ziM E)):=aY (aP (ay.nil.addF zpN) (ak (by kernel_rfl)))
structure Zq where
  N:Nat
  IV:ai×Int×Bc 143 (Pt aW)×Bc 38 Int×Bw 30 43 3 56 ai×Bs 255 178 2 4×Unit->ae ((Unit)×(Unit×Unit×(Pt aW)×Int×Sl ai×Unit×Unit))
abbrev zGs (E:Zq):aX:=dh (Tabs.nil.addM 178 (ae.unM E.IV)) []
def zGt:bW:=aU ax 127 [] { ks:=[(0,3,⟨[],[],[(4,0,5000,43)],[],[],[],[]⟩)] }
def ziN (E:Zq):(Pt aW)×Int->ae ((Sl ai)×Bool):=ae.ty (aD ax (zGs E) E.N zdf 177 zGt 127)
section
variable (E:Zq){A:Type}(k:((Sl ai)×Bool)->Option A)
theorem e127 (a0:(Pt aW)) (a1:Int):(ziN E (a0,a1)).T k =
  (E.IV ((⟨0,(⟨0,λ _=>default⟩:(Sl Int)),(⟨0,λ _=>default⟩:(Sl Int))⟩:ai),0,(⟨a0⟩:Bc 143 (Pt aW)),(⟨a1⟩:Bc 38 Int),(⟨(⟨0,(λ _=>(⟨0,(⟨0,(λ _=>0)⟩:(Sl Int)),(⟨0,(λ _=>0)⟩:(Sl Int))⟩:ai))⟩:(Sl ai))⟩:Bw 30 43 3 56 ai),({} : Bs 255 178 2 4),())).T λ r1 =>
  k (r1.2.2.2.2.2.1,true):=zwS.trans (by kernel_rfl)
end
theorem zGu [aJ] (E:Zq) (zpO:nK ax 178 (ae.unM E.IV)):Ok ax 127 (ae.un (ziN E)):=aY (zdc (ay.nil.addM zpO) (ak (by kernel_rfl)) zdg)
structure nT where
  N:Nat
  zk6:(Pt aW)×ai->ae (Bool)
abbrev Qw (E:nT):aX:=dh (Tabs.nil.addF 129 (ae.un E.zk6)) []
def Qx:bW:=aU ax 128 [] { ks:=[(1,3,⟨[],[(5,20,43)],[],[],[],[],[]⟩)] }
def yV (E:nT):(Sl ai)×(dN 129 (Pt aW) Unit)->ae (Sl ai×Unit):=ae.tyV (aK ax E.N (Qw E) Qx 128 43 3 56)
section
variable (E:nT){A:Type}(k:(Sl ai×Unit)->Option A)
def nU (E:nT) (n:Nat) (a0:(Sl ai)) (a1:(dN 129 (Pt aW) Unit)) (v10:Int) (Nc:Sl ai){A:Type}(k:(Sl ai×Unit)->Option A):Option A :=
  ptG ax (Qw E) E.N Qx 128 [1,1,0,1,0] [.n n] (Ug 43 3 56) (Uf k)
    ⟨[(1,.p (.fn 129 [.fp [.sl a1.a.v.au.aj.len 15 (λ i=>bG.enc (a1.a.v.au.aj.get i)),.sl a1.a.v.hits.len 6 (λ i=>bG.enc (a1.a.v.hits.get i)),.sl a1.a.v.kQ.len 1 (λ i=>bG.enc (a1.a.v.kQ.get i)),.int .i64 a1.a.v.rules.jL,.int .i64 a1.a.v.rules.kF] 0] [])),(5,.cl (.vec 20)),(8,eP a0),(9,.int (a0.len:Int)),(10,.int v10)],[(20,eV 43 3 56 Nc)],[]⟩
theorem zdW (a0:(Sl ai)) (a1:(dN 129 (Pt aW) Unit)):(yV E (a0,a1)).T k =
  nU E E.N a0 a1 0 (⟨0,(λ _=>(⟨0,(⟨0,(λ _=>0)⟩:(Sl Int)),(⟨0,(λ _=>0)⟩:(Sl Int))⟩:ai))⟩:(Sl ai)) k:=zc2.trans (by kernel_rfl)
theorem GG (n0:Nat) (a0:(Sl ai)) (a1:(dN 129 (Pt aW) Unit)) (v10:Int) (Nc:Sl ai):nU E (n0+1) a0 a1 v10 Nc k =
  cond (decide (v10 < (a0.len:Int)))
  (bf (decide (0<=v10/\v10 < (a0.len:Int))) ((E.zk6 (a1.a,(a0.get v10.toNat))).T λ r1 =>
 cond r1
 (bf (room (Nc.len+1) 56) (nU E n0 a0 a1 (aO (v10+1)) (⟨(Nc.len+1),(jd Nc.len Nc.get (λ _=>(a0.get v10.toNat)))⟩:(Sl ai)) k))
 (nU E n0 a0 a1 (aO (v10+1)) Nc k)))
  (k (Nc,())):=by kernel_rfl
end
theorem zdX [aJ] (E:nT) (zpP:Ok ax 129 (ae.un E.zk6)):dX ax 128 (.mkv 43 3 56 (ae.unV (yV E))):=Ue (MC (ay.nil.addF zpP) (ak (by kernel_rfl)))
structure nV where
  N:Nat
  c130:ai×(Pt (Pt found))->ae (Bool)
abbrev Qy (E:nV):aX:=dh (Tabs.nil.addF 130 (ae.un E.c130)) []
def Qz:bW:=aU ax 128 [] { ks:=[(1,3,⟨[],[(5,20,43)],[],[],[],[],[]⟩)] }
def yX (E:nV):(Sl ai)×(dN 130 Unit (Pt (Pt found)))->ae (Sl ai×Unit):=ae.tyV (aK ax E.N (Qy E) Qz 128 43 3 56)
section
variable (E:nV){A:Type}(k:(Sl ai×Unit)->Option A)
def nX (E:nV) (n:Nat) (a0:(Sl ai)) (a1:(dN 130 Unit (Pt (Pt found)))) (v10:Int) (Nc:Sl ai){A:Type}(k:(Sl ai×Unit)->Option A):Option A :=
  ptG ax (Qy E) E.N Qz 128 [1,1,0,1,0] [.n n] (Ug 43 3 56) (Uf k)
    ⟨[(1,eP a1),(5,.cl (.vec 20)),(8,eP a0),(9,.int (a0.len:Int)),(10,.int v10)],[(20,eV 43 3 56 Nc)],[]⟩
theorem zdY (a0:(Sl ai)) (a1:(dN 130 Unit (Pt (Pt found)))):(yX E (a0,a1)).T k =
  nX E E.N a0 a1 0 (⟨0,(λ _=>(⟨0,(⟨0,(λ _=>0)⟩:(Sl Int)),(⟨0,(λ _=>0)⟩:(Sl Int))⟩:ai))⟩:(Sl ai)) k:=zc2.trans (by kernel_rfl)
theorem GH (n0:Nat) (a0:(Sl ai)) (a1:(dN 130 Unit (Pt (Pt found)))) (v10:Int) (Nc:Sl ai):nX E (n0+1) a0 a1 v10 Nc k =
  cond (decide (v10 < (a0.len:Int)))
  (bf (decide (0<=v10/\v10 < (a0.len:Int))) ((E.c130 ((a0.get v10.toNat),a1.v)).T λ r1 =>
 cond r1
 (bf (room (Nc.len+1) 56) (nX E n0 a0 a1 (aO (v10+1)) (⟨(Nc.len+1),(jd Nc.len Nc.get (λ _=>(a0.get v10.toNat)))⟩:(Sl ai)) k))
 (nX E n0 a0 a1 (aO (v10+1)) Nc k)))
  (k (Nc,())):=by kernel_rfl
end
theorem zdZ [aJ] (E:nV) (zpQ:Ok ax 130 (ae.un E.c130)):dX ax 128 (.mkv 43 3 56 (ae.unV (yX E))):=Ue (MC (ay.nil.addF zpQ) (ak (by kernel_rfl)))
structure Zr where
  N:Nat
  c141:(Pt aW)×ai->ae ((Sl Int))
abbrev zGv (E:Zr):aX:=dh (Tabs.nil.addF 141 (ae.un E.c141)) []
def zGw:bW:=aU ax 129 [] {}
def ziO (E:Zr):(Pt aW)×ai->ae (Bool):=ae.ty (aF ax E.N (zGv E) zGw 129)
section
variable (E:Zr){A:Type}(k:Bool->Option A)
theorem e129 (a0:(Pt aW)) (a1:ai):(ziO E (a0,a1)).T k =
  cond (decide ((a1.Hits.len:Int) >= a0.v.rules.jL))
  ((E.c141 (a0,a1)).T λ r1 =>
 k (decide ((r1.len:Int)≤a0.v.rules.kF)))
  (k false):=bH.trans (by kernel_rfl)
end
theorem zGx [aJ] (E:Zr) (zpR:Ok ax 141 (ae.un E.c141)):Ok ax 129 (ae.un (ziO E)):=aY (aP (ay.nil.addF zpR) (ak (by kernel_rfl)))
structure Zt where
  N:Nat
  c131:(Sl ai)×(dN 132 Unit (Pt ai))->ae (Bool)
abbrev zGy (E:Zt):aX:=dh (Tabs.nil.addF 131 (ae.un E.c131)) []
def zGz:bW:=aU ax 130 [] {}
def ziP (E:Zt):ai×(Pt (Pt found))->ae (Bool):=ae.ty (aF ax E.N (zGy E) zGz 130)
section
variable (E:Zt){A:Type}(k:Bool->Option A)
theorem zGA (a0:ai) (a1:(Pt (Pt found))):(ziP E (a0,a1)).T k =
  (E.c131 (a1.v.v.fits,(⟨(),(⟨a0⟩:(Pt ai))⟩:(dN 132 Unit (Pt ai))))).T λ r1 =>
  k (!r1):=bH.trans (by kernel_rfl)
end
theorem zGB [aJ] (E:Zt) (zpS:Ok ax 131 (ae.un E.c131)):Ok ax 130 (ae.un (ziP E)):=aY (aP (ay.nil.addF zpS) (ak (by kernel_rfl)))
structure Zu where
  N:Nat
  c97:(Sl ai)×(dN 132 Unit (Pt ai))->ae (Int)
abbrev zGC (E:Zu):aX:=dh (Tabs.nil.addF 97 (ae.un E.c97)) []
def zGD:bW:=aU ax 131 [] {}
def ziQ (E:Zu):(Sl ai)×(dN 132 Unit (Pt ai))->ae (Bool):=ae.ty (aF ax E.N (zGC E) zGD 131)
section
variable (E:Zu){A:Type}(k:Bool->Option A)
theorem zGE (a0:(Sl ai)) (a1:(dN 132 Unit (Pt ai))):(ziQ E (a0,a1)).T k =
  (E.c97 (a0,a1)).T λ r1 =>
  k (decide (r1 >= 0)):=bH.trans (by kernel_rfl)
end
theorem zGF [aJ] (E:Zu) (h97:Ok ax 97 (ae.un E.c97)):Ok ax 131 (ae.un (ziQ E)):=aY (aP (ay.nil.addF h97) (ak (by kernel_rfl)))
structure Zv where
  N:Nat
  c92:ai×ai->ae (Bool)
abbrev zGG (E:Zv):aX:=dh (Tabs.nil.addF 92 (ae.un E.c92)) []
def zGH:bW:=aU ax 132 [] {}
def ziR (E:Zv):ai×(Pt ai)->ae (Bool):=ae.ty (aF ax E.N (zGG E) zGH 132)
section
variable (E:Zv){A:Type}(k:Bool->Option A)
theorem zGI (a0:ai) (a1:(Pt ai)):(ziR E (a0,a1)).T k =
  cond (decide ((a0.Hits.len:Int) > (a1.v.Hits.len:Int)))
  ((E.c92 (a0,a1.v)).T λ r1 =>
 k r1)
  (k false):=bH.trans (by kernel_rfl)
end
theorem zGJ [aJ] (E:Zv) (h92:Ok ax 92 (ae.un E.c92)):Ok ax 132 (ae.un (ziR E)):=aY (aP (ay.nil.addF h92) (ak (by kernel_rfl)))
structure Zw where
  N:Nat
  zlg:Int×Int->ae (Int)
  zgg:(Sl Int)×(Sl Int)->ae (Int)
  zlf:(Sl Int)->ae (Int)
abbrev zGL (E:Zw):aX:=dh (((Tabs.nil.addF 186 (ae.un E.zlg)).addF 187 (ae.un E.zgg)).addF 185 (ae.un E.zlf)) []
def zGM:bW:=aU ax 134 [] {}
def ziS (E:Zw):ai×ai->ae (Int):=ae.ty (aF ax E.N (zGL E) zGM 134)
section
variable (E:Zw){A:Type}(k:Int->Option A)
theorem zGN (a0:ai) (a1:ai):(ziS E (a0,a1)).T k =
  (E.zlg (a0.View,a1.View)).T λ r1 =>
  (E.zgg (a0.Hits,a1.Hits)).T λ r2 =>
  (E.zgg (a0.bz,a1.bz)).T λ r3 =>
  (E.zlf (⟨3,(Qi [r1,r2,r3])⟩:(Sl Int))).T λ r4 =>
  k r4:=bH.trans (by kernel_rfl)
end
theorem zGO [aJ] (E:Zw) (zpT:Ok ax 186 (ae.un E.zlg)) (ziT:Ok ax 187 (ae.un E.zgg)) (zpU:Ok ax 185 (ae.un E.zlf)):Ok ax 134 (ae.un (ziS E)):=aY (aP (((ay.nil.addF zpT).addF ziT).addF zpU) (ak (by kernel_rfl)))
structure Zx where
  N:Nat
abbrev zGP (E:Zx):aX:=dh Tabs.nil []
def zGQ:bW:=aU ax 136 [] {}
def ziU (E:Zx):af×Int->ae (Int×Int):=ae.ty (aF ax E.N (zGP E) zGQ 136)
section
variable (E:Zx){A:Type}(k:(Int×Int)->Option A)
theorem zGR (a0:af) (a1:Int):(ziU E (a0,a1)).T k =
  cond (a0.Kind == 2)
  (k ((aO ((aO (a0.First+(aO (a1 * a0.aZ)))) - (aO (a0.aZ.tdiv 2)))),(aO ((aO ((aO ((aO (a0.First+(aO (a1 * a0.aZ)))) - (aO (a0.aZ.tdiv 2))))+a0.aZ)) - 1))))
  (k ((aO ((aO (a0.First+(aO (a1 * a0.aZ)))) - 0)),(aO ((aO ((aO ((aO (a0.First+(aO (a1 * a0.aZ)))) - 0))+a0.aZ)) - 1)))):=bH.trans (by kernel_rfl)
end
theorem zGS [aJ] (E:Zx):Ok ax 136 (ae.un (ziU E)):=aY (aP ay.nil (ak (by kernel_rfl)))
structure UN where
  N:Nat
  c105:(Pt aW)×ai->ae ((Sl aC))
  IR:(Sl Int)×((dN 180 Unit ((Pt (Pt aW))×(Pt Int))) ⊕ (dN 190 Unit ((Pt (Pt aW))×(Pt Int))))->ae (Bool)
  zgb:(Sl aC)×Int->ae (aS×aS×Int)
  Jq:aS->ae (Int)
  zli:aS->ae (Int)
  zgc:au×Int×bZ->ae (Bool×Bool×Int)
abbrev zxN (E:UN):aX:=dh (((((((Tabs.nil.addN [190]).addF 105 (ae.un E.c105)).addF 179 (ae.un E.IR)).addF 114 (ae.un E.zgb)).addF 191 (ae.un E.Jq)).addF 192 (ae.un E.zli)).addF 115 (ae.un E.zgc)) []
def zxO:bW:=aU ax 141 [] { ks:=[(1,4,⟨[],[(5,83,3)],[],[],[],[],[]⟩)],clo:=[190] }
def ziV (E:UN):(Pt aW)×ai->ae ((Sl Int)):=ae.ty (aF ax E.N (zxN E) zxO 141)
section
variable (E:UN){A:Type}(k:(Sl Int)->Option A)
def ku (E:UN) (n:Nat) (a0:(Pt aW)) (a1:ai) (v6:(Sl aC)) (v26:Int) (UO:Sl Int){A:Type}(k:(Sl Int)->Option A):Option A :=
  iG ax (zxN E) E.N zxO 141 [1,1,1,0,1,0] [.n n] (iH k)
    ⟨[(2,.cl (.ptr 2 0)),(3,.cl (.ptr 3 0)),(5,.cl (.vec 83)),(6,eP v6),(24,eP a0.v.au.aj),(25,.int (a0.v.au.aj.len:Int)),(26,.int v26)],[(2,eB 143 a0),(3,eB 43 a1),(83,eV 3 1 8 UO)],[]⟩
theorem zGT (a0:(Pt aW)) (a1:ai):(ziV E (a0,a1)).T k =
  (E.c105 (a0,a1)).T λ r1 =>
  ku E E.N a0 a1 r1 0 (⟨0,(λ _=>0)⟩:(Sl Int)) k:=bH.trans (by kernel_rfl)
theorem zd0 (n0:Nat) (a0:(Pt aW)) (a1:ai) (v6:(Sl aC)) (v26:Int) (UO:Sl Int):ku E (n0+1) a0 a1 v6 v26 UO k =
  cond (decide (v26 < (a0.v.au.aj.len:Int)))
  (bf (decide (0<=v26/\v26 < (a0.v.au.aj.len:Int))) (cond ((a0.v.au.aj.get v26.toNat).View != a1.View)
 (ku E n0 a0 a1 v6 (aO (v26+1)) UO k)
 ((E.IR (a1.Hits,(Sum.inr (⟨(),((⟨a0⟩:(Pt (Pt aW))),(⟨v26⟩:(Pt Int)))⟩:(dN 190 Unit ((Pt (Pt aW))×(Pt Int))))))).T λ r1 =>
 cond r1
 (ku E n0 a0 a1 v6 (aO (v26+1)) UO k)
 ((E.zgb (v6,(a0.v.au.aj.get v26.toNat).Z)).T λ r2 =>
 cond (r2.2.2 != 0)
 (ku E n0 a0 a1 v6 (aO (v26+1)) UO k)
 ((E.Jq r2.1).T λ r3 =>
 (E.zli r2.2.1).T λ r4 =>
 cond (decide (r3 < (-1000000)))
 (ku E n0 a0 a1 v6 (aO (v26+1)) UO k)
 (cond (decide (r4 > 1000000))
 (ku E n0 a0 a1 v6 (aO (v26+1)) UO k)
 ((E.zgc (a0.v.au,v26,(⟨r3,r4⟩:bZ))).T λ r5 =>
 cond (r5.2.2 == 0)
 (cond r5.1
 (bf (room (UO.len+1) 8) (ku E n0 a0 a1 v6 (aO (v26+1)) (⟨(UO.len+1),(jd UO.len UO.get (λ _=>v26))⟩:(Sl Int)) k))
 (ku E n0 a0 a1 v6 (aO (v26+1)) UO k))
 (ku E n0 a0 a1 v6 (aO (v26+1)) UO k))))))))
  (k UO):=by kernel_rfl
end
theorem zGU [aJ] (E:UN) (UQ:Ok ax 105 (ae.un E.c105)) (UR:Ok ax 179 (ae.un E.IR)) (zpV:Ok ax 114 (ae.un E.zgb)) (UT:Ok ax 191 (ae.un E.Jq)) (zpW:Ok ax 192 (ae.un E.zli)) (zpX:Ok ax 115 (ae.un E.zgc)):Ok ax 141 (ae.un (ziV E)):=aY (aP (((((((ay.nil.addN).addF UQ).addF UR).addF zpV).addF UT).addF zpW).addF zpX) (ak (by kernel_rfl)))
structure Zy where
  N:Nat
  c38:(Sl Int)×(Sl Int)->ae (Int)
abbrev zGV (E:Zy):aX:=dh (Tabs.nil.addF 38 (ae.un E.c38)) []
def zGW:bW:=aU ax 144 [] {}
def ziW (E:Zy):ai×ai->ae (Bool):=ae.ty (aF ax E.N (zGV E) zGW 144)
section
variable (E:Zy){A:Type}(k:Bool->Option A)
theorem zGX (a0:ai) (a1:ai):(ziW E (a0,a1)).T k =
  cond (a0.View != a1.View)
  (k (decide (a0.View < a1.View)))
  ((E.c38 (a0.Hits,a1.Hits)).T λ r1 =>
 cond (r1 != 0)
 (k (decide (r1 < 0)))
 ((E.c38 (a0.bz,a1.bz)).T λ r2 =>
 k (decide (r2 < 0)))):=bH.trans (by kernel_rfl)
end
theorem zGY [aJ] (E:Zy) (h38:Ok ax 38 (ae.un E.c38)):Ok ax 144 (ae.un (ziW E)):=aY (aP (ay.nil.addF h38) (ak (by kernel_rfl)))
structure Zz where
  N:Nat
  zI:(Sl aC)->ae (Bool)
  c193:(Sl aC)->ae (Int×Int×Bool)
  c194:(Sl aC)->ae ((Sl Line))
abbrev zGZ (E:Zz):aX:=dh (((Tabs.nil.addF 149 (ae.un E.zI)).addF 193 (ae.un E.c193)).addF 194 (ae.un E.c194)) []
def zG0:bW:=aU ax 145 [] {}
def ziX (E:Zz):(Sl aC)->ae (Bool):=ae.ty (aF ax E.N (zGZ E) zG0 145)
section
variable (E:Zz){A:Type}(k:Bool->Option A)
theorem zG1 (a0:(Sl aC)):(ziX E (a0)).T k =
  (E.zI a0).T λ r1 =>
  cond r1
  ((E.c193 a0).T λ r2 =>
 k r2.2.2)
  ((E.c194 a0).T λ r3 =>
 k (decide ((r3.len:Int) > 0))):=bH.trans (by kernel_rfl)
end
theorem zG2 [aJ] (E:Zz) (CV:Ok ax 149 (ae.un E.zI)) (UU:Ok ax 193 (ae.un E.c193)) (UV:Ok ax 194 (ae.un E.c194)):Ok ax 145 (ae.un (ziX E)):=aY (aP (((ay.nil.addF CV).addF UU).addF UV) (ak (by kernel_rfl)))
structure UW where
  N:Nat
  c74:au×bC->ae (bZ)
abbrev zxP (E:UW):aX:=dh (Tabs.nil.addF 74 (ae.un E.c74)) []
def zxQ:bW:=aU ax 147 [] {}
def ziY (E:UW):au×(Sl bC)->ae (bZ×Bool):=ae.ty (aF ax E.N (zxP E) zxQ 147)
section
variable (E:UW){A:Type}(k:(bZ×Bool)->Option A)
def Nh (E:UW) (n:Nat) (a0:au) (a1:(Sl bC)) (v7:Int) (x6:bZ){A:Type}(k:(bZ×Bool)->Option A):Option A :=
  iG ax (zxP E) E.N zxQ 147 [1,1,0,1,0] [.n n] (iH k)
    ⟨[(1,eP a1),(2,.cl (.ptr 2 0)),(4,.cl (.ptr 4 0)),(6,.cl (.ptr 6 0)),(7,.int v7)],[(2,eB 24 a0),(4,.box 105 [.p (.int .i64 0),.p (.int .i64 0)]),(6,eB 105 x6)],[]⟩
theorem zG3 (a0:au) (a1:(Sl bC)):(ziY E (a0,a1)).T k =
  bf (decide ((0:Int)<=0/\0 < (a1.len:Int))) ((E.c74 (a0,(a1.get 0))).T λ r1 =>
 Nh E E.N a0 a1 1 r1 k):=bH.trans (by kernel_rfl)
theorem zd1 (n0:Nat) (a0:au) (a1:(Sl bC)) (v7:Int) (x6:bZ):Nh E (n0+1) a0 a1 v7 x6 k =
  cond (decide (v7 < (a1.len:Int)))
  (bf (decide (0<=v7/\v7 < (a1.len:Int))) ((E.c74 (a0,(a1.get v7.toNat))).T λ r1 =>
 Nh E n0 a0 a1 (aO (v7+1)) (⟨(if r1.Low > x6.Low then r1.Low else x6.Low),(if r1.High < x6.High then r1.High else x6.High)⟩:bZ) k))
  (k (x6,decide (x6.Low<=x6.High))):=by kernel_rfl
end
theorem zG4 [aJ] (E:UW) (h74:Ok ax 74 (ae.un E.c74)):Ok ax 147 (ae.un (ziY E)):=aY (aP (ay.nil.addF h74) (ak (by kernel_rfl)))
structure UX where
  N:Nat
abbrev zxR (E:UX):aX:=dh Tabs.nil []
def zxS:bW:=aU ax 148 [] { ks:=[(1,3,⟨[],[(5,22,92)],[],[],[],[],[]⟩)] }
def ziZ (E:UX):(Sl bC)×(Sl Int)->ae ((Sl bC)):=ae.ty (aF ax E.N (zxR E) zxS 148)
section
variable (E:UX){A:Type}(k:(Sl bC)->Option A)
def Nj (E:UX) (n:Nat) (a0:(Sl bC)) (a1:(Sl Int)) (v6:Int) (Oo:Sl bC){A:Type}(k:(Sl bC)->Option A):Option A :=
  iG ax (zxR E) E.N zxS 148 [1,1,0,1,0] [.n n] (iH k)
    ⟨[(0,eP a0),(1,eP a1),(5,.cl (.vec 22)),(6,.int v6)],[(22,eV 92 6 48 Oo)],[]⟩
theorem zG5 (a0:(Sl bC)) (a1:(Sl Int)):(ziZ E (a0,a1)).T k =
  Nj E E.N a0 a1 0 (⟨0,(λ _=>(⟨0,0,0,0,0,0⟩:bC))⟩:(Sl bC)) k:=bH.trans (by kernel_rfl)
theorem zd2 (n0:Nat) (a0:(Sl bC)) (a1:(Sl Int)) (v6:Int) (Oo:Sl bC):Nj E (n0+1) a0 a1 v6 Oo k =
  cond (decide (v6 < (a1.len:Int)))
  (bf (decide (0<=v6/\v6 < (a1.len:Int))) (bf (decide (0<=a1.get v6.toNat/\a1.get v6.toNat < (a0.len:Int))) (bf (room (Oo.len+1) 48) (Nj E n0 a0 a1 (aO (v6+1)) (⟨(Oo.len+1),(jd Oo.len Oo.get (λ _=>(a0.get (a1.get v6.toNat).toNat)))⟩:(Sl bC)) k))))
  (k Oo):=by kernel_rfl
end
theorem zG6 [aJ] (E:UX):Ok ax 148 (ae.un (ziZ E)):=aY (aP ay.nil (ak (by kernel_rfl)))
structure UY where
  N:Nat
abbrev zxT (E:UY):aX:=dh Tabs.nil []
def zxU:bW:=aU ax 149 [] {}
def zi0 (E:UY):(Sl aC)->ae (Bool):=ae.ty (aF ax E.N (zxT E) zxU 149)
section
variable (E:UY){A:Type}(k:Bool->Option A)
def xH (E:UY) (n:Nat) (a0:(Sl aC)) (v3:Int){A:Type}(k:Bool->Option A):Option A :=
  iG ax (zxT E) E.N zxU 149 [1,0,1,0] [.n n] (iH k)
    ⟨[(0,eP a0),(3,.int v3)],[],[]⟩
theorem zG7 (a0:(Sl aC)):(zi0 E (a0)).T k =
  xH E E.N a0 1 k:=bH.trans (by kernel_rfl)
theorem zd3 (n0:Nat) (a0:(Sl aC)) (v3:Int):xH E (n0+1) a0 v3 k =
  cond (decide (v3 < (a0.len:Int)))
  (bf (decide (0<=v3/\v3 < (a0.len:Int))) (bf (decide ((0:Int)<=0/\0 < (a0.len:Int))) (cond ((a0.get v3.toNat).Z != (a0.get 0).Z)
 (k false)
 (xH E n0 a0 (aO (v3+1)) k))))
  (k true):=by kernel_rfl
end
theorem zG8 [aJ] (E:UY):Ok ax 149 (ae.un (zi0 E)):=aY (aP ay.nil (ak (by kernel_rfl)))
structure QA where
  N:Nat
  zI:(Sl aC)->ae (Bool)
  c193:(Sl aC)->ae (Int×Int×Bool)
  Ou:Int×Int->ae (aS)
  c194:(Sl aC)->ae ((Sl Line))
  c76:Line×Int->ae (aS)
  c56:aS×aS->ae (Bool)
abbrev zpY (E:QA):aX:=dh ((((((Tabs.nil.addF 149 (ae.un E.zI)).addF 193 (ae.un E.c193)).addF 71 (ae.un E.Ou)).addF 194 (ae.un E.c194)).addF 76 (ae.un E.c76)).addF 56 (ae.un E.c56)) []
def zpZ:bW:=aU ax 150 [] { cut:=[12] }
def zi1 (E:QA):(Sl aC)×Int->ae (aS×aS):=ae.ty (aF ax E.N (zpY E) zpZ 150)
section
variable (E:QA){A:Type}(k:(aS×aS)->Option A)
def xI (E:QA) (n:Nat) (a1:Int) (v9:(Sl Line)) (v12:Int) (x10:aS) (x11:aS){A:Type}(k:(aS×aS)->Option A):Option A :=
  iG ax (zpY E) E.N zpZ 150 [1,1,1,1,0,1,0] [.n n] (iH k)
    ⟨[(1,.int a1),(4,.cl (.ptr 4 0)),(5,.cl (.ptr 5 0)),(9,eP v9),(10,.cl (.ptr 10 0)),(11,.cl (.ptr 11 0)),(12,.int v12)],[(4,.box 85 [.p (.int .i64 0),.p (.int .i64 0)]),(5,.box 85 [.p (.int .i64 0),.p (.int .i64 0)]),(10,eB 85 x10),(11,eB 85 x11)],[]⟩
def UZ (E:QA) (n0:Nat) (a1:Int) (v9:(Sl Line)) (v12:Int) (x10:aS) (x11:aS) (x13:aS){A:Type}(k:(aS×aS)->Option A):Option A :=
  iG ax (zpY E) E.N zpZ 150 [1,1,1,1,0,1,0,0,1,0,0,1,1] [.n n0] (iH k)
    ⟨[(1,.int a1),(4,.cl (.ptr 4 0)),(5,.cl (.ptr 5 0)),(9,eP v9),(10,.cl (.ptr 10 0)),(11,.cl (.ptr 11 0)),(12,.int v12),(13,.cl (.ptr 13 0))],[(4,.box 85 [.p (.int .i64 0),.p (.int .i64 0)]),(5,.box 85 [.p (.int .i64 0),.p (.int .i64 0)]),(10,eB 85 x10),(11,eB 85 x11),(13,eB 85 x13)],[]⟩
theorem zxW (a0:(Sl aC)) (a1:Int):(zi1 E (a0,a1)).T k =
  (E.zI a0).T λ r1 =>
  cond r1
  ((E.c193 a0).T λ r2 =>
 (E.Ou (r2.1,1)).T λ r3 =>
 (E.Ou (r2.2.1,1)).T λ r4 =>
 k (r3,r4))
  ((E.c194 a0).T λ r5 =>
 bf (decide ((0:Int)<=0/\0 < (r5.len:Int))) ((E.c76 ((r5.get 0),a1)).T λ r6 =>
 bf (decide ((0:Int)<=0/\0 < (r5.len:Int))) ((E.c76 ((r5.get 0),a1)).T λ r7 =>
 xI E E.N a1 r5 1 r6 r7 k))):=bH.trans (by kernel_rfl)
theorem zd4 (n0:Nat) (a1:Int) (v9:(Sl Line)) (v12:Int) (x10:aS) (x11:aS):xI E (n0+1) a1 v9 v12 x10 x11 k =
  cond (decide (v12 < (v9.len:Int)))
  (bf (decide (0<=v12/\v12 < (v9.len:Int))) ((E.c76 ((v9.get v12.toNat),a1)).T λ r1 =>
 (E.c56 (r1,x10)).T λ r2 =>
 cond r2
 (UZ E n0 a1 v9 v12 r1 x11 r1 k)
 (UZ E n0 a1 v9 v12 x10 x11 r1 k)))
  (k (x10,x11)):=by kernel_rfl
theorem zp0 (n0:Nat) (a1:Int) (v9:(Sl Line)) (v12:Int) (x10:aS) (x11:aS) (x13:aS):UZ E n0 a1 v9 v12 x10 x11 x13 k =
  (E.c56 (x11,x13)).T λ r1 =>
  cond r1
  (xI E n0 a1 v9 (aO (v12+1)) x10 x13 k)
  (xI E n0 a1 v9 (aO (v12+1)) x10 x11 k):=by kernel_rfl
end
theorem zG9 [aJ] (E:QA) (CV:Ok ax 149 (ae.un E.zI)) (UU:Ok ax 193 (ae.un E.c193)) (UB:Ok ax 71 (ae.un E.Ou)) (UV:Ok ax 194 (ae.un E.c194)) (h76:Ok ax 76 (ae.un E.c76)) (h56:Ok ax 56 (ae.un E.c56)):Ok ax 150 (ae.un (zi1 E)):=aY (aP ((((((ay.nil.addF CV).addF UU).addF UB).addF UV).addF h76).addF h56) (ak (by kernel_rfl)))
structure ZA where
  N:Nat
abbrev zHb (E:ZA):aX:=dh Tabs.nil []
def zHc:bW:=aU ax 151 [] {}
def zi3 (E:ZA):aS->ae (Int):=ae.ty (aF ax E.N (zHb E) zHc 151)
section
variable (E:ZA){A:Type}(k:Int->Option A)
theorem zHd (a0:aS):(zi3 E (a0)).T k =
  bf (decide (a0.cO ≠ 0)) (cond (decide ((aO ((aO (a0.Num.tdiv a0.cO)) * a0.cO)) > a0.Num))
 (k (aO ((aO (a0.Num.tdiv a0.cO)) - 1)))
 (k (aO (a0.Num.tdiv a0.cO)))):=bH.trans (by kernel_rfl)
end
theorem zHe [aJ] (E:ZA):Ok ax 151 (ae.un (zi3 E)):=aY (aP ay.nil (ak (by kernel_rfl)))
structure U0 where
  N:Nat
abbrev zxX (E:U0):aX:=dh Tabs.nil []
def zxY:bW:=aU ax 152 [] {}
def zi4 (E:U0):(Sl Int)×Int->ae (Int):=ae.ty (aF ax E.N (zxX E) zxY 152)
section
variable (E:U0){A:Type}(k:Int->Option A)
def Nk (E:U0) (n:Nat) (a0:(Sl Int)) (a1:Int) (v8:Int){A:Type}(k:Int->Option A):Option A :=
  iG ax (zxX E) E.N zxY 152 [1,0,1,0] [.n n] (iH k)
    ⟨[(0,eP a0),(1,.int a1),(7,.int (a0.len:Int)),(8,.int v8)],[],[]⟩
theorem e152 (a0:(Sl Int)) (a1:Int):(zi4 E (a0,a1)).T k =
  Nk E E.N a0 a1 0 k:=bH.trans (by kernel_rfl)
theorem zd5 (n0:Nat) (a0:(Sl Int)) (a1:Int) (v8:Int):Nk E (n0+1) a0 a1 v8 k =
  cond (decide (v8 < (a0.len:Int)))
  (bf (decide (0<=v8/\v8 < (a0.len:Int))) (cond (a1 == a0.get v8.toNat)
 (k v8)
 (Nk E n0 a0 a1 (aO (v8+1)) k)))
  (k (-1)):=by kernel_rfl
end
theorem zHf [aJ] (E:U0):Ok ax 152 (ae.un (zi4 E)):=aY (aP ay.nil (ak (by kernel_rfl)))
structure ZB where
  N:Nat
  IW:(au×(Sl bC)×ai×Int)×Sl ai->ae (Sl ai)
abbrev zHg (E:ZB):aX:=dh (Tabs.nil.addO 195 (.grow 43 3 56 (ae.unW E.IW))) []
def zHh:bW:=aU ax 153 [] {}
def zi5 (E:ZB):au×(Sl bC)×Int->ae ((Sl ai)×Bool):=ae.ty (aF ax E.N (zHg E) zHh 153)
section
variable (E:ZB){A:Type}(k:((Sl ai)×Bool)->Option A)
theorem e153 (a0:au) (a1:(Sl bC)) (a2:Int):(zi5 E (a0,a1,a2)).T k =
  (E.IW ((a0,a1,(⟨a2,(⟨0,λ _=>default⟩:(Sl Int)),(⟨0,λ _=>default⟩:(Sl Int))⟩:ai),0),(⟨0,(λ _=>(⟨0,(⟨0,λ _=>default⟩:(Sl Int)),(⟨0,λ _=>default⟩:(Sl Int))⟩:ai))⟩:(Sl ai)))).T λ r1 =>
  k (r1,decide ((r1.len:Int)<=2000)):=bH.trans (by kernel_rfl)
end
theorem zHi [aJ] (E:ZB) (zp1:dX ax 195 (.grow 43 3 56 (ae.unW E.IW))):Ok ax 153 (ae.un (zi5 E)):=aY (aP (ay.nil.addO zp1) (ak (by kernel_rfl)))
structure ZC where
  N:Nat
  c196:au×(Sl bC)×ai->ae (Bool)
  c91:au×(Sl bC)×ai->ae ((Sl Int))
abbrev zHj (E:ZC):aX:=dh ((Tabs.nil.addF 196 (ae.un E.c196)).addF 91 (ae.un E.c91)) []
def zHk:bW:=aU ax 154 [] {}
def zi6 (E:ZC):au×bP×(Sl bC)×ai->ae (Bool):=ae.ty (aF ax E.N (zHj E) zHk 154)
section
variable (E:ZC){A:Type}(k:Bool->Option A)
theorem e154 (a0:au) (a1:bP) (a2:(Sl bC)) (a3:ai):(zi6 E (a0,a1,a2,a3)).T k =
  (E.c196 (a0,a2,a3)).T λ r1 =>
  cond r1
  (cond (decide ((a3.Hits.len:Int) >= a1.jL))
 ((E.c91 (a0,a2,a3)).T λ r2 =>
 k (decide ((r2.len:Int)<=a1.kF)))
 (k false))
  (k false):=bH.trans (by kernel_rfl)
end
theorem zHl [aJ] (E:ZC) (U1:Ok ax 196 (ae.un E.c196)) (h91:Ok ax 91 (ae.un E.c91)):Ok ax 154 (ae.un (zi6 E)):=aY (aP ((ay.nil.addF U1).addF h91) (ak (by kernel_rfl)))
structure ZE where
  N:Nat
  c157:Int×Int×Int->ae (Bool)
abbrev zHn (E:ZE):aX:=dh (Tabs.nil.addF 157 (ae.un E.c157)) []
def zHo:bW:=aU ax 156 [] {}
def zi7 (E:ZE):aC->ae (Bool):=ae.ty (aF ax E.N (zHn E) zHo 156)
section
variable (E:ZE){A:Type}(k:Bool->Option A)
theorem zHp (a0:aC):(zi7 E (a0)).T k =
  (E.c157 (a0.Z,0,100000)).T λ r1 =>
  cond r1
  (cond (decide (a0.Low >= (-1000000)))
 (cond (decide (a0.Low<=a0.High))
 (k (decide (a0.High<=1000000)))
 (k false))
 (k false))
  (k false):=bH.trans (by kernel_rfl)
end
theorem zHq [aJ] (E:ZE) (xG:Ok ax 157 (ae.un E.c157)):Ok ax 156 (ae.un (zi7 E)):=aY (aP (ay.nil.addF xG) (ak (by kernel_rfl)))
structure ZF where
  N:Nat
abbrev zHr (E:ZF):aX:=dh Tabs.nil []
def zHs:bW:=aU ax 157 [] {}
def zi8 (E:ZF):Int×Int×Int->ae (Bool):=ae.ty (aF ax E.N (zHr E) zHs 157)
section
variable (E:ZF){A:Type}(k:Bool->Option A)
theorem zHt (a0:Int) (a1:Int) (a2:Int):(zi8 E (a0,a1,a2)).T k =
  cond (decide (a0 >= a1))
  (k (decide (a0<=a2)))
  (k false):=bH.trans (by kernel_rfl)
end
theorem zHu [aJ] (E:ZF):Ok ax 157 (ae.un (zi8 E)):=aY (aP ay.nil (ak (by kernel_rfl)))
structure U2 where
  N:Nat
  c167:list->ae (Bool)
  c198:straight->ae (Line)
  zlj:set×straight->ae (Bool)
  i228:(Pt list)->ae (List (straight))
abbrev zxZ (E:U2):aX:=dh (((((Tabs.nil.addF 167 (ae.un E.c167)).addF 198 (ae.un E.c198)).addF 199 (ae.un E.zlj)).addF 197 (aF ax E.N (dh Tabs.nil []) (aU ax 197 [] {}) 197)).addI 228 (ae.unI E.i228)) [14]
def zx0:bW:=aU ax 158 [] { ks:=[(1,6,⟨[],[],[(3,1,36,204)],[],[],[],[]⟩)] }
def zi9 (E:U2):(Sl aC)->ae (set):=ae.ty (aF ax E.N (zxZ E) zx0 158)
section
variable (E:U2){A:Type}(k:set->Option A)
def lY (E:U2) (l:List (straight)) (a0:(Sl aC)) (ZG:Sl straight) (QB:Nat) (Jh:List Int->Option (List Int)) {A:Type}(k:set->Option A):Option A :=
  iG ax (zxZ E) E.N zx0 158 [1,1,1,1,0,1,0] [.y (l.map dw.enc)] (iH k)
    ⟨[(2,.cl (.ptr 2 0)),(3,.cl (.ptr 3 0)),(4,.cl (.ptr 4 0)),(17,.p (.fn 228 [] [.fp [.sl a0.len 3 (λ i=>bG.enc (a0.get i))] 0]))],[(2,.box 197 [.p (.nils),.p (.nils)]),(3,.box 197 [.p (.sl a0.len 3 (λ i=>bG.enc (a0.get i))),.vec 36]),(4,.box 271 [.mo 14]),(36,eV 204 3 24 ZG),(14,.mo 114 4 (.ints,4,false,[none]) QB Jh)],[]⟩
theorem zHv (a0:(Sl aC)):(zi9 E (a0)).T k =
  (E.c167 (⟨a0⟩:list)).T λ r1 =>
  cond r1
  (k (⟨(⟨a0⟩:list),(⟨0,λ _=>default⟩:(Sl straight))⟩:set))
  ((E.i228 (⟨(⟨a0⟩:list)⟩:(Pt list))).T λ r2 =>
 lY E r2 a0 (⟨0,(λ _=>(⟨0,0,0⟩:straight))⟩:(Sl straight)) 0 (λ _=>none) k):=bH.trans (by kernel_rfl)
theorem zja (a0:(Sl aC)) (ZG:Sl straight) (QB:Nat) (Jh:List Int→Option (List Int)):lY E [] a0 ZG QB Jh k =
  k (⟨(⟨a0⟩:list),ZG⟩:set):=by kernel_rfl
theorem zp2 (y:straight) (l0:List (straight)) (a0:(Sl aC)) (ZG:Sl straight) (QB:Nat) (Jh:List Int→Option (List Int)):lY E (y :: l0) a0 ZG QB Jh k =
  (E.c198 y).T λ r1 =>
  cond (!(CJ (Jh [r1.dM.Num,r1.dM.cO,r1.Start.Num,r1.Start.cO]) 0 != 0))
  ((E.zlj ((⟨(⟨a0⟩:list),ZG⟩:set),y)).T λ r2 =>
 cond r2
 (bf (room (ZG.len+1) 24) (lY E l0 a0 (⟨(ZG.len+1),(jd ZG.len ZG.get (λ _=>y))⟩:(Sl straight)) (addN (Jh [r1.dM.Num,r1.dM.cO,r1.Start.Num,r1.Start.cO]) QB) (D7 [r1.dM.Num,r1.dM.cO,r1.Start.Num,r1.Start.cO] [1] Jh) k))
 (lY E l0 a0 ZG QB Jh k))
  (lY E l0 a0 ZG QB Jh k):=by kernel_rfl
end
theorem zHw [aJ] (E:U2) (sG:Ok ax 167 (ae.un E.c167)) (U3:Ok ax 198 (ae.un E.c198)) (zp3:Ok ax 199 (ae.un E.zlj)) (zHx:qB ax 228 (ae.unI E.i228)):Ok ax 158 (ae.un (zi9 E)):=aY (aP (((((ay.nil.addF sG).addF U3).addF zp3).addF (aP ay.nil (ak (by kernel_rfl)))).addI zHx) (ak (by kernel_rfl)))
structure ZH where
  N:Nat
  Oh:list->ae (bZ)
  c167:list->ae (Bool)
abbrev zHy (E:ZH):aX:=dh ((Tabs.nil.addF 200 (ae.un E.Oh)).addF 167 (ae.un E.c167)) []
def zHz:bW:=aU ax 159 [] {}
def zjb (E:ZH):set->ae (Bool):=ae.ty (aF ax E.N (zHy E) zHz 159)
section
variable (E:ZH){A:Type}(k:Bool->Option A)
theorem zHA (a0:set):(zjb E (a0)).T k =
  (E.Oh a0.list).T λ r1 =>
  (E.c167 a0.list).T λ r2 =>
  cond r2
  (k (decide (r1.Low<=r1.High)))
  (k (decide ((a0.cu.len:Int) > 0))):=bH.trans (by kernel_rfl)
end
theorem zHB [aJ] (E:ZH) (U4:Ok ax 200 (ae.un E.Oh)) (sG:Ok ax 167 (ae.un E.c167)):Ok ax 159 (ae.un (zjb E)):=aY (aP ((ay.nil.addF U4).addF sG) (ak (by kernel_rfl)))
structure ZI where
  N:Nat
abbrev zHC (E:ZI):aX:=dh Tabs.nil []
def zHD:bW:=aU ax 162 [] {}
def zjc (E:ZI):list×(Pt Int)->ae (Bool):=ae.ty (aF ax E.N (zHC E) zHD 162)
section
variable (E:ZI){A:Type}(k:Bool->Option A)
theorem e162 (a0:list) (a1:(Pt Int)):(zjc E (a0,a1)).T k =
  bf (decide ((0:Int)<=0/\0 < (a0.bI.len:Int))) (k ((a0.bI.get 0).Z == a1.v)):=bH.trans (by kernel_rfl)
end
theorem zHE [aJ] (E:ZI):Ok ax 162 (ae.un (zjc E)):=aY (aP ay.nil (ak (by kernel_rfl)))
structure ZJ where
  N:Nat
  c167:list->ae (Bool)
  Oh:list->ae (bZ)
  lC:Int×Int->ae (aS)
  c119:set×(dN 202 Unit (Pt Int))->ae (aS×aS)
abbrev zHF (E:ZJ):aX:=dh ((((Tabs.nil.addF 167 (ae.un E.c167)).addF 200 (ae.un E.Oh)).addF 172 (ae.un E.lC)).addF 119 (ae.un E.c119)) []
def zHG:bW:=aU ax 163 [] {}
def zjd (E:ZJ):set×Int->ae (aS×aS):=ae.ty (aF ax E.N (zHF E) zHG 163)
section
variable (E:ZJ){A:Type}(k:(aS×aS)->Option A)
theorem zHH (a0:set) (a1:Int):(zjd E (a0,a1)).T k =
  (E.c167 a0.list).T λ r1 =>
  cond r1
  ((E.Oh a0.list).T λ r2 =>
 (E.lC (r2.Low,1)).T λ r3 =>
 (E.lC (r2.High,1)).T λ r4 =>
 k (r3,r4))
  ((E.c119 (a0,(⟨(),(⟨a1⟩:(Pt Int))⟩:(dN 202 Unit (Pt Int))))).T λ r5 =>
 k (r5.1,r5.2)):=bH.trans (by kernel_rfl)
end
theorem zHI [aJ] (E:ZJ) (sG:Ok ax 167 (ae.un E.c167)) (U4:Ok ax 200 (ae.un E.Oh)) (sH:Ok ax 172 (ae.un E.lC)) (h119:Ok ax 119 (ae.un E.c119)):Ok ax 163 (ae.un (zjd E)):=aY (aP ((((ay.nil.addF sG).addF U4).addF sH).addF h119) (ak (by kernel_rfl)))
structure ZK where
  N:Nat
abbrev zHJ (E:ZK):aX:=dh Tabs.nil []
def zHK:bW:=aU ax 166 [] {}
def zje (E:ZK):Line×Int->ae (Int×Int):=ae.ty (aF ax E.N (zHJ E) zHK 166)
section
variable (E:ZK){A:Type}(k:(Int×Int)->Option A)
theorem e166 (a0:Line) (a1:Int):(zje E (a0,a1)).T k =
  k ((aO ((aO (a0.Start.Num * a0.dM.cO))+(aO ((aO (a0.dM.Num * a1)) * a0.Start.cO)))),(aO (a0.Start.cO * a0.dM.cO))):=bH.trans (by kernel_rfl)
end
theorem zHL [aJ] (E:ZK):Ok ax 166 (ae.un (zje E)):=aY (aP ay.nil (ak (by kernel_rfl)))
structure ZL where
  N:Nat
  c206:(Sl aC)×((dN 207 Unit (Pt list)) ⊕ (dN 230 Unit (Pt straight)) ⊕ (dN 257 Unit (Pt straight)))->ae (Bool)
abbrev zHM (E:ZL):aX:=dh (Tabs.nil.addF 206 (ae.un E.c206)) []
def zHN:bW:=aU ax 167 [] {}
def zjf (E:ZL):list->ae (Bool):=ae.ty (aF ax E.N (zHM E) zHN 167)
section
variable (E:ZL){A:Type}(k:Bool->Option A)
theorem e167 (a0:list):(zjf E (a0)).T k =
  (E.c206 (a0.bI,(Sum.inl (⟨(),(⟨a0⟩:(Pt list))⟩:(dN 207 Unit (Pt list)))))).T λ r1 =>
  k (!r1):=bH.trans (by kernel_rfl)
end
theorem zHO [aJ] (E:ZL) (GI:Ok ax 206 (ae.un E.c206)):Ok ax 167 (ae.un (zjf E)):=aY (aP (ay.nil.addF GI) (ak (by kernel_rfl)))
structure nY where
  N:Nat
  zld:aS×aS->ae (Bool)
abbrev QC (E:nY):aX:=dh (Tabs.nil.addF 169 (ae.un E.zld)) []
def QD:bW:=aU ax 168 [] {}
def yY (E:nY):(Sl aS)×(dN 169 Unit Unit)->ae (aS):=ae.ty (aF ax E.N (QC E) QD 168)
section
variable (E:nY){A:Type}(k:aS->Option A)
def lh (E:nY) (n:Nat) (a0:(Sl aS)) (v14:Int) (x5:aS){A:Type}(k:aS->Option A):Option A :=
  iG ax (QC E) E.N QD 168 [1,1,0,1,0] [.n n] (iH k)
    ⟨[(1,.p (.fn 169 [] [])),(4,.cl (.ptr 4 0)),(5,.cl (.ptr 5 0)),(12,.cl (.p (.sl (((a0.len:Int):Int) - 1).toNat 2 (λ i=>bG.enc ((Jf a0.get 1) i))))),(13,.int ((((a0.len:Int):Int) - 1).toNat:Int)),(14,.int v14)],[(4,.box 85 [.p (.int .i64 0),.p (.int .i64 0)]),(5,eB 85 x5)],[]⟩
theorem zd6 (a0:(Sl aS)) (a1:(dN 169 Unit Unit)):(yY E (a0,a1)).T k =
  bf (decide ((0:Int)<=0/\0 < (a0.len:Int))) (bf (decide ((0:Int)<=1/\(1:Int)<=(a0.len:Int)/\(a0.len:Int)<=(a0.len:Int))) (lh E E.N a0 0 (a0.get 0) k)):=bH.trans (by kernel_rfl)
theorem GK (n0:Nat) (a0:(Sl aS)) (v14:Int) (x5:aS):lh E (n0+1) a0 v14 x5 k =
  cond (decide (v14 < ((((a0.len:Int):Int) - 1).toNat:Int)))
  (bf (decide (0<=v14/\v14 < ((((a0.len:Int):Int) - 1).toNat:Int))) ((E.zld (((Jf a0.get 1) v14.toNat),x5)).T λ r1 =>
 cond r1
 (lh E n0 a0 (aO (v14+1)) ((Jf a0.get 1) v14.toNat) k)
 (lh E n0 a0 (aO (v14+1)) x5 k)))
  (k x5):=by kernel_rfl
end
theorem zd7 [aJ] (E:nY) (zp4:Ok ax 169 (ae.un E.zld)):Ok ax 168 (ae.un (yY E)):=aY (aP (ay.nil.addF zp4) (ak (by kernel_rfl)))
structure nZ where
  N:Nat
  c171:aS×aS->ae (Bool)
abbrev QE (E:nZ):aX:=dh (Tabs.nil.addF 171 (ae.un E.c171)) []
def QF:bW:=aU ax 168 [] {}
def yZ (E:nZ):(Sl aS)×(dN 171 Unit Unit)->ae (aS):=ae.ty (aF ax E.N (QE E) QF 168)
section
variable (E:nZ){A:Type}(k:aS->Option A)
def lq (E:nZ) (n:Nat) (a0:(Sl aS)) (v14:Int) (x5:aS){A:Type}(k:aS->Option A):Option A :=
  iG ax (QE E) E.N QF 168 [1,1,0,1,0] [.n n] (iH k)
    ⟨[(1,.p (.fn 171 [] [])),(4,.cl (.ptr 4 0)),(5,.cl (.ptr 5 0)),(12,.cl (.p (.sl (((a0.len:Int):Int) - 1).toNat 2 (λ i=>bG.enc ((Jf a0.get 1) i))))),(13,.int ((((a0.len:Int):Int) - 1).toNat:Int)),(14,.int v14)],[(4,.box 85 [.p (.int .i64 0),.p (.int .i64 0)]),(5,eB 85 x5)],[]⟩
theorem zd8 (a0:(Sl aS)) (a1:(dN 171 Unit Unit)):(yZ E (a0,a1)).T k =
  bf (decide ((0:Int)<=0/\0 < (a0.len:Int))) (bf (decide ((0:Int)<=1/\(1:Int)<=(a0.len:Int)/\(a0.len:Int)<=(a0.len:Int))) (lq E E.N a0 0 (a0.get 0) k)):=bH.trans (by kernel_rfl)
theorem GL (n0:Nat) (a0:(Sl aS)) (v14:Int) (x5:aS):lq E (n0+1) a0 v14 x5 k =
  cond (decide (v14 < ((((a0.len:Int):Int) - 1).toNat:Int)))
  (bf (decide (0<=v14/\v14 < ((((a0.len:Int):Int) - 1).toNat:Int))) ((E.c171 (((Jf a0.get 1) v14.toNat),x5)).T λ r1 =>
 cond r1
 (lq E n0 a0 (aO (v14+1)) ((Jf a0.get 1) v14.toNat) k)
 (lq E n0 a0 (aO (v14+1)) x5 k)))
  (k x5):=by kernel_rfl
end
theorem zd9 [aJ] (E:nZ) (zp5:Ok ax 171 (ae.un E.c171)):Ok ax 168 (ae.un (yZ E)):=aY (aP (ay.nil.addF zp5) (ak (by kernel_rfl)))
structure ZM where
  N:Nat
  zJ:aS×aS->ae (Int)
abbrev zHP (E:ZM):aX:=dh (Tabs.nil.addF 170 (ae.un E.zJ)) []
def zHQ:bW:=aU ax 169 [] {}
def zjg (E:ZM):aS×aS->ae (Bool):=ae.ty (aF ax E.N (zHP E) zHQ 169)
section
variable (E:ZM){A:Type}(k:Bool->Option A)
theorem e169 (a0:aS) (a1:aS):(zjg E (a0,a1)).T k =
  (E.zJ (a0,a1)).T λ r1 =>
  k (decide (r1 < 0)):=bH.trans (by kernel_rfl)
end
theorem zHR [aJ] (E:ZM) (GM:Ok ax 170 (ae.un E.zJ)):Ok ax 169 (ae.un (zjg E)):=aY (aP (ay.nil.addF GM) (ak (by kernel_rfl)))
structure ZN where
  N:Nat
  c208:Int×Int->ae (Int)
abbrev zHS (E:ZN):aX:=dh (Tabs.nil.addF 208 (ae.un E.c208)) []
def zHT:bW:=aU ax 170 [] {}
def zjh (E:ZN):aS×aS->ae (Int):=ae.ty (aF ax E.N (zHS E) zHT 170)
section
variable (E:ZN){A:Type}(k:Int->Option A)
theorem e170 (a0:aS) (a1:aS):(zjh E (a0,a1)).T k =
  (E.c208 ((aO (a0.Num * a1.cO)),(aO (a1.Num * a0.cO)))).T λ r1 =>
  k r1:=bH.trans (by kernel_rfl)
end
theorem zHU [aJ] (E:ZN) (U5:Ok ax 208 (ae.un E.c208)):Ok ax 170 (ae.un (zjh E)):=aY (aP (ay.nil.addF U5) (ak (by kernel_rfl)))
structure ZO where
  N:Nat
  zJ:aS×aS->ae (Int)
abbrev zHV (E:ZO):aX:=dh (Tabs.nil.addF 170 (ae.un E.zJ)) []
def zHW:bW:=aU ax 171 [] {}
def zji (E:ZO):aS×aS->ae (Bool):=ae.ty (aF ax E.N (zHV E) zHW 171)
section
variable (E:ZO){A:Type}(k:Bool->Option A)
theorem zHX (a0:aS) (a1:aS):(zji E (a0,a1)).T k =
  (E.zJ (a0,a1)).T λ r1 =>
  k (decide (r1 > 0)):=bH.trans (by kernel_rfl)
end
theorem zHY [aJ] (E:ZO) (GM:Ok ax 170 (ae.un E.zJ)):Ok ax 171 (ae.un (zji E)):=aY (aP (ay.nil.addF GM) (ak (by kernel_rfl)))
structure ZP where
  N:Nat
  zln:Int×Int->ae (Int)
abbrev zHZ (E:ZP):aX:=dh (Tabs.nil.addF 209 (ae.un E.zln)) []
def zH0:bW:=aU ax 172 [] {}
def zjj (E:ZP):Int×Int->ae (aS):=ae.ty (aF ax E.N (zHZ E) zH0 172)
section
variable (E:ZP){A:Type}(k:aS->Option A)
theorem zH1 (a0:Int) (a1:Int):(zjj E (a0,a1)).T k =
  (E.zln ((if (aO (0 - a0)) > a0 then (aO (0 - a0)) else a0),a1)).T λ r1 =>
  bf (decide (r1 ≠ 0)) (bf (decide (r1 ≠ 0)) (k (⟨(aO (a0.tdiv r1)),(aO (a1.tdiv r1))⟩:aS))):=bH.trans (by kernel_rfl)
end
theorem zH2 [aJ] (E:ZP) (zp6:Ok ax 209 (ae.un E.zln)):Ok ax 172 (ae.un (zjj E)):=aY (aP (ay.nil.addF zp6) (ak (by kernel_rfl)))
structure U6 where
  N:Nat
abbrev zx1 (E:U6):aX:=dh Tabs.nil []
def zx2:bW:=aU ax 176 [] {}
def zjk (E:U6):(Sl Bool)×Bool->ae (Int):=ae.ty (aF ax E.N (zx1 E) zx2 176)
section
variable (E:U6){A:Type}(k:Int->Option A)
def Nl (E:U6) (n:Nat) (a0:(Sl Bool)) (a1:Bool) (v8:Int){A:Type}(k:Int->Option A):Option A :=
  iG ax (zx1 E) E.N zx2 176 [1,0,1,0] [.n n] (iH k)
    ⟨[(0,eP a0),(1,.bool a1),(7,.int (a0.len:Int)),(8,.int v8)],[],[]⟩
theorem zH3 (a0:(Sl Bool)) (a1:Bool):(zjk E (a0,a1)).T k =
  Nl E E.N a0 a1 0 k:=bH.trans (by kernel_rfl)
theorem zea (n0:Nat) (a0:(Sl Bool)) (a1:Bool) (v8:Int):Nl E (n0+1) a0 a1 v8 k =
  cond (decide (v8 < (a0.len:Int)))
  (bf (decide (0<=v8/\v8 < (a0.len:Int))) (cond (a1 == (a0.get v8.toNat))
 (k v8)
 (Nl E n0 a0 a1 (aO (v8+1)) k)))
  (k (-1)):=by kernel_rfl
end
theorem zH4 [aJ] (E:U6):Ok ax 176 (ae.un (zjk E)):=aY (aP ay.nil (ak (by kernel_rfl)))
structure ZQ where
  N:Nat
  IR:(Sl Int)×((dN 180 Unit ((Pt (Pt aW))×(Pt Int))) ⊕ (dN 190 Unit ((Pt (Pt aW))×(Pt Int))))->ae (Bool)
  c182:(Pt aW)×ai->ae (Bool)
  i173:(Pt Int)×(Pt (Pt aW))×(Pt Int)->ae (List (Int×Int))
  IV:ai×Int×Bc 143 (Pt aW)×Bc 38 Int×Bw 30 43 3 56 ai×Bs 255 178 2 4×Unit->ae ((Unit)×(Unit×Unit×(Pt aW)×Int×Sl ai×Unit×Unit))
abbrev zp7 (E:ZQ):aX:=dh (((((((Tabs.nil.addN [180]).addO 181 (.clone 3 1 8)).addM 178 (ae.unM E.IV)).addF 179 (ae.un E.IR)).addF 182 (ae.un E.c182)).addF 121 (aF ax E.N (dh Tabs.nil []) (aU ax 121 [] {}) 121)).addI 173 (ae.unI E.i173)) []
def zjl:bW:=aU ax 178 [2,3,4,5] { clo:=[180] }
def zjm (E:ZQ):ai×Int×Bc 143 (Pt aW)×Bc 38 Int×Bw 30 43 3 56 ai×Bs 255 178 2 4×Unit->ae ((Unit)×(Unit×Unit×(Pt aW)×Int×Sl ai×Unit×Unit)):=ae.tyM λ xs=>aM ax E.N (zp7 E) zjl 178 xs
section
variable (E:ZQ){A:Type}(k:((Unit)×(Unit×Unit×(Pt aW)×Int×Sl ai×Unit×Unit))->Option A)
def lZ (E:ZQ) (l:List (Int×Int)) (a0:ai) (a1:Int) (a2:(Pt aW)) (a3:Int) (a4:(Sl ai)) (GN:(Pt aW)) (CW:Int) (qV:Sl ai){A:Type}(k:((Unit)×(Unit×Unit×(Pt aW)×Int×Sl ai×Unit×Unit))->Option A):Option A :=
  ptG ax (zp7 E) E.N zjl 178 [1,1,0] [.y (l.map dw.enc)] (W9 ax (vT.enc ((a0,a1,⟨a2⟩,⟨a3⟩,⟨a4⟩,{},()):ai×Int×Bc 143 (Pt aW)×Bc 38 Int×Bw 30 43 3 56 ai×Bs 255 178 2 4×Unit))) (zwP ((a0,a1,⟨a2⟩,⟨a3⟩,⟨a4⟩,{},()):ai×Int×Bc 143 (Pt aW)×Bc 38 Int×Bw 30 43 3 56 ai×Bs 255 178 2 4×Unit) k)
    ⟨[(2,.cl (.ptr 2 0)),(3,.cl (.ptr 3 0)),(4,.cl (.ptr 4 0)),(5,.cl (.ptr 5 0)),(6,.cl (.ptr 6 0)),(14,.p (.fn 173 [] [.fp [.int .i64 a1] 0,.fp [.fp [.sl a2.v.au.aj.len 15 (λ i=>bG.enc (a2.v.au.aj.get i)),.sl a2.v.hits.len 6 (λ i=>bG.enc (a2.v.hits.get i)),.sl a2.v.kQ.len 1 (λ i=>bG.enc (a2.v.kQ.get i)),.int .i64 a2.v.rules.jL,.int .i64 a2.v.rules.kF] 0] 0,.fp [.int .i64 a3] 0]))],[(2,eB 143 GN),(3,eB 38 CW),(4,.box 30 [.vec 4100]),(5,.box 255 [.clo 178 [.b 2,.b 3,.b 4,.b 5]]),(6,eB 43 a0),(4100,eV 43 3 56 qV)],[]⟩
theorem zH5 (a0:ai) (a1:Int) (a2:(Pt aW)) (a3:Int) (a4:(Sl ai)):(zjm E (a0,a1,⟨a2⟩,⟨a3⟩,⟨a4⟩,{},())).T k =
  (E.i173 ((⟨a1⟩:(Pt Int)),(⟨a2⟩:(Pt (Pt aW))),(⟨a3⟩:(Pt Int)))).T λ r1 =>
  lZ E r1 a0 a1 a2 a3 a4 a2 a3 a4 k:=zwQ.trans (by kernel_rfl)
theorem zjn (a0:ai) (a1:Int) (a2:(Pt aW)) (a3:Int) (a4:(Sl ai)) (GN:(Pt aW)) (CW:Int) (qV:Sl ai):lZ E [] a0 a1 a2 a3 a4 GN CW qV k =
  k ((),(),(),GN,CW,qV,(),()):=by kernel_rfl
theorem zeb (y:Int×Int) (l0:List (Int×Int)) (a0:ai) (a1:Int) (a2:(Pt aW)) (a3:Int) (a4:(Sl ai)) (GN:(Pt aW)) (CW:Int) (qV:Sl ai):lZ E (y :: l0) a0 a1 a2 a3 a4 GN CW qV k =
  (E.IR (a0.Hits,(Sum.inl (⟨(),((⟨GN⟩:(Pt (Pt aW))),(⟨y.1⟩:(Pt Int)))⟩:(dN 180 Unit ((Pt (Pt aW))×(Pt Int))))))).T λ r1 =>
  cond r1
  (lZ E l0 a0 a1 a2 a3 a4 GN CW qV k)
  (bf (room a0.Hits.len 8) (bf (room (a0.Hits.len+1) 8) (bf (room a0.bz.len 8) (bf (room (a0.bz.len+1) 8) ((E.c182 (GN,(⟨CW,(⟨(a0.Hits.len+1),(jd a0.Hits.len a0.Hits.get (λ _=>y.1))⟩:(Sl Int)),(⟨(a0.bz.len+1),(jd a0.bz.len a0.bz.get (λ _=>y.2))⟩:(Sl Int))⟩:ai))).T λ r2 =>
 cond (!r2)
 (lZ E l0 a0 a1 a2 a3 a4 GN CW qV k)
 (bf (room (qV.len+1) 56) (cond (decide (((qV.len+1):Int) > 2000))
 (none)
 ((E.IV ((⟨CW,(⟨(a0.Hits.len+1),(jd a0.Hits.len a0.Hits.get (λ _=>y.1))⟩:(Sl Int)),(⟨(a0.bz.len+1),(jd a0.bz.len a0.bz.get (λ _=>y.2))⟩:(Sl Int))⟩:ai),(aO (y.1+1)),(⟨GN⟩:Bc 143 (Pt aW)),(⟨CW⟩:Bc 38 Int),(⟨(⟨(qV.len+1),(jd qV.len qV.get (λ _=>(⟨CW,(⟨(a0.Hits.len+1),(jd a0.Hits.len a0.Hits.get (λ _=>y.1))⟩:(Sl Int)),(⟨(a0.bz.len+1),(jd a0.bz.len a0.bz.get (λ _=>y.2))⟩:(Sl Int))⟩:ai)))⟩:(Sl ai))⟩:Bw 30 43 3 56 ai),({} : Bs 255 178 2 4),())).T λ r3 =>
 lZ E l0 a0 a1 a2 a3 a4 r3.2.2.2.1 r3.2.2.2.2.1 r3.2.2.2.2.2.1 k)))))))):=by kernel_rfl
end
theorem zH6 (E:ZQ) (UR:Ok ax 179 (ae.un E.IR)) (zp8:Ok ax 182 (ae.un E.c182)) (zH7:qB ax 173 (ae.unI E.i173)) (zH8:dX ax 181 (.clone 3 1 8)) (zpO:nK ax 178 (ae.unM E.IV)):nK ax 178 (ae.unM (zjm E)):=by
  have h : nK ax 178 (λ xs => aM ax E.N (zp7 E) zjl 178 xs) := Uc (aT := λ _ => zjl) (((((((ay.nil.addN).addO zH8).addM zpO).addF UR).addF zp8).addF (aP ay.nil (ak (by kernel_rfl)))).addI zH7) (ak (by kernel_rfl));exact (zod h : nK ax 178 (ae.unM (ae.tyM _ : ai × Int × Bc 143 (Pt aW) × Bc 38 Int × Bw 30 43 3 56 ai × Bs 255 178 2 4 × Unit -> ae ((Unit) × (Unit × Unit × (Pt aW) × Int × Sl ai × Unit × Unit)))))
structure qW where
  N:Nat
  c210:(Sl Int)×((dN 180 Unit ((Pt (Pt aW))×(Pt Int))) ⊕ (dN 190 Unit ((Pt (Pt aW))×(Pt Int))))->ae (Int)
abbrev zec (E:qW):aX:=dh (Tabs.nil.addF 210 (ae.un E.c210)) []
def zed:bW:=aU ax 179 [] {}
def zf (E:qW):(Sl Int)×(dN 180 Unit ((Pt (Pt aW))×(Pt Int)))->ae (Bool):=ae.ty (aF ax E.N (zec E) zed 179)
section
variable (E:qW){A:Type}(k:Bool->Option A)
theorem zee (a0:(Sl Int)) (a1:(dN 180 Unit ((Pt (Pt aW))×(Pt Int)))):(zf E (a0,a1)).T k =
  (E.c210 (a0,(Sum.inl a1))).T λ r1 =>
  k (decide (r1 >= 0)):=bH.trans (by kernel_rfl)
end
theorem zef [aJ] (E:qW) (U7:Ok ax 210 (ae.un E.c210)):Ok ax 179 (ae.un (zf E)):=aY (aP (ay.nil.addF U7) (ak (by kernel_rfl)))
structure qX where
  N:Nat
  c210:(Sl Int)×((dN 180 Unit ((Pt (Pt aW))×(Pt Int))) ⊕ (dN 190 Unit ((Pt (Pt aW))×(Pt Int))))->ae (Int)
abbrev zeg (E:qX):aX:=dh (Tabs.nil.addF 210 (ae.un E.c210)) []
def zeh:bW:=aU ax 179 [] {}
def zg (E:qX):(Sl Int)×(dN 190 Unit ((Pt (Pt aW))×(Pt Int)))->ae (Bool):=ae.ty (aF ax E.N (zeg E) zeh 179)
section
variable (E:qX){A:Type}(k:Bool->Option A)
theorem zei (a0:(Sl Int)) (a1:(dN 190 Unit ((Pt (Pt aW))×(Pt Int)))):(zg E (a0,a1)).T k =
  (E.c210 (a0,(Sum.inr a1))).T λ r1 =>
  k (decide (r1 >= 0)):=bH.trans (by kernel_rfl)
end
theorem zej [aJ] (E:qX) (U7:Ok ax 210 (ae.un E.c210)):Ok ax 179 (ae.un (zg E)):=aY (aP (ay.nil.addF U7) (ak (by kernel_rfl)))
structure ZR where
  N:Nat
abbrev zH9 (E:ZR):aX:=dh Tabs.nil []
def zIa:bW:=aU ax 180 [] {}
def zjo (E:ZR):Int×(Pt (Pt aW))×(Pt Int)->ae (Bool):=ae.ty (aF ax E.N (zH9 E) zIa 180)
section
variable (E:ZR){A:Type}(k:Bool->Option A)
theorem zIb (a0:Int) (a1:(Pt (Pt aW))) (a2:(Pt Int)):(zjo E (a0,a1,a2)).T k =
  bf (decide (0<=a0/\a0 < (a1.v.v.hits.len:Int))) (bf (decide (0<=a2.v/\a2.v < (a1.v.v.hits.len:Int))) (k ((a1.v.v.hits.get a0.toNat).af == (a1.v.v.hits.get a2.v.toNat).af))):=bH.trans (by kernel_rfl)
end
theorem zIc [aJ] (E:ZR):Ok ax 180 (ae.un (zjo E)):=aY (aP ay.nil (ak (by kernel_rfl)))
structure ZT where
  N:Nat
  c93:(Pt aW)×ai->ae (bZ×Bool)
  c105:(Pt aW)×ai->ae ((Sl aC))
  zlo:(Sl aC)->ae (Line×Int)
abbrev zId (E:ZT):aX:=dh (((Tabs.nil.addF 93 (ae.un E.c93)).addF 105 (ae.un E.c105)).addF 211 (ae.un E.zlo)) []
def zIe:bW:=aU ax 182 [] {}
def zjq (E:ZT):(Pt aW)×ai->ae (Bool):=ae.ty (aF ax E.N (zId E) zIe 182)
section
variable (E:ZT){A:Type}(k:Bool->Option A)
theorem zIf (a0:(Pt aW)) (a1:ai):(zjq E (a0,a1)).T k =
  (E.c93 (a0,a1)).T λ r1 =>
  cond (!r1.2)
  (k false)
  ((E.c105 (a0,a1)).T λ r2 =>
 (E.zlo r2).T λ r3 =>
 k (r3.2 != 5)):=bH.trans (by kernel_rfl)
end
theorem zIg [aJ] (E:ZT) (h93:Ok ax 93 (ae.un E.c93)) (UQ:Ok ax 105 (ae.un E.c105)) (zp9:Ok ax 211 (ae.un E.zlo)):Ok ax 182 (ae.un (zjq E)):=aY (aP (((ay.nil.addF h93).addF UQ).addF zp9) (ak (by kernel_rfl)))
structure U8 where
  N:Nat
abbrev zx3 (E:U8):aX:=dh Tabs.nil []
def zx4:bW:=aU ax 185 [] {}
def zjr (E:U8):(Sl Int)->ae (Int):=ae.ty (aF ax E.N (zx3 E) zx4 185)
section
variable (E:U8){A:Type}(k:Int->Option A)
def A8 (E:U8) (n:Nat) (a0:(Sl Int)) (v8:Int){A:Type}(k:Int->Option A):Option A :=
  iG ax (zx3 E) E.N zx4 185 [1,1,0,1,0] [.n n] (iH k)
    ⟨[(3,.int 0),(6,eP a0),(7,.int (a0.len:Int)),(8,.int v8)],[],[]⟩
theorem e185 (a0:(Sl Int)):(zjr E (a0)).T k =
  A8 E E.N a0 0 k:=bH.trans (by kernel_rfl)
theorem zek (n0:Nat) (a0:(Sl Int)) (v8:Int):A8 E (n0+1) a0 v8 k =
  cond (decide (v8 < (a0.len:Int)))
  (bf (decide (0<=v8/\v8 < (a0.len:Int))) (cond (a0.get v8.toNat != 0)
 (k (a0.get v8.toNat))
 (A8 E n0 a0 (aO (v8+1)) k)))
  (k 0):=by kernel_rfl
end
theorem zIi [aJ] (E:U8):Ok ax 185 (ae.un (zjr E)):=aY (aP ay.nil (ak (by kernel_rfl)))
structure ZU where
  N:Nat
  c222:Int->ae (Bool)
abbrev zIj (E:ZU):aX:=dh (Tabs.nil.addF 222 (ae.un E.c222)) []
def zIk:bW:=aU ax 186 [] {}
def zjs (E:ZU):Int×Int->ae (Int):=ae.ty (aF ax E.N (zIj E) zIk 186)
section
variable (E:ZU){A:Type}(k:Int->Option A)
theorem zIl (a0:Int) (a1:Int):(zjs E (a0,a1)).T k =
  (E.c222 a0).T λ r1 =>
  (E.c222 a1).T λ r2 =>
  cond r1
  (cond r2
 (k 0)
 (k (-1)))
  (cond r2
 (k 1)
 (cond (decide (a0 < a1))
 (k (-1))
 (cond (decide (a0 > a1))
 (k 1)
 (k 0)))):=bH.trans (by kernel_rfl)
end
theorem zIm [aJ] (E:ZU) (zjt:Ok ax 222 (ae.un E.c222)):Ok ax 186 (ae.un (zjs E)):=aY (aP (ay.nil.addF zjt) (ak (by kernel_rfl)))
structure U9 where
  N:Nat
  c208:Int×Int->ae (Int)
abbrev zx5 (E:U9):aX:=dh (Tabs.nil.addF 208 (ae.un E.c208)) []
def zx6:bW:=aU ax 187 [] {}
def zju (E:U9):(Sl Int)×(Sl Int)->ae (Int):=ae.ty (aF ax E.N (zx5 E) zx6 187)
section
variable (E:U9){A:Type}(k:Int->Option A)
def Np (E:U9) (n:Nat) (a0:(Sl Int)) (a1:(Sl Int)) (v11:Int){A:Type}(k:Int->Option A):Option A :=
  iG ax (zx5 E) E.N zx6 187 [1,0,1,0] [.n n] (iH k)
    ⟨[(0,eP a0),(1,eP a1),(9,eP a0),(10,.int (a0.len:Int)),(11,.int v11)],[],[]⟩
theorem e187 (a0:(Sl Int)) (a1:(Sl Int)):(zju E (a0,a1)).T k =
  Np E E.N a0 a1 0 k:=bH.trans (by kernel_rfl)
theorem zel (n0:Nat) (a0:(Sl Int)) (a1:(Sl Int)) (v11:Int):Np E (n0+1) a0 a1 v11 k =
  cond (decide (v11 < (a0.len:Int)))
  (bf (decide (0<=v11/\v11 < (a0.len:Int))) (cond (decide (v11 >= (a1.len:Int)))
 (k 1)
 (bf (decide (0<=v11/\v11 < (a1.len:Int))) ((E.c208 (a0.get v11.toNat,a1.get v11.toNat)).T λ r1 =>
 cond (r1 != 0)
 (k r1)
 (Np E n0 a0 a1 (aO (v11+1)) k)))))
  (cond (decide ((a0.len:Int) < (a1.len:Int)))
 (k (-1))
 (k 0)):=by kernel_rfl
end
theorem zIn [aJ] (E:U9) (U5:Ok ax 208 (ae.un E.c208)):Ok ax 187 (ae.un (zju E)):=aY (aP (ay.nil.addF U5) (ak (by kernel_rfl)))
structure ZV where
  N:Nat
abbrev zIo (E:ZV):aX:=dh Tabs.nil []
def zIp:bW:=aU ax 190 [] {}
def zjv (E:ZV):Int×(Pt (Pt aW))×(Pt Int)->ae (Bool):=ae.ty (aF ax E.N (zIo E) zIp 190)
section
variable (E:ZV){A:Type}(k:Bool->Option A)
theorem e190 (a0:Int) (a1:(Pt (Pt aW))) (a2:(Pt Int)):(zjv E (a0,a1,a2)).T k =
  bf (decide (0<=a0/\a0 < (a1.v.v.hits.len:Int))) (k ((a1.v.v.hits.get a0.toNat).af == a2.v)):=bH.trans (by kernel_rfl)
end
theorem zIq [aJ] (E:ZV):Ok ax 190 (ae.un (zjv E)):=aY (aP ay.nil (ak (by kernel_rfl)))
structure ZW where
  N:Nat
abbrev zIr (E:ZW):aX:=dh Tabs.nil []
def zIs:bW:=aU ax 191 [] {}
def zjw (E:ZW):aS->ae (Int):=ae.ty (aF ax E.N (zIr E) zIs 191)
section
variable (E:ZW){A:Type}(k:Int->Option A)
theorem zIt (a0:aS):(zjw E (a0)).T k =
  cond (decide (a0.Num < 0))
  (bf (decide (a0.cO ≠ 0)) (k (aO (0 - (aO ((aO ((aO ((aO (0 - a0.Num))+a0.cO)) - 1)).tdiv a0.cO))))))
  (bf (decide (a0.cO ≠ 0)) (k (aO (a0.Num.tdiv a0.cO)))):=bH.trans (by kernel_rfl)
end
theorem zIu [aJ] (E:ZW):Ok ax 191 (ae.un (zjw E)):=aY (aP ay.nil (ak (by kernel_rfl)))
structure ZX where
  N:Nat
  Jq:aS->ae (Int)
abbrev zIv (E:ZX):aX:=dh (Tabs.nil.addF 191 (ae.un E.Jq)) []
def zIw:bW:=aU ax 192 [] {}
def zjx (E:ZX):aS->ae (Int):=ae.ty (aF ax E.N (zIv E) zIw 192)
section
variable (E:ZX){A:Type}(k:Int->Option A)
theorem zIx (a0:aS):(zjx E (a0)).T k =
  (E.Jq (⟨(aO (0 - a0.Num)),a0.cO⟩:aS)).T λ r1 =>
  k (aO (0 - r1)):=bH.trans (by kernel_rfl)
end
theorem zIy [aJ] (E:ZX) (UT:Ok ax 191 (ae.un E.Jq)):Ok ax 192 (ae.un (zjx E)):=aY (aP (ay.nil.addF UT) (ak (by kernel_rfl)))
structure Va where
  N:Nat
abbrev zx7 (E:Va):aX:=dh Tabs.nil []
def zx8:bW:=aU ax 193 [] {}
def zjy (E:Va):(Sl aC)->ae (Int×Int×Bool):=ae.ty (aF ax E.N (zx7 E) zx8 193)
section
variable (E:Va){A:Type}(k:(Int×Int×Bool)->Option A)
def Nq (E:Va) (n:Nat) (a0:(Sl aC)) (v5:Int) (v6:Int) (v7:Int){A:Type}(k:(Int×Int×Bool)->Option A):Option A :=
  iG ax (zx7 E) E.N zx8 193 [1,1,0,1,0] [.n n] (iH k)
    ⟨[(0,eP a0),(5,.int v5),(6,.int v6),(7,.int v7)],[],[]⟩
theorem zIz (a0:(Sl aC)):(zjy E (a0)).T k =
  bf (decide ((0:Int)<=0/\0 < (a0.len:Int))) (bf (decide ((0:Int)<=0/\0 < (a0.len:Int))) (Nq E E.N a0 (a0.get 0).Low (a0.get 0).High 1 k)):=bH.trans (by kernel_rfl)
theorem zem (n0:Nat) (a0:(Sl aC)) (v5:Int) (v6:Int) (v7:Int):Nq E (n0+1) a0 v5 v6 v7 k =
  cond (decide (v7 < (a0.len:Int)))
  (bf (decide (0<=v7/\v7 < (a0.len:Int))) (bf (decide (0<=v7/\v7 < (a0.len:Int))) (Nq E n0 a0 (if (a0.get v7.toNat).Low > v5 then (a0.get v7.toNat).Low else v5) (if (a0.get v7.toNat).High < v6 then (a0.get v7.toNat).High else v6) (aO (v7+1)) k)))
  (k (v5,v6,decide (v5<=v6))):=by kernel_rfl
end
theorem zIA [aJ] (E:Va):Ok ax 193 (ae.un (zjy E)):=aY (aP ay.nil (ak (by kernel_rfl)))
structure Ji where
  N:Nat
  zlq:(Sl aC)->ae ((Sl Line))
  c57:Line×(Sl aC)->ae ((Sl Int))
  c226:Line×Line×(Sl aC)->ae (Bool)
abbrev zen (E:Ji):aX:=dh (((Tabs.nil.addF 225 (ae.un E.zlq)).addF 57 (ae.un E.c57)).addF 226 (ae.un E.c226)) []
def zeo:bW:=aU ax 194 [] { ks:=[(0,1,⟨[],[(3,5000,114)],[],[],[],[],[]⟩),(1,4,⟨[],[],[],[],[],[3],[]⟩)],cut:=[10,11] }
def zjz (E:Ji):(Sl aC)->ae ((Sl Line)):=ae.ty (aF ax E.N (zen E) zeo 194)
section
variable (E:Ji){A:Type}(k:(Sl Line)->Option A)
def l7 (E:Ji) (n:Nat) (a0:(Sl aC)) (v3:(Sl Line)) (v4:(Sl Line)) (v5:Int){A:Type}(k:(Sl Line)->Option A):Option A :=
  iG ax (zen E) E.N zeo 194 [1,1,1,0,1,0] [.n n] (iH k)
    ⟨[(0,eP a0),(3,eP v3),(4,eP v4),(5,.int v5)],[],[]⟩
def vg (E:Ji) (n0:Nat) (n:Nat) (a0:(Sl aC)) (v3:(Sl Line)) (v4:(Sl Line)) (v5:Int) (v6:Int){A:Type}(k:(Sl Line)->Option A):Option A :=
  iG ax (zen E) E.N zeo 194 [1,1,1,0,1,0,0,1,0,0,1,1,0,0] [.n n0,.n n] (iH k)
    ⟨[(0,eP a0),(3,eP v3),(4,eP v4),(5,.int v5),(6,.int v6)],[],[]⟩
def sK (E:Ji) (n0:Nat) (a0:(Sl aC)) (v3:(Sl Line)) (v4:(Sl Line)) (v5:Int) (v6:Int){A:Type}(k:(Sl Line)->Option A):Option A :=
  iG ax (zen E) E.N zeo 194 [1,1,1,0,1,0,0,1,0,0,1,1,1] [.n n0] (iH k)
    ⟨[(0,eP a0),(3,eP v3),(4,eP v4),(5,.int v5),(6,.int v6)],[],[]⟩
def GR (E:Ji) (n0:Nat) (a0:(Sl aC)) (v3:(Sl Line)) (v4:(Sl Line)) (v5:Int) (v6:Int){A:Type}(k:(Sl Line)->Option A):Option A :=
  iG ax (zen E) E.N zeo 194 [1,1,1,0,1,0,0,1,0,0,1,1,1,1] [.n n0] (iH k)
    ⟨[(0,eP a0),(3,eP v3),(4,eP v4),(5,.int v5),(6,.int v6)],[],[]⟩
theorem zIB (a0:(Sl aC)):(zjz E (a0)).T k =
  (E.zlq a0).T λ r1 =>
  l7 E E.N a0 (⟨0,(λ _=>(⟨(⟨0,0⟩:aS),(⟨0,0⟩:aS)⟩:Line))⟩:(Sl Line)) r1 0 k:=bH.trans (by kernel_rfl)
theorem zep (n0:Nat) (a0:(Sl aC)) (v3:(Sl Line)) (v4:(Sl Line)) (v5:Int):l7 E (n0+1) a0 v3 v4 v5 k =
  cond (decide (v5 < (v4.len:Int)))
  (bf (decide (0<=v5/\v5 < (v4.len:Int))) ((E.c57 ((v4.get v5.toNat),a0)).T λ r1 =>
 cond (decide ((r1.len:Int) < (a0.len:Int)))
 (l7 E n0 a0 v3 v4 (aO (v5+1)) k)
 (vg E n0 E.N a0 v3 v4 v5 0 k)))
  (k v3):=by kernel_rfl
theorem zeq (n0:Nat) (n1:Nat) (a0:(Sl aC)) (v3:(Sl Line)) (v4:(Sl Line)) (v5:Int) (v6:Int):vg E n0 (n1+1) a0 v3 v4 v5 v6 k =
  cond (decide (v6 < (v3.len:Int)))
  (bf (decide (0<=v6/\v6 < (v3.len:Int))) (bf (decide (0<=v5/\v5 < (v4.len:Int))) ((E.c226 ((v3.get v6.toNat),(v4.get v5.toNat),a0)).T λ r1 =>
 cond r1
 (vg E n0 n1 a0 v3 v4 v5 (aO (v6+1)) k)
 (sK E n0 a0 v3 v4 v5 v6 k))))
  (sK E n0 a0 v3 v4 v5 v6 k):=by kernel_rfl
theorem zer (n0:Nat) (a0:(Sl aC)) (v3:(Sl Line)) (v4:(Sl Line)) (v5:Int) (v6:Int):sK E n0 a0 v3 v4 v5 v6 k =
  cond (decide (v6 < (v3.len:Int)))
  (bf (decide (0<=v6/\v6 < (v3.len:Int))) (bf (decide (0<=v5/\v5 < (v4.len:Int))) (cond (cond (cond ((v3.get v6.toNat).dM.Num == (v4.get v5.toNat).dM.Num) (cond ((v3.get v6.toNat).dM.cO == (v4.get v5.toNat).dM.cO) true false) false) (cond (cond ((v3.get v6.toNat).Start.Num == (v4.get v5.toNat).Start.Num) (cond ((v3.get v6.toNat).Start.cO == (v4.get v5.toNat).Start.cO) true false) false) true false) false)
 (l7 E n0 a0 v3 v4 (aO (v5+1)) k)
 (GR E n0 a0 v3 v4 v5 v6 k))))
  (GR E n0 a0 v3 v4 v5 v6 k):=by kernel_rfl
theorem zqa (n0:Nat) (a0:(Sl aC)) (v3:(Sl Line)) (v4:(Sl Line)) (v5:Int) (v6:Int):GR E n0 a0 v3 v4 v5 v6 k =
  bf (decide ((0:Int)<=0/\(0:Int)<=v6/\v6<=(v3.len:Int))) (bf (room ((v6:Int) - 0).toNat 32) (bf (decide (0<=v5/\v5 < (v4.len:Int))) (bf (room (((v6:Int) - 0).toNat+1) 32) (bf (decide ((0:Int)<=v6/\(v6:Int)<=(v3.len:Int)/\(v3.len:Int)<=(v3.len:Int))) (bf (room ((((v6:Int) - 0).toNat+1)+(((v3.len:Int):Int) - v6).toNat) 32) (l7 E n0 a0 (⟨((((v6:Int) - 0).toNat+1)+(((v3.len:Int):Int) - v6).toNat),(jd (((v6:Int) - 0).toNat+1) (jd ((v6:Int) - 0).toNat (Jf v3.get 0) (λ _=>(v4.get v5.toNat))) (Jf v3.get v6.toNat))⟩:(Sl Line)) v4 (aO (v5+1)) k)))))):=by kernel_rfl
end
theorem zIC [aJ] (E:Ji) (zqb:Ok ax 225 (ae.un E.zlq)) (h57:Ok ax 57 (ae.un E.c57)) (zqc:Ok ax 226 (ae.un E.c226)):Ok ax 194 (ae.un (zjz E)):=aY (aP (((ay.nil.addF zqb).addF h57).addF zqc) (ak (by kernel_rfl)))
structure Vb where
  N:Nat
  c87:(Sl bC)×(Sl Int)×Int->ae (Bool)
  c75:au×bC->ae ((Sl aC))
  c227:ai×Int×Int->ae (ai)
  c196:au×(Sl bC)×ai->ae (Bool)
  IW:(au×(Sl bC)×ai×Int)×Sl ai->ae (Sl ai)
abbrev zqd (E:Vb):aX:=dh (((((Tabs.nil.addO 195 (.grow 43 3 56 (ae.unW E.IW))).addF 87 (ae.un E.c87)).addF 75 (ae.un E.c75)).addF 227 (ae.un E.c227)).addF 196 (ae.un E.c196)) []
def zqe:bW:=aU ax 195 [] {}
def zjA (E:Vb):(au×(Sl bC)×ai×Int)×Sl ai->ae (Sl ai):=ae.tyW (aG ax E.N (zqd E) zqe 195 43 3 56)
section
variable (E:Vb){A:Type}(k:(Sl ai)->Option A)
def og (E:Vb) (n:Nat) (a0:au) (a1:(Sl bC)) (a2:ai) (v11:Int) (kw:Sl ai){A:Type}(k:(Sl ai)->Option A):Option A :=
  ptG ax (zqd E) E.N zqe 195 [1,0,1,0] [.n n] (F8 43 3 56) (zok k)
    ⟨[(1,eP a1),(4,.cl (.vec 4095)),(5,.cl (.ptr 5 0)),(7,.cl (.ptr 7 0)),(11,.int v11)],[(4095,eV 43 3 56 kw),(5,eB 24 a0),(7,eB 43 a2)],[]⟩
def sN (E:Vb) (n0:Nat) (n:Nat) (a0:au) (a1:(Sl bC)) (a2:ai) (v11:Int) (v13:(Sl aC)) (v14:Int) (kw:Sl ai){A:Type}(k:(Sl ai)->Option A):Option A :=
  ptG ax (zqd E) E.N zqe 195 [1,0,1,0,0,1,0,0,1,1,1,1,0] [.n n0,.n n] (F8 43 3 56) (zok k)
    ⟨[(1,eP a1),(4,.cl (.vec 4095)),(5,.cl (.ptr 5 0)),(7,.cl (.ptr 7 0)),(11,.int v11),(13,eP v13),(14,.int v14)],[(4095,eV 43 3 56 kw),(5,eB 24 a0),(7,eB 43 a2)],[]⟩
theorem e195 (a0:au) (a1:(Sl bC)) (a2:ai) (a3:Int) (a4:(Sl ai)):(zjA E ((a0,a1,a2,a3),a4)).T k =
  og E E.N a0 a1 a2 a3 a4 k:=zwU.trans (by kernel_rfl)
theorem zes (n0:Nat) (a0:au) (a1:(Sl bC)) (a2:ai) (v11:Int) (kw:Sl ai):og E (n0+1) a0 a1 a2 v11 kw k =
  cond (decide (v11 < (a1.len:Int)))
  (bf (decide (0<=v11/\v11 < (a1.len:Int))) (bf (decide (0<=(a1.get v11.toNat).af/\(a1.get v11.toNat).af < (a0.aj.len:Int))) (cond ((a0.aj.get (a1.get v11.toNat).af.toNat).View != a2.View)
 (og E n0 a0 a1 a2 (aO (v11+1)) kw k)
 ((E.c87 (a1,a2.Hits,(a1.get v11.toNat).af)).T λ r1 =>
 cond r1
 (og E n0 a0 a1 a2 (aO (v11+1)) kw k)
 ((E.c75 (a0,(a1.get v11.toNat))).T λ r2 =>
 sN E n0 E.N a0 a1 a2 v11 r2 0 kw k)))))
  (k kw):=by kernel_rfl
theorem Vd (n0:Nat) (n1:Nat) (a0:au) (a1:(Sl bC)) (a2:ai) (v11:Int) (v13:(Sl aC)) (v14:Int) (kw:Sl ai):sN E n0 (n1+1) a0 a1 a2 v11 v13 v14 kw k =
  cond (decide (v14 < (v13.len:Int)))
  (cond (decide ((kw.len:Int)<=2000))
 ((E.c227 (a2,v11,v14)).T λ r1 =>
 (E.c196 (a0,a1,r1)).T λ r2 =>
 cond r2
 (bf (room (kw.len+1) 56) ((E.IW ((a0,a1,r1,(aO (v11+1))),(⟨(kw.len+1),(jd kw.len kw.get (λ _=>r1))⟩:(Sl ai)))).T λ r3 =>
 sN E n0 n1 a0 a1 a2 v11 v13 (aO (v14+1)) r3 k))
 (sN E n0 n1 a0 a1 a2 v11 v13 (aO (v14+1)) kw k))
 (og E n0 a0 a1 a2 (aO (v11+1)) kw k))
  (og E n0 a0 a1 a2 (aO (v11+1)) kw k):=by kernel_rfl
end
theorem zID [aJ] (E:Vb) (h87:Ok ax 87 (ae.un E.c87)) (h75:Ok ax 75 (ae.un E.c75)) (zqf:Ok ax 227 (ae.un E.c227)) (U1:Ok ax 196 (ae.un E.c196)) (zp1:dX ax 195 (.grow 43 3 56 (ae.unW E.IW))):dX ax 195 (.grow 43 3 56 (ae.unW (zjA E))):=zoj (zoi (((((ay.nil.addO zp1).addF h87).addF h75).addF zqf).addF U1) (ak (by kernel_rfl)))
structure ZY where
  N:Nat
  c65:au×(Sl bC)×ai->ae ((Sl aC))
  c145:(Sl aC)->ae (Bool)
  c90:au×(Sl bC)×(Sl Int)->ae (Bool)
abbrev zIE (E:ZY):aX:=dh (((Tabs.nil.addF 65 (ae.un E.c65)).addF 145 (ae.un E.c145)).addF 90 (ae.un E.c90)) []
def zIF:bW:=aU ax 196 [] {}
def zjB (E:ZY):au×(Sl bC)×ai->ae (Bool):=ae.ty (aF ax E.N (zIE E) zIF 196)
section
variable (E:ZY){A:Type}(k:Bool->Option A)
theorem zIG (a0:au) (a1:(Sl bC)) (a2:ai):(zjB E (a0,a1,a2)).T k =
  (E.c65 (a0,a1,a2)).T λ r1 =>
  (E.c145 r1).T λ r2 =>
  cond r2
  ((E.c90 (a0,a1,a2.Hits)).T λ r3 =>
 k r3)
  (k false):=bH.trans (by kernel_rfl)
end
theorem zIH [aJ] (E:ZY) (h65:Ok ax 65 (ae.un E.c65)) (zqg:Ok ax 145 (ae.un E.c145)) (h90:Ok ax 90 (ae.un E.c90)):Ok ax 196 (ae.un (zjB E)):=aY (aP (((ay.nil.addF h65).addF zqg).addF h90) (ak (by kernel_rfl)))
structure ZZ where
  N:Nat
  lC:Int×Int->ae (aS)
abbrev zIJ (E:ZZ):aX:=dh (Tabs.nil.addF 172 (ae.un E.lC)) []
def zIK:bW:=aU ax 198 [] {}
def zjC (E:ZZ):straight->ae (Line):=ae.ty (aF ax E.N (zIJ E) zIK 198)
section
variable (E:ZZ){A:Type}(k:Line->Option A)
theorem zIL (a0:straight):(zjC E (a0)).T k =
  (E.lC (a0.bK,a0.den)).T λ r1 =>
  (E.lC (a0.start,a0.den)).T λ r2 =>
  k (⟨r1,r2⟩:Line):=bH.trans (by kernel_rfl)
end
theorem zIM [aJ] (E:ZZ) (sH:Ok ax 172 (ae.un E.lC)):Ok ax 198 (ae.un (zjC E)):=aY (aP (ay.nil.addF sH) (ak (by kernel_rfl)))
structure Z4 where
  N:Nat
  c206:(Sl aC)×((dN 207 Unit (Pt list)) ⊕ (dN 230 Unit (Pt straight)) ⊕ (dN 257 Unit (Pt straight)))->ae (Bool)
abbrev zIN (E:Z4):aX:=dh (Tabs.nil.addF 206 (ae.un E.c206)) []
def zIO:bW:=aU ax 199 [] {}
def zjD (E:Z4):set×straight->ae (Bool):=ae.ty (aF ax E.N (zIN E) zIO 199)
section
variable (E:Z4){A:Type}(k:Bool->Option A)
theorem e199 (a0:set) (a1:straight):(zjD E (a0,a1)).T k =
  (E.c206 (a0.list.bI,(Sum.inr (Sum.inl (⟨(),(⟨a1⟩:(Pt straight))⟩:(dN 230 Unit (Pt straight))))))).T λ r1 =>
  k (!r1):=bH.trans (by kernel_rfl)
end
theorem zIP [aJ] (E:Z4) (GI:Ok ax 206 (ae.un E.c206)):Ok ax 199 (ae.un (zjD E)):=aY (aP (ay.nil.addF GI) (ak (by kernel_rfl)))
structure Ve where
  N:Nat
abbrev zx9 (E:Ve):aX:=dh Tabs.nil []
def zya:bW:=aU ax 200 [] {}
def zjE (E:Ve):list->ae (bZ):=ae.ty (aF ax E.N (zx9 E) zya 200)
section
variable (E:Ve){A:Type}(k:bZ->Option A)
def Nr (E:Ve) (n:Nat) (a0:list) (v20:Int) (x3:bZ){A:Type}(k:bZ->Option A):Option A :=
  iG ax (zx9 E) E.N zya 200 [1,1,0,1,0] [.n n] (iH k)
    ⟨[(2,.cl (.ptr 2 0)),(3,.cl (.ptr 3 0)),(18,eP a0.bI),(19,.int (a0.bI.len:Int)),(20,.int v20)],[(2,.box 105 [.p (.int .i64 0),.p (.int .i64 0)]),(3,eB 105 x3)],[]⟩
theorem zIQ (a0:list):(zjE E (a0)).T k =
  bf (decide ((0:Int)<=0/\0 < (a0.bI.len:Int))) (bf (decide ((0:Int)<=0/\0 < (a0.bI.len:Int))) (Nr E E.N a0 0 (⟨(a0.bI.get 0).Low,(a0.bI.get 0).High⟩:bZ) k)):=bH.trans (by kernel_rfl)
theorem zet (n0:Nat) (a0:list) (v20:Int) (x3:bZ):Nr E (n0+1) a0 v20 x3 k =
  cond (decide (v20 < (a0.bI.len:Int)))
  (bf (decide (0<=v20/\v20 < (a0.bI.len:Int))) (Nr E n0 a0 (aO (v20+1)) (⟨(if (a0.bI.get v20.toNat).Low > x3.Low then (a0.bI.get v20.toNat).Low else x3.Low),(if (a0.bI.get v20.toNat).High < x3.High then (a0.bI.get v20.toNat).High else x3.High)⟩:bZ) k))
  (k x3):=by kernel_rfl
end
theorem zIR [aJ] (E:Ve):Ok ax 200 (ae.un (zjE E)):=aY (aP ay.nil (ak (by kernel_rfl)))
structure Z5 where
  N:Nat
  c203:straight×Int->ae (aS)
abbrev zIS (E:Z5):aX:=dh (Tabs.nil.addF 203 (ae.un E.c203)) []
def zIT:bW:=aU ax 202 [] {}
def zjF (E:Z5):straight×(Pt Int)->ae (aS):=ae.ty (aF ax E.N (zIS E) zIT 202)
section
variable (E:Z5){A:Type}(k:aS->Option A)
theorem zIU (a0:straight) (a1:(Pt Int)):(zjF E (a0,a1)).T k =
  (E.c203 (a0,a1.v)).T λ r1 =>
  k r1:=bH.trans (by kernel_rfl)
end
theorem zIV [aJ] (E:Z5) (zqh:Ok ax 203 (ae.un E.c203)):Ok ax 202 (ae.un (zjF E)):=aY (aP (ay.nil.addF zqh) (ak (by kernel_rfl)))
structure Z7 where
  N:Nat
abbrev zIW (E:Z7):aX:=dh Tabs.nil []
def zIX:bW:=aU ax 203 [] {}
def zjG (E:Z7):straight×Int->ae (aS):=ae.ty (aF ax E.N (zIW E) zIX 203)
section
variable (E:Z7){A:Type}(k:aS->Option A)
theorem e203 (a0:straight) (a1:Int):(zjG E (a0,a1)).T k =
  k (⟨(aO (a0.start+(aO (a0.bK * a1)))),a0.den⟩:aS):=bH.trans (by kernel_rfl)
end
theorem zIY [aJ] (E:Z7):Ok ax 203 (ae.un (zjG E)):=aY (aP ay.nil (ak (by kernel_rfl)))
structure QG where
  N:Nat
  zll:(Sl Int)×Int->ae (Int×Bool)
abbrev zyb (E:QG):aX:=dh (Tabs.nil.addF 205 (ae.un E.zll)) []
def zyc:bW:=aU ax 204 [0] { yl:=[9] }
def zyd (E:QG) (c:List PA):YO:=aI ax (zyb E) E.N zyc 204 c
def zqi (E:QG):(Pt placed)->ae (List (Int×bZ)):=ae.tyI λ c=>.opt (zyd E c)
section
variable (E:QG)
def Ba (E:QG) (n:Nat) (a1:(Pt placed)) (v3:Int) (v19:Int):YO :=
  ptY ax (zyb E) E.N zyc 204 [1,1,1,0] [n]
    ⟨[(0,.cl (.vec 4095)),(1,eP a1),(3,.int v3),(18,.int a1.v.af.bM),(19,.int v19)],[(4095,.gone)],[]⟩
theorem e204 (a1:(Pt placed)):zyd E (dw.enc ((a1):(Pt placed))) =
  cond (a1.v.af.Kind == 2)
  (Ba E E.N a1 (aO (a1.v.af.aZ.tdiv 2)) 0)
  (Ba E E.N a1 0 0):=by kernel_rfl
theorem zeu (n0:Nat) (a1:(Pt placed)) (v3:Int) (v19:Int):Ba E (n0+1) a1 v3 v19 =
  cond (decide (v19 < a1.v.af.bM))
  ((E.zll (a1.v.af.Dead,v19)).T λ r1 =>
 cond r1.2
 (Ba E n0 a1 v3 (aO (v19+1)))
 (yT (dw.enc ((v19,(⟨(aO ((aO (a1.v.af.First+(aO (v19 * a1.v.af.aZ)))) - v3)),(aO ((aO ((aO ((aO (a1.v.af.First+(aO (v19 * a1.v.af.aZ)))) - v3))+a1.v.af.aZ)) - 1))⟩:bZ)):Int×bZ)) (some [])
 (Ba E n0 a1 v3 (aO (v19+1)))))
  (some []):=by kernel_rfl
end
theorem zIZ (E:QG) (zqj:Ok ax 205 (ae.un E.zll)):qB ax 204 (ae.unI (zqi E)):=MF (F6 (ay.nil.addF zqj) (ak (by kernel_rfl)))
structure Vf where
  N:Nat
  c236:Int×Int->ae (Bool)
  zgi:Int->ae (Bool)
abbrev zye (E:Vf):aX:=dh ((Tabs.nil.addF 236 (ae.un E.c236)).addF 237 (ae.un E.zgi)) []
def zyf:bW:=aU ax 205 [] {}
def zjH (E:Vf):(Sl Int)×Int->ae (Int×Bool):=ae.ty (aF ax E.N (zye E) zyf 205)
section
variable (E:Vf){A:Type}(k:(Int×Bool)->Option A)
def vk (E:Vf) (n:Nat) (a0:(Sl Int)) (a1:Int) (v7:Int) (v8:Int){A:Type}(k:(Int×Bool)->Option A):Option A :=
  iG ax (zye E) E.N zyf 205 [1,1,1,0,0] [.n n] (iH k)
    ⟨[(0,eP a0),(1,.int a1),(6,.int (a0.len:Int)),(7,.int v7),(8,.int v8)],[],[]⟩
theorem zI0 (a0:(Sl Int)) (a1:Int):(zjH E (a0,a1)).T k =
  vk E E.N a0 a1 0 (a0.len:Int) k:=bH.trans (by kernel_rfl)
theorem Ns (n0:Nat) (a0:(Sl Int)) (a1:Int) (v7:Int) (v8:Int):vk E (n0+1) a0 a1 v7 v8 k =
  cond (decide (v7 < v8))
  (bf (decide (0<=(aO (CG .u64 (IntKind.u64.wrap (aO (v7+v8))) 1))/\(aO (CG .u64 (IntKind.u64.wrap (aO (v7+v8))) 1)) < (a0.len:Int))) ((E.c236 (a0.get (aO (CG .u64 (IntKind.u64.wrap (aO (v7+v8))) 1)).toNat,a1)).T λ r1 =>
 cond r1
 (vk E n0 a0 a1 (aO ((aO (CG .u64 (IntKind.u64.wrap (aO (v7+v8))) 1))+1)) v8 k)
 (vk E n0 a0 a1 v7 (aO (CG .u64 (IntKind.u64.wrap (aO (v7+v8))) 1)) k)))
  (cond (decide (v7 < (a0.len:Int)))
 (bf (decide (0<=v7/\v7 < (a0.len:Int))) (cond (a0.get v7.toNat == a1)
 (k (v7,true))
 (bf (decide (0<=v7/\v7 < (a0.len:Int))) ((E.zgi (a0.get v7.toNat)).T λ r2 =>
 cond r2
 ((E.zgi a1).T λ r3 =>
 k (v7,r3))
 (k (v7,false))))))
 (k (v7,false))):=by kernel_rfl
end
theorem zI1 [aJ] (E:Vf) (zqk:Ok ax 236 (ae.un E.c236)) (zql:Ok ax 237 (ae.un E.zgi)):Ok ax 205 (ae.un (zjH E)):=aY (aP ((ay.nil.addF zqk).addF zql) (ak (by kernel_rfl)))
structure qY where
  N:Nat
  zK:(Sl aC)×((dN 207 Unit (Pt list)) ⊕ (dN 230 Unit (Pt straight)) ⊕ (dN 257 Unit (Pt straight)))->ae (Int)
abbrev zev (E:qY):aX:=dh (Tabs.nil.addF 238 (ae.un E.zK)) []
def zew:bW:=aU ax 206 [] {}
def zh (E:qY):(Sl aC)×(dN 207 Unit (Pt list))->ae (Bool):=ae.ty (aF ax E.N (zev E) zew 206)
section
variable (E:qY){A:Type}(k:Bool->Option A)
theorem zex (a0:(Sl aC)) (a1:(dN 207 Unit (Pt list))):(zh E (a0,a1)).T k =
  (E.zK (a0,(Sum.inl a1))).T λ r1 =>
  k (decide (r1 >= 0)):=bH.trans (by kernel_rfl)
end
theorem zey [aJ] (E:qY) (GU:Ok ax 238 (ae.un E.zK)):Ok ax 206 (ae.un (zh E)):=aY (aP (ay.nil.addF GU) (ak (by kernel_rfl)))
structure qZ where
  N:Nat
  zK:(Sl aC)×((dN 207 Unit (Pt list)) ⊕ (dN 230 Unit (Pt straight)) ⊕ (dN 257 Unit (Pt straight)))->ae (Int)
abbrev zez (E:qZ):aX:=dh (Tabs.nil.addF 238 (ae.un E.zK)) []
def zeA:bW:=aU ax 206 [] {}
def zi (E:qZ):(Sl aC)×(dN 230 Unit (Pt straight))->ae (Bool):=ae.ty (aF ax E.N (zez E) zeA 206)
section
variable (E:qZ){A:Type}(k:Bool->Option A)
theorem zeB (a0:(Sl aC)) (a1:(dN 230 Unit (Pt straight))):(zi E (a0,a1)).T k =
  (E.zK (a0,(Sum.inr (Sum.inl a1)))).T λ r1 =>
  k (decide (r1 >= 0)):=bH.trans (by kernel_rfl)
end
theorem zeC [aJ] (E:qZ) (GU:Ok ax 238 (ae.un E.zK)):Ok ax 206 (ae.un (zi E)):=aY (aP (ay.nil.addF GU) (ak (by kernel_rfl)))
structure rq where
  N:Nat
  zK:(Sl aC)×((dN 207 Unit (Pt list)) ⊕ (dN 230 Unit (Pt straight)) ⊕ (dN 257 Unit (Pt straight)))->ae (Int)
abbrev zeD (E:rq):aX:=dh (Tabs.nil.addF 238 (ae.un E.zK)) []
def zeE:bW:=aU ax 206 [] {}
def zk (E:rq):(Sl aC)×(dN 257 Unit (Pt straight))->ae (Bool):=ae.ty (aF ax E.N (zeD E) zeE 206)
section
variable (E:rq){A:Type}(k:Bool->Option A)
theorem zeF (a0:(Sl aC)) (a1:(dN 257 Unit (Pt straight))):(zk E (a0,a1)).T k =
  (E.zK (a0,(Sum.inr (Sum.inr a1)))).T λ r1 =>
  k (decide (r1 >= 0)):=bH.trans (by kernel_rfl)
end
theorem zeG [aJ] (E:rq) (GU:Ok ax 238 (ae.un E.zK)):Ok ax 206 (ae.un (zk E)):=aY (aP (ay.nil.addF GU) (ak (by kernel_rfl)))
structure Z8 where
  N:Nat
abbrev zI2 (E:Z8):aX:=dh Tabs.nil []
def zI3:bW:=aU ax 207 [] {}
def zjI (E:Z8):aC×(Pt list)->ae (Bool):=ae.ty (aF ax E.N (zI2 E) zI3 207)
section
variable (E:Z8){A:Type}(k:Bool->Option A)
theorem e207 (a0:aC) (a1:(Pt list)):(zjI E (a0,a1)).T k =
  bf (decide ((0:Int)<=0/\0 < (a1.v.bI.len:Int))) (k (a0.Z != (a1.v.bI.get 0).Z)):=bH.trans (by kernel_rfl)
end
theorem zI4 [aJ] (E:Z8):Ok ax 207 (ae.un (zjI E)):=aY (aP ay.nil (ak (by kernel_rfl)))
structure Z9 where
  N:Nat
  IU:Int->ae (Bool)
abbrev zI5 (E:Z9):aX:=dh (Tabs.nil.addF 239 (ae.un E.IU)) []
def zI6:bW:=aU ax 208 [] {}
def zjJ (E:Z9):Int×Int->ae (Int):=ae.ty (aF ax E.N (zI5 E) zI6 208)
section
variable (E:Z9){A:Type}(k:Int->Option A)
theorem e208 (a0:Int) (a1:Int):(zjJ E (a0,a1)).T k =
  (E.IU a0).T λ r1 =>
  (E.IU a1).T λ r2 =>
  cond r1
  (cond r2
 (k 0)
 (k (-1)))
  (cond r2
 (k 1)
 (cond (decide (a0 < a1))
 (k (-1))
 (cond (decide (a0 > a1))
 (k 1)
 (k 0)))):=bH.trans (by kernel_rfl)
end
theorem zI7 [aJ] (E:Z9) (QH:Ok ax 239 (ae.un E.IU)):Ok ax 208 (ae.un (zjJ E)):=aY (aP (ay.nil.addF QH) (ak (by kernel_rfl)))
structure Vg where
  N:Nat
abbrev zyg (E:Vg):aX:=dh Tabs.nil []
def zyh:bW:=aU ax 209 [] {}
def zjK (E:Vg):Int×Int->ae (Int):=ae.ty (aF ax E.N (zyg E) zyh 209)
section
variable (E:Vg){A:Type}(k:Int->Option A)
def Nu (E:Vg) (n:Nat) (v0:Int) (v1:Int){A:Type}(k:Int->Option A):Option A :=
  iG ax (zyg E) E.N zyh 209 [1,0,0] [.n n] (iH k)
    ⟨[(0,.int v0),(1,.int v1)],[],[]⟩
theorem e209 (a0:Int) (a1:Int):(zjK E (a0,a1)).T k =
  Nu E E.N a0 a1 k:=bH.trans (by kernel_rfl)
theorem zqm (n0:Nat) (v0:Int) (v1:Int):Nu E (n0+1) v0 v1 k =
  cond (decide (v1 > 0))
  (bf (decide (v1 ≠ 0)) (Nu E n0 v1 (v0.tmod v1) k))
  (k v0):=by kernel_rfl
end
theorem zI8 [aJ] (E:Vg):Ok ax 209 (ae.un (zjK E)):=aY (aP ay.nil (ak (by kernel_rfl)))
structure oh where
  N:Nat
  zgf:Int×(Pt (Pt aW))×(Pt Int)->ae (Bool)
abbrev QI (E:oh):aX:=dh (Tabs.nil.addF 180 (ae.un E.zgf)) []
def QJ:bW:=aU ax 210 [] {}
def zl (E:oh):(Sl Int)×(dN 180 Unit ((Pt (Pt aW))×(Pt Int)))->ae (Int):=ae.ty (aF ax E.N (QI E) QJ 210)
section
variable (E:oh){A:Type}(k:Int->Option A)
def sO (E:oh) (n:Nat) (a0:(Sl Int)) (a1:(dN 180 Unit ((Pt (Pt aW))×(Pt Int)))) (v8:Int){A:Type}(k:Int->Option A):Option A :=
  iG ax (QI E) E.N QJ 210 [1,0,1,0] [.n n] (iH k)
    ⟨[(0,eP a0),(1,eP a1),(7,.int (a0.len:Int)),(8,.int v8)],[],[]⟩
theorem zeH (a0:(Sl Int)) (a1:(dN 180 Unit ((Pt (Pt aW))×(Pt Int)))):(zl E (a0,a1)).T k =
  sO E E.N a0 a1 0 k:=bH.trans (by kernel_rfl)
theorem GV (n0:Nat) (a0:(Sl Int)) (a1:(dN 180 Unit ((Pt (Pt aW))×(Pt Int)))) (v8:Int):sO E (n0+1) a0 a1 v8 k =
  cond (decide (v8 < (a0.len:Int)))
  (bf (decide (0<=v8/\v8 < (a0.len:Int))) ((E.zgf (a0.get v8.toNat,a1.v.1,a1.v.2)).T λ r1 =>
 cond r1
 (k v8)
 (sO E n0 a0 a1 (aO (v8+1)) k)))
  (k (-1)):=by kernel_rfl
end
theorem zeI [aJ] (E:oh) (zqn:Ok ax 180 (ae.un E.zgf)):Ok ax 210 (ae.un (zl E)):=aY (aP (ay.nil.addF zqn) (ak (by kernel_rfl)))
structure oq where
  N:Nat
  zgh:Int×(Pt (Pt aW))×(Pt Int)->ae (Bool)
abbrev QK (E:oq):aX:=dh (Tabs.nil.addF 190 (ae.un E.zgh)) []
def QL:bW:=aU ax 210 [] {}
def zn (E:oq):(Sl Int)×(dN 190 Unit ((Pt (Pt aW))×(Pt Int)))->ae (Int):=ae.ty (aF ax E.N (QK E) QL 210)
section
variable (E:oq){A:Type}(k:Int->Option A)
def sQ (E:oq) (n:Nat) (a0:(Sl Int)) (a1:(dN 190 Unit ((Pt (Pt aW))×(Pt Int)))) (v8:Int){A:Type}(k:Int->Option A):Option A :=
  iG ax (QK E) E.N QL 210 [1,0,1,0] [.n n] (iH k)
    ⟨[(0,eP a0),(1,eP a1),(7,.int (a0.len:Int)),(8,.int v8)],[],[]⟩
theorem zeJ (a0:(Sl Int)) (a1:(dN 190 Unit ((Pt (Pt aW))×(Pt Int)))):(zn E (a0,a1)).T k =
  sQ E E.N a0 a1 0 k:=bH.trans (by kernel_rfl)
theorem GX (n0:Nat) (a0:(Sl Int)) (a1:(dN 190 Unit ((Pt (Pt aW))×(Pt Int)))) (v8:Int):sQ E (n0+1) a0 a1 v8 k =
  cond (decide (v8 < (a0.len:Int)))
  (bf (decide (0<=v8/\v8 < (a0.len:Int))) ((E.zgh (a0.get v8.toNat,a1.v.1,a1.v.2)).T λ r1 =>
 cond r1
 (k v8)
 (sQ E n0 a0 a1 (aO (v8+1)) k)))
  (k (-1)):=by kernel_rfl
end
theorem zeK [aJ] (E:oq) (zqo:Ok ax 190 (ae.un E.zgh)):Ok ax 210 (ae.un (zn E)):=aY (aP (ay.nil.addF zqo) (ak (by kernel_rfl)))
structure zaa where
  N:Nat
  zlt:(Sl aC)->ae ((Sl Line)×Int)
abbrev zI9 (E:zaa):aX:=dh (Tabs.nil.addF 240 (ae.un E.zlt)) []
def zJa:bW:=aU ax 211 [] {}
def zjL (E:zaa):(Sl aC)->ae (Line×Int):=ae.ty (aF ax E.N (zI9 E) zJa 211)
section
variable (E:zaa){A:Type}(k:(Line×Int)->Option A)
theorem e211 (a0:(Sl aC)):(zjL E (a0)).T k =
  (E.zlt a0).T λ r1 =>
  cond (r1.2 != 0)
  (k ((⟨(⟨0,0⟩:aS),(⟨0,0⟩:aS)⟩:Line),r1.2))
  (bf (decide ((0:Int)<=0/\0 < (r1.1.len:Int))) (k ((r1.1.get 0),0))):=bH.trans (by kernel_rfl)
end
theorem zJb [aJ] (E:zaa) (zqp:Ok ax 240 (ae.un E.zlt)):Ok ax 211 (ae.un (zjL E)):=aY (aP (ay.nil.addF zqp) (ak (by kernel_rfl)))
structure zab where
  N:Nat
abbrev zJc (E:zab):aX:=dh Tabs.nil []
def zJd:bW:=aU ax 222 [] {}
def zjM (E:zab):Int->ae (Bool):=ae.ty (aF ax E.N (zJc E) zJd 222)
section
variable (E:zab){A:Type}(k:Bool->Option A)
theorem e222 (a0:Int):(zjM E (a0)).T k =
  k (a0 != a0):=bH.trans (by kernel_rfl)
end
theorem zJe [aJ] (E:zab):Ok ax 222 (ae.un (zjM E)):=aY (aP ay.nil (ak (by kernel_rfl)))
structure Nv where
  N:Nat
  zgj:aC×Int->ae (Int)
  c55:Int×Int×Int×Int->ae (Line)
abbrev zjN (E:Nv):aX:=dh ((Tabs.nil.addF 247 (ae.un E.zgj)).addF 55 (ae.un E.c55)) []
def zjO:bW:=aU ax 225 [] { ks:=[(1,3,⟨[],[(3,65,114)],[],[],[],[],[]⟩),(1,6,⟨[],[(3,65,114)],[],[],[],[],[]⟩),(1,9,⟨[],[(3,65,114)],[],[],[],[],[]⟩)] }
def zjP (E:Nv):(Sl aC)->ae ((Sl Line)):=ae.ty (aF ax E.N (zjN E) zjO 225)
section
variable (E:Nv){A:Type}(k:(Sl Line)->Option A)
def GY (E:Nv) (n:Nat) (a0:(Sl aC)) (v4:Int) (Jj:Sl Line){A:Type}(k:(Sl Line)->Option A):Option A :=
  iG ax (zjN E) E.N zjO 225 [1,1,0,1,0] [.n n] (iH k)
    ⟨[(0,eP a0),(3,.cl (.vec 65)),(4,.int v4)],[(65,eV 114 4 32 Jj)],[]⟩
def Bd (E:Nv) (n0:Nat) (n:Nat) (a0:(Sl aC)) (v4:Int) (v5:Int) (Jj:Sl Line){A:Type}(k:(Sl Line)->Option A):Option A :=
  iG ax (zjN E) E.N zjO 225 [1,1,0,1,0,0,1,0,0,1,0] [.n n0,.n n] (iH k)
    ⟨[(0,eP a0),(3,.cl (.vec 65)),(4,.int v4),(5,.int v5)],[(65,eV 114 4 32 Jj)],[]⟩
def Be (E:Nv) (n0:Nat) (n1:Nat) (n:Nat) (a0:(Sl aC)) (v4:Int) (v5:Int) (v6:Int) (Jj:Sl Line){A:Type}(k:(Sl Line)->Option A):Option A :=
  iG ax (zjN E) E.N zjO 225 [1,1,0,1,0,0,1,0,0,1,0,0,1,0,0,1,0] [.n n0,.n n1,.n n] (iH k)
    ⟨[(0,eP a0),(3,.cl (.vec 65)),(4,.int v4),(5,.int v5),(6,.int v6)],[(65,eV 114 4 32 Jj)],[]⟩
theorem zJf (a0:(Sl aC)):(zjP E (a0)).T k =
  GY E E.N a0 0 (⟨0,(λ _=>(⟨(⟨0,0⟩:aS),(⟨0,0⟩:aS)⟩:Line))⟩:(Sl Line)) k:=bH.trans (by kernel_rfl)
theorem zeL (n0:Nat) (a0:(Sl aC)) (v4:Int) (Jj:Sl Line):GY E (n0+1) a0 v4 Jj k =
  cond (decide (v4 < (a0.len:Int)))
  (Bd E n0 E.N a0 v4 (aO (v4+1)) Jj k)
  (k Jj):=by kernel_rfl
theorem zeM (n0:Nat) (n1:Nat) (a0:(Sl aC)) (v4:Int) (v5:Int) (Jj:Sl Line):Bd E n0 (n1+1) a0 v4 v5 Jj k =
  cond (decide (v5 < (a0.len:Int)))
  (Be E n0 n1 E.N a0 v4 v5 0 Jj k)
  (GY E n0 a0 (aO (v4+1)) Jj k):=by kernel_rfl
theorem Vh (n0:Nat) (n1:Nat) (n2:Nat) (a0:(Sl aC)) (v4:Int) (v5:Int) (v6:Int) (Jj:Sl Line):Be E n0 n1 (n2+1) a0 v4 v5 v6 Jj k =
  cond (decide (v6 < 4))
  (bf (decide (0<=v4/\v4 < (a0.len:Int))) (bf (decide (0<=v5/\v5 < (a0.len:Int))) (cond ((a0.get v4.toNat).Z != (a0.get v5.toNat).Z)
 (bf (decide (0<=v4/\v4 < (a0.len:Int))) (bf (decide (0<=v4/\v4 < (a0.len:Int))) ((E.zgj ((a0.get v4.toNat),(aO (v6.tdiv 2)))).T λ r1 =>
 bf (decide (0<=v5/\v5 < (a0.len:Int))) (bf (decide (0<=v5/\v5 < (a0.len:Int))) ((E.zgj ((a0.get v5.toNat),(v6.tmod 2))).T λ r2 =>
 (E.c55 ((a0.get v4.toNat).Z,r1,(a0.get v5.toNat).Z,r2)).T λ r3 =>
 bf (room (Jj.len+1) 32) (Be E n0 n1 n2 a0 v4 v5 (aO (v6+1)) (⟨(Jj.len+1),(jd Jj.len Jj.get (λ _=>r3))⟩:(Sl Line)) k))))))
 (Bd E n0 n1 a0 v4 (aO (v5+1)) Jj k))))
  (Bd E n0 n1 a0 v4 (aO (v5+1)) Jj k):=by kernel_rfl
end
theorem zJg [aJ] (E:Nv) (zjQ:Ok ax 247 (ae.un E.zgj)) (h55:Ok ax 55 (ae.un E.c55)):Ok ax 225 (ae.un (zjP E)):=aY (aP ((ay.nil.addF zjQ).addF h55) (ak (by kernel_rfl)))
structure zac where
  N:Nat
  VH:Line×(Sl aC)->ae (Bool)
  c56:aS×aS->ae (Bool)
abbrev zJi (E:zac):aX:=dh ((Tabs.nil.addF 248 (ae.un E.VH)).addF 56 (ae.un E.c56)) []
def zJj:bW:=aU ax 226 [] {}
def zjR (E:zac):Line×Line×(Sl aC)->ae (Bool):=ae.ty (aF ax E.N (zJi E) zJj 226)
section
variable (E:zac){A:Type}(k:Bool->Option A)
theorem e226 (a0:Line) (a1:Line) (a2:(Sl aC)):(zjR E (a0,a1,a2)).T k =
  (E.VH (a0,a2)).T λ r1 =>
  (E.VH (a1,a2)).T λ r2 =>
  cond (r1 != r2)
  ((E.VH (a0,a2)).T λ r3 =>
 k r3)
  ((E.VH (a0,a2)).T λ r4 =>
 cond r4
 ((E.c56 (a0.dM,a1.dM)).T λ r5 =>
 k r5)
 ((E.c56 (a1.dM,a0.dM)).T λ r6 =>
 k r6)):=bH.trans (by kernel_rfl)
end
theorem zJk [aJ] (E:zac) (zjS:Ok ax 248 (ae.un E.VH)) (h56:Ok ax 56 (ae.un E.c56)):Ok ax 226 (ae.un (zjR E)):=aY (aP ((ay.nil.addF zjS).addF h56) (ak (by kernel_rfl)))
structure zad where
  N:Nat
abbrev zJl (E:zad):aX:=dh Tabs.nil []
def zJm:bW:=aU ax 227 [] {}
def zjT (E:zad):ai×Int×Int->ae (ai):=ae.ty (aF ax E.N (zJl E) zJm 227)
section
variable (E:zad){A:Type}(k:ai->Option A)
theorem e227 (a0:ai) (a1:Int) (a2:Int):(zjT E (a0,a1,a2)).T k =
  bf (room a0.Hits.len 8) (bf (room (a0.Hits.len+1) 8) (bf (room a0.bz.len 8) (bf (room (a0.bz.len+1) 8) (k (⟨a0.View,(⟨(a0.Hits.len+1),(jd a0.Hits.len a0.Hits.get (λ _=>a1))⟩:(Sl Int)),(⟨(a0.bz.len+1),(jd a0.bz.len a0.bz.get (λ _=>a2))⟩:(Sl Int))⟩:ai))))):=bH.trans (by kernel_rfl)
end
theorem zJn [aJ] (E:zad):Ok ax 227 (ae.un (zjT E)):=aY (aP ay.nil (ak (by kernel_rfl)))
structure Nw where
  N:Nat
  c229:Int×Int×Int×Int->ae (straight)
abbrev zqq (E:Nw):aX:=dh (Tabs.nil.addF 229 (ae.un E.c229)) []
def zqr:bW:=aU ax 228 [0] { ks:=[(1,4,⟨[],[],[],[],[4],[],[]⟩)],unr:=[(8,3),(11,3)],yl:=[13] }
def zyi (E:Nw) (c:List PA):YO:=aI ax (zqq E) E.N zqr 228 c
def zqs (E:Nw):(Pt list)->ae (List (straight)):=ae.tyI λ c=>.opt (zyi E c)
section
variable (E:Nw)
def GZ (E:Nw) (n:Nat) (a1:(Pt list)) (v14:Int):YO :=
  ptY ax (zqq E) E.N zqr 228 [1,0] [n]
    ⟨[(0,.cl (.vec 4095)),(1,eP a1),(12,eP a1.v.bI),(13,.int (a1.v.bI.len:Int)),(14,.int v14)],[(4095,.gone)],[]⟩
def G5 (E:Nw) (n0:Nat) (n:Nat) (a1:(Pt list)) (v14:Int) (v23:(Sl aC)) (v24:Int) (v25:Int) (x4:aC):YO :=
  ptY ax (zqq E) E.N zqr 228 [1,0,0,1,1,0,0,1,1,0] [n0,n]
    ⟨[(0,.cl (.vec 4095)),(1,eP a1),(4,.cl (.ptr 4 0)),(12,eP a1.v.bI),(13,.int (a1.v.bI.len:Int)),(14,.int v14),(23,eP v23),(24,.int v24),(25,.int v25)],[(4095,.gone),(4,.fbox (bG.enc x4))],[]⟩
theorem e228 (a1:(Pt list)):zyi E (dw.enc ((a1):(Pt list))) =
  GZ E E.N a1 0:=by kernel_rfl
theorem zeN (n0:Nat) (a1:(Pt list)) (v14:Int):GZ E (n0+1) a1 v14 =
  cond (decide (v14 < (a1.v.bI.len:Int)))
  (bf (decide (0<=v14/\v14 < (a1.v.bI.len:Int))) (bf (decide ((0:Int)<=(aO (v14+1))/\((aO (v14+1)):Int)<=(a1.v.bI.len:Int)/\(a1.v.bI.len:Int)<=(a1.v.bI.len:Int))) (G5 E n0 E.N a1 v14 (⟨(((a1.v.bI.len:Int):Int) - (aO (v14+1))).toNat,(Jf a1.v.bI.get (aO (v14+1)).toNat)⟩:(Sl aC)) ((((a1.v.bI.len:Int):Int) - (aO (v14+1))).toNat:Int) 0 (a1.v.bI.get v14.toNat))))
  (some []):=by kernel_rfl
theorem zeO (n0:Nat) (n1:Nat) (a1:(Pt list)) (v14:Int) (v23:(Sl aC)) (v24:Int) (v25:Int) (x4:aC):G5 E n0 (n1+1) a1 v14 v23 v24 v25 x4 =
  cond (decide (v25 < v24))
  (bf (decide (0<=v25/\v25 < (v23.len:Int))) (cond (x4.Z == (v23.get v25.toNat).Z)
 (G5 E n0 n1 a1 v14 v23 v24 (aO (v25+1)) x4)
 ((E.c229 (x4.Z,x4.Low,(v23.get v25.toNat).Z,(v23.get v25.toNat).Low)).T λ r1 =>
 yT (dw.enc (r1:straight)) (some [])
 ((E.c229 (x4.Z,x4.Low,(v23.get v25.toNat).Z,(v23.get v25.toNat).High)).T λ r2 =>
 yT (dw.enc (r2:straight)) (some [])
 ((E.c229 (x4.Z,x4.High,(v23.get v25.toNat).Z,(v23.get v25.toNat).Low)).T λ r3 =>
 yT (dw.enc (r3:straight)) (some [])
 ((E.c229 (x4.Z,x4.High,(v23.get v25.toNat).Z,(v23.get v25.toNat).High)).T λ r4 =>
 yT (dw.enc (r4:straight)) (some [])
 (G5 E n0 n1 a1 v14 v23 v24 (aO (v25+1)) x4)))))))
  (GZ E n0 a1 (aO (v14+1))):=by kernel_rfl
end
theorem zJo (E:Nw) (zae:Ok ax 229 (ae.un E.c229)):qB ax 228 (ae.unI (zqs E)):=MF (F6 (ay.nil.addF zae) (ak (by kernel_rfl)))
structure zaf where
  N:Nat
abbrev zJp (E:zaf):aX:=dh Tabs.nil []
def zJq:bW:=aU ax 229 [] {}
def zjU (E:zaf):Int×Int×Int×Int->ae (straight):=ae.ty (aF ax E.N (zJp E) zJq 229)
section
variable (E:zaf){A:Type}(k:straight->Option A)
theorem e229 (a0:Int) (a1:Int) (a2:Int) (a3:Int):(zjU E (a0,a1,a2,a3)).T k =
  cond (decide (a0 > a2))
  (k (⟨(aO (a1 - a3)),(aO ((aO (a3 * a0)) - (aO (a1 * a2)))),(aO (a0 - a2))⟩:straight))
  (k (⟨(aO (a3 - a1)),(aO ((aO (a1 * a2)) - (aO (a3 * a0)))),(aO (a2 - a0))⟩:straight)):=bH.trans (by kernel_rfl)
end
theorem zJr [aJ] (E:zaf):Ok ax 229 (ae.un (zjU E)):=aY (aP ay.nil (ak (by kernel_rfl)))
structure zah where
  N:Nat
  zls:straight×aC->ae (Bool)
abbrev zJs (E:zah):aX:=dh (Tabs.nil.addF 231 (ae.un E.zls)) []
def zJt:bW:=aU ax 230 [] {}
def zjV (E:zah):aC×(Pt straight)->ae (Bool):=ae.ty (aF ax E.N (zJs E) zJt 230)
section
variable (E:zah){A:Type}(k:Bool->Option A)
theorem e230 (a0:aC) (a1:(Pt straight)):(zjV E (a0,a1)).T k =
  (E.zls (a1.v,a0)).T λ r1 =>
  k (!r1):=bH.trans (by kernel_rfl)
end
theorem zJu [aJ] (E:zah) (zqu:Ok ax 231 (ae.un E.zls)):Ok ax 230 (ae.un (zjV E)):=aY (aP (ay.nil.addF zqu) (ak (by kernel_rfl)))
structure zai where
  N:Nat
  c157:Int×Int×Int->ae (Bool)
abbrev zJv (E:zai):aX:=dh (Tabs.nil.addF 157 (ae.un E.c157)) []
def zJw:bW:=aU ax 231 [] {}
def zjW (E:zai):straight×aC->ae (Bool):=ae.ty (aF ax E.N (zJv E) zJw 231)
section
variable (E:zai){A:Type}(k:Bool->Option A)
theorem e231 (a0:straight) (a1:aC):(zjW E (a0,a1)).T k =
  (E.c157 ((aO (a0.start+(aO (a0.bK * a1.Z)))),(aO (a1.Low * a0.den)),(aO (a1.High * a0.den)))).T λ r1 =>
  k r1:=bH.trans (by kernel_rfl)
end
theorem zJx [aJ] (E:zai) (xG:Ok ax 157 (ae.un E.c157)):Ok ax 231 (ae.un (zjW E)):=aY (aP (ay.nil.addF xG) (ak (by kernel_rfl)))
structure zaj where
  N:Nat
  IU:Int->ae (Bool)
abbrev zJy (E:zaj):aX:=dh (Tabs.nil.addF 239 (ae.un E.IU)) []
def zJz:bW:=aU ax 236 [] {}
def zjX (E:zaj):Int×Int->ae (Bool):=ae.ty (aF ax E.N (zJy E) zJz 236)
section
variable (E:zaj){A:Type}(k:Bool->Option A)
theorem zJA (a0:Int) (a1:Int):(zjX E (a0,a1)).T k =
  (E.IU a0).T λ r1 =>
  cond r1
  ((E.IU a1).T λ r2 =>
 cond (!r2)
 (k true)
 (k (decide (a0 < a1))))
  (k (decide (a0 < a1))):=bH.trans (by kernel_rfl)
end
theorem zJB [aJ] (E:zaj) (QH:Ok ax 239 (ae.un E.IU)):Ok ax 236 (ae.un (zjX E)):=aY (aP (ay.nil.addF QH) (ak (by kernel_rfl)))
structure zak where
  N:Nat
abbrev zJC (E:zak):aX:=dh Tabs.nil []
def zJD:bW:=aU ax 237 [] {}
def zjY (E:zak):Int->ae (Bool):=ae.ty (aF ax E.N (zJC E) zJD 237)
section
variable (E:zak){A:Type}(k:Bool->Option A)
theorem e237 (a0:Int):(zjY E (a0)).T k =
  k (a0 != a0):=bH.trans (by kernel_rfl)
end
theorem zJE [aJ] (E:zak):Ok ax 237 (ae.un (zjY E)):=aY (aP ay.nil (ak (by kernel_rfl)))
structure ou where
  N:Nat
  zlm:aC×(Pt list)->ae (Bool)
abbrev QN (E:ou):aX:=dh (Tabs.nil.addF 207 (ae.un E.zlm)) []
def QO:bW:=aU ax 238 [] {}
def zo (E:ou):(Sl aC)×(dN 207 Unit (Pt list))->ae (Int):=ae.ty (aF ax E.N (QN E) QO 238)
section
variable (E:ou){A:Type}(k:Int->Option A)
def sS (E:ou) (n:Nat) (a0:(Sl aC)) (a1:(dN 207 Unit (Pt list))) (v8:Int){A:Type}(k:Int->Option A):Option A :=
  iG ax (QN E) E.N QO 238 [1,0,1,0] [.n n] (iH k)
    ⟨[(0,eP a0),(1,.p (.fn 207 [] [.fp [.sl a1.v.v.bI.len 3 (λ i=>bG.enc (a1.v.v.bI.get i))] 0])),(7,.int (a0.len:Int)),(8,.int v8)],[],[]⟩
theorem zeP (a0:(Sl aC)) (a1:(dN 207 Unit (Pt list))):(zo E (a0,a1)).T k =
  sS E E.N a0 a1 0 k:=bH.trans (by kernel_rfl)
theorem G6 (n0:Nat) (a0:(Sl aC)) (a1:(dN 207 Unit (Pt list))) (v8:Int):sS E (n0+1) a0 a1 v8 k =
  cond (decide (v8 < (a0.len:Int)))
  (bf (decide (0<=v8/\v8 < (a0.len:Int))) ((E.zlm ((a0.get v8.toNat),a1.v)).T λ r1 =>
 cond r1
 (k v8)
 (sS E n0 a0 a1 (aO (v8+1)) k)))
  (k (-1)):=by kernel_rfl
end
theorem zeQ [aJ] (E:ou) (zqv:Ok ax 207 (ae.un E.zlm)):Ok ax 238 (ae.un (zo E)):=aY (aP (ay.nil.addF zqv) (ak (by kernel_rfl)))
structure oz where
  N:Nat
  zlr:aC×(Pt straight)->ae (Bool)
abbrev QP (E:oz):aX:=dh (Tabs.nil.addF 230 (ae.un E.zlr)) []
def QQ:bW:=aU ax 238 [] {}
def zq (E:oz):(Sl aC)×(dN 230 Unit (Pt straight))->ae (Int):=ae.ty (aF ax E.N (QP E) QQ 238)
section
variable (E:oz){A:Type}(k:Int->Option A)
def sU (E:oz) (n:Nat) (a0:(Sl aC)) (a1:(dN 230 Unit (Pt straight))) (v8:Int){A:Type}(k:Int->Option A):Option A :=
  iG ax (QP E) E.N QQ 238 [1,0,1,0] [.n n] (iH k)
    ⟨[(0,eP a0),(1,eP a1),(7,.int (a0.len:Int)),(8,.int v8)],[],[]⟩
theorem zeR (a0:(Sl aC)) (a1:(dN 230 Unit (Pt straight))):(zq E (a0,a1)).T k =
  sU E E.N a0 a1 0 k:=bH.trans (by kernel_rfl)
theorem G7 (n0:Nat) (a0:(Sl aC)) (a1:(dN 230 Unit (Pt straight))) (v8:Int):sU E (n0+1) a0 a1 v8 k =
  cond (decide (v8 < (a0.len:Int)))
  (bf (decide (0<=v8/\v8 < (a0.len:Int))) ((E.zlr ((a0.get v8.toNat),a1.v)).T λ r1 =>
 cond r1
 (k v8)
 (sU E n0 a0 a1 (aO (v8+1)) k)))
  (k (-1)):=by kernel_rfl
end
theorem zeS [aJ] (E:oz) (zqw:Ok ax 230 (ae.un E.zlr)):Ok ax 238 (ae.un (zq E)):=aY (aP (ay.nil.addF zqw) (ak (by kernel_rfl)))
structure oC where
  N:Nat
  zlu:aC×(Pt straight)->ae (Bool)
abbrev QR (E:oC):aX:=dh (Tabs.nil.addF 257 (ae.un E.zlu)) []
def QS:bW:=aU ax 238 [] {}
def zu (E:oC):(Sl aC)×(dN 257 Unit (Pt straight))->ae (Int):=ae.ty (aF ax E.N (QR E) QS 238)
section
variable (E:oC){A:Type}(k:Int->Option A)
def sV (E:oC) (n:Nat) (a0:(Sl aC)) (a1:(dN 257 Unit (Pt straight))) (v8:Int){A:Type}(k:Int->Option A):Option A :=
  iG ax (QR E) E.N QS 238 [1,0,1,0] [.n n] (iH k)
    ⟨[(0,eP a0),(1,eP a1),(7,.int (a0.len:Int)),(8,.int v8)],[],[]⟩
theorem zeT (a0:(Sl aC)) (a1:(dN 257 Unit (Pt straight))):(zu E (a0,a1)).T k =
  sV E E.N a0 a1 0 k:=bH.trans (by kernel_rfl)
theorem G8 (n0:Nat) (a0:(Sl aC)) (a1:(dN 257 Unit (Pt straight))) (v8:Int):sV E (n0+1) a0 a1 v8 k =
  cond (decide (v8 < (a0.len:Int)))
  (bf (decide (0<=v8/\v8 < (a0.len:Int))) ((E.zlu ((a0.get v8.toNat),a1.v)).T λ r1 =>
 cond r1
 (k v8)
 (sV E n0 a0 a1 (aO (v8+1)) k)))
  (k (-1)):=by kernel_rfl
end
theorem zeU [aJ] (E:oC) (zqx:Ok ax 257 (ae.un E.zlu)):Ok ax 238 (ae.un (zu E)):=aY (aP (ay.nil.addF zqx) (ak (by kernel_rfl)))
structure zal where
  N:Nat
abbrev zJF (E:zal):aX:=dh Tabs.nil []
def zJG:bW:=aU ax 239 [] {}
def zjZ (E:zal):Int->ae (Bool):=ae.ty (aF ax E.N (zJF E) zJG 239)
section
variable (E:zal){A:Type}(k:Bool->Option A)
theorem zJH (a0:Int):(zjZ E (a0)).T k =
  k (a0 != a0):=bH.trans (by kernel_rfl)
end
theorem zJI [aJ] (E:zal):Ok ax 239 (ae.un (zjZ E)):=aY (aP ay.nil (ak (by kernel_rfl)))
structure Vj where
  N:Nat
  c117:(Sl aC)×((dN 118 Unit Unit) ⊕ (dN 162 Unit (Pt Int)))->ae (set×Int)
  zgk:set->ae ((Sl straight))
  c198:straight->ae (Line)
abbrev zyj (E:Vj):aX:=dh (((Tabs.nil.addF 117 (ae.un E.c117)).addF 249 (ae.un E.zgk)).addF 198 (ae.un E.c198)) []
def zyk:bW:=aU ax 240 [] { ks:=[(1,6,⟨[],[(6,28,114)],[],[],[],[],[]⟩)] }
def zeV (E:Vj):(Sl aC)->ae ((Sl Line)×Int):=ae.ty (aF ax E.N (zyj E) zyk 240)
section
variable (E:Vj){A:Type}(k:((Sl Line)×Int)->Option A)
def Bf (E:Vj) (n:Nat) (v18:(Sl straight)) (v19:Int) (v20:Int) (w28:Sl Line){A:Type}(k:((Sl Line)×Int)->Option A):Option A :=
  iG ax (zyj E) E.N zyk 240 [1,1,1,1,0,1,0] [.n n] (iH k)
    ⟨[(6,.cl (.vec 28)),(18,eP v18),(19,.int v19),(20,.int v20)],[(28,eV 114 4 32 w28)],[]⟩
theorem e240 (a0:(Sl aC)):(zeV E (a0)).T k =
  (E.c117 (a0,(Sum.inl (⟨(),()⟩:(dN 118 Unit Unit))))).T λ r1 =>
  cond (r1.2 != 0)
  (k ((⟨0,λ _=>default⟩:(Sl Line)),r1.2))
  ((E.zgk r1.1).T λ r2 =>
 Bf E E.N r2 (r2.len:Int) 0 (⟨0,(λ _=>(⟨(⟨0,0⟩:aS),(⟨0,0⟩:aS)⟩:Line))⟩:(Sl Line)) k):=bH.trans (by kernel_rfl)
theorem zeW (n0:Nat) (v18:(Sl straight)) (v19:Int) (v20:Int) (w28:Sl Line):Bf E (n0+1) v18 v19 v20 w28 k =
  cond (decide (v20 < v19))
  (bf (decide (0<=v20/\v20 < (v18.len:Int))) ((E.c198 (v18.get v20.toNat)).T λ r1 =>
 bf (room (w28.len+1) 32) (Bf E n0 v18 v19 (aO (v20+1)) (⟨(w28.len+1),(jd w28.len w28.get (fun _=>r1))⟩:(Sl Line)) k)))
  (k (w28,0)):=by kernel_rfl
end
theorem zJJ [aJ] (E:Vj) (UF:Ok ax 117 (ae.un E.c117)) (zqy:Ok ax 249 (ae.un E.zgk)) (U3:Ok ax 198 (ae.un E.c198)):Ok ax 240 (ae.un (zeV E)):=aY (aP (((ay.nil.addF UF).addF zqy).addF U3) (ak (by kernel_rfl)))
structure zam where
  N:Nat
abbrev zJK (E:zam):aX:=dh Tabs.nil []
def zJL:bW:=aU ax 247 [] {}
def zj0 (E:zam):aC×Int->ae (Int):=ae.ty (aF ax E.N (zJK E) zJL 247)
section
variable (E:zam){A:Type}(k:Int->Option A)
theorem e247 (a0:aC) (a1:Int):(zj0 E (a0,a1)).T k =
  cond (a1 == 0)
  (k a0.Low)
  (k a0.High):=bH.trans (by kernel_rfl)
end
theorem zJM [aJ] (E:zam):Ok ax 247 (ae.un (zj0 E)):=aY (aP ay.nil (ak (by kernel_rfl)))
structure Vk where
  N:Nat
  Oc:Line×Int->ae (Int×Int)
abbrev zyl (E:Vk):aX:=dh (Tabs.nil.addF 166 (ae.un E.Oc)) []
def zym:bW:=aU ax 248 [] {}
def zj1 (E:Vk):Line×(Sl aC)->ae (Bool):=ae.ty (aF ax E.N (zyl E) zym 248)
section
variable (E:Vk){A:Type}(k:Bool->Option A)
def Ny (E:Vk) (n:Nat) (a0:Line) (a1:(Sl aC)) (v5:Int){A:Type}(k:Bool->Option A):Option A :=
  iG ax (zyl E) E.N zym 248 [1,0,1,0] [.n n] (iH k)
    ⟨[(1,eP a1),(2,.cl (.ptr 2 0)),(5,.int v5)],[(2,eB 114 a0)],[]⟩
theorem e248 (a0:Line) (a1:(Sl aC)):(zj1 E (a0,a1)).T k =
  Ny E E.N a0 a1 0 k:=bH.trans (by kernel_rfl)
theorem zeX (n0:Nat) (a0:Line) (a1:(Sl aC)) (v5:Int):Ny E (n0+1) a0 a1 v5 k =
  cond (decide (v5 < (a1.len:Int)))
  (bf (decide (0<=v5/\v5 < (a1.len:Int))) ((E.Oc (a0,(a1.get v5.toNat).Z)).T λ r1 =>
 bf (decide (0<=v5/\v5 < (a1.len:Int))) (cond (r1.1 == (aO ((a1.get v5.toNat).Low * r1.2)))
 (k true)
 (Ny E n0 a0 a1 (aO (v5+1)) k))))
  (k false):=by kernel_rfl
end
theorem zJN [aJ] (E:Vk) (UH:Ok ax 166 (ae.un E.Oc)):Ok ax 248 (ae.un (zj1 E)):=aY (aP (ay.nil.addF UH) (ak (by kernel_rfl)))
structure zan where
  N:Nat
  RV:straight×straight×(Pt set)->ae (Int)
abbrev zJO (E:zan):aX:=dh (((Tabs.nil.addO 252 (.clone 204 3 24)).addO 253 (.sort 204 3 24)).addC 254 (ae.un E.RV)) []
def zJP:bW:=aU ax 249 [] {}
def zj2 (E:zan):set->ae ((Sl straight)):=ae.ty (aF ax E.N (zJO E) zJP 249)
section
variable (E:zan){A:Type}(k:(Sl straight)->Option A)
theorem e249 (a0:set):(zj2 E (a0)).T k =
  bf (room a0.cu.len 24) (bf (soP (ae.un E.RV) (bG.enc (⟨a0⟩:(Pt set))) true a0.cu) (k (⟨a0.cu.len,(soG (ae.un E.RV) (bG.enc (⟨a0⟩:(Pt set))) true a0.cu)⟩:(Sl straight)))):=bH.trans (by kernel_rfl)
end
theorem zJQ [aJ] (E:zan) (zJR:dX ax 252 (.clone 204 3 24)) (zJS:dX ax 253 (.sort 204 3 24)) (zJT : @Ok ⟨1⟩ ax 254 (ae.un E.RV)):Ok ax 249 (ae.un (zj2 E)):=aY (aP (((ay.nil.addO zJR).addO zJS).addC zJT) (ak (by kernel_rfl)))
structure zao where
  N:Nat
  zgl:set×straight->ae (Bool)
  lC:Int×Int->ae (aS)
  zJ:aS×aS->ae (Int)
abbrev zJU (E:zao):aX:=dh (((Tabs.nil.addF 255 (ae.un E.zgl)).addF 172 (ae.un E.lC)).addF 170 (ae.un E.zJ)) []
def zJV:bW:=aU ax 254 [] {}
def zj3 (E:zao):straight×straight×(Pt set)->ae (Int):=ae.ty (aF ax E.N (zJU E) zJV 254)
section
variable (E:zao){A:Type}(k:Int->Option A)
theorem e254 (a0:straight) (a1:straight) (a2:(Pt set)):(zj3 E (a0,a1,a2)).T k =
  (E.zgl (a2.v,a0)).T λ r1 =>
  (E.zgl (a2.v,a1)).T λ r2 =>
  (E.lC (a0.bK,a0.den)).T λ r3 =>
  (E.lC (a1.bK,a1.den)).T λ r4 =>
  (E.zJ (r3,r4)).T λ r5 =>
  cond r1
  (cond r2
 (k r5)
 (cond r1
 (k (-1))
 (cond r2
 (k 1)
 (k (aO (0 - r5))))))
  (cond r1
 (k (-1))
 (cond r2
 (k 1)
 (k (aO (0 - r5))))):=bH.trans (by kernel_rfl)
end
theorem zJW [aJ] (E:zao) (zj4:Ok ax 255 (ae.un E.zgl)) (sH:Ok ax 172 (ae.un E.lC)) (GM:Ok ax 170 (ae.un E.zJ)):Ok ax 254 (ae.un (zj3 E)):=aY (aP (((ay.nil.addF zj4).addF sH).addF GM) (ak (by kernel_rfl)))
structure zaq where
  N:Nat
  c206:(Sl aC)×((dN 207 Unit (Pt list)) ⊕ (dN 230 Unit (Pt straight)) ⊕ (dN 257 Unit (Pt straight)))->ae (Bool)
abbrev zJX (E:zaq):aX:=dh (Tabs.nil.addF 206 (ae.un E.c206)) []
def zJY:bW:=aU ax 255 [] {}
def zj5 (E:zaq):set×straight->ae (Bool):=ae.ty (aF ax E.N (zJX E) zJY 255)
section
variable (E:zaq){A:Type}(k:Bool->Option A)
theorem zJZ (a0:set) (a1:straight):(zj5 E (a0,a1)).T k =
  (E.c206 (a0.list.bI,(Sum.inr (Sum.inr (⟨(),(⟨a1⟩:(Pt straight))⟩:(dN 257 Unit (Pt straight))))))).T λ r1 =>
  k r1:=bH.trans (by kernel_rfl)
end
theorem zJ0 [aJ] (E:zaq) (GI:Ok ax 206 (ae.un E.c206)):Ok ax 255 (ae.un (zj5 E)):=aY (aP (ay.nil.addF GI) (ak (by kernel_rfl)))
structure zar where
  N:Nat
abbrev zJ1 (E:zar):aX:=dh Tabs.nil []
def zJ2:bW:=aU ax 257 [] {}
def zj6 (E:zar):aC×(Pt straight)->ae (Bool):=ae.ty (aF ax E.N (zJ1 E) zJ2 257)
section
variable (E:zar){A:Type}(k:Bool->Option A)
theorem e257 (a0:aC) (a1:(Pt straight)):(zj6 E (a0,a1)).T k =
  k ((aO (a1.v.start+(aO (a1.v.bK * a0.Z)))) == (aO (a0.Low * a1.v.den))):=bH.trans (by kernel_rfl)
end
theorem zJ3 [aJ] (E:zar):Ok ax 257 (ae.un (zj6 E)):=aY (aP ay.nil (ak (by kernel_rfl)))
end Go.Proofs
namespace Go.Proofs
end Go.Proofs
namespace Go.Proofs
open Go Go.Pm
set_option maxRecDepth 100000
theorem mO {x y X Y:Int}(h1 : -X<=x) (h2:x<=X) (h3:0<=y) (h4:y<=Y) : -(X * Y)<=x * y/\x * y<=X * Y:=by
 have hX:0<=X:=by omega
 have a:=Int.mul_le_mul_of_nonneg_right h2 h3;have b:=Int.mul_le_mul_of_nonneg_left h4 hX;have c:=Int.mul_le_mul_of_nonneg_right h1 h3;rw[Int.neg_mul] at c;omega
def red (num den:Int):aS:=⟨num.tdiv (Int.gcd num den:Int),den.tdiv (Int.gcd num den:Int)⟩
theorem zeY (num:Int):(if -num > num then -num else num)=(num.natAbs:Int):=by split <;> omega
theorem Xx (num den:Int):Int.gcd (num.natAbs:Int) den=Int.gcd num den:=by
 unfold Int.gcd;rw[Int.natAbs_natCast]
theorem jo {num den:Int}(hd:0 < den):0 < (Int.gcd num den:Int):=by
 have:Int.gcd num den ≠ 0:=λ h=>by have:=(Int.gcd_eq_zero_iff.1 h).2;omega
 omega
theorem zyn (num den:Int):∃ a,num=(Int.gcd num den:Int) * a:=Int.gcd_dvd_left num den
theorem zyo (num den:Int):∃ a,den=(Int.gcd num den:Int) * a:=Int.gcd_dvd_right num den
theorem mP {num den:Int}(hd:0 < den):(Int.gcd num den:Int) * (red num den).Num=num:=by
 have hg:=jo (num:=num) hd;obtain⟨a,ha⟩:=zyn num den;show (Int.gcd num den:Int) * num.tdiv (Int.gcd num den:Int)=num;generalize (Int.gcd num den:Int)=g at ha hg ⊢;rw[ha,Int.mul_tdiv_cancel_left _ (by omega)]
theorem lG {num den:Int}(hd:0 < den):(Int.gcd num den:Int) * (red num den).cO=den:=by
 have hg:=jo (num:=num) hd;obtain⟨a,ha⟩:=zyo num den;show (Int.gcd num den:Int) * den.tdiv (Int.gcd num den:Int)=den;generalize (Int.gcd num den:Int)=g at ha hg ⊢;rw[ha,Int.mul_tdiv_cancel_left _ (by omega)]
theorem kz {num den:Int}(hd:0 < den):0 < (red num den).cO:=by
 have h1:=lG (num:=num) hd;have hg:=jo (num:=num) hd;rcases Int.lt_or_le 0 (red num den).cO with h | h
 ·exact h
 ·have := Int.mul_le_mul_of_nonneg_left h (Int.le_of_lt hg);rw[h1,Int.mul_zero] at this;omega
theorem G9 {num den:Int}(hd:0 < den):(red num den).cO<=den:=by
 have h1:=lG (num:=num) hd;have hg:=jo (num:=num) hd;have:=Int.mul_le_mul_of_nonneg_right (show (1:Int)<=(Int.gcd num den:Int) by omega) (Int.le_of_lt (kz (num:=num) hd));omega
theorem zx {num den:Int}(hd:0 < den) : -(num.natAbs:Int)<=(red num den).Num/\(red num den).Num<=(num.natAbs:Int):=by
 have h1:=mP (num:=num) hd;have hg:=jo (num:=num) hd;have h2:num.natAbs=(Int.gcd num den) * (red num den).Num.natAbs:=by
  have:=congrArg Int.natAbs h1;rw[Int.natAbs_mul] at this;simpa using this.symm
 have h3:(red num den).Num.natAbs<=num.natAbs:=by
  rw[h2];exact Nat.le_mul_of_pos_left _ (by omega)
 omega
theorem Xy {num den:Int}(hd:0 < den):Int.gcd (red num den).Num (red num den).cO=1:=by
 have h1:=mP (num:=num) hd;have h2:=lG (num:=num) hd;have hg:=jo (num:=num) hd;have h3:Int.gcd ((Int.gcd num den:Int) * (red num den).Num) ((Int.gcd num den:Int) * (red num den).cO)=Int.gcd num den * Int.gcd (red num den).Num (red num den).cO:=by
  rw[Int.gcd_mul_left];simp
 rw[h1,h2] at h3;have h4:Int.gcd num den * 1=Int.gcd num den * Int.gcd (red num den).Num (red num den).cO:=by rw[Nat.mul_one];exact h3
 exact (Nat.eq_of_mul_eq_mul_left (by omega) h4).symm
theorem Vl {a b c d:Int}(hb:0 < b) (hd:0 < d):red a b=red c d↔a * d=c * b:=by
 have a1:=mP (num:=a) hb;have a2:=lG (num:=a) hb;have c1:=mP (num:=c) hd;have c2:=lG (num:=c) hd;constructor
 ·intro h;rw[h] at a1 a2;generalize hG:(Int.gcd a b:Int)=G at a1 a2;generalize hK:(Int.gcd c d:Int)=K at c1 c2;generalize (red c d).Num=x at a1 c1;generalize (red c d).cO=y at a2 c2;subst a1;subst a2;subst c1;subst c2
  ac_rfl
 ·intro h;have ga:=Xy (num:=a) hb;have gc:=Xy (num:=c) hd;have pa:=kz (num:=a) hb;have pc:=kz (num:=c) hd;have hG:=jo (num:=a) hb;have hK:=jo (num:=c) hd
  -- cross products of the lowest forms
  have hx:(red a b).Num * (red c d).cO=(red c d).Num * (red a b).cO:=by
   have e:((Int.gcd a b:Int) * (Int.gcd c d:Int)) * ((red a b).Num * (red c d).cO)=((Int.gcd a b:Int) * (Int.gcd c d:Int)) * ((red c d).Num * (red a b).cO):=by
    have l1:((Int.gcd a b:Int) * (Int.gcd c d:Int)) * ((red a b).Num * (red c d).cO)=((Int.gcd a b:Int) * (red a b).Num) * ((Int.gcd c d:Int) * (red c d).cO):=by
     generalize (Int.gcd a b:Int)=G;generalize (Int.gcd c d:Int)=K
     ac_rfl
    have l2:((Int.gcd a b:Int) * (Int.gcd c d:Int)) * ((red c d).Num * (red a b).cO)=((Int.gcd c d:Int) * (red c d).Num) * ((Int.gcd a b:Int) * (red a b).cO):=by
     generalize (Int.gcd a b:Int)=G;generalize (Int.gcd c d:Int)=K
     ac_rfl
    rw[l1,l2,a1,a2,c1,c2];exact h
   exact Int.eq_of_mul_eq_mul_left (by have:=Int.mul_pos hG hK;omega) e
  have hx':=congrArg Int.natAbs hx;rw[Int.natAbs_mul,Int.natAbs_mul] at hx';have ga':Nat.Coprime (red a b).cO.natAbs (red a b).Num.natAbs:=(Nat.gcd_comm _ _).trans ga;have gc':Nat.Coprime (red c d).cO.natAbs (red c d).Num.natAbs:=(Nat.gcd_comm _ _).trans gc;have d1:(red a b).cO ∣ (red c d).cO:=Int.natAbs_dvd_natAbs.1 (ga'.dvd_of_dvd_mul_left ⟨(red c d).Num.natAbs,by rw[hx',Nat.mul_comm]⟩);have d2:(red c d).cO ∣ (red a b).cO:=Int.natAbs_dvd_natAbs.1 (gc'.dvd_of_dvd_mul_left ⟨(red a b).Num.natAbs,by rw[<- hx',Nat.mul_comm]⟩);have hden:(red a b).cO=(red c d).cO:=Int.le_antisymm (Int.le_of_dvd pc d1) (Int.le_of_dvd pa d2);rw[<- hden] at hx;have hnum:=Int.eq_of_mul_eq_mul_right (by omega) hx;cases h1:red a b;cases h2:red c d;rw[h1,h2] at hden hnum;simp only at hden hnum;rw[hden,hnum]
def zM (z p y q:Int):straight:=if z > y then ⟨p - q,q * z - p * y,z - y⟩ else ⟨q - p,p * y - q * z,y - z⟩
def eQ (s:straight):Line:=⟨red s.bK s.den,red s.start s.den⟩
theorem QT {a b:Int}(ha:0<=a) (hb:0 < b):0<=a.tmod b/\a.tmod b < b/\Int.gcd b (a.tmod b)=Int.gcd a b:=by
 refine⟨Int.tmod_nonneg b ha,Int.tmod_lt_of_pos a hb,?_⟩;obtain⟨m,rfl⟩:=Int.eq_ofNat_of_zero_le ha;obtain⟨n,rfl⟩:=Int.eq_ofNat_of_zero_le (Int.le_of_lt hb);show Nat.gcd n (m % n)=Nat.gcd m n;rw[Nat.gcd_comm m n,Nat.gcd_rec n m,Nat.gcd_comm]
theorem QU {A : Type} {X : Nat → Int → Int → Option A} {k : Int → Option A} (hX : ∀ n a b, 0 ≤ a → 0 ≤ b → X (n + 1) a b = if b = 0 then k a else X n b (a.tmod b)) :
  ∀ (m n:Nat) (a b:Int),0<=a->0<=b->b < 2 ^ m->2 * m < n->X n a b=k (Int.gcd a b:Int):=by
 have zero:∀ a:Int,0<=a->(Int.gcd a 0:Int)=a:=λ a ha=>by rw[Int.gcd_zero_right];omega
 intro m
 induction m with
 | zero =>
  intro n a b ha hb hm hn;obtain⟨n,rfl⟩:∃ n',n=n'+1:=⟨n - 1,by omega⟩;have:b=0:=by simp at hm;omega
  subst this;rw[hX n a 0 ha hb,if_pos rfl,zero a ha]
 | succ m ih =>
  intro n a b ha hb hm hn;obtain⟨n,rfl⟩:∃ n',n=n'+1+1:=⟨n - 2,by omega⟩;rw[hX _ a b ha hb];by_cases h0:b=0
  ·subst h0;rw[if_pos rfl,zero a ha]
  rw[if_neg h0];obtain⟨r0,r1,g1⟩:=QT ha (show 0 < b by omega);rw[hX _ b _ hb r0];by_cases h1:a.tmod b=0
  ·rw[if_pos h1,<- g1,h1,zero b hb]
  rw[if_neg h1];obtain⟨q0,q1,g2⟩:=QT hb (show 0 < a.tmod b by omega);rw[ih n _ _ r0 q0 ?_ (by omega),g2,g1];have e:=Int.tmod_add_mul_tdiv b (a.tmod b);have hq:1<=b.tdiv (a.tmod b):=by
   rcases Int.lt_or_le 0 (b.tdiv (a.tmod b)) with h | h
   ·omega
   ·have := Int.mul_le_mul_of_nonneg_left h r0;rw[Int.mul_zero] at this;omega
  have:=Int.mul_le_mul_of_nonneg_left hq r0;rw[Int.mul_one] at this;have h2:(2:Int) ^ (m+1)=2 ^ m * 2:=Int.pow_succ 2 m;omega
abbrev Vm (C:Int×Int->ae Int):Prop:=∀ a b,0<=a->0<=b->b<=1152921504606846976->C (a,b)=.ok (Int.gcd a b:Int)
theorem zJ4 {E:Vg}(N:Big E.N):Vm (zjK E):=λ a b ha hb hk=>ae.ext λ k=>by
 rw[e209,bn];refine QU (X:=λ n a b=>Nu E n a b k) (λ n a b h1 h2=>?_) 61 _ a b ha hb (by omega) (by have:=N;omega);rw[zqm];by_cases h:b=0
 ·subst h;rfl
 ·rw[decide_eq_true (show b > 0 by omega),cond_true,bD h,if_neg h]
theorem zJ5 {E:UM}(N:Big E.N):Vm (ziL E):=λ a b ha hb hk=>ae.ext λ k=>by
 rw[e125,bn];refine QU (X:=λ n a b=>Nb E n a b k) (λ n a b h1 h2=>?_) 61 _ a b ha hb (by omega) (by have:=N;omega);rw[zpM];by_cases h:b=0
 ·subst h;rfl
 ·rw[show (b != 0)=true by simpa using h,cond_true,bD h,if_neg h]
abbrev Ha (C:Int×Int->ae aS):Prop:=∀ a b,-1000000000000000000<=a->a<=1000000000000000000->0 < b->b<=1000000000000000000->C (a,b)=.ok (red a b)
theorem zmu {num den : Int} (h1 : -1000000000000000000 ≤ num) (h2 : num ≤ 1000000000000000000) (hd : 0 < den) (hd2 : den ≤ 1000000000000000000) {A : Type} (k : aS → Option A) :
  bf (decide ((Int.gcd num den:Int) ≠ 0)) (bf (decide ((Int.gcd num den:Int) ≠ 0)) (k ⟨aO (num.tdiv (Int.gcd num den:Int)),aO (den.tdiv (Int.gcd num den:Int))⟩))=k (red num den):=by
 have hg:=jo (num:=num) hd;have r1:=zx (num:=num) hd;have r2:=G9 (num:=num) hd;have r3:=kz (num:=num) hd;have w1:aO (num.tdiv (Int.gcd num den:Int))=(red num den).Num:=bg (by show _<=(red num den).Num;omega) (by show (red num den).Num<=_;omega);have w2:aO (den.tdiv (Int.gcd num den:Int))=(red num den).cO:=bg (by show _<=(red num den).cO;omega) (by show (red num den).cO<=_;omega);rw[w1,w2,bD (by omega),bD (by omega)]
theorem zJ6 {E:ZP}(zp6:Vm E.zln):Ha (zjj E):=λ a b h1 h2 hd hd2=>ae.ext λ k=>by
 rw[zH1,show aO (0 - a) = -a by rw[bg (by omega) (by omega)];omega,zeY,zp6 _ _ (by omega) (by omega) (by omega),Xx,bn,bn];exact zmu h1 h2 hd hd2 k
theorem s71 {E:E71}(UC:Vm E.Oa):Ha (F71 E):=λ a b h1 h2 hd hd2=>ae.ext λ k=>by
 rw[e71,show aO (0 - a) = -a by rw[bg (by omega) (by omega)];omega,zeY,UC _ _ (by omega) (by omega) (by omega),Xx,bn,bn];exact zmu h1 h2 hd hd2 k
end Go.Proofs
