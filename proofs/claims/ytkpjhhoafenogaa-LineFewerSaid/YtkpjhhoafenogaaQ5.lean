/- Part 5 of what the proof rests on: a machine that runs functions of the program on pure values, proved sound; the functions that the law reaches, and what they compute. -/
import Derived.Test.YtkpjhhoafenogaaQ4
set_option linter.all false
namespace Go.Proofs
open Go Go.Pm
set_option maxRecDepth 100000
set_option linter.unusedVariables false
attribute [local irreducible] Go.Pm.vcFun Go.Pm.vc Go.Pm.vcIter
abbrev T38:Tabs:=((Tabs.nil.addF 64 ztl).addF 84 zEC)
theorem zLi:TabsOk Try.prog T38:=((TabsOk.nil.addF zJ3).addF zN2)
abbrev G38:Ctrs:=csm T38 (fun _ _=>[]) (fun _=>false)
def zED:Ann:=⟨66,[(0,zK [0] []),(1,zK [0,12] []),(2,zK [2,3] []),(3,zK [0,4] []),(4,zK [0,4,15,16] []),(5,zK [0,4,15,16,17] []),(6,zK [0,4,5,15,16] []),(7,zK [0,4,5,6,15,16] []),(8,zK [0,4,5,6,15,16,23] []),(9,zK [0,4,5,6,15,16] []),(10,zK [0,4,5,6,15,16,31] []),(11,zK [2,3] [34]),(12,zK [0,4,15,16] []),(13,zK [0,4,36,37] []),(14,zK [0,4,36,37,38] []),(15,zK [0,4,7,36,37] []),(16,zK [0,4,7,8,36,37] []),(17,zK [0,4,7,8,36,37,44] []),(18,zK [0,4,7,8,36,37] []),(19,zK [0,4,7,8,9,36,37] []),(20,zK [0,4,7,8,9,36,37,51] []),(21,zK [0,4,7,8,9,36,37] []),(22,zK [0,4,7,8,9,36,37,60] []),(23,zK [2,3] [64]),(24,zK [0,4,36,37] []),(25,zK [2,3] [])],
 [(5,zK [0,4,15,16] []),(8,zK [0,4,5,6,15,16] []),(14,zK [0,4,36,37] []),(17,zK [0,4,7,8,36,37] []),(20,zK [0,4,7,8,9,36,37] [])],
 [(2,zK [0,12] []),(3,zK [0] []),(13,zK [0,4] []),(11,zK [0,4,5,6,15,16,31] []),(23,zK [0,4,7,8,9,36,37,60] [])],
 [],[]⟩
abbrev R38:=((Sl Int)×Int)
abbrev e38 (r:R38):List PA:=[.one (.sl r.1.len 1 (fun i=>zat (r.1.get i))),.one (.int .i64 r.2)]
@[irreducible] def z38:=ptF Try.prog G38 zED Try.f38
def zCb (zaa:(Sl Gate)) (zdo:Int):St:=⟨[(0,zS enc_55 3 zaa),(4,zI (zaa.len:Int)),(15,zI (zaa.len:Int)),(16,zI zdo)],[],[]⟩
abbrev zAS (K:List PA→Prop) (zaa:(Sl Gate)) (X:St→Prop) (P:Int→Bool) (S:Int→((Sl Int)×Int)):Prop:=∀ ⦃zdo:Int⦄,P zdo=true→K (e38 (S zdo))→X (zCb zaa zdo)
def zCc (zaa:(Sl Gate)) (iv3:Int) (jv3:Int) (zem:Int):St:=⟨[(0,zS enc_55 3 zaa),(4,zI (zaa.len:Int)),(5,zI iv3),(6,zI jv3),(15,zI (zaa.len:Int)),(16,zI zem)],[],[]⟩
abbrev zEE (K:List PA→Prop) (zaa:(Sl Gate)) (X:St→Prop) (P:Int→Int→Int→Bool) (S:Int→Int→Int→((Sl Int)×Int)):Prop:=∀ ⦃iv3:Int⦄ ⦃jv3:Int⦄ ⦃zem:Int⦄,P iv3 jv3 zem=true→K (e38 (S iv3 jv3 zem))→X (zCc zaa iv3 jv3 zem)
def zCd (zaa:(Sl Gate)) (zdp:Int):St:=⟨[(0,zS enc_55 3 zaa),(4,zI (zaa.len:Int)),(36,zI (zaa.len:Int)),(37,zI zdp)],[],[]⟩
abbrev zwu (K:List PA→Prop) (zaa:(Sl Gate)) (X:St→Prop) (P:Int→Bool) (S:Int→((Sl Int)×Int)):Prop:=∀ ⦃zdp:Int⦄,P zdp=true→K (e38 (S zdp))→X (zCd zaa zdp)
def zCe (zaa:(Sl Gate)) (iv7:Int) (jv7:Int) (zen:Int):St:=⟨[(0,zS enc_55 3 zaa),(4,zI (zaa.len:Int)),(7,zI iv7),(8,zI jv7),(36,zI (zaa.len:Int)),(37,zI zen)],[],[]⟩
abbrev zAT (K:List PA→Prop) (zaa:(Sl Gate)) (X:St→Prop) (P:Int→Int→Int→Bool) (S:Int→Int→Int→((Sl Int)×Int)):Prop:=∀ ⦃iv7:Int⦄ ⦃jv7:Int⦄ ⦃zen:Int⦄,P iv7 jv7 zen=true→K (e38 (S iv7 jv7 zen))→X (zCe zaa iv7 jv7 zen)
def zCf (zaa:(Sl Gate)) (iv8:Int) (jv8:Int) (kv8:Int) (zeo:Int):St:=⟨[(0,zS enc_55 3 zaa),(4,zI (zaa.len:Int)),(7,zI iv8),(8,zI jv8),(9,zI kv8),(36,zI (zaa.len:Int)),(37,zI zeo)],[],[]⟩
abbrev zEF (K:List PA→Prop) (zaa:(Sl Gate)) (X:St→Prop) (P:Int→Int→Int→Int→Bool) (S:Int→Int→Int→Int→((Sl Int)×Int)):Prop:=∀ ⦃iv8:Int⦄ ⦃jv8:Int⦄ ⦃kv8:Int⦄ ⦃zeo:Int⦄,P iv8 jv8 kv8 zeo=true→K (e38 (S iv8 jv8 kv8 zeo))→X (zCf zaa iv8 jv8 kv8 zeo)
section
variable {K:List PA→Prop} {zaa:(Sl Gate)} {zaI:Bool} {zdo:Int} {X2:St→Prop} {P2:Int→Bool} {S2:Int→((Sl Int)×Int)} {iv3:Int} {jv3:Int} {zem:Int} {X3:St→Prop} {P3:Int→Int→Int→Bool} {S3:Int→Int→Int→((Sl Int)×Int)} {iv5:Int} {jv5:Int} {zqb:Int} {zqc:Bool} {zdp:Int} {X6:St→Prop} {P6:Int→Bool} {S6:Int→((Sl Int)×Int)} {iv7:Int} {jv7:Int} {zen:Int} {X7:St→Prop} {P7:Int→Int→Int→Bool} {S7:Int→Int→Int→((Sl Int)×Int)} {iv8:Int} {jv8:Int} {kv8:Int} {zeo:Int} {X8:St→Prop} {P8:Int→Int→Int→Int→Bool} {S8:Int→Int→Int→Int→((Sl Int)×Int)} {iv9:Int} {jv9:Int} {kv9:Int} {zqd:Int} {zqe:Bool}
def zwv (S6:Int→((Sl Int)×Int)) (S7:Int→Int→Int→((Sl Int)×Int)) (S8:Int→Int→Int→Int→((Sl Int)×Int)) (zaa:(Sl Gate)) (iv9:Int) (jv9:Int) (kv9:Int) (zqd:Int) (zqe:Bool):((Sl Int)×Int) :=
  (cond zqe
 ((⟨3,(ziA iv9 [iv9,jv9,kv9])⟩:(Sl Int)),(0:Int))
 (S8 iv9 jv9 (w64 (kv9+(1:Int))) zqd))
def zww (P6:Int→Bool) (P7:Int→Int→Int→Bool) (P8:Int→Int→Int→Int→Bool) (zaa:(Sl Gate)) (iv9:Int) (jv9:Int) (kv9:Int) (zqd:Int) (zqe:Bool):Bool :=
  (cond zqe
 true
 (P8 iv9 jv9 (w64 (kv9+(1:Int))) zqd))
theorem zEG (hX6:zwu K zaa X6 P6 S6) (hX7:zAT K zaa X7 P7 S7) (hX8:zEF K zaa X8 P8 S8) (hs:zww P6 P7 P8 zaa iv9 jv9 kv9 zqd zqe=true) (hk:K (e38 (zwv S6 S7 S8 zaa iv9 jv9 kv9 zqd zqe))):z38 (Wk K) [1,1,1,1,0,1,0,0,1,1,0,0,1,1,0,0,1,0,0,1,0,0,1,0,0,1] [X6,X7,X8] ⟨[(0,zS enc_55 3 zaa),(4,zI (zaa.len:Int)),(7,zI iv9),(8,zI jv9),(9,zI kv9),(36,zI (zaa.len:Int)),(37,zI zqd),(60,zB zqe)],[],[]⟩:=zax (by kernel_rfl) (zc hs hk (fun hs hk=>((zeh (Eq.mpr (congrArg K (congrArg (fun (g_:Nat→List PV)=>([.one (.sl 3 1 g_),.one (.int .i64 (0:Int))]:List PA)) (zeC (enc:=zat) (x:=iv9) (y:=jv9) (r:=[kv9])))) hk)):Wk K [.one (.sl 3 1 (zdg [(zat iv9),(zat jv9),(zat kv9)])),.one (.int .i64 (0:Int))])) (fun hs hk=>(hX8 hs hk)))
def zwx (S6:Int→((Sl Int)×Int)) (S7:Int→Int→Int→((Sl Int)×Int)) (zaa:(Sl Gate)) (S8:Int→Int→Int→Int→((Sl Int)×Int)) (iv8:Int) (jv8:Int) (kv8:Int) (zeo:Int):((Sl Int)×Int) :=
  (cond (decide (kv8 < (zaa.len : Int)))
 (zwv S6 S7 S8 zaa iv8 jv8 kv8 zeo (!(s84 zaa (⟨3,zcQ (zdg [(zat iv8),(zat jv8),(zat kv8)])⟩:(Sl Int)))))
 (S7 iv8 (w64 (jv8+(1:Int))) zeo))
def zwy (P6:Int→Bool) (P7:Int→Int→Int→Bool) (zaa:(Sl Gate)) (P8:Int→Int→Int→Int→Bool) (iv8:Int) (jv8:Int) (kv8:Int) (zeo:Int):Bool :=
  (cond (decide (kv8 < (zaa.len : Int)))
 (decide ((p84 zaa (⟨3,zcQ (zdg [(zat iv8),(zat jv8),(zat kv8)])⟩:(Sl Int))=true)) &&
 (zww P6 P7 P8 zaa iv8 jv8 kv8 zeo (!(s84 zaa (⟨3,zcQ (zdg [(zat iv8),(zat jv8),(zat kv8)])⟩:(Sl Int))))))
 (P7 iv8 (w64 (jv8+(1:Int))) zeo))
def zwz (S6:Int→((Sl Int)×Int)) (S7:Int→Int→Int→((Sl Int)×Int)) (zaa:(Sl Gate)):Nat→Int→Int→Int→Int→((Sl Int)×Int):=lpO (fun _ _ _ _=>default) (zwx S6 S7 zaa)
def zwA (P6:Int→Bool) (P7:Int→Int→Int→Bool) (zaa:(Sl Gate)):Nat→Int→Int→Int→Int→Bool:=lpO (fun _ _ _ _=>false) (zwy P6 P7 zaa)
def zwB (S6:Int→((Sl Int)×Int)) (S7:Int→Int→Int→((Sl Int)×Int)) (zaa:(Sl Gate)) (iv8:Int) (jv8:Int) (kv8:Int) (zeo:Int):((Sl Int)×Int):=zwz S6 S7 zaa Fuel iv8 jv8 kv8 zeo
def zwC (P6:Int→Bool) (P7:Int→Int→Int→Bool) (zaa:(Sl Gate)) (iv8:Int) (jv8:Int) (kv8:Int) (zeo:Int):Bool:=zwA P6 P7 zaa Fuel iv8 jv8 kv8 zeo
theorem zEH (hX6:zwu K zaa X6 P6 S6) (hX7:zAT K zaa X7 P7 S7) (hs:zwC P6 P7 zaa iv8 jv8 kv8 zeo=true) (hk:K (e38 (zwB S6 S7 zaa iv8 jv8 kv8 zeo))):z38 (Wk K) [1,1,1,1,0,1,0,0,1,1,0,0,1,1,0,0,1,0,0,1,0] [X6,X7] (zCf zaa iv8 jv8 kv8 zeo) :=
  zl (fun X=>z38 (Wk K) [1,1,1,1,0,1,0,0,1,1,0,0,1,1,0,0,1,0,0,1,0,0] [X6,X7,X]) (by kernel_rfl) fun X8 hX =>
  (show ∀ k, zEF K zaa X8 (zwA P6 P7 zaa k) (zwz S6 S7 zaa k) from zgL _ _ (zwy P6 P7 zaa) (zwx S6 S7 zaa) (zEF K zaa X8)
 (by intro _ _ _ _ hs;exact absurd hs Bool.false_ne_true)
 (by intro P8 S8 hX8 iv8 jv8 kv8 zeo hs hk;exact hX _ (zax (by kernel_rfl) (zc hs hk (fun hs hk=>(zaw hs fun hc hs=>And.intro (And.intro (zE enc_55 3 zaa.get) (And.intro ((zfB [kv8]):IsE zat 1 1 (zdg [(zat iv8),(zat jv8),(zat kv8)])) hc)) (zEG hX6 hX7 hX8 hs hk))) (fun hs hk=>(hX7 hs hk)))))) _ hs hk
def zwD (S6:Int→((Sl Int)×Int)) (zaa:(Sl Gate)) (S7:Int→Int→Int→((Sl Int)×Int)) (iv7:Int) (jv7:Int) (zen:Int):((Sl Int)×Int) :=
  (cond (decide (jv7 < (zaa.len : Int)))
 (zwB S6 S7 zaa iv7 jv7 (w64 (jv7+(1:Int))) zen)
 (S6 (w64 (zen+(1:Int)))))
def zwE (P6:Int→Bool) (zaa:(Sl Gate)) (P7:Int→Int→Int→Bool) (iv7:Int) (jv7:Int) (zen:Int):Bool :=
  (cond (decide (jv7 < (zaa.len : Int)))
 (zwC P6 P7 zaa iv7 jv7 (w64 (jv7+(1:Int))) zen)
 (P6 (w64 (zen+(1:Int)))))
def zwF (S6:Int→((Sl Int)×Int)) (zaa:(Sl Gate)):Nat→Int→Int→Int→((Sl Int)×Int):=lpO (fun _ _ _=>default) (zwD S6 zaa)
def zwG (P6:Int→Bool) (zaa:(Sl Gate)):Nat→Int→Int→Int→Bool:=lpO (fun _ _ _=>false) (zwE P6 zaa)
def zwH (S6:Int→((Sl Int)×Int)) (zaa:(Sl Gate)) (iv7:Int) (jv7:Int) (zen:Int):((Sl Int)×Int):=zwF S6 zaa Fuel iv7 jv7 zen
def zwI (P6:Int→Bool) (zaa:(Sl Gate)) (iv7:Int) (jv7:Int) (zen:Int):Bool:=zwG P6 zaa Fuel iv7 jv7 zen
theorem zEI (hX6:zwu K zaa X6 P6 S6) (hs:zwI P6 zaa iv7 jv7 zen=true) (hk:K (e38 (zwH S6 zaa iv7 jv7 zen))):z38 (Wk K) [1,1,1,1,0,1,0,0,1,1,0,0,1,1,0] [X6] (zCe zaa iv7 jv7 zen) :=
  zl (fun X=>z38 (Wk K) [1,1,1,1,0,1,0,0,1,1,0,0,1,1,0,0] [X6,X]) (by kernel_rfl) fun X7 hX =>
  (show ∀ k, zAT K zaa X7 (zwG P6 zaa k) (zwF S6 zaa k) from zgL _ _ (zwE P6 zaa) (zwD S6 zaa) (zAT K zaa X7)
 (by intro _ _ _ hs;exact absurd hs Bool.false_ne_true)
 (by intro P7 S7 hX7 iv7 jv7 zen hs hk;exact hX _ (zax (by kernel_rfl) (zc hs hk (fun hs hk=>(zEH hX6 hX7 hs hk)) (fun hs hk=>(hX6 hs hk)))))) _ hs hk
def zwJ (zaa:(Sl Gate)) (S6:Int→((Sl Int)×Int)) (zdp:Int):((Sl Int)×Int) :=
  (cond (decide (zdp < (zaa.len : Int)))
 (zwH S6 zaa zdp (w64 (zdp+(1:Int))) zdp)
 ((⟨0,fun _=>default⟩:(Sl Int)),(7:Int)))
def zwK (zaa:(Sl Gate)) (P6:Int→Bool) (zdp:Int):Bool :=
  (cond (decide (zdp < (zaa.len : Int)))
 (zwI P6 zaa zdp (w64 (zdp+(1:Int))) zdp)
 true)
def zwL (zaa:(Sl Gate)):Nat→Int→((Sl Int)×Int):=lpO (fun _=>default) (zwJ zaa)
def zwM (zaa:(Sl Gate)):Nat→Int→Bool:=lpO (fun _=>false) (zwK zaa)
def zwN (zaa:(Sl Gate)) (zdp:Int):((Sl Int)×Int):=zwL zaa Fuel zdp
def zwO (zaa:(Sl Gate)) (zdp:Int):Bool:=zwM zaa Fuel zdp
theorem zEJ (hs:zwO zaa zdp=true) (hk:K (e38 (zwN zaa zdp))):z38 (Wk K) [1,1,1,1,0,1,0] [] (zCd zaa zdp) :=
  zl (fun X=>z38 (Wk K) [1,1,1,1,0,1,0,0] [X]) (by kernel_rfl) fun X6 hX =>
  (show ∀ k, zwu K zaa X6 (zwM zaa k) (zwL zaa k) from zgL _ _ (zwK zaa) (zwJ zaa) (zwu K zaa X6)
 (by intro _ hs;exact absurd hs Bool.false_ne_true)
 (by intro P6 S6 hX6 zdp hs hk;exact hX _ (zax (by kernel_rfl) (zc hs hk (fun hs hk=>(zEI hX6 hs hk)) (fun hs hk=>((wk hk (zc6 (.one (.nil _ _)) (zc6 (.one (.rfl _)) zhf))):Wk K [.one (.nils),.one (.int .i64 (7:Int))])))))) _ hs hk
def zwP (S2:Int→((Sl Int)×Int)) (S3:Int→Int→Int→((Sl Int)×Int)) (zaa:(Sl Gate)) (iv5:Int) (jv5:Int) (zqb:Int) (zqc:Bool):((Sl Int)×Int) :=
  (cond zqc
 ((⟨2,(ziA iv5 [iv5,jv5])⟩:(Sl Int)),(0:Int))
 (S3 iv5 (w64 (jv5+(1:Int))) zqb))
def zwQ (P2:Int→Bool) (P3:Int→Int→Int→Bool) (zaa:(Sl Gate)) (iv5:Int) (jv5:Int) (zqb:Int) (zqc:Bool):Bool :=
  (cond zqc
 true
 (P3 iv5 (w64 (jv5+(1:Int))) zqb))
theorem zEK (hX2:zAS K zaa X2 P2 S2) (hX3:zEE K zaa X3 P3 S3) (hs:zwQ P2 P3 zaa iv5 jv5 zqb zqc=true) (hk:K (e38 (zwP S2 S3 zaa iv5 jv5 zqb zqc))):z38 (Wk K) [1,1,1,0,1,0,0,1,1,0,0,1,1,0,0,1,0,0,1] [X2,X3] ⟨[(0,zS enc_55 3 zaa),(4,zI (zaa.len:Int)),(5,zI iv5),(6,zI jv5),(15,zI (zaa.len:Int)),(16,zI zqb),(31,zB zqc)],[],[]⟩:=zax (by kernel_rfl) (zc hs hk (fun hs hk=>((zeh (Eq.mpr (congrArg K (congrArg (fun (g_:Nat→List PV)=>([.one (.sl 2 1 g_),.one (.int .i64 (0:Int))]:List PA)) (zeC (enc:=zat) (x:=iv5) (y:=jv5) (r:=[])))) hk)):Wk K [.one (.sl 2 1 (zdg [(zat iv5),(zat jv5)])),.one (.int .i64 (0:Int))])) (fun hs hk=>(hX3 hs hk)))
def zwR (zaa:(Sl Gate)):((Sl Int)×Int) :=
  (zwN zaa (0:Int))
def zwS (zaa:(Sl Gate)):Bool :=
  (zwO zaa (0:Int))
theorem zEL (hs:zwS zaa=true) (hk:K (e38 (zwR zaa))):z38 (Wk K) [1,1,1,1] [] ⟨[(0,zS enc_55 3 zaa),(4,zI (zaa.len:Int))],[],[]⟩:=zax (by kernel_rfl) (zEJ hs hk)
def zwT (S2:Int→((Sl Int)×Int)) (zaa:(Sl Gate)) (S3:Int→Int→Int→((Sl Int)×Int)) (iv3:Int) (jv3:Int) (zem:Int):((Sl Int)×Int) :=
  (cond (decide (jv3 < (zaa.len : Int)))
 (zwP S2 S3 zaa iv3 jv3 zem (!(s84 zaa (⟨2,zcQ (zdg [(zat iv3),(zat jv3)])⟩:(Sl Int)))))
 (S2 (w64 (zem+(1:Int)))))
def zwU (P2:Int→Bool) (zaa:(Sl Gate)) (P3:Int→Int→Int→Bool) (iv3:Int) (jv3:Int) (zem:Int):Bool :=
  (cond (decide (jv3 < (zaa.len : Int)))
 (decide ((p84 zaa (⟨2,zcQ (zdg [(zat iv3),(zat jv3)])⟩:(Sl Int))=true)) &&
 (zwQ P2 P3 zaa iv3 jv3 zem (!(s84 zaa (⟨2,zcQ (zdg [(zat iv3),(zat jv3)])⟩:(Sl Int))))))
 (P2 (w64 (zem+(1:Int)))))
def zwV (S2:Int→((Sl Int)×Int)) (zaa:(Sl Gate)):Nat→Int→Int→Int→((Sl Int)×Int):=lpO (fun _ _ _=>default) (zwT S2 zaa)
def zwW (P2:Int→Bool) (zaa:(Sl Gate)):Nat→Int→Int→Int→Bool:=lpO (fun _ _ _=>false) (zwU P2 zaa)
def zwX (S2:Int→((Sl Int)×Int)) (zaa:(Sl Gate)) (iv3:Int) (jv3:Int) (zem:Int):((Sl Int)×Int):=zwV S2 zaa Fuel iv3 jv3 zem
def zwY (P2:Int→Bool) (zaa:(Sl Gate)) (iv3:Int) (jv3:Int) (zem:Int):Bool:=zwW P2 zaa Fuel iv3 jv3 zem
theorem zEM (hX2:zAS K zaa X2 P2 S2) (hs:zwY P2 zaa iv3 jv3 zem=true) (hk:K (e38 (zwX S2 zaa iv3 jv3 zem))):z38 (Wk K) [1,1,1,0,1,0,0,1,1,0,0,1,1,0] [X2] (zCc zaa iv3 jv3 zem) :=
  zl (fun X=>z38 (Wk K) [1,1,1,0,1,0,0,1,1,0,0,1,1,0,0] [X2,X]) (by kernel_rfl) fun X3 hX =>
  (show ∀ k, zEE K zaa X3 (zwW P2 zaa k) (zwV S2 zaa k) from zgL _ _ (zwU P2 zaa) (zwT S2 zaa) (zEE K zaa X3)
 (by intro _ _ _ hs;exact absurd hs Bool.false_ne_true)
 (by intro P3 S3 hX3 iv3 jv3 zem hs hk;exact hX _ (zax (by kernel_rfl) (zc hs hk (fun hs hk=>(zaw hs fun hc hs=>And.intro (And.intro (zE enc_55 3 zaa.get) (And.intro ((zfB []):IsE zat 1 1 (zdg [(zat iv3),(zat jv3)])) hc)) (zEK hX2 hX3 hs hk))) (fun hs hk=>(hX2 hs hk)))))) _ hs hk
def zwZ (zaa:(Sl Gate)) (S2:Int→((Sl Int)×Int)) (zdo:Int):((Sl Int)×Int) :=
  (cond (decide (zdo < (zaa.len : Int)))
 (zwX S2 zaa zdo (w64 (zdo+(1:Int))) zdo)
 (zwR zaa))
def zw0 (zaa:(Sl Gate)) (P2:Int→Bool) (zdo:Int):Bool :=
  (cond (decide (zdo < (zaa.len : Int)))
 (zwY P2 zaa zdo (w64 (zdo+(1:Int))) zdo)
 (zwS zaa))
def zw1 (zaa:(Sl Gate)):Nat→Int→((Sl Int)×Int):=lpO (fun _=>default) (zwZ zaa)
def zw2 (zaa:(Sl Gate)):Nat→Int→Bool:=lpO (fun _=>false) (zw0 zaa)
def zw3 (zaa:(Sl Gate)) (zdo:Int):((Sl Int)×Int):=zw1 zaa Fuel zdo
def zw4 (zaa:(Sl Gate)) (zdo:Int):Bool:=zw2 zaa Fuel zdo
theorem zEN (hs:zw4 zaa zdo=true) (hk:K (e38 (zw3 zaa zdo))):z38 (Wk K) [1,1,1,0,1,0] [] (zCb zaa zdo) :=
  zl (fun X=>z38 (Wk K) [1,1,1,0,1,0,0] [X]) (by kernel_rfl) fun X2 hX =>
  (show ∀ k, zAS K zaa X2 (zw2 zaa k) (zw1 zaa k) from zgL _ _ (zw0 zaa) (zwZ zaa) (zAS K zaa X2)
 (by intro _ hs;exact absurd hs Bool.false_ne_true)
 (by intro P2 S2 hX2 zdo hs hk;exact hX _ (zax (by kernel_rfl) (zc hs hk (fun hs hk=>(zEM hX2 hs hk)) (fun hs hk=>(zEL hs hk)))))) _ hs hk
def zw5 (zaa:(Sl Gate)):((Sl Int)×Int) :=
  (zw3 zaa (0:Int))
def zw6 (zaa:(Sl Gate)):Bool :=
  (zw4 zaa (0:Int))
theorem zEO (hs:zw6 zaa=true) (hk:K (e38 (zw5 zaa))):z38 (Wk K) [1,1] [] ⟨[(0,zS enc_55 3 zaa)],[],[]⟩:=zax (by kernel_rfl) (zEN hs hk)
def zw7 (zaa:(Sl Gate)) (zaI:Bool):((Sl Int)×Int) :=
  (cond zaI
 ((⟨0,fun _=>default⟩:(Sl Int)),(2:Int))
 (zw5 zaa))
def zw8 (zaa:(Sl Gate)) (zaI:Bool):Bool :=
  (cond zaI
 true
 (zw6 zaa))
theorem zEP (hs:zw8 zaa zaI=true) (hk:K (e38 (zw7 zaa zaI))):z38 (Wk K) [1,0,1] [] ⟨[(0,zS enc_55 3 zaa),(12,zB zaI)],[],[]⟩:=zax (by kernel_rfl) (zc hs hk (fun hs hk=>((wk hk (zc6 (.one (.nil _ _)) (zc6 (.one (.rfl _)) zhf))):Wk K [.one (.nils),.one (.int .i64 (2:Int))])) (fun hs hk=>(zEO hs hk)))
def s38 (zaa:(Sl Gate)):((Sl Int)×Int) :=
  (zw7 zaa (!(s64 zaa)))
def p38 (zaa:(Sl Gate)):Bool :=
  (decide ((p64 zaa=true)) &&
 (zw8 zaa (!(s64 zaa))))
end
theorem q38 (zaa:(Sl Gate)) (K:List PA→Prop) (hs:p38 zaa=true) (hk:K (e38 (s38 zaa))):vcFun Try.prog G38 zED 38 [.one (.sl zaa.len 3 (fun i=>enc_55 (zaa.get i)))] (Wk K) :=
  zax (by kernel_rfl) (zaw hs fun hc hs=>And.intro (And.intro (zE enc_55 3 zaa.get) hc) (zEP hs hk))
def zEQ : List PA → COut
  | [.one (.sl a0_n a0_s a0_g)]=>.det (IsE enc_55 3 a0_s a0_g∧p38 (⟨a0_n,zad a0_g⟩:(Sl Gate))=true) [.one (.sl (((s38 (⟨a0_n,zad a0_g⟩:(Sl Gate))).1).len) 1 (fun i=>zat (((s38 (⟨a0_n,zad a0_g⟩:(Sl Gate))).1).get i))),.one (.int .i64 ((s38 (⟨a0_n,zad a0_g⟩:(Sl Gate))).2))]
  | _=>.no
theorem zIJ:zai Try.prog 38:=⟨_,rfl,rfl,by kernel_rfl⟩
theorem zN3:Ok Try.prog 38 zEQ:=zhg zLi zIJ fun args K h=>by
  unfold zEQ at h
  split at h
  · rename_i a0_n a0_s a0_g
    obtain ⟨⟨⟨rfl,a0_f,rfl⟩,hs⟩,hk⟩:=h
    try rw [zac a0_f] at hs
    try rw [zac a0_f] at hk
    exact ⟨_,ze8 zfV _,(fun _ _=>[]),(fun _=>false),zED,q38 (⟨a0_n,a0_f⟩:(Sl Gate)) K hs hk⟩
  · exact h.elim
abbrev T39:Tabs:=Tabs.nil
theorem zLj:TabsOk Try.prog T39:=TabsOk.nil
abbrev G39:Ctrs:=csm T39 (fun _ _=>[]) (fun _=>false)
def zER:Ann:=⟨46,[(0,zK [0,1] []),(1,zK [0,1,5] []),(2,zK [0,1,5,15] []),(3,zK [0,1,5] []),(4,zK [0,1,5,26] []),(5,zK [4] []),(6,zK [0,1,5,35] []),(7,zK [4] []),(8,zK [0,1,40] []),(9,zK [4] []),(10,zK [45] []),(11,zK [4] []),(12,zK [4] [])],
 [(2,zK [0,1,5] [])],
 [(8,zK [0,1] [])],
 [],[]⟩
abbrev R39:=Int
abbrev e39 (r:R39):List PA:=[.one (.int .i64 r)]
@[irreducible] def z39:=ptF Try.prog G39 zER Try.f39
def zCg (a:(Sl Int)) (b:(Sl Int)) (iv0:Int):St:=⟨[(0,zS zat 1 a),(1,zS zat 1 b),(5,zI iv0)],[],[]⟩
abbrev zIK (K:List PA→Prop) (a:(Sl Int)) (b:(Sl Int)) (X:St→Prop) (P:Int→Bool) (S:Int→Int):Prop:=∀ ⦃iv0:Int⦄,P iv0=true→K (e39 (S iv0))→X (zCg a b iv0)
section
variable {K:List PA→Prop} {a:(Sl Int)} {b:(Sl Int)} {iv0:Int} {X0:St→Prop} {P0:Int→Bool} {S0:Int→Int}
def zqf (a:(Sl Int)) (b:(Sl Int)):Int :=
  (cond (decide ((a.len : Int) < (b.len : Int)))
 (-1:Int)
 (cond (decide ((a.len : Int) > (b.len : Int)))
 (1:Int)
 (0:Int)))
theorem zw9 (hk:K (e39 (zqf a b))):z39 K [1,1] [] ⟨[(0,zS zat 1 a),(1,zS zat 1 b)],[],[]⟩:=zax (by kernel_rfl) (zt hk (fun hk=>hk) (fun hk=>(zt hk (fun hk=>hk) (fun hk=>hk))))
def zxa (a:(Sl Int)) (b:(Sl Int)) (S0:Int→Int) (iv0:Int):Int :=
  (cond (decide (iv0 < (a.len : Int)))
 (cond (decide (iv0 < (b.len : Int)))
 (cond (decide ((a.get iv0.toNat) < (b.get iv0.toNat)))
 (-1:Int)
 (cond (decide ((a.get iv0.toNat) > (b.get iv0.toNat)))
 (1:Int)
 (S0 (w64 (iv0+(1:Int))))))
 (zqf a b))
 (zqf a b))
def zxb (a:(Sl Int)) (b:(Sl Int)) (P0:Int→Bool) (iv0:Int):Bool :=
  (cond (decide (iv0 < (a.len : Int)))
 (cond (decide (iv0 < (b.len : Int)))
 (decide ((0≤iv0∧iv0 < (a.len:Int))) &&
 (decide ((0≤iv0∧iv0 < (b.len:Int))) &&
 (cond (decide ((a.get iv0.toNat) < (b.get iv0.toNat)))
 true
 (decide ((0≤iv0∧iv0 < (a.len:Int))) &&
 (decide ((0≤iv0∧iv0 < (b.len:Int))) &&
 (cond (decide ((a.get iv0.toNat) > (b.get iv0.toNat)))
 true
 (P0 (w64 (iv0+(1:Int))))))))))
 true)
 true)
def zxc (a:(Sl Int)) (b:(Sl Int)):Nat→Int→Int:=lpO (fun _=>default) (zxa a b)
def zxd (a:(Sl Int)) (b:(Sl Int)):Nat→Int→Bool:=lpO (fun _=>false) (zxb a b)
def zxe (a:(Sl Int)) (b:(Sl Int)) (iv0:Int):Int:=zxc a b Fuel iv0
def zxf (a:(Sl Int)) (b:(Sl Int)) (iv0:Int):Bool:=zxd a b Fuel iv0
theorem zES (hs:zxf a b iv0=true) (hk:K (e39 (zxe a b iv0))):z39 K [1,0,1,0] [] (zCg a b iv0) :=
  zl (fun X=>z39 K [1,0,1,0,0] [X]) (by kernel_rfl) fun X0 hX =>
  (show ∀ k, zIK K a b X0 (zxd a b k) (zxc a b k) from zgL _ _ (zxb a b) (zxa a b) (zIK K a b X0)
 (by intro _ hs;exact absurd hs Bool.false_ne_true)
 (by intro P0 S0 hX0 iv0 hs hk;exact hX _ (zax (by kernel_rfl) (zc hs hk (fun hs hk=>(zc hs hk (fun hs hk=>(zaw hs fun hc hs=>And.intro hc (zaw hs fun hc hs=>And.intro hc (zc hs hk (fun hs hk=>hk) (fun hs hk=>(zaw hs fun hc hs=>And.intro hc (zaw hs fun hc hs=>And.intro hc (zc hs hk (fun hs hk=>hk) (fun hs hk=>(hX0 hs hk)))))))))) (fun hs hk=>(zw9 hk)))) (fun hs hk=>(zw9 hk)))))) _ hs hk
def s39 (a:(Sl Int)) (b:(Sl Int)):Int :=
  (zxe a b (0:Int))
def p39 (a:(Sl Int)) (b:(Sl Int)):Bool :=
  (zxf a b (0:Int))
end
theorem q39 (a:(Sl Int)) (b:(Sl Int)) (K:List PA→Prop) (hs:p39 a b=true) (hk:K (e39 (s39 a b))):vcFun Try.prog G39 zER 39 [.one (.sl a.len 1 (fun i=>zat (a.get i))),.one (.sl b.len 1 (fun i=>zat (b.get i)))] K :=
  zax (by kernel_rfl) (zES hs hk)
def zET : List PA → COut
  | [.one (.sl a0_n a0_s a0_g),.one (.sl a1_n a1_s a1_g)]=>.det (IsE zat 1 a0_s a0_g∧IsE zat 1 a1_s a1_g∧p39 (⟨a0_n,zcQ a0_g⟩:(Sl Int)) (⟨a1_n,zcQ a1_g⟩:(Sl Int))=true) [.one (.int .i64 (s39 (⟨a0_n,zcQ a0_g⟩:(Sl Int)) (⟨a1_n,zcQ a1_g⟩:(Sl Int))))]
  | _=>.no
theorem zIL:zai Try.prog 39:=⟨_,rfl,rfl,by kernel_rfl⟩
theorem zN4:Ok Try.prog 39 zET:=zaG zLj zIL fun args K h=>by
  unfold zET at h
  split at h
  · rename_i a0_n a0_s a0_g a1_n a1_s a1_g
    obtain ⟨⟨⟨rfl,a0_f,rfl⟩,⟨rfl,a1_f,rfl⟩,hs⟩,hk⟩:=h
    try rw [zdu a0_f] at hs
    try rw [zdu a0_f] at hk
    try rw [zdu a1_f] at hs
    try rw [zdu a1_f] at hk
    exact ⟨(fun _ _=>[]),(fun _=>false),zER,q39 (⟨a0_n,a0_f⟩:(Sl Int)) (⟨a1_n,a1_f⟩:(Sl Int)) K hs hk⟩
  · exact h.elim
abbrev T73:Tabs:=Tabs.nil
theorem zLk:TabsOk Try.prog T73:=TabsOk.nil
abbrev G73:Ctrs:=csm T73 (fun _ _=>[]) (fun _=>false)
def zEU:Ann:=⟨12,[(0,zK [0,1] []),(1,zK [0,1,6] []),(2,zK [0,1] []),(3,zK [4] [])],
 [(1,zK [0,1] [])],
 [],
 [],[]⟩
abbrev R73:=Int
abbrev e73 (r:R73):List PA:=[.one (.int .i64 r)]
@[irreducible] def z73:=ptF Try.prog G73 zEU Try.f73
def zCh (av0:Int) (bv0:Int):St:=⟨[(0,zI av0),(1,zI bv0)],[],[]⟩
abbrev zIM (K:List PA→Prop) (X:St→Prop) (P:Int→Int→Bool) (S:Int→Int→Int):Prop:=∀ ⦃av0:Int⦄ ⦃bv0:Int⦄,P av0 bv0=true→K (e73 (S av0 bv0))→X (zCh av0 bv0)
section
variable {K:List PA→Prop} {a:Int} {b:Int} {av0:Int} {bv0:Int} {X0:St→Prop} {P0:Int→Int→Bool} {S0:Int→Int→Int}
def zmy (S0:Int→Int→Int) (av0:Int) (bv0:Int):Int :=
  (cond (bv0 != (0:Int))
 (S0 bv0 (av0.tmod bv0))
 av0)
def zmz (P0:Int→Int→Bool) (av0:Int) (bv0:Int):Bool :=
  (cond (bv0 != (0:Int))
 (decide ((bv0 ≠ 0)) &&
 (P0 bv0 (av0.tmod bv0)))
 true)
def zmA:Nat→Int→Int→Int:=lpO (fun _ _=>default) (zmy)
def zmB:Nat→Int→Int→Bool:=lpO (fun _ _=>false) (zmz)
def zxg (av0:Int) (bv0:Int):Int:=zmA Fuel av0 bv0
def zxh (av0:Int) (bv0:Int):Bool:=zmB Fuel av0 bv0
theorem zEV (hs:zxh av0 bv0=true) (hk:K (e73 (zxg av0 bv0))):z73 K [1,0,0] [] (zCh av0 bv0) :=
  zl (fun X=>z73 K [1,0,0,0] [X]) (by kernel_rfl) fun X0 hX =>
  (show ∀ k, zIM K X0 (zmB k) (zmA k) from zgL _ _ (zmz) (zmy) (zIM K X0)
 (by intro _ _ hs;exact absurd hs Bool.false_ne_true)
 (by intro P0 S0 hX0 av0 bv0 hs hk;exact hX _ (zax (by kernel_rfl) (zc hs hk (fun hs hk=>(zaw hs fun hc hs=>And.intro hc (hX0 hs hk))) (fun hs hk=>hk))))) _ hs hk
def s73 (a:Int) (b:Int):Int :=
  (zxg a b)
def p73 (a:Int) (b:Int):Bool :=
  (zxh a b)
end
theorem q73 (a:Int) (b:Int) (K:List PA→Prop) (hs:p73 a b=true) (hk:K (e73 (s73 a b))):vcFun Try.prog G73 zEU 73 [.one (.int .i64 a),.one (.int .i64 b)] K :=
  zax (by kernel_rfl) (zEV hs hk)
def zAU : List PA → COut
  | [.one (.int .i64 a0),.one (.int .i64 a1)]=>.det (p73 a0 a1=true) [.one (.int .i64 (s73 a0 a1))]
  | _=>.no
theorem zIN:zai Try.prog 73:=⟨_,rfl,rfl,by kernel_rfl⟩
theorem zN5:Ok Try.prog 73 zAU:=zaG zLk zIN fun args K h=>by
  unfold zAU at h
  split at h
  · rename_i a0 a1
    obtain ⟨hs,hk⟩:=h
    exact ⟨(fun _ _=>[]),(fun _=>false),zEU,q73 a0 a1 K hs hk⟩
  · exact h.elim
abbrev T40:Tabs:=(Tabs.nil.addF 73 zAU)
theorem zLl:TabsOk Try.prog T40:=(TabsOk.nil.addF zN5)
abbrev G40:Ctrs:=csm T40 (fun _ _=>[]) (fun _=>false)
def zIO:Ann:=⟨19,[(0,zK [0,1,4] [4]),(1,zK [0,1,4,5] [4]),(2,zK [4] [4])],
 [],
 [],
 [],[]⟩
abbrev R40:=Frac
abbrev e40 (r:R40):List PA:=[.agg [.int .i64 r.Num,.int .i64 r.Den]]
section
variable {K:List PA→Prop} {num:Int} {den:Int}
def s40 (num:Int) (den:Int):Frac :=
  (⟨(w64 (num.tdiv (s73 (if (w64 (0 - num)) > num then (w64 (0 - num)) else num) den))),(w64 (den.tdiv (s73 (if (w64 (0 - num)) > num then (w64 (0 - num)) else num) den)))⟩:Frac)
def p40 (num:Int) (den:Int):Bool :=
  (decide ((p73 (if (w64 (0 - num)) > num then (w64 (0 - num)) else num) den=true)) &&
 (decide (((s73 (if (w64 (0 - num)) > num then (w64 (0 - num)) else num) den) ≠ 0)) &&
 (decide (((s73 (if (w64 (0 - num)) > num then (w64 (0 - num)) else num) den) ≠ 0)) &&
 true)))
end
theorem q40 (num:Int) (den:Int) (K:List PA→Prop) (hs:p40 num den=true) (hk:K (e40 (s40 num den))):vcFun Try.prog G40 zIO 40 [.one (.int .i64 num),.one (.int .i64 den)] K :=
  zax (by kernel_rfl) (zaw hs fun hc hs=>And.intro hc (zaw hs fun hc hs=>And.intro hc (zaw hs fun hc hs=>And.intro hc hk)))
def ztp : List PA → COut
  | [.one (.int .i64 a0),.one (.int .i64 a1)]=>.det (p40 a0 a1=true) [.agg [.int .i64 ((s40 a0 a1).Num),.int .i64 ((s40 a0 a1).Den)]]
  | _=>.no
theorem zIP:zai Try.prog 40:=⟨_,rfl,rfl,by kernel_rfl⟩
theorem zN6:Ok Try.prog 40 ztp:=zaG zLl zIP fun args K h=>by
  unfold ztp at h
  split at h
  · rename_i a0 a1
    obtain ⟨hs,hk⟩:=h
    exact ⟨(fun _ _=>[]),(fun _=>false),zIO,q40 a0 a1 K hs hk⟩
  · exact h.elim
abbrev T85:Tabs:=Tabs.nil
theorem zLm:TabsOk Try.prog T85:=TabsOk.nil
abbrev G85:Ctrs:=csm T85 (fun _ _=>[]) (fun _=>false)
def zIQ:Ann:=⟨47,[(0,zK [0,1,2,3,4,5] []),(1,zK [0,1,2,13] []),(2,zK [13,14] []),(3,zK [12] [])],
 [],
 [],
 [],[]⟩
abbrev R85:=Int
abbrev e85 (r:R85):List PA:=[.one (.int .i64 r)]
section
variable {K:List PA→Prop} {u:Int} {v:Int} {w:Int} {p:Int} {q:Int} {r_a5:Int}
def s85 (u:Int) (v:Int) (w:Int) (p:Int) (q:Int) (r_a5:Int):Int :=
  (w64 ((w64 ((w64 ((w64 ((1000:Int) * (if (w64 (0 - (w64 ((w64 ((w64 (r_a5 - q)) * (w64 (v - u)))) - (w64 ((w64 (q - p)) * (w64 (w - v)))))))) > (w64 ((w64 ((w64 (r_a5 - q)) * (w64 (v - u)))) - (w64 ((w64 (q - p)) * (w64 (w - v)))))) then (w64 (0 - (w64 ((w64 ((w64 (r_a5 - q)) * (w64 (v - u)))) - (w64 ((w64 (q - p)) * (w64 (w - v)))))))) else (w64 ((w64 ((w64 (r_a5 - q)) * (w64 (v - u)))) - (w64 ((w64 (q - p)) * (w64 (w - v)))))))))+(w64 ((w64 (v - u)) * (w64 (w - v)))))) - (1:Int))).tdiv (w64 ((w64 (v - u)) * (w64 (w - v))))))
def p85 (u:Int) (v:Int) (w:Int) (p:Int) (q:Int) (r_a5:Int):Bool :=
  (decide (((w64 ((w64 (v - u)) * (w64 (w - v)))) ≠ 0)) &&
 true)
end
theorem q85 (u:Int) (v:Int) (w:Int) (p:Int) (q:Int) (r_a5:Int) (K:List PA→Prop) (hs:p85 u v w p q r_a5=true) (hk:K (e85 (s85 u v w p q r_a5))):vcFun Try.prog G85 zIQ 85 [.one (.int .i64 u),.one (.int .i64 v),.one (.int .i64 w),.one (.int .i64 p),.one (.int .i64 q),.one (.int .i64 r_a5)] K :=
  zax (by kernel_rfl) (zaw hs fun hc hs=>And.intro hc hk)
def zAV : List PA → COut
  | [.one (.int .i64 a0),.one (.int .i64 a1),.one (.int .i64 a2),.one (.int .i64 a3),.one (.int .i64 a4),.one (.int .i64 a5)]=>.det (p85 a0 a1 a2 a3 a4 a5=true) [.one (.int .i64 (s85 a0 a1 a2 a3 a4 a5))]
  | _=>.no
theorem zIR:zai Try.prog 85:=⟨_,rfl,rfl,by kernel_rfl⟩
theorem zMB:Ok Try.prog 85 zAV:=zaG zLm zIR fun args K h=>by
  unfold zAV at h
  split at h
  · rename_i a0 a1 a2 a3 a4 a5
    obtain ⟨hs,hk⟩:=h
    exact ⟨(fun _ _=>[]),(fun _=>false),zIQ,q85 a0 a1 a2 a3 a4 a5 K hs hk⟩
  · exact h.elim
abbrev T92:Tabs:=((Tabs.nil.addF 64 ztl).addF 74 zpl)
theorem zLn:TabsOk Try.prog T92:=((TabsOk.nil.addF zJ3).addF zHy)
abbrev G92:Ctrs:=csm T92 (fun _ _=>[]) (fun _=>false)
def zEW:Ann:=⟨41,[(0,zK [0] []),(1,zK [0,5,6,7] []),(2,zK [0,5,6,7,8] []),(3,zK [0,3,4,5,6,7] [4]),(4,zK [0,5,6,7,32] []),(5,zK [2] []),(6,zK [0,5,6,7] []),(7,zK [2] [])],
 [(2,zK [0,5,6,7] [])],
 [],
 [],[]⟩
abbrev R92:=Bool
abbrev e92 (r:R92):List PA:=[.one (.bool r)]
@[irreducible] def z92:=ptF Try.prog G92 zEW Try.f92
def zCi (zaa:(Sl Gate)) (zaV:Int):St:=⟨[(0,zS enc_55 3 zaa),(5,zS enc_55 3 zaa),(6,zI (zaa.len:Int)),(7,zI zaV)],[],[]⟩
abbrev zIS (K:List PA→Prop) (zaa:(Sl Gate)) (X:St→Prop) (P:Int→Bool) (S:Int→Bool):Prop:=∀ ⦃zaV:Int⦄,P zaV=true→K (e92 (S zaV))→X (zCi zaa zaV)
section
variable {K:List PA→Prop} {zaa:(Sl Gate)} {zaV:Int} {X0:St→Prop} {P0:Int→Bool} {S0:Int→Bool}
def zxi (zaa:(Sl Gate)) (S0:Int→Bool) (zaV:Int):Bool :=
  (cond (decide (zaV < (zaa.len : Int)))
 (cond (decide ((w64 ((zaa.get zaV.toNat).High - (zaa.get zaV.toNat).Low)) > (60:Int)))
 false
 (cond (decide (zaV > (0:Int)))
 (cond (decide ((zaa.get zaV.toNat).Z ≤ (zaa.get ((w64 (zaV - (1:Int))).toNat)).Z))
 false
 (S0 (w64 (zaV+(1:Int)))))
 (S0 (w64 (zaV+(1:Int))))))
 (cond (s74 (zaa.len : Int) (2:Int) (8:Int))
 (s64 zaa)
 false))
def zxj (zaa:(Sl Gate)) (P0:Int→Bool) (zaV:Int):Bool :=
  (cond (decide (zaV < (zaa.len : Int)))
 (decide ((0≤zaV∧zaV < (zaa.len:Int))) &&
 (cond (decide ((w64 ((zaa.get zaV.toNat).High - (zaa.get zaV.toNat).Low)) > (60:Int)))
 true
 (cond (decide (zaV > (0:Int)))
 (decide ((0≤(w64 (zaV - (1:Int)))∧(w64 (zaV - (1:Int))) < (zaa.len:Int))) &&
 (cond (decide ((zaa.get zaV.toNat).Z ≤ (zaa.get ((w64 (zaV - (1:Int))).toNat)).Z))
 true
 (P0 (w64 (zaV+(1:Int))))))
 (P0 (w64 (zaV+(1:Int)))))))
 (cond (s74 (zaa.len : Int) (2:Int) (8:Int))
 (decide ((p64 zaa=true)) &&
 true)
 true))
def zxk (zaa:(Sl Gate)):Nat→Int→Bool:=lpO (fun _=>default) (zxi zaa)
def zxl (zaa:(Sl Gate)):Nat→Int→Bool:=lpO (fun _=>false) (zxj zaa)
def zxm (zaa:(Sl Gate)) (zaV:Int):Bool:=zxk zaa Fuel zaV
def zxn (zaa:(Sl Gate)) (zaV:Int):Bool:=zxl zaa Fuel zaV
theorem zEX (hs:zxn zaa zaV=true) (hk:K (e92 (zxm zaa zaV))):z92 K [1,0,1,0] [] (zCi zaa zaV) :=
  zl (fun X=>z92 K [1,0,1,0,0] [X]) (by kernel_rfl) fun X0 hX =>
  (show ∀ k, zIS K zaa X0 (zxl zaa k) (zxk zaa k) from zgL _ _ (zxj zaa) (zxi zaa) (zIS K zaa X0)
 (by intro _ hs;exact absurd hs Bool.false_ne_true)
 (by intro P0 S0 hX0 zaV hs hk;exact hX _ (zax (by kernel_rfl) (zc hs hk (fun hs hk=>(zaw hs fun hc hs=>And.intro hc (zc hs hk (fun hs hk=>hk) (fun hs hk=>(zc hs hk (fun hs hk=>(zaw hs fun hc hs=>And.intro hc (zc hs hk (fun hs hk=>hk) (fun hs hk=>(hX0 hs hk))))) (fun hs hk=>(hX0 hs hk))))))) (fun hs hk=>(zc hs hk (fun hs hk=>(zaw hs fun hc hs=>And.intro (And.intro (zE enc_55 3 zaa.get) hc) hk)) (fun hs hk=>hk))))))) _ hs hk
def s92 (zaa:(Sl Gate)):Bool :=
  (zxm zaa (0:Int))
def p92 (zaa:(Sl Gate)):Bool :=
  (zxn zaa (0:Int))
end
theorem q92 (zaa:(Sl Gate)) (K:List PA→Prop) (hs:p92 zaa=true) (hk:K (e92 (s92 zaa))):vcFun Try.prog G92 zEW 92 [.one (.sl zaa.len 3 (fun i=>enc_55 (zaa.get i)))] K :=
  zax (by kernel_rfl) (zEX hs hk)
def zEY : List PA → COut
  | [.one (.sl a0_n a0_s a0_g)]=>.det (IsE enc_55 3 a0_s a0_g∧p92 (⟨a0_n,zad a0_g⟩:(Sl Gate))=true) [.one (.bool (s92 (⟨a0_n,zad a0_g⟩:(Sl Gate))))]
  | _=>.no
theorem zIT:zai Try.prog 92:=⟨_,rfl,rfl,by kernel_rfl⟩
theorem zN7:Ok Try.prog 92 zEY:=zaG zLn zIT fun args K h=>by
  unfold zEY at h
  split at h
  · rename_i a0_n a0_s a0_g
    obtain ⟨⟨⟨rfl,a0_f,rfl⟩,hs⟩,hk⟩:=h
    try rw [zac a0_f] at hs
    try rw [zac a0_f] at hk
    exact ⟨(fun _ _=>[]),(fun _=>false),zEW,q92 (⟨a0_n,a0_f⟩:(Sl Gate)) K hs hk⟩
  · exact h.elim
abbrev T93:Tabs:=(Tabs.nil.addF 85 zAV)
theorem zLo:TabsOk Try.prog T93:=(TabsOk.nil.addF zMB)
abbrev G93:Ctrs:=csm T93 (fun _ _=>[]) (fun l=>Nat.beq l 15 || Nat.beq l 24)
def zEZ:Ann:=⟨131,[(0,zK [0] []),(1,zK [0,3] []),(2,zK [0,3,4] [15]),(3,zK [0,3,4,5] [15]),(4,zK [0,3,4,5,19] [15]),(5,zK [0,3,4,5] [15]),(6,zK [0,3,4,5] [15]),(7,zK [0,3,4,5,6] [15]),(8,zK [0,3,4,5,6,37] [15]),(9,zK [0,3,4,5,6] [15]),(10,zK [0,3,4,5,6,7] [15]),(11,zK [0,3,4,5,6,7,53] [15]),(12,zK [0,3,4,5,6,7] [15]),(13,zK [0,3,4,5,6,7,59] [15]),(14,zK [0,3,4,5,6,7] [15]),(15,zK [0,3,4,5,6,7,8] [15]),(16,zK [0,3,4,5,6,7,8,9] [15]),(17,zK [0,3,4,5,6,7,8,9,80] [15]),(18,zK [0,3,4,5,6,7,8,9] [15]),(19,zK [0,3,4,5,6,7,8,9,10] [15]),(20,zK [0,3,4,5,6,7,8,9,10,120] [15]),(21,zK [0,3,4,5,6,7,8,9] [15]),(22,zK [0,3,4,5,6,7] [15]),(23,zK [2] [15])],
 [(4,zK [0,3,4,5] [15]),(8,zK [0,3,4,5,6] [15]),(11,zK [0,3,4,5,6,7] [15]),(17,zK [0,3,4,5,6,7,8,9] [15])],
 [(15,zK [0,3,4,5,6,7] [15]),(20,zK [0,3,4,5,6,7,8,9,10] [15])],
 [],[]⟩
abbrev R93:=(Sl Mp)
abbrev e93 (r:R93):List PA:=[.one (.sl r.len 1 (fun i=>zcC (r.get i)))]
@[irreducible] def z93:=ptF Try.prog G93 zEZ Try.f93
def zCj (zaa:(Sl Gate)) (iv0:Int) (zbE:Nat) (zbs:(Nat→Bool)) (zbt:(Nat→Nat)) (zbV:(Nat→List Int→Option (List Int))):St:=⟨[(0,zS enc_55 3 zaa),(3,zI (zaa.len:Int)),(4,zv 15),(5,zI iv0)],[(15,.vm 129 8 131 3 (true,2,false,[some .i64]) zbE zbs zbt zbV)],[]⟩
abbrev zqg (K:List PA→Prop) (zaa:(Sl Gate)) (X:St→Prop) (P:Int→Nat→(Nat→Bool)→(Nat→Nat)→(Nat→List Int→Option (List Int))→Bool) (S:Int→Nat→(Nat→Bool)→(Nat→Nat)→(Nat→List Int→Option (List Int))→(Sl Mp)):Prop:=∀ ⦃iv0:Int⦄ ⦃zbE:Nat⦄ ⦃zbs:(Nat→Bool)⦄ ⦃zbt:(Nat→Nat)⦄ ⦃zbV:(Nat→List Int→Option (List Int))⦄,P iv0 zbE zbs zbt zbV=true→K (e93 (S iv0 zbE zbs zbt zbV))→X (zCj zaa iv0 zbE zbs zbt zbV)
def zCk (zaa:(Sl Gate)) (iv1:Int) (pv1:Int) (zbM:Nat) (zbl:(Nat→Bool)) (zbm:(Nat→Nat)) (zbN:(Nat→List Int→Option (List Int))):St:=⟨[(0,zS enc_55 3 zaa),(3,zI (zaa.len:Int)),(4,zv 15),(5,zI iv1),(6,zI pv1)],[(15,.vm 129 8 131 3 (true,2,false,[some .i64]) zbM zbl zbm zbN)],[]⟩
abbrev ztq (K:List PA→Prop) (zaa:(Sl Gate)) (X:St→Prop) (P:Int→Int→Nat→(Nat→Bool)→(Nat→Nat)→(Nat→List Int→Option (List Int))→Bool) (S:Int→Int→Nat→(Nat→Bool)→(Nat→Nat)→(Nat→List Int→Option (List Int))→(Sl Mp)):Prop:=∀ ⦃iv1:Int⦄ ⦃pv1:Int⦄ ⦃zbM:Nat⦄ ⦃zbl:(Nat→Bool)⦄ ⦃zbm:(Nat→Nat)⦄ ⦃zbN:(Nat→List Int→Option (List Int))⦄,P iv1 pv1 zbM zbl zbm zbN=true→K (e93 (S iv1 pv1 zbM zbl zbm zbN))→X (zCk zaa iv1 pv1 zbM zbl zbm zbN)
def zCl (zaa:(Sl Gate)) (iv2:Int) (pv2:Int) (qv2:Int) (zbn:Nat) (za3:(Nat→Bool)) (zaW:(Nat→Nat)) (zbf:(Nat→List Int→Option (List Int))):St:=⟨[(0,zS enc_55 3 zaa),(3,zI (zaa.len:Int)),(4,zv 15),(5,zI iv2),(6,zI pv2),(7,zI qv2)],[(15,.vm 129 8 131 3 (true,2,false,[some .i64]) zbn za3 zaW zbf)],[]⟩
abbrev zxo (K:List PA→Prop) (zaa:(Sl Gate)) (X:St→Prop) (P:Int→Int→Int→Nat→(Nat→Bool)→(Nat→Nat)→(Nat→List Int→Option (List Int))→Bool) (S:Int→Int→Int→Nat→(Nat→Bool)→(Nat→Nat)→(Nat→List Int→Option (List Int))→(Sl Mp)):Prop:=∀ ⦃iv2:Int⦄ ⦃pv2:Int⦄ ⦃qv2:Int⦄ ⦃zbn:Nat⦄ ⦃za3:(Nat→Bool)⦄ ⦃zaW:(Nat→Nat)⦄ ⦃zbf:(Nat→List Int→Option (List Int))⦄,P iv2 pv2 qv2 zbn za3 zaW zbf=true→K (e93 (S iv2 pv2 qv2 zbn za3 zaW zbf))→X (zCl zaa iv2 pv2 qv2 zbn za3 zaW zbf)
def zCm (zaa:(Sl Gate)) (qv3:Int) (iv4:Int) (pv4:Int) (zcv:Int) (rv4:Int) (zbg:Nat) (za7:(Nat→Bool)) (za8:(Nat→Nat)) (za6:(Nat→List Int→Option (List Int))):St:=⟨[(0,zS enc_55 3 zaa),(3,zI (zaa.len:Int)),(4,zv 15),(5,zI iv4),(6,zI pv4),(7,zI qv3),(8,zI zcv),(9,zI rv4)],[(15,.vm 129 8 131 3 (true,2,false,[some .i64]) zbg za7 za8 za6)],[]⟩
abbrev zE0 (K:List PA→Prop) (zaa:(Sl Gate)) (qv3:Int) (X:St→Prop) (P:Int→Int→Int→Int→Nat→(Nat→Bool)→(Nat→Nat)→(Nat→List Int→Option (List Int))→Bool) (S:Int→Int→Int→Int→Nat→(Nat→Bool)→(Nat→Nat)→(Nat→List Int→Option (List Int))→(Sl Mp)):Prop:=∀ ⦃iv4:Int⦄ ⦃pv4:Int⦄ ⦃zcv:Int⦄ ⦃rv4:Int⦄ ⦃zbg:Nat⦄ ⦃za7:(Nat→Bool)⦄ ⦃za8:(Nat→Nat)⦄ ⦃za6:(Nat→List Int→Option (List Int))⦄,P iv4 pv4 zcv rv4 zbg za7 za8 za6=true→K (e93 (S iv4 pv4 zcv rv4 zbg za7 za8 za6))→X (zCm zaa qv3 iv4 pv4 zcv rv4 zbg za7 za8 za6)
section
variable {K:List PA→Prop} {zaa:(Sl Gate)} {iv0:Int} {zbE:Nat} {zbs:(Nat→Bool)} {zbt:(Nat→Nat)} {zbV:(Nat→List Int→Option (List Int))} {X0:St→Prop} {P0:Int→Nat→(Nat→Bool)→(Nat→Nat)→(Nat→List Int→Option (List Int))→Bool} {S0:Int→Nat→(Nat→Bool)→(Nat→Nat)→(Nat→List Int→Option (List Int))→(Sl Mp)} {iv1:Int} {pv1:Int} {zbM:Nat} {zbl:(Nat→Bool)} {zbm:(Nat→Nat)} {zbN:(Nat→List Int→Option (List Int))} {X1:St→Prop} {P1:Int→Int→Nat→(Nat→Bool)→(Nat→Nat)→(Nat→List Int→Option (List Int))→Bool} {S1:Int→Int→Nat→(Nat→Bool)→(Nat→Nat)→(Nat→List Int→Option (List Int))→(Sl Mp)} {iv2:Int} {pv2:Int} {qv2:Int} {zbn:Nat} {za3:(Nat→Bool)} {zaW:(Nat→Nat)} {zbf:(Nat→List Int→Option (List Int))} {X2:St→Prop} {P2:Int→Int→Int→Nat→(Nat→Bool)→(Nat→Nat)→(Nat→List Int→Option (List Int))→Bool} {S2:Int→Int→Int→Nat→(Nat→Bool)→(Nat→Nat)→(Nat→List Int→Option (List Int))→(Sl Mp)} {iv3:Int} {pv3:Int} {qv3:Int} {zgi:Nat} {zeM:(Nat→Bool)} {zeN:(Nat→Nat)} {zgj:(Nat→List Int→Option (List Int))} {iv4:Int} {pv4:Int} {zcv:Int} {rv4:Int} {zbg:Nat} {za7:(Nat→Bool)} {za8:(Nat→Nat)} {za6:(Nat→List Int→Option (List Int))} {X4:St→Prop} {P4:Int→Int→Int→Int→Nat→(Nat→Bool)→(Nat→Nat)→(Nat→List Int→Option (List Int))→Bool} {S4:Int→Int→Int→Int→Nat→(Nat→Bool)→(Nat→Nat)→(Nat→List Int→Option (List Int))→(Sl Mp)} {iv5:Int} {pv5:Int} {zfo:Int} {rv5:Int} {kv5:Int} {zdH:Nat} {zcG:(Nat→Bool)} {zcH:(Nat→Nat)} {zdI:(Nat→List Int→Option (List Int))}
def zxp (S0:Int→Nat→(Nat→Bool)→(Nat→Nat)→(Nat→List Int→Option (List Int))→(Sl Mp)) (S1:Int→Int→Nat→(Nat→Bool)→(Nat→Nat)→(Nat→List Int→Option (List Int))→(Sl Mp)) (S2:Int→Int→Int→Nat→(Nat→Bool)→(Nat→Nat)→(Nat→List Int→Option (List Int))→(Sl Mp)) (S4:Int→Int→Int→Int→Nat→(Nat→Bool)→(Nat→Nat)→(Nat→List Int→Option (List Int))→(Sl Mp)) (zaa:(Sl Gate)) (qv3:Int) (iv5:Int) (pv5:Int) (zfo:Int) (rv5:Int) (kv5:Int) (zdH:Nat) (zcG:(Nat→Bool)) (zcH:(Nat→Nat)) (zdI:(Nat→List Int→Option (List Int))):(Sl Mp) :=
  (cond (decide (zfo < (0:Int)))
 (S4 iv5 pv5 kv5 (w64 (rv5+(1:Int))) zdH zcG zcH zdI)
 (cond (decide (kv5 < zfo))
 (S4 iv5 pv5 kv5 (w64 (rv5+(1:Int))) zdH zcG zcH zdI)
 (S4 iv5 pv5 zfo (w64 (rv5+(1:Int))) zdH zcG zcH zdI)))
def zxq (P0:Int→Nat→(Nat→Bool)→(Nat→Nat)→(Nat→List Int→Option (List Int))→Bool) (P1:Int→Int→Nat→(Nat→Bool)→(Nat→Nat)→(Nat→List Int→Option (List Int))→Bool) (P2:Int→Int→Int→Nat→(Nat→Bool)→(Nat→Nat)→(Nat→List Int→Option (List Int))→Bool) (P4:Int→Int→Int→Int→Nat→(Nat→Bool)→(Nat→Nat)→(Nat→List Int→Option (List Int))→Bool) (zaa:(Sl Gate)) (qv3:Int) (iv5:Int) (pv5:Int) (zfo:Int) (rv5:Int) (kv5:Int) (zdH:Nat) (zcG:(Nat→Bool)) (zcH:(Nat→Nat)) (zdI:(Nat→List Int→Option (List Int))):Bool :=
  (cond (decide (zfo < (0:Int)))
 (P4 iv5 pv5 kv5 (w64 (rv5+(1:Int))) zdH zcG zcH zdI)
 (cond (decide (kv5 < zfo))
 (P4 iv5 pv5 kv5 (w64 (rv5+(1:Int))) zdH zcG zcH zdI)
 (P4 iv5 pv5 zfo (w64 (rv5+(1:Int))) zdH zcG zcH zdI)))
theorem zE1 (hX0:zqg K zaa X0 P0 S0) (hX1:ztq K zaa X1 P1 S1) (hX2:zxo K zaa X2 P2 S2) (hX4:zE0 K zaa qv3 X4 P4 S4) (hs:zxq P0 P1 P2 P4 zaa qv3 iv5 pv5 zfo rv5 kv5 zdH zcG zcH zdI=true) (hk:K (e93 (zxp S0 S1 S2 S4 zaa qv3 iv5 pv5 zfo rv5 kv5 zdH zcG zcH zdI))):z93 K [1,1,1,0,1,0,0,1,0,0,1,1,0,0,1,0,0,1,0,0,1,0,0,1,1,0,1,0,0,1,0,0,1] [X0,X1,X2,X4] ⟨[(0,zS enc_55 3 zaa),(3,zI (zaa.len:Int)),(4,zv 15),(5,zI iv5),(6,zI pv5),(7,zI qv3),(8,zI zfo),(9,zI rv5),(10,zI kv5)],[(15,.vm 129 8 131 3 (true,2,false,[some .i64]) zdH zcG zcH zdI)],[]⟩:=zax (by kernel_rfl) (zc hs hk (fun hs hk=>(hX4 hs hk)) (fun hs hk=>(zc hs hk (fun hs hk=>(hX4 hs hk)) (fun hs hk=>(hX4 hs hk)))))
def zxr (S0:Int→Nat→(Nat→Bool)→(Nat→Nat)→(Nat→List Int→Option (List Int))→(Sl Mp)) (S1:Int→Int→Nat→(Nat→Bool)→(Nat→Nat)→(Nat→List Int→Option (List Int))→(Sl Mp)) (S2:Int→Int→Int→Nat→(Nat→Bool)→(Nat→Nat)→(Nat→List Int→Option (List Int))→(Sl Mp)) (zaa:(Sl Gate)) (qv3:Int) (S4:Int→Int→Int→Int→Nat→(Nat→Bool)→(Nat→Nat)→(Nat→List Int→Option (List Int))→(Sl Mp)) (iv4:Int) (pv4:Int) (zcv:Int) (rv4:Int) (zbg:Nat) (za7:(Nat→Bool)) (za8:(Nat→Nat)) (za6:(Nat→List Int→Option (List Int))):(Sl Mp) :=
  (cond (decide (rv4 ≤ (zaa.get ((w64 (iv4 + (2:Int))).toNat)).High))
 (zxp S0 S1 S2 S4 zaa qv3 iv4 pv4 zcv rv4 (if (zdW ((za6 ((w64 (iv4+(1:Int))).toNat)) [qv3,rv4]) 0) > (s85 ((zaa.get iv4.toNat).Z) ((zaa.get ((w64 (iv4+(1:Int))).toNat)).Z) ((zaa.get ((w64 (iv4+(2:Int))).toNat)).Z) pv4 qv3 rv4) then (zdW ((za6 ((w64 (iv4+(1:Int))).toNat)) [qv3,rv4]) 0) else (s85 ((zaa.get iv4.toNat).Z) ((zaa.get ((w64 (iv4+(1:Int))).toNat)).Z) ((zaa.get ((w64 (iv4+(2:Int))).toNat)).Z) pv4 qv3 rv4)) zbg za7 za8 za6)
 (S2 iv4 pv4 (w64 (qv3+(1:Int))) zbg za7 (zcP iv4.toNat (addN ((za6 iv4.toNat) [pv4,qv3]) (za8 iv4.toNat)) za8) (zcP iv4.toNat (zkV [pv4,qv3] [zcv] (za6 iv4.toNat)) za6)))
def zxs (P0:Int→Nat→(Nat→Bool)→(Nat→Nat)→(Nat→List Int→Option (List Int))→Bool) (P1:Int→Int→Nat→(Nat→Bool)→(Nat→Nat)→(Nat→List Int→Option (List Int))→Bool) (P2:Int→Int→Int→Nat→(Nat→Bool)→(Nat→Nat)→(Nat→List Int→Option (List Int))→Bool) (zaa:(Sl Gate)) (qv3:Int) (P4:Int→Int→Int→Int→Nat→(Nat→Bool)→(Nat→Nat)→(Nat→List Int→Option (List Int))→Bool) (iv4:Int) (pv4:Int) (zcv:Int) (rv4:Int) (zbg:Nat) (za7:(Nat→Bool)) (za8:(Nat→Nat)) (za6:(Nat→List Int→Option (List Int))):Bool :=
  (decide ((0≤(w64 (iv4+(2:Int)))∧(w64 (iv4+(2:Int))) < (zaa.len:Int))) &&
 (cond (decide (rv4 ≤ (zaa.get ((w64 (iv4 + (2:Int))).toNat)).High))
 (decide ((0≤iv4∧iv4 < (zaa.len:Int))) &&
 (decide ((0≤(w64 (iv4+(1:Int)))∧(w64 (iv4+(1:Int))) < (zaa.len:Int))) &&
 (decide ((0≤(w64 (iv4+(2:Int)))∧(w64 (iv4+(2:Int))) < (zaa.len:Int))) &&
 (decide ((p85 ((zaa.get iv4.toNat).Z) ((zaa.get ((w64 (iv4+(1:Int))).toNat)).Z) ((zaa.get ((w64 (iv4+(2:Int))).toNat)).Z) pv4 qv3 rv4=true)) &&
 (decide ((0≤(w64 (iv4+(1:Int)))∧(w64 (iv4+(1:Int))) < (zbg:Int))) &&
 (decide (((w64 (iv4+(1:Int))).toNat < zbg∧za7 ((w64 (iv4+(1:Int))).toNat)=true)) &&
 (decide (((w64 (iv4+(1:Int))).toNat < zbg)) &&
 (zxq P0 P1 P2 P4 zaa qv3 iv4 pv4 zcv rv4 (if (zdW ((za6 ((w64 (iv4+(1:Int))).toNat)) [qv3,rv4]) 0) > (s85 ((zaa.get iv4.toNat).Z) ((zaa.get ((w64 (iv4+(1:Int))).toNat)).Z) ((zaa.get ((w64 (iv4+(2:Int))).toNat)).Z) pv4 qv3 rv4) then (zdW ((za6 ((w64 (iv4+(1:Int))).toNat)) [qv3,rv4]) 0) else (s85 ((zaa.get iv4.toNat).Z) ((zaa.get ((w64 (iv4+(1:Int))).toNat)).Z) ((zaa.get ((w64 (iv4+(2:Int))).toNat)).Z) pv4 qv3 rv4)) zbg za7 za8 za6))))))))
 (decide ((0≤iv4∧iv4 < (zbg:Int))) &&
 (decide ((iv4.toNat < zbg∧za7 iv4.toNat=true)) &&
 (decide ((iv4.toNat < zbg)) &&
 (P2 iv4 pv4 (w64 (qv3+(1:Int))) zbg za7 (zcP iv4.toNat (addN ((za6 iv4.toNat) [pv4,qv3]) (za8 iv4.toNat)) za8) (zcP iv4.toNat (zkV [pv4,qv3] [zcv] (za6 iv4.toNat)) za6)))))))
def zxt (S0:Int→Nat→(Nat→Bool)→(Nat→Nat)→(Nat→List Int→Option (List Int))→(Sl Mp)) (S1:Int→Int→Nat→(Nat→Bool)→(Nat→Nat)→(Nat→List Int→Option (List Int))→(Sl Mp)) (S2:Int→Int→Int→Nat→(Nat→Bool)→(Nat→Nat)→(Nat→List Int→Option (List Int))→(Sl Mp)) (zaa:(Sl Gate)) (qv3:Int):Nat→Int→Int→Int→Int→Nat→(Nat→Bool)→(Nat→Nat)→(Nat→List Int→Option (List Int))→(Sl Mp):=lpO (fun _ _ _ _ _ _ _ _=>default) (zxr S0 S1 S2 zaa qv3)
def zxu (P0:Int→Nat→(Nat→Bool)→(Nat→Nat)→(Nat→List Int→Option (List Int))→Bool) (P1:Int→Int→Nat→(Nat→Bool)→(Nat→Nat)→(Nat→List Int→Option (List Int))→Bool) (P2:Int→Int→Int→Nat→(Nat→Bool)→(Nat→Nat)→(Nat→List Int→Option (List Int))→Bool) (zaa:(Sl Gate)) (qv3:Int):Nat→Int→Int→Int→Int→Nat→(Nat→Bool)→(Nat→Nat)→(Nat→List Int→Option (List Int))→Bool:=lpO (fun _ _ _ _ _ _ _ _=>false) (zxs P0 P1 P2 zaa qv3)
def zxv (S0:Int→Nat→(Nat→Bool)→(Nat→Nat)→(Nat→List Int→Option (List Int))→(Sl Mp)) (S1:Int→Int→Nat→(Nat→Bool)→(Nat→Nat)→(Nat→List Int→Option (List Int))→(Sl Mp)) (S2:Int→Int→Int→Nat→(Nat→Bool)→(Nat→Nat)→(Nat→List Int→Option (List Int))→(Sl Mp)) (zaa:(Sl Gate)) (qv3:Int) (iv4:Int) (pv4:Int) (zcv:Int) (rv4:Int) (zbg:Nat) (za7:(Nat→Bool)) (za8:(Nat→Nat)) (za6:(Nat→List Int→Option (List Int))):(Sl Mp):=zxt S0 S1 S2 zaa qv3 Fuel iv4 pv4 zcv rv4 zbg za7 za8 za6
def zxw (P0:Int→Nat→(Nat→Bool)→(Nat→Nat)→(Nat→List Int→Option (List Int))→Bool) (P1:Int→Int→Nat→(Nat→Bool)→(Nat→Nat)→(Nat→List Int→Option (List Int))→Bool) (P2:Int→Int→Int→Nat→(Nat→Bool)→(Nat→Nat)→(Nat→List Int→Option (List Int))→Bool) (zaa:(Sl Gate)) (qv3:Int) (iv4:Int) (pv4:Int) (zcv:Int) (rv4:Int) (zbg:Nat) (za7:(Nat→Bool)) (za8:(Nat→Nat)) (za6:(Nat→List Int→Option (List Int))):Bool:=zxu P0 P1 P2 zaa qv3 Fuel iv4 pv4 zcv rv4 zbg za7 za8 za6
theorem zE2 (hX0:zqg K zaa X0 P0 S0) (hX1:ztq K zaa X1 P1 S1) (hX2:zxo K zaa X2 P2 S2) (hs:zxw P0 P1 P2 zaa qv3 iv4 pv4 zcv rv4 zbg za7 za8 za6=true) (hk:K (e93 (zxv S0 S1 S2 zaa qv3 iv4 pv4 zcv rv4 zbg za7 za8 za6))):z93 K [1,1,1,0,1,0,0,1,0,0,1,1,0,0,1,0,0,1,0,0,1,0,0,1,1,0,1,0] [X0,X1,X2] (zCm zaa qv3 iv4 pv4 zcv rv4 zbg za7 za8 za6) :=
  zl (fun X=>z93 K [1,1,1,0,1,0,0,1,0,0,1,1,0,0,1,0,0,1,0,0,1,0,0,1,1,0,1,0,0] [X0,X1,X2,X]) (by kernel_rfl) fun X4 hX =>
  (show ∀ k, zE0 K zaa qv3 X4 (zxu P0 P1 P2 zaa qv3 k) (zxt S0 S1 S2 zaa qv3 k) from zgL _ _ (zxs P0 P1 P2 zaa qv3) (zxr S0 S1 S2 zaa qv3) (zE0 K zaa qv3 X4)
 (by intro _ _ _ _ _ _ _ _ hs;exact absurd hs Bool.false_ne_true)
 (by intro P4 S4 hX4 iv4 pv4 zcv rv4 zbg za7 za8 za6 hs hk;exact hX _ (zax (by kernel_rfl) (zaw hs fun hc hs=>And.intro hc (zc hs hk (fun hs hk=>(zaw hs fun hc hs=>And.intro hc (zaw hs fun hc hs=>And.intro hc (zaw hs fun hc hs=>And.intro hc (zaw hs fun hc hs=>And.intro hc (zaw hs fun hc hs=>And.intro hc (zaw hs fun hc hs=>And.intro hc (zaw hs fun hc hs=>And.intro hc (zE1 hX0 hX1 hX2 hX4 hs hk))))))))) (fun hs hk=>(zaw hs fun hc hs=>And.intro hc (zaw hs fun hc hs=>And.intro hc (zaw hs fun hc hs=>And.intro hc (hX2 hs hk)))))))))) _ hs hk
def zxx (S0:Int→Nat→(Nat→Bool)→(Nat→Nat)→(Nat→List Int→Option (List Int))→(Sl Mp)) (S1:Int→Int→Nat→(Nat→Bool)→(Nat→Nat)→(Nat→List Int→Option (List Int))→(Sl Mp)) (S2:Int→Int→Int→Nat→(Nat→Bool)→(Nat→Nat)→(Nat→List Int→Option (List Int))→(Sl Mp)) (zaa:(Sl Gate)) (iv3:Int) (pv3:Int) (qv3:Int) (zgi:Nat) (zeM:(Nat→Bool)) (zeN:(Nat→Nat)) (zgj:(Nat→List Int→Option (List Int))):(Sl Mp) :=
  (zxv S0 S1 S2 zaa qv3 iv3 pv3 (-1:Int) ((zaa.get ((w64 (iv3+(2:Int))).toNat)).Low) zgi zeM zeN zgj)
def zxy (P0:Int→Nat→(Nat→Bool)→(Nat→Nat)→(Nat→List Int→Option (List Int))→Bool) (P1:Int→Int→Nat→(Nat→Bool)→(Nat→Nat)→(Nat→List Int→Option (List Int))→Bool) (P2:Int→Int→Int→Nat→(Nat→Bool)→(Nat→Nat)→(Nat→List Int→Option (List Int))→Bool) (zaa:(Sl Gate)) (iv3:Int) (pv3:Int) (qv3:Int) (zgi:Nat) (zeM:(Nat→Bool)) (zeN:(Nat→Nat)) (zgj:(Nat→List Int→Option (List Int))):Bool :=
  (decide ((0≤(w64 (iv3+(2:Int)))∧(w64 (iv3+(2:Int))) < (zaa.len:Int))) &&
 (zxw P0 P1 P2 zaa qv3 iv3 pv3 (-1:Int) ((zaa.get ((w64 (iv3+(2:Int))).toNat)).Low) zgi zeM zeN zgj))
theorem zE3 (hX0:zqg K zaa X0 P0 S0) (hX1:ztq K zaa X1 P1 S1) (hX2:zxo K zaa X2 P2 S2) (hs:zxy P0 P1 P2 zaa iv3 pv3 qv3 zgi zeM zeN zgj=true) (hk:K (e93 (zxx S0 S1 S2 zaa iv3 pv3 qv3 zgi zeM zeN zgj))):z93 K [1,1,1,0,1,0,0,1,0,0,1,1,0,0,1,0,0,1,0,0,1,0,0,1] [X0,X1,X2] ⟨[(0,zS enc_55 3 zaa),(3,zI (zaa.len:Int)),(4,zv 15),(5,zI iv3),(6,zI pv3),(7,zI qv3)],[(15,.vm 129 8 131 3 (true,2,false,[some .i64]) zgi zeM zeN zgj)],[]⟩:=zax (by kernel_rfl) (zaw hs fun hc hs=>And.intro hc (zE2 hX0 hX1 hX2 hs hk))
def zxz (S0:Int→Nat→(Nat→Bool)→(Nat→Nat)→(Nat→List Int→Option (List Int))→(Sl Mp)) (S1:Int→Int→Nat→(Nat→Bool)→(Nat→Nat)→(Nat→List Int→Option (List Int))→(Sl Mp)) (zaa:(Sl Gate)) (S2:Int→Int→Int→Nat→(Nat→Bool)→(Nat→Nat)→(Nat→List Int→Option (List Int))→(Sl Mp)) (iv2:Int) (pv2:Int) (qv2:Int) (zbn:Nat) (za3:(Nat→Bool)) (zaW:(Nat→Nat)) (zbf:(Nat→List Int→Option (List Int))):(Sl Mp) :=
  (cond (decide (qv2 ≤ (zaa.get ((w64 (iv2 + (1:Int))).toNat)).High))
 (cond (iv2 == (w64 ((zaa.len : Int) - (2:Int))))
 (S2 iv2 pv2 (w64 (qv2+(1:Int))) zbn za3 (zcP iv2.toNat (addN ((zbf iv2.toNat) [pv2,qv2]) (zaW iv2.toNat)) zaW) (zcP iv2.toNat (zkV [pv2,qv2] [(0:Int)] (zbf iv2.toNat)) zbf))
 (zxx S0 S1 S2 zaa iv2 pv2 qv2 zbn za3 zaW zbf))
 (S1 iv2 (w64 (pv2+(1:Int))) zbn za3 zaW zbf))
def zxA (P0:Int→Nat→(Nat→Bool)→(Nat→Nat)→(Nat→List Int→Option (List Int))→Bool) (P1:Int→Int→Nat→(Nat→Bool)→(Nat→Nat)→(Nat→List Int→Option (List Int))→Bool) (zaa:(Sl Gate)) (P2:Int→Int→Int→Nat→(Nat→Bool)→(Nat→Nat)→(Nat→List Int→Option (List Int))→Bool) (iv2:Int) (pv2:Int) (qv2:Int) (zbn:Nat) (za3:(Nat→Bool)) (zaW:(Nat→Nat)) (zbf:(Nat→List Int→Option (List Int))):Bool :=
  (decide ((0≤(w64 (iv2+(1:Int)))∧(w64 (iv2+(1:Int))) < (zaa.len:Int))) &&
 (cond (decide (qv2 ≤ (zaa.get ((w64 (iv2 + (1:Int))).toNat)).High))
 (cond (iv2 == (w64 ((zaa.len : Int) - (2:Int))))
 (decide ((0≤iv2∧iv2 < (zbn:Int))) &&
 (decide ((iv2.toNat < zbn∧za3 iv2.toNat=true)) &&
 (decide ((iv2.toNat < zbn)) &&
 (P2 iv2 pv2 (w64 (qv2+(1:Int))) zbn za3 (zcP iv2.toNat (addN ((zbf iv2.toNat) [pv2,qv2]) (zaW iv2.toNat)) zaW) (zcP iv2.toNat (zkV [pv2,qv2] [(0:Int)] (zbf iv2.toNat)) zbf)))))
 (zxy P0 P1 P2 zaa iv2 pv2 qv2 zbn za3 zaW zbf))
 (P1 iv2 (w64 (pv2+(1:Int))) zbn za3 zaW zbf)))
def zxB (S0:Int→Nat→(Nat→Bool)→(Nat→Nat)→(Nat→List Int→Option (List Int))→(Sl Mp)) (S1:Int→Int→Nat→(Nat→Bool)→(Nat→Nat)→(Nat→List Int→Option (List Int))→(Sl Mp)) (zaa:(Sl Gate)):Nat→Int→Int→Int→Nat→(Nat→Bool)→(Nat→Nat)→(Nat→List Int→Option (List Int))→(Sl Mp):=lpO (fun _ _ _ _ _ _ _=>default) (zxz S0 S1 zaa)
def zxC (P0:Int→Nat→(Nat→Bool)→(Nat→Nat)→(Nat→List Int→Option (List Int))→Bool) (P1:Int→Int→Nat→(Nat→Bool)→(Nat→Nat)→(Nat→List Int→Option (List Int))→Bool) (zaa:(Sl Gate)):Nat→Int→Int→Int→Nat→(Nat→Bool)→(Nat→Nat)→(Nat→List Int→Option (List Int))→Bool:=lpO (fun _ _ _ _ _ _ _=>false) (zxA P0 P1 zaa)
def zxD (S0:Int→Nat→(Nat→Bool)→(Nat→Nat)→(Nat→List Int→Option (List Int))→(Sl Mp)) (S1:Int→Int→Nat→(Nat→Bool)→(Nat→Nat)→(Nat→List Int→Option (List Int))→(Sl Mp)) (zaa:(Sl Gate)) (iv2:Int) (pv2:Int) (qv2:Int) (zbn:Nat) (za3:(Nat→Bool)) (zaW:(Nat→Nat)) (zbf:(Nat→List Int→Option (List Int))):(Sl Mp):=zxB S0 S1 zaa Fuel iv2 pv2 qv2 zbn za3 zaW zbf
def zxE (P0:Int→Nat→(Nat→Bool)→(Nat→Nat)→(Nat→List Int→Option (List Int))→Bool) (P1:Int→Int→Nat→(Nat→Bool)→(Nat→Nat)→(Nat→List Int→Option (List Int))→Bool) (zaa:(Sl Gate)) (iv2:Int) (pv2:Int) (qv2:Int) (zbn:Nat) (za3:(Nat→Bool)) (zaW:(Nat→Nat)) (zbf:(Nat→List Int→Option (List Int))):Bool:=zxC P0 P1 zaa Fuel iv2 pv2 qv2 zbn za3 zaW zbf
theorem zE4 (hX0:zqg K zaa X0 P0 S0) (hX1:ztq K zaa X1 P1 S1) (hs:zxE P0 P1 zaa iv2 pv2 qv2 zbn za3 zaW zbf=true) (hk:K (e93 (zxD S0 S1 zaa iv2 pv2 qv2 zbn za3 zaW zbf))):z93 K [1,1,1,0,1,0,0,1,0,0,1,1,0,0,1,0,0,1,0] [X0,X1] (zCl zaa iv2 pv2 qv2 zbn za3 zaW zbf) :=
  zl (fun X=>z93 K [1,1,1,0,1,0,0,1,0,0,1,1,0,0,1,0,0,1,0,0] [X0,X1,X]) (by kernel_rfl) fun X2 hX =>
  (show ∀ k, zxo K zaa X2 (zxC P0 P1 zaa k) (zxB S0 S1 zaa k) from zgL _ _ (zxA P0 P1 zaa) (zxz S0 S1 zaa) (zxo K zaa X2)
 (by intro _ _ _ _ _ _ _ hs;exact absurd hs Bool.false_ne_true)
 (by intro P2 S2 hX2 iv2 pv2 qv2 zbn za3 zaW zbf hs hk;exact hX _ (zax (by kernel_rfl) (zaw hs fun hc hs=>And.intro hc (zc hs hk (fun hs hk=>(zc hs hk (fun hs hk=>(zaw hs fun hc hs=>And.intro hc (zaw hs fun hc hs=>And.intro hc (zaw hs fun hc hs=>And.intro hc (hX2 hs hk))))) (fun hs hk=>(zE3 hX0 hX1 hX2 hs hk)))) (fun hs hk=>(hX1 hs hk))))))) _ hs hk
def zxF (S0:Int→Nat→(Nat→Bool)→(Nat→Nat)→(Nat→List Int→Option (List Int))→(Sl Mp)) (zaa:(Sl Gate)) (S1:Int→Int→Nat→(Nat→Bool)→(Nat→Nat)→(Nat→List Int→Option (List Int))→(Sl Mp)) (iv1:Int) (pv1:Int) (zbM:Nat) (zbl:(Nat→Bool)) (zbm:(Nat→Nat)) (zbN:(Nat→List Int→Option (List Int))):(Sl Mp) :=
  (cond (decide (pv1 ≤ (zaa.get iv1.toNat).High))
 (zxD S0 S1 zaa iv1 pv1 ((zaa.get ((w64 (iv1+(1:Int))).toNat)).Low) zbM zbl zbm zbN)
 (S0 (w64 (iv1 - (1:Int))) zbM zbl zbm zbN))
def zxG (P0:Int→Nat→(Nat→Bool)→(Nat→Nat)→(Nat→List Int→Option (List Int))→Bool) (zaa:(Sl Gate)) (P1:Int→Int→Nat→(Nat→Bool)→(Nat→Nat)→(Nat→List Int→Option (List Int))→Bool) (iv1:Int) (pv1:Int) (zbM:Nat) (zbl:(Nat→Bool)) (zbm:(Nat→Nat)) (zbN:(Nat→List Int→Option (List Int))):Bool :=
  (decide ((0≤iv1∧iv1 < (zaa.len:Int))) &&
 (cond (decide (pv1 ≤ (zaa.get iv1.toNat).High))
 (decide ((0≤(w64 (iv1+(1:Int)))∧(w64 (iv1+(1:Int))) < (zaa.len:Int))) &&
 (zxE P0 P1 zaa iv1 pv1 ((zaa.get ((w64 (iv1+(1:Int))).toNat)).Low) zbM zbl zbm zbN))
 (P0 (w64 (iv1 - (1:Int))) zbM zbl zbm zbN)))
def zxH (S0:Int→Nat→(Nat→Bool)→(Nat→Nat)→(Nat→List Int→Option (List Int))→(Sl Mp)) (zaa:(Sl Gate)):Nat→Int→Int→Nat→(Nat→Bool)→(Nat→Nat)→(Nat→List Int→Option (List Int))→(Sl Mp):=lpO (fun _ _ _ _ _ _=>default) (zxF S0 zaa)
def zxI (P0:Int→Nat→(Nat→Bool)→(Nat→Nat)→(Nat→List Int→Option (List Int))→Bool) (zaa:(Sl Gate)):Nat→Int→Int→Nat→(Nat→Bool)→(Nat→Nat)→(Nat→List Int→Option (List Int))→Bool:=lpO (fun _ _ _ _ _ _=>false) (zxG P0 zaa)
def zxJ (S0:Int→Nat→(Nat→Bool)→(Nat→Nat)→(Nat→List Int→Option (List Int))→(Sl Mp)) (zaa:(Sl Gate)) (iv1:Int) (pv1:Int) (zbM:Nat) (zbl:(Nat→Bool)) (zbm:(Nat→Nat)) (zbN:(Nat→List Int→Option (List Int))):(Sl Mp):=zxH S0 zaa Fuel iv1 pv1 zbM zbl zbm zbN
def zxK (P0:Int→Nat→(Nat→Bool)→(Nat→Nat)→(Nat→List Int→Option (List Int))→Bool) (zaa:(Sl Gate)) (iv1:Int) (pv1:Int) (zbM:Nat) (zbl:(Nat→Bool)) (zbm:(Nat→Nat)) (zbN:(Nat→List Int→Option (List Int))):Bool:=zxI P0 zaa Fuel iv1 pv1 zbM zbl zbm zbN
theorem zE5 (hX0:zqg K zaa X0 P0 S0) (hs:zxK P0 zaa iv1 pv1 zbM zbl zbm zbN=true) (hk:K (e93 (zxJ S0 zaa iv1 pv1 zbM zbl zbm zbN))):z93 K [1,1,1,0,1,0,0,1,0,0,1,1,0] [X0] (zCk zaa iv1 pv1 zbM zbl zbm zbN) :=
  zl (fun X=>z93 K [1,1,1,0,1,0,0,1,0,0,1,1,0,0] [X0,X]) (by kernel_rfl) fun X1 hX =>
  (show ∀ k, ztq K zaa X1 (zxI P0 zaa k) (zxH S0 zaa k) from zgL _ _ (zxG P0 zaa) (zxF S0 zaa) (ztq K zaa X1)
 (by intro _ _ _ _ _ _ hs;exact absurd hs Bool.false_ne_true)
 (by intro P1 S1 hX1 iv1 pv1 zbM zbl zbm zbN hs hk;exact hX _ (zax (by kernel_rfl) (zaw hs fun hc hs=>And.intro hc (zc hs hk (fun hs hk=>(zaw hs fun hc hs=>And.intro hc (zE4 hX0 hX1 hs hk))) (fun hs hk=>(hX0 hs hk))))))) _ hs hk
def zxL (zaa:(Sl Gate)) (S0:Int→Nat→(Nat→Bool)→(Nat→Nat)→(Nat→List Int→Option (List Int))→(Sl Mp)) (iv0:Int) (zbE:Nat) (zbs:(Nat→Bool)) (zbt:(Nat→Nat)) (zbV:(Nat→List Int→Option (List Int))):(Sl Mp) :=
  (cond (decide (iv0 ≥ (0:Int)))
 (zxJ S0 zaa iv0 ((zaa.get iv0.toNat).Low) zbE (zcP iv0.toNat true zbs) (zcP iv0.toNat 0 zbt) (zcP iv0.toNat (fun _=>none) zbV))
 (⟨zbE,(fun i=>(⟨zbt i,zbV i⟩:Mp))⟩:(Sl Mp)))
def zxM (zaa:(Sl Gate)) (P0:Int→Nat→(Nat→Bool)→(Nat→Nat)→(Nat→List Int→Option (List Int))→Bool) (iv0:Int) (zbE:Nat) (zbs:(Nat→Bool)) (zbt:(Nat→Nat)) (zbV:(Nat→List Int→Option (List Int))):Bool :=
  (cond (decide (iv0 ≥ (0:Int)))
 (decide ((0≤iv0∧iv0 < (zbE:Int))) &&
 (decide ((iv0.toNat < zbE∧zbs iv0.toNat=false)) &&
 (decide ((0≤iv0∧iv0 < (zaa.len:Int))) &&
 (zxK P0 zaa iv0 ((zaa.get iv0.toNat).Low) zbE (zcP iv0.toNat true zbs) (zcP iv0.toNat 0 zbt) (zcP iv0.toNat (fun _=>none) zbV)))))
 true)
def zxN (zaa:(Sl Gate)):Nat→Int→Nat→(Nat→Bool)→(Nat→Nat)→(Nat→List Int→Option (List Int))→(Sl Mp):=lpO (fun _ _ _ _ _=>default) (zxL zaa)
def zxO (zaa:(Sl Gate)):Nat→Int→Nat→(Nat→Bool)→(Nat→Nat)→(Nat→List Int→Option (List Int))→Bool:=lpO (fun _ _ _ _ _=>false) (zxM zaa)
def zxP (zaa:(Sl Gate)) (iv0:Int) (zbE:Nat) (zbs:(Nat→Bool)) (zbt:(Nat→Nat)) (zbV:(Nat→List Int→Option (List Int))):(Sl Mp):=zxN zaa Fuel iv0 zbE zbs zbt zbV
def zxQ (zaa:(Sl Gate)) (iv0:Int) (zbE:Nat) (zbs:(Nat→Bool)) (zbt:(Nat→Nat)) (zbV:(Nat→List Int→Option (List Int))):Bool:=zxO zaa Fuel iv0 zbE zbs zbt zbV
theorem zE6 (hs:zxQ zaa iv0 zbE zbs zbt zbV=true) (hk:K (e93 (zxP zaa iv0 zbE zbs zbt zbV))):z93 K [1,1,1,0,1,0] [] (zCj zaa iv0 zbE zbs zbt zbV) :=
  zl (fun X=>z93 K [1,1,1,0,1,0,0] [X]) (by kernel_rfl) fun X0 hX =>
  (show ∀ k, zqg K zaa X0 (zxO zaa k) (zxN zaa k) from zgL _ _ (zxM zaa) (zxL zaa) (zqg K zaa X0)
 (by intro _ _ _ _ _ hs;exact absurd hs Bool.false_ne_true)
 (by intro P0 S0 hX0 iv0 zbE zbs zbt zbV hs hk;exact hX _ (zax (by kernel_rfl) (zc hs hk (fun hs hk=>(zaw hs fun hc hs=>And.intro hc (zaw hs fun hc hs=>And.intro hc (zaw hs fun hc hs=>And.intro hc (zE5 hX0 hs hk))))) (fun hs hk=>hk))))) _ hs hk
def s93 (zaa:(Sl Gate)):(Sl Mp) :=
  (zxP zaa (w64 ((zaa.len:Int) - (2:Int))) ((w64 ((zaa.len:Int) - (1:Int))).toNat) (fun _=>false) (fun _=>0) (fun _ _=>none))
def p93 (zaa:(Sl Gate)):Bool :=
  (decide ((0≤(w64 ((zaa.len:Int) - (1:Int)))∧(w64 ((zaa.len:Int) - (1:Int)))=(w64 ((zaa.len:Int) - (1:Int)))∧(w64 ((zaa.len:Int) - (1:Int)))≤1000000)) &&
 (zxQ zaa (w64 ((zaa.len:Int) - (2:Int))) ((w64 ((zaa.len:Int) - (1:Int))).toNat) (fun _=>false) (fun _=>0) (fun _ _=>none)))
end
theorem q93 (zaa:(Sl Gate)) (K:List PA→Prop) (hs:p93 zaa=true) (hk:K (e93 (s93 zaa))):vcFun Try.prog G93 zEZ 93 [.one (.sl zaa.len 3 (fun i=>enc_55 (zaa.get i)))] K :=
  zax (by kernel_rfl) (zaw hs fun hc hs=>And.intro hc (zE6 hs hk))
def zE7 : List PA → COut
  | [.one (.sl a0_n a0_s a0_g)]=>.det (IsE enc_55 3 a0_s a0_g∧p93 (⟨a0_n,zad a0_g⟩:(Sl Gate))=true) [.one (.sl ((s93 (⟨a0_n,zad a0_g⟩:(Sl Gate))).len) 1 (fun i=>zcC ((s93 (⟨a0_n,zad a0_g⟩:(Sl Gate))).get i)))]
  | _=>.no
theorem zIU:zai Try.prog 93:=⟨_,rfl,rfl,by kernel_rfl⟩
theorem zN8:Ok Try.prog 93 zE7:=zaG zLo zIU fun args K h=>by
  unfold zE7 at h
  split at h
  · rename_i a0_n a0_s a0_g
    obtain ⟨⟨⟨rfl,a0_f,rfl⟩,hs⟩,hk⟩:=h
    try rw [zac a0_f] at hs
    try rw [zac a0_f] at hk
    exact ⟨(fun _ _=>[]),(fun l=>Nat.beq l 15 || Nat.beq l 24),zEZ,q93 (⟨a0_n,a0_f⟩:(Sl Gate)) K hs hk⟩
  · exact h.elim
def zMC (a b:Int):List Int:=(List.range (b - a+1).toNat).map fun (i:Nat)=>a+i
def zoo (zaa:Sl Gate):List (List Int):=(zMC (zaa.get 0).Low (zaa.get 0).High).flatMap fun p=>(zMC (zaa.get 1).Low (zaa.get 1).High).map fun q=>[p,q]
abbrev T55:Tabs:=(((Tabs.nil.addF 85 zAV).addF 92 zEY).addF 93 zE7)
theorem zLp:TabsOk Try.prog T55:=(((TabsOk.nil.addF zMB).addF zN7).addF zN8)
abbrev G55:Ctrs:=csm T55 (fun _ _=>[]) (fun _=>false)
def zaS:Ann:=⟨145,[(0,⟨[0],[],[],[],[],[],[]⟩),(1,⟨[0,18],[],[],[],[],[],[]⟩),(2,⟨[2,3,4],[],[],[],[],[],[]⟩),(3,⟨[0,5],[],[],[],[],[],[]⟩),(4,⟨[0,5,6],[],[],[],[],[],[]⟩),(5,⟨[0,5,6,24],[24],[],[],[],[],[]⟩),(6,⟨[0,5,6,24,26],[24],[],[],[],[],[]⟩),(7,⟨[0,5,6,8,24],[24],[],[],[],[],[]⟩),(8,⟨[0,5,6,8,24,35],[24],[],[],[],[],[]⟩),(9,⟨[0,5,6,24],[24],[],[],[],[],[]⟩),(10,⟨[0,5,6,9],[],[],[],[],[],[]⟩),(11,⟨[0,5,6,9,10],[],[],[],[],[],[]⟩),(12,⟨[0,5,6,9,10,46],[],[],[],[],[],[]⟩),(13,⟨[0,5,6,9,10],[],[],[],[],[],[]⟩),(14,⟨[0,5,6,9,10,11],[],[],[],[],[],[]⟩),(15,⟨[0,5,6,9,10,11,58],[],[],[],[],[],[]⟩),(16,⟨[0,5,6,9,10,11],[],[],[],[],[],[]⟩),(17,⟨[0,5,6,9,10,11,69],[],[],[],[],[],[]⟩),(18,⟨[0,5,6,9],[72],[],[],[],[],[]⟩),(19,⟨[0,5,6,9,12],[72],[],[],[],[],[]⟩),(20,⟨[0,5,6,9,12,76],[72],[],[],[],[],[]⟩),(21,⟨[0,5,6,9,12],[72],[],[],[],[],[]⟩),(22,⟨[0,5,6,9,12,13,14],[72],[],[],[],[],[]⟩),(23,⟨[0,5,6,9,12,13,14,15],[72],[],[],[],[],[]⟩),(24,⟨[0,5,6,9,12,13,14,15,100],[72],[],[],[],[],[]⟩),(25,⟨[0,5,6,9,12,13,14,15],[72],[],[],[],[],[]⟩),(26,⟨[0,5,6,9,12,13,14,15,138],[72],[],[],[],[],[]⟩),(27,⟨[0,5,6,9,12],[72],[],[],[],[],[]⟩),(28,⟨[2,3,4],[72],[],[],[],[],[]⟩)],
 [(6,⟨[0,5,6,24],[24],[],[],[],[],[]⟩),(12,⟨[0,5,6,9,10],[],[],[],[],[],[]⟩),(15,⟨[0,5,6,9,10,11],[],[],[],[],[],[]⟩),(20,⟨[0,5,6,9,12],[72],[],[],[],[],[]⟩),(24,⟨[0,5,6,9,12,13,14,15],[72],[],[],[],[],[]⟩)],
 [(2,⟨[0,18],[],[],[],[],[],[]⟩),(3,⟨[0],[],[],[],[],[],[]⟩),(4,⟨[0,5],[],[],[],[],[],[]⟩),(10,⟨[0,5,6],[],[],[],[],[],[]⟩),(19,⟨[0,5,6,9],[72],[(9,72,3,fun _=>zat default)],[],[],[],[]⟩),(27,⟨[0,5,6,9,12,13,14,15,138],[72],[],[],[],[],[]⟩)],
 [],[]⟩
def zIV (zaa:(Sl Gate)) (zgk:Bool):St:=⟨[(0,.one (.c (.p (.sl zaa.len 3 (fun i=>enc_55 (zaa.get i)))))),(18,.one (.c (.p (.bool zgk))))],[],[]⟩
def zmC (K:List PA→Prop) (zaa:(Sl Gate)) (zgk:Bool):Prop:=vc Try.prog G55 zaS (cdF Try.f55 [1,0,0,1]) (sqK Try.prog G55 zaS (cdF Try.f55 [1,0,1]) (zb8 (zcn Try.prog Try.f55 K))) (zIV zaa zgk)
def zIW (zaa:(Sl Gate)):St:=⟨[(0,.one (.c (.p (.sl zaa.len 3 (fun i=>enc_55 (zaa.get i))))))],[],[]⟩
def zmD (K:List PA→Prop) (zaa:(Sl Gate)):Prop:=vc Try.prog G55 zaS (cdF Try.f55 [1,0,1]) (zb8 (zcn Try.prog Try.f55 K)) (zIW zaa)
def zIX (zaa:(Sl Gate)) (zjH:Nat) (zep:Nat→List PV):St:=⟨[(0,.one (.c (.p (.sl zaa.len 3 (fun i=>enc_55 (zaa.get i)))))),(5,.one (.c (.p (.sl zjH 1 zep))))],[],[]⟩
def zmE (K:List PA→Prop) (zaa:(Sl Gate)) (zjH:Nat) (zep:Nat→List PV):Prop:=vc Try.prog G55 zaS (cdF Try.f55 [1,0,1,1]) (zb8 (zcn Try.prog Try.f55 K)) (zIX zaa zjH zep)
def zgV (zaa:(Sl Gate)) (zab:(Sl Mp)) (za9:(List (List Int))) (zaA:Int):St:=⟨[(0,.one (.c (.p (.sl zaa.len 3 (fun i=>enc_55 (zaa.get i)))))),(5,.one (.c (.p (.sl zab.len 1 (fun i=>zcC (zab.get i)))))),(6,.one (.c (.p (.int .i64 zaA)))),(24,.one (.c (.ptr 24 0)))],[(24,.mit (true,2,false,[some .i64]) ((zab.get 0).n) ((zab.get 0).F) za9)],[]⟩
def zjI (K:List PA→Prop) (zaa:(Sl Gate)) (zab:(Sl Mp)) (za9:(List (List Int))) (zaA:Int):Prop:=vc Try.prog G55 zaS (cdF Try.f55 [1,0,1,1,1,0,1,0]) (zaX 0 (sqK Try.prog G55 zaS (cdF Try.f55 [1,0,1,1,1,1]) (zb8 (zcn Try.prog Try.f55 K)))) (zgV zaa zab za9 zaA)
def zIY (zaa:(Sl Gate)) (zab:(Sl Mp)) (zdd:Int):St:=⟨[(0,.one (.c (.p (.sl zaa.len 3 (fun i=>enc_55 (zaa.get i)))))),(5,.one (.c (.p (.sl zab.len 1 (fun i=>zcC (zab.get i)))))),(6,.one (.c (.p (.int .i64 zdd))))],[],[]⟩
def zmF (K:List PA→Prop) (zaa:(Sl Gate)) (zab:(Sl Mp)) (zdd:Int):Prop:=vc Try.prog G55 zaS (cdF Try.f55 [1,0,1,1,1,1]) (zb8 (zcn Try.prog Try.f55 K)) (zIY zaa zab zdd)
def zh1 (zaa:(Sl Gate)) (zab:(Sl Mp)) (zaM:Int) (pv5:Int):St:=⟨[(0,.one (.c (.p (.sl zaa.len 3 (fun i=>enc_55 (zaa.get i)))))),(5,.one (.c (.p (.sl zab.len 1 (fun i=>zcC (zab.get i)))))),(6,.one (.c (.p (.int .i64 zaM)))),(9,.one (.c (.p (.nils)))),(10,.one (.c (.p (.int .i64 pv5))))],[],[]⟩
def zjJ (K:List PA→Prop) (zaa:(Sl Gate)) (zab:(Sl Mp)) (zaM:Int) (pv5:Int):Prop:=vc Try.prog G55 zaS (cdF Try.f55 [1,0,1,1,1,1,1,1,0,1,0]) (zaX 2 (sqK Try.prog G55 zaS (cdF Try.f55 [1,0,1,1,1,1,1,1,1]) (zb8 (zcn Try.prog Try.f55 K)))) (zh1 zaa zab zaM pv5)
def zjK (zaa:(Sl Gate)) (zab:(Sl Mp)) (zaH:Int) (pv6:Int) (qv6:Int):St:=⟨[(0,.one (.c (.p (.sl zaa.len 3 (fun i=>enc_55 (zaa.get i)))))),(5,.one (.c (.p (.sl zab.len 1 (fun i=>zcC (zab.get i)))))),(6,.one (.c (.p (.int .i64 zaH)))),(9,.one (.c (.p (.nils)))),(10,.one (.c (.p (.int .i64 pv6)))),(11,.one (.c (.p (.int .i64 qv6))))],[],[]⟩
def zjL (K:List PA→Prop) (X5:St→Prop) (zaa:(Sl Gate)) (zab:(Sl Mp)) (zaH:Int) (pv6:Int) (qv6:Int):Prop:=vc Try.prog G55 zaS (cdF Try.f55 [1,0,1,1,1,1,1,1,0,1,0,0,1,0,0,1,0]) (zaX 4 (zaX 3 (sqK Try.prog G55 zaS (cdF Try.f55 [1,0,1,1,1,1,1,1,0,1,0,0,1,1]) (zd1 Try.prog zaS 12 X5 (zaX 2 (sqK Try.prog G55 zaS (cdF Try.f55 [1,0,1,1,1,1,1,1,1]) (zb8 (zcn Try.prog Try.f55 K)))))))) (zjK zaa zab zaH pv6 qv6)
def zIZ (zaa:(Sl Gate)) (zab:(Sl Mp)) (zde:Int) (zqh:Nat) (zhx:Nat→List PV):St:=⟨[(0,.one (.c (.p (.sl zaa.len 3 (fun i=>enc_55 (zaa.get i)))))),(5,.one (.c (.p (.sl zab.len 1 (fun i=>zcC (zab.get i)))))),(6,.one (.c (.p (.int .i64 zde)))),(9,.one (.c (.vec 72)))],[(72,.vec 3 1 8 zqh zhx)],[]⟩
def zjM (K:List PA→Prop) (zaa:(Sl Gate)) (zab:(Sl Mp)) (zde:Int) (zqh:Nat) (zhx:Nat→List PV):Prop:=vc Try.prog G55 zaS (cdF Try.f55 [1,0,1,1,1,1,1,1,1]) (zb8 (zcn Try.prog Try.f55 K)) (zIZ zaa zab zde zqh zhx)
def zfW (zaa:(Sl Gate)) (zab:(Sl Mp)) (zaJ:Int) (iv8:Int) (zfp:Nat) (zbu:Nat→List PV):St:=⟨[(0,.one (.c (.p (.sl zaa.len 3 (fun i=>enc_55 (zaa.get i)))))),(5,.one (.c (.p (.sl zab.len 1 (fun i=>zcC (zab.get i)))))),(6,.one (.c (.p (.int .i64 zaJ)))),(9,.one (.c (.vec 72))),(12,.one (.c (.p (.int .i64 iv8))))],[(72,.vec 3 1 8 zfp zbu)],[]⟩
def zjN (K:List PA→Prop) (zaa:(Sl Gate)) (zab:(Sl Mp)) (zaJ:Int) (iv8:Int) (zfp:Nat) (zbu:Nat→List PV):Prop:=vc Try.prog G55 zaS (cdF Try.f55 [1,0,1,1,1,1,1,1,1,0,1,0]) (zaX 6 (sqK Try.prog G55 zaS (cdF Try.f55 [1,0,1,1,1,1,1,1,1,1]) (zb8 (zcn Try.prog Try.f55 K)))) (zfW zaa zab zaJ iv8 zfp zbu)
def zh2 (zaa:(Sl Gate)) (zab:(Sl Mp)) (zay:Int) (iv9:Int) (pv9:Int) (qv9:Int) (rv9:Int) (zfq:Nat) (zbF:Nat→List PV):St:=⟨[(0,.one (.c (.p (.sl zaa.len 3 (fun i=>enc_55 (zaa.get i)))))),(5,.one (.c (.p (.sl zab.len 1 (fun i=>zcC (zab.get i)))))),(6,.one (.c (.p (.int .i64 zay)))),(9,.one (.c (.vec 72))),(12,.one (.c (.p (.int .i64 iv9)))),(13,.one (.c (.p (.int .i64 pv9)))),(14,.one (.c (.p (.int .i64 qv9)))),(15,.one (.c (.p (.int .i64 rv9))))],[(72,.vec 3 1 8 zfq zbF)],[]⟩
def zjO (K:List PA→Prop) (X8:St→Prop) (zaa:(Sl Gate)) (zab:(Sl Mp)) (zay:Int) (iv9:Int) (pv9:Int) (qv9:Int) (rv9:Int) (zfq:Nat) (zbF:Nat→List PV):Prop:=vc Try.prog G55 zaS (cdF Try.f55 [1,0,1,1,1,1,1,1,1,0,1,0,0,1,0,0,1,1,0]) (zaX 8 (zaX 7 (sqK Try.prog G55 zaS (cdF Try.f55 [1,0,1,1,1,1,1,1,1,0,1,0,0,1,1]) (zd1 Try.prog zaS 20 X8 (zaX 6 (sqK Try.prog G55 zaS (cdF Try.f55 [1,0,1,1,1,1,1,1,1,1]) (zb8 (zcn Try.prog Try.f55 K)))))))) (zh2 zaa zab zay iv9 pv9 qv9 rv9 zfq zbF)
def zE8 (zaa:(Sl Gate)) (zab:(Sl Mp)) (zbO:Int) (zg5:Int) (zoG:Int) (zoH:Int) (zkG:Int) (zcs:Bool) (zmG:Nat) (zfK:Nat→List PV):St:=⟨[(0,.one (.c (.p (.sl zaa.len 3 (fun i=>enc_55 (zaa.get i)))))),(5,.one (.c (.p (.sl zab.len 1 (fun i=>zcC (zab.get i)))))),(6,.one (.c (.p (.int .i64 zbO)))),(9,.one (.c (.vec 72))),(12,.one (.c (.p (.int .i64 zg5)))),(13,.one (.c (.p (.int .i64 zoG)))),(14,.one (.c (.p (.int .i64 zoH)))),(15,.one (.c (.p (.int .i64 zkG)))),(138,.one (.c (.p (.bool zcs))))],[(72,.vec 3 1 8 zmG zfK)],[]⟩
def zgW (K:List PA→Prop) (X8:St→Prop) (X9:St→Prop) (zaa:(Sl Gate)) (zab:(Sl Mp)) (zbO:Int) (zg5:Int) (zoG:Int) (zoH:Int) (zkG:Int) (zcs:Bool) (zmG:Nat) (zfK:Nat→List PV):Prop:=vc Try.prog G55 zaS (cdF Try.f55 [1,0,1,1,1,1,1,1,1,0,1,0,0,1,0,0,1,1,0,0,1,0,0,1]) (zaX 9 (sqK Try.prog G55 zaS (cdF Try.f55 [1,0,1,1,1,1,1,1,1,0,1,0,0,1,0,0,1,1,0,0,1,1]) (zd1 Try.prog zaS 24 X9 (zaX 8 (zaX 7 (sqK Try.prog G55 zaS (cdF Try.f55 [1,0,1,1,1,1,1,1,1,0,1,0,0,1,1]) (zd1 Try.prog zaS 20 X8 (zaX 6 (sqK Try.prog G55 zaS (cdF Try.f55 [1,0,1,1,1,1,1,1,1,1]) (zb8 (zcn Try.prog Try.f55 K))))))))))) (zE8 zaa zab zbO zg5 zoG zoH zkG zcs zmG zfK)
theorem zE9 (zaa : (Sl Gate)) (K : List PA → Prop) :
  vcFun Try.prog G55 zaS 55 [.one (.sl zaa.len 3 (fun i=>enc_55 (zaa.get i)))] K =
  ((IsE enc_55 3 3 (fun i=>enc_55 (zaa.get i))∧(p92 zaa=true)) ∧
 (zmC K zaa (!(s92 zaa)))):=by kernel_rfl
theorem zFa (K : List PA → Prop) (zaa : (Sl Gate)) (zgk : Bool) :
  zmC K zaa zgk =
  (zcZ zgk
 (K [.one (.nils),.one (.int .i64 (0:Int)),.one (.int .i64 (2:Int))])
 (zmD K zaa)):=by kernel_rfl
theorem zFb (K : List PA → Prop) (zaa : (Sl Gate)) :
  zmD K zaa =
  ((IsE enc_55 3 3 (fun i=>enc_55 (zaa.get i))∧(p93 zaa=true)) ∧
 (zmE K zaa ((s93 zaa).len) (fun i=>zcC ((s93 zaa).get i)))):=by kernel_rfl
theorem zFc (K : List PA → Prop) (zaa : (Sl Gate)) (zab : (Sl Mp)) :
  zmE K zaa zab.len (fun i=>zcC (zab.get i)) =
  (((0≤(0:Int)∧(0:Int) < (zab.len:Int))) ∧
 (zjI K zaa zab ([]) (-1:Int))):=by kernel_rfl
def zop (K:List PA→Prop) (X3:St→Prop) (zaa:(Sl Gate)) (zab:(Sl Mp)) (za9:(List (List Int))) (zaA:Int):Prop :=
  (zGZ 2 ((zab.get 0).n) ((zab.get 0).F) →
 ((∀ c:List Int,c.length=2→((zab.get 0).F) c ≠ none→c∈za9) →
 (zmF K zaa zab zaA))∧∀ k24_0 k24_1:Int,((zab.get 0).F) [k24_0,k24_1] ≠ none→[k24_0,k24_1] ∉ za9 →
 (zcZ (decide (zaA < (0:Int)))
 (X3 (zgV zaa zab ([k24_0,k24_1] :: za9) (zdW (((zab.get 0).F) [k24_0,k24_1]) 0)))
 (zcZ (decide ((zdW (((zab.get 0).F) [k24_0, k24_1]) 0) < zaA))
 (X3 (zgV zaa zab ([k24_0,k24_1] :: za9) (zdW (((zab.get 0).F) [k24_0,k24_1]) 0)))
 (X3 (zgV zaa zab ([k24_0,k24_1] :: za9) zaA)))))
theorem zqi (K : List PA → Prop) (X3 : St → Prop) (zaa : (Sl Gate)) (zab : (Sl Mp)) (za9 : (List (List Int))) (zaA : Int) :
  vc Try.prog G55 zaS (cd (cdF Try.f55 [1,0,1,1,1,0,1,0]) [0]) (zd1 Try.prog zaS 6 X3 (zaX 0 (sqK Try.prog G55 zaS (cdF Try.f55 [1,0,1,1,1,1]) (zb8 (zcn Try.prog Try.f55 K))))) (zgV zaa zab za9 zaA) =
  zop K X3 zaa zab za9 zaA:=by kernel_rfl
theorem zxR (K : List PA → Prop) (zaa : (Sl Gate)) (zab : (Sl Mp)) (za9 : (List (List Int))) (zaA : Int)
  (h:∀ X3:St→Prop,(∀ (za9:(List (List Int))) (zaA:Int),zop K X3 zaa zab za9 zaA→X3 (zgV zaa zab za9 zaA))→X3 (zgV zaa zab za9 zaA)) :
  zjI K zaa zab za9 zaA:=by
  have e:zjI K zaa zab za9 zaA=(∀ X:St→Prop,(∀ s,vc Try.prog G55 zaS (cd (cdF Try.f55 [1,0,1,1,1,0,1,0]) [0]) (zd1 Try.prog zaS 6 X (zaX 0 (sqK Try.prog G55 zaS (cdF Try.f55 [1,0,1,1,1,1]) (zb8 (zcn Try.prog Try.f55 K))))) s→X s)→X (zgV zaa zab za9 zaA)):=by kernel_rfl
  refine zax e ?_
  intro X hX
  refine h X ?_
  intro za9 zaA hs
  refine hX _ ?_
  have e2:=zqi K X zaa zab za9 zaA
  rw [e2]
  exact hs
theorem zFd (K : List PA → Prop) (zaa : (Sl Gate)) (zab : (Sl Mp)) (zdd : Int) :
  zmF K zaa zab zdd =
  (((0≤(0:Int)∧(0:Int) < (zaa.len:Int))) ∧
 (zjJ K zaa zab zdd ((zaa.get 0).Low))):=by kernel_rfl
def zoq (K:List PA→Prop) (X5:St→Prop) (zaa:(Sl Gate)) (zab:(Sl Mp)) (zaM:Int) (pv5:Int):Prop :=
  (((0≤(0:Int)∧(0:Int) < (zaa.len:Int))) ∧
 (zcZ (decide (pv5 ≤ (zaa.get 0).High))
 (((0≤(1:Int)∧(1:Int) < (zaa.len:Int))) ∧
 (zjL K X5 zaa zab zaM pv5 ((zaa.get 1).Low)))
 (zjM K zaa zab zaM 0 (fun i=>zat ((fun _=>default) i)))))
theorem zqj (K : List PA → Prop) (X5 : St → Prop) (zaa : (Sl Gate)) (zab : (Sl Mp)) (zaM : Int) (pv5 : Int) :
  vc Try.prog G55 zaS (cd (cdF Try.f55 [1,0,1,1,1,1,1,1,0,1,0]) [0]) (zd1 Try.prog zaS 12 X5 (zaX 2 (sqK Try.prog G55 zaS (cdF Try.f55 [1,0,1,1,1,1,1,1,1]) (zb8 (zcn Try.prog Try.f55 K))))) (zh1 zaa zab zaM pv5) =
  zoq K X5 zaa zab zaM pv5:=by kernel_rfl
theorem zxS (K : List PA → Prop) (zaa : (Sl Gate)) (zab : (Sl Mp)) (zaM : Int) (pv5 : Int)
  (h:∀ X5:St→Prop,(∀ (zaM:Int) (pv5:Int),zoq K X5 zaa zab zaM pv5→X5 (zh1 zaa zab zaM pv5))→X5 (zh1 zaa zab zaM pv5)) :
  zjJ K zaa zab zaM pv5:=by
  have e:zjJ K zaa zab zaM pv5=(∀ X:St→Prop,(∀ s,vc Try.prog G55 zaS (cd (cdF Try.f55 [1,0,1,1,1,1,1,1,0,1,0]) [0]) (zd1 Try.prog zaS 12 X (zaX 2 (sqK Try.prog G55 zaS (cdF Try.f55 [1,0,1,1,1,1,1,1,1]) (zb8 (zcn Try.prog Try.f55 K))))) s→X s)→X (zh1 zaa zab zaM pv5)):=by kernel_rfl
  refine zax e ?_
  intro X hX
  refine h X ?_
  intro zaM pv5 hs
  refine hX _ ?_
  have e2:=zqj K X zaa zab zaM pv5
  rw [e2]
  exact hs
def zor (K:List PA→Prop) (X5:St→Prop) (X6:St→Prop) (zaa:(Sl Gate)) (zab:(Sl Mp)) (zaH:Int) (pv6:Int) (qv6:Int):Prop :=
  (((0≤(1:Int)∧(1:Int) < (zaa.len:Int))) ∧
 (zcZ (decide (qv6 ≤ (zaa.get 1).High))
 (((0≤(0:Int)∧(0:Int) < (zab.len:Int))) ∧
 (zcZ ((zdW (((zab.get 0).F) [pv6, qv6]) 0) == zaH)
 (zjM K zaa zab zaH 2 (zdg [(zat pv6),(zat qv6)]))
 (X6 (zjK zaa zab zaH pv6 (w64 (qv6+(1:Int)))))))
 (X5 (zh1 zaa zab zaH (w64 (pv6+(1:Int)))))))
theorem zqk (K : List PA → Prop) (X5 : St → Prop) (X6 : St → Prop) (zaa : (Sl Gate)) (zab : (Sl Mp)) (zaH : Int) (pv6 : Int) (qv6 : Int) :
  vc Try.prog G55 zaS (cd (cdF Try.f55 [1,0,1,1,1,1,1,1,0,1,0,0,1,0,0,1,0]) [0]) (zd1 Try.prog zaS 15 X6 (zaX 4 (zaX 3 (sqK Try.prog G55 zaS (cdF Try.f55 [1,0,1,1,1,1,1,1,0,1,0,0,1,1]) (zd1 Try.prog zaS 12 X5 (zaX 2 (sqK Try.prog G55 zaS (cdF Try.f55 [1,0,1,1,1,1,1,1,1]) (zb8 (zcn Try.prog Try.f55 K))))))))) (zjK zaa zab zaH pv6 qv6) =
  zor K X5 X6 zaa zab zaH pv6 qv6:=by kernel_rfl
theorem zxT (K : List PA → Prop) (X5 : St → Prop) (zaa : (Sl Gate)) (zab : (Sl Mp)) (zaH : Int) (pv6 : Int) (qv6 : Int)
  (h:∀ X6:St→Prop,(∀ (zaH:Int) (pv6:Int) (qv6:Int),zor K X5 X6 zaa zab zaH pv6 qv6→X6 (zjK zaa zab zaH pv6 qv6))→X6 (zjK zaa zab zaH pv6 qv6)) :
  zjL K X5 zaa zab zaH pv6 qv6:=by
  have e:zjL K X5 zaa zab zaH pv6 qv6=(∀ X:St→Prop,(∀ s,vc Try.prog G55 zaS (cd (cdF Try.f55 [1,0,1,1,1,1,1,1,0,1,0,0,1,0,0,1,0]) [0]) (zd1 Try.prog zaS 15 X (zaX 4 (zaX 3 (sqK Try.prog G55 zaS (cdF Try.f55 [1,0,1,1,1,1,1,1,0,1,0,0,1,1]) (zd1 Try.prog zaS 12 X5 (zaX 2 (sqK Try.prog G55 zaS (cdF Try.f55 [1,0,1,1,1,1,1,1,1]) (zb8 (zcn Try.prog Try.f55 K))))))))) s→X s)→X (zjK zaa zab zaH pv6 qv6)):=by kernel_rfl
  refine zax e ?_
  intro X hX
  refine h X ?_
  intro zaH pv6 qv6 hs
  refine hX _ ?_
  have e2:=zqk K X5 X zaa zab zaH pv6 qv6
  rw [e2]
  exact hs
theorem zFe (K : List PA → Prop) (zaa : (Sl Gate)) (zab : (Sl Mp)) (zde : Int) (zfO : (Sl Int)) :
  zjM K zaa zab zde zfO.len (fun i=>zat (zfO.get i)) =
  (zjN K zaa zab zde (2:Int) zfO.len (fun i=>zat (zfO.get i))):=by kernel_rfl
def zos (K:List PA→Prop) (X8:St→Prop) (zaa:(Sl Gate)) (zab:(Sl Mp)) (zaJ:Int) (iv8:Int) (zaR:(Sl Int)):Prop :=
  (zcZ (decide (iv8 < (zaa.len : Int)))
 (((0≤(w64 (iv8 - (2:Int)))∧(w64 (iv8 - (2:Int))) < (zaR.len:Int))) ∧
 ((((w64 (iv8 - (2:Int))).toNat < zaR.len)) ∧
 (((0≤(w64 (iv8 - (1:Int)))∧(w64 (iv8 - (1:Int))) < (zaR.len:Int))) ∧
 ((((w64 (iv8 - (1:Int))).toNat < zaR.len)) ∧
 (((0≤iv8∧iv8 < (zaa.len:Int))) ∧
 (zjO K X8 zaa zab zaJ iv8 (zaR.get ((w64 (iv8 - (2:Int))).toNat)) (zaR.get ((w64 (iv8 - (1:Int))).toNat)) ((zaa.get iv8.toNat).Low) zaR.len (fun i=>zat (zaR.get i))))))))
 (K [.one (.sl zaR.len 1 (fun i=>zat (zaR.get i))),.one (.int .i64 zaJ),.one (.int .i64 (0:Int))]))
theorem zql (K : List PA → Prop) (X8 : St → Prop) (zaa : (Sl Gate)) (zab : (Sl Mp)) (zaJ : Int) (iv8 : Int) (zaR : (Sl Int)) :
  vc Try.prog G55 zaS (cd (cdF Try.f55 [1,0,1,1,1,1,1,1,1,0,1,0]) [0]) (zd1 Try.prog zaS 20 X8 (zaX 6 (sqK Try.prog G55 zaS (cdF Try.f55 [1,0,1,1,1,1,1,1,1,1]) (zb8 (zcn Try.prog Try.f55 K))))) (zfW zaa zab zaJ iv8 zaR.len (fun i=>zat (zaR.get i))) =
  zos K X8 zaa zab zaJ iv8 zaR:=by kernel_rfl
theorem zxU (K : List PA → Prop) (zaa : (Sl Gate)) (zab : (Sl Mp)) (zaJ : Int) (iv8 : Int) (zfp : Nat) (zbu : Nat → List PV)
  (h:∀ X8:St→Prop,(∀ (zaJ:Int) (iv8:Int) (zaR:(Sl Int)),zos K X8 zaa zab zaJ iv8 zaR→X8 (zfW zaa zab zaJ iv8 zaR.len (fun i=>zat (zaR.get i))))→X8 (zfW zaa zab zaJ iv8 zfp zbu)) :
  zjN K zaa zab zaJ iv8 zfp zbu:=by
  have e:zjN K zaa zab zaJ iv8 zfp zbu=(∀ X:St→Prop,(∀ s,vc Try.prog G55 zaS (cd (cdF Try.f55 [1,0,1,1,1,1,1,1,1,0,1,0]) [0]) (zd1 Try.prog zaS 20 X (zaX 6 (sqK Try.prog G55 zaS (cdF Try.f55 [1,0,1,1,1,1,1,1,1,1]) (zb8 (zcn Try.prog Try.f55 K))))) s→X s)→X (zfW zaa zab zaJ iv8 zfp zbu)):=by kernel_rfl
  refine zax e ?_
  intro X hX
  refine h X ?_
  intro zaJ iv8 zaR hs
  refine hX _ ?_
  have e2:=zql K X zaa zab zaJ iv8 zaR
  rw [e2]
  exact hs
def zot (K:List PA→Prop) (X8:St→Prop) (X9:St→Prop) (zaa:(Sl Gate)) (zab:(Sl Mp)) (zay:Int) (iv9:Int) (pv9:Int) (qv9:Int) (rv9:Int) (zbb:(Sl Int)):Prop :=
  (((0≤iv9∧iv9 < (zaa.len:Int))) ∧
 (zcZ (decide (rv9 ≤ (zaa.get iv9.toNat).High))
 (((0≤(w64 (iv9 - (2:Int)))∧(w64 (iv9 - (2:Int))) < (zaa.len:Int))) ∧
 (((0≤(w64 (iv9 - (1:Int)))∧(w64 (iv9 - (1:Int))) < (zaa.len:Int))) ∧
 (((0≤iv9∧iv9 < (zaa.len:Int))) ∧
 (((p85 ((zaa.get ((w64 (iv9 - (2:Int))).toNat)).Z) ((zaa.get ((w64 (iv9 - (1:Int))).toNat)).Z) ((zaa.get iv9.toNat).Z) pv9 qv9 rv9=true)) ∧
 (zcZ (decide ((s85 ((zaa.get ((w64 (iv9 - (2:Int))).toNat)).Z) ((zaa.get ((w64 (iv9 - (1:Int))).toNat)).Z) ((zaa.get iv9.toNat).Z) pv9 qv9 rv9) ≤ zay))
 (((0≤(w64 (iv9 - (1:Int)))∧(w64 (iv9 - (1:Int))) < (zab.len:Int))) ∧
 (zgW K X8 X9 zaa zab zay iv9 pv9 qv9 rv9 (decide ((zdW (((zab.get ((w64 (iv9 - (1:Int))).toNat)).F) [qv9,rv9]) 0)≤zay)) zbb.len (fun i=>zat (zbb.get i))))
 (zgW K X8 X9 zaa zab zay iv9 pv9 qv9 rv9 false zbb.len (fun i=>zat (zbb.get i))))))))
 (X8 (zfW zaa zab zay (w64 (iv9+(1:Int))) zbb.len (fun i=>zat (zbb.get i))))))
theorem zqm (K : List PA → Prop) (X8 : St → Prop) (X9 : St → Prop) (zaa : (Sl Gate)) (zab : (Sl Mp)) (zay : Int) (iv9 : Int) (pv9 : Int) (qv9 : Int) (rv9 : Int) (zbb : (Sl Int)) :
  vc Try.prog G55 zaS (cd (cdF Try.f55 [1,0,1,1,1,1,1,1,1,0,1,0,0,1,0,0,1,1,0]) [0]) (zd1 Try.prog zaS 24 X9 (zaX 8 (zaX 7 (sqK Try.prog G55 zaS (cdF Try.f55 [1,0,1,1,1,1,1,1,1,0,1,0,0,1,1]) (zd1 Try.prog zaS 20 X8 (zaX 6 (sqK Try.prog G55 zaS (cdF Try.f55 [1,0,1,1,1,1,1,1,1,1]) (zb8 (zcn Try.prog Try.f55 K))))))))) (zh2 zaa zab zay iv9 pv9 qv9 rv9 zbb.len (fun i=>zat (zbb.get i))) =
  zot K X8 X9 zaa zab zay iv9 pv9 qv9 rv9 zbb:=by kernel_rfl
theorem zxV (K : List PA → Prop) (X8 : St → Prop) (zaa : (Sl Gate)) (zab : (Sl Mp)) (zay : Int) (iv9 : Int) (pv9 : Int) (qv9 : Int) (rv9 : Int) (zfq : Nat) (zbF : Nat → List PV)
  (h:∀ X9:St→Prop,(∀ (zay:Int) (iv9:Int) (pv9:Int) (qv9:Int) (rv9:Int) (zbb:(Sl Int)),zot K X8 X9 zaa zab zay iv9 pv9 qv9 rv9 zbb→X9 (zh2 zaa zab zay iv9 pv9 qv9 rv9 zbb.len (fun i=>zat (zbb.get i))))→X9 (zh2 zaa zab zay iv9 pv9 qv9 rv9 zfq zbF)) :
  zjO K X8 zaa zab zay iv9 pv9 qv9 rv9 zfq zbF:=by
  have e:zjO K X8 zaa zab zay iv9 pv9 qv9 rv9 zfq zbF=(∀ X:St→Prop,(∀ s,vc Try.prog G55 zaS (cd (cdF Try.f55 [1,0,1,1,1,1,1,1,1,0,1,0,0,1,0,0,1,1,0]) [0]) (zd1 Try.prog zaS 24 X (zaX 8 (zaX 7 (sqK Try.prog G55 zaS (cdF Try.f55 [1,0,1,1,1,1,1,1,1,0,1,0,0,1,1]) (zd1 Try.prog zaS 20 X8 (zaX 6 (sqK Try.prog G55 zaS (cdF Try.f55 [1,0,1,1,1,1,1,1,1,1]) (zb8 (zcn Try.prog Try.f55 K))))))))) s→X s)→X (zh2 zaa zab zay iv9 pv9 qv9 rv9 zfq zbF)):=by kernel_rfl
  refine zax e ?_
  intro X hX
  refine h X ?_
  intro zay iv9 pv9 qv9 rv9 zbb hs
  refine hX _ ?_
  have e2:=zqm K X8 X zaa zab zay iv9 pv9 qv9 rv9 zbb
  rw [e2]
  exact hs
theorem zAW (K : List PA → Prop) (X8 : St → Prop) (X9 : St → Prop) (zaa : (Sl Gate)) (zab : (Sl Mp)) (zbO : Int) (zg5 : Int) (zoG : Int) (zoH : Int) (zkG : Int) (zcs : Bool) (zbh : (Sl Int)) :
  zgW K X8 X9 zaa zab zbO zg5 zoG zoH zkG zcs zbh.len (fun i=>zat (zbh.get i)) =
  (zcZ zcs
 ((((zbh.len+1) * 8≤140737488355328∧zbh.len+1≤9223372036854775807)) ∧
 (X8 (zfW zaa zab zbO (w64 (zg5+(1:Int))) (zbh.len+1) (appG zbh.len (fun i=>zat (zbh.get i)) (fun _=>(zat zkG))))))
 (X9 (zh2 zaa zab zbO zg5 zoG zoH (w64 (zkG+(1:Int))) zbh.len (fun i=>zat (zbh.get i))))):=by kernel_rfl
abbrev e55 (r:((Sl Int)×Int×Int)):List PA:=[.one (.sl r.1.len 1 (fun i=>zat (r.1.get i))),.one (.int .i64 r.2.1),.one (.int .i64 r.2.2)]
attribute [irreducible] zmC zmD zmE zjI zmF zjJ zjL zjM zjN zjO zgW
def ziy (S8:Int→Int→(Sl Int)→((Sl Int)×Int×Int)) (S9:Int→Int→Int→Int→Int→(Sl Int)→((Sl Int)×Int×Int)) (zaa:(Sl Gate)) (zab:(Sl Mp)) (zbO:Int) (zg5:Int) (zoG:Int) (zoH:Int) (zkG:Int) (zcs:Bool) (zbh:(Sl Int)):((Sl Int)×Int×Int) :=
  (cond zcs
 (S8 zbO (w64 (zg5+(1:Int))) (⟨(zbh.len+1),(zdt zbh.len zbh.get (fun _=>zkG))⟩:Sl Int))
 (S9 zbO zg5 zoG zoH (w64 (zkG+(1:Int))) zbh))
def ziz (P8:Int→Int→(Sl Int)→Bool) (P9:Int→Int→Int→Int→Int→(Sl Int)→Bool) (zaa:(Sl Gate)) (zab:(Sl Mp)) (zbO:Int) (zg5:Int) (zoG:Int) (zoH:Int) (zkG:Int) (zcs:Bool) (zbh:(Sl Int)):Bool :=
  (cond zcs
 (decide (((zbh.len+1) * 8≤140737488355328∧zbh.len+1≤9223372036854775807)) &&
 (P8 zbO (w64 (zg5+(1:Int))) (⟨(zbh.len+1),(zdt zbh.len zbh.get (fun _=>zkG))⟩:Sl Int)))
 (P9 zbO zg5 zoG zoH (w64 (zkG+(1:Int))) zbh))
theorem zsp (K : List PA → Prop) (zaa : (Sl Gate)) (zab : (Sl Mp))
  (X8:St→Prop) (P8:Int→Int→(Sl Int)→Bool) (S8:Int→Int→(Sl Int)→((Sl Int)×Int×Int))
  (hX8:∀ (zaJ:Int) (iv8:Int) (zaR:(Sl Int)) (zbu:Nat→List PV) (zgl:zbu=fun i=>zat (zaR.get i)),P8 zaJ iv8 zaR=true→K (e55 (S8 zaJ iv8 zaR))→X8 (zfW zaa zab zaJ iv8 zaR.len zbu))
  (X9:St→Prop) (P9:Int→Int→Int→Int→Int→(Sl Int)→Bool) (S9:Int→Int→Int→Int→Int→(Sl Int)→((Sl Int)×Int×Int))
  (hX9:∀ (zay:Int) (iv9:Int) (pv9:Int) (qv9:Int) (rv9:Int) (zbb:(Sl Int)) (zbF:Nat→List PV) (zhy:zbF=fun i=>zat (zbb.get i)),P9 zay iv9 pv9 qv9 rv9 zbb=true→K (e55 (S9 zay iv9 pv9 qv9 rv9 zbb))→X9 (zh2 zaa zab zay iv9 pv9 qv9 rv9 zbb.len zbF)) (zbO:Int) (zg5:Int) (zoG:Int) (zoH:Int) (zkG:Int) (zcs:Bool) (zbh:(Sl Int)) (zfK:Nat→List PV) (zAX:zfK=fun i=>zat (zbh.get i)) (hs:ziz P8 P9 zaa zab zbO zg5 zoG zoH zkG zcs zbh=true) (hk:K (e55 (ziy S8 S9 zaa zab zbO zg5 zoG zoH zkG zcs zbh))):zgW (Wk K) X8 X9 zaa zab zbO zg5 zoG zoH zkG zcs zbh.len zfK:=by
  subst zAX
  refine zax (zAW (Wk K) X8 X9 zaa zab zbO zg5 zoG zoH zkG zcs zbh) ?_
  unfold ziz at hs
  unfold ziy at hk
  exact (zcg (K := fun r => K (e55 r))
 (fun hs hk=>(zaw hs fun hc hs=>⟨hc,(hX8 zbO (w64 (zg5+(1:Int))) (⟨(zbh.len+1),(zdt zbh.len zbh.get (fun _=>zkG))⟩:Sl Int) (appG zbh.len (fun i=>zat (zbh.get i)) (fun _=>(zat zkG))) (zjd (enc:=zat) (f:=zbh.get) (h:=(fun _=>zkG)) rfl rfl) hs hk)⟩))
 (fun hs hk=>(hX9 zbO zg5 zoG zoH (w64 (zkG+(1:Int))) zbh (fun i=>zat (zbh.get i)) rfl hs hk)) hs hk)
def zqn (S8:Int→Int→(Sl Int)→((Sl Int)×Int×Int)) (zaa:(Sl Gate)) (zab:(Sl Mp)) (S9:Int→Int→Int→Int→Int→(Sl Int)→((Sl Int)×Int×Int)) (zay:Int) (iv9:Int) (pv9:Int) (qv9:Int) (rv9:Int) (zbb:(Sl Int)):((Sl Int)×Int×Int) :=
  (cond (decide (rv9 ≤ (zaa.get iv9.toNat).High))
 (cond (decide ((s85 ((zaa.get ((w64 (iv9 - (2:Int))).toNat)).Z) ((zaa.get ((w64 (iv9 - (1:Int))).toNat)).Z) ((zaa.get iv9.toNat).Z) pv9 qv9 rv9) ≤ zay))
 (ziy S8 S9 zaa zab zay iv9 pv9 qv9 rv9 (decide ((zdW (((zab.get ((w64 (iv9 - (1:Int))).toNat)).F) [qv9,rv9]) 0)≤zay)) zbb)
 (ziy S8 S9 zaa zab zay iv9 pv9 qv9 rv9 false zbb))
 (S8 zay (w64 (iv9+(1:Int))) zbb))
def zqo (P8:Int→Int→(Sl Int)→Bool) (zaa:(Sl Gate)) (zab:(Sl Mp)) (P9:Int→Int→Int→Int→Int→(Sl Int)→Bool) (zay:Int) (iv9:Int) (pv9:Int) (qv9:Int) (rv9:Int) (zbb:(Sl Int)):Bool :=
  (decide ((0≤iv9∧iv9 < (zaa.len:Int))) &&
 (cond (decide (rv9 ≤ (zaa.get iv9.toNat).High))
 (decide ((0≤(w64 (iv9 - (2:Int)))∧(w64 (iv9 - (2:Int))) < (zaa.len:Int))) &&
 (decide ((0≤(w64 (iv9 - (1:Int)))∧(w64 (iv9 - (1:Int))) < (zaa.len:Int))) &&
 (decide ((0≤iv9∧iv9 < (zaa.len:Int))) &&
 (decide ((p85 ((zaa.get ((w64 (iv9 - (2:Int))).toNat)).Z) ((zaa.get ((w64 (iv9 - (1:Int))).toNat)).Z) ((zaa.get iv9.toNat).Z) pv9 qv9 rv9=true)) &&
 (cond (decide ((s85 ((zaa.get ((w64 (iv9 - (2:Int))).toNat)).Z) ((zaa.get ((w64 (iv9 - (1:Int))).toNat)).Z) ((zaa.get iv9.toNat).Z) pv9 qv9 rv9) ≤ zay))
 (decide ((0≤(w64 (iv9 - (1:Int)))∧(w64 (iv9 - (1:Int))) < (zab.len:Int))) &&
 (ziz P8 P9 zaa zab zay iv9 pv9 qv9 rv9 (decide ((zdW (((zab.get ((w64 (iv9 - (1:Int))).toNat)).F) [qv9,rv9]) 0)≤zay)) zbb))
 (ziz P8 P9 zaa zab zay iv9 pv9 qv9 rv9 false zbb))))))
 (P8 zay (w64 (iv9+(1:Int))) zbb)))
def zjP (S8 : Int → Int → (Sl Int) → ((Sl Int) × Int × Int)) (zaa : (Sl Gate)) (zab : (Sl Mp)) : Nat → Int → Int → Int → Int → Int → (Sl Int) → ((Sl Int) × Int × Int)
  | 0=>fun _ _ _ _ _ _=>default
  | k+1=>zqn S8 zaa zab (zjP S8 zaa zab k)
def zjQ (P8 : Int → Int → (Sl Int) → Bool) (zaa : (Sl Gate)) (zab : (Sl Mp)) : Nat → Int → Int → Int → Int → Int → (Sl Int) → Bool
  | 0=>fun _ _ _ _ _ _=>false
  | k+1=>zqo P8 zaa zab (zjQ P8 zaa zab k)
def zxW (S8:Int→Int→(Sl Int)→((Sl Int)×Int×Int)) (zaa:(Sl Gate)) (zab:(Sl Mp)) (zay:Int) (iv9:Int) (pv9:Int) (qv9:Int) (rv9:Int) (zbb:(Sl Int)):((Sl Int)×Int×Int):=zjP S8 zaa zab Fuel zay iv9 pv9 qv9 rv9 zbb
def zxX (P8:Int→Int→(Sl Int)→Bool) (zaa:(Sl Gate)) (zab:(Sl Mp)) (zay:Int) (iv9:Int) (pv9:Int) (qv9:Int) (rv9:Int) (zbb:(Sl Int)):Bool:=zjQ P8 zaa zab Fuel zay iv9 pv9 qv9 rv9 zbb
theorem zFf (K : List PA → Prop) (zaa : (Sl Gate)) (zab : (Sl Mp))
  (X8:St→Prop) (P8:Int→Int→(Sl Int)→Bool) (S8:Int→Int→(Sl Int)→((Sl Int)×Int×Int))
  (hX8:∀ (zaJ:Int) (iv8:Int) (zaR:(Sl Int)) (zbu:Nat→List PV) (zgl:zbu=fun i=>zat (zaR.get i)),P8 zaJ iv8 zaR=true→K (e55 (S8 zaJ iv8 zaR))→X8 (zfW zaa zab zaJ iv8 zaR.len zbu)) (zay:Int) (iv9:Int) (pv9:Int) (qv9:Int) (rv9:Int) (zbb:(Sl Int)) (zbF:Nat→List PV) (zhy:zbF=fun i=>zat (zbb.get i)) (hs:zxX P8 zaa zab zay iv9 pv9 qv9 rv9 zbb=true) (hk:K (e55 (zxW S8 zaa zab zay iv9 pv9 qv9 rv9 zbb))):zjO (Wk K) X8 zaa zab zay iv9 pv9 qv9 rv9 zbb.len zbF:=by
  refine zxV (Wk K) X8 zaa zab zay iv9 pv9 qv9 rv9 zbb.len zbF ?_
  intro X9 hstep
  have key:∀ (k:Nat) (zay:Int) (iv9:Int) (pv9:Int) (qv9:Int) (rv9:Int) (zbb:(Sl Int)) (zbF:Nat→List PV) (zhy:zbF=fun i=>zat (zbb.get i)),zjQ P8 zaa zab k zay iv9 pv9 qv9 rv9 zbb=true→K (e55 (zjP S8 zaa zab k zay iv9 pv9 qv9 rv9 zbb))→X9 (zh2 zaa zab zay iv9 pv9 qv9 rv9 zbb.len zbF):=by
    intro k
    induction k with
    | zero=>intro zay iv9 pv9 qv9 rv9 zbb zbF zhy hs;exact absurd hs Bool.false_ne_true
    | succ k ih =>
      intro zay iv9 pv9 qv9 rv9 zbb zbF zhy hs hk
      subst zhy
      refine hstep zay iv9 pv9 qv9 rv9 zbb ?_
      have hs:zqo P8 zaa zab (zjQ P8 zaa zab k) zay iv9 pv9 qv9 rv9 zbb=true:=hs
      have hk:K (e55 (zqn S8 zaa zab (zjP S8 zaa zab k) zay iv9 pv9 qv9 rv9 zbb)):=hk
      unfold zqo at hs
      unfold zqn at hk
      generalize zjP S8 zaa zab k=S9 at hk ih
      generalize zjQ P8 zaa zab k=P9 at hs ih
      have hX9:=ih
      exact (zaw hs fun hc hs => ⟨hc, (zcg (K := fun r => K (e55 r))
 (fun hs hk => (zaw hs fun hc hs => ⟨hc, (zaw hs fun hc hs => ⟨hc, (zaw hs fun hc hs => ⟨hc, (zaw hs fun hc hs => ⟨hc, (zcg (K := fun r => K (e55 r))
 (fun hs hk=>(zaw hs fun hc hs=>⟨hc,(zsp K zaa zab X8 P8 S8 hX8 X9 P9 S9 hX9 zay iv9 pv9 qv9 rv9 (decide ((zdW (((zab.get ((w64 (iv9 - (1:Int))).toNat)).F) [qv9,rv9]) 0)≤zay)) zbb (fun i=>zat (zbb.get i)) rfl hs hk)⟩))
 (fun hs hk=>(zsp K zaa zab X8 P8 S8 hX8 X9 P9 S9 hX9 zay iv9 pv9 qv9 rv9 false zbb (fun i=>zat (zbb.get i)) rfl hs hk)) hs hk)⟩)⟩)⟩)⟩))
 (fun hs hk=>(hX8 zay (w64 (iv9+(1:Int))) zbb (fun i=>zat (zbb.get i)) rfl hs hk)) hs hk)⟩)
  exact key _ zay iv9 pv9 qv9 rv9 zbb zbF zhy hs hk
def zqp (zaa:(Sl Gate)) (zab:(Sl Mp)) (S8:Int→Int→(Sl Int)→((Sl Int)×Int×Int)) (zaJ:Int) (iv8:Int) (zaR:(Sl Int)):((Sl Int)×Int×Int) :=
  (cond (decide (iv8 < (zaa.len : Int)))
 (zxW S8 zaa zab zaJ iv8 (zaR.get ((w64 (iv8 - (2:Int))).toNat)) (zaR.get ((w64 (iv8 - (1:Int))).toNat)) ((zaa.get iv8.toNat).Low) zaR)
 (zaR,zaJ,(0:Int)))
def zqq (zaa:(Sl Gate)) (zab:(Sl Mp)) (P8:Int→Int→(Sl Int)→Bool) (zaJ:Int) (iv8:Int) (zaR:(Sl Int)):Bool :=
  (cond (decide (iv8 < (zaa.len : Int)))
 (decide ((0≤(w64 (iv8 - (2:Int)))∧(w64 (iv8 - (2:Int))) < (zaR.len:Int))) &&
 (decide (((w64 (iv8 - (2:Int))).toNat < zaR.len)) &&
 (decide ((0≤(w64 (iv8 - (1:Int)))∧(w64 (iv8 - (1:Int))) < (zaR.len:Int))) &&
 (decide (((w64 (iv8 - (1:Int))).toNat < zaR.len)) &&
 (decide ((0≤iv8∧iv8 < (zaa.len:Int))) &&
 (zxX P8 zaa zab zaJ iv8 (zaR.get ((w64 (iv8 - (2:Int))).toNat)) (zaR.get ((w64 (iv8 - (1:Int))).toNat)) ((zaa.get iv8.toNat).Low) zaR))))))
 true)
def zjR (zaa : (Sl Gate)) (zab : (Sl Mp)) : Nat → Int → Int → (Sl Int) → ((Sl Int) × Int × Int)
  | 0=>fun _ _ _=>default
  | k+1=>zqp zaa zab (zjR zaa zab k)
def zjS (zaa : (Sl Gate)) (zab : (Sl Mp)) : Nat → Int → Int → (Sl Int) → Bool
  | 0=>fun _ _ _=>false
  | k+1=>zqq zaa zab (zjS zaa zab k)
def zxY (zaa:(Sl Gate)) (zab:(Sl Mp)) (zaJ:Int) (iv8:Int) (zaR:(Sl Int)):((Sl Int)×Int×Int):=zjR zaa zab Fuel zaJ iv8 zaR
def zxZ (zaa:(Sl Gate)) (zab:(Sl Mp)) (zaJ:Int) (iv8:Int) (zaR:(Sl Int)):Bool:=zjS zaa zab Fuel zaJ iv8 zaR
theorem zFg (K:List PA→Prop) (zaa:(Sl Gate)) (zab:(Sl Mp)) (zaJ:Int) (iv8:Int) (zaR:(Sl Int)) (zbu:Nat→List PV) (zgl:zbu=fun i=>zat (zaR.get i)) (hs:zxZ zaa zab zaJ iv8 zaR=true) (hk:K (e55 (zxY zaa zab zaJ iv8 zaR))):zjN (Wk K) zaa zab zaJ iv8 zaR.len zbu:=by
  refine zxU (Wk K) zaa zab zaJ iv8 zaR.len zbu ?_
  intro X8 hstep
  have key:∀ (k:Nat) (zaJ:Int) (iv8:Int) (zaR:(Sl Int)) (zbu:Nat→List PV) (zgl:zbu=fun i=>zat (zaR.get i)),zjS zaa zab k zaJ iv8 zaR=true→K (e55 (zjR zaa zab k zaJ iv8 zaR))→X8 (zfW zaa zab zaJ iv8 zaR.len zbu):=by
    intro k
    induction k with
    | zero=>intro zaJ iv8 zaR zbu zgl hs;exact absurd hs Bool.false_ne_true
    | succ k ih =>
      intro zaJ iv8 zaR zbu zgl hs hk
      subst zgl
      refine hstep zaJ iv8 zaR ?_
      have hs:zqq zaa zab (zjS zaa zab k) zaJ iv8 zaR=true:=hs
      have hk:K (e55 (zqp zaa zab (zjR zaa zab k) zaJ iv8 zaR)):=hk
      unfold zqq at hs
      unfold zqp at hk
      generalize zjR zaa zab k=S8 at hk ih
      generalize zjS zaa zab k=P8 at hs ih
      have hX8:=ih
      exact (zcg (K := fun r => K (e55 r))
 (fun hs hk=>(zaw hs fun hc hs=>⟨hc,(zaw hs fun hc hs=>⟨hc,(zaw hs fun hc hs=>⟨hc,(zaw hs fun hc hs=>⟨hc,(zaw hs fun hc hs=>⟨hc,(zFf K zaa zab X8 P8 S8 hX8 zaJ iv8 (zaR.get ((w64 (iv8 - (2:Int))).toNat)) (zaR.get ((w64 (iv8 - (1:Int))).toNat)) ((zaa.get iv8.toNat).Low) zaR (fun i=>zat (zaR.get i)) rfl hs hk)⟩)⟩)⟩)⟩)⟩))
 (fun hs hk=>(zeh hk)) hs hk)
  exact key _ zaJ iv8 zaR zbu zgl hs hk
def zmH (zaa:(Sl Gate)) (zab:(Sl Mp)) (zde:Int) (zfO:(Sl Int)):((Sl Int)×Int×Int) :=
  (zxY zaa zab zde (2:Int) zfO)
def zmI (zaa:(Sl Gate)) (zab:(Sl Mp)) (zde:Int) (zfO:(Sl Int)):Bool :=
  (zxZ zaa zab zde (2:Int) zfO)
theorem zx0 (K:List PA→Prop) (zaa:(Sl Gate)) (zab:(Sl Mp)) (zde:Int) (zfO:(Sl Int)) (zhx:Nat→List PV) (zFh:zhx=fun i=>zat (zfO.get i)) (hs:zmI zaa zab zde zfO=true) (hk:K (e55 (zmH zaa zab zde zfO))):zjM (Wk K) zaa zab zde zfO.len zhx:=by
  subst zFh
  refine zax (zFe (Wk K) zaa zab zde zfO) ?_
  unfold zmI at hs
  unfold zmH at hk
  exact (zFg K zaa zab zde (2:Int) zfO (fun i=>zat (zfO.get i)) rfl hs hk)
def zqr (S5:Int→Int→((Sl Int)×Int×Int)) (zaa:(Sl Gate)) (zab:(Sl Mp)) (S6:Int→Int→Int→((Sl Int)×Int×Int)) (zaH:Int) (pv6:Int) (qv6:Int):((Sl Int)×Int×Int) :=
  (cond (decide (qv6 ≤ (zaa.get 1).High))
 (cond ((zdW (((zab.get 0).F) [pv6, qv6]) 0) == zaH)
 (zmH zaa zab zaH (⟨2,(ziA pv6 [pv6,qv6])⟩:Sl Int))
 (S6 zaH pv6 (w64 (qv6+(1:Int)))))
 (S5 zaH (w64 (pv6+(1:Int)))))
def zqs (P5:Int→Int→Bool) (zaa:(Sl Gate)) (zab:(Sl Mp)) (P6:Int→Int→Int→Bool) (zaH:Int) (pv6:Int) (qv6:Int):Bool :=
  (decide ((0≤(1:Int)∧(1:Int) < (zaa.len:Int))) &&
 (cond (decide (qv6 ≤ (zaa.get 1).High))
 (decide ((0≤(0:Int)∧(0:Int) < (zab.len:Int))) &&
 (cond ((zdW (((zab.get 0).F) [pv6, qv6]) 0) == zaH)
 (zmI zaa zab zaH (⟨2,(ziA pv6 [pv6,qv6])⟩:Sl Int))
 (P6 zaH pv6 (w64 (qv6+(1:Int))))))
 (P5 zaH (w64 (pv6+(1:Int))))))
def zjT (S5 : Int → Int → ((Sl Int) × Int × Int)) (zaa : (Sl Gate)) (zab : (Sl Mp)) : Nat → Int → Int → Int → ((Sl Int) × Int × Int)
  | 0=>fun _ _ _=>default
  | k+1=>zqr S5 zaa zab (zjT S5 zaa zab k)
def zjU (P5 : Int → Int → Bool) (zaa : (Sl Gate)) (zab : (Sl Mp)) : Nat → Int → Int → Int → Bool
  | 0=>fun _ _ _=>false
  | k+1=>zqs P5 zaa zab (zjU P5 zaa zab k)
def zx1 (S5:Int→Int→((Sl Int)×Int×Int)) (zaa:(Sl Gate)) (zab:(Sl Mp)) (zaH:Int) (pv6:Int) (qv6:Int):((Sl Int)×Int×Int):=zjT S5 zaa zab Fuel zaH pv6 qv6
def zx2 (P5:Int→Int→Bool) (zaa:(Sl Gate)) (zab:(Sl Mp)) (zaH:Int) (pv6:Int) (qv6:Int):Bool:=zjU P5 zaa zab Fuel zaH pv6 qv6
theorem zFi (K : List PA → Prop) (zaa : (Sl Gate)) (zab : (Sl Mp))
  (X5:St→Prop) (P5:Int→Int→Bool) (S5:Int→Int→((Sl Int)×Int×Int))
  (hX5:∀ (zaM:Int) (pv5:Int),P5 zaM pv5=true→K (e55 (S5 zaM pv5))→X5 (zh1 zaa zab zaM pv5)) (zaH:Int) (pv6:Int) (qv6:Int) (hs:zx2 P5 zaa zab zaH pv6 qv6=true) (hk:K (e55 (zx1 S5 zaa zab zaH pv6 qv6))):zjL (Wk K) X5 zaa zab zaH pv6 qv6:=by
  refine zxT (Wk K) X5 zaa zab zaH pv6 qv6 ?_
  intro X6 hstep
  have key:∀ (k:Nat) (zaH:Int) (pv6:Int) (qv6:Int),zjU P5 zaa zab k zaH pv6 qv6=true→K (e55 (zjT S5 zaa zab k zaH pv6 qv6))→X6 (zjK zaa zab zaH pv6 qv6):=by
    intro k
    induction k with
    | zero=>intro zaH pv6 qv6 hs;exact absurd hs Bool.false_ne_true
    | succ k ih =>
      intro zaH pv6 qv6 hs hk
      refine hstep zaH pv6 qv6 ?_
      have hs:zqs P5 zaa zab (zjU P5 zaa zab k) zaH pv6 qv6=true:=hs
      have hk:K (e55 (zqr S5 zaa zab (zjT S5 zaa zab k) zaH pv6 qv6)):=hk
      unfold zqs at hs
      unfold zqr at hk
      generalize zjT S5 zaa zab k=S6 at hk ih
      generalize zjU P5 zaa zab k=P6 at hs ih
      have hX6:=ih
      exact (zaw hs fun hc hs => ⟨hc, (zcg (K := fun r => K (e55 r))
 (fun hs hk => (zaw hs fun hc hs => ⟨hc, (zcg (K := fun r => K (e55 r))
 (fun hs hk=>(zx0 K zaa zab zaH (⟨2,(ziA pv6 [pv6,qv6])⟩:Sl Int) (zdg [(zat pv6),(zat qv6)]) (zeC (enc:=zat) (x:=pv6) (y:=qv6) (r:=[])) hs hk))
 (fun hs hk=>(hX6 zaH pv6 (w64 (qv6+(1:Int))) hs hk)) hs hk)⟩))
 (fun hs hk=>(hX5 zaH (w64 (pv6+(1:Int))) hs hk)) hs hk)⟩)
  exact key _ zaH pv6 qv6 hs hk
def zqu (zaa:(Sl Gate)) (zab:(Sl Mp)) (S5:Int→Int→((Sl Int)×Int×Int)) (zaM:Int) (pv5:Int):((Sl Int)×Int×Int) :=
  (cond (decide (pv5 ≤ (zaa.get 0).High))
 (zx1 S5 zaa zab zaM pv5 ((zaa.get 1).Low))
 (zmH zaa zab zaM (⟨0,(fun _=>default)⟩:Sl Int)))
def zqv (zaa:(Sl Gate)) (zab:(Sl Mp)) (P5:Int→Int→Bool) (zaM:Int) (pv5:Int):Bool :=
  (decide ((0≤(0:Int)∧(0:Int) < (zaa.len:Int))) &&
 (cond (decide (pv5 ≤ (zaa.get 0).High))
 (decide ((0≤(1:Int)∧(1:Int) < (zaa.len:Int))) &&
 (zx2 P5 zaa zab zaM pv5 ((zaa.get 1).Low)))
 (zmI zaa zab zaM (⟨0,(fun _=>default)⟩:Sl Int))))
def zjV (zaa : (Sl Gate)) (zab : (Sl Mp)) : Nat → Int → Int → ((Sl Int) × Int × Int)
  | 0=>fun _ _=>default
  | k+1=>zqu zaa zab (zjV zaa zab k)
def zjW (zaa : (Sl Gate)) (zab : (Sl Mp)) : Nat → Int → Int → Bool
  | 0=>fun _ _=>false
  | k+1=>zqv zaa zab (zjW zaa zab k)
def zx3 (zaa:(Sl Gate)) (zab:(Sl Mp)) (zaM:Int) (pv5:Int):((Sl Int)×Int×Int):=zjV zaa zab Fuel zaM pv5
def zx4 (zaa:(Sl Gate)) (zab:(Sl Mp)) (zaM:Int) (pv5:Int):Bool:=zjW zaa zab Fuel zaM pv5
theorem zFj (K:List PA→Prop) (zaa:(Sl Gate)) (zab:(Sl Mp)) (zaM:Int) (pv5:Int) (hs:zx4 zaa zab zaM pv5=true) (hk:K (e55 (zx3 zaa zab zaM pv5))):zjJ (Wk K) zaa zab zaM pv5:=by
  refine zxS (Wk K) zaa zab zaM pv5 ?_
  intro X5 hstep
  have key:∀ (k:Nat) (zaM:Int) (pv5:Int),zjW zaa zab k zaM pv5=true→K (e55 (zjV zaa zab k zaM pv5))→X5 (zh1 zaa zab zaM pv5):=by
    intro k
    induction k with
    | zero=>intro zaM pv5 hs;exact absurd hs Bool.false_ne_true
    | succ k ih =>
      intro zaM pv5 hs hk
      refine hstep zaM pv5 ?_
      have hs:zqv zaa zab (zjW zaa zab k) zaM pv5=true:=hs
      have hk:K (e55 (zqu zaa zab (zjV zaa zab k) zaM pv5)):=hk
      unfold zqv at hs
      unfold zqu at hk
      generalize zjV zaa zab k=S5 at hk ih
      generalize zjW zaa zab k=P5 at hs ih
      have hX5:=ih
      exact (zaw hs fun hc hs => ⟨hc, (zcg (K := fun r => K (e55 r))
 (fun hs hk=>(zaw hs fun hc hs=>⟨hc,(zFi K zaa zab X5 P5 S5 hX5 zaM pv5 ((zaa.get 1).Low) hs hk)⟩))
 (fun hs hk=>(zx0 K zaa zab zaM (⟨0,(fun _=>default)⟩:Sl Int) (fun i=>zat ((fun _=>default) i)) rfl hs hk)) hs hk)⟩)
  exact key _ zaM pv5 hs hk
def zqw (zaa:(Sl Gate)) (zab:(Sl Mp)) (zdd:Int):((Sl Int)×Int×Int) :=
  (zx3 zaa zab zdd ((zaa.get 0).Low))
def zqx (zaa:(Sl Gate)) (zab:(Sl Mp)) (zdd:Int):Bool :=
  (decide ((0≤(0:Int)∧(0:Int) < (zaa.len:Int))) &&
 (zx4 zaa zab zdd ((zaa.get 0).Low)))
theorem zFk (K:List PA→Prop) (zaa:(Sl Gate)) (zab:(Sl Mp)) (zdd:Int) (hs:zqx zaa zab zdd=true) (hk:K (e55 (zqw zaa zab zdd))):zmF (Wk K) zaa zab zdd:=by
  refine zax (zFd (Wk K) zaa zab zdd) ?_
  unfold zqx at hs
  unfold zqw at hk
  exact (zaw hs fun hc hs=>⟨hc,(zFj K zaa zab zdd ((zaa.get 0).Low) hs hk)⟩)
def zmJ (zaa:(Sl Gate)) (zab:(Sl Mp)) (zaA:Int):((Sl Int)×Int×Int) :=
  (zqw zaa zab zaA)
def zmK (zaa:(Sl Gate)) (zab:(Sl Mp)) (zaA:Int):Bool :=
  (zqx zaa zab zaA)
def zjX (zaa:(Sl Gate)) (zab:(Sl Mp)) (k24_0:Int) (k24_1:Int) (S3:Int→((Sl Int)×Int×Int)) (zaA:Int):((Sl Int)×Int×Int) :=
  (cond (decide (zaA < (0:Int)))
 (S3 (zdW (((zab.get 0).F) [k24_0,k24_1]) 0))
 (cond (decide ((zdW (((zab.get 0).F) [k24_0, k24_1]) 0) < zaA))
 (S3 (zdW (((zab.get 0).F) [k24_0,k24_1]) 0))
 (S3 zaA)))
def zjY (zaa:(Sl Gate)) (zab:(Sl Mp)) (k24_0:Int) (k24_1:Int) (P3:Int→Bool) (zaA:Int):Bool :=
  (cond (decide (zaA < (0:Int)))
 (P3 (zdW (((zab.get 0).F) [k24_0,k24_1]) 0))
 (cond (decide ((zdW (((zab.get 0).F) [k24_0, k24_1]) 0) < zaA))
 (P3 (zdW (((zab.get 0).F) [k24_0,k24_1]) 0))
 (P3 zaA)))
def zeO (zaa : (Sl Gate)) (zab : (Sl Mp)) : List (List Int) → Int → ((Sl Int) × Int × Int)
  | []=>zmJ zaa zab
  | y :: r=>zjX zaa zab (y.getD 0 0) (y.getD 1 0) (zeO zaa zab r)
def zeP (zaa : (Sl Gate)) (zab : (Sl Mp)) : List (List Int) → Int → Bool
  | []=>zmK zaa zab
  | y :: r=>zjY zaa zab (y.getD 0 0) (y.getD 1 0) (zeP zaa zab r)
def zfr (_gates:Sl Gate) (t:Sl Mp) (ys:List (List Int)):Bool:=ys.all fun y=>decide (0≤zdW ((t.get 0).F y) 0)
theorem zFl (zaa:Sl Gate) (t:Sl Mp):∀ (y:List Int) (r:List (List Int)),zfr zaa t (y :: r)=true→zfr zaa t r=true:=fun y r h=>by
  simp only [zfr,List.all_cons,Bool.and_eq_true] at h ⊢;exact h.2
def kst (F:List Int→Option (List Int)) (k:Int) (y:List Int):Int:=if k < 0 then zdW (F y) 0 else if zdW (F y) 0 < k then zdW (F y) 0 else k
theorem zsq (F:List Int→Option (List Int)) {ys zs:List (List Int)} (h:∀ y∈ys,0≤zdW (F y) 0) (hp:ys.Perm zs) (k:Int):ys.foldl (kst F) k=zs.foldl (kst F) k:=by
  refine hp.foldl_eq' (fun x hx y hy z=>?_) k
  have h1:=h x hx
  have h2:=h y hy
  unfold kst
  repeat' split
  all_goals omega
theorem zqy (zaa : Sl Gate) (t : Sl Mp) : ∀ (ys : List (List Int)) (k : Int), (∀ y ∈ ys, y.length = 2) → zeO zaa t ys k = zmJ zaa t (ys.foldl (kst (t.get 0).F) k)
  | [],k,_=>rfl
  | y :: r,k,h=>by
    have hy:=h y List.mem_cons_self
    match y,hy with
    | [a,b],_ =>
    have ih:=fun k=>zqy zaa t r k (fun z hz=>h z (List.mem_cons_of_mem _ hz))
    show zjX zaa t a b (zeO zaa t r) k=_
    rw [List.foldl_cons]
    unfold zjX
    by_cases h1:k < 0
    · rw [decide_eq_true h1,cond_true,ih,show kst (t.get 0).F k [a,b]=zdW ((t.get 0).F [a,b]) 0 from if_pos h1]
    · rw [decide_eq_false h1, cond_false]
      by_cases h2:zdW ((t.get 0).F [a,b]) 0 < k
      · rw [decide_eq_true h2,cond_true,ih,show kst (t.get 0).F k [a,b]=zdW ((t.get 0).F [a,b]) 0 from (if_neg h1).trans (if_pos h2)]
      · rw [decide_eq_false h2,cond_false,ih,show kst (t.get 0).F k [a,b]=k from (if_neg h1).trans (if_neg h2)]
theorem zqz (zaa : Sl Gate) (t : Sl Mp) : ∀ (ys : List (List Int)) (k : Int), (∀ y ∈ ys, y.length = 2) → zeP zaa t ys k = zmK zaa t (ys.foldl (kst (t.get 0).F) k)
  | [],k,_=>rfl
  | y :: r,k,h=>by
    have hy:=h y List.mem_cons_self
    match y,hy with
    | [a,b],_ =>
    have ih:=fun k=>zqz zaa t r k (fun z hz=>h z (List.mem_cons_of_mem _ hz))
    show zjY zaa t a b (zeP zaa t r) k=_
    rw [List.foldl_cons]
    unfold zjY
    by_cases h1:k < 0
    · rw [decide_eq_true h1,cond_true,ih,show kst (t.get 0).F k [a,b]=zdW ((t.get 0).F [a,b]) 0 from if_pos h1]
    · rw [decide_eq_false h1, cond_false]
      by_cases h2:zdW ((t.get 0).F [a,b]) 0 < k
      · rw [decide_eq_true h2,cond_true,ih,show kst (t.get 0).F k [a,b]=zdW ((t.get 0).F [a,b]) 0 from (if_neg h1).trans (if_pos h2)]
      · rw [decide_eq_false h2,cond_false,ih,show kst (t.get 0).F k [a,b]=k from (if_neg h1).trans (if_neg h2)]
theorem zFm (zaa : Sl Gate) (t : Sl Mp) (ys zs : List (List Int)) (hl : ∀ y ∈ ys, y.length = 2) (h : zfr zaa t ys = true) (hp : ys.Perm zs) :
    zfr zaa t zs=true∧zeO zaa t ys=zeO zaa t zs∧zeP zaa t ys=zeP zaa t zs:=by
  simp only [zfr,List.all_eq_true,decide_eq_true_eq] at h ⊢
  have hl2:∀ y∈zs,y.length=2:=fun y hy=>hl y (hp.mem_iff.2 hy)
  refine ⟨fun y hy=>h y (hp.mem_iff.2 hy),funext fun k=>?_,funext fun k=>?_⟩
  · rw [zqy zaa t ys k hl,zqy zaa t zs k hl2,zsq _ h hp]
  · rw [zqz zaa t ys k hl,zqz zaa t zs k hl2,zsq _ h hp]
def zqA (zaa:(Sl Gate)) (zab:(Sl Mp)) (zaA:Int):((Sl Int)×Int×Int):=zeO zaa zab (zoo zaa) zaA
def zqB (zaa:(Sl Gate)) (zab:(Sl Mp)) (zaA:Int):Bool:=keysB 2 ((zab.get 0).n) ((zab.get 0).F) (zoo zaa) && zfr zaa zab (zoo zaa) && zeP zaa zab (zoo zaa) zaA
theorem zFn (K:List PA→Prop) (zaa:(Sl Gate)) (zab:(Sl Mp)) (zaA:Int) (hs:zqB zaa zab zaA=true) (hk:K (e55 (zqA zaa zab zaA))):zjI (Wk K) zaa zab [] zaA:=by
  unfold zqB at hs
  rw [Bool.and_eq_true,Bool.and_eq_true] at hs
  obtain ⟨⟨hkeys,hI⟩,hs⟩:=hs
  unfold zqA at hk
  generalize hys:zoo zaa=ys0 at hkeys hI hs hk
  refine zxR (Wk K) zaa zab [] zaA ?_
  intro X3 hstep
  have key:∀ (N:Nat) (ys:List (List Int)) (seen:List (List Int)) (zaA:Int),ys.length=N→(zGZ 2 ((zab.get 0).n) ((zab.get 0).F)→zHq 2 ((zab.get 0).F) seen ys)→zfr zaa zab ys=true→zeP zaa zab ys zaA=true→K (e55 (zeO zaa zab ys zaA))→X3 (zgV zaa zab seen zaA):=by
    intro N
    induction N with
    | zero =>
      intro ys seen zaA hN hrem hI hs hk
      obtain rfl:=List.eq_nil_of_length_eq_zero hN
      refine hstep seen zaA ?_
      intro hfin
      have hrem:=hrem hfin
      refine ⟨fun _=>?_,fun k24_0 k24_1 hF hns=>absurd (hrem.2.2 [k24_0,k24_1] rfl hF hns) (by simp)⟩
      have hs:zmK zaa zab zaA=true:=hs
      have hk:K (e55 (zmJ zaa zab zaA)):=hk
      unfold zmK at hs
      unfold zmJ at hk
      exact (zFk K zaa zab zaA hs hk)
    | succ N ih =>
      intro ys seen zaA hN hrem hI hs hk
      refine hstep seen zaA ?_
      intro hfin
      have hrem:=hrem hfin
      refine ⟨fun hend=>?_,fun k24_0 k24_1 hF hns=>?_⟩
      · exact absurd (zC2 hrem hend) (fun e=>by rw [e] at hN;simp at hN)
      · obtain ⟨hperm, hrem2, hlen⟩ := zAi hrem (c := [k24_0, k24_1]) rfl hF hns
        obtain ⟨hI2,e1,e2⟩:=zFm zaa zab ys _ (fun y hy=>(hrem.2.1 y hy).1) hI hperm
        have hI3:=zFl zaa zab _ _ hI2
        rw [e2] at hs
        rw [e1] at hk
        have hs:zjY zaa zab k24_0 k24_1 (zeP zaa zab (ys.erase [k24_0,k24_1])) zaA=true:=hs
        have hk:K (e55 (zjX zaa zab k24_0 k24_1 (zeO zaa zab (ys.erase [k24_0,k24_1])) zaA)):=hk
        have ih:=fun (zaA:Int)=>ih (ys.erase [k24_0,k24_1]) ([k24_0,k24_1] :: seen) zaA (by omega) (fun _=>hrem2) hI3
        unfold zjY at hs
        unfold zjX at hk
        generalize zeO zaa zab (ys.erase [k24_0,k24_1])=S3 at hk ih
        generalize zeP zaa zab (ys.erase [k24_0,k24_1])=P3 at hs ih
        have hX3:=ih
        exact (zcg (K := fun r => K (e55 r))
 (fun hs hk=>(hX3 (zdW (((zab.get 0).F) [k24_0,k24_1]) 0) hs hk))
 (fun hs hk => (zcg (K := fun r => K (e55 r))
 (fun hs hk=>(hX3 (zdW (((zab.get 0).F) [k24_0,k24_1]) 0) hs hk))
 (fun hs hk=>(hX3 zaA hs hk)) hs hk)) hs hk)
  exact key _ ys0 [] zaA rfl (fun hf=>zuE hkeys hf) hI hs hk
def zqC (zaa:(Sl Gate)) (zab:(Sl Mp)):((Sl Int)×Int×Int) :=
  (zqA zaa zab (-1:Int))
def zqD (zaa:(Sl Gate)) (zab:(Sl Mp)):Bool :=
  (decide ((0≤(0:Int)∧(0:Int) < (zab.len:Int))) &&
 (zqB zaa zab (-1:Int)))
theorem zFo (K:List PA→Prop) (zaa:(Sl Gate)) (zab:(Sl Mp)) (zep:Nat→List PV) (zx5:zep=fun i=>zcC (zab.get i)) (hs:zqD zaa zab=true) (hk:K (e55 (zqC zaa zab))):zmE (Wk K) zaa zab.len zep:=by
  subst zx5
  refine zax (zFc (Wk K) zaa zab) ?_
  unfold zqD at hs
  unfold zqC at hk
  exact (zaw hs fun hc hs=>⟨hc,(zFn K zaa zab (-1:Int) hs hk)⟩)
def zqE (zaa:(Sl Gate)):((Sl Int)×Int×Int) :=
  (zqC zaa (s93 zaa))
def zqF (zaa:(Sl Gate)):Bool :=
  (decide ((p93 zaa=true)) &&
 (zqD zaa (s93 zaa)))
theorem zFp (K:List PA→Prop) (zaa:(Sl Gate)) (hs:zqF zaa=true) (hk:K (e55 (zqE zaa))):zmD (Wk K) zaa:=by
  refine zax (zFb (Wk K) zaa) ?_
  unfold zqF at hs
  unfold zqE at hk
  exact (zaw hs fun hc hs=>⟨⟨isE,hc⟩,(zFo K zaa (s93 zaa) (fun i=>zcC ((s93 zaa).get i)) rfl hs hk)⟩)
def zqG (zaa:(Sl Gate)) (zgk:Bool):((Sl Int)×Int×Int) :=
  (cond zgk
 ((⟨0,fun _=>default⟩:(Sl Int)),(0:Int),(2:Int))
 (zqE zaa))
def zqH (zaa:(Sl Gate)) (zgk:Bool):Bool :=
  (cond zgk
 true
 (zqF zaa))
theorem zFq (K:List PA→Prop) (zaa:(Sl Gate)) (zgk:Bool) (hs:zqH zaa zgk=true) (hk:K (e55 (zqG zaa zgk))):zmC (Wk K) zaa zgk:=by
  refine zax (zFa (Wk K) zaa zgk) ?_
  unfold zqH at hs
  unfold zqG at hk
  exact (zcg (K := fun r => K (e55 r))
 (fun hs hk=>(wk hk (zc6 (.one (.nil _ _)) (zc6 (.one (.rfl _)) (zc6 (.one (.rfl _)) zhf)))))
 (fun hs hk=>(zFp K zaa hs hk)) hs hk)
def s55 (zaa:(Sl Gate)):((Sl Int)×Int×Int) :=
  (zqG zaa (!(s92 zaa)))
def p55 (zaa:(Sl Gate)):Bool :=
  (decide ((p92 zaa=true)) &&
 (zqH zaa (!(s92 zaa))))
theorem q55 (zaa:(Sl Gate)) (K:List PA→Prop) (hs:p55 zaa=true) (hk:K (e55 (s55 zaa))):vcFun Try.prog G55 zaS 55 [.one (.sl zaa.len 3 (fun i=>enc_55 (zaa.get i)))] (Wk K):=by
  refine zax (zE9 zaa (Wk K)) ?_
  unfold p55 at hs
  unfold s55 at hk
  exact (zaw hs fun hc hs=>⟨⟨isE,hc⟩,(zFq K zaa (!(s92 zaa)) hs hk)⟩)
def zFr : List PA → COut
  | [.one (.sl a0_n a0_s a0_g)]=>.det (IsE enc_55 3 a0_s a0_g∧p55 (⟨a0_n,zad a0_g⟩:(Sl Gate))=true) [.one (.sl (((s55 (⟨a0_n,zad a0_g⟩:(Sl Gate))).1).len) 1 (fun i=>zat (((s55 (⟨a0_n,zad a0_g⟩:(Sl Gate))).1).get i))),.one (.int .i64 ((s55 (⟨a0_n,zad a0_g⟩:(Sl Gate))).2.1)),.one (.int .i64 ((s55 (⟨a0_n,zad a0_g⟩:(Sl Gate))).2.2))]
  | _=>.no
theorem zI0:zai Try.prog 55:=⟨_,rfl,rfl,by kernel_rfl⟩
theorem zN9:Ok Try.prog 55 zFr:=zhg zLp zI0 fun args K h=>by
  unfold zFr at h
  split at h
  · rename_i a0_n a0_s a0_g
    obtain ⟨⟨⟨rfl,a0_f,rfl⟩,hs⟩,hk⟩:=h
    try rw [zac a0_f] at hs
    try rw [zac a0_f] at hk
    exact ⟨_,ze8 zfV _,(fun _ _=>[]),(fun _=>false),zaS,q55 (⟨a0_n,a0_f⟩:(Sl Gate)) K hs hk⟩
  · exact h.elim
abbrev T62:Tabs:=Tabs.nil
theorem zLq:TabsOk Try.prog T62:=TabsOk.nil
abbrev G62:Ctrs:=csm T62 (fun _ _=>[]) (fun _=>false)
def zI1:Ann:=⟨5,[(0,zK [] []),(1,zK [0] [4])],
 [],
 [],
 [],[]⟩
abbrev R62:=(Sl Gate)
abbrev e62 (r:R62):List PA:=[.one (.sl r.len 3 (fun i=>enc_55 (r.get i)))]
section
variable {K:List PA→Prop}
def s62:(Sl Gate) :=
  (⟨3,(ziA (⟨(0:Int),(0:Int),(10:Int)⟩:Gate) [(⟨(0:Int),(0:Int),(10:Int)⟩:Gate),(⟨(100:Int),(20:Int),(30:Int)⟩:Gate),(⟨(200:Int),(30:Int),(60:Int)⟩:Gate)])⟩:(Sl Gate))
end
theorem q62 (K:List PA→Prop) (hk:K (e62 (s62))):vcFun Try.prog G62 zI1 62 [] K :=
  zax (by kernel_rfl) (Eq.mpr (congrArg K (congrArg (fun (g_:Nat→List PV)=>([.one (.sl 3 3 g_)]:List PA)) (zeC (enc:=enc_55) (x:=(⟨(0:Int),(0:Int),(10:Int)⟩:Gate)) (y:=(⟨(100:Int),(20:Int),(30:Int)⟩:Gate)) (r:=[(⟨(200:Int),(30:Int),(60:Int)⟩:Gate)])))) hk)
def zFs : List PA → COut
  | []=>.tot [.one (.sl ((s62).len) 3 (fun i=>enc_55 ((s62).get i)))]
  | _=>.no
theorem zI2:zai Try.prog 62:=⟨_,rfl,rfl,by kernel_rfl⟩
theorem zOa:Ok Try.prog 62 zFs:=zaG zLq zI2 fun args K h=>by
  unfold zFs at h
  split at h
  · have hk := h
    exact ⟨(fun _ _=>[]),(fun _=>false),zI1,q62 K hk⟩
  · exact h.elim
abbrev T63:Tabs:=Tabs.nil
theorem zLr:TabsOk Try.prog T63:=TabsOk.nil
abbrev G63:Ctrs:=csm T63 (fun _ _=>[]) (fun _=>false)
def zI3:Ann:=⟨5,[(0,zK [] []),(1,zK [0] [4])],
 [],
 [],
 [],[]⟩
abbrev R63:=(Sl Gate)
abbrev e63 (r:R63):List PA:=[.one (.sl r.len 3 (fun i=>enc_55 (r.get i)))]
section
variable {K:List PA→Prop}
def s63:(Sl Gate) :=
  (⟨3,(ziA (⟨(0:Int),(0:Int),(10:Int)⟩:Gate) [(⟨(0:Int),(0:Int),(10:Int)⟩:Gate),(⟨(100:Int),(20:Int),(30:Int)⟩:Gate),(⟨(200:Int),(0:Int),(9:Int)⟩:Gate)])⟩:(Sl Gate))
end
theorem q63 (K:List PA→Prop) (hk:K (e63 (s63))):vcFun Try.prog G63 zI3 63 [] K :=
  zax (by kernel_rfl) (Eq.mpr (congrArg K (congrArg (fun (g_:Nat→List PV)=>([.one (.sl 3 3 g_)]:List PA)) (zeC (enc:=enc_55) (x:=(⟨(0:Int),(0:Int),(10:Int)⟩:Gate)) (y:=(⟨(100:Int),(20:Int),(30:Int)⟩:Gate)) (r:=[(⟨(200:Int),(0:Int),(9:Int)⟩:Gate)])))) hk)
def zFt : List PA → COut
  | []=>.tot [.one (.sl ((s63).len) 3 (fun i=>enc_55 ((s63).get i)))]
  | _=>.no
theorem zI4:zai Try.prog 63:=⟨_,rfl,rfl,by kernel_rfl⟩
theorem zOb:Ok Try.prog 63 zFt:=zaG zLr zI4 fun args K h=>by
  unfold zFt at h
  split at h
  · have hk := h
    exact ⟨(fun _ _=>[]),(fun _=>false),zI3,q63 K hk⟩
  · exact h.elim
abbrev T18:Tabs:=((((((((((Tabs.nil.addF 19 zEg).addF 30 zAL).addF 31 zEv).addF 34 zEz).addF 38 zEQ).addF 39 zET).addF 40 ztp).addF 55 zFr).addF 62 zFs).addF 63 zFt)
theorem zLs:TabsOk Try.prog T18:=((((((((((TabsOk.nil.addF zNR).addF zMw).addF zN0).addF zN1).addF zN3).addF zN4).addF zN6).addF zN9).addF zOa).addF zOb)
abbrev G18:Ctrs:=csm T18 (fun _ _=>[]) (fun _=>false)
def zFu:Ann:=⟨125,[(0,zK [] []),(1,zK [1,2] []),(2,zK [1,2,3,4,5] [3,4]),(3,zK [1,2,3,4,5,6,7] [3,4]),(4,zK [1,2,3,4,5,6,7,8,9,10,11] [3,4,9,10]),(5,zK [1,2,3,4,5,6,7,8,9,10,11,12,13,14] [3,4,9,10]),(6,zK [1,3,4,6,9,10,12,76] [3,4,9,10]),(7,zK [0] []),(8,zK [1,3,4,6,9,10,12,15] [3,4,9,10,89]),(9,zK [0] [])],
 [],
 [(2,zK [1,2] []),(3,zK [1,2,3,4,5] [3,4]),(4,zK [1,2,3,4,5,6,7] [3,4]),(5,zK [1,2,3,4,5,6,7,8,9,10,11] [3,4,9,10]),(6,zK [1,2,3,4,5,6,7,8,9,10,11,12,13,14] [3,4,9,10]),(8,zK [1,3,4,6,9,10,12] [3,4,9,10]),(9,zK [1,3,4,6,9,10,12,15] [3,4,9,10,89])],
 [],[]⟩
abbrev R18:=Bool
abbrev e18 (r:R18):List PA:=[.one (.bool r)]
@[irreducible] def z18:=ptF Try.prog G18 zFu Try.f18
section
variable {K:List PA→Prop} {cv0:(Sl Line)} {ev0:Int} {zI5:Nat→List PV} {fv1:Int} {zbH:Int} {zbI:Int} {zbJ:Int} {zbK:Int} {sv2:(Sl Int)} {gv2:Int} {zI6:Nat→List PV} {sv3:(Sl Int)} {zv3:Int} {hv3:Int} {zcL:Int} {zcM:Int} {zcN:Int} {zcO:Int} {zI7:Nat→List PV} {sv4:(Sl Int)} {lv4:(Sl Int)} {kv4:Int} {iv4:Int} {zI8:Nat→List PV} {zI9:Nat→List PV} {sv5:(Sl Int)} {zJa:Nat→List PV} {sv6:(Sl Int)} {zkO:(Sl Line)} {zJb:Nat→List PV} {zx6:Nat→List PV}
def zx7 (cv0:(Sl Line)) (zbH:Int) (zbI:Int) (zbJ:Int) (zbK:Int) (zcL:Int) (zcM:Int) (zcN:Int) (zcO:Int) (lv4:(Sl Int)) (sv6:(Sl Int)) (zkO:(Sl Line)):Bool :=
  (cond (s34 cv0 zkO)
 (cond (match (zbH == (s40 (40:Int) (1:Int)).Num) with | true => (match (zbI == (s40 (40:Int) (1:Int)).Den) with | true => true | false => false) | false => false)
 (cond (match (zbJ == (s40 (90:Int) (1:Int)).Num) with | true => (match (zbK == (s40 (90:Int) (1:Int)).Den) with | true => true | false => false) | false => false)
 (cond ((s39 sv6 (⟨3, zcQ (zdg [(zat (0:Int)), (zat (1:Int)), (zat (2:Int))])⟩ : (Sl Int))) == (0:Int))
 (cond (match (zcL == (s40 (499:Int) (10:Int)).Num) with | true => (match (zcM == (s40 (499:Int) (10:Int)).Den) with | true => true | false => false) | false => false)
 (cond (match (zcN == (s40 (501:Int) (10:Int)).Num) with | true => (match (zcO == (s40 (501:Int) (10:Int)).Den) with | true => true | false => false) | false => false)
 ((s39 lv4 (⟨3,zcQ (zdg [(zat (2:Int)),(zat (5:Int)),(zat (2:Int))])⟩:(Sl Int))) == (0:Int))
 false)
 false)
 false)
 false)
 false)
 false)
def zx8 (cv0:(Sl Line)) (zbH:Int) (zbI:Int) (zbJ:Int) (zbK:Int) (zcL:Int) (zcM:Int) (zcN:Int) (zcO:Int) (lv4:(Sl Int)) (sv6:(Sl Int)) (zkO:(Sl Line)):Bool :=
  (decide ((p34 cv0 zkO=true)) &&
 (cond (s34 cv0 zkO)
 (decide ((p40 (40:Int) (1:Int)=true)) &&
 (cond (match (zbH == (s40 (40:Int) (1:Int)).Num) with | true => (match (zbI == (s40 (40:Int) (1:Int)).Den) with | true => true | false => false) | false => false)
 (decide ((p40 (90:Int) (1:Int)=true)) &&
 (cond (match (zbJ == (s40 (90:Int) (1:Int)).Num) with | true => (match (zbK == (s40 (90:Int) (1:Int)).Den) with | true => true | false => false) | false => false)
 (decide ((p39 sv6 (⟨3,zcQ (zdg [(zat (0:Int)),(zat (1:Int)),(zat (2:Int))])⟩:(Sl Int))=true)) &&
 (cond ((s39 sv6 (⟨3, zcQ (zdg [(zat (0:Int)), (zat (1:Int)), (zat (2:Int))])⟩ : (Sl Int))) == (0:Int))
 (decide ((p40 (499:Int) (10:Int)=true)) &&
 (cond (match (zcL == (s40 (499:Int) (10:Int)).Num) with | true => (match (zcM == (s40 (499:Int) (10:Int)).Den) with | true => true | false => false) | false => false)
 (decide ((p40 (501:Int) (10:Int)=true)) &&
 (cond (match (zcN == (s40 (501:Int) (10:Int)).Num) with | true => (match (zcO == (s40 (501:Int) (10:Int)).Den) with | true => true | false => false) | false => false)
 (decide ((p39 lv4 (⟨3,zcQ (zdg [(zat (2:Int)),(zat (5:Int)),(zat (2:Int))])⟩:(Sl Int))=true)) &&
 true)
 true))
 true))
 true))
 true))
 true))
 true))
theorem zFv (hs:zx8 cv0 zbH zbI zbJ zbK zcL zcM zcN zcO lv4 sv6 zkO=true) (hk:K (e18 (zx7 cv0 zbH zbI zbJ zbK zcL zcM zcN zcO lv4 sv6 zkO))) (zLt:zJb=zg zat sv6) (zFw:zx6=zg zbL zkO):z18 K [1,1,1,1,1,1,1,1] [] ⟨[(1,zS zbL 4 cv0),(3,zp 3 0),(4,zp 4 0),(6,zP (.sl sv6.len 1 zJb)),(9,zp 9 0),(10,zp 10 0),(12,zS zat 1 lv4),(15,zv 89)],[(3,.box 25 (zm (zae (⟨zbH,zbI⟩:Frac)))),(4,.box 25 (zm (zae (⟨zbJ,zbK⟩:Frac)))),(9,.box 25 (zm (zae (⟨zcL,zcM⟩:Frac)))),(10,.box 25 (zm (zae (⟨zcN,zcO⟩:Frac)))),(89,.vec 37 4 32 zkO.len zx6)],[]⟩:=by subst zLt;subst zFw;exact zax (by kernel_rfl) (zaw hs fun hc hs=>And.intro (And.intro (zE zbL 4 cv0.get) (And.intro (zE zbL 4 zkO.get) hc)) (zc hs hk (fun hs hk=>(zaw hs fun hc hs=>And.intro hc (zc hs hk (fun hs hk=>(zaw hs fun hc hs=>And.intro hc (zc hs hk (fun hs hk=>(zaw hs fun hc hs=>And.intro (And.intro (zE zat 1 sv6.get) (And.intro ((zfB [(2:Int)]):IsE zat 1 1 (zdg [(zat (0:Int)),(zat (1:Int)),(zat (2:Int))])) hc)) (zc hs hk (fun hs hk=>(zaw hs fun hc hs=>And.intro hc (zc hs hk (fun hs hk=>(zaw hs fun hc hs=>And.intro hc (zc hs hk (fun hs hk=>(zaw hs fun hc hs=>And.intro (And.intro (zE zat 1 lv4.get) (And.intro ((zfB [(2:Int)]):IsE zat 1 1 (zdg [(zat (2:Int)),(zat (5:Int)),(zat (2:Int))])) hc)) hk)) (fun hs hk=>hk)))) (fun hs hk=>hk)))) (fun hs hk=>hk)))) (fun hs hk=>hk)))) (fun hs hk=>hk)))) (fun hs hk=>hk)))
def zx9 (cv0:(Sl Line)) (zbH:Int) (zbI:Int) (zbJ:Int) (zbK:Int) (zcL:Int) (zcM:Int) (zcN:Int) (zcO:Int) (lv4:(Sl Int)) (sv5:(Sl Int)):Bool :=
  (zx7 cv0 zbH zbI zbJ zbK zcL zcM zcN zcO lv4 sv5 (⟨4,(ziA (⟨(s40 (1:Int) (10:Int)),(s40 (10:Int) (1:Int))⟩:Line) [(⟨(s40 (1:Int) (10:Int)),(s40 (10:Int) (1:Int))⟩:Line),(⟨(s40 (1:Int) (5:Int)),(s40 (0:Int) (1:Int))⟩:Line),(⟨(s40 (3:Int) (10:Int)),(s40 (0:Int) (1:Int))⟩:Line),(⟨(s40 (1:Int) (5:Int)),(s40 (10:Int) (1:Int))⟩:Line)])⟩:Sl Line))
def zya (cv0:(Sl Line)) (zbH:Int) (zbI:Int) (zbJ:Int) (zbK:Int) (zcL:Int) (zcM:Int) (zcN:Int) (zcO:Int) (lv4:(Sl Int)) (sv5:(Sl Int)):Bool :=
  (decide ((p40 (1:Int) (10:Int)=true)) &&
 (decide ((p40 (10:Int) (1:Int)=true)) &&
 (decide ((p40 (1:Int) (5:Int)=true)) &&
 (decide ((p40 (0:Int) (1:Int)=true)) &&
 (decide ((p40 (3:Int) (10:Int)=true)) &&
 (decide ((p40 (0:Int) (1:Int)=true)) &&
 (decide ((p40 (1:Int) (5:Int)=true)) &&
 (decide ((p40 (10:Int) (1:Int)=true)) &&
 (zx8 cv0 zbH zbI zbJ zbK zcL zcM zcN zcO lv4 sv5 (⟨4,(ziA (⟨(s40 (1:Int) (10:Int)),(s40 (10:Int) (1:Int))⟩:Line) [(⟨(s40 (1:Int) (10:Int)),(s40 (10:Int) (1:Int))⟩:Line),(⟨(s40 (1:Int) (5:Int)),(s40 (0:Int) (1:Int))⟩:Line),(⟨(s40 (3:Int) (10:Int)),(s40 (0:Int) (1:Int))⟩:Line),(⟨(s40 (1:Int) (5:Int)),(s40 (10:Int) (1:Int))⟩:Line)])⟩:Sl Line))))))))))
theorem zFx (hs:zya cv0 zbH zbI zbJ zbK zcL zcM zcN zcO lv4 sv5=true) (hk:K (e18 (zx9 cv0 zbH zbI zbJ zbK zcL zcM zcN zcO lv4 sv5))) (zLu:zJa=zg zat sv5):z18 K [1,1,1,1,1,1,1] [] ⟨[(1,zS zbL 4 cv0),(3,zp 3 0),(4,zp 4 0),(6,zP (.sl sv5.len 1 zJa)),(9,zp 9 0),(10,zp 10 0),(12,zS zat 1 lv4)],[(3,.box 25 (zm (zae (⟨zbH,zbI⟩:Frac)))),(4,.box 25 (zm (zae (⟨zbJ,zbK⟩:Frac)))),(9,.box 25 (zm (zae (⟨zcL,zcM⟩:Frac)))),(10,.box 25 (zm (zae (⟨zcN,zcO⟩:Frac))))],[]⟩:=by subst zLu;exact zax (by kernel_rfl) (zaw hs fun hc hs=>And.intro hc (zaw hs fun hc hs=>And.intro hc (zaw hs fun hc hs=>And.intro hc (zaw hs fun hc hs=>And.intro hc (zaw hs fun hc hs=>And.intro hc (zaw hs fun hc hs=>And.intro hc (zaw hs fun hc hs=>And.intro hc (zaw hs fun hc hs=>And.intro hc (zFv hs hk rfl (zeC (enc:=zbL) (x:=(⟨(s40 (1:Int) (10:Int)),(s40 (10:Int) (1:Int))⟩:Line)) (y:=(⟨(s40 (1:Int) (5:Int)),(s40 (0:Int) (1:Int))⟩:Line)) (r:=[(⟨(s40 (3:Int) (10:Int)),(s40 (0:Int) (1:Int))⟩:Line),(⟨(s40 (1:Int) (5:Int)),(s40 (10:Int) (1:Int))⟩:Line)])))))))))))
def zyb (cv0:(Sl Line)) (ev0:Int) (fv1:Int) (zbH:Int) (zbI:Int) (zbJ:Int) (zbK:Int) (gv2:Int) (zv3:Int) (hv3:Int) (zcL:Int) (zcM:Int) (zcN:Int) (zcO:Int) (sv4:(Sl Int)) (lv4:(Sl Int)) (kv4:Int) (iv4:Int):Bool :=
  (cond (ev0 != (0:Int))
 false
 (cond (fv1 != (0:Int))
 false
 (cond (gv2 != (0:Int))
 false
 (cond (hv3 != (0:Int))
 false
 (cond (iv4 != (0:Int))
 false
 (cond (kv4 != (600:Int))
 false
 (cond (zv3 != (167:Int))
 false
 (zx9 cv0 zbH zbI zbJ zbK zcL zcM zcN zcO lv4 sv4))))))))
def zyc (cv0:(Sl Line)) (ev0:Int) (fv1:Int) (zbH:Int) (zbI:Int) (zbJ:Int) (zbK:Int) (gv2:Int) (zv3:Int) (hv3:Int) (zcL:Int) (zcM:Int) (zcN:Int) (zcO:Int) (sv4:(Sl Int)) (lv4:(Sl Int)) (kv4:Int) (iv4:Int):Bool :=
  (cond (ev0 != (0:Int))
 true
 (cond (fv1 != (0:Int))
 true
 (cond (gv2 != (0:Int))
 true
 (cond (hv3 != (0:Int))
 true
 (cond (iv4 != (0:Int))
 true
 (cond (kv4 != (600:Int))
 true
 (cond (zv3 != (167:Int))
 true
 (zya cv0 zbH zbI zbJ zbK zcL zcM zcN zcO lv4 sv4))))))))
theorem zFy (hs:zyc cv0 ev0 fv1 zbH zbI zbJ zbK gv2 zv3 hv3 zcL zcM zcN zcO sv4 lv4 kv4 iv4=true) (hk:K (e18 (zyb cv0 ev0 fv1 zbH zbI zbJ zbK gv2 zv3 hv3 zcL zcM zcN zcO sv4 lv4 kv4 iv4))) (zLv:zI8=zg zat sv4) (zLw:zI9=zg zat lv4):z18 K [1,1,1,1,1,1] [] ⟨[(1,zS zbL 4 cv0),(2,zI ev0),(3,zp 3 0),(4,zp 4 0),(5,zI fv1),(6,zP (.sl sv4.len 1 zI8)),(7,zI gv2),(8,zI zv3),(9,zp 9 0),(10,zp 10 0),(11,zI hv3),(12,zP (.sl lv4.len 1 zI9)),(13,zI kv4),(14,zI iv4)],[(3,.box 25 (zm (zae (⟨zbH,zbI⟩:Frac)))),(4,.box 25 (zm (zae (⟨zbJ,zbK⟩:Frac)))),(9,.box 25 (zm (zae (⟨zcL,zcM⟩:Frac)))),(10,.box 25 (zm (zae (⟨zcN,zcO⟩:Frac))))],[]⟩:=by subst zLv;subst zLw;exact zax (by kernel_rfl) (zc hs hk (fun hs hk=>hk) (fun hs hk=>(zc hs hk (fun hs hk=>hk) (fun hs hk=>(zc hs hk (fun hs hk=>hk) (fun hs hk=>(zc hs hk (fun hs hk=>hk) (fun hs hk=>(zc hs hk (fun hs hk=>hk) (fun hs hk=>(zc hs hk (fun hs hk=>hk) (fun hs hk=>(zc hs hk (fun hs hk=>hk) (fun hs hk=>(zFx hs hk rfl)))))))))))))))
def zyd (cv0:(Sl Line)) (ev0:Int) (fv1:Int) (zbH:Int) (zbI:Int) (zbJ:Int) (zbK:Int) (gv2:Int) (sv3:(Sl Int)) (zv3:Int) (hv3:Int) (zcL:Int) (zcM:Int) (zcN:Int) (zcO:Int):Bool :=
  (zyb cv0 ev0 fv1 zbH zbI zbJ zbK gv2 zv3 hv3 zcL zcM zcN zcO sv3 ((s55 (⟨3,zad (zdg [(enc_55 (⟨(0:Int),(0:Int),(2:Int)⟩:Gate)),(enc_55 (⟨(10:Int),(5:Int),(6:Int)⟩:Gate)),(enc_55 (⟨(20:Int),(0:Int),(2:Int)⟩:Gate))])⟩:(Sl Gate))).1) ((s55 (⟨3,zad (zdg [(enc_55 (⟨(0:Int),(0:Int),(2:Int)⟩:Gate)),(enc_55 (⟨(10:Int),(5:Int),(6:Int)⟩:Gate)),(enc_55 (⟨(20:Int),(0:Int),(2:Int)⟩:Gate))])⟩:(Sl Gate))).2.1) ((s55 (⟨3,zad (zdg [(enc_55 (⟨(0:Int),(0:Int),(2:Int)⟩:Gate)),(enc_55 (⟨(10:Int),(5:Int),(6:Int)⟩:Gate)),(enc_55 (⟨(20:Int),(0:Int),(2:Int)⟩:Gate))])⟩:(Sl Gate))).2.2))
def zye (cv0:(Sl Line)) (ev0:Int) (fv1:Int) (zbH:Int) (zbI:Int) (zbJ:Int) (zbK:Int) (gv2:Int) (sv3:(Sl Int)) (zv3:Int) (hv3:Int) (zcL:Int) (zcM:Int) (zcN:Int) (zcO:Int):Bool :=
  (decide ((p55 (⟨3,zad (zdg [(enc_55 (⟨(0:Int),(0:Int),(2:Int)⟩:Gate)),(enc_55 (⟨(10:Int),(5:Int),(6:Int)⟩:Gate)),(enc_55 (⟨(20:Int),(0:Int),(2:Int)⟩:Gate))])⟩:(Sl Gate))=true)) &&
 (zyc cv0 ev0 fv1 zbH zbI zbJ zbK gv2 zv3 hv3 zcL zcM zcN zcO sv3 ((s55 (⟨3,zad (zdg [(enc_55 (⟨(0:Int),(0:Int),(2:Int)⟩:Gate)),(enc_55 (⟨(10:Int),(5:Int),(6:Int)⟩:Gate)),(enc_55 (⟨(20:Int),(0:Int),(2:Int)⟩:Gate))])⟩:(Sl Gate))).1) ((s55 (⟨3,zad (zdg [(enc_55 (⟨(0:Int),(0:Int),(2:Int)⟩:Gate)),(enc_55 (⟨(10:Int),(5:Int),(6:Int)⟩:Gate)),(enc_55 (⟨(20:Int),(0:Int),(2:Int)⟩:Gate))])⟩:(Sl Gate))).2.1) ((s55 (⟨3,zad (zdg [(enc_55 (⟨(0:Int),(0:Int),(2:Int)⟩:Gate)),(enc_55 (⟨(10:Int),(5:Int),(6:Int)⟩:Gate)),(enc_55 (⟨(20:Int),(0:Int),(2:Int)⟩:Gate))])⟩:(Sl Gate))).2.2)))
theorem zFz (hs:zye cv0 ev0 fv1 zbH zbI zbJ zbK gv2 sv3 zv3 hv3 zcL zcM zcN zcO=true) (hk:K (e18 (zyd cv0 ev0 fv1 zbH zbI zbJ zbK gv2 sv3 zv3 hv3 zcL zcM zcN zcO))) (zLx:zI7=zg zat sv3):z18 K [1,1,1,1,1] [] ⟨[(1,zS zbL 4 cv0),(2,zI ev0),(3,zp 3 0),(4,zp 4 0),(5,zI fv1),(6,zP (.sl sv3.len 1 zI7)),(7,zI gv2),(8,zI zv3),(9,zp 9 0),(10,zp 10 0),(11,zI hv3)],[(3,.box 25 (zm (zae (⟨zbH,zbI⟩:Frac)))),(4,.box 25 (zm (zae (⟨zbJ,zbK⟩:Frac)))),(9,.box 25 (zm (zae (⟨zcL,zcM⟩:Frac)))),(10,.box 25 (zm (zae (⟨zcN,zcO⟩:Frac))))],[]⟩:=by subst zLx;exact zax (by kernel_rfl) (zaw hs fun hc hs=>And.intro (And.intro ((zfB [(⟨(20:Int),(0:Int),(2:Int)⟩:Gate)]):IsE enc_55 3 3 (zdg [(enc_55 (⟨(0:Int),(0:Int),(2:Int)⟩:Gate)),(enc_55 (⟨(10:Int),(5:Int),(6:Int)⟩:Gate)),(enc_55 (⟨(20:Int),(0:Int),(2:Int)⟩:Gate))])) hc) (zFy hs hk rfl rfl))
def zyf (cv0:(Sl Line)) (ev0:Int) (fv1:Int) (zbH:Int) (zbI:Int) (zbJ:Int) (zbK:Int) (sv2:(Sl Int)) (gv2:Int):Bool :=
  (zyd cv0 ev0 fv1 zbH zbI zbJ zbK gv2 sv2 ((s19 s62 (⟨2,zad (zdg [(enc_55 (⟨(0:Int),(100:Int),(110:Int)⟩:Gate)),(enc_55 (⟨(200:Int),(40:Int),(50:Int)⟩:Gate))])⟩:(Sl Gate)) (0:Int) (300:Int)).1) ((s19 s62 (⟨2,zad (zdg [(enc_55 (⟨(0:Int),(100:Int),(110:Int)⟩:Gate)),(enc_55 (⟨(200:Int),(40:Int),(50:Int)⟩:Gate))])⟩:(Sl Gate)) (0:Int) (300:Int)).2.2.2) (((s19 s62 (⟨2,zad (zdg [(enc_55 (⟨(0:Int),(100:Int),(110:Int)⟩:Gate)),(enc_55 (⟨(200:Int),(40:Int),(50:Int)⟩:Gate))])⟩:(Sl Gate)) (0:Int) (300:Int)).2.1).Num) (((s19 s62 (⟨2,zad (zdg [(enc_55 (⟨(0:Int),(100:Int),(110:Int)⟩:Gate)),(enc_55 (⟨(200:Int),(40:Int),(50:Int)⟩:Gate))])⟩:(Sl Gate)) (0:Int) (300:Int)).2.1).Den) (((s19 s62 (⟨2,zad (zdg [(enc_55 (⟨(0:Int),(100:Int),(110:Int)⟩:Gate)),(enc_55 (⟨(200:Int),(40:Int),(50:Int)⟩:Gate))])⟩:(Sl Gate)) (0:Int) (300:Int)).2.2.1).Num) (((s19 s62 (⟨2,zad (zdg [(enc_55 (⟨(0:Int),(100:Int),(110:Int)⟩:Gate)),(enc_55 (⟨(200:Int),(40:Int),(50:Int)⟩:Gate))])⟩:(Sl Gate)) (0:Int) (300:Int)).2.2.1).Den))
def zyg (cv0:(Sl Line)) (ev0:Int) (fv1:Int) (zbH:Int) (zbI:Int) (zbJ:Int) (zbK:Int) (sv2:(Sl Int)) (gv2:Int):Bool :=
  (decide ((p19 s62 (⟨2,zad (zdg [(enc_55 (⟨(0:Int),(100:Int),(110:Int)⟩:Gate)),(enc_55 (⟨(200:Int),(40:Int),(50:Int)⟩:Gate))])⟩:(Sl Gate)) (0:Int) (300:Int)=true)) &&
 (zye cv0 ev0 fv1 zbH zbI zbJ zbK gv2 sv2 ((s19 s62 (⟨2,zad (zdg [(enc_55 (⟨(0:Int),(100:Int),(110:Int)⟩:Gate)),(enc_55 (⟨(200:Int),(40:Int),(50:Int)⟩:Gate))])⟩:(Sl Gate)) (0:Int) (300:Int)).1) ((s19 s62 (⟨2,zad (zdg [(enc_55 (⟨(0:Int),(100:Int),(110:Int)⟩:Gate)),(enc_55 (⟨(200:Int),(40:Int),(50:Int)⟩:Gate))])⟩:(Sl Gate)) (0:Int) (300:Int)).2.2.2) (((s19 s62 (⟨2,zad (zdg [(enc_55 (⟨(0:Int),(100:Int),(110:Int)⟩:Gate)),(enc_55 (⟨(200:Int),(40:Int),(50:Int)⟩:Gate))])⟩:(Sl Gate)) (0:Int) (300:Int)).2.1).Num) (((s19 s62 (⟨2,zad (zdg [(enc_55 (⟨(0:Int),(100:Int),(110:Int)⟩:Gate)),(enc_55 (⟨(200:Int),(40:Int),(50:Int)⟩:Gate))])⟩:(Sl Gate)) (0:Int) (300:Int)).2.1).Den) (((s19 s62 (⟨2,zad (zdg [(enc_55 (⟨(0:Int),(100:Int),(110:Int)⟩:Gate)),(enc_55 (⟨(200:Int),(40:Int),(50:Int)⟩:Gate))])⟩:(Sl Gate)) (0:Int) (300:Int)).2.2.1).Num) (((s19 s62 (⟨2,zad (zdg [(enc_55 (⟨(0:Int),(100:Int),(110:Int)⟩:Gate)),(enc_55 (⟨(200:Int),(40:Int),(50:Int)⟩:Gate))])⟩:(Sl Gate)) (0:Int) (300:Int)).2.2.1).Den)))
theorem zFA (hs:zyg cv0 ev0 fv1 zbH zbI zbJ zbK sv2 gv2=true) (hk:K (e18 (zyf cv0 ev0 fv1 zbH zbI zbJ zbK sv2 gv2))) (zLy:zI6=zg zat sv2):z18 K [1,1,1,1] [] ⟨[(1,zS zbL 4 cv0),(2,zI ev0),(3,zp 3 0),(4,zp 4 0),(5,zI fv1),(6,zP (.sl sv2.len 1 zI6)),(7,zI gv2)],[(3,.box 25 (zm (zae (⟨zbH,zbI⟩:Frac)))),(4,.box 25 (zm (zae (⟨zbJ,zbK⟩:Frac))))],[]⟩:=by subst zLy;exact zax (by kernel_rfl) (zaw hs fun hc hs=>And.intro (And.intro (zE enc_55 3 s62.get) (And.intro ((zfB []):IsE enc_55 3 3 (zdg [(enc_55 (⟨(0:Int),(100:Int),(110:Int)⟩:Gate)),(enc_55 (⟨(200:Int),(40:Int),(50:Int)⟩:Gate))])) hc)) (zFz hs hk rfl))
def zyh (cv0:(Sl Line)) (ev0:Int) (fv1:Int) (zbH:Int) (zbI:Int) (zbJ:Int) (zbK:Int):Bool :=
  (zyf cv0 ev0 fv1 zbH zbI zbJ zbK ((s38 s63).1) ((s38 s63).2))
def zyi (cv0:(Sl Line)) (ev0:Int) (fv1:Int) (zbH:Int) (zbI:Int) (zbJ:Int) (zbK:Int):Bool :=
  (decide ((p38 s63=true)) &&
 (zyg cv0 ev0 fv1 zbH zbI zbJ zbK ((s38 s63).1) ((s38 s63).2)))
theorem zFB (hs:zyi cv0 ev0 fv1 zbH zbI zbJ zbK=true) (hk:K (e18 (zyh cv0 ev0 fv1 zbH zbI zbJ zbK))):z18 K [1,1,1] [] ⟨[(1,zS zbL 4 cv0),(2,zI ev0),(3,zp 3 0),(4,zp 4 0),(5,zI fv1)],[(3,.box 25 (zm (zae (⟨zbH,zbI⟩:Frac)))),(4,.box 25 (zm (zae (⟨zbJ,zbK⟩:Frac))))],[]⟩:=zax (by kernel_rfl) (zaw hs fun hc hs=>And.intro (And.intro (zE enc_55 3 s63.get) hc) (zFA hs hk rfl))
def zyj (cv0:(Sl Line)) (ev0:Int):Bool :=
  (zyh cv0 ev0 ((s30 s62 (300:Int)).2.2) (((s30 s62 (300:Int)).1).Num) (((s30 s62 (300:Int)).1).Den) (((s30 s62 (300:Int)).2.1).Num) (((s30 s62 (300:Int)).2.1).Den))
def zyk (cv0:(Sl Line)) (ev0:Int):Bool :=
  (decide ((p30 s62 (300:Int)=true)) &&
 (zyi cv0 ev0 ((s30 s62 (300:Int)).2.2) (((s30 s62 (300:Int)).1).Num) (((s30 s62 (300:Int)).1).Den) (((s30 s62 (300:Int)).2.1).Num) (((s30 s62 (300:Int)).2.1).Den)))
theorem zFC (hs:zyk cv0 ev0=true) (hk:K (e18 (zyj cv0 ev0))) (zLz:zI5=zg zbL cv0):z18 K [1,1] [] ⟨[(1,zP (.sl cv0.len 4 zI5)),(2,zI ev0)],[],[]⟩:=by subst zLz;exact zax (by kernel_rfl) (zaw hs fun hc hs=>And.intro (And.intro (zE enc_55 3 s62.get) hc) (zFB hs hk))
def s18:Bool :=
  (zyj ((s31 s62).1) ((s31 s62).2))
def p18:Bool :=
  (decide ((p31 s62=true)) &&
 (zyk ((s31 s62).1) ((s31 s62).2)))
end
theorem q18 (K:List PA→Prop) (hs:p18=true) (hk:K (e18 (s18))):vcFun Try.prog G18 zFu 18 [] K :=
  zax (by kernel_rfl) (zaw hs fun hc hs=>And.intro (And.intro (zE enc_55 3 s62.get) hc) (zFC hs hk rfl))
theorem zJc:p18=true:=by kernel_rfl
theorem zJd:s18=true:=by kernel_rfl
def zFD : List PA → COut
  | []=>.tot [.one (.bool true)]
  | _=>.no
theorem zJe:zai Try.prog 18:=⟨_,rfl,rfl,by kernel_rfl⟩
theorem zOc:Ok Try.prog 18 zFD:=zaG zLs zJe fun args K h=>by
  unfold zFD at h
  split at h
  · refine ⟨fun _ _ => [], fun _ => false, zFu, q18 K zJc ?_⟩
    show K [.one (.bool s18)]
    rw [zJd];exact h
  · exact h.elim
abbrev T70:Tabs:=Tabs.nil
theorem zLA:TabsOk Try.prog T70:=TabsOk.nil
abbrev G70:Ctrs:=csm T70 (fun _ _=>[]) (fun _=>false)
def zJf:Ann:=⟨15,[(0,zK [0,1,2] []),(1,zK [6] [])],
 [],
 [],
 [],[]⟩
abbrev R70:=Bool
abbrev e70 (r:R70):List PA:=[.one (.bool r)]
section
variable {K:List PA→Prop} {n:Int} {low:Int} {high:Int}
def s70 (n:Int) (low:Int) (high:Int):Bool :=
  (cond (decide (n ≥ low))
 (decide (n≤high))
 false)
end
theorem q70 (n:Int) (low:Int) (high:Int) (K:List PA→Prop) (hk:K (e70 (s70 n low high))):vcFun Try.prog G70 zJf 70 [.one (.int .i64 n),.one (.int .i64 low),.one (.int .i64 high)] K :=
  zax (by kernel_rfl) (zt hk (fun hk=>hk) (fun hk=>hk))
def zAY : List PA → COut
  | [.one (.int .i64 a0),.one (.int .i64 a1),.one (.int .i64 a2)]=>.tot [.one (.bool (s70 a0 a1 a2))]
  | _=>.no
theorem zJg:zai Try.prog 70:=⟨_,rfl,rfl,by kernel_rfl⟩
theorem zMD:Ok Try.prog 70 zAY:=zaG zLA zJg fun args K h=>by
  unfold zAY at h
  split at h
  · rename_i a0 a1 a2
    have hk:=h
    exact ⟨(fun _ _=>[]),(fun _=>false),zJf,q70 a0 a1 a2 K hk⟩
  · exact h.elim
abbrev T49:Tabs:=(Tabs.nil.addF 70 zAY)
theorem zLB:TabsOk Try.prog T49:=(TabsOk.nil.addF zMD)
abbrev G49:Ctrs:=csm T49 (fun _ _=>[]) (fun _=>false)
def zJh:Ann:=⟨18,[(0,zK [1] [1]),(1,zK [2] [])],
 [],
 [],
 [],[]⟩
abbrev R49:=Bool
abbrev e49 (r:R49):List PA:=[.one (.bool r)]
section
variable {K:List PA→Prop} {g:Gate}
def s49 (g:Gate):Bool :=
  (cond (s70 g.Z (0:Int) (100000:Int))
 (cond (s70 g.Low (-1000000:Int) g.High)
 (decide (g.High≤(1000000:Int)))
 false)
 false)
end
theorem q49 (g:Gate) (K:List PA→Prop) (hk:K (e49 (s49 g))):vcFun Try.prog G49 zJh 49 [.agg (enc_55 g)] K :=
  zax (by kernel_rfl) (zt hk (fun hk=>(zt hk (fun hk=>hk) (fun hk=>hk))) (fun hk=>hk))
def zAZ : List PA → COut
  | [.agg [.int .i64 a0_Z,.int .i64 a0_Low,.int .i64 a0_High]]=>.tot [.one (.bool (s49 (⟨a0_Z,a0_Low,a0_High⟩:Gate)))]
  | _=>.no
theorem zJi:zai Try.prog 49:=⟨_,rfl,rfl,by kernel_rfl⟩
theorem zME:Ok Try.prog 49 zAZ:=zaG zLB zJi fun args K h=>by
  unfold zAZ at h
  split at h
  · rename_i a0_Z a0_Low a0_High
    have hk:=h
    exact ⟨(fun _ _=>[]),(fun _=>false),zJh,q49 (⟨a0_Z,a0_Low,a0_High⟩:Gate) K hk⟩
  · exact h.elim
abbrev T20:Tabs:=((Tabs.nil.addF 49 zAZ).addF 70 zAY)
theorem zLC:TabsOk Try.prog T20:=((TabsOk.nil.addF zME).addF zMD)
abbrev G20:Ctrs:=csm T20 (fun _ _=>[]) (fun _=>false)
def zFE:Ann:=⟨19,[(0,zK [0] []),(1,zK [0,3] []),(2,zK [0,3,7] []),(3,zK [0,3] []),(4,zK [0,3,15] []),(5,zK [2] []),(6,zK [2] [])],
 [(2,zK [0,3] [])],
 [(5,zK [0,3,15] [])],
 [],[]⟩
abbrev R20:=Bool
abbrev e20 (r:R20):List PA:=[.one (.bool r)]
@[irreducible] def z20:=ptF Try.prog G20 zFE Try.f20
def zCn (l_a0:(Sl Gate)) (iv0:Int):St:=⟨[(0,zS enc_55 3 l_a0),(3,zI iv0)],[],[]⟩
abbrev zFF (K:List PA→Prop) (l_a0:(Sl Gate)) (X:St→Prop) (P:Int→Bool) (S:Int→Bool):Prop:=∀ ⦃iv0:Int⦄,P iv0=true→K (e20 (S iv0))→X (zCn l_a0 iv0)
section
variable {K:List PA→Prop} {l_a0:(Sl Gate)} {iv0:Int} {X0:St→Prop} {P0:Int→Bool} {S0:Int→Bool} {iv1:Int} {zqI:Bool}
def zqJ (S0:Int→Bool) (l_a0:(Sl Gate)) (iv1:Int) (zqI:Bool):Bool :=
  (cond zqI
 false
 (S0 (w64 (iv1+(1:Int)))))
def zqK (P0:Int→Bool) (l_a0:(Sl Gate)) (iv1:Int) (zqI:Bool):Bool :=
  (cond zqI
 true
 (P0 (w64 (iv1+(1:Int)))))
theorem zFG (hX0:zFF K l_a0 X0 P0 S0) (hs:zqK P0 l_a0 iv1 zqI=true) (hk:K (e20 (zqJ S0 l_a0 iv1 zqI))):z20 K [1,0,1,0,0,1,0,0,1] [X0] ⟨[(0,zS enc_55 3 l_a0),(3,zI iv1),(15,zB zqI)],[],[]⟩:=zax (by kernel_rfl) (zc hs hk (fun hs hk=>hk) (fun hs hk=>(hX0 hs hk)))
def zhz (l_a0:(Sl Gate)) (S0:Int→Bool) (iv0:Int):Bool :=
  (cond (decide (iv0 < (l_a0.len : Int)))
 (zqJ S0 l_a0 iv0 (!(s49 (l_a0.get iv0.toNat))))
 (s70 (l_a0.len:Int) (1:Int) (24:Int)))
def zhA (l_a0:(Sl Gate)) (P0:Int→Bool) (iv0:Int):Bool :=
  (cond (decide (iv0 < (l_a0.len : Int)))
 (decide ((0≤iv0∧iv0 < (l_a0.len:Int))) &&
 (zqK P0 l_a0 iv0 (!(s49 (l_a0.get iv0.toNat)))))
 true)
def zhB (l_a0:(Sl Gate)):Nat→Int→Bool:=lpO (fun _=>default) (zhz l_a0)
def zhC (l_a0:(Sl Gate)):Nat→Int→Bool:=lpO (fun _=>false) (zhA l_a0)
def zyl (l_a0:(Sl Gate)) (iv0:Int):Bool:=zhB l_a0 Fuel iv0
def zym (l_a0:(Sl Gate)) (iv0:Int):Bool:=zhC l_a0 Fuel iv0
theorem zFH (hs:zym l_a0 iv0=true) (hk:K (e20 (zyl l_a0 iv0))):z20 K [1,0,1,0] [] (zCn l_a0 iv0) :=
  zl (fun X=>z20 K [1,0,1,0,0] [X]) (by kernel_rfl) fun X0 hX =>
  (show ∀ k, zFF K l_a0 X0 (zhC l_a0 k) (zhB l_a0 k) from zgL _ _ (zhA l_a0) (zhz l_a0) (zFF K l_a0 X0)
 (by intro _ hs;exact absurd hs Bool.false_ne_true)
 (by intro P0 S0 hX0 iv0 hs hk;exact hX _ (zax (by kernel_rfl) (zc hs hk (fun hs hk=>(zaw hs fun hc hs=>And.intro hc (zFG hX0 hs hk))) (fun hs hk=>hk))))) _ hs hk
def s20 (l_a0:(Sl Gate)):Bool :=
  (zyl l_a0 (0:Int))
def p20 (l_a0:(Sl Gate)):Bool :=
  (zym l_a0 (0:Int))
end
theorem q20 (l_a0:(Sl Gate)) (K:List PA→Prop) (hs:p20 l_a0=true) (hk:K (e20 (s20 l_a0))):vcFun Try.prog G20 zFE 20 [.one (.sl l_a0.len 3 (fun i=>enc_55 (l_a0.get i)))] K :=
  zax (by kernel_rfl) (zFH hs hk)
def zFI : List PA → COut
  | [.one (.sl a0_n a0_s a0_g)]=>.det (IsE enc_55 3 a0_s a0_g∧p20 (⟨a0_n,zad a0_g⟩:(Sl Gate))=true) [.one (.bool (s20 (⟨a0_n,zad a0_g⟩:(Sl Gate))))]
  | _=>.no
theorem zJj:zai Try.prog 20:=⟨_,rfl,rfl,by kernel_rfl⟩
theorem zOd:Ok Try.prog 20 zFI:=zaG zLC zJj fun args K h=>by
  unfold zFI at h
  split at h
  · rename_i a0_n a0_s a0_g
    obtain ⟨⟨⟨rfl,a0_f,rfl⟩,hs⟩,hk⟩:=h
    try rw [zac a0_f] at hs
    try rw [zac a0_f] at hk
    exact ⟨(fun _ _=>[]),(fun _=>false),zFE,q20 (⟨a0_n,a0_f⟩:(Sl Gate)) K hs hk⟩
  · exact h.elim
abbrev T22:Tabs:=Tabs.nil
theorem zLD:TabsOk Try.prog T22:=TabsOk.nil
abbrev G22:Ctrs:=csm T22 (fun _ _=>[]) (fun _=>false)
def zFJ:Ann:=⟨20,[(0,zK [0] []),(1,zK [0,3] []),(2,zK [0,3,7] []),(3,zK [0,3] []),(4,zK [0,3,19] []),(5,zK [2] []),(6,zK [2] [])],
 [(2,zK [0,3] [])],
 [],
 [],[]⟩
abbrev R22:=Bool
abbrev e22 (r:R22):List PA:=[.one (.bool r)]
@[irreducible] def z22:=ptF Try.prog G22 zFJ Try.f22
def zCo (zaa:(Sl Gate)) (iv0:Int):St:=⟨[(0,zS enc_55 3 zaa),(3,zI iv0)],[],[]⟩
abbrev zJk (K:List PA→Prop) (zaa:(Sl Gate)) (X:St→Prop) (P:Int→Bool) (S:Int→Bool):Prop:=∀ ⦃iv0:Int⦄,P iv0=true→K (e22 (S iv0))→X (zCo zaa iv0)
section
variable {K:List PA→Prop} {zaa:(Sl Gate)} {iv0:Int} {X0:St→Prop} {P0:Int→Bool} {S0:Int→Bool}
def zhD (zaa:(Sl Gate)) (S0:Int→Bool) (iv0:Int):Bool :=
  (cond (decide (iv0 < (zaa.len : Int)))
 (cond ((zaa.get iv0.toNat).Z != (zaa.get 0).Z)
 false
 (S0 (w64 (iv0+(1:Int)))))
 true)
def zhE (zaa:(Sl Gate)) (P0:Int→Bool) (iv0:Int):Bool :=
  (cond (decide (iv0 < (zaa.len : Int)))
 (decide ((0≤iv0∧iv0 < (zaa.len:Int))) &&
 (decide ((0≤(0:Int)∧(0:Int) < (zaa.len:Int))) &&
 (cond ((zaa.get iv0.toNat).Z != (zaa.get 0).Z)
 true
 (P0 (w64 (iv0+(1:Int)))))))
 true)
def zhF (zaa:(Sl Gate)):Nat→Int→Bool:=lpO (fun _=>default) (zhD zaa)
def zhG (zaa:(Sl Gate)):Nat→Int→Bool:=lpO (fun _=>false) (zhE zaa)
def zyn (zaa:(Sl Gate)) (iv0:Int):Bool:=zhF zaa Fuel iv0
def zyo (zaa:(Sl Gate)) (iv0:Int):Bool:=zhG zaa Fuel iv0
theorem zFK (hs:zyo zaa iv0=true) (hk:K (e22 (zyn zaa iv0))):z22 K [1,0,1,0] [] (zCo zaa iv0) :=
  zl (fun X=>z22 K [1,0,1,0,0] [X]) (by kernel_rfl) fun X0 hX =>
  (show ∀ k, zJk K zaa X0 (zhG zaa k) (zhF zaa k) from zgL _ _ (zhE zaa) (zhD zaa) (zJk K zaa X0)
 (by intro _ hs;exact absurd hs Bool.false_ne_true)
 (by intro P0 S0 hX0 iv0 hs hk;exact hX _ (zax (by kernel_rfl) (zc hs hk (fun hs hk=>(zaw hs fun hc hs=>And.intro hc (zaw hs fun hc hs=>And.intro hc (zc hs hk (fun hs hk=>hk) (fun hs hk=>(hX0 hs hk)))))) (fun hs hk=>hk))))) _ hs hk
def s22 (zaa:(Sl Gate)):Bool :=
  (zyn zaa (1:Int))
def p22 (zaa:(Sl Gate)):Bool :=
  (zyo zaa (1:Int))
end
theorem q22 (zaa:(Sl Gate)) (K:List PA→Prop) (hs:p22 zaa=true) (hk:K (e22 (s22 zaa))):vcFun Try.prog G22 zFJ 22 [.one (.sl zaa.len 3 (fun i=>enc_55 (zaa.get i)))] K :=
  zax (by kernel_rfl) (zFK hs hk)
def zA0 : List PA → COut
  | [.one (.sl a0_n a0_s a0_g)]=>.det (IsE enc_55 3 a0_s a0_g∧p22 (⟨a0_n,zad a0_g⟩:(Sl Gate))=true) [.one (.bool (s22 (⟨a0_n,zad a0_g⟩:(Sl Gate))))]
  | _=>.no
theorem zJl:zai Try.prog 22:=⟨_,rfl,rfl,by kernel_rfl⟩
theorem zOe:Ok Try.prog 22 zA0:=zaG zLD zJl fun args K h=>by
  unfold zA0 at h
  split at h
  · rename_i a0_n a0_s a0_g
    obtain ⟨⟨⟨rfl,a0_f,rfl⟩,hs⟩,hk⟩:=h
    try rw [zac a0_f] at hs
    try rw [zac a0_f] at hk
    exact ⟨(fun _ _=>[]),(fun _=>false),zFJ,q22 (⟨a0_n,a0_f⟩:(Sl Gate)) K hs hk⟩
  · exact h.elim
abbrev T29:Tabs:=Tabs.nil
theorem zLE:TabsOk Try.prog T29:=TabsOk.nil
abbrev G29:Ctrs:=csm T29 (fun _ _=>[]) (fun _=>false)
def zJm:Ann:=⟨16,[(0,zK [2,3] [2,3]),(1,zK [4] [])],
 [],
 [],
 [],[]⟩
abbrev R29:=Bool
abbrev e29 (r:R29):List PA:=[.one (.bool r)]
section
variable {K:List PA→Prop} {a:Frac} {b:Frac}
def s29 (a:Frac) (b:Frac):Bool :=
  (decide ((w64 (a.Num * b.Den)) < (w64 (b.Num * a.Den))))
end
theorem q29 (a:Frac) (b:Frac) (K:List PA→Prop) (hk:K (e29 (s29 a b))):vcFun Try.prog G29 zJm 29 [.agg (zae a),.agg (zae b)] K :=
  zax (by kernel_rfl) hk
def zyp : List PA → COut
  | [.agg [.int .i64 a0_Num,.int .i64 a0_Den],.agg [.int .i64 a1_Num,.int .i64 a1_Den]]=>.tot [.one (.bool (s29 (⟨a0_Num,a0_Den⟩:Frac) (⟨a1_Num,a1_Den⟩:Frac)))]
  | _=>.no
theorem zJn:zai Try.prog 29:=⟨_,rfl,rfl,by kernel_rfl⟩
theorem zOf:Ok Try.prog 29 zyp:=zaG zLE zJn fun args K h=>by
  unfold zyp at h
  split at h
  · rename_i a0_Num a0_Den a1_Num a1_Den
    have hk:=h
    exact ⟨(fun _ _=>[]),(fun _=>false),zJm,q29 (⟨a0_Num,a0_Den⟩:Frac) (⟨a1_Num,a1_Den⟩:Frac) K hk⟩
  · exact h.elim
abbrev T48:Tabs:=((((((Tabs.nil.addF 67 zof).addF 68 zvo).addF 69 zpr).addF 75 zto).addF 87 zAE).addF 89 zpq)
theorem zLF:TabsOk Try.prog T48:=((((((TabsOk.nil.addF zGN).addF zKQ).addF zH1).addF zK7).addF zMn).addF zHP)
abbrev G48:Ctrs:=csm T48 (fun _ _=>[]) (fun _=>false)
def zFL:Ann:=⟨72,[(0,zK [0,3] [3]),(1,zK [0,3,14] [3]),(2,zK [4,5] []),(3,zK [3,6,7] [3,6]),(4,zK [3,6,7,21] [3,6]),(5,zK [4,5] []),(6,zK [3,6,36] [3,6]),(7,zK [4,5] []),(8,zK [3,8,9] [3,8,9]),(9,zK [8,9,10,11] [8,9,10,11]),(10,zK [8,9,10,11,50] [8,9,10,11]),(11,zK [4,5] []),(12,zK [61] []),(13,zK [4,5] []),(14,zK [4,5] [])],
 [],
 [(2,zK [0,3,14] [3]),(3,zK [0,3] [3]),(4,zK [3,6,7] [3,6]),(6,zK [3,6] [3,6]),(7,zK [3,6,36] [3,6]),(8,zK [3,6] [3,6]),(9,zK [3,8,9] [3,8,9]),(10,zK [8,9,10,11] [8,9,10,11]),(11,zK [8,9,10,11,50] [8,9,10,11]),(13,zK [61] [])],
 [],[]⟩
abbrev R48:=(Int×Int)
abbrev e48 (r:R48):List PA:=[.one (.int .i64 r.1),.one (.int .i64 r.2)]
@[irreducible] def z48:=ptF Try.prog G48 zFL Try.f48
section
variable {K:List PA→Prop} {zaa:(Sl Gate)} {g:Gate} {zah:Bool} {ev2:Int} {zfg:(Sl Gate)} {zfh:(Sl straight)} {zjv:Nat→List PV} {zjw:Nat→List PV} {zcy:(Sl Gate)} {zdE:(Sl straight)} {zjx:Nat→List PV} {zjy:Nat→List PV} {zqL:Bool} {zou:(Sl Gate)} {zov:(Sl straight)} {zyq:Nat→List PV} {zyr:Nat→List PV} {zfP:(Sl Gate)} {zfQ:(Sl straight)} {zys:Nat→List PV} {zyt:Nat→List PV} {zdJ:Int} {zdK:Int} {zd4:Int} {zd5:Int} {zd6:Int} {zd7:Int} {zcV:Int} {zcW:Int} {zA1:Bool} {zA2:Bool}
def zmL (zA2:Bool):(Int×Int) :=
  (cond zA2
 ((3:Int),(0:Int))
 ((2:Int),(0:Int)))
theorem zyu (hk:K (e48 (zmL zA2))):z48 K [1,1,1,1,1,1,1,0,0,1,1,1] [] ⟨[(61,zB zA2)],[],[]⟩:=zax (by kernel_rfl) (zt hk (fun hk=>hk) (fun hk=>hk))
def zmM (zdJ:Int) (zdK:Int) (zd4:Int) (zd5:Int) (zd6:Int) (zd7:Int) (zcV:Int) (zcW:Int) (zA1:Bool):(Int×Int) :=
  (cond zA1
 ((1:Int),(0:Int))
 (cond (decide ((s69 (⟨zd4, zd5⟩ : Frac) (⟨zd6, zd7⟩ : Frac)) < (0:Int)))
 (zmL true)
 (zmL (decide ((s69 (⟨zdJ,zdK⟩:Frac) (⟨zcV,zcW⟩:Frac)) > (0:Int))))))
theorem zyv (hk:K (e48 (zmM zdJ zdK zd4 zd5 zd6 zd7 zcV zcW zA1))):z48 K [1,1,1,1,1,1,1,0,0,1] [] ⟨[(8,zp 8 0),(9,zp 9 0),(10,zp 10 0),(11,zp 11 0),(50,zB zA1)],[(8,.box 25 (zm (zae (⟨zdJ,zdK⟩:Frac)))),(9,.box 25 (zm (zae (⟨zd4,zd5⟩:Frac)))),(10,.box 25 (zm (zae (⟨zd6,zd7⟩:Frac)))),(11,.box 25 (zm (zae (⟨zcV,zcW⟩:Frac))))],[]⟩:=zax (by kernel_rfl) (zt hk (fun hk=>hk) (fun hk=>(zt hk (fun hk=>(zyu hk)) (fun hk=>(zyu hk)))))
def zqM (zdJ:Int) (zdK:Int) (zd4:Int) (zd5:Int) (zd6:Int) (zd7:Int) (zcV:Int) (zcW:Int):(Int×Int) :=
  (cond (decide ((s69 (⟨zdJ, zdK⟩ : Frac) (⟨zd6, zd7⟩ : Frac)) ≥ (0:Int)))
 (zmM zdJ zdK zd4 zd5 zd6 zd7 zcV zcW (decide ((s69 (⟨zd4,zd5⟩:Frac) (⟨zcV,zcW⟩:Frac))≤(0:Int))))
 (zmM zdJ zdK zd4 zd5 zd6 zd7 zcV zcW false))
theorem zFM (hk:K (e48 (zqM zdJ zdK zd4 zd5 zd6 zd7 zcV zcW))):z48 K [1,1,1,1,1,1,1] [] ⟨[(8,zp 8 0),(9,zp 9 0),(10,zp 10 0),(11,zp 11 0)],[(8,.box 25 (zm (zae (⟨zdJ,zdK⟩:Frac)))),(9,.box 25 (zm (zae (⟨zd4,zd5⟩:Frac)))),(10,.box 25 (zm (zae (⟨zd6,zd7⟩:Frac)))),(11,.box 25 (zm (zae (⟨zcV,zcW⟩:Frac))))],[]⟩:=zax (by kernel_rfl) (zt hk (fun hk=>(zyv hk)) (fun hk=>(zyv hk)))
def zmN (g:Gate) (zdJ:Int) (zdK:Int) (zd4:Int) (zd5:Int):(Int×Int) :=
  (zqM zdJ zdK zd4 zd5 ((s89 g.Low (1:Int)).Num) ((s89 g.Low (1:Int)).Den) ((s89 g.High (1:Int)).Num) ((s89 g.High (1:Int)).Den))
def zmO (g:Gate) (zdJ:Int) (zdK:Int) (zd4:Int) (zd5:Int):Bool :=
  (decide ((p89 g.Low (1:Int)=true)) &&
 (decide ((p89 g.High (1:Int)=true)) &&
 true))
theorem zFN (hs:zmO g zdJ zdK zd4 zd5=true) (hk:K (e48 (zmN g zdJ zdK zd4 zd5))):z48 K [1,1,1,1,1,1] [] ⟨[(3,zp 3 0),(8,zp 8 0),(9,zp 9 0)],[(3,.box 55 (zm (enc_55 g))),(8,.box 25 (zm (zae (⟨zdJ,zdK⟩:Frac)))),(9,.box 25 (zm (zae (⟨zd4,zd5⟩:Frac))))],[]⟩:=zax (by kernel_rfl) (zaw hs fun hc hs=>And.intro hc (zaw hs fun hc hs=>And.intro hc (zFM hk)))
def zmP (g:Gate) (zfP:(Sl Gate)) (zfQ:(Sl straight)):(Int×Int) :=
  (zmN g (((s68 (⟨(⟨zfP⟩:list),zfQ⟩:set) g.Z).1).Num) (((s68 (⟨(⟨zfP⟩:list),zfQ⟩:set) g.Z).1).Den) (((s68 (⟨(⟨zfP⟩:list),zfQ⟩:set) g.Z).2).Num) (((s68 (⟨(⟨zfP⟩:list),zfQ⟩:set) g.Z).2).Den))
def zmQ (g:Gate) (zfP:(Sl Gate)) (zfQ:(Sl straight)):Bool :=
  (decide ((p68 (⟨(⟨zfP⟩:list),zfQ⟩:set) g.Z=true)) &&
 (zmO g (((s68 (⟨(⟨zfP⟩:list),zfQ⟩:set) g.Z).1).Num) (((s68 (⟨(⟨zfP⟩:list),zfQ⟩:set) g.Z).1).Den) (((s68 (⟨(⟨zfP⟩:list),zfQ⟩:set) g.Z).2).Num) (((s68 (⟨(⟨zfP⟩:list),zfQ⟩:set) g.Z).2).Den)))
theorem zFO (hs:zmQ g zfP zfQ=true) (hk:K (e48 (zmP g zfP zfQ))) (zFP:zys=zg enc_55 zfP) (zFQ:zyt=zg zaf zfQ):z48 K [1,1,1,1,1] [] ⟨[(3,zp 3 0),(6,zp 6 0)],[(3,.box 55 (zm (enc_55 g))),(6,.box 104 [.p (.sl zfP.len 3 zys),.p (.sl zfQ.len 3 zyt)])],[]⟩:=by subst zFP;subst zFQ;exact zax (by kernel_rfl) (zaw hs fun hc hs=>And.intro (And.intro (zE enc_55 3 zfP.get) (And.intro (zE zaf 3 zfQ.get) hc)) (zFN hs hk))
def zmR (g:Gate) (zqL:Bool) (zou:(Sl Gate)) (zov:(Sl straight)):(Int×Int) :=
  (cond zqL
 ((2:Int),(0:Int))
 (zmP g zou zov))
def zmS (g:Gate) (zqL:Bool) (zou:(Sl Gate)) (zov:(Sl straight)):Bool :=
  (cond zqL
 true
 (zmQ g zou zov))
theorem zyw (hs:zmS g zqL zou zov=true) (hk:K (e48 (zmR g zqL zou zov))) (zFR:zyq=zg enc_55 zou) (zFS:zyr=zg zaf zov):z48 K [1,1,1,1,0,1] [] ⟨[(3,zp 3 0),(6,zp 6 0),(36,zB zqL)],[(3,.box 55 (zm (enc_55 g))),(6,.box 104 [.p (.sl zou.len 3 zyq),.p (.sl zov.len 3 zyr)])],[]⟩:=by subst zFR;subst zFS;exact zax (by kernel_rfl) (zc hs hk (fun hs hk=>hk) (fun hs hk=>(zFO hs hk rfl rfl)))
def zqN (g:Gate) (zcy:(Sl Gate)) (zdE:(Sl straight)):(Int×Int) :=
  (cond (s67 (⟨zcy⟩ : list))
 (zmR g ((zcy.get 0).Z != g.Z) zcy zdE)
 (zmR g false zcy zdE))
def zqO (g:Gate) (zcy:(Sl Gate)) (zdE:(Sl straight)):Bool :=
  (decide ((p67 (⟨zcy⟩:list)=true)) &&
 (cond (s67 (⟨zcy⟩ : list))
 (decide ((0≤(0:Int)∧(0:Int) < (zcy.len:Int))) &&
 (zmS g ((zcy.get 0).Z != g.Z) zcy zdE))
 (zmS g false zcy zdE)))
theorem zFT (hs:zqO g zcy zdE=true) (hk:K (e48 (zqN g zcy zdE))) (zpQ:zjx=zg enc_55 zcy) (zpR:zjy=zg zaf zdE):z48 K [1,1,1,1] [] ⟨[(3,zp 3 0),(6,zp 6 0)],[(3,.box 55 (zm (enc_55 g))),(6,.box 104 [.p (.sl zcy.len 3 zjx),.p (.sl zdE.len 3 zjy)])],[]⟩:=by subst zpQ;subst zpR;exact zax (by kernel_rfl) (zaw hs fun hc hs=>And.intro (And.intro (zE enc_55 3 zcy.get) hc) (zc hs hk (fun hs hk=>(zaw hs fun hc hs=>And.intro hc (zyw hs hk rfl rfl))) (fun hs hk=>(zyw hs hk rfl rfl))))
def zmT (g:Gate) (ev2:Int) (zfg:(Sl Gate)) (zfh:(Sl straight)):(Int×Int) :=
  (cond (ev2 != (0:Int))
 ((0:Int),ev2)
 (zqN g zfg zfh))
def zmU (g:Gate) (ev2:Int) (zfg:(Sl Gate)) (zfh:(Sl straight)):Bool :=
  (cond (ev2 != (0:Int))
 true
 (zqO g zfg zfh))
theorem zFU (hs:zmU g ev2 zfg zfh=true) (hk:K (e48 (zmT g ev2 zfg zfh))) (zpS:zjv=zg enc_55 zfg) (zpT:zjw=zg zaf zfh):z48 K [1,1,1] [] ⟨[(3,zp 3 0),(6,zp 6 0),(7,zI ev2)],[(3,.box 55 (zm (enc_55 g))),(6,.box 104 [.p (.sl zfg.len 3 zjv),.p (.sl zfh.len 3 zjw)])],[]⟩:=by subst zpS;subst zpT;exact zax (by kernel_rfl) (zc hs hk (fun hs hk=>hk) (fun hs hk=>(zFT hs hk rfl rfl)))
def zqP (zaa:(Sl Gate)) (g:Gate):(Int×Int) :=
  (zmT g ((zoF zaa).2) (((zoF zaa).1).list.Gates) (((zoF zaa).1).corners))
def zqQ (zaa:(Sl Gate)) (g:Gate):Bool :=
  (decide ((zDX zaa=true)) &&
 (zmU g ((zoF zaa).2) (((zoF zaa).1).list.Gates) (((zoF zaa).1).corners)))
theorem zFV (hs:zqQ zaa g=true) (hk:K (e48 (zqP zaa g))):z48 K [1,1] [] ⟨[(0,zS enc_55 3 zaa),(3,zp 3 0)],[(3,.box 55 (zm (enc_55 g)))],[]⟩:=zax (by kernel_rfl) (zaw hs fun hc hs=>And.intro (And.intro (zE enc_55 3 zaa.get) hc) (zFU hs hk rfl rfl))
def zqR (zaa:(Sl Gate)) (g:Gate) (zah:Bool):(Int×Int) :=
  (cond zah
 ((0:Int),(2:Int))
 (zqP zaa g))
def zqS (zaa:(Sl Gate)) (g:Gate) (zah:Bool):Bool :=
  (cond zah
 true
 (zqQ zaa g))
theorem zFW (hs:zqS zaa g zah=true) (hk:K (e48 (zqR zaa g zah))):z48 K [1,0,1] [] ⟨[(0,zS enc_55 3 zaa),(3,zp 3 0),(14,zB zah)],[(3,.box 55 (zm (enc_55 g)))],[]⟩:=zax (by kernel_rfl) (zc hs hk (fun hs hk=>hk) (fun hs hk=>(zFV hs hk)))
def s48 (zaa:(Sl Gate)) (g:Gate):(Int×Int) :=
  (zqR zaa g (!(s87 g)))
def p48 (zaa:(Sl Gate)) (g:Gate):Bool :=
  (zqS zaa g (!(s87 g)))
end
theorem q48 (zaa:(Sl Gate)) (g:Gate) (K:List PA→Prop) (hs:p48 zaa g=true) (hk:K (e48 (s48 zaa g))):vcFun Try.prog G48 zFL 48 [.one (.sl zaa.len 3 (fun i=>enc_55 (zaa.get i))),.agg (enc_55 g)] K :=
  zax (by kernel_rfl) (zFW hs hk)
def zFX : List PA → COut
  | [.one (.sl a0_n a0_s a0_g),.agg [.int .i64 a1_Z,.int .i64 a1_Low,.int .i64 a1_High]]=>.det (IsE enc_55 3 a0_s a0_g∧p48 (⟨a0_n,zad a0_g⟩:(Sl Gate)) (⟨a1_Z,a1_Low,a1_High⟩:Gate)=true) [.one (.int .i64 ((s48 (⟨a0_n,zad a0_g⟩:(Sl Gate)) (⟨a1_Z,a1_Low,a1_High⟩:Gate)).1)),.one (.int .i64 ((s48 (⟨a0_n,zad a0_g⟩:(Sl Gate)) (⟨a1_Z,a1_Low,a1_High⟩:Gate)).2))]
  | _=>.no
theorem zJo:zai Try.prog 48:=⟨_,rfl,rfl,by kernel_rfl⟩
theorem zOg:Ok Try.prog 48 zFX:=zaG zLF zJo fun args K h=>by
  unfold zFX at h
  split at h
  · rename_i a0_n a0_s a0_g a1_Z a1_Low a1_High
    obtain ⟨⟨⟨rfl,a0_f,rfl⟩,hs⟩,hk⟩:=h
    try rw [zac a0_f] at hs
    try rw [zac a0_f] at hk
    exact ⟨(fun _ _=>[]),(fun _=>false),zFL,q48 (⟨a0_n,a0_f⟩:(Sl Gate)) (⟨a1_Z,a1_Low,a1_High⟩:Gate) K hs hk⟩
  · exact h.elim
abbrev T12:Tabs:=(((((((Tabs.nil.addF 18 zFD).addF 20 zFI).addF 22 zA0).addF 29 zyp).addF 30 zAL).addF 48 zFX).addF 49 zAZ)
theorem zLG:TabsOk Try.prog T12:=(((((((TabsOk.nil.addF zOc).addF zOd).addF zOe).addF zOf).addF zMw).addF zOg).addF zME)
abbrev G12:Ctrs:=csm T12 (fun _ _=>[]) (fun _=>false)
def zFY:Ann:=⟨125,[(0,zK [0,2,4] [4]),(1,zK [0,2,4,40] [4]),(2,zK [6] []),(3,zK [0,2,4,7] [4,43]),(4,zK [0,2,4,7,8,9,10] [4,8,9,43]),(5,zK [0,4,8,9,10,11,12,13] [4,8,9,11,12]),(6,zK [8,9,10,11,12,13,14,15] [8,9,11,12]),(7,zK [8,9,10,11,12,13,14,15,68] [8,9,11,12]),(8,zK [6] []),(9,zK [8,9,11,12,13,14,90] [8,9,11,12]),(10,zK [6] []),(11,zK [8,9,11,12,13,14,92] [8,9,11,12]),(12,zK [6] []),(13,zK [6] [])],
 [],
 [(2,zK [0,2,4,40] [4]),(3,zK [0,2,4] [4]),(5,zK [0,2,4,7,8,9,10] [4,8,9,43]),(6,zK [0,4,8,9,10,11,12,13] [4,8,9,11,12]),(7,zK [8,9,10,11,12,13,14,15] [8,9,11,12]),(9,zK [8,9,11,12,13,14,15] [8,9,11,12]),(11,zK [8,9,11,12,13,14] [8,9,11,12]),(13,zK [8,9,11,12,14] [8,9,11,12])],
 [],[]⟩
abbrev R12:=Bool
abbrev e12 (r:R12):List PA:=[.one (.bool r)]
@[irreducible] def z12:=ptF Try.prog G12 zFY Try.f12
section
variable {K:List PA→Prop} {zaa:(Sl Gate)} {more:Gate} {z:Int} {zqT:Bool} {ev2:Int} {zby:Int} {zbz:Int} {zbv:Int} {zbw:Int} {zeY:(Sl Gate)} {zyx:Nat→List PV} {fv3:Int} {zdL:Int} {zdM:Int} {zdN:Int} {zdO:Int} {mv4:Int} {gv4:Int}
def zqU (zby:Int) (zbz:Int) (zbv:Int) (zbw:Int) (zdL:Int) (zdM:Int) (zdN:Int) (zdO:Int) (mv4:Int):Bool :=
  (cond (!(s29 (⟨zdL, zdM⟩ : Frac) (⟨zby, zbz⟩ : Frac)))
 (cond (!(s29 (⟨zbv, zbw⟩ : Frac) (⟨zdN, zdO⟩ : Frac)))
 (cond (mv4 != (1:Int))
 true
 (cond (match (zdL == zby) with | true => (match (zdM == zbz) with | true => true | false => false) | false => false)
 (cond (match (zdN == zbv) with | true => (match (zdO == zbw) with | true => true | false => false) | false => false)
 true
 false)
 false))
 false)
 false)
theorem zFZ (hk:K (e12 (zqU zby zbz zbv zbw zdL zdM zdN zdO mv4))):z12 K [1,1,1,1,1,1,1,1,1] [] ⟨[(8,zp 8 0),(9,zp 9 0),(11,zp 11 0),(12,zp 12 0),(14,zI mv4)],[(8,.box 25 (zm (zae (⟨zby,zbz⟩:Frac)))),(9,.box 25 (zm (zae (⟨zbv,zbw⟩:Frac)))),(11,.box 25 (zm (zae (⟨zdL,zdM⟩:Frac)))),(12,.box 25 (zm (zae (⟨zdN,zdO⟩:Frac))))],[]⟩:=zax (by kernel_rfl) (zt hk (fun hk=>(zt hk (fun hk=>(zt hk (fun hk=>hk) (fun hk=>(zt hk (fun hk=>(zt hk (fun hk=>hk) (fun hk=>hk))) (fun hk=>hk))))) (fun hk=>hk))) (fun hk=>hk))
def zqV (zby:Int) (zbz:Int) (zbv:Int) (zbw:Int) (fv3:Int) (zdL:Int) (zdM:Int) (zdN:Int) (zdO:Int) (mv4:Int):Bool :=
  (cond (fv3 != (0:Int))
 (cond (fv3 == (5:Int))
 true
 false)
 (zqU zby zbz zbv zbw zdL zdM zdN zdO mv4))
theorem zF0 (hk:K (e12 (zqV zby zbz zbv zbw fv3 zdL zdM zdN zdO mv4))):z12 K [1,1,1,1,1,1,1,1] [] ⟨[(8,zp 8 0),(9,zp 9 0),(11,zp 11 0),(12,zp 12 0),(13,zI fv3),(14,zI mv4)],[(8,.box 25 (zm (zae (⟨zby,zbz⟩:Frac)))),(9,.box 25 (zm (zae (⟨zbv,zbw⟩:Frac)))),(11,.box 25 (zm (zae (⟨zdL,zdM⟩:Frac)))),(12,.box 25 (zm (zae (⟨zdN,zdO⟩:Frac))))],[]⟩:=zax (by kernel_rfl) (zt hk (fun hk=>(zt hk (fun hk=>hk) (fun hk=>hk))) (fun hk=>(zFZ hk)))
def zqW (zby:Int) (zbz:Int) (zbv:Int) (zbw:Int) (fv3:Int) (zdL:Int) (zdM:Int) (zdN:Int) (zdO:Int) (mv4:Int) (gv4:Int):Bool :=
  (cond (gv4 != (0:Int))
 false
 (cond ((fv3 == (0:Int)) != (mv4 != (3:Int)))
 false
 (zqV zby zbz zbv zbw fv3 zdL zdM zdN zdO mv4)))
theorem zF1 (hk:K (e12 (zqW zby zbz zbv zbw fv3 zdL zdM zdN zdO mv4 gv4))):z12 K [1,1,1,1,1,1,1] [] ⟨[(8,zp 8 0),(9,zp 9 0),(11,zp 11 0),(12,zp 12 0),(13,zI fv3),(14,zI mv4),(15,zI gv4)],[(8,.box 25 (zm (zae (⟨zby,zbz⟩:Frac)))),(9,.box 25 (zm (zae (⟨zbv,zbw⟩:Frac)))),(11,.box 25 (zm (zae (⟨zdL,zdM⟩:Frac)))),(12,.box 25 (zm (zae (⟨zdN,zdO⟩:Frac))))],[]⟩:=zax (by kernel_rfl) (zt hk (fun hk=>hk) (fun hk=>(zt hk (fun hk=>hk) (fun hk=>(zF0 hk)))))
def zmV (ev2:Int) (zby:Int) (zbz:Int) (zbv:Int) (zbw:Int) (fv3:Int) (zdL:Int) (zdM:Int) (zdN:Int) (zdO:Int) (mv4:Int) (gv4:Int):Bool :=
  (cond (ev2 != (0:Int))
 (cond (ev2 == (5:Int))
 (cond (fv3 == (5:Int))
 (cond (gv4 == (5:Int))
 true
 false)
 false)
 false)
 (zqW zby zbz zbv zbw fv3 zdL zdM zdN zdO mv4 gv4))
theorem zF2 (hk:K (e12 (zmV ev2 zby zbz zbv zbw fv3 zdL zdM zdN zdO mv4 gv4))):z12 K [1,1,1,1,1,1] [] ⟨[(8,zp 8 0),(9,zp 9 0),(10,zI ev2),(11,zp 11 0),(12,zp 12 0),(13,zI fv3),(14,zI mv4),(15,zI gv4)],[(8,.box 25 (zm (zae (⟨zby,zbz⟩:Frac)))),(9,.box 25 (zm (zae (⟨zbv,zbw⟩:Frac)))),(11,.box 25 (zm (zae (⟨zdL,zdM⟩:Frac)))),(12,.box 25 (zm (zae (⟨zdN,zdO⟩:Frac))))],[]⟩:=zax (by kernel_rfl) (zt hk (fun hk=>(zt hk (fun hk=>(zt hk (fun hk=>(zt hk (fun hk=>hk) (fun hk=>hk))) (fun hk=>hk))) (fun hk=>hk))) (fun hk=>(zF1 hk)))
def zqX (zaa:(Sl Gate)) (more:Gate) (ev2:Int) (zby:Int) (zbz:Int) (zbv:Int) (zbw:Int) (fv3:Int) (zdL:Int) (zdM:Int) (zdN:Int) (zdO:Int):Bool :=
  (zmV ev2 zby zbz zbv zbw fv3 zdL zdM zdN zdO ((s48 zaa more).1) ((s48 zaa more).2))
def zqY (zaa:(Sl Gate)) (more:Gate) (ev2:Int) (zby:Int) (zbz:Int) (zbv:Int) (zbw:Int) (fv3:Int) (zdL:Int) (zdM:Int) (zdN:Int) (zdO:Int):Bool :=
  (decide ((p48 zaa more=true)) &&
 true)
theorem zF3 (hs:zqY zaa more ev2 zby zbz zbv zbw fv3 zdL zdM zdN zdO=true) (hk:K (e12 (zqX zaa more ev2 zby zbz zbv zbw fv3 zdL zdM zdN zdO))):z12 K [1,1,1,1,1] [] ⟨[(0,zS enc_55 3 zaa),(4,zp 4 0),(8,zp 8 0),(9,zp 9 0),(10,zI ev2),(11,zp 11 0),(12,zp 12 0),(13,zI fv3)],[(4,.box 55 (zm (enc_55 more))),(8,.box 25 (zm (zae (⟨zby,zbz⟩:Frac)))),(9,.box 25 (zm (zae (⟨zbv,zbw⟩:Frac)))),(11,.box 25 (zm (zae (⟨zdL,zdM⟩:Frac)))),(12,.box 25 (zm (zae (⟨zdN,zdO⟩:Frac))))],[]⟩:=zax (by kernel_rfl) (zaw hs fun hc hs=>And.intro (And.intro (zE enc_55 3 zaa.get) hc) (zF2 hk))
def zqZ (zaa:(Sl Gate)) (more:Gate) (z:Int) (ev2:Int) (zby:Int) (zbz:Int) (zbv:Int) (zbw:Int) (zeY:(Sl Gate)):Bool :=
  (zqX zaa more ev2 zby zbz zbv zbw ((s30 zeY z).2.2) (((s30 zeY z).1).Num) (((s30 zeY z).1).Den) (((s30 zeY z).2.1).Num) (((s30 zeY z).2.1).Den))
def zq0 (zaa:(Sl Gate)) (more:Gate) (z:Int) (ev2:Int) (zby:Int) (zbz:Int) (zbv:Int) (zbw:Int) (zeY:(Sl Gate)):Bool :=
  (decide ((p30 zeY z=true)) &&
 (zqY zaa more ev2 zby zbz zbv zbw ((s30 zeY z).2.2) (((s30 zeY z).1).Num) (((s30 zeY z).1).Den) (((s30 zeY z).2.1).Num) (((s30 zeY z).2.1).Den)))
theorem zF4 (hs:zq0 zaa more z ev2 zby zbz zbv zbw zeY=true) (hk:K (e12 (zqZ zaa more z ev2 zby zbz zbv zbw zeY))) (zF5:zyx=zg enc_55 zeY):z12 K [1,1,1,1] [] ⟨[(0,zS enc_55 3 zaa),(2,zI z),(4,zp 4 0),(7,zv 43),(8,zp 8 0),(9,zp 9 0),(10,zI ev2)],[(4,.box 55 (zm (enc_55 more))),(8,.box 25 (zm (zae (⟨zby,zbz⟩:Frac)))),(9,.box 25 (zm (zae (⟨zbv,zbw⟩:Frac)))),(43,.vec 55 3 24 zeY.len zyx)],[]⟩:=by subst zF5;exact zax (by kernel_rfl) (zaw hs fun hc hs=>And.intro (And.intro (zE enc_55 3 zeY.get) hc) (zF3 hs hk))
def zjZ (zaa:(Sl Gate)) (more:Gate) (z:Int):Bool :=
  (zqZ zaa more z ((s30 zaa z).2.2) (((s30 zaa z).1).Num) (((s30 zaa z).1).Den) (((s30 zaa z).2.1).Num) (((s30 zaa z).2.1).Den) (⟨(zaa.len+1),(zdt zaa.len zaa.get (fun _=>more))⟩:Sl Gate))
def zj0 (zaa:(Sl Gate)) (more:Gate) (z:Int):Bool :=
  (decide ((zaa.len * 24≤140737488355328∧zaa.len≤9223372036854775807)) &&
 (decide (((zaa.len+1) * 24≤140737488355328∧zaa.len+1≤9223372036854775807)) &&
 (decide ((p30 zaa z=true)) &&
 (zq0 zaa more z ((s30 zaa z).2.2) (((s30 zaa z).1).Num) (((s30 zaa z).1).Den) (((s30 zaa z).2.1).Num) (((s30 zaa z).2.1).Den) (⟨(zaa.len+1),(zdt zaa.len zaa.get (fun _=>more))⟩:Sl Gate)))))
theorem zF6 (hs:zj0 zaa more z=true) (hk:K (e12 (zjZ zaa more z))):z12 K [1,1] [] ⟨[(0,zS enc_55 3 zaa),(2,zI z),(4,zp 4 0)],[(4,.box 55 (zm (enc_55 more)))],[]⟩:=zax (by kernel_rfl) (zaw hs fun hc hs=>And.intro hc (zaw hs fun hc hs=>And.intro hc (zaw hs fun hc hs=>And.intro (And.intro (zE enc_55 3 zaa.get) hc) (zF4 hs hk (zjd (enc:=enc_55) (f:=zaa.get) (h:=(fun _=>more)) rfl rfl)))))
def zfs (zaa:(Sl Gate)) (more:Gate) (z:Int) (zqT:Bool):Bool :=
  (cond zqT
 true
 (zjZ zaa more z))
def zft (zaa:(Sl Gate)) (more:Gate) (z:Int) (zqT:Bool):Bool :=
  (cond zqT
 true
 (zj0 zaa more z))
theorem zhH (hs:zft zaa more z zqT=true) (hk:K (e12 (zfs zaa more z zqT))):z12 K [1,0,1] [] ⟨[(0,zS enc_55 3 zaa),(2,zI z),(4,zp 4 0),(40,zB zqT)],[(4,.box 55 (zm (enc_55 more)))],[]⟩:=zax (by kernel_rfl) (zc hs hk (fun hs hk=>hk) (fun hs hk=>(zF6 hs hk)))
def s12 (zaa:(Sl Gate)) (more:Gate) (z:Int):Bool :=
  (cond (decide ((zaa.len : Int) > (20:Int)))
 (zfs zaa more z true)
 (cond (!(s20 zaa))
 (zfs zaa more z true)
 (cond (!(s49 more))
 (zfs zaa more z true)
 (cond (s22 zaa)
 (zfs zaa more z true)
 (cond (decide (z < (0:Int)))
 (zfs zaa more z true)
 (zfs zaa more z (decide (z > (100000:Int)))))))))
def p12 (zaa:(Sl Gate)) (more:Gate) (z:Int):Bool :=
  (cond (decide ((zaa.len : Int) > (20:Int)))
 (zft zaa more z true)
 (decide ((p20 zaa=true)) &&
 (cond (!(s20 zaa))
 (zft zaa more z true)
 (cond (!(s49 more))
 (zft zaa more z true)
 (decide ((p22 zaa=true)) &&
 (cond (s22 zaa)
 (zft zaa more z true)
 (cond (decide (z < (0:Int)))
 (zft zaa more z true)
 (zft zaa more z (decide (z > (100000:Int)))))))))))
end
theorem q12 (zaa:(Sl Gate)) (more:Gate) (z:Int) (K:List PA→Prop) (hs:p12 zaa more z=true) (hk:K (e12 (s12 zaa more z))):vcFun Try.prog G12 zFY 12 [.one (.sl zaa.len 3 (fun i=>enc_55 (zaa.get i))),.agg (enc_55 more),.one (.int .i64 z)] K :=
  zax (by kernel_rfl) (zc hs hk (fun hs hk=>(zhH hs hk)) (fun hs hk=>(zaw hs fun hc hs=>And.intro (And.intro (zE enc_55 3 zaa.get) hc) (zc hs hk (fun hs hk=>(zhH hs hk)) (fun hs hk=>(zc hs hk (fun hs hk=>(zhH hs hk)) (fun hs hk=>(zaw hs fun hc hs=>And.intro (And.intro (zE enc_55 3 zaa.get) hc) (zc hs hk (fun hs hk=>(zhH hs hk)) (fun hs hk=>(zc hs hk (fun hs hk=>(zhH hs hk)) (fun hs hk=>(zhH hs hk)))))))))))))
def zJp : List PA → COut
  | [.one (.sl a0_n a0_s a0_g),.agg [.int .i64 a1_Z,.int .i64 a1_Low,.int .i64 a1_High],.one (.int .i64 a2)]=>.det (IsE enc_55 3 a0_s a0_g∧p12 (⟨a0_n,zad a0_g⟩:(Sl Gate)) (⟨a1_Z,a1_Low,a1_High⟩:Gate) a2=true) [.one (.bool (s12 (⟨a0_n,zad a0_g⟩:(Sl Gate)) (⟨a1_Z,a1_Low,a1_High⟩:Gate) a2))]
  | _=>.no
theorem call12:zai Try.prog 12:=⟨_,rfl,rfl,by kernel_rfl⟩
theorem ok12:Ok Try.prog 12 zJp:=zaG zLG call12 fun args K h=>by
  unfold zJp at h
  split at h
  · rename_i a0_n a0_s a0_g a1_Z a1_Low a1_High a2
    obtain ⟨⟨⟨rfl,a0_f,rfl⟩,hs⟩,hk⟩:=h
    try rw [zac a0_f] at hs
    try rw [zac a0_f] at hk
    exact ⟨(fun _ _=>[]),(fun _=>false),zFY,q12 (⟨a0_n,a0_f⟩:(Sl Gate)) (⟨a1_Z,a1_Low,a1_High⟩:Gate) a2 K hs hk⟩
  · exact h.elim
end Go.Proofs
namespace Go.Proofs
open Go Go.Pm
set_option maxRecDepth 100000
set_option linter.unusedVariables false
attribute [local irreducible] Go.Pm.vcFun Go.Pm.vc Go.Pm.vcIter
theorem C_3:Try.prog.cellsOf 3=1:=by kernel_rfl
theorem zMF:Try.prog.cellsOf 55=3:=by kernel_rfl
abbrev wf_3 (x:Int):Prop:=wfI x
theorem rd_3 {H:Type} {en:TypeId×Value→H} {w:World} {sp:Nat→Bool} {held:Bool} : Rd H en Try.prog w sp held 3 zat wf_3:=zHr Try.underlying3
def wf_55 (x:Gate):Prop:=wf_3 x.Z∧wf_3 x.Low∧wf_3 x.High
theorem rd_55 {H:Type} {en:TypeId×Value→H} {w:World} {sp:Nat→Bool} {held:Bool} : Rd H en Try.prog w sp held 55 enc_55 wf_55:=by
  intro fuel cs x h
  obtain ⟨hl,hf⟩:=zuH Try.underlying55 h
  rw [zMF] at hl
  obtain ⟨n0,y0,g0⟩:=hf 0 _ rfl
  have g0:DataW.trod en Try.prog w 0 sp held n0 3 ((cs.drop 0).take (Try.prog.cellsOf 3))=some y0:=g0
  rw [C_3] at g0
  obtain ⟨a0,r0,w0⟩:=rd_3 _ _ _ g0
  obtain ⟨n1,y1,g1⟩:=hf 1 _ rfl
  have g1:DataW.trod en Try.prog w 0 sp held n1 3 ((cs.drop 1).take (Try.prog.cellsOf 3))=some y1:=g1
  rw [C_3] at g1
  obtain ⟨a1,r1,w1⟩:=rd_3 _ _ _ g1
  obtain ⟨n2,y2,g2⟩:=hf 2 _ rfl
  have g2:DataW.trod en Try.prog w 0 sp held n2 3 ((cs.drop 2).take (Try.prog.cellsOf 3))=some y2:=g2
  rw [C_3] at g2
  obtain ⟨a2,r2,w2⟩:=rd_3 _ _ _ g2
  have z:cs.drop 3=[]:=List.drop_eq_nil_of_le (by omega)
  have R:=(r0.append (r1.append (r2.append (show RL (Rep (H0 w)) [] (cs.drop 3) by rw [z];exact zhf))))
  rw [← (show cs.drop 2=(cs.drop 2).take 1 ++ cs.drop 3 from zhh cs 2 1)] at R
  rw [← (show cs.drop 1=(cs.drop 1).take 1 ++ cs.drop 2 from zhh cs 1 1)] at R
  rw [← (show cs.drop 0=(cs.drop 0).take 1 ++ cs.drop 1 from zhh cs 0 1)] at R
  exact ⟨⟨a0,a1,a2⟩,R,⟨w0,w1,w2⟩⟩
def wf_22 (x:(Sl Gate)):Prop:=x.len≤9223372036854775807∧∀ i,i < x.len→wf_55 (x.get i)
theorem rd_22 {H:Type} {en:TypeId×Value→H} {w:World} {sp:Nat→Bool} {held:Bool} : Rd H en Try.prog w sp held 22 zHt wf_22:=zAk Try.underlying22 zMF (by decide) (fun _=>rfl) rd_55
end Go.Proofs
namespace Go.Proofs
open Go Go.Pm
set_option maxRecDepth 100000
set_option linter.unusedVariables false
attribute [local irreducible] Go.Pm.vcFun Go.Pm.vc Go.Pm.vcIter
section
variable {K:List PA→Prop} {l_a0:Line} {z:Int}
def ztw (l_a0:Line) (z:Int):(Int×Int) :=
  ((w64 ((w64 (l_a0.Start.Num * l_a0.Slope.Den))+(w64 ((w64 (l_a0.Slope.Num * z)) * l_a0.Start.Den)))),(w64 (l_a0.Start.Den * l_a0.Slope.Den)))
end
section
variable {K:List PA→Prop} {l_a0:Line} {g:Gate}
def s72 (l_a0:Line) (g:Gate):Bool :=
  (cond (decide ((w64 (g.Low * ((ztw l_a0 g.Z).2))) ≤ ((ztw l_a0 g.Z).1)))
 (decide (((ztw l_a0 g.Z).1)≤(w64 (g.High * ((ztw l_a0 g.Z).2)))))
 false)
end
section
variable {K:List PA→Prop} {l_a0:Line} {zaa:(Sl Gate)} {iv0:Int} {zmW:(Sl Int)} {zLH:Nat→List PV} {X0:St→Prop} {P0:Int→(Sl Int)→Bool} {S0:Int→(Sl Int)→(Sl Int)} {iv1:Int} {zA3:Bool} {zib:(Sl Int)} {zLI:Nat→List PV}
def zyy (S0:Int→(Sl Int)→(Sl Int)) (l_a0:Line) (zaa:(Sl Gate)) (iv1:Int) (zA3:Bool) (zib:(Sl Int)):(Sl Int) :=
  (cond zA3
 (S0 (w64 (iv1+(1:Int))) (⟨(zib.len+1),(zdt zib.len zib.get (fun _=>iv1))⟩:Sl Int))
 (S0 (w64 (iv1+(1:Int))) zib))
def zyz (P0:Int→(Sl Int)→Bool) (l_a0:Line) (zaa:(Sl Gate)) (iv1:Int) (zA3:Bool) (zib:(Sl Int)):Bool :=
  (cond zA3
 (decide (((zib.len+1) * 8≤140737488355328∧zib.len+1≤9223372036854775807)) &&
 (P0 (w64 (iv1+(1:Int))) (⟨(zib.len+1),(zdt zib.len zib.get (fun _=>iv1))⟩:Sl Int)))
 (P0 (w64 (iv1+(1:Int))) zib))
def zj1 (l_a0:Line) (zaa:(Sl Gate)) (S0:Int→(Sl Int)→(Sl Int)) (iv0:Int) (zmW:(Sl Int)):(Sl Int) :=
  (cond (decide (iv0 < (zaa.len : Int)))
 (zyy S0 l_a0 zaa iv0 (s72 l_a0 (zaa.get iv0.toNat)) zmW)
 zmW)
def zj2 (l_a0:Line) (zaa:(Sl Gate)) (P0:Int→(Sl Int)→Bool) (iv0:Int) (zmW:(Sl Int)):Bool :=
  (cond (decide (iv0 < (zaa.len : Int)))
 (decide ((0≤iv0∧iv0 < (zaa.len:Int))) &&
 (zyz P0 l_a0 zaa iv0 (s72 l_a0 (zaa.get iv0.toNat)) zmW))
 true)
def zj3 (l_a0:Line) (zaa:(Sl Gate)):Nat→Int→(Sl Int)→(Sl Int):=lpO (fun _ _=>default) (zj1 l_a0 zaa)
def zj4 (l_a0:Line) (zaa:(Sl Gate)):Nat→Int→(Sl Int)→Bool:=lpO (fun _ _=>false) (zj2 l_a0 zaa)
def zF7 (l_a0:Line) (zaa:(Sl Gate)) (iv0:Int) (zmW:(Sl Int)):(Sl Int):=zj3 l_a0 zaa Fuel iv0 zmW
def zF8 (l_a0:Line) (zaa:(Sl Gate)) (iv0:Int) (zmW:(Sl Int)):Bool:=zj4 l_a0 zaa Fuel iv0 zmW
def s27 (l_a0:Line) (zaa:(Sl Gate)):(Sl Int) :=
  (zF7 l_a0 zaa (0:Int) (⟨0,(fun _=>default)⟩:Sl Int))
def p27 (l_a0:Line) (zaa:(Sl Gate)):Bool :=
  (zF8 l_a0 zaa (0:Int) (⟨0,(fun _=>default)⟩:Sl Int))
end
section
variable {K:List PA→Prop} {zaa:(Sl Gate)}
end
section
variable {K:List PA→Prop} {f:Frac} {den:Int} {num:Int}
end
section
variable {K:List PA→Prop} {l_a0:Line} {zaa:(Sl Gate)} {zOh:Bool} {zOi:Int} {zOj:(Sl Int)} {zLJ:Nat→List PV} {X2:St→Prop} {P2:Int→(Sl Int)→Bool} {S2:Int→(Sl Int)→((Sl Int)×Int)} {iv3:Int} {zOk:Int} {zOl:Bool} {zOm:(Sl Int)} {zLK:Nat→List PV}
end
section
variable {K:List PA→Prop} {f:Frac} {most:Int}
end
section
variable {K:List PA→Prop} {l_a0:Line}
end
abbrev T26:Tabs:=(Tabs.nil.addF 40 ztp)
abbrev G26:Ctrs:=csm T26 (fun _ _=>[]) (fun _=>false)
def zLL:Ann:=⟨35,[(0,zK [0,1,2,3,8] [8]),(1,zK [0,1,2,3,8,11] [8]),(2,zK [0,1,2,3,8] [8]),(3,zK [8] [8])],
 [],
 [(3,zK [0,1,2,3,8] [8])],
 [],[]⟩
@[irreducible] def z26:=ptF Try.prog G26 zLL Try.f26
section
variable {K:List PA→Prop} {z:Int} {x:Int} {w:Int} {y_a3:Int} {zv0:Int} {xv0:Int} {wv0:Int} {yv0:Int}
def zq1 (zv0:Int) (xv0:Int) (wv0:Int) (yv0:Int):Line :=
  (⟨(s40 (w64 (yv0 - xv0)) (w64 (wv0 - zv0))),(s40 (w64 ((w64 (xv0 * wv0)) - (w64 (yv0 * zv0)))) (w64 (wv0 - zv0)))⟩:Line)
def zq2 (zv0:Int) (xv0:Int) (wv0:Int) (yv0:Int):Bool :=
  (decide ((p40 (w64 (yv0 - xv0)) (w64 (wv0 - zv0))=true)) &&
 (decide ((p40 (w64 ((w64 (xv0 * wv0)) - (w64 (yv0 * zv0)))) (w64 (wv0 - zv0))=true)) &&
 true))
def s26 (z:Int) (x:Int) (w:Int) (y_a3:Int):Line :=
  (cond (decide (w < z))
 (zq1 w y_a3 z x)
 (zq1 z x w y_a3))
def p26 (z:Int) (x:Int) (w:Int) (y_a3:Int):Bool :=
  (cond (decide (w < z))
 (zq2 w y_a3 z x)
 (zq2 z x w y_a3))
end
section
variable {K:List PA→Prop} {g:Gate} {which:Int}
def zzv (g:Gate) (which:Int):Int :=
  (cond (which == (0:Int))
 g.Low
 g.High)
end
section
variable {K:List PA→Prop} {zaa:(Sl Gate)} {iv0:Int} {zmX:(Sl Line)} {zLM:Nat→List PV} {X0:St→Prop} {P0:Int→(Sl Line)→Bool} {S0:Int→(Sl Line)→(Sl Line)} {iv1:Int} {kv1:Int} {zkP:(Sl Line)} {zLN:Nat→List PV} {X1:St→Prop} {P1:Int→Int→(Sl Line)→Bool} {S1:Int→Int→(Sl Line)→(Sl Line)} {iv2:Int} {kv2:Int} {ev2:Int} {zeZ:(Sl Line)} {zLO:Nat→List PV} {X2:St→Prop} {P2:Int→Int→Int→(Sl Line)→Bool} {S2:Int→Int→Int→(Sl Line)→(Sl Line)}
def zgm (S0:Int→(Sl Line)→(Sl Line)) (S1:Int→Int→(Sl Line)→(Sl Line)) (zaa:(Sl Gate)) (S2:Int→Int→Int→(Sl Line)→(Sl Line)) (iv2:Int) (kv2:Int) (ev2:Int) (zeZ:(Sl Line)):(Sl Line) :=
  (cond (decide (ev2 < (4:Int)))
 (cond ((zaa.get iv2.toNat).Z != (zaa.get kv2.toNat).Z)
 (S2 iv2 kv2 (w64 (ev2+(1:Int))) (⟨(zeZ.len+1),(zdt zeZ.len zeZ.get (fun _=>(s26 ((zaa.get iv2.toNat).Z) (zzv (zaa.get iv2.toNat) (w64 (ev2.tdiv (2:Int)))) ((zaa.get kv2.toNat).Z) (zzv (zaa.get kv2.toNat) (ev2.tmod (2:Int))))))⟩:Sl Line))
 (S1 iv2 (w64 (kv2+(1:Int))) zeZ))
 (S1 iv2 (w64 (kv2+(1:Int))) zeZ))
def zgn (P0:Int→(Sl Line)→Bool) (P1:Int→Int→(Sl Line)→Bool) (zaa:(Sl Gate)) (P2:Int→Int→Int→(Sl Line)→Bool) (iv2:Int) (kv2:Int) (ev2:Int) (zeZ:(Sl Line)):Bool :=
  (cond (decide (ev2 < (4:Int)))
 (decide ((0≤iv2∧iv2 < (zaa.len:Int))) &&
 (decide ((0≤kv2∧kv2 < (zaa.len:Int))) &&
 (cond ((zaa.get iv2.toNat).Z != (zaa.get kv2.toNat).Z)
 (decide ((0≤iv2∧iv2 < (zaa.len:Int))) &&
 (decide ((0≤iv2∧iv2 < (zaa.len:Int))) &&
 (decide (((2:Int) ≠ 0)) &&
 (decide ((0≤kv2∧kv2 < (zaa.len:Int))) &&
 (decide ((0≤kv2∧kv2 < (zaa.len:Int))) &&
 (decide (((2:Int) ≠ 0)) &&
 (decide ((p26 ((zaa.get iv2.toNat).Z) (zzv (zaa.get iv2.toNat) (w64 (ev2.tdiv (2:Int)))) ((zaa.get kv2.toNat).Z) (zzv (zaa.get kv2.toNat) (ev2.tmod (2:Int)))=true)) &&
 (decide (((zeZ.len+1) * 32≤140737488355328∧zeZ.len+1≤9223372036854775807)) &&
 (P2 iv2 kv2 (w64 (ev2+(1:Int))) (⟨(zeZ.len+1),(zdt zeZ.len zeZ.get (fun _=>(s26 ((zaa.get iv2.toNat).Z) (zzv (zaa.get iv2.toNat) (w64 (ev2.tdiv (2:Int)))) ((zaa.get kv2.toNat).Z) (zzv (zaa.get kv2.toNat) (ev2.tmod (2:Int))))))⟩:Sl Line))))))))))
 (P1 iv2 (w64 (kv2+(1:Int))) zeZ))))
 (P1 iv2 (w64 (kv2+(1:Int))) zeZ))
def zdP (S0:Int→(Sl Line)→(Sl Line)) (S1:Int→Int→(Sl Line)→(Sl Line)) (zaa:(Sl Gate)):Nat→Int→Int→Int→(Sl Line)→(Sl Line):=lpO (fun _ _ _ _=>default) (zgm S0 S1 zaa)
def zdQ (P0:Int→(Sl Line)→Bool) (P1:Int→Int→(Sl Line)→Bool) (zaa:(Sl Gate)):Nat→Int→Int→Int→(Sl Line)→Bool:=lpO (fun _ _ _ _=>false) (zgn P0 P1 zaa)
def zyA (S0:Int→(Sl Line)→(Sl Line)) (S1:Int→Int→(Sl Line)→(Sl Line)) (zaa:(Sl Gate)) (iv2:Int) (kv2:Int) (ev2:Int) (zeZ:(Sl Line)):(Sl Line):=zdP S0 S1 zaa Fuel iv2 kv2 ev2 zeZ
def zyB (P0:Int→(Sl Line)→Bool) (P1:Int→Int→(Sl Line)→Bool) (zaa:(Sl Gate)) (iv2:Int) (kv2:Int) (ev2:Int) (zeZ:(Sl Line)):Bool:=zdQ P0 P1 zaa Fuel iv2 kv2 ev2 zeZ
def zj5 (S0:Int→(Sl Line)→(Sl Line)) (zaa:(Sl Gate)) (S1:Int→Int→(Sl Line)→(Sl Line)) (iv1:Int) (kv1:Int) (zkP:(Sl Line)):(Sl Line) :=
  (cond (decide (kv1 < (zaa.len : Int)))
 (zyA S0 S1 zaa iv1 kv1 (0:Int) zkP)
 (S0 (w64 (iv1+(1:Int))) zkP))
def zj6 (P0:Int→(Sl Line)→Bool) (zaa:(Sl Gate)) (P1:Int→Int→(Sl Line)→Bool) (iv1:Int) (kv1:Int) (zkP:(Sl Line)):Bool :=
  (cond (decide (kv1 < (zaa.len : Int)))
 (zyB P0 P1 zaa iv1 kv1 (0:Int) zkP)
 (P0 (w64 (iv1+(1:Int))) zkP))
def zhI (S0:Int→(Sl Line)→(Sl Line)) (zaa:(Sl Gate)):Nat→Int→Int→(Sl Line)→(Sl Line):=lpO (fun _ _ _=>default) (zj5 S0 zaa)
def zhJ (P0:Int→(Sl Line)→Bool) (zaa:(Sl Gate)):Nat→Int→Int→(Sl Line)→Bool:=lpO (fun _ _ _=>false) (zj6 P0 zaa)
def zyC (S0:Int→(Sl Line)→(Sl Line)) (zaa:(Sl Gate)) (iv1:Int) (kv1:Int) (zkP:(Sl Line)):(Sl Line):=zhI S0 zaa Fuel iv1 kv1 zkP
def zyD (P0:Int→(Sl Line)→Bool) (zaa:(Sl Gate)) (iv1:Int) (kv1:Int) (zkP:(Sl Line)):Bool:=zhJ P0 zaa Fuel iv1 kv1 zkP
def zj7 (zaa:(Sl Gate)) (S0:Int→(Sl Line)→(Sl Line)) (iv0:Int) (zmX:(Sl Line)):(Sl Line) :=
  (cond (decide (iv0 < (zaa.len : Int)))
 (zyC S0 zaa iv0 (w64 (iv0+(1:Int))) zmX)
 zmX)
def zj8 (zaa:(Sl Gate)) (P0:Int→(Sl Line)→Bool) (iv0:Int) (zmX:(Sl Line)):Bool :=
  (cond (decide (iv0 < (zaa.len : Int)))
 (zyD P0 zaa iv0 (w64 (iv0+(1:Int))) zmX)
 true)
def zj9 (zaa:(Sl Gate)):Nat→Int→(Sl Line)→(Sl Line):=lpO (fun _ _=>default) (zj7 zaa)
def zka (zaa:(Sl Gate)):Nat→Int→(Sl Line)→Bool:=lpO (fun _ _=>false) (zj8 zaa)
def zF9 (zaa:(Sl Gate)) (iv0:Int) (zmX:(Sl Line)):(Sl Line):=zj9 zaa Fuel iv0 zmX
def zGa (zaa:(Sl Gate)) (iv0:Int) (zmX:(Sl Line)):Bool:=zka zaa Fuel iv0 zmX
def s80 (zaa:(Sl Gate)):(Sl Line) :=
  (zF9 zaa (0:Int) (⟨0,(fun _=>default)⟩:Sl Line))
def p80 (zaa:(Sl Gate)):Bool :=
  (zGa zaa (0:Int) (⟨0,(fun _=>default)⟩:Sl Line))
end
section
variable {K:List PA→Prop} {l_a0:Line} {zaa:(Sl Gate)} {iv0:Int} {X0:St→Prop} {P0:Int→Bool} {S0:Int→Bool} {iv1:Int} {nv1:Int} {dv1:Int}
def zsr (S0:Int→Bool) (l_a0:Line) (zaa:(Sl Gate)) (iv1:Int) (nv1:Int) (dv1:Int):Bool :=
  (cond (nv1 == (w64 ((zaa.get iv1.toNat).Low * dv1)))
 true
 (S0 (w64 (iv1+(1:Int)))))
def zss (P0:Int→Bool) (l_a0:Line) (zaa:(Sl Gate)) (iv1:Int) (nv1:Int) (dv1:Int):Bool :=
  (decide ((0≤iv1∧iv1 < (zaa.len:Int))) &&
 (cond (nv1 == (w64 ((zaa.get iv1.toNat).Low * dv1)))
 true
 (P0 (w64 (iv1+(1:Int))))))
def zgX (l_a0:Line) (zaa:(Sl Gate)) (S0:Int→Bool) (iv0:Int):Bool :=
  (cond (decide (iv0 < (zaa.len : Int)))
 (zsr S0 l_a0 zaa iv0 ((ztw l_a0 ((zaa.get iv0.toNat).Z)).1) ((ztw l_a0 ((zaa.get iv0.toNat).Z)).2))
 false)
def zgY (l_a0:Line) (zaa:(Sl Gate)) (P0:Int→Bool) (iv0:Int):Bool :=
  (cond (decide (iv0 < (zaa.len : Int)))
 (decide ((0≤iv0∧iv0 < (zaa.len:Int))) &&
 (zss P0 l_a0 zaa iv0 ((ztw l_a0 ((zaa.get iv0.toNat).Z)).1) ((ztw l_a0 ((zaa.get iv0.toNat).Z)).2)))
 true)
def zgZ (l_a0:Line) (zaa:(Sl Gate)):Nat→Int→Bool:=lpO (fun _=>default) (zgX l_a0 zaa)
def zg0 (l_a0:Line) (zaa:(Sl Gate)):Nat→Int→Bool:=lpO (fun _=>false) (zgY l_a0 zaa)
def zA4 (l_a0:Line) (zaa:(Sl Gate)) (iv0:Int):Bool:=zgZ l_a0 zaa Fuel iv0
def zA5 (l_a0:Line) (zaa:(Sl Gate)) (iv0:Int):Bool:=zg0 l_a0 zaa Fuel iv0
def ztx (l_a0:Line) (zaa:(Sl Gate)):Bool :=
  (zA4 l_a0 zaa (0:Int))
def zGR (l_a0:Line) (zaa:(Sl Gate)):Bool :=
  (zA5 l_a0 zaa (0:Int))
end
def zJq : List PA → COut
  | [.agg [.int .i64 a0_Slope_Num,.int .i64 a0_Slope_Den,.int .i64 a0_Start_Num,.int .i64 a0_Start_Den],.one (.sl a1_n a1_s a1_g)]=>.det (IsE enc_55 3 a1_s a1_g∧zGR (⟨(⟨a0_Slope_Num,a0_Slope_Den⟩:Frac),(⟨a0_Start_Num,a0_Start_Den⟩:Frac)⟩:Line) (⟨a1_n,zad a1_g⟩:(Sl Gate))=true) [.one (.bool (ztx (⟨(⟨a0_Slope_Num,a0_Slope_Den⟩:Frac),(⟨a0_Start_Num,a0_Start_Den⟩:Frac)⟩:Line) (⟨a1_n,zad a1_g⟩:(Sl Gate))))]
  | _=>.no
abbrev T81:Tabs:=((Tabs.nil.addF 29 zyp).addF 110 zJq)
abbrev G81:Ctrs:=csm T81 (fun _ _=>[]) (fun _=>false)
def zLP:Ann:=⟨30,[(0,zK [2,3,4] [3,4]),(1,zK [2,3,4,13] [3,4]),(2,zK [6] []),(3,zK [3,4,19] [3,4]),(4,zK [6] []),(5,zK [6] [])],
 [],
 [(3,zK [2,3,4] [3,4])],
 [],[]⟩
@[irreducible] def z81:=ptF Try.prog G81 zLP Try.f81
section
variable {K:List PA→Prop} {a:Line} {b:Line} {zaa:(Sl Gate)}
def zGb (a:Line) (b:Line) (zaa:(Sl Gate)):Bool :=
  (cond (ztx a zaa)
 (s29 a.Slope b.Slope)
 (s29 b.Slope a.Slope))
def zyE (a:Line) (b:Line) (zaa:(Sl Gate)):Bool :=
  (decide ((zGR a zaa=true)) &&
 true)
def s81 (a:Line) (b:Line) (zaa:(Sl Gate)):Bool :=
  (cond ((ztx a zaa) != (ztx b zaa))
 (ztx a zaa)
 (zGb a b zaa))
def p81 (a:Line) (b:Line) (zaa:(Sl Gate)):Bool :=
  (decide ((zGR a zaa=true)) &&
 (decide ((zGR b zaa=true)) &&
 (cond ((ztx a zaa) != (ztx b zaa))
 (decide ((zGR a zaa=true)) &&
 true)
 (zyE a b zaa))))
end
section
variable {K:List PA→Prop} {zaa:(Sl Gate)} {lv0:(Sl Line)} {zLQ:Nat→List PV} {zkb:(Sl Line)} {iv1:Int} {zLR:Nat→List PV} {X1:St→Prop} {P1:(Sl Line)→Int→Bool} {S1:(Sl Line)→Int→(Sl Line)} {ze0:(Sl Line)} {iv2:Int} {zmY:Int} {zLS:Nat→List PV} {X2:St→Prop} {P2:(Sl Line)→Int→Int→Bool} {S2:(Sl Line)→Int→Int→(Sl Line)} {zbW:(Sl Line)} {iv3:Int} {zcJ:Int} {zLT:Nat→List PV}
def zmZ (S1:(Sl Line)→Int→(Sl Line)) (zaa:(Sl Gate)) (lv0:(Sl Line)) (zbW:(Sl Line)) (iv3:Int) (zcJ:Int):(Sl Line) :=
  (cond (decide (zcJ < (zbW.len : Int)))
 (cond (match (match ((zbW.get zcJ.toNat).Slope.Num == (lv0.get iv3.toNat).Slope.Num) with | true => (match ((zbW.get zcJ.toNat).Slope.Den == (lv0.get iv3.toNat).Slope.Den) with | true => true | false => false) | false => false) with | true => (match (match ((zbW.get zcJ.toNat).Start.Num == (lv0.get iv3.toNat).Start.Num) with | true => (match ((zbW.get zcJ.toNat).Start.Den == (lv0.get iv3.toNat).Start.Den) with | true => true | false => false) | false => false) with | true => true | false => false) | false => false)
 (S1 zbW (w64 (iv3+(1:Int))))
 (S1 (⟨(((zcJ - (0:Int)).toNat+1)+((zbW.len:Int) - zcJ).toNat),(zdt ((zcJ - (0:Int)).toNat+1) (zdt ((zcJ - (0:Int)).toNat) (fun i=>zbW.get (i+((0:Int).toNat))) (fun _=>(lv0.get iv3.toNat))) (fun i=>zbW.get (i+zcJ.toNat)))⟩:Sl Line) (w64 (iv3+(1:Int)))))
 (S1 (⟨(((zcJ - (0:Int)).toNat+1)+((zbW.len:Int) - zcJ).toNat),(zdt ((zcJ - (0:Int)).toNat+1) (zdt ((zcJ - (0:Int)).toNat) (fun i=>zbW.get (i+((0:Int).toNat))) (fun _=>(lv0.get iv3.toNat))) (fun i=>zbW.get (i+zcJ.toNat)))⟩:Sl Line) (w64 (iv3+(1:Int)))))
def zm0 (P1:(Sl Line)→Int→Bool) (zaa:(Sl Gate)) (lv0:(Sl Line)) (zbW:(Sl Line)) (iv3:Int) (zcJ:Int):Bool :=
  (cond (decide (zcJ < (zbW.len : Int)))
 (decide ((0≤zcJ∧zcJ < (zbW.len:Int))) &&
 (decide ((0≤iv3∧iv3 < (lv0.len:Int))) &&
 (cond (match (match ((zbW.get zcJ.toNat).Slope.Num == (lv0.get iv3.toNat).Slope.Num) with | true => (match ((zbW.get zcJ.toNat).Slope.Den == (lv0.get iv3.toNat).Slope.Den) with | true => true | false => false) | false => false) with | true => (match (match ((zbW.get zcJ.toNat).Start.Num == (lv0.get iv3.toNat).Start.Num) with | true => (match ((zbW.get zcJ.toNat).Start.Den == (lv0.get iv3.toNat).Start.Den) with | true => true | false => false) | false => false) with | true => true | false => false) | false => false)
 (P1 zbW (w64 (iv3+(1:Int))))
 (decide ((0≤(0:Int)∧(0:Int)≤zcJ∧zcJ≤(zbW.len:Int))) &&
 (decide (((zcJ - (0:Int)).toNat * 32≤140737488355328∧(zcJ - (0:Int)).toNat≤9223372036854775807)) &&
 (decide ((0≤iv3∧iv3 < (lv0.len:Int))) &&
 (decide ((((zcJ - (0:Int)).toNat+1) * 32≤140737488355328∧(zcJ - (0:Int)).toNat+1≤9223372036854775807)) &&
 (decide ((0≤zcJ∧zcJ≤(zbW.len:Int)∧(zbW.len:Int)≤(zbW.len:Int))) &&
 (decide (((((zcJ - (0:Int)).toNat+1)+((zbW.len:Int) - zcJ).toNat) * 32≤140737488355328∧((zcJ - (0:Int)).toNat+1)+((zbW.len:Int) - zcJ).toNat≤9223372036854775807)) &&
 (P1 (⟨(((zcJ - (0:Int)).toNat+1)+((zbW.len:Int) - zcJ).toNat),(zdt ((zcJ - (0:Int)).toNat+1) (zdt ((zcJ - (0:Int)).toNat) (fun i=>zbW.get (i+((0:Int).toNat))) (fun _=>(lv0.get iv3.toNat))) (fun i=>zbW.get (i+zcJ.toNat)))⟩:Sl Line) (w64 (iv3+(1:Int)))))))))))))
 (decide ((0≤(0:Int)∧(0:Int)≤zcJ∧zcJ≤(zbW.len:Int))) &&
 (decide (((zcJ - (0:Int)).toNat * 32≤140737488355328∧(zcJ - (0:Int)).toNat≤9223372036854775807)) &&
 (decide ((0≤iv3∧iv3 < (lv0.len:Int))) &&
 (decide ((((zcJ - (0:Int)).toNat+1) * 32≤140737488355328∧(zcJ - (0:Int)).toNat+1≤9223372036854775807)) &&
 (decide ((0≤zcJ∧zcJ≤(zbW.len:Int)∧(zbW.len:Int)≤(zbW.len:Int))) &&
 (decide (((((zcJ - (0:Int)).toNat+1)+((zbW.len:Int) - zcJ).toNat) * 32≤140737488355328∧((zcJ - (0:Int)).toNat+1)+((zbW.len:Int) - zcJ).toNat≤9223372036854775807)) &&
 (P1 (⟨(((zcJ - (0:Int)).toNat+1)+((zbW.len:Int) - zcJ).toNat),(zdt ((zcJ - (0:Int)).toNat+1) (zdt ((zcJ - (0:Int)).toNat) (fun i=>zbW.get (i+((0:Int).toNat))) (fun _=>(lv0.get iv3.toNat))) (fun i=>zbW.get (i+zcJ.toNat)))⟩:Sl Line) (w64 (iv3+(1:Int)))))))))))
def zkc (S1:(Sl Line)→Int→(Sl Line)) (zaa:(Sl Gate)) (lv0:(Sl Line)) (S2:(Sl Line)→Int→Int→(Sl Line)) (ze0:(Sl Line)) (iv2:Int) (zmY:Int):(Sl Line) :=
  (cond (decide (zmY < (ze0.len : Int)))
 (cond (s81 (ze0.get zmY.toNat) (lv0.get iv2.toNat) zaa)
 (S2 ze0 iv2 (w64 (zmY+(1:Int))))
 (zmZ S1 zaa lv0 ze0 iv2 zmY))
 (zmZ S1 zaa lv0 ze0 iv2 zmY))
def zkd (P1:(Sl Line)→Int→Bool) (zaa:(Sl Gate)) (lv0:(Sl Line)) (P2:(Sl Line)→Int→Int→Bool) (ze0:(Sl Line)) (iv2:Int) (zmY:Int):Bool :=
  (cond (decide (zmY < (ze0.len : Int)))
 (decide ((0≤zmY∧zmY < (ze0.len:Int))) &&
 (decide ((0≤iv2∧iv2 < (lv0.len:Int))) &&
 (decide ((p81 (ze0.get zmY.toNat) (lv0.get iv2.toNat) zaa=true)) &&
 (cond (s81 (ze0.get zmY.toNat) (lv0.get iv2.toNat) zaa)
 (P2 ze0 iv2 (w64 (zmY+(1:Int))))
 (zm0 P1 zaa lv0 ze0 iv2 zmY)))))
 (zm0 P1 zaa lv0 ze0 iv2 zmY))
def zhK (S1:(Sl Line)→Int→(Sl Line)) (zaa:(Sl Gate)) (lv0:(Sl Line)):Nat→(Sl Line)→Int→Int→(Sl Line):=lpO (fun _ _ _=>default) (zkc S1 zaa lv0)
def zke (P1:(Sl Line)→Int→Bool) (zaa:(Sl Gate)) (lv0:(Sl Line)):Nat→(Sl Line)→Int→Int→Bool:=lpO (fun _ _ _=>false) (zkd P1 zaa lv0)
def zyF (S1:(Sl Line)→Int→(Sl Line)) (zaa:(Sl Gate)) (lv0:(Sl Line)) (ze0:(Sl Line)) (iv2:Int) (zmY:Int):(Sl Line):=zhK S1 zaa lv0 Fuel ze0 iv2 zmY
def zyG (P1:(Sl Line)→Int→Bool) (zaa:(Sl Gate)) (lv0:(Sl Line)) (ze0:(Sl Line)) (iv2:Int) (zmY:Int):Bool:=zke P1 zaa lv0 Fuel ze0 iv2 zmY
def zkf (zaa:(Sl Gate)) (lv0:(Sl Line)) (S1:(Sl Line)→Int→(Sl Line)) (zkb:(Sl Line)) (iv1:Int):(Sl Line) :=
  (cond (decide (iv1 < (lv0.len : Int)))
 (cond (decide (((s27 (lv0.get iv1.toNat) zaa).len : Int) < (zaa.len : Int)))
 (S1 zkb (w64 (iv1+(1:Int))))
 (zyF S1 zaa lv0 zkb iv1 (0:Int)))
 zkb)
def zkg (zaa:(Sl Gate)) (lv0:(Sl Line)) (P1:(Sl Line)→Int→Bool) (zkb:(Sl Line)) (iv1:Int):Bool :=
  (cond (decide (iv1 < (lv0.len : Int)))
 (decide ((0≤iv1∧iv1 < (lv0.len:Int))) &&
 (decide ((p27 (lv0.get iv1.toNat) zaa=true)) &&
 (cond (decide (((s27 (lv0.get iv1.toNat) zaa).len : Int) < (zaa.len : Int)))
 (P1 zkb (w64 (iv1+(1:Int))))
 (zyG P1 zaa lv0 zkb iv1 (0:Int)))))
 true)
def zhL (zaa:(Sl Gate)) (lv0:(Sl Line)):Nat→(Sl Line)→Int→(Sl Line):=lpO (fun _ _=>default) (zkf zaa lv0)
def zkh (zaa:(Sl Gate)) (lv0:(Sl Line)):Nat→(Sl Line)→Int→Bool:=lpO (fun _ _=>false) (zkg zaa lv0)
def zGc (zaa:(Sl Gate)) (lv0:(Sl Line)) (zkb:(Sl Line)) (iv1:Int):(Sl Line):=zhL zaa lv0 Fuel zkb iv1
def zGd (zaa:(Sl Gate)) (lv0:(Sl Line)) (zkb:(Sl Line)) (iv1:Int):Bool:=zkh zaa lv0 Fuel zkb iv1
def zGe (zaa:(Sl Gate)) (lv0:(Sl Line)):(Sl Line) :=
  (zGc zaa lv0 (⟨0,(fun _=>default)⟩:Sl Line) (0:Int))
def zGf (zaa:(Sl Gate)) (lv0:(Sl Line)):Bool :=
  (zGd zaa lv0 (⟨0,(fun _=>default)⟩:Sl Line) (0:Int))
def s33 (zaa:(Sl Gate)):(Sl Line) :=
  (zGe zaa (s80 zaa))
def p33 (zaa:(Sl Gate)):Bool :=
  (decide ((p80 zaa=true)) &&
 (zGf zaa (s80 zaa)))
end
section
variable {K:List PA→Prop} {zaa:(Sl Gate)} {av0:Int} {bv0:Int} {iv0:Int} {X0:St→Prop} {P0:Int→Int→Int→Bool} {S0:Int→Int→Int→(Int×Int×Bool)}
def zki (zaa:(Sl Gate)) (S0:Int→Int→Int→(Int×Int×Bool)) (av0:Int) (bv0:Int) (iv0:Int):(Int×Int×Bool) :=
  (cond (decide (iv0 < (zaa.len : Int)))
 (S0 (if (zaa.get iv0.toNat).Low > av0 then (zaa.get iv0.toNat).Low else av0) (if (zaa.get iv0.toNat).High < bv0 then (zaa.get iv0.toNat).High else bv0) (w64 (iv0+(1:Int))))
 (av0,bv0,(decide (av0≤bv0))))
def zkj (zaa:(Sl Gate)) (P0:Int→Int→Int→Bool) (av0:Int) (bv0:Int) (iv0:Int):Bool :=
  (cond (decide (iv0 < (zaa.len : Int)))
 (decide ((0≤iv0∧iv0 < (zaa.len:Int))) &&
 (decide ((0≤iv0∧iv0 < (zaa.len:Int))) &&
 (P0 (if (zaa.get iv0.toNat).Low > av0 then (zaa.get iv0.toNat).Low else av0) (if (zaa.get iv0.toNat).High < bv0 then (zaa.get iv0.toNat).High else bv0) (w64 (iv0+(1:Int))))))
 true)
def zkk (zaa:(Sl Gate)):Nat→Int→Int→Int→(Int×Int×Bool):=lpO (fun _ _ _=>default) (zki zaa)
def zkl (zaa:(Sl Gate)):Nat→Int→Int→Int→Bool:=lpO (fun _ _ _=>false) (zkj zaa)
def zGg (zaa:(Sl Gate)) (av0:Int) (bv0:Int) (iv0:Int):(Int×Int×Bool):=zkk zaa Fuel av0 bv0 iv0
def zGh (zaa:(Sl Gate)) (av0:Int) (bv0:Int) (iv0:Int):Bool:=zkl zaa Fuel av0 bv0 iv0
def s71 (zaa:(Sl Gate)):(Int×Int×Bool) :=
  (zGg zaa ((zaa.get 0).Low) ((zaa.get 0).High) (1:Int))
def p71 (zaa:(Sl Gate)):Bool :=
  (decide ((0≤(0:Int)∧(0:Int) < (zaa.len:Int))) &&
 (decide ((0≤(0:Int)∧(0:Int) < (zaa.len:Int))) &&
 (zGh zaa ((zaa.get 0).Low) ((zaa.get 0).High) (1:Int))))
end
section
variable {K:List PA→Prop} {zaa:(Sl Gate)}
def s21 (zaa:(Sl Gate)):Bool :=
  (cond (s22 zaa)
 ((s71 zaa).2.2)
 (decide (((s33 zaa).len:Int) > (0:Int))))
def p21 (zaa:(Sl Gate)):Bool :=
  (decide ((p22 zaa=true)) &&
 (cond (s22 zaa)
 (decide ((p71 zaa=true)) &&
 true)
 (decide ((p33 zaa=true)) &&
 true)))
end
abbrev T28:Tabs:=((Tabs.nil.addF 40 ztp).addF 73 zAU)
abbrev G28:Ctrs:=csm T28 (fun _ _=>[]) (fun _=>false)
def zLU:Ann:=⟨44,[(0,zK [1,2,4] [2,4]),(1,zK [1,2,4,5] [2,4]),(2,zK [4] [4])],
 [],
 [(2,zK [1,2,4,5] [2,4])],
 [],[]⟩
@[irreducible] def z28:=ptF Try.prog G28 zLU Try.f28
section
variable {K:List PA→Prop} {l_a0:Line} {z:Int} {dv0:Int}
def zyH (l_a0:Line) (z:Int) (dv0:Int):Frac :=
  (s40 (w64 ((w64 (l_a0.Start.Num * (w64 (dv0.tdiv l_a0.Start.Den))))+(w64 ((w64 (l_a0.Slope.Num * (w64 (dv0.tdiv l_a0.Slope.Den)))) * z)))) dv0)
def zyI (l_a0:Line) (z:Int) (dv0:Int):Bool :=
  (decide ((l_a0.Start.Den ≠ 0)) &&
 (decide ((l_a0.Slope.Den ≠ 0)) &&
 (decide ((p40 (w64 ((w64 (l_a0.Start.Num * (w64 (dv0.tdiv l_a0.Start.Den))))+(w64 ((w64 (l_a0.Slope.Num * (w64 (dv0.tdiv l_a0.Slope.Den)))) * z)))) dv0=true)) &&
 true)))
def s28 (l_a0:Line) (z:Int):Frac :=
  (zyH l_a0 z (w64 ((w64 (l_a0.Start.Den.tdiv (s73 l_a0.Start.Den l_a0.Slope.Den))) * l_a0.Slope.Den)))
def p28 (l_a0:Line) (z:Int):Bool :=
  (decide ((p73 l_a0.Start.Den l_a0.Slope.Den=true)) &&
 (decide (((s73 l_a0.Start.Den l_a0.Slope.Den) ≠ 0)) &&
 (zyI l_a0 z (w64 ((w64 (l_a0.Start.Den.tdiv (s73 l_a0.Start.Den l_a0.Slope.Den))) * l_a0.Slope.Den)))))
end
section
variable {K:List PA→Prop} {zaa:(Sl Gate)} {z:Int} {zA6:Bool} {av1:Int} {bv1:Int} {lv3:(Sl Line)} {zOn:Nat→List PV} {zA7:Int} {zA8:Int} {zm1:Int} {zm2:Int} {iv5:Int} {zm3:Int} {zm4:Int} {zm5:Int} {zm6:Int} {X5:St→Prop} {P5:Int→Int→Int→Int→Int→Bool} {S5:Int→Int→Int→Int→Int→(Frac×Frac)} {iv6:Int} {zdJ:Int} {zdK:Int} {zd4:Int} {zd5:Int} {zdU:Int} {zdV:Int} {iv7:Int} {zA9:Bool} {zBa:Int} {zBb:Int} {zkQ:Int} {zkR:Int} {iv8:Int} {zBc:Bool} {ztr:Int} {zts:Int} {zBd:Int} {zBe:Int}
def zq3 (S5:Int→Int→Int→Int→Int→(Frac×Frac)) (z:Int) (lv3:(Sl Line)) (zdU:Int) (zdV:Int) (iv8:Int) (zBc:Bool) (ztr:Int) (zts:Int) (zBd:Int) (zBe:Int):(Frac×Frac) :=
  (cond zBc
 (S5 (w64 (iv8+(1:Int))) ztr zts zdU zdV)
 (S5 (w64 (iv8+(1:Int))) ztr zts zBd zBe))
def zq4 (P5:Int→Int→Int→Int→Int→Bool) (z:Int) (lv3:(Sl Line)) (zdU:Int) (zdV:Int) (iv8:Int) (zBc:Bool) (ztr:Int) (zts:Int) (zBd:Int) (zBe:Int):Bool :=
  (cond zBc
 (P5 (w64 (iv8+(1:Int))) ztr zts zdU zdV)
 (P5 (w64 (iv8+(1:Int))) ztr zts zBd zBe))
def zyJ (S5:Int→Int→Int→Int→Int→(Frac×Frac)) (z:Int) (lv3:(Sl Line)) (zdU:Int) (zdV:Int) (iv7:Int) (zA9:Bool) (zBa:Int) (zBb:Int) (zkQ:Int) (zkR:Int):(Frac×Frac) :=
  (cond zA9
 (zq3 S5 z lv3 zdU zdV iv7 (s29 (⟨zkQ,zkR⟩:Frac) (⟨zdU,zdV⟩:Frac)) zdU zdV zkQ zkR)
 (zq3 S5 z lv3 zdU zdV iv7 (s29 (⟨zkQ,zkR⟩:Frac) (⟨zdU,zdV⟩:Frac)) zBa zBb zkQ zkR))
def zyK (P5:Int→Int→Int→Int→Int→Bool) (z:Int) (lv3:(Sl Line)) (zdU:Int) (zdV:Int) (iv7:Int) (zA9:Bool) (zBa:Int) (zBb:Int) (zkQ:Int) (zkR:Int):Bool :=
  (cond zA9
 (zq4 P5 z lv3 zdU zdV iv7 (s29 (⟨zkQ,zkR⟩:Frac) (⟨zdU,zdV⟩:Frac)) zdU zdV zkQ zkR)
 (zq4 P5 z lv3 zdU zdV iv7 (s29 (⟨zkQ,zkR⟩:Frac) (⟨zdU,zdV⟩:Frac)) zBa zBb zkQ zkR))
def zyL (S5:Int→Int→Int→Int→Int→(Frac×Frac)) (z:Int) (lv3:(Sl Line)) (iv6:Int) (zdJ:Int) (zdK:Int) (zd4:Int) (zd5:Int) (zdU:Int) (zdV:Int):(Frac×Frac) :=
  (zyJ S5 z lv3 zdU zdV iv6 (s29 (⟨zdU,zdV⟩:Frac) (⟨zdJ,zdK⟩:Frac)) zdJ zdK zd4 zd5)
def zyM (P5:Int→Int→Int→Int→Int→Bool) (z:Int) (lv3:(Sl Line)) (iv6:Int) (zdJ:Int) (zdK:Int) (zd4:Int) (zd5:Int) (zdU:Int) (zdV:Int):Bool :=
  (zyK P5 z lv3 zdU zdV iv6 (s29 (⟨zdU,zdV⟩:Frac) (⟨zdJ,zdK⟩:Frac)) zdJ zdK zd4 zd5)
def zkm (z:Int) (lv3:(Sl Line)) (S5:Int→Int→Int→Int→Int→(Frac×Frac)) (iv5:Int) (zm3:Int) (zm4:Int) (zm5:Int) (zm6:Int):(Frac×Frac) :=
  (cond (decide (iv5 < (lv3.len : Int)))
 (zyL S5 z lv3 iv5 zm3 zm4 zm5 zm6 ((s28 (lv3.get iv5.toNat) z).Num) ((s28 (lv3.get iv5.toNat) z).Den))
 ((⟨zm3,zm4⟩:Frac),(⟨zm5,zm6⟩:Frac)))
def zkn (z:Int) (lv3:(Sl Line)) (P5:Int→Int→Int→Int→Int→Bool) (iv5:Int) (zm3:Int) (zm4:Int) (zm5:Int) (zm6:Int):Bool :=
  (cond (decide (iv5 < (lv3.len : Int)))
 (decide ((0≤iv5∧iv5 < (lv3.len:Int))) &&
 (decide ((p28 (lv3.get iv5.toNat) z=true)) &&
 (zyM P5 z lv3 iv5 zm3 zm4 zm5 zm6 ((s28 (lv3.get iv5.toNat) z).Num) ((s28 (lv3.get iv5.toNat) z).Den))))
 true)
def zko (z:Int) (lv3:(Sl Line)):Nat→Int→Int→Int→Int→Int→(Frac×Frac):=lpO (fun _ _ _ _ _=>default) (zkm z lv3)
def zkp (z:Int) (lv3:(Sl Line)):Nat→Int→Int→Int→Int→Int→Bool:=lpO (fun _ _ _ _ _=>false) (zkn z lv3)
def zGi (z:Int) (lv3:(Sl Line)) (iv5:Int) (zm3:Int) (zm4:Int) (zm5:Int) (zm6:Int):(Frac×Frac):=zko z lv3 Fuel iv5 zm3 zm4 zm5 zm6
def zGj (z:Int) (lv3:(Sl Line)) (iv5:Int) (zm3:Int) (zm4:Int) (zm5:Int) (zm6:Int):Bool:=zkp z lv3 Fuel iv5 zm3 zm4 zm5 zm6
def zGk (z:Int) (lv3:(Sl Line)) (zA7:Int) (zA8:Int) (zm1:Int) (zm2:Int):(Frac×Frac) :=
  (zGi z lv3 (1:Int) zA7 zA8 zm1 zm2)
def zyN (z:Int) (lv3:(Sl Line)) (zA7:Int) (zA8:Int) (zm1:Int) (zm2:Int):Bool :=
  (zGj z lv3 (1:Int) zA7 zA8 zm1 zm2)
def zGl (z:Int) (lv3:(Sl Line)):(Frac×Frac) :=
  (zGk z lv3 ((s28 (lv3.get 0) z).Num) ((s28 (lv3.get 0) z).Den) ((s28 (lv3.get 0) z).Num) ((s28 (lv3.get 0) z).Den))
def zyO (z:Int) (lv3:(Sl Line)):Bool :=
  (decide ((0≤(0:Int)∧(0:Int) < (lv3.len:Int))) &&
 (decide ((p28 (lv3.get 0) z=true)) &&
 (decide ((0≤(0:Int)∧(0:Int) < (lv3.len:Int))) &&
 (decide ((p28 (lv3.get 0) z=true)) &&
 (zyN z lv3 ((s28 (lv3.get 0) z).Num) ((s28 (lv3.get 0) z).Den) ((s28 (lv3.get 0) z).Num) ((s28 (lv3.get 0) z).Den))))))
def zq5 (zaa:(Sl Gate)) (z:Int):(Frac×Frac) :=
  (zGl z (s33 zaa))
def zq6 (zaa:(Sl Gate)) (z:Int):Bool :=
  (decide ((p33 zaa=true)) &&
 (zyO z (s33 zaa)))
def zyP (av1:Int) (bv1:Int):(Frac×Frac) :=
  ((s40 av1 (1:Int)),(s40 bv1 (1:Int)))
def zyQ (av1:Int) (bv1:Int):Bool :=
  (decide ((p40 av1 (1:Int)=true)) &&
 (decide ((p40 bv1 (1:Int)=true)) &&
 true))
def zm7 (zaa:(Sl Gate)) (z:Int) (zA6:Bool):(Frac×Frac) :=
  (cond zA6
 (zyP ((s71 zaa).1) ((s71 zaa).2.1))
 (zq5 zaa z))
def zyR (zaa:(Sl Gate)) (z:Int) (zA6:Bool):Bool :=
  (cond zA6
 (decide ((p71 zaa=true)) &&
 (zyQ ((s71 zaa).1) ((s71 zaa).2.1)))
 (zq6 zaa z))
def s36 (zaa:(Sl Gate)) (z:Int):(Frac×Frac) :=
  (zm7 zaa z (s22 zaa))
def p36 (zaa:(Sl Gate)) (z:Int):Bool :=
  (decide ((p22 zaa=true)) &&
 (zyR zaa z (s22 zaa)))
end
def zLV : List PA → COut
  | [.one (.sl a0_n a0_s a0_g),.one (.int .i64 a1)]=>.det (IsE enc_55 3 a0_s a0_g∧p36 (⟨a0_n,zad a0_g⟩:(Sl Gate)) a1=true) [.agg [.int .i64 (((s36 (⟨a0_n,zad a0_g⟩:(Sl Gate)) a1).1).Num),.int .i64 (((s36 (⟨a0_n,zad a0_g⟩:(Sl Gate)) a1).1).Den)],.agg [.int .i64 (((s36 (⟨a0_n,zad a0_g⟩:(Sl Gate)) a1).2).Num),.int .i64 (((s36 (⟨a0_n,zad a0_g⟩:(Sl Gate)) a1).2).Den)]]
  | _=>.no
section
variable {K:List PA→Prop} {zaa:(Sl Gate)} {lv0:(Sl Line)} {zLQ:Nat→List PV} {iv1:Int} {zaK:Int} {zaT:Int} {zm8:Int} {zm9:Int} {X1:St→Prop} {P1:Int→Int→Int→Int→Int→Bool} {S1:Int→Int→Int→Int→Int→(Frac×Frac)} {iv2:Int} {zBf:Bool} {zby:Int} {zbz:Int} {zbv:Int} {zbw:Int} {iv3:Int} {zkS:Int} {zkT:Int} {ztt:Int} {ztu:Int} {iv4:Int} {zq7:Bool} {zm1:Int} {zm2:Int}
def zyS (S1:Int→Int→Int→Int→Int→(Frac×Frac)) (lv0:(Sl Line)) (zkS:Int) (zkT:Int) (iv4:Int) (zq7:Bool) (zm1:Int) (zm2:Int):(Frac×Frac) :=
  (cond zq7
 (S1 (w64 (iv4+(1:Int))) zkS zkT ((lv0.get iv4.toNat).Slope.Num) ((lv0.get iv4.toNat).Slope.Den))
 (S1 (w64 (iv4+(1:Int))) zkS zkT zm1 zm2))
def zyT (P1:Int→Int→Int→Int→Int→Bool) (lv0:(Sl Line)) (zkS:Int) (zkT:Int) (iv4:Int) (zq7:Bool) (zm1:Int) (zm2:Int):Bool :=
  (cond zq7
 (decide ((0≤iv4∧iv4 < (lv0.len:Int))) &&
 (P1 (w64 (iv4+(1:Int))) zkS zkT ((lv0.get iv4.toNat).Slope.Num) ((lv0.get iv4.toNat).Slope.Den)))
 (P1 (w64 (iv4+(1:Int))) zkS zkT zm1 zm2))
def zq8 (S1:Int→Int→Int→Int→Int→(Frac×Frac)) (lv0:(Sl Line)) (iv3:Int) (zkS:Int) (zkT:Int) (ztt:Int) (ztu:Int):(Frac×Frac) :=
  (zyS S1 lv0 zkS zkT iv3 (s29 (⟨ztt,ztu⟩:Frac) ((lv0.get iv3.toNat).Slope)) ztt ztu)
def zq9 (P1:Int→Int→Int→Int→Int→Bool) (lv0:(Sl Line)) (iv3:Int) (zkS:Int) (zkT:Int) (ztt:Int) (ztu:Int):Bool :=
  (decide ((0≤iv3∧iv3 < (lv0.len:Int))) &&
 (zyT P1 lv0 zkS zkT iv3 (s29 (⟨ztt,ztu⟩:Frac) ((lv0.get iv3.toNat).Slope)) ztt ztu))
def zyU (S1:Int→Int→Int→Int→Int→(Frac×Frac)) (lv0:(Sl Line)) (iv2:Int) (zBf:Bool) (zby:Int) (zbz:Int) (zbv:Int) (zbw:Int):(Frac×Frac) :=
  (cond zBf
 (zq8 S1 lv0 iv2 ((lv0.get iv2.toNat).Slope.Num) ((lv0.get iv2.toNat).Slope.Den) zbv zbw)
 (zq8 S1 lv0 iv2 zby zbz zbv zbw))
def zyV (P1:Int→Int→Int→Int→Int→Bool) (lv0:(Sl Line)) (iv2:Int) (zBf:Bool) (zby:Int) (zbz:Int) (zbv:Int) (zbw:Int):Bool :=
  (cond zBf
 (decide ((0≤iv2∧iv2 < (lv0.len:Int))) &&
 (zq9 P1 lv0 iv2 ((lv0.get iv2.toNat).Slope.Num) ((lv0.get iv2.toNat).Slope.Den) zbv zbw))
 (zq9 P1 lv0 iv2 zby zbz zbv zbw))
def zkq (lv0:(Sl Line)) (S1:Int→Int→Int→Int→Int→(Frac×Frac)) (iv1:Int) (zaK:Int) (zaT:Int) (zm8:Int) (zm9:Int):(Frac×Frac) :=
  (cond (decide (iv1 < (lv0.len : Int)))
 (zyU S1 lv0 iv1 (s29 ((lv0.get iv1.toNat).Slope) (⟨zaK,zaT⟩:Frac)) zaK zaT zm8 zm9)
 ((⟨zaK,zaT⟩:Frac),(⟨zm8,zm9⟩:Frac)))
def zkr (lv0:(Sl Line)) (P1:Int→Int→Int→Int→Int→Bool) (iv1:Int) (zaK:Int) (zaT:Int) (zm8:Int) (zm9:Int):Bool :=
  (cond (decide (iv1 < (lv0.len : Int)))
 (decide ((0≤iv1∧iv1 < (lv0.len:Int))) &&
 (zyV P1 lv0 iv1 (s29 ((lv0.get iv1.toNat).Slope) (⟨zaK,zaT⟩:Frac)) zaK zaT zm8 zm9))
 true)
def zks (lv0:(Sl Line)):Nat→Int→Int→Int→Int→Int→(Frac×Frac):=lpO (fun _ _ _ _ _=>default) (zkq lv0)
def zkt (lv0:(Sl Line)):Nat→Int→Int→Int→Int→Int→Bool:=lpO (fun _ _ _ _ _=>false) (zkr lv0)
def zGm (lv0:(Sl Line)) (iv1:Int) (zaK:Int) (zaT:Int) (zm8:Int) (zm9:Int):(Frac×Frac):=zks lv0 Fuel iv1 zaK zaT zm8 zm9
def zGn (lv0:(Sl Line)) (iv1:Int) (zaK:Int) (zaT:Int) (zm8:Int) (zm9:Int):Bool:=zkt lv0 Fuel iv1 zaK zaT zm8 zm9
def zGo (lv0:(Sl Line)):(Frac×Frac) :=
  (zGm lv0 (1:Int) ((lv0.get 0).Slope.Num) ((lv0.get 0).Slope.Den) ((lv0.get 0).Slope.Num) ((lv0.get 0).Slope.Den))
def zyW (lv0:(Sl Line)):Bool :=
  (decide ((0≤(0:Int)∧(0:Int) < (lv0.len:Int))) &&
 (decide ((0≤(0:Int)∧(0:Int) < (lv0.len:Int))) &&
 (zGn lv0 (1:Int) ((lv0.get 0).Slope.Num) ((lv0.get 0).Slope.Den) ((lv0.get 0).Slope.Num) ((lv0.get 0).Slope.Den))))
def s37 (zaa:(Sl Gate)):(Frac×Frac) :=
  (zGo (s33 zaa))
def p37 (zaa:(Sl Gate)):Bool :=
  (decide ((p33 zaa=true)) &&
 (zyW (s33 zaa)))
end
section
variable {K:List PA→Prop} {f:Frac}
end
abbrev T35:Tabs:=((Tabs.nil.addF 75 zto).addF 82 zAD)
abbrev G35:Ctrs:=csm T35 (fun _ _=>[]) (fun _=>false)
def zLW:Ann:=⟨26,[(0,zK [0,2,3] [2,3]),(1,zK [2,3,5,6] [2,3,5]),(2,zK [2,3,5,6,15] [2,3,5]),(3,zK [2,3,4] [2,3]),(4,zK [2,3,7,8] [2,3,7,8]),(5,zK [2,3,4] [2,3])],
 [],
 [(4,zK [2,3,5] [2,3,5])],
 [],[]⟩
@[irreducible] def z35:=ptF Try.prog G35 zLW Try.f35
section
variable {K:List PA→Prop} {zaa:(Sl Gate)} {zmw:(Sl Gate)} {zmx:(Sl straight)} {zp7:Nat→List PV} {zp8:Nat→List PV}
end
abbrev T50:Tabs:=((((Tabs.nil.addF 22 zA0).addF 29 zyp).addF 36 zLV).addF 40 ztp)
abbrev G50:Ctrs:=csm T50 (fun _ _=>[]) (fun _=>false)
def zLX:Ann:=⟨51,[(0,zK [0,3] [3]),(1,zK [0,3,19] [3]),(2,zK [4] []),(3,zK [3,5,6] [3,5,6]),(4,zK [5,6,7,8] [5,6,7,8]),(5,zK [5,6,7,8,42] [5,6,7,8]),(6,zK [4] []),(7,zK [50] []),(8,zK [4] []),(9,zK [4] [])],
 [],
 [(2,zK [0,3,19] [3]),(3,zK [0,3] [3]),(4,zK [3,5,6] [3,5,6]),(5,zK [5,6,7,8] [5,6,7,8]),(6,zK [5,6,7,8,42] [5,6,7,8]),(8,zK [50] [])],
 [],[]⟩
@[irreducible] def z50:=ptF Try.prog G50 zLX Try.f50
section
variable {K:List PA→Prop} {zaa:(Sl Gate)} {g:Gate} {zBg:Bool} {zby:Int} {zbz:Int} {zbv:Int} {zbw:Int} {zlq:Int} {zlr:Int} {zls:Int} {zlt:Int} {zq7:Bool} {zJr:Bool}
def zna (zJr:Bool):Int :=
  (cond zJr
 (3:Int)
 (2:Int))
def znb (zby:Int) (zbz:Int) (zbv:Int) (zbw:Int) (zlq:Int) (zlr:Int) (zls:Int) (zlt:Int) (zq7:Bool):Int :=
  (cond zq7
 (1:Int)
 (cond (s29 (⟨zbv, zbw⟩ : Frac) (⟨zlq, zlr⟩ : Frac))
 (zna true)
 (zna (s29 (⟨zls,zlt⟩:Frac) (⟨zby,zbz⟩:Frac)))))
def zra (zby:Int) (zbz:Int) (zbv:Int) (zbw:Int) (zlq:Int) (zlr:Int) (zls:Int) (zlt:Int):Int :=
  (cond (!(s29 (⟨zby, zbz⟩ : Frac) (⟨zlq, zlr⟩ : Frac)))
 (znb zby zbz zbv zbw zlq zlr zls zlt (!(s29 (⟨zls,zlt⟩:Frac) (⟨zbv,zbw⟩:Frac))))
 (znb zby zbz zbv zbw zlq zlr zls zlt false))
def znc (g:Gate) (zby:Int) (zbz:Int) (zbv:Int) (zbw:Int):Int :=
  (zra zby zbz zbv zbw ((s40 g.Low (1:Int)).Num) ((s40 g.Low (1:Int)).Den) ((s40 g.High (1:Int)).Num) ((s40 g.High (1:Int)).Den))
def zrb (g:Gate) (zby:Int) (zbz:Int) (zbv:Int) (zbw:Int):Bool :=
  (decide ((p40 g.Low (1:Int)=true)) &&
 (decide ((p40 g.High (1:Int)=true)) &&
 true))
def znd (zaa:(Sl Gate)) (g:Gate):Int :=
  (znc g (((s36 zaa g.Z).1).Num) (((s36 zaa g.Z).1).Den) (((s36 zaa g.Z).2).Num) (((s36 zaa g.Z).2).Den))
def zrd (zaa:(Sl Gate)) (g:Gate):Bool :=
  (decide ((p36 zaa g.Z=true)) &&
 (zrb g (((s36 zaa g.Z).1).Num) (((s36 zaa g.Z).1).Den) (((s36 zaa g.Z).2).Num) (((s36 zaa g.Z).2).Den)))
def zne (zaa:(Sl Gate)) (g:Gate) (zBg:Bool):Int :=
  (cond zBg
 (2:Int)
 (znd zaa g))
def zre (zaa:(Sl Gate)) (g:Gate) (zBg:Bool):Bool :=
  (cond zBg
 true
 (zrd zaa g))
def s50 (zaa:(Sl Gate)) (g:Gate):Int :=
  (cond (s22 zaa)
 (zne zaa g (g.Z != (zaa.get 0).Z))
 (zne zaa g false))
def p50 (zaa:(Sl Gate)) (g:Gate):Bool :=
  (decide ((p22 zaa=true)) &&
 (cond (s22 zaa)
 (decide ((0≤(0:Int)∧(0:Int) < (zaa.len:Int))) &&
 (zre zaa g (g.Z != (zaa.get 0).Z)))
 (zre zaa g false)))
end
section
variable {K:List PA→Prop} {z:Int} {x:Int} {w:Int} {y_a3:Int}
end
end Go.Proofs
namespace Go.Pm
open Go
theorem zbB {i n:Nat} (h:i < n) (hn:n≤9223372036854775807):w64 ((i:Int)+(1:Int))=((i+1:Nat):Int):=by
 rw [zaO (by omega) (by omega)];omega
theorem zGp {β : Type} {good : Nat → Bool} {bad fin : β} {finP : Bool} {n : Nat} {lpS : Nat → Int → β} {lpP : Nat → Int → Bool}
    (hS:∀ (k i:Nat),i < n→lpS (k+1) (i:Int)=cond (good i) (lpS k (w64 ((i:Int)+(1:Int)))) bad)
    (hE:∀ k,lpS (k+1) (n:Int)=fin)
    (hP:∀ (k i:Nat),i < n→lpP (k+1) (i:Int)=cond (good i) (lpP k (w64 ((i:Int)+(1:Int)))) true)
    (hPE:∀ k,lpP (k+1) (n:Int)=finP) (hn:n≤9223372036854775807) :
    ((∀ i,i < n→good i=true)→lpP Fuel 0=finP∧lpS Fuel 0=fin)∧((¬ ∀ i,i < n→good i=true)→lpP Fuel 0=true∧lpS Fuel 0=bad):=by
  have key:∀ (m k i:Nat),i+m=n→m < k→((∀ j,i≤j→j < n→good j=true)→lpP k (i:Int)=finP∧lpS k (i:Int)=fin)∧((¬ ∀ j,i≤j→j < n→good j=true)→lpP k (i:Int)=true∧lpS k (i:Int)=bad):=by
    intro m
    induction m with
    | zero =>
      intro k i hi hk
      obtain ⟨k,rfl⟩:∃ k',k=k'+1:=⟨k - 1,by omega⟩
      have:i=n:=by omega
      subst this
      rw [hE,hPE]
      exact ⟨fun _=>⟨rfl,rfl⟩,fun h=>absurd (fun j h1 h2=>absurd h2 (by omega)) h⟩
    | succ m ih =>
      intro k i hi hk
      obtain ⟨k,rfl⟩:∃ k',k=k'+1:=⟨k - 1,by omega⟩
      rw [hS k i (by omega),hP k i (by omega),zbB (n:=n) (by omega) hn]
      obtain ⟨h1,h2⟩:=ih k (i+1) (by omega) (by omega)
      cases hg:good i
      · refine ⟨fun h => ?_, fun _ => ⟨rfl, rfl⟩⟩
        have:=h i (Nat.le_refl _) (by omega)
        rw [hg] at this;cases this
      · refine ⟨fun h => h1 fun j a b => h j (by omega) b, fun h => h2 fun h' => h fun j a b => ?_⟩
        by_cases hji:j=i
        · rw [hji];exact hg
        · exact h' j (by omega) b
  have:=key n Fuel 0 (by omega) (by simp only [Fuel];omega)
  simpa using this
def zhM {σ : Type} (step : Nat → σ → σ) : Nat → Nat → σ → σ
  | 0,_,s=>s
  | m+1,i,s=>zhM step m (i+1) (step i s)
theorem zku {σ β : Type} {step : Nat → σ → σ} {E : σ → β} {EP : σ → Bool} {Inv : Nat → σ → Prop} {a n : Nat} {lpS : Nat → σ → Int → β} {lpP : Nat → σ → Int → Bool}
    (hS:∀ (k i:Nat) (s:σ),a≤i→i < n→Inv i s→lpS (k+1) s (i:Int)=lpS k (step i s) (w64 ((i:Int)+(1:Int))))
    (hE:∀ k s,lpS (k+1) s (n:Int)=E s)
    (hP:∀ (k i:Nat) (s:σ),a≤i→i < n→Inv i s→lpP (k+1) s (i:Int)=lpP k (step i s) (w64 ((i:Int)+(1:Int))))
    (hPE:∀ k s,lpP (k+1) s (n:Int)=EP s)
    (hI:∀ i s,a≤i→i < n→Inv i s→Inv (i+1) (step i s)) (ha:a≤n) (hn:n≤9223372036854775807) (s:σ) (h0:Inv a s) :
    lpP Fuel s (a:Int)=EP (zhM step (n - a) a s)∧lpS Fuel s (a:Int)=E (zhM step (n - a) a s):=by
  have key:∀ (m k i:Nat) (s:σ),a≤i→i+m=n→m < k→Inv i s→lpP k s (i:Int)=EP (zhM step m i s)∧lpS k s (i:Int)=E (zhM step m i s):=by
    intro m
    induction m with
    | zero =>
      intro k i s h1 hi hk _
      obtain ⟨k,rfl⟩:∃ k',k=k'+1:=⟨k - 1,by omega⟩
      have:i=n:=by omega
      subst this
      rw [hE,hPE]
      exact ⟨rfl,rfl⟩
    | succ m ih =>
      intro k i s h1 hi hk hs
      obtain ⟨k,rfl⟩:∃ k',k=k'+1:=⟨k - 1,by omega⟩
      rw [hS k i s h1 (by omega) hs,hP k i s h1 (by omega) hs,zbB (n:=n) (by omega) hn]
      exact ih k (i+1) (step i s) (by omega) (by omega) (by omega) (hI i s h1 (by omega) hs)
  exact key (n - a) Fuel a s (Nat.le_refl _) (by omega) (by simp only [Fuel];omega) h0
end Go.Pm
namespace Go.Proofs
open Go Go.Pm
set_option maxRecDepth 100000
theorem zst (n a b:Int):s70 n a b=decide (a≤n∧n≤b):=by
 unfold s70;by_cases h:n ≥ a
 ·rw [decide_eq_true h,cond_true];exact decide_eq_decide.2 ⟨fun k=>⟨h,k⟩,fun k=>k.2⟩
 ·rw [decide_eq_false h,cond_false];exact (decide_eq_false fun k=>h k.1).symm
theorem zow (n a b:Int):s74 n a b=decide (a≤n∧n≤b):=zst n a b
def zdf (g:Gate):Prop:=(0≤g.Z∧g.Z≤100000)∧-1000000≤g.Low∧g.Low≤g.High∧g.High≤1000000
def zau (l:Sl Gate):Prop:=(∀ i,i < l.len→zdf (l.get i))∧1≤l.len∧l.len≤24
theorem zfL (a b:Bool):cond a b false=(a && b):=by cases a <;> rfl
theorem zyX (g:Gate):s87 g=true↔zdf g:=by
 unfold s87 zdf
 rw [zow,zfL,zfL,zfL,Bool.and_eq_true,Bool.and_eq_true,Bool.and_eq_true,decide_eq_true_eq,decide_eq_true_eq,decide_eq_true_eq,decide_eq_true_eq]
theorem zyY (g:Gate):s49 g=true↔zdf g:=by
 unfold s49 zdf
 rw [zst,zst,zfL,zfL,Bool.and_eq_true,Bool.and_eq_true,decide_eq_true_eq,decide_eq_true_eq,decide_eq_true_eq]
 omega
theorem zyZ (l:Sl Gate) (hn:l.len≤9223372036854775807):p64 l=true∧(s64 l=true↔zau l):=by
  have := zrU (good := fun i => s87 (l.get i)) (fin := s74 (l.len : Int) 1 24) (n := l.len) (lpS := zhs l) (lpP := zht l)
    (fun k i hi=>by
      show zhq l (zhs l k) (i:Int)=_
      generalize zhs l k=S
      unfold zhq zpD
      rw [decide_eq_true (show (i:Int) < (l.len:Int) by omega),cond_true,Int.toNat_natCast]
      cases s87 (l.get i) <;> rfl)
    (fun k=>by
      show zhq l (zhs l k) (l.len:Int)=_
      unfold zhq
      rw [decide_eq_false (show ¬ (l.len:Int) < (l.len:Int) by omega),cond_false])
    (fun k i hi=>by
      show zhr l (zht l k) (i:Int)=_
      generalize zht l k=S
      unfold zhr zpE
      rw [decide_eq_true (show (i:Int) < (l.len:Int) by omega),cond_true,Int.toNat_natCast,decide_eq_true (show 0≤(i:Int)∧(i:Int) < (l.len:Int) by omega),Bool.true_and]
      cases s87 (l.get i) <;> rfl)
    (fun k=>by
      show zhr l (zht l k) (l.len:Int)=_
      unfold zhr
      rw [decide_eq_false (show ¬ (l.len:Int) < (l.len:Int) by omega),cond_false])
    hn
  refine ⟨this.1,this.2.trans ?_⟩
  rw [zow,decide_eq_true_eq]
  exact ⟨fun k=>⟨fun i hi=>(zyX _).1 (k.1 i hi),by omega,by omega⟩,fun k=>⟨fun i hi=>(zyX _).2 (k.1 i hi),by have:=k.2;omega⟩⟩
theorem zy0 (l:Sl Gate) (hn:l.len≤9223372036854775807):p20 l=true∧(s20 l=true↔zau l):=by
  have := zrU (good := fun i => s49 (l.get i)) (fin := s70 (l.len : Int) 1 24) (n := l.len) (lpS := zhB l) (lpP := zhC l)
    (fun k i hi=>by
      show zhz l (zhB l k) (i:Int)=_
      generalize zhB l k=S
      unfold zhz zqJ
      rw [decide_eq_true (show (i:Int) < (l.len:Int) by omega),cond_true,Int.toNat_natCast]
      cases s49 (l.get i) <;> rfl)
    (fun k=>by
      show zhz l (zhB l k) (l.len:Int)=_
      unfold zhz
      rw [decide_eq_false (show ¬ (l.len:Int) < (l.len:Int) by omega),cond_false])
    (fun k i hi=>by
      show zhA l (zhC l k) (i:Int)=_
      generalize zhC l k=S
      unfold zhA zqK
      rw [decide_eq_true (show (i:Int) < (l.len:Int) by omega),cond_true,Int.toNat_natCast,decide_eq_true (show 0≤(i:Int)∧(i:Int) < (l.len:Int) by omega),Bool.true_and]
      cases s49 (l.get i) <;> rfl)
    (fun k=>by
      show zhA l (zhC l k) (l.len:Int)=_
      unfold zhA
      rw [decide_eq_false (show ¬ (l.len:Int) < (l.len:Int) by omega),cond_false])
    hn
  refine ⟨this.1,this.2.trans ?_⟩
  rw [zst,decide_eq_true_eq]
  exact ⟨fun k=>⟨fun i hi=>(zyY _).1 (k.1 i hi),by omega,by omega⟩,fun k=>⟨fun i hi=>(zyY _).2 (k.1 i hi),by have:=k.2;omega⟩⟩
theorem zJs (l:Sl Gate) (hn:l.len≤9223372036854775807):s64 l=s20 l :=
 Bool.eq_iff_iff.2 ((zyZ l hn).2.trans (zy0 l hn).2.symm)
-- the greatest common divisor
theorem zy1:∀ (k:Nat) (a b:Int),0≤a→0≤b→b < (k:Int) →
  (zis k a b=true∧zir k a b=(Int.gcd a b:Int))∧(zmB k a b=true∧zmA k a b=(Int.gcd a b:Int)):=by
 intro k
 induction k with
 | zero=>intro a b _ h1 h2;omega
 | succ k ih =>
  intro a b ha hb hk
  show (ziq (zis k) a b=true∧zio (zir k) a b=_)∧(zmz (zmB k) a b=true∧zmy (zmA k) a b=_)
  unfold ziq zio zmz zmy
  by_cases h0:b=0
  ·subst h0
   simp [Int.natAbs_of_nonneg ha]
  ·have hb0 : b > 0 := by omega
   have e1:(b != (0:Int))=true:=by simpa using h0
   have m0:0≤a.tmod b:=Int.tmod_nonneg b ha
   have m1:a.tmod b < b:=Int.tmod_lt_of_pos a hb0
   have g:Int.gcd b (a.tmod b)=Int.gcd a b:=by
    obtain ⟨m,rfl⟩:=Int.eq_ofNat_of_zero_le ha
    obtain ⟨n,rfl⟩:=Int.eq_ofNat_of_zero_le hb
    show Nat.gcd n (m % n)=Nat.gcd m n
    rw [Nat.gcd_comm m n,Nat.gcd_rec n m,Nat.gcd_comm]
   obtain ⟨⟨i1,i2⟩,i3,i4⟩:=ih b (a.tmod b) hb m0 (by omega)
   rw [decide_eq_true hb0,e1,decide_eq_true (show b ≠ 0 from h0),cond_true,cond_true,cond_true,cond_true,Bool.true_and,Bool.true_and,i1,i2,i3,i4,g]
   exact ⟨⟨rfl,rfl⟩,rfl,rfl⟩
theorem zGq (a b:Int) (ha:0≤a) (hb:0≤b) (hk:b≤9223372036854775807):zJ0 a b=true∧zDf a b=(Int.gcd a b:Int) :=
 (zy1 Fuel a b ha hb (by simp only [Fuel];omega)).1
theorem zCp (a b:Int) (ha:0≤a) (hb:0≤b) (hk:b≤9223372036854775807):p73 a b=true∧s73 a b=(Int.gcd a b:Int) :=
 (zy1 Fuel a b ha hb (by simp only [Fuel];omega)).2
-- the order of equal lists
end Go.Proofs
namespace Go.Proofs
open Go Go.Pm
set_option maxRecDepth 100000
theorem zy2 {σ : Type} {step : Nat → σ → σ} {Inv : Nat → σ → Prop} {n : Nat} (hI : ∀ i s, i < n → Inv i s → Inv (i + 1) (step i s)) :
    ∀ (m i:Nat) (s:σ),i+m=n→Inv i s→Inv n (zhM step m i s):=by
  intro m
  induction m with
  | zero => intro i s h hs; have : i = n := by omega
            subst this;exact hs
  | succ m ih=>intro i s h hs;exact ih (i+1) (step i s) (by omega) (hI i s (by omega) hs)
def addI (l:Line) (zaa:Sl Gate) (i:Nat) (v:Sl Int):Sl Int:=cond (s72 l (zaa.get i)) (⟨v.len+1,zdt v.len v.get (fun _=>(i:Int))⟩:Sl Int) v
def zJ7 (l:Line) (zaa:Sl Gate):Sl Int:=zhM (addI l zaa) zaa.len 0 (⟨0,fun _=>default⟩:Sl Int)
theorem zsu (l:Line) (zaa:Sl Gate) (i:Nat) (v:Sl Int) (h:v.len≤i):(addI l zaa i v).len≤i+1:=by
 unfold addI;cases s72 l (zaa.get i)
 ·exact Nat.le_succ_of_le h
 ·exact Nat.succ_le_succ h
theorem zJt (l:Line) (zaa:Sl Gate) (hn:zaa.len≤40):p27 l zaa=true∧s27 l zaa=zJ7 l zaa:=by
  have := zku (σ := Sl Int) (step := addI l zaa) (E := id) (EP := fun _ => true) (Inv := fun i v => v.len ≤ i) (a := 0) (n := zaa.len) (lpS := fun k v i => zj3 l zaa k i v) (lpP := fun k v i => zj4 l zaa k i v)
    (fun k i v _ hi _=>by
      show zj1 l zaa (zj3 l zaa k) (i:Int) v=_
      generalize zj3 l zaa k=S
      unfold zj1 zyy addI
      rw [decide_eq_true (show (i:Int) < (zaa.len:Int) by omega),cond_true,Int.toNat_natCast]
      cases s72 l (zaa.get i) <;> rfl)
    (fun k v=>by
      show zj1 l zaa (zj3 l zaa k) (zaa.len:Int) v=_
      unfold zj1
      rw [decide_eq_false (show ¬ (zaa.len:Int) < (zaa.len:Int) by omega),cond_false];rfl)
    (fun k i v _ hi hv=>by
      show zj2 l zaa (zj4 l zaa k) (i:Int) v=_
      generalize zj4 l zaa k=S
      unfold zj2 zyz addI
      rw [decide_eq_true (show (i:Int) < (zaa.len:Int) by omega),cond_true,Int.toNat_natCast,decide_eq_true (show 0≤(i:Int)∧(i:Int) < (zaa.len:Int) by omega),decide_eq_true (show (v.len+1) * 8≤140737488355328∧v.len+1≤9223372036854775807 by omega)]
      cases s72 l (zaa.get i) <;> rfl)
    (fun k v=>by
      show zj2 l zaa (zj4 l zaa k) (zaa.len:Int) v=_
      unfold zj2
      rw [decide_eq_false (show ¬ (zaa.len:Int) < (zaa.len:Int) by omega),cond_false])
    (fun i v _ _ h=>zsu l zaa i v h) (Nat.zero_le _) (by omega) (⟨0,fun _=>default⟩:Sl Int) (Nat.le_refl _)
  exact this
end Go.Proofs
namespace Go.Proofs
open Go Go.Pm
set_option maxRecDepth 100000
end Go.Proofs
namespace Go.Proofs
open Go Go.Pm
set_option maxRecDepth 100000
def red (num den:Int):Frac:=⟨num.tdiv (Int.gcd num den:Int),den.tdiv (Int.gcd num den:Int)⟩
theorem zCq (num:Int):(if -num > num then -num else num)=(num.natAbs:Int):=by split <;> omega
theorem zy3 (num den:Int):Int.gcd (num.natAbs:Int) den=Int.gcd num den:=by
 unfold Int.gcd;rw [Int.natAbs_natCast]
theorem zce {num den:Int} (hd:0 < den):0 < (Int.gcd num den:Int):=by
 have:Int.gcd num den ≠ 0:=fun h=>by have:=(Int.gcd_eq_zero_iff.1 h).2;omega
 omega
theorem zMG (num den:Int):∃ a,num=(Int.gcd num den:Int) * a:=Int.gcd_dvd_left num den
theorem zMH (num den:Int):∃ a,den=(Int.gcd num den:Int) * a:=Int.gcd_dvd_right num den
theorem zdR {num den:Int} (hd:0 < den):(Int.gcd num den:Int) * (red num den).Num=num:=by
 have hg:=zce (num:=num) hd
 obtain ⟨a,ha⟩:=zMG num den
 show (Int.gcd num den:Int) * num.tdiv (Int.gcd num den:Int)=num
 generalize (Int.gcd num den:Int)=g at ha hg ⊢
 rw [ha,Int.mul_tdiv_cancel_left _ (by omega)]
theorem zda {num den:Int} (hd:0 < den):(Int.gcd num den:Int) * (red num den).Den=den:=by
 have hg:=zce (num:=num) hd
 obtain ⟨a,ha⟩:=zMH num den
 show (Int.gcd num den:Int) * den.tdiv (Int.gcd num den:Int)=den
 generalize (Int.gcd num den:Int)=g at ha hg ⊢
 rw [ha,Int.mul_tdiv_cancel_left _ (by omega)]
theorem zcI {num den:Int} (hd:0 < den):0 < (red num den).Den:=by
 have h1:=zda (num:=num) hd
 have hg:=zce (num:=num) hd
 rcases Int.lt_or_le 0 (red num den).Den with h | h
 ·exact h
 ·have := Int.mul_le_mul_of_nonneg_left h (Int.le_of_lt hg)
  rw [h1,Int.mul_zero] at this
  omega
theorem zkv {num den:Int} (hd:0 < den):(red num den).Den≤den:=by
 have h1:=zda (num:=num) hd
 have hg:=zce (num:=num) hd
 have:=Int.mul_le_mul_of_nonneg_right (show (1:Int)≤(Int.gcd num den:Int) by omega) (Int.le_of_lt (zcI (num:=num) hd))
 omega
theorem zgo {num den:Int} (hd:0 < den) : -(num.natAbs:Int)≤(red num den).Num∧(red num den).Num≤(num.natAbs:Int):=by
 have h1:=zdR (num:=num) hd
 have hg:=zce (num:=num) hd
 have h2:num.natAbs=(Int.gcd num den) * (red num den).Num.natAbs:=by
  have:=congrArg Int.natAbs h1
  rw [Int.natAbs_mul] at this
  simpa using this.symm
 have h3:(red num den).Num.natAbs≤num.natAbs:=by
  rw [h2];exact Nat.le_mul_of_pos_left _ (by omega)
 omega
theorem zy4 {num den:Int} (hd:0 < den):Int.gcd (red num den).Num (red num den).Den=1:=by
 have h1:=zdR (num:=num) hd
 have h2:=zda (num:=num) hd
 have hg:=zce (num:=num) hd
 have h3:Int.gcd ((Int.gcd num den:Int) * (red num den).Num) ((Int.gcd num den:Int) * (red num den).Den)=Int.gcd num den * Int.gcd (red num den).Num (red num den).Den:=by
  rw [Int.gcd_mul_left];simp
 rw [h1,h2] at h3
 have h4:Int.gcd num den * 1=Int.gcd num den * Int.gcd (red num den).Num (red num den).Den:=by rw [Nat.mul_one];exact h3
 exact (Nat.eq_of_mul_eq_mul_left (by omega) h4).symm
theorem zy5 {a b c d:Int} (hb:0 < b) (hd:0 < d):red a b=red c d↔a * d=c * b:=by
 have a1:=zdR (num:=a) hb
 have a2:=zda (num:=a) hb
 have c1:=zdR (num:=c) hd
 have c2:=zda (num:=c) hd
 constructor
 ·intro h
  rw [h] at a1 a2
  generalize hG:(Int.gcd a b:Int)=G at a1 a2
  generalize hK:(Int.gcd c d:Int)=K at c1 c2
  generalize (red c d).Num=x at a1 c1
  generalize (red c d).Den=y at a2 c2
  subst a1;subst a2;subst c1;subst c2
  ac_rfl
 ·intro h
  have ga:=zy4 (num:=a) hb
  have gc:=zy4 (num:=c) hd
  have pa:=zcI (num:=a) hb
  have pc:=zcI (num:=c) hd
  have hG:=zce (num:=a) hb
  have hK:=zce (num:=c) hd
  -- cross products of the lowest forms
  have hx:(red a b).Num * (red c d).Den=(red c d).Num * (red a b).Den:=by
   have e:((Int.gcd a b:Int) * (Int.gcd c d:Int)) * ((red a b).Num * (red c d).Den)=((Int.gcd a b:Int) * (Int.gcd c d:Int)) * ((red c d).Num * (red a b).Den):=by
    have l1:((Int.gcd a b:Int) * (Int.gcd c d:Int)) * ((red a b).Num * (red c d).Den)=((Int.gcd a b:Int) * (red a b).Num) * ((Int.gcd c d:Int) * (red c d).Den):=by
     generalize (Int.gcd a b:Int)=G;generalize (Int.gcd c d:Int)=K
     ac_rfl
    have l2:((Int.gcd a b:Int) * (Int.gcd c d:Int)) * ((red c d).Num * (red a b).Den)=((Int.gcd c d:Int) * (red c d).Num) * ((Int.gcd a b:Int) * (red a b).Den):=by
     generalize (Int.gcd a b:Int)=G;generalize (Int.gcd c d:Int)=K
     ac_rfl
    rw [l1,l2,a1,a2,c1,c2];exact h
   exact Int.eq_of_mul_eq_mul_left (by have:=Int.mul_pos hG hK;omega) e
  have hx':=congrArg Int.natAbs hx
  rw [Int.natAbs_mul,Int.natAbs_mul] at hx'
  have ga':Nat.Coprime (red a b).Den.natAbs (red a b).Num.natAbs:=(Nat.gcd_comm _ _).trans ga
  have gc':Nat.Coprime (red c d).Den.natAbs (red c d).Num.natAbs:=(Nat.gcd_comm _ _).trans gc
  have d1:(red a b).Den ∣ (red c d).Den:=Int.natAbs_dvd_natAbs.1 (ga'.dvd_of_dvd_mul_left ⟨(red c d).Num.natAbs,by rw [hx',Nat.mul_comm]⟩)
  have d2:(red c d).Den ∣ (red a b).Den:=Int.natAbs_dvd_natAbs.1 (gc'.dvd_of_dvd_mul_left ⟨(red a b).Num.natAbs,by rw [← hx',Nat.mul_comm]⟩)
  have hden:(red a b).Den=(red c d).Den:=Int.le_antisymm (Int.le_of_dvd pc d1) (Int.le_of_dvd pa d2)
  rw [← hden] at hx
  have hnum:=Int.eq_of_mul_eq_mul_right (by omega) hx
  cases h1:red a b;cases h2:red c d
  rw [h1,h2] at hden hnum
  simp only at hden hnum
  rw [hden,hnum]
theorem zh3 {num den:Int} (h1 : -4611686018427387904≤num) (h2:num≤4611686018427387904) (hd:0 < den) (hd2:den≤4611686018427387904):p89 num den=true∧s89 num den=red num den:=by
 have e:w64 (0 - num) = -num:=by rw [zaO (by omega) (by omega)];omega
 obtain ⟨g1,g2⟩:=zGq (num.natAbs:Int) den (by omega) (by omega) (by omega)
 have hg:=zce (num:=num) hd
 have r1:=zgo (num:=num) hd
 have r2:=zkv (num:=num) hd
 have r3:=zcI (num:=num) hd
 unfold p89 s89
 rw [e,zCq,g1,g2,zy3]
 have w1:w64 (num.tdiv (Int.gcd num den:Int))=(red num den).Num:=zaO (by show _≤(red num den).Num;omega) (by show (red num den).Num≤_;omega)
 have w2:w64 (den.tdiv (Int.gcd num den:Int))=(red num den).Den:=zaO (by show _≤(red num den).Den;omega) (by show (red num den).Den≤_;omega)
 rw [w1,w2,decide_eq_true (show (Int.gcd num den:Int) ≠ 0 by omega)]
 exact ⟨by simp only [decide_true,Bool.and_self],by cases red num den;simp only⟩
theorem zeq {num den:Int} (h1 : -4611686018427387904≤num) (h2:num≤4611686018427387904) (hd:0 < den) (hd2:den≤4611686018427387904):p40 num den=true∧s40 num den=red num den:=by
 have e:w64 (0 - num) = -num:=by rw [zaO (by omega) (by omega)];omega
 obtain ⟨g1,g2⟩:=zCp (num.natAbs:Int) den (by omega) (by omega) (by omega)
 have hg:=zce (num:=num) hd
 have r1:=zgo (num:=num) hd
 have r2:=zkv (num:=num) hd
 have r3:=zcI (num:=num) hd
 unfold p40 s40
 rw [e,zCq,g1,g2,zy3]
 have w1:w64 (num.tdiv (Int.gcd num den:Int))=(red num den).Num:=zaO (by show _≤(red num den).Num;omega) (by show (red num den).Num≤_;omega)
 have w2:w64 (den.tdiv (Int.gcd num den:Int))=(red num den).Den:=zaO (by show _≤(red num den).Den;omega) (by show (red num den).Den≤_;omega)
 rw [w1,w2,decide_eq_true (show (Int.gcd num den:Int) ≠ 0 by omega)]
 exact ⟨by simp only [decide_true,Bool.and_self],by cases red num den;simp only⟩
end Go.Proofs
namespace Go.Proofs
open Go Go.Pm
set_option maxRecDepth 100000
theorem zkH {x y X Y:Int} (h1 : -X≤x) (h2:x≤X) (h3:0≤y) (h4:y≤Y) : -(X * Y)≤x * y∧x * y≤X * Y:=by
 have hX:0≤X:=by omega
 have a:=Int.mul_le_mul_of_nonneg_right h2 h3
 have b:=Int.mul_le_mul_of_nonneg_left h4 hX
 have c:=Int.mul_le_mul_of_nonneg_right h1 h3
 rw [Int.neg_mul] at c
 omega
def thr (z p y q:Int):straight:=if z > y then ⟨p - q,q * z - p * y,z - y⟩ else ⟨q - p,p * y - q * z,y - z⟩
def toL (s:straight):Line:=⟨red s.slope s.den,red s.start s.den⟩
theorem znf {z p y q:Int} (hz:0≤z∧z≤100000) (hy:0≤y∧y≤100000) (hp : -1000000≤p∧p≤1000000) (hq : -1000000≤q∧q≤1000000):zkF z p y q=thr z p y q:=by
 have b1:=zkH hp.1 hp.2 hy.1 hy.2
 have b2:=zkH hq.1 hq.2 hz.1 hz.2
 unfold zkF zit thr
 rw [zaO (x:=p * y) (by omega) (by omega),zaO (x:=q * z) (by omega) (by omega)]
 by_cases h:z > y
 ·rw [decide_eq_true h,cond_true,if_pos h,zaO (by omega) (by omega),zaO (by omega) (by omega),zaO (by omega) (by omega)]
 ·rw [decide_eq_false h,cond_false,if_neg h,zaO (by omega) (by omega),zaO (by omega) (by omega),zaO (by omega) (by omega)]
theorem zJu {z p y q:Int} (hz:0≤z∧z≤100000) (hy:0≤y∧y≤100000) (hp : -1000000≤p∧p≤1000000) (hq : -1000000≤q∧q≤1000000) (hn:z ≠ y):p26 z p y q=true∧s26 z p y q=toL (thr z p y q):=by
 have b1:=zkH hp.1 hp.2 hy.1 hy.2
 have b2:=zkH hq.1 hq.2 hz.1 hz.2
 unfold p26 s26 zq2 zq1 thr toL
 rw [zaO (x:=p * y) (by omega) (by omega),zaO (x:=q * z) (by omega) (by omega)]
 by_cases h:z > y
 ·rw [decide_eq_true (show y < z from h), cond_true, cond_true, if_pos h, zaO (x := p - q) (by omega) (by omega), zaO (x := z - y) (by omega) (by omega), zaO (x := q * z - p * y) (by omega) (by omega)]
  obtain ⟨c1,c2⟩:=zeq (num:=p - q) (den:=z - y) (by omega) (by omega) (by omega) (by omega)
  obtain ⟨d1,d2⟩:=zeq (num:=q * z - p * y) (den:=z - y) (by omega) (by omega) (by omega) (by omega)
  rw [c1,c2,d1,d2]
  exact ⟨by simp only [decide_true,Bool.and_self],rfl⟩
 ·rw [decide_eq_false (show ¬ y < z from h), cond_false, cond_false, if_neg h, zaO (x := q - p) (by omega) (by omega), zaO (x := y - z) (by omega) (by omega), zaO (x := p * y - q * z) (by omega) (by omega)]
  obtain ⟨c1,c2⟩:=zeq (num:=q - p) (den:=y - z) (by omega) (by omega) (by omega) (by omega)
  obtain ⟨d1,d2⟩:=zeq (num:=p * y - q * z) (den:=y - z) (by omega) (by omega) (by omega) (by omega)
  rw [c1,c2,d1,d2]
  exact ⟨by simp only [decide_true,Bool.and_self],rfl⟩
def zox (a b:Gate):List straight:=if a.Z=b.Z then [] else [thr a.Z a.Low b.Z b.Low,thr a.Z a.Low b.Z b.High,thr a.Z a.High b.Z b.Low,thr a.Z a.High b.Z b.High]
def zoy (g : Sl Gate) (i : Nat) : Nat → Nat → List straight
  | 0,_=>[]
  | m+1,k=>zox (g.get i) (g.get k) ++ zoy g i m (k+1)
def zzw (g : Sl Gate) : Nat → Nat → List straight
  | 0,_=>[]
  | m+1,i=>zoy g i (g.len - (i+1)) (i+1) ++ zzw g m (i+1)
def cst (g:Sl Gate):List straight:=zzw g g.len 0
theorem zd8 {g:Gate} (h:zdf g) : -1000000≤g.Low∧g.Low≤1000000:=⟨h.2.1,by have:=h.2;omega⟩
theorem zeQ {g:Gate} (h:zdf g) : -1000000≤g.High∧g.High≤1000000:=⟨by have:=h.2;omega,h.2.2.2⟩
theorem zLY (g : Sl Gate) (G : zau g) (i : Nat) (hi : i < g.len) (sl : Sl Gate) (hs : sl.len = g.len - (i + 1)) (hg : ∀ x, sl.get x = g.get (x + (i + 1)))
    (S0:Int→List straight) (P0:Int→Bool):∀ (m k j:Nat),j+m=sl.len→m < k →
    zdl P0 ⟨g⟩ k (i:Int) sl (sl.len:Int) (j:Int) (g.get i).Z (g.get i).Low (g.get i).High=P0 ((i+1:Nat):Int) ∧
    zdk S0 ⟨g⟩ k (i:Int) sl (sl.len:Int) (j:Int) (g.get i).Z (g.get i).Low (g.get i).High=zoy g i m (j+(i+1)) ++ S0 ((i+1:Nat):Int):=by
  have hl:=G.2.2
  intro m
  induction m with
  | zero =>
    intro k j hj hk
    obtain ⟨k,rfl⟩:∃ k',k=k'+1:=⟨k - 1,by omega⟩
    show zeH P0 ⟨g⟩ (zdl P0 ⟨g⟩ k) _ _ _ _ _ _ _=_∧zeG S0 ⟨g⟩ (zdk S0 ⟨g⟩ k) _ _ _ _ _ _ _=_
    unfold zeH zeG
    rw [decide_eq_false (show ¬ (j:Int) < (sl.len:Int) by omega),cond_false,cond_false,zbB (n:=g.len) hi (by omega)]
    exact ⟨rfl,rfl⟩
  | succ m ih =>
    intro k j hj hk
    obtain ⟨k,rfl⟩:∃ k',k=k'+1:=⟨k - 1,by omega⟩
    obtain ⟨i1,i2⟩:=ih k (j+1) (by omega) (by omega)
    show zeH P0 ⟨g⟩ (zdl P0 ⟨g⟩ k) _ _ _ _ _ _ _=_∧zeG S0 ⟨g⟩ (zdk S0 ⟨g⟩ k) _ _ _ _ _ _ _=zoy g i (m+1) (j+(i+1)) ++ _
    generalize zdl P0 ⟨g⟩ k=P at i1
    generalize zdk S0 ⟨g⟩ k=S at i2
    unfold zeH zeG
    have gi:=G.1 i hi
    have gk:=G.1 (j+(i+1)) (by omega)
    rw [decide_eq_true (show (j:Int) < (sl.len:Int) by omega),decide_eq_true (show 0≤(j:Int)∧(j:Int) < (sl.len:Int) by omega),cond_true,cond_true,Bool.true_and,Int.toNat_natCast,hg,
      zbB (n:=sl.len) (by omega) (by omega),i1,i2,znf gi.1 gk.1 (zd8 gi) (zd8 gk),znf gi.1 gk.1 (zd8 gi) (zeQ gk),znf gi.1 gk.1 (zeQ gi) (zd8 gk),znf gi.1 gk.1 (zeQ gi) (zeQ gk)]
    show _∧_=(zox (g.get i) (g.get (j+(i+1))) ++ zoy g i m (j+(i+1)+1)) ++ _
    rw [show j+1+(i+1)=j+(i+1)+1 by omega]
    unfold zox
    by_cases hz:(g.get i).Z=(g.get (j+(i+1))).Z
    · rw [if_pos hz, show ((g.get i).Z == (g.get (j + (i + 1))).Z) = true by simpa using hz]
      exact ⟨rfl,rfl⟩
    · rw [if_neg hz, show ((g.get i).Z == (g.get (j + (i + 1))).Z) = false by simpa using hz]
      exact ⟨rfl,rfl⟩
theorem zGr (g:Sl Gate) (G:zau g):zDI ⟨g⟩=true∧zB1 ⟨g⟩=cst g:=by
 have hl:=G.2.2
 have key:∀ (m k i:Nat),i+m=g.len→m < k→zdn ⟨g⟩ k (i:Int)=true∧zdm ⟨g⟩ k (i:Int)=zzw g m i:=by
  intro m
  induction m with
  | zero =>
   intro k i hi hk
   obtain ⟨k,rfl⟩:∃ k',k=k'+1:=⟨k - 1,by omega⟩
   show zeJ ⟨g⟩ (zdn ⟨g⟩ k) _=_∧zeI ⟨g⟩ (zdm ⟨g⟩ k) _=_
   unfold zeJ zeI
   rw [decide_eq_false (show ¬ (i:Int) < (g.len:Int) by omega),cond_false,cond_false]
   exact ⟨rfl,rfl⟩
  | succ m ih =>
   intro k i hi hk
   obtain ⟨k,rfl⟩:∃ k',k=k'+1:=⟨k - 1,by omega⟩
   obtain ⟨i1,i2⟩:=ih k (i+1) (by omega) (by omega)
   show zeJ ⟨g⟩ (zdn ⟨g⟩ k) _=_∧zeI ⟨g⟩ (zdm ⟨g⟩ k) _=zoy g i (g.len - (i+1)) (i+1) ++ zzw g m (i+1)
   generalize zdn ⟨g⟩ k=P at i1
   generalize zdm ⟨g⟩ k=S at i2
   unfold zeJ zeI zmc zmb
   rw [zbB (n:=g.len) (by omega) (by omega)]
   rw [decide_eq_true (show (i:Int) < (g.len:Int) by omega),decide_eq_true (show 0≤(i:Int)∧(i:Int) < (g.len:Int) by omega),decide_eq_true (show 0≤((i+1:Nat):Int)∧((i+1:Nat):Int)≤(g.len:Int)∧(g.len:Int)≤(g.len:Int) by omega),
    cond_true,cond_true,Bool.true_and,Bool.true_and,Int.toNat_natCast,Int.toNat_natCast]
   have hs:((g.len:Int) - ((i+1:Nat):Int)).toNat=g.len - (i+1):=by omega
   have:=zLY g G i (by omega) (⟨((g.len:Int) - ((i+1:Nat):Int)).toNat,fun x=>g.get (x+(i+1))⟩:Sl Gate) hs (fun _=>rfl) S P (g.len - (i+1)) Fuel 0 (by show 0+(g.len - (i+1))=((g.len:Int) - ((i+1:Nat):Int)).toNat;omega) (by simp only [Fuel];omega)
   rw [i1,i2,Nat.zero_add] at this
   exact this
 exact key g.len Fuel 0 (by omega) (by simp only [Fuel];omega)
end Go.Proofs
namespace Go.Proofs
open Go Go.Pm
set_option maxRecDepth 100000
def apL {α:Type} (v:Sl α) (x:α):Sl α:=⟨v.len+1,zdt v.len v.get (fun _=>x)⟩
theorem zng (g:Gate):zzv g 0=g.Low:=rfl
theorem znh (g:Gate):zzv g 1=g.High:=rfl
theorem zLZ (g : Sl Gate) (G : zau g) (i k : Nat) (hi : i < g.len) (hk : k < g.len) (S0 : Int → Sl Line → Sl Line) (S1 : Int → Int → Sl Line → Sl Line) (P0 : Int → Sl Line → Bool) (P1 : Int → Int → Sl Line → Bool) (v : Sl Line) (hv : v.len ≤ 100000) (F : Nat) (hF : 5 ≤ F) :
  zdQ P0 P1 g F (i:Int) (k:Int) 0 v=P1 (i:Int) ((k+1:Nat):Int) (((zox (g.get i) (g.get k)).map toL).foldl apL v) ∧
  zdP S0 S1 g F (i:Int) (k:Int) 0 v=S1 (i:Int) ((k+1:Nat):Int) (((zox (g.get i) (g.get k)).map toL).foldl apL v):=by
 have hl:=G.2.2
 obtain ⟨f,rfl⟩:∃ f,F=f+5:=⟨F - 5,by omega⟩
 have gi:=G.1 i hi
 have gk:=G.1 k hk
 have ei:decide (0≤(i:Int)∧(i:Int) < (g.len:Int))=true:=decide_eq_true (by omega)
 have ek:decide (0≤(k:Int)∧(k:Int) < (g.len:Int))=true:=decide_eq_true (by omega)
 have e2:decide ((2:Int) ≠ 0)=true:=by decide
 have sk:w64 ((k:Int)+(1:Int))=((k+1:Nat):Int):=zbB (n:=g.len) hk (by omega)
 -- one round
 have step:∀ (m:Nat) (e:Int) (v:Sl Line) (p q:Int),(0≤e∧e < 4)→v.len≤200000→zzv (g.get i) (w64 (e.tdiv (2:Int)))=p→zzv (g.get k) (e.tmod (2:Int))=q →
   (-1000000≤p∧p≤1000000)→(-1000000≤q∧q≤1000000)→(g.get i).Z ≠ (g.get k).Z →
   zdQ P0 P1 g (m+1) (i:Int) (k:Int) e v=zdQ P0 P1 g m (i:Int) (k:Int) (e+1) (apL v (toL (thr (g.get i).Z p (g.get k).Z q))) ∧
   zdP S0 S1 g (m+1) (i:Int) (k:Int) e v=zdP S0 S1 g m (i:Int) (k:Int) (e+1) (apL v (toL (thr (g.get i).Z p (g.get k).Z q))):=by
  intro m e v p q he hv hp hq bp bq hz
  show zgn P0 P1 g (zdQ P0 P1 g m) _ _ _ _=_∧zgm S0 S1 g (zdP S0 S1 g m) _ _ _ _=_
  generalize zdQ P0 P1 g m=P
  generalize zdP S0 S1 g m=S
  obtain ⟨t1,t2⟩:=zJu gi.1 gk.1 bp bq hz
  unfold zgn zgm
  rw [Int.toNat_natCast,Int.toNat_natCast,hp,hq,t1,t2,decide_eq_true (show e < 4 from he.2),ei,ek,e2,zaO (x:=e+1) (by omega) (by omega),
   show ((g.get i).Z != (g.get k).Z)=true by simpa using hz,decide_eq_true (show (v.len+1) * 32≤140737488355328∧v.len+1≤9223372036854775807 by omega)]
  exact ⟨rfl,rfl⟩
 unfold zox
 by_cases hz:(g.get i).Z=(g.get k).Z
 ·rw [if_pos hz]
  show zgn P0 P1 g (zdQ P0 P1 g (f+4)) _ _ _ _=_∧zgm S0 S1 g (zdP S0 S1 g (f+4)) _ _ _ _=_
  generalize zdQ P0 P1 g (f+4)=P
  generalize zdP S0 S1 g (f+4)=S
  unfold zgn zgm
  rw [Int.toNat_natCast,Int.toNat_natCast,ei,ek,sk,decide_eq_true (show (0:Int) < 4 by omega),show ((g.get i).Z != (g.get k).Z)=false by simpa using hz]
  exact ⟨rfl,rfl⟩
 ·rw [if_neg hz]
  have a0:=step (f+4) 0 v _ _ (by omega) (by omega) (zng _) (zng _) (zd8 gi) (zd8 gk) hz
  generalize hv1:apL v (toL (thr (g.get i).Z (g.get i).Low (g.get k).Z (g.get k).Low))=v1 at a0
  have l1:v1.len=v.len+1:=by rw [← hv1];rfl
  have a1:=step (f+3) 1 v1 _ _ (by omega) (by omega) (zng _) (znh _) (zd8 gi) (zeQ gk) hz
  generalize hv2:apL v1 (toL (thr (g.get i).Z (g.get i).Low (g.get k).Z (g.get k).High))=v2 at a1
  have l2:v2.len=v1.len+1:=by rw [← hv2];rfl
  have a2:=step (f+2) 2 v2 _ _ (by omega) (by omega) (znh _) (zng _) (zeQ gi) (zd8 gk) hz
  generalize hv3:apL v2 (toL (thr (g.get i).Z (g.get i).High (g.get k).Z (g.get k).Low))=v3 at a2
  have l3:v3.len=v2.len+1:=by rw [← hv3];rfl
  have a3:=step (f+1) 3 v3 _ _ (by omega) (by omega) (znh _) (znh _) (zeQ gi) (zeQ gk) hz
  generalize hv4:apL v3 (toL (thr (g.get i).Z (g.get i).High (g.get k).Z (g.get k).High))=v4 at a3
  have b4:zdQ P0 P1 g (f+1) (i:Int) (k:Int) 4 v4=P1 (i:Int) ((k+1:Nat):Int) v4∧zdP S0 S1 g (f+1) (i:Int) (k:Int) 4 v4=S1 (i:Int) ((k+1:Nat):Int) v4:=by
   show zgn P0 P1 g (zdQ P0 P1 g f) _ _ _ _=_∧zgm S0 S1 g (zdP S0 S1 g f) _ _ _ _=_
   generalize zdQ P0 P1 g f=P
   generalize zdP S0 S1 g f=S
   unfold zgn zgm
   rw [sk,decide_eq_false (show ¬ (4:Int) < 4 by omega)]
   exact ⟨rfl,rfl⟩
  have fin:(([thr (g.get i).Z (g.get i).Low (g.get k).Z (g.get k).Low,thr (g.get i).Z (g.get i).Low (g.get k).Z (g.get k).High,thr (g.get i).Z (g.get i).High (g.get k).Z (g.get k).Low,thr (g.get i).Z (g.get i).High (g.get k).Z (g.get k).High]:List straight).map toL).foldl apL v=v4:=by
   simp only [List.map_cons,List.map_nil,List.foldl_cons,List.foldl_nil,hv1,hv2,hv3,hv4]
  rw [fin]
  exact ⟨(a0.1.trans (a1.1.trans (a2.1.trans a3.1))).trans b4.1,(a0.2.trans (a1.2.trans (a2.2.trans a3.2))).trans b4.2⟩
theorem zch {α:Type} (l:List α):∀ v:Sl α,(l.foldl apL v).len=v.len+l.length:=by
 induction l with
 | nil=>intro v;rfl
 | cons x l ih=>intro v;rw [List.foldl_cons,ih];show v.len+1+l.length=v.len+(l.length+1);omega
theorem zsv (a b:Gate):(zox a b).length≤4:=by unfold zox;split <;> simp
theorem zsw (g:Sl Gate) (i m k:Nat):(zoy g i m k).length≤4 * m:=by
 induction m generalizing k with
 | zero=>exact Nat.le_refl _
 | succ m ih=>show (zox _ _ ++ zoy g i m (k+1)).length≤_;rw [List.length_append];have:=ih (k+1);have:=zsv (g.get i) (g.get k);omega
theorem zOo (g:Sl Gate) (G:zau g) (i:Nat) (hi:i < g.len) (S0:Int→Sl Line→Sl Line) (P0:Int→Sl Line→Bool):∀ (m F k:Nat) (v:Sl Line),k+m=g.len→m < F→v.len+4 * m≤100000 →
  zhJ P0 g F (i:Int) (k:Int) v=P0 ((i+1:Nat):Int) (((zoy g i m k).map toL).foldl apL v) ∧
  zhI S0 g F (i:Int) (k:Int) v=S0 ((i+1:Nat):Int) (((zoy g i m k).map toL).foldl apL v):=by
 have hl:=G.2.2
 intro m
 induction m with
 | zero =>
  intro F k v hk hF hv
  obtain ⟨f,rfl⟩:∃ f,F=f+1:=⟨F - 1,by omega⟩
  show zj6 P0 g (zhJ P0 g f) _ _ _=_∧zj5 S0 g (zhI S0 g f) _ _ _=_
  generalize zhJ P0 g f=P
  generalize zhI S0 g f=S
  unfold zj6 zj5
  rw [decide_eq_false (show ¬ (k:Int) < (g.len:Int) by omega),cond_false,cond_false,zbB (n:=g.len) hi (by omega)]
  exact ⟨rfl,rfl⟩
 | succ m ih =>
  intro F k v hk hF hv
  obtain ⟨f,rfl⟩:∃ f,F=f+1:=⟨F - 1,by omega⟩
  have ih:=fun v h=>ih f (k+1) v (by omega) (by omega) h
  show zj6 P0 g (zhJ P0 g f) _ _ _=_∧zj5 S0 g (zhI S0 g f) _ _ _=_
  generalize zhJ P0 g f=P at ih
  generalize zhI S0 g f=S at ih
  unfold zj6 zj5 zyB zyA
  rw [decide_eq_true (show (k:Int) < (g.len:Int) by omega),cond_true,cond_true]
  obtain ⟨b1,b2⟩:=zLZ g G i k hi (by omega) S0 S P0 P v (by omega) Fuel (by simp only [Fuel];omega)
  rw [b1,b2]
  have q4:=zsv (g.get i) (g.get k)
  have:=ih (((zox (g.get i) (g.get k)).map toL).foldl apL v) (by rw [zch,List.length_map];omega)
  rw [← List.foldl_append,← List.map_append] at this
  exact this
theorem zJv (g:Sl Gate) (G:zau g):p80 g=true∧s80 g=((cst g).map toL).foldl apL ⟨0,fun _=>default⟩:=by
 have hl:=G.2.2
 have key:∀ (m F i:Nat) (v:Sl Line),i+m=g.len→m < F→v.len+100 * m≤50000→zka g F (i:Int) v=true∧zj9 g F (i:Int) v=((zzw g m i).map toL).foldl apL v:=by
  intro m
  induction m with
  | zero =>
   intro F i v hi hF hv
   obtain ⟨f,rfl⟩:∃ f,F=f+1:=⟨F - 1,by omega⟩
   show zj8 g (zka g f) _ _=_∧zj7 g (zj9 g f) _ _=_
   unfold zj8 zj7
   rw [decide_eq_false (show ¬ (i:Int) < (g.len:Int) by omega),cond_false,cond_false]
   exact ⟨rfl,rfl⟩
  | succ m ih =>
   intro F i v hi hF hv
   obtain ⟨f,rfl⟩:∃ f,F=f+1:=⟨F - 1,by omega⟩
   have ih:=fun v h=>ih f (i+1) v (by omega) (by omega) h
   show zj8 g (zka g f) _ _=_∧zj7 g (zj9 g f) _ _=_
   generalize zka g f=P at ih
   generalize zj9 g f=S at ih
   unfold zj8 zj7 zyD zyC
   rw [decide_eq_true (show (i:Int) < (g.len:Int) by omega),cond_true,cond_true,zbB (n:=g.len) (by omega) (by omega)]
   obtain ⟨b1,b2⟩:=zOo g G i (by omega) S P (g.len - (i+1)) Fuel (i+1) v (by omega) (by simp only [Fuel];omega) (by omega)
   rw [b1,b2]
   have c4:=zsw g i (g.len - (i+1)) (i+1)
   have:=ih (((zoy g i (g.len - (i+1)) (i+1)).map toL).foldl apL v) (by rw [zch,List.length_map];omega)
   rw [← List.foldl_append,← List.map_append] at this
   exact this
 exact key g.len Fuel 0 _ (by omega) (by simp only [Fuel];omega) (by show 0+_≤_;omega)
end Go.Proofs
namespace Go.Proofs
open Go Go.Pm
set_option maxRecDepth 100000
def SOK (s:straight):Prop:=(-2000000≤s.slope∧s.slope≤2000000)∧(-200000000000≤s.start∧s.start≤200000000000)∧1≤s.den∧s.den≤100000
theorem zJw {z p y q:Int} (hz:0≤z∧z≤100000) (hy:0≤y∧y≤100000) (hp : -1000000≤p∧p≤1000000) (hq : -1000000≤q∧q≤1000000) (hn:z ≠ y):SOK (thr z p y q):=by
 have b1:=zkH hp.1 hp.2 hy.1 hy.2
 have b2:=zkH hq.1 hq.2 hz.1 hz.2
 unfold thr SOK
 by_cases h:z > y
 ·rw [if_pos h];exact ⟨⟨by show _≤p - q;omega,by show p - q≤_;omega⟩,⟨by show _≤q * z - p * y;omega,by show q * z - p * y≤_;omega⟩,by show _≤z - y;omega,by show z - y≤_;omega⟩
 ·rw [if_neg h];exact ⟨⟨by show _≤q - p;omega,by show q - p≤_;omega⟩,⟨by show _≤p * y - q * z;omega,by show p * y - q * z≤_;omega⟩,by show _≤y - z;omega,by show y - z≤_;omega⟩
theorem zBh {a b:Gate} {s:straight} (h:s∈zox a b):a.Z ≠ b.Z∧∃ p q,(p=a.Low∨p=a.High)∧(q=b.Low∨q=b.High)∧s=thr a.Z p b.Z q:=by
 unfold zox at h
 by_cases hz:a.Z=b.Z
 ·rw [if_pos hz] at h;cases h
 ·rw [if_neg hz] at h
  refine ⟨hz,?_⟩
  simp only [List.mem_cons,List.not_mem_nil,or_false] at h
  rcases h with h | h | h | h
  ·exact ⟨_,_,.inl rfl,.inl rfl,h⟩
  ·exact ⟨_,_,.inl rfl,.inr rfl,h⟩
  ·exact ⟨_,_,.inr rfl,.inl rfl,h⟩
  ·exact ⟨_,_,.inr rfl,.inr rfl,h⟩
theorem zsx {g : Sl Gate} {i : Nat} {s : straight} : ∀ {m k : Nat}, s ∈ zoy g i m k → ∃ j, k ≤ j ∧ j < k + m ∧ s ∈ zox (g.get i) (g.get j)
  | 0,_,h=>by cases h
  | m+1,k,h=>by
    rcases List.mem_append.1 h with h | h
    · exact ⟨k,Nat.le_refl _,by omega,h⟩
    · obtain ⟨j, a, b, c⟩ := zsx h
      exact ⟨j,by omega,by omega,c⟩
theorem zsy {g : Sl Gate} {s : straight} : ∀ {m i : Nat}, s ∈ zzw g m i → ∃ a b, i ≤ a ∧ a < i + m ∧ a < b ∧ b < g.len ∧ s ∈ zox (g.get a) (g.get b)
  | 0,_,h=>by cases h
  | m+1,i,h=>by
    rcases List.mem_append.1 h with h | h
    · obtain ⟨j, a, b, c⟩ := zsx h
      exact ⟨i,j,Nat.le_refl _,by omega,by omega,by omega,c⟩
    · obtain ⟨a, b, h1, h2, h3, h4, h5⟩ := zsy h
      exact ⟨a,b,by omega,by omega,h3,h4,h5⟩
theorem zy6 {g:Sl Gate} {s:straight} (h:s∈cst g):∃ a b,a < b∧b < g.len∧(g.get a).Z ≠ (g.get b).Z∧∃ p q,(p=(g.get a).Low∨p=(g.get a).High)∧(q=(g.get b).Low∨q=(g.get b).High)∧s=thr (g.get a).Z p (g.get b).Z q:=by
 obtain ⟨a,b,_,_,h3,h4,h5⟩:=zsy h
 obtain ⟨hz,r⟩:=zBh h5
 exact ⟨a,b,h3,h4,hz,r⟩
theorem zkw {g:Sl Gate} (G:zau g) {s:straight} (h:s∈cst g):SOK s:=by
 obtain ⟨a,b,h1,h2,hz,p,q,hp,hq,rfl⟩:=zy6 h
 have ga:=G.1 a (by omega)
 have gb:=G.1 b h2
 refine zJw ga.1 gb.1 ?_ ?_ hz
 ·rcases hp with rfl | rfl;exact zd8 ga;exact zeQ ga
 ·rcases hq with rfl | rfl;exact zd8 gb;exact zeQ gb
def plc (s:straight) (z:Int):Int:=s.start+s.slope * z
def zg1 (s:straight) (g:Gate):Bool:=decide (g.Low * s.den≤plc s g.Z∧plc s g.Z≤g.High * s.den)
def zCr (s:straight) (g:Gate):Bool:=decide (plc s g.Z=g.Low * s.den)
theorem zy7 {s:straight} (S:SOK s) {g:Gate} (G:zdf g):zC7 s g=zg1 s g:=by
 obtain ⟨S1,S2,S3⟩:=S
 have b1:=zkH S1.1 S1.2 G.1.1 G.1.2
 have b2:=zkH (zd8 G).1 (zd8 G).2 (show 0≤s.den by omega) S3.2
 have b3:=zkH (zeQ G).1 (zeQ G).2 (show 0≤s.den by omega) S3.2
 unfold zC7 zg1 plc
 rw [zow,zaO (x:=s.slope * g.Z) (by omega) (by omega),zaO (x:=s.start+s.slope * g.Z) (by omega) (by omega),zaO (x:=g.Low * s.den) (by omega) (by omega),zaO (x:=g.High * s.den) (by omega) (by omega)]
theorem zg2 {a x y:Int} (h:0 < a):a * x≤a * y↔x≤y:=⟨fun k=>Int.le_of_mul_le_mul_left k h,fun k=>Int.mul_le_mul_of_nonneg_left k (Int.le_of_lt h)⟩
theorem zsz {a x y:Int} (h:0 < a):a * x=a * y↔x=y:=⟨fun k=>Int.eq_of_mul_eq_mul_left (by omega) k,fun k=>by rw [k]⟩
theorem zy8 {s:straight} (S:SOK s) {z:Int} (hz:0≤z∧z≤100000):∃ n d k,ztw (toL s) z=(n,d)∧0 < k∧k * n=s.den * plc s z∧k * d=s.den * s.den∧0 < d∧d≤10000000000:=by
  obtain ⟨S1,S2,S3⟩:=S
  have hd:0 < s.den:=by omega
  have g1:=zce (num:=s.slope) hd
  have g2:=zce (num:=s.start) hd
  have r1:=zgo (num:=s.slope) hd
  have r2:=zgo (num:=s.start) hd
  have e1:=zdR (num:=s.slope) hd
  have e2:=zda (num:=s.slope) hd
  have e3:=zdR (num:=s.start) hd
  have e4:=zda (num:=s.start) hd
  have p1:=zcI (num:=s.slope) hd
  have p2:=zcI (num:=s.start) hd
  have q1:=zkv (num:=s.slope) hd
  have q2:=zkv (num:=s.start) hd
  unfold ztw toL
  simp only
  generalize (red s.slope s.den).Num=a at *
  generalize (red s.slope s.den).Den=b at *
  generalize (red s.start s.den).Num=c at *
  generalize (red s.start s.den).Den=d at *
  generalize (Int.gcd s.slope s.den:Int)=G1 at *
  generalize (Int.gcd s.start s.den:Int)=G2 at *
  have m1:=zkH (x:=c) (X:=200000000000) (y:=b) (Y:=100000) (by omega) (by omega) (by omega) (by omega)
  have m2:=zkH (x:=a) (X:=2000000) (y:=z) (Y:=100000) (by omega) (by omega) hz.1 hz.2
  have m3:=zkH (x:=a * z) (X:=2000000 * 100000) (y:=d) (Y:=100000) (by omega) (by omega) (by omega) (by omega)
  have m4:=zkH (x:=d) (X:=100000) (y:=b) (Y:=100000) (by omega) (by omega) (by omega) (by omega)
  have m5:=Int.mul_pos p2 p1
  rw [zaO (x:=c * b) (by omega) (by omega),zaO (x:=a * z) (by omega) (by omega),zaO (x:=a * z * d) (by omega) (by omega),zaO (x:=c * b+a * z * d) (by omega) (by omega),zaO (x:=d * b) (by omega) (by omega)]
  refine ⟨_,_,G1 * G2,rfl,Int.mul_pos g1 g2,?_,?_,m5,by omega⟩
  · unfold plc
    have t1:G1 * G2 * (c * b)=s.den * s.start:=by
      calc G1 * G2 * (c * b) = (G1 * b) * (G2 * c) := by ac_rfl
        _=_:=by rw [e2,e3]
    have t2:G1 * G2 * (a * z * d)=s.den * (s.slope * z):=by
      calc G1 * G2 * (a * z * d) = (G2 * d) * ((G1 * a) * z) := by ac_rfl
        _=_:=by rw [e4,e1]
    rw [Int.mul_add,t1,t2,Int.mul_add]
  · calc G1 * G2 * (d * b) = (G1 * b) * (G2 * d) := by ac_rfl
      _=_:=by rw [e2,e4]
theorem zsA {s:straight} (S:SOK s) {g:Gate} (G:zdf g):s72 (toL s) g=zg1 s g:=by
  obtain ⟨n,d,k,e,hk,kn,kd,d1,d2⟩:=zy8 S G.1
  have hd:0 < s.den:=by have:=S.2.2;omega
  have b2:=zkH (zd8 G).1 (zd8 G).2 (show 0≤d by omega) d2
  have b3:=zkH (zeQ G).1 (zeQ G).2 (show 0≤d by omega) d2
  have key:∀ x:Int,k * (x * d)=s.den * (x * s.den):=fun x=>by
    calc k * (x * d) = x * (k * d) := by ac_rfl
      _=s.den * (x * s.den):=by rw [kd];ac_rfl
  unfold s72 zg1
  rw [e,zfL]
  simp only
  rw [zaO (x:=g.Low * d) (by omega) (by omega),zaO (x:=g.High * d) (by omega) (by omega),Bool.decide_and]
  congr 1
  · refine decide_eq_decide.2 ?_
    rw [← zg2 hk,key,kn,zg2 hd]
  · refine decide_eq_decide.2 ?_
    rw [← zg2 hk,key,kn,zg2 hd]
theorem zy9 {s:straight} (S:SOK s) {g:Gate} (G:zdf g):((ztw (toL s) g.Z).1 == w64 (g.Low * (ztw (toL s) g.Z).2))=zCr s g:=by
  obtain ⟨n,d,k,e,hk,kn,kd,d1,d2⟩:=zy8 S G.1
  have hd:0 < s.den:=by have:=S.2.2;omega
  have b2:=zkH (zd8 G).1 (zd8 G).2 (show 0≤d by omega) d2
  have key:∀ x:Int,k * (x * d)=s.den * (x * s.den):=fun x=>by
    calc k * (x * d) = x * (k * d) := by ac_rfl
      _=s.den * (x * s.den):=by rw [kd];ac_rfl
  unfold zCr
  rw [e]
  simp only
  rw [zaO (x:=g.Low * d) (by omega) (by omega)]
  refine Bool.eq_iff_iff.2 ?_
  rw [beq_iff_eq,decide_eq_true_eq,← zsz hk,key,kn,zsz hd]
end Go.Proofs
namespace Go.Proofs
open Go Go.Pm
set_option maxRecDepth 100000
theorem zsB {c:Nat→Bool} {n:Nat} : fst c n < n↔∃ i,i < n∧c i=true:=by
 refine ⟨fun h=>⟨_,h,zBI h⟩,fun ⟨i,hi,hc⟩=>?_⟩
 rcases Nat.lt_or_ge (fst c n) n with h | h
 ·exact h
 ·have := zBH (c := c) (n := n) (j := i) (by omega)
  rw [hc] at this;cases this
def zhN (g:Sl Gate):Prop:=∀ i,i < g.len→(g.get i).Z=(g.get 0).Z
def zg3 (g:Sl Gate) (s:straight):Prop:=∀ i,i < g.len→zg1 s (g.get i)=true
def zJx (g:Sl Gate) (s:straight):Prop:=∃ i,i < g.len∧zCr s (g.get i)=true
theorem zsC (g:Sl Gate) (G:zau g):p67 ⟨g⟩=true∧(s67 ⟨g⟩=true↔zhN g):=by
  have hl:=G.2.2
  have hl1:=G.2.1
  have zC5:∀ x,zC5 ⟨g⟩ x=true:=fun x=>by
    unfold zC5
    rw [decide_eq_true (show 0≤(0:Int)∧(0:Int) < ((⟨g⟩:list).Gates.len:Int) from ⟨by omega,by show (0:Int) < (g.len:Int);omega⟩)];rfl
  have := zrT (c := zC4 ⟨g⟩) (lpS := zim ⟨g⟩) (lpP := zin ⟨g⟩)
    (fun k s t i=>by
      show zik ⟨g⟩ (zim ⟨g⟩ k) s t i=_
      unfold zik zl6;rfl)
    (fun k s t i=>by
      show zil ⟨g⟩ (zin ⟨g⟩ k) s t i=_
      unfold zil zl7
      rw [zC5]
      simp only [decide_true,Bool.true_and])
    g (by omega)
  obtain ⟨a,b⟩:=this
  have e:zHF ⟨g⟩ g=true:=a
  have f:zHE ⟨g⟩ g=_:=b
  unfold p67 s67 p99 s99
  show (decide ((decide (zHF ⟨g⟩ g=true) && true)=true) && true)=true∧((!decide (zHE ⟨g⟩ g ≥ 0))=true↔_)
  rw [e,f]
  refine ⟨by simp,?_⟩
  rw [Bool.not_eq_true',decide_eq_false_iff_not]
  by_cases h:fst (fun i=>zC4 ⟨g⟩ (g.get i)) g.len < g.len
  · rw [if_pos h]
    obtain ⟨i,hi,hc⟩:=zsB.1 h
    refine ⟨fun k=>absurd (show ((fst (fun i=>zC4 ⟨g⟩ (g.get i)) g.len:Nat):Int) ≥ 0 by omega) k,fun k=>?_⟩
    have hc:((g.get i).Z != (g.get 0).Z)=true:=hc
    rw [k i hi] at hc
    simp at hc
  · rw [if_neg h]
    refine ⟨fun _ i hi=>?_,fun _=>by omega⟩
    have:=mt zsB.2 h
    have hc : ¬ ((g.get i).Z != (g.get 0).Z)=true:=fun hc=>this ⟨i,hi,hc⟩
    simpa using hc
theorem zJy (g:Sl Gate) (G:zau g) (v:Sl straight) {x:straight} (S:SOK x):p97 ⟨⟨g⟩,v⟩ x=true∧(s97 ⟨⟨g⟩,v⟩ x=true↔zg3 g x):=by
  have hl:=G.2.2
  have := zrT (c := zC9 x) (lpS := zgO x) (lpP := zgP x)
    (fun k s t i=>by
      show zgM x (zgO x k) s t i=_
      unfold zgM zjj;rfl)
    (fun k s t i=>by
      show zgN x (zgP x k) s t i=_
      unfold zgN zjk;rfl)
    g (by omega)
  obtain ⟨a,b⟩:=this
  have e:zuW x g=true:=a
  have f:zuV x g=_:=b
  unfold p97 s97 zJZ zJY
  show (decide ((decide (zuW x g=true) && true)=true) && true)=true∧((!decide (zuV x g ≥ 0))=true↔_)
  rw [e,f]
  refine ⟨by simp,?_⟩
  rw [Bool.not_eq_true',decide_eq_false_iff_not]
  by_cases h:fst (fun i=>zC9 x (g.get i)) g.len < g.len
  · rw [if_pos h]
    obtain ⟨i,hi,hc⟩:=zsB.1 h
    refine ⟨fun k=>absurd (show ((fst (fun i=>zC9 x (g.get i)) g.len:Nat):Int) ≥ 0 by omega) k,fun k=>?_⟩
    have hc:(!(zC7 x (g.get i)))=true:=hc
    rw [zy7 S (G.1 i hi),k i hi] at hc
    cases hc
  · rw [if_neg h]
    refine ⟨fun _ i hi=>?_,fun _=>by omega⟩
    have:=mt zsB.2 h
    have hc : ¬ (!(zC7 x (g.get i)))=true:=fun hc=>this ⟨i,hi,hc⟩
    rw [← zy7 S (G.1 i hi)]
    simpa using hc
theorem zJz {x:straight} (S:SOK x):p79 x=true∧s79 x=toL x:=by
 obtain ⟨S1,S2,S3⟩:=S
 obtain ⟨a1,a2⟩:=zh3 (num:=x.slope) (den:=x.den) (by omega) (by omega) (by omega) (by omega)
 obtain ⟨b1,b2⟩:=zh3 (num:=x.start) (den:=x.den) (by omega) (by omega) (by omega) (by omega)
 unfold p79 s79 toL
 rw [a1,a2,b1,b2]
 exact ⟨by simp,rfl⟩
-- the reference
theorem zh4 (g:Sl Gate) (G:zau g):p22 g=true∧(s22 g=true↔zhN g):=by
 have hl:=G.2.2
 have hl1:=G.2.1
 have key:∀ (m k i:Nat),i+m=g.len→m < k→zhG g k (i:Int)=true∧(zhF g k (i:Int)=true↔∀ j,i≤j→j < g.len→(g.get j).Z=(g.get 0).Z):=by
  intro m
  induction m with
  | zero =>
   intro k i hi hk
   obtain ⟨k,rfl⟩:∃ k',k=k'+1:=⟨k - 1,by omega⟩
   show zhE g (zhG g k) _=_∧(zhD g (zhF g k) _=_↔_)
   unfold zhE zhD
   rw [decide_eq_false (show ¬ (i:Int) < (g.len:Int) by omega),cond_false,cond_false]
   exact ⟨rfl,⟨fun _ j a b=>absurd b (by omega),fun _=>rfl⟩⟩
  | succ m ih =>
   intro k i hi hk
   obtain ⟨k,rfl⟩:∃ k',k=k'+1:=⟨k - 1,by omega⟩
   obtain ⟨i1,i2⟩:=ih k (i+1) (by omega) (by omega)
   show zhE g (zhG g k) _=_∧(zhD g (zhF g k) _=_↔_)
   generalize zhG g k=P at i1
   generalize zhF g k=S at i2
   unfold zhE zhD
   rw [decide_eq_true (show (i:Int) < (g.len:Int) by omega),decide_eq_true (show 0≤(i:Int)∧(i:Int) < (g.len:Int) by omega),decide_eq_true (show 0≤(0:Int)∧(0:Int) < (g.len:Int) by omega),cond_true,cond_true,Int.toNat_natCast,zbB (n:=g.len) (by omega) (by omega),i1]
   by_cases hz:(g.get i).Z=(g.get 0).Z
   ·rw [show ((g.get i).Z != (g.get 0).Z) = false by simpa using hz, cond_false, cond_false]
    refine ⟨by simp,i2.trans ⟨fun h j a b=>?_,fun h j a b=>h j (by omega) b⟩⟩
    by_cases hj:j=i
    ·rw [hj];exact hz
    ·exact h j (by omega) b
   ·rw [show ((g.get i).Z != (g.get 0).Z) = true by simpa using hz, cond_true, cond_true]
    exact ⟨by simp,⟨fun h=>(by cases h),fun h=>absurd (h i (Nat.le_refl _) (by omega)) hz⟩⟩
 obtain ⟨a,b⟩:=key (g.len - 1) Fuel 1 (by omega) (by simp only [Fuel];omega)
 refine ⟨a,Iff.trans b ⟨fun h i hi=>?_,fun h j _ hj=>h j hj⟩⟩
 by_cases h0:i=0
 ·rw [h0]
 ·exact h i (by omega) hi
theorem zza (g:Sl Gate) (G:zau g) {x:straight} (S:SOK x):zGR (toL x) g=true∧(ztx (toL x) g=true↔zJx g x):=by
  have hl:=G.2.2
  have e := zGp (good := fun i => !(zCr x (g.get i))) (bad := true) (fin := false) (finP := true) (n := g.len) (lpS := zgZ (toL x) g) (lpP := zg0 (toL x) g)
    (fun k i hi=>by
      show zgX (toL x) g (zgZ (toL x) g k) (i:Int)=_
      generalize zgZ (toL x) g k=F
      unfold zgX zsr
      rw [decide_eq_true (show (i:Int) < (g.len:Int) by omega),cond_true,Int.toNat_natCast,zy9 S (G.1 i hi)]
      cases zCr x (g.get i) <;> rfl)
    (fun k=>by
      show zgX (toL x) g (zgZ (toL x) g k) (g.len:Int)=_
      unfold zgX
      rw [decide_eq_false (show ¬ (g.len:Int) < (g.len:Int) by omega),cond_false])
    (fun k i hi=>by
      show zgY (toL x) g (zg0 (toL x) g k) (i:Int)=_
      generalize zg0 (toL x) g k=F
      unfold zgY zss
      rw [decide_eq_true (show (i:Int) < (g.len:Int) by omega),decide_eq_true (show 0≤(i:Int)∧(i:Int) < (g.len:Int) by omega),cond_true,Int.toNat_natCast,zy9 S (G.1 i hi),Bool.true_and,Bool.true_and]
      cases zCr x (g.get i) <;> rfl)
    (fun k=>by
      show zgY (toL x) g (zg0 (toL x) g k) (g.len:Int)=_
      unfold zgY
      rw [decide_eq_false (show ¬ (g.len:Int) < (g.len:Int) by omega),cond_false])
    (by omega)
  by_cases h:∀ i,i < g.len→(!(zCr x (g.get i)))=true
  · obtain ⟨a, b⟩ := e.1 h
    have b:ztx (toL x) g=false:=b
    refine ⟨a,?_⟩
    rw [b]
    refine ⟨fun h=>(by cases h),fun ⟨i,hi,hc⟩=>?_⟩
    have:=h i hi
    rw [hc] at this;cases this
  · obtain ⟨a, b⟩ := e.2 h
    have b:ztx (toL x) g=true:=b
    refine ⟨a,?_⟩
    rw [b]
    refine ⟨fun _=>Classical.byContradiction fun hn=>h fun i hi=>?_,fun _=>rfl⟩
    cases hc:zCr x (g.get i)
    · rfl
    · exact absurd ⟨i,hi,hc⟩ hn
end Go.Proofs
namespace Go.Proofs
open Go Go.Pm
set_option maxRecDepth 100000
def zhO (l:Line):List Int:=[l.Slope.Num,l.Slope.Den,l.Start.Num,l.Start.Den]
theorem zkx {a b:Line} (h:zhO a=zhO b):a=b:=by
 unfold zhO at h
 simp only [List.cons.injEq,and_true] at h
 obtain ⟨h1,h2,h3,h4⟩:=h
 obtain ⟨⟨a1,a2⟩,a3,a4⟩:=a
 obtain ⟨⟨b1,b2⟩,b3,b4⟩:=b
 simp only at h1 h2 h3 h4
 rw [h1,h2,h3,h4]
abbrev zic {α:Type} [Inhabited α]:Sl α:=⟨0,fun _=>default⟩
theorem zBi {g:Sl Gate} (h:zhN g):cst g=[]:=by
 rcases List.eq_nil_or_concat (cst g) with e | ⟨l,x,e⟩
 ·exact e
 ·have : x ∈ cst g := by rw [e]; simp
  obtain ⟨a,b,h1,h2,hz,_⟩:=zy6 this
  exact absurd ((h a (by omega)).trans (h b h2).symm) hz
theorem zBj (g:Sl Gate):∀ m i,(zzw g m i).length≤4 * g.len * m:=by
 intro m
 induction m with
 | zero=>intro i;exact Nat.le_refl _
 | succ m ih =>
  intro i
  show (zoy g i (g.len - (i+1)) (i+1) ++ zzw g m (i+1)).length≤_
  rw [List.length_append,Nat.mul_succ]
  have:=ih (i+1)
  have:=zsw g i (g.len - (i+1)) (i+1)
  omega
theorem zrf {g:Sl Gate} (G:zau g):(cst g).length≤2304:=by
 have h1:=zBj g g.len 0
 have hl:=G.2.2
 have:4 * g.len * g.len≤4 * 24 * 24:=Nat.mul_le_mul (by omega) hl
 exact Nat.le_trans h1 this
theorem zGs (g:Sl Gate) (G:zau g):∀ (r acc:List straight) (n:Nat) (F:List Int→Option (List Int)),
    (∀ s∈r,SOK s)→acc.length+r.length≤10000→(∀ c,(zdW (F c) 0 != 0)=true↔∃ x∈acc,zhO (toL x)=c)→acc.Pairwise (fun x y=>toL x ≠ toL y) →
    ∃ C:List straight,zff g r (acc.foldl apL zic) n F=true∧zfe g r (acc.foldl apL zic) n F=⟨⟨g⟩,C.foldl apL zic⟩ ∧
      (∀ s∈C,s∈acc∨(s∈r∧zg3 g s))∧(∀ s∈acc,s∈C)∧(∀ s∈r,zg3 g s→∃ x∈C,toL x=toL s)∧C.Pairwise (fun x y=>toL x ≠ toL y):=by
  intro r
  induction r with
  | nil =>
    intro acc n F _ _ _ hp
    exact ⟨acc,rfl,rfl,fun s h=>.inl h,fun s h=>h,(fun s h=>by cases h),hp⟩
  | cons y r ih =>
    intro acc n F hs hl hF hp
    have hs':∀ s∈r,SOK s:=fun s h=>hs s (List.mem_cons_of_mem _ h)
    have Sy:=hs y List.mem_cons_self
    obtain ⟨e1,e2⟩:=zJz Sy
    obtain ⟨a1,a2⟩:=zJy g G (acc.foldl apL zic) Sy
    rw [List.length_cons] at hl
    show ∃ C:List straight,zju g y (zff g r) (acc.foldl apL zic) n F=true∧zjt g y (zfe g r) (acc.foldl apL zic) n F=_∧_
    unfold zju zjt
    rw [e1,e2,a1]
    have hcode:([(toL y).Slope.Num,(toL y).Slope.Den,(toL y).Start.Num,(toL y).Start.Den]:List Int)=zhO (toL y):=rfl
    rw [hcode]
    have skip:(∃ C:List straight,zff g r (acc.foldl apL zic) n F=true∧zfe g r (acc.foldl apL zic) n F=⟨⟨g⟩,C.foldl apL zic⟩ ∧
      (∀ s∈C,s∈acc∨(s∈r∧zg3 g s))∧(∀ s∈acc,s∈C)∧(∀ s∈r,zg3 g s→∃ x∈C,toL x=toL s)∧C.Pairwise (fun x y=>toL x ≠ toL y)):=ih acc n F hs' (by omega) hF hp
    by_cases h1:(zdW (F (zhO (toL y))) 0 != 0)=true
    · obtain ⟨C, c1, c2, c3, c4, c5, c6⟩ := skip
      rw [h1]
      refine ⟨C,by simp only [decide_true,Bool.true_and,Bool.not_true,cond_false];exact c1,by simp only [Bool.not_true,cond_false];exact c2,fun s h=>(c3 s h).imp id fun k=>⟨List.mem_cons_of_mem _ k.1,k.2⟩,c4,fun s h ha=>?_,c6⟩
      rcases List.mem_cons.1 h with rfl | h
      · obtain ⟨x, hx, hc⟩ := (hF _).1 h1
        exact ⟨x,c4 x hx,zkx hc⟩
      · exact c5 s h ha
    · have h1' : (zdW (F (zhO (toL y))) 0 != 0) = false := by simpa using h1
      rw [h1']
      by_cases h2:s97 ⟨⟨g⟩,acc.foldl apL zic⟩ y=true
      · rw [h2]
        have hlen:(acc.foldl apL zic).len=acc.length:=by rw [zch];simp
        have hfold:(⟨(acc.foldl apL zic).len+1,zdt (acc.foldl apL zic).len (acc.foldl apL zic).get (fun _=>y)⟩:Sl straight)=(acc ++ [y]).foldl apL zic:=by rw [List.foldl_append];rfl
        rw [hfold,hlen,decide_eq_true (show (acc.length+1) * 24≤140737488355328∧acc.length+1≤9223372036854775807 by omega)]
        obtain ⟨C, c1, c2, c3, c4, c5, c6⟩ := ih (acc ++ [y]) (addN (F (zhO (toL y))) n) (zkV (zhO (toL y)) [1] F) hs' (by rw [List.length_append]; simp only [List.length_cons, List.length_nil]; omega)
          (fun c=>by
            unfold zkV
            by_cases hc:c=zhO (toL y)
            · rw [decide_eq_true hc]
              exact ⟨fun _=>⟨y,by simp,hc.symm⟩,fun _=>rfl⟩
            · rw [decide_eq_false hc]
              refine (hF c).trans ⟨fun ⟨x,hx,e⟩=>⟨x,List.mem_append.2 (.inl hx),e⟩,fun ⟨x,hx,e⟩=>?_⟩
              rcases List.mem_append.1 hx with hx | hx
              · exact ⟨x,hx,e⟩
              · rw [List.mem_singleton.1 hx] at e;exact absurd e.symm hc)
          (by
            rw [List.pairwise_append]
            refine ⟨hp,List.pairwise_singleton _ _,fun a ha b hb=>?_⟩
            rw [List.mem_singleton.1 hb]
            exact fun e=>h1 ((hF _).2 ⟨a,ha,by rw [e]⟩))
        have hy:y∈C:=c4 y (by simp)
        refine ⟨C,by simp only [decide_true,Bool.true_and,Bool.not_false,cond_true];exact c1,by simp only [Bool.not_false,cond_true];exact c2,fun s h=>?_,fun s h=>c4 s (List.mem_append.2 (.inl h)),fun s h ha=>?_,c6⟩
        · rcases c3 s h with h | h
          · rcases List.mem_append.1 h with h | h
            · exact .inl h
            · rw [List.mem_singleton.1 h];exact .inr ⟨List.mem_cons_self,a2.1 h2⟩
          · exact .inr ⟨List.mem_cons_of_mem _ h.1,h.2⟩
        · rcases List.mem_cons.1 h with rfl | h
          · exact ⟨s,hy,rfl⟩
          · exact c5 s h ha
      · have h2' : s97 ⟨⟨g⟩, acc.foldl apL zic⟩ y = false := by simpa using h2
        rw [h2']
        obtain ⟨C,c1,c2,c3,c4,c5,c6⟩:=skip
        refine ⟨C,by simp only [decide_true,Bool.true_and,Bool.not_false,cond_true,cond_false];exact c1,by simp only [Bool.not_false,cond_true,cond_false];exact c2,fun s h=>(c3 s h).imp id fun k=>⟨List.mem_cons_of_mem _ k.1,k.2⟩,c4,fun s h ha=>?_,c6⟩
        rcases List.mem_cons.1 h with rfl | h
        · exact absurd (a2.2 ha) h2
        · exact c5 s h ha
theorem zsD (g:Sl Gate) (G:zau g):∃ C:List straight,p65 g=true∧s65 g=⟨⟨g⟩,C.foldl apL zic⟩∧(∀ s∈C,s∈cst g∧zg3 g s)∧(∀ s∈cst g,zg3 g s→∃ x∈C,toL x=toL s)∧C.Pairwise (fun x y=>toL x ≠ toL y):=by
 obtain ⟨e1,e2⟩:=zsC g G
 obtain ⟨f1,f2⟩:=zGr g G
 unfold p65 s65
 rw [e1]
 by_cases hf:zhN g
 ·rw [e2.2 hf]
  refine ⟨[],rfl,rfl,(fun s h=>by cases h),fun s h=>?_,List.Pairwise.nil⟩
  rw [zBi hf] at h;cases h
 ·have : s67 ⟨g⟩ = false := by cases h : s67 ⟨g⟩; rfl; exact absurd (e2.1 h) hf
  rw [this]
  unfold zmj zmi zmh zmg zmf zpJ
  rw [f1,f2]
  obtain ⟨C,c1,c2,c3,_,c5,c6⟩:=zGs g G (cst g) [] 0 (fun _=>none) (fun s h=>zkw G h) (by have:=zrf G;simp only [List.length_nil];omega) (fun c=>⟨fun h=>by simp [zdW] at h,fun ⟨x,hx,_⟩=>by cases hx⟩) List.Pairwise.nil
  refine ⟨C,by simp only [decide_true,Bool.true_and,cond_false];exact c1,by simp only [cond_false];exact c2,fun s h=>?_,c5,c6⟩
  rcases c3 s h with h | h
  ·cases h
  ·exact h
end Go.Proofs
