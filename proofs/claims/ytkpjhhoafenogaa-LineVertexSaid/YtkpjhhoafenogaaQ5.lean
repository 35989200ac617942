/- Part 5 of what the proof rests on: a machine that runs functions of the program on pure values, proved sound; the functions that the law reaches, and what they compute. -/
import Derived.Test.YtkpjhhoafenogaaQ4
set_option linter.all false
namespace Go.Proofs
open Go Go.Pm
set_option maxRecDepth 100000
set_option linter.unusedVariables false
attribute [local irreducible] Go.Pm.vcFun Go.Pm.vc Go.Pm.vcIter
abbrev T38:Tabs:=((Tabs.nil.addF 64 ztf).addF 84 zEY)
theorem zLA:TabsOk Try.prog T38:=((TabsOk.nil.addF zKc).addF zOA)
abbrev G38:Ctrs:=csm T38 (fun _ _=>[]) (fun _=>false)
def zEZ:Ann:=⟨66,[(0,zK [0] []),(1,zK [0,12] []),(2,zK [2,3] []),(3,zK [0,4] []),(4,zK [0,4,15,16] []),(5,zK [0,4,15,16,17] []),(6,zK [0,4,5,15,16] []),(7,zK [0,4,5,6,15,16] []),(8,zK [0,4,5,6,15,16,23] []),(9,zK [0,4,5,6,15,16] []),(10,zK [0,4,5,6,15,16,31] []),(11,zK [2,3] [34]),(12,zK [0,4,15,16] []),(13,zK [0,4,36,37] []),(14,zK [0,4,36,37,38] []),(15,zK [0,4,7,36,37] []),(16,zK [0,4,7,8,36,37] []),(17,zK [0,4,7,8,36,37,44] []),(18,zK [0,4,7,8,36,37] []),(19,zK [0,4,7,8,9,36,37] []),(20,zK [0,4,7,8,9,36,37,51] []),(21,zK [0,4,7,8,9,36,37] []),(22,zK [0,4,7,8,9,36,37,60] []),(23,zK [2,3] [64]),(24,zK [0,4,36,37] []),(25,zK [2,3] [])],
 [(5,zK [0,4,15,16] []),(8,zK [0,4,5,6,15,16] []),(14,zK [0,4,36,37] []),(17,zK [0,4,7,8,36,37] []),(20,zK [0,4,7,8,9,36,37] [])],
 [(2,zK [0,12] []),(3,zK [0] []),(13,zK [0,4] []),(11,zK [0,4,5,6,15,16,31] []),(23,zK [0,4,7,8,9,36,37,60] [])],
 [],[]⟩
abbrev R38:=((Sl Int)×Int)
abbrev e38 (r:R38):List PA:=[.one (.sl r.1.len 1 (fun i=>zal (r.1.get i))),.one (.int .i64 r.2)]
@[irreducible] def z38:=ptF Try.prog G38 zEZ Try.f38
def zCo (zaa:(Sl Gate)) (zdn:Int):St:=⟨[(0,zS enc_55 3 zaa),(4,zI (zaa.len:Int)),(15,zI (zaa.len:Int)),(16,zI zdn)],[],[]⟩
abbrev zA4 (K:List PA→Prop) (zaa:(Sl Gate)) (X:St→Prop) (P:Int→Bool) (S:Int→((Sl Int)×Int)):Prop:=∀ ⦃zdn:Int⦄,P zdn=true→K (e38 (S zdn))→X (zCo zaa zdn)
def zCp (zaa:(Sl Gate)) (iv3:Int) (jv3:Int) (zeb:Int):St:=⟨[(0,zS enc_55 3 zaa),(4,zI (zaa.len:Int)),(5,zI iv3),(6,zI jv3),(15,zI (zaa.len:Int)),(16,zI zeb)],[],[]⟩
abbrev zE0 (K:List PA→Prop) (zaa:(Sl Gate)) (X:St→Prop) (P:Int→Int→Int→Bool) (S:Int→Int→Int→((Sl Int)×Int)):Prop:=∀ ⦃iv3:Int⦄ ⦃jv3:Int⦄ ⦃zeb:Int⦄,P iv3 jv3 zeb=true→K (e38 (S iv3 jv3 zeb))→X (zCp zaa iv3 jv3 zeb)
def zCq (zaa:(Sl Gate)) (zdo:Int):St:=⟨[(0,zS enc_55 3 zaa),(4,zI (zaa.len:Int)),(36,zI (zaa.len:Int)),(37,zI zdo)],[],[]⟩
abbrev zwi (K:List PA→Prop) (zaa:(Sl Gate)) (X:St→Prop) (P:Int→Bool) (S:Int→((Sl Int)×Int)):Prop:=∀ ⦃zdo:Int⦄,P zdo=true→K (e38 (S zdo))→X (zCq zaa zdo)
def zCr (zaa:(Sl Gate)) (iv7:Int) (jv7:Int) (zec:Int):St:=⟨[(0,zS enc_55 3 zaa),(4,zI (zaa.len:Int)),(7,zI iv7),(8,zI jv7),(36,zI (zaa.len:Int)),(37,zI zec)],[],[]⟩
abbrev zA5 (K:List PA→Prop) (zaa:(Sl Gate)) (X:St→Prop) (P:Int→Int→Int→Bool) (S:Int→Int→Int→((Sl Int)×Int)):Prop:=∀ ⦃iv7:Int⦄ ⦃jv7:Int⦄ ⦃zec:Int⦄,P iv7 jv7 zec=true→K (e38 (S iv7 jv7 zec))→X (zCr zaa iv7 jv7 zec)
def zCs (zaa:(Sl Gate)) (iv8:Int) (jv8:Int) (kv8:Int) (zed:Int):St:=⟨[(0,zS enc_55 3 zaa),(4,zI (zaa.len:Int)),(7,zI iv8),(8,zI jv8),(9,zI kv8),(36,zI (zaa.len:Int)),(37,zI zed)],[],[]⟩
abbrev zE1 (K:List PA→Prop) (zaa:(Sl Gate)) (X:St→Prop) (P:Int→Int→Int→Int→Bool) (S:Int→Int→Int→Int→((Sl Int)×Int)):Prop:=∀ ⦃iv8:Int⦄ ⦃jv8:Int⦄ ⦃kv8:Int⦄ ⦃zed:Int⦄,P iv8 jv8 kv8 zed=true→K (e38 (S iv8 jv8 kv8 zed))→X (zCs zaa iv8 jv8 kv8 zed)
section
variable {K:List PA→Prop} {zaa:(Sl Gate)} {zaJ:Bool} {zdn:Int} {X2:St→Prop} {P2:Int→Bool} {S2:Int→((Sl Int)×Int)} {iv3:Int} {jv3:Int} {zeb:Int} {X3:St→Prop} {P3:Int→Int→Int→Bool} {S3:Int→Int→Int→((Sl Int)×Int)} {iv5:Int} {jv5:Int} {zqk:Int} {zql:Bool} {zdo:Int} {X6:St→Prop} {P6:Int→Bool} {S6:Int→((Sl Int)×Int)} {iv7:Int} {jv7:Int} {zec:Int} {X7:St→Prop} {P7:Int→Int→Int→Bool} {S7:Int→Int→Int→((Sl Int)×Int)} {iv8:Int} {jv8:Int} {kv8:Int} {zed:Int} {X8:St→Prop} {P8:Int→Int→Int→Int→Bool} {S8:Int→Int→Int→Int→((Sl Int)×Int)} {iv9:Int} {jv9:Int} {kv9:Int} {zqm:Int} {zqn:Bool}
def zwj (S6:Int→((Sl Int)×Int)) (S7:Int→Int→Int→((Sl Int)×Int)) (S8:Int→Int→Int→Int→((Sl Int)×Int)) (zaa:(Sl Gate)) (iv9:Int) (jv9:Int) (kv9:Int) (zqm:Int) (zqn:Bool):((Sl Int)×Int) :=
  (cond zqn
 ((⟨3,(ziH iv9 [iv9,jv9,kv9])⟩:(Sl Int)),(0:Int))
 (S8 iv9 jv9 (w64 (kv9+(1:Int))) zqm))
def zwk (P6:Int→Bool) (P7:Int→Int→Int→Bool) (P8:Int→Int→Int→Int→Bool) (zaa:(Sl Gate)) (iv9:Int) (jv9:Int) (kv9:Int) (zqm:Int) (zqn:Bool):Bool :=
  (cond zqn
 true
 (P8 iv9 jv9 (w64 (kv9+(1:Int))) zqm))
theorem zE2 (hX6:zwi K zaa X6 P6 S6) (hX7:zA5 K zaa X7 P7 S7) (hX8:zE1 K zaa X8 P8 S8) (hs:zwk P6 P7 P8 zaa iv9 jv9 kv9 zqm zqn=true) (hk:K (e38 (zwj S6 S7 S8 zaa iv9 jv9 kv9 zqm zqn))):z38 (Wk K) [1,1,1,1,0,1,0,0,1,1,0,0,1,1,0,0,1,0,0,1,0,0,1,0,0,1] [X6,X7,X8] ⟨[(0,zS enc_55 3 zaa),(4,zI (zaa.len:Int)),(7,zI iv9),(8,zI jv9),(9,zI kv9),(36,zI (zaa.len:Int)),(37,zI zqm),(60,zB zqn)],[],[]⟩:=zax (by kernel_rfl) (zc hs hk (fun hs hk=>((zd6 (Eq.mpr (congrArg K (congrArg (fun (g_:Nat→List PV)=>([.one (.sl 3 1 g_),.one (.int .i64 (0:Int))]:List PA)) (zeq (enc:=zal) (x:=iv9) (y:=jv9) (r:=[kv9])))) hk)):Wk K [.one (.sl 3 1 (zdf [(zal iv9),(zal jv9),(zal kv9)])),.one (.int .i64 (0:Int))])) (fun hs hk=>(hX8 hs hk)))
def zwl (S6:Int→((Sl Int)×Int)) (S7:Int→Int→Int→((Sl Int)×Int)) (zaa:(Sl Gate)) (S8:Int→Int→Int→Int→((Sl Int)×Int)) (iv8:Int) (jv8:Int) (kv8:Int) (zed:Int):((Sl Int)×Int) :=
  (cond (decide (kv8 < (zaa.len : Int)))
 (zwj S6 S7 S8 zaa iv8 jv8 kv8 zed (!(s84 zaa (⟨3,zcP (zdf [(zal iv8),(zal jv8),(zal kv8)])⟩:(Sl Int)))))
 (S7 iv8 (w64 (jv8+(1:Int))) zed))
def zwm (P6:Int→Bool) (P7:Int→Int→Int→Bool) (zaa:(Sl Gate)) (P8:Int→Int→Int→Int→Bool) (iv8:Int) (jv8:Int) (kv8:Int) (zed:Int):Bool :=
  (cond (decide (kv8 < (zaa.len : Int)))
 (decide ((p84 zaa (⟨3,zcP (zdf [(zal iv8),(zal jv8),(zal kv8)])⟩:(Sl Int))=true)) &&
 (zwk P6 P7 P8 zaa iv8 jv8 kv8 zed (!(s84 zaa (⟨3,zcP (zdf [(zal iv8),(zal jv8),(zal kv8)])⟩:(Sl Int))))))
 (P7 iv8 (w64 (jv8+(1:Int))) zed))
def zwn (S6:Int→((Sl Int)×Int)) (S7:Int→Int→Int→((Sl Int)×Int)) (zaa:(Sl Gate)):Nat→Int→Int→Int→Int→((Sl Int)×Int):=lpO (fun _ _ _ _=>default) (zwl S6 S7 zaa)
def zwo (P6:Int→Bool) (P7:Int→Int→Int→Bool) (zaa:(Sl Gate)):Nat→Int→Int→Int→Int→Bool:=lpO (fun _ _ _ _=>false) (zwm P6 P7 zaa)
def zwp (S6:Int→((Sl Int)×Int)) (S7:Int→Int→Int→((Sl Int)×Int)) (zaa:(Sl Gate)) (iv8:Int) (jv8:Int) (kv8:Int) (zed:Int):((Sl Int)×Int):=zwn S6 S7 zaa Fuel iv8 jv8 kv8 zed
def zwq (P6:Int→Bool) (P7:Int→Int→Int→Bool) (zaa:(Sl Gate)) (iv8:Int) (jv8:Int) (kv8:Int) (zed:Int):Bool:=zwo P6 P7 zaa Fuel iv8 jv8 kv8 zed
theorem zE3 (hX6:zwi K zaa X6 P6 S6) (hX7:zA5 K zaa X7 P7 S7) (hs:zwq P6 P7 zaa iv8 jv8 kv8 zed=true) (hk:K (e38 (zwp S6 S7 zaa iv8 jv8 kv8 zed))):z38 (Wk K) [1,1,1,1,0,1,0,0,1,1,0,0,1,1,0,0,1,0,0,1,0] [X6,X7] (zCs zaa iv8 jv8 kv8 zed) :=
  zl (fun X=>z38 (Wk K) [1,1,1,1,0,1,0,0,1,1,0,0,1,1,0,0,1,0,0,1,0,0] [X6,X7,X]) (by kernel_rfl) fun X8 hX =>
  (show ∀ k, zE1 K zaa X8 (zwo P6 P7 zaa k) (zwn S6 S7 zaa k) from zgh _ _ (zwm P6 P7 zaa) (zwl S6 S7 zaa) (zE1 K zaa X8)
 (by intro _ _ _ _ hs;exact absurd hs Bool.false_ne_true)
 (by intro P8 S8 hX8 iv8 jv8 kv8 zed hs hk;exact hX _ (zax (by kernel_rfl) (zc hs hk (fun hs hk=>(zaw hs fun hc hs=>And.intro (And.intro (zE enc_55 3 zaa.get) (And.intro ((zfm [kv8]):IsE zal 1 1 (zdf [(zal iv8),(zal jv8),(zal kv8)])) hc)) (zE2 hX6 hX7 hX8 hs hk))) (fun hs hk=>(hX7 hs hk)))))) _ hs hk
def zwr (S6:Int→((Sl Int)×Int)) (zaa:(Sl Gate)) (S7:Int→Int→Int→((Sl Int)×Int)) (iv7:Int) (jv7:Int) (zec:Int):((Sl Int)×Int) :=
  (cond (decide (jv7 < (zaa.len : Int)))
 (zwp S6 S7 zaa iv7 jv7 (w64 (jv7+(1:Int))) zec)
 (S6 (w64 (zec+(1:Int)))))
def zwt (P6:Int→Bool) (zaa:(Sl Gate)) (P7:Int→Int→Int→Bool) (iv7:Int) (jv7:Int) (zec:Int):Bool :=
  (cond (decide (jv7 < (zaa.len : Int)))
 (zwq P6 P7 zaa iv7 jv7 (w64 (jv7+(1:Int))) zec)
 (P6 (w64 (zec+(1:Int)))))
def zwu (S6:Int→((Sl Int)×Int)) (zaa:(Sl Gate)):Nat→Int→Int→Int→((Sl Int)×Int):=lpO (fun _ _ _=>default) (zwr S6 zaa)
def zwv (P6:Int→Bool) (zaa:(Sl Gate)):Nat→Int→Int→Int→Bool:=lpO (fun _ _ _=>false) (zwt P6 zaa)
def zww (S6:Int→((Sl Int)×Int)) (zaa:(Sl Gate)) (iv7:Int) (jv7:Int) (zec:Int):((Sl Int)×Int):=zwu S6 zaa Fuel iv7 jv7 zec
def zwx (P6:Int→Bool) (zaa:(Sl Gate)) (iv7:Int) (jv7:Int) (zec:Int):Bool:=zwv P6 zaa Fuel iv7 jv7 zec
theorem zE4 (hX6:zwi K zaa X6 P6 S6) (hs:zwx P6 zaa iv7 jv7 zec=true) (hk:K (e38 (zww S6 zaa iv7 jv7 zec))):z38 (Wk K) [1,1,1,1,0,1,0,0,1,1,0,0,1,1,0] [X6] (zCr zaa iv7 jv7 zec) :=
  zl (fun X=>z38 (Wk K) [1,1,1,1,0,1,0,0,1,1,0,0,1,1,0,0] [X6,X]) (by kernel_rfl) fun X7 hX =>
  (show ∀ k, zA5 K zaa X7 (zwv P6 zaa k) (zwu S6 zaa k) from zgh _ _ (zwt P6 zaa) (zwr S6 zaa) (zA5 K zaa X7)
 (by intro _ _ _ hs;exact absurd hs Bool.false_ne_true)
 (by intro P7 S7 hX7 iv7 jv7 zec hs hk;exact hX _ (zax (by kernel_rfl) (zc hs hk (fun hs hk=>(zE3 hX6 hX7 hs hk)) (fun hs hk=>(hX6 hs hk)))))) _ hs hk
def zwy (zaa:(Sl Gate)) (S6:Int→((Sl Int)×Int)) (zdo:Int):((Sl Int)×Int) :=
  (cond (decide (zdo < (zaa.len : Int)))
 (zww S6 zaa zdo (w64 (zdo+(1:Int))) zdo)
 ((⟨0,fun _=>default⟩:(Sl Int)),(7:Int)))
def zwz (zaa:(Sl Gate)) (P6:Int→Bool) (zdo:Int):Bool :=
  (cond (decide (zdo < (zaa.len : Int)))
 (zwx P6 zaa zdo (w64 (zdo+(1:Int))) zdo)
 true)
def zwA (zaa:(Sl Gate)):Nat→Int→((Sl Int)×Int):=lpO (fun _=>default) (zwy zaa)
def zwB (zaa:(Sl Gate)):Nat→Int→Bool:=lpO (fun _=>false) (zwz zaa)
def zwC (zaa:(Sl Gate)) (zdo:Int):((Sl Int)×Int):=zwA zaa Fuel zdo
def zwD (zaa:(Sl Gate)) (zdo:Int):Bool:=zwB zaa Fuel zdo
theorem zE5 (hs:zwD zaa zdo=true) (hk:K (e38 (zwC zaa zdo))):z38 (Wk K) [1,1,1,1,0,1,0] [] (zCq zaa zdo) :=
  zl (fun X=>z38 (Wk K) [1,1,1,1,0,1,0,0] [X]) (by kernel_rfl) fun X6 hX =>
  (show ∀ k, zwi K zaa X6 (zwB zaa k) (zwA zaa k) from zgh _ _ (zwz zaa) (zwy zaa) (zwi K zaa X6)
 (by intro _ hs;exact absurd hs Bool.false_ne_true)
 (by intro P6 S6 hX6 zdo hs hk;exact hX _ (zax (by kernel_rfl) (zc hs hk (fun hs hk=>(zE4 hX6 hs hk)) (fun hs hk=>((wk hk (zc5 (.one (.nil _ _)) (zc5 (.one (.rfl _)) zgX))):Wk K [.one (.nils),.one (.int .i64 (7:Int))])))))) _ hs hk
def zwE (S2:Int→((Sl Int)×Int)) (S3:Int→Int→Int→((Sl Int)×Int)) (zaa:(Sl Gate)) (iv5:Int) (jv5:Int) (zqk:Int) (zql:Bool):((Sl Int)×Int) :=
  (cond zql
 ((⟨2,(ziH iv5 [iv5,jv5])⟩:(Sl Int)),(0:Int))
 (S3 iv5 (w64 (jv5+(1:Int))) zqk))
def zwF (P2:Int→Bool) (P3:Int→Int→Int→Bool) (zaa:(Sl Gate)) (iv5:Int) (jv5:Int) (zqk:Int) (zql:Bool):Bool :=
  (cond zql
 true
 (P3 iv5 (w64 (jv5+(1:Int))) zqk))
theorem zE6 (hX2:zA4 K zaa X2 P2 S2) (hX3:zE0 K zaa X3 P3 S3) (hs:zwF P2 P3 zaa iv5 jv5 zqk zql=true) (hk:K (e38 (zwE S2 S3 zaa iv5 jv5 zqk zql))):z38 (Wk K) [1,1,1,0,1,0,0,1,1,0,0,1,1,0,0,1,0,0,1] [X2,X3] ⟨[(0,zS enc_55 3 zaa),(4,zI (zaa.len:Int)),(5,zI iv5),(6,zI jv5),(15,zI (zaa.len:Int)),(16,zI zqk),(31,zB zql)],[],[]⟩:=zax (by kernel_rfl) (zc hs hk (fun hs hk=>((zd6 (Eq.mpr (congrArg K (congrArg (fun (g_:Nat→List PV)=>([.one (.sl 2 1 g_),.one (.int .i64 (0:Int))]:List PA)) (zeq (enc:=zal) (x:=iv5) (y:=jv5) (r:=[])))) hk)):Wk K [.one (.sl 2 1 (zdf [(zal iv5),(zal jv5)])),.one (.int .i64 (0:Int))])) (fun hs hk=>(hX3 hs hk)))
def zwG (zaa:(Sl Gate)):((Sl Int)×Int) :=
  (zwC zaa (0:Int))
def zwH (zaa:(Sl Gate)):Bool :=
  (zwD zaa (0:Int))
theorem zE7 (hs:zwH zaa=true) (hk:K (e38 (zwG zaa))):z38 (Wk K) [1,1,1,1] [] ⟨[(0,zS enc_55 3 zaa),(4,zI (zaa.len:Int))],[],[]⟩:=zax (by kernel_rfl) (zE5 hs hk)
def zwI (S2:Int→((Sl Int)×Int)) (zaa:(Sl Gate)) (S3:Int→Int→Int→((Sl Int)×Int)) (iv3:Int) (jv3:Int) (zeb:Int):((Sl Int)×Int) :=
  (cond (decide (jv3 < (zaa.len : Int)))
 (zwE S2 S3 zaa iv3 jv3 zeb (!(s84 zaa (⟨2,zcP (zdf [(zal iv3),(zal jv3)])⟩:(Sl Int)))))
 (S2 (w64 (zeb+(1:Int)))))
def zwJ (P2:Int→Bool) (zaa:(Sl Gate)) (P3:Int→Int→Int→Bool) (iv3:Int) (jv3:Int) (zeb:Int):Bool :=
  (cond (decide (jv3 < (zaa.len : Int)))
 (decide ((p84 zaa (⟨2,zcP (zdf [(zal iv3),(zal jv3)])⟩:(Sl Int))=true)) &&
 (zwF P2 P3 zaa iv3 jv3 zeb (!(s84 zaa (⟨2,zcP (zdf [(zal iv3),(zal jv3)])⟩:(Sl Int))))))
 (P2 (w64 (zeb+(1:Int)))))
def zwK (S2:Int→((Sl Int)×Int)) (zaa:(Sl Gate)):Nat→Int→Int→Int→((Sl Int)×Int):=lpO (fun _ _ _=>default) (zwI S2 zaa)
def zwL (P2:Int→Bool) (zaa:(Sl Gate)):Nat→Int→Int→Int→Bool:=lpO (fun _ _ _=>false) (zwJ P2 zaa)
def zwM (S2:Int→((Sl Int)×Int)) (zaa:(Sl Gate)) (iv3:Int) (jv3:Int) (zeb:Int):((Sl Int)×Int):=zwK S2 zaa Fuel iv3 jv3 zeb
def zwN (P2:Int→Bool) (zaa:(Sl Gate)) (iv3:Int) (jv3:Int) (zeb:Int):Bool:=zwL P2 zaa Fuel iv3 jv3 zeb
theorem zE8 (hX2:zA4 K zaa X2 P2 S2) (hs:zwN P2 zaa iv3 jv3 zeb=true) (hk:K (e38 (zwM S2 zaa iv3 jv3 zeb))):z38 (Wk K) [1,1,1,0,1,0,0,1,1,0,0,1,1,0] [X2] (zCp zaa iv3 jv3 zeb) :=
  zl (fun X=>z38 (Wk K) [1,1,1,0,1,0,0,1,1,0,0,1,1,0,0] [X2,X]) (by kernel_rfl) fun X3 hX =>
  (show ∀ k, zE0 K zaa X3 (zwL P2 zaa k) (zwK S2 zaa k) from zgh _ _ (zwJ P2 zaa) (zwI S2 zaa) (zE0 K zaa X3)
 (by intro _ _ _ hs;exact absurd hs Bool.false_ne_true)
 (by intro P3 S3 hX3 iv3 jv3 zeb hs hk;exact hX _ (zax (by kernel_rfl) (zc hs hk (fun hs hk=>(zaw hs fun hc hs=>And.intro (And.intro (zE enc_55 3 zaa.get) (And.intro ((zfm []):IsE zal 1 1 (zdf [(zal iv3),(zal jv3)])) hc)) (zE6 hX2 hX3 hs hk))) (fun hs hk=>(hX2 hs hk)))))) _ hs hk
def zwO (zaa:(Sl Gate)) (S2:Int→((Sl Int)×Int)) (zdn:Int):((Sl Int)×Int) :=
  (cond (decide (zdn < (zaa.len : Int)))
 (zwM S2 zaa zdn (w64 (zdn+(1:Int))) zdn)
 (zwG zaa))
def zwP (zaa:(Sl Gate)) (P2:Int→Bool) (zdn:Int):Bool :=
  (cond (decide (zdn < (zaa.len : Int)))
 (zwN P2 zaa zdn (w64 (zdn+(1:Int))) zdn)
 (zwH zaa))
def zwQ (zaa:(Sl Gate)):Nat→Int→((Sl Int)×Int):=lpO (fun _=>default) (zwO zaa)
def zwR (zaa:(Sl Gate)):Nat→Int→Bool:=lpO (fun _=>false) (zwP zaa)
def zwS (zaa:(Sl Gate)) (zdn:Int):((Sl Int)×Int):=zwQ zaa Fuel zdn
def zwT (zaa:(Sl Gate)) (zdn:Int):Bool:=zwR zaa Fuel zdn
theorem zE9 (hs:zwT zaa zdn=true) (hk:K (e38 (zwS zaa zdn))):z38 (Wk K) [1,1,1,0,1,0] [] (zCo zaa zdn) :=
  zl (fun X=>z38 (Wk K) [1,1,1,0,1,0,0] [X]) (by kernel_rfl) fun X2 hX =>
  (show ∀ k, zA4 K zaa X2 (zwR zaa k) (zwQ zaa k) from zgh _ _ (zwP zaa) (zwO zaa) (zA4 K zaa X2)
 (by intro _ hs;exact absurd hs Bool.false_ne_true)
 (by intro P2 S2 hX2 zdn hs hk;exact hX _ (zax (by kernel_rfl) (zc hs hk (fun hs hk=>(zE8 hX2 hs hk)) (fun hs hk=>(zE7 hs hk)))))) _ hs hk
def zwU (zaa:(Sl Gate)):((Sl Int)×Int) :=
  (zwS zaa (0:Int))
def zwV (zaa:(Sl Gate)):Bool :=
  (zwT zaa (0:Int))
theorem zFa (hs:zwV zaa=true) (hk:K (e38 (zwU zaa))):z38 (Wk K) [1,1] [] ⟨[(0,zS enc_55 3 zaa)],[],[]⟩:=zax (by kernel_rfl) (zE9 hs hk)
def zwW (zaa:(Sl Gate)) (zaJ:Bool):((Sl Int)×Int) :=
  (cond zaJ
 ((⟨0,fun _=>default⟩:(Sl Int)),(2:Int))
 (zwU zaa))
def zwX (zaa:(Sl Gate)) (zaJ:Bool):Bool :=
  (cond zaJ
 true
 (zwV zaa))
theorem zFb (hs:zwX zaa zaJ=true) (hk:K (e38 (zwW zaa zaJ))):z38 (Wk K) [1,0,1] [] ⟨[(0,zS enc_55 3 zaa),(12,zB zaJ)],[],[]⟩:=zax (by kernel_rfl) (zc hs hk (fun hs hk=>((wk hk (zc5 (.one (.nil _ _)) (zc5 (.one (.rfl _)) zgX))):Wk K [.one (.nils),.one (.int .i64 (2:Int))])) (fun hs hk=>(zFa hs hk)))
def s38 (zaa:(Sl Gate)):((Sl Int)×Int) :=
  (zwW zaa (!(s64 zaa)))
def p38 (zaa:(Sl Gate)):Bool :=
  (decide ((p64 zaa=true)) &&
 (zwX zaa (!(s64 zaa))))
end
theorem q38 (zaa:(Sl Gate)) (K:List PA→Prop) (hs:p38 zaa=true) (hk:K (e38 (s38 zaa))):vcFun Try.prog G38 zEZ 38 [.one (.sl zaa.len 3 (fun i=>enc_55 (zaa.get i)))] (Wk K) :=
  zax (by kernel_rfl) (zaw hs fun hc hs=>And.intro (And.intro (zE enc_55 3 zaa.get) hc) (zFb hs hk))
def zFc : List PA → COut
  | [.one (.sl a0_n a0_s a0_g)]=>.det (IsE enc_55 3 a0_s a0_g∧p38 (⟨a0_n,zad a0_g⟩:(Sl Gate))=true) [.one (.sl (((s38 (⟨a0_n,zad a0_g⟩:(Sl Gate))).1).len) 1 (fun i=>zal (((s38 (⟨a0_n,zad a0_g⟩:(Sl Gate))).1).get i))),.one (.int .i64 ((s38 (⟨a0_n,zad a0_g⟩:(Sl Gate))).2))]
  | _=>.no
theorem zIU:zah Try.prog 38:=⟨_,rfl,rfl,by kernel_rfl⟩
theorem zOB:Ok Try.prog 38 zFc:=zg8 zLA zIU fun args K h=>by
  unfold zFc at h
  split at h
  · rename_i a0_n a0_s a0_g
    obtain ⟨⟨⟨rfl,a0_f,rfl⟩,hs⟩,hk⟩:=h
    try rw [zac a0_f] at hs
    try rw [zac a0_f] at hk
    exact ⟨_,zeU zfF _,(fun _ _=>[]),(fun _=>false),zEZ,q38 (⟨a0_n,a0_f⟩:(Sl Gate)) K hs hk⟩
  · exact h.elim
abbrev T39:Tabs:=Tabs.nil
theorem zLB:TabsOk Try.prog T39:=TabsOk.nil
abbrev G39:Ctrs:=csm T39 (fun _ _=>[]) (fun _=>false)
def zFd:Ann:=⟨46,[(0,zK [0,1] []),(1,zK [0,1,5] []),(2,zK [0,1,5,15] []),(3,zK [0,1,5] []),(4,zK [0,1,5,26] []),(5,zK [4] []),(6,zK [0,1,5,35] []),(7,zK [4] []),(8,zK [0,1,40] []),(9,zK [4] []),(10,zK [45] []),(11,zK [4] []),(12,zK [4] [])],
 [(2,zK [0,1,5] [])],
 [(8,zK [0,1] [])],
 [],[]⟩
abbrev R39:=Int
abbrev e39 (r:R39):List PA:=[.one (.int .i64 r)]
@[irreducible] def z39:=ptF Try.prog G39 zFd Try.f39
def zCt (a:(Sl Int)) (b:(Sl Int)) (iv0:Int):St:=⟨[(0,zS zal 1 a),(1,zS zal 1 b),(5,zI iv0)],[],[]⟩
abbrev zIV (K:List PA→Prop) (a:(Sl Int)) (b:(Sl Int)) (X:St→Prop) (P:Int→Bool) (S:Int→Int):Prop:=∀ ⦃iv0:Int⦄,P iv0=true→K (e39 (S iv0))→X (zCt a b iv0)
section
variable {K:List PA→Prop} {a:(Sl Int)} {b:(Sl Int)} {iv0:Int} {X0:St→Prop} {P0:Int→Bool} {S0:Int→Int}
def zqo (a:(Sl Int)) (b:(Sl Int)):Int :=
  (cond (decide ((a.len : Int) < (b.len : Int)))
 (-1:Int)
 (cond (decide ((a.len : Int) > (b.len : Int)))
 (1:Int)
 (0:Int)))
theorem zwY (hk:K (e39 (zqo a b))):z39 K [1,1] [] ⟨[(0,zS zal 1 a),(1,zS zal 1 b)],[],[]⟩:=zax (by kernel_rfl) (zt hk (fun hk=>hk) (fun hk=>(zt hk (fun hk=>hk) (fun hk=>hk))))
def zwZ (a:(Sl Int)) (b:(Sl Int)) (S0:Int→Int) (iv0:Int):Int :=
  (cond (decide (iv0 < (a.len : Int)))
 (cond (decide (iv0 < (b.len : Int)))
 (cond (decide ((a.get iv0.toNat) < (b.get iv0.toNat)))
 (-1:Int)
 (cond (decide ((a.get iv0.toNat) > (b.get iv0.toNat)))
 (1:Int)
 (S0 (w64 (iv0+(1:Int))))))
 (zqo a b))
 (zqo a b))
def zw0 (a:(Sl Int)) (b:(Sl Int)) (P0:Int→Bool) (iv0:Int):Bool :=
  (cond (decide (iv0 < (a.len : Int)))
 (cond (decide (iv0 < (b.len : Int)))
 (decide ((0≤iv0∧iv0 < (a.len:Int))) &&
 (decide ((0≤iv0∧iv0 < (b.len:Int))) &&
 (cond (decide ((a.get iv0.toNat) < (b.get iv0.toNat)))
 true
 (decide ((0≤iv0∧iv0 < (a.len:Int))) &&
 (decide ((0≤iv0∧iv0 < (b.len:Int))) &&
 (cond (decide ((a.get iv0.toNat) > (b.get iv0.toNat)))
 true
 (P0 (w64 (iv0+(1:Int))))))))))
 true)
 true)
def zw1 (a:(Sl Int)) (b:(Sl Int)):Nat→Int→Int:=lpO (fun _=>default) (zwZ a b)
def zw2 (a:(Sl Int)) (b:(Sl Int)):Nat→Int→Bool:=lpO (fun _=>false) (zw0 a b)
def zw3 (a:(Sl Int)) (b:(Sl Int)) (iv0:Int):Int:=zw1 a b Fuel iv0
def zw4 (a:(Sl Int)) (b:(Sl Int)) (iv0:Int):Bool:=zw2 a b Fuel iv0
theorem zFe (hs:zw4 a b iv0=true) (hk:K (e39 (zw3 a b iv0))):z39 K [1,0,1,0] [] (zCt a b iv0) :=
  zl (fun X=>z39 K [1,0,1,0,0] [X]) (by kernel_rfl) fun X0 hX =>
  (show ∀ k, zIV K a b X0 (zw2 a b k) (zw1 a b k) from zgh _ _ (zw0 a b) (zwZ a b) (zIV K a b X0)
 (by intro _ hs;exact absurd hs Bool.false_ne_true)
 (by intro P0 S0 hX0 iv0 hs hk;exact hX _ (zax (by kernel_rfl) (zc hs hk (fun hs hk=>(zc hs hk (fun hs hk=>(zaw hs fun hc hs=>And.intro hc (zaw hs fun hc hs=>And.intro hc (zc hs hk (fun hs hk=>hk) (fun hs hk=>(zaw hs fun hc hs=>And.intro hc (zaw hs fun hc hs=>And.intro hc (zc hs hk (fun hs hk=>hk) (fun hs hk=>(hX0 hs hk)))))))))) (fun hs hk=>(zwY hk)))) (fun hs hk=>(zwY hk)))))) _ hs hk
def s39 (a:(Sl Int)) (b:(Sl Int)):Int :=
  (zw3 a b (0:Int))
def p39 (a:(Sl Int)) (b:(Sl Int)):Bool :=
  (zw4 a b (0:Int))
end
theorem q39 (a:(Sl Int)) (b:(Sl Int)) (K:List PA→Prop) (hs:p39 a b=true) (hk:K (e39 (s39 a b))):vcFun Try.prog G39 zFd 39 [.one (.sl a.len 1 (fun i=>zal (a.get i))),.one (.sl b.len 1 (fun i=>zal (b.get i)))] K :=
  zax (by kernel_rfl) (zFe hs hk)
def zFf : List PA → COut
  | [.one (.sl a0_n a0_s a0_g),.one (.sl a1_n a1_s a1_g)]=>.det (IsE zal 1 a0_s a0_g∧IsE zal 1 a1_s a1_g∧p39 (⟨a0_n,zcP a0_g⟩:(Sl Int)) (⟨a1_n,zcP a1_g⟩:(Sl Int))=true) [.one (.int .i64 (s39 (⟨a0_n,zcP a0_g⟩:(Sl Int)) (⟨a1_n,zcP a1_g⟩:(Sl Int))))]
  | _=>.no
theorem zIW:zah Try.prog 39:=⟨_,rfl,rfl,by kernel_rfl⟩
theorem zOC:Ok Try.prog 39 zFf:=zaz zLB zIW fun args K h=>by
  unfold zFf at h
  split at h
  · rename_i a0_n a0_s a0_g a1_n a1_s a1_g
    obtain ⟨⟨⟨rfl,a0_f,rfl⟩,⟨rfl,a1_f,rfl⟩,hs⟩,hk⟩:=h
    try rw [zds a0_f] at hs
    try rw [zds a0_f] at hk
    try rw [zds a1_f] at hs
    try rw [zds a1_f] at hk
    exact ⟨(fun _ _=>[]),(fun _=>false),zFd,q39 (⟨a0_n,a0_f⟩:(Sl Int)) (⟨a1_n,a1_f⟩:(Sl Int)) K hs hk⟩
  · exact h.elim
abbrev T73:Tabs:=Tabs.nil
theorem zLC:TabsOk Try.prog T73:=TabsOk.nil
abbrev G73:Ctrs:=csm T73 (fun _ _=>[]) (fun _=>false)
def zFg:Ann:=⟨12,[(0,zK [0,1] []),(1,zK [0,1,6] []),(2,zK [0,1] []),(3,zK [4] [])],
 [(1,zK [0,1] [])],
 [],
 [],[]⟩
abbrev R73:=Int
abbrev e73 (r:R73):List PA:=[.one (.int .i64 r)]
@[irreducible] def z73:=ptF Try.prog G73 zFg Try.f73
def zCu (av0:Int) (bv0:Int):St:=⟨[(0,zI av0),(1,zI bv0)],[],[]⟩
abbrev zIX (K:List PA→Prop) (X:St→Prop) (P:Int→Int→Bool) (S:Int→Int→Int):Prop:=∀ ⦃av0:Int⦄ ⦃bv0:Int⦄,P av0 bv0=true→K (e73 (S av0 bv0))→X (zCu av0 bv0)
section
variable {K:List PA→Prop} {a:Int} {b:Int} {av0:Int} {bv0:Int} {X0:St→Prop} {P0:Int→Int→Bool} {S0:Int→Int→Int}
def zmM (S0:Int→Int→Int) (av0:Int) (bv0:Int):Int :=
  (cond (bv0 != (0:Int))
 (S0 bv0 (av0.tmod bv0))
 av0)
def zmN (P0:Int→Int→Bool) (av0:Int) (bv0:Int):Bool :=
  (cond (bv0 != (0:Int))
 (decide ((bv0 ≠ 0)) &&
 (P0 bv0 (av0.tmod bv0)))
 true)
def zmO:Nat→Int→Int→Int:=lpO (fun _ _=>default) (zmM)
def zmP:Nat→Int→Int→Bool:=lpO (fun _ _=>false) (zmN)
def zw5 (av0:Int) (bv0:Int):Int:=zmO Fuel av0 bv0
def zw6 (av0:Int) (bv0:Int):Bool:=zmP Fuel av0 bv0
theorem zFh (hs:zw6 av0 bv0=true) (hk:K (e73 (zw5 av0 bv0))):z73 K [1,0,0] [] (zCu av0 bv0) :=
  zl (fun X=>z73 K [1,0,0,0] [X]) (by kernel_rfl) fun X0 hX =>
  (show ∀ k, zIX K X0 (zmP k) (zmO k) from zgh _ _ (zmN) (zmM) (zIX K X0)
 (by intro _ _ hs;exact absurd hs Bool.false_ne_true)
 (by intro P0 S0 hX0 av0 bv0 hs hk;exact hX _ (zax (by kernel_rfl) (zc hs hk (fun hs hk=>(zaw hs fun hc hs=>And.intro hc (hX0 hs hk))) (fun hs hk=>hk))))) _ hs hk
def s73 (a:Int) (b:Int):Int :=
  (zw5 a b)
def p73 (a:Int) (b:Int):Bool :=
  (zw6 a b)
end
theorem q73 (a:Int) (b:Int) (K:List PA→Prop) (hs:p73 a b=true) (hk:K (e73 (s73 a b))):vcFun Try.prog G73 zFg 73 [.one (.int .i64 a),.one (.int .i64 b)] K :=
  zax (by kernel_rfl) (zFh hs hk)
def zA6 : List PA → COut
  | [.one (.int .i64 a0),.one (.int .i64 a1)]=>.det (p73 a0 a1=true) [.one (.int .i64 (s73 a0 a1))]
  | _=>.no
theorem zIY:zah Try.prog 73:=⟨_,rfl,rfl,by kernel_rfl⟩
theorem zM3:Ok Try.prog 73 zA6:=zaz zLC zIY fun args K h=>by
  unfold zA6 at h
  split at h
  · rename_i a0 a1
    obtain ⟨hs,hk⟩:=h
    exact ⟨(fun _ _=>[]),(fun _=>false),zFg,q73 a0 a1 K hs hk⟩
  · exact h.elim
abbrev T40:Tabs:=(Tabs.nil.addF 73 zA6)
theorem zLD:TabsOk Try.prog T40:=(TabsOk.nil.addF zM3)
abbrev G40:Ctrs:=csm T40 (fun _ _=>[]) (fun _=>false)
def zIZ:Ann:=⟨19,[(0,zK [0,1,4] [4]),(1,zK [0,1,4,5] [4]),(2,zK [4] [4])],
 [],
 [],
 [],[]⟩
abbrev R40:=Frac
abbrev e40 (r:R40):List PA:=[.agg [.int .i64 r.Num,.int .i64 r.Den]]
section
variable {K:List PA→Prop} {num:Int} {den:Int}
def s40 (num:Int) (den:Int):Frac :=
  (⟨(w64 (num.tdiv (s73 (if (w64 (0 - num)) > num then (w64 (0 - num)) else num) den))),(w64 (den.tdiv (s73 (if (w64 (0 - num)) > num then (w64 (0 - num)) else num) den)))⟩:Frac)
def p40 (num:Int) (den:Int):Bool :=
  (decide ((p73 (if (w64 (0 - num)) > num then (w64 (0 - num)) else num) den=true)) &&
 (decide (((s73 (if (w64 (0 - num)) > num then (w64 (0 - num)) else num) den) ≠ 0)) &&
 (decide (((s73 (if (w64 (0 - num)) > num then (w64 (0 - num)) else num) den) ≠ 0)) &&
 true)))
end
theorem q40 (num:Int) (den:Int) (K:List PA→Prop) (hs:p40 num den=true) (hk:K (e40 (s40 num den))):vcFun Try.prog G40 zIZ 40 [.one (.int .i64 num),.one (.int .i64 den)] K :=
  zax (by kernel_rfl) (zaw hs fun hc hs=>And.intro hc (zaw hs fun hc hs=>And.intro hc (zaw hs fun hc hs=>And.intro hc hk)))
def ztk : List PA → COut
  | [.one (.int .i64 a0),.one (.int .i64 a1)]=>.det (p40 a0 a1=true) [.agg [.int .i64 ((s40 a0 a1).Num),.int .i64 ((s40 a0 a1).Den)]]
  | _=>.no
theorem zI0:zah Try.prog 40:=⟨_,rfl,rfl,by kernel_rfl⟩
theorem zLE:Ok Try.prog 40 ztk:=zaz zLD zI0 fun args K h=>by
  unfold ztk at h
  split at h
  · rename_i a0 a1
    obtain ⟨hs,hk⟩:=h
    exact ⟨(fun _ _=>[]),(fun _=>false),zIZ,q40 a0 a1 K hs hk⟩
  · exact h.elim
abbrev T85:Tabs:=Tabs.nil
theorem zLF:TabsOk Try.prog T85:=TabsOk.nil
abbrev G85:Ctrs:=csm T85 (fun _ _=>[]) (fun _=>false)
def zI1:Ann:=⟨47,[(0,zK [0,1,2,3,4,5] []),(1,zK [0,1,2,13] []),(2,zK [13,14] []),(3,zK [12] [])],
 [],
 [],
 [],[]⟩
abbrev R85:=Int
abbrev e85 (r:R85):List PA:=[.one (.int .i64 r)]
section
variable {K:List PA→Prop} {u:Int} {v:Int} {w:Int} {p:Int} {q:Int} {r_a5:Int}
def s85 (u:Int) (v:Int) (w:Int) (p:Int) (q:Int) (r_a5:Int):Int :=
  (w64 ((w64 ((w64 ((w64 ((1000:Int) * (if (w64 (0 - (w64 ((w64 ((w64 (r_a5 - q)) * (w64 (v - u)))) - (w64 ((w64 (q - p)) * (w64 (w - v)))))))) > (w64 ((w64 ((w64 (r_a5 - q)) * (w64 (v - u)))) - (w64 ((w64 (q - p)) * (w64 (w - v)))))) then (w64 (0 - (w64 ((w64 ((w64 (r_a5 - q)) * (w64 (v - u)))) - (w64 ((w64 (q - p)) * (w64 (w - v)))))))) else (w64 ((w64 ((w64 (r_a5 - q)) * (w64 (v - u)))) - (w64 ((w64 (q - p)) * (w64 (w - v)))))))))+(w64 ((w64 (v - u)) * (w64 (w - v)))))) - (1:Int))).tdiv (w64 ((w64 (v - u)) * (w64 (w - v))))))
def p85 (u:Int) (v:Int) (w:Int) (p:Int) (q:Int) (r_a5:Int):Bool :=
  (decide (((w64 ((w64 (v - u)) * (w64 (w - v)))) ≠ 0)) &&
 true)
end
theorem q85 (u:Int) (v:Int) (w:Int) (p:Int) (q:Int) (r_a5:Int) (K:List PA→Prop) (hs:p85 u v w p q r_a5=true) (hk:K (e85 (s85 u v w p q r_a5))):vcFun Try.prog G85 zI1 85 [.one (.int .i64 u),.one (.int .i64 v),.one (.int .i64 w),.one (.int .i64 p),.one (.int .i64 q),.one (.int .i64 r_a5)] K :=
  zax (by kernel_rfl) (zaw hs fun hc hs=>And.intro hc hk)
def zA7 : List PA → COut
  | [.one (.int .i64 a0),.one (.int .i64 a1),.one (.int .i64 a2),.one (.int .i64 a3),.one (.int .i64 a4),.one (.int .i64 a5)]=>.det (p85 a0 a1 a2 a3 a4 a5=true) [.one (.int .i64 (s85 a0 a1 a2 a3 a4 a5))]
  | _=>.no
theorem zI2:zah Try.prog 85:=⟨_,rfl,rfl,by kernel_rfl⟩
theorem zM4:Ok Try.prog 85 zA7:=zaz zLF zI2 fun args K h=>by
  unfold zA7 at h
  split at h
  · rename_i a0 a1 a2 a3 a4 a5
    obtain ⟨hs,hk⟩:=h
    exact ⟨(fun _ _=>[]),(fun _=>false),zI1,q85 a0 a1 a2 a3 a4 a5 K hs hk⟩
  · exact h.elim
abbrev T92:Tabs:=((Tabs.nil.addF 64 ztf).addF 74 zpr)
theorem zLG:TabsOk Try.prog T92:=((TabsOk.nil.addF zKc).addF zHK)
abbrev G92:Ctrs:=csm T92 (fun _ _=>[]) (fun _=>false)
def zFi:Ann:=⟨41,[(0,zK [0] []),(1,zK [0,5,6,7] []),(2,zK [0,5,6,7,8] []),(3,zK [0,3,4,5,6,7] [4]),(4,zK [0,5,6,7,32] []),(5,zK [2] []),(6,zK [0,5,6,7] []),(7,zK [2] [])],
 [(2,zK [0,5,6,7] [])],
 [],
 [],[]⟩
abbrev R92:=Bool
abbrev e92 (r:R92):List PA:=[.one (.bool r)]
@[irreducible] def z92:=ptF Try.prog G92 zFi Try.f92
def zCv (zaa:(Sl Gate)) (zaX:Int):St:=⟨[(0,zS enc_55 3 zaa),(5,zS enc_55 3 zaa),(6,zI (zaa.len:Int)),(7,zI zaX)],[],[]⟩
abbrev zI3 (K:List PA→Prop) (zaa:(Sl Gate)) (X:St→Prop) (P:Int→Bool) (S:Int→Bool):Prop:=∀ ⦃zaX:Int⦄,P zaX=true→K (e92 (S zaX))→X (zCv zaa zaX)
section
variable {K:List PA→Prop} {zaa:(Sl Gate)} {zaX:Int} {X0:St→Prop} {P0:Int→Bool} {S0:Int→Bool}
def zw7 (zaa:(Sl Gate)) (S0:Int→Bool) (zaX:Int):Bool :=
  (cond (decide (zaX < (zaa.len : Int)))
 (cond (decide ((w64 ((zaa.get zaX.toNat).High - (zaa.get zaX.toNat).Low)) > (60:Int)))
 false
 (cond (decide (zaX > (0:Int)))
 (cond (decide ((zaa.get zaX.toNat).Z ≤ (zaa.get ((w64 (zaX - (1:Int))).toNat)).Z))
 false
 (S0 (w64 (zaX+(1:Int)))))
 (S0 (w64 (zaX+(1:Int))))))
 (cond (s74 (zaa.len : Int) (2:Int) (8:Int))
 (s64 zaa)
 false))
def zw8 (zaa:(Sl Gate)) (P0:Int→Bool) (zaX:Int):Bool :=
  (cond (decide (zaX < (zaa.len : Int)))
 (decide ((0≤zaX∧zaX < (zaa.len:Int))) &&
 (cond (decide ((w64 ((zaa.get zaX.toNat).High - (zaa.get zaX.toNat).Low)) > (60:Int)))
 true
 (cond (decide (zaX > (0:Int)))
 (decide ((0≤(w64 (zaX - (1:Int)))∧(w64 (zaX - (1:Int))) < (zaa.len:Int))) &&
 (cond (decide ((zaa.get zaX.toNat).Z ≤ (zaa.get ((w64 (zaX - (1:Int))).toNat)).Z))
 true
 (P0 (w64 (zaX+(1:Int))))))
 (P0 (w64 (zaX+(1:Int)))))))
 (cond (s74 (zaa.len : Int) (2:Int) (8:Int))
 (decide ((p64 zaa=true)) &&
 true)
 true))
def zw9 (zaa:(Sl Gate)):Nat→Int→Bool:=lpO (fun _=>default) (zw7 zaa)
def zxa (zaa:(Sl Gate)):Nat→Int→Bool:=lpO (fun _=>false) (zw8 zaa)
def zxb (zaa:(Sl Gate)) (zaX:Int):Bool:=zw9 zaa Fuel zaX
def zxc (zaa:(Sl Gate)) (zaX:Int):Bool:=zxa zaa Fuel zaX
theorem zFj (hs:zxc zaa zaX=true) (hk:K (e92 (zxb zaa zaX))):z92 K [1,0,1,0] [] (zCv zaa zaX) :=
  zl (fun X=>z92 K [1,0,1,0,0] [X]) (by kernel_rfl) fun X0 hX =>
  (show ∀ k, zI3 K zaa X0 (zxa zaa k) (zw9 zaa k) from zgh _ _ (zw8 zaa) (zw7 zaa) (zI3 K zaa X0)
 (by intro _ hs;exact absurd hs Bool.false_ne_true)
 (by intro P0 S0 hX0 zaX hs hk;exact hX _ (zax (by kernel_rfl) (zc hs hk (fun hs hk=>(zaw hs fun hc hs=>And.intro hc (zc hs hk (fun hs hk=>hk) (fun hs hk=>(zc hs hk (fun hs hk=>(zaw hs fun hc hs=>And.intro hc (zc hs hk (fun hs hk=>hk) (fun hs hk=>(hX0 hs hk))))) (fun hs hk=>(hX0 hs hk))))))) (fun hs hk=>(zc hs hk (fun hs hk=>(zaw hs fun hc hs=>And.intro (And.intro (zE enc_55 3 zaa.get) hc) hk)) (fun hs hk=>hk))))))) _ hs hk
def s92 (zaa:(Sl Gate)):Bool :=
  (zxb zaa (0:Int))
def p92 (zaa:(Sl Gate)):Bool :=
  (zxc zaa (0:Int))
end
theorem q92 (zaa:(Sl Gate)) (K:List PA→Prop) (hs:p92 zaa=true) (hk:K (e92 (s92 zaa))):vcFun Try.prog G92 zFi 92 [.one (.sl zaa.len 3 (fun i=>enc_55 (zaa.get i)))] K :=
  zax (by kernel_rfl) (zFj hs hk)
def zFk : List PA → COut
  | [.one (.sl a0_n a0_s a0_g)]=>.det (IsE enc_55 3 a0_s a0_g∧p92 (⟨a0_n,zad a0_g⟩:(Sl Gate))=true) [.one (.bool (s92 (⟨a0_n,zad a0_g⟩:(Sl Gate))))]
  | _=>.no
theorem zI4:zah Try.prog 92:=⟨_,rfl,rfl,by kernel_rfl⟩
theorem zOD:Ok Try.prog 92 zFk:=zaz zLG zI4 fun args K h=>by
  unfold zFk at h
  split at h
  · rename_i a0_n a0_s a0_g
    obtain ⟨⟨⟨rfl,a0_f,rfl⟩,hs⟩,hk⟩:=h
    try rw [zac a0_f] at hs
    try rw [zac a0_f] at hk
    exact ⟨(fun _ _=>[]),(fun _=>false),zFi,q92 (⟨a0_n,a0_f⟩:(Sl Gate)) K hs hk⟩
  · exact h.elim
abbrev T93:Tabs:=(Tabs.nil.addF 85 zA7)
theorem zLH:TabsOk Try.prog T93:=(TabsOk.nil.addF zM4)
abbrev G93:Ctrs:=csm T93 (fun _ _=>[]) (fun l=>Nat.beq l 15 || Nat.beq l 24)
def zFl:Ann:=⟨131,[(0,zK [0] []),(1,zK [0,3] []),(2,zK [0,3,4] [15]),(3,zK [0,3,4,5] [15]),(4,zK [0,3,4,5,19] [15]),(5,zK [0,3,4,5] [15]),(6,zK [0,3,4,5] [15]),(7,zK [0,3,4,5,6] [15]),(8,zK [0,3,4,5,6,37] [15]),(9,zK [0,3,4,5,6] [15]),(10,zK [0,3,4,5,6,7] [15]),(11,zK [0,3,4,5,6,7,53] [15]),(12,zK [0,3,4,5,6,7] [15]),(13,zK [0,3,4,5,6,7,59] [15]),(14,zK [0,3,4,5,6,7] [15]),(15,zK [0,3,4,5,6,7,8] [15]),(16,zK [0,3,4,5,6,7,8,9] [15]),(17,zK [0,3,4,5,6,7,8,9,80] [15]),(18,zK [0,3,4,5,6,7,8,9] [15]),(19,zK [0,3,4,5,6,7,8,9,10] [15]),(20,zK [0,3,4,5,6,7,8,9,10,120] [15]),(21,zK [0,3,4,5,6,7,8,9] [15]),(22,zK [0,3,4,5,6,7] [15]),(23,zK [2] [15])],
 [(4,zK [0,3,4,5] [15]),(8,zK [0,3,4,5,6] [15]),(11,zK [0,3,4,5,6,7] [15]),(17,zK [0,3,4,5,6,7,8,9] [15])],
 [(15,zK [0,3,4,5,6,7] [15]),(20,zK [0,3,4,5,6,7,8,9,10] [15])],
 [],[]⟩
abbrev R93:=(Sl Mp)
abbrev e93 (r:R93):List PA:=[.one (.sl r.len 1 (fun i=>zcB (r.get i)))]
@[irreducible] def z93:=ptF Try.prog G93 zFl Try.f93
def zCw (zaa:(Sl Gate)) (iv0:Int) (zbF:Nat) (zbx:(Nat→Bool)) (zby:(Nat→Nat)) (zbU:(Nat→List Int→Option (List Int))):St:=⟨[(0,zS enc_55 3 zaa),(3,zI (zaa.len:Int)),(4,zv 15),(5,zI iv0)],[(15,.vm 129 8 131 3 (true,2,false,[some .i64]) zbF zbx zby zbU)],[]⟩
abbrev zqp (K:List PA→Prop) (zaa:(Sl Gate)) (X:St→Prop) (P:Int→Nat→(Nat→Bool)→(Nat→Nat)→(Nat→List Int→Option (List Int))→Bool) (S:Int→Nat→(Nat→Bool)→(Nat→Nat)→(Nat→List Int→Option (List Int))→(Sl Mp)):Prop:=∀ ⦃iv0:Int⦄ ⦃zbF:Nat⦄ ⦃zbx:(Nat→Bool)⦄ ⦃zby:(Nat→Nat)⦄ ⦃zbU:(Nat→List Int→Option (List Int))⦄,P iv0 zbF zbx zby zbU=true→K (e93 (S iv0 zbF zbx zby zbU))→X (zCw zaa iv0 zbF zbx zby zbU)
def zCx (zaa:(Sl Gate)) (iv1:Int) (pv1:Int) (zbI:Nat) (zbq:(Nat→Bool)) (zbr:(Nat→Nat)) (zbJ:(Nat→List Int→Option (List Int))):St:=⟨[(0,zS enc_55 3 zaa),(3,zI (zaa.len:Int)),(4,zv 15),(5,zI iv1),(6,zI pv1)],[(15,.vm 129 8 131 3 (true,2,false,[some .i64]) zbI zbq zbr zbJ)],[]⟩
abbrev ztl (K:List PA→Prop) (zaa:(Sl Gate)) (X:St→Prop) (P:Int→Int→Nat→(Nat→Bool)→(Nat→Nat)→(Nat→List Int→Option (List Int))→Bool) (S:Int→Int→Nat→(Nat→Bool)→(Nat→Nat)→(Nat→List Int→Option (List Int))→(Sl Mp)):Prop:=∀ ⦃iv1:Int⦄ ⦃pv1:Int⦄ ⦃zbI:Nat⦄ ⦃zbq:(Nat→Bool)⦄ ⦃zbr:(Nat→Nat)⦄ ⦃zbJ:(Nat→List Int→Option (List Int))⦄,P iv1 pv1 zbI zbq zbr zbJ=true→K (e93 (S iv1 pv1 zbI zbq zbr zbJ))→X (zCx zaa iv1 pv1 zbI zbq zbr zbJ)
def zCy (zaa:(Sl Gate)) (iv2:Int) (pv2:Int) (qv2:Int) (zbs:Nat) (za5:(Nat→Bool)) (zaY:(Nat→Nat)) (zbk:(Nat→List Int→Option (List Int))):St:=⟨[(0,zS enc_55 3 zaa),(3,zI (zaa.len:Int)),(4,zv 15),(5,zI iv2),(6,zI pv2),(7,zI qv2)],[(15,.vm 129 8 131 3 (true,2,false,[some .i64]) zbs za5 zaY zbk)],[]⟩
abbrev zxd (K:List PA→Prop) (zaa:(Sl Gate)) (X:St→Prop) (P:Int→Int→Int→Nat→(Nat→Bool)→(Nat→Nat)→(Nat→List Int→Option (List Int))→Bool) (S:Int→Int→Int→Nat→(Nat→Bool)→(Nat→Nat)→(Nat→List Int→Option (List Int))→(Sl Mp)):Prop:=∀ ⦃iv2:Int⦄ ⦃pv2:Int⦄ ⦃qv2:Int⦄ ⦃zbs:Nat⦄ ⦃za5:(Nat→Bool)⦄ ⦃zaY:(Nat→Nat)⦄ ⦃zbk:(Nat→List Int→Option (List Int))⦄,P iv2 pv2 qv2 zbs za5 zaY zbk=true→K (e93 (S iv2 pv2 qv2 zbs za5 zaY zbk))→X (zCy zaa iv2 pv2 qv2 zbs za5 zaY zbk)
def zCz (zaa:(Sl Gate)) (qv3:Int) (iv4:Int) (pv4:Int) (zcv:Int) (rv4:Int) (zbl:Nat) (zbb:(Nat→Bool)) (zbc:(Nat→Nat)) (za8:(Nat→List Int→Option (List Int))):St:=⟨[(0,zS enc_55 3 zaa),(3,zI (zaa.len:Int)),(4,zv 15),(5,zI iv4),(6,zI pv4),(7,zI qv3),(8,zI zcv),(9,zI rv4)],[(15,.vm 129 8 131 3 (true,2,false,[some .i64]) zbl zbb zbc za8)],[]⟩
abbrev zFm (K:List PA→Prop) (zaa:(Sl Gate)) (qv3:Int) (X:St→Prop) (P:Int→Int→Int→Int→Nat→(Nat→Bool)→(Nat→Nat)→(Nat→List Int→Option (List Int))→Bool) (S:Int→Int→Int→Int→Nat→(Nat→Bool)→(Nat→Nat)→(Nat→List Int→Option (List Int))→(Sl Mp)):Prop:=∀ ⦃iv4:Int⦄ ⦃pv4:Int⦄ ⦃zcv:Int⦄ ⦃rv4:Int⦄ ⦃zbl:Nat⦄ ⦃zbb:(Nat→Bool)⦄ ⦃zbc:(Nat→Nat)⦄ ⦃za8:(Nat→List Int→Option (List Int))⦄,P iv4 pv4 zcv rv4 zbl zbb zbc za8=true→K (e93 (S iv4 pv4 zcv rv4 zbl zbb zbc za8))→X (zCz zaa qv3 iv4 pv4 zcv rv4 zbl zbb zbc za8)
section
variable {K:List PA→Prop} {zaa:(Sl Gate)} {iv0:Int} {zbF:Nat} {zbx:(Nat→Bool)} {zby:(Nat→Nat)} {zbU:(Nat→List Int→Option (List Int))} {X0:St→Prop} {P0:Int→Nat→(Nat→Bool)→(Nat→Nat)→(Nat→List Int→Option (List Int))→Bool} {S0:Int→Nat→(Nat→Bool)→(Nat→Nat)→(Nat→List Int→Option (List Int))→(Sl Mp)} {iv1:Int} {pv1:Int} {zbI:Nat} {zbq:(Nat→Bool)} {zbr:(Nat→Nat)} {zbJ:(Nat→List Int→Option (List Int))} {X1:St→Prop} {P1:Int→Int→Nat→(Nat→Bool)→(Nat→Nat)→(Nat→List Int→Option (List Int))→Bool} {S1:Int→Int→Nat→(Nat→Bool)→(Nat→Nat)→(Nat→List Int→Option (List Int))→(Sl Mp)} {iv2:Int} {pv2:Int} {qv2:Int} {zbs:Nat} {za5:(Nat→Bool)} {zaY:(Nat→Nat)} {zbk:(Nat→List Int→Option (List Int))} {X2:St→Prop} {P2:Int→Int→Int→Nat→(Nat→Bool)→(Nat→Nat)→(Nat→List Int→Option (List Int))→Bool} {S2:Int→Int→Int→Nat→(Nat→Bool)→(Nat→Nat)→(Nat→List Int→Option (List Int))→(Sl Mp)} {iv3:Int} {pv3:Int} {qv3:Int} {zf8:Nat} {zeA:(Nat→Bool)} {zeB:(Nat→Nat)} {zf9:(Nat→List Int→Option (List Int))} {iv4:Int} {pv4:Int} {zcv:Int} {rv4:Int} {zbl:Nat} {zbb:(Nat→Bool)} {zbc:(Nat→Nat)} {za8:(Nat→List Int→Option (List Int))} {X4:St→Prop} {P4:Int→Int→Int→Int→Nat→(Nat→Bool)→(Nat→Nat)→(Nat→List Int→Option (List Int))→Bool} {S4:Int→Int→Int→Int→Nat→(Nat→Bool)→(Nat→Nat)→(Nat→List Int→Option (List Int))→(Sl Mp)} {iv5:Int} {pv5:Int} {ze8:Int} {rv5:Int} {kv5:Int} {zdE:Nat} {zcF:(Nat→Bool)} {zcG:(Nat→Nat)} {zdF:(Nat→List Int→Option (List Int))}
def zxe (S0:Int→Nat→(Nat→Bool)→(Nat→Nat)→(Nat→List Int→Option (List Int))→(Sl Mp)) (S1:Int→Int→Nat→(Nat→Bool)→(Nat→Nat)→(Nat→List Int→Option (List Int))→(Sl Mp)) (S2:Int→Int→Int→Nat→(Nat→Bool)→(Nat→Nat)→(Nat→List Int→Option (List Int))→(Sl Mp)) (S4:Int→Int→Int→Int→Nat→(Nat→Bool)→(Nat→Nat)→(Nat→List Int→Option (List Int))→(Sl Mp)) (zaa:(Sl Gate)) (qv3:Int) (iv5:Int) (pv5:Int) (ze8:Int) (rv5:Int) (kv5:Int) (zdE:Nat) (zcF:(Nat→Bool)) (zcG:(Nat→Nat)) (zdF:(Nat→List Int→Option (List Int))):(Sl Mp) :=
  (cond (decide (ze8 < (0:Int)))
 (S4 iv5 pv5 kv5 (w64 (rv5+(1:Int))) zdE zcF zcG zdF)
 (cond (decide (kv5 < ze8))
 (S4 iv5 pv5 kv5 (w64 (rv5+(1:Int))) zdE zcF zcG zdF)
 (S4 iv5 pv5 ze8 (w64 (rv5+(1:Int))) zdE zcF zcG zdF)))
def zxf (P0:Int→Nat→(Nat→Bool)→(Nat→Nat)→(Nat→List Int→Option (List Int))→Bool) (P1:Int→Int→Nat→(Nat→Bool)→(Nat→Nat)→(Nat→List Int→Option (List Int))→Bool) (P2:Int→Int→Int→Nat→(Nat→Bool)→(Nat→Nat)→(Nat→List Int→Option (List Int))→Bool) (P4:Int→Int→Int→Int→Nat→(Nat→Bool)→(Nat→Nat)→(Nat→List Int→Option (List Int))→Bool) (zaa:(Sl Gate)) (qv3:Int) (iv5:Int) (pv5:Int) (ze8:Int) (rv5:Int) (kv5:Int) (zdE:Nat) (zcF:(Nat→Bool)) (zcG:(Nat→Nat)) (zdF:(Nat→List Int→Option (List Int))):Bool :=
  (cond (decide (ze8 < (0:Int)))
 (P4 iv5 pv5 kv5 (w64 (rv5+(1:Int))) zdE zcF zcG zdF)
 (cond (decide (kv5 < ze8))
 (P4 iv5 pv5 kv5 (w64 (rv5+(1:Int))) zdE zcF zcG zdF)
 (P4 iv5 pv5 ze8 (w64 (rv5+(1:Int))) zdE zcF zcG zdF)))
theorem zFn (hX0:zqp K zaa X0 P0 S0) (hX1:ztl K zaa X1 P1 S1) (hX2:zxd K zaa X2 P2 S2) (hX4:zFm K zaa qv3 X4 P4 S4) (hs:zxf P0 P1 P2 P4 zaa qv3 iv5 pv5 ze8 rv5 kv5 zdE zcF zcG zdF=true) (hk:K (e93 (zxe S0 S1 S2 S4 zaa qv3 iv5 pv5 ze8 rv5 kv5 zdE zcF zcG zdF))):z93 K [1,1,1,0,1,0,0,1,0,0,1,1,0,0,1,0,0,1,0,0,1,0,0,1,1,0,1,0,0,1,0,0,1] [X0,X1,X2,X4] ⟨[(0,zS enc_55 3 zaa),(3,zI (zaa.len:Int)),(4,zv 15),(5,zI iv5),(6,zI pv5),(7,zI qv3),(8,zI ze8),(9,zI rv5),(10,zI kv5)],[(15,.vm 129 8 131 3 (true,2,false,[some .i64]) zdE zcF zcG zdF)],[]⟩:=zax (by kernel_rfl) (zc hs hk (fun hs hk=>(hX4 hs hk)) (fun hs hk=>(zc hs hk (fun hs hk=>(hX4 hs hk)) (fun hs hk=>(hX4 hs hk)))))
def zxg (S0:Int→Nat→(Nat→Bool)→(Nat→Nat)→(Nat→List Int→Option (List Int))→(Sl Mp)) (S1:Int→Int→Nat→(Nat→Bool)→(Nat→Nat)→(Nat→List Int→Option (List Int))→(Sl Mp)) (S2:Int→Int→Int→Nat→(Nat→Bool)→(Nat→Nat)→(Nat→List Int→Option (List Int))→(Sl Mp)) (zaa:(Sl Gate)) (qv3:Int) (S4:Int→Int→Int→Int→Nat→(Nat→Bool)→(Nat→Nat)→(Nat→List Int→Option (List Int))→(Sl Mp)) (iv4:Int) (pv4:Int) (zcv:Int) (rv4:Int) (zbl:Nat) (zbb:(Nat→Bool)) (zbc:(Nat→Nat)) (za8:(Nat→List Int→Option (List Int))):(Sl Mp) :=
  (cond (decide (rv4 ≤ (zaa.get ((w64 (iv4 + (2:Int))).toNat)).High))
 (zxe S0 S1 S2 S4 zaa qv3 iv4 pv4 zcv rv4 (if (zdN ((za8 ((w64 (iv4+(1:Int))).toNat)) [qv3,rv4]) 0) > (s85 ((zaa.get iv4.toNat).Z) ((zaa.get ((w64 (iv4+(1:Int))).toNat)).Z) ((zaa.get ((w64 (iv4+(2:Int))).toNat)).Z) pv4 qv3 rv4) then (zdN ((za8 ((w64 (iv4+(1:Int))).toNat)) [qv3,rv4]) 0) else (s85 ((zaa.get iv4.toNat).Z) ((zaa.get ((w64 (iv4+(1:Int))).toNat)).Z) ((zaa.get ((w64 (iv4+(2:Int))).toNat)).Z) pv4 qv3 rv4)) zbl zbb zbc za8)
 (S2 iv4 pv4 (w64 (qv3+(1:Int))) zbl zbb (zcO iv4.toNat (addN ((za8 iv4.toNat) [pv4,qv3]) (zbc iv4.toNat)) zbc) (zcO iv4.toNat (zk4 [pv4,qv3] [zcv] (za8 iv4.toNat)) za8)))
def zxh (P0:Int→Nat→(Nat→Bool)→(Nat→Nat)→(Nat→List Int→Option (List Int))→Bool) (P1:Int→Int→Nat→(Nat→Bool)→(Nat→Nat)→(Nat→List Int→Option (List Int))→Bool) (P2:Int→Int→Int→Nat→(Nat→Bool)→(Nat→Nat)→(Nat→List Int→Option (List Int))→Bool) (zaa:(Sl Gate)) (qv3:Int) (P4:Int→Int→Int→Int→Nat→(Nat→Bool)→(Nat→Nat)→(Nat→List Int→Option (List Int))→Bool) (iv4:Int) (pv4:Int) (zcv:Int) (rv4:Int) (zbl:Nat) (zbb:(Nat→Bool)) (zbc:(Nat→Nat)) (za8:(Nat→List Int→Option (List Int))):Bool :=
  (decide ((0≤(w64 (iv4+(2:Int)))∧(w64 (iv4+(2:Int))) < (zaa.len:Int))) &&
 (cond (decide (rv4 ≤ (zaa.get ((w64 (iv4 + (2:Int))).toNat)).High))
 (decide ((0≤iv4∧iv4 < (zaa.len:Int))) &&
 (decide ((0≤(w64 (iv4+(1:Int)))∧(w64 (iv4+(1:Int))) < (zaa.len:Int))) &&
 (decide ((0≤(w64 (iv4+(2:Int)))∧(w64 (iv4+(2:Int))) < (zaa.len:Int))) &&
 (decide ((p85 ((zaa.get iv4.toNat).Z) ((zaa.get ((w64 (iv4+(1:Int))).toNat)).Z) ((zaa.get ((w64 (iv4+(2:Int))).toNat)).Z) pv4 qv3 rv4=true)) &&
 (decide ((0≤(w64 (iv4+(1:Int)))∧(w64 (iv4+(1:Int))) < (zbl:Int))) &&
 (decide (((w64 (iv4+(1:Int))).toNat < zbl∧zbb ((w64 (iv4+(1:Int))).toNat)=true)) &&
 (decide (((w64 (iv4+(1:Int))).toNat < zbl)) &&
 (zxf P0 P1 P2 P4 zaa qv3 iv4 pv4 zcv rv4 (if (zdN ((za8 ((w64 (iv4+(1:Int))).toNat)) [qv3,rv4]) 0) > (s85 ((zaa.get iv4.toNat).Z) ((zaa.get ((w64 (iv4+(1:Int))).toNat)).Z) ((zaa.get ((w64 (iv4+(2:Int))).toNat)).Z) pv4 qv3 rv4) then (zdN ((za8 ((w64 (iv4+(1:Int))).toNat)) [qv3,rv4]) 0) else (s85 ((zaa.get iv4.toNat).Z) ((zaa.get ((w64 (iv4+(1:Int))).toNat)).Z) ((zaa.get ((w64 (iv4+(2:Int))).toNat)).Z) pv4 qv3 rv4)) zbl zbb zbc za8))))))))
 (decide ((0≤iv4∧iv4 < (zbl:Int))) &&
 (decide ((iv4.toNat < zbl∧zbb iv4.toNat=true)) &&
 (decide ((iv4.toNat < zbl)) &&
 (P2 iv4 pv4 (w64 (qv3+(1:Int))) zbl zbb (zcO iv4.toNat (addN ((za8 iv4.toNat) [pv4,qv3]) (zbc iv4.toNat)) zbc) (zcO iv4.toNat (zk4 [pv4,qv3] [zcv] (za8 iv4.toNat)) za8)))))))
def zxi (S0:Int→Nat→(Nat→Bool)→(Nat→Nat)→(Nat→List Int→Option (List Int))→(Sl Mp)) (S1:Int→Int→Nat→(Nat→Bool)→(Nat→Nat)→(Nat→List Int→Option (List Int))→(Sl Mp)) (S2:Int→Int→Int→Nat→(Nat→Bool)→(Nat→Nat)→(Nat→List Int→Option (List Int))→(Sl Mp)) (zaa:(Sl Gate)) (qv3:Int):Nat→Int→Int→Int→Int→Nat→(Nat→Bool)→(Nat→Nat)→(Nat→List Int→Option (List Int))→(Sl Mp):=lpO (fun _ _ _ _ _ _ _ _=>default) (zxg S0 S1 S2 zaa qv3)
def zxj (P0:Int→Nat→(Nat→Bool)→(Nat→Nat)→(Nat→List Int→Option (List Int))→Bool) (P1:Int→Int→Nat→(Nat→Bool)→(Nat→Nat)→(Nat→List Int→Option (List Int))→Bool) (P2:Int→Int→Int→Nat→(Nat→Bool)→(Nat→Nat)→(Nat→List Int→Option (List Int))→Bool) (zaa:(Sl Gate)) (qv3:Int):Nat→Int→Int→Int→Int→Nat→(Nat→Bool)→(Nat→Nat)→(Nat→List Int→Option (List Int))→Bool:=lpO (fun _ _ _ _ _ _ _ _=>false) (zxh P0 P1 P2 zaa qv3)
def zxk (S0:Int→Nat→(Nat→Bool)→(Nat→Nat)→(Nat→List Int→Option (List Int))→(Sl Mp)) (S1:Int→Int→Nat→(Nat→Bool)→(Nat→Nat)→(Nat→List Int→Option (List Int))→(Sl Mp)) (S2:Int→Int→Int→Nat→(Nat→Bool)→(Nat→Nat)→(Nat→List Int→Option (List Int))→(Sl Mp)) (zaa:(Sl Gate)) (qv3:Int) (iv4:Int) (pv4:Int) (zcv:Int) (rv4:Int) (zbl:Nat) (zbb:(Nat→Bool)) (zbc:(Nat→Nat)) (za8:(Nat→List Int→Option (List Int))):(Sl Mp):=zxi S0 S1 S2 zaa qv3 Fuel iv4 pv4 zcv rv4 zbl zbb zbc za8
def zxl (P0:Int→Nat→(Nat→Bool)→(Nat→Nat)→(Nat→List Int→Option (List Int))→Bool) (P1:Int→Int→Nat→(Nat→Bool)→(Nat→Nat)→(Nat→List Int→Option (List Int))→Bool) (P2:Int→Int→Int→Nat→(Nat→Bool)→(Nat→Nat)→(Nat→List Int→Option (List Int))→Bool) (zaa:(Sl Gate)) (qv3:Int) (iv4:Int) (pv4:Int) (zcv:Int) (rv4:Int) (zbl:Nat) (zbb:(Nat→Bool)) (zbc:(Nat→Nat)) (za8:(Nat→List Int→Option (List Int))):Bool:=zxj P0 P1 P2 zaa qv3 Fuel iv4 pv4 zcv rv4 zbl zbb zbc za8
theorem zFo (hX0:zqp K zaa X0 P0 S0) (hX1:ztl K zaa X1 P1 S1) (hX2:zxd K zaa X2 P2 S2) (hs:zxl P0 P1 P2 zaa qv3 iv4 pv4 zcv rv4 zbl zbb zbc za8=true) (hk:K (e93 (zxk S0 S1 S2 zaa qv3 iv4 pv4 zcv rv4 zbl zbb zbc za8))):z93 K [1,1,1,0,1,0,0,1,0,0,1,1,0,0,1,0,0,1,0,0,1,0,0,1,1,0,1,0] [X0,X1,X2] (zCz zaa qv3 iv4 pv4 zcv rv4 zbl zbb zbc za8) :=
  zl (fun X=>z93 K [1,1,1,0,1,0,0,1,0,0,1,1,0,0,1,0,0,1,0,0,1,0,0,1,1,0,1,0,0] [X0,X1,X2,X]) (by kernel_rfl) fun X4 hX =>
  (show ∀ k, zFm K zaa qv3 X4 (zxj P0 P1 P2 zaa qv3 k) (zxi S0 S1 S2 zaa qv3 k) from zgh _ _ (zxh P0 P1 P2 zaa qv3) (zxg S0 S1 S2 zaa qv3) (zFm K zaa qv3 X4)
 (by intro _ _ _ _ _ _ _ _ hs;exact absurd hs Bool.false_ne_true)
 (by intro P4 S4 hX4 iv4 pv4 zcv rv4 zbl zbb zbc za8 hs hk;exact hX _ (zax (by kernel_rfl) (zaw hs fun hc hs=>And.intro hc (zc hs hk (fun hs hk=>(zaw hs fun hc hs=>And.intro hc (zaw hs fun hc hs=>And.intro hc (zaw hs fun hc hs=>And.intro hc (zaw hs fun hc hs=>And.intro hc (zaw hs fun hc hs=>And.intro hc (zaw hs fun hc hs=>And.intro hc (zaw hs fun hc hs=>And.intro hc (zFn hX0 hX1 hX2 hX4 hs hk))))))))) (fun hs hk=>(zaw hs fun hc hs=>And.intro hc (zaw hs fun hc hs=>And.intro hc (zaw hs fun hc hs=>And.intro hc (hX2 hs hk)))))))))) _ hs hk
def zxm (S0:Int→Nat→(Nat→Bool)→(Nat→Nat)→(Nat→List Int→Option (List Int))→(Sl Mp)) (S1:Int→Int→Nat→(Nat→Bool)→(Nat→Nat)→(Nat→List Int→Option (List Int))→(Sl Mp)) (S2:Int→Int→Int→Nat→(Nat→Bool)→(Nat→Nat)→(Nat→List Int→Option (List Int))→(Sl Mp)) (zaa:(Sl Gate)) (iv3:Int) (pv3:Int) (qv3:Int) (zf8:Nat) (zeA:(Nat→Bool)) (zeB:(Nat→Nat)) (zf9:(Nat→List Int→Option (List Int))):(Sl Mp) :=
  (zxk S0 S1 S2 zaa qv3 iv3 pv3 (-1:Int) ((zaa.get ((w64 (iv3+(2:Int))).toNat)).Low) zf8 zeA zeB zf9)
def zxn (P0:Int→Nat→(Nat→Bool)→(Nat→Nat)→(Nat→List Int→Option (List Int))→Bool) (P1:Int→Int→Nat→(Nat→Bool)→(Nat→Nat)→(Nat→List Int→Option (List Int))→Bool) (P2:Int→Int→Int→Nat→(Nat→Bool)→(Nat→Nat)→(Nat→List Int→Option (List Int))→Bool) (zaa:(Sl Gate)) (iv3:Int) (pv3:Int) (qv3:Int) (zf8:Nat) (zeA:(Nat→Bool)) (zeB:(Nat→Nat)) (zf9:(Nat→List Int→Option (List Int))):Bool :=
  (decide ((0≤(w64 (iv3+(2:Int)))∧(w64 (iv3+(2:Int))) < (zaa.len:Int))) &&
 (zxl P0 P1 P2 zaa qv3 iv3 pv3 (-1:Int) ((zaa.get ((w64 (iv3+(2:Int))).toNat)).Low) zf8 zeA zeB zf9))
theorem zFp (hX0:zqp K zaa X0 P0 S0) (hX1:ztl K zaa X1 P1 S1) (hX2:zxd K zaa X2 P2 S2) (hs:zxn P0 P1 P2 zaa iv3 pv3 qv3 zf8 zeA zeB zf9=true) (hk:K (e93 (zxm S0 S1 S2 zaa iv3 pv3 qv3 zf8 zeA zeB zf9))):z93 K [1,1,1,0,1,0,0,1,0,0,1,1,0,0,1,0,0,1,0,0,1,0,0,1] [X0,X1,X2] ⟨[(0,zS enc_55 3 zaa),(3,zI (zaa.len:Int)),(4,zv 15),(5,zI iv3),(6,zI pv3),(7,zI qv3)],[(15,.vm 129 8 131 3 (true,2,false,[some .i64]) zf8 zeA zeB zf9)],[]⟩:=zax (by kernel_rfl) (zaw hs fun hc hs=>And.intro hc (zFo hX0 hX1 hX2 hs hk))
def zxo (S0:Int→Nat→(Nat→Bool)→(Nat→Nat)→(Nat→List Int→Option (List Int))→(Sl Mp)) (S1:Int→Int→Nat→(Nat→Bool)→(Nat→Nat)→(Nat→List Int→Option (List Int))→(Sl Mp)) (zaa:(Sl Gate)) (S2:Int→Int→Int→Nat→(Nat→Bool)→(Nat→Nat)→(Nat→List Int→Option (List Int))→(Sl Mp)) (iv2:Int) (pv2:Int) (qv2:Int) (zbs:Nat) (za5:(Nat→Bool)) (zaY:(Nat→Nat)) (zbk:(Nat→List Int→Option (List Int))):(Sl Mp) :=
  (cond (decide (qv2 ≤ (zaa.get ((w64 (iv2 + (1:Int))).toNat)).High))
 (cond (iv2 == (w64 ((zaa.len : Int) - (2:Int))))
 (S2 iv2 pv2 (w64 (qv2+(1:Int))) zbs za5 (zcO iv2.toNat (addN ((zbk iv2.toNat) [pv2,qv2]) (zaY iv2.toNat)) zaY) (zcO iv2.toNat (zk4 [pv2,qv2] [(0:Int)] (zbk iv2.toNat)) zbk))
 (zxm S0 S1 S2 zaa iv2 pv2 qv2 zbs za5 zaY zbk))
 (S1 iv2 (w64 (pv2+(1:Int))) zbs za5 zaY zbk))
def zxp (P0:Int→Nat→(Nat→Bool)→(Nat→Nat)→(Nat→List Int→Option (List Int))→Bool) (P1:Int→Int→Nat→(Nat→Bool)→(Nat→Nat)→(Nat→List Int→Option (List Int))→Bool) (zaa:(Sl Gate)) (P2:Int→Int→Int→Nat→(Nat→Bool)→(Nat→Nat)→(Nat→List Int→Option (List Int))→Bool) (iv2:Int) (pv2:Int) (qv2:Int) (zbs:Nat) (za5:(Nat→Bool)) (zaY:(Nat→Nat)) (zbk:(Nat→List Int→Option (List Int))):Bool :=
  (decide ((0≤(w64 (iv2+(1:Int)))∧(w64 (iv2+(1:Int))) < (zaa.len:Int))) &&
 (cond (decide (qv2 ≤ (zaa.get ((w64 (iv2 + (1:Int))).toNat)).High))
 (cond (iv2 == (w64 ((zaa.len : Int) - (2:Int))))
 (decide ((0≤iv2∧iv2 < (zbs:Int))) &&
 (decide ((iv2.toNat < zbs∧za5 iv2.toNat=true)) &&
 (decide ((iv2.toNat < zbs)) &&
 (P2 iv2 pv2 (w64 (qv2+(1:Int))) zbs za5 (zcO iv2.toNat (addN ((zbk iv2.toNat) [pv2,qv2]) (zaY iv2.toNat)) zaY) (zcO iv2.toNat (zk4 [pv2,qv2] [(0:Int)] (zbk iv2.toNat)) zbk)))))
 (zxn P0 P1 P2 zaa iv2 pv2 qv2 zbs za5 zaY zbk))
 (P1 iv2 (w64 (pv2+(1:Int))) zbs za5 zaY zbk)))
def zxq (S0:Int→Nat→(Nat→Bool)→(Nat→Nat)→(Nat→List Int→Option (List Int))→(Sl Mp)) (S1:Int→Int→Nat→(Nat→Bool)→(Nat→Nat)→(Nat→List Int→Option (List Int))→(Sl Mp)) (zaa:(Sl Gate)):Nat→Int→Int→Int→Nat→(Nat→Bool)→(Nat→Nat)→(Nat→List Int→Option (List Int))→(Sl Mp):=lpO (fun _ _ _ _ _ _ _=>default) (zxo S0 S1 zaa)
def zxr (P0:Int→Nat→(Nat→Bool)→(Nat→Nat)→(Nat→List Int→Option (List Int))→Bool) (P1:Int→Int→Nat→(Nat→Bool)→(Nat→Nat)→(Nat→List Int→Option (List Int))→Bool) (zaa:(Sl Gate)):Nat→Int→Int→Int→Nat→(Nat→Bool)→(Nat→Nat)→(Nat→List Int→Option (List Int))→Bool:=lpO (fun _ _ _ _ _ _ _=>false) (zxp P0 P1 zaa)
def zxs (S0:Int→Nat→(Nat→Bool)→(Nat→Nat)→(Nat→List Int→Option (List Int))→(Sl Mp)) (S1:Int→Int→Nat→(Nat→Bool)→(Nat→Nat)→(Nat→List Int→Option (List Int))→(Sl Mp)) (zaa:(Sl Gate)) (iv2:Int) (pv2:Int) (qv2:Int) (zbs:Nat) (za5:(Nat→Bool)) (zaY:(Nat→Nat)) (zbk:(Nat→List Int→Option (List Int))):(Sl Mp):=zxq S0 S1 zaa Fuel iv2 pv2 qv2 zbs za5 zaY zbk
def zxt (P0:Int→Nat→(Nat→Bool)→(Nat→Nat)→(Nat→List Int→Option (List Int))→Bool) (P1:Int→Int→Nat→(Nat→Bool)→(Nat→Nat)→(Nat→List Int→Option (List Int))→Bool) (zaa:(Sl Gate)) (iv2:Int) (pv2:Int) (qv2:Int) (zbs:Nat) (za5:(Nat→Bool)) (zaY:(Nat→Nat)) (zbk:(Nat→List Int→Option (List Int))):Bool:=zxr P0 P1 zaa Fuel iv2 pv2 qv2 zbs za5 zaY zbk
theorem zFq (hX0:zqp K zaa X0 P0 S0) (hX1:ztl K zaa X1 P1 S1) (hs:zxt P0 P1 zaa iv2 pv2 qv2 zbs za5 zaY zbk=true) (hk:K (e93 (zxs S0 S1 zaa iv2 pv2 qv2 zbs za5 zaY zbk))):z93 K [1,1,1,0,1,0,0,1,0,0,1,1,0,0,1,0,0,1,0] [X0,X1] (zCy zaa iv2 pv2 qv2 zbs za5 zaY zbk) :=
  zl (fun X=>z93 K [1,1,1,0,1,0,0,1,0,0,1,1,0,0,1,0,0,1,0,0] [X0,X1,X]) (by kernel_rfl) fun X2 hX =>
  (show ∀ k, zxd K zaa X2 (zxr P0 P1 zaa k) (zxq S0 S1 zaa k) from zgh _ _ (zxp P0 P1 zaa) (zxo S0 S1 zaa) (zxd K zaa X2)
 (by intro _ _ _ _ _ _ _ hs;exact absurd hs Bool.false_ne_true)
 (by intro P2 S2 hX2 iv2 pv2 qv2 zbs za5 zaY zbk hs hk;exact hX _ (zax (by kernel_rfl) (zaw hs fun hc hs=>And.intro hc (zc hs hk (fun hs hk=>(zc hs hk (fun hs hk=>(zaw hs fun hc hs=>And.intro hc (zaw hs fun hc hs=>And.intro hc (zaw hs fun hc hs=>And.intro hc (hX2 hs hk))))) (fun hs hk=>(zFp hX0 hX1 hX2 hs hk)))) (fun hs hk=>(hX1 hs hk))))))) _ hs hk
def zxu (S0:Int→Nat→(Nat→Bool)→(Nat→Nat)→(Nat→List Int→Option (List Int))→(Sl Mp)) (zaa:(Sl Gate)) (S1:Int→Int→Nat→(Nat→Bool)→(Nat→Nat)→(Nat→List Int→Option (List Int))→(Sl Mp)) (iv1:Int) (pv1:Int) (zbI:Nat) (zbq:(Nat→Bool)) (zbr:(Nat→Nat)) (zbJ:(Nat→List Int→Option (List Int))):(Sl Mp) :=
  (cond (decide (pv1 ≤ (zaa.get iv1.toNat).High))
 (zxs S0 S1 zaa iv1 pv1 ((zaa.get ((w64 (iv1+(1:Int))).toNat)).Low) zbI zbq zbr zbJ)
 (S0 (w64 (iv1 - (1:Int))) zbI zbq zbr zbJ))
def zxv (P0:Int→Nat→(Nat→Bool)→(Nat→Nat)→(Nat→List Int→Option (List Int))→Bool) (zaa:(Sl Gate)) (P1:Int→Int→Nat→(Nat→Bool)→(Nat→Nat)→(Nat→List Int→Option (List Int))→Bool) (iv1:Int) (pv1:Int) (zbI:Nat) (zbq:(Nat→Bool)) (zbr:(Nat→Nat)) (zbJ:(Nat→List Int→Option (List Int))):Bool :=
  (decide ((0≤iv1∧iv1 < (zaa.len:Int))) &&
 (cond (decide (pv1 ≤ (zaa.get iv1.toNat).High))
 (decide ((0≤(w64 (iv1+(1:Int)))∧(w64 (iv1+(1:Int))) < (zaa.len:Int))) &&
 (zxt P0 P1 zaa iv1 pv1 ((zaa.get ((w64 (iv1+(1:Int))).toNat)).Low) zbI zbq zbr zbJ))
 (P0 (w64 (iv1 - (1:Int))) zbI zbq zbr zbJ)))
def zxw (S0:Int→Nat→(Nat→Bool)→(Nat→Nat)→(Nat→List Int→Option (List Int))→(Sl Mp)) (zaa:(Sl Gate)):Nat→Int→Int→Nat→(Nat→Bool)→(Nat→Nat)→(Nat→List Int→Option (List Int))→(Sl Mp):=lpO (fun _ _ _ _ _ _=>default) (zxu S0 zaa)
def zxx (P0:Int→Nat→(Nat→Bool)→(Nat→Nat)→(Nat→List Int→Option (List Int))→Bool) (zaa:(Sl Gate)):Nat→Int→Int→Nat→(Nat→Bool)→(Nat→Nat)→(Nat→List Int→Option (List Int))→Bool:=lpO (fun _ _ _ _ _ _=>false) (zxv P0 zaa)
def zxy (S0:Int→Nat→(Nat→Bool)→(Nat→Nat)→(Nat→List Int→Option (List Int))→(Sl Mp)) (zaa:(Sl Gate)) (iv1:Int) (pv1:Int) (zbI:Nat) (zbq:(Nat→Bool)) (zbr:(Nat→Nat)) (zbJ:(Nat→List Int→Option (List Int))):(Sl Mp):=zxw S0 zaa Fuel iv1 pv1 zbI zbq zbr zbJ
def zxz (P0:Int→Nat→(Nat→Bool)→(Nat→Nat)→(Nat→List Int→Option (List Int))→Bool) (zaa:(Sl Gate)) (iv1:Int) (pv1:Int) (zbI:Nat) (zbq:(Nat→Bool)) (zbr:(Nat→Nat)) (zbJ:(Nat→List Int→Option (List Int))):Bool:=zxx P0 zaa Fuel iv1 pv1 zbI zbq zbr zbJ
theorem zFr (hX0:zqp K zaa X0 P0 S0) (hs:zxz P0 zaa iv1 pv1 zbI zbq zbr zbJ=true) (hk:K (e93 (zxy S0 zaa iv1 pv1 zbI zbq zbr zbJ))):z93 K [1,1,1,0,1,0,0,1,0,0,1,1,0] [X0] (zCx zaa iv1 pv1 zbI zbq zbr zbJ) :=
  zl (fun X=>z93 K [1,1,1,0,1,0,0,1,0,0,1,1,0,0] [X0,X]) (by kernel_rfl) fun X1 hX =>
  (show ∀ k, ztl K zaa X1 (zxx P0 zaa k) (zxw S0 zaa k) from zgh _ _ (zxv P0 zaa) (zxu S0 zaa) (ztl K zaa X1)
 (by intro _ _ _ _ _ _ hs;exact absurd hs Bool.false_ne_true)
 (by intro P1 S1 hX1 iv1 pv1 zbI zbq zbr zbJ hs hk;exact hX _ (zax (by kernel_rfl) (zaw hs fun hc hs=>And.intro hc (zc hs hk (fun hs hk=>(zaw hs fun hc hs=>And.intro hc (zFq hX0 hX1 hs hk))) (fun hs hk=>(hX0 hs hk))))))) _ hs hk
def zxA (zaa:(Sl Gate)) (S0:Int→Nat→(Nat→Bool)→(Nat→Nat)→(Nat→List Int→Option (List Int))→(Sl Mp)) (iv0:Int) (zbF:Nat) (zbx:(Nat→Bool)) (zby:(Nat→Nat)) (zbU:(Nat→List Int→Option (List Int))):(Sl Mp) :=
  (cond (decide (iv0 ≥ (0:Int)))
 (zxy S0 zaa iv0 ((zaa.get iv0.toNat).Low) zbF (zcO iv0.toNat true zbx) (zcO iv0.toNat 0 zby) (zcO iv0.toNat (fun _=>none) zbU))
 (⟨zbF,(fun i=>(⟨zby i,zbU i⟩:Mp))⟩:(Sl Mp)))
def zxB (zaa:(Sl Gate)) (P0:Int→Nat→(Nat→Bool)→(Nat→Nat)→(Nat→List Int→Option (List Int))→Bool) (iv0:Int) (zbF:Nat) (zbx:(Nat→Bool)) (zby:(Nat→Nat)) (zbU:(Nat→List Int→Option (List Int))):Bool :=
  (cond (decide (iv0 ≥ (0:Int)))
 (decide ((0≤iv0∧iv0 < (zbF:Int))) &&
 (decide ((iv0.toNat < zbF∧zbx iv0.toNat=false)) &&
 (decide ((0≤iv0∧iv0 < (zaa.len:Int))) &&
 (zxz P0 zaa iv0 ((zaa.get iv0.toNat).Low) zbF (zcO iv0.toNat true zbx) (zcO iv0.toNat 0 zby) (zcO iv0.toNat (fun _=>none) zbU)))))
 true)
def zxC (zaa:(Sl Gate)):Nat→Int→Nat→(Nat→Bool)→(Nat→Nat)→(Nat→List Int→Option (List Int))→(Sl Mp):=lpO (fun _ _ _ _ _=>default) (zxA zaa)
def zxD (zaa:(Sl Gate)):Nat→Int→Nat→(Nat→Bool)→(Nat→Nat)→(Nat→List Int→Option (List Int))→Bool:=lpO (fun _ _ _ _ _=>false) (zxB zaa)
def zxE (zaa:(Sl Gate)) (iv0:Int) (zbF:Nat) (zbx:(Nat→Bool)) (zby:(Nat→Nat)) (zbU:(Nat→List Int→Option (List Int))):(Sl Mp):=zxC zaa Fuel iv0 zbF zbx zby zbU
def zxF (zaa:(Sl Gate)) (iv0:Int) (zbF:Nat) (zbx:(Nat→Bool)) (zby:(Nat→Nat)) (zbU:(Nat→List Int→Option (List Int))):Bool:=zxD zaa Fuel iv0 zbF zbx zby zbU
theorem zFs (hs:zxF zaa iv0 zbF zbx zby zbU=true) (hk:K (e93 (zxE zaa iv0 zbF zbx zby zbU))):z93 K [1,1,1,0,1,0] [] (zCw zaa iv0 zbF zbx zby zbU) :=
  zl (fun X=>z93 K [1,1,1,0,1,0,0] [X]) (by kernel_rfl) fun X0 hX =>
  (show ∀ k, zqp K zaa X0 (zxD zaa k) (zxC zaa k) from zgh _ _ (zxB zaa) (zxA zaa) (zqp K zaa X0)
 (by intro _ _ _ _ _ hs;exact absurd hs Bool.false_ne_true)
 (by intro P0 S0 hX0 iv0 zbF zbx zby zbU hs hk;exact hX _ (zax (by kernel_rfl) (zc hs hk (fun hs hk=>(zaw hs fun hc hs=>And.intro hc (zaw hs fun hc hs=>And.intro hc (zaw hs fun hc hs=>And.intro hc (zFr hX0 hs hk))))) (fun hs hk=>hk))))) _ hs hk
def s93 (zaa:(Sl Gate)):(Sl Mp) :=
  (zxE zaa (w64 ((zaa.len:Int) - (2:Int))) ((w64 ((zaa.len:Int) - (1:Int))).toNat) (fun _=>false) (fun _=>0) (fun _ _=>none))
def p93 (zaa:(Sl Gate)):Bool :=
  (decide ((0≤(w64 ((zaa.len:Int) - (1:Int)))∧(w64 ((zaa.len:Int) - (1:Int)))=(w64 ((zaa.len:Int) - (1:Int)))∧(w64 ((zaa.len:Int) - (1:Int)))≤1000000)) &&
 (zxF zaa (w64 ((zaa.len:Int) - (2:Int))) ((w64 ((zaa.len:Int) - (1:Int))).toNat) (fun _=>false) (fun _=>0) (fun _ _=>none)))
end
theorem q93 (zaa:(Sl Gate)) (K:List PA→Prop) (hs:p93 zaa=true) (hk:K (e93 (s93 zaa))):vcFun Try.prog G93 zFl 93 [.one (.sl zaa.len 3 (fun i=>enc_55 (zaa.get i)))] K :=
  zax (by kernel_rfl) (zaw hs fun hc hs=>And.intro hc (zFs hs hk))
def zFt : List PA → COut
  | [.one (.sl a0_n a0_s a0_g)]=>.det (IsE enc_55 3 a0_s a0_g∧p93 (⟨a0_n,zad a0_g⟩:(Sl Gate))=true) [.one (.sl ((s93 (⟨a0_n,zad a0_g⟩:(Sl Gate))).len) 1 (fun i=>zcB ((s93 (⟨a0_n,zad a0_g⟩:(Sl Gate))).get i)))]
  | _=>.no
theorem zI5:zah Try.prog 93:=⟨_,rfl,rfl,by kernel_rfl⟩
theorem zOE:Ok Try.prog 93 zFt:=zaz zLH zI5 fun args K h=>by
  unfold zFt at h
  split at h
  · rename_i a0_n a0_s a0_g
    obtain ⟨⟨⟨rfl,a0_f,rfl⟩,hs⟩,hk⟩:=h
    try rw [zac a0_f] at hs
    try rw [zac a0_f] at hk
    exact ⟨(fun _ _=>[]),(fun l=>Nat.beq l 15 || Nat.beq l 24),zFl,q93 (⟨a0_n,a0_f⟩:(Sl Gate)) K hs hk⟩
  · exact h.elim
def zM5 (a b:Int):List Int:=(List.range (b - a+1).toNat).map fun (i:Nat)=>a+i
def zos (zaa:Sl Gate):List (List Int):=(zM5 (zaa.get 0).Low (zaa.get 0).High).flatMap fun p=>(zM5 (zaa.get 1).Low (zaa.get 1).High).map fun q=>[p,q]
abbrev T55:Tabs:=(((Tabs.nil.addF 85 zA7).addF 92 zFk).addF 93 zFt)
theorem zLI:TabsOk Try.prog T55:=(((TabsOk.nil.addF zM4).addF zOD).addF zOE)
abbrev G55:Ctrs:=csm T55 (fun _ _=>[]) (fun _=>false)
def zaU:Ann:=⟨145,[(0,⟨[0],[],[],[],[],[],[]⟩),(1,⟨[0,18],[],[],[],[],[],[]⟩),(2,⟨[2,3,4],[],[],[],[],[],[]⟩),(3,⟨[0,5],[],[],[],[],[],[]⟩),(4,⟨[0,5,6],[],[],[],[],[],[]⟩),(5,⟨[0,5,6,24],[24],[],[],[],[],[]⟩),(6,⟨[0,5,6,24,26],[24],[],[],[],[],[]⟩),(7,⟨[0,5,6,8,24],[24],[],[],[],[],[]⟩),(8,⟨[0,5,6,8,24,35],[24],[],[],[],[],[]⟩),(9,⟨[0,5,6,24],[24],[],[],[],[],[]⟩),(10,⟨[0,5,6,9],[],[],[],[],[],[]⟩),(11,⟨[0,5,6,9,10],[],[],[],[],[],[]⟩),(12,⟨[0,5,6,9,10,46],[],[],[],[],[],[]⟩),(13,⟨[0,5,6,9,10],[],[],[],[],[],[]⟩),(14,⟨[0,5,6,9,10,11],[],[],[],[],[],[]⟩),(15,⟨[0,5,6,9,10,11,58],[],[],[],[],[],[]⟩),(16,⟨[0,5,6,9,10,11],[],[],[],[],[],[]⟩),(17,⟨[0,5,6,9,10,11,69],[],[],[],[],[],[]⟩),(18,⟨[0,5,6,9],[72],[],[],[],[],[]⟩),(19,⟨[0,5,6,9,12],[72],[],[],[],[],[]⟩),(20,⟨[0,5,6,9,12,76],[72],[],[],[],[],[]⟩),(21,⟨[0,5,6,9,12],[72],[],[],[],[],[]⟩),(22,⟨[0,5,6,9,12,13,14],[72],[],[],[],[],[]⟩),(23,⟨[0,5,6,9,12,13,14,15],[72],[],[],[],[],[]⟩),(24,⟨[0,5,6,9,12,13,14,15,100],[72],[],[],[],[],[]⟩),(25,⟨[0,5,6,9,12,13,14,15],[72],[],[],[],[],[]⟩),(26,⟨[0,5,6,9,12,13,14,15,138],[72],[],[],[],[],[]⟩),(27,⟨[0,5,6,9,12],[72],[],[],[],[],[]⟩),(28,⟨[2,3,4],[72],[],[],[],[],[]⟩)],
 [(6,⟨[0,5,6,24],[24],[],[],[],[],[]⟩),(12,⟨[0,5,6,9,10],[],[],[],[],[],[]⟩),(15,⟨[0,5,6,9,10,11],[],[],[],[],[],[]⟩),(20,⟨[0,5,6,9,12],[72],[],[],[],[],[]⟩),(24,⟨[0,5,6,9,12,13,14,15],[72],[],[],[],[],[]⟩)],
 [(2,⟨[0,18],[],[],[],[],[],[]⟩),(3,⟨[0],[],[],[],[],[],[]⟩),(4,⟨[0,5],[],[],[],[],[],[]⟩),(10,⟨[0,5,6],[],[],[],[],[],[]⟩),(19,⟨[0,5,6,9],[72],[(9,72,3,fun _=>zal default)],[],[],[],[]⟩),(27,⟨[0,5,6,9,12,13,14,15,138],[72],[],[],[],[],[]⟩)],
 [],[]⟩
def zI6 (zaa:(Sl Gate)) (zga:Bool):St:=⟨[(0,.one (.c (.p (.sl zaa.len 3 (fun i=>enc_55 (zaa.get i)))))),(18,.one (.c (.p (.bool zga))))],[],[]⟩
def zmQ (K:List PA→Prop) (zaa:(Sl Gate)) (zga:Bool):Prop:=vc Try.prog G55 zaU (cdF Try.f55 [1,0,0,1]) (sqK Try.prog G55 zaU (cdF Try.f55 [1,0,1]) (zb7 (zcn Try.prog Try.f55 K))) (zI6 zaa zga)
def zI7 (zaa:(Sl Gate)):St:=⟨[(0,.one (.c (.p (.sl zaa.len 3 (fun i=>enc_55 (zaa.get i))))))],[],[]⟩
def zmR (K:List PA→Prop) (zaa:(Sl Gate)):Prop:=vc Try.prog G55 zaU (cdF Try.f55 [1,0,1]) (zb7 (zcn Try.prog Try.f55 K)) (zI7 zaa)
def zI8 (zaa:(Sl Gate)) (zjL:Nat) (zee:Nat→List PV):St:=⟨[(0,.one (.c (.p (.sl zaa.len 3 (fun i=>enc_55 (zaa.get i)))))),(5,.one (.c (.p (.sl zjL 1 zee))))],[],[]⟩
def zmS (K:List PA→Prop) (zaa:(Sl Gate)) (zjL:Nat) (zee:Nat→List PV):Prop:=vc Try.prog G55 zaU (cdF Try.f55 [1,0,1,1]) (zb7 (zcn Try.prog Try.f55 K)) (zI8 zaa zjL zee)
def zgN (zaa:(Sl Gate)) (zab:(Sl Mp)) (zbd:(List (List Int))) (zaB:Int):St:=⟨[(0,.one (.c (.p (.sl zaa.len 3 (fun i=>enc_55 (zaa.get i)))))),(5,.one (.c (.p (.sl zab.len 1 (fun i=>zcB (zab.get i)))))),(6,.one (.c (.p (.int .i64 zaB)))),(24,.one (.c (.ptr 24 0)))],[(24,.mit (true,2,false,[some .i64]) ((zab.get 0).n) ((zab.get 0).F) zbd)],[]⟩
def zjM (K:List PA→Prop) (zaa:(Sl Gate)) (zab:(Sl Mp)) (zbd:(List (List Int))) (zaB:Int):Prop:=vc Try.prog G55 zaU (cdF Try.f55 [1,0,1,1,1,0,1,0]) (zaZ 0 (sqK Try.prog G55 zaU (cdF Try.f55 [1,0,1,1,1,1]) (zb7 (zcn Try.prog Try.f55 K)))) (zgN zaa zab zbd zaB)
def zI9 (zaa:(Sl Gate)) (zab:(Sl Mp)) (zdc:Int):St:=⟨[(0,.one (.c (.p (.sl zaa.len 3 (fun i=>enc_55 (zaa.get i)))))),(5,.one (.c (.p (.sl zab.len 1 (fun i=>zcB (zab.get i)))))),(6,.one (.c (.p (.int .i64 zdc))))],[],[]⟩
def zmT (K:List PA→Prop) (zaa:(Sl Gate)) (zab:(Sl Mp)) (zdc:Int):Prop:=vc Try.prog G55 zaU (cdF Try.f55 [1,0,1,1,1,1]) (zb7 (zcn Try.prog Try.f55 K)) (zI9 zaa zab zdc)
def zh4 (zaa:(Sl Gate)) (zab:(Sl Mp)) (zaN:Int) (pv5:Int):St:=⟨[(0,.one (.c (.p (.sl zaa.len 3 (fun i=>enc_55 (zaa.get i)))))),(5,.one (.c (.p (.sl zab.len 1 (fun i=>zcB (zab.get i)))))),(6,.one (.c (.p (.int .i64 zaN)))),(9,.one (.c (.p (.nils)))),(10,.one (.c (.p (.int .i64 pv5))))],[],[]⟩
def zjN (K:List PA→Prop) (zaa:(Sl Gate)) (zab:(Sl Mp)) (zaN:Int) (pv5:Int):Prop:=vc Try.prog G55 zaU (cdF Try.f55 [1,0,1,1,1,1,1,1,0,1,0]) (zaZ 2 (sqK Try.prog G55 zaU (cdF Try.f55 [1,0,1,1,1,1,1,1,1]) (zb7 (zcn Try.prog Try.f55 K)))) (zh4 zaa zab zaN pv5)
def zjO (zaa:(Sl Gate)) (zab:(Sl Mp)) (zaI:Int) (pv6:Int) (qv6:Int):St:=⟨[(0,.one (.c (.p (.sl zaa.len 3 (fun i=>enc_55 (zaa.get i)))))),(5,.one (.c (.p (.sl zab.len 1 (fun i=>zcB (zab.get i)))))),(6,.one (.c (.p (.int .i64 zaI)))),(9,.one (.c (.p (.nils)))),(10,.one (.c (.p (.int .i64 pv6)))),(11,.one (.c (.p (.int .i64 qv6))))],[],[]⟩
def zjP (K:List PA→Prop) (X5:St→Prop) (zaa:(Sl Gate)) (zab:(Sl Mp)) (zaI:Int) (pv6:Int) (qv6:Int):Prop:=vc Try.prog G55 zaU (cdF Try.f55 [1,0,1,1,1,1,1,1,0,1,0,0,1,0,0,1,0]) (zaZ 4 (zaZ 3 (sqK Try.prog G55 zaU (cdF Try.f55 [1,0,1,1,1,1,1,1,0,1,0,0,1,1]) (zdT Try.prog zaU 12 X5 (zaZ 2 (sqK Try.prog G55 zaU (cdF Try.f55 [1,0,1,1,1,1,1,1,1]) (zb7 (zcn Try.prog Try.f55 K)))))))) (zjO zaa zab zaI pv6 qv6)
def zJa (zaa:(Sl Gate)) (zab:(Sl Mp)) (zdd:Int) (zqq:Nat) (zhq:Nat→List PV):St:=⟨[(0,.one (.c (.p (.sl zaa.len 3 (fun i=>enc_55 (zaa.get i)))))),(5,.one (.c (.p (.sl zab.len 1 (fun i=>zcB (zab.get i)))))),(6,.one (.c (.p (.int .i64 zdd)))),(9,.one (.c (.vec 72)))],[(72,.vec 3 1 8 zqq zhq)],[]⟩
def zjQ (K:List PA→Prop) (zaa:(Sl Gate)) (zab:(Sl Mp)) (zdd:Int) (zqq:Nat) (zhq:Nat→List PV):Prop:=vc Try.prog G55 zaU (cdF Try.f55 [1,0,1,1,1,1,1,1,1]) (zb7 (zcn Try.prog Try.f55 K)) (zJa zaa zab zdd zqq zhq)
def zfG (zaa:(Sl Gate)) (zab:(Sl Mp)) (zaK:Int) (iv8:Int) (ze9:Nat) (zbz:Nat→List PV):St:=⟨[(0,.one (.c (.p (.sl zaa.len 3 (fun i=>enc_55 (zaa.get i)))))),(5,.one (.c (.p (.sl zab.len 1 (fun i=>zcB (zab.get i)))))),(6,.one (.c (.p (.int .i64 zaK)))),(9,.one (.c (.vec 72))),(12,.one (.c (.p (.int .i64 iv8))))],[(72,.vec 3 1 8 ze9 zbz)],[]⟩
def zjR (K:List PA→Prop) (zaa:(Sl Gate)) (zab:(Sl Mp)) (zaK:Int) (iv8:Int) (ze9:Nat) (zbz:Nat→List PV):Prop:=vc Try.prog G55 zaU (cdF Try.f55 [1,0,1,1,1,1,1,1,1,0,1,0]) (zaZ 6 (sqK Try.prog G55 zaU (cdF Try.f55 [1,0,1,1,1,1,1,1,1,1]) (zb7 (zcn Try.prog Try.f55 K)))) (zfG zaa zab zaK iv8 ze9 zbz)
def zh5 (zaa:(Sl Gate)) (zab:(Sl Mp)) (zay:Int) (iv9:Int) (pv9:Int) (qv9:Int) (rv9:Int) (zfa:Nat) (zbG:Nat→List PV):St:=⟨[(0,.one (.c (.p (.sl zaa.len 3 (fun i=>enc_55 (zaa.get i)))))),(5,.one (.c (.p (.sl zab.len 1 (fun i=>zcB (zab.get i)))))),(6,.one (.c (.p (.int .i64 zay)))),(9,.one (.c (.vec 72))),(12,.one (.c (.p (.int .i64 iv9)))),(13,.one (.c (.p (.int .i64 pv9)))),(14,.one (.c (.p (.int .i64 qv9)))),(15,.one (.c (.p (.int .i64 rv9))))],[(72,.vec 3 1 8 zfa zbG)],[]⟩
def zjS (K:List PA→Prop) (X8:St→Prop) (zaa:(Sl Gate)) (zab:(Sl Mp)) (zay:Int) (iv9:Int) (pv9:Int) (qv9:Int) (rv9:Int) (zfa:Nat) (zbG:Nat→List PV):Prop:=vc Try.prog G55 zaU (cdF Try.f55 [1,0,1,1,1,1,1,1,1,0,1,0,0,1,0,0,1,1,0]) (zaZ 8 (zaZ 7 (sqK Try.prog G55 zaU (cdF Try.f55 [1,0,1,1,1,1,1,1,1,0,1,0,0,1,1]) (zdT Try.prog zaU 20 X8 (zaZ 6 (sqK Try.prog G55 zaU (cdF Try.f55 [1,0,1,1,1,1,1,1,1,1]) (zb7 (zcn Try.prog Try.f55 K)))))))) (zh5 zaa zab zay iv9 pv9 qv9 rv9 zfa zbG)
def zFu (zaa:(Sl Gate)) (zab:(Sl Mp)) (zbK:Int) (zgY:Int) (zoM:Int) (zoN:Int) (zkH:Int) (zcs:Bool) (zmU:Nat) (zfv:Nat→List PV):St:=⟨[(0,.one (.c (.p (.sl zaa.len 3 (fun i=>enc_55 (zaa.get i)))))),(5,.one (.c (.p (.sl zab.len 1 (fun i=>zcB (zab.get i)))))),(6,.one (.c (.p (.int .i64 zbK)))),(9,.one (.c (.vec 72))),(12,.one (.c (.p (.int .i64 zgY)))),(13,.one (.c (.p (.int .i64 zoM)))),(14,.one (.c (.p (.int .i64 zoN)))),(15,.one (.c (.p (.int .i64 zkH)))),(138,.one (.c (.p (.bool zcs))))],[(72,.vec 3 1 8 zmU zfv)],[]⟩
def zgO (K:List PA→Prop) (X8:St→Prop) (X9:St→Prop) (zaa:(Sl Gate)) (zab:(Sl Mp)) (zbK:Int) (zgY:Int) (zoM:Int) (zoN:Int) (zkH:Int) (zcs:Bool) (zmU:Nat) (zfv:Nat→List PV):Prop:=vc Try.prog G55 zaU (cdF Try.f55 [1,0,1,1,1,1,1,1,1,0,1,0,0,1,0,0,1,1,0,0,1,0,0,1]) (zaZ 9 (sqK Try.prog G55 zaU (cdF Try.f55 [1,0,1,1,1,1,1,1,1,0,1,0,0,1,0,0,1,1,0,0,1,1]) (zdT Try.prog zaU 24 X9 (zaZ 8 (zaZ 7 (sqK Try.prog G55 zaU (cdF Try.f55 [1,0,1,1,1,1,1,1,1,0,1,0,0,1,1]) (zdT Try.prog zaU 20 X8 (zaZ 6 (sqK Try.prog G55 zaU (cdF Try.f55 [1,0,1,1,1,1,1,1,1,1]) (zb7 (zcn Try.prog Try.f55 K))))))))))) (zFu zaa zab zbK zgY zoM zoN zkH zcs zmU zfv)
theorem zFv (zaa : (Sl Gate)) (K : List PA → Prop) :
  vcFun Try.prog G55 zaU 55 [.one (.sl zaa.len 3 (fun i=>enc_55 (zaa.get i)))] K =
  ((IsE enc_55 3 3 (fun i=>enc_55 (zaa.get i))∧(p92 zaa=true)) ∧
 (zmQ K zaa (!(s92 zaa)))):=by kernel_rfl
theorem zFw (K : List PA → Prop) (zaa : (Sl Gate)) (zga : Bool) :
  zmQ K zaa zga =
  (zcY zga
 (K [.one (.nils),.one (.int .i64 (0:Int)),.one (.int .i64 (2:Int))])
 (zmR K zaa)):=by kernel_rfl
theorem zFx (K : List PA → Prop) (zaa : (Sl Gate)) :
  zmR K zaa =
  ((IsE enc_55 3 3 (fun i=>enc_55 (zaa.get i))∧(p93 zaa=true)) ∧
 (zmS K zaa ((s93 zaa).len) (fun i=>zcB ((s93 zaa).get i)))):=by kernel_rfl
theorem zFy (K : List PA → Prop) (zaa : (Sl Gate)) (zab : (Sl Mp)) :
  zmS K zaa zab.len (fun i=>zcB (zab.get i)) =
  (((0≤(0:Int)∧(0:Int) < (zab.len:Int))) ∧
 (zjM K zaa zab ([]) (-1:Int))):=by kernel_rfl
def zot (K:List PA→Prop) (X3:St→Prop) (zaa:(Sl Gate)) (zab:(Sl Mp)) (zbd:(List (List Int))) (zaB:Int):Prop :=
  (zHb 2 ((zab.get 0).n) ((zab.get 0).F) →
 ((∀ c:List Int,c.length=2→((zab.get 0).F) c ≠ none→c∈zbd) →
 (zmT K zaa zab zaB))∧∀ k24_0 k24_1:Int,((zab.get 0).F) [k24_0,k24_1] ≠ none→[k24_0,k24_1] ∉ zbd →
 (zcY (decide (zaB < (0:Int)))
 (X3 (zgN zaa zab ([k24_0,k24_1] :: zbd) (zdN (((zab.get 0).F) [k24_0,k24_1]) 0)))
 (zcY (decide ((zdN (((zab.get 0).F) [k24_0, k24_1]) 0) < zaB))
 (X3 (zgN zaa zab ([k24_0,k24_1] :: zbd) (zdN (((zab.get 0).F) [k24_0,k24_1]) 0)))
 (X3 (zgN zaa zab ([k24_0,k24_1] :: zbd) zaB)))))
theorem zqr (K : List PA → Prop) (X3 : St → Prop) (zaa : (Sl Gate)) (zab : (Sl Mp)) (zbd : (List (List Int))) (zaB : Int) :
  vc Try.prog G55 zaU (cd (cdF Try.f55 [1,0,1,1,1,0,1,0]) [0]) (zdT Try.prog zaU 6 X3 (zaZ 0 (sqK Try.prog G55 zaU (cdF Try.f55 [1,0,1,1,1,1]) (zb7 (zcn Try.prog Try.f55 K))))) (zgN zaa zab zbd zaB) =
  zot K X3 zaa zab zbd zaB:=by kernel_rfl
theorem zxG (K : List PA → Prop) (zaa : (Sl Gate)) (zab : (Sl Mp)) (zbd : (List (List Int))) (zaB : Int)
  (h:∀ X3:St→Prop,(∀ (zbd:(List (List Int))) (zaB:Int),zot K X3 zaa zab zbd zaB→X3 (zgN zaa zab zbd zaB))→X3 (zgN zaa zab zbd zaB)) :
  zjM K zaa zab zbd zaB:=by
  have e:zjM K zaa zab zbd zaB=(∀ X:St→Prop,(∀ s,vc Try.prog G55 zaU (cd (cdF Try.f55 [1,0,1,1,1,0,1,0]) [0]) (zdT Try.prog zaU 6 X (zaZ 0 (sqK Try.prog G55 zaU (cdF Try.f55 [1,0,1,1,1,1]) (zb7 (zcn Try.prog Try.f55 K))))) s→X s)→X (zgN zaa zab zbd zaB)):=by kernel_rfl
  refine zax e ?_
  intro X hX
  refine h X ?_
  intro zbd zaB hs
  refine hX _ ?_
  have e2:=zqr K X zaa zab zbd zaB
  rw [e2]
  exact hs
theorem zFz (K : List PA → Prop) (zaa : (Sl Gate)) (zab : (Sl Mp)) (zdc : Int) :
  zmT K zaa zab zdc =
  (((0≤(0:Int)∧(0:Int) < (zaa.len:Int))) ∧
 (zjN K zaa zab zdc ((zaa.get 0).Low))):=by kernel_rfl
def zou (K:List PA→Prop) (X5:St→Prop) (zaa:(Sl Gate)) (zab:(Sl Mp)) (zaN:Int) (pv5:Int):Prop :=
  (((0≤(0:Int)∧(0:Int) < (zaa.len:Int))) ∧
 (zcY (decide (pv5 ≤ (zaa.get 0).High))
 (((0≤(1:Int)∧(1:Int) < (zaa.len:Int))) ∧
 (zjP K X5 zaa zab zaN pv5 ((zaa.get 1).Low)))
 (zjQ K zaa zab zaN 0 (fun i=>zal ((fun _=>default) i)))))
theorem zqs (K : List PA → Prop) (X5 : St → Prop) (zaa : (Sl Gate)) (zab : (Sl Mp)) (zaN : Int) (pv5 : Int) :
  vc Try.prog G55 zaU (cd (cdF Try.f55 [1,0,1,1,1,1,1,1,0,1,0]) [0]) (zdT Try.prog zaU 12 X5 (zaZ 2 (sqK Try.prog G55 zaU (cdF Try.f55 [1,0,1,1,1,1,1,1,1]) (zb7 (zcn Try.prog Try.f55 K))))) (zh4 zaa zab zaN pv5) =
  zou K X5 zaa zab zaN pv5:=by kernel_rfl
theorem zxH (K : List PA → Prop) (zaa : (Sl Gate)) (zab : (Sl Mp)) (zaN : Int) (pv5 : Int)
  (h:∀ X5:St→Prop,(∀ (zaN:Int) (pv5:Int),zou K X5 zaa zab zaN pv5→X5 (zh4 zaa zab zaN pv5))→X5 (zh4 zaa zab zaN pv5)) :
  zjN K zaa zab zaN pv5:=by
  have e:zjN K zaa zab zaN pv5=(∀ X:St→Prop,(∀ s,vc Try.prog G55 zaU (cd (cdF Try.f55 [1,0,1,1,1,1,1,1,0,1,0]) [0]) (zdT Try.prog zaU 12 X (zaZ 2 (sqK Try.prog G55 zaU (cdF Try.f55 [1,0,1,1,1,1,1,1,1]) (zb7 (zcn Try.prog Try.f55 K))))) s→X s)→X (zh4 zaa zab zaN pv5)):=by kernel_rfl
  refine zax e ?_
  intro X hX
  refine h X ?_
  intro zaN pv5 hs
  refine hX _ ?_
  have e2:=zqs K X zaa zab zaN pv5
  rw [e2]
  exact hs
def zov (K:List PA→Prop) (X5:St→Prop) (X6:St→Prop) (zaa:(Sl Gate)) (zab:(Sl Mp)) (zaI:Int) (pv6:Int) (qv6:Int):Prop :=
  (((0≤(1:Int)∧(1:Int) < (zaa.len:Int))) ∧
 (zcY (decide (qv6 ≤ (zaa.get 1).High))
 (((0≤(0:Int)∧(0:Int) < (zab.len:Int))) ∧
 (zcY ((zdN (((zab.get 0).F) [pv6, qv6]) 0) == zaI)
 (zjQ K zaa zab zaI 2 (zdf [(zal pv6),(zal qv6)]))
 (X6 (zjO zaa zab zaI pv6 (w64 (qv6+(1:Int)))))))
 (X5 (zh4 zaa zab zaI (w64 (pv6+(1:Int)))))))
theorem zqu (K : List PA → Prop) (X5 : St → Prop) (X6 : St → Prop) (zaa : (Sl Gate)) (zab : (Sl Mp)) (zaI : Int) (pv6 : Int) (qv6 : Int) :
  vc Try.prog G55 zaU (cd (cdF Try.f55 [1,0,1,1,1,1,1,1,0,1,0,0,1,0,0,1,0]) [0]) (zdT Try.prog zaU 15 X6 (zaZ 4 (zaZ 3 (sqK Try.prog G55 zaU (cdF Try.f55 [1,0,1,1,1,1,1,1,0,1,0,0,1,1]) (zdT Try.prog zaU 12 X5 (zaZ 2 (sqK Try.prog G55 zaU (cdF Try.f55 [1,0,1,1,1,1,1,1,1]) (zb7 (zcn Try.prog Try.f55 K))))))))) (zjO zaa zab zaI pv6 qv6) =
  zov K X5 X6 zaa zab zaI pv6 qv6:=by kernel_rfl
theorem zxI (K : List PA → Prop) (X5 : St → Prop) (zaa : (Sl Gate)) (zab : (Sl Mp)) (zaI : Int) (pv6 : Int) (qv6 : Int)
  (h:∀ X6:St→Prop,(∀ (zaI:Int) (pv6:Int) (qv6:Int),zov K X5 X6 zaa zab zaI pv6 qv6→X6 (zjO zaa zab zaI pv6 qv6))→X6 (zjO zaa zab zaI pv6 qv6)) :
  zjP K X5 zaa zab zaI pv6 qv6:=by
  have e:zjP K X5 zaa zab zaI pv6 qv6=(∀ X:St→Prop,(∀ s,vc Try.prog G55 zaU (cd (cdF Try.f55 [1,0,1,1,1,1,1,1,0,1,0,0,1,0,0,1,0]) [0]) (zdT Try.prog zaU 15 X (zaZ 4 (zaZ 3 (sqK Try.prog G55 zaU (cdF Try.f55 [1,0,1,1,1,1,1,1,0,1,0,0,1,1]) (zdT Try.prog zaU 12 X5 (zaZ 2 (sqK Try.prog G55 zaU (cdF Try.f55 [1,0,1,1,1,1,1,1,1]) (zb7 (zcn Try.prog Try.f55 K))))))))) s→X s)→X (zjO zaa zab zaI pv6 qv6)):=by kernel_rfl
  refine zax e ?_
  intro X hX
  refine h X ?_
  intro zaI pv6 qv6 hs
  refine hX _ ?_
  have e2:=zqu K X5 X zaa zab zaI pv6 qv6
  rw [e2]
  exact hs
theorem zFA (K : List PA → Prop) (zaa : (Sl Gate)) (zab : (Sl Mp)) (zdd : Int) (zfz : (Sl Int)) :
  zjQ K zaa zab zdd zfz.len (fun i=>zal (zfz.get i)) =
  (zjR K zaa zab zdd (2:Int) zfz.len (fun i=>zal (zfz.get i))):=by kernel_rfl
def zow (K:List PA→Prop) (X8:St→Prop) (zaa:(Sl Gate)) (zab:(Sl Mp)) (zaK:Int) (iv8:Int) (zaT:(Sl Int)):Prop :=
  (zcY (decide (iv8 < (zaa.len : Int)))
 (((0≤(w64 (iv8 - (2:Int)))∧(w64 (iv8 - (2:Int))) < (zaT.len:Int))) ∧
 ((((w64 (iv8 - (2:Int))).toNat < zaT.len)) ∧
 (((0≤(w64 (iv8 - (1:Int)))∧(w64 (iv8 - (1:Int))) < (zaT.len:Int))) ∧
 ((((w64 (iv8 - (1:Int))).toNat < zaT.len)) ∧
 (((0≤iv8∧iv8 < (zaa.len:Int))) ∧
 (zjS K X8 zaa zab zaK iv8 (zaT.get ((w64 (iv8 - (2:Int))).toNat)) (zaT.get ((w64 (iv8 - (1:Int))).toNat)) ((zaa.get iv8.toNat).Low) zaT.len (fun i=>zal (zaT.get i))))))))
 (K [.one (.sl zaT.len 1 (fun i=>zal (zaT.get i))),.one (.int .i64 zaK),.one (.int .i64 (0:Int))]))
theorem zqv (K : List PA → Prop) (X8 : St → Prop) (zaa : (Sl Gate)) (zab : (Sl Mp)) (zaK : Int) (iv8 : Int) (zaT : (Sl Int)) :
  vc Try.prog G55 zaU (cd (cdF Try.f55 [1,0,1,1,1,1,1,1,1,0,1,0]) [0]) (zdT Try.prog zaU 20 X8 (zaZ 6 (sqK Try.prog G55 zaU (cdF Try.f55 [1,0,1,1,1,1,1,1,1,1]) (zb7 (zcn Try.prog Try.f55 K))))) (zfG zaa zab zaK iv8 zaT.len (fun i=>zal (zaT.get i))) =
  zow K X8 zaa zab zaK iv8 zaT:=by kernel_rfl
theorem zxJ (K : List PA → Prop) (zaa : (Sl Gate)) (zab : (Sl Mp)) (zaK : Int) (iv8 : Int) (ze9 : Nat) (zbz : Nat → List PV)
  (h:∀ X8:St→Prop,(∀ (zaK:Int) (iv8:Int) (zaT:(Sl Int)),zow K X8 zaa zab zaK iv8 zaT→X8 (zfG zaa zab zaK iv8 zaT.len (fun i=>zal (zaT.get i))))→X8 (zfG zaa zab zaK iv8 ze9 zbz)) :
  zjR K zaa zab zaK iv8 ze9 zbz:=by
  have e:zjR K zaa zab zaK iv8 ze9 zbz=(∀ X:St→Prop,(∀ s,vc Try.prog G55 zaU (cd (cdF Try.f55 [1,0,1,1,1,1,1,1,1,0,1,0]) [0]) (zdT Try.prog zaU 20 X (zaZ 6 (sqK Try.prog G55 zaU (cdF Try.f55 [1,0,1,1,1,1,1,1,1,1]) (zb7 (zcn Try.prog Try.f55 K))))) s→X s)→X (zfG zaa zab zaK iv8 ze9 zbz)):=by kernel_rfl
  refine zax e ?_
  intro X hX
  refine h X ?_
  intro zaK iv8 zaT hs
  refine hX _ ?_
  have e2:=zqv K X zaa zab zaK iv8 zaT
  rw [e2]
  exact hs
def zox (K:List PA→Prop) (X8:St→Prop) (X9:St→Prop) (zaa:(Sl Gate)) (zab:(Sl Mp)) (zay:Int) (iv9:Int) (pv9:Int) (qv9:Int) (rv9:Int) (zbg:(Sl Int)):Prop :=
  (((0≤iv9∧iv9 < (zaa.len:Int))) ∧
 (zcY (decide (rv9 ≤ (zaa.get iv9.toNat).High))
 (((0≤(w64 (iv9 - (2:Int)))∧(w64 (iv9 - (2:Int))) < (zaa.len:Int))) ∧
 (((0≤(w64 (iv9 - (1:Int)))∧(w64 (iv9 - (1:Int))) < (zaa.len:Int))) ∧
 (((0≤iv9∧iv9 < (zaa.len:Int))) ∧
 (((p85 ((zaa.get ((w64 (iv9 - (2:Int))).toNat)).Z) ((zaa.get ((w64 (iv9 - (1:Int))).toNat)).Z) ((zaa.get iv9.toNat).Z) pv9 qv9 rv9=true)) ∧
 (zcY (decide ((s85 ((zaa.get ((w64 (iv9 - (2:Int))).toNat)).Z) ((zaa.get ((w64 (iv9 - (1:Int))).toNat)).Z) ((zaa.get iv9.toNat).Z) pv9 qv9 rv9) ≤ zay))
 (((0≤(w64 (iv9 - (1:Int)))∧(w64 (iv9 - (1:Int))) < (zab.len:Int))) ∧
 (zgO K X8 X9 zaa zab zay iv9 pv9 qv9 rv9 (decide ((zdN (((zab.get ((w64 (iv9 - (1:Int))).toNat)).F) [qv9,rv9]) 0)≤zay)) zbg.len (fun i=>zal (zbg.get i))))
 (zgO K X8 X9 zaa zab zay iv9 pv9 qv9 rv9 false zbg.len (fun i=>zal (zbg.get i))))))))
 (X8 (zfG zaa zab zay (w64 (iv9+(1:Int))) zbg.len (fun i=>zal (zbg.get i))))))
theorem zqw (K : List PA → Prop) (X8 : St → Prop) (X9 : St → Prop) (zaa : (Sl Gate)) (zab : (Sl Mp)) (zay : Int) (iv9 : Int) (pv9 : Int) (qv9 : Int) (rv9 : Int) (zbg : (Sl Int)) :
  vc Try.prog G55 zaU (cd (cdF Try.f55 [1,0,1,1,1,1,1,1,1,0,1,0,0,1,0,0,1,1,0]) [0]) (zdT Try.prog zaU 24 X9 (zaZ 8 (zaZ 7 (sqK Try.prog G55 zaU (cdF Try.f55 [1,0,1,1,1,1,1,1,1,0,1,0,0,1,1]) (zdT Try.prog zaU 20 X8 (zaZ 6 (sqK Try.prog G55 zaU (cdF Try.f55 [1,0,1,1,1,1,1,1,1,1]) (zb7 (zcn Try.prog Try.f55 K))))))))) (zh5 zaa zab zay iv9 pv9 qv9 rv9 zbg.len (fun i=>zal (zbg.get i))) =
  zox K X8 X9 zaa zab zay iv9 pv9 qv9 rv9 zbg:=by kernel_rfl
theorem zxK (K : List PA → Prop) (X8 : St → Prop) (zaa : (Sl Gate)) (zab : (Sl Mp)) (zay : Int) (iv9 : Int) (pv9 : Int) (qv9 : Int) (rv9 : Int) (zfa : Nat) (zbG : Nat → List PV)
  (h:∀ X9:St→Prop,(∀ (zay:Int) (iv9:Int) (pv9:Int) (qv9:Int) (rv9:Int) (zbg:(Sl Int)),zox K X8 X9 zaa zab zay iv9 pv9 qv9 rv9 zbg→X9 (zh5 zaa zab zay iv9 pv9 qv9 rv9 zbg.len (fun i=>zal (zbg.get i))))→X9 (zh5 zaa zab zay iv9 pv9 qv9 rv9 zfa zbG)) :
  zjS K X8 zaa zab zay iv9 pv9 qv9 rv9 zfa zbG:=by
  have e:zjS K X8 zaa zab zay iv9 pv9 qv9 rv9 zfa zbG=(∀ X:St→Prop,(∀ s,vc Try.prog G55 zaU (cd (cdF Try.f55 [1,0,1,1,1,1,1,1,1,0,1,0,0,1,0,0,1,1,0]) [0]) (zdT Try.prog zaU 24 X (zaZ 8 (zaZ 7 (sqK Try.prog G55 zaU (cdF Try.f55 [1,0,1,1,1,1,1,1,1,0,1,0,0,1,1]) (zdT Try.prog zaU 20 X8 (zaZ 6 (sqK Try.prog G55 zaU (cdF Try.f55 [1,0,1,1,1,1,1,1,1,1]) (zb7 (zcn Try.prog Try.f55 K))))))))) s→X s)→X (zh5 zaa zab zay iv9 pv9 qv9 rv9 zfa zbG)):=by kernel_rfl
  refine zax e ?_
  intro X hX
  refine h X ?_
  intro zay iv9 pv9 qv9 rv9 zbg hs
  refine hX _ ?_
  have e2:=zqw K X8 X zaa zab zay iv9 pv9 qv9 rv9 zbg
  rw [e2]
  exact hs
theorem zA8 (K : List PA → Prop) (X8 : St → Prop) (X9 : St → Prop) (zaa : (Sl Gate)) (zab : (Sl Mp)) (zbK : Int) (zgY : Int) (zoM : Int) (zoN : Int) (zkH : Int) (zcs : Bool) (zbm : (Sl Int)) :
  zgO K X8 X9 zaa zab zbK zgY zoM zoN zkH zcs zbm.len (fun i=>zal (zbm.get i)) =
  (zcY zcs
 ((((zbm.len+1) * 8≤140737488355328∧zbm.len+1≤9223372036854775807)) ∧
 (X8 (zfG zaa zab zbK (w64 (zgY+(1:Int))) (zbm.len+1) (appG zbm.len (fun i=>zal (zbm.get i)) (fun _=>(zal zkH))))))
 (X9 (zh5 zaa zab zbK zgY zoM zoN (w64 (zkH+(1:Int))) zbm.len (fun i=>zal (zbm.get i))))):=by kernel_rfl
abbrev e55 (r:((Sl Int)×Int×Int)):List PA:=[.one (.sl r.1.len 1 (fun i=>zal (r.1.get i))),.one (.int .i64 r.2.1),.one (.int .i64 r.2.2)]
attribute [irreducible] zmQ zmR zmS zjM zmT zjN zjP zjQ zjR zjS zgO
def ziF (S8:Int→Int→(Sl Int)→((Sl Int)×Int×Int)) (S9:Int→Int→Int→Int→Int→(Sl Int)→((Sl Int)×Int×Int)) (zaa:(Sl Gate)) (zab:(Sl Mp)) (zbK:Int) (zgY:Int) (zoM:Int) (zoN:Int) (zkH:Int) (zcs:Bool) (zbm:(Sl Int)):((Sl Int)×Int×Int) :=
  (cond zcs
 (S8 zbK (w64 (zgY+(1:Int))) (⟨(zbm.len+1),(zd5 zbm.len zbm.get (fun _=>zkH))⟩:Sl Int))
 (S9 zbK zgY zoM zoN (w64 (zkH+(1:Int))) zbm))
def ziG (P8:Int→Int→(Sl Int)→Bool) (P9:Int→Int→Int→Int→Int→(Sl Int)→Bool) (zaa:(Sl Gate)) (zab:(Sl Mp)) (zbK:Int) (zgY:Int) (zoM:Int) (zoN:Int) (zkH:Int) (zcs:Bool) (zbm:(Sl Int)):Bool :=
  (cond zcs
 (decide (((zbm.len+1) * 8≤140737488355328∧zbm.len+1≤9223372036854775807)) &&
 (P8 zbK (w64 (zgY+(1:Int))) (⟨(zbm.len+1),(zd5 zbm.len zbm.get (fun _=>zkH))⟩:Sl Int)))
 (P9 zbK zgY zoM zoN (w64 (zkH+(1:Int))) zbm))
theorem zsh (K : List PA → Prop) (zaa : (Sl Gate)) (zab : (Sl Mp))
  (X8:St→Prop) (P8:Int→Int→(Sl Int)→Bool) (S8:Int→Int→(Sl Int)→((Sl Int)×Int×Int))
  (hX8:∀ (zaK:Int) (iv8:Int) (zaT:(Sl Int)) (zbz:Nat→List PV) (zgb:zbz=fun i=>zal (zaT.get i)),P8 zaK iv8 zaT=true→K (e55 (S8 zaK iv8 zaT))→X8 (zfG zaa zab zaK iv8 zaT.len zbz))
  (X9:St→Prop) (P9:Int→Int→Int→Int→Int→(Sl Int)→Bool) (S9:Int→Int→Int→Int→Int→(Sl Int)→((Sl Int)×Int×Int))
  (hX9:∀ (zay:Int) (iv9:Int) (pv9:Int) (qv9:Int) (rv9:Int) (zbg:(Sl Int)) (zbG:Nat→List PV) (zhr:zbG=fun i=>zal (zbg.get i)),P9 zay iv9 pv9 qv9 rv9 zbg=true→K (e55 (S9 zay iv9 pv9 qv9 rv9 zbg))→X9 (zh5 zaa zab zay iv9 pv9 qv9 rv9 zbg.len zbG)) (zbK:Int) (zgY:Int) (zoM:Int) (zoN:Int) (zkH:Int) (zcs:Bool) (zbm:(Sl Int)) (zfv:Nat→List PV) (zA9:zfv=fun i=>zal (zbm.get i)) (hs:ziG P8 P9 zaa zab zbK zgY zoM zoN zkH zcs zbm=true) (hk:K (e55 (ziF S8 S9 zaa zab zbK zgY zoM zoN zkH zcs zbm))):zgO (Wk K) X8 X9 zaa zab zbK zgY zoM zoN zkH zcs zbm.len zfv:=by
  subst zA9
  refine zax (zA8 (Wk K) X8 X9 zaa zab zbK zgY zoM zoN zkH zcs zbm) ?_
  unfold ziG at hs
  unfold ziF at hk
  exact (zcf (K := fun r => K (e55 r))
 (fun hs hk=>(zaw hs fun hc hs=>⟨hc,(hX8 zbK (w64 (zgY+(1:Int))) (⟨(zbm.len+1),(zd5 zbm.len zbm.get (fun _=>zkH))⟩:Sl Int) (appG zbm.len (fun i=>zal (zbm.get i)) (fun _=>(zal zkH))) (zjk (enc:=zal) (f:=zbm.get) (h:=(fun _=>zkH)) rfl rfl) hs hk)⟩))
 (fun hs hk=>(hX9 zbK zgY zoM zoN (w64 (zkH+(1:Int))) zbm (fun i=>zal (zbm.get i)) rfl hs hk)) hs hk)
def zqx (S8:Int→Int→(Sl Int)→((Sl Int)×Int×Int)) (zaa:(Sl Gate)) (zab:(Sl Mp)) (S9:Int→Int→Int→Int→Int→(Sl Int)→((Sl Int)×Int×Int)) (zay:Int) (iv9:Int) (pv9:Int) (qv9:Int) (rv9:Int) (zbg:(Sl Int)):((Sl Int)×Int×Int) :=
  (cond (decide (rv9 ≤ (zaa.get iv9.toNat).High))
 (cond (decide ((s85 ((zaa.get ((w64 (iv9 - (2:Int))).toNat)).Z) ((zaa.get ((w64 (iv9 - (1:Int))).toNat)).Z) ((zaa.get iv9.toNat).Z) pv9 qv9 rv9) ≤ zay))
 (ziF S8 S9 zaa zab zay iv9 pv9 qv9 rv9 (decide ((zdN (((zab.get ((w64 (iv9 - (1:Int))).toNat)).F) [qv9,rv9]) 0)≤zay)) zbg)
 (ziF S8 S9 zaa zab zay iv9 pv9 qv9 rv9 false zbg))
 (S8 zay (w64 (iv9+(1:Int))) zbg))
def zqy (P8:Int→Int→(Sl Int)→Bool) (zaa:(Sl Gate)) (zab:(Sl Mp)) (P9:Int→Int→Int→Int→Int→(Sl Int)→Bool) (zay:Int) (iv9:Int) (pv9:Int) (qv9:Int) (rv9:Int) (zbg:(Sl Int)):Bool :=
  (decide ((0≤iv9∧iv9 < (zaa.len:Int))) &&
 (cond (decide (rv9 ≤ (zaa.get iv9.toNat).High))
 (decide ((0≤(w64 (iv9 - (2:Int)))∧(w64 (iv9 - (2:Int))) < (zaa.len:Int))) &&
 (decide ((0≤(w64 (iv9 - (1:Int)))∧(w64 (iv9 - (1:Int))) < (zaa.len:Int))) &&
 (decide ((0≤iv9∧iv9 < (zaa.len:Int))) &&
 (decide ((p85 ((zaa.get ((w64 (iv9 - (2:Int))).toNat)).Z) ((zaa.get ((w64 (iv9 - (1:Int))).toNat)).Z) ((zaa.get iv9.toNat).Z) pv9 qv9 rv9=true)) &&
 (cond (decide ((s85 ((zaa.get ((w64 (iv9 - (2:Int))).toNat)).Z) ((zaa.get ((w64 (iv9 - (1:Int))).toNat)).Z) ((zaa.get iv9.toNat).Z) pv9 qv9 rv9) ≤ zay))
 (decide ((0≤(w64 (iv9 - (1:Int)))∧(w64 (iv9 - (1:Int))) < (zab.len:Int))) &&
 (ziG P8 P9 zaa zab zay iv9 pv9 qv9 rv9 (decide ((zdN (((zab.get ((w64 (iv9 - (1:Int))).toNat)).F) [qv9,rv9]) 0)≤zay)) zbg))
 (ziG P8 P9 zaa zab zay iv9 pv9 qv9 rv9 false zbg))))))
 (P8 zay (w64 (iv9+(1:Int))) zbg)))
def zjT (S8 : Int → Int → (Sl Int) → ((Sl Int) × Int × Int)) (zaa : (Sl Gate)) (zab : (Sl Mp)) : Nat → Int → Int → Int → Int → Int → (Sl Int) → ((Sl Int) × Int × Int)
  | 0=>fun _ _ _ _ _ _=>default
  | k+1=>zqx S8 zaa zab (zjT S8 zaa zab k)
def zjU (P8 : Int → Int → (Sl Int) → Bool) (zaa : (Sl Gate)) (zab : (Sl Mp)) : Nat → Int → Int → Int → Int → Int → (Sl Int) → Bool
  | 0=>fun _ _ _ _ _ _=>false
  | k+1=>zqy P8 zaa zab (zjU P8 zaa zab k)
def zxL (S8:Int→Int→(Sl Int)→((Sl Int)×Int×Int)) (zaa:(Sl Gate)) (zab:(Sl Mp)) (zay:Int) (iv9:Int) (pv9:Int) (qv9:Int) (rv9:Int) (zbg:(Sl Int)):((Sl Int)×Int×Int):=zjT S8 zaa zab Fuel zay iv9 pv9 qv9 rv9 zbg
def zxM (P8:Int→Int→(Sl Int)→Bool) (zaa:(Sl Gate)) (zab:(Sl Mp)) (zay:Int) (iv9:Int) (pv9:Int) (qv9:Int) (rv9:Int) (zbg:(Sl Int)):Bool:=zjU P8 zaa zab Fuel zay iv9 pv9 qv9 rv9 zbg
theorem zFB (K : List PA → Prop) (zaa : (Sl Gate)) (zab : (Sl Mp))
  (X8:St→Prop) (P8:Int→Int→(Sl Int)→Bool) (S8:Int→Int→(Sl Int)→((Sl Int)×Int×Int))
  (hX8:∀ (zaK:Int) (iv8:Int) (zaT:(Sl Int)) (zbz:Nat→List PV) (zgb:zbz=fun i=>zal (zaT.get i)),P8 zaK iv8 zaT=true→K (e55 (S8 zaK iv8 zaT))→X8 (zfG zaa zab zaK iv8 zaT.len zbz)) (zay:Int) (iv9:Int) (pv9:Int) (qv9:Int) (rv9:Int) (zbg:(Sl Int)) (zbG:Nat→List PV) (zhr:zbG=fun i=>zal (zbg.get i)) (hs:zxM P8 zaa zab zay iv9 pv9 qv9 rv9 zbg=true) (hk:K (e55 (zxL S8 zaa zab zay iv9 pv9 qv9 rv9 zbg))):zjS (Wk K) X8 zaa zab zay iv9 pv9 qv9 rv9 zbg.len zbG:=by
  refine zxK (Wk K) X8 zaa zab zay iv9 pv9 qv9 rv9 zbg.len zbG ?_
  intro X9 hstep
  have key:∀ (k:Nat) (zay:Int) (iv9:Int) (pv9:Int) (qv9:Int) (rv9:Int) (zbg:(Sl Int)) (zbG:Nat→List PV) (zhr:zbG=fun i=>zal (zbg.get i)),zjU P8 zaa zab k zay iv9 pv9 qv9 rv9 zbg=true→K (e55 (zjT S8 zaa zab k zay iv9 pv9 qv9 rv9 zbg))→X9 (zh5 zaa zab zay iv9 pv9 qv9 rv9 zbg.len zbG):=by
    intro k
    induction k with
    | zero=>intro zay iv9 pv9 qv9 rv9 zbg zbG zhr hs;exact absurd hs Bool.false_ne_true
    | succ k ih =>
      intro zay iv9 pv9 qv9 rv9 zbg zbG zhr hs hk
      subst zhr
      refine hstep zay iv9 pv9 qv9 rv9 zbg ?_
      have hs:zqy P8 zaa zab (zjU P8 zaa zab k) zay iv9 pv9 qv9 rv9 zbg=true:=hs
      have hk:K (e55 (zqx S8 zaa zab (zjT S8 zaa zab k) zay iv9 pv9 qv9 rv9 zbg)):=hk
      unfold zqy at hs
      unfold zqx at hk
      generalize zjT S8 zaa zab k=S9 at hk ih
      generalize zjU P8 zaa zab k=P9 at hs ih
      have hX9:=ih
      exact (zaw hs fun hc hs => ⟨hc, (zcf (K := fun r => K (e55 r))
 (fun hs hk => (zaw hs fun hc hs => ⟨hc, (zaw hs fun hc hs => ⟨hc, (zaw hs fun hc hs => ⟨hc, (zaw hs fun hc hs => ⟨hc, (zcf (K := fun r => K (e55 r))
 (fun hs hk=>(zaw hs fun hc hs=>⟨hc,(zsh K zaa zab X8 P8 S8 hX8 X9 P9 S9 hX9 zay iv9 pv9 qv9 rv9 (decide ((zdN (((zab.get ((w64 (iv9 - (1:Int))).toNat)).F) [qv9,rv9]) 0)≤zay)) zbg (fun i=>zal (zbg.get i)) rfl hs hk)⟩))
 (fun hs hk=>(zsh K zaa zab X8 P8 S8 hX8 X9 P9 S9 hX9 zay iv9 pv9 qv9 rv9 false zbg (fun i=>zal (zbg.get i)) rfl hs hk)) hs hk)⟩)⟩)⟩)⟩))
 (fun hs hk=>(hX8 zay (w64 (iv9+(1:Int))) zbg (fun i=>zal (zbg.get i)) rfl hs hk)) hs hk)⟩)
  exact key _ zay iv9 pv9 qv9 rv9 zbg zbG zhr hs hk
def zqz (zaa:(Sl Gate)) (zab:(Sl Mp)) (S8:Int→Int→(Sl Int)→((Sl Int)×Int×Int)) (zaK:Int) (iv8:Int) (zaT:(Sl Int)):((Sl Int)×Int×Int) :=
  (cond (decide (iv8 < (zaa.len : Int)))
 (zxL S8 zaa zab zaK iv8 (zaT.get ((w64 (iv8 - (2:Int))).toNat)) (zaT.get ((w64 (iv8 - (1:Int))).toNat)) ((zaa.get iv8.toNat).Low) zaT)
 (zaT,zaK,(0:Int)))
def zqA (zaa:(Sl Gate)) (zab:(Sl Mp)) (P8:Int→Int→(Sl Int)→Bool) (zaK:Int) (iv8:Int) (zaT:(Sl Int)):Bool :=
  (cond (decide (iv8 < (zaa.len : Int)))
 (decide ((0≤(w64 (iv8 - (2:Int)))∧(w64 (iv8 - (2:Int))) < (zaT.len:Int))) &&
 (decide (((w64 (iv8 - (2:Int))).toNat < zaT.len)) &&
 (decide ((0≤(w64 (iv8 - (1:Int)))∧(w64 (iv8 - (1:Int))) < (zaT.len:Int))) &&
 (decide (((w64 (iv8 - (1:Int))).toNat < zaT.len)) &&
 (decide ((0≤iv8∧iv8 < (zaa.len:Int))) &&
 (zxM P8 zaa zab zaK iv8 (zaT.get ((w64 (iv8 - (2:Int))).toNat)) (zaT.get ((w64 (iv8 - (1:Int))).toNat)) ((zaa.get iv8.toNat).Low) zaT))))))
 true)
def zjV (zaa : (Sl Gate)) (zab : (Sl Mp)) : Nat → Int → Int → (Sl Int) → ((Sl Int) × Int × Int)
  | 0=>fun _ _ _=>default
  | k+1=>zqz zaa zab (zjV zaa zab k)
def zjW (zaa : (Sl Gate)) (zab : (Sl Mp)) : Nat → Int → Int → (Sl Int) → Bool
  | 0=>fun _ _ _=>false
  | k+1=>zqA zaa zab (zjW zaa zab k)
def zxN (zaa:(Sl Gate)) (zab:(Sl Mp)) (zaK:Int) (iv8:Int) (zaT:(Sl Int)):((Sl Int)×Int×Int):=zjV zaa zab Fuel zaK iv8 zaT
def zxO (zaa:(Sl Gate)) (zab:(Sl Mp)) (zaK:Int) (iv8:Int) (zaT:(Sl Int)):Bool:=zjW zaa zab Fuel zaK iv8 zaT
theorem zFC (K:List PA→Prop) (zaa:(Sl Gate)) (zab:(Sl Mp)) (zaK:Int) (iv8:Int) (zaT:(Sl Int)) (zbz:Nat→List PV) (zgb:zbz=fun i=>zal (zaT.get i)) (hs:zxO zaa zab zaK iv8 zaT=true) (hk:K (e55 (zxN zaa zab zaK iv8 zaT))):zjR (Wk K) zaa zab zaK iv8 zaT.len zbz:=by
  refine zxJ (Wk K) zaa zab zaK iv8 zaT.len zbz ?_
  intro X8 hstep
  have key:∀ (k:Nat) (zaK:Int) (iv8:Int) (zaT:(Sl Int)) (zbz:Nat→List PV) (zgb:zbz=fun i=>zal (zaT.get i)),zjW zaa zab k zaK iv8 zaT=true→K (e55 (zjV zaa zab k zaK iv8 zaT))→X8 (zfG zaa zab zaK iv8 zaT.len zbz):=by
    intro k
    induction k with
    | zero=>intro zaK iv8 zaT zbz zgb hs;exact absurd hs Bool.false_ne_true
    | succ k ih =>
      intro zaK iv8 zaT zbz zgb hs hk
      subst zgb
      refine hstep zaK iv8 zaT ?_
      have hs:zqA zaa zab (zjW zaa zab k) zaK iv8 zaT=true:=hs
      have hk:K (e55 (zqz zaa zab (zjV zaa zab k) zaK iv8 zaT)):=hk
      unfold zqA at hs
      unfold zqz at hk
      generalize zjV zaa zab k=S8 at hk ih
      generalize zjW zaa zab k=P8 at hs ih
      have hX8:=ih
      exact (zcf (K := fun r => K (e55 r))
 (fun hs hk=>(zaw hs fun hc hs=>⟨hc,(zaw hs fun hc hs=>⟨hc,(zaw hs fun hc hs=>⟨hc,(zaw hs fun hc hs=>⟨hc,(zaw hs fun hc hs=>⟨hc,(zFB K zaa zab X8 P8 S8 hX8 zaK iv8 (zaT.get ((w64 (iv8 - (2:Int))).toNat)) (zaT.get ((w64 (iv8 - (1:Int))).toNat)) ((zaa.get iv8.toNat).Low) zaT (fun i=>zal (zaT.get i)) rfl hs hk)⟩)⟩)⟩)⟩)⟩))
 (fun hs hk=>(zd6 hk)) hs hk)
  exact key _ zaK iv8 zaT zbz zgb hs hk
def zmV (zaa:(Sl Gate)) (zab:(Sl Mp)) (zdd:Int) (zfz:(Sl Int)):((Sl Int)×Int×Int) :=
  (zxN zaa zab zdd (2:Int) zfz)
def zmW (zaa:(Sl Gate)) (zab:(Sl Mp)) (zdd:Int) (zfz:(Sl Int)):Bool :=
  (zxO zaa zab zdd (2:Int) zfz)
theorem zxP (K:List PA→Prop) (zaa:(Sl Gate)) (zab:(Sl Mp)) (zdd:Int) (zfz:(Sl Int)) (zhq:Nat→List PV) (zFD:zhq=fun i=>zal (zfz.get i)) (hs:zmW zaa zab zdd zfz=true) (hk:K (e55 (zmV zaa zab zdd zfz))):zjQ (Wk K) zaa zab zdd zfz.len zhq:=by
  subst zFD
  refine zax (zFA (Wk K) zaa zab zdd zfz) ?_
  unfold zmW at hs
  unfold zmV at hk
  exact (zFC K zaa zab zdd (2:Int) zfz (fun i=>zal (zfz.get i)) rfl hs hk)
def zqB (S5:Int→Int→((Sl Int)×Int×Int)) (zaa:(Sl Gate)) (zab:(Sl Mp)) (S6:Int→Int→Int→((Sl Int)×Int×Int)) (zaI:Int) (pv6:Int) (qv6:Int):((Sl Int)×Int×Int) :=
  (cond (decide (qv6 ≤ (zaa.get 1).High))
 (cond ((zdN (((zab.get 0).F) [pv6, qv6]) 0) == zaI)
 (zmV zaa zab zaI (⟨2,(ziH pv6 [pv6,qv6])⟩:Sl Int))
 (S6 zaI pv6 (w64 (qv6+(1:Int)))))
 (S5 zaI (w64 (pv6+(1:Int)))))
def zqC (P5:Int→Int→Bool) (zaa:(Sl Gate)) (zab:(Sl Mp)) (P6:Int→Int→Int→Bool) (zaI:Int) (pv6:Int) (qv6:Int):Bool :=
  (decide ((0≤(1:Int)∧(1:Int) < (zaa.len:Int))) &&
 (cond (decide (qv6 ≤ (zaa.get 1).High))
 (decide ((0≤(0:Int)∧(0:Int) < (zab.len:Int))) &&
 (cond ((zdN (((zab.get 0).F) [pv6, qv6]) 0) == zaI)
 (zmW zaa zab zaI (⟨2,(ziH pv6 [pv6,qv6])⟩:Sl Int))
 (P6 zaI pv6 (w64 (qv6+(1:Int))))))
 (P5 zaI (w64 (pv6+(1:Int))))))
def zjX (S5 : Int → Int → ((Sl Int) × Int × Int)) (zaa : (Sl Gate)) (zab : (Sl Mp)) : Nat → Int → Int → Int → ((Sl Int) × Int × Int)
  | 0=>fun _ _ _=>default
  | k+1=>zqB S5 zaa zab (zjX S5 zaa zab k)
def zjY (P5 : Int → Int → Bool) (zaa : (Sl Gate)) (zab : (Sl Mp)) : Nat → Int → Int → Int → Bool
  | 0=>fun _ _ _=>false
  | k+1=>zqC P5 zaa zab (zjY P5 zaa zab k)
def zxQ (S5:Int→Int→((Sl Int)×Int×Int)) (zaa:(Sl Gate)) (zab:(Sl Mp)) (zaI:Int) (pv6:Int) (qv6:Int):((Sl Int)×Int×Int):=zjX S5 zaa zab Fuel zaI pv6 qv6
def zxR (P5:Int→Int→Bool) (zaa:(Sl Gate)) (zab:(Sl Mp)) (zaI:Int) (pv6:Int) (qv6:Int):Bool:=zjY P5 zaa zab Fuel zaI pv6 qv6
theorem zFE (K : List PA → Prop) (zaa : (Sl Gate)) (zab : (Sl Mp))
  (X5:St→Prop) (P5:Int→Int→Bool) (S5:Int→Int→((Sl Int)×Int×Int))
  (hX5:∀ (zaN:Int) (pv5:Int),P5 zaN pv5=true→K (e55 (S5 zaN pv5))→X5 (zh4 zaa zab zaN pv5)) (zaI:Int) (pv6:Int) (qv6:Int) (hs:zxR P5 zaa zab zaI pv6 qv6=true) (hk:K (e55 (zxQ S5 zaa zab zaI pv6 qv6))):zjP (Wk K) X5 zaa zab zaI pv6 qv6:=by
  refine zxI (Wk K) X5 zaa zab zaI pv6 qv6 ?_
  intro X6 hstep
  have key:∀ (k:Nat) (zaI:Int) (pv6:Int) (qv6:Int),zjY P5 zaa zab k zaI pv6 qv6=true→K (e55 (zjX S5 zaa zab k zaI pv6 qv6))→X6 (zjO zaa zab zaI pv6 qv6):=by
    intro k
    induction k with
    | zero=>intro zaI pv6 qv6 hs;exact absurd hs Bool.false_ne_true
    | succ k ih =>
      intro zaI pv6 qv6 hs hk
      refine hstep zaI pv6 qv6 ?_
      have hs:zqC P5 zaa zab (zjY P5 zaa zab k) zaI pv6 qv6=true:=hs
      have hk:K (e55 (zqB S5 zaa zab (zjX S5 zaa zab k) zaI pv6 qv6)):=hk
      unfold zqC at hs
      unfold zqB at hk
      generalize zjX S5 zaa zab k=S6 at hk ih
      generalize zjY P5 zaa zab k=P6 at hs ih
      have hX6:=ih
      exact (zaw hs fun hc hs => ⟨hc, (zcf (K := fun r => K (e55 r))
 (fun hs hk => (zaw hs fun hc hs => ⟨hc, (zcf (K := fun r => K (e55 r))
 (fun hs hk=>(zxP K zaa zab zaI (⟨2,(ziH pv6 [pv6,qv6])⟩:Sl Int) (zdf [(zal pv6),(zal qv6)]) (zeq (enc:=zal) (x:=pv6) (y:=qv6) (r:=[])) hs hk))
 (fun hs hk=>(hX6 zaI pv6 (w64 (qv6+(1:Int))) hs hk)) hs hk)⟩))
 (fun hs hk=>(hX5 zaI (w64 (pv6+(1:Int))) hs hk)) hs hk)⟩)
  exact key _ zaI pv6 qv6 hs hk
def zqD (zaa:(Sl Gate)) (zab:(Sl Mp)) (S5:Int→Int→((Sl Int)×Int×Int)) (zaN:Int) (pv5:Int):((Sl Int)×Int×Int) :=
  (cond (decide (pv5 ≤ (zaa.get 0).High))
 (zxQ S5 zaa zab zaN pv5 ((zaa.get 1).Low))
 (zmV zaa zab zaN (⟨0,(fun _=>default)⟩:Sl Int)))
def zqE (zaa:(Sl Gate)) (zab:(Sl Mp)) (P5:Int→Int→Bool) (zaN:Int) (pv5:Int):Bool :=
  (decide ((0≤(0:Int)∧(0:Int) < (zaa.len:Int))) &&
 (cond (decide (pv5 ≤ (zaa.get 0).High))
 (decide ((0≤(1:Int)∧(1:Int) < (zaa.len:Int))) &&
 (zxR P5 zaa zab zaN pv5 ((zaa.get 1).Low)))
 (zmW zaa zab zaN (⟨0,(fun _=>default)⟩:Sl Int))))
def zjZ (zaa : (Sl Gate)) (zab : (Sl Mp)) : Nat → Int → Int → ((Sl Int) × Int × Int)
  | 0=>fun _ _=>default
  | k+1=>zqD zaa zab (zjZ zaa zab k)
def zj0 (zaa : (Sl Gate)) (zab : (Sl Mp)) : Nat → Int → Int → Bool
  | 0=>fun _ _=>false
  | k+1=>zqE zaa zab (zj0 zaa zab k)
def zxS (zaa:(Sl Gate)) (zab:(Sl Mp)) (zaN:Int) (pv5:Int):((Sl Int)×Int×Int):=zjZ zaa zab Fuel zaN pv5
def zxT (zaa:(Sl Gate)) (zab:(Sl Mp)) (zaN:Int) (pv5:Int):Bool:=zj0 zaa zab Fuel zaN pv5
theorem zFF (K:List PA→Prop) (zaa:(Sl Gate)) (zab:(Sl Mp)) (zaN:Int) (pv5:Int) (hs:zxT zaa zab zaN pv5=true) (hk:K (e55 (zxS zaa zab zaN pv5))):zjN (Wk K) zaa zab zaN pv5:=by
  refine zxH (Wk K) zaa zab zaN pv5 ?_
  intro X5 hstep
  have key:∀ (k:Nat) (zaN:Int) (pv5:Int),zj0 zaa zab k zaN pv5=true→K (e55 (zjZ zaa zab k zaN pv5))→X5 (zh4 zaa zab zaN pv5):=by
    intro k
    induction k with
    | zero=>intro zaN pv5 hs;exact absurd hs Bool.false_ne_true
    | succ k ih =>
      intro zaN pv5 hs hk
      refine hstep zaN pv5 ?_
      have hs:zqE zaa zab (zj0 zaa zab k) zaN pv5=true:=hs
      have hk:K (e55 (zqD zaa zab (zjZ zaa zab k) zaN pv5)):=hk
      unfold zqE at hs
      unfold zqD at hk
      generalize zjZ zaa zab k=S5 at hk ih
      generalize zj0 zaa zab k=P5 at hs ih
      have hX5:=ih
      exact (zaw hs fun hc hs => ⟨hc, (zcf (K := fun r => K (e55 r))
 (fun hs hk=>(zaw hs fun hc hs=>⟨hc,(zFE K zaa zab X5 P5 S5 hX5 zaN pv5 ((zaa.get 1).Low) hs hk)⟩))
 (fun hs hk=>(zxP K zaa zab zaN (⟨0,(fun _=>default)⟩:Sl Int) (fun i=>zal ((fun _=>default) i)) rfl hs hk)) hs hk)⟩)
  exact key _ zaN pv5 hs hk
def zqF (zaa:(Sl Gate)) (zab:(Sl Mp)) (zdc:Int):((Sl Int)×Int×Int) :=
  (zxS zaa zab zdc ((zaa.get 0).Low))
def zqG (zaa:(Sl Gate)) (zab:(Sl Mp)) (zdc:Int):Bool :=
  (decide ((0≤(0:Int)∧(0:Int) < (zaa.len:Int))) &&
 (zxT zaa zab zdc ((zaa.get 0).Low)))
theorem zFG (K:List PA→Prop) (zaa:(Sl Gate)) (zab:(Sl Mp)) (zdc:Int) (hs:zqG zaa zab zdc=true) (hk:K (e55 (zqF zaa zab zdc))):zmT (Wk K) zaa zab zdc:=by
  refine zax (zFz (Wk K) zaa zab zdc) ?_
  unfold zqG at hs
  unfold zqF at hk
  exact (zaw hs fun hc hs=>⟨hc,(zFF K zaa zab zdc ((zaa.get 0).Low) hs hk)⟩)
def zmX (zaa:(Sl Gate)) (zab:(Sl Mp)) (zaB:Int):((Sl Int)×Int×Int) :=
  (zqF zaa zab zaB)
def zmY (zaa:(Sl Gate)) (zab:(Sl Mp)) (zaB:Int):Bool :=
  (zqG zaa zab zaB)
def zj1 (zaa:(Sl Gate)) (zab:(Sl Mp)) (k24_0:Int) (k24_1:Int) (S3:Int→((Sl Int)×Int×Int)) (zaB:Int):((Sl Int)×Int×Int) :=
  (cond (decide (zaB < (0:Int)))
 (S3 (zdN (((zab.get 0).F) [k24_0,k24_1]) 0))
 (cond (decide ((zdN (((zab.get 0).F) [k24_0, k24_1]) 0) < zaB))
 (S3 (zdN (((zab.get 0).F) [k24_0,k24_1]) 0))
 (S3 zaB)))
def zj2 (zaa:(Sl Gate)) (zab:(Sl Mp)) (k24_0:Int) (k24_1:Int) (P3:Int→Bool) (zaB:Int):Bool :=
  (cond (decide (zaB < (0:Int)))
 (P3 (zdN (((zab.get 0).F) [k24_0,k24_1]) 0))
 (cond (decide ((zdN (((zab.get 0).F) [k24_0, k24_1]) 0) < zaB))
 (P3 (zdN (((zab.get 0).F) [k24_0,k24_1]) 0))
 (P3 zaB)))
def zeC (zaa : (Sl Gate)) (zab : (Sl Mp)) : List (List Int) → Int → ((Sl Int) × Int × Int)
  | []=>zmX zaa zab
  | y :: r=>zj1 zaa zab (y.getD 0 0) (y.getD 1 0) (zeC zaa zab r)
def zeD (zaa : (Sl Gate)) (zab : (Sl Mp)) : List (List Int) → Int → Bool
  | []=>zmY zaa zab
  | y :: r=>zj2 zaa zab (y.getD 0 0) (y.getD 1 0) (zeD zaa zab r)
def zfb (_gates:Sl Gate) (t:Sl Mp) (ys:List (List Int)):Bool:=ys.all fun y=>decide (0≤zdN ((t.get 0).F y) 0)
theorem zFH (zaa:Sl Gate) (t:Sl Mp):∀ (y:List Int) (r:List (List Int)),zfb zaa t (y :: r)=true→zfb zaa t r=true:=fun y r h=>by
  simp only [zfb,List.all_cons,Bool.and_eq_true] at h ⊢;exact h.2
def kst (F:List Int→Option (List Int)) (k:Int) (y:List Int):Int:=if k < 0 then zdN (F y) 0 else if zdN (F y) 0 < k then zdN (F y) 0 else k
theorem zsi (F:List Int→Option (List Int)) {ys zs:List (List Int)} (h:∀ y∈ys,0≤zdN (F y) 0) (hp:ys.Perm zs) (k:Int):ys.foldl (kst F) k=zs.foldl (kst F) k:=by
  refine hp.foldl_eq' (fun x hx y hy z=>?_) k
  have h1:=h x hx
  have h2:=h y hy
  unfold kst
  repeat' split
  all_goals omega
theorem zqH (zaa : Sl Gate) (t : Sl Mp) : ∀ (ys : List (List Int)) (k : Int), (∀ y ∈ ys, y.length = 2) → zeC zaa t ys k = zmX zaa t (ys.foldl (kst (t.get 0).F) k)
  | [],k,_=>rfl
  | y :: r,k,h=>by
    have hy:=h y List.mem_cons_self
    match y,hy with
    | [a,b],_ =>
    have ih:=fun k=>zqH zaa t r k (fun z hz=>h z (List.mem_cons_of_mem _ hz))
    show zj1 zaa t a b (zeC zaa t r) k=_
    rw [List.foldl_cons]
    unfold zj1
    by_cases h1:k < 0
    · rw [decide_eq_true h1,cond_true,ih,show kst (t.get 0).F k [a,b]=zdN ((t.get 0).F [a,b]) 0 from if_pos h1]
    · rw [decide_eq_false h1, cond_false]
      by_cases h2:zdN ((t.get 0).F [a,b]) 0 < k
      · rw [decide_eq_true h2,cond_true,ih,show kst (t.get 0).F k [a,b]=zdN ((t.get 0).F [a,b]) 0 from (if_neg h1).trans (if_pos h2)]
      · rw [decide_eq_false h2,cond_false,ih,show kst (t.get 0).F k [a,b]=k from (if_neg h1).trans (if_neg h2)]
theorem zqI (zaa : Sl Gate) (t : Sl Mp) : ∀ (ys : List (List Int)) (k : Int), (∀ y ∈ ys, y.length = 2) → zeD zaa t ys k = zmY zaa t (ys.foldl (kst (t.get 0).F) k)
  | [],k,_=>rfl
  | y :: r,k,h=>by
    have hy:=h y List.mem_cons_self
    match y,hy with
    | [a,b],_ =>
    have ih:=fun k=>zqI zaa t r k (fun z hz=>h z (List.mem_cons_of_mem _ hz))
    show zj2 zaa t a b (zeD zaa t r) k=_
    rw [List.foldl_cons]
    unfold zj2
    by_cases h1:k < 0
    · rw [decide_eq_true h1,cond_true,ih,show kst (t.get 0).F k [a,b]=zdN ((t.get 0).F [a,b]) 0 from if_pos h1]
    · rw [decide_eq_false h1, cond_false]
      by_cases h2:zdN ((t.get 0).F [a,b]) 0 < k
      · rw [decide_eq_true h2,cond_true,ih,show kst (t.get 0).F k [a,b]=zdN ((t.get 0).F [a,b]) 0 from (if_neg h1).trans (if_pos h2)]
      · rw [decide_eq_false h2,cond_false,ih,show kst (t.get 0).F k [a,b]=k from (if_neg h1).trans (if_neg h2)]
theorem zFI (zaa : Sl Gate) (t : Sl Mp) (ys zs : List (List Int)) (hl : ∀ y ∈ ys, y.length = 2) (h : zfb zaa t ys = true) (hp : ys.Perm zs) :
    zfb zaa t zs=true∧zeC zaa t ys=zeC zaa t zs∧zeD zaa t ys=zeD zaa t zs:=by
  simp only [zfb,List.all_eq_true,decide_eq_true_eq] at h ⊢
  have hl2:∀ y∈zs,y.length=2:=fun y hy=>hl y (hp.mem_iff.2 hy)
  refine ⟨fun y hy=>h y (hp.mem_iff.2 hy),funext fun k=>?_,funext fun k=>?_⟩
  · rw [zqH zaa t ys k hl,zqH zaa t zs k hl2,zsi _ h hp]
  · rw [zqI zaa t ys k hl,zqI zaa t zs k hl2,zsi _ h hp]
def zqJ (zaa:(Sl Gate)) (zab:(Sl Mp)) (zaB:Int):((Sl Int)×Int×Int):=zeC zaa zab (zos zaa) zaB
def zqK (zaa:(Sl Gate)) (zab:(Sl Mp)) (zaB:Int):Bool:=keysB 2 ((zab.get 0).n) ((zab.get 0).F) (zos zaa) && zfb zaa zab (zos zaa) && zeD zaa zab (zos zaa) zaB
theorem zFJ (K:List PA→Prop) (zaa:(Sl Gate)) (zab:(Sl Mp)) (zaB:Int) (hs:zqK zaa zab zaB=true) (hk:K (e55 (zqJ zaa zab zaB))):zjM (Wk K) zaa zab [] zaB:=by
  unfold zqK at hs
  rw [Bool.and_eq_true,Bool.and_eq_true] at hs
  obtain ⟨⟨hkeys,hI⟩,hs⟩:=hs
  unfold zqJ at hk
  generalize hys:zos zaa=ys0 at hkeys hI hs hk
  refine zxG (Wk K) zaa zab [] zaB ?_
  intro X3 hstep
  have key:∀ (N:Nat) (ys:List (List Int)) (seen:List (List Int)) (zaB:Int),ys.length=N→(zHb 2 ((zab.get 0).n) ((zab.get 0).F)→zHC 2 ((zab.get 0).F) seen ys)→zfb zaa zab ys=true→zeD zaa zab ys zaB=true→K (e55 (zeC zaa zab ys zaB))→X3 (zgN zaa zab seen zaB):=by
    intro N
    induction N with
    | zero =>
      intro ys seen zaB hN hrem hI hs hk
      obtain rfl:=List.eq_nil_of_length_eq_zero hN
      refine hstep seen zaB ?_
      intro hfin
      have hrem:=hrem hfin
      refine ⟨fun _=>?_,fun k24_0 k24_1 hF hns=>absurd (hrem.2.2 [k24_0,k24_1] rfl hF hns) (by simp)⟩
      have hs:zmY zaa zab zaB=true:=hs
      have hk:K (e55 (zmX zaa zab zaB)):=hk
      unfold zmY at hs
      unfold zmX at hk
      exact (zFG K zaa zab zaB hs hk)
    | succ N ih =>
      intro ys seen zaB hN hrem hI hs hk
      refine hstep seen zaB ?_
      intro hfin
      have hrem:=hrem hfin
      refine ⟨fun hend=>?_,fun k24_0 k24_1 hF hns=>?_⟩
      · exact absurd (zDm hrem hend) (fun e=>by rw [e] at hN;simp at hN)
      · obtain ⟨hperm, hrem2, hlen⟩ := zAs hrem (c := [k24_0, k24_1]) rfl hF hns
        obtain ⟨hI2,e1,e2⟩:=zFI zaa zab ys _ (fun y hy=>(hrem.2.1 y hy).1) hI hperm
        have hI3:=zFH zaa zab _ _ hI2
        rw [e2] at hs
        rw [e1] at hk
        have hs:zj2 zaa zab k24_0 k24_1 (zeD zaa zab (ys.erase [k24_0,k24_1])) zaB=true:=hs
        have hk:K (e55 (zj1 zaa zab k24_0 k24_1 (zeC zaa zab (ys.erase [k24_0,k24_1])) zaB)):=hk
        have ih:=fun (zaB:Int)=>ih (ys.erase [k24_0,k24_1]) ([k24_0,k24_1] :: seen) zaB (by omega) (fun _=>hrem2) hI3
        unfold zj2 at hs
        unfold zj1 at hk
        generalize zeC zaa zab (ys.erase [k24_0,k24_1])=S3 at hk ih
        generalize zeD zaa zab (ys.erase [k24_0,k24_1])=P3 at hs ih
        have hX3:=ih
        exact (zcf (K := fun r => K (e55 r))
 (fun hs hk=>(hX3 (zdN (((zab.get 0).F) [k24_0,k24_1]) 0) hs hk))
 (fun hs hk => (zcf (K := fun r => K (e55 r))
 (fun hs hk=>(hX3 (zdN (((zab.get 0).F) [k24_0,k24_1]) 0) hs hk))
 (fun hs hk=>(hX3 zaB hs hk)) hs hk)) hs hk)
  exact key _ ys0 [] zaB rfl (fun hf=>zuA hkeys hf) hI hs hk
def zqL (zaa:(Sl Gate)) (zab:(Sl Mp)):((Sl Int)×Int×Int) :=
  (zqJ zaa zab (-1:Int))
def zqM (zaa:(Sl Gate)) (zab:(Sl Mp)):Bool :=
  (decide ((0≤(0:Int)∧(0:Int) < (zab.len:Int))) &&
 (zqK zaa zab (-1:Int)))
theorem zFK (K:List PA→Prop) (zaa:(Sl Gate)) (zab:(Sl Mp)) (zee:Nat→List PV) (zxU:zee=fun i=>zcB (zab.get i)) (hs:zqM zaa zab=true) (hk:K (e55 (zqL zaa zab))):zmS (Wk K) zaa zab.len zee:=by
  subst zxU
  refine zax (zFy (Wk K) zaa zab) ?_
  unfold zqM at hs
  unfold zqL at hk
  exact (zaw hs fun hc hs=>⟨hc,(zFJ K zaa zab (-1:Int) hs hk)⟩)
def zqN (zaa:(Sl Gate)):((Sl Int)×Int×Int) :=
  (zqL zaa (s93 zaa))
def zqO (zaa:(Sl Gate)):Bool :=
  (decide ((p93 zaa=true)) &&
 (zqM zaa (s93 zaa)))
theorem zFL (K:List PA→Prop) (zaa:(Sl Gate)) (hs:zqO zaa=true) (hk:K (e55 (zqN zaa))):zmR (Wk K) zaa:=by
  refine zax (zFx (Wk K) zaa) ?_
  unfold zqO at hs
  unfold zqN at hk
  exact (zaw hs fun hc hs=>⟨⟨isE,hc⟩,(zFK K zaa (s93 zaa) (fun i=>zcB ((s93 zaa).get i)) rfl hs hk)⟩)
def zqP (zaa:(Sl Gate)) (zga:Bool):((Sl Int)×Int×Int) :=
  (cond zga
 ((⟨0,fun _=>default⟩:(Sl Int)),(0:Int),(2:Int))
 (zqN zaa))
def zqQ (zaa:(Sl Gate)) (zga:Bool):Bool :=
  (cond zga
 true
 (zqO zaa))
theorem zFM (K:List PA→Prop) (zaa:(Sl Gate)) (zga:Bool) (hs:zqQ zaa zga=true) (hk:K (e55 (zqP zaa zga))):zmQ (Wk K) zaa zga:=by
  refine zax (zFw (Wk K) zaa zga) ?_
  unfold zqQ at hs
  unfold zqP at hk
  exact (zcf (K := fun r => K (e55 r))
 (fun hs hk=>(wk hk (zc5 (.one (.nil _ _)) (zc5 (.one (.rfl _)) (zc5 (.one (.rfl _)) zgX)))))
 (fun hs hk=>(zFL K zaa hs hk)) hs hk)
def s55 (zaa:(Sl Gate)):((Sl Int)×Int×Int) :=
  (zqP zaa (!(s92 zaa)))
def p55 (zaa:(Sl Gate)):Bool :=
  (decide ((p92 zaa=true)) &&
 (zqQ zaa (!(s92 zaa))))
theorem q55 (zaa:(Sl Gate)) (K:List PA→Prop) (hs:p55 zaa=true) (hk:K (e55 (s55 zaa))):vcFun Try.prog G55 zaU 55 [.one (.sl zaa.len 3 (fun i=>enc_55 (zaa.get i)))] (Wk K):=by
  refine zax (zFv zaa (Wk K)) ?_
  unfold p55 at hs
  unfold s55 at hk
  exact (zaw hs fun hc hs=>⟨⟨isE,hc⟩,(zFM K zaa (!(s92 zaa)) hs hk)⟩)
def zFN : List PA → COut
  | [.one (.sl a0_n a0_s a0_g)]=>.det (IsE enc_55 3 a0_s a0_g∧p55 (⟨a0_n,zad a0_g⟩:(Sl Gate))=true) [.one (.sl (((s55 (⟨a0_n,zad a0_g⟩:(Sl Gate))).1).len) 1 (fun i=>zal (((s55 (⟨a0_n,zad a0_g⟩:(Sl Gate))).1).get i))),.one (.int .i64 ((s55 (⟨a0_n,zad a0_g⟩:(Sl Gate))).2.1)),.one (.int .i64 ((s55 (⟨a0_n,zad a0_g⟩:(Sl Gate))).2.2))]
  | _=>.no
theorem zJb:zah Try.prog 55:=⟨_,rfl,rfl,by kernel_rfl⟩
theorem zOF:Ok Try.prog 55 zFN:=zg8 zLI zJb fun args K h=>by
  unfold zFN at h
  split at h
  · rename_i a0_n a0_s a0_g
    obtain ⟨⟨⟨rfl,a0_f,rfl⟩,hs⟩,hk⟩:=h
    try rw [zac a0_f] at hs
    try rw [zac a0_f] at hk
    exact ⟨_,zeU zfF _,(fun _ _=>[]),(fun _=>false),zaU,q55 (⟨a0_n,a0_f⟩:(Sl Gate)) K hs hk⟩
  · exact h.elim
abbrev T62:Tabs:=Tabs.nil
theorem zLJ:TabsOk Try.prog T62:=TabsOk.nil
abbrev G62:Ctrs:=csm T62 (fun _ _=>[]) (fun _=>false)
def zJc:Ann:=⟨5,[(0,zK [] []),(1,zK [0] [4])],
 [],
 [],
 [],[]⟩
abbrev R62:=(Sl Gate)
abbrev e62 (r:R62):List PA:=[.one (.sl r.len 3 (fun i=>enc_55 (r.get i)))]
section
variable {K:List PA→Prop}
def s62:(Sl Gate) :=
  (⟨3,(ziH (⟨(0:Int),(0:Int),(10:Int)⟩:Gate) [(⟨(0:Int),(0:Int),(10:Int)⟩:Gate),(⟨(100:Int),(20:Int),(30:Int)⟩:Gate),(⟨(200:Int),(30:Int),(60:Int)⟩:Gate)])⟩:(Sl Gate))
end
theorem q62 (K:List PA→Prop) (hk:K (e62 (s62))):vcFun Try.prog G62 zJc 62 [] K :=
  zax (by kernel_rfl) (Eq.mpr (congrArg K (congrArg (fun (g_:Nat→List PV)=>([.one (.sl 3 3 g_)]:List PA)) (zeq (enc:=enc_55) (x:=(⟨(0:Int),(0:Int),(10:Int)⟩:Gate)) (y:=(⟨(100:Int),(20:Int),(30:Int)⟩:Gate)) (r:=[(⟨(200:Int),(30:Int),(60:Int)⟩:Gate)])))) hk)
def zFO : List PA → COut
  | []=>.tot [.one (.sl ((s62).len) 3 (fun i=>enc_55 ((s62).get i)))]
  | _=>.no
theorem zJd:zah Try.prog 62:=⟨_,rfl,rfl,by kernel_rfl⟩
theorem zOG:Ok Try.prog 62 zFO:=zaz zLJ zJd fun args K h=>by
  unfold zFO at h
  split at h
  · have hk := h
    exact ⟨(fun _ _=>[]),(fun _=>false),zJc,q62 K hk⟩
  · exact h.elim
abbrev T63:Tabs:=Tabs.nil
theorem zLK:TabsOk Try.prog T63:=TabsOk.nil
abbrev G63:Ctrs:=csm T63 (fun _ _=>[]) (fun _=>false)
def zJe:Ann:=⟨5,[(0,zK [] []),(1,zK [0] [4])],
 [],
 [],
 [],[]⟩
abbrev R63:=(Sl Gate)
abbrev e63 (r:R63):List PA:=[.one (.sl r.len 3 (fun i=>enc_55 (r.get i)))]
section
variable {K:List PA→Prop}
def s63:(Sl Gate) :=
  (⟨3,(ziH (⟨(0:Int),(0:Int),(10:Int)⟩:Gate) [(⟨(0:Int),(0:Int),(10:Int)⟩:Gate),(⟨(100:Int),(20:Int),(30:Int)⟩:Gate),(⟨(200:Int),(0:Int),(9:Int)⟩:Gate)])⟩:(Sl Gate))
end
theorem q63 (K:List PA→Prop) (hk:K (e63 (s63))):vcFun Try.prog G63 zJe 63 [] K :=
  zax (by kernel_rfl) (Eq.mpr (congrArg K (congrArg (fun (g_:Nat→List PV)=>([.one (.sl 3 3 g_)]:List PA)) (zeq (enc:=enc_55) (x:=(⟨(0:Int),(0:Int),(10:Int)⟩:Gate)) (y:=(⟨(100:Int),(20:Int),(30:Int)⟩:Gate)) (r:=[(⟨(200:Int),(0:Int),(9:Int)⟩:Gate)])))) hk)
def zFP : List PA → COut
  | []=>.tot [.one (.sl ((s63).len) 3 (fun i=>enc_55 ((s63).get i)))]
  | _=>.no
theorem zJf:zah Try.prog 63:=⟨_,rfl,rfl,by kernel_rfl⟩
theorem zOH:Ok Try.prog 63 zFP:=zaz zLK zJf fun args K h=>by
  unfold zFP at h
  split at h
  · have hk := h
    exact ⟨(fun _ _=>[]),(fun _=>false),zJe,q63 K hk⟩
  · exact h.elim
abbrev T18:Tabs:=((((((((((Tabs.nil.addF 19 zAZ).addF 30 zA2).addF 31 zER).addF 34 zEV).addF 38 zFc).addF 39 zFf).addF 40 ztk).addF 55 zFN).addF 62 zFO).addF 63 zFP)
theorem zLL:TabsOk Try.prog T18:=((((((((((TabsOk.nil.addF zMS).addF zMY).addF zOy).addF zOz).addF zOB).addF zOC).addF zLE).addF zOF).addF zOG).addF zOH)
abbrev G18:Ctrs:=csm T18 (fun _ _=>[]) (fun _=>false)
def zFQ:Ann:=⟨125,[(0,zK [] []),(1,zK [1,2] []),(2,zK [1,2,3,4,5] [3,4]),(3,zK [1,2,3,4,5,6,7] [3,4]),(4,zK [1,2,3,4,5,6,7,8,9,10,11] [3,4,9,10]),(5,zK [1,2,3,4,5,6,7,8,9,10,11,12,13,14] [3,4,9,10]),(6,zK [1,3,4,6,9,10,12,76] [3,4,9,10]),(7,zK [0] []),(8,zK [1,3,4,6,9,10,12,15] [3,4,9,10,89]),(9,zK [0] [])],
 [],
 [(2,zK [1,2] []),(3,zK [1,2,3,4,5] [3,4]),(4,zK [1,2,3,4,5,6,7] [3,4]),(5,zK [1,2,3,4,5,6,7,8,9,10,11] [3,4,9,10]),(6,zK [1,2,3,4,5,6,7,8,9,10,11,12,13,14] [3,4,9,10]),(8,zK [1,3,4,6,9,10,12] [3,4,9,10]),(9,zK [1,3,4,6,9,10,12,15] [3,4,9,10,89])],
 [],[]⟩
abbrev R18:=Bool
abbrev e18 (r:R18):List PA:=[.one (.bool r)]
@[irreducible] def z18:=ptF Try.prog G18 zFQ Try.f18
section
variable {K:List PA→Prop} {cv0:(Sl Line)} {ev0:Int} {zJg:Nat→List PV} {fv1:Int} {za9:Int} {zba:Int} {zaR:Int} {zaS:Int} {sv2:(Sl Int)} {gv2:Int} {zJh:Nat→List PV} {sv3:(Sl Int)} {zv3:Int} {hv3:Int} {zcK:Int} {zcL:Int} {zcM:Int} {zcN:Int} {zJi:Nat→List PV} {sv4:(Sl Int)} {lv4:(Sl Int)} {kv4:Int} {iv4:Int} {zJj:Nat→List PV} {zJk:Nat→List PV} {sv5:(Sl Int)} {zJl:Nat→List PV} {sv6:(Sl Int)} {zkP:(Sl Line)} {zJm:Nat→List PV} {zxV:Nat→List PV}
def zxW (cv0:(Sl Line)) (za9:Int) (zba:Int) (zaR:Int) (zaS:Int) (zcK:Int) (zcL:Int) (zcM:Int) (zcN:Int) (lv4:(Sl Int)) (sv6:(Sl Int)) (zkP:(Sl Line)):Bool :=
  (cond (s34 cv0 zkP)
 (cond (match (za9 == (s40 (40:Int) (1:Int)).Num) with | true => (match (zba == (s40 (40:Int) (1:Int)).Den) with | true => true | false => false) | false => false)
 (cond (match (zaR == (s40 (90:Int) (1:Int)).Num) with | true => (match (zaS == (s40 (90:Int) (1:Int)).Den) with | true => true | false => false) | false => false)
 (cond ((s39 sv6 (⟨3, zcP (zdf [(zal (0:Int)), (zal (1:Int)), (zal (2:Int))])⟩ : (Sl Int))) == (0:Int))
 (cond (match (zcK == (s40 (499:Int) (10:Int)).Num) with | true => (match (zcL == (s40 (499:Int) (10:Int)).Den) with | true => true | false => false) | false => false)
 (cond (match (zcM == (s40 (501:Int) (10:Int)).Num) with | true => (match (zcN == (s40 (501:Int) (10:Int)).Den) with | true => true | false => false) | false => false)
 ((s39 lv4 (⟨3,zcP (zdf [(zal (2:Int)),(zal (5:Int)),(zal (2:Int))])⟩:(Sl Int))) == (0:Int))
 false)
 false)
 false)
 false)
 false)
 false)
def zxX (cv0:(Sl Line)) (za9:Int) (zba:Int) (zaR:Int) (zaS:Int) (zcK:Int) (zcL:Int) (zcM:Int) (zcN:Int) (lv4:(Sl Int)) (sv6:(Sl Int)) (zkP:(Sl Line)):Bool :=
  (decide ((p34 cv0 zkP=true)) &&
 (cond (s34 cv0 zkP)
 (decide ((p40 (40:Int) (1:Int)=true)) &&
 (cond (match (za9 == (s40 (40:Int) (1:Int)).Num) with | true => (match (zba == (s40 (40:Int) (1:Int)).Den) with | true => true | false => false) | false => false)
 (decide ((p40 (90:Int) (1:Int)=true)) &&
 (cond (match (zaR == (s40 (90:Int) (1:Int)).Num) with | true => (match (zaS == (s40 (90:Int) (1:Int)).Den) with | true => true | false => false) | false => false)
 (decide ((p39 sv6 (⟨3,zcP (zdf [(zal (0:Int)),(zal (1:Int)),(zal (2:Int))])⟩:(Sl Int))=true)) &&
 (cond ((s39 sv6 (⟨3, zcP (zdf [(zal (0:Int)), (zal (1:Int)), (zal (2:Int))])⟩ : (Sl Int))) == (0:Int))
 (decide ((p40 (499:Int) (10:Int)=true)) &&
 (cond (match (zcK == (s40 (499:Int) (10:Int)).Num) with | true => (match (zcL == (s40 (499:Int) (10:Int)).Den) with | true => true | false => false) | false => false)
 (decide ((p40 (501:Int) (10:Int)=true)) &&
 (cond (match (zcM == (s40 (501:Int) (10:Int)).Num) with | true => (match (zcN == (s40 (501:Int) (10:Int)).Den) with | true => true | false => false) | false => false)
 (decide ((p39 lv4 (⟨3,zcP (zdf [(zal (2:Int)),(zal (5:Int)),(zal (2:Int))])⟩:(Sl Int))=true)) &&
 true)
 true))
 true))
 true))
 true))
 true))
 true))
theorem zFR (hs:zxX cv0 za9 zba zaR zaS zcK zcL zcM zcN lv4 sv6 zkP=true) (hk:K (e18 (zxW cv0 za9 zba zaR zaS zcK zcL zcM zcN lv4 sv6 zkP))) (zLM:zJm=zg zal sv6) (zFS:zxV=zg zbf zkP):z18 K [1,1,1,1,1,1,1,1] [] ⟨[(1,zS zbf 4 cv0),(3,zp 3 0),(4,zp 4 0),(6,zP (.sl sv6.len 1 zJm)),(9,zp 9 0),(10,zp 10 0),(12,zS zal 1 lv4),(15,zv 89)],[(3,.box 25 (zm (zae (⟨za9,zba⟩:Frac)))),(4,.box 25 (zm (zae (⟨zaR,zaS⟩:Frac)))),(9,.box 25 (zm (zae (⟨zcK,zcL⟩:Frac)))),(10,.box 25 (zm (zae (⟨zcM,zcN⟩:Frac)))),(89,.vec 37 4 32 zkP.len zxV)],[]⟩:=by subst zLM;subst zFS;exact zax (by kernel_rfl) (zaw hs fun hc hs=>And.intro (And.intro (zE zbf 4 cv0.get) (And.intro (zE zbf 4 zkP.get) hc)) (zc hs hk (fun hs hk=>(zaw hs fun hc hs=>And.intro hc (zc hs hk (fun hs hk=>(zaw hs fun hc hs=>And.intro hc (zc hs hk (fun hs hk=>(zaw hs fun hc hs=>And.intro (And.intro (zE zal 1 sv6.get) (And.intro ((zfm [(2:Int)]):IsE zal 1 1 (zdf [(zal (0:Int)),(zal (1:Int)),(zal (2:Int))])) hc)) (zc hs hk (fun hs hk=>(zaw hs fun hc hs=>And.intro hc (zc hs hk (fun hs hk=>(zaw hs fun hc hs=>And.intro hc (zc hs hk (fun hs hk=>(zaw hs fun hc hs=>And.intro (And.intro (zE zal 1 lv4.get) (And.intro ((zfm [(2:Int)]):IsE zal 1 1 (zdf [(zal (2:Int)),(zal (5:Int)),(zal (2:Int))])) hc)) hk)) (fun hs hk=>hk)))) (fun hs hk=>hk)))) (fun hs hk=>hk)))) (fun hs hk=>hk)))) (fun hs hk=>hk)))) (fun hs hk=>hk)))
def zxY (cv0:(Sl Line)) (za9:Int) (zba:Int) (zaR:Int) (zaS:Int) (zcK:Int) (zcL:Int) (zcM:Int) (zcN:Int) (lv4:(Sl Int)) (sv5:(Sl Int)):Bool :=
  (zxW cv0 za9 zba zaR zaS zcK zcL zcM zcN lv4 sv5 (⟨4,(ziH (⟨(s40 (1:Int) (10:Int)),(s40 (10:Int) (1:Int))⟩:Line) [(⟨(s40 (1:Int) (10:Int)),(s40 (10:Int) (1:Int))⟩:Line),(⟨(s40 (1:Int) (5:Int)),(s40 (0:Int) (1:Int))⟩:Line),(⟨(s40 (3:Int) (10:Int)),(s40 (0:Int) (1:Int))⟩:Line),(⟨(s40 (1:Int) (5:Int)),(s40 (10:Int) (1:Int))⟩:Line)])⟩:Sl Line))
def zxZ (cv0:(Sl Line)) (za9:Int) (zba:Int) (zaR:Int) (zaS:Int) (zcK:Int) (zcL:Int) (zcM:Int) (zcN:Int) (lv4:(Sl Int)) (sv5:(Sl Int)):Bool :=
  (decide ((p40 (1:Int) (10:Int)=true)) &&
 (decide ((p40 (10:Int) (1:Int)=true)) &&
 (decide ((p40 (1:Int) (5:Int)=true)) &&
 (decide ((p40 (0:Int) (1:Int)=true)) &&
 (decide ((p40 (3:Int) (10:Int)=true)) &&
 (decide ((p40 (0:Int) (1:Int)=true)) &&
 (decide ((p40 (1:Int) (5:Int)=true)) &&
 (decide ((p40 (10:Int) (1:Int)=true)) &&
 (zxX cv0 za9 zba zaR zaS zcK zcL zcM zcN lv4 sv5 (⟨4,(ziH (⟨(s40 (1:Int) (10:Int)),(s40 (10:Int) (1:Int))⟩:Line) [(⟨(s40 (1:Int) (10:Int)),(s40 (10:Int) (1:Int))⟩:Line),(⟨(s40 (1:Int) (5:Int)),(s40 (0:Int) (1:Int))⟩:Line),(⟨(s40 (3:Int) (10:Int)),(s40 (0:Int) (1:Int))⟩:Line),(⟨(s40 (1:Int) (5:Int)),(s40 (10:Int) (1:Int))⟩:Line)])⟩:Sl Line))))))))))
theorem zFT (hs:zxZ cv0 za9 zba zaR zaS zcK zcL zcM zcN lv4 sv5=true) (hk:K (e18 (zxY cv0 za9 zba zaR zaS zcK zcL zcM zcN lv4 sv5))) (zLN:zJl=zg zal sv5):z18 K [1,1,1,1,1,1,1] [] ⟨[(1,zS zbf 4 cv0),(3,zp 3 0),(4,zp 4 0),(6,zP (.sl sv5.len 1 zJl)),(9,zp 9 0),(10,zp 10 0),(12,zS zal 1 lv4)],[(3,.box 25 (zm (zae (⟨za9,zba⟩:Frac)))),(4,.box 25 (zm (zae (⟨zaR,zaS⟩:Frac)))),(9,.box 25 (zm (zae (⟨zcK,zcL⟩:Frac)))),(10,.box 25 (zm (zae (⟨zcM,zcN⟩:Frac))))],[]⟩:=by subst zLN;exact zax (by kernel_rfl) (zaw hs fun hc hs=>And.intro hc (zaw hs fun hc hs=>And.intro hc (zaw hs fun hc hs=>And.intro hc (zaw hs fun hc hs=>And.intro hc (zaw hs fun hc hs=>And.intro hc (zaw hs fun hc hs=>And.intro hc (zaw hs fun hc hs=>And.intro hc (zaw hs fun hc hs=>And.intro hc (zFR hs hk rfl (zeq (enc:=zbf) (x:=(⟨(s40 (1:Int) (10:Int)),(s40 (10:Int) (1:Int))⟩:Line)) (y:=(⟨(s40 (1:Int) (5:Int)),(s40 (0:Int) (1:Int))⟩:Line)) (r:=[(⟨(s40 (3:Int) (10:Int)),(s40 (0:Int) (1:Int))⟩:Line),(⟨(s40 (1:Int) (5:Int)),(s40 (10:Int) (1:Int))⟩:Line)])))))))))))
def zx0 (cv0:(Sl Line)) (ev0:Int) (fv1:Int) (za9:Int) (zba:Int) (zaR:Int) (zaS:Int) (gv2:Int) (zv3:Int) (hv3:Int) (zcK:Int) (zcL:Int) (zcM:Int) (zcN:Int) (sv4:(Sl Int)) (lv4:(Sl Int)) (kv4:Int) (iv4:Int):Bool :=
  (cond (ev0 != (0:Int))
 false
 (cond (fv1 != (0:Int))
 false
 (cond (gv2 != (0:Int))
 false
 (cond (hv3 != (0:Int))
 false
 (cond (iv4 != (0:Int))
 false
 (cond (kv4 != (600:Int))
 false
 (cond (zv3 != (167:Int))
 false
 (zxY cv0 za9 zba zaR zaS zcK zcL zcM zcN lv4 sv4))))))))
def zx1 (cv0:(Sl Line)) (ev0:Int) (fv1:Int) (za9:Int) (zba:Int) (zaR:Int) (zaS:Int) (gv2:Int) (zv3:Int) (hv3:Int) (zcK:Int) (zcL:Int) (zcM:Int) (zcN:Int) (sv4:(Sl Int)) (lv4:(Sl Int)) (kv4:Int) (iv4:Int):Bool :=
  (cond (ev0 != (0:Int))
 true
 (cond (fv1 != (0:Int))
 true
 (cond (gv2 != (0:Int))
 true
 (cond (hv3 != (0:Int))
 true
 (cond (iv4 != (0:Int))
 true
 (cond (kv4 != (600:Int))
 true
 (cond (zv3 != (167:Int))
 true
 (zxZ cv0 za9 zba zaR zaS zcK zcL zcM zcN lv4 sv4))))))))
theorem zFU (hs:zx1 cv0 ev0 fv1 za9 zba zaR zaS gv2 zv3 hv3 zcK zcL zcM zcN sv4 lv4 kv4 iv4=true) (hk:K (e18 (zx0 cv0 ev0 fv1 za9 zba zaR zaS gv2 zv3 hv3 zcK zcL zcM zcN sv4 lv4 kv4 iv4))) (zLO:zJj=zg zal sv4) (zLP:zJk=zg zal lv4):z18 K [1,1,1,1,1,1] [] ⟨[(1,zS zbf 4 cv0),(2,zI ev0),(3,zp 3 0),(4,zp 4 0),(5,zI fv1),(6,zP (.sl sv4.len 1 zJj)),(7,zI gv2),(8,zI zv3),(9,zp 9 0),(10,zp 10 0),(11,zI hv3),(12,zP (.sl lv4.len 1 zJk)),(13,zI kv4),(14,zI iv4)],[(3,.box 25 (zm (zae (⟨za9,zba⟩:Frac)))),(4,.box 25 (zm (zae (⟨zaR,zaS⟩:Frac)))),(9,.box 25 (zm (zae (⟨zcK,zcL⟩:Frac)))),(10,.box 25 (zm (zae (⟨zcM,zcN⟩:Frac))))],[]⟩:=by subst zLO;subst zLP;exact zax (by kernel_rfl) (zc hs hk (fun hs hk=>hk) (fun hs hk=>(zc hs hk (fun hs hk=>hk) (fun hs hk=>(zc hs hk (fun hs hk=>hk) (fun hs hk=>(zc hs hk (fun hs hk=>hk) (fun hs hk=>(zc hs hk (fun hs hk=>hk) (fun hs hk=>(zc hs hk (fun hs hk=>hk) (fun hs hk=>(zc hs hk (fun hs hk=>hk) (fun hs hk=>(zFT hs hk rfl)))))))))))))))
def zx2 (cv0:(Sl Line)) (ev0:Int) (fv1:Int) (za9:Int) (zba:Int) (zaR:Int) (zaS:Int) (gv2:Int) (sv3:(Sl Int)) (zv3:Int) (hv3:Int) (zcK:Int) (zcL:Int) (zcM:Int) (zcN:Int):Bool :=
  (zx0 cv0 ev0 fv1 za9 zba zaR zaS gv2 zv3 hv3 zcK zcL zcM zcN sv3 ((s55 (⟨3,zad (zdf [(enc_55 (⟨(0:Int),(0:Int),(2:Int)⟩:Gate)),(enc_55 (⟨(10:Int),(5:Int),(6:Int)⟩:Gate)),(enc_55 (⟨(20:Int),(0:Int),(2:Int)⟩:Gate))])⟩:(Sl Gate))).1) ((s55 (⟨3,zad (zdf [(enc_55 (⟨(0:Int),(0:Int),(2:Int)⟩:Gate)),(enc_55 (⟨(10:Int),(5:Int),(6:Int)⟩:Gate)),(enc_55 (⟨(20:Int),(0:Int),(2:Int)⟩:Gate))])⟩:(Sl Gate))).2.1) ((s55 (⟨3,zad (zdf [(enc_55 (⟨(0:Int),(0:Int),(2:Int)⟩:Gate)),(enc_55 (⟨(10:Int),(5:Int),(6:Int)⟩:Gate)),(enc_55 (⟨(20:Int),(0:Int),(2:Int)⟩:Gate))])⟩:(Sl Gate))).2.2))
def zx3 (cv0:(Sl Line)) (ev0:Int) (fv1:Int) (za9:Int) (zba:Int) (zaR:Int) (zaS:Int) (gv2:Int) (sv3:(Sl Int)) (zv3:Int) (hv3:Int) (zcK:Int) (zcL:Int) (zcM:Int) (zcN:Int):Bool :=
  (decide ((p55 (⟨3,zad (zdf [(enc_55 (⟨(0:Int),(0:Int),(2:Int)⟩:Gate)),(enc_55 (⟨(10:Int),(5:Int),(6:Int)⟩:Gate)),(enc_55 (⟨(20:Int),(0:Int),(2:Int)⟩:Gate))])⟩:(Sl Gate))=true)) &&
 (zx1 cv0 ev0 fv1 za9 zba zaR zaS gv2 zv3 hv3 zcK zcL zcM zcN sv3 ((s55 (⟨3,zad (zdf [(enc_55 (⟨(0:Int),(0:Int),(2:Int)⟩:Gate)),(enc_55 (⟨(10:Int),(5:Int),(6:Int)⟩:Gate)),(enc_55 (⟨(20:Int),(0:Int),(2:Int)⟩:Gate))])⟩:(Sl Gate))).1) ((s55 (⟨3,zad (zdf [(enc_55 (⟨(0:Int),(0:Int),(2:Int)⟩:Gate)),(enc_55 (⟨(10:Int),(5:Int),(6:Int)⟩:Gate)),(enc_55 (⟨(20:Int),(0:Int),(2:Int)⟩:Gate))])⟩:(Sl Gate))).2.1) ((s55 (⟨3,zad (zdf [(enc_55 (⟨(0:Int),(0:Int),(2:Int)⟩:Gate)),(enc_55 (⟨(10:Int),(5:Int),(6:Int)⟩:Gate)),(enc_55 (⟨(20:Int),(0:Int),(2:Int)⟩:Gate))])⟩:(Sl Gate))).2.2)))
theorem zFV (hs:zx3 cv0 ev0 fv1 za9 zba zaR zaS gv2 sv3 zv3 hv3 zcK zcL zcM zcN=true) (hk:K (e18 (zx2 cv0 ev0 fv1 za9 zba zaR zaS gv2 sv3 zv3 hv3 zcK zcL zcM zcN))) (zLQ:zJi=zg zal sv3):z18 K [1,1,1,1,1] [] ⟨[(1,zS zbf 4 cv0),(2,zI ev0),(3,zp 3 0),(4,zp 4 0),(5,zI fv1),(6,zP (.sl sv3.len 1 zJi)),(7,zI gv2),(8,zI zv3),(9,zp 9 0),(10,zp 10 0),(11,zI hv3)],[(3,.box 25 (zm (zae (⟨za9,zba⟩:Frac)))),(4,.box 25 (zm (zae (⟨zaR,zaS⟩:Frac)))),(9,.box 25 (zm (zae (⟨zcK,zcL⟩:Frac)))),(10,.box 25 (zm (zae (⟨zcM,zcN⟩:Frac))))],[]⟩:=by subst zLQ;exact zax (by kernel_rfl) (zaw hs fun hc hs=>And.intro (And.intro ((zfm [(⟨(20:Int),(0:Int),(2:Int)⟩:Gate)]):IsE enc_55 3 3 (zdf [(enc_55 (⟨(0:Int),(0:Int),(2:Int)⟩:Gate)),(enc_55 (⟨(10:Int),(5:Int),(6:Int)⟩:Gate)),(enc_55 (⟨(20:Int),(0:Int),(2:Int)⟩:Gate))])) hc) (zFU hs hk rfl rfl))
def zx4 (cv0:(Sl Line)) (ev0:Int) (fv1:Int) (za9:Int) (zba:Int) (zaR:Int) (zaS:Int) (sv2:(Sl Int)) (gv2:Int):Bool :=
  (zx2 cv0 ev0 fv1 za9 zba zaR zaS gv2 sv2 ((s19 s62 (⟨2,zad (zdf [(enc_55 (⟨(0:Int),(100:Int),(110:Int)⟩:Gate)),(enc_55 (⟨(200:Int),(40:Int),(50:Int)⟩:Gate))])⟩:(Sl Gate)) (0:Int) (300:Int)).1) ((s19 s62 (⟨2,zad (zdf [(enc_55 (⟨(0:Int),(100:Int),(110:Int)⟩:Gate)),(enc_55 (⟨(200:Int),(40:Int),(50:Int)⟩:Gate))])⟩:(Sl Gate)) (0:Int) (300:Int)).2.2.2) (((s19 s62 (⟨2,zad (zdf [(enc_55 (⟨(0:Int),(100:Int),(110:Int)⟩:Gate)),(enc_55 (⟨(200:Int),(40:Int),(50:Int)⟩:Gate))])⟩:(Sl Gate)) (0:Int) (300:Int)).2.1).Num) (((s19 s62 (⟨2,zad (zdf [(enc_55 (⟨(0:Int),(100:Int),(110:Int)⟩:Gate)),(enc_55 (⟨(200:Int),(40:Int),(50:Int)⟩:Gate))])⟩:(Sl Gate)) (0:Int) (300:Int)).2.1).Den) (((s19 s62 (⟨2,zad (zdf [(enc_55 (⟨(0:Int),(100:Int),(110:Int)⟩:Gate)),(enc_55 (⟨(200:Int),(40:Int),(50:Int)⟩:Gate))])⟩:(Sl Gate)) (0:Int) (300:Int)).2.2.1).Num) (((s19 s62 (⟨2,zad (zdf [(enc_55 (⟨(0:Int),(100:Int),(110:Int)⟩:Gate)),(enc_55 (⟨(200:Int),(40:Int),(50:Int)⟩:Gate))])⟩:(Sl Gate)) (0:Int) (300:Int)).2.2.1).Den))
def zx5 (cv0:(Sl Line)) (ev0:Int) (fv1:Int) (za9:Int) (zba:Int) (zaR:Int) (zaS:Int) (sv2:(Sl Int)) (gv2:Int):Bool :=
  (decide ((p19 s62 (⟨2,zad (zdf [(enc_55 (⟨(0:Int),(100:Int),(110:Int)⟩:Gate)),(enc_55 (⟨(200:Int),(40:Int),(50:Int)⟩:Gate))])⟩:(Sl Gate)) (0:Int) (300:Int)=true)) &&
 (zx3 cv0 ev0 fv1 za9 zba zaR zaS gv2 sv2 ((s19 s62 (⟨2,zad (zdf [(enc_55 (⟨(0:Int),(100:Int),(110:Int)⟩:Gate)),(enc_55 (⟨(200:Int),(40:Int),(50:Int)⟩:Gate))])⟩:(Sl Gate)) (0:Int) (300:Int)).1) ((s19 s62 (⟨2,zad (zdf [(enc_55 (⟨(0:Int),(100:Int),(110:Int)⟩:Gate)),(enc_55 (⟨(200:Int),(40:Int),(50:Int)⟩:Gate))])⟩:(Sl Gate)) (0:Int) (300:Int)).2.2.2) (((s19 s62 (⟨2,zad (zdf [(enc_55 (⟨(0:Int),(100:Int),(110:Int)⟩:Gate)),(enc_55 (⟨(200:Int),(40:Int),(50:Int)⟩:Gate))])⟩:(Sl Gate)) (0:Int) (300:Int)).2.1).Num) (((s19 s62 (⟨2,zad (zdf [(enc_55 (⟨(0:Int),(100:Int),(110:Int)⟩:Gate)),(enc_55 (⟨(200:Int),(40:Int),(50:Int)⟩:Gate))])⟩:(Sl Gate)) (0:Int) (300:Int)).2.1).Den) (((s19 s62 (⟨2,zad (zdf [(enc_55 (⟨(0:Int),(100:Int),(110:Int)⟩:Gate)),(enc_55 (⟨(200:Int),(40:Int),(50:Int)⟩:Gate))])⟩:(Sl Gate)) (0:Int) (300:Int)).2.2.1).Num) (((s19 s62 (⟨2,zad (zdf [(enc_55 (⟨(0:Int),(100:Int),(110:Int)⟩:Gate)),(enc_55 (⟨(200:Int),(40:Int),(50:Int)⟩:Gate))])⟩:(Sl Gate)) (0:Int) (300:Int)).2.2.1).Den)))
theorem zFW (hs:zx5 cv0 ev0 fv1 za9 zba zaR zaS sv2 gv2=true) (hk:K (e18 (zx4 cv0 ev0 fv1 za9 zba zaR zaS sv2 gv2))) (zLR:zJh=zg zal sv2):z18 K [1,1,1,1] [] ⟨[(1,zS zbf 4 cv0),(2,zI ev0),(3,zp 3 0),(4,zp 4 0),(5,zI fv1),(6,zP (.sl sv2.len 1 zJh)),(7,zI gv2)],[(3,.box 25 (zm (zae (⟨za9,zba⟩:Frac)))),(4,.box 25 (zm (zae (⟨zaR,zaS⟩:Frac))))],[]⟩:=by subst zLR;exact zax (by kernel_rfl) (zaw hs fun hc hs=>And.intro (And.intro (zE enc_55 3 s62.get) (And.intro ((zfm []):IsE enc_55 3 3 (zdf [(enc_55 (⟨(0:Int),(100:Int),(110:Int)⟩:Gate)),(enc_55 (⟨(200:Int),(40:Int),(50:Int)⟩:Gate))])) hc)) (zFV hs hk rfl))
def zx6 (cv0:(Sl Line)) (ev0:Int) (fv1:Int) (za9:Int) (zba:Int) (zaR:Int) (zaS:Int):Bool :=
  (zx4 cv0 ev0 fv1 za9 zba zaR zaS ((s38 s63).1) ((s38 s63).2))
def zx7 (cv0:(Sl Line)) (ev0:Int) (fv1:Int) (za9:Int) (zba:Int) (zaR:Int) (zaS:Int):Bool :=
  (decide ((p38 s63=true)) &&
 (zx5 cv0 ev0 fv1 za9 zba zaR zaS ((s38 s63).1) ((s38 s63).2)))
theorem zFX (hs:zx7 cv0 ev0 fv1 za9 zba zaR zaS=true) (hk:K (e18 (zx6 cv0 ev0 fv1 za9 zba zaR zaS))):z18 K [1,1,1] [] ⟨[(1,zS zbf 4 cv0),(2,zI ev0),(3,zp 3 0),(4,zp 4 0),(5,zI fv1)],[(3,.box 25 (zm (zae (⟨za9,zba⟩:Frac)))),(4,.box 25 (zm (zae (⟨zaR,zaS⟩:Frac))))],[]⟩:=zax (by kernel_rfl) (zaw hs fun hc hs=>And.intro (And.intro (zE enc_55 3 s63.get) hc) (zFW hs hk rfl))
def zx8 (cv0:(Sl Line)) (ev0:Int):Bool :=
  (zx6 cv0 ev0 ((s30 s62 (300:Int)).2.2) (((s30 s62 (300:Int)).1).Num) (((s30 s62 (300:Int)).1).Den) (((s30 s62 (300:Int)).2.1).Num) (((s30 s62 (300:Int)).2.1).Den))
def zx9 (cv0:(Sl Line)) (ev0:Int):Bool :=
  (decide ((p30 s62 (300:Int)=true)) &&
 (zx7 cv0 ev0 ((s30 s62 (300:Int)).2.2) (((s30 s62 (300:Int)).1).Num) (((s30 s62 (300:Int)).1).Den) (((s30 s62 (300:Int)).2.1).Num) (((s30 s62 (300:Int)).2.1).Den)))
theorem zFY (hs:zx9 cv0 ev0=true) (hk:K (e18 (zx8 cv0 ev0))) (zLS:zJg=zg zbf cv0):z18 K [1,1] [] ⟨[(1,zP (.sl cv0.len 4 zJg)),(2,zI ev0)],[],[]⟩:=by subst zLS;exact zax (by kernel_rfl) (zaw hs fun hc hs=>And.intro (And.intro (zE enc_55 3 s62.get) hc) (zFX hs hk))
def s18:Bool :=
  (zx8 ((s31 s62).1) ((s31 s62).2))
def p18:Bool :=
  (decide ((p31 s62=true)) &&
 (zx9 ((s31 s62).1) ((s31 s62).2)))
end
theorem q18 (K:List PA→Prop) (hs:p18=true) (hk:K (e18 (s18))):vcFun Try.prog G18 zFQ 18 [] K :=
  zax (by kernel_rfl) (zaw hs fun hc hs=>And.intro (And.intro (zE enc_55 3 s62.get) hc) (zFY hs hk rfl))
theorem zJn:p18=true:=by kernel_rfl
theorem zJo:s18=true:=by kernel_rfl
def zFZ : List PA → COut
  | []=>.tot [.one (.bool true)]
  | _=>.no
theorem zJp:zah Try.prog 18:=⟨_,rfl,rfl,by kernel_rfl⟩
theorem zOI:Ok Try.prog 18 zFZ:=zaz zLL zJp fun args K h=>by
  unfold zFZ at h
  split at h
  · refine ⟨fun _ _ => [], fun _ => false, zFQ, q18 K zJn ?_⟩
    show K [.one (.bool s18)]
    rw [zJo];exact h
  · exact h.elim
abbrev T70:Tabs:=Tabs.nil
theorem zLT:TabsOk Try.prog T70:=TabsOk.nil
abbrev G70:Ctrs:=csm T70 (fun _ _=>[]) (fun _=>false)
def zJq:Ann:=⟨15,[(0,zK [0,1,2] []),(1,zK [6] [])],
 [],
 [],
 [],[]⟩
abbrev R70:=Bool
abbrev e70 (r:R70):List PA:=[.one (.bool r)]
section
variable {K:List PA→Prop} {n:Int} {low:Int} {high:Int}
def s70 (n:Int) (low:Int) (high:Int):Bool :=
  (cond (decide (n ≥ low))
 (decide (n≤high))
 false)
end
theorem q70 (n:Int) (low:Int) (high:Int) (K:List PA→Prop) (hk:K (e70 (s70 n low high))):vcFun Try.prog G70 zJq 70 [.one (.int .i64 n),.one (.int .i64 low),.one (.int .i64 high)] K :=
  zax (by kernel_rfl) (zt hk (fun hk=>hk) (fun hk=>hk))
def zBa : List PA → COut
  | [.one (.int .i64 a0),.one (.int .i64 a1),.one (.int .i64 a2)]=>.tot [.one (.bool (s70 a0 a1 a2))]
  | _=>.no
theorem zJr:zah Try.prog 70:=⟨_,rfl,rfl,by kernel_rfl⟩
theorem zM6:Ok Try.prog 70 zBa:=zaz zLT zJr fun args K h=>by
  unfold zBa at h
  split at h
  · rename_i a0 a1 a2
    have hk:=h
    exact ⟨(fun _ _=>[]),(fun _=>false),zJq,q70 a0 a1 a2 K hk⟩
  · exact h.elim
abbrev T49:Tabs:=(Tabs.nil.addF 70 zBa)
theorem zLU:TabsOk Try.prog T49:=(TabsOk.nil.addF zM6)
abbrev G49:Ctrs:=csm T49 (fun _ _=>[]) (fun _=>false)
def zJs:Ann:=⟨18,[(0,zK [1] [1]),(1,zK [2] [])],
 [],
 [],
 [],[]⟩
abbrev R49:=Bool
abbrev e49 (r:R49):List PA:=[.one (.bool r)]
section
variable {K:List PA→Prop} {g:Gate}
def s49 (g:Gate):Bool :=
  (cond (s70 g.Z (0:Int) (100000:Int))
 (cond (s70 g.Low (-1000000:Int) g.High)
 (decide (g.High≤(1000000:Int)))
 false)
 false)
end
theorem q49 (g:Gate) (K:List PA→Prop) (hk:K (e49 (s49 g))):vcFun Try.prog G49 zJs 49 [.agg (enc_55 g)] K :=
  zax (by kernel_rfl) (zt hk (fun hk=>(zt hk (fun hk=>hk) (fun hk=>hk))) (fun hk=>hk))
def zF0 : List PA → COut
  | [.agg [.int .i64 a0_Z,.int .i64 a0_Low,.int .i64 a0_High]]=>.tot [.one (.bool (s49 (⟨a0_Z,a0_Low,a0_High⟩:Gate)))]
  | _=>.no
theorem zJt:zah Try.prog 49:=⟨_,rfl,rfl,by kernel_rfl⟩
theorem zOJ:Ok Try.prog 49 zF0:=zaz zLU zJt fun args K h=>by
  unfold zF0 at h
  split at h
  · rename_i a0_Z a0_Low a0_High
    have hk:=h
    exact ⟨(fun _ _=>[]),(fun _=>false),zJs,q49 (⟨a0_Z,a0_Low,a0_High⟩:Gate) K hk⟩
  · exact h.elim
abbrev T20:Tabs:=((Tabs.nil.addF 49 zF0).addF 70 zBa)
theorem zLV:TabsOk Try.prog T20:=((TabsOk.nil.addF zOJ).addF zM6)
abbrev G20:Ctrs:=csm T20 (fun _ _=>[]) (fun _=>false)
def zF1:Ann:=⟨19,[(0,zK [0] []),(1,zK [0,3] []),(2,zK [0,3,7] []),(3,zK [0,3] []),(4,zK [0,3,15] []),(5,zK [2] []),(6,zK [2] [])],
 [(2,zK [0,3] [])],
 [(5,zK [0,3,15] [])],
 [],[]⟩
abbrev R20:=Bool
abbrev e20 (r:R20):List PA:=[.one (.bool r)]
@[irreducible] def z20:=ptF Try.prog G20 zF1 Try.f20
def zCA (l_a0:(Sl Gate)) (iv0:Int):St:=⟨[(0,zS enc_55 3 l_a0),(3,zI iv0)],[],[]⟩
abbrev zF2 (K:List PA→Prop) (l_a0:(Sl Gate)) (X:St→Prop) (P:Int→Bool) (S:Int→Bool):Prop:=∀ ⦃iv0:Int⦄,P iv0=true→K (e20 (S iv0))→X (zCA l_a0 iv0)
section
variable {K:List PA→Prop} {l_a0:(Sl Gate)} {iv0:Int} {X0:St→Prop} {P0:Int→Bool} {S0:Int→Bool} {iv1:Int} {zqR:Bool}
def zqS (S0:Int→Bool) (l_a0:(Sl Gate)) (iv1:Int) (zqR:Bool):Bool :=
  (cond zqR
 false
 (S0 (w64 (iv1+(1:Int)))))
def zqT (P0:Int→Bool) (l_a0:(Sl Gate)) (iv1:Int) (zqR:Bool):Bool :=
  (cond zqR
 true
 (P0 (w64 (iv1+(1:Int)))))
theorem zF3 (hX0:zF2 K l_a0 X0 P0 S0) (hs:zqT P0 l_a0 iv1 zqR=true) (hk:K (e20 (zqS S0 l_a0 iv1 zqR))):z20 K [1,0,1,0,0,1,0,0,1] [X0] ⟨[(0,zS enc_55 3 l_a0),(3,zI iv1),(15,zB zqR)],[],[]⟩:=zax (by kernel_rfl) (zc hs hk (fun hs hk=>hk) (fun hs hk=>(hX0 hs hk)))
def zhs (l_a0:(Sl Gate)) (S0:Int→Bool) (iv0:Int):Bool :=
  (cond (decide (iv0 < (l_a0.len : Int)))
 (zqS S0 l_a0 iv0 (!(s49 (l_a0.get iv0.toNat))))
 (s70 (l_a0.len:Int) (1:Int) (24:Int)))
def zht (l_a0:(Sl Gate)) (P0:Int→Bool) (iv0:Int):Bool :=
  (cond (decide (iv0 < (l_a0.len : Int)))
 (decide ((0≤iv0∧iv0 < (l_a0.len:Int))) &&
 (zqT P0 l_a0 iv0 (!(s49 (l_a0.get iv0.toNat)))))
 true)
def zhu (l_a0:(Sl Gate)):Nat→Int→Bool:=lpO (fun _=>default) (zhs l_a0)
def zhv (l_a0:(Sl Gate)):Nat→Int→Bool:=lpO (fun _=>false) (zht l_a0)
def zya (l_a0:(Sl Gate)) (iv0:Int):Bool:=zhu l_a0 Fuel iv0
def zyb (l_a0:(Sl Gate)) (iv0:Int):Bool:=zhv l_a0 Fuel iv0
theorem zF4 (hs:zyb l_a0 iv0=true) (hk:K (e20 (zya l_a0 iv0))):z20 K [1,0,1,0] [] (zCA l_a0 iv0) :=
  zl (fun X=>z20 K [1,0,1,0,0] [X]) (by kernel_rfl) fun X0 hX =>
  (show ∀ k, zF2 K l_a0 X0 (zhv l_a0 k) (zhu l_a0 k) from zgh _ _ (zht l_a0) (zhs l_a0) (zF2 K l_a0 X0)
 (by intro _ hs;exact absurd hs Bool.false_ne_true)
 (by intro P0 S0 hX0 iv0 hs hk;exact hX _ (zax (by kernel_rfl) (zc hs hk (fun hs hk=>(zaw hs fun hc hs=>And.intro hc (zF3 hX0 hs hk))) (fun hs hk=>hk))))) _ hs hk
def s20 (l_a0:(Sl Gate)):Bool :=
  (zya l_a0 (0:Int))
def p20 (l_a0:(Sl Gate)):Bool :=
  (zyb l_a0 (0:Int))
end
theorem q20 (l_a0:(Sl Gate)) (K:List PA→Prop) (hs:p20 l_a0=true) (hk:K (e20 (s20 l_a0))):vcFun Try.prog G20 zF1 20 [.one (.sl l_a0.len 3 (fun i=>enc_55 (l_a0.get i)))] K :=
  zax (by kernel_rfl) (zF4 hs hk)
def zF5 : List PA → COut
  | [.one (.sl a0_n a0_s a0_g)]=>.det (IsE enc_55 3 a0_s a0_g∧p20 (⟨a0_n,zad a0_g⟩:(Sl Gate))=true) [.one (.bool (s20 (⟨a0_n,zad a0_g⟩:(Sl Gate))))]
  | _=>.no
theorem zJu:zah Try.prog 20:=⟨_,rfl,rfl,by kernel_rfl⟩
theorem zOK:Ok Try.prog 20 zF5:=zaz zLV zJu fun args K h=>by
  unfold zF5 at h
  split at h
  · rename_i a0_n a0_s a0_g
    obtain ⟨⟨⟨rfl,a0_f,rfl⟩,hs⟩,hk⟩:=h
    try rw [zac a0_f] at hs
    try rw [zac a0_f] at hk
    exact ⟨(fun _ _=>[]),(fun _=>false),zF1,q20 (⟨a0_n,a0_f⟩:(Sl Gate)) K hs hk⟩
  · exact h.elim
abbrev T22:Tabs:=Tabs.nil
theorem zLW:TabsOk Try.prog T22:=TabsOk.nil
abbrev G22:Ctrs:=csm T22 (fun _ _=>[]) (fun _=>false)
def zF6:Ann:=⟨20,[(0,zK [0] []),(1,zK [0,3] []),(2,zK [0,3,7] []),(3,zK [0,3] []),(4,zK [0,3,19] []),(5,zK [2] []),(6,zK [2] [])],
 [(2,zK [0,3] [])],
 [],
 [],[]⟩
abbrev R22:=Bool
abbrev e22 (r:R22):List PA:=[.one (.bool r)]
@[irreducible] def z22:=ptF Try.prog G22 zF6 Try.f22
def zCB (zaa:(Sl Gate)) (iv0:Int):St:=⟨[(0,zS enc_55 3 zaa),(3,zI iv0)],[],[]⟩
abbrev zJv (K:List PA→Prop) (zaa:(Sl Gate)) (X:St→Prop) (P:Int→Bool) (S:Int→Bool):Prop:=∀ ⦃iv0:Int⦄,P iv0=true→K (e22 (S iv0))→X (zCB zaa iv0)
section
variable {K:List PA→Prop} {zaa:(Sl Gate)} {iv0:Int} {X0:St→Prop} {P0:Int→Bool} {S0:Int→Bool}
def zhw (zaa:(Sl Gate)) (S0:Int→Bool) (iv0:Int):Bool :=
  (cond (decide (iv0 < (zaa.len : Int)))
 (cond ((zaa.get iv0.toNat).Z != (zaa.get 0).Z)
 false
 (S0 (w64 (iv0+(1:Int)))))
 true)
def zhx (zaa:(Sl Gate)) (P0:Int→Bool) (iv0:Int):Bool :=
  (cond (decide (iv0 < (zaa.len : Int)))
 (decide ((0≤iv0∧iv0 < (zaa.len:Int))) &&
 (decide ((0≤(0:Int)∧(0:Int) < (zaa.len:Int))) &&
 (cond ((zaa.get iv0.toNat).Z != (zaa.get 0).Z)
 true
 (P0 (w64 (iv0+(1:Int)))))))
 true)
def zhy (zaa:(Sl Gate)):Nat→Int→Bool:=lpO (fun _=>default) (zhw zaa)
def zhz (zaa:(Sl Gate)):Nat→Int→Bool:=lpO (fun _=>false) (zhx zaa)
def zyc (zaa:(Sl Gate)) (iv0:Int):Bool:=zhy zaa Fuel iv0
def zyd (zaa:(Sl Gate)) (iv0:Int):Bool:=zhz zaa Fuel iv0
theorem zF7 (hs:zyd zaa iv0=true) (hk:K (e22 (zyc zaa iv0))):z22 K [1,0,1,0] [] (zCB zaa iv0) :=
  zl (fun X=>z22 K [1,0,1,0,0] [X]) (by kernel_rfl) fun X0 hX =>
  (show ∀ k, zJv K zaa X0 (zhz zaa k) (zhy zaa k) from zgh _ _ (zhx zaa) (zhw zaa) (zJv K zaa X0)
 (by intro _ hs;exact absurd hs Bool.false_ne_true)
 (by intro P0 S0 hX0 iv0 hs hk;exact hX _ (zax (by kernel_rfl) (zc hs hk (fun hs hk=>(zaw hs fun hc hs=>And.intro hc (zaw hs fun hc hs=>And.intro hc (zc hs hk (fun hs hk=>hk) (fun hs hk=>(hX0 hs hk)))))) (fun hs hk=>hk))))) _ hs hk
def s22 (zaa:(Sl Gate)):Bool :=
  (zyc zaa (1:Int))
def p22 (zaa:(Sl Gate)):Bool :=
  (zyd zaa (1:Int))
end
theorem q22 (zaa:(Sl Gate)) (K:List PA→Prop) (hs:p22 zaa=true) (hk:K (e22 (s22 zaa))):vcFun Try.prog G22 zF6 22 [.one (.sl zaa.len 3 (fun i=>enc_55 (zaa.get i)))] K :=
  zax (by kernel_rfl) (zF7 hs hk)
def zBb : List PA → COut
  | [.one (.sl a0_n a0_s a0_g)]=>.det (IsE enc_55 3 a0_s a0_g∧p22 (⟨a0_n,zad a0_g⟩:(Sl Gate))=true) [.one (.bool (s22 (⟨a0_n,zad a0_g⟩:(Sl Gate))))]
  | _=>.no
theorem zJw:zah Try.prog 22:=⟨_,rfl,rfl,by kernel_rfl⟩
theorem zOL:Ok Try.prog 22 zBb:=zaz zLW zJw fun args K h=>by
  unfold zBb at h
  split at h
  · rename_i a0_n a0_s a0_g
    obtain ⟨⟨⟨rfl,a0_f,rfl⟩,hs⟩,hk⟩:=h
    try rw [zac a0_f] at hs
    try rw [zac a0_f] at hk
    exact ⟨(fun _ _=>[]),(fun _=>false),zF6,q22 (⟨a0_n,a0_f⟩:(Sl Gate)) K hs hk⟩
  · exact h.elim
abbrev zM7:Tabs:=Tabs.nil
theorem zJx:TabsOk Try.prog zM7:=TabsOk.nil
abbrev zOM:Ctrs:=csm zM7 (fun _ _=>[]) (fun _=>false)
def zCC:Ann:=⟨30,[(0,zK [1,2] [2]),(1,zK [4,5] [])],
 [],
 [],
 [],[]⟩
abbrev zON:=(Int×Int)
abbrev zOO (r:zON):List PA:=[.one (.int .i64 r.1),.one (.int .i64 r.2)]
section
variable {K:List PA→Prop} {l_a0:Line} {z:Int}
def zqU (l_a0:Line) (z:Int):(Int×Int) :=
  ((w64 ((w64 (l_a0.Start.Num * l_a0.Slope.Den))+(w64 ((w64 (l_a0.Slope.Num * z)) * l_a0.Start.Den)))),(w64 (l_a0.Start.Den * l_a0.Slope.Den)))
end
theorem zOP (l_a0:Line) (z:Int) (K:List PA→Prop) (hk:K (zOO (zqU l_a0 z))):vcFun Try.prog zOM zCC 104 [.agg (zbf l_a0),.one (.int .i64 z)] K :=
  zax (by kernel_rfl) hk
def zye : List PA → COut
  | [.agg [.int .i64 a0_Slope_Num,.int .i64 a0_Slope_Den,.int .i64 a0_Start_Num,.int .i64 a0_Start_Den],.one (.int .i64 a1)]=>.tot [.one (.int .i64 ((zqU (⟨(⟨a0_Slope_Num,a0_Slope_Den⟩:Frac),(⟨a0_Start_Num,a0_Start_Den⟩:Frac)⟩:Line) a1).1)),.one (.int .i64 ((zqU (⟨(⟨a0_Slope_Num,a0_Slope_Den⟩:Frac),(⟨a0_Start_Num,a0_Start_Den⟩:Frac)⟩:Line) a1).2))]
  | _=>.no
theorem zF8:zah Try.prog 104:=⟨_,rfl,rfl,by kernel_rfl⟩
theorem zLX:Ok Try.prog 104 zye:=zaz zJx zF8 fun args K h=>by
  unfold zye at h
  split at h
  · rename_i a0_Slope_Num a0_Slope_Den a0_Start_Num a0_Start_Den a1
    have hk:=h
    exact ⟨(fun _ _=>[]),(fun _=>false),zCC,zOP (⟨(⟨a0_Slope_Num,a0_Slope_Den⟩:Frac),(⟨a0_Start_Num,a0_Start_Den⟩:Frac)⟩:Line) a1 K hk⟩
  · exact h.elim
abbrev T72:Tabs:=(Tabs.nil.addF 104 zye)
theorem zLY:TabsOk Try.prog T72:=(TabsOk.nil.addF zLX)
abbrev G72:Ctrs:=csm T72 (fun _ _=>[]) (fun _=>false)
def zJy:Ann:=⟨28,[(0,zK [2,3] [2,3]),(1,zK [3,5,6] [3]),(2,zK [4] [])],
 [],
 [],
 [],[]⟩
abbrev R72:=Bool
abbrev e72 (r:R72):List PA:=[.one (.bool r)]
section
variable {K:List PA→Prop} {l_a0:Line} {g:Gate}
def s72 (l_a0:Line) (g:Gate):Bool :=
  (cond (decide ((w64 (g.Low * ((zqU l_a0 g.Z).2))) ≤ ((zqU l_a0 g.Z).1)))
 (decide (((zqU l_a0 g.Z).1)≤(w64 (g.High * ((zqU l_a0 g.Z).2)))))
 false)
end
theorem q72 (l_a0:Line) (g:Gate) (K:List PA→Prop) (hk:K (e72 (s72 l_a0 g))):vcFun Try.prog G72 zJy 72 [.agg (zbf l_a0),.agg (enc_55 g)] K :=
  zax (by kernel_rfl) (zt hk (fun hk=>hk) (fun hk=>hk))
def zF9 : List PA → COut
  | [.agg [.int .i64 a0_Slope_Num,.int .i64 a0_Slope_Den,.int .i64 a0_Start_Num,.int .i64 a0_Start_Den],.agg [.int .i64 a1_Z,.int .i64 a1_Low,.int .i64 a1_High]]=>.tot [.one (.bool (s72 (⟨(⟨a0_Slope_Num,a0_Slope_Den⟩:Frac),(⟨a0_Start_Num,a0_Start_Den⟩:Frac)⟩:Line) (⟨a1_Z,a1_Low,a1_High⟩:Gate)))]
  | _=>.no
theorem zJz:zah Try.prog 72:=⟨_,rfl,rfl,by kernel_rfl⟩
theorem zOQ:Ok Try.prog 72 zF9:=zaz zLY zJz fun args K h=>by
  unfold zF9 at h
  split at h
  · rename_i a0_Slope_Num a0_Slope_Den a0_Start_Num a0_Start_Den a1_Z a1_Low a1_High
    have hk:=h
    exact ⟨(fun _ _=>[]),(fun _=>false),zJy,q72 (⟨(⟨a0_Slope_Num,a0_Slope_Den⟩:Frac),(⟨a0_Start_Num,a0_Start_Den⟩:Frac)⟩:Line) (⟨a1_Z,a1_Low,a1_High⟩:Gate) K hk⟩
  · exact h.elim
abbrev T27:Tabs:=(Tabs.nil.addF 72 zF9)
theorem zLZ:TabsOk Try.prog T27:=(TabsOk.nil.addF zOQ)
abbrev G27:Ctrs:=csm T27 (fun _ _=>[]) (fun _=>false)
def zGa:Ann:=⟨24,[(0,zK [1,2] [2]),(1,zK [1,2,5] [2]),(2,zK [1,2,5,6] [2]),(3,zK [1,2,5,6,10] [2,22]),(4,zK [1,2,5,6] [2,22]),(5,zK [1,2,5,6,18] [2,22]),(6,zK [1,2,5,6] [2,22]),(7,zK [4] [22])],
 [(3,⟨[1,2,5,6],[2,22],[(5,22,3,fun _=>zal default)],[],[],[],[]⟩)],
 [(6,zK [1,2,5,6,18] [2,22])],
 [],[]⟩
abbrev R27:=(Sl Int)
abbrev e27 (r:R27):List PA:=[.one (.sl r.len 1 (fun i=>zal (r.get i)))]
@[irreducible] def z27:=ptF Try.prog G27 zGa Try.f27
def zCD (l_a0:Line) (zaa:(Sl Gate)) (iv0:Int) (zdW:(Sl Int)) (zfc:Nat→List PV):St:=⟨[(1,zS enc_55 3 zaa),(2,zp 2 0),(5,zv 22),(6,zI iv0)],[(2,.box 37 (zm (zbf l_a0))),(22,.vec 3 1 8 zdW.len zfc)],[]⟩
abbrev zGb (K:List PA→Prop) (l_a0:Line) (zaa:(Sl Gate)) (X:St→Prop) (P:Int→(Sl Int)→Bool) (S:Int→(Sl Int)→(Sl Int)):Prop:=∀ ⦃iv0:Int⦄ ⦃zdW:(Sl Int)⦄ ⦃zfc:Nat→List PV⦄,P iv0 zdW=true→K (e27 (S iv0 zdW))→zfc=zg zal zdW→X (zCD l_a0 zaa iv0 zdW zfc)
section
variable {K:List PA→Prop} {l_a0:Line} {zaa:(Sl Gate)} {iv0:Int} {zdW:(Sl Int)} {zfc:Nat→List PV} {X0:St→Prop} {P0:Int→(Sl Int)→Bool} {S0:Int→(Sl Int)→(Sl Int)} {iv1:Int} {zqV:Bool} {zfd:(Sl Int)} {zyf:Nat→List PV}
def zqW (S0:Int→(Sl Int)→(Sl Int)) (l_a0:Line) (zaa:(Sl Gate)) (iv1:Int) (zqV:Bool) (zfd:(Sl Int)):(Sl Int) :=
  (cond zqV
 (S0 (w64 (iv1+(1:Int))) (⟨(zfd.len+1),(zd5 zfd.len zfd.get (fun _=>iv1))⟩:Sl Int))
 (S0 (w64 (iv1+(1:Int))) zfd))
def zqX (P0:Int→(Sl Int)→Bool) (l_a0:Line) (zaa:(Sl Gate)) (iv1:Int) (zqV:Bool) (zfd:(Sl Int)):Bool :=
  (cond zqV
 (decide (((zfd.len+1) * 8≤140737488355328∧zfd.len+1≤9223372036854775807)) &&
 (P0 (w64 (iv1+(1:Int))) (⟨(zfd.len+1),(zd5 zfd.len zfd.get (fun _=>iv1))⟩:Sl Int)))
 (P0 (w64 (iv1+(1:Int))) zfd))
theorem zGc (hX0:zGb K l_a0 zaa X0 P0 S0) (hs:zqX P0 l_a0 zaa iv1 zqV zfd=true) (hk:K (e27 (zqW S0 l_a0 zaa iv1 zqV zfd))) (zGd:zyf=zg zal zfd):z27 K [1,1,0,1,0,0,1,0,0,1] [X0] ⟨[(1,zS enc_55 3 zaa),(2,zp 2 0),(5,zv 22),(6,zI iv1),(18,zB zqV)],[(2,.box 37 (zm (zbf l_a0))),(22,.vec 3 1 8 zfd.len zyf)],[]⟩:=by subst zGd;exact zax (by kernel_rfl) (zc hs hk (fun hs hk=>(zaw hs fun hc hs=>And.intro hc (hX0 hs hk (zjk (enc:=zal) (f:=zfd.get) (h:=(fun _=>iv1)) rfl rfl)))) (fun hs hk=>(hX0 hs hk rfl)))
def zhA (l_a0:Line) (zaa:(Sl Gate)) (S0:Int→(Sl Int)→(Sl Int)) (iv0:Int) (zdW:(Sl Int)):(Sl Int) :=
  (cond (decide (iv0 < (zaa.len : Int)))
 (zqW S0 l_a0 zaa iv0 (s72 l_a0 (zaa.get iv0.toNat)) zdW)
 zdW)
def zhB (l_a0:Line) (zaa:(Sl Gate)) (P0:Int→(Sl Int)→Bool) (iv0:Int) (zdW:(Sl Int)):Bool :=
  (cond (decide (iv0 < (zaa.len : Int)))
 (decide ((0≤iv0∧iv0 < (zaa.len:Int))) &&
 (zqX P0 l_a0 zaa iv0 (s72 l_a0 (zaa.get iv0.toNat)) zdW))
 true)
def zhC (l_a0:Line) (zaa:(Sl Gate)):Nat→Int→(Sl Int)→(Sl Int):=lpO (fun _ _=>default) (zhA l_a0 zaa)
def zhD (l_a0:Line) (zaa:(Sl Gate)):Nat→Int→(Sl Int)→Bool:=lpO (fun _ _=>false) (zhB l_a0 zaa)
def zyg (l_a0:Line) (zaa:(Sl Gate)) (iv0:Int) (zdW:(Sl Int)):(Sl Int):=zhC l_a0 zaa Fuel iv0 zdW
def zyh (l_a0:Line) (zaa:(Sl Gate)) (iv0:Int) (zdW:(Sl Int)):Bool:=zhD l_a0 zaa Fuel iv0 zdW
theorem zGe (hs:zyh l_a0 zaa iv0 zdW=true) (hk:K (e27 (zyg l_a0 zaa iv0 zdW))) (zqY:zfc=zg zal zdW):z27 K [1,1,0,1,0] [] (zCD l_a0 zaa iv0 zdW zfc) :=
  zl (fun X=>z27 K [1,1,0,1,0,0] [X]) (by kernel_rfl) fun X0 hX =>
  (show ∀ k, zGb K l_a0 zaa X0 (zhD l_a0 zaa k) (zhC l_a0 zaa k) from zgh _ _ (zhB l_a0 zaa) (zhA l_a0 zaa) (zGb K l_a0 zaa X0)
 (by intro _ _ _ hs;exact absurd hs Bool.false_ne_true)
 (by intro P0 S0 hX0 iv0 zdW zfc hs hk zqY;subst zqY;exact hX _ (zax (by kernel_rfl) (zc hs hk (fun hs hk=>(zaw hs fun hc hs=>And.intro hc (zGc hX0 hs hk rfl))) (fun hs hk=>hk))))) _ hs hk zqY
def s27 (l_a0:Line) (zaa:(Sl Gate)):(Sl Int) :=
  (zyg l_a0 zaa (0:Int) (⟨0,(fun _=>default)⟩:Sl Int))
def p27 (l_a0:Line) (zaa:(Sl Gate)):Bool :=
  (zyh l_a0 zaa (0:Int) (⟨0,(fun _=>default)⟩:Sl Int))
end
theorem q27 (l_a0:Line) (zaa:(Sl Gate)) (K:List PA→Prop) (hs:p27 l_a0 zaa=true) (hk:K (e27 (s27 l_a0 zaa))):vcFun Try.prog G27 zGa 27 [.agg (zbf l_a0),.one (.sl zaa.len 3 (fun i=>enc_55 (zaa.get i)))] K :=
  zax (by kernel_rfl) (zGe hs hk rfl)
def zGf : List PA → COut
  | [.agg [.int .i64 a0_Slope_Num,.int .i64 a0_Slope_Den,.int .i64 a0_Start_Num,.int .i64 a0_Start_Den],.one (.sl a1_n a1_s a1_g)]=>.det (IsE enc_55 3 a1_s a1_g∧p27 (⟨(⟨a0_Slope_Num,a0_Slope_Den⟩:Frac),(⟨a0_Start_Num,a0_Start_Den⟩:Frac)⟩:Line) (⟨a1_n,zad a1_g⟩:(Sl Gate))=true) [.one (.sl ((s27 (⟨(⟨a0_Slope_Num,a0_Slope_Den⟩:Frac),(⟨a0_Start_Num,a0_Start_Den⟩:Frac)⟩:Line) (⟨a1_n,zad a1_g⟩:(Sl Gate))).len) 1 (fun i=>zal ((s27 (⟨(⟨a0_Slope_Num,a0_Slope_Den⟩:Frac),(⟨a0_Start_Num,a0_Start_Den⟩:Frac)⟩:Line) (⟨a1_n,zad a1_g⟩:(Sl Gate))).get i)))]
  | _=>.no
theorem zJA:zah Try.prog 27:=⟨_,rfl,rfl,by kernel_rfl⟩
theorem zOR:Ok Try.prog 27 zGf:=zaz zLZ zJA fun args K h=>by
  unfold zGf at h
  split at h
  · rename_i a0_Slope_Num a0_Slope_Den a0_Start_Num a0_Start_Den a1_n a1_s a1_g
    obtain ⟨⟨⟨rfl,a1_f,rfl⟩,hs⟩,hk⟩:=h
    try rw [zac a1_f] at hs
    try rw [zac a1_f] at hk
    exact ⟨(fun _ _=>[]),(fun _=>false),zGa,q27 (⟨(⟨a0_Slope_Num,a0_Slope_Den⟩:Frac),(⟨a0_Start_Num,a0_Start_Den⟩:Frac)⟩:Line) (⟨a1_n,a1_f⟩:(Sl Gate)) K hs hk⟩
  · exact h.elim
abbrev T26:Tabs:=(Tabs.nil.addF 40 ztk)
theorem zL0:TabsOk Try.prog T26:=(TabsOk.nil.addF zLE)
abbrev G26:Ctrs:=csm T26 (fun _ _=>[]) (fun _=>false)
def zGg:Ann:=⟨35,[(0,zK [0,1,2,3,8] [8]),(1,zK [0,1,2,3,8,11] [8]),(2,zK [0,1,2,3,8] [8]),(3,zK [8] [8])],
 [],
 [(3,zK [0,1,2,3,8] [8])],
 [],[]⟩
abbrev R26:=Line
abbrev e26 (r:R26):List PA:=[.agg [.int .i64 r.Slope.Num,.int .i64 r.Slope.Den,.int .i64 r.Start.Num,.int .i64 r.Start.Den]]
@[irreducible] def z26:=ptF Try.prog G26 zGg Try.f26
section
variable {K:List PA→Prop} {z:Int} {x:Int} {w:Int} {y_a3:Int} {zv0:Int} {xv0:Int} {wv0:Int} {yv0:Int}
def zmZ (zv0:Int) (xv0:Int) (wv0:Int) (yv0:Int):Line :=
  (⟨(s40 (w64 (yv0 - xv0)) (w64 (wv0 - zv0))),(s40 (w64 ((w64 (xv0 * wv0)) - (w64 (yv0 * zv0)))) (w64 (wv0 - zv0)))⟩:Line)
def zm0 (zv0:Int) (xv0:Int) (wv0:Int) (yv0:Int):Bool :=
  (decide ((p40 (w64 (yv0 - xv0)) (w64 (wv0 - zv0))=true)) &&
 (decide ((p40 (w64 ((w64 (xv0 * wv0)) - (w64 (yv0 * zv0)))) (w64 (wv0 - zv0))=true)) &&
 true))
theorem zyi (hs:zm0 zv0 xv0 wv0 yv0=true) (hk:K (e26 (zmZ zv0 xv0 wv0 yv0))):z26 K [1,1] [] ⟨[(0,zI zv0),(1,zI xv0),(2,zI wv0),(3,zI yv0),(8,zp 8 0)],[(8,.box 37 (zm (zbf (⟨(⟨(0:Int),(0:Int)⟩:Frac),(⟨(0:Int),(0:Int)⟩:Frac)⟩:Line))))],[]⟩:=zax (by kernel_rfl) (zaw hs fun hc hs=>And.intro hc (zaw hs fun hc hs=>And.intro hc hk))
def s26 (z:Int) (x:Int) (w:Int) (y_a3:Int):Line :=
  (cond (decide (w < z))
 (zmZ w y_a3 z x)
 (zmZ z x w y_a3))
def p26 (z:Int) (x:Int) (w:Int) (y_a3:Int):Bool :=
  (cond (decide (w < z))
 (zm0 w y_a3 z x)
 (zm0 z x w y_a3))
end
theorem q26 (z:Int) (x:Int) (w:Int) (y_a3:Int) (K:List PA→Prop) (hs:p26 z x w y_a3=true) (hk:K (e26 (s26 z x w y_a3))):vcFun Try.prog G26 zGg 26 [.one (.int .i64 z),.one (.int .i64 x),.one (.int .i64 w),.one (.int .i64 y_a3)] K :=
  zax (by kernel_rfl) (zc hs hk (fun hs hk=>(zyi hs hk)) (fun hs hk=>(zyi hs hk)))
def zGh : List PA → COut
  | [.one (.int .i64 a0),.one (.int .i64 a1),.one (.int .i64 a2),.one (.int .i64 a3)]=>.det (p26 a0 a1 a2 a3=true) [.agg [.int .i64 ((s26 a0 a1 a2 a3).Slope.Num),.int .i64 ((s26 a0 a1 a2 a3).Slope.Den),.int .i64 ((s26 a0 a1 a2 a3).Start.Num),.int .i64 ((s26 a0 a1 a2 a3).Start.Den)]]
  | _=>.no
theorem zJB:zah Try.prog 26:=⟨_,rfl,rfl,by kernel_rfl⟩
theorem zOS:Ok Try.prog 26 zGh:=zaz zL0 zJB fun args K h=>by
  unfold zGh at h
  split at h
  · rename_i a0 a1 a2 a3
    obtain ⟨hs,hk⟩:=h
    exact ⟨(fun _ _=>[]),(fun _=>false),zGg,q26 a0 a1 a2 a3 K hs hk⟩
  · exact h.elim
abbrev T29:Tabs:=Tabs.nil
theorem zL1:TabsOk Try.prog T29:=TabsOk.nil
abbrev G29:Ctrs:=csm T29 (fun _ _=>[]) (fun _=>false)
def zJC:Ann:=⟨16,[(0,zK [2,3] [2,3]),(1,zK [4] [])],
 [],
 [],
 [],[]⟩
abbrev R29:=Bool
abbrev e29 (r:R29):List PA:=[.one (.bool r)]
section
variable {K:List PA→Prop} {a:Frac} {b:Frac}
def s29 (a:Frac) (b:Frac):Bool :=
  (decide ((w64 (a.Num * b.Den)) < (w64 (b.Num * a.Den))))
end
theorem q29 (a:Frac) (b:Frac) (K:List PA→Prop) (hk:K (e29 (s29 a b))):vcFun Try.prog G29 zJC 29 [.agg (zae a),.agg (zae b)] K :=
  zax (by kernel_rfl) hk
def zyj : List PA → COut
  | [.agg [.int .i64 a0_Num,.int .i64 a0_Den],.agg [.int .i64 a1_Num,.int .i64 a1_Den]]=>.tot [.one (.bool (s29 (⟨a0_Num,a0_Den⟩:Frac) (⟨a1_Num,a1_Den⟩:Frac)))]
  | _=>.no
theorem zJD:zah Try.prog 29:=⟨_,rfl,rfl,by kernel_rfl⟩
theorem zOT:Ok Try.prog 29 zyj:=zaz zL1 zJD fun args K h=>by
  unfold zyj at h
  split at h
  · rename_i a0_Num a0_Den a1_Num a1_Den
    have hk:=h
    exact ⟨(fun _ _=>[]),(fun _=>false),zJC,q29 (⟨a0_Num,a0_Den⟩:Frac) (⟨a1_Num,a1_Den⟩:Frac) K hk⟩
  · exact h.elim
abbrev T28:Tabs:=((Tabs.nil.addF 40 ztk).addF 73 zA6)
theorem zL2:TabsOk Try.prog T28:=((TabsOk.nil.addF zLE).addF zM3)
abbrev G28:Ctrs:=csm T28 (fun _ _=>[]) (fun _=>false)
def zGi:Ann:=⟨44,[(0,zK [1,2,4] [2,4]),(1,zK [1,2,4,5] [2,4]),(2,zK [4] [4])],
 [],
 [(2,zK [1,2,4,5] [2,4])],
 [],[]⟩
abbrev R28:=Frac
abbrev e28 (r:R28):List PA:=[.agg [.int .i64 r.Num,.int .i64 r.Den]]
@[irreducible] def z28:=ptF Try.prog G28 zGi Try.f28
section
variable {K:List PA→Prop} {l_a0:Line} {z:Int} {dv0:Int}
def zqZ (l_a0:Line) (z:Int) (dv0:Int):Frac :=
  (s40 (w64 ((w64 (l_a0.Start.Num * (w64 (dv0.tdiv l_a0.Start.Den))))+(w64 ((w64 (l_a0.Slope.Num * (w64 (dv0.tdiv l_a0.Slope.Den)))) * z)))) dv0)
def zq0 (l_a0:Line) (z:Int) (dv0:Int):Bool :=
  (decide ((l_a0.Start.Den ≠ 0)) &&
 (decide ((l_a0.Slope.Den ≠ 0)) &&
 (decide ((p40 (w64 ((w64 (l_a0.Start.Num * (w64 (dv0.tdiv l_a0.Start.Den))))+(w64 ((w64 (l_a0.Slope.Num * (w64 (dv0.tdiv l_a0.Slope.Den)))) * z)))) dv0=true)) &&
 true)))
theorem zGj (hs:zq0 l_a0 z dv0=true) (hk:K (e28 (zqZ l_a0 z dv0))):z28 K [1,1] [] ⟨[(1,zI z),(2,zp 2 0),(4,zp 4 0),(5,zI dv0)],[(2,.box 37 (zm (zbf l_a0))),(4,.box 25 (zm (zae (⟨(0:Int),(0:Int)⟩:Frac))))],[]⟩:=zax (by kernel_rfl) (zaw hs fun hc hs=>And.intro hc (zaw hs fun hc hs=>And.intro hc (zaw hs fun hc hs=>And.intro hc hk)))
def s28 (l_a0:Line) (z:Int):Frac :=
  (zqZ l_a0 z (w64 ((w64 (l_a0.Start.Den.tdiv (s73 l_a0.Start.Den l_a0.Slope.Den))) * l_a0.Slope.Den)))
def p28 (l_a0:Line) (z:Int):Bool :=
  (decide ((p73 l_a0.Start.Den l_a0.Slope.Den=true)) &&
 (decide (((s73 l_a0.Start.Den l_a0.Slope.Den) ≠ 0)) &&
 (zq0 l_a0 z (w64 ((w64 (l_a0.Start.Den.tdiv (s73 l_a0.Start.Den l_a0.Slope.Den))) * l_a0.Slope.Den)))))
end
theorem q28 (l_a0:Line) (z:Int) (K:List PA→Prop) (hs:p28 l_a0 z=true) (hk:K (e28 (s28 l_a0 z))):vcFun Try.prog G28 zGi 28 [.agg (zbf l_a0),.one (.int .i64 z)] K :=
  zax (by kernel_rfl) (zaw hs fun hc hs=>And.intro hc (zaw hs fun hc hs=>And.intro hc (zGj hs hk)))
def zGk : List PA → COut
  | [.agg [.int .i64 a0_Slope_Num,.int .i64 a0_Slope_Den,.int .i64 a0_Start_Num,.int .i64 a0_Start_Den],.one (.int .i64 a1)]=>.det (p28 (⟨(⟨a0_Slope_Num,a0_Slope_Den⟩:Frac),(⟨a0_Start_Num,a0_Start_Den⟩:Frac)⟩:Line) a1=true) [.agg [.int .i64 ((s28 (⟨(⟨a0_Slope_Num,a0_Slope_Den⟩:Frac),(⟨a0_Start_Num,a0_Start_Den⟩:Frac)⟩:Line) a1).Num),.int .i64 ((s28 (⟨(⟨a0_Slope_Num,a0_Slope_Den⟩:Frac),(⟨a0_Start_Num,a0_Start_Den⟩:Frac)⟩:Line) a1).Den)]]
  | _=>.no
theorem call28:zah Try.prog 28:=⟨_,rfl,rfl,by kernel_rfl⟩
theorem zOU:Ok Try.prog 28 zGk:=zaz zL2 call28 fun args K h=>by
  unfold zGk at h
  split at h
  · rename_i a0_Slope_Num a0_Slope_Den a0_Start_Num a0_Start_Den a1
    obtain ⟨hs,hk⟩:=h
    exact ⟨(fun _ _=>[]),(fun _=>false),zGi,q28 (⟨(⟨a0_Slope_Num,a0_Slope_Den⟩:Frac),(⟨a0_Start_Num,a0_Start_Den⟩:Frac)⟩:Line) a1 K hs hk⟩
  · exact h.elim
abbrev T25:Tabs:=Tabs.nil
theorem zL3:TabsOk Try.prog T25:=TabsOk.nil
abbrev G25:Ctrs:=csm T25 (fun _ _=>[]) (fun _=>false)
def zJE:Ann:=⟨44,[(0,zK [0,1,2,3] []),(1,zK [8] [])],
 [],
 [],
 [],[]⟩
abbrev R25:=Bool
abbrev e25 (r:R25):List PA:=[.one (.bool r)]
section
variable {K:List PA→Prop} {z:Int} {x:Int} {w:Int} {y_a3:Int}
def s25 (z:Int) (x:Int) (w:Int) (y_a3:Int):Bool :=
  (cond (decide (z ≥ (0:Int)))
 (cond (decide (z ≤ (100000:Int)))
 (cond (decide (w ≥ (0:Int)))
 (cond (decide (w ≤ (100000:Int)))
 (cond (z != w)
 (cond (decide (x ≥ (-1000000:Int)))
 (cond (decide (x ≤ (1000000:Int)))
 (cond (decide (y_a3 ≥ (-1000000:Int)))
 (decide (y_a3≤(1000000:Int)))
 false)
 false)
 false)
 false)
 false)
 false)
 false)
 false)
end
theorem q25 (z:Int) (x:Int) (w:Int) (y_a3:Int) (K:List PA→Prop) (hk:K (e25 (s25 z x w y_a3))):vcFun Try.prog G25 zJE 25 [.one (.int .i64 z),.one (.int .i64 x),.one (.int .i64 w),.one (.int .i64 y_a3)] K :=
  zax (by kernel_rfl) (zt hk (fun hk=>(zt hk (fun hk=>(zt hk (fun hk=>(zt hk (fun hk=>(zt hk (fun hk=>(zt hk (fun hk=>(zt hk (fun hk=>(zt hk (fun hk=>hk) (fun hk=>hk))) (fun hk=>hk))) (fun hk=>hk))) (fun hk=>hk))) (fun hk=>hk))) (fun hk=>hk))) (fun hk=>hk))) (fun hk=>hk))
def zGl : List PA → COut
  | [.one (.int .i64 a0),.one (.int .i64 a1),.one (.int .i64 a2),.one (.int .i64 a3)]=>.tot [.one (.bool (s25 a0 a1 a2 a3))]
  | _=>.no
theorem zJF:zah Try.prog 25:=⟨_,rfl,rfl,by kernel_rfl⟩
theorem zOV:Ok Try.prog 25 zGl:=zaz zL3 zJF fun args K h=>by
  unfold zGl at h
  split at h
  · rename_i a0 a1 a2 a3
    have hk:=h
    exact ⟨(fun _ _=>[]),(fun _=>false),zJE,q25 a0 a1 a2 a3 K hk⟩
  · exact h.elim
abbrev T4:Tabs:=((((((((((Tabs.nil.addF 18 zFZ).addF 19 zAZ).addF 20 zF5).addF 22 zBb).addF 25 zGl).addF 26 zGh).addF 27 zGf).addF 28 zGk).addF 29 zyj).addF 30 zA2)
theorem zOW:TabsOk Try.prog T4:=((((((((((TabsOk.nil.addF zOI).addF zMS).addF zOK).addF zOL).addF zOV).addF zOS).addF zOR).addF zOU).addF zOT).addF zMY)
abbrev G4:Ctrs:=csm T4 (fun _ _=>[]) (fun _=>false)
def zL4:Ann:=⟨204,[(0,zK [0,1,4,5,6,9,10] [9,10]),(1,zK [0,1,4,5,6,9,10,84] [9,10]),(2,zK [14] []),(3,zK [0,1,4,5,6,15,16] [15,16]),(4,zK [0,1,4,5,6,128] []),(5,zK [14] []),(6,zK [0,1,4,5,17,18,19,20] [18,19]),(7,zK [0,1,17,18,19,156] [18,19]),(8,zK [14] []),(9,zK [1,17,18,19,21,22,23] [18,19,21,22]),(10,zK [18,19,21,22,23,24,25,26] [18,19,21,22,24,25]),(11,zK [14] [])],
 [],
 [(2,zK [0,1,4,5,6,9,10,84] [9,10]),(3,zK [0,1,4,5,6,9,10] [9,10]),(4,zK [0,1,4,5,6,15,16] [15,16]),(5,zK [0,1,4,5,6,128] []),(6,zK [0,1,4,5,6] []),(7,zK [0,1,4,5,17,18,19,20] [18,19]),(8,zK [0,1,17,18,19,156] [18,19]),(9,zK [0,1,17,18,19] [18,19]),(10,zK [1,17,18,19,21,22,23] [18,19,21,22]),(11,zK [18,19,21,22,23,24,25,26] [18,19,21,22,24,25])],
 [],[]⟩
abbrev R4:=Bool
abbrev e4 (r:R4):List PA:=[.one (.bool r)]
@[irreducible] def z4:=ptF Try.prog G4 zL4 Try.f4
section
variable {K:List PA→Prop} {a:(Sl Gate)} {b:(Sl Gate)} {one:(Int×Int×Int×Int)} {two:(Int×Int×Int×Int)} {low:Int} {at_a5:Int} {high:Int} {zq1:Bool} {zhE:Int} {zhF:Int} {zhG:Int} {zhH:Int} {zhI:Int} {zhJ:Int} {zhK:Int} {zhL:Int} {zj3:Bool} {zv5:Int} {ev5:Int} {zbM:Int} {zbN:Int} {zbO:Int} {zbP:Int} {zj4:Bool} {fv8:Int} {zkQ:Int} {zkR:Int} {zkS:Int} {zkT:Int} {gv9:Int} {zBc:Int} {zBd:Int} {zBe:Int} {zBf:Int}
def zyk (zbM:Int) (zbN:Int) (zbO:Int) (zbP:Int) (fv8:Int) (zkQ:Int) (zkR:Int) (zkS:Int) (zkT:Int) (gv9:Int) (zBc:Int) (zBd:Int) (zBe:Int) (zBf:Int):Bool :=
  (cond (fv8 == (0:Int))
 (cond (gv9 == (0:Int))
 (cond (!(s29 (⟨zbM, zbN⟩ : Frac) (⟨zkQ, zkR⟩ : Frac)))
 (cond (!(s29 (⟨zbM, zbN⟩ : Frac) (⟨zBc, zBd⟩ : Frac)))
 (cond (!(s29 (⟨zkS, zkT⟩ : Frac) (⟨zbO, zbP⟩ : Frac)))
 (cond (!(s29 (⟨zBe, zBf⟩ : Frac) (⟨zbO, zbP⟩ : Frac)))
 true
 false)
 false)
 false)
 false)
 false)
 false)
theorem zJG (hk:K (e4 (zyk zbM zbN zbO zbP fv8 zkQ zkR zkS zkT gv9 zBc zBd zBe zBf))):z4 K [1,1,1,1,1,1,1,1] [] ⟨[(18,zp 18 0),(19,zp 19 0),(21,zp 21 0),(22,zp 22 0),(23,zI fv8),(24,zp 24 0),(25,zp 25 0),(26,zI gv9)],[(18,.box 25 (zm (zae (⟨zbM,zbN⟩:Frac)))),(19,.box 25 (zm (zae (⟨zbO,zbP⟩:Frac)))),(21,.box 25 (zm (zae (⟨zkQ,zkR⟩:Frac)))),(22,.box 25 (zm (zae (⟨zkS,zkT⟩:Frac)))),(24,.box 25 (zm (zae (⟨zBc,zBd⟩:Frac)))),(25,.box 25 (zm (zae (⟨zBe,zBf⟩:Frac))))],[]⟩:=zax (by kernel_rfl) (zt hk (fun hk=>(zt hk (fun hk=>(zt hk (fun hk=>(zt hk (fun hk=>(zt hk (fun hk=>(zt hk (fun hk=>hk) (fun hk=>hk))) (fun hk=>hk))) (fun hk=>hk))) (fun hk=>hk))) (fun hk=>hk))) (fun hk=>hk))
def zyl (b:(Sl Gate)) (zv5:Int) (zbM:Int) (zbN:Int) (zbO:Int) (zbP:Int) (fv8:Int) (zkQ:Int) (zkR:Int) (zkS:Int) (zkT:Int):Bool :=
  (zyk zbM zbN zbO zbP fv8 zkQ zkR zkS zkT ((s30 b zv5).2.2) (((s30 b zv5).1).Num) (((s30 b zv5).1).Den) (((s30 b zv5).2.1).Num) (((s30 b zv5).2.1).Den))
def zym (b:(Sl Gate)) (zv5:Int) (zbM:Int) (zbN:Int) (zbO:Int) (zbP:Int) (fv8:Int) (zkQ:Int) (zkR:Int) (zkS:Int) (zkT:Int):Bool :=
  (decide ((p30 b zv5=true)) &&
 true)
theorem zJH (hs:zym b zv5 zbM zbN zbO zbP fv8 zkQ zkR zkS zkT=true) (hk:K (e4 (zyl b zv5 zbM zbN zbO zbP fv8 zkQ zkR zkS zkT))):z4 K [1,1,1,1,1,1,1] [] ⟨[(1,zS enc_55 3 b),(17,zI zv5),(18,zp 18 0),(19,zp 19 0),(21,zp 21 0),(22,zp 22 0),(23,zI fv8)],[(18,.box 25 (zm (zae (⟨zbM,zbN⟩:Frac)))),(19,.box 25 (zm (zae (⟨zbO,zbP⟩:Frac)))),(21,.box 25 (zm (zae (⟨zkQ,zkR⟩:Frac)))),(22,.box 25 (zm (zae (⟨zkS,zkT⟩:Frac))))],[]⟩:=zax (by kernel_rfl) (zaw hs fun hc hs=>And.intro (And.intro (zE enc_55 3 b.get) hc) (zJG hk))
def zyn (a:(Sl Gate)) (b:(Sl Gate)) (zv5:Int) (zbM:Int) (zbN:Int) (zbO:Int) (zbP:Int):Bool :=
  (zyl b zv5 zbM zbN zbO zbP ((s30 a zv5).2.2) (((s30 a zv5).1).Num) (((s30 a zv5).1).Den) (((s30 a zv5).2.1).Num) (((s30 a zv5).2.1).Den))
def zyo (a:(Sl Gate)) (b:(Sl Gate)) (zv5:Int) (zbM:Int) (zbN:Int) (zbO:Int) (zbP:Int):Bool :=
  (decide ((p30 a zv5=true)) &&
 (zym b zv5 zbM zbN zbO zbP ((s30 a zv5).2.2) (((s30 a zv5).1).Num) (((s30 a zv5).1).Den) (((s30 a zv5).2.1).Num) (((s30 a zv5).2.1).Den)))
theorem zJI (hs:zyo a b zv5 zbM zbN zbO zbP=true) (hk:K (e4 (zyn a b zv5 zbM zbN zbO zbP))):z4 K [1,1,1,1,1,1] [] ⟨[(0,zS enc_55 3 a),(1,zS enc_55 3 b),(17,zI zv5),(18,zp 18 0),(19,zp 19 0)],[(18,.box 25 (zm (zae (⟨zbM,zbN⟩:Frac)))),(19,.box 25 (zm (zae (⟨zbO,zbP⟩:Frac))))],[]⟩:=zax (by kernel_rfl) (zaw hs fun hc hs=>And.intro (And.intro (zE enc_55 3 a.get) hc) (zJH hs hk))
def zlz (a:(Sl Gate)) (b:(Sl Gate)) (zv5:Int) (zbM:Int) (zbN:Int) (zbO:Int) (zbP:Int) (zj4:Bool):Bool :=
  (cond zj4
 false
 (zyn a b zv5 zbM zbN zbO zbP))
def zlA (a:(Sl Gate)) (b:(Sl Gate)) (zv5:Int) (zbM:Int) (zbN:Int) (zbO:Int) (zbP:Int) (zj4:Bool):Bool :=
  (cond zj4
 true
 (zyo a b zv5 zbM zbN zbO zbP))
theorem zsj (hs:zlA a b zv5 zbM zbN zbO zbP zj4=true) (hk:K (e4 (zlz a b zv5 zbM zbN zbO zbP zj4))):z4 K [1,1,1,1,1,0,1] [] ⟨[(0,zS enc_55 3 a),(1,zS enc_55 3 b),(17,zI zv5),(18,zp 18 0),(19,zp 19 0),(156,zB zj4)],[(18,.box 25 (zm (zae (⟨zbM,zbN⟩:Frac)))),(19,.box 25 (zm (zae (⟨zbO,zbP⟩:Frac))))],[]⟩:=zax (by kernel_rfl) (zc hs hk (fun hs hk=>hk) (fun hs hk=>(zJI hs hk)))
def zyp (a:(Sl Gate)) (b:(Sl Gate)) (low:Int) (at_a5:Int) (zv5:Int) (ev5:Int) (zbM:Int) (zbN:Int) (zbO:Int) (zbP:Int):Bool :=
  (cond (ev5 != (0:Int))
 (zlz a b zv5 zbM zbN zbO zbP true)
 (cond (decide (zv5 < low))
 (zlz a b zv5 zbM zbN zbO zbP true)
 (cond (decide (zv5 > at_a5))
 (zlz a b zv5 zbM zbN zbO zbP true)
 (zlz a b zv5 zbM zbN zbO zbP (s29 (⟨zbO,zbP⟩:Frac) (⟨zbM,zbN⟩:Frac))))))
def zyq (a:(Sl Gate)) (b:(Sl Gate)) (low:Int) (at_a5:Int) (zv5:Int) (ev5:Int) (zbM:Int) (zbN:Int) (zbO:Int) (zbP:Int):Bool :=
  (cond (ev5 != (0:Int))
 (zlA a b zv5 zbM zbN zbO zbP true)
 (cond (decide (zv5 < low))
 (zlA a b zv5 zbM zbN zbO zbP true)
 (cond (decide (zv5 > at_a5))
 (zlA a b zv5 zbM zbN zbO zbP true)
 (zlA a b zv5 zbM zbN zbO zbP (s29 (⟨zbO,zbP⟩:Frac) (⟨zbM,zbN⟩:Frac))))))
theorem zJJ (hs:zyq a b low at_a5 zv5 ev5 zbM zbN zbO zbP=true) (hk:K (e4 (zyp a b low at_a5 zv5 ev5 zbM zbN zbO zbP))):z4 K [1,1,1,1,1] [] ⟨[(0,zS enc_55 3 a),(1,zS enc_55 3 b),(4,zI low),(5,zI at_a5),(17,zI zv5),(18,zp 18 0),(19,zp 19 0),(20,zI ev5)],[(18,.box 25 (zm (zae (⟨zbM,zbN⟩:Frac)))),(19,.box 25 (zm (zae (⟨zbO,zbP⟩:Frac))))],[]⟩:=zax (by kernel_rfl) (zc hs hk (fun hs hk=>(zsj hs hk)) (fun hs hk=>(zc hs hk (fun hs hk=>(zsj hs hk)) (fun hs hk=>(zc hs hk (fun hs hk=>(zsj hs hk)) (fun hs hk=>(zsj hs hk)))))))
def zoy (a:(Sl Gate)) (b:(Sl Gate)) (low:Int) (at_a5:Int) (high:Int):Bool :=
  (zyp a b low at_a5 ((s19 a b low high).1) ((s19 a b low high).2.2.2) (((s19 a b low high).2.1).Num) (((s19 a b low high).2.1).Den) (((s19 a b low high).2.2.1).Num) (((s19 a b low high).2.2.1).Den))
def zoz (a:(Sl Gate)) (b:(Sl Gate)) (low:Int) (at_a5:Int) (high:Int):Bool :=
  (decide ((p19 a b low high=true)) &&
 (zyq a b low at_a5 ((s19 a b low high).1) ((s19 a b low high).2.2.2) (((s19 a b low high).2.1).Num) (((s19 a b low high).2.1).Den) (((s19 a b low high).2.2.1).Num) (((s19 a b low high).2.2.1).Den)))
theorem zJK (hs:zoz a b low at_a5 high=true) (hk:K (e4 (zoy a b low at_a5 high))):z4 K [1,1,1,1] [] ⟨[(0,zS enc_55 3 a),(1,zS enc_55 3 b),(4,zI low),(5,zI at_a5),(6,zI high)],[],[]⟩:=zax (by kernel_rfl) (zaw hs fun hc hs=>And.intro (And.intro (zE enc_55 3 a.get) (And.intro (zE enc_55 3 b.get) hc)) (zJJ hs hk))
def zoA (a:(Sl Gate)) (b:(Sl Gate)) (low:Int) (at_a5:Int) (high:Int) (zj3:Bool):Bool :=
  (cond zj3
 true
 (zoy a b low at_a5 high))
def zoB (a:(Sl Gate)) (b:(Sl Gate)) (low:Int) (at_a5:Int) (high:Int) (zj3:Bool):Bool :=
  (cond zj3
 true
 (zoz a b low at_a5 high))
theorem zyr (hs:zoB a b low at_a5 high zj3=true) (hk:K (e4 (zoA a b low at_a5 high zj3))):z4 K [1,1,1,0,1] [] ⟨[(0,zS enc_55 3 a),(1,zS enc_55 3 b),(4,zI low),(5,zI at_a5),(6,zI high),(128,zB zj3)],[],[]⟩:=zax (by kernel_rfl) (zc hs hk (fun hs hk=>hk) (fun hs hk=>(zJK hs hk)))
def zys (a:(Sl Gate)) (b:(Sl Gate)) (low:Int) (at_a5:Int) (high:Int) (zhE:Int) (zhF:Int) (zhG:Int) (zhH:Int) (zhI:Int) (zhJ:Int) (zhK:Int) (zhL:Int):Bool :=
  (cond (decide (((s27 (⟨(⟨zhE, zhF⟩ : Frac), (⟨zhG, zhH⟩ : Frac)⟩ : Line) a).len : Int) < (a.len : Int)))
 (zoA a b low at_a5 high true)
 (cond (decide (((s27 (⟨(⟨zhI, zhJ⟩ : Frac), (⟨zhK, zhL⟩ : Frac)⟩ : Line) b).len : Int) < (b.len : Int)))
 (zoA a b low at_a5 high true)
 (zoA a b low at_a5 high (!(match ((s28 (⟨(⟨zhE,zhF⟩:Frac),(⟨zhG,zhH⟩:Frac)⟩:Line) at_a5).Num == (s28 (⟨(⟨zhI,zhJ⟩:Frac),(⟨zhK,zhL⟩:Frac)⟩:Line) at_a5).Num) with | true=>(match ((s28 (⟨(⟨zhE,zhF⟩:Frac),(⟨zhG,zhH⟩:Frac)⟩:Line) at_a5).Den == (s28 (⟨(⟨zhI,zhJ⟩:Frac),(⟨zhK,zhL⟩:Frac)⟩:Line) at_a5).Den) with | true=>true | false=>false) | false=>false)))))
def zyt (a:(Sl Gate)) (b:(Sl Gate)) (low:Int) (at_a5:Int) (high:Int) (zhE:Int) (zhF:Int) (zhG:Int) (zhH:Int) (zhI:Int) (zhJ:Int) (zhK:Int) (zhL:Int):Bool :=
  (decide ((p27 (⟨(⟨zhE,zhF⟩:Frac),(⟨zhG,zhH⟩:Frac)⟩:Line) a=true)) &&
 (cond (decide (((s27 (⟨(⟨zhE, zhF⟩ : Frac), (⟨zhG, zhH⟩ : Frac)⟩ : Line) a).len : Int) < (a.len : Int)))
 (zoB a b low at_a5 high true)
 (decide ((p27 (⟨(⟨zhI,zhJ⟩:Frac),(⟨zhK,zhL⟩:Frac)⟩:Line) b=true)) &&
 (cond (decide (((s27 (⟨(⟨zhI, zhJ⟩ : Frac), (⟨zhK, zhL⟩ : Frac)⟩ : Line) b).len : Int) < (b.len : Int)))
 (zoB a b low at_a5 high true)
 (decide ((p28 (⟨(⟨zhE,zhF⟩:Frac),(⟨zhG,zhH⟩:Frac)⟩:Line) at_a5=true)) &&
 (decide ((p28 (⟨(⟨zhI,zhJ⟩:Frac),(⟨zhK,zhL⟩:Frac)⟩:Line) at_a5=true)) &&
 (zoB a b low at_a5 high (!(match ((s28 (⟨(⟨zhE,zhF⟩:Frac),(⟨zhG,zhH⟩:Frac)⟩:Line) at_a5).Num == (s28 (⟨(⟨zhI,zhJ⟩:Frac),(⟨zhK,zhL⟩:Frac)⟩:Line) at_a5).Num) with | true=>(match ((s28 (⟨(⟨zhE,zhF⟩:Frac),(⟨zhG,zhH⟩:Frac)⟩:Line) at_a5).Den == (s28 (⟨(⟨zhI,zhJ⟩:Frac),(⟨zhK,zhL⟩:Frac)⟩:Line) at_a5).Den) with | true=>true | false=>false) | false=>false)))))))))
theorem zJL (hs:zyt a b low at_a5 high zhE zhF zhG zhH zhI zhJ zhK zhL=true) (hk:K (e4 (zys a b low at_a5 high zhE zhF zhG zhH zhI zhJ zhK zhL))):z4 K [1,1,1] [] ⟨[(0,zS enc_55 3 a),(1,zS enc_55 3 b),(4,zI low),(5,zI at_a5),(6,zI high),(15,zp 15 0),(16,zp 16 0)],[(15,.box 37 (zm (zbf (⟨(⟨zhE,zhF⟩:Frac),(⟨zhG,zhH⟩:Frac)⟩:Line)))),(16,.box 37 (zm (zbf (⟨(⟨zhI,zhJ⟩:Frac),(⟨zhK,zhL⟩:Frac)⟩:Line))))],[]⟩:=zax (by kernel_rfl) (zaw hs fun hc hs=>And.intro (And.intro (zE enc_55 3 a.get) hc) (zc hs hk (fun hs hk=>(zyr hs hk)) (fun hs hk=>(zaw hs fun hc hs=>And.intro (And.intro (zE enc_55 3 b.get) hc) (zc hs hk (fun hs hk=>(zyr hs hk)) (fun hs hk=>(zaw hs fun hc hs=>And.intro hc (zaw hs fun hc hs=>And.intro hc (zyr hs hk)))))))))
def zyu (a:(Sl Gate)) (b:(Sl Gate)) (one:(Int×Int×Int×Int)) (two:(Int×Int×Int×Int)) (low:Int) (at_a5:Int) (high:Int):Bool :=
  (zys a b low at_a5 high ((s26 one.1 one.2.1 one.2.2.1 one.2.2.2).Slope.Num) ((s26 one.1 one.2.1 one.2.2.1 one.2.2.2).Slope.Den) ((s26 one.1 one.2.1 one.2.2.1 one.2.2.2).Start.Num) ((s26 one.1 one.2.1 one.2.2.1 one.2.2.2).Start.Den) ((s26 two.1 two.2.1 two.2.2.1 two.2.2.2).Slope.Num) ((s26 two.1 two.2.1 two.2.2.1 two.2.2.2).Slope.Den) ((s26 two.1 two.2.1 two.2.2.1 two.2.2.2).Start.Num) ((s26 two.1 two.2.1 two.2.2.1 two.2.2.2).Start.Den))
def zyv (a:(Sl Gate)) (b:(Sl Gate)) (one:(Int×Int×Int×Int)) (two:(Int×Int×Int×Int)) (low:Int) (at_a5:Int) (high:Int):Bool :=
  (decide ((p26 one.1 one.2.1 one.2.2.1 one.2.2.2=true)) &&
 (decide ((p26 two.1 two.2.1 two.2.2.1 two.2.2.2=true)) &&
 (zyt a b low at_a5 high ((s26 one.1 one.2.1 one.2.2.1 one.2.2.2).Slope.Num) ((s26 one.1 one.2.1 one.2.2.1 one.2.2.2).Slope.Den) ((s26 one.1 one.2.1 one.2.2.1 one.2.2.2).Start.Num) ((s26 one.1 one.2.1 one.2.2.1 one.2.2.2).Start.Den) ((s26 two.1 two.2.1 two.2.2.1 two.2.2.2).Slope.Num) ((s26 two.1 two.2.1 two.2.2.1 two.2.2.2).Slope.Den) ((s26 two.1 two.2.1 two.2.2.1 two.2.2.2).Start.Num) ((s26 two.1 two.2.1 two.2.2.1 two.2.2.2).Start.Den))))
theorem zJM (hs:zyv a b one two low at_a5 high=true) (hk:K (e4 (zyu a b one two low at_a5 high))):z4 K [1,1] [] ⟨[(0,zS enc_55 3 a),(1,zS enc_55 3 b),(4,zI low),(5,zI at_a5),(6,zI high),(9,zp 9 0),(10,zp 10 0)],[(9,.box 34 (zm (enc_34 one))),(10,.box 34 (zm (enc_34 two)))],[]⟩:=zax (by kernel_rfl) (zaw hs fun hc hs=>And.intro hc (zaw hs fun hc hs=>And.intro hc (zJL hs hk)))
def zdR (a:(Sl Gate)) (b:(Sl Gate)) (one:(Int×Int×Int×Int)) (two:(Int×Int×Int×Int)) (low:Int) (at_a5:Int) (high:Int) (zq1:Bool):Bool :=
  (cond zq1
 true
 (zyu a b one two low at_a5 high))
def zdS (a:(Sl Gate)) (b:(Sl Gate)) (one:(Int×Int×Int×Int)) (two:(Int×Int×Int×Int)) (low:Int) (at_a5:Int) (high:Int) (zq1:Bool):Bool :=
  (cond zq1
 true
 (zyv a b one two low at_a5 high))
theorem zfH (hs:zdS a b one two low at_a5 high zq1=true) (hk:K (e4 (zdR a b one two low at_a5 high zq1))):z4 K [1,0,1] [] ⟨[(0,zS enc_55 3 a),(1,zS enc_55 3 b),(4,zI low),(5,zI at_a5),(6,zI high),(9,zp 9 0),(10,zp 10 0),(84,zB zq1)],[(9,.box 34 (zm (enc_34 one))),(10,.box 34 (zm (enc_34 two)))],[]⟩:=zax (by kernel_rfl) (zc hs hk (fun hs hk=>hk) (fun hs hk=>(zJM hs hk)))
def s4 (a:(Sl Gate)) (b:(Sl Gate)) (one:(Int×Int×Int×Int)) (two:(Int×Int×Int×Int)) (low:Int) (at_a5:Int) (high:Int):Bool :=
  (cond (!(s20 a))
 (zdR a b one two low at_a5 high true)
 (cond (!(s20 b))
 (zdR a b one two low at_a5 high true)
 (cond (s22 a)
 (zdR a b one two low at_a5 high true)
 (cond (s22 b)
 (zdR a b one two low at_a5 high true)
 (cond (!(s25 one.1 one.2.1 one.2.2.1 one.2.2.2))
 (zdR a b one two low at_a5 high true)
 (cond (!(s25 two.1 two.2.1 two.2.2.1 two.2.2.2))
 (zdR a b one two low at_a5 high true)
 (cond (decide (low < (-100000:Int)))
 (zdR a b one two low at_a5 high true)
 (cond (decide (low > at_a5))
 (zdR a b one two low at_a5 high true)
 (cond (decide (at_a5 > high))
 (zdR a b one two low at_a5 high true)
 (zdR a b one two low at_a5 high (decide (high > (200000:Int)))))))))))))
def p4 (a:(Sl Gate)) (b:(Sl Gate)) (one:(Int×Int×Int×Int)) (two:(Int×Int×Int×Int)) (low:Int) (at_a5:Int) (high:Int):Bool :=
  (decide ((p20 a=true)) &&
 (cond (!(s20 a))
 (zdS a b one two low at_a5 high true)
 (decide ((p20 b=true)) &&
 (cond (!(s20 b))
 (zdS a b one two low at_a5 high true)
 (decide ((p22 a=true)) &&
 (cond (s22 a)
 (zdS a b one two low at_a5 high true)
 (decide ((p22 b=true)) &&
 (cond (s22 b)
 (zdS a b one two low at_a5 high true)
 (cond (!(s25 one.1 one.2.1 one.2.2.1 one.2.2.2))
 (zdS a b one two low at_a5 high true)
 (cond (!(s25 two.1 two.2.1 two.2.2.1 two.2.2.2))
 (zdS a b one two low at_a5 high true)
 (cond (decide (low < (-100000:Int)))
 (zdS a b one two low at_a5 high true)
 (cond (decide (low > at_a5))
 (zdS a b one two low at_a5 high true)
 (cond (decide (at_a5 > high))
 (zdS a b one two low at_a5 high true)
 (zdS a b one two low at_a5 high (decide (high > (200000:Int)))))))))))))))))
end
theorem q4 (a:(Sl Gate)) (b:(Sl Gate)) (one:(Int×Int×Int×Int)) (two:(Int×Int×Int×Int)) (low:Int) (at_a5:Int) (high:Int) (K:List PA→Prop) (hs:p4 a b one two low at_a5 high=true) (hk:K (e4 (s4 a b one two low at_a5 high))):vcFun Try.prog G4 zL4 4 [.one (.sl a.len 3 (fun i=>enc_55 (a.get i))),.one (.sl b.len 3 (fun i=>enc_55 (b.get i))),.agg (enc_34 one),.agg (enc_34 two),.one (.int .i64 low),.one (.int .i64 at_a5),.one (.int .i64 high)] K :=
  zax (by kernel_rfl) (zaw hs fun hc hs=>And.intro (And.intro (zE enc_55 3 a.get) hc) (zc hs hk (fun hs hk=>(zfH hs hk)) (fun hs hk=>(zaw hs fun hc hs=>And.intro (And.intro (zE enc_55 3 b.get) hc) (zc hs hk (fun hs hk=>(zfH hs hk)) (fun hs hk=>(zaw hs fun hc hs=>And.intro (And.intro (zE enc_55 3 a.get) hc) (zc hs hk (fun hs hk=>(zfH hs hk)) (fun hs hk=>(zaw hs fun hc hs=>And.intro (And.intro (zE enc_55 3 b.get) hc) (zc hs hk (fun hs hk=>(zfH hs hk)) (fun hs hk=>(zc hs hk (fun hs hk=>(zfH hs hk)) (fun hs hk=>(zc hs hk (fun hs hk=>(zfH hs hk)) (fun hs hk=>(zc hs hk (fun hs hk=>(zfH hs hk)) (fun hs hk=>(zc hs hk (fun hs hk=>(zfH hs hk)) (fun hs hk=>(zc hs hk (fun hs hk=>(zfH hs hk)) (fun hs hk=>(zfH hs hk)))))))))))))))))))))))
def zM8 : List PA → COut
  | [.one (.sl a0_n a0_s a0_g),.one (.sl a1_n a1_s a1_g),.agg [.int .i64 a2_0,.int .i64 a2_1,.int .i64 a2_2,.int .i64 a2_3],.agg [.int .i64 a3_0,.int .i64 a3_1,.int .i64 a3_2,.int .i64 a3_3],.one (.int .i64 a4),.one (.int .i64 a5),.one (.int .i64 a6)]=>.det (IsE enc_55 3 a0_s a0_g∧IsE enc_55 3 a1_s a1_g∧p4 (⟨a0_n,zad a0_g⟩:(Sl Gate)) (⟨a1_n,zad a1_g⟩:(Sl Gate)) (a2_0,a2_1,a2_2,a2_3) (a3_0,a3_1,a3_2,a3_3) a4 a5 a6=true) [.one (.bool (s4 (⟨a0_n,zad a0_g⟩:(Sl Gate)) (⟨a1_n,zad a1_g⟩:(Sl Gate)) (a2_0,a2_1,a2_2,a2_3) (a3_0,a3_1,a3_2,a3_3) a4 a5 a6))]
  | _=>.no
theorem call4:zah Try.prog 4:=⟨_,rfl,rfl,by kernel_rfl⟩
theorem ok4:Ok Try.prog 4 zM8:=zaz zOW call4 fun args K h=>by
  unfold zM8 at h
  split at h
  · rename_i a0_n a0_s a0_g a1_n a1_s a1_g a2_0 a2_1 a2_2 a2_3 a3_0 a3_1 a3_2 a3_3 a4 a5 a6
    obtain ⟨⟨⟨rfl,a0_f,rfl⟩,⟨rfl,a1_f,rfl⟩,hs⟩,hk⟩:=h
    try rw [zac a0_f] at hs
    try rw [zac a0_f] at hk
    try rw [zac a1_f] at hs
    try rw [zac a1_f] at hk
    exact ⟨(fun _ _=>[]),(fun _=>false),zL4,q4 (⟨a0_n,a0_f⟩:(Sl Gate)) (⟨a1_n,a1_f⟩:(Sl Gate)) (a2_0,a2_1,a2_2,a2_3) (a3_0,a3_1,a3_2,a3_3) a4 a5 a6 K hs hk⟩
  · exact h.elim
end Go.Proofs
namespace Go.Proofs
open Go Go.Pm
set_option maxRecDepth 100000
set_option linter.unusedVariables false
attribute [local irreducible] Go.Pm.vcFun Go.Pm.vc Go.Pm.vcIter
theorem C_3:Try.prog.cellsOf 3=1:=by kernel_rfl
theorem zOX:Try.prog.cellsOf 34=4:=by kernel_rfl
theorem zM9:Try.prog.cellsOf 55=3:=by kernel_rfl
abbrev wf_3 (x:Int):Prop:=wfI x
theorem rd_3 {H:Type} {en:TypeId×Value→H} {w:World} {sp:Nat→Bool} {held:Bool} : Rd H en Try.prog w sp held 3 zal wf_3:=zHD Try.underlying3
def zJN (x:Gate):Prop:=wf_3 x.Z∧wf_3 x.Low∧wf_3 x.High
theorem zL5 {H:Type} {en:TypeId×Value→H} {w:World} {sp:Nat→Bool} {held:Bool} : Rd H en Try.prog w sp held 55 enc_55 zJN:=by
  intro fuel cs x h
  obtain ⟨hl,hf⟩:=zuD Try.underlying55 h
  rw [zM9] at hl
  obtain ⟨n0,y0,g0⟩:=hf 0 _ rfl
  have g0:DataW.trod en Try.prog w 0 sp held n0 3 ((cs.drop 0).take (Try.prog.cellsOf 3))=some y0:=g0
  rw [C_3] at g0
  obtain ⟨a0,r0,w0⟩:=rd_3 _ _ _ g0
  obtain ⟨n1,y1,g1⟩:=hf 1 _ rfl
  have g1:DataW.trod en Try.prog w 0 sp held n1 3 ((cs.drop 1).take (Try.prog.cellsOf 3))=some y1:=g1
  rw [C_3] at g1
  obtain ⟨a1,r1,w1⟩:=rd_3 _ _ _ g1
  obtain ⟨n2,y2,g2⟩:=hf 2 _ rfl
  have g2:DataW.trod en Try.prog w 0 sp held n2 3 ((cs.drop 2).take (Try.prog.cellsOf 3))=some y2:=g2
  rw [C_3] at g2
  obtain ⟨a2,r2,w2⟩:=rd_3 _ _ _ g2
  have z:cs.drop 3=[]:=List.drop_eq_nil_of_le (by omega)
  have R:=(r0.append (r1.append (r2.append (show RL (Rep (H0 w)) [] (cs.drop 3) by rw [z];exact zgX))))
  rw [← (show cs.drop 2=(cs.drop 2).take 1 ++ cs.drop 3 from zcS cs 2 1)] at R
  rw [← (show cs.drop 1=(cs.drop 1).take 1 ++ cs.drop 2 from zcS cs 1 1)] at R
  rw [← (show cs.drop 0=(cs.drop 0).take 1 ++ cs.drop 1 from zcS cs 0 1)] at R
  exact ⟨⟨a0,a1,a2⟩,R,⟨w0,w1,w2⟩⟩
def wf_22 (x:(Sl Gate)):Prop:=x.len≤9223372036854775807∧∀ i,i < x.len→zJN (x.get i)
theorem rd_22 {H:Type} {en:TypeId×Value→H} {w:World} {sp:Nat→Bool} {held:Bool} : Rd H en Try.prog w sp held 22 zHF wf_22:=zAv Try.underlying22 zM9 (by decide) (fun _=>rfl) zL5
def wf_34 (x:(Int×Int×Int×Int)):Prop:=wf_3 x.1∧wf_3 x.2.1∧wf_3 x.2.2.1∧wf_3 x.2.2.2
theorem rd_34 {H:Type} {en:TypeId×Value→H} {w:World} {sp:Nat→Bool} {held:Bool} : Rd H en Try.prog w sp held 34 enc_34 wf_34:=by
  intro fuel cs x h
  obtain ⟨hl,hf⟩:=zAu Try.underlying34 h
  rw [zOX] at hl
  obtain ⟨n0,y0,g0⟩:=hf 0 (by omega)
  rw [C_3,show (0 * 1:Nat)=0 from rfl] at g0
  obtain ⟨a0,r0,w0⟩:=rd_3 _ _ _ g0
  obtain ⟨n1,y1,g1⟩:=hf 1 (by omega)
  rw [C_3,show (1 * 1:Nat)=1 from rfl] at g1
  obtain ⟨a1,r1,w1⟩:=rd_3 _ _ _ g1
  obtain ⟨n2,y2,g2⟩:=hf 2 (by omega)
  rw [C_3,show (2 * 1:Nat)=2 from rfl] at g2
  obtain ⟨a2,r2,w2⟩:=rd_3 _ _ _ g2
  obtain ⟨n3,y3,g3⟩:=hf 3 (by omega)
  rw [C_3,show (3 * 1:Nat)=3 from rfl] at g3
  obtain ⟨a3,r3,w3⟩:=rd_3 _ _ _ g3
  have z:cs.drop 4=[]:=List.drop_eq_nil_of_le (by omega)
  have R:=(r0.append (r1.append (r2.append (r3.append (show RL (Rep (H0 w)) [] (cs.drop 4) by rw [z];exact zgX)))))
  rw [← (show cs.drop 3=(cs.drop 3).take 1 ++ cs.drop 4 from zcS cs 3 1)] at R
  rw [← (show cs.drop 2=(cs.drop 2).take 1 ++ cs.drop 3 from zcS cs 2 1)] at R
  rw [← (show cs.drop 1=(cs.drop 1).take 1 ++ cs.drop 2 from zcS cs 1 1)] at R
  rw [← (show cs.drop 0=(cs.drop 0).take 1 ++ cs.drop 1 from zcS cs 0 1)] at R
  exact ⟨⟨a0,a1,a2,a3⟩,R,⟨w0,w1,w2,w3⟩⟩
end Go.Proofs
namespace Go.Proofs
open Go Go.Pm
set_option maxRecDepth 100000
set_option linter.unusedVariables false
attribute [local irreducible] Go.Pm.vcFun Go.Pm.vc Go.Pm.vcIter
section
variable {K:List PA→Prop} {zaa:(Sl Gate)}
end
section
variable {K:List PA→Prop} {f:Frac} {den:Int} {num:Int}
end
section
variable {K:List PA→Prop} {l_a0:Line} {zaa:(Sl Gate)} {zOY:Bool} {zOZ:Int} {zO0:(Sl Int)} {zL6:Nat→List PV} {X2:St→Prop} {P2:Int→(Sl Int)→Bool} {S2:Int→(Sl Int)→((Sl Int)×Int)} {iv3:Int} {zO1:Int} {zO2:Bool} {zO3:(Sl Int)} {zL7:Nat→List PV}
end
section
variable {K:List PA→Prop} {f:Frac} {most:Int}
end
section
variable {K:List PA→Prop} {l_a0:Line}
end
section
variable {K:List PA→Prop} {g:Gate} {which:Int}
def zzF (g:Gate) (which:Int):Int :=
  (cond (which == (0:Int))
 g.Low
 g.High)
end
section
variable {K:List PA→Prop} {zaa:(Sl Gate)} {iv0:Int} {zm1:(Sl Line)} {zL8:Nat→List PV} {X0:St→Prop} {P0:Int→(Sl Line)→Bool} {S0:Int→(Sl Line)→(Sl Line)} {iv1:Int} {kv1:Int} {zkU:(Sl Line)} {zL9:Nat→List PV} {X1:St→Prop} {P1:Int→Int→(Sl Line)→Bool} {S1:Int→Int→(Sl Line)→(Sl Line)} {iv2:Int} {kv2:Int} {ev2:Int} {zeK:(Sl Line)} {zMa:Nat→List PV} {X2:St→Prop} {P2:Int→Int→Int→(Sl Line)→Bool} {S2:Int→Int→Int→(Sl Line)→(Sl Line)}
def zgc (S0:Int→(Sl Line)→(Sl Line)) (S1:Int→Int→(Sl Line)→(Sl Line)) (zaa:(Sl Gate)) (S2:Int→Int→Int→(Sl Line)→(Sl Line)) (iv2:Int) (kv2:Int) (ev2:Int) (zeK:(Sl Line)):(Sl Line) :=
  (cond (decide (ev2 < (4:Int)))
 (cond ((zaa.get iv2.toNat).Z != (zaa.get kv2.toNat).Z)
 (S2 iv2 kv2 (w64 (ev2+(1:Int))) (⟨(zeK.len+1),(zd5 zeK.len zeK.get (fun _=>(s26 ((zaa.get iv2.toNat).Z) (zzF (zaa.get iv2.toNat) (w64 (ev2.tdiv (2:Int)))) ((zaa.get kv2.toNat).Z) (zzF (zaa.get kv2.toNat) (ev2.tmod (2:Int))))))⟩:Sl Line))
 (S1 iv2 (w64 (kv2+(1:Int))) zeK))
 (S1 iv2 (w64 (kv2+(1:Int))) zeK))
def zgd (P0:Int→(Sl Line)→Bool) (P1:Int→Int→(Sl Line)→Bool) (zaa:(Sl Gate)) (P2:Int→Int→Int→(Sl Line)→Bool) (iv2:Int) (kv2:Int) (ev2:Int) (zeK:(Sl Line)):Bool :=
  (cond (decide (ev2 < (4:Int)))
 (decide ((0≤iv2∧iv2 < (zaa.len:Int))) &&
 (decide ((0≤kv2∧kv2 < (zaa.len:Int))) &&
 (cond ((zaa.get iv2.toNat).Z != (zaa.get kv2.toNat).Z)
 (decide ((0≤iv2∧iv2 < (zaa.len:Int))) &&
 (decide ((0≤iv2∧iv2 < (zaa.len:Int))) &&
 (decide (((2:Int) ≠ 0)) &&
 (decide ((0≤kv2∧kv2 < (zaa.len:Int))) &&
 (decide ((0≤kv2∧kv2 < (zaa.len:Int))) &&
 (decide (((2:Int) ≠ 0)) &&
 (decide ((p26 ((zaa.get iv2.toNat).Z) (zzF (zaa.get iv2.toNat) (w64 (ev2.tdiv (2:Int)))) ((zaa.get kv2.toNat).Z) (zzF (zaa.get kv2.toNat) (ev2.tmod (2:Int)))=true)) &&
 (decide (((zeK.len+1) * 32≤140737488355328∧zeK.len+1≤9223372036854775807)) &&
 (P2 iv2 kv2 (w64 (ev2+(1:Int))) (⟨(zeK.len+1),(zd5 zeK.len zeK.get (fun _=>(s26 ((zaa.get iv2.toNat).Z) (zzF (zaa.get iv2.toNat) (w64 (ev2.tdiv (2:Int)))) ((zaa.get kv2.toNat).Z) (zzF (zaa.get kv2.toNat) (ev2.tmod (2:Int))))))⟩:Sl Line))))))))))
 (P1 iv2 (w64 (kv2+(1:Int))) zeK))))
 (P1 iv2 (w64 (kv2+(1:Int))) zeK))
def zdG (S0:Int→(Sl Line)→(Sl Line)) (S1:Int→Int→(Sl Line)→(Sl Line)) (zaa:(Sl Gate)):Nat→Int→Int→Int→(Sl Line)→(Sl Line):=lpO (fun _ _ _ _=>default) (zgc S0 S1 zaa)
def zdH (P0:Int→(Sl Line)→Bool) (P1:Int→Int→(Sl Line)→Bool) (zaa:(Sl Gate)):Nat→Int→Int→Int→(Sl Line)→Bool:=lpO (fun _ _ _ _=>false) (zgd P0 P1 zaa)
def zyw (S0:Int→(Sl Line)→(Sl Line)) (S1:Int→Int→(Sl Line)→(Sl Line)) (zaa:(Sl Gate)) (iv2:Int) (kv2:Int) (ev2:Int) (zeK:(Sl Line)):(Sl Line):=zdG S0 S1 zaa Fuel iv2 kv2 ev2 zeK
def zyx (P0:Int→(Sl Line)→Bool) (P1:Int→Int→(Sl Line)→Bool) (zaa:(Sl Gate)) (iv2:Int) (kv2:Int) (ev2:Int) (zeK:(Sl Line)):Bool:=zdH P0 P1 zaa Fuel iv2 kv2 ev2 zeK
def zj5 (S0:Int→(Sl Line)→(Sl Line)) (zaa:(Sl Gate)) (S1:Int→Int→(Sl Line)→(Sl Line)) (iv1:Int) (kv1:Int) (zkU:(Sl Line)):(Sl Line) :=
  (cond (decide (kv1 < (zaa.len : Int)))
 (zyw S0 S1 zaa iv1 kv1 (0:Int) zkU)
 (S0 (w64 (iv1+(1:Int))) zkU))
def zj6 (P0:Int→(Sl Line)→Bool) (zaa:(Sl Gate)) (P1:Int→Int→(Sl Line)→Bool) (iv1:Int) (kv1:Int) (zkU:(Sl Line)):Bool :=
  (cond (decide (kv1 < (zaa.len : Int)))
 (zyx P0 P1 zaa iv1 kv1 (0:Int) zkU)
 (P0 (w64 (iv1+(1:Int))) zkU))
def zhM (S0:Int→(Sl Line)→(Sl Line)) (zaa:(Sl Gate)):Nat→Int→Int→(Sl Line)→(Sl Line):=lpO (fun _ _ _=>default) (zj5 S0 zaa)
def zhN (P0:Int→(Sl Line)→Bool) (zaa:(Sl Gate)):Nat→Int→Int→(Sl Line)→Bool:=lpO (fun _ _ _=>false) (zj6 P0 zaa)
def zyy (S0:Int→(Sl Line)→(Sl Line)) (zaa:(Sl Gate)) (iv1:Int) (kv1:Int) (zkU:(Sl Line)):(Sl Line):=zhM S0 zaa Fuel iv1 kv1 zkU
def zyz (P0:Int→(Sl Line)→Bool) (zaa:(Sl Gate)) (iv1:Int) (kv1:Int) (zkU:(Sl Line)):Bool:=zhN P0 zaa Fuel iv1 kv1 zkU
def zj7 (zaa:(Sl Gate)) (S0:Int→(Sl Line)→(Sl Line)) (iv0:Int) (zm1:(Sl Line)):(Sl Line) :=
  (cond (decide (iv0 < (zaa.len : Int)))
 (zyy S0 zaa iv0 (w64 (iv0+(1:Int))) zm1)
 zm1)
def zj8 (zaa:(Sl Gate)) (P0:Int→(Sl Line)→Bool) (iv0:Int) (zm1:(Sl Line)):Bool :=
  (cond (decide (iv0 < (zaa.len : Int)))
 (zyz P0 zaa iv0 (w64 (iv0+(1:Int))) zm1)
 true)
def zj9 (zaa:(Sl Gate)):Nat→Int→(Sl Line)→(Sl Line):=lpO (fun _ _=>default) (zj7 zaa)
def zka (zaa:(Sl Gate)):Nat→Int→(Sl Line)→Bool:=lpO (fun _ _=>false) (zj8 zaa)
def zGm (zaa:(Sl Gate)) (iv0:Int) (zm1:(Sl Line)):(Sl Line):=zj9 zaa Fuel iv0 zm1
def zGn (zaa:(Sl Gate)) (iv0:Int) (zm1:(Sl Line)):Bool:=zka zaa Fuel iv0 zm1
def s80 (zaa:(Sl Gate)):(Sl Line) :=
  (zGm zaa (0:Int) (⟨0,(fun _=>default)⟩:Sl Line))
def p80 (zaa:(Sl Gate)):Bool :=
  (zGn zaa (0:Int) (⟨0,(fun _=>default)⟩:Sl Line))
end
section
variable {K:List PA→Prop} {l_a0:Line} {zaa:(Sl Gate)} {iv0:Int} {X0:St→Prop} {P0:Int→Bool} {S0:Int→Bool} {iv1:Int} {nv1:Int} {dv1:Int}
def zsk (S0:Int→Bool) (l_a0:Line) (zaa:(Sl Gate)) (iv1:Int) (nv1:Int) (dv1:Int):Bool :=
  (cond (nv1 == (w64 ((zaa.get iv1.toNat).Low * dv1)))
 true
 (S0 (w64 (iv1+(1:Int)))))
def zsl (P0:Int→Bool) (l_a0:Line) (zaa:(Sl Gate)) (iv1:Int) (nv1:Int) (dv1:Int):Bool :=
  (decide ((0≤iv1∧iv1 < (zaa.len:Int))) &&
 (cond (nv1 == (w64 ((zaa.get iv1.toNat).Low * dv1)))
 true
 (P0 (w64 (iv1+(1:Int))))))
def zgP (l_a0:Line) (zaa:(Sl Gate)) (S0:Int→Bool) (iv0:Int):Bool :=
  (cond (decide (iv0 < (zaa.len : Int)))
 (zsk S0 l_a0 zaa iv0 ((zqU l_a0 ((zaa.get iv0.toNat).Z)).1) ((zqU l_a0 ((zaa.get iv0.toNat).Z)).2))
 false)
def zgQ (l_a0:Line) (zaa:(Sl Gate)) (P0:Int→Bool) (iv0:Int):Bool :=
  (cond (decide (iv0 < (zaa.len : Int)))
 (decide ((0≤iv0∧iv0 < (zaa.len:Int))) &&
 (zsl P0 l_a0 zaa iv0 ((zqU l_a0 ((zaa.get iv0.toNat).Z)).1) ((zqU l_a0 ((zaa.get iv0.toNat).Z)).2)))
 true)
def zgR (l_a0:Line) (zaa:(Sl Gate)):Nat→Int→Bool:=lpO (fun _=>default) (zgP l_a0 zaa)
def zgS (l_a0:Line) (zaa:(Sl Gate)):Nat→Int→Bool:=lpO (fun _=>false) (zgQ l_a0 zaa)
def zBg (l_a0:Line) (zaa:(Sl Gate)) (iv0:Int):Bool:=zgR l_a0 zaa Fuel iv0
def zBh (l_a0:Line) (zaa:(Sl Gate)) (iv0:Int):Bool:=zgS l_a0 zaa Fuel iv0
def ztt (l_a0:Line) (zaa:(Sl Gate)):Bool :=
  (zBg l_a0 zaa (0:Int))
def zG3 (l_a0:Line) (zaa:(Sl Gate)):Bool :=
  (zBh l_a0 zaa (0:Int))
end
def zJO : List PA → COut
  | [.agg [.int .i64 a0_Slope_Num,.int .i64 a0_Slope_Den,.int .i64 a0_Start_Num,.int .i64 a0_Start_Den],.one (.sl a1_n a1_s a1_g)]=>.det (IsE enc_55 3 a1_s a1_g∧zG3 (⟨(⟨a0_Slope_Num,a0_Slope_Den⟩:Frac),(⟨a0_Start_Num,a0_Start_Den⟩:Frac)⟩:Line) (⟨a1_n,zad a1_g⟩:(Sl Gate))=true) [.one (.bool (ztt (⟨(⟨a0_Slope_Num,a0_Slope_Den⟩:Frac),(⟨a0_Start_Num,a0_Start_Den⟩:Frac)⟩:Line) (⟨a1_n,zad a1_g⟩:(Sl Gate))))]
  | _=>.no
abbrev T81:Tabs:=((Tabs.nil.addF 29 zyj).addF 110 zJO)
abbrev G81:Ctrs:=csm T81 (fun _ _=>[]) (fun _=>false)
def zMb:Ann:=⟨30,[(0,zK [2,3,4] [3,4]),(1,zK [2,3,4,13] [3,4]),(2,zK [6] []),(3,zK [3,4,19] [3,4]),(4,zK [6] []),(5,zK [6] [])],
 [],
 [(3,zK [2,3,4] [3,4])],
 [],[]⟩
@[irreducible] def z81:=ptF Try.prog G81 zMb Try.f81
section
variable {K:List PA→Prop} {a:Line} {b:Line} {zaa:(Sl Gate)}
def zGo (a:Line) (b:Line) (zaa:(Sl Gate)):Bool :=
  (cond (ztt a zaa)
 (s29 a.Slope b.Slope)
 (s29 b.Slope a.Slope))
def zyA (a:Line) (b:Line) (zaa:(Sl Gate)):Bool :=
  (decide ((zG3 a zaa=true)) &&
 true)
def s81 (a:Line) (b:Line) (zaa:(Sl Gate)):Bool :=
  (cond ((ztt a zaa) != (ztt b zaa))
 (ztt a zaa)
 (zGo a b zaa))
def p81 (a:Line) (b:Line) (zaa:(Sl Gate)):Bool :=
  (decide ((zG3 a zaa=true)) &&
 (decide ((zG3 b zaa=true)) &&
 (cond ((ztt a zaa) != (ztt b zaa))
 (decide ((zG3 a zaa=true)) &&
 true)
 (zyA a b zaa))))
end
section
variable {K:List PA→Prop} {zaa:(Sl Gate)} {lv0:(Sl Line)} {zMc:Nat→List PV} {zkb:(Sl Line)} {iv1:Int} {zMd:Nat→List PV} {X1:St→Prop} {P1:(Sl Line)→Int→Bool} {S1:(Sl Line)→Int→(Sl Line)} {zeL:(Sl Line)} {iv2:Int} {zm2:Int} {zMe:Nat→List PV} {X2:St→Prop} {P2:(Sl Line)→Int→Int→Bool} {S2:(Sl Line)→Int→Int→(Sl Line)} {zbV:(Sl Line)} {iv3:Int} {zcI:Int} {zMf:Nat→List PV}
def zm3 (S1:(Sl Line)→Int→(Sl Line)) (zaa:(Sl Gate)) (lv0:(Sl Line)) (zbV:(Sl Line)) (iv3:Int) (zcI:Int):(Sl Line) :=
  (cond (decide (zcI < (zbV.len : Int)))
 (cond (match (match ((zbV.get zcI.toNat).Slope.Num == (lv0.get iv3.toNat).Slope.Num) with | true => (match ((zbV.get zcI.toNat).Slope.Den == (lv0.get iv3.toNat).Slope.Den) with | true => true | false => false) | false => false) with | true => (match (match ((zbV.get zcI.toNat).Start.Num == (lv0.get iv3.toNat).Start.Num) with | true => (match ((zbV.get zcI.toNat).Start.Den == (lv0.get iv3.toNat).Start.Den) with | true => true | false => false) | false => false) with | true => true | false => false) | false => false)
 (S1 zbV (w64 (iv3+(1:Int))))
 (S1 (⟨(((zcI - (0:Int)).toNat+1)+((zbV.len:Int) - zcI).toNat),(zd5 ((zcI - (0:Int)).toNat+1) (zd5 ((zcI - (0:Int)).toNat) (fun i=>zbV.get (i+((0:Int).toNat))) (fun _=>(lv0.get iv3.toNat))) (fun i=>zbV.get (i+zcI.toNat)))⟩:Sl Line) (w64 (iv3+(1:Int)))))
 (S1 (⟨(((zcI - (0:Int)).toNat+1)+((zbV.len:Int) - zcI).toNat),(zd5 ((zcI - (0:Int)).toNat+1) (zd5 ((zcI - (0:Int)).toNat) (fun i=>zbV.get (i+((0:Int).toNat))) (fun _=>(lv0.get iv3.toNat))) (fun i=>zbV.get (i+zcI.toNat)))⟩:Sl Line) (w64 (iv3+(1:Int)))))
def zm4 (P1:(Sl Line)→Int→Bool) (zaa:(Sl Gate)) (lv0:(Sl Line)) (zbV:(Sl Line)) (iv3:Int) (zcI:Int):Bool :=
  (cond (decide (zcI < (zbV.len : Int)))
 (decide ((0≤zcI∧zcI < (zbV.len:Int))) &&
 (decide ((0≤iv3∧iv3 < (lv0.len:Int))) &&
 (cond (match (match ((zbV.get zcI.toNat).Slope.Num == (lv0.get iv3.toNat).Slope.Num) with | true => (match ((zbV.get zcI.toNat).Slope.Den == (lv0.get iv3.toNat).Slope.Den) with | true => true | false => false) | false => false) with | true => (match (match ((zbV.get zcI.toNat).Start.Num == (lv0.get iv3.toNat).Start.Num) with | true => (match ((zbV.get zcI.toNat).Start.Den == (lv0.get iv3.toNat).Start.Den) with | true => true | false => false) | false => false) with | true => true | false => false) | false => false)
 (P1 zbV (w64 (iv3+(1:Int))))
 (decide ((0≤(0:Int)∧(0:Int)≤zcI∧zcI≤(zbV.len:Int))) &&
 (decide (((zcI - (0:Int)).toNat * 32≤140737488355328∧(zcI - (0:Int)).toNat≤9223372036854775807)) &&
 (decide ((0≤iv3∧iv3 < (lv0.len:Int))) &&
 (decide ((((zcI - (0:Int)).toNat+1) * 32≤140737488355328∧(zcI - (0:Int)).toNat+1≤9223372036854775807)) &&
 (decide ((0≤zcI∧zcI≤(zbV.len:Int)∧(zbV.len:Int)≤(zbV.len:Int))) &&
 (decide (((((zcI - (0:Int)).toNat+1)+((zbV.len:Int) - zcI).toNat) * 32≤140737488355328∧((zcI - (0:Int)).toNat+1)+((zbV.len:Int) - zcI).toNat≤9223372036854775807)) &&
 (P1 (⟨(((zcI - (0:Int)).toNat+1)+((zbV.len:Int) - zcI).toNat),(zd5 ((zcI - (0:Int)).toNat+1) (zd5 ((zcI - (0:Int)).toNat) (fun i=>zbV.get (i+((0:Int).toNat))) (fun _=>(lv0.get iv3.toNat))) (fun i=>zbV.get (i+zcI.toNat)))⟩:Sl Line) (w64 (iv3+(1:Int)))))))))))))
 (decide ((0≤(0:Int)∧(0:Int)≤zcI∧zcI≤(zbV.len:Int))) &&
 (decide (((zcI - (0:Int)).toNat * 32≤140737488355328∧(zcI - (0:Int)).toNat≤9223372036854775807)) &&
 (decide ((0≤iv3∧iv3 < (lv0.len:Int))) &&
 (decide ((((zcI - (0:Int)).toNat+1) * 32≤140737488355328∧(zcI - (0:Int)).toNat+1≤9223372036854775807)) &&
 (decide ((0≤zcI∧zcI≤(zbV.len:Int)∧(zbV.len:Int)≤(zbV.len:Int))) &&
 (decide (((((zcI - (0:Int)).toNat+1)+((zbV.len:Int) - zcI).toNat) * 32≤140737488355328∧((zcI - (0:Int)).toNat+1)+((zbV.len:Int) - zcI).toNat≤9223372036854775807)) &&
 (P1 (⟨(((zcI - (0:Int)).toNat+1)+((zbV.len:Int) - zcI).toNat),(zd5 ((zcI - (0:Int)).toNat+1) (zd5 ((zcI - (0:Int)).toNat) (fun i=>zbV.get (i+((0:Int).toNat))) (fun _=>(lv0.get iv3.toNat))) (fun i=>zbV.get (i+zcI.toNat)))⟩:Sl Line) (w64 (iv3+(1:Int)))))))))))
def zkc (S1:(Sl Line)→Int→(Sl Line)) (zaa:(Sl Gate)) (lv0:(Sl Line)) (S2:(Sl Line)→Int→Int→(Sl Line)) (zeL:(Sl Line)) (iv2:Int) (zm2:Int):(Sl Line) :=
  (cond (decide (zm2 < (zeL.len : Int)))
 (cond (s81 (zeL.get zm2.toNat) (lv0.get iv2.toNat) zaa)
 (S2 zeL iv2 (w64 (zm2+(1:Int))))
 (zm3 S1 zaa lv0 zeL iv2 zm2))
 (zm3 S1 zaa lv0 zeL iv2 zm2))
def zkd (P1:(Sl Line)→Int→Bool) (zaa:(Sl Gate)) (lv0:(Sl Line)) (P2:(Sl Line)→Int→Int→Bool) (zeL:(Sl Line)) (iv2:Int) (zm2:Int):Bool :=
  (cond (decide (zm2 < (zeL.len : Int)))
 (decide ((0≤zm2∧zm2 < (zeL.len:Int))) &&
 (decide ((0≤iv2∧iv2 < (lv0.len:Int))) &&
 (decide ((p81 (zeL.get zm2.toNat) (lv0.get iv2.toNat) zaa=true)) &&
 (cond (s81 (zeL.get zm2.toNat) (lv0.get iv2.toNat) zaa)
 (P2 zeL iv2 (w64 (zm2+(1:Int))))
 (zm4 P1 zaa lv0 zeL iv2 zm2)))))
 (zm4 P1 zaa lv0 zeL iv2 zm2))
def zhO (S1:(Sl Line)→Int→(Sl Line)) (zaa:(Sl Gate)) (lv0:(Sl Line)):Nat→(Sl Line)→Int→Int→(Sl Line):=lpO (fun _ _ _=>default) (zkc S1 zaa lv0)
def zke (P1:(Sl Line)→Int→Bool) (zaa:(Sl Gate)) (lv0:(Sl Line)):Nat→(Sl Line)→Int→Int→Bool:=lpO (fun _ _ _=>false) (zkd P1 zaa lv0)
def zyB (S1:(Sl Line)→Int→(Sl Line)) (zaa:(Sl Gate)) (lv0:(Sl Line)) (zeL:(Sl Line)) (iv2:Int) (zm2:Int):(Sl Line):=zhO S1 zaa lv0 Fuel zeL iv2 zm2
def zyC (P1:(Sl Line)→Int→Bool) (zaa:(Sl Gate)) (lv0:(Sl Line)) (zeL:(Sl Line)) (iv2:Int) (zm2:Int):Bool:=zke P1 zaa lv0 Fuel zeL iv2 zm2
def zkf (zaa:(Sl Gate)) (lv0:(Sl Line)) (S1:(Sl Line)→Int→(Sl Line)) (zkb:(Sl Line)) (iv1:Int):(Sl Line) :=
  (cond (decide (iv1 < (lv0.len : Int)))
 (cond (decide (((s27 (lv0.get iv1.toNat) zaa).len : Int) < (zaa.len : Int)))
 (S1 zkb (w64 (iv1+(1:Int))))
 (zyB S1 zaa lv0 zkb iv1 (0:Int)))
 zkb)
def zkg (zaa:(Sl Gate)) (lv0:(Sl Line)) (P1:(Sl Line)→Int→Bool) (zkb:(Sl Line)) (iv1:Int):Bool :=
  (cond (decide (iv1 < (lv0.len : Int)))
 (decide ((0≤iv1∧iv1 < (lv0.len:Int))) &&
 (decide ((p27 (lv0.get iv1.toNat) zaa=true)) &&
 (cond (decide (((s27 (lv0.get iv1.toNat) zaa).len : Int) < (zaa.len : Int)))
 (P1 zkb (w64 (iv1+(1:Int))))
 (zyC P1 zaa lv0 zkb iv1 (0:Int)))))
 true)
def zhP (zaa:(Sl Gate)) (lv0:(Sl Line)):Nat→(Sl Line)→Int→(Sl Line):=lpO (fun _ _=>default) (zkf zaa lv0)
def zkh (zaa:(Sl Gate)) (lv0:(Sl Line)):Nat→(Sl Line)→Int→Bool:=lpO (fun _ _=>false) (zkg zaa lv0)
def zGp (zaa:(Sl Gate)) (lv0:(Sl Line)) (zkb:(Sl Line)) (iv1:Int):(Sl Line):=zhP zaa lv0 Fuel zkb iv1
def zGq (zaa:(Sl Gate)) (lv0:(Sl Line)) (zkb:(Sl Line)) (iv1:Int):Bool:=zkh zaa lv0 Fuel zkb iv1
def zGr (zaa:(Sl Gate)) (lv0:(Sl Line)):(Sl Line) :=
  (zGp zaa lv0 (⟨0,(fun _=>default)⟩:Sl Line) (0:Int))
def zGs (zaa:(Sl Gate)) (lv0:(Sl Line)):Bool :=
  (zGq zaa lv0 (⟨0,(fun _=>default)⟩:Sl Line) (0:Int))
def s33 (zaa:(Sl Gate)):(Sl Line) :=
  (zGr zaa (s80 zaa))
def p33 (zaa:(Sl Gate)):Bool :=
  (decide ((p80 zaa=true)) &&
 (zGs zaa (s80 zaa)))
end
section
variable {K:List PA→Prop} {zaa:(Sl Gate)} {av0:Int} {bv0:Int} {iv0:Int} {X0:St→Prop} {P0:Int→Int→Int→Bool} {S0:Int→Int→Int→(Int×Int×Bool)}
def zki (zaa:(Sl Gate)) (S0:Int→Int→Int→(Int×Int×Bool)) (av0:Int) (bv0:Int) (iv0:Int):(Int×Int×Bool) :=
  (cond (decide (iv0 < (zaa.len : Int)))
 (S0 (if (zaa.get iv0.toNat).Low > av0 then (zaa.get iv0.toNat).Low else av0) (if (zaa.get iv0.toNat).High < bv0 then (zaa.get iv0.toNat).High else bv0) (w64 (iv0+(1:Int))))
 (av0,bv0,(decide (av0≤bv0))))
def zkj (zaa:(Sl Gate)) (P0:Int→Int→Int→Bool) (av0:Int) (bv0:Int) (iv0:Int):Bool :=
  (cond (decide (iv0 < (zaa.len : Int)))
 (decide ((0≤iv0∧iv0 < (zaa.len:Int))) &&
 (decide ((0≤iv0∧iv0 < (zaa.len:Int))) &&
 (P0 (if (zaa.get iv0.toNat).Low > av0 then (zaa.get iv0.toNat).Low else av0) (if (zaa.get iv0.toNat).High < bv0 then (zaa.get iv0.toNat).High else bv0) (w64 (iv0+(1:Int))))))
 true)
def zkk (zaa:(Sl Gate)):Nat→Int→Int→Int→(Int×Int×Bool):=lpO (fun _ _ _=>default) (zki zaa)
def zkl (zaa:(Sl Gate)):Nat→Int→Int→Int→Bool:=lpO (fun _ _ _=>false) (zkj zaa)
def zGt (zaa:(Sl Gate)) (av0:Int) (bv0:Int) (iv0:Int):(Int×Int×Bool):=zkk zaa Fuel av0 bv0 iv0
def zGu (zaa:(Sl Gate)) (av0:Int) (bv0:Int) (iv0:Int):Bool:=zkl zaa Fuel av0 bv0 iv0
def s71 (zaa:(Sl Gate)):(Int×Int×Bool) :=
  (zGt zaa ((zaa.get 0).Low) ((zaa.get 0).High) (1:Int))
def p71 (zaa:(Sl Gate)):Bool :=
  (decide ((0≤(0:Int)∧(0:Int) < (zaa.len:Int))) &&
 (decide ((0≤(0:Int)∧(0:Int) < (zaa.len:Int))) &&
 (zGu zaa ((zaa.get 0).Low) ((zaa.get 0).High) (1:Int))))
end
section
variable {K:List PA→Prop} {zaa:(Sl Gate)}
def s21 (zaa:(Sl Gate)):Bool :=
  (cond (s22 zaa)
 ((s71 zaa).2.2)
 (decide (((s33 zaa).len:Int) > (0:Int))))
def p21 (zaa:(Sl Gate)):Bool :=
  (decide ((p22 zaa=true)) &&
 (cond (s22 zaa)
 (decide ((p71 zaa=true)) &&
 true)
 (decide ((p33 zaa=true)) &&
 true)))
end
section
variable {K:List PA→Prop} {zaa:(Sl Gate)} {z:Int} {zBi:Bool} {av1:Int} {bv1:Int} {lv3:(Sl Line)} {zO4:Nat→List PV} {zBj:Int} {zBk:Int} {zm5:Int} {zm6:Int} {iv5:Int} {zm7:Int} {zm8:Int} {zm9:Int} {zna:Int} {X5:St→Prop} {P5:Int→Int→Int→Int→Int→Bool} {S5:Int→Int→Int→Int→Int→(Frac×Frac)} {iv6:Int} {zq2:Int} {zq3:Int} {zyD:Int} {zyE:Int} {zdL:Int} {zdM:Int} {iv7:Int} {zBl:Bool} {zBm:Int} {zBn:Int} {zkV:Int} {zkW:Int} {iv8:Int} {zBo:Bool} {ztm:Int} {ztn:Int} {zBp:Int} {zBq:Int}
def zq4 (S5:Int→Int→Int→Int→Int→(Frac×Frac)) (z:Int) (lv3:(Sl Line)) (zdL:Int) (zdM:Int) (iv8:Int) (zBo:Bool) (ztm:Int) (ztn:Int) (zBp:Int) (zBq:Int):(Frac×Frac) :=
  (cond zBo
 (S5 (w64 (iv8+(1:Int))) ztm ztn zdL zdM)
 (S5 (w64 (iv8+(1:Int))) ztm ztn zBp zBq))
def zq5 (P5:Int→Int→Int→Int→Int→Bool) (z:Int) (lv3:(Sl Line)) (zdL:Int) (zdM:Int) (iv8:Int) (zBo:Bool) (ztm:Int) (ztn:Int) (zBp:Int) (zBq:Int):Bool :=
  (cond zBo
 (P5 (w64 (iv8+(1:Int))) ztm ztn zdL zdM)
 (P5 (w64 (iv8+(1:Int))) ztm ztn zBp zBq))
def zyF (S5:Int→Int→Int→Int→Int→(Frac×Frac)) (z:Int) (lv3:(Sl Line)) (zdL:Int) (zdM:Int) (iv7:Int) (zBl:Bool) (zBm:Int) (zBn:Int) (zkV:Int) (zkW:Int):(Frac×Frac) :=
  (cond zBl
 (zq4 S5 z lv3 zdL zdM iv7 (s29 (⟨zkV,zkW⟩:Frac) (⟨zdL,zdM⟩:Frac)) zdL zdM zkV zkW)
 (zq4 S5 z lv3 zdL zdM iv7 (s29 (⟨zkV,zkW⟩:Frac) (⟨zdL,zdM⟩:Frac)) zBm zBn zkV zkW))
def zyG (P5:Int→Int→Int→Int→Int→Bool) (z:Int) (lv3:(Sl Line)) (zdL:Int) (zdM:Int) (iv7:Int) (zBl:Bool) (zBm:Int) (zBn:Int) (zkV:Int) (zkW:Int):Bool :=
  (cond zBl
 (zq5 P5 z lv3 zdL zdM iv7 (s29 (⟨zkV,zkW⟩:Frac) (⟨zdL,zdM⟩:Frac)) zdL zdM zkV zkW)
 (zq5 P5 z lv3 zdL zdM iv7 (s29 (⟨zkV,zkW⟩:Frac) (⟨zdL,zdM⟩:Frac)) zBm zBn zkV zkW))
def zyH (S5:Int→Int→Int→Int→Int→(Frac×Frac)) (z:Int) (lv3:(Sl Line)) (iv6:Int) (zq2:Int) (zq3:Int) (zyD:Int) (zyE:Int) (zdL:Int) (zdM:Int):(Frac×Frac) :=
  (zyF S5 z lv3 zdL zdM iv6 (s29 (⟨zdL,zdM⟩:Frac) (⟨zq2,zq3⟩:Frac)) zq2 zq3 zyD zyE)
def zyI (P5:Int→Int→Int→Int→Int→Bool) (z:Int) (lv3:(Sl Line)) (iv6:Int) (zq2:Int) (zq3:Int) (zyD:Int) (zyE:Int) (zdL:Int) (zdM:Int):Bool :=
  (zyG P5 z lv3 zdL zdM iv6 (s29 (⟨zdL,zdM⟩:Frac) (⟨zq2,zq3⟩:Frac)) zq2 zq3 zyD zyE)
def zkm (z:Int) (lv3:(Sl Line)) (S5:Int→Int→Int→Int→Int→(Frac×Frac)) (iv5:Int) (zm7:Int) (zm8:Int) (zm9:Int) (zna:Int):(Frac×Frac) :=
  (cond (decide (iv5 < (lv3.len : Int)))
 (zyH S5 z lv3 iv5 zm7 zm8 zm9 zna ((s28 (lv3.get iv5.toNat) z).Num) ((s28 (lv3.get iv5.toNat) z).Den))
 ((⟨zm7,zm8⟩:Frac),(⟨zm9,zna⟩:Frac)))
def zkn (z:Int) (lv3:(Sl Line)) (P5:Int→Int→Int→Int→Int→Bool) (iv5:Int) (zm7:Int) (zm8:Int) (zm9:Int) (zna:Int):Bool :=
  (cond (decide (iv5 < (lv3.len : Int)))
 (decide ((0≤iv5∧iv5 < (lv3.len:Int))) &&
 (decide ((p28 (lv3.get iv5.toNat) z=true)) &&
 (zyI P5 z lv3 iv5 zm7 zm8 zm9 zna ((s28 (lv3.get iv5.toNat) z).Num) ((s28 (lv3.get iv5.toNat) z).Den))))
 true)
def zko (z:Int) (lv3:(Sl Line)):Nat→Int→Int→Int→Int→Int→(Frac×Frac):=lpO (fun _ _ _ _ _=>default) (zkm z lv3)
def zkp (z:Int) (lv3:(Sl Line)):Nat→Int→Int→Int→Int→Int→Bool:=lpO (fun _ _ _ _ _=>false) (zkn z lv3)
def zGv (z:Int) (lv3:(Sl Line)) (iv5:Int) (zm7:Int) (zm8:Int) (zm9:Int) (zna:Int):(Frac×Frac):=zko z lv3 Fuel iv5 zm7 zm8 zm9 zna
def zGw (z:Int) (lv3:(Sl Line)) (iv5:Int) (zm7:Int) (zm8:Int) (zm9:Int) (zna:Int):Bool:=zkp z lv3 Fuel iv5 zm7 zm8 zm9 zna
def zGx (z:Int) (lv3:(Sl Line)) (zBj:Int) (zBk:Int) (zm5:Int) (zm6:Int):(Frac×Frac) :=
  (zGv z lv3 (1:Int) zBj zBk zm5 zm6)
def zyJ (z:Int) (lv3:(Sl Line)) (zBj:Int) (zBk:Int) (zm5:Int) (zm6:Int):Bool :=
  (zGw z lv3 (1:Int) zBj zBk zm5 zm6)
def zGy (z:Int) (lv3:(Sl Line)):(Frac×Frac) :=
  (zGx z lv3 ((s28 (lv3.get 0) z).Num) ((s28 (lv3.get 0) z).Den) ((s28 (lv3.get 0) z).Num) ((s28 (lv3.get 0) z).Den))
def zyK (z:Int) (lv3:(Sl Line)):Bool :=
  (decide ((0≤(0:Int)∧(0:Int) < (lv3.len:Int))) &&
 (decide ((p28 (lv3.get 0) z=true)) &&
 (decide ((0≤(0:Int)∧(0:Int) < (lv3.len:Int))) &&
 (decide ((p28 (lv3.get 0) z=true)) &&
 (zyJ z lv3 ((s28 (lv3.get 0) z).Num) ((s28 (lv3.get 0) z).Den) ((s28 (lv3.get 0) z).Num) ((s28 (lv3.get 0) z).Den))))))
def zq6 (zaa:(Sl Gate)) (z:Int):(Frac×Frac) :=
  (zGy z (s33 zaa))
def zq7 (zaa:(Sl Gate)) (z:Int):Bool :=
  (decide ((p33 zaa=true)) &&
 (zyK z (s33 zaa)))
def zyL (av1:Int) (bv1:Int):(Frac×Frac) :=
  ((s40 av1 (1:Int)),(s40 bv1 (1:Int)))
def zyM (av1:Int) (bv1:Int):Bool :=
  (decide ((p40 av1 (1:Int)=true)) &&
 (decide ((p40 bv1 (1:Int)=true)) &&
 true))
def znb (zaa:(Sl Gate)) (z:Int) (zBi:Bool):(Frac×Frac) :=
  (cond zBi
 (zyL ((s71 zaa).1) ((s71 zaa).2.1))
 (zq6 zaa z))
def zyN (zaa:(Sl Gate)) (z:Int) (zBi:Bool):Bool :=
  (cond zBi
 (decide ((p71 zaa=true)) &&
 (zyM ((s71 zaa).1) ((s71 zaa).2.1)))
 (zq7 zaa z))
def s36 (zaa:(Sl Gate)) (z:Int):(Frac×Frac) :=
  (znb zaa z (s22 zaa))
def p36 (zaa:(Sl Gate)) (z:Int):Bool :=
  (decide ((p22 zaa=true)) &&
 (zyN zaa z (s22 zaa)))
end
def zMg : List PA → COut
  | [.one (.sl a0_n a0_s a0_g),.one (.int .i64 a1)]=>.det (IsE enc_55 3 a0_s a0_g∧p36 (⟨a0_n,zad a0_g⟩:(Sl Gate)) a1=true) [.agg [.int .i64 (((s36 (⟨a0_n,zad a0_g⟩:(Sl Gate)) a1).1).Num),.int .i64 (((s36 (⟨a0_n,zad a0_g⟩:(Sl Gate)) a1).1).Den)],.agg [.int .i64 (((s36 (⟨a0_n,zad a0_g⟩:(Sl Gate)) a1).2).Num),.int .i64 (((s36 (⟨a0_n,zad a0_g⟩:(Sl Gate)) a1).2).Den)]]
  | _=>.no
section
variable {K:List PA→Prop} {zaa:(Sl Gate)} {lv0:(Sl Line)} {zMc:Nat→List PV} {iv1:Int} {zaL:Int} {zaV:Int} {znc:Int} {znd:Int} {X1:St→Prop} {P1:Int→Int→Int→Int→Int→Bool} {S1:Int→Int→Int→Int→Int→(Frac×Frac)} {iv2:Int} {zBr:Bool} {zyO:Int} {zyP:Int} {zq8:Int} {zq9:Int} {iv3:Int} {zkX:Int} {zkY:Int} {zto:Int} {ztp:Int} {iv4:Int} {zyQ:Bool} {zm5:Int} {zm6:Int}
def zyR (S1:Int→Int→Int→Int→Int→(Frac×Frac)) (lv0:(Sl Line)) (zkX:Int) (zkY:Int) (iv4:Int) (zyQ:Bool) (zm5:Int) (zm6:Int):(Frac×Frac) :=
  (cond zyQ
 (S1 (w64 (iv4+(1:Int))) zkX zkY ((lv0.get iv4.toNat).Slope.Num) ((lv0.get iv4.toNat).Slope.Den))
 (S1 (w64 (iv4+(1:Int))) zkX zkY zm5 zm6))
def zyS (P1:Int→Int→Int→Int→Int→Bool) (lv0:(Sl Line)) (zkX:Int) (zkY:Int) (iv4:Int) (zyQ:Bool) (zm5:Int) (zm6:Int):Bool :=
  (cond zyQ
 (decide ((0≤iv4∧iv4 < (lv0.len:Int))) &&
 (P1 (w64 (iv4+(1:Int))) zkX zkY ((lv0.get iv4.toNat).Slope.Num) ((lv0.get iv4.toNat).Slope.Den)))
 (P1 (w64 (iv4+(1:Int))) zkX zkY zm5 zm6))
def zra (S1:Int→Int→Int→Int→Int→(Frac×Frac)) (lv0:(Sl Line)) (iv3:Int) (zkX:Int) (zkY:Int) (zto:Int) (ztp:Int):(Frac×Frac) :=
  (zyR S1 lv0 zkX zkY iv3 (s29 (⟨zto,ztp⟩:Frac) ((lv0.get iv3.toNat).Slope)) zto ztp)
def zrb (P1:Int→Int→Int→Int→Int→Bool) (lv0:(Sl Line)) (iv3:Int) (zkX:Int) (zkY:Int) (zto:Int) (ztp:Int):Bool :=
  (decide ((0≤iv3∧iv3 < (lv0.len:Int))) &&
 (zyS P1 lv0 zkX zkY iv3 (s29 (⟨zto,ztp⟩:Frac) ((lv0.get iv3.toNat).Slope)) zto ztp))
def zyT (S1:Int→Int→Int→Int→Int→(Frac×Frac)) (lv0:(Sl Line)) (iv2:Int) (zBr:Bool) (zyO:Int) (zyP:Int) (zq8:Int) (zq9:Int):(Frac×Frac) :=
  (cond zBr
 (zra S1 lv0 iv2 ((lv0.get iv2.toNat).Slope.Num) ((lv0.get iv2.toNat).Slope.Den) zq8 zq9)
 (zra S1 lv0 iv2 zyO zyP zq8 zq9))
def zyU (P1:Int→Int→Int→Int→Int→Bool) (lv0:(Sl Line)) (iv2:Int) (zBr:Bool) (zyO:Int) (zyP:Int) (zq8:Int) (zq9:Int):Bool :=
  (cond zBr
 (decide ((0≤iv2∧iv2 < (lv0.len:Int))) &&
 (zrb P1 lv0 iv2 ((lv0.get iv2.toNat).Slope.Num) ((lv0.get iv2.toNat).Slope.Den) zq8 zq9))
 (zrb P1 lv0 iv2 zyO zyP zq8 zq9))
def zkq (lv0:(Sl Line)) (S1:Int→Int→Int→Int→Int→(Frac×Frac)) (iv1:Int) (zaL:Int) (zaV:Int) (znc:Int) (znd:Int):(Frac×Frac) :=
  (cond (decide (iv1 < (lv0.len : Int)))
 (zyT S1 lv0 iv1 (s29 ((lv0.get iv1.toNat).Slope) (⟨zaL,zaV⟩:Frac)) zaL zaV znc znd)
 ((⟨zaL,zaV⟩:Frac),(⟨znc,znd⟩:Frac)))
def zkr (lv0:(Sl Line)) (P1:Int→Int→Int→Int→Int→Bool) (iv1:Int) (zaL:Int) (zaV:Int) (znc:Int) (znd:Int):Bool :=
  (cond (decide (iv1 < (lv0.len : Int)))
 (decide ((0≤iv1∧iv1 < (lv0.len:Int))) &&
 (zyU P1 lv0 iv1 (s29 ((lv0.get iv1.toNat).Slope) (⟨zaL,zaV⟩:Frac)) zaL zaV znc znd))
 true)
def zks (lv0:(Sl Line)):Nat→Int→Int→Int→Int→Int→(Frac×Frac):=lpO (fun _ _ _ _ _=>default) (zkq lv0)
def zkt (lv0:(Sl Line)):Nat→Int→Int→Int→Int→Int→Bool:=lpO (fun _ _ _ _ _=>false) (zkr lv0)
def zGz (lv0:(Sl Line)) (iv1:Int) (zaL:Int) (zaV:Int) (znc:Int) (znd:Int):(Frac×Frac):=zks lv0 Fuel iv1 zaL zaV znc znd
def zGA (lv0:(Sl Line)) (iv1:Int) (zaL:Int) (zaV:Int) (znc:Int) (znd:Int):Bool:=zkt lv0 Fuel iv1 zaL zaV znc znd
def zGB (lv0:(Sl Line)):(Frac×Frac) :=
  (zGz lv0 (1:Int) ((lv0.get 0).Slope.Num) ((lv0.get 0).Slope.Den) ((lv0.get 0).Slope.Num) ((lv0.get 0).Slope.Den))
def zyV (lv0:(Sl Line)):Bool :=
  (decide ((0≤(0:Int)∧(0:Int) < (lv0.len:Int))) &&
 (decide ((0≤(0:Int)∧(0:Int) < (lv0.len:Int))) &&
 (zGA lv0 (1:Int) ((lv0.get 0).Slope.Num) ((lv0.get 0).Slope.Den) ((lv0.get 0).Slope.Num) ((lv0.get 0).Slope.Den))))
def s37 (zaa:(Sl Gate)):(Frac×Frac) :=
  (zGB (s33 zaa))
def p37 (zaa:(Sl Gate)):Bool :=
  (decide ((p33 zaa=true)) &&
 (zyV (s33 zaa)))
end
section
variable {K:List PA→Prop} {f:Frac}
end
abbrev T35:Tabs:=((Tabs.nil.addF 75 ztj).addF 82 zAT)
abbrev G35:Ctrs:=csm T35 (fun _ _=>[]) (fun _=>false)
def zMh:Ann:=⟨26,[(0,zK [0,2,3] [2,3]),(1,zK [2,3,5,6] [2,3,5]),(2,zK [2,3,5,6,15] [2,3,5]),(3,zK [2,3,4] [2,3]),(4,zK [2,3,7,8] [2,3,7,8]),(5,zK [2,3,4] [2,3])],
 [],
 [(4,zK [2,3,5] [2,3,5])],
 [],[]⟩
@[irreducible] def z35:=ptF Try.prog G35 zMh Try.f35
section
variable {K:List PA→Prop} {zaa:(Sl Gate)} {zmK:(Sl Gate)} {zmL:(Sl straight)} {zqg:Nat→List PV} {zqh:Nat→List PV}
end
abbrev T48:Tabs:=((((((Tabs.nil.addF 67 zoj).addF 68 zvs).addF 69 zpF).addF 75 ztj).addF 87 zAy).addF 89 zpz)
abbrev G48:Ctrs:=csm T48 (fun _ _=>[]) (fun _=>false)
def zMi:Ann:=⟨72,[(0,zK [0,3] [3]),(1,zK [0,3,14] [3]),(2,zK [4,5] []),(3,zK [3,6,7] [3,6]),(4,zK [3,6,7,21] [3,6]),(5,zK [4,5] []),(6,zK [3,6,36] [3,6]),(7,zK [4,5] []),(8,zK [3,8,9] [3,8,9]),(9,zK [8,9,10,11] [8,9,10,11]),(10,zK [8,9,10,11,50] [8,9,10,11]),(11,zK [4,5] []),(12,zK [61] []),(13,zK [4,5] []),(14,zK [4,5] [])],
 [],
 [(2,zK [0,3,14] [3]),(3,zK [0,3] [3]),(4,zK [3,6,7] [3,6]),(6,zK [3,6] [3,6]),(7,zK [3,6,36] [3,6]),(8,zK [3,6] [3,6]),(9,zK [3,8,9] [3,8,9]),(10,zK [8,9,10,11] [8,9,10,11]),(11,zK [8,9,10,11,50] [8,9,10,11]),(13,zK [61] [])],
 [],[]⟩
@[irreducible] def z48:=ptF Try.prog G48 zMi Try.f48
section
variable {K:List PA→Prop} {zaa:(Sl Gate)} {g:Gate} {zai:Bool} {ev2:Int} {zck:(Sl Gate)} {zcl:(Sl straight)} {zp5:Nat→List PV} {zp6:Nat→List PV} {zho:(Sl Gate)} {zhp:(Sl straight)} {zp7:Nat→List PV} {zp8:Nat→List PV} {zO5:Bool} {zO6:(Sl Gate)} {zO7:(Sl straight)} {zMj:Nat→List PV} {zMk:Nat→List PV} {zO8:(Sl Gate)} {zO9:(Sl straight)} {zMl:Nat→List PV} {zMm:Nat→List PV} {zq2:Int} {zq3:Int} {zyD:Int} {zyE:Int} {zMn:Int} {zMo:Int} {zKp:Int} {zKq:Int} {zPa:Bool} {zPb:Bool}
end
abbrev T50:Tabs:=((((Tabs.nil.addF 22 zBb).addF 29 zyj).addF 36 zMg).addF 40 ztk)
abbrev G50:Ctrs:=csm T50 (fun _ _=>[]) (fun _=>false)
def zMp:Ann:=⟨51,[(0,zK [0,3] [3]),(1,zK [0,3,19] [3]),(2,zK [4] []),(3,zK [3,5,6] [3,5,6]),(4,zK [5,6,7,8] [5,6,7,8]),(5,zK [5,6,7,8,42] [5,6,7,8]),(6,zK [4] []),(7,zK [50] []),(8,zK [4] []),(9,zK [4] [])],
 [],
 [(2,zK [0,3,19] [3]),(3,zK [0,3] [3]),(4,zK [3,5,6] [3,5,6]),(5,zK [5,6,7,8] [5,6,7,8]),(6,zK [5,6,7,8,42] [5,6,7,8]),(8,zK [50] [])],
 [],[]⟩
@[irreducible] def z50:=ptF Try.prog G50 zMp Try.f50
section
variable {K:List PA→Prop} {zaa:(Sl Gate)} {g:Gate} {zPc:Bool} {zyO:Int} {zyP:Int} {zq8:Int} {zq9:Int} {zNa:Int} {zNb:Int} {zNc:Int} {zNd:Int} {zyQ:Bool} {zPd:Bool}
end
section
variable {K:List PA→Prop} {a:(Sl Gate)} {b:(Sl Gate)} {from_a2:Int} {to:Int} {zv0:Int} {X0:St→Prop} {P0:Int→Bool} {S0:Int→(Int×Frac×Frac)} {zv1:Int} {za9:Int} {zba:Int} {zaR:Int} {zaS:Int} {zv2:Int} {zkZ:Int} {zk0:Int} {zck:Int} {zcl:Int} {zv3:Int} {zBs:Bool} {zv4:Int} {zfe:Int} {zff:Int} {zv5:Int} {zBt:Bool} {zv6:Int} {zBu:Bool} {zGC:Int} {zGD:Int}
def zrd (S0:Int→(Int×Frac×Frac)) (a:(Sl Gate)) (b:(Sl Gate)) (to:Int) (zfe:Int) (zff:Int) (zv6:Int) (zBu:Bool) (zGC:Int) (zGD:Int):(Int×Frac×Frac) :=
  (cond zBu
 (zv6,(⟨zfe,zff⟩:Frac),(⟨zGC,zGD⟩:Frac))
 (S0 (w64 (zv6+(1:Int)))))
def zre (P0:Int→Bool) (a:(Sl Gate)) (b:(Sl Gate)) (to:Int) (zfe:Int) (zff:Int) (zv6:Int) (zBu:Bool) (zGC:Int) (zGD:Int):Bool :=
  (cond zBu
 true
 (P0 (w64 (zv6+(1:Int)))))
def zyW (S0:Int→(Int×Frac×Frac)) (a:(Sl Gate)) (b:(Sl Gate)) (to:Int) (zaR:Int) (zaS:Int) (zck:Int) (zcl:Int) (zfe:Int) (zff:Int) (zv5:Int) (zBt:Bool):(Int×Frac×Frac) :=
  (cond zBt
 (zrd S0 a b to zfe zff zv5 (!(s29 (⟨zck,zcl⟩:Frac) (⟨zfe,zff⟩:Frac))) zck zcl)
 (zrd S0 a b to zfe zff zv5 (!(s29 (⟨zaR,zaS⟩:Frac) (⟨zfe,zff⟩:Frac))) zaR zaS))
def zyX (P0:Int→Bool) (a:(Sl Gate)) (b:(Sl Gate)) (to:Int) (zaR:Int) (zaS:Int) (zck:Int) (zcl:Int) (zfe:Int) (zff:Int) (zv5:Int) (zBt:Bool):Bool :=
  (cond zBt
 (zre P0 a b to zfe zff zv5 (!(s29 (⟨zck,zcl⟩:Frac) (⟨zfe,zff⟩:Frac))) zck zcl)
 (zre P0 a b to zfe zff zv5 (!(s29 (⟨zaR,zaS⟩:Frac) (⟨zfe,zff⟩:Frac))) zaR zaS))
def zrf (S0:Int→(Int×Frac×Frac)) (a:(Sl Gate)) (b:(Sl Gate)) (to:Int) (zaR:Int) (zaS:Int) (zck:Int) (zcl:Int) (zv4:Int) (zfe:Int) (zff:Int):(Int×Frac×Frac) :=
  (zyW S0 a b to zaR zaS zck zcl zfe zff zv4 (s29 (⟨zck,zcl⟩:Frac) (⟨zaR,zaS⟩:Frac)))
def zrg (P0:Int→Bool) (a:(Sl Gate)) (b:(Sl Gate)) (to:Int) (zaR:Int) (zaS:Int) (zck:Int) (zcl:Int) (zv4:Int) (zfe:Int) (zff:Int):Bool :=
  (zyX P0 a b to zaR zaS zck zcl zfe zff zv4 (s29 (⟨zck,zcl⟩:Frac) (⟨zaR,zaS⟩:Frac)))
def zyY (S0:Int→(Int×Frac×Frac)) (a:(Sl Gate)) (b:(Sl Gate)) (to:Int) (za9:Int) (zba:Int) (zaR:Int) (zaS:Int) (zkZ:Int) (zk0:Int) (zck:Int) (zcl:Int) (zv3:Int) (zBs:Bool):(Int×Frac×Frac) :=
  (cond zBs
 (zrf S0 a b to zaR zaS zck zcl zv3 zkZ zk0)
 (zrf S0 a b to zaR zaS zck zcl zv3 za9 zba))
def zyZ (P0:Int→Bool) (a:(Sl Gate)) (b:(Sl Gate)) (to:Int) (za9:Int) (zba:Int) (zaR:Int) (zaS:Int) (zkZ:Int) (zk0:Int) (zck:Int) (zcl:Int) (zv3:Int) (zBs:Bool):Bool :=
  (cond zBs
 (zrg P0 a b to zaR zaS zck zcl zv3 zkZ zk0)
 (zrg P0 a b to zaR zaS zck zcl zv3 za9 zba))
def zy0 (S0:Int→(Int×Frac×Frac)) (a:(Sl Gate)) (b:(Sl Gate)) (to:Int) (za9:Int) (zba:Int) (zaR:Int) (zaS:Int) (zv2:Int) (zkZ:Int) (zk0:Int) (zck:Int) (zcl:Int):(Int×Frac×Frac) :=
  (zyY S0 a b to za9 zba zaR zaS zkZ zk0 zck zcl zv2 (s29 (⟨za9,zba⟩:Frac) (⟨zkZ,zk0⟩:Frac)))
def zy1 (P0:Int→Bool) (a:(Sl Gate)) (b:(Sl Gate)) (to:Int) (za9:Int) (zba:Int) (zaR:Int) (zaS:Int) (zv2:Int) (zkZ:Int) (zk0:Int) (zck:Int) (zcl:Int):Bool :=
  (zyZ P0 a b to za9 zba zaR zaS zkZ zk0 zck zcl zv2 (s29 (⟨za9,zba⟩:Frac) (⟨zkZ,zk0⟩:Frac)))
def zy2 (S0:Int→(Int×Frac×Frac)) (a:(Sl Gate)) (b:(Sl Gate)) (to:Int) (zv1:Int) (za9:Int) (zba:Int) (zaR:Int) (zaS:Int):(Int×Frac×Frac) :=
  (zy0 S0 a b to za9 zba zaR zaS zv1 (((s36 b zv1).1).Num) (((s36 b zv1).1).Den) (((s36 b zv1).2).Num) (((s36 b zv1).2).Den))
def zy3 (P0:Int→Bool) (a:(Sl Gate)) (b:(Sl Gate)) (to:Int) (zv1:Int) (za9:Int) (zba:Int) (zaR:Int) (zaS:Int):Bool :=
  (decide ((p36 b zv1=true)) &&
 (zy1 P0 a b to za9 zba zaR zaS zv1 (((s36 b zv1).1).Num) (((s36 b zv1).1).Den) (((s36 b zv1).2).Num) (((s36 b zv1).2).Den)))
def zge (a:(Sl Gate)) (b:(Sl Gate)) (to:Int) (S0:Int→(Int×Frac×Frac)) (zv0:Int):(Int×Frac×Frac) :=
  (cond (decide (zv0 ≤ to))
 (zy2 S0 a b to zv0 (((s36 a zv0).1).Num) (((s36 a zv0).1).Den) (((s36 a zv0).2).Num) (((s36 a zv0).2).Den))
 ((-1000000:Int),(⟨(0:Int),(0:Int)⟩:Frac),(⟨(0:Int),(0:Int)⟩:Frac)))
def zhQ (a:(Sl Gate)) (b:(Sl Gate)) (to:Int) (P0:Int→Bool) (zv0:Int):Bool :=
  (cond (decide (zv0 ≤ to))
 (decide ((p36 a zv0=true)) &&
 (zy3 P0 a b to zv0 (((s36 a zv0).1).Num) (((s36 a zv0).1).Den) (((s36 a zv0).2).Num) (((s36 a zv0).2).Den)))
 true)
def zdI (a:(Sl Gate)) (b:(Sl Gate)) (to:Int):Nat→Int→(Int×Frac×Frac):=lpO (fun _=>default) (zge a b to)
def zku (a:(Sl Gate)) (b:(Sl Gate)) (to:Int):Nat→Int→Bool:=lpO (fun _=>false) (zhQ a b to)
def zGE (a:(Sl Gate)) (b:(Sl Gate)) (to:Int) (zv0:Int):(Int×Frac×Frac):=zdI a b to Fuel zv0
def zGF (a:(Sl Gate)) (b:(Sl Gate)) (to:Int) (zv0:Int):Bool:=zku a b to Fuel zv0
def s23 (a:(Sl Gate)) (b:(Sl Gate)) (from_a2:Int) (to:Int):(Int×Frac×Frac) :=
  (zGE a b to from_a2)
def p23 (a:(Sl Gate)) (b:(Sl Gate)) (from_a2:Int) (to:Int):Bool :=
  (zGF a b to from_a2)
end
end Go.Proofs
namespace Go.Pm
open Go
theorem zbA {i n:Nat} (h:i < n) (hn:n≤9223372036854775807):w64 ((i:Int)+(1:Int))=((i+1:Nat):Int):=by
 rw [zaG (by omega) (by omega)];omega
theorem zGG {β : Type} {good : Nat → Bool} {bad fin : β} {finP : Bool} {n : Nat} {lpS : Nat → Int → β} {lpP : Nat → Int → Bool}
    (hS:∀ (k i:Nat),i < n→lpS (k+1) (i:Int)=cond (good i) (lpS k (w64 ((i:Int)+(1:Int)))) bad)
    (hE:∀ k,lpS (k+1) (n:Int)=fin)
    (hP:∀ (k i:Nat),i < n→lpP (k+1) (i:Int)=cond (good i) (lpP k (w64 ((i:Int)+(1:Int)))) true)
    (hPE:∀ k,lpP (k+1) (n:Int)=finP) (hn:n≤9223372036854775807) :
    ((∀ i,i < n→good i=true)→lpP Fuel 0=finP∧lpS Fuel 0=fin)∧((¬ ∀ i,i < n→good i=true)→lpP Fuel 0=true∧lpS Fuel 0=bad):=by
  have key:∀ (m k i:Nat),i+m=n→m < k→((∀ j,i≤j→j < n→good j=true)→lpP k (i:Int)=finP∧lpS k (i:Int)=fin)∧((¬ ∀ j,i≤j→j < n→good j=true)→lpP k (i:Int)=true∧lpS k (i:Int)=bad):=by
    intro m
    induction m with
    | zero =>
      intro k i hi hk
      obtain ⟨k,rfl⟩:∃ k',k=k'+1:=⟨k - 1,by omega⟩
      have:i=n:=by omega
      subst this
      rw [hE,hPE]
      exact ⟨fun _=>⟨rfl,rfl⟩,fun h=>absurd (fun j h1 h2=>absurd h2 (by omega)) h⟩
    | succ m ih =>
      intro k i hi hk
      obtain ⟨k,rfl⟩:∃ k',k=k'+1:=⟨k - 1,by omega⟩
      rw [hS k i (by omega),hP k i (by omega),zbA (n:=n) (by omega) hn]
      obtain ⟨h1,h2⟩:=ih k (i+1) (by omega) (by omega)
      cases hg:good i
      · refine ⟨fun h => ?_, fun _ => ⟨rfl, rfl⟩⟩
        have:=h i (Nat.le_refl _) (by omega)
        rw [hg] at this;cases this
      · refine ⟨fun h => h1 fun j a b => h j (by omega) b, fun h => h2 fun h' => h fun j a b => ?_⟩
        by_cases hji:j=i
        · rw [hji];exact hg
        · exact h' j (by omega) b
  have:=key n Fuel 0 (by omega) (by simp only [Fuel];omega)
  simpa using this
def zhR {σ : Type} (step : Nat → σ → σ) : Nat → Nat → σ → σ
  | 0,_,s=>s
  | m+1,i,s=>zhR step m (i+1) (step i s)
theorem zkv {σ β : Type} {step : Nat → σ → σ} {E : σ → β} {EP : σ → Bool} {Inv : Nat → σ → Prop} {a n : Nat} {lpS : Nat → σ → Int → β} {lpP : Nat → σ → Int → Bool}
    (hS:∀ (k i:Nat) (s:σ),a≤i→i < n→Inv i s→lpS (k+1) s (i:Int)=lpS k (step i s) (w64 ((i:Int)+(1:Int))))
    (hE:∀ k s,lpS (k+1) s (n:Int)=E s)
    (hP:∀ (k i:Nat) (s:σ),a≤i→i < n→Inv i s→lpP (k+1) s (i:Int)=lpP k (step i s) (w64 ((i:Int)+(1:Int))))
    (hPE:∀ k s,lpP (k+1) s (n:Int)=EP s)
    (hI:∀ i s,a≤i→i < n→Inv i s→Inv (i+1) (step i s)) (ha:a≤n) (hn:n≤9223372036854775807) (s:σ) (h0:Inv a s) :
    lpP Fuel s (a:Int)=EP (zhR step (n - a) a s)∧lpS Fuel s (a:Int)=E (zhR step (n - a) a s):=by
  have key:∀ (m k i:Nat) (s:σ),a≤i→i+m=n→m < k→Inv i s→lpP k s (i:Int)=EP (zhR step m i s)∧lpS k s (i:Int)=E (zhR step m i s):=by
    intro m
    induction m with
    | zero =>
      intro k i s h1 hi hk _
      obtain ⟨k,rfl⟩:∃ k',k=k'+1:=⟨k - 1,by omega⟩
      have:i=n:=by omega
      subst this
      rw [hE,hPE]
      exact ⟨rfl,rfl⟩
    | succ m ih =>
      intro k i s h1 hi hk hs
      obtain ⟨k,rfl⟩:∃ k',k=k'+1:=⟨k - 1,by omega⟩
      rw [hS k i s h1 (by omega) hs,hP k i s h1 (by omega) hs,zbA (n:=n) (by omega) hn]
      exact ih k (i+1) (step i s) (by omega) (by omega) (by omega) (hI i s h1 (by omega) hs)
  exact key (n - a) Fuel a s (Nat.le_refl _) (by omega) (by simp only [Fuel];omega) h0
end Go.Pm
namespace Go.Proofs
open Go Go.Pm
set_option maxRecDepth 100000
theorem zsm (n a b:Int):s70 n a b=decide (a≤n∧n≤b):=by
 unfold s70;by_cases h:n ≥ a
 ·rw [decide_eq_true h,cond_true];exact decide_eq_decide.2 ⟨fun k=>⟨h,k⟩,fun k=>k.2⟩
 ·rw [decide_eq_false h,cond_false];exact (decide_eq_false fun k=>h k.1).symm
theorem zoC (n a b:Int):s74 n a b=decide (a≤n∧n≤b):=zsm n a b
def zfI (g:Gate):Prop:=(0≤g.Z∧g.Z≤100000)∧-1000000≤g.Low∧g.Low≤g.High∧g.High≤1000000
def zav (l:Sl Gate):Prop:=(∀ i,i < l.len→zfI (l.get i))∧1≤l.len∧l.len≤24
theorem zfw (a b:Bool):cond a b false=(a && b):=by cases a <;> rfl
theorem zCE (g:Gate):s87 g=true↔zfI g:=by
 unfold s87 zfI
 rw [zoC,zfw,zfw,zfw,Bool.and_eq_true,Bool.and_eq_true,Bool.and_eq_true,decide_eq_true_eq,decide_eq_true_eq,decide_eq_true_eq,decide_eq_true_eq]
theorem zCF (g:Gate):s49 g=true↔zfI g:=by
 unfold s49 zfI
 rw [zsm,zsm,zfw,zfw,Bool.and_eq_true,Bool.and_eq_true,decide_eq_true_eq,decide_eq_true_eq,decide_eq_true_eq]
 omega
theorem zoD (l:Sl Gate) (hn:l.len≤9223372036854775807):p64 l=true∧(s64 l=true↔zav l):=by
  have := zrS (good := fun i => s87 (l.get i)) (fin := s74 (l.len : Int) 1 24) (n := l.len) (lpS := zhb l) (lpP := zhc l)
    (fun k i hi=>by
      show zg9 l (zhb l k) (i:Int)=_
      generalize zhb l k=S
      unfold zg9 zpt
      rw [decide_eq_true (show (i:Int) < (l.len:Int) by omega),cond_true,Int.toNat_natCast]
      cases s87 (l.get i) <;> rfl)
    (fun k=>by
      show zg9 l (zhb l k) (l.len:Int)=_
      unfold zg9
      rw [decide_eq_false (show ¬ (l.len:Int) < (l.len:Int) by omega),cond_false])
    (fun k i hi=>by
      show zha l (zhc l k) (i:Int)=_
      generalize zhc l k=S
      unfold zha zpu
      rw [decide_eq_true (show (i:Int) < (l.len:Int) by omega),cond_true,Int.toNat_natCast,decide_eq_true (show 0≤(i:Int)∧(i:Int) < (l.len:Int) by omega),Bool.true_and]
      cases s87 (l.get i) <;> rfl)
    (fun k=>by
      show zha l (zhc l k) (l.len:Int)=_
      unfold zha
      rw [decide_eq_false (show ¬ (l.len:Int) < (l.len:Int) by omega),cond_false])
    hn
  refine ⟨this.1,this.2.trans ?_⟩
  rw [zoC,decide_eq_true_eq]
  exact ⟨fun k=>⟨fun i hi=>(zCE _).1 (k.1 i hi),by omega,by omega⟩,fun k=>⟨fun i hi=>(zCE _).2 (k.1 i hi),by have:=k.2;omega⟩⟩
theorem zsn (l:Sl Gate) (hn:l.len≤9223372036854775807):p20 l=true∧(s20 l=true↔zav l):=by
  have := zrS (good := fun i => s49 (l.get i)) (fin := s70 (l.len : Int) 1 24) (n := l.len) (lpS := zhu l) (lpP := zhv l)
    (fun k i hi=>by
      show zhs l (zhu l k) (i:Int)=_
      generalize zhu l k=S
      unfold zhs zqS
      rw [decide_eq_true (show (i:Int) < (l.len:Int) by omega),cond_true,Int.toNat_natCast]
      cases s49 (l.get i) <;> rfl)
    (fun k=>by
      show zhs l (zhu l k) (l.len:Int)=_
      unfold zhs
      rw [decide_eq_false (show ¬ (l.len:Int) < (l.len:Int) by omega),cond_false])
    (fun k i hi=>by
      show zht l (zhv l k) (i:Int)=_
      generalize zhv l k=S
      unfold zht zqT
      rw [decide_eq_true (show (i:Int) < (l.len:Int) by omega),cond_true,Int.toNat_natCast,decide_eq_true (show 0≤(i:Int)∧(i:Int) < (l.len:Int) by omega),Bool.true_and]
      cases s49 (l.get i) <;> rfl)
    (fun k=>by
      show zht l (zhv l k) (l.len:Int)=_
      unfold zht
      rw [decide_eq_false (show ¬ (l.len:Int) < (l.len:Int) by omega),cond_false])
    hn
  refine ⟨this.1,this.2.trans ?_⟩
  rw [zsm,decide_eq_true_eq]
  exact ⟨fun k=>⟨fun i hi=>(zCF _).1 (k.1 i hi),by omega,by omega⟩,fun k=>⟨fun i hi=>(zCF _).2 (k.1 i hi),by have:=k.2;omega⟩⟩
theorem zy4 (l:Sl Gate) (hn:l.len≤9223372036854775807):s64 l=s20 l :=
 Bool.eq_iff_iff.2 ((zoD l hn).2.trans (zsn l hn).2.symm)
-- the greatest common divisor
theorem zy5:∀ (k:Nat) (a b:Int),0≤a→0≤b→b < (k:Int) →
  (ziv k a b=true∧ziu k a b=(Int.gcd a b:Int))∧(zmP k a b=true∧zmO k a b=(Int.gcd a b:Int)):=by
 intro k
 induction k with
 | zero=>intro a b _ h1 h2;omega
 | succ k ih =>
  intro a b ha hb hk
  show (zit (ziv k) a b=true∧zis (ziu k) a b=_)∧(zmN (zmP k) a b=true∧zmM (zmO k) a b=_)
  unfold zit zis zmN zmM
  by_cases h0:b=0
  ·subst h0
   simp [Int.natAbs_of_nonneg ha]
  ·have hb0 : b > 0 := by omega
   have e1:(b != (0:Int))=true:=by simpa using h0
   have m0:0≤a.tmod b:=Int.tmod_nonneg b ha
   have m1:a.tmod b < b:=Int.tmod_lt_of_pos a hb0
   have g:Int.gcd b (a.tmod b)=Int.gcd a b:=by
    obtain ⟨m,rfl⟩:=Int.eq_ofNat_of_zero_le ha
    obtain ⟨n,rfl⟩:=Int.eq_ofNat_of_zero_le hb
    show Nat.gcd n (m % n)=Nat.gcd m n
    rw [Nat.gcd_comm m n,Nat.gcd_rec n m,Nat.gcd_comm]
   obtain ⟨⟨i1,i2⟩,i3,i4⟩:=ih b (a.tmod b) hb m0 (by omega)
   rw [decide_eq_true hb0,e1,decide_eq_true (show b ≠ 0 from h0),cond_true,cond_true,cond_true,cond_true,Bool.true_and,Bool.true_and,i1,i2,i3,i4,g]
   exact ⟨⟨rfl,rfl⟩,rfl,rfl⟩
theorem zGH (a b:Int) (ha:0≤a) (hb:0≤b) (hk:b≤9223372036854775807):zKh a b=true∧zDD a b=(Int.gcd a b:Int) :=
 (zy5 Fuel a b ha hb (by simp only [Fuel];omega)).1
theorem zCG (a b:Int) (ha:0≤a) (hb:0≤b) (hk:b≤9223372036854775807):p73 a b=true∧s73 a b=(Int.gcd a b:Int) :=
 (zy5 Fuel a b ha hb (by simp only [Fuel];omega)).2
-- the order of equal lists
end Go.Proofs
namespace Go.Proofs
open Go Go.Pm
set_option maxRecDepth 100000
theorem zy6 {σ : Type} {step : Nat → σ → σ} {Inv : Nat → σ → Prop} {n : Nat} (hI : ∀ i s, i < n → Inv i s → Inv (i + 1) (step i s)) :
    ∀ (m i:Nat) (s:σ),i+m=n→Inv i s→Inv n (zhR step m i s):=by
  intro m
  induction m with
  | zero => intro i s h hs; have : i = n := by omega
            subst this;exact hs
  | succ m ih=>intro i s h hs;exact ih (i+1) (step i s) (by omega) (hI i s (by omega) hs)
def addI (l:Line) (zaa:Sl Gate) (i:Nat) (v:Sl Int):Sl Int:=cond (s72 l (zaa.get i)) (⟨v.len+1,zd5 v.len v.get (fun _=>(i:Int))⟩:Sl Int) v
def zKr (l:Line) (zaa:Sl Gate):Sl Int:=zhR (addI l zaa) zaa.len 0 (⟨0,fun _=>default⟩:Sl Int)
theorem zso (l:Line) (zaa:Sl Gate) (i:Nat) (v:Sl Int) (h:v.len≤i):(addI l zaa i v).len≤i+1:=by
 unfold addI;cases s72 l (zaa.get i)
 ·exact Nat.le_succ_of_le h
 ·exact Nat.succ_le_succ h
theorem zJP (l:Line) (zaa:Sl Gate) (hn:zaa.len≤40):p27 l zaa=true∧s27 l zaa=zKr l zaa:=by
  have := zkv (σ := Sl Int) (step := addI l zaa) (E := id) (EP := fun _ => true) (Inv := fun i v => v.len ≤ i) (a := 0) (n := zaa.len) (lpS := fun k v i => zhC l zaa k i v) (lpP := fun k v i => zhD l zaa k i v)
    (fun k i v _ hi _=>by
      show zhA l zaa (zhC l zaa k) (i:Int) v=_
      generalize zhC l zaa k=S
      unfold zhA zqW addI
      rw [decide_eq_true (show (i:Int) < (zaa.len:Int) by omega),cond_true,Int.toNat_natCast]
      cases s72 l (zaa.get i) <;> rfl)
    (fun k v=>by
      show zhA l zaa (zhC l zaa k) (zaa.len:Int) v=_
      unfold zhA
      rw [decide_eq_false (show ¬ (zaa.len:Int) < (zaa.len:Int) by omega),cond_false];rfl)
    (fun k i v _ hi hv=>by
      show zhB l zaa (zhD l zaa k) (i:Int) v=_
      generalize zhD l zaa k=S
      unfold zhB zqX addI
      rw [decide_eq_true (show (i:Int) < (zaa.len:Int) by omega),cond_true,Int.toNat_natCast,decide_eq_true (show 0≤(i:Int)∧(i:Int) < (zaa.len:Int) by omega),decide_eq_true (show (v.len+1) * 8≤140737488355328∧v.len+1≤9223372036854775807 by omega)]
      cases s72 l (zaa.get i) <;> rfl)
    (fun k v=>by
      show zhB l zaa (zhD l zaa k) (zaa.len:Int) v=_
      unfold zhB
      rw [decide_eq_false (show ¬ (zaa.len:Int) < (zaa.len:Int) by omega),cond_false])
    (fun i v _ _ h=>zso l zaa i v h) (Nat.zero_le _) (by omega) (⟨0,fun _=>default⟩:Sl Int) (Nat.le_refl _)
  exact this
end Go.Proofs
namespace Go.Proofs
open Go Go.Pm
set_option maxRecDepth 100000
end Go.Proofs
namespace Go.Proofs
open Go Go.Pm
set_option maxRecDepth 100000
def red (num den:Int):Frac:=⟨num.tdiv (Int.gcd num den:Int),den.tdiv (Int.gcd num den:Int)⟩
theorem zCH (num:Int):(if -num > num then -num else num)=(num.natAbs:Int):=by split <;> omega
theorem zy7 (num den:Int):Int.gcd (num.natAbs:Int) den=Int.gcd num den:=by
 unfold Int.gcd;rw [Int.natAbs_natCast]
theorem zcd {num den:Int} (hd:0 < den):0 < (Int.gcd num den:Int):=by
 have:Int.gcd num den ≠ 0:=fun h=>by have:=(Int.gcd_eq_zero_iff.1 h).2;omega
 omega
theorem zNe (num den:Int):∃ a,num=(Int.gcd num den:Int) * a:=Int.gcd_dvd_left num den
theorem zNf (num den:Int):∃ a,den=(Int.gcd num den:Int) * a:=Int.gcd_dvd_right num den
theorem zdJ {num den:Int} (hd:0 < den):(Int.gcd num den:Int) * (red num den).Num=num:=by
 have hg:=zcd (num:=num) hd
 obtain ⟨a,ha⟩:=zNe num den
 show (Int.gcd num den:Int) * num.tdiv (Int.gcd num den:Int)=num
 generalize (Int.gcd num den:Int)=g at ha hg ⊢
 rw [ha,Int.mul_tdiv_cancel_left _ (by omega)]
theorem zc9 {num den:Int} (hd:0 < den):(Int.gcd num den:Int) * (red num den).Den=den:=by
 have hg:=zcd (num:=num) hd
 obtain ⟨a,ha⟩:=zNf num den
 show (Int.gcd num den:Int) * den.tdiv (Int.gcd num den:Int)=den
 generalize (Int.gcd num den:Int)=g at ha hg ⊢
 rw [ha,Int.mul_tdiv_cancel_left _ (by omega)]
theorem zcH {num den:Int} (hd:0 < den):0 < (red num den).Den:=by
 have h1:=zc9 (num:=num) hd
 have hg:=zcd (num:=num) hd
 rcases Int.lt_or_le 0 (red num den).Den with h | h
 ·exact h
 ·have := Int.mul_le_mul_of_nonneg_left h (Int.le_of_lt hg)
  rw [h1,Int.mul_zero] at this
  omega
theorem zkw {num den:Int} (hd:0 < den):(red num den).Den≤den:=by
 have h1:=zc9 (num:=num) hd
 have hg:=zcd (num:=num) hd
 have:=Int.mul_le_mul_of_nonneg_right (show (1:Int)≤(Int.gcd num den:Int) by omega) (Int.le_of_lt (zcH (num:=num) hd))
 omega
theorem zgf {num den:Int} (hd:0 < den) : -(num.natAbs:Int)≤(red num den).Num∧(red num den).Num≤(num.natAbs:Int):=by
 have h1:=zdJ (num:=num) hd
 have hg:=zcd (num:=num) hd
 have h2:num.natAbs=(Int.gcd num den) * (red num den).Num.natAbs:=by
  have:=congrArg Int.natAbs h1
  rw [Int.natAbs_mul] at this
  simpa using this.symm
 have h3:(red num den).Num.natAbs≤num.natAbs:=by
  rw [h2];exact Nat.le_mul_of_pos_left _ (by omega)
 omega
theorem zy8 {num den:Int} (hd:0 < den):Int.gcd (red num den).Num (red num den).Den=1:=by
 have h1:=zdJ (num:=num) hd
 have h2:=zc9 (num:=num) hd
 have hg:=zcd (num:=num) hd
 have h3:Int.gcd ((Int.gcd num den:Int) * (red num den).Num) ((Int.gcd num den:Int) * (red num den).Den)=Int.gcd num den * Int.gcd (red num den).Num (red num den).Den:=by
  rw [Int.gcd_mul_left];simp
 rw [h1,h2] at h3
 have h4:Int.gcd num den * 1=Int.gcd num den * Int.gcd (red num den).Num (red num den).Den:=by rw [Nat.mul_one];exact h3
 exact (Nat.eq_of_mul_eq_mul_left (by omega) h4).symm
theorem zy9 {a b c d:Int} (hb:0 < b) (hd:0 < d):red a b=red c d↔a * d=c * b:=by
 have a1:=zdJ (num:=a) hb
 have a2:=zc9 (num:=a) hb
 have c1:=zdJ (num:=c) hd
 have c2:=zc9 (num:=c) hd
 constructor
 ·intro h
  rw [h] at a1 a2
  generalize hG:(Int.gcd a b:Int)=G at a1 a2
  generalize hK:(Int.gcd c d:Int)=K at c1 c2
  generalize (red c d).Num=x at a1 c1
  generalize (red c d).Den=y at a2 c2
  subst a1;subst a2;subst c1;subst c2
  ac_rfl
 ·intro h
  have ga:=zy8 (num:=a) hb
  have gc:=zy8 (num:=c) hd
  have pa:=zcH (num:=a) hb
  have pc:=zcH (num:=c) hd
  have hG:=zcd (num:=a) hb
  have hK:=zcd (num:=c) hd
  -- cross products of the lowest forms
  have hx:(red a b).Num * (red c d).Den=(red c d).Num * (red a b).Den:=by
   have e:((Int.gcd a b:Int) * (Int.gcd c d:Int)) * ((red a b).Num * (red c d).Den)=((Int.gcd a b:Int) * (Int.gcd c d:Int)) * ((red c d).Num * (red a b).Den):=by
    have l1:((Int.gcd a b:Int) * (Int.gcd c d:Int)) * ((red a b).Num * (red c d).Den)=((Int.gcd a b:Int) * (red a b).Num) * ((Int.gcd c d:Int) * (red c d).Den):=by
     generalize (Int.gcd a b:Int)=G;generalize (Int.gcd c d:Int)=K
     ac_rfl
    have l2:((Int.gcd a b:Int) * (Int.gcd c d:Int)) * ((red c d).Num * (red a b).Den)=((Int.gcd c d:Int) * (red c d).Num) * ((Int.gcd a b:Int) * (red a b).Den):=by
     generalize (Int.gcd a b:Int)=G;generalize (Int.gcd c d:Int)=K
     ac_rfl
    rw [l1,l2,a1,a2,c1,c2];exact h
   exact Int.eq_of_mul_eq_mul_left (by have:=Int.mul_pos hG hK;omega) e
  have hx':=congrArg Int.natAbs hx
  rw [Int.natAbs_mul,Int.natAbs_mul] at hx'
  have ga':Nat.Coprime (red a b).Den.natAbs (red a b).Num.natAbs:=(Nat.gcd_comm _ _).trans ga
  have gc':Nat.Coprime (red c d).Den.natAbs (red c d).Num.natAbs:=(Nat.gcd_comm _ _).trans gc
  have d1:(red a b).Den ∣ (red c d).Den:=Int.natAbs_dvd_natAbs.1 (ga'.dvd_of_dvd_mul_left ⟨(red c d).Num.natAbs,by rw [hx',Nat.mul_comm]⟩)
  have d2:(red c d).Den ∣ (red a b).Den:=Int.natAbs_dvd_natAbs.1 (gc'.dvd_of_dvd_mul_left ⟨(red a b).Num.natAbs,by rw [← hx',Nat.mul_comm]⟩)
  have hden:(red a b).Den=(red c d).Den:=Int.le_antisymm (Int.le_of_dvd pc d1) (Int.le_of_dvd pa d2)
  rw [← hden] at hx
  have hnum:=Int.eq_of_mul_eq_mul_right (by omega) hx
  cases h1:red a b;cases h2:red c d
  rw [h1,h2] at hden hnum
  simp only at hden hnum
  rw [hden,hnum]
theorem zlB {num den:Int} (h1 : -4611686018427387904≤num) (h2:num≤4611686018427387904) (hd:0 < den) (hd2:den≤4611686018427387904):p89 num den=true∧s89 num den=red num den:=by
 have e:w64 (0 - num) = -num:=by rw [zaG (by omega) (by omega)];omega
 obtain ⟨g1,g2⟩:=zGH (num.natAbs:Int) den (by omega) (by omega) (by omega)
 have hg:=zcd (num:=num) hd
 have r1:=zgf (num:=num) hd
 have r2:=zkw (num:=num) hd
 have r3:=zcH (num:=num) hd
 unfold p89 s89
 rw [e,zCH,g1,g2,zy7]
 have w1:w64 (num.tdiv (Int.gcd num den:Int))=(red num den).Num:=zaG (by show _≤(red num den).Num;omega) (by show (red num den).Num≤_;omega)
 have w2:w64 (den.tdiv (Int.gcd num den:Int))=(red num den).Den:=zaG (by show _≤(red num den).Den;omega) (by show (red num den).Den≤_;omega)
 rw [w1,w2,decide_eq_true (show (Int.gcd num den:Int) ≠ 0 by omega)]
 exact ⟨by simp only [decide_true,Bool.and_self],by cases red num den;simp only⟩
theorem zgT {num den:Int} (h1 : -4611686018427387904≤num) (h2:num≤4611686018427387904) (hd:0 < den) (hd2:den≤4611686018427387904):p40 num den=true∧s40 num den=red num den:=by
 have e:w64 (0 - num) = -num:=by rw [zaG (by omega) (by omega)];omega
 obtain ⟨g1,g2⟩:=zCG (num.natAbs:Int) den (by omega) (by omega) (by omega)
 have hg:=zcd (num:=num) hd
 have r1:=zgf (num:=num) hd
 have r2:=zkw (num:=num) hd
 have r3:=zcH (num:=num) hd
 unfold p40 s40
 rw [e,zCH,g1,g2,zy7]
 have w1:w64 (num.tdiv (Int.gcd num den:Int))=(red num den).Num:=zaG (by show _≤(red num den).Num;omega) (by show (red num den).Num≤_;omega)
 have w2:w64 (den.tdiv (Int.gcd num den:Int))=(red num den).Den:=zaG (by show _≤(red num den).Den;omega) (by show (red num den).Den≤_;omega)
 rw [w1,w2,decide_eq_true (show (Int.gcd num den:Int) ≠ 0 by omega)]
 exact ⟨by simp only [decide_true,Bool.and_self],by cases red num den;simp only⟩
end Go.Proofs
namespace Go.Proofs
open Go Go.Pm
set_option maxRecDepth 100000
theorem zkI {x y X Y:Int} (h1 : -X≤x) (h2:x≤X) (h3:0≤y) (h4:y≤Y) : -(X * Y)≤x * y∧x * y≤X * Y:=by
 have hX:0≤X:=by omega
 have a:=Int.mul_le_mul_of_nonneg_right h2 h3
 have b:=Int.mul_le_mul_of_nonneg_left h4 hX
 have c:=Int.mul_le_mul_of_nonneg_right h1 h3
 rw [Int.neg_mul] at c
 omega
def thr (z p y q:Int):straight:=if z > y then ⟨p - q,q * z - p * y,z - y⟩ else ⟨q - p,p * y - q * z,y - z⟩
def toL (s:straight):Line:=⟨red s.slope s.den,red s.start s.den⟩
theorem zne {z p y q:Int} (hz:0≤z∧z≤100000) (hy:0≤y∧y≤100000) (hp : -1000000≤p∧p≤1000000) (hq : -1000000≤q∧q≤1000000):zkG z p y q=thr z p y q:=by
 have b1:=zkI hp.1 hp.2 hy.1 hy.2
 have b2:=zkI hq.1 hq.2 hz.1 hz.2
 unfold zkG ziw thr
 rw [zaG (x:=p * y) (by omega) (by omega),zaG (x:=q * z) (by omega) (by omega)]
 by_cases h:z > y
 ·rw [decide_eq_true h,cond_true,if_pos h,zaG (by omega) (by omega),zaG (by omega) (by omega),zaG (by omega) (by omega)]
 ·rw [decide_eq_false h,cond_false,if_neg h,zaG (by omega) (by omega),zaG (by omega) (by omega),zaG (by omega) (by omega)]
theorem zCI {z p y q:Int} (hz:0≤z∧z≤100000) (hy:0≤y∧y≤100000) (hp : -1000000≤p∧p≤1000000) (hq : -1000000≤q∧q≤1000000) (hn:z ≠ y):p26 z p y q=true∧s26 z p y q=toL (thr z p y q):=by
 have b1:=zkI hp.1 hp.2 hy.1 hy.2
 have b2:=zkI hq.1 hq.2 hz.1 hz.2
 unfold p26 s26 zm0 zmZ thr toL
 rw [zaG (x:=p * y) (by omega) (by omega),zaG (x:=q * z) (by omega) (by omega)]
 by_cases h:z > y
 ·rw [decide_eq_true (show y < z from h), cond_true, cond_true, if_pos h, zaG (x := p - q) (by omega) (by omega), zaG (x := z - y) (by omega) (by omega), zaG (x := q * z - p * y) (by omega) (by omega)]
  obtain ⟨c1,c2⟩:=zgT (num:=p - q) (den:=z - y) (by omega) (by omega) (by omega) (by omega)
  obtain ⟨d1,d2⟩:=zgT (num:=q * z - p * y) (den:=z - y) (by omega) (by omega) (by omega) (by omega)
  rw [c1,c2,d1,d2]
  exact ⟨by simp only [decide_true,Bool.and_self],rfl⟩
 ·rw [decide_eq_false (show ¬ y < z from h), cond_false, cond_false, if_neg h, zaG (x := q - p) (by omega) (by omega), zaG (x := y - z) (by omega) (by omega), zaG (x := p * y - q * z) (by omega) (by omega)]
  obtain ⟨c1,c2⟩:=zgT (num:=q - p) (den:=y - z) (by omega) (by omega) (by omega) (by omega)
  obtain ⟨d1,d2⟩:=zgT (num:=p * y - q * z) (den:=y - z) (by omega) (by omega) (by omega) (by omega)
  rw [c1,c2,d1,d2]
  exact ⟨by simp only [decide_true,Bool.and_self],rfl⟩
def zoE (a b:Gate):List straight:=if a.Z=b.Z then [] else [thr a.Z a.Low b.Z b.Low,thr a.Z a.Low b.Z b.High,thr a.Z a.High b.Z b.Low,thr a.Z a.High b.Z b.High]
def zoF (g : Sl Gate) (i : Nat) : Nat → Nat → List straight
  | 0,_=>[]
  | m+1,k=>zoE (g.get i) (g.get k) ++ zoF g i m (k+1)
def zzG (g : Sl Gate) : Nat → Nat → List straight
  | 0,_=>[]
  | m+1,i=>zoF g i (g.len - (i+1)) (i+1) ++ zzG g m (i+1)
def cst (g:Sl Gate):List straight:=zzG g g.len 0
theorem zeM {g:Gate} (h:zfI g) : -1000000≤g.Low∧g.Low≤1000000:=⟨h.2.1,by have:=h.2;omega⟩
theorem zfA {g:Gate} (h:zfI g) : -1000000≤g.High∧g.High≤1000000:=⟨by have:=h.2;omega,h.2.2.2⟩
theorem zMq (g : Sl Gate) (G : zav g) (i : Nat) (hi : i < g.len) (sl : Sl Gate) (hs : sl.len = g.len - (i + 1)) (hg : ∀ x, sl.get x = g.get (x + (i + 1)))
    (S0:Int→List straight) (P0:Int→Bool):∀ (m k j:Nat),j+m=sl.len→m < k →
    zdk P0 ⟨g⟩ k (i:Int) sl (sl.len:Int) (j:Int) (g.get i).Z (g.get i).Low (g.get i).High=P0 ((i+1:Nat):Int) ∧
    zdj S0 ⟨g⟩ k (i:Int) sl (sl.len:Int) (j:Int) (g.get i).Z (g.get i).Low (g.get i).High=zoF g i m (j+(i+1)) ++ S0 ((i+1:Nat):Int):=by
  have hl:=G.2.2
  intro m
  induction m with
  | zero =>
    intro k j hj hk
    obtain ⟨k,rfl⟩:∃ k',k=k'+1:=⟨k - 1,by omega⟩
    show zeu P0 ⟨g⟩ (zdk P0 ⟨g⟩ k) _ _ _ _ _ _ _=_∧zet S0 ⟨g⟩ (zdj S0 ⟨g⟩ k) _ _ _ _ _ _ _=_
    unfold zeu zet
    rw [decide_eq_false (show ¬ (j:Int) < (sl.len:Int) by omega),cond_false,cond_false,zbA (n:=g.len) hi (by omega)]
    exact ⟨rfl,rfl⟩
  | succ m ih =>
    intro k j hj hk
    obtain ⟨k,rfl⟩:∃ k',k=k'+1:=⟨k - 1,by omega⟩
    obtain ⟨i1,i2⟩:=ih k (j+1) (by omega) (by omega)
    show zeu P0 ⟨g⟩ (zdk P0 ⟨g⟩ k) _ _ _ _ _ _ _=_∧zet S0 ⟨g⟩ (zdj S0 ⟨g⟩ k) _ _ _ _ _ _ _=zoF g i (m+1) (j+(i+1)) ++ _
    generalize zdk P0 ⟨g⟩ k=P at i1
    generalize zdj S0 ⟨g⟩ k=S at i2
    unfold zeu zet
    have gi:=G.1 i hi
    have gk:=G.1 (j+(i+1)) (by omega)
    rw [decide_eq_true (show (j:Int) < (sl.len:Int) by omega),decide_eq_true (show 0≤(j:Int)∧(j:Int) < (sl.len:Int) by omega),cond_true,cond_true,Bool.true_and,Int.toNat_natCast,hg,
      zbA (n:=sl.len) (by omega) (by omega),i1,i2,zne gi.1 gk.1 (zeM gi) (zeM gk),zne gi.1 gk.1 (zeM gi) (zfA gk),zne gi.1 gk.1 (zfA gi) (zeM gk),zne gi.1 gk.1 (zfA gi) (zfA gk)]
    show _∧_=(zoE (g.get i) (g.get (j+(i+1))) ++ zoF g i m (j+(i+1)+1)) ++ _
    rw [show j+1+(i+1)=j+(i+1)+1 by omega]
    unfold zoE
    by_cases hz:(g.get i).Z=(g.get (j+(i+1))).Z
    · rw [if_pos hz, show ((g.get i).Z == (g.get (j + (i + 1))).Z) = true by simpa using hz]
      exact ⟨rfl,rfl⟩
    · rw [if_neg hz, show ((g.get i).Z == (g.get (j + (i + 1))).Z) = false by simpa using hz]
      exact ⟨rfl,rfl⟩
theorem zGI (g:Sl Gate) (G:zav g):zDL ⟨g⟩=true∧zB5 ⟨g⟩=cst g:=by
 have hl:=G.2.2
 have key:∀ (m k i:Nat),i+m=g.len→m < k→zdm ⟨g⟩ k (i:Int)=true∧zdl ⟨g⟩ k (i:Int)=zzG g m i:=by
  intro m
  induction m with
  | zero =>
   intro k i hi hk
   obtain ⟨k,rfl⟩:∃ k',k=k'+1:=⟨k - 1,by omega⟩
   show zew ⟨g⟩ (zdm ⟨g⟩ k) _=_∧zev ⟨g⟩ (zdl ⟨g⟩ k) _=_
   unfold zew zev
   rw [decide_eq_false (show ¬ (i:Int) < (g.len:Int) by omega),cond_false,cond_false]
   exact ⟨rfl,rfl⟩
  | succ m ih =>
   intro k i hi hk
   obtain ⟨k,rfl⟩:∃ k',k=k'+1:=⟨k - 1,by omega⟩
   obtain ⟨i1,i2⟩:=ih k (i+1) (by omega) (by omega)
   show zew ⟨g⟩ (zdm ⟨g⟩ k) _=_∧zev ⟨g⟩ (zdl ⟨g⟩ k) _=zoF g i (g.len - (i+1)) (i+1) ++ zzG g m (i+1)
   generalize zdm ⟨g⟩ k=P at i1
   generalize zdl ⟨g⟩ k=S at i2
   unfold zew zev zmh zmg
   rw [zbA (n:=g.len) (by omega) (by omega)]
   rw [decide_eq_true (show (i:Int) < (g.len:Int) by omega),decide_eq_true (show 0≤(i:Int)∧(i:Int) < (g.len:Int) by omega),decide_eq_true (show 0≤((i+1:Nat):Int)∧((i+1:Nat):Int)≤(g.len:Int)∧(g.len:Int)≤(g.len:Int) by omega),
    cond_true,cond_true,Bool.true_and,Bool.true_and,Int.toNat_natCast,Int.toNat_natCast]
   have hs:((g.len:Int) - ((i+1:Nat):Int)).toNat=g.len - (i+1):=by omega
   have:=zMq g G i (by omega) (⟨((g.len:Int) - ((i+1:Nat):Int)).toNat,fun x=>g.get (x+(i+1))⟩:Sl Gate) hs (fun _=>rfl) S P (g.len - (i+1)) Fuel 0 (by show 0+(g.len - (i+1))=((g.len:Int) - ((i+1:Nat):Int)).toNat;omega) (by simp only [Fuel];omega)
   rw [i1,i2,Nat.zero_add] at this
   exact this
 exact key g.len Fuel 0 (by omega) (by simp only [Fuel];omega)
end Go.Proofs
namespace Go.Proofs
open Go Go.Pm
set_option maxRecDepth 100000
def apL {α:Type} (v:Sl α) (x:α):Sl α:=⟨v.len+1,zd5 v.len v.get (fun _=>x)⟩
theorem znf (g:Gate):zzF g 0=g.Low:=rfl
theorem zng (g:Gate):zzF g 1=g.High:=rfl
theorem zMr (g : Sl Gate) (G : zav g) (i k : Nat) (hi : i < g.len) (hk : k < g.len) (S0 : Int → Sl Line → Sl Line) (S1 : Int → Int → Sl Line → Sl Line) (P0 : Int → Sl Line → Bool) (P1 : Int → Int → Sl Line → Bool) (v : Sl Line) (hv : v.len ≤ 100000) (F : Nat) (hF : 5 ≤ F) :
  zdH P0 P1 g F (i:Int) (k:Int) 0 v=P1 (i:Int) ((k+1:Nat):Int) (((zoE (g.get i) (g.get k)).map toL).foldl apL v) ∧
  zdG S0 S1 g F (i:Int) (k:Int) 0 v=S1 (i:Int) ((k+1:Nat):Int) (((zoE (g.get i) (g.get k)).map toL).foldl apL v):=by
 have hl:=G.2.2
 obtain ⟨f,rfl⟩:∃ f,F=f+5:=⟨F - 5,by omega⟩
 have gi:=G.1 i hi
 have gk:=G.1 k hk
 have ei:decide (0≤(i:Int)∧(i:Int) < (g.len:Int))=true:=decide_eq_true (by omega)
 have ek:decide (0≤(k:Int)∧(k:Int) < (g.len:Int))=true:=decide_eq_true (by omega)
 have e2:decide ((2:Int) ≠ 0)=true:=by decide
 have sk:w64 ((k:Int)+(1:Int))=((k+1:Nat):Int):=zbA (n:=g.len) hk (by omega)
 -- one round
 have step:∀ (m:Nat) (e:Int) (v:Sl Line) (p q:Int),(0≤e∧e < 4)→v.len≤200000→zzF (g.get i) (w64 (e.tdiv (2:Int)))=p→zzF (g.get k) (e.tmod (2:Int))=q →
   (-1000000≤p∧p≤1000000)→(-1000000≤q∧q≤1000000)→(g.get i).Z ≠ (g.get k).Z →
   zdH P0 P1 g (m+1) (i:Int) (k:Int) e v=zdH P0 P1 g m (i:Int) (k:Int) (e+1) (apL v (toL (thr (g.get i).Z p (g.get k).Z q))) ∧
   zdG S0 S1 g (m+1) (i:Int) (k:Int) e v=zdG S0 S1 g m (i:Int) (k:Int) (e+1) (apL v (toL (thr (g.get i).Z p (g.get k).Z q))):=by
  intro m e v p q he hv hp hq bp bq hz
  show zgd P0 P1 g (zdH P0 P1 g m) _ _ _ _=_∧zgc S0 S1 g (zdG S0 S1 g m) _ _ _ _=_
  generalize zdH P0 P1 g m=P
  generalize zdG S0 S1 g m=S
  obtain ⟨t1,t2⟩:=zCI gi.1 gk.1 bp bq hz
  unfold zgd zgc
  rw [Int.toNat_natCast,Int.toNat_natCast,hp,hq,t1,t2,decide_eq_true (show e < 4 from he.2),ei,ek,e2,zaG (x:=e+1) (by omega) (by omega),
   show ((g.get i).Z != (g.get k).Z)=true by simpa using hz,decide_eq_true (show (v.len+1) * 32≤140737488355328∧v.len+1≤9223372036854775807 by omega)]
  exact ⟨rfl,rfl⟩
 unfold zoE
 by_cases hz:(g.get i).Z=(g.get k).Z
 ·rw [if_pos hz]
  show zgd P0 P1 g (zdH P0 P1 g (f+4)) _ _ _ _=_∧zgc S0 S1 g (zdG S0 S1 g (f+4)) _ _ _ _=_
  generalize zdH P0 P1 g (f+4)=P
  generalize zdG S0 S1 g (f+4)=S
  unfold zgd zgc
  rw [Int.toNat_natCast,Int.toNat_natCast,ei,ek,sk,decide_eq_true (show (0:Int) < 4 by omega),show ((g.get i).Z != (g.get k).Z)=false by simpa using hz]
  exact ⟨rfl,rfl⟩
 ·rw [if_neg hz]
  have a0:=step (f+4) 0 v _ _ (by omega) (by omega) (znf _) (znf _) (zeM gi) (zeM gk) hz
  generalize hv1:apL v (toL (thr (g.get i).Z (g.get i).Low (g.get k).Z (g.get k).Low))=v1 at a0
  have l1:v1.len=v.len+1:=by rw [← hv1];rfl
  have a1:=step (f+3) 1 v1 _ _ (by omega) (by omega) (znf _) (zng _) (zeM gi) (zfA gk) hz
  generalize hv2:apL v1 (toL (thr (g.get i).Z (g.get i).Low (g.get k).Z (g.get k).High))=v2 at a1
  have l2:v2.len=v1.len+1:=by rw [← hv2];rfl
  have a2:=step (f+2) 2 v2 _ _ (by omega) (by omega) (zng _) (znf _) (zfA gi) (zeM gk) hz
  generalize hv3:apL v2 (toL (thr (g.get i).Z (g.get i).High (g.get k).Z (g.get k).Low))=v3 at a2
  have l3:v3.len=v2.len+1:=by rw [← hv3];rfl
  have a3:=step (f+1) 3 v3 _ _ (by omega) (by omega) (zng _) (zng _) (zfA gi) (zfA gk) hz
  generalize hv4:apL v3 (toL (thr (g.get i).Z (g.get i).High (g.get k).Z (g.get k).High))=v4 at a3
  have b4:zdH P0 P1 g (f+1) (i:Int) (k:Int) 4 v4=P1 (i:Int) ((k+1:Nat):Int) v4∧zdG S0 S1 g (f+1) (i:Int) (k:Int) 4 v4=S1 (i:Int) ((k+1:Nat):Int) v4:=by
   show zgd P0 P1 g (zdH P0 P1 g f) _ _ _ _=_∧zgc S0 S1 g (zdG S0 S1 g f) _ _ _ _=_
   generalize zdH P0 P1 g f=P
   generalize zdG S0 S1 g f=S
   unfold zgd zgc
   rw [sk,decide_eq_false (show ¬ (4:Int) < 4 by omega)]
   exact ⟨rfl,rfl⟩
  have fin:(([thr (g.get i).Z (g.get i).Low (g.get k).Z (g.get k).Low,thr (g.get i).Z (g.get i).Low (g.get k).Z (g.get k).High,thr (g.get i).Z (g.get i).High (g.get k).Z (g.get k).Low,thr (g.get i).Z (g.get i).High (g.get k).Z (g.get k).High]:List straight).map toL).foldl apL v=v4:=by
   simp only [List.map_cons,List.map_nil,List.foldl_cons,List.foldl_nil,hv1,hv2,hv3,hv4]
  rw [fin]
  exact ⟨(a0.1.trans (a1.1.trans (a2.1.trans a3.1))).trans b4.1,(a0.2.trans (a1.2.trans (a2.2.trans a3.2))).trans b4.2⟩
theorem zcg {α:Type} (l:List α):∀ v:Sl α,(l.foldl apL v).len=v.len+l.length:=by
 induction l with
 | nil=>intro v;rfl
 | cons x l ih=>intro v;rw [List.foldl_cons,ih];show v.len+1+l.length=v.len+(l.length+1);omega
theorem zsp (a b:Gate):(zoE a b).length≤4:=by unfold zoE;split <;> simp
theorem zsq (g:Sl Gate) (i m k:Nat):(zoF g i m k).length≤4 * m:=by
 induction m generalizing k with
 | zero=>exact Nat.le_refl _
 | succ m ih=>show (zoE _ _ ++ zoF g i m (k+1)).length≤_;rw [List.length_append];have:=ih (k+1);have:=zsp (g.get i) (g.get k);omega
theorem zPe (g:Sl Gate) (G:zav g) (i:Nat) (hi:i < g.len) (S0:Int→Sl Line→Sl Line) (P0:Int→Sl Line→Bool):∀ (m F k:Nat) (v:Sl Line),k+m=g.len→m < F→v.len+4 * m≤100000 →
  zhN P0 g F (i:Int) (k:Int) v=P0 ((i+1:Nat):Int) (((zoF g i m k).map toL).foldl apL v) ∧
  zhM S0 g F (i:Int) (k:Int) v=S0 ((i+1:Nat):Int) (((zoF g i m k).map toL).foldl apL v):=by
 have hl:=G.2.2
 intro m
 induction m with
 | zero =>
  intro F k v hk hF hv
  obtain ⟨f,rfl⟩:∃ f,F=f+1:=⟨F - 1,by omega⟩
  show zj6 P0 g (zhN P0 g f) _ _ _=_∧zj5 S0 g (zhM S0 g f) _ _ _=_
  generalize zhN P0 g f=P
  generalize zhM S0 g f=S
  unfold zj6 zj5
  rw [decide_eq_false (show ¬ (k:Int) < (g.len:Int) by omega),cond_false,cond_false,zbA (n:=g.len) hi (by omega)]
  exact ⟨rfl,rfl⟩
 | succ m ih =>
  intro F k v hk hF hv
  obtain ⟨f,rfl⟩:∃ f,F=f+1:=⟨F - 1,by omega⟩
  have ih:=fun v h=>ih f (k+1) v (by omega) (by omega) h
  show zj6 P0 g (zhN P0 g f) _ _ _=_∧zj5 S0 g (zhM S0 g f) _ _ _=_
  generalize zhN P0 g f=P at ih
  generalize zhM S0 g f=S at ih
  unfold zj6 zj5 zyx zyw
  rw [decide_eq_true (show (k:Int) < (g.len:Int) by omega),cond_true,cond_true]
  obtain ⟨b1,b2⟩:=zMr g G i k hi (by omega) S0 S P0 P v (by omega) Fuel (by simp only [Fuel];omega)
  rw [b1,b2]
  have q4:=zsp (g.get i) (g.get k)
  have:=ih (((zoE (g.get i) (g.get k)).map toL).foldl apL v) (by rw [zcg,List.length_map];omega)
  rw [← List.foldl_append,← List.map_append] at this
  exact this
theorem zJQ (g:Sl Gate) (G:zav g):p80 g=true∧s80 g=((cst g).map toL).foldl apL ⟨0,fun _=>default⟩:=by
 have hl:=G.2.2
 have key:∀ (m F i:Nat) (v:Sl Line),i+m=g.len→m < F→v.len+100 * m≤50000→zka g F (i:Int) v=true∧zj9 g F (i:Int) v=((zzG g m i).map toL).foldl apL v:=by
  intro m
  induction m with
  | zero =>
   intro F i v hi hF hv
   obtain ⟨f,rfl⟩:∃ f,F=f+1:=⟨F - 1,by omega⟩
   show zj8 g (zka g f) _ _=_∧zj7 g (zj9 g f) _ _=_
   unfold zj8 zj7
   rw [decide_eq_false (show ¬ (i:Int) < (g.len:Int) by omega),cond_false,cond_false]
   exact ⟨rfl,rfl⟩
  | succ m ih =>
   intro F i v hi hF hv
   obtain ⟨f,rfl⟩:∃ f,F=f+1:=⟨F - 1,by omega⟩
   have ih:=fun v h=>ih f (i+1) v (by omega) (by omega) h
   show zj8 g (zka g f) _ _=_∧zj7 g (zj9 g f) _ _=_
   generalize zka g f=P at ih
   generalize zj9 g f=S at ih
   unfold zj8 zj7 zyz zyy
   rw [decide_eq_true (show (i:Int) < (g.len:Int) by omega),cond_true,cond_true,zbA (n:=g.len) (by omega) (by omega)]
   obtain ⟨b1,b2⟩:=zPe g G i (by omega) S P (g.len - (i+1)) Fuel (i+1) v (by omega) (by simp only [Fuel];omega) (by omega)
   rw [b1,b2]
   have c4:=zsq g i (g.len - (i+1)) (i+1)
   have:=ih (((zoF g i (g.len - (i+1)) (i+1)).map toL).foldl apL v) (by rw [zcg,List.length_map];omega)
   rw [← List.foldl_append,← List.map_append] at this
   exact this
 exact key g.len Fuel 0 _ (by omega) (by simp only [Fuel];omega) (by show 0+_≤_;omega)
end Go.Proofs
namespace Go.Proofs
open Go Go.Pm
set_option maxRecDepth 100000
def SOK (s:straight):Prop:=(-2000000≤s.slope∧s.slope≤2000000)∧(-200000000000≤s.start∧s.start≤200000000000)∧1≤s.den∧s.den≤100000
theorem zCJ {z p y q:Int} (hz:0≤z∧z≤100000) (hy:0≤y∧y≤100000) (hp : -1000000≤p∧p≤1000000) (hq : -1000000≤q∧q≤1000000) (hn:z ≠ y):SOK (thr z p y q):=by
 have b1:=zkI hp.1 hp.2 hy.1 hy.2
 have b2:=zkI hq.1 hq.2 hz.1 hz.2
 unfold thr SOK
 by_cases h:z > y
 ·rw [if_pos h];exact ⟨⟨by show _≤p - q;omega,by show p - q≤_;omega⟩,⟨by show _≤q * z - p * y;omega,by show q * z - p * y≤_;omega⟩,by show _≤z - y;omega,by show z - y≤_;omega⟩
 ·rw [if_neg h];exact ⟨⟨by show _≤q - p;omega,by show q - p≤_;omega⟩,⟨by show _≤p * y - q * z;omega,by show p * y - q * z≤_;omega⟩,by show _≤y - z;omega,by show y - z≤_;omega⟩
theorem zBv {a b:Gate} {s:straight} (h:s∈zoE a b):a.Z ≠ b.Z∧∃ p q,(p=a.Low∨p=a.High)∧(q=b.Low∨q=b.High)∧s=thr a.Z p b.Z q:=by
 unfold zoE at h
 by_cases hz:a.Z=b.Z
 ·rw [if_pos hz] at h;cases h
 ·rw [if_neg hz] at h
  refine ⟨hz,?_⟩
  simp only [List.mem_cons,List.not_mem_nil,or_false] at h
  rcases h with h | h | h | h
  ·exact ⟨_,_,.inl rfl,.inl rfl,h⟩
  ·exact ⟨_,_,.inl rfl,.inr rfl,h⟩
  ·exact ⟨_,_,.inr rfl,.inl rfl,h⟩
  ·exact ⟨_,_,.inr rfl,.inr rfl,h⟩
theorem zsr {g : Sl Gate} {i : Nat} {s : straight} : ∀ {m k : Nat}, s ∈ zoF g i m k → ∃ j, k ≤ j ∧ j < k + m ∧ s ∈ zoE (g.get i) (g.get j)
  | 0,_,h=>by cases h
  | m+1,k,h=>by
    rcases List.mem_append.1 h with h | h
    · exact ⟨k,Nat.le_refl _,by omega,h⟩
    · obtain ⟨j, a, b, c⟩ := zsr h
      exact ⟨j,by omega,by omega,c⟩
theorem zss {g : Sl Gate} {s : straight} : ∀ {m i : Nat}, s ∈ zzG g m i → ∃ a b, i ≤ a ∧ a < i + m ∧ a < b ∧ b < g.len ∧ s ∈ zoE (g.get a) (g.get b)
  | 0,_,h=>by cases h
  | m+1,i,h=>by
    rcases List.mem_append.1 h with h | h
    · obtain ⟨j, a, b, c⟩ := zsr h
      exact ⟨i,j,Nat.le_refl _,by omega,by omega,by omega,c⟩
    · obtain ⟨a, b, h1, h2, h3, h4, h5⟩ := zss h
      exact ⟨a,b,by omega,by omega,h3,h4,h5⟩
theorem zza {g:Sl Gate} {s:straight} (h:s∈cst g):∃ a b,a < b∧b < g.len∧(g.get a).Z ≠ (g.get b).Z∧∃ p q,(p=(g.get a).Low∨p=(g.get a).High)∧(q=(g.get b).Low∨q=(g.get b).High)∧s=thr (g.get a).Z p (g.get b).Z q:=by
 obtain ⟨a,b,_,_,h3,h4,h5⟩:=zss h
 obtain ⟨hz,r⟩:=zBv h5
 exact ⟨a,b,h3,h4,hz,r⟩
theorem zkx {g:Sl Gate} (G:zav g) {s:straight} (h:s∈cst g):SOK s:=by
 obtain ⟨a,b,h1,h2,hz,p,q,hp,hq,rfl⟩:=zza h
 have ga:=G.1 a (by omega)
 have gb:=G.1 b h2
 refine zCJ ga.1 gb.1 ?_ ?_ hz
 ·rcases hp with rfl | rfl;exact zeM ga;exact zfA ga
 ·rcases hq with rfl | rfl;exact zeM gb;exact zfA gb
def plc (s:straight) (z:Int):Int:=s.start+s.slope * z
def zk1 (s:straight) (g:Gate):Bool:=decide (g.Low * s.den≤plc s g.Z∧plc s g.Z≤g.High * s.den)
def zCK (s:straight) (g:Gate):Bool:=decide (plc s g.Z=g.Low * s.den)
theorem zzb {s:straight} (S:SOK s) {g:Gate} (G:zfI g):zDv s g=zk1 s g:=by
 obtain ⟨S1,S2,S3⟩:=S
 have b1:=zkI S1.1 S1.2 G.1.1 G.1.2
 have b2:=zkI (zeM G).1 (zeM G).2 (show 0≤s.den by omega) S3.2
 have b3:=zkI (zfA G).1 (zfA G).2 (show 0≤s.den by omega) S3.2
 unfold zDv zk1 plc
 rw [zoC,zaG (x:=s.slope * g.Z) (by omega) (by omega),zaG (x:=s.start+s.slope * g.Z) (by omega) (by omega),zaG (x:=g.Low * s.den) (by omega) (by omega),zaG (x:=g.High * s.den) (by omega) (by omega)]
theorem zgU {a x y:Int} (h:0 < a):a * x≤a * y↔x≤y:=⟨fun k=>Int.le_of_mul_le_mul_left k h,fun k=>Int.mul_le_mul_of_nonneg_left k (Int.le_of_lt h)⟩
theorem zst {a x y:Int} (h:0 < a):a * x=a * y↔x=y:=⟨fun k=>Int.eq_of_mul_eq_mul_left (by omega) k,fun k=>by rw [k]⟩
theorem zzc {s:straight} (S:SOK s) {z:Int} (hz:0≤z∧z≤100000):∃ n d k,zqU (toL s) z=(n,d)∧0 < k∧k * n=s.den * plc s z∧k * d=s.den * s.den∧0 < d∧d≤10000000000:=by
  obtain ⟨S1,S2,S3⟩:=S
  have hd:0 < s.den:=by omega
  have g1:=zcd (num:=s.slope) hd
  have g2:=zcd (num:=s.start) hd
  have r1:=zgf (num:=s.slope) hd
  have r2:=zgf (num:=s.start) hd
  have e1:=zdJ (num:=s.slope) hd
  have e2:=zc9 (num:=s.slope) hd
  have e3:=zdJ (num:=s.start) hd
  have e4:=zc9 (num:=s.start) hd
  have p1:=zcH (num:=s.slope) hd
  have p2:=zcH (num:=s.start) hd
  have q1:=zkw (num:=s.slope) hd
  have q2:=zkw (num:=s.start) hd
  unfold zqU toL
  simp only
  generalize (red s.slope s.den).Num=a at *
  generalize (red s.slope s.den).Den=b at *
  generalize (red s.start s.den).Num=c at *
  generalize (red s.start s.den).Den=d at *
  generalize (Int.gcd s.slope s.den:Int)=G1 at *
  generalize (Int.gcd s.start s.den:Int)=G2 at *
  have m1:=zkI (x:=c) (X:=200000000000) (y:=b) (Y:=100000) (by omega) (by omega) (by omega) (by omega)
  have m2:=zkI (x:=a) (X:=2000000) (y:=z) (Y:=100000) (by omega) (by omega) hz.1 hz.2
  have m3:=zkI (x:=a * z) (X:=2000000 * 100000) (y:=d) (Y:=100000) (by omega) (by omega) (by omega) (by omega)
  have m4:=zkI (x:=d) (X:=100000) (y:=b) (Y:=100000) (by omega) (by omega) (by omega) (by omega)
  have m5:=Int.mul_pos p2 p1
  rw [zaG (x:=c * b) (by omega) (by omega),zaG (x:=a * z) (by omega) (by omega),zaG (x:=a * z * d) (by omega) (by omega),zaG (x:=c * b+a * z * d) (by omega) (by omega),zaG (x:=d * b) (by omega) (by omega)]
  refine ⟨_,_,G1 * G2,rfl,Int.mul_pos g1 g2,?_,?_,m5,by omega⟩
  · unfold plc
    have t1:G1 * G2 * (c * b)=s.den * s.start:=by
      calc G1 * G2 * (c * b) = (G1 * b) * (G2 * c) := by ac_rfl
        _=_:=by rw [e2,e3]
    have t2:G1 * G2 * (a * z * d)=s.den * (s.slope * z):=by
      calc G1 * G2 * (a * z * d) = (G2 * d) * ((G1 * a) * z) := by ac_rfl
        _=_:=by rw [e4,e1]
    rw [Int.mul_add,t1,t2,Int.mul_add]
  · calc G1 * G2 * (d * b) = (G1 * b) * (G2 * d) := by ac_rfl
      _=_:=by rw [e2,e4]
theorem zsu {s:straight} (S:SOK s) {g:Gate} (G:zfI g):s72 (toL s) g=zk1 s g:=by
  obtain ⟨n,d,k,e,hk,kn,kd,d1,d2⟩:=zzc S G.1
  have hd:0 < s.den:=by have:=S.2.2;omega
  have b2:=zkI (zeM G).1 (zeM G).2 (show 0≤d by omega) d2
  have b3:=zkI (zfA G).1 (zfA G).2 (show 0≤d by omega) d2
  have key:∀ x:Int,k * (x * d)=s.den * (x * s.den):=fun x=>by
    calc k * (x * d) = x * (k * d) := by ac_rfl
      _=s.den * (x * s.den):=by rw [kd];ac_rfl
  unfold s72 zk1
  rw [e,zfw]
  simp only
  rw [zaG (x:=g.Low * d) (by omega) (by omega),zaG (x:=g.High * d) (by omega) (by omega),Bool.decide_and]
  congr 1
  · refine decide_eq_decide.2 ?_
    rw [← zgU hk,key,kn,zgU hd]
  · refine decide_eq_decide.2 ?_
    rw [← zgU hk,key,kn,zgU hd]
theorem zzd {s:straight} (S:SOK s) {g:Gate} (G:zfI g):((zqU (toL s) g.Z).1 == w64 (g.Low * (zqU (toL s) g.Z).2))=zCK s g:=by
  obtain ⟨n,d,k,e,hk,kn,kd,d1,d2⟩:=zzc S G.1
  have hd:0 < s.den:=by have:=S.2.2;omega
  have b2:=zkI (zeM G).1 (zeM G).2 (show 0≤d by omega) d2
  have key:∀ x:Int,k * (x * d)=s.den * (x * s.den):=fun x=>by
    calc k * (x * d) = x * (k * d) := by ac_rfl
      _=s.den * (x * s.den):=by rw [kd];ac_rfl
  unfold zCK
  rw [e]
  simp only
  rw [zaG (x:=g.Low * d) (by omega) (by omega)]
  refine Bool.eq_iff_iff.2 ?_
  rw [beq_iff_eq,decide_eq_true_eq,← zst hk,key,kn,zst hd]
end Go.Proofs
