/- Part 5 of what the proof rests on: a machine that runs functions of the program on pure values, proved sound; the functions that the law reaches, and what they compute. -/
import Derived.Test.YtkpjhhoafenogaaQ4
set_option linter.all false
namespace Go.Proofs
open Go Go.Pm
set_option maxRecDepth 100000
set_option linter.unusedVariables false
attribute [local irreducible] Go.Pm.vcFun Go.Pm.vc Go.Pm.vcIter
abbrev T38:Tabs:=((Tabs.nil.addF 64 ztC).addF 84 zE5)
theorem zMs:TabsOk Try.prog T38:=((TabsOk.nil.addF zK6).addF zPh)
abbrev G38:Ctrs:=csm T38 (fun _ _=>[]) (fun _=>false)
def zE6:Ann:=⟨66,[(0,zK [0] []),(1,zK [0,12] []),(2,zK [2,3] []),(3,zK [0,4] []),(4,zK [0,4,15,16] []),(5,zK [0,4,15,16,17] []),(6,zK [0,4,5,15,16] []),(7,zK [0,4,5,6,15,16] []),(8,zK [0,4,5,6,15,16,23] []),(9,zK [0,4,5,6,15,16] []),(10,zK [0,4,5,6,15,16,31] []),(11,zK [2,3] [34]),(12,zK [0,4,15,16] []),(13,zK [0,4,36,37] []),(14,zK [0,4,36,37,38] []),(15,zK [0,4,7,36,37] []),(16,zK [0,4,7,8,36,37] []),(17,zK [0,4,7,8,36,37,44] []),(18,zK [0,4,7,8,36,37] []),(19,zK [0,4,7,8,9,36,37] []),(20,zK [0,4,7,8,9,36,37,51] []),(21,zK [0,4,7,8,9,36,37] []),(22,zK [0,4,7,8,9,36,37,60] []),(23,zK [2,3] [64]),(24,zK [0,4,36,37] []),(25,zK [2,3] [])],
 [(5,zK [0,4,15,16] []),(8,zK [0,4,5,6,15,16] []),(14,zK [0,4,36,37] []),(17,zK [0,4,7,8,36,37] []),(20,zK [0,4,7,8,9,36,37] [])],
 [(2,zK [0,12] []),(3,zK [0] []),(13,zK [0,4] []),(11,zK [0,4,5,6,15,16,31] []),(23,zK [0,4,7,8,9,36,37,60] [])],
 [],[]⟩
abbrev R38:=((Sl Int)×Int)
abbrev e38 (r:R38):List PA:=[.one (.sl r.1.len 1 (fun i=>zal (r.1.get i))),.one (.int .i64 r.2)]
@[irreducible] def z38:=ptF Try.prog G38 zE6 Try.f38
def zCt (zaa:(Sl Gate)) (zdo:Int):St:=⟨[(0,zS enc_55 3 zaa),(4,zI (zaa.len:Int)),(15,zI (zaa.len:Int)),(16,zI zdo)],[],[]⟩
abbrev zBj (K:List PA→Prop) (zaa:(Sl Gate)) (X:St→Prop) (P:Int→Bool) (S:Int→((Sl Int)×Int)):Prop:=∀ ⦃zdo:Int⦄,P zdo=true→K (e38 (S zdo))→X (zCt zaa zdo)
def zCu (zaa:(Sl Gate)) (iv3:Int) (jv3:Int) (zei:Int):St:=⟨[(0,zS enc_55 3 zaa),(4,zI (zaa.len:Int)),(5,zI iv3),(6,zI jv3),(15,zI (zaa.len:Int)),(16,zI zei)],[],[]⟩
abbrev zE7 (K:List PA→Prop) (zaa:(Sl Gate)) (X:St→Prop) (P:Int→Int→Int→Bool) (S:Int→Int→Int→((Sl Int)×Int)):Prop:=∀ ⦃iv3:Int⦄ ⦃jv3:Int⦄ ⦃zei:Int⦄,P iv3 jv3 zei=true→K (e38 (S iv3 jv3 zei))→X (zCu zaa iv3 jv3 zei)
def zCv (zaa:(Sl Gate)) (zdp:Int):St:=⟨[(0,zS enc_55 3 zaa),(4,zI (zaa.len:Int)),(36,zI (zaa.len:Int)),(37,zI zdp)],[],[]⟩
abbrev zwU (K:List PA→Prop) (zaa:(Sl Gate)) (X:St→Prop) (P:Int→Bool) (S:Int→((Sl Int)×Int)):Prop:=∀ ⦃zdp:Int⦄,P zdp=true→K (e38 (S zdp))→X (zCv zaa zdp)
def zCw (zaa:(Sl Gate)) (iv7:Int) (jv7:Int) (zej:Int):St:=⟨[(0,zS enc_55 3 zaa),(4,zI (zaa.len:Int)),(7,zI iv7),(8,zI jv7),(36,zI (zaa.len:Int)),(37,zI zej)],[],[]⟩
abbrev zBk (K:List PA→Prop) (zaa:(Sl Gate)) (X:St→Prop) (P:Int→Int→Int→Bool) (S:Int→Int→Int→((Sl Int)×Int)):Prop:=∀ ⦃iv7:Int⦄ ⦃jv7:Int⦄ ⦃zej:Int⦄,P iv7 jv7 zej=true→K (e38 (S iv7 jv7 zej))→X (zCw zaa iv7 jv7 zej)
def zCx (zaa:(Sl Gate)) (iv8:Int) (jv8:Int) (kv8:Int) (zek:Int):St:=⟨[(0,zS enc_55 3 zaa),(4,zI (zaa.len:Int)),(7,zI iv8),(8,zI jv8),(9,zI kv8),(36,zI (zaa.len:Int)),(37,zI zek)],[],[]⟩
abbrev zE8 (K:List PA→Prop) (zaa:(Sl Gate)) (X:St→Prop) (P:Int→Int→Int→Int→Bool) (S:Int→Int→Int→Int→((Sl Int)×Int)):Prop:=∀ ⦃iv8:Int⦄ ⦃jv8:Int⦄ ⦃kv8:Int⦄ ⦃zek:Int⦄,P iv8 jv8 kv8 zek=true→K (e38 (S iv8 jv8 kv8 zek))→X (zCx zaa iv8 jv8 kv8 zek)
section
variable {K:List PA→Prop} {zaa:(Sl Gate)} {zaJ:Bool} {zdo:Int} {X2:St→Prop} {P2:Int→Bool} {S2:Int→((Sl Int)×Int)} {iv3:Int} {jv3:Int} {zei:Int} {X3:St→Prop} {P3:Int→Int→Int→Bool} {S3:Int→Int→Int→((Sl Int)×Int)} {iv5:Int} {jv5:Int} {zp3:Int} {zp4:Bool} {zdp:Int} {X6:St→Prop} {P6:Int→Bool} {S6:Int→((Sl Int)×Int)} {iv7:Int} {jv7:Int} {zej:Int} {X7:St→Prop} {P7:Int→Int→Int→Bool} {S7:Int→Int→Int→((Sl Int)×Int)} {iv8:Int} {jv8:Int} {kv8:Int} {zek:Int} {X8:St→Prop} {P8:Int→Int→Int→Int→Bool} {S8:Int→Int→Int→Int→((Sl Int)×Int)} {iv9:Int} {jv9:Int} {kv9:Int} {zp5:Int} {zp6:Bool}
def zwV (S6:Int→((Sl Int)×Int)) (S7:Int→Int→Int→((Sl Int)×Int)) (S8:Int→Int→Int→Int→((Sl Int)×Int)) (zaa:(Sl Gate)) (iv9:Int) (jv9:Int) (kv9:Int) (zp5:Int) (zp6:Bool):((Sl Int)×Int) :=
  (cond zp6
 ((⟨3,(zi3 iv9 [iv9,jv9,kv9])⟩:(Sl Int)),(0:Int))
 (S8 iv9 jv9 (w64 (kv9+(1:Int))) zp5))
def zwW (P6:Int→Bool) (P7:Int→Int→Int→Bool) (P8:Int→Int→Int→Int→Bool) (zaa:(Sl Gate)) (iv9:Int) (jv9:Int) (kv9:Int) (zp5:Int) (zp6:Bool):Bool :=
  (cond zp6
 true
 (P8 iv9 jv9 (w64 (kv9+(1:Int))) zp5))
theorem zE9 (hX6:zwU K zaa X6 P6 S6) (hX7:zBk K zaa X7 P7 S7) (hX8:zE8 K zaa X8 P8 S8) (hs:zwW P6 P7 P8 zaa iv9 jv9 kv9 zp5 zp6=true) (hk:K (e38 (zwV S6 S7 S8 zaa iv9 jv9 kv9 zp5 zp6))):z38 (Wk K) [1,1,1,1,0,1,0,0,1,1,0,0,1,1,0,0,1,0,0,1,0,0,1,0,0,1] [X6,X7,X8] ⟨[(0,zS enc_55 3 zaa),(4,zI (zaa.len:Int)),(7,zI iv9),(8,zI jv9),(9,zI kv9),(36,zI (zaa.len:Int)),(37,zI zp5),(60,zB zp6)],[],[]⟩:=zaw (by kernel_rfl) (zc hs hk (fun hs hk=>((zed (Eq.mpr (congrArg K (congrArg (fun (g_:Nat→List PV)=>([.one (.sl 3 1 g_),.one (.int .i64 (0:Int))]:List PA)) (zex (enc:=zal) (x:=iv9) (y:=jv9) (r:=[kv9])))) hk)):Wk K [.one (.sl 3 1 (zdg [(zal iv9),(zal jv9),(zal kv9)])),.one (.int .i64 (0:Int))])) (fun hs hk=>(hX8 hs hk)))
def zwX (S6:Int→((Sl Int)×Int)) (S7:Int→Int→Int→((Sl Int)×Int)) (zaa:(Sl Gate)) (S8:Int→Int→Int→Int→((Sl Int)×Int)) (iv8:Int) (jv8:Int) (kv8:Int) (zek:Int):((Sl Int)×Int) :=
  (cond (decide (kv8 < (zaa.len : Int)))
 (zwV S6 S7 S8 zaa iv8 jv8 kv8 zek (!(s84 zaa (⟨3,zcN (zdg [(zal iv8),(zal jv8),(zal kv8)])⟩:(Sl Int)))))
 (S7 iv8 (w64 (jv8+(1:Int))) zek))
def zwY (P6:Int→Bool) (P7:Int→Int→Int→Bool) (zaa:(Sl Gate)) (P8:Int→Int→Int→Int→Bool) (iv8:Int) (jv8:Int) (kv8:Int) (zek:Int):Bool :=
  (cond (decide (kv8 < (zaa.len : Int)))
 (decide ((p84 zaa (⟨3,zcN (zdg [(zal iv8),(zal jv8),(zal kv8)])⟩:(Sl Int))=true)) &&
 (zwW P6 P7 P8 zaa iv8 jv8 kv8 zek (!(s84 zaa (⟨3,zcN (zdg [(zal iv8),(zal jv8),(zal kv8)])⟩:(Sl Int))))))
 (P7 iv8 (w64 (jv8+(1:Int))) zek))
def zwZ (S6:Int→((Sl Int)×Int)) (S7:Int→Int→Int→((Sl Int)×Int)) (zaa:(Sl Gate)):Nat→Int→Int→Int→Int→((Sl Int)×Int):=lpO (fun _ _ _ _=>default) (zwX S6 S7 zaa)
def zw0 (P6:Int→Bool) (P7:Int→Int→Int→Bool) (zaa:(Sl Gate)):Nat→Int→Int→Int→Int→Bool:=lpO (fun _ _ _ _=>false) (zwY P6 P7 zaa)
def zw1 (S6:Int→((Sl Int)×Int)) (S7:Int→Int→Int→((Sl Int)×Int)) (zaa:(Sl Gate)) (iv8:Int) (jv8:Int) (kv8:Int) (zek:Int):((Sl Int)×Int):=zwZ S6 S7 zaa Fuel iv8 jv8 kv8 zek
def zw2 (P6:Int→Bool) (P7:Int→Int→Int→Bool) (zaa:(Sl Gate)) (iv8:Int) (jv8:Int) (kv8:Int) (zek:Int):Bool:=zw0 P6 P7 zaa Fuel iv8 jv8 kv8 zek
theorem zFa (hX6:zwU K zaa X6 P6 S6) (hX7:zBk K zaa X7 P7 S7) (hs:zw2 P6 P7 zaa iv8 jv8 kv8 zek=true) (hk:K (e38 (zw1 S6 S7 zaa iv8 jv8 kv8 zek))):z38 (Wk K) [1,1,1,1,0,1,0,0,1,1,0,0,1,1,0,0,1,0,0,1,0] [X6,X7] (zCx zaa iv8 jv8 kv8 zek) :=
  zl (fun X=>z38 (Wk K) [1,1,1,1,0,1,0,0,1,1,0,0,1,1,0,0,1,0,0,1,0,0] [X6,X7,X]) (by kernel_rfl) fun X8 hX =>
  (show ∀ k, zE8 K zaa X8 (zw0 P6 P7 zaa k) (zwZ S6 S7 zaa k) from zeV _ _ (zwY P6 P7 zaa) (zwX S6 S7 zaa) (zE8 K zaa X8)
 (by intro _ _ _ _ hs;exact absurd hs Bool.false_ne_true)
 (by intro P8 S8 hX8 iv8 jv8 kv8 zek hs hk;exact hX _ (zaw (by kernel_rfl) (zc hs hk (fun hs hk=>(zau hs fun hc hs=>And.intro (And.intro (zE enc_55 3 zaa.get) (And.intro ((zfG [kv8]):IsE zal 1 1 (zdg [(zal iv8),(zal jv8),(zal kv8)])) hc)) (zE9 hX6 hX7 hX8 hs hk))) (fun hs hk=>(hX7 hs hk)))))) _ hs hk
def zw3 (S6:Int→((Sl Int)×Int)) (zaa:(Sl Gate)) (S7:Int→Int→Int→((Sl Int)×Int)) (iv7:Int) (jv7:Int) (zej:Int):((Sl Int)×Int) :=
  (cond (decide (jv7 < (zaa.len : Int)))
 (zw1 S6 S7 zaa iv7 jv7 (w64 (jv7+(1:Int))) zej)
 (S6 (w64 (zej+(1:Int)))))
def zw4 (P6:Int→Bool) (zaa:(Sl Gate)) (P7:Int→Int→Int→Bool) (iv7:Int) (jv7:Int) (zej:Int):Bool :=
  (cond (decide (jv7 < (zaa.len : Int)))
 (zw2 P6 P7 zaa iv7 jv7 (w64 (jv7+(1:Int))) zej)
 (P6 (w64 (zej+(1:Int)))))
def zw5 (S6:Int→((Sl Int)×Int)) (zaa:(Sl Gate)):Nat→Int→Int→Int→((Sl Int)×Int):=lpO (fun _ _ _=>default) (zw3 S6 zaa)
def zw6 (P6:Int→Bool) (zaa:(Sl Gate)):Nat→Int→Int→Int→Bool:=lpO (fun _ _ _=>false) (zw4 P6 zaa)
def zw7 (S6:Int→((Sl Int)×Int)) (zaa:(Sl Gate)) (iv7:Int) (jv7:Int) (zej:Int):((Sl Int)×Int):=zw5 S6 zaa Fuel iv7 jv7 zej
def zw8 (P6:Int→Bool) (zaa:(Sl Gate)) (iv7:Int) (jv7:Int) (zej:Int):Bool:=zw6 P6 zaa Fuel iv7 jv7 zej
theorem zFb (hX6:zwU K zaa X6 P6 S6) (hs:zw8 P6 zaa iv7 jv7 zej=true) (hk:K (e38 (zw7 S6 zaa iv7 jv7 zej))):z38 (Wk K) [1,1,1,1,0,1,0,0,1,1,0,0,1,1,0] [X6] (zCw zaa iv7 jv7 zej) :=
  zl (fun X=>z38 (Wk K) [1,1,1,1,0,1,0,0,1,1,0,0,1,1,0,0] [X6,X]) (by kernel_rfl) fun X7 hX =>
  (show ∀ k, zBk K zaa X7 (zw6 P6 zaa k) (zw5 S6 zaa k) from zeV _ _ (zw4 P6 zaa) (zw3 S6 zaa) (zBk K zaa X7)
 (by intro _ _ _ hs;exact absurd hs Bool.false_ne_true)
 (by intro P7 S7 hX7 iv7 jv7 zej hs hk;exact hX _ (zaw (by kernel_rfl) (zc hs hk (fun hs hk=>(zFa hX6 hX7 hs hk)) (fun hs hk=>(hX6 hs hk)))))) _ hs hk
def zw9 (zaa:(Sl Gate)) (S6:Int→((Sl Int)×Int)) (zdp:Int):((Sl Int)×Int) :=
  (cond (decide (zdp < (zaa.len : Int)))
 (zw7 S6 zaa zdp (w64 (zdp+(1:Int))) zdp)
 ((⟨0,fun _=>default⟩:(Sl Int)),(7:Int)))
def zxa (zaa:(Sl Gate)) (P6:Int→Bool) (zdp:Int):Bool :=
  (cond (decide (zdp < (zaa.len : Int)))
 (zw8 P6 zaa zdp (w64 (zdp+(1:Int))) zdp)
 true)
def zxb (zaa:(Sl Gate)):Nat→Int→((Sl Int)×Int):=lpO (fun _=>default) (zw9 zaa)
def zxc (zaa:(Sl Gate)):Nat→Int→Bool:=lpO (fun _=>false) (zxa zaa)
def zxd (zaa:(Sl Gate)) (zdp:Int):((Sl Int)×Int):=zxb zaa Fuel zdp
def zxe (zaa:(Sl Gate)) (zdp:Int):Bool:=zxc zaa Fuel zdp
theorem zFc (hs:zxe zaa zdp=true) (hk:K (e38 (zxd zaa zdp))):z38 (Wk K) [1,1,1,1,0,1,0] [] (zCv zaa zdp) :=
  zl (fun X=>z38 (Wk K) [1,1,1,1,0,1,0,0] [X]) (by kernel_rfl) fun X6 hX =>
  (show ∀ k, zwU K zaa X6 (zxc zaa k) (zxb zaa k) from zeV _ _ (zxa zaa) (zw9 zaa) (zwU K zaa X6)
 (by intro _ hs;exact absurd hs Bool.false_ne_true)
 (by intro P6 S6 hX6 zdp hs hk;exact hX _ (zaw (by kernel_rfl) (zc hs hk (fun hs hk=>(zFb hX6 hs hk)) (fun hs hk=>((wk hk (zc5 (.one (.nil _ _)) (zc5 (.one (.rfl _)) zhr))):Wk K [.one (.nils),.one (.int .i64 (7:Int))])))))) _ hs hk
def zxf (S2:Int→((Sl Int)×Int)) (S3:Int→Int→Int→((Sl Int)×Int)) (zaa:(Sl Gate)) (iv5:Int) (jv5:Int) (zp3:Int) (zp4:Bool):((Sl Int)×Int) :=
  (cond zp4
 ((⟨2,(zi3 iv5 [iv5,jv5])⟩:(Sl Int)),(0:Int))
 (S3 iv5 (w64 (jv5+(1:Int))) zp3))
def zxg (P2:Int→Bool) (P3:Int→Int→Int→Bool) (zaa:(Sl Gate)) (iv5:Int) (jv5:Int) (zp3:Int) (zp4:Bool):Bool :=
  (cond zp4
 true
 (P3 iv5 (w64 (jv5+(1:Int))) zp3))
theorem zFd (hX2:zBj K zaa X2 P2 S2) (hX3:zE7 K zaa X3 P3 S3) (hs:zxg P2 P3 zaa iv5 jv5 zp3 zp4=true) (hk:K (e38 (zxf S2 S3 zaa iv5 jv5 zp3 zp4))):z38 (Wk K) [1,1,1,0,1,0,0,1,1,0,0,1,1,0,0,1,0,0,1] [X2,X3] ⟨[(0,zS enc_55 3 zaa),(4,zI (zaa.len:Int)),(5,zI iv5),(6,zI jv5),(15,zI (zaa.len:Int)),(16,zI zp3),(31,zB zp4)],[],[]⟩:=zaw (by kernel_rfl) (zc hs hk (fun hs hk=>((zed (Eq.mpr (congrArg K (congrArg (fun (g_:Nat→List PV)=>([.one (.sl 2 1 g_),.one (.int .i64 (0:Int))]:List PA)) (zex (enc:=zal) (x:=iv5) (y:=jv5) (r:=[])))) hk)):Wk K [.one (.sl 2 1 (zdg [(zal iv5),(zal jv5)])),.one (.int .i64 (0:Int))])) (fun hs hk=>(hX3 hs hk)))
def zxh (zaa:(Sl Gate)):((Sl Int)×Int) :=
  (zxd zaa (0:Int))
def zxi (zaa:(Sl Gate)):Bool :=
  (zxe zaa (0:Int))
theorem zFe (hs:zxi zaa=true) (hk:K (e38 (zxh zaa))):z38 (Wk K) [1,1,1,1] [] ⟨[(0,zS enc_55 3 zaa),(4,zI (zaa.len:Int))],[],[]⟩:=zaw (by kernel_rfl) (zFc hs hk)
def zxj (S2:Int→((Sl Int)×Int)) (zaa:(Sl Gate)) (S3:Int→Int→Int→((Sl Int)×Int)) (iv3:Int) (jv3:Int) (zei:Int):((Sl Int)×Int) :=
  (cond (decide (jv3 < (zaa.len : Int)))
 (zxf S2 S3 zaa iv3 jv3 zei (!(s84 zaa (⟨2,zcN (zdg [(zal iv3),(zal jv3)])⟩:(Sl Int)))))
 (S2 (w64 (zei+(1:Int)))))
def zxk (P2:Int→Bool) (zaa:(Sl Gate)) (P3:Int→Int→Int→Bool) (iv3:Int) (jv3:Int) (zei:Int):Bool :=
  (cond (decide (jv3 < (zaa.len : Int)))
 (decide ((p84 zaa (⟨2,zcN (zdg [(zal iv3),(zal jv3)])⟩:(Sl Int))=true)) &&
 (zxg P2 P3 zaa iv3 jv3 zei (!(s84 zaa (⟨2,zcN (zdg [(zal iv3),(zal jv3)])⟩:(Sl Int))))))
 (P2 (w64 (zei+(1:Int)))))
def zxl (S2:Int→((Sl Int)×Int)) (zaa:(Sl Gate)):Nat→Int→Int→Int→((Sl Int)×Int):=lpO (fun _ _ _=>default) (zxj S2 zaa)
def zxm (P2:Int→Bool) (zaa:(Sl Gate)):Nat→Int→Int→Int→Bool:=lpO (fun _ _ _=>false) (zxk P2 zaa)
def zxn (S2:Int→((Sl Int)×Int)) (zaa:(Sl Gate)) (iv3:Int) (jv3:Int) (zei:Int):((Sl Int)×Int):=zxl S2 zaa Fuel iv3 jv3 zei
def zxo (P2:Int→Bool) (zaa:(Sl Gate)) (iv3:Int) (jv3:Int) (zei:Int):Bool:=zxm P2 zaa Fuel iv3 jv3 zei
theorem zFf (hX2:zBj K zaa X2 P2 S2) (hs:zxo P2 zaa iv3 jv3 zei=true) (hk:K (e38 (zxn S2 zaa iv3 jv3 zei))):z38 (Wk K) [1,1,1,0,1,0,0,1,1,0,0,1,1,0] [X2] (zCu zaa iv3 jv3 zei) :=
  zl (fun X=>z38 (Wk K) [1,1,1,0,1,0,0,1,1,0,0,1,1,0,0] [X2,X]) (by kernel_rfl) fun X3 hX =>
  (show ∀ k, zE7 K zaa X3 (zxm P2 zaa k) (zxl S2 zaa k) from zeV _ _ (zxk P2 zaa) (zxj S2 zaa) (zE7 K zaa X3)
 (by intro _ _ _ hs;exact absurd hs Bool.false_ne_true)
 (by intro P3 S3 hX3 iv3 jv3 zei hs hk;exact hX _ (zaw (by kernel_rfl) (zc hs hk (fun hs hk=>(zau hs fun hc hs=>And.intro (And.intro (zE enc_55 3 zaa.get) (And.intro ((zfG []):IsE zal 1 1 (zdg [(zal iv3),(zal jv3)])) hc)) (zFd hX2 hX3 hs hk))) (fun hs hk=>(hX2 hs hk)))))) _ hs hk
def zxp (zaa:(Sl Gate)) (S2:Int→((Sl Int)×Int)) (zdo:Int):((Sl Int)×Int) :=
  (cond (decide (zdo < (zaa.len : Int)))
 (zxn S2 zaa zdo (w64 (zdo+(1:Int))) zdo)
 (zxh zaa))
def zxq (zaa:(Sl Gate)) (P2:Int→Bool) (zdo:Int):Bool :=
  (cond (decide (zdo < (zaa.len : Int)))
 (zxo P2 zaa zdo (w64 (zdo+(1:Int))) zdo)
 (zxi zaa))
def zxr (zaa:(Sl Gate)):Nat→Int→((Sl Int)×Int):=lpO (fun _=>default) (zxp zaa)
def zxs (zaa:(Sl Gate)):Nat→Int→Bool:=lpO (fun _=>false) (zxq zaa)
def zxt (zaa:(Sl Gate)) (zdo:Int):((Sl Int)×Int):=zxr zaa Fuel zdo
def zxu (zaa:(Sl Gate)) (zdo:Int):Bool:=zxs zaa Fuel zdo
theorem zFg (hs:zxu zaa zdo=true) (hk:K (e38 (zxt zaa zdo))):z38 (Wk K) [1,1,1,0,1,0] [] (zCt zaa zdo) :=
  zl (fun X=>z38 (Wk K) [1,1,1,0,1,0,0] [X]) (by kernel_rfl) fun X2 hX =>
  (show ∀ k, zBj K zaa X2 (zxs zaa k) (zxr zaa k) from zeV _ _ (zxq zaa) (zxp zaa) (zBj K zaa X2)
 (by intro _ hs;exact absurd hs Bool.false_ne_true)
 (by intro P2 S2 hX2 zdo hs hk;exact hX _ (zaw (by kernel_rfl) (zc hs hk (fun hs hk=>(zFf hX2 hs hk)) (fun hs hk=>(zFe hs hk)))))) _ hs hk
def zxv (zaa:(Sl Gate)):((Sl Int)×Int) :=
  (zxt zaa (0:Int))
def zxw (zaa:(Sl Gate)):Bool :=
  (zxu zaa (0:Int))
theorem zFh (hs:zxw zaa=true) (hk:K (e38 (zxv zaa))):z38 (Wk K) [1,1] [] ⟨[(0,zS enc_55 3 zaa)],[],[]⟩:=zaw (by kernel_rfl) (zFg hs hk)
def zxx (zaa:(Sl Gate)) (zaJ:Bool):((Sl Int)×Int) :=
  (cond zaJ
 ((⟨0,fun _=>default⟩:(Sl Int)),(2:Int))
 (zxv zaa))
def zxy (zaa:(Sl Gate)) (zaJ:Bool):Bool :=
  (cond zaJ
 true
 (zxw zaa))
theorem zFi (hs:zxy zaa zaJ=true) (hk:K (e38 (zxx zaa zaJ))):z38 (Wk K) [1,0,1] [] ⟨[(0,zS enc_55 3 zaa),(12,zB zaJ)],[],[]⟩:=zaw (by kernel_rfl) (zc hs hk (fun hs hk=>((wk hk (zc5 (.one (.nil _ _)) (zc5 (.one (.rfl _)) zhr))):Wk K [.one (.nils),.one (.int .i64 (2:Int))])) (fun hs hk=>(zFh hs hk)))
def s38 (zaa:(Sl Gate)):((Sl Int)×Int) :=
  (zxx zaa (!(s64 zaa)))
def p38 (zaa:(Sl Gate)):Bool :=
  (decide ((p64 zaa=true)) &&
 (zxy zaa (!(s64 zaa))))
end
theorem q38 (zaa:(Sl Gate)) (K:List PA→Prop) (hs:p38 zaa=true) (hk:K (e38 (s38 zaa))):vcFun Try.prog G38 zE6 38 [.one (.sl zaa.len 3 (fun i=>enc_55 (zaa.get i)))] (Wk K) :=
  zaw (by kernel_rfl) (zau hs fun hc hs=>And.intro (And.intro (zE enc_55 3 zaa.get) hc) (zFi hs hk))
def zFj : List PA → COut
  | [.one (.sl a0_n a0_s a0_g)]=>.det (IsE enc_55 3 a0_s a0_g∧p38 (⟨a0_n,zad a0_g⟩:(Sl Gate))=true) [.one (.sl (((s38 (⟨a0_n,zad a0_g⟩:(Sl Gate))).1).len) 1 (fun i=>zal (((s38 (⟨a0_n,zad a0_g⟩:(Sl Gate))).1).get i))),.one (.int .i64 ((s38 (⟨a0_n,zad a0_g⟩:(Sl Gate))).2))]
  | _=>.no
theorem zJD:zaf Try.prog 38:=⟨_,rfl,rfl,by kernel_rfl⟩
theorem zPi:Ok Try.prog 38 zFj:=zhs zMs zJD fun args K h=>by
  unfold zFj at h
  split at h
  · rename_i a0_n a0_s a0_g
    obtain ⟨⟨⟨rfl,a0_f,rfl⟩,hs⟩,hk⟩:=h
    try rw [zac a0_f] at hs
    try rw [zac a0_f] at hk
    exact ⟨_,ze6 zf5 _,(fun _ _=>[]),(fun _=>false),zE6,q38 (⟨a0_n,a0_f⟩:(Sl Gate)) K hs hk⟩
  · exact h.elim
abbrev T39:Tabs:=Tabs.nil
theorem zMt:TabsOk Try.prog T39:=TabsOk.nil
abbrev G39:Ctrs:=csm T39 (fun _ _=>[]) (fun _=>false)
def zFk:Ann:=⟨46,[(0,zK [0,1] []),(1,zK [0,1,5] []),(2,zK [0,1,5,15] []),(3,zK [0,1,5] []),(4,zK [0,1,5,26] []),(5,zK [4] []),(6,zK [0,1,5,35] []),(7,zK [4] []),(8,zK [0,1,40] []),(9,zK [4] []),(10,zK [45] []),(11,zK [4] []),(12,zK [4] [])],
 [(2,zK [0,1,5] [])],
 [(8,zK [0,1] [])],
 [],[]⟩
abbrev R39:=Int
abbrev e39 (r:R39):List PA:=[.one (.int .i64 r)]
@[irreducible] def z39:=ptF Try.prog G39 zFk Try.f39
def zCy (a:(Sl Int)) (b:(Sl Int)) (iv0:Int):St:=⟨[(0,zS zal 1 a),(1,zS zal 1 b),(5,zI iv0)],[],[]⟩
abbrev zJE (K:List PA→Prop) (a:(Sl Int)) (b:(Sl Int)) (X:St→Prop) (P:Int→Bool) (S:Int→Int):Prop:=∀ ⦃iv0:Int⦄,P iv0=true→K (e39 (S iv0))→X (zCy a b iv0)
section
variable {K:List PA→Prop} {a:(Sl Int)} {b:(Sl Int)} {iv0:Int} {X0:St→Prop} {P0:Int→Bool} {S0:Int→Int}
def zp7 (a:(Sl Int)) (b:(Sl Int)):Int :=
  (cond (decide ((a.len : Int) < (b.len : Int)))
 (-1:Int)
 (cond (decide ((a.len : Int) > (b.len : Int)))
 (1:Int)
 (0:Int)))
theorem zxz (hk:K (e39 (zp7 a b))):z39 K [1,1] [] ⟨[(0,zS zal 1 a),(1,zS zal 1 b)],[],[]⟩:=zaw (by kernel_rfl) (zt hk (fun hk=>hk) (fun hk=>(zt hk (fun hk=>hk) (fun hk=>hk))))
def zxA (a:(Sl Int)) (b:(Sl Int)) (S0:Int→Int) (iv0:Int):Int :=
  (cond (decide (iv0 < (a.len : Int)))
 (cond (decide (iv0 < (b.len : Int)))
 (cond (decide ((a.get iv0.toNat) < (b.get iv0.toNat)))
 (-1:Int)
 (cond (decide ((a.get iv0.toNat) > (b.get iv0.toNat)))
 (1:Int)
 (S0 (w64 (iv0+(1:Int))))))
 (zp7 a b))
 (zp7 a b))
def zxB (a:(Sl Int)) (b:(Sl Int)) (P0:Int→Bool) (iv0:Int):Bool :=
  (cond (decide (iv0 < (a.len : Int)))
 (cond (decide (iv0 < (b.len : Int)))
 (decide ((0≤iv0∧iv0 < (a.len:Int))) &&
 (decide ((0≤iv0∧iv0 < (b.len:Int))) &&
 (cond (decide ((a.get iv0.toNat) < (b.get iv0.toNat)))
 true
 (decide ((0≤iv0∧iv0 < (a.len:Int))) &&
 (decide ((0≤iv0∧iv0 < (b.len:Int))) &&
 (cond (decide ((a.get iv0.toNat) > (b.get iv0.toNat)))
 true
 (P0 (w64 (iv0+(1:Int))))))))))
 true)
 true)
def zxC (a:(Sl Int)) (b:(Sl Int)):Nat→Int→Int:=lpO (fun _=>default) (zxA a b)
def zxD (a:(Sl Int)) (b:(Sl Int)):Nat→Int→Bool:=lpO (fun _=>false) (zxB a b)
def zxE (a:(Sl Int)) (b:(Sl Int)) (iv0:Int):Int:=zxC a b Fuel iv0
def zxF (a:(Sl Int)) (b:(Sl Int)) (iv0:Int):Bool:=zxD a b Fuel iv0
theorem zFl (hs:zxF a b iv0=true) (hk:K (e39 (zxE a b iv0))):z39 K [1,0,1,0] [] (zCy a b iv0) :=
  zl (fun X=>z39 K [1,0,1,0,0] [X]) (by kernel_rfl) fun X0 hX =>
  (show ∀ k, zJE K a b X0 (zxD a b k) (zxC a b k) from zeV _ _ (zxB a b) (zxA a b) (zJE K a b X0)
 (by intro _ hs;exact absurd hs Bool.false_ne_true)
 (by intro P0 S0 hX0 iv0 hs hk;exact hX _ (zaw (by kernel_rfl) (zc hs hk (fun hs hk=>(zc hs hk (fun hs hk=>(zau hs fun hc hs=>And.intro hc (zau hs fun hc hs=>And.intro hc (zc hs hk (fun hs hk=>hk) (fun hs hk=>(zau hs fun hc hs=>And.intro hc (zau hs fun hc hs=>And.intro hc (zc hs hk (fun hs hk=>hk) (fun hs hk=>(hX0 hs hk)))))))))) (fun hs hk=>(zxz hk)))) (fun hs hk=>(zxz hk)))))) _ hs hk
def s39 (a:(Sl Int)) (b:(Sl Int)):Int :=
  (zxE a b (0:Int))
def p39 (a:(Sl Int)) (b:(Sl Int)):Bool :=
  (zxF a b (0:Int))
end
theorem q39 (a:(Sl Int)) (b:(Sl Int)) (K:List PA→Prop) (hs:p39 a b=true) (hk:K (e39 (s39 a b))):vcFun Try.prog G39 zFk 39 [.one (.sl a.len 1 (fun i=>zal (a.get i))),.one (.sl b.len 1 (fun i=>zal (b.get i)))] K :=
  zaw (by kernel_rfl) (zFl hs hk)
def zFm : List PA → COut
  | [.one (.sl a0_n a0_s a0_g),.one (.sl a1_n a1_s a1_g)]=>.det (IsE zal 1 a0_s a0_g∧IsE zal 1 a1_s a1_g∧p39 (⟨a0_n,zcN a0_g⟩:(Sl Int)) (⟨a1_n,zcN a1_g⟩:(Sl Int))=true) [.one (.int .i64 (s39 (⟨a0_n,zcN a0_g⟩:(Sl Int)) (⟨a1_n,zcN a1_g⟩:(Sl Int))))]
  | _=>.no
theorem zJF:zaf Try.prog 39:=⟨_,rfl,rfl,by kernel_rfl⟩
theorem zPj:Ok Try.prog 39 zFm:=zay zMt zJF fun args K h=>by
  unfold zFm at h
  split at h
  · rename_i a0_n a0_s a0_g a1_n a1_s a1_g
    obtain ⟨⟨⟨rfl,a0_f,rfl⟩,⟨rfl,a1_f,rfl⟩,hs⟩,hk⟩:=h
    try rw [zdv a0_f] at hs
    try rw [zdv a0_f] at hk
    try rw [zdv a1_f] at hs
    try rw [zdv a1_f] at hk
    exact ⟨(fun _ _=>[]),(fun _=>false),zFk,q39 (⟨a0_n,a0_f⟩:(Sl Int)) (⟨a1_n,a1_f⟩:(Sl Int)) K hs hk⟩
  · exact h.elim
abbrev T73:Tabs:=Tabs.nil
theorem zMu:TabsOk Try.prog T73:=TabsOk.nil
abbrev G73:Ctrs:=csm T73 (fun _ _=>[]) (fun _=>false)
def zFn:Ann:=⟨12,[(0,zK [0,1] []),(1,zK [0,1,6] []),(2,zK [0,1] []),(3,zK [4] [])],
 [(1,zK [0,1] [])],
 [],
 [],[]⟩
abbrev R73:=Int
abbrev e73 (r:R73):List PA:=[.one (.int .i64 r)]
@[irreducible] def z73:=ptF Try.prog G73 zFn Try.f73
def zCz (av0:Int) (bv0:Int):St:=⟨[(0,zI av0),(1,zI bv0)],[],[]⟩
abbrev zJG (K:List PA→Prop) (X:St→Prop) (P:Int→Int→Bool) (S:Int→Int→Int):Prop:=∀ ⦃av0:Int⦄ ⦃bv0:Int⦄,P av0 bv0=true→K (e73 (S av0 bv0))→X (zCz av0 bv0)
section
variable {K:List PA→Prop} {a:Int} {b:Int} {av0:Int} {bv0:Int} {X0:St→Prop} {P0:Int→Int→Bool} {S0:Int→Int→Int}
def zmp (S0:Int→Int→Int) (av0:Int) (bv0:Int):Int :=
  (cond (bv0 != (0:Int))
 (S0 bv0 (av0.tmod bv0))
 av0)
def zmq (P0:Int→Int→Bool) (av0:Int) (bv0:Int):Bool :=
  (cond (bv0 != (0:Int))
 (decide ((bv0 ≠ 0)) &&
 (P0 bv0 (av0.tmod bv0)))
 true)
def zmr:Nat→Int→Int→Int:=lpO (fun _ _=>default) (zmp)
def zms:Nat→Int→Int→Bool:=lpO (fun _ _=>false) (zmq)
def zxG (av0:Int) (bv0:Int):Int:=zmr Fuel av0 bv0
def zxH (av0:Int) (bv0:Int):Bool:=zms Fuel av0 bv0
theorem zFo (hs:zxH av0 bv0=true) (hk:K (e73 (zxG av0 bv0))):z73 K [1,0,0] [] (zCz av0 bv0) :=
  zl (fun X=>z73 K [1,0,0,0] [X]) (by kernel_rfl) fun X0 hX =>
  (show ∀ k, zJG K X0 (zms k) (zmr k) from zeV _ _ (zmq) (zmp) (zJG K X0)
 (by intro _ _ hs;exact absurd hs Bool.false_ne_true)
 (by intro P0 S0 hX0 av0 bv0 hs hk;exact hX _ (zaw (by kernel_rfl) (zc hs hk (fun hs hk=>(zau hs fun hc hs=>And.intro hc (hX0 hs hk))) (fun hs hk=>hk))))) _ hs hk
def s73 (a:Int) (b:Int):Int :=
  (zxG a b)
def p73 (a:Int) (b:Int):Bool :=
  (zxH a b)
end
theorem q73 (a:Int) (b:Int) (K:List PA→Prop) (hs:p73 a b=true) (hk:K (e73 (s73 a b))):vcFun Try.prog G73 zFn 73 [.one (.int .i64 a),.one (.int .i64 b)] K :=
  zaw (by kernel_rfl) (zFo hs hk)
def zBl : List PA → COut
  | [.one (.int .i64 a0),.one (.int .i64 a1)]=>.det (p73 a0 a1=true) [.one (.int .i64 (s73 a0 a1))]
  | _=>.no
theorem zJH:zaf Try.prog 73:=⟨_,rfl,rfl,by kernel_rfl⟩
theorem zNJ:Ok Try.prog 73 zBl:=zay zMu zJH fun args K h=>by
  unfold zBl at h
  split at h
  · rename_i a0 a1
    obtain ⟨hs,hk⟩:=h
    exact ⟨(fun _ _=>[]),(fun _=>false),zFn,q73 a0 a1 K hs hk⟩
  · exact h.elim
abbrev T40:Tabs:=(Tabs.nil.addF 73 zBl)
theorem zMv:TabsOk Try.prog T40:=(TabsOk.nil.addF zNJ)
abbrev G40:Ctrs:=csm T40 (fun _ _=>[]) (fun _=>false)
def zJI:Ann:=⟨19,[(0,zK [0,1,4] [4]),(1,zK [0,1,4,5] [4]),(2,zK [4] [4])],
 [],
 [],
 [],[]⟩
abbrev R40:=Frac
abbrev e40 (r:R40):List PA:=[.agg [.int .i64 r.Num,.int .i64 r.Den]]
section
variable {K:List PA→Prop} {num:Int} {den:Int}
def s40 (num:Int) (den:Int):Frac :=
  (⟨(w64 (num.tdiv (s73 (if (w64 (0 - num)) > num then (w64 (0 - num)) else num) den))),(w64 (den.tdiv (s73 (if (w64 (0 - num)) > num then (w64 (0 - num)) else num) den)))⟩:Frac)
def p40 (num:Int) (den:Int):Bool :=
  (decide ((p73 (if (w64 (0 - num)) > num then (w64 (0 - num)) else num) den=true)) &&
 (decide (((s73 (if (w64 (0 - num)) > num then (w64 (0 - num)) else num) den) ≠ 0)) &&
 (decide (((s73 (if (w64 (0 - num)) > num then (w64 (0 - num)) else num) den) ≠ 0)) &&
 true)))
end
theorem q40 (num:Int) (den:Int) (K:List PA→Prop) (hs:p40 num den=true) (hk:K (e40 (s40 num den))):vcFun Try.prog G40 zJI 40 [.one (.int .i64 num),.one (.int .i64 den)] K :=
  zaw (by kernel_rfl) (zau hs fun hc hs=>And.intro hc (zau hs fun hc hs=>And.intro hc (zau hs fun hc hs=>And.intro hc hk)))
def zp8 : List PA → COut
  | [.one (.int .i64 a0),.one (.int .i64 a1)]=>.det (p40 a0 a1=true) [.agg [.int .i64 ((s40 a0 a1).Num),.int .i64 ((s40 a0 a1).Den)]]
  | _=>.no
theorem zJJ:zaf Try.prog 40:=⟨_,rfl,rfl,by kernel_rfl⟩
theorem zJK:Ok Try.prog 40 zp8:=zay zMv zJJ fun args K h=>by
  unfold zp8 at h
  split at h
  · rename_i a0 a1
    obtain ⟨hs,hk⟩:=h
    exact ⟨(fun _ _=>[]),(fun _=>false),zJI,q40 a0 a1 K hs hk⟩
  · exact h.elim
abbrev T85:Tabs:=Tabs.nil
theorem zMw:TabsOk Try.prog T85:=TabsOk.nil
abbrev G85:Ctrs:=csm T85 (fun _ _=>[]) (fun _=>false)
def zJL:Ann:=⟨47,[(0,zK [0,1,2,3,4,5] []),(1,zK [0,1,2,13] []),(2,zK [13,14] []),(3,zK [12] [])],
 [],
 [],
 [],[]⟩
abbrev R85:=Int
abbrev e85 (r:R85):List PA:=[.one (.int .i64 r)]
section
variable {K:List PA→Prop} {u:Int} {v:Int} {w:Int} {p:Int} {q:Int} {r_a5:Int}
def s85 (u:Int) (v:Int) (w:Int) (p:Int) (q:Int) (r_a5:Int):Int :=
  (w64 ((w64 ((w64 ((w64 ((1000:Int) * (if (w64 (0 - (w64 ((w64 ((w64 (r_a5 - q)) * (w64 (v - u)))) - (w64 ((w64 (q - p)) * (w64 (w - v)))))))) > (w64 ((w64 ((w64 (r_a5 - q)) * (w64 (v - u)))) - (w64 ((w64 (q - p)) * (w64 (w - v)))))) then (w64 (0 - (w64 ((w64 ((w64 (r_a5 - q)) * (w64 (v - u)))) - (w64 ((w64 (q - p)) * (w64 (w - v)))))))) else (w64 ((w64 ((w64 (r_a5 - q)) * (w64 (v - u)))) - (w64 ((w64 (q - p)) * (w64 (w - v)))))))))+(w64 ((w64 (v - u)) * (w64 (w - v)))))) - (1:Int))).tdiv (w64 ((w64 (v - u)) * (w64 (w - v))))))
def p85 (u:Int) (v:Int) (w:Int) (p:Int) (q:Int) (r_a5:Int):Bool :=
  (decide (((w64 ((w64 (v - u)) * (w64 (w - v)))) ≠ 0)) &&
 true)
end
theorem q85 (u:Int) (v:Int) (w:Int) (p:Int) (q:Int) (r_a5:Int) (K:List PA→Prop) (hs:p85 u v w p q r_a5=true) (hk:K (e85 (s85 u v w p q r_a5))):vcFun Try.prog G85 zJL 85 [.one (.int .i64 u),.one (.int .i64 v),.one (.int .i64 w),.one (.int .i64 p),.one (.int .i64 q),.one (.int .i64 r_a5)] K :=
  zaw (by kernel_rfl) (zau hs fun hc hs=>And.intro hc hk)
def zBm : List PA → COut
  | [.one (.int .i64 a0),.one (.int .i64 a1),.one (.int .i64 a2),.one (.int .i64 a3),.one (.int .i64 a4),.one (.int .i64 a5)]=>.det (p85 a0 a1 a2 a3 a4 a5=true) [.one (.int .i64 (s85 a0 a1 a2 a3 a4 a5))]
  | _=>.no
theorem zJM:zaf Try.prog 85:=⟨_,rfl,rfl,by kernel_rfl⟩
theorem zNK:Ok Try.prog 85 zBm:=zay zMw zJM fun args K h=>by
  unfold zBm at h
  split at h
  · rename_i a0 a1 a2 a3 a4 a5
    obtain ⟨hs,hk⟩:=h
    exact ⟨(fun _ _=>[]),(fun _=>false),zJL,q85 a0 a1 a2 a3 a4 a5 K hs hk⟩
  · exact h.elim
abbrev T92:Tabs:=((Tabs.nil.addF 64 ztC).addF 74 zpk)
theorem zMx:TabsOk Try.prog T92:=((TabsOk.nil.addF zK6).addF zIs)
abbrev G92:Ctrs:=csm T92 (fun _ _=>[]) (fun _=>false)
def zFp:Ann:=⟨41,[(0,zK [0] []),(1,zK [0,5,6,7] []),(2,zK [0,5,6,7,8] []),(3,zK [0,3,4,5,6,7] [4]),(4,zK [0,5,6,7,32] []),(5,zK [2] []),(6,zK [0,5,6,7] []),(7,zK [2] [])],
 [(2,zK [0,5,6,7] [])],
 [],
 [],[]⟩
abbrev R92:=Bool
abbrev e92 (r:R92):List PA:=[.one (.bool r)]
@[irreducible] def z92:=ptF Try.prog G92 zFp Try.f92
def zCA (zaa:(Sl Gate)) (zaW:Int):St:=⟨[(0,zS enc_55 3 zaa),(5,zS enc_55 3 zaa),(6,zI (zaa.len:Int)),(7,zI zaW)],[],[]⟩
abbrev zJN (K:List PA→Prop) (zaa:(Sl Gate)) (X:St→Prop) (P:Int→Bool) (S:Int→Bool):Prop:=∀ ⦃zaW:Int⦄,P zaW=true→K (e92 (S zaW))→X (zCA zaa zaW)
section
variable {K:List PA→Prop} {zaa:(Sl Gate)} {zaW:Int} {X0:St→Prop} {P0:Int→Bool} {S0:Int→Bool}
def zxI (zaa:(Sl Gate)) (S0:Int→Bool) (zaW:Int):Bool :=
  (cond (decide (zaW < (zaa.len : Int)))
 (cond (decide ((w64 ((zaa.get zaW.toNat).High - (zaa.get zaW.toNat).Low)) > (60:Int)))
 false
 (cond (decide (zaW > (0:Int)))
 (cond (decide ((zaa.get zaW.toNat).Z ≤ (zaa.get ((w64 (zaW - (1:Int))).toNat)).Z))
 false
 (S0 (w64 (zaW+(1:Int)))))
 (S0 (w64 (zaW+(1:Int))))))
 (cond (s74 (zaa.len : Int) (2:Int) (8:Int))
 (s64 zaa)
 false))
def zxJ (zaa:(Sl Gate)) (P0:Int→Bool) (zaW:Int):Bool :=
  (cond (decide (zaW < (zaa.len : Int)))
 (decide ((0≤zaW∧zaW < (zaa.len:Int))) &&
 (cond (decide ((w64 ((zaa.get zaW.toNat).High - (zaa.get zaW.toNat).Low)) > (60:Int)))
 true
 (cond (decide (zaW > (0:Int)))
 (decide ((0≤(w64 (zaW - (1:Int)))∧(w64 (zaW - (1:Int))) < (zaa.len:Int))) &&
 (cond (decide ((zaa.get zaW.toNat).Z ≤ (zaa.get ((w64 (zaW - (1:Int))).toNat)).Z))
 true
 (P0 (w64 (zaW+(1:Int))))))
 (P0 (w64 (zaW+(1:Int)))))))
 (cond (s74 (zaa.len : Int) (2:Int) (8:Int))
 (decide ((p64 zaa=true)) &&
 true)
 true))
def zxK (zaa:(Sl Gate)):Nat→Int→Bool:=lpO (fun _=>default) (zxI zaa)
def zxL (zaa:(Sl Gate)):Nat→Int→Bool:=lpO (fun _=>false) (zxJ zaa)
def zxM (zaa:(Sl Gate)) (zaW:Int):Bool:=zxK zaa Fuel zaW
def zxN (zaa:(Sl Gate)) (zaW:Int):Bool:=zxL zaa Fuel zaW
theorem zFq (hs:zxN zaa zaW=true) (hk:K (e92 (zxM zaa zaW))):z92 K [1,0,1,0] [] (zCA zaa zaW) :=
  zl (fun X=>z92 K [1,0,1,0,0] [X]) (by kernel_rfl) fun X0 hX =>
  (show ∀ k, zJN K zaa X0 (zxL zaa k) (zxK zaa k) from zeV _ _ (zxJ zaa) (zxI zaa) (zJN K zaa X0)
 (by intro _ hs;exact absurd hs Bool.false_ne_true)
 (by intro P0 S0 hX0 zaW hs hk;exact hX _ (zaw (by kernel_rfl) (zc hs hk (fun hs hk=>(zau hs fun hc hs=>And.intro hc (zc hs hk (fun hs hk=>hk) (fun hs hk=>(zc hs hk (fun hs hk=>(zau hs fun hc hs=>And.intro hc (zc hs hk (fun hs hk=>hk) (fun hs hk=>(hX0 hs hk))))) (fun hs hk=>(hX0 hs hk))))))) (fun hs hk=>(zc hs hk (fun hs hk=>(zau hs fun hc hs=>And.intro (And.intro (zE enc_55 3 zaa.get) hc) hk)) (fun hs hk=>hk))))))) _ hs hk
def s92 (zaa:(Sl Gate)):Bool :=
  (zxM zaa (0:Int))
def p92 (zaa:(Sl Gate)):Bool :=
  (zxN zaa (0:Int))
end
theorem q92 (zaa:(Sl Gate)) (K:List PA→Prop) (hs:p92 zaa=true) (hk:K (e92 (s92 zaa))):vcFun Try.prog G92 zFp 92 [.one (.sl zaa.len 3 (fun i=>enc_55 (zaa.get i)))] K :=
  zaw (by kernel_rfl) (zFq hs hk)
def zFr : List PA → COut
  | [.one (.sl a0_n a0_s a0_g)]=>.det (IsE enc_55 3 a0_s a0_g∧p92 (⟨a0_n,zad a0_g⟩:(Sl Gate))=true) [.one (.bool (s92 (⟨a0_n,zad a0_g⟩:(Sl Gate))))]
  | _=>.no
theorem zJO:zaf Try.prog 92:=⟨_,rfl,rfl,by kernel_rfl⟩
theorem zPk:Ok Try.prog 92 zFr:=zay zMx zJO fun args K h=>by
  unfold zFr at h
  split at h
  · rename_i a0_n a0_s a0_g
    obtain ⟨⟨⟨rfl,a0_f,rfl⟩,hs⟩,hk⟩:=h
    try rw [zac a0_f] at hs
    try rw [zac a0_f] at hk
    exact ⟨(fun _ _=>[]),(fun _=>false),zFp,q92 (⟨a0_n,a0_f⟩:(Sl Gate)) K hs hk⟩
  · exact h.elim
abbrev T93:Tabs:=(Tabs.nil.addF 85 zBm)
theorem zMy:TabsOk Try.prog T93:=(TabsOk.nil.addF zNK)
abbrev G93:Ctrs:=csm T93 (fun _ _=>[]) (fun l=>Nat.beq l 15 || Nat.beq l 24)
def zFs:Ann:=⟨131,[(0,zK [0] []),(1,zK [0,3] []),(2,zK [0,3,4] [15]),(3,zK [0,3,4,5] [15]),(4,zK [0,3,4,5,19] [15]),(5,zK [0,3,4,5] [15]),(6,zK [0,3,4,5] [15]),(7,zK [0,3,4,5,6] [15]),(8,zK [0,3,4,5,6,37] [15]),(9,zK [0,3,4,5,6] [15]),(10,zK [0,3,4,5,6,7] [15]),(11,zK [0,3,4,5,6,7,53] [15]),(12,zK [0,3,4,5,6,7] [15]),(13,zK [0,3,4,5,6,7,59] [15]),(14,zK [0,3,4,5,6,7] [15]),(15,zK [0,3,4,5,6,7,8] [15]),(16,zK [0,3,4,5,6,7,8,9] [15]),(17,zK [0,3,4,5,6,7,8,9,80] [15]),(18,zK [0,3,4,5,6,7,8,9] [15]),(19,zK [0,3,4,5,6,7,8,9,10] [15]),(20,zK [0,3,4,5,6,7,8,9,10,120] [15]),(21,zK [0,3,4,5,6,7,8,9] [15]),(22,zK [0,3,4,5,6,7] [15]),(23,zK [2] [15])],
 [(4,zK [0,3,4,5] [15]),(8,zK [0,3,4,5,6] [15]),(11,zK [0,3,4,5,6,7] [15]),(17,zK [0,3,4,5,6,7,8,9] [15])],
 [(15,zK [0,3,4,5,6,7] [15]),(20,zK [0,3,4,5,6,7,8,9,10] [15])],
 [],[]⟩
abbrev R93:=(Sl Mp)
abbrev e93 (r:R93):List PA:=[.one (.sl r.len 1 (fun i=>zcA (r.get i)))]
@[irreducible] def z93:=ptF Try.prog G93 zFs Try.f93
def zCB (zaa:(Sl Gate)) (iv0:Int) (zbC:Nat) (zbt:(Nat→Bool)) (zbu:(Nat→Nat)) (zbR:(Nat→List Int→Option (List Int))):St:=⟨[(0,zS enc_55 3 zaa),(3,zI (zaa.len:Int)),(4,zv 15),(5,zI iv0)],[(15,.vm 129 8 131 3 (true,2,false,[some .i64]) zbC zbt zbu zbR)],[]⟩
abbrev zp9 (K:List PA→Prop) (zaa:(Sl Gate)) (X:St→Prop) (P:Int→Nat→(Nat→Bool)→(Nat→Nat)→(Nat→List Int→Option (List Int))→Bool) (S:Int→Nat→(Nat→Bool)→(Nat→Nat)→(Nat→List Int→Option (List Int))→(Sl Mp)):Prop:=∀ ⦃iv0:Int⦄ ⦃zbC:Nat⦄ ⦃zbt:(Nat→Bool)⦄ ⦃zbu:(Nat→Nat)⦄ ⦃zbR:(Nat→List Int→Option (List Int))⦄,P iv0 zbC zbt zbu zbR=true→K (e93 (S iv0 zbC zbt zbu zbR))→X (zCB zaa iv0 zbC zbt zbu zbR)
def zCC (zaa:(Sl Gate)) (iv1:Int) (pv1:Int) (zbJ:Nat) (zbm:(Nat→Bool)) (zbn:(Nat→Nat)) (zbK:(Nat→List Int→Option (List Int))):St:=⟨[(0,zS enc_55 3 zaa),(3,zI (zaa.len:Int)),(4,zv 15),(5,zI iv1),(6,zI pv1)],[(15,.vm 129 8 131 3 (true,2,false,[some .i64]) zbJ zbm zbn zbK)],[]⟩
abbrev ztH (K:List PA→Prop) (zaa:(Sl Gate)) (X:St→Prop) (P:Int→Int→Nat→(Nat→Bool)→(Nat→Nat)→(Nat→List Int→Option (List Int))→Bool) (S:Int→Int→Nat→(Nat→Bool)→(Nat→Nat)→(Nat→List Int→Option (List Int))→(Sl Mp)):Prop:=∀ ⦃iv1:Int⦄ ⦃pv1:Int⦄ ⦃zbJ:Nat⦄ ⦃zbm:(Nat→Bool)⦄ ⦃zbn:(Nat→Nat)⦄ ⦃zbK:(Nat→List Int→Option (List Int))⦄,P iv1 pv1 zbJ zbm zbn zbK=true→K (e93 (S iv1 pv1 zbJ zbm zbn zbK))→X (zCC zaa iv1 pv1 zbJ zbm zbn zbK)
def zCD (zaa:(Sl Gate)) (iv2:Int) (pv2:Int) (qv2:Int) (zbo:Nat) (za4:(Nat→Bool)) (zaX:(Nat→Nat)) (zbg:(Nat→List Int→Option (List Int))):St:=⟨[(0,zS enc_55 3 zaa),(3,zI (zaa.len:Int)),(4,zv 15),(5,zI iv2),(6,zI pv2),(7,zI qv2)],[(15,.vm 129 8 131 3 (true,2,false,[some .i64]) zbo za4 zaX zbg)],[]⟩
abbrev zxO (K:List PA→Prop) (zaa:(Sl Gate)) (X:St→Prop) (P:Int→Int→Int→Nat→(Nat→Bool)→(Nat→Nat)→(Nat→List Int→Option (List Int))→Bool) (S:Int→Int→Int→Nat→(Nat→Bool)→(Nat→Nat)→(Nat→List Int→Option (List Int))→(Sl Mp)):Prop:=∀ ⦃iv2:Int⦄ ⦃pv2:Int⦄ ⦃qv2:Int⦄ ⦃zbo:Nat⦄ ⦃za4:(Nat→Bool)⦄ ⦃zaX:(Nat→Nat)⦄ ⦃zbg:(Nat→List Int→Option (List Int))⦄,P iv2 pv2 qv2 zbo za4 zaX zbg=true→K (e93 (S iv2 pv2 qv2 zbo za4 zaX zbg))→X (zCD zaa iv2 pv2 qv2 zbo za4 zaX zbg)
def zCE (zaa:(Sl Gate)) (qv3:Int) (iv4:Int) (pv4:Int) (zct:Int) (rv4:Int) (zbh:Nat) (za8:(Nat→Bool)) (za9:(Nat→Nat)) (za7:(Nat→List Int→Option (List Int))):St:=⟨[(0,zS enc_55 3 zaa),(3,zI (zaa.len:Int)),(4,zv 15),(5,zI iv4),(6,zI pv4),(7,zI qv3),(8,zI zct),(9,zI rv4)],[(15,.vm 129 8 131 3 (true,2,false,[some .i64]) zbh za8 za9 za7)],[]⟩
abbrev zFt (K:List PA→Prop) (zaa:(Sl Gate)) (qv3:Int) (X:St→Prop) (P:Int→Int→Int→Int→Nat→(Nat→Bool)→(Nat→Nat)→(Nat→List Int→Option (List Int))→Bool) (S:Int→Int→Int→Int→Nat→(Nat→Bool)→(Nat→Nat)→(Nat→List Int→Option (List Int))→(Sl Mp)):Prop:=∀ ⦃iv4:Int⦄ ⦃pv4:Int⦄ ⦃zct:Int⦄ ⦃rv4:Int⦄ ⦃zbh:Nat⦄ ⦃za8:(Nat→Bool)⦄ ⦃za9:(Nat→Nat)⦄ ⦃za7:(Nat→List Int→Option (List Int))⦄,P iv4 pv4 zct rv4 zbh za8 za9 za7=true→K (e93 (S iv4 pv4 zct rv4 zbh za8 za9 za7))→X (zCE zaa qv3 iv4 pv4 zct rv4 zbh za8 za9 za7)
section
variable {K:List PA→Prop} {zaa:(Sl Gate)} {iv0:Int} {zbC:Nat} {zbt:(Nat→Bool)} {zbu:(Nat→Nat)} {zbR:(Nat→List Int→Option (List Int))} {X0:St→Prop} {P0:Int→Nat→(Nat→Bool)→(Nat→Nat)→(Nat→List Int→Option (List Int))→Bool} {S0:Int→Nat→(Nat→Bool)→(Nat→Nat)→(Nat→List Int→Option (List Int))→(Sl Mp)} {iv1:Int} {pv1:Int} {zbJ:Nat} {zbm:(Nat→Bool)} {zbn:(Nat→Nat)} {zbK:(Nat→List Int→Option (List Int))} {X1:St→Prop} {P1:Int→Int→Nat→(Nat→Bool)→(Nat→Nat)→(Nat→List Int→Option (List Int))→Bool} {S1:Int→Int→Nat→(Nat→Bool)→(Nat→Nat)→(Nat→List Int→Option (List Int))→(Sl Mp)} {iv2:Int} {pv2:Int} {qv2:Int} {zbo:Nat} {za4:(Nat→Bool)} {zaX:(Nat→Nat)} {zbg:(Nat→List Int→Option (List Int))} {X2:St→Prop} {P2:Int→Int→Int→Nat→(Nat→Bool)→(Nat→Nat)→(Nat→List Int→Option (List Int))→Bool} {S2:Int→Int→Int→Nat→(Nat→Bool)→(Nat→Nat)→(Nat→List Int→Option (List Int))→(Sl Mp)} {iv3:Int} {pv3:Int} {qv3:Int} {zgx:Nat} {zeH:(Nat→Bool)} {zeI:(Nat→Nat)} {zgy:(Nat→List Int→Option (List Int))} {iv4:Int} {pv4:Int} {zct:Int} {rv4:Int} {zbh:Nat} {za8:(Nat→Bool)} {za9:(Nat→Nat)} {za7:(Nat→List Int→Option (List Int))} {X4:St→Prop} {P4:Int→Int→Int→Int→Nat→(Nat→Bool)→(Nat→Nat)→(Nat→List Int→Option (List Int))→Bool} {S4:Int→Int→Int→Int→Nat→(Nat→Bool)→(Nat→Nat)→(Nat→List Int→Option (List Int))→(Sl Mp)} {iv5:Int} {pv5:Int} {zfm:Int} {rv5:Int} {kv5:Int} {zdI:Nat} {zcE:(Nat→Bool)} {zcF:(Nat→Nat)} {zdJ:(Nat→List Int→Option (List Int))}
def zxP (S0:Int→Nat→(Nat→Bool)→(Nat→Nat)→(Nat→List Int→Option (List Int))→(Sl Mp)) (S1:Int→Int→Nat→(Nat→Bool)→(Nat→Nat)→(Nat→List Int→Option (List Int))→(Sl Mp)) (S2:Int→Int→Int→Nat→(Nat→Bool)→(Nat→Nat)→(Nat→List Int→Option (List Int))→(Sl Mp)) (S4:Int→Int→Int→Int→Nat→(Nat→Bool)→(Nat→Nat)→(Nat→List Int→Option (List Int))→(Sl Mp)) (zaa:(Sl Gate)) (qv3:Int) (iv5:Int) (pv5:Int) (zfm:Int) (rv5:Int) (kv5:Int) (zdI:Nat) (zcE:(Nat→Bool)) (zcF:(Nat→Nat)) (zdJ:(Nat→List Int→Option (List Int))):(Sl Mp) :=
  (cond (decide (zfm < (0:Int)))
 (S4 iv5 pv5 kv5 (w64 (rv5+(1:Int))) zdI zcE zcF zdJ)
 (cond (decide (kv5 < zfm))
 (S4 iv5 pv5 kv5 (w64 (rv5+(1:Int))) zdI zcE zcF zdJ)
 (S4 iv5 pv5 zfm (w64 (rv5+(1:Int))) zdI zcE zcF zdJ)))
def zxQ (P0:Int→Nat→(Nat→Bool)→(Nat→Nat)→(Nat→List Int→Option (List Int))→Bool) (P1:Int→Int→Nat→(Nat→Bool)→(Nat→Nat)→(Nat→List Int→Option (List Int))→Bool) (P2:Int→Int→Int→Nat→(Nat→Bool)→(Nat→Nat)→(Nat→List Int→Option (List Int))→Bool) (P4:Int→Int→Int→Int→Nat→(Nat→Bool)→(Nat→Nat)→(Nat→List Int→Option (List Int))→Bool) (zaa:(Sl Gate)) (qv3:Int) (iv5:Int) (pv5:Int) (zfm:Int) (rv5:Int) (kv5:Int) (zdI:Nat) (zcE:(Nat→Bool)) (zcF:(Nat→Nat)) (zdJ:(Nat→List Int→Option (List Int))):Bool :=
  (cond (decide (zfm < (0:Int)))
 (P4 iv5 pv5 kv5 (w64 (rv5+(1:Int))) zdI zcE zcF zdJ)
 (cond (decide (kv5 < zfm))
 (P4 iv5 pv5 kv5 (w64 (rv5+(1:Int))) zdI zcE zcF zdJ)
 (P4 iv5 pv5 zfm (w64 (rv5+(1:Int))) zdI zcE zcF zdJ)))
theorem zFu (hX0:zp9 K zaa X0 P0 S0) (hX1:ztH K zaa X1 P1 S1) (hX2:zxO K zaa X2 P2 S2) (hX4:zFt K zaa qv3 X4 P4 S4) (hs:zxQ P0 P1 P2 P4 zaa qv3 iv5 pv5 zfm rv5 kv5 zdI zcE zcF zdJ=true) (hk:K (e93 (zxP S0 S1 S2 S4 zaa qv3 iv5 pv5 zfm rv5 kv5 zdI zcE zcF zdJ))):z93 K [1,1,1,0,1,0,0,1,0,0,1,1,0,0,1,0,0,1,0,0,1,0,0,1,1,0,1,0,0,1,0,0,1] [X0,X1,X2,X4] ⟨[(0,zS enc_55 3 zaa),(3,zI (zaa.len:Int)),(4,zv 15),(5,zI iv5),(6,zI pv5),(7,zI qv3),(8,zI zfm),(9,zI rv5),(10,zI kv5)],[(15,.vm 129 8 131 3 (true,2,false,[some .i64]) zdI zcE zcF zdJ)],[]⟩:=zaw (by kernel_rfl) (zc hs hk (fun hs hk=>(hX4 hs hk)) (fun hs hk=>(zc hs hk (fun hs hk=>(hX4 hs hk)) (fun hs hk=>(hX4 hs hk)))))
def zxR (S0:Int→Nat→(Nat→Bool)→(Nat→Nat)→(Nat→List Int→Option (List Int))→(Sl Mp)) (S1:Int→Int→Nat→(Nat→Bool)→(Nat→Nat)→(Nat→List Int→Option (List Int))→(Sl Mp)) (S2:Int→Int→Int→Nat→(Nat→Bool)→(Nat→Nat)→(Nat→List Int→Option (List Int))→(Sl Mp)) (zaa:(Sl Gate)) (qv3:Int) (S4:Int→Int→Int→Int→Nat→(Nat→Bool)→(Nat→Nat)→(Nat→List Int→Option (List Int))→(Sl Mp)) (iv4:Int) (pv4:Int) (zct:Int) (rv4:Int) (zbh:Nat) (za8:(Nat→Bool)) (za9:(Nat→Nat)) (za7:(Nat→List Int→Option (List Int))):(Sl Mp) :=
  (cond (decide (rv4 ≤ (zaa.get ((w64 (iv4 + (2:Int))).toNat)).High))
 (zxP S0 S1 S2 S4 zaa qv3 iv4 pv4 zct rv4 (if (zdQ ((za7 ((w64 (iv4+(1:Int))).toNat)) [qv3,rv4]) 0) > (s85 ((zaa.get iv4.toNat).Z) ((zaa.get ((w64 (iv4+(1:Int))).toNat)).Z) ((zaa.get ((w64 (iv4+(2:Int))).toNat)).Z) pv4 qv3 rv4) then (zdQ ((za7 ((w64 (iv4+(1:Int))).toNat)) [qv3,rv4]) 0) else (s85 ((zaa.get iv4.toNat).Z) ((zaa.get ((w64 (iv4+(1:Int))).toNat)).Z) ((zaa.get ((w64 (iv4+(2:Int))).toNat)).Z) pv4 qv3 rv4)) zbh za8 za9 za7)
 (S2 iv4 pv4 (w64 (qv3+(1:Int))) zbh za8 (zcM iv4.toNat (addN ((za7 iv4.toNat) [pv4,qv3]) (za9 iv4.toNat)) za9) (zcM iv4.toNat (zkT [pv4,qv3] [zct] (za7 iv4.toNat)) za7)))
def zxS (P0:Int→Nat→(Nat→Bool)→(Nat→Nat)→(Nat→List Int→Option (List Int))→Bool) (P1:Int→Int→Nat→(Nat→Bool)→(Nat→Nat)→(Nat→List Int→Option (List Int))→Bool) (P2:Int→Int→Int→Nat→(Nat→Bool)→(Nat→Nat)→(Nat→List Int→Option (List Int))→Bool) (zaa:(Sl Gate)) (qv3:Int) (P4:Int→Int→Int→Int→Nat→(Nat→Bool)→(Nat→Nat)→(Nat→List Int→Option (List Int))→Bool) (iv4:Int) (pv4:Int) (zct:Int) (rv4:Int) (zbh:Nat) (za8:(Nat→Bool)) (za9:(Nat→Nat)) (za7:(Nat→List Int→Option (List Int))):Bool :=
  (decide ((0≤(w64 (iv4+(2:Int)))∧(w64 (iv4+(2:Int))) < (zaa.len:Int))) &&
 (cond (decide (rv4 ≤ (zaa.get ((w64 (iv4 + (2:Int))).toNat)).High))
 (decide ((0≤iv4∧iv4 < (zaa.len:Int))) &&
 (decide ((0≤(w64 (iv4+(1:Int)))∧(w64 (iv4+(1:Int))) < (zaa.len:Int))) &&
 (decide ((0≤(w64 (iv4+(2:Int)))∧(w64 (iv4+(2:Int))) < (zaa.len:Int))) &&
 (decide ((p85 ((zaa.get iv4.toNat).Z) ((zaa.get ((w64 (iv4+(1:Int))).toNat)).Z) ((zaa.get ((w64 (iv4+(2:Int))).toNat)).Z) pv4 qv3 rv4=true)) &&
 (decide ((0≤(w64 (iv4+(1:Int)))∧(w64 (iv4+(1:Int))) < (zbh:Int))) &&
 (decide (((w64 (iv4+(1:Int))).toNat < zbh∧za8 ((w64 (iv4+(1:Int))).toNat)=true)) &&
 (decide (((w64 (iv4+(1:Int))).toNat < zbh)) &&
 (zxQ P0 P1 P2 P4 zaa qv3 iv4 pv4 zct rv4 (if (zdQ ((za7 ((w64 (iv4+(1:Int))).toNat)) [qv3,rv4]) 0) > (s85 ((zaa.get iv4.toNat).Z) ((zaa.get ((w64 (iv4+(1:Int))).toNat)).Z) ((zaa.get ((w64 (iv4+(2:Int))).toNat)).Z) pv4 qv3 rv4) then (zdQ ((za7 ((w64 (iv4+(1:Int))).toNat)) [qv3,rv4]) 0) else (s85 ((zaa.get iv4.toNat).Z) ((zaa.get ((w64 (iv4+(1:Int))).toNat)).Z) ((zaa.get ((w64 (iv4+(2:Int))).toNat)).Z) pv4 qv3 rv4)) zbh za8 za9 za7))))))))
 (decide ((0≤iv4∧iv4 < (zbh:Int))) &&
 (decide ((iv4.toNat < zbh∧za8 iv4.toNat=true)) &&
 (decide ((iv4.toNat < zbh)) &&
 (P2 iv4 pv4 (w64 (qv3+(1:Int))) zbh za8 (zcM iv4.toNat (addN ((za7 iv4.toNat) [pv4,qv3]) (za9 iv4.toNat)) za9) (zcM iv4.toNat (zkT [pv4,qv3] [zct] (za7 iv4.toNat)) za7)))))))
def zxT (S0:Int→Nat→(Nat→Bool)→(Nat→Nat)→(Nat→List Int→Option (List Int))→(Sl Mp)) (S1:Int→Int→Nat→(Nat→Bool)→(Nat→Nat)→(Nat→List Int→Option (List Int))→(Sl Mp)) (S2:Int→Int→Int→Nat→(Nat→Bool)→(Nat→Nat)→(Nat→List Int→Option (List Int))→(Sl Mp)) (zaa:(Sl Gate)) (qv3:Int):Nat→Int→Int→Int→Int→Nat→(Nat→Bool)→(Nat→Nat)→(Nat→List Int→Option (List Int))→(Sl Mp):=lpO (fun _ _ _ _ _ _ _ _=>default) (zxR S0 S1 S2 zaa qv3)
def zxU (P0:Int→Nat→(Nat→Bool)→(Nat→Nat)→(Nat→List Int→Option (List Int))→Bool) (P1:Int→Int→Nat→(Nat→Bool)→(Nat→Nat)→(Nat→List Int→Option (List Int))→Bool) (P2:Int→Int→Int→Nat→(Nat→Bool)→(Nat→Nat)→(Nat→List Int→Option (List Int))→Bool) (zaa:(Sl Gate)) (qv3:Int):Nat→Int→Int→Int→Int→Nat→(Nat→Bool)→(Nat→Nat)→(Nat→List Int→Option (List Int))→Bool:=lpO (fun _ _ _ _ _ _ _ _=>false) (zxS P0 P1 P2 zaa qv3)
def zxV (S0:Int→Nat→(Nat→Bool)→(Nat→Nat)→(Nat→List Int→Option (List Int))→(Sl Mp)) (S1:Int→Int→Nat→(Nat→Bool)→(Nat→Nat)→(Nat→List Int→Option (List Int))→(Sl Mp)) (S2:Int→Int→Int→Nat→(Nat→Bool)→(Nat→Nat)→(Nat→List Int→Option (List Int))→(Sl Mp)) (zaa:(Sl Gate)) (qv3:Int) (iv4:Int) (pv4:Int) (zct:Int) (rv4:Int) (zbh:Nat) (za8:(Nat→Bool)) (za9:(Nat→Nat)) (za7:(Nat→List Int→Option (List Int))):(Sl Mp):=zxT S0 S1 S2 zaa qv3 Fuel iv4 pv4 zct rv4 zbh za8 za9 za7
def zxW (P0:Int→Nat→(Nat→Bool)→(Nat→Nat)→(Nat→List Int→Option (List Int))→Bool) (P1:Int→Int→Nat→(Nat→Bool)→(Nat→Nat)→(Nat→List Int→Option (List Int))→Bool) (P2:Int→Int→Int→Nat→(Nat→Bool)→(Nat→Nat)→(Nat→List Int→Option (List Int))→Bool) (zaa:(Sl Gate)) (qv3:Int) (iv4:Int) (pv4:Int) (zct:Int) (rv4:Int) (zbh:Nat) (za8:(Nat→Bool)) (za9:(Nat→Nat)) (za7:(Nat→List Int→Option (List Int))):Bool:=zxU P0 P1 P2 zaa qv3 Fuel iv4 pv4 zct rv4 zbh za8 za9 za7
theorem zFv (hX0:zp9 K zaa X0 P0 S0) (hX1:ztH K zaa X1 P1 S1) (hX2:zxO K zaa X2 P2 S2) (hs:zxW P0 P1 P2 zaa qv3 iv4 pv4 zct rv4 zbh za8 za9 za7=true) (hk:K (e93 (zxV S0 S1 S2 zaa qv3 iv4 pv4 zct rv4 zbh za8 za9 za7))):z93 K [1,1,1,0,1,0,0,1,0,0,1,1,0,0,1,0,0,1,0,0,1,0,0,1,1,0,1,0] [X0,X1,X2] (zCE zaa qv3 iv4 pv4 zct rv4 zbh za8 za9 za7) :=
  zl (fun X=>z93 K [1,1,1,0,1,0,0,1,0,0,1,1,0,0,1,0,0,1,0,0,1,0,0,1,1,0,1,0,0] [X0,X1,X2,X]) (by kernel_rfl) fun X4 hX =>
  (show ∀ k, zFt K zaa qv3 X4 (zxU P0 P1 P2 zaa qv3 k) (zxT S0 S1 S2 zaa qv3 k) from zeV _ _ (zxS P0 P1 P2 zaa qv3) (zxR S0 S1 S2 zaa qv3) (zFt K zaa qv3 X4)
 (by intro _ _ _ _ _ _ _ _ hs;exact absurd hs Bool.false_ne_true)
 (by intro P4 S4 hX4 iv4 pv4 zct rv4 zbh za8 za9 za7 hs hk;exact hX _ (zaw (by kernel_rfl) (zau hs fun hc hs=>And.intro hc (zc hs hk (fun hs hk=>(zau hs fun hc hs=>And.intro hc (zau hs fun hc hs=>And.intro hc (zau hs fun hc hs=>And.intro hc (zau hs fun hc hs=>And.intro hc (zau hs fun hc hs=>And.intro hc (zau hs fun hc hs=>And.intro hc (zau hs fun hc hs=>And.intro hc (zFu hX0 hX1 hX2 hX4 hs hk))))))))) (fun hs hk=>(zau hs fun hc hs=>And.intro hc (zau hs fun hc hs=>And.intro hc (zau hs fun hc hs=>And.intro hc (hX2 hs hk)))))))))) _ hs hk
def zxX (S0:Int→Nat→(Nat→Bool)→(Nat→Nat)→(Nat→List Int→Option (List Int))→(Sl Mp)) (S1:Int→Int→Nat→(Nat→Bool)→(Nat→Nat)→(Nat→List Int→Option (List Int))→(Sl Mp)) (S2:Int→Int→Int→Nat→(Nat→Bool)→(Nat→Nat)→(Nat→List Int→Option (List Int))→(Sl Mp)) (zaa:(Sl Gate)) (iv3:Int) (pv3:Int) (qv3:Int) (zgx:Nat) (zeH:(Nat→Bool)) (zeI:(Nat→Nat)) (zgy:(Nat→List Int→Option (List Int))):(Sl Mp) :=
  (zxV S0 S1 S2 zaa qv3 iv3 pv3 (-1:Int) ((zaa.get ((w64 (iv3+(2:Int))).toNat)).Low) zgx zeH zeI zgy)
def zxY (P0:Int→Nat→(Nat→Bool)→(Nat→Nat)→(Nat→List Int→Option (List Int))→Bool) (P1:Int→Int→Nat→(Nat→Bool)→(Nat→Nat)→(Nat→List Int→Option (List Int))→Bool) (P2:Int→Int→Int→Nat→(Nat→Bool)→(Nat→Nat)→(Nat→List Int→Option (List Int))→Bool) (zaa:(Sl Gate)) (iv3:Int) (pv3:Int) (qv3:Int) (zgx:Nat) (zeH:(Nat→Bool)) (zeI:(Nat→Nat)) (zgy:(Nat→List Int→Option (List Int))):Bool :=
  (decide ((0≤(w64 (iv3+(2:Int)))∧(w64 (iv3+(2:Int))) < (zaa.len:Int))) &&
 (zxW P0 P1 P2 zaa qv3 iv3 pv3 (-1:Int) ((zaa.get ((w64 (iv3+(2:Int))).toNat)).Low) zgx zeH zeI zgy))
theorem zFw (hX0:zp9 K zaa X0 P0 S0) (hX1:ztH K zaa X1 P1 S1) (hX2:zxO K zaa X2 P2 S2) (hs:zxY P0 P1 P2 zaa iv3 pv3 qv3 zgx zeH zeI zgy=true) (hk:K (e93 (zxX S0 S1 S2 zaa iv3 pv3 qv3 zgx zeH zeI zgy))):z93 K [1,1,1,0,1,0,0,1,0,0,1,1,0,0,1,0,0,1,0,0,1,0,0,1] [X0,X1,X2] ⟨[(0,zS enc_55 3 zaa),(3,zI (zaa.len:Int)),(4,zv 15),(5,zI iv3),(6,zI pv3),(7,zI qv3)],[(15,.vm 129 8 131 3 (true,2,false,[some .i64]) zgx zeH zeI zgy)],[]⟩:=zaw (by kernel_rfl) (zau hs fun hc hs=>And.intro hc (zFv hX0 hX1 hX2 hs hk))
def zxZ (S0:Int→Nat→(Nat→Bool)→(Nat→Nat)→(Nat→List Int→Option (List Int))→(Sl Mp)) (S1:Int→Int→Nat→(Nat→Bool)→(Nat→Nat)→(Nat→List Int→Option (List Int))→(Sl Mp)) (zaa:(Sl Gate)) (S2:Int→Int→Int→Nat→(Nat→Bool)→(Nat→Nat)→(Nat→List Int→Option (List Int))→(Sl Mp)) (iv2:Int) (pv2:Int) (qv2:Int) (zbo:Nat) (za4:(Nat→Bool)) (zaX:(Nat→Nat)) (zbg:(Nat→List Int→Option (List Int))):(Sl Mp) :=
  (cond (decide (qv2 ≤ (zaa.get ((w64 (iv2 + (1:Int))).toNat)).High))
 (cond (iv2 == (w64 ((zaa.len : Int) - (2:Int))))
 (S2 iv2 pv2 (w64 (qv2+(1:Int))) zbo za4 (zcM iv2.toNat (addN ((zbg iv2.toNat) [pv2,qv2]) (zaX iv2.toNat)) zaX) (zcM iv2.toNat (zkT [pv2,qv2] [(0:Int)] (zbg iv2.toNat)) zbg))
 (zxX S0 S1 S2 zaa iv2 pv2 qv2 zbo za4 zaX zbg))
 (S1 iv2 (w64 (pv2+(1:Int))) zbo za4 zaX zbg))
def zx0 (P0:Int→Nat→(Nat→Bool)→(Nat→Nat)→(Nat→List Int→Option (List Int))→Bool) (P1:Int→Int→Nat→(Nat→Bool)→(Nat→Nat)→(Nat→List Int→Option (List Int))→Bool) (zaa:(Sl Gate)) (P2:Int→Int→Int→Nat→(Nat→Bool)→(Nat→Nat)→(Nat→List Int→Option (List Int))→Bool) (iv2:Int) (pv2:Int) (qv2:Int) (zbo:Nat) (za4:(Nat→Bool)) (zaX:(Nat→Nat)) (zbg:(Nat→List Int→Option (List Int))):Bool :=
  (decide ((0≤(w64 (iv2+(1:Int)))∧(w64 (iv2+(1:Int))) < (zaa.len:Int))) &&
 (cond (decide (qv2 ≤ (zaa.get ((w64 (iv2 + (1:Int))).toNat)).High))
 (cond (iv2 == (w64 ((zaa.len : Int) - (2:Int))))
 (decide ((0≤iv2∧iv2 < (zbo:Int))) &&
 (decide ((iv2.toNat < zbo∧za4 iv2.toNat=true)) &&
 (decide ((iv2.toNat < zbo)) &&
 (P2 iv2 pv2 (w64 (qv2+(1:Int))) zbo za4 (zcM iv2.toNat (addN ((zbg iv2.toNat) [pv2,qv2]) (zaX iv2.toNat)) zaX) (zcM iv2.toNat (zkT [pv2,qv2] [(0:Int)] (zbg iv2.toNat)) zbg)))))
 (zxY P0 P1 P2 zaa iv2 pv2 qv2 zbo za4 zaX zbg))
 (P1 iv2 (w64 (pv2+(1:Int))) zbo za4 zaX zbg)))
def zx1 (S0:Int→Nat→(Nat→Bool)→(Nat→Nat)→(Nat→List Int→Option (List Int))→(Sl Mp)) (S1:Int→Int→Nat→(Nat→Bool)→(Nat→Nat)→(Nat→List Int→Option (List Int))→(Sl Mp)) (zaa:(Sl Gate)):Nat→Int→Int→Int→Nat→(Nat→Bool)→(Nat→Nat)→(Nat→List Int→Option (List Int))→(Sl Mp):=lpO (fun _ _ _ _ _ _ _=>default) (zxZ S0 S1 zaa)
def zx2 (P0:Int→Nat→(Nat→Bool)→(Nat→Nat)→(Nat→List Int→Option (List Int))→Bool) (P1:Int→Int→Nat→(Nat→Bool)→(Nat→Nat)→(Nat→List Int→Option (List Int))→Bool) (zaa:(Sl Gate)):Nat→Int→Int→Int→Nat→(Nat→Bool)→(Nat→Nat)→(Nat→List Int→Option (List Int))→Bool:=lpO (fun _ _ _ _ _ _ _=>false) (zx0 P0 P1 zaa)
def zx3 (S0:Int→Nat→(Nat→Bool)→(Nat→Nat)→(Nat→List Int→Option (List Int))→(Sl Mp)) (S1:Int→Int→Nat→(Nat→Bool)→(Nat→Nat)→(Nat→List Int→Option (List Int))→(Sl Mp)) (zaa:(Sl Gate)) (iv2:Int) (pv2:Int) (qv2:Int) (zbo:Nat) (za4:(Nat→Bool)) (zaX:(Nat→Nat)) (zbg:(Nat→List Int→Option (List Int))):(Sl Mp):=zx1 S0 S1 zaa Fuel iv2 pv2 qv2 zbo za4 zaX zbg
def zx4 (P0:Int→Nat→(Nat→Bool)→(Nat→Nat)→(Nat→List Int→Option (List Int))→Bool) (P1:Int→Int→Nat→(Nat→Bool)→(Nat→Nat)→(Nat→List Int→Option (List Int))→Bool) (zaa:(Sl Gate)) (iv2:Int) (pv2:Int) (qv2:Int) (zbo:Nat) (za4:(Nat→Bool)) (zaX:(Nat→Nat)) (zbg:(Nat→List Int→Option (List Int))):Bool:=zx2 P0 P1 zaa Fuel iv2 pv2 qv2 zbo za4 zaX zbg
theorem zFx (hX0:zp9 K zaa X0 P0 S0) (hX1:ztH K zaa X1 P1 S1) (hs:zx4 P0 P1 zaa iv2 pv2 qv2 zbo za4 zaX zbg=true) (hk:K (e93 (zx3 S0 S1 zaa iv2 pv2 qv2 zbo za4 zaX zbg))):z93 K [1,1,1,0,1,0,0,1,0,0,1,1,0,0,1,0,0,1,0] [X0,X1] (zCD zaa iv2 pv2 qv2 zbo za4 zaX zbg) :=
  zl (fun X=>z93 K [1,1,1,0,1,0,0,1,0,0,1,1,0,0,1,0,0,1,0,0] [X0,X1,X]) (by kernel_rfl) fun X2 hX =>
  (show ∀ k, zxO K zaa X2 (zx2 P0 P1 zaa k) (zx1 S0 S1 zaa k) from zeV _ _ (zx0 P0 P1 zaa) (zxZ S0 S1 zaa) (zxO K zaa X2)
 (by intro _ _ _ _ _ _ _ hs;exact absurd hs Bool.false_ne_true)
 (by intro P2 S2 hX2 iv2 pv2 qv2 zbo za4 zaX zbg hs hk;exact hX _ (zaw (by kernel_rfl) (zau hs fun hc hs=>And.intro hc (zc hs hk (fun hs hk=>(zc hs hk (fun hs hk=>(zau hs fun hc hs=>And.intro hc (zau hs fun hc hs=>And.intro hc (zau hs fun hc hs=>And.intro hc (hX2 hs hk))))) (fun hs hk=>(zFw hX0 hX1 hX2 hs hk)))) (fun hs hk=>(hX1 hs hk))))))) _ hs hk
def zx5 (S0:Int→Nat→(Nat→Bool)→(Nat→Nat)→(Nat→List Int→Option (List Int))→(Sl Mp)) (zaa:(Sl Gate)) (S1:Int→Int→Nat→(Nat→Bool)→(Nat→Nat)→(Nat→List Int→Option (List Int))→(Sl Mp)) (iv1:Int) (pv1:Int) (zbJ:Nat) (zbm:(Nat→Bool)) (zbn:(Nat→Nat)) (zbK:(Nat→List Int→Option (List Int))):(Sl Mp) :=
  (cond (decide (pv1 ≤ (zaa.get iv1.toNat).High))
 (zx3 S0 S1 zaa iv1 pv1 ((zaa.get ((w64 (iv1+(1:Int))).toNat)).Low) zbJ zbm zbn zbK)
 (S0 (w64 (iv1 - (1:Int))) zbJ zbm zbn zbK))
def zx6 (P0:Int→Nat→(Nat→Bool)→(Nat→Nat)→(Nat→List Int→Option (List Int))→Bool) (zaa:(Sl Gate)) (P1:Int→Int→Nat→(Nat→Bool)→(Nat→Nat)→(Nat→List Int→Option (List Int))→Bool) (iv1:Int) (pv1:Int) (zbJ:Nat) (zbm:(Nat→Bool)) (zbn:(Nat→Nat)) (zbK:(Nat→List Int→Option (List Int))):Bool :=
  (decide ((0≤iv1∧iv1 < (zaa.len:Int))) &&
 (cond (decide (pv1 ≤ (zaa.get iv1.toNat).High))
 (decide ((0≤(w64 (iv1+(1:Int)))∧(w64 (iv1+(1:Int))) < (zaa.len:Int))) &&
 (zx4 P0 P1 zaa iv1 pv1 ((zaa.get ((w64 (iv1+(1:Int))).toNat)).Low) zbJ zbm zbn zbK))
 (P0 (w64 (iv1 - (1:Int))) zbJ zbm zbn zbK)))
def zx7 (S0:Int→Nat→(Nat→Bool)→(Nat→Nat)→(Nat→List Int→Option (List Int))→(Sl Mp)) (zaa:(Sl Gate)):Nat→Int→Int→Nat→(Nat→Bool)→(Nat→Nat)→(Nat→List Int→Option (List Int))→(Sl Mp):=lpO (fun _ _ _ _ _ _=>default) (zx5 S0 zaa)
def zx8 (P0:Int→Nat→(Nat→Bool)→(Nat→Nat)→(Nat→List Int→Option (List Int))→Bool) (zaa:(Sl Gate)):Nat→Int→Int→Nat→(Nat→Bool)→(Nat→Nat)→(Nat→List Int→Option (List Int))→Bool:=lpO (fun _ _ _ _ _ _=>false) (zx6 P0 zaa)
def zx9 (S0:Int→Nat→(Nat→Bool)→(Nat→Nat)→(Nat→List Int→Option (List Int))→(Sl Mp)) (zaa:(Sl Gate)) (iv1:Int) (pv1:Int) (zbJ:Nat) (zbm:(Nat→Bool)) (zbn:(Nat→Nat)) (zbK:(Nat→List Int→Option (List Int))):(Sl Mp):=zx7 S0 zaa Fuel iv1 pv1 zbJ zbm zbn zbK
def zya (P0:Int→Nat→(Nat→Bool)→(Nat→Nat)→(Nat→List Int→Option (List Int))→Bool) (zaa:(Sl Gate)) (iv1:Int) (pv1:Int) (zbJ:Nat) (zbm:(Nat→Bool)) (zbn:(Nat→Nat)) (zbK:(Nat→List Int→Option (List Int))):Bool:=zx8 P0 zaa Fuel iv1 pv1 zbJ zbm zbn zbK
theorem zFy (hX0:zp9 K zaa X0 P0 S0) (hs:zya P0 zaa iv1 pv1 zbJ zbm zbn zbK=true) (hk:K (e93 (zx9 S0 zaa iv1 pv1 zbJ zbm zbn zbK))):z93 K [1,1,1,0,1,0,0,1,0,0,1,1,0] [X0] (zCC zaa iv1 pv1 zbJ zbm zbn zbK) :=
  zl (fun X=>z93 K [1,1,1,0,1,0,0,1,0,0,1,1,0,0] [X0,X]) (by kernel_rfl) fun X1 hX =>
  (show ∀ k, ztH K zaa X1 (zx8 P0 zaa k) (zx7 S0 zaa k) from zeV _ _ (zx6 P0 zaa) (zx5 S0 zaa) (ztH K zaa X1)
 (by intro _ _ _ _ _ _ hs;exact absurd hs Bool.false_ne_true)
 (by intro P1 S1 hX1 iv1 pv1 zbJ zbm zbn zbK hs hk;exact hX _ (zaw (by kernel_rfl) (zau hs fun hc hs=>And.intro hc (zc hs hk (fun hs hk=>(zau hs fun hc hs=>And.intro hc (zFx hX0 hX1 hs hk))) (fun hs hk=>(hX0 hs hk))))))) _ hs hk
def zyb (zaa:(Sl Gate)) (S0:Int→Nat→(Nat→Bool)→(Nat→Nat)→(Nat→List Int→Option (List Int))→(Sl Mp)) (iv0:Int) (zbC:Nat) (zbt:(Nat→Bool)) (zbu:(Nat→Nat)) (zbR:(Nat→List Int→Option (List Int))):(Sl Mp) :=
  (cond (decide (iv0 ≥ (0:Int)))
 (zx9 S0 zaa iv0 ((zaa.get iv0.toNat).Low) zbC (zcM iv0.toNat true zbt) (zcM iv0.toNat 0 zbu) (zcM iv0.toNat (fun _=>none) zbR))
 (⟨zbC,(fun i=>(⟨zbu i,zbR i⟩:Mp))⟩:(Sl Mp)))
def zyc (zaa:(Sl Gate)) (P0:Int→Nat→(Nat→Bool)→(Nat→Nat)→(Nat→List Int→Option (List Int))→Bool) (iv0:Int) (zbC:Nat) (zbt:(Nat→Bool)) (zbu:(Nat→Nat)) (zbR:(Nat→List Int→Option (List Int))):Bool :=
  (cond (decide (iv0 ≥ (0:Int)))
 (decide ((0≤iv0∧iv0 < (zbC:Int))) &&
 (decide ((iv0.toNat < zbC∧zbt iv0.toNat=false)) &&
 (decide ((0≤iv0∧iv0 < (zaa.len:Int))) &&
 (zya P0 zaa iv0 ((zaa.get iv0.toNat).Low) zbC (zcM iv0.toNat true zbt) (zcM iv0.toNat 0 zbu) (zcM iv0.toNat (fun _=>none) zbR)))))
 true)
def zyd (zaa:(Sl Gate)):Nat→Int→Nat→(Nat→Bool)→(Nat→Nat)→(Nat→List Int→Option (List Int))→(Sl Mp):=lpO (fun _ _ _ _ _=>default) (zyb zaa)
def zye (zaa:(Sl Gate)):Nat→Int→Nat→(Nat→Bool)→(Nat→Nat)→(Nat→List Int→Option (List Int))→Bool:=lpO (fun _ _ _ _ _=>false) (zyc zaa)
def zyf (zaa:(Sl Gate)) (iv0:Int) (zbC:Nat) (zbt:(Nat→Bool)) (zbu:(Nat→Nat)) (zbR:(Nat→List Int→Option (List Int))):(Sl Mp):=zyd zaa Fuel iv0 zbC zbt zbu zbR
def zyg (zaa:(Sl Gate)) (iv0:Int) (zbC:Nat) (zbt:(Nat→Bool)) (zbu:(Nat→Nat)) (zbR:(Nat→List Int→Option (List Int))):Bool:=zye zaa Fuel iv0 zbC zbt zbu zbR
theorem zFz (hs:zyg zaa iv0 zbC zbt zbu zbR=true) (hk:K (e93 (zyf zaa iv0 zbC zbt zbu zbR))):z93 K [1,1,1,0,1,0] [] (zCB zaa iv0 zbC zbt zbu zbR) :=
  zl (fun X=>z93 K [1,1,1,0,1,0,0] [X]) (by kernel_rfl) fun X0 hX =>
  (show ∀ k, zp9 K zaa X0 (zye zaa k) (zyd zaa k) from zeV _ _ (zyc zaa) (zyb zaa) (zp9 K zaa X0)
 (by intro _ _ _ _ _ hs;exact absurd hs Bool.false_ne_true)
 (by intro P0 S0 hX0 iv0 zbC zbt zbu zbR hs hk;exact hX _ (zaw (by kernel_rfl) (zc hs hk (fun hs hk=>(zau hs fun hc hs=>And.intro hc (zau hs fun hc hs=>And.intro hc (zau hs fun hc hs=>And.intro hc (zFy hX0 hs hk))))) (fun hs hk=>hk))))) _ hs hk
def s93 (zaa:(Sl Gate)):(Sl Mp) :=
  (zyf zaa (w64 ((zaa.len:Int) - (2:Int))) ((w64 ((zaa.len:Int) - (1:Int))).toNat) (fun _=>false) (fun _=>0) (fun _ _=>none))
def p93 (zaa:(Sl Gate)):Bool :=
  (decide ((0≤(w64 ((zaa.len:Int) - (1:Int)))∧(w64 ((zaa.len:Int) - (1:Int)))=(w64 ((zaa.len:Int) - (1:Int)))∧(w64 ((zaa.len:Int) - (1:Int)))≤1000000)) &&
 (zyg zaa (w64 ((zaa.len:Int) - (2:Int))) ((w64 ((zaa.len:Int) - (1:Int))).toNat) (fun _=>false) (fun _=>0) (fun _ _=>none)))
end
theorem q93 (zaa:(Sl Gate)) (K:List PA→Prop) (hs:p93 zaa=true) (hk:K (e93 (s93 zaa))):vcFun Try.prog G93 zFs 93 [.one (.sl zaa.len 3 (fun i=>enc_55 (zaa.get i)))] K :=
  zaw (by kernel_rfl) (zau hs fun hc hs=>And.intro hc (zFz hs hk))
def zFA : List PA → COut
  | [.one (.sl a0_n a0_s a0_g)]=>.det (IsE enc_55 3 a0_s a0_g∧p93 (⟨a0_n,zad a0_g⟩:(Sl Gate))=true) [.one (.sl ((s93 (⟨a0_n,zad a0_g⟩:(Sl Gate))).len) 1 (fun i=>zcA ((s93 (⟨a0_n,zad a0_g⟩:(Sl Gate))).get i)))]
  | _=>.no
theorem zJP:zaf Try.prog 93:=⟨_,rfl,rfl,by kernel_rfl⟩
theorem zPl:Ok Try.prog 93 zFA:=zay zMy zJP fun args K h=>by
  unfold zFA at h
  split at h
  · rename_i a0_n a0_s a0_g
    obtain ⟨⟨⟨rfl,a0_f,rfl⟩,hs⟩,hk⟩:=h
    try rw [zac a0_f] at hs
    try rw [zac a0_f] at hk
    exact ⟨(fun _ _=>[]),(fun l=>Nat.beq l 15 || Nat.beq l 24),zFs,q93 (⟨a0_n,a0_f⟩:(Sl Gate)) K hs hk⟩
  · exact h.elim
def zNL (a b:Int):List Int:=(List.range (b - a+1).toNat).map fun (i:Nat)=>a+i
def zol (zaa:Sl Gate):List (List Int):=(zNL (zaa.get 0).Low (zaa.get 0).High).flatMap fun p=>(zNL (zaa.get 1).Low (zaa.get 1).High).map fun q=>[p,q]
abbrev T55:Tabs:=(((Tabs.nil.addF 85 zBm).addF 92 zFr).addF 93 zFA)
theorem zMz:TabsOk Try.prog T55:=(((TabsOk.nil.addF zNK).addF zPk).addF zPl)
abbrev G55:Ctrs:=csm T55 (fun _ _=>[]) (fun _=>false)
def zaT:Ann:=⟨145,[(0,⟨[0],[],[],[],[],[],[]⟩),(1,⟨[0,18],[],[],[],[],[],[]⟩),(2,⟨[2,3,4],[],[],[],[],[],[]⟩),(3,⟨[0,5],[],[],[],[],[],[]⟩),(4,⟨[0,5,6],[],[],[],[],[],[]⟩),(5,⟨[0,5,6,24],[24],[],[],[],[],[]⟩),(6,⟨[0,5,6,24,26],[24],[],[],[],[],[]⟩),(7,⟨[0,5,6,8,24],[24],[],[],[],[],[]⟩),(8,⟨[0,5,6,8,24,35],[24],[],[],[],[],[]⟩),(9,⟨[0,5,6,24],[24],[],[],[],[],[]⟩),(10,⟨[0,5,6,9],[],[],[],[],[],[]⟩),(11,⟨[0,5,6,9,10],[],[],[],[],[],[]⟩),(12,⟨[0,5,6,9,10,46],[],[],[],[],[],[]⟩),(13,⟨[0,5,6,9,10],[],[],[],[],[],[]⟩),(14,⟨[0,5,6,9,10,11],[],[],[],[],[],[]⟩),(15,⟨[0,5,6,9,10,11,58],[],[],[],[],[],[]⟩),(16,⟨[0,5,6,9,10,11],[],[],[],[],[],[]⟩),(17,⟨[0,5,6,9,10,11,69],[],[],[],[],[],[]⟩),(18,⟨[0,5,6,9],[72],[],[],[],[],[]⟩),(19,⟨[0,5,6,9,12],[72],[],[],[],[],[]⟩),(20,⟨[0,5,6,9,12,76],[72],[],[],[],[],[]⟩),(21,⟨[0,5,6,9,12],[72],[],[],[],[],[]⟩),(22,⟨[0,5,6,9,12,13,14],[72],[],[],[],[],[]⟩),(23,⟨[0,5,6,9,12,13,14,15],[72],[],[],[],[],[]⟩),(24,⟨[0,5,6,9,12,13,14,15,100],[72],[],[],[],[],[]⟩),(25,⟨[0,5,6,9,12,13,14,15],[72],[],[],[],[],[]⟩),(26,⟨[0,5,6,9,12,13,14,15,138],[72],[],[],[],[],[]⟩),(27,⟨[0,5,6,9,12],[72],[],[],[],[],[]⟩),(28,⟨[2,3,4],[72],[],[],[],[],[]⟩)],
 [(6,⟨[0,5,6,24],[24],[],[],[],[],[]⟩),(12,⟨[0,5,6,9,10],[],[],[],[],[],[]⟩),(15,⟨[0,5,6,9,10,11],[],[],[],[],[],[]⟩),(20,⟨[0,5,6,9,12],[72],[],[],[],[],[]⟩),(24,⟨[0,5,6,9,12,13,14,15],[72],[],[],[],[],[]⟩)],
 [(2,⟨[0,18],[],[],[],[],[],[]⟩),(3,⟨[0],[],[],[],[],[],[]⟩),(4,⟨[0,5],[],[],[],[],[],[]⟩),(10,⟨[0,5,6],[],[],[],[],[],[]⟩),(19,⟨[0,5,6,9],[72],[(9,72,3,fun _=>zal default)],[],[],[],[]⟩),(27,⟨[0,5,6,9,12,13,14,15,138],[72],[],[],[],[],[]⟩)],
 [],[]⟩
def zJQ (zaa:(Sl Gate)) (zgz:Bool):St:=⟨[(0,.one (.c (.p (.sl zaa.len 3 (fun i=>enc_55 (zaa.get i)))))),(18,.one (.c (.p (.bool zgz))))],[],[]⟩
def zmt (K:List PA→Prop) (zaa:(Sl Gate)) (zgz:Bool):Prop:=vc Try.prog G55 zaT (cdF Try.f55 [1,0,0,1]) (sqK Try.prog G55 zaT (cdF Try.f55 [1,0,1]) (zb3 (zci Try.prog Try.f55 K))) (zJQ zaa zgz)
def zJR (zaa:(Sl Gate)):St:=⟨[(0,.one (.c (.p (.sl zaa.len 3 (fun i=>enc_55 (zaa.get i))))))],[],[]⟩
def zmu (K:List PA→Prop) (zaa:(Sl Gate)):Prop:=vc Try.prog G55 zaT (cdF Try.f55 [1,0,1]) (zb3 (zci Try.prog Try.f55 K)) (zJR zaa)
def zJS (zaa:(Sl Gate)) (zj9:Nat) (zel:Nat→List PV):St:=⟨[(0,.one (.c (.p (.sl zaa.len 3 (fun i=>enc_55 (zaa.get i)))))),(5,.one (.c (.p (.sl zj9 1 zel))))],[],[]⟩
def zmv (K:List PA→Prop) (zaa:(Sl Gate)) (zj9:Nat) (zel:Nat→List PV):Prop:=vc Try.prog G55 zaT (cdF Try.f55 [1,0,1,1]) (zb3 (zci Try.prog Try.f55 K)) (zJS zaa zj9 zel)
def zhc (zaa:(Sl Gate)) (zab:(Sl Mp)) (zba:(List (List Int))) (zaB:Int):St:=⟨[(0,.one (.c (.p (.sl zaa.len 3 (fun i=>enc_55 (zaa.get i)))))),(5,.one (.c (.p (.sl zab.len 1 (fun i=>zcA (zab.get i)))))),(6,.one (.c (.p (.int .i64 zaB)))),(24,.one (.c (.ptr 24 0)))],[(24,.mit (true,2,false,[some .i64]) ((zab.get 0).n) ((zab.get 0).F) zba)],[]⟩
def zka (K:List PA→Prop) (zaa:(Sl Gate)) (zab:(Sl Mp)) (zba:(List (List Int))) (zaB:Int):Prop:=vc Try.prog G55 zaT (cdF Try.f55 [1,0,1,1,1,0,1,0]) (zaY 0 (sqK Try.prog G55 zaT (cdF Try.f55 [1,0,1,1,1,1]) (zb3 (zci Try.prog Try.f55 K)))) (zhc zaa zab zba zaB)
def zJT (zaa:(Sl Gate)) (zab:(Sl Mp)) (zde:Int):St:=⟨[(0,.one (.c (.p (.sl zaa.len 3 (fun i=>enc_55 (zaa.get i)))))),(5,.one (.c (.p (.sl zab.len 1 (fun i=>zcA (zab.get i)))))),(6,.one (.c (.p (.int .i64 zde))))],[],[]⟩
def zmw (K:List PA→Prop) (zaa:(Sl Gate)) (zab:(Sl Mp)) (zde:Int):Prop:=vc Try.prog G55 zaT (cdF Try.f55 [1,0,1,1,1,1]) (zb3 (zci Try.prog Try.f55 K)) (zJT zaa zab zde)
def zix (zaa:(Sl Gate)) (zab:(Sl Mp)) (zaN:Int) (pv5:Int):St:=⟨[(0,.one (.c (.p (.sl zaa.len 3 (fun i=>enc_55 (zaa.get i)))))),(5,.one (.c (.p (.sl zab.len 1 (fun i=>zcA (zab.get i)))))),(6,.one (.c (.p (.int .i64 zaN)))),(9,.one (.c (.p (.nils)))),(10,.one (.c (.p (.int .i64 pv5))))],[],[]⟩
def zkb (K:List PA→Prop) (zaa:(Sl Gate)) (zab:(Sl Mp)) (zaN:Int) (pv5:Int):Prop:=vc Try.prog G55 zaT (cdF Try.f55 [1,0,1,1,1,1,1,1,0,1,0]) (zaY 2 (sqK Try.prog G55 zaT (cdF Try.f55 [1,0,1,1,1,1,1,1,1]) (zb3 (zci Try.prog Try.f55 K)))) (zix zaa zab zaN pv5)
def zkc (zaa:(Sl Gate)) (zab:(Sl Mp)) (zaI:Int) (pv6:Int) (qv6:Int):St:=⟨[(0,.one (.c (.p (.sl zaa.len 3 (fun i=>enc_55 (zaa.get i)))))),(5,.one (.c (.p (.sl zab.len 1 (fun i=>zcA (zab.get i)))))),(6,.one (.c (.p (.int .i64 zaI)))),(9,.one (.c (.p (.nils)))),(10,.one (.c (.p (.int .i64 pv6)))),(11,.one (.c (.p (.int .i64 qv6))))],[],[]⟩
def zkd (K:List PA→Prop) (X5:St→Prop) (zaa:(Sl Gate)) (zab:(Sl Mp)) (zaI:Int) (pv6:Int) (qv6:Int):Prop:=vc Try.prog G55 zaT (cdF Try.f55 [1,0,1,1,1,1,1,1,0,1,0,0,1,0,0,1,0]) (zaY 4 (zaY 3 (sqK Try.prog G55 zaT (cdF Try.f55 [1,0,1,1,1,1,1,1,0,1,0,0,1,1]) (zdV Try.prog zaT 12 X5 (zaY 2 (sqK Try.prog G55 zaT (cdF Try.f55 [1,0,1,1,1,1,1,1,1]) (zb3 (zci Try.prog Try.f55 K)))))))) (zkc zaa zab zaI pv6 qv6)
def zJU (zaa:(Sl Gate)) (zab:(Sl Mp)) (zdf:Int) (zqa:Nat) (zhJ:Nat→List PV):St:=⟨[(0,.one (.c (.p (.sl zaa.len 3 (fun i=>enc_55 (zaa.get i)))))),(5,.one (.c (.p (.sl zab.len 1 (fun i=>zcA (zab.get i)))))),(6,.one (.c (.p (.int .i64 zdf)))),(9,.one (.c (.vec 72)))],[(72,.vec 3 1 8 zqa zhJ)],[]⟩
def zke (K:List PA→Prop) (zaa:(Sl Gate)) (zab:(Sl Mp)) (zdf:Int) (zqa:Nat) (zhJ:Nat→List PV):Prop:=vc Try.prog G55 zaT (cdF Try.f55 [1,0,1,1,1,1,1,1,1]) (zb3 (zci Try.prog Try.f55 K)) (zJU zaa zab zdf zqa zhJ)
def zf6 (zaa:(Sl Gate)) (zab:(Sl Mp)) (zaK:Int) (iv8:Int) (zfn:Nat) (zbv:Nat→List PV):St:=⟨[(0,.one (.c (.p (.sl zaa.len 3 (fun i=>enc_55 (zaa.get i)))))),(5,.one (.c (.p (.sl zab.len 1 (fun i=>zcA (zab.get i)))))),(6,.one (.c (.p (.int .i64 zaK)))),(9,.one (.c (.vec 72))),(12,.one (.c (.p (.int .i64 iv8))))],[(72,.vec 3 1 8 zfn zbv)],[]⟩
def zkf (K:List PA→Prop) (zaa:(Sl Gate)) (zab:(Sl Mp)) (zaK:Int) (iv8:Int) (zfn:Nat) (zbv:Nat→List PV):Prop:=vc Try.prog G55 zaT (cdF Try.f55 [1,0,1,1,1,1,1,1,1,0,1,0]) (zaY 6 (sqK Try.prog G55 zaT (cdF Try.f55 [1,0,1,1,1,1,1,1,1,1]) (zb3 (zci Try.prog Try.f55 K)))) (zf6 zaa zab zaK iv8 zfn zbv)
def ziy (zaa:(Sl Gate)) (zab:(Sl Mp)) (zaz:Int) (iv9:Int) (pv9:Int) (qv9:Int) (rv9:Int) (zfo:Nat) (zbD:Nat→List PV):St:=⟨[(0,.one (.c (.p (.sl zaa.len 3 (fun i=>enc_55 (zaa.get i)))))),(5,.one (.c (.p (.sl zab.len 1 (fun i=>zcA (zab.get i)))))),(6,.one (.c (.p (.int .i64 zaz)))),(9,.one (.c (.vec 72))),(12,.one (.c (.p (.int .i64 iv9)))),(13,.one (.c (.p (.int .i64 pv9)))),(14,.one (.c (.p (.int .i64 qv9)))),(15,.one (.c (.p (.int .i64 rv9))))],[(72,.vec 3 1 8 zfo zbD)],[]⟩
def zkg (K:List PA→Prop) (X8:St→Prop) (zaa:(Sl Gate)) (zab:(Sl Mp)) (zaz:Int) (iv9:Int) (pv9:Int) (qv9:Int) (rv9:Int) (zfo:Nat) (zbD:Nat→List PV):Prop:=vc Try.prog G55 zaT (cdF Try.f55 [1,0,1,1,1,1,1,1,1,0,1,0,0,1,0,0,1,1,0]) (zaY 8 (zaY 7 (sqK Try.prog G55 zaT (cdF Try.f55 [1,0,1,1,1,1,1,1,1,0,1,0,0,1,1]) (zdV Try.prog zaT 20 X8 (zaY 6 (sqK Try.prog G55 zaT (cdF Try.f55 [1,0,1,1,1,1,1,1,1,1]) (zb3 (zci Try.prog Try.f55 K)))))))) (ziy zaa zab zaz iv9 pv9 qv9 rv9 zfo zbD)
def zFB (zaa:(Sl Gate)) (zab:(Sl Mp)) (zbL:Int) (zhh:Int) (zoF:Int) (zoG:Int) (zkH:Int) (zcn:Bool) (zmx:Nat) (zfP:Nat→List PV):St:=⟨[(0,.one (.c (.p (.sl zaa.len 3 (fun i=>enc_55 (zaa.get i)))))),(5,.one (.c (.p (.sl zab.len 1 (fun i=>zcA (zab.get i)))))),(6,.one (.c (.p (.int .i64 zbL)))),(9,.one (.c (.vec 72))),(12,.one (.c (.p (.int .i64 zhh)))),(13,.one (.c (.p (.int .i64 zoF)))),(14,.one (.c (.p (.int .i64 zoG)))),(15,.one (.c (.p (.int .i64 zkH)))),(138,.one (.c (.p (.bool zcn))))],[(72,.vec 3 1 8 zmx zfP)],[]⟩
def zhd (K:List PA→Prop) (X8:St→Prop) (X9:St→Prop) (zaa:(Sl Gate)) (zab:(Sl Mp)) (zbL:Int) (zhh:Int) (zoF:Int) (zoG:Int) (zkH:Int) (zcn:Bool) (zmx:Nat) (zfP:Nat→List PV):Prop:=vc Try.prog G55 zaT (cdF Try.f55 [1,0,1,1,1,1,1,1,1,0,1,0,0,1,0,0,1,1,0,0,1,0,0,1]) (zaY 9 (sqK Try.prog G55 zaT (cdF Try.f55 [1,0,1,1,1,1,1,1,1,0,1,0,0,1,0,0,1,1,0,0,1,1]) (zdV Try.prog zaT 24 X9 (zaY 8 (zaY 7 (sqK Try.prog G55 zaT (cdF Try.f55 [1,0,1,1,1,1,1,1,1,0,1,0,0,1,1]) (zdV Try.prog zaT 20 X8 (zaY 6 (sqK Try.prog G55 zaT (cdF Try.f55 [1,0,1,1,1,1,1,1,1,1]) (zb3 (zci Try.prog Try.f55 K))))))))))) (zFB zaa zab zbL zhh zoF zoG zkH zcn zmx zfP)
theorem zFC (zaa : (Sl Gate)) (K : List PA → Prop) :
  vcFun Try.prog G55 zaT 55 [.one (.sl zaa.len 3 (fun i=>enc_55 (zaa.get i)))] K =
  ((IsE enc_55 3 3 (fun i=>enc_55 (zaa.get i))∧(p92 zaa=true)) ∧
 (zmt K zaa (!(s92 zaa)))):=by kernel_rfl
theorem zFD (K : List PA → Prop) (zaa : (Sl Gate)) (zgz : Bool) :
  zmt K zaa zgz =
  (zcW zgz
 (K [.one (.nils),.one (.int .i64 (0:Int)),.one (.int .i64 (2:Int))])
 (zmu K zaa)):=by kernel_rfl
theorem zFE (K : List PA → Prop) (zaa : (Sl Gate)) :
  zmu K zaa =
  ((IsE enc_55 3 3 (fun i=>enc_55 (zaa.get i))∧(p93 zaa=true)) ∧
 (zmv K zaa ((s93 zaa).len) (fun i=>zcA ((s93 zaa).get i)))):=by kernel_rfl
theorem zFF (K : List PA → Prop) (zaa : (Sl Gate)) (zab : (Sl Mp)) :
  zmv K zaa zab.len (fun i=>zcA (zab.get i)) =
  (((0≤(0:Int)∧(0:Int) < (zab.len:Int))) ∧
 (zka K zaa zab ([]) (-1:Int))):=by kernel_rfl
def zom (K:List PA→Prop) (X3:St→Prop) (zaa:(Sl Gate)) (zab:(Sl Mp)) (zba:(List (List Int))) (zaB:Int):Prop :=
  (zHT 2 ((zab.get 0).n) ((zab.get 0).F) →
 ((∀ c:List Int,c.length=2→((zab.get 0).F) c ≠ none→c∈zba) →
 (zmw K zaa zab zaB))∧∀ k24_0 k24_1:Int,((zab.get 0).F) [k24_0,k24_1] ≠ none→[k24_0,k24_1] ∉ zba →
 (zcW (decide (zaB < (0:Int)))
 (X3 (zhc zaa zab ([k24_0,k24_1] :: zba) (zdQ (((zab.get 0).F) [k24_0,k24_1]) 0)))
 (zcW (decide ((zdQ (((zab.get 0).F) [k24_0, k24_1]) 0) < zaB))
 (X3 (zhc zaa zab ([k24_0,k24_1] :: zba) (zdQ (((zab.get 0).F) [k24_0,k24_1]) 0)))
 (X3 (zhc zaa zab ([k24_0,k24_1] :: zba) zaB)))))
theorem zqb (K : List PA → Prop) (X3 : St → Prop) (zaa : (Sl Gate)) (zab : (Sl Mp)) (zba : (List (List Int))) (zaB : Int) :
  vc Try.prog G55 zaT (cd (cdF Try.f55 [1,0,1,1,1,0,1,0]) [0]) (zdV Try.prog zaT 6 X3 (zaY 0 (sqK Try.prog G55 zaT (cdF Try.f55 [1,0,1,1,1,1]) (zb3 (zci Try.prog Try.f55 K))))) (zhc zaa zab zba zaB) =
  zom K X3 zaa zab zba zaB:=by kernel_rfl
theorem zyh (K : List PA → Prop) (zaa : (Sl Gate)) (zab : (Sl Mp)) (zba : (List (List Int))) (zaB : Int)
  (h:∀ X3:St→Prop,(∀ (zba:(List (List Int))) (zaB:Int),zom K X3 zaa zab zba zaB→X3 (zhc zaa zab zba zaB))→X3 (zhc zaa zab zba zaB)) :
  zka K zaa zab zba zaB:=by
  have e:zka K zaa zab zba zaB=(∀ X:St→Prop,(∀ s,vc Try.prog G55 zaT (cd (cdF Try.f55 [1,0,1,1,1,0,1,0]) [0]) (zdV Try.prog zaT 6 X (zaY 0 (sqK Try.prog G55 zaT (cdF Try.f55 [1,0,1,1,1,1]) (zb3 (zci Try.prog Try.f55 K))))) s→X s)→X (zhc zaa zab zba zaB)):=by kernel_rfl
  refine zaw e ?_
  intro X hX
  refine h X ?_
  intro zba zaB hs
  refine hX _ ?_
  have e2:=zqb K X zaa zab zba zaB
  rw [e2]
  exact hs
theorem zFG (K : List PA → Prop) (zaa : (Sl Gate)) (zab : (Sl Mp)) (zde : Int) :
  zmw K zaa zab zde =
  (((0≤(0:Int)∧(0:Int) < (zaa.len:Int))) ∧
 (zkb K zaa zab zde ((zaa.get 0).Low))):=by kernel_rfl
def zon (K:List PA→Prop) (X5:St→Prop) (zaa:(Sl Gate)) (zab:(Sl Mp)) (zaN:Int) (pv5:Int):Prop :=
  (((0≤(0:Int)∧(0:Int) < (zaa.len:Int))) ∧
 (zcW (decide (pv5 ≤ (zaa.get 0).High))
 (((0≤(1:Int)∧(1:Int) < (zaa.len:Int))) ∧
 (zkd K X5 zaa zab zaN pv5 ((zaa.get 1).Low)))
 (zke K zaa zab zaN 0 (fun i=>zal ((fun _=>default) i)))))
theorem zqc (K : List PA → Prop) (X5 : St → Prop) (zaa : (Sl Gate)) (zab : (Sl Mp)) (zaN : Int) (pv5 : Int) :
  vc Try.prog G55 zaT (cd (cdF Try.f55 [1,0,1,1,1,1,1,1,0,1,0]) [0]) (zdV Try.prog zaT 12 X5 (zaY 2 (sqK Try.prog G55 zaT (cdF Try.f55 [1,0,1,1,1,1,1,1,1]) (zb3 (zci Try.prog Try.f55 K))))) (zix zaa zab zaN pv5) =
  zon K X5 zaa zab zaN pv5:=by kernel_rfl
theorem zyi (K : List PA → Prop) (zaa : (Sl Gate)) (zab : (Sl Mp)) (zaN : Int) (pv5 : Int)
  (h:∀ X5:St→Prop,(∀ (zaN:Int) (pv5:Int),zon K X5 zaa zab zaN pv5→X5 (zix zaa zab zaN pv5))→X5 (zix zaa zab zaN pv5)) :
  zkb K zaa zab zaN pv5:=by
  have e:zkb K zaa zab zaN pv5=(∀ X:St→Prop,(∀ s,vc Try.prog G55 zaT (cd (cdF Try.f55 [1,0,1,1,1,1,1,1,0,1,0]) [0]) (zdV Try.prog zaT 12 X (zaY 2 (sqK Try.prog G55 zaT (cdF Try.f55 [1,0,1,1,1,1,1,1,1]) (zb3 (zci Try.prog Try.f55 K))))) s→X s)→X (zix zaa zab zaN pv5)):=by kernel_rfl
  refine zaw e ?_
  intro X hX
  refine h X ?_
  intro zaN pv5 hs
  refine hX _ ?_
  have e2:=zqc K X zaa zab zaN pv5
  rw [e2]
  exact hs
def zoo (K:List PA→Prop) (X5:St→Prop) (X6:St→Prop) (zaa:(Sl Gate)) (zab:(Sl Mp)) (zaI:Int) (pv6:Int) (qv6:Int):Prop :=
  (((0≤(1:Int)∧(1:Int) < (zaa.len:Int))) ∧
 (zcW (decide (qv6 ≤ (zaa.get 1).High))
 (((0≤(0:Int)∧(0:Int) < (zab.len:Int))) ∧
 (zcW ((zdQ (((zab.get 0).F) [pv6, qv6]) 0) == zaI)
 (zke K zaa zab zaI 2 (zdg [(zal pv6),(zal qv6)]))
 (X6 (zkc zaa zab zaI pv6 (w64 (qv6+(1:Int)))))))
 (X5 (zix zaa zab zaI (w64 (pv6+(1:Int)))))))
theorem zqd (K : List PA → Prop) (X5 : St → Prop) (X6 : St → Prop) (zaa : (Sl Gate)) (zab : (Sl Mp)) (zaI : Int) (pv6 : Int) (qv6 : Int) :
  vc Try.prog G55 zaT (cd (cdF Try.f55 [1,0,1,1,1,1,1,1,0,1,0,0,1,0,0,1,0]) [0]) (zdV Try.prog zaT 15 X6 (zaY 4 (zaY 3 (sqK Try.prog G55 zaT (cdF Try.f55 [1,0,1,1,1,1,1,1,0,1,0,0,1,1]) (zdV Try.prog zaT 12 X5 (zaY 2 (sqK Try.prog G55 zaT (cdF Try.f55 [1,0,1,1,1,1,1,1,1]) (zb3 (zci Try.prog Try.f55 K))))))))) (zkc zaa zab zaI pv6 qv6) =
  zoo K X5 X6 zaa zab zaI pv6 qv6:=by kernel_rfl
theorem zyj (K : List PA → Prop) (X5 : St → Prop) (zaa : (Sl Gate)) (zab : (Sl Mp)) (zaI : Int) (pv6 : Int) (qv6 : Int)
  (h:∀ X6:St→Prop,(∀ (zaI:Int) (pv6:Int) (qv6:Int),zoo K X5 X6 zaa zab zaI pv6 qv6→X6 (zkc zaa zab zaI pv6 qv6))→X6 (zkc zaa zab zaI pv6 qv6)) :
  zkd K X5 zaa zab zaI pv6 qv6:=by
  have e:zkd K X5 zaa zab zaI pv6 qv6=(∀ X:St→Prop,(∀ s,vc Try.prog G55 zaT (cd (cdF Try.f55 [1,0,1,1,1,1,1,1,0,1,0,0,1,0,0,1,0]) [0]) (zdV Try.prog zaT 15 X (zaY 4 (zaY 3 (sqK Try.prog G55 zaT (cdF Try.f55 [1,0,1,1,1,1,1,1,0,1,0,0,1,1]) (zdV Try.prog zaT 12 X5 (zaY 2 (sqK Try.prog G55 zaT (cdF Try.f55 [1,0,1,1,1,1,1,1,1]) (zb3 (zci Try.prog Try.f55 K))))))))) s→X s)→X (zkc zaa zab zaI pv6 qv6)):=by kernel_rfl
  refine zaw e ?_
  intro X hX
  refine h X ?_
  intro zaI pv6 qv6 hs
  refine hX _ ?_
  have e2:=zqd K X5 X zaa zab zaI pv6 qv6
  rw [e2]
  exact hs
theorem zFH (K : List PA → Prop) (zaa : (Sl Gate)) (zab : (Sl Mp)) (zdf : Int) (zfY : (Sl Int)) :
  zke K zaa zab zdf zfY.len (fun i=>zal (zfY.get i)) =
  (zkf K zaa zab zdf (2:Int) zfY.len (fun i=>zal (zfY.get i))):=by kernel_rfl
def zop (K:List PA→Prop) (X8:St→Prop) (zaa:(Sl Gate)) (zab:(Sl Mp)) (zaK:Int) (iv8:Int) (zaS:(Sl Int)):Prop :=
  (zcW (decide (iv8 < (zaa.len : Int)))
 (((0≤(w64 (iv8 - (2:Int)))∧(w64 (iv8 - (2:Int))) < (zaS.len:Int))) ∧
 ((((w64 (iv8 - (2:Int))).toNat < zaS.len)) ∧
 (((0≤(w64 (iv8 - (1:Int)))∧(w64 (iv8 - (1:Int))) < (zaS.len:Int))) ∧
 ((((w64 (iv8 - (1:Int))).toNat < zaS.len)) ∧
 (((0≤iv8∧iv8 < (zaa.len:Int))) ∧
 (zkg K X8 zaa zab zaK iv8 (zaS.get ((w64 (iv8 - (2:Int))).toNat)) (zaS.get ((w64 (iv8 - (1:Int))).toNat)) ((zaa.get iv8.toNat).Low) zaS.len (fun i=>zal (zaS.get i))))))))
 (K [.one (.sl zaS.len 1 (fun i=>zal (zaS.get i))),.one (.int .i64 zaK),.one (.int .i64 (0:Int))]))
theorem zqe (K : List PA → Prop) (X8 : St → Prop) (zaa : (Sl Gate)) (zab : (Sl Mp)) (zaK : Int) (iv8 : Int) (zaS : (Sl Int)) :
  vc Try.prog G55 zaT (cd (cdF Try.f55 [1,0,1,1,1,1,1,1,1,0,1,0]) [0]) (zdV Try.prog zaT 20 X8 (zaY 6 (sqK Try.prog G55 zaT (cdF Try.f55 [1,0,1,1,1,1,1,1,1,1]) (zb3 (zci Try.prog Try.f55 K))))) (zf6 zaa zab zaK iv8 zaS.len (fun i=>zal (zaS.get i))) =
  zop K X8 zaa zab zaK iv8 zaS:=by kernel_rfl
theorem zyk (K : List PA → Prop) (zaa : (Sl Gate)) (zab : (Sl Mp)) (zaK : Int) (iv8 : Int) (zfn : Nat) (zbv : Nat → List PV)
  (h:∀ X8:St→Prop,(∀ (zaK:Int) (iv8:Int) (zaS:(Sl Int)),zop K X8 zaa zab zaK iv8 zaS→X8 (zf6 zaa zab zaK iv8 zaS.len (fun i=>zal (zaS.get i))))→X8 (zf6 zaa zab zaK iv8 zfn zbv)) :
  zkf K zaa zab zaK iv8 zfn zbv:=by
  have e:zkf K zaa zab zaK iv8 zfn zbv=(∀ X:St→Prop,(∀ s,vc Try.prog G55 zaT (cd (cdF Try.f55 [1,0,1,1,1,1,1,1,1,0,1,0]) [0]) (zdV Try.prog zaT 20 X (zaY 6 (sqK Try.prog G55 zaT (cdF Try.f55 [1,0,1,1,1,1,1,1,1,1]) (zb3 (zci Try.prog Try.f55 K))))) s→X s)→X (zf6 zaa zab zaK iv8 zfn zbv)):=by kernel_rfl
  refine zaw e ?_
  intro X hX
  refine h X ?_
  intro zaK iv8 zaS hs
  refine hX _ ?_
  have e2:=zqe K X zaa zab zaK iv8 zaS
  rw [e2]
  exact hs
def zoq (K:List PA→Prop) (X8:St→Prop) (X9:St→Prop) (zaa:(Sl Gate)) (zab:(Sl Mp)) (zaz:Int) (iv9:Int) (pv9:Int) (qv9:Int) (rv9:Int) (zbc:(Sl Int)):Prop :=
  (((0≤iv9∧iv9 < (zaa.len:Int))) ∧
 (zcW (decide (rv9 ≤ (zaa.get iv9.toNat).High))
 (((0≤(w64 (iv9 - (2:Int)))∧(w64 (iv9 - (2:Int))) < (zaa.len:Int))) ∧
 (((0≤(w64 (iv9 - (1:Int)))∧(w64 (iv9 - (1:Int))) < (zaa.len:Int))) ∧
 (((0≤iv9∧iv9 < (zaa.len:Int))) ∧
 (((p85 ((zaa.get ((w64 (iv9 - (2:Int))).toNat)).Z) ((zaa.get ((w64 (iv9 - (1:Int))).toNat)).Z) ((zaa.get iv9.toNat).Z) pv9 qv9 rv9=true)) ∧
 (zcW (decide ((s85 ((zaa.get ((w64 (iv9 - (2:Int))).toNat)).Z) ((zaa.get ((w64 (iv9 - (1:Int))).toNat)).Z) ((zaa.get iv9.toNat).Z) pv9 qv9 rv9) ≤ zaz))
 (((0≤(w64 (iv9 - (1:Int)))∧(w64 (iv9 - (1:Int))) < (zab.len:Int))) ∧
 (zhd K X8 X9 zaa zab zaz iv9 pv9 qv9 rv9 (decide ((zdQ (((zab.get ((w64 (iv9 - (1:Int))).toNat)).F) [qv9,rv9]) 0)≤zaz)) zbc.len (fun i=>zal (zbc.get i))))
 (zhd K X8 X9 zaa zab zaz iv9 pv9 qv9 rv9 false zbc.len (fun i=>zal (zbc.get i))))))))
 (X8 (zf6 zaa zab zaz (w64 (iv9+(1:Int))) zbc.len (fun i=>zal (zbc.get i))))))
theorem zqf (K : List PA → Prop) (X8 : St → Prop) (X9 : St → Prop) (zaa : (Sl Gate)) (zab : (Sl Mp)) (zaz : Int) (iv9 : Int) (pv9 : Int) (qv9 : Int) (rv9 : Int) (zbc : (Sl Int)) :
  vc Try.prog G55 zaT (cd (cdF Try.f55 [1,0,1,1,1,1,1,1,1,0,1,0,0,1,0,0,1,1,0]) [0]) (zdV Try.prog zaT 24 X9 (zaY 8 (zaY 7 (sqK Try.prog G55 zaT (cdF Try.f55 [1,0,1,1,1,1,1,1,1,0,1,0,0,1,1]) (zdV Try.prog zaT 20 X8 (zaY 6 (sqK Try.prog G55 zaT (cdF Try.f55 [1,0,1,1,1,1,1,1,1,1]) (zb3 (zci Try.prog Try.f55 K))))))))) (ziy zaa zab zaz iv9 pv9 qv9 rv9 zbc.len (fun i=>zal (zbc.get i))) =
  zoq K X8 X9 zaa zab zaz iv9 pv9 qv9 rv9 zbc:=by kernel_rfl
theorem zyl (K : List PA → Prop) (X8 : St → Prop) (zaa : (Sl Gate)) (zab : (Sl Mp)) (zaz : Int) (iv9 : Int) (pv9 : Int) (qv9 : Int) (rv9 : Int) (zfo : Nat) (zbD : Nat → List PV)
  (h:∀ X9:St→Prop,(∀ (zaz:Int) (iv9:Int) (pv9:Int) (qv9:Int) (rv9:Int) (zbc:(Sl Int)),zoq K X8 X9 zaa zab zaz iv9 pv9 qv9 rv9 zbc→X9 (ziy zaa zab zaz iv9 pv9 qv9 rv9 zbc.len (fun i=>zal (zbc.get i))))→X9 (ziy zaa zab zaz iv9 pv9 qv9 rv9 zfo zbD)) :
  zkg K X8 zaa zab zaz iv9 pv9 qv9 rv9 zfo zbD:=by
  have e:zkg K X8 zaa zab zaz iv9 pv9 qv9 rv9 zfo zbD=(∀ X:St→Prop,(∀ s,vc Try.prog G55 zaT (cd (cdF Try.f55 [1,0,1,1,1,1,1,1,1,0,1,0,0,1,0,0,1,1,0]) [0]) (zdV Try.prog zaT 24 X (zaY 8 (zaY 7 (sqK Try.prog G55 zaT (cdF Try.f55 [1,0,1,1,1,1,1,1,1,0,1,0,0,1,1]) (zdV Try.prog zaT 20 X8 (zaY 6 (sqK Try.prog G55 zaT (cdF Try.f55 [1,0,1,1,1,1,1,1,1,1]) (zb3 (zci Try.prog Try.f55 K))))))))) s→X s)→X (ziy zaa zab zaz iv9 pv9 qv9 rv9 zfo zbD)):=by kernel_rfl
  refine zaw e ?_
  intro X hX
  refine h X ?_
  intro zaz iv9 pv9 qv9 rv9 zbc hs
  refine hX _ ?_
  have e2:=zqf K X8 X zaa zab zaz iv9 pv9 qv9 rv9 zbc
  rw [e2]
  exact hs
theorem zBn (K : List PA → Prop) (X8 : St → Prop) (X9 : St → Prop) (zaa : (Sl Gate)) (zab : (Sl Mp)) (zbL : Int) (zhh : Int) (zoF : Int) (zoG : Int) (zkH : Int) (zcn : Bool) (zbi : (Sl Int)) :
  zhd K X8 X9 zaa zab zbL zhh zoF zoG zkH zcn zbi.len (fun i=>zal (zbi.get i)) =
  (zcW zcn
 ((((zbi.len+1) * 8≤140737488355328∧zbi.len+1≤9223372036854775807)) ∧
 (X8 (zf6 zaa zab zbL (w64 (zhh+(1:Int))) (zbi.len+1) (appG zbi.len (fun i=>zal (zbi.get i)) (fun _=>(zal zkH))))))
 (X9 (ziy zaa zab zbL zhh zoF zoG (w64 (zkH+(1:Int))) zbi.len (fun i=>zal (zbi.get i))))):=by kernel_rfl
abbrev e55 (r:((Sl Int)×Int×Int)):List PA:=[.one (.sl r.1.len 1 (fun i=>zal (r.1.get i))),.one (.int .i64 r.2.1),.one (.int .i64 r.2.2)]
attribute [irreducible] zmt zmu zmv zka zmw zkb zkd zke zkf zkg zhd
def zi1 (S8:Int→Int→(Sl Int)→((Sl Int)×Int×Int)) (S9:Int→Int→Int→Int→Int→(Sl Int)→((Sl Int)×Int×Int)) (zaa:(Sl Gate)) (zab:(Sl Mp)) (zbL:Int) (zhh:Int) (zoF:Int) (zoG:Int) (zkH:Int) (zcn:Bool) (zbi:(Sl Int)):((Sl Int)×Int×Int) :=
  (cond zcn
 (S8 zbL (w64 (zhh+(1:Int))) (⟨(zbi.len+1),(zdX zbi.len zbi.get (fun _=>zkH))⟩:Sl Int))
 (S9 zbL zhh zoF zoG (w64 (zkH+(1:Int))) zbi))
def zi2 (P8:Int→Int→(Sl Int)→Bool) (P9:Int→Int→Int→Int→Int→(Sl Int)→Bool) (zaa:(Sl Gate)) (zab:(Sl Mp)) (zbL:Int) (zhh:Int) (zoF:Int) (zoG:Int) (zkH:Int) (zcn:Bool) (zbi:(Sl Int)):Bool :=
  (cond zcn
 (decide (((zbi.len+1) * 8≤140737488355328∧zbi.len+1≤9223372036854775807)) &&
 (P8 zbL (w64 (zhh+(1:Int))) (⟨(zbi.len+1),(zdX zbi.len zbi.get (fun _=>zkH))⟩:Sl Int)))
 (P9 zbL zhh zoF zoG (w64 (zkH+(1:Int))) zbi))
theorem zsG (K : List PA → Prop) (zaa : (Sl Gate)) (zab : (Sl Mp))
  (X8:St→Prop) (P8:Int→Int→(Sl Int)→Bool) (S8:Int→Int→(Sl Int)→((Sl Int)×Int×Int))
  (hX8:∀ (zaK:Int) (iv8:Int) (zaS:(Sl Int)) (zbv:Nat→List PV) (zgA:zbv=fun i=>zal (zaS.get i)),P8 zaK iv8 zaS=true→K (e55 (S8 zaK iv8 zaS))→X8 (zf6 zaa zab zaK iv8 zaS.len zbv))
  (X9:St→Prop) (P9:Int→Int→Int→Int→Int→(Sl Int)→Bool) (S9:Int→Int→Int→Int→Int→(Sl Int)→((Sl Int)×Int×Int))
  (hX9:∀ (zaz:Int) (iv9:Int) (pv9:Int) (qv9:Int) (rv9:Int) (zbc:(Sl Int)) (zbD:Nat→List PV) (zhK:zbD=fun i=>zal (zbc.get i)),P9 zaz iv9 pv9 qv9 rv9 zbc=true→K (e55 (S9 zaz iv9 pv9 qv9 rv9 zbc))→X9 (ziy zaa zab zaz iv9 pv9 qv9 rv9 zbc.len zbD)) (zbL:Int) (zhh:Int) (zoF:Int) (zoG:Int) (zkH:Int) (zcn:Bool) (zbi:(Sl Int)) (zfP:Nat→List PV) (zBo:zfP=fun i=>zal (zbi.get i)) (hs:zi2 P8 P9 zaa zab zbL zhh zoF zoG zkH zcn zbi=true) (hk:K (e55 (zi1 S8 S9 zaa zab zbL zhh zoF zoG zkH zcn zbi))):zhd (Wk K) X8 X9 zaa zab zbL zhh zoF zoG zkH zcn zbi.len zfP:=by
  subst zBo
  refine zaw (zBn (Wk K) X8 X9 zaa zab zbL zhh zoF zoG zkH zcn zbi) ?_
  unfold zi2 at hs
  unfold zi1 at hk
  exact (zcb (K := fun r => K (e55 r))
 (fun hs hk=>(zau hs fun hc hs=>⟨hc,(hX8 zbL (w64 (zhh+(1:Int))) (⟨(zbi.len+1),(zdX zbi.len zbi.get (fun _=>zkH))⟩:Sl Int) (appG zbi.len (fun i=>zal (zbi.get i)) (fun _=>(zal zkH))) (zeU (enc:=zal) (f:=zbi.get) (h:=(fun _=>zkH)) rfl rfl) hs hk)⟩))
 (fun hs hk=>(hX9 zbL zhh zoF zoG (w64 (zkH+(1:Int))) zbi (fun i=>zal (zbi.get i)) rfl hs hk)) hs hk)
def zqg (S8:Int→Int→(Sl Int)→((Sl Int)×Int×Int)) (zaa:(Sl Gate)) (zab:(Sl Mp)) (S9:Int→Int→Int→Int→Int→(Sl Int)→((Sl Int)×Int×Int)) (zaz:Int) (iv9:Int) (pv9:Int) (qv9:Int) (rv9:Int) (zbc:(Sl Int)):((Sl Int)×Int×Int) :=
  (cond (decide (rv9 ≤ (zaa.get iv9.toNat).High))
 (cond (decide ((s85 ((zaa.get ((w64 (iv9 - (2:Int))).toNat)).Z) ((zaa.get ((w64 (iv9 - (1:Int))).toNat)).Z) ((zaa.get iv9.toNat).Z) pv9 qv9 rv9) ≤ zaz))
 (zi1 S8 S9 zaa zab zaz iv9 pv9 qv9 rv9 (decide ((zdQ (((zab.get ((w64 (iv9 - (1:Int))).toNat)).F) [qv9,rv9]) 0)≤zaz)) zbc)
 (zi1 S8 S9 zaa zab zaz iv9 pv9 qv9 rv9 false zbc))
 (S8 zaz (w64 (iv9+(1:Int))) zbc))
def zqh (P8:Int→Int→(Sl Int)→Bool) (zaa:(Sl Gate)) (zab:(Sl Mp)) (P9:Int→Int→Int→Int→Int→(Sl Int)→Bool) (zaz:Int) (iv9:Int) (pv9:Int) (qv9:Int) (rv9:Int) (zbc:(Sl Int)):Bool :=
  (decide ((0≤iv9∧iv9 < (zaa.len:Int))) &&
 (cond (decide (rv9 ≤ (zaa.get iv9.toNat).High))
 (decide ((0≤(w64 (iv9 - (2:Int)))∧(w64 (iv9 - (2:Int))) < (zaa.len:Int))) &&
 (decide ((0≤(w64 (iv9 - (1:Int)))∧(w64 (iv9 - (1:Int))) < (zaa.len:Int))) &&
 (decide ((0≤iv9∧iv9 < (zaa.len:Int))) &&
 (decide ((p85 ((zaa.get ((w64 (iv9 - (2:Int))).toNat)).Z) ((zaa.get ((w64 (iv9 - (1:Int))).toNat)).Z) ((zaa.get iv9.toNat).Z) pv9 qv9 rv9=true)) &&
 (cond (decide ((s85 ((zaa.get ((w64 (iv9 - (2:Int))).toNat)).Z) ((zaa.get ((w64 (iv9 - (1:Int))).toNat)).Z) ((zaa.get iv9.toNat).Z) pv9 qv9 rv9) ≤ zaz))
 (decide ((0≤(w64 (iv9 - (1:Int)))∧(w64 (iv9 - (1:Int))) < (zab.len:Int))) &&
 (zi2 P8 P9 zaa zab zaz iv9 pv9 qv9 rv9 (decide ((zdQ (((zab.get ((w64 (iv9 - (1:Int))).toNat)).F) [qv9,rv9]) 0)≤zaz)) zbc))
 (zi2 P8 P9 zaa zab zaz iv9 pv9 qv9 rv9 false zbc))))))
 (P8 zaz (w64 (iv9+(1:Int))) zbc)))
def zkh (S8 : Int → Int → (Sl Int) → ((Sl Int) × Int × Int)) (zaa : (Sl Gate)) (zab : (Sl Mp)) : Nat → Int → Int → Int → Int → Int → (Sl Int) → ((Sl Int) × Int × Int)
  | 0=>fun _ _ _ _ _ _=>default
  | k+1=>zqg S8 zaa zab (zkh S8 zaa zab k)
def zki (P8 : Int → Int → (Sl Int) → Bool) (zaa : (Sl Gate)) (zab : (Sl Mp)) : Nat → Int → Int → Int → Int → Int → (Sl Int) → Bool
  | 0=>fun _ _ _ _ _ _=>false
  | k+1=>zqh P8 zaa zab (zki P8 zaa zab k)
def zym (S8:Int→Int→(Sl Int)→((Sl Int)×Int×Int)) (zaa:(Sl Gate)) (zab:(Sl Mp)) (zaz:Int) (iv9:Int) (pv9:Int) (qv9:Int) (rv9:Int) (zbc:(Sl Int)):((Sl Int)×Int×Int):=zkh S8 zaa zab Fuel zaz iv9 pv9 qv9 rv9 zbc
def zyn (P8:Int→Int→(Sl Int)→Bool) (zaa:(Sl Gate)) (zab:(Sl Mp)) (zaz:Int) (iv9:Int) (pv9:Int) (qv9:Int) (rv9:Int) (zbc:(Sl Int)):Bool:=zki P8 zaa zab Fuel zaz iv9 pv9 qv9 rv9 zbc
theorem zFI (K : List PA → Prop) (zaa : (Sl Gate)) (zab : (Sl Mp))
  (X8:St→Prop) (P8:Int→Int→(Sl Int)→Bool) (S8:Int→Int→(Sl Int)→((Sl Int)×Int×Int))
  (hX8:∀ (zaK:Int) (iv8:Int) (zaS:(Sl Int)) (zbv:Nat→List PV) (zgA:zbv=fun i=>zal (zaS.get i)),P8 zaK iv8 zaS=true→K (e55 (S8 zaK iv8 zaS))→X8 (zf6 zaa zab zaK iv8 zaS.len zbv)) (zaz:Int) (iv9:Int) (pv9:Int) (qv9:Int) (rv9:Int) (zbc:(Sl Int)) (zbD:Nat→List PV) (zhK:zbD=fun i=>zal (zbc.get i)) (hs:zyn P8 zaa zab zaz iv9 pv9 qv9 rv9 zbc=true) (hk:K (e55 (zym S8 zaa zab zaz iv9 pv9 qv9 rv9 zbc))):zkg (Wk K) X8 zaa zab zaz iv9 pv9 qv9 rv9 zbc.len zbD:=by
  refine zyl (Wk K) X8 zaa zab zaz iv9 pv9 qv9 rv9 zbc.len zbD ?_
  intro X9 hstep
  have key:∀ (k:Nat) (zaz:Int) (iv9:Int) (pv9:Int) (qv9:Int) (rv9:Int) (zbc:(Sl Int)) (zbD:Nat→List PV) (zhK:zbD=fun i=>zal (zbc.get i)),zki P8 zaa zab k zaz iv9 pv9 qv9 rv9 zbc=true→K (e55 (zkh S8 zaa zab k zaz iv9 pv9 qv9 rv9 zbc))→X9 (ziy zaa zab zaz iv9 pv9 qv9 rv9 zbc.len zbD):=by
    intro k
    induction k with
    | zero=>intro zaz iv9 pv9 qv9 rv9 zbc zbD zhK hs;exact absurd hs Bool.false_ne_true
    | succ k ih =>
      intro zaz iv9 pv9 qv9 rv9 zbc zbD zhK hs hk
      subst zhK
      refine hstep zaz iv9 pv9 qv9 rv9 zbc ?_
      have hs:zqh P8 zaa zab (zki P8 zaa zab k) zaz iv9 pv9 qv9 rv9 zbc=true:=hs
      have hk:K (e55 (zqg S8 zaa zab (zkh S8 zaa zab k) zaz iv9 pv9 qv9 rv9 zbc)):=hk
      unfold zqh at hs
      unfold zqg at hk
      generalize zkh S8 zaa zab k=S9 at hk ih
      generalize zki P8 zaa zab k=P9 at hs ih
      have hX9:=ih
      exact (zau hs fun hc hs => ⟨hc, (zcb (K := fun r => K (e55 r))
 (fun hs hk => (zau hs fun hc hs => ⟨hc, (zau hs fun hc hs => ⟨hc, (zau hs fun hc hs => ⟨hc, (zau hs fun hc hs => ⟨hc, (zcb (K := fun r => K (e55 r))
 (fun hs hk=>(zau hs fun hc hs=>⟨hc,(zsG K zaa zab X8 P8 S8 hX8 X9 P9 S9 hX9 zaz iv9 pv9 qv9 rv9 (decide ((zdQ (((zab.get ((w64 (iv9 - (1:Int))).toNat)).F) [qv9,rv9]) 0)≤zaz)) zbc (fun i=>zal (zbc.get i)) rfl hs hk)⟩))
 (fun hs hk=>(zsG K zaa zab X8 P8 S8 hX8 X9 P9 S9 hX9 zaz iv9 pv9 qv9 rv9 false zbc (fun i=>zal (zbc.get i)) rfl hs hk)) hs hk)⟩)⟩)⟩)⟩))
 (fun hs hk=>(hX8 zaz (w64 (iv9+(1:Int))) zbc (fun i=>zal (zbc.get i)) rfl hs hk)) hs hk)⟩)
  exact key _ zaz iv9 pv9 qv9 rv9 zbc zbD zhK hs hk
def zqi (zaa:(Sl Gate)) (zab:(Sl Mp)) (S8:Int→Int→(Sl Int)→((Sl Int)×Int×Int)) (zaK:Int) (iv8:Int) (zaS:(Sl Int)):((Sl Int)×Int×Int) :=
  (cond (decide (iv8 < (zaa.len : Int)))
 (zym S8 zaa zab zaK iv8 (zaS.get ((w64 (iv8 - (2:Int))).toNat)) (zaS.get ((w64 (iv8 - (1:Int))).toNat)) ((zaa.get iv8.toNat).Low) zaS)
 (zaS,zaK,(0:Int)))
def zqj (zaa:(Sl Gate)) (zab:(Sl Mp)) (P8:Int→Int→(Sl Int)→Bool) (zaK:Int) (iv8:Int) (zaS:(Sl Int)):Bool :=
  (cond (decide (iv8 < (zaa.len : Int)))
 (decide ((0≤(w64 (iv8 - (2:Int)))∧(w64 (iv8 - (2:Int))) < (zaS.len:Int))) &&
 (decide (((w64 (iv8 - (2:Int))).toNat < zaS.len)) &&
 (decide ((0≤(w64 (iv8 - (1:Int)))∧(w64 (iv8 - (1:Int))) < (zaS.len:Int))) &&
 (decide (((w64 (iv8 - (1:Int))).toNat < zaS.len)) &&
 (decide ((0≤iv8∧iv8 < (zaa.len:Int))) &&
 (zyn P8 zaa zab zaK iv8 (zaS.get ((w64 (iv8 - (2:Int))).toNat)) (zaS.get ((w64 (iv8 - (1:Int))).toNat)) ((zaa.get iv8.toNat).Low) zaS))))))
 true)
def zkj (zaa : (Sl Gate)) (zab : (Sl Mp)) : Nat → Int → Int → (Sl Int) → ((Sl Int) × Int × Int)
  | 0=>fun _ _ _=>default
  | k+1=>zqi zaa zab (zkj zaa zab k)
def zkk (zaa : (Sl Gate)) (zab : (Sl Mp)) : Nat → Int → Int → (Sl Int) → Bool
  | 0=>fun _ _ _=>false
  | k+1=>zqj zaa zab (zkk zaa zab k)
def zyo (zaa:(Sl Gate)) (zab:(Sl Mp)) (zaK:Int) (iv8:Int) (zaS:(Sl Int)):((Sl Int)×Int×Int):=zkj zaa zab Fuel zaK iv8 zaS
def zyp (zaa:(Sl Gate)) (zab:(Sl Mp)) (zaK:Int) (iv8:Int) (zaS:(Sl Int)):Bool:=zkk zaa zab Fuel zaK iv8 zaS
theorem zFJ (K:List PA→Prop) (zaa:(Sl Gate)) (zab:(Sl Mp)) (zaK:Int) (iv8:Int) (zaS:(Sl Int)) (zbv:Nat→List PV) (zgA:zbv=fun i=>zal (zaS.get i)) (hs:zyp zaa zab zaK iv8 zaS=true) (hk:K (e55 (zyo zaa zab zaK iv8 zaS))):zkf (Wk K) zaa zab zaK iv8 zaS.len zbv:=by
  refine zyk (Wk K) zaa zab zaK iv8 zaS.len zbv ?_
  intro X8 hstep
  have key:∀ (k:Nat) (zaK:Int) (iv8:Int) (zaS:(Sl Int)) (zbv:Nat→List PV) (zgA:zbv=fun i=>zal (zaS.get i)),zkk zaa zab k zaK iv8 zaS=true→K (e55 (zkj zaa zab k zaK iv8 zaS))→X8 (zf6 zaa zab zaK iv8 zaS.len zbv):=by
    intro k
    induction k with
    | zero=>intro zaK iv8 zaS zbv zgA hs;exact absurd hs Bool.false_ne_true
    | succ k ih =>
      intro zaK iv8 zaS zbv zgA hs hk
      subst zgA
      refine hstep zaK iv8 zaS ?_
      have hs:zqj zaa zab (zkk zaa zab k) zaK iv8 zaS=true:=hs
      have hk:K (e55 (zqi zaa zab (zkj zaa zab k) zaK iv8 zaS)):=hk
      unfold zqj at hs
      unfold zqi at hk
      generalize zkj zaa zab k=S8 at hk ih
      generalize zkk zaa zab k=P8 at hs ih
      have hX8:=ih
      exact (zcb (K := fun r => K (e55 r))
 (fun hs hk=>(zau hs fun hc hs=>⟨hc,(zau hs fun hc hs=>⟨hc,(zau hs fun hc hs=>⟨hc,(zau hs fun hc hs=>⟨hc,(zau hs fun hc hs=>⟨hc,(zFI K zaa zab X8 P8 S8 hX8 zaK iv8 (zaS.get ((w64 (iv8 - (2:Int))).toNat)) (zaS.get ((w64 (iv8 - (1:Int))).toNat)) ((zaa.get iv8.toNat).Low) zaS (fun i=>zal (zaS.get i)) rfl hs hk)⟩)⟩)⟩)⟩)⟩))
 (fun hs hk=>(zed hk)) hs hk)
  exact key _ zaK iv8 zaS zbv zgA hs hk
def zmy (zaa:(Sl Gate)) (zab:(Sl Mp)) (zdf:Int) (zfY:(Sl Int)):((Sl Int)×Int×Int) :=
  (zyo zaa zab zdf (2:Int) zfY)
def zmz (zaa:(Sl Gate)) (zab:(Sl Mp)) (zdf:Int) (zfY:(Sl Int)):Bool :=
  (zyp zaa zab zdf (2:Int) zfY)
theorem zyq (K:List PA→Prop) (zaa:(Sl Gate)) (zab:(Sl Mp)) (zdf:Int) (zfY:(Sl Int)) (zhJ:Nat→List PV) (zFK:zhJ=fun i=>zal (zfY.get i)) (hs:zmz zaa zab zdf zfY=true) (hk:K (e55 (zmy zaa zab zdf zfY))):zke (Wk K) zaa zab zdf zfY.len zhJ:=by
  subst zFK
  refine zaw (zFH (Wk K) zaa zab zdf zfY) ?_
  unfold zmz at hs
  unfold zmy at hk
  exact (zFJ K zaa zab zdf (2:Int) zfY (fun i=>zal (zfY.get i)) rfl hs hk)
def zqk (S5:Int→Int→((Sl Int)×Int×Int)) (zaa:(Sl Gate)) (zab:(Sl Mp)) (S6:Int→Int→Int→((Sl Int)×Int×Int)) (zaI:Int) (pv6:Int) (qv6:Int):((Sl Int)×Int×Int) :=
  (cond (decide (qv6 ≤ (zaa.get 1).High))
 (cond ((zdQ (((zab.get 0).F) [pv6, qv6]) 0) == zaI)
 (zmy zaa zab zaI (⟨2,(zi3 pv6 [pv6,qv6])⟩:Sl Int))
 (S6 zaI pv6 (w64 (qv6+(1:Int)))))
 (S5 zaI (w64 (pv6+(1:Int)))))
def zql (P5:Int→Int→Bool) (zaa:(Sl Gate)) (zab:(Sl Mp)) (P6:Int→Int→Int→Bool) (zaI:Int) (pv6:Int) (qv6:Int):Bool :=
  (decide ((0≤(1:Int)∧(1:Int) < (zaa.len:Int))) &&
 (cond (decide (qv6 ≤ (zaa.get 1).High))
 (decide ((0≤(0:Int)∧(0:Int) < (zab.len:Int))) &&
 (cond ((zdQ (((zab.get 0).F) [pv6, qv6]) 0) == zaI)
 (zmz zaa zab zaI (⟨2,(zi3 pv6 [pv6,qv6])⟩:Sl Int))
 (P6 zaI pv6 (w64 (qv6+(1:Int))))))
 (P5 zaI (w64 (pv6+(1:Int))))))
def zkl (S5 : Int → Int → ((Sl Int) × Int × Int)) (zaa : (Sl Gate)) (zab : (Sl Mp)) : Nat → Int → Int → Int → ((Sl Int) × Int × Int)
  | 0=>fun _ _ _=>default
  | k+1=>zqk S5 zaa zab (zkl S5 zaa zab k)
def zkm (P5 : Int → Int → Bool) (zaa : (Sl Gate)) (zab : (Sl Mp)) : Nat → Int → Int → Int → Bool
  | 0=>fun _ _ _=>false
  | k+1=>zql P5 zaa zab (zkm P5 zaa zab k)
def zyr (S5:Int→Int→((Sl Int)×Int×Int)) (zaa:(Sl Gate)) (zab:(Sl Mp)) (zaI:Int) (pv6:Int) (qv6:Int):((Sl Int)×Int×Int):=zkl S5 zaa zab Fuel zaI pv6 qv6
def zys (P5:Int→Int→Bool) (zaa:(Sl Gate)) (zab:(Sl Mp)) (zaI:Int) (pv6:Int) (qv6:Int):Bool:=zkm P5 zaa zab Fuel zaI pv6 qv6
theorem zFL (K : List PA → Prop) (zaa : (Sl Gate)) (zab : (Sl Mp))
  (X5:St→Prop) (P5:Int→Int→Bool) (S5:Int→Int→((Sl Int)×Int×Int))
  (hX5:∀ (zaN:Int) (pv5:Int),P5 zaN pv5=true→K (e55 (S5 zaN pv5))→X5 (zix zaa zab zaN pv5)) (zaI:Int) (pv6:Int) (qv6:Int) (hs:zys P5 zaa zab zaI pv6 qv6=true) (hk:K (e55 (zyr S5 zaa zab zaI pv6 qv6))):zkd (Wk K) X5 zaa zab zaI pv6 qv6:=by
  refine zyj (Wk K) X5 zaa zab zaI pv6 qv6 ?_
  intro X6 hstep
  have key:∀ (k:Nat) (zaI:Int) (pv6:Int) (qv6:Int),zkm P5 zaa zab k zaI pv6 qv6=true→K (e55 (zkl S5 zaa zab k zaI pv6 qv6))→X6 (zkc zaa zab zaI pv6 qv6):=by
    intro k
    induction k with
    | zero=>intro zaI pv6 qv6 hs;exact absurd hs Bool.false_ne_true
    | succ k ih =>
      intro zaI pv6 qv6 hs hk
      refine hstep zaI pv6 qv6 ?_
      have hs:zql P5 zaa zab (zkm P5 zaa zab k) zaI pv6 qv6=true:=hs
      have hk:K (e55 (zqk S5 zaa zab (zkl S5 zaa zab k) zaI pv6 qv6)):=hk
      unfold zql at hs
      unfold zqk at hk
      generalize zkl S5 zaa zab k=S6 at hk ih
      generalize zkm P5 zaa zab k=P6 at hs ih
      have hX6:=ih
      exact (zau hs fun hc hs => ⟨hc, (zcb (K := fun r => K (e55 r))
 (fun hs hk => (zau hs fun hc hs => ⟨hc, (zcb (K := fun r => K (e55 r))
 (fun hs hk=>(zyq K zaa zab zaI (⟨2,(zi3 pv6 [pv6,qv6])⟩:Sl Int) (zdg [(zal pv6),(zal qv6)]) (zex (enc:=zal) (x:=pv6) (y:=qv6) (r:=[])) hs hk))
 (fun hs hk=>(hX6 zaI pv6 (w64 (qv6+(1:Int))) hs hk)) hs hk)⟩))
 (fun hs hk=>(hX5 zaI (w64 (pv6+(1:Int))) hs hk)) hs hk)⟩)
  exact key _ zaI pv6 qv6 hs hk
def zqm (zaa:(Sl Gate)) (zab:(Sl Mp)) (S5:Int→Int→((Sl Int)×Int×Int)) (zaN:Int) (pv5:Int):((Sl Int)×Int×Int) :=
  (cond (decide (pv5 ≤ (zaa.get 0).High))
 (zyr S5 zaa zab zaN pv5 ((zaa.get 1).Low))
 (zmy zaa zab zaN (⟨0,(fun _=>default)⟩:Sl Int)))
def zqn (zaa:(Sl Gate)) (zab:(Sl Mp)) (P5:Int→Int→Bool) (zaN:Int) (pv5:Int):Bool :=
  (decide ((0≤(0:Int)∧(0:Int) < (zaa.len:Int))) &&
 (cond (decide (pv5 ≤ (zaa.get 0).High))
 (decide ((0≤(1:Int)∧(1:Int) < (zaa.len:Int))) &&
 (zys P5 zaa zab zaN pv5 ((zaa.get 1).Low)))
 (zmz zaa zab zaN (⟨0,(fun _=>default)⟩:Sl Int))))
def zkn (zaa : (Sl Gate)) (zab : (Sl Mp)) : Nat → Int → Int → ((Sl Int) × Int × Int)
  | 0=>fun _ _=>default
  | k+1=>zqm zaa zab (zkn zaa zab k)
def zko (zaa : (Sl Gate)) (zab : (Sl Mp)) : Nat → Int → Int → Bool
  | 0=>fun _ _=>false
  | k+1=>zqn zaa zab (zko zaa zab k)
def zyt (zaa:(Sl Gate)) (zab:(Sl Mp)) (zaN:Int) (pv5:Int):((Sl Int)×Int×Int):=zkn zaa zab Fuel zaN pv5
def zyu (zaa:(Sl Gate)) (zab:(Sl Mp)) (zaN:Int) (pv5:Int):Bool:=zko zaa zab Fuel zaN pv5
theorem zFM (K:List PA→Prop) (zaa:(Sl Gate)) (zab:(Sl Mp)) (zaN:Int) (pv5:Int) (hs:zyu zaa zab zaN pv5=true) (hk:K (e55 (zyt zaa zab zaN pv5))):zkb (Wk K) zaa zab zaN pv5:=by
  refine zyi (Wk K) zaa zab zaN pv5 ?_
  intro X5 hstep
  have key:∀ (k:Nat) (zaN:Int) (pv5:Int),zko zaa zab k zaN pv5=true→K (e55 (zkn zaa zab k zaN pv5))→X5 (zix zaa zab zaN pv5):=by
    intro k
    induction k with
    | zero=>intro zaN pv5 hs;exact absurd hs Bool.false_ne_true
    | succ k ih =>
      intro zaN pv5 hs hk
      refine hstep zaN pv5 ?_
      have hs:zqn zaa zab (zko zaa zab k) zaN pv5=true:=hs
      have hk:K (e55 (zqm zaa zab (zkn zaa zab k) zaN pv5)):=hk
      unfold zqn at hs
      unfold zqm at hk
      generalize zkn zaa zab k=S5 at hk ih
      generalize zko zaa zab k=P5 at hs ih
      have hX5:=ih
      exact (zau hs fun hc hs => ⟨hc, (zcb (K := fun r => K (e55 r))
 (fun hs hk=>(zau hs fun hc hs=>⟨hc,(zFL K zaa zab X5 P5 S5 hX5 zaN pv5 ((zaa.get 1).Low) hs hk)⟩))
 (fun hs hk=>(zyq K zaa zab zaN (⟨0,(fun _=>default)⟩:Sl Int) (fun i=>zal ((fun _=>default) i)) rfl hs hk)) hs hk)⟩)
  exact key _ zaN pv5 hs hk
def zqo (zaa:(Sl Gate)) (zab:(Sl Mp)) (zde:Int):((Sl Int)×Int×Int) :=
  (zyt zaa zab zde ((zaa.get 0).Low))
def zqp (zaa:(Sl Gate)) (zab:(Sl Mp)) (zde:Int):Bool :=
  (decide ((0≤(0:Int)∧(0:Int) < (zaa.len:Int))) &&
 (zyu zaa zab zde ((zaa.get 0).Low)))
theorem zFN (K:List PA→Prop) (zaa:(Sl Gate)) (zab:(Sl Mp)) (zde:Int) (hs:zqp zaa zab zde=true) (hk:K (e55 (zqo zaa zab zde))):zmw (Wk K) zaa zab zde:=by
  refine zaw (zFG (Wk K) zaa zab zde) ?_
  unfold zqp at hs
  unfold zqo at hk
  exact (zau hs fun hc hs=>⟨hc,(zFM K zaa zab zde ((zaa.get 0).Low) hs hk)⟩)
def zmA (zaa:(Sl Gate)) (zab:(Sl Mp)) (zaB:Int):((Sl Int)×Int×Int) :=
  (zqo zaa zab zaB)
def zmB (zaa:(Sl Gate)) (zab:(Sl Mp)) (zaB:Int):Bool :=
  (zqp zaa zab zaB)
def zkp (zaa:(Sl Gate)) (zab:(Sl Mp)) (k24_0:Int) (k24_1:Int) (S3:Int→((Sl Int)×Int×Int)) (zaB:Int):((Sl Int)×Int×Int) :=
  (cond (decide (zaB < (0:Int)))
 (S3 (zdQ (((zab.get 0).F) [k24_0,k24_1]) 0))
 (cond (decide ((zdQ (((zab.get 0).F) [k24_0, k24_1]) 0) < zaB))
 (S3 (zdQ (((zab.get 0).F) [k24_0,k24_1]) 0))
 (S3 zaB)))
def zkq (zaa:(Sl Gate)) (zab:(Sl Mp)) (k24_0:Int) (k24_1:Int) (P3:Int→Bool) (zaB:Int):Bool :=
  (cond (decide (zaB < (0:Int)))
 (P3 (zdQ (((zab.get 0).F) [k24_0,k24_1]) 0))
 (cond (decide ((zdQ (((zab.get 0).F) [k24_0, k24_1]) 0) < zaB))
 (P3 (zdQ (((zab.get 0).F) [k24_0,k24_1]) 0))
 (P3 zaB)))
def zeJ (zaa : (Sl Gate)) (zab : (Sl Mp)) : List (List Int) → Int → ((Sl Int) × Int × Int)
  | []=>zmA zaa zab
  | y :: r=>zkp zaa zab (y.getD 0 0) (y.getD 1 0) (zeJ zaa zab r)
def zeK (zaa : (Sl Gate)) (zab : (Sl Mp)) : List (List Int) → Int → Bool
  | []=>zmB zaa zab
  | y :: r=>zkq zaa zab (y.getD 0 0) (y.getD 1 0) (zeK zaa zab r)
def zfp (_gates:Sl Gate) (t:Sl Mp) (ys:List (List Int)):Bool:=ys.all fun y=>decide (0≤zdQ ((t.get 0).F y) 0)
theorem zFO (zaa:Sl Gate) (t:Sl Mp):∀ (y:List Int) (r:List (List Int)),zfp zaa t (y :: r)=true→zfp zaa t r=true:=fun y r h=>by
  simp only [zfp,List.all_cons,Bool.and_eq_true] at h ⊢;exact h.2
def kst (F:List Int→Option (List Int)) (k:Int) (y:List Int):Int:=if k < 0 then zdQ (F y) 0 else if zdQ (F y) 0 < k then zdQ (F y) 0 else k
theorem zsH (F:List Int→Option (List Int)) {ys zs:List (List Int)} (h:∀ y∈ys,0≤zdQ (F y) 0) (hp:ys.Perm zs) (k:Int):ys.foldl (kst F) k=zs.foldl (kst F) k:=by
  refine hp.foldl_eq' (fun x hx y hy z=>?_) k
  have h1:=h x hx
  have h2:=h y hy
  unfold kst
  repeat' split
  all_goals omega
theorem zqq (zaa : Sl Gate) (t : Sl Mp) : ∀ (ys : List (List Int)) (k : Int), (∀ y ∈ ys, y.length = 2) → zeJ zaa t ys k = zmA zaa t (ys.foldl (kst (t.get 0).F) k)
  | [],k,_=>rfl
  | y :: r,k,h=>by
    have hy:=h y List.mem_cons_self
    match y,hy with
    | [a,b],_ =>
    have ih:=fun k=>zqq zaa t r k (fun z hz=>h z (List.mem_cons_of_mem _ hz))
    show zkp zaa t a b (zeJ zaa t r) k=_
    rw [List.foldl_cons]
    unfold zkp
    by_cases h1:k < 0
    · rw [decide_eq_true h1,cond_true,ih,show kst (t.get 0).F k [a,b]=zdQ ((t.get 0).F [a,b]) 0 from if_pos h1]
    · rw [decide_eq_false h1, cond_false]
      by_cases h2:zdQ ((t.get 0).F [a,b]) 0 < k
      · rw [decide_eq_true h2,cond_true,ih,show kst (t.get 0).F k [a,b]=zdQ ((t.get 0).F [a,b]) 0 from (if_neg h1).trans (if_pos h2)]
      · rw [decide_eq_false h2,cond_false,ih,show kst (t.get 0).F k [a,b]=k from (if_neg h1).trans (if_neg h2)]
theorem zqr (zaa : Sl Gate) (t : Sl Mp) : ∀ (ys : List (List Int)) (k : Int), (∀ y ∈ ys, y.length = 2) → zeK zaa t ys k = zmB zaa t (ys.foldl (kst (t.get 0).F) k)
  | [],k,_=>rfl
  | y :: r,k,h=>by
    have hy:=h y List.mem_cons_self
    match y,hy with
    | [a,b],_ =>
    have ih:=fun k=>zqr zaa t r k (fun z hz=>h z (List.mem_cons_of_mem _ hz))
    show zkq zaa t a b (zeK zaa t r) k=_
    rw [List.foldl_cons]
    unfold zkq
    by_cases h1:k < 0
    · rw [decide_eq_true h1,cond_true,ih,show kst (t.get 0).F k [a,b]=zdQ ((t.get 0).F [a,b]) 0 from if_pos h1]
    · rw [decide_eq_false h1, cond_false]
      by_cases h2:zdQ ((t.get 0).F [a,b]) 0 < k
      · rw [decide_eq_true h2,cond_true,ih,show kst (t.get 0).F k [a,b]=zdQ ((t.get 0).F [a,b]) 0 from (if_neg h1).trans (if_pos h2)]
      · rw [decide_eq_false h2,cond_false,ih,show kst (t.get 0).F k [a,b]=k from (if_neg h1).trans (if_neg h2)]
theorem zFP (zaa : Sl Gate) (t : Sl Mp) (ys zs : List (List Int)) (hl : ∀ y ∈ ys, y.length = 2) (h : zfp zaa t ys = true) (hp : ys.Perm zs) :
    zfp zaa t zs=true∧zeJ zaa t ys=zeJ zaa t zs∧zeK zaa t ys=zeK zaa t zs:=by
  simp only [zfp,List.all_eq_true,decide_eq_true_eq] at h ⊢
  have hl2:∀ y∈zs,y.length=2:=fun y hy=>hl y (hp.mem_iff.2 hy)
  refine ⟨fun y hy=>h y (hp.mem_iff.2 hy),funext fun k=>?_,funext fun k=>?_⟩
  · rw [zqq zaa t ys k hl,zqq zaa t zs k hl2,zsH _ h hp]
  · rw [zqr zaa t ys k hl,zqr zaa t zs k hl2,zsH _ h hp]
def zqs (zaa:(Sl Gate)) (zab:(Sl Mp)) (zaB:Int):((Sl Int)×Int×Int):=zeJ zaa zab (zol zaa) zaB
def zqu (zaa:(Sl Gate)) (zab:(Sl Mp)) (zaB:Int):Bool:=keysB 2 ((zab.get 0).n) ((zab.get 0).F) (zol zaa) && zfp zaa zab (zol zaa) && zeK zaa zab (zol zaa) zaB
theorem zFQ (K:List PA→Prop) (zaa:(Sl Gate)) (zab:(Sl Mp)) (zaB:Int) (hs:zqu zaa zab zaB=true) (hk:K (e55 (zqs zaa zab zaB))):zka (Wk K) zaa zab [] zaB:=by
  unfold zqu at hs
  rw [Bool.and_eq_true,Bool.and_eq_true] at hs
  obtain ⟨⟨hkeys,hI⟩,hs⟩:=hs
  unfold zqs at hk
  generalize hys:zol zaa=ys0 at hkeys hI hs hk
  refine zyh (Wk K) zaa zab [] zaB ?_
  intro X3 hstep
  have key:∀ (N:Nat) (ys:List (List Int)) (seen:List (List Int)) (zaB:Int),ys.length=N→(zHT 2 ((zab.get 0).n) ((zab.get 0).F)→zIk 2 ((zab.get 0).F) seen ys)→zfp zaa zab ys=true→zeK zaa zab ys zaB=true→K (e55 (zeJ zaa zab ys zaB))→X3 (zhc zaa zab seen zaB):=by
    intro N
    induction N with
    | zero =>
      intro ys seen zaB hN hrem hI hs hk
      obtain rfl:=List.eq_nil_of_length_eq_zero hN
      refine hstep seen zaB ?_
      intro hfin
      have hrem:=hrem hfin
      refine ⟨fun _=>?_,fun k24_0 k24_1 hF hns=>absurd (hrem.2.2 [k24_0,k24_1] rfl hF hns) (by simp)⟩
      have hs:zmB zaa zab zaB=true:=hs
      have hk:K (e55 (zmA zaa zab zaB)):=hk
      unfold zmB at hs
      unfold zmA at hk
      exact (zFN K zaa zab zaB hs hk)
    | succ N ih =>
      intro ys seen zaB hN hrem hI hs hk
      refine hstep seen zaB ?_
      intro hfin
      have hrem:=hrem hfin
      refine ⟨fun hend=>?_,fun k24_0 k24_1 hF hns=>?_⟩
      · exact absurd (zDu hrem hend) (fun e=>by rw [e] at hN;simp at hN)
      · obtain ⟨hperm, hrem2, hlen⟩ := zAK hrem (c := [k24_0, k24_1]) rfl hF hns
        obtain ⟨hI2,e1,e2⟩:=zFP zaa zab ys _ (fun y hy=>(hrem.2.1 y hy).1) hI hperm
        have hI3:=zFO zaa zab _ _ hI2
        rw [e2] at hs
        rw [e1] at hk
        have hs:zkq zaa zab k24_0 k24_1 (zeK zaa zab (ys.erase [k24_0,k24_1])) zaB=true:=hs
        have hk:K (e55 (zkp zaa zab k24_0 k24_1 (zeJ zaa zab (ys.erase [k24_0,k24_1])) zaB)):=hk
        have ih:=fun (zaB:Int)=>ih (ys.erase [k24_0,k24_1]) ([k24_0,k24_1] :: seen) zaB (by omega) (fun _=>hrem2) hI3
        unfold zkq at hs
        unfold zkp at hk
        generalize zeJ zaa zab (ys.erase [k24_0,k24_1])=S3 at hk ih
        generalize zeK zaa zab (ys.erase [k24_0,k24_1])=P3 at hs ih
        have hX3:=ih
        exact (zcb (K := fun r => K (e55 r))
 (fun hs hk=>(hX3 (zdQ (((zab.get 0).F) [k24_0,k24_1]) 0) hs hk))
 (fun hs hk => (zcb (K := fun r => K (e55 r))
 (fun hs hk=>(hX3 (zdQ (((zab.get 0).F) [k24_0,k24_1]) 0) hs hk))
 (fun hs hk=>(hX3 zaB hs hk)) hs hk)) hs hk)
  exact key _ ys0 [] zaB rfl (fun hf=>zuV hkeys hf) hI hs hk
def zqv (zaa:(Sl Gate)) (zab:(Sl Mp)):((Sl Int)×Int×Int) :=
  (zqs zaa zab (-1:Int))
def zqw (zaa:(Sl Gate)) (zab:(Sl Mp)):Bool :=
  (decide ((0≤(0:Int)∧(0:Int) < (zab.len:Int))) &&
 (zqu zaa zab (-1:Int)))
theorem zFR (K:List PA→Prop) (zaa:(Sl Gate)) (zab:(Sl Mp)) (zel:Nat→List PV) (zyv:zel=fun i=>zcA (zab.get i)) (hs:zqw zaa zab=true) (hk:K (e55 (zqv zaa zab))):zmv (Wk K) zaa zab.len zel:=by
  subst zyv
  refine zaw (zFF (Wk K) zaa zab) ?_
  unfold zqw at hs
  unfold zqv at hk
  exact (zau hs fun hc hs=>⟨hc,(zFQ K zaa zab (-1:Int) hs hk)⟩)
def zqx (zaa:(Sl Gate)):((Sl Int)×Int×Int) :=
  (zqv zaa (s93 zaa))
def zqy (zaa:(Sl Gate)):Bool :=
  (decide ((p93 zaa=true)) &&
 (zqw zaa (s93 zaa)))
theorem zFS (K:List PA→Prop) (zaa:(Sl Gate)) (hs:zqy zaa=true) (hk:K (e55 (zqx zaa))):zmu (Wk K) zaa:=by
  refine zaw (zFE (Wk K) zaa) ?_
  unfold zqy at hs
  unfold zqx at hk
  exact (zau hs fun hc hs=>⟨⟨isE,hc⟩,(zFR K zaa (s93 zaa) (fun i=>zcA ((s93 zaa).get i)) rfl hs hk)⟩)
def zqz (zaa:(Sl Gate)) (zgz:Bool):((Sl Int)×Int×Int) :=
  (cond zgz
 ((⟨0,fun _=>default⟩:(Sl Int)),(0:Int),(2:Int))
 (zqx zaa))
def zqA (zaa:(Sl Gate)) (zgz:Bool):Bool :=
  (cond zgz
 true
 (zqy zaa))
theorem zFT (K:List PA→Prop) (zaa:(Sl Gate)) (zgz:Bool) (hs:zqA zaa zgz=true) (hk:K (e55 (zqz zaa zgz))):zmt (Wk K) zaa zgz:=by
  refine zaw (zFD (Wk K) zaa zgz) ?_
  unfold zqA at hs
  unfold zqz at hk
  exact (zcb (K := fun r => K (e55 r))
 (fun hs hk=>(wk hk (zc5 (.one (.nil _ _)) (zc5 (.one (.rfl _)) (zc5 (.one (.rfl _)) zhr)))))
 (fun hs hk=>(zFS K zaa hs hk)) hs hk)
def s55 (zaa:(Sl Gate)):((Sl Int)×Int×Int) :=
  (zqz zaa (!(s92 zaa)))
def p55 (zaa:(Sl Gate)):Bool :=
  (decide ((p92 zaa=true)) &&
 (zqA zaa (!(s92 zaa))))
theorem q55 (zaa:(Sl Gate)) (K:List PA→Prop) (hs:p55 zaa=true) (hk:K (e55 (s55 zaa))):vcFun Try.prog G55 zaT 55 [.one (.sl zaa.len 3 (fun i=>enc_55 (zaa.get i)))] (Wk K):=by
  refine zaw (zFC zaa (Wk K)) ?_
  unfold p55 at hs
  unfold s55 at hk
  exact (zau hs fun hc hs=>⟨⟨isE,hc⟩,(zFT K zaa (!(s92 zaa)) hs hk)⟩)
def zFU : List PA → COut
  | [.one (.sl a0_n a0_s a0_g)]=>.det (IsE enc_55 3 a0_s a0_g∧p55 (⟨a0_n,zad a0_g⟩:(Sl Gate))=true) [.one (.sl (((s55 (⟨a0_n,zad a0_g⟩:(Sl Gate))).1).len) 1 (fun i=>zal (((s55 (⟨a0_n,zad a0_g⟩:(Sl Gate))).1).get i))),.one (.int .i64 ((s55 (⟨a0_n,zad a0_g⟩:(Sl Gate))).2.1)),.one (.int .i64 ((s55 (⟨a0_n,zad a0_g⟩:(Sl Gate))).2.2))]
  | _=>.no
theorem zJV:zaf Try.prog 55:=⟨_,rfl,rfl,by kernel_rfl⟩
theorem zPm:Ok Try.prog 55 zFU:=zhs zMz zJV fun args K h=>by
  unfold zFU at h
  split at h
  · rename_i a0_n a0_s a0_g
    obtain ⟨⟨⟨rfl,a0_f,rfl⟩,hs⟩,hk⟩:=h
    try rw [zac a0_f] at hs
    try rw [zac a0_f] at hk
    exact ⟨_,ze6 zf5 _,(fun _ _=>[]),(fun _=>false),zaT,q55 (⟨a0_n,a0_f⟩:(Sl Gate)) K hs hk⟩
  · exact h.elim
abbrev T62:Tabs:=Tabs.nil
theorem zMA:TabsOk Try.prog T62:=TabsOk.nil
abbrev G62:Ctrs:=csm T62 (fun _ _=>[]) (fun _=>false)
def zJW:Ann:=⟨5,[(0,zK [] []),(1,zK [0] [4])],
 [],
 [],
 [],[]⟩
abbrev R62:=(Sl Gate)
abbrev e62 (r:R62):List PA:=[.one (.sl r.len 3 (fun i=>enc_55 (r.get i)))]
section
variable {K:List PA→Prop}
def s62:(Sl Gate) :=
  (⟨3,(zi3 (⟨(0:Int),(0:Int),(10:Int)⟩:Gate) [(⟨(0:Int),(0:Int),(10:Int)⟩:Gate),(⟨(100:Int),(20:Int),(30:Int)⟩:Gate),(⟨(200:Int),(30:Int),(60:Int)⟩:Gate)])⟩:(Sl Gate))
end
theorem q62 (K:List PA→Prop) (hk:K (e62 (s62))):vcFun Try.prog G62 zJW 62 [] K :=
  zaw (by kernel_rfl) (Eq.mpr (congrArg K (congrArg (fun (g_:Nat→List PV)=>([.one (.sl 3 3 g_)]:List PA)) (zex (enc:=enc_55) (x:=(⟨(0:Int),(0:Int),(10:Int)⟩:Gate)) (y:=(⟨(100:Int),(20:Int),(30:Int)⟩:Gate)) (r:=[(⟨(200:Int),(30:Int),(60:Int)⟩:Gate)])))) hk)
def zFV : List PA → COut
  | []=>.tot [.one (.sl ((s62).len) 3 (fun i=>enc_55 ((s62).get i)))]
  | _=>.no
theorem zJX:zaf Try.prog 62:=⟨_,rfl,rfl,by kernel_rfl⟩
theorem zPn:Ok Try.prog 62 zFV:=zay zMA zJX fun args K h=>by
  unfold zFV at h
  split at h
  · have hk := h
    exact ⟨(fun _ _=>[]),(fun _=>false),zJW,q62 K hk⟩
  · exact h.elim
abbrev T63:Tabs:=Tabs.nil
theorem zMB:TabsOk Try.prog T63:=TabsOk.nil
abbrev G63:Ctrs:=csm T63 (fun _ _=>[]) (fun _=>false)
def zJY:Ann:=⟨5,[(0,zK [] []),(1,zK [0] [4])],
 [],
 [],
 [],[]⟩
abbrev R63:=(Sl Gate)
abbrev e63 (r:R63):List PA:=[.one (.sl r.len 3 (fun i=>enc_55 (r.get i)))]
section
variable {K:List PA→Prop}
def s63:(Sl Gate) :=
  (⟨3,(zi3 (⟨(0:Int),(0:Int),(10:Int)⟩:Gate) [(⟨(0:Int),(0:Int),(10:Int)⟩:Gate),(⟨(100:Int),(20:Int),(30:Int)⟩:Gate),(⟨(200:Int),(0:Int),(9:Int)⟩:Gate)])⟩:(Sl Gate))
end
theorem q63 (K:List PA→Prop) (hk:K (e63 (s63))):vcFun Try.prog G63 zJY 63 [] K :=
  zaw (by kernel_rfl) (Eq.mpr (congrArg K (congrArg (fun (g_:Nat→List PV)=>([.one (.sl 3 3 g_)]:List PA)) (zex (enc:=enc_55) (x:=(⟨(0:Int),(0:Int),(10:Int)⟩:Gate)) (y:=(⟨(100:Int),(20:Int),(30:Int)⟩:Gate)) (r:=[(⟨(200:Int),(0:Int),(9:Int)⟩:Gate)])))) hk)
def zFW : List PA → COut
  | []=>.tot [.one (.sl ((s63).len) 3 (fun i=>enc_55 ((s63).get i)))]
  | _=>.no
theorem zJZ:zaf Try.prog 63:=⟨_,rfl,rfl,by kernel_rfl⟩
theorem zPo:Ok Try.prog 63 zFW:=zay zMB zJZ fun args K h=>by
  unfold zFW at h
  split at h
  · have hk := h
    exact ⟨(fun _ _=>[]),(fun _=>false),zJY,q63 K hk⟩
  · exact h.elim
abbrev T18:Tabs:=((((((((((Tabs.nil.addF 19 zEv).addF 30 zEJ).addF 31 zEY).addF 34 zE2).addF 38 zFj).addF 39 zFm).addF 40 zp8).addF 55 zFU).addF 62 zFV).addF 63 zFW)
theorem zMC:TabsOk Try.prog T18:=((((((((((TabsOk.nil.addF zOY).addF zO6).addF zPf).addF zPg).addF zPi).addF zPj).addF zJK).addF zPm).addF zPn).addF zPo)
abbrev G18:Ctrs:=csm T18 (fun _ _=>[]) (fun _=>false)
def zFX:Ann:=⟨125,[(0,zK [] []),(1,zK [1,2] []),(2,zK [1,2,3,4,5] [3,4]),(3,zK [1,2,3,4,5,6,7] [3,4]),(4,zK [1,2,3,4,5,6,7,8,9,10,11] [3,4,9,10]),(5,zK [1,2,3,4,5,6,7,8,9,10,11,12,13,14] [3,4,9,10]),(6,zK [1,3,4,6,9,10,12,76] [3,4,9,10]),(7,zK [0] []),(8,zK [1,3,4,6,9,10,12,15] [3,4,9,10,89]),(9,zK [0] [])],
 [],
 [(2,zK [1,2] []),(3,zK [1,2,3,4,5] [3,4]),(4,zK [1,2,3,4,5,6,7] [3,4]),(5,zK [1,2,3,4,5,6,7,8,9,10,11] [3,4,9,10]),(6,zK [1,2,3,4,5,6,7,8,9,10,11,12,13,14] [3,4,9,10]),(8,zK [1,3,4,6,9,10,12] [3,4,9,10]),(9,zK [1,3,4,6,9,10,12,15] [3,4,9,10,89])],
 [],[]⟩
abbrev R18:=Bool
abbrev e18 (r:R18):List PA:=[.one (.bool r)]
@[irreducible] def z18:=ptF Try.prog G18 zFX Try.f18
section
variable {K:List PA→Prop} {cv0:(Sl Line)} {ev0:Int} {zJ0:Nat→List PV} {fv1:Int} {zbF:Int} {zbG:Int} {zbH:Int} {zbI:Int} {sv2:(Sl Int)} {gv2:Int} {zJ1:Nat→List PV} {sv3:(Sl Int)} {zv3:Int} {hv3:Int} {zcI:Int} {zcJ:Int} {zcK:Int} {zcL:Int} {zJ2:Nat→List PV} {sv4:(Sl Int)} {lv4:(Sl Int)} {kv4:Int} {iv4:Int} {zJ3:Nat→List PV} {zJ4:Nat→List PV} {sv5:(Sl Int)} {zJ5:Nat→List PV} {sv6:(Sl Int)} {zkP:(Sl Line)} {zJ6:Nat→List PV} {zyw:Nat→List PV}
def zyx (cv0:(Sl Line)) (zbF:Int) (zbG:Int) (zbH:Int) (zbI:Int) (zcI:Int) (zcJ:Int) (zcK:Int) (zcL:Int) (lv4:(Sl Int)) (sv6:(Sl Int)) (zkP:(Sl Line)):Bool :=
  (cond (s34 cv0 zkP)
 (cond (match (zbF == (s40 (40:Int) (1:Int)).Num) with | true => (match (zbG == (s40 (40:Int) (1:Int)).Den) with | true => true | false => false) | false => false)
 (cond (match (zbH == (s40 (90:Int) (1:Int)).Num) with | true => (match (zbI == (s40 (90:Int) (1:Int)).Den) with | true => true | false => false) | false => false)
 (cond ((s39 sv6 (⟨3, zcN (zdg [(zal (0:Int)), (zal (1:Int)), (zal (2:Int))])⟩ : (Sl Int))) == (0:Int))
 (cond (match (zcI == (s40 (499:Int) (10:Int)).Num) with | true => (match (zcJ == (s40 (499:Int) (10:Int)).Den) with | true => true | false => false) | false => false)
 (cond (match (zcK == (s40 (501:Int) (10:Int)).Num) with | true => (match (zcL == (s40 (501:Int) (10:Int)).Den) with | true => true | false => false) | false => false)
 ((s39 lv4 (⟨3,zcN (zdg [(zal (2:Int)),(zal (5:Int)),(zal (2:Int))])⟩:(Sl Int))) == (0:Int))
 false)
 false)
 false)
 false)
 false)
 false)
def zyy (cv0:(Sl Line)) (zbF:Int) (zbG:Int) (zbH:Int) (zbI:Int) (zcI:Int) (zcJ:Int) (zcK:Int) (zcL:Int) (lv4:(Sl Int)) (sv6:(Sl Int)) (zkP:(Sl Line)):Bool :=
  (decide ((p34 cv0 zkP=true)) &&
 (cond (s34 cv0 zkP)
 (decide ((p40 (40:Int) (1:Int)=true)) &&
 (cond (match (zbF == (s40 (40:Int) (1:Int)).Num) with | true => (match (zbG == (s40 (40:Int) (1:Int)).Den) with | true => true | false => false) | false => false)
 (decide ((p40 (90:Int) (1:Int)=true)) &&
 (cond (match (zbH == (s40 (90:Int) (1:Int)).Num) with | true => (match (zbI == (s40 (90:Int) (1:Int)).Den) with | true => true | false => false) | false => false)
 (decide ((p39 sv6 (⟨3,zcN (zdg [(zal (0:Int)),(zal (1:Int)),(zal (2:Int))])⟩:(Sl Int))=true)) &&
 (cond ((s39 sv6 (⟨3, zcN (zdg [(zal (0:Int)), (zal (1:Int)), (zal (2:Int))])⟩ : (Sl Int))) == (0:Int))
 (decide ((p40 (499:Int) (10:Int)=true)) &&
 (cond (match (zcI == (s40 (499:Int) (10:Int)).Num) with | true => (match (zcJ == (s40 (499:Int) (10:Int)).Den) with | true => true | false => false) | false => false)
 (decide ((p40 (501:Int) (10:Int)=true)) &&
 (cond (match (zcK == (s40 (501:Int) (10:Int)).Num) with | true => (match (zcL == (s40 (501:Int) (10:Int)).Den) with | true => true | false => false) | false => false)
 (decide ((p39 lv4 (⟨3,zcN (zdg [(zal (2:Int)),(zal (5:Int)),(zal (2:Int))])⟩:(Sl Int))=true)) &&
 true)
 true))
 true))
 true))
 true))
 true))
 true))
theorem zFY (hs:zyy cv0 zbF zbG zbH zbI zcI zcJ zcK zcL lv4 sv6 zkP=true) (hk:K (e18 (zyx cv0 zbF zbG zbH zbI zcI zcJ zcK zcL lv4 sv6 zkP))) (zMD:zJ6=zg zal sv6) (zFZ:zyw=zg zav zkP):z18 K [1,1,1,1,1,1,1,1] [] ⟨[(1,zS zav 4 cv0),(3,zp 3 0),(4,zp 4 0),(6,zP (.sl sv6.len 1 zJ6)),(9,zp 9 0),(10,zp 10 0),(12,zS zal 1 lv4),(15,zv 89)],[(3,.box 25 (zm (zae (⟨zbF,zbG⟩:Frac)))),(4,.box 25 (zm (zae (⟨zbH,zbI⟩:Frac)))),(9,.box 25 (zm (zae (⟨zcI,zcJ⟩:Frac)))),(10,.box 25 (zm (zae (⟨zcK,zcL⟩:Frac)))),(89,.vec 37 4 32 zkP.len zyw)],[]⟩:=by subst zMD;subst zFZ;exact zaw (by kernel_rfl) (zau hs fun hc hs=>And.intro (And.intro (zE zav 4 cv0.get) (And.intro (zE zav 4 zkP.get) hc)) (zc hs hk (fun hs hk=>(zau hs fun hc hs=>And.intro hc (zc hs hk (fun hs hk=>(zau hs fun hc hs=>And.intro hc (zc hs hk (fun hs hk=>(zau hs fun hc hs=>And.intro (And.intro (zE zal 1 sv6.get) (And.intro ((zfG [(2:Int)]):IsE zal 1 1 (zdg [(zal (0:Int)),(zal (1:Int)),(zal (2:Int))])) hc)) (zc hs hk (fun hs hk=>(zau hs fun hc hs=>And.intro hc (zc hs hk (fun hs hk=>(zau hs fun hc hs=>And.intro hc (zc hs hk (fun hs hk=>(zau hs fun hc hs=>And.intro (And.intro (zE zal 1 lv4.get) (And.intro ((zfG [(2:Int)]):IsE zal 1 1 (zdg [(zal (2:Int)),(zal (5:Int)),(zal (2:Int))])) hc)) hk)) (fun hs hk=>hk)))) (fun hs hk=>hk)))) (fun hs hk=>hk)))) (fun hs hk=>hk)))) (fun hs hk=>hk)))) (fun hs hk=>hk)))
def zyz (cv0:(Sl Line)) (zbF:Int) (zbG:Int) (zbH:Int) (zbI:Int) (zcI:Int) (zcJ:Int) (zcK:Int) (zcL:Int) (lv4:(Sl Int)) (sv5:(Sl Int)):Bool :=
  (zyx cv0 zbF zbG zbH zbI zcI zcJ zcK zcL lv4 sv5 (⟨4,(zi3 (⟨(s40 (1:Int) (10:Int)),(s40 (10:Int) (1:Int))⟩:Line) [(⟨(s40 (1:Int) (10:Int)),(s40 (10:Int) (1:Int))⟩:Line),(⟨(s40 (1:Int) (5:Int)),(s40 (0:Int) (1:Int))⟩:Line),(⟨(s40 (3:Int) (10:Int)),(s40 (0:Int) (1:Int))⟩:Line),(⟨(s40 (1:Int) (5:Int)),(s40 (10:Int) (1:Int))⟩:Line)])⟩:Sl Line))
def zyA (cv0:(Sl Line)) (zbF:Int) (zbG:Int) (zbH:Int) (zbI:Int) (zcI:Int) (zcJ:Int) (zcK:Int) (zcL:Int) (lv4:(Sl Int)) (sv5:(Sl Int)):Bool :=
  (decide ((p40 (1:Int) (10:Int)=true)) &&
 (decide ((p40 (10:Int) (1:Int)=true)) &&
 (decide ((p40 (1:Int) (5:Int)=true)) &&
 (decide ((p40 (0:Int) (1:Int)=true)) &&
 (decide ((p40 (3:Int) (10:Int)=true)) &&
 (decide ((p40 (0:Int) (1:Int)=true)) &&
 (decide ((p40 (1:Int) (5:Int)=true)) &&
 (decide ((p40 (10:Int) (1:Int)=true)) &&
 (zyy cv0 zbF zbG zbH zbI zcI zcJ zcK zcL lv4 sv5 (⟨4,(zi3 (⟨(s40 (1:Int) (10:Int)),(s40 (10:Int) (1:Int))⟩:Line) [(⟨(s40 (1:Int) (10:Int)),(s40 (10:Int) (1:Int))⟩:Line),(⟨(s40 (1:Int) (5:Int)),(s40 (0:Int) (1:Int))⟩:Line),(⟨(s40 (3:Int) (10:Int)),(s40 (0:Int) (1:Int))⟩:Line),(⟨(s40 (1:Int) (5:Int)),(s40 (10:Int) (1:Int))⟩:Line)])⟩:Sl Line))))))))))
theorem zF0 (hs:zyA cv0 zbF zbG zbH zbI zcI zcJ zcK zcL lv4 sv5=true) (hk:K (e18 (zyz cv0 zbF zbG zbH zbI zcI zcJ zcK zcL lv4 sv5))) (zME:zJ5=zg zal sv5):z18 K [1,1,1,1,1,1,1] [] ⟨[(1,zS zav 4 cv0),(3,zp 3 0),(4,zp 4 0),(6,zP (.sl sv5.len 1 zJ5)),(9,zp 9 0),(10,zp 10 0),(12,zS zal 1 lv4)],[(3,.box 25 (zm (zae (⟨zbF,zbG⟩:Frac)))),(4,.box 25 (zm (zae (⟨zbH,zbI⟩:Frac)))),(9,.box 25 (zm (zae (⟨zcI,zcJ⟩:Frac)))),(10,.box 25 (zm (zae (⟨zcK,zcL⟩:Frac))))],[]⟩:=by subst zME;exact zaw (by kernel_rfl) (zau hs fun hc hs=>And.intro hc (zau hs fun hc hs=>And.intro hc (zau hs fun hc hs=>And.intro hc (zau hs fun hc hs=>And.intro hc (zau hs fun hc hs=>And.intro hc (zau hs fun hc hs=>And.intro hc (zau hs fun hc hs=>And.intro hc (zau hs fun hc hs=>And.intro hc (zFY hs hk rfl (zex (enc:=zav) (x:=(⟨(s40 (1:Int) (10:Int)),(s40 (10:Int) (1:Int))⟩:Line)) (y:=(⟨(s40 (1:Int) (5:Int)),(s40 (0:Int) (1:Int))⟩:Line)) (r:=[(⟨(s40 (3:Int) (10:Int)),(s40 (0:Int) (1:Int))⟩:Line),(⟨(s40 (1:Int) (5:Int)),(s40 (10:Int) (1:Int))⟩:Line)])))))))))))
def zyB (cv0:(Sl Line)) (ev0:Int) (fv1:Int) (zbF:Int) (zbG:Int) (zbH:Int) (zbI:Int) (gv2:Int) (zv3:Int) (hv3:Int) (zcI:Int) (zcJ:Int) (zcK:Int) (zcL:Int) (sv4:(Sl Int)) (lv4:(Sl Int)) (kv4:Int) (iv4:Int):Bool :=
  (cond (ev0 != (0:Int))
 false
 (cond (fv1 != (0:Int))
 false
 (cond (gv2 != (0:Int))
 false
 (cond (hv3 != (0:Int))
 false
 (cond (iv4 != (0:Int))
 false
 (cond (kv4 != (600:Int))
 false
 (cond (zv3 != (167:Int))
 false
 (zyz cv0 zbF zbG zbH zbI zcI zcJ zcK zcL lv4 sv4))))))))
def zyC (cv0:(Sl Line)) (ev0:Int) (fv1:Int) (zbF:Int) (zbG:Int) (zbH:Int) (zbI:Int) (gv2:Int) (zv3:Int) (hv3:Int) (zcI:Int) (zcJ:Int) (zcK:Int) (zcL:Int) (sv4:(Sl Int)) (lv4:(Sl Int)) (kv4:Int) (iv4:Int):Bool :=
  (cond (ev0 != (0:Int))
 true
 (cond (fv1 != (0:Int))
 true
 (cond (gv2 != (0:Int))
 true
 (cond (hv3 != (0:Int))
 true
 (cond (iv4 != (0:Int))
 true
 (cond (kv4 != (600:Int))
 true
 (cond (zv3 != (167:Int))
 true
 (zyA cv0 zbF zbG zbH zbI zcI zcJ zcK zcL lv4 sv4))))))))
theorem zF1 (hs:zyC cv0 ev0 fv1 zbF zbG zbH zbI gv2 zv3 hv3 zcI zcJ zcK zcL sv4 lv4 kv4 iv4=true) (hk:K (e18 (zyB cv0 ev0 fv1 zbF zbG zbH zbI gv2 zv3 hv3 zcI zcJ zcK zcL sv4 lv4 kv4 iv4))) (zMF:zJ3=zg zal sv4) (zMG:zJ4=zg zal lv4):z18 K [1,1,1,1,1,1] [] ⟨[(1,zS zav 4 cv0),(2,zI ev0),(3,zp 3 0),(4,zp 4 0),(5,zI fv1),(6,zP (.sl sv4.len 1 zJ3)),(7,zI gv2),(8,zI zv3),(9,zp 9 0),(10,zp 10 0),(11,zI hv3),(12,zP (.sl lv4.len 1 zJ4)),(13,zI kv4),(14,zI iv4)],[(3,.box 25 (zm (zae (⟨zbF,zbG⟩:Frac)))),(4,.box 25 (zm (zae (⟨zbH,zbI⟩:Frac)))),(9,.box 25 (zm (zae (⟨zcI,zcJ⟩:Frac)))),(10,.box 25 (zm (zae (⟨zcK,zcL⟩:Frac))))],[]⟩:=by subst zMF;subst zMG;exact zaw (by kernel_rfl) (zc hs hk (fun hs hk=>hk) (fun hs hk=>(zc hs hk (fun hs hk=>hk) (fun hs hk=>(zc hs hk (fun hs hk=>hk) (fun hs hk=>(zc hs hk (fun hs hk=>hk) (fun hs hk=>(zc hs hk (fun hs hk=>hk) (fun hs hk=>(zc hs hk (fun hs hk=>hk) (fun hs hk=>(zc hs hk (fun hs hk=>hk) (fun hs hk=>(zF0 hs hk rfl)))))))))))))))
def zyD (cv0:(Sl Line)) (ev0:Int) (fv1:Int) (zbF:Int) (zbG:Int) (zbH:Int) (zbI:Int) (gv2:Int) (sv3:(Sl Int)) (zv3:Int) (hv3:Int) (zcI:Int) (zcJ:Int) (zcK:Int) (zcL:Int):Bool :=
  (zyB cv0 ev0 fv1 zbF zbG zbH zbI gv2 zv3 hv3 zcI zcJ zcK zcL sv3 ((s55 (⟨3,zad (zdg [(enc_55 (⟨(0:Int),(0:Int),(2:Int)⟩:Gate)),(enc_55 (⟨(10:Int),(5:Int),(6:Int)⟩:Gate)),(enc_55 (⟨(20:Int),(0:Int),(2:Int)⟩:Gate))])⟩:(Sl Gate))).1) ((s55 (⟨3,zad (zdg [(enc_55 (⟨(0:Int),(0:Int),(2:Int)⟩:Gate)),(enc_55 (⟨(10:Int),(5:Int),(6:Int)⟩:Gate)),(enc_55 (⟨(20:Int),(0:Int),(2:Int)⟩:Gate))])⟩:(Sl Gate))).2.1) ((s55 (⟨3,zad (zdg [(enc_55 (⟨(0:Int),(0:Int),(2:Int)⟩:Gate)),(enc_55 (⟨(10:Int),(5:Int),(6:Int)⟩:Gate)),(enc_55 (⟨(20:Int),(0:Int),(2:Int)⟩:Gate))])⟩:(Sl Gate))).2.2))
def zyE (cv0:(Sl Line)) (ev0:Int) (fv1:Int) (zbF:Int) (zbG:Int) (zbH:Int) (zbI:Int) (gv2:Int) (sv3:(Sl Int)) (zv3:Int) (hv3:Int) (zcI:Int) (zcJ:Int) (zcK:Int) (zcL:Int):Bool :=
  (decide ((p55 (⟨3,zad (zdg [(enc_55 (⟨(0:Int),(0:Int),(2:Int)⟩:Gate)),(enc_55 (⟨(10:Int),(5:Int),(6:Int)⟩:Gate)),(enc_55 (⟨(20:Int),(0:Int),(2:Int)⟩:Gate))])⟩:(Sl Gate))=true)) &&
 (zyC cv0 ev0 fv1 zbF zbG zbH zbI gv2 zv3 hv3 zcI zcJ zcK zcL sv3 ((s55 (⟨3,zad (zdg [(enc_55 (⟨(0:Int),(0:Int),(2:Int)⟩:Gate)),(enc_55 (⟨(10:Int),(5:Int),(6:Int)⟩:Gate)),(enc_55 (⟨(20:Int),(0:Int),(2:Int)⟩:Gate))])⟩:(Sl Gate))).1) ((s55 (⟨3,zad (zdg [(enc_55 (⟨(0:Int),(0:Int),(2:Int)⟩:Gate)),(enc_55 (⟨(10:Int),(5:Int),(6:Int)⟩:Gate)),(enc_55 (⟨(20:Int),(0:Int),(2:Int)⟩:Gate))])⟩:(Sl Gate))).2.1) ((s55 (⟨3,zad (zdg [(enc_55 (⟨(0:Int),(0:Int),(2:Int)⟩:Gate)),(enc_55 (⟨(10:Int),(5:Int),(6:Int)⟩:Gate)),(enc_55 (⟨(20:Int),(0:Int),(2:Int)⟩:Gate))])⟩:(Sl Gate))).2.2)))
theorem zF2 (hs:zyE cv0 ev0 fv1 zbF zbG zbH zbI gv2 sv3 zv3 hv3 zcI zcJ zcK zcL=true) (hk:K (e18 (zyD cv0 ev0 fv1 zbF zbG zbH zbI gv2 sv3 zv3 hv3 zcI zcJ zcK zcL))) (zMH:zJ2=zg zal sv3):z18 K [1,1,1,1,1] [] ⟨[(1,zS zav 4 cv0),(2,zI ev0),(3,zp 3 0),(4,zp 4 0),(5,zI fv1),(6,zP (.sl sv3.len 1 zJ2)),(7,zI gv2),(8,zI zv3),(9,zp 9 0),(10,zp 10 0),(11,zI hv3)],[(3,.box 25 (zm (zae (⟨zbF,zbG⟩:Frac)))),(4,.box 25 (zm (zae (⟨zbH,zbI⟩:Frac)))),(9,.box 25 (zm (zae (⟨zcI,zcJ⟩:Frac)))),(10,.box 25 (zm (zae (⟨zcK,zcL⟩:Frac))))],[]⟩:=by subst zMH;exact zaw (by kernel_rfl) (zau hs fun hc hs=>And.intro (And.intro ((zfG [(⟨(20:Int),(0:Int),(2:Int)⟩:Gate)]):IsE enc_55 3 3 (zdg [(enc_55 (⟨(0:Int),(0:Int),(2:Int)⟩:Gate)),(enc_55 (⟨(10:Int),(5:Int),(6:Int)⟩:Gate)),(enc_55 (⟨(20:Int),(0:Int),(2:Int)⟩:Gate))])) hc) (zF1 hs hk rfl rfl))
def zyF (cv0:(Sl Line)) (ev0:Int) (fv1:Int) (zbF:Int) (zbG:Int) (zbH:Int) (zbI:Int) (sv2:(Sl Int)) (gv2:Int):Bool :=
  (zyD cv0 ev0 fv1 zbF zbG zbH zbI gv2 sv2 ((s19 s62 (⟨2,zad (zdg [(enc_55 (⟨(0:Int),(100:Int),(110:Int)⟩:Gate)),(enc_55 (⟨(200:Int),(40:Int),(50:Int)⟩:Gate))])⟩:(Sl Gate)) (0:Int) (300:Int)).1) ((s19 s62 (⟨2,zad (zdg [(enc_55 (⟨(0:Int),(100:Int),(110:Int)⟩:Gate)),(enc_55 (⟨(200:Int),(40:Int),(50:Int)⟩:Gate))])⟩:(Sl Gate)) (0:Int) (300:Int)).2.2.2) (((s19 s62 (⟨2,zad (zdg [(enc_55 (⟨(0:Int),(100:Int),(110:Int)⟩:Gate)),(enc_55 (⟨(200:Int),(40:Int),(50:Int)⟩:Gate))])⟩:(Sl Gate)) (0:Int) (300:Int)).2.1).Num) (((s19 s62 (⟨2,zad (zdg [(enc_55 (⟨(0:Int),(100:Int),(110:Int)⟩:Gate)),(enc_55 (⟨(200:Int),(40:Int),(50:Int)⟩:Gate))])⟩:(Sl Gate)) (0:Int) (300:Int)).2.1).Den) (((s19 s62 (⟨2,zad (zdg [(enc_55 (⟨(0:Int),(100:Int),(110:Int)⟩:Gate)),(enc_55 (⟨(200:Int),(40:Int),(50:Int)⟩:Gate))])⟩:(Sl Gate)) (0:Int) (300:Int)).2.2.1).Num) (((s19 s62 (⟨2,zad (zdg [(enc_55 (⟨(0:Int),(100:Int),(110:Int)⟩:Gate)),(enc_55 (⟨(200:Int),(40:Int),(50:Int)⟩:Gate))])⟩:(Sl Gate)) (0:Int) (300:Int)).2.2.1).Den))
def zyG (cv0:(Sl Line)) (ev0:Int) (fv1:Int) (zbF:Int) (zbG:Int) (zbH:Int) (zbI:Int) (sv2:(Sl Int)) (gv2:Int):Bool :=
  (decide ((p19 s62 (⟨2,zad (zdg [(enc_55 (⟨(0:Int),(100:Int),(110:Int)⟩:Gate)),(enc_55 (⟨(200:Int),(40:Int),(50:Int)⟩:Gate))])⟩:(Sl Gate)) (0:Int) (300:Int)=true)) &&
 (zyE cv0 ev0 fv1 zbF zbG zbH zbI gv2 sv2 ((s19 s62 (⟨2,zad (zdg [(enc_55 (⟨(0:Int),(100:Int),(110:Int)⟩:Gate)),(enc_55 (⟨(200:Int),(40:Int),(50:Int)⟩:Gate))])⟩:(Sl Gate)) (0:Int) (300:Int)).1) ((s19 s62 (⟨2,zad (zdg [(enc_55 (⟨(0:Int),(100:Int),(110:Int)⟩:Gate)),(enc_55 (⟨(200:Int),(40:Int),(50:Int)⟩:Gate))])⟩:(Sl Gate)) (0:Int) (300:Int)).2.2.2) (((s19 s62 (⟨2,zad (zdg [(enc_55 (⟨(0:Int),(100:Int),(110:Int)⟩:Gate)),(enc_55 (⟨(200:Int),(40:Int),(50:Int)⟩:Gate))])⟩:(Sl Gate)) (0:Int) (300:Int)).2.1).Num) (((s19 s62 (⟨2,zad (zdg [(enc_55 (⟨(0:Int),(100:Int),(110:Int)⟩:Gate)),(enc_55 (⟨(200:Int),(40:Int),(50:Int)⟩:Gate))])⟩:(Sl Gate)) (0:Int) (300:Int)).2.1).Den) (((s19 s62 (⟨2,zad (zdg [(enc_55 (⟨(0:Int),(100:Int),(110:Int)⟩:Gate)),(enc_55 (⟨(200:Int),(40:Int),(50:Int)⟩:Gate))])⟩:(Sl Gate)) (0:Int) (300:Int)).2.2.1).Num) (((s19 s62 (⟨2,zad (zdg [(enc_55 (⟨(0:Int),(100:Int),(110:Int)⟩:Gate)),(enc_55 (⟨(200:Int),(40:Int),(50:Int)⟩:Gate))])⟩:(Sl Gate)) (0:Int) (300:Int)).2.2.1).Den)))
theorem zF3 (hs:zyG cv0 ev0 fv1 zbF zbG zbH zbI sv2 gv2=true) (hk:K (e18 (zyF cv0 ev0 fv1 zbF zbG zbH zbI sv2 gv2))) (zMI:zJ1=zg zal sv2):z18 K [1,1,1,1] [] ⟨[(1,zS zav 4 cv0),(2,zI ev0),(3,zp 3 0),(4,zp 4 0),(5,zI fv1),(6,zP (.sl sv2.len 1 zJ1)),(7,zI gv2)],[(3,.box 25 (zm (zae (⟨zbF,zbG⟩:Frac)))),(4,.box 25 (zm (zae (⟨zbH,zbI⟩:Frac))))],[]⟩:=by subst zMI;exact zaw (by kernel_rfl) (zau hs fun hc hs=>And.intro (And.intro (zE enc_55 3 s62.get) (And.intro ((zfG []):IsE enc_55 3 3 (zdg [(enc_55 (⟨(0:Int),(100:Int),(110:Int)⟩:Gate)),(enc_55 (⟨(200:Int),(40:Int),(50:Int)⟩:Gate))])) hc)) (zF2 hs hk rfl))
def zyH (cv0:(Sl Line)) (ev0:Int) (fv1:Int) (zbF:Int) (zbG:Int) (zbH:Int) (zbI:Int):Bool :=
  (zyF cv0 ev0 fv1 zbF zbG zbH zbI ((s38 s63).1) ((s38 s63).2))
def zyI (cv0:(Sl Line)) (ev0:Int) (fv1:Int) (zbF:Int) (zbG:Int) (zbH:Int) (zbI:Int):Bool :=
  (decide ((p38 s63=true)) &&
 (zyG cv0 ev0 fv1 zbF zbG zbH zbI ((s38 s63).1) ((s38 s63).2)))
theorem zF4 (hs:zyI cv0 ev0 fv1 zbF zbG zbH zbI=true) (hk:K (e18 (zyH cv0 ev0 fv1 zbF zbG zbH zbI))):z18 K [1,1,1] [] ⟨[(1,zS zav 4 cv0),(2,zI ev0),(3,zp 3 0),(4,zp 4 0),(5,zI fv1)],[(3,.box 25 (zm (zae (⟨zbF,zbG⟩:Frac)))),(4,.box 25 (zm (zae (⟨zbH,zbI⟩:Frac))))],[]⟩:=zaw (by kernel_rfl) (zau hs fun hc hs=>And.intro (And.intro (zE enc_55 3 s63.get) hc) (zF3 hs hk rfl))
def zyJ (cv0:(Sl Line)) (ev0:Int):Bool :=
  (zyH cv0 ev0 ((s30 s62 (300:Int)).2.2) (((s30 s62 (300:Int)).1).Num) (((s30 s62 (300:Int)).1).Den) (((s30 s62 (300:Int)).2.1).Num) (((s30 s62 (300:Int)).2.1).Den))
def zyK (cv0:(Sl Line)) (ev0:Int):Bool :=
  (decide ((p30 s62 (300:Int)=true)) &&
 (zyI cv0 ev0 ((s30 s62 (300:Int)).2.2) (((s30 s62 (300:Int)).1).Num) (((s30 s62 (300:Int)).1).Den) (((s30 s62 (300:Int)).2.1).Num) (((s30 s62 (300:Int)).2.1).Den)))
theorem zF5 (hs:zyK cv0 ev0=true) (hk:K (e18 (zyJ cv0 ev0))) (zMJ:zJ0=zg zav cv0):z18 K [1,1] [] ⟨[(1,zP (.sl cv0.len 4 zJ0)),(2,zI ev0)],[],[]⟩:=by subst zMJ;exact zaw (by kernel_rfl) (zau hs fun hc hs=>And.intro (And.intro (zE enc_55 3 s62.get) hc) (zF4 hs hk))
def s18:Bool :=
  (zyJ ((s31 s62).1) ((s31 s62).2))
def p18:Bool :=
  (decide ((p31 s62=true)) &&
 (zyK ((s31 s62).1) ((s31 s62).2)))
end
theorem q18 (K:List PA→Prop) (hs:p18=true) (hk:K (e18 (s18))):vcFun Try.prog G18 zFX 18 [] K :=
  zaw (by kernel_rfl) (zau hs fun hc hs=>And.intro (And.intro (zE enc_55 3 s62.get) hc) (zF5 hs hk rfl))
theorem zJ7:p18=true:=by kernel_rfl
theorem zJ8:s18=true:=by kernel_rfl
def zF6 : List PA → COut
  | []=>.tot [.one (.bool true)]
  | _=>.no
theorem zJ9:zaf Try.prog 18:=⟨_,rfl,rfl,by kernel_rfl⟩
theorem zPp:Ok Try.prog 18 zF6:=zay zMC zJ9 fun args K h=>by
  unfold zF6 at h
  split at h
  · refine ⟨fun _ _ => [], fun _ => false, zFX, q18 K zJ7 ?_⟩
    show K [.one (.bool s18)]
    rw [zJ8];exact h
  · exact h.elim
abbrev T70:Tabs:=Tabs.nil
theorem zMK:TabsOk Try.prog T70:=TabsOk.nil
abbrev G70:Ctrs:=csm T70 (fun _ _=>[]) (fun _=>false)
def zKa:Ann:=⟨15,[(0,zK [0,1,2] []),(1,zK [6] [])],
 [],
 [],
 [],[]⟩
abbrev R70:=Bool
abbrev e70 (r:R70):List PA:=[.one (.bool r)]
section
variable {K:List PA→Prop} {n:Int} {low:Int} {high:Int}
def s70 (n:Int) (low:Int) (high:Int):Bool :=
  (cond (decide (n ≥ low))
 (decide (n≤high))
 false)
end
theorem q70 (n:Int) (low:Int) (high:Int) (K:List PA→Prop) (hk:K (e70 (s70 n low high))):vcFun Try.prog G70 zKa 70 [.one (.int .i64 n),.one (.int .i64 low),.one (.int .i64 high)] K :=
  zaw (by kernel_rfl) (zt hk (fun hk=>hk) (fun hk=>hk))
def zBp : List PA → COut
  | [.one (.int .i64 a0),.one (.int .i64 a1),.one (.int .i64 a2)]=>.tot [.one (.bool (s70 a0 a1 a2))]
  | _=>.no
theorem zKb:zaf Try.prog 70:=⟨_,rfl,rfl,by kernel_rfl⟩
theorem zNM:Ok Try.prog 70 zBp:=zay zMK zKb fun args K h=>by
  unfold zBp at h
  split at h
  · rename_i a0 a1 a2
    have hk:=h
    exact ⟨(fun _ _=>[]),(fun _=>false),zKa,q70 a0 a1 a2 K hk⟩
  · exact h.elim
abbrev T49:Tabs:=(Tabs.nil.addF 70 zBp)
theorem zML:TabsOk Try.prog T49:=(TabsOk.nil.addF zNM)
abbrev G49:Ctrs:=csm T49 (fun _ _=>[]) (fun _=>false)
def zKc:Ann:=⟨18,[(0,zK [1] [1]),(1,zK [2] [])],
 [],
 [],
 [],[]⟩
abbrev R49:=Bool
abbrev e49 (r:R49):List PA:=[.one (.bool r)]
section
variable {K:List PA→Prop} {g:Gate}
def s49 (g:Gate):Bool :=
  (cond (s70 g.Z (0:Int) (100000:Int))
 (cond (s70 g.Low (-1000000:Int) g.High)
 (decide (g.High≤(1000000:Int)))
 false)
 false)
end
theorem q49 (g:Gate) (K:List PA→Prop) (hk:K (e49 (s49 g))):vcFun Try.prog G49 zKc 49 [.agg (enc_55 g)] K :=
  zaw (by kernel_rfl) (zt hk (fun hk=>(zt hk (fun hk=>hk) (fun hk=>hk))) (fun hk=>hk))
def zBq : List PA → COut
  | [.agg [.int .i64 a0_Z,.int .i64 a0_Low,.int .i64 a0_High]]=>.tot [.one (.bool (s49 (⟨a0_Z,a0_Low,a0_High⟩:Gate)))]
  | _=>.no
theorem zKd:zaf Try.prog 49:=⟨_,rfl,rfl,by kernel_rfl⟩
theorem zNN:Ok Try.prog 49 zBq:=zay zML zKd fun args K h=>by
  unfold zBq at h
  split at h
  · rename_i a0_Z a0_Low a0_High
    have hk:=h
    exact ⟨(fun _ _=>[]),(fun _=>false),zKc,q49 (⟨a0_Z,a0_Low,a0_High⟩:Gate) K hk⟩
  · exact h.elim
abbrev T20:Tabs:=((Tabs.nil.addF 49 zBq).addF 70 zBp)
theorem zMM:TabsOk Try.prog T20:=((TabsOk.nil.addF zNN).addF zNM)
abbrev G20:Ctrs:=csm T20 (fun _ _=>[]) (fun _=>false)
def zF7:Ann:=⟨19,[(0,zK [0] []),(1,zK [0,3] []),(2,zK [0,3,7] []),(3,zK [0,3] []),(4,zK [0,3,15] []),(5,zK [2] []),(6,zK [2] [])],
 [(2,zK [0,3] [])],
 [(5,zK [0,3,15] [])],
 [],[]⟩
abbrev R20:=Bool
abbrev e20 (r:R20):List PA:=[.one (.bool r)]
@[irreducible] def z20:=ptF Try.prog G20 zF7 Try.f20
def zCF (l_a0:(Sl Gate)) (iv0:Int):St:=⟨[(0,zS enc_55 3 l_a0),(3,zI iv0)],[],[]⟩
abbrev zF8 (K:List PA→Prop) (l_a0:(Sl Gate)) (X:St→Prop) (P:Int→Bool) (S:Int→Bool):Prop:=∀ ⦃iv0:Int⦄,P iv0=true→K (e20 (S iv0))→X (zCF l_a0 iv0)
section
variable {K:List PA→Prop} {l_a0:(Sl Gate)} {iv0:Int} {X0:St→Prop} {P0:Int→Bool} {S0:Int→Bool} {iv1:Int} {zqB:Bool}
def zqC (S0:Int→Bool) (l_a0:(Sl Gate)) (iv1:Int) (zqB:Bool):Bool :=
  (cond zqB
 false
 (S0 (w64 (iv1+(1:Int)))))
def zqD (P0:Int→Bool) (l_a0:(Sl Gate)) (iv1:Int) (zqB:Bool):Bool :=
  (cond zqB
 true
 (P0 (w64 (iv1+(1:Int)))))
theorem zF9 (hX0:zF8 K l_a0 X0 P0 S0) (hs:zqD P0 l_a0 iv1 zqB=true) (hk:K (e20 (zqC S0 l_a0 iv1 zqB))):z20 K [1,0,1,0,0,1,0,0,1] [X0] ⟨[(0,zS enc_55 3 l_a0),(3,zI iv1),(15,zB zqB)],[],[]⟩:=zaw (by kernel_rfl) (zc hs hk (fun hs hk=>hk) (fun hs hk=>(hX0 hs hk)))
def zhL (l_a0:(Sl Gate)) (S0:Int→Bool) (iv0:Int):Bool :=
  (cond (decide (iv0 < (l_a0.len : Int)))
 (zqC S0 l_a0 iv0 (!(s49 (l_a0.get iv0.toNat))))
 (s70 (l_a0.len:Int) (1:Int) (24:Int)))
def zhM (l_a0:(Sl Gate)) (P0:Int→Bool) (iv0:Int):Bool :=
  (cond (decide (iv0 < (l_a0.len : Int)))
 (decide ((0≤iv0∧iv0 < (l_a0.len:Int))) &&
 (zqD P0 l_a0 iv0 (!(s49 (l_a0.get iv0.toNat)))))
 true)
def zhN (l_a0:(Sl Gate)):Nat→Int→Bool:=lpO (fun _=>default) (zhL l_a0)
def zhO (l_a0:(Sl Gate)):Nat→Int→Bool:=lpO (fun _=>false) (zhM l_a0)
def zyL (l_a0:(Sl Gate)) (iv0:Int):Bool:=zhN l_a0 Fuel iv0
def zyM (l_a0:(Sl Gate)) (iv0:Int):Bool:=zhO l_a0 Fuel iv0
theorem zGa (hs:zyM l_a0 iv0=true) (hk:K (e20 (zyL l_a0 iv0))):z20 K [1,0,1,0] [] (zCF l_a0 iv0) :=
  zl (fun X=>z20 K [1,0,1,0,0] [X]) (by kernel_rfl) fun X0 hX =>
  (show ∀ k, zF8 K l_a0 X0 (zhO l_a0 k) (zhN l_a0 k) from zeV _ _ (zhM l_a0) (zhL l_a0) (zF8 K l_a0 X0)
 (by intro _ hs;exact absurd hs Bool.false_ne_true)
 (by intro P0 S0 hX0 iv0 hs hk;exact hX _ (zaw (by kernel_rfl) (zc hs hk (fun hs hk=>(zau hs fun hc hs=>And.intro hc (zF9 hX0 hs hk))) (fun hs hk=>hk))))) _ hs hk
def s20 (l_a0:(Sl Gate)):Bool :=
  (zyL l_a0 (0:Int))
def p20 (l_a0:(Sl Gate)):Bool :=
  (zyM l_a0 (0:Int))
end
theorem q20 (l_a0:(Sl Gate)) (K:List PA→Prop) (hs:p20 l_a0=true) (hk:K (e20 (s20 l_a0))):vcFun Try.prog G20 zF7 20 [.one (.sl l_a0.len 3 (fun i=>enc_55 (l_a0.get i)))] K :=
  zaw (by kernel_rfl) (zGa hs hk)
def zGb : List PA → COut
  | [.one (.sl a0_n a0_s a0_g)]=>.det (IsE enc_55 3 a0_s a0_g∧p20 (⟨a0_n,zad a0_g⟩:(Sl Gate))=true) [.one (.bool (s20 (⟨a0_n,zad a0_g⟩:(Sl Gate))))]
  | _=>.no
theorem zKe:zaf Try.prog 20:=⟨_,rfl,rfl,by kernel_rfl⟩
theorem zPq:Ok Try.prog 20 zGb:=zay zMM zKe fun args K h=>by
  unfold zGb at h
  split at h
  · rename_i a0_n a0_s a0_g
    obtain ⟨⟨⟨rfl,a0_f,rfl⟩,hs⟩,hk⟩:=h
    try rw [zac a0_f] at hs
    try rw [zac a0_f] at hk
    exact ⟨(fun _ _=>[]),(fun _=>false),zF7,q20 (⟨a0_n,a0_f⟩:(Sl Gate)) K hs hk⟩
  · exact h.elim
abbrev T22:Tabs:=Tabs.nil
theorem zMN:TabsOk Try.prog T22:=TabsOk.nil
abbrev G22:Ctrs:=csm T22 (fun _ _=>[]) (fun _=>false)
def zGc:Ann:=⟨20,[(0,zK [0] []),(1,zK [0,3] []),(2,zK [0,3,7] []),(3,zK [0,3] []),(4,zK [0,3,19] []),(5,zK [2] []),(6,zK [2] [])],
 [(2,zK [0,3] [])],
 [],
 [],[]⟩
abbrev R22:=Bool
abbrev e22 (r:R22):List PA:=[.one (.bool r)]
@[irreducible] def z22:=ptF Try.prog G22 zGc Try.f22
def zCG (zaa:(Sl Gate)) (iv0:Int):St:=⟨[(0,zS enc_55 3 zaa),(3,zI iv0)],[],[]⟩
abbrev zKf (K:List PA→Prop) (zaa:(Sl Gate)) (X:St→Prop) (P:Int→Bool) (S:Int→Bool):Prop:=∀ ⦃iv0:Int⦄,P iv0=true→K (e22 (S iv0))→X (zCG zaa iv0)
section
variable {K:List PA→Prop} {zaa:(Sl Gate)} {iv0:Int} {X0:St→Prop} {P0:Int→Bool} {S0:Int→Bool}
def zhP (zaa:(Sl Gate)) (S0:Int→Bool) (iv0:Int):Bool :=
  (cond (decide (iv0 < (zaa.len : Int)))
 (cond ((zaa.get iv0.toNat).Z != (zaa.get 0).Z)
 false
 (S0 (w64 (iv0+(1:Int)))))
 true)
def zhQ (zaa:(Sl Gate)) (P0:Int→Bool) (iv0:Int):Bool :=
  (cond (decide (iv0 < (zaa.len : Int)))
 (decide ((0≤iv0∧iv0 < (zaa.len:Int))) &&
 (decide ((0≤(0:Int)∧(0:Int) < (zaa.len:Int))) &&
 (cond ((zaa.get iv0.toNat).Z != (zaa.get 0).Z)
 true
 (P0 (w64 (iv0+(1:Int)))))))
 true)
def zhR (zaa:(Sl Gate)):Nat→Int→Bool:=lpO (fun _=>default) (zhP zaa)
def zhS (zaa:(Sl Gate)):Nat→Int→Bool:=lpO (fun _=>false) (zhQ zaa)
def zyN (zaa:(Sl Gate)) (iv0:Int):Bool:=zhR zaa Fuel iv0
def zyO (zaa:(Sl Gate)) (iv0:Int):Bool:=zhS zaa Fuel iv0
theorem zGd (hs:zyO zaa iv0=true) (hk:K (e22 (zyN zaa iv0))):z22 K [1,0,1,0] [] (zCG zaa iv0) :=
  zl (fun X=>z22 K [1,0,1,0,0] [X]) (by kernel_rfl) fun X0 hX =>
  (show ∀ k, zKf K zaa X0 (zhS zaa k) (zhR zaa k) from zeV _ _ (zhQ zaa) (zhP zaa) (zKf K zaa X0)
 (by intro _ hs;exact absurd hs Bool.false_ne_true)
 (by intro P0 S0 hX0 iv0 hs hk;exact hX _ (zaw (by kernel_rfl) (zc hs hk (fun hs hk=>(zau hs fun hc hs=>And.intro hc (zau hs fun hc hs=>And.intro hc (zc hs hk (fun hs hk=>hk) (fun hs hk=>(hX0 hs hk)))))) (fun hs hk=>hk))))) _ hs hk
def s22 (zaa:(Sl Gate)):Bool :=
  (zyN zaa (1:Int))
def p22 (zaa:(Sl Gate)):Bool :=
  (zyO zaa (1:Int))
end
theorem q22 (zaa:(Sl Gate)) (K:List PA→Prop) (hs:p22 zaa=true) (hk:K (e22 (s22 zaa))):vcFun Try.prog G22 zGc 22 [.one (.sl zaa.len 3 (fun i=>enc_55 (zaa.get i)))] K :=
  zaw (by kernel_rfl) (zGd hs hk)
def zyP : List PA → COut
  | [.one (.sl a0_n a0_s a0_g)]=>.det (IsE enc_55 3 a0_s a0_g∧p22 (⟨a0_n,zad a0_g⟩:(Sl Gate))=true) [.one (.bool (s22 (⟨a0_n,zad a0_g⟩:(Sl Gate))))]
  | _=>.no
theorem zKg:zaf Try.prog 22:=⟨_,rfl,rfl,by kernel_rfl⟩
theorem zMO:Ok Try.prog 22 zyP:=zay zMN zKg fun args K h=>by
  unfold zyP at h
  split at h
  · rename_i a0_n a0_s a0_g
    obtain ⟨⟨⟨rfl,a0_f,rfl⟩,hs⟩,hk⟩:=h
    try rw [zac a0_f] at hs
    try rw [zac a0_f] at hk
    exact ⟨(fun _ _=>[]),(fun _=>false),zGc,q22 (⟨a0_n,a0_f⟩:(Sl Gate)) K hs hk⟩
  · exact h.elim
abbrev zNO:Tabs:=Tabs.nil
theorem zKh:TabsOk Try.prog zNO:=TabsOk.nil
abbrev zPr:Ctrs:=csm zNO (fun _ _=>[]) (fun _=>false)
def zCH:Ann:=⟨30,[(0,zK [1,2] [2]),(1,zK [4,5] [])],
 [],
 [],
 [],[]⟩
abbrev zPs:=(Int×Int)
abbrev zPt (r:zPs):List PA:=[.one (.int .i64 r.1),.one (.int .i64 r.2)]
section
variable {K:List PA→Prop} {l_a0:Line} {z:Int}
def zqE (l_a0:Line) (z:Int):(Int×Int) :=
  ((w64 ((w64 (l_a0.Start.Num * l_a0.Slope.Den))+(w64 ((w64 (l_a0.Slope.Num * z)) * l_a0.Start.Den)))),(w64 (l_a0.Start.Den * l_a0.Slope.Den)))
end
theorem zPu (l_a0:Line) (z:Int) (K:List PA→Prop) (hk:K (zPt (zqE l_a0 z))):vcFun Try.prog zPr zCH 104 [.agg (zav l_a0),.one (.int .i64 z)] K :=
  zaw (by kernel_rfl) hk
def zsI : List PA → COut
  | [.agg [.int .i64 a0_Slope_Num,.int .i64 a0_Slope_Den,.int .i64 a0_Start_Num,.int .i64 a0_Start_Den],.one (.int .i64 a1)]=>.tot [.one (.int .i64 ((zqE (⟨(⟨a0_Slope_Num,a0_Slope_Den⟩:Frac),(⟨a0_Start_Num,a0_Start_Den⟩:Frac)⟩:Line) a1).1)),.one (.int .i64 ((zqE (⟨(⟨a0_Slope_Num,a0_Slope_Den⟩:Frac),(⟨a0_Start_Num,a0_Start_Den⟩:Frac)⟩:Line) a1).2))]
  | _=>.no
theorem zGe:zaf Try.prog 104:=⟨_,rfl,rfl,by kernel_rfl⟩
theorem zKi:Ok Try.prog 104 zsI:=zay zKh zGe fun args K h=>by
  unfold zsI at h
  split at h
  · rename_i a0_Slope_Num a0_Slope_Den a0_Start_Num a0_Start_Den a1
    have hk:=h
    exact ⟨(fun _ _=>[]),(fun _=>false),zCH,zPu (⟨(⟨a0_Slope_Num,a0_Slope_Den⟩:Frac),(⟨a0_Start_Num,a0_Start_Den⟩:Frac)⟩:Line) a1 K hk⟩
  · exact h.elim
abbrev T72:Tabs:=(Tabs.nil.addF 104 zsI)
theorem zMP:TabsOk Try.prog T72:=(TabsOk.nil.addF zKi)
abbrev G72:Ctrs:=csm T72 (fun _ _=>[]) (fun _=>false)
def zKj:Ann:=⟨28,[(0,zK [2,3] [2,3]),(1,zK [3,5,6] [3]),(2,zK [4] [])],
 [],
 [],
 [],[]⟩
abbrev R72:=Bool
abbrev e72 (r:R72):List PA:=[.one (.bool r)]
section
variable {K:List PA→Prop} {l_a0:Line} {g:Gate}
def s72 (l_a0:Line) (g:Gate):Bool :=
  (cond (decide ((w64 (g.Low * ((zqE l_a0 g.Z).2))) ≤ ((zqE l_a0 g.Z).1)))
 (decide (((zqE l_a0 g.Z).1)≤(w64 (g.High * ((zqE l_a0 g.Z).2)))))
 false)
end
theorem q72 (l_a0:Line) (g:Gate) (K:List PA→Prop) (hk:K (e72 (s72 l_a0 g))):vcFun Try.prog G72 zKj 72 [.agg (zav l_a0),.agg (enc_55 g)] K :=
  zaw (by kernel_rfl) (zt hk (fun hk=>hk) (fun hk=>hk))
def zGf : List PA → COut
  | [.agg [.int .i64 a0_Slope_Num,.int .i64 a0_Slope_Den,.int .i64 a0_Start_Num,.int .i64 a0_Start_Den],.agg [.int .i64 a1_Z,.int .i64 a1_Low,.int .i64 a1_High]]=>.tot [.one (.bool (s72 (⟨(⟨a0_Slope_Num,a0_Slope_Den⟩:Frac),(⟨a0_Start_Num,a0_Start_Den⟩:Frac)⟩:Line) (⟨a1_Z,a1_Low,a1_High⟩:Gate)))]
  | _=>.no
theorem zKk:zaf Try.prog 72:=⟨_,rfl,rfl,by kernel_rfl⟩
theorem zPv:Ok Try.prog 72 zGf:=zay zMP zKk fun args K h=>by
  unfold zGf at h
  split at h
  · rename_i a0_Slope_Num a0_Slope_Den a0_Start_Num a0_Start_Den a1_Z a1_Low a1_High
    have hk:=h
    exact ⟨(fun _ _=>[]),(fun _=>false),zKj,q72 (⟨(⟨a0_Slope_Num,a0_Slope_Den⟩:Frac),(⟨a0_Start_Num,a0_Start_Den⟩:Frac)⟩:Line) (⟨a1_Z,a1_Low,a1_High⟩:Gate) K hk⟩
  · exact h.elim
abbrev T27:Tabs:=(Tabs.nil.addF 72 zGf)
theorem zMQ:TabsOk Try.prog T27:=(TabsOk.nil.addF zPv)
abbrev G27:Ctrs:=csm T27 (fun _ _=>[]) (fun _=>false)
def zGg:Ann:=⟨24,[(0,zK [1,2] [2]),(1,zK [1,2,5] [2]),(2,zK [1,2,5,6] [2]),(3,zK [1,2,5,6,10] [2,22]),(4,zK [1,2,5,6] [2,22]),(5,zK [1,2,5,6,18] [2,22]),(6,zK [1,2,5,6] [2,22]),(7,zK [4] [22])],
 [(3,⟨[1,2,5,6],[2,22],[(5,22,3,fun _=>zal default)],[],[],[],[]⟩)],
 [(6,zK [1,2,5,6,18] [2,22])],
 [],[]⟩
abbrev R27:=(Sl Int)
abbrev e27 (r:R27):List PA:=[.one (.sl r.len 1 (fun i=>zal (r.get i)))]
@[irreducible] def z27:=ptF Try.prog G27 zGg Try.f27
def zCI (l_a0:Line) (zaa:(Sl Gate)) (iv0:Int) (zdZ:(Sl Int)) (zfq:Nat→List PV):St:=⟨[(1,zS enc_55 3 zaa),(2,zp 2 0),(5,zv 22),(6,zI iv0)],[(2,.box 37 (zm (zav l_a0))),(22,.vec 3 1 8 zdZ.len zfq)],[]⟩
abbrev zGh (K:List PA→Prop) (l_a0:Line) (zaa:(Sl Gate)) (X:St→Prop) (P:Int→(Sl Int)→Bool) (S:Int→(Sl Int)→(Sl Int)):Prop:=∀ ⦃iv0:Int⦄ ⦃zdZ:(Sl Int)⦄ ⦃zfq:Nat→List PV⦄,P iv0 zdZ=true→K (e27 (S iv0 zdZ))→zfq=zg zal zdZ→X (zCI l_a0 zaa iv0 zdZ zfq)
section
variable {K:List PA→Prop} {l_a0:Line} {zaa:(Sl Gate)} {iv0:Int} {zdZ:(Sl Int)} {zfq:Nat→List PV} {X0:St→Prop} {P0:Int→(Sl Int)→Bool} {S0:Int→(Sl Int)→(Sl Int)} {iv1:Int} {zqF:Bool} {zfr:(Sl Int)} {zyQ:Nat→List PV}
def zqG (S0:Int→(Sl Int)→(Sl Int)) (l_a0:Line) (zaa:(Sl Gate)) (iv1:Int) (zqF:Bool) (zfr:(Sl Int)):(Sl Int) :=
  (cond zqF
 (S0 (w64 (iv1+(1:Int))) (⟨(zfr.len+1),(zdX zfr.len zfr.get (fun _=>iv1))⟩:Sl Int))
 (S0 (w64 (iv1+(1:Int))) zfr))
def zqH (P0:Int→(Sl Int)→Bool) (l_a0:Line) (zaa:(Sl Gate)) (iv1:Int) (zqF:Bool) (zfr:(Sl Int)):Bool :=
  (cond zqF
 (decide (((zfr.len+1) * 8≤140737488355328∧zfr.len+1≤9223372036854775807)) &&
 (P0 (w64 (iv1+(1:Int))) (⟨(zfr.len+1),(zdX zfr.len zfr.get (fun _=>iv1))⟩:Sl Int)))
 (P0 (w64 (iv1+(1:Int))) zfr))
theorem zGi (hX0:zGh K l_a0 zaa X0 P0 S0) (hs:zqH P0 l_a0 zaa iv1 zqF zfr=true) (hk:K (e27 (zqG S0 l_a0 zaa iv1 zqF zfr))) (zGj:zyQ=zg zal zfr):z27 K [1,1,0,1,0,0,1,0,0,1] [X0] ⟨[(1,zS enc_55 3 zaa),(2,zp 2 0),(5,zv 22),(6,zI iv1),(18,zB zqF)],[(2,.box 37 (zm (zav l_a0))),(22,.vec 3 1 8 zfr.len zyQ)],[]⟩:=by subst zGj;exact zaw (by kernel_rfl) (zc hs hk (fun hs hk=>(zau hs fun hc hs=>And.intro hc (hX0 hs hk (zeU (enc:=zal) (f:=zfr.get) (h:=(fun _=>iv1)) rfl rfl)))) (fun hs hk=>(hX0 hs hk rfl)))
def zhT (l_a0:Line) (zaa:(Sl Gate)) (S0:Int→(Sl Int)→(Sl Int)) (iv0:Int) (zdZ:(Sl Int)):(Sl Int) :=
  (cond (decide (iv0 < (zaa.len : Int)))
 (zqG S0 l_a0 zaa iv0 (s72 l_a0 (zaa.get iv0.toNat)) zdZ)
 zdZ)
def zhU (l_a0:Line) (zaa:(Sl Gate)) (P0:Int→(Sl Int)→Bool) (iv0:Int) (zdZ:(Sl Int)):Bool :=
  (cond (decide (iv0 < (zaa.len : Int)))
 (decide ((0≤iv0∧iv0 < (zaa.len:Int))) &&
 (zqH P0 l_a0 zaa iv0 (s72 l_a0 (zaa.get iv0.toNat)) zdZ))
 true)
def zhV (l_a0:Line) (zaa:(Sl Gate)):Nat→Int→(Sl Int)→(Sl Int):=lpO (fun _ _=>default) (zhT l_a0 zaa)
def zhW (l_a0:Line) (zaa:(Sl Gate)):Nat→Int→(Sl Int)→Bool:=lpO (fun _ _=>false) (zhU l_a0 zaa)
def zyR (l_a0:Line) (zaa:(Sl Gate)) (iv0:Int) (zdZ:(Sl Int)):(Sl Int):=zhV l_a0 zaa Fuel iv0 zdZ
def zyS (l_a0:Line) (zaa:(Sl Gate)) (iv0:Int) (zdZ:(Sl Int)):Bool:=zhW l_a0 zaa Fuel iv0 zdZ
theorem zGk (hs:zyS l_a0 zaa iv0 zdZ=true) (hk:K (e27 (zyR l_a0 zaa iv0 zdZ))) (zqI:zfq=zg zal zdZ):z27 K [1,1,0,1,0] [] (zCI l_a0 zaa iv0 zdZ zfq) :=
  zl (fun X=>z27 K [1,1,0,1,0,0] [X]) (by kernel_rfl) fun X0 hX =>
  (show ∀ k, zGh K l_a0 zaa X0 (zhW l_a0 zaa k) (zhV l_a0 zaa k) from zeV _ _ (zhU l_a0 zaa) (zhT l_a0 zaa) (zGh K l_a0 zaa X0)
 (by intro _ _ _ hs;exact absurd hs Bool.false_ne_true)
 (by intro P0 S0 hX0 iv0 zdZ zfq hs hk zqI;subst zqI;exact hX _ (zaw (by kernel_rfl) (zc hs hk (fun hs hk=>(zau hs fun hc hs=>And.intro hc (zGi hX0 hs hk rfl))) (fun hs hk=>hk))))) _ hs hk zqI
def s27 (l_a0:Line) (zaa:(Sl Gate)):(Sl Int) :=
  (zyR l_a0 zaa (0:Int) (⟨0,(fun _=>default)⟩:Sl Int))
def p27 (l_a0:Line) (zaa:(Sl Gate)):Bool :=
  (zyS l_a0 zaa (0:Int) (⟨0,(fun _=>default)⟩:Sl Int))
end
theorem q27 (l_a0:Line) (zaa:(Sl Gate)) (K:List PA→Prop) (hs:p27 l_a0 zaa=true) (hk:K (e27 (s27 l_a0 zaa))):vcFun Try.prog G27 zGg 27 [.agg (zav l_a0),.one (.sl zaa.len 3 (fun i=>enc_55 (zaa.get i)))] K :=
  zaw (by kernel_rfl) (zGk hs hk rfl)
def zGl : List PA → COut
  | [.agg [.int .i64 a0_Slope_Num,.int .i64 a0_Slope_Den,.int .i64 a0_Start_Num,.int .i64 a0_Start_Den],.one (.sl a1_n a1_s a1_g)]=>.det (IsE enc_55 3 a1_s a1_g∧p27 (⟨(⟨a0_Slope_Num,a0_Slope_Den⟩:Frac),(⟨a0_Start_Num,a0_Start_Den⟩:Frac)⟩:Line) (⟨a1_n,zad a1_g⟩:(Sl Gate))=true) [.one (.sl ((s27 (⟨(⟨a0_Slope_Num,a0_Slope_Den⟩:Frac),(⟨a0_Start_Num,a0_Start_Den⟩:Frac)⟩:Line) (⟨a1_n,zad a1_g⟩:(Sl Gate))).len) 1 (fun i=>zal ((s27 (⟨(⟨a0_Slope_Num,a0_Slope_Den⟩:Frac),(⟨a0_Start_Num,a0_Start_Den⟩:Frac)⟩:Line) (⟨a1_n,zad a1_g⟩:(Sl Gate))).get i)))]
  | _=>.no
theorem zKl:zaf Try.prog 27:=⟨_,rfl,rfl,by kernel_rfl⟩
theorem zPw:Ok Try.prog 27 zGl:=zay zMQ zKl fun args K h=>by
  unfold zGl at h
  split at h
  · rename_i a0_Slope_Num a0_Slope_Den a0_Start_Num a0_Start_Den a1_n a1_s a1_g
    obtain ⟨⟨⟨rfl,a1_f,rfl⟩,hs⟩,hk⟩:=h
    try rw [zac a1_f] at hs
    try rw [zac a1_f] at hk
    exact ⟨(fun _ _=>[]),(fun _=>false),zGg,q27 (⟨(⟨a0_Slope_Num,a0_Slope_Den⟩:Frac),(⟨a0_Start_Num,a0_Start_Den⟩:Frac)⟩:Line) (⟨a1_n,a1_f⟩:(Sl Gate)) K hs hk⟩
  · exact h.elim
abbrev T26:Tabs:=(Tabs.nil.addF 40 zp8)
theorem zMR:TabsOk Try.prog T26:=(TabsOk.nil.addF zJK)
abbrev G26:Ctrs:=csm T26 (fun _ _=>[]) (fun _=>false)
def zGm:Ann:=⟨35,[(0,zK [0,1,2,3,8] [8]),(1,zK [0,1,2,3,8,11] [8]),(2,zK [0,1,2,3,8] [8]),(3,zK [8] [8])],
 [],
 [(3,zK [0,1,2,3,8] [8])],
 [],[]⟩
abbrev R26:=Line
abbrev e26 (r:R26):List PA:=[.agg [.int .i64 r.Slope.Num,.int .i64 r.Slope.Den,.int .i64 r.Start.Num,.int .i64 r.Start.Den]]
@[irreducible] def z26:=ptF Try.prog G26 zGm Try.f26
section
variable {K:List PA→Prop} {z:Int} {x:Int} {w:Int} {y_a3:Int} {zv0:Int} {xv0:Int} {wv0:Int} {yv0:Int}
def zmC (zv0:Int) (xv0:Int) (wv0:Int) (yv0:Int):Line :=
  (⟨(s40 (w64 (yv0 - xv0)) (w64 (wv0 - zv0))),(s40 (w64 ((w64 (xv0 * wv0)) - (w64 (yv0 * zv0)))) (w64 (wv0 - zv0)))⟩:Line)
def zmD (zv0:Int) (xv0:Int) (wv0:Int) (yv0:Int):Bool :=
  (decide ((p40 (w64 (yv0 - xv0)) (w64 (wv0 - zv0))=true)) &&
 (decide ((p40 (w64 ((w64 (xv0 * wv0)) - (w64 (yv0 * zv0)))) (w64 (wv0 - zv0))=true)) &&
 true))
theorem zyT (hs:zmD zv0 xv0 wv0 yv0=true) (hk:K (e26 (zmC zv0 xv0 wv0 yv0))):z26 K [1,1] [] ⟨[(0,zI zv0),(1,zI xv0),(2,zI wv0),(3,zI yv0),(8,zp 8 0)],[(8,.box 37 (zm (zav (⟨(⟨(0:Int),(0:Int)⟩:Frac),(⟨(0:Int),(0:Int)⟩:Frac)⟩:Line))))],[]⟩:=zaw (by kernel_rfl) (zau hs fun hc hs=>And.intro hc (zau hs fun hc hs=>And.intro hc hk))
def s26 (z:Int) (x:Int) (w:Int) (y_a3:Int):Line :=
  (cond (decide (w < z))
 (zmC w y_a3 z x)
 (zmC z x w y_a3))
def p26 (z:Int) (x:Int) (w:Int) (y_a3:Int):Bool :=
  (cond (decide (w < z))
 (zmD w y_a3 z x)
 (zmD z x w y_a3))
end
theorem q26 (z:Int) (x:Int) (w:Int) (y_a3:Int) (K:List PA→Prop) (hs:p26 z x w y_a3=true) (hk:K (e26 (s26 z x w y_a3))):vcFun Try.prog G26 zGm 26 [.one (.int .i64 z),.one (.int .i64 x),.one (.int .i64 w),.one (.int .i64 y_a3)] K :=
  zaw (by kernel_rfl) (zc hs hk (fun hs hk=>(zyT hs hk)) (fun hs hk=>(zyT hs hk)))
def zGn : List PA → COut
  | [.one (.int .i64 a0),.one (.int .i64 a1),.one (.int .i64 a2),.one (.int .i64 a3)]=>.det (p26 a0 a1 a2 a3=true) [.agg [.int .i64 ((s26 a0 a1 a2 a3).Slope.Num),.int .i64 ((s26 a0 a1 a2 a3).Slope.Den),.int .i64 ((s26 a0 a1 a2 a3).Start.Num),.int .i64 ((s26 a0 a1 a2 a3).Start.Den)]]
  | _=>.no
theorem zKm:zaf Try.prog 26:=⟨_,rfl,rfl,by kernel_rfl⟩
theorem zPx:Ok Try.prog 26 zGn:=zay zMR zKm fun args K h=>by
  unfold zGn at h
  split at h
  · rename_i a0 a1 a2 a3
    obtain ⟨hs,hk⟩:=h
    exact ⟨(fun _ _=>[]),(fun _=>false),zGm,q26 a0 a1 a2 a3 K hs hk⟩
  · exact h.elim
abbrev zNP:Tabs:=Tabs.nil
theorem zKn:TabsOk Try.prog zNP:=TabsOk.nil
abbrev zPy:Ctrs:=csm zNP (fun _ _=>[]) (fun _=>false)
def zCJ:Ann:=⟨11,[(0,zK [1,2] [2]),(1,zK [2,6] [2]),(2,zK [4] []),(3,zK [4] [])],
 [],
 [],
 [],[]⟩
abbrev zPz:=Int
abbrev e109 (r:zPz):List PA:=[.one (.int .i64 r)]
section
variable {K:List PA→Prop} {g:Gate} {which:Int}
def zsJ (g:Gate) (which:Int):Int :=
  (cond (which == (0:Int))
 g.Low
 g.High)
end
theorem zPA (g:Gate) (which:Int) (K:List PA→Prop) (hk:K (e109 (zsJ g which))):vcFun Try.prog zPy zCJ 109 [.agg (enc_55 g),.one (.int .i64 which)] K :=
  zaw (by kernel_rfl) (zt hk (fun hk=>hk) (fun hk=>hk))
def zyU : List PA → COut
  | [.agg [.int .i64 a0_Z,.int .i64 a0_Low,.int .i64 a0_High],.one (.int .i64 a1)]=>.tot [.one (.int .i64 (zsJ (⟨a0_Z,a0_Low,a0_High⟩:Gate) a1))]
  | _=>.no
theorem zGo:zaf Try.prog 109:=⟨_,rfl,rfl,by kernel_rfl⟩
theorem zMS:Ok Try.prog 109 zyU:=zay zKn zGo fun args K h=>by
  unfold zyU at h
  split at h
  · rename_i a0_Z a0_Low a0_High a1
    have hk:=h
    exact ⟨(fun _ _=>[]),(fun _=>false),zCJ,zPA (⟨a0_Z,a0_Low,a0_High⟩:Gate) a1 K hk⟩
  · exact h.elim
abbrev T80:Tabs:=((Tabs.nil.addF 26 zGn).addF 109 zyU)
theorem zMT:TabsOk Try.prog T80:=((TabsOk.nil.addF zPx).addF zMS)
abbrev G80:Ctrs:=csm T80 (fun _ _=>[]) (fun _=>false)
def zGp:Ann:=⟨67,[(0,zK [0] []),(1,zK [0,3] []),(2,zK [0,3,4] []),(3,zK [0,3,4,10] [65]),(4,zK [0,3,4] [65]),(5,zK [0,3,4,5] [65]),(6,zK [0,3,4,5,18] [65]),(7,zK [0,3,4,5] [65]),(8,zK [0,3,4,5,6] [65]),(9,zK [0,3,4,5,6,35] [65]),(10,zK [0,3,4,5,6] [65]),(11,zK [0,3,4,5,6] [65]),(12,zK [2] [65])],
 [(3,⟨[0,3,4],[65],[(3,65,37,fun _=>zav default)],[],[],[],[]⟩),(6,⟨[0,3,4,5],[65],[(3,65,37,fun _=>zav default)],[],[],[],[]⟩),(9,⟨[0,3,4,5,6],[65],[(3,65,37,fun _=>zav default)],[],[],[],[]⟩)],
 [],
 [],[]⟩
abbrev R80:=(Sl Line)
abbrev e80 (r:R80):List PA:=[.one (.sl r.len 4 (fun i=>zav (r.get i)))]
@[irreducible] def z80:=ptF Try.prog G80 zGp Try.f80
def zCK (zaa:(Sl Gate)) (iv0:Int) (zd0:(Sl Line)) (zfs:Nat→List PV):St:=⟨[(0,zS enc_55 3 zaa),(3,zv 65),(4,zI iv0)],[(65,.vec 37 4 32 zd0.len zfs)],[]⟩
abbrev zBr (K:List PA→Prop) (zaa:(Sl Gate)) (X:St→Prop) (P:Int→(Sl Line)→Bool) (S:Int→(Sl Line)→(Sl Line)):Prop:=∀ ⦃iv0:Int⦄ ⦃zd0:(Sl Line)⦄ ⦃zfs:Nat→List PV⦄,P iv0 zd0=true→K (e80 (S iv0 zd0))→zfs=zg zav zd0→X (zCK zaa iv0 zd0 zfs)
def zCL (zaa:(Sl Gate)) (iv1:Int) (kv1:Int) (zdP:(Sl Line)) (zft:Nat→List PV):St:=⟨[(0,zS enc_55 3 zaa),(3,zv 65),(4,zI iv1),(5,zI kv1)],[(65,.vec 37 4 32 zdP.len zft)],[]⟩
abbrev zGq (K:List PA→Prop) (zaa:(Sl Gate)) (X:St→Prop) (P:Int→Int→(Sl Line)→Bool) (S:Int→Int→(Sl Line)→(Sl Line)):Prop:=∀ ⦃iv1:Int⦄ ⦃kv1:Int⦄ ⦃zdP:(Sl Line)⦄ ⦃zft:Nat→List PV⦄,P iv1 kv1 zdP=true→K (e80 (S iv1 kv1 zdP))→zft=zg zav zdP→X (zCL zaa iv1 kv1 zdP zft)
def zCM (zaa:(Sl Gate)) (iv2:Int) (kv2:Int) (ev2:Int) (zco:(Sl Line)) (zfu:Nat→List PV):St:=⟨[(0,zS enc_55 3 zaa),(3,zv 65),(4,zI iv2),(5,zI kv2),(6,zI ev2)],[(65,.vec 37 4 32 zco.len zfu)],[]⟩
abbrev zKo (K:List PA→Prop) (zaa:(Sl Gate)) (X:St→Prop) (P:Int→Int→Int→(Sl Line)→Bool) (S:Int→Int→Int→(Sl Line)→(Sl Line)):Prop:=∀ ⦃iv2:Int⦄ ⦃kv2:Int⦄ ⦃ev2:Int⦄ ⦃zco:(Sl Line)⦄ ⦃zfu:Nat→List PV⦄,P iv2 kv2 ev2 zco=true→K (e80 (S iv2 kv2 ev2 zco))→zfu=zg zav zco→X (zCM zaa iv2 kv2 ev2 zco zfu)
section
variable {K:List PA→Prop} {zaa:(Sl Gate)} {iv0:Int} {zd0:(Sl Line)} {zfs:Nat→List PV} {X0:St→Prop} {P0:Int→(Sl Line)→Bool} {S0:Int→(Sl Line)→(Sl Line)} {iv1:Int} {kv1:Int} {zdP:(Sl Line)} {zft:Nat→List PV} {X1:St→Prop} {P1:Int→Int→(Sl Line)→Bool} {S1:Int→Int→(Sl Line)→(Sl Line)} {iv2:Int} {kv2:Int} {ev2:Int} {zco:(Sl Line)} {zfu:Nat→List PV} {X2:St→Prop} {P2:Int→Int→Int→(Sl Line)→Bool} {S2:Int→Int→Int→(Sl Line)→(Sl Line)}
def zfv (S0:Int→(Sl Line)→(Sl Line)) (S1:Int→Int→(Sl Line)→(Sl Line)) (zaa:(Sl Gate)) (S2:Int→Int→Int→(Sl Line)→(Sl Line)) (iv2:Int) (kv2:Int) (ev2:Int) (zco:(Sl Line)):(Sl Line) :=
  (cond (decide (ev2 < (4:Int)))
 (cond ((zaa.get iv2.toNat).Z != (zaa.get kv2.toNat).Z)
 (S2 iv2 kv2 (w64 (ev2+(1:Int))) (⟨(zco.len+1),(zdX zco.len zco.get (fun _=>(s26 ((zaa.get iv2.toNat).Z) (zsJ (zaa.get iv2.toNat) (w64 (ev2.tdiv (2:Int)))) ((zaa.get kv2.toNat).Z) (zsJ (zaa.get kv2.toNat) (ev2.tmod (2:Int))))))⟩:Sl Line))
 (S1 iv2 (w64 (kv2+(1:Int))) zco))
 (S1 iv2 (w64 (kv2+(1:Int))) zco))
def zfw (P0:Int→(Sl Line)→Bool) (P1:Int→Int→(Sl Line)→Bool) (zaa:(Sl Gate)) (P2:Int→Int→Int→(Sl Line)→Bool) (iv2:Int) (kv2:Int) (ev2:Int) (zco:(Sl Line)):Bool :=
  (cond (decide (ev2 < (4:Int)))
 (decide ((0≤iv2∧iv2 < (zaa.len:Int))) &&
 (decide ((0≤kv2∧kv2 < (zaa.len:Int))) &&
 (cond ((zaa.get iv2.toNat).Z != (zaa.get kv2.toNat).Z)
 (decide ((0≤iv2∧iv2 < (zaa.len:Int))) &&
 (decide ((0≤iv2∧iv2 < (zaa.len:Int))) &&
 (decide (((2:Int) ≠ 0)) &&
 (decide ((0≤kv2∧kv2 < (zaa.len:Int))) &&
 (decide ((0≤kv2∧kv2 < (zaa.len:Int))) &&
 (decide (((2:Int) ≠ 0)) &&
 (decide ((p26 ((zaa.get iv2.toNat).Z) (zsJ (zaa.get iv2.toNat) (w64 (ev2.tdiv (2:Int)))) ((zaa.get kv2.toNat).Z) (zsJ (zaa.get kv2.toNat) (ev2.tmod (2:Int)))=true)) &&
 (decide (((zco.len+1) * 32≤140737488355328∧zco.len+1≤9223372036854775807)) &&
 (P2 iv2 kv2 (w64 (ev2+(1:Int))) (⟨(zco.len+1),(zdX zco.len zco.get (fun _=>(s26 ((zaa.get iv2.toNat).Z) (zsJ (zaa.get iv2.toNat) (w64 (ev2.tdiv (2:Int)))) ((zaa.get kv2.toNat).Z) (zsJ (zaa.get kv2.toNat) (ev2.tmod (2:Int))))))⟩:Sl Line))))))))))
 (P1 iv2 (w64 (kv2+(1:Int))) zco))))
 (P1 iv2 (w64 (kv2+(1:Int))) zco))
def zc9 (S0:Int→(Sl Line)→(Sl Line)) (S1:Int→Int→(Sl Line)→(Sl Line)) (zaa:(Sl Gate)):Nat→Int→Int→Int→(Sl Line)→(Sl Line):=lpO (fun _ _ _ _=>default) (zfv S0 S1 zaa)
def zda (P0:Int→(Sl Line)→Bool) (P1:Int→Int→(Sl Line)→Bool) (zaa:(Sl Gate)):Nat→Int→Int→Int→(Sl Line)→Bool:=lpO (fun _ _ _ _=>false) (zfw P0 P1 zaa)
def zqJ (S0:Int→(Sl Line)→(Sl Line)) (S1:Int→Int→(Sl Line)→(Sl Line)) (zaa:(Sl Gate)) (iv2:Int) (kv2:Int) (ev2:Int) (zco:(Sl Line)):(Sl Line):=zc9 S0 S1 zaa Fuel iv2 kv2 ev2 zco
def zqK (P0:Int→(Sl Line)→Bool) (P1:Int→Int→(Sl Line)→Bool) (zaa:(Sl Gate)) (iv2:Int) (kv2:Int) (ev2:Int) (zco:(Sl Line)):Bool:=zda P0 P1 zaa Fuel iv2 kv2 ev2 zco
theorem zGr (hX0:zBr K zaa X0 P0 S0) (hX1:zGq K zaa X1 P1 S1) (hs:zqK P0 P1 zaa iv2 kv2 ev2 zco=true) (hk:K (e80 (zqJ S0 S1 zaa iv2 kv2 ev2 zco))) (zqL:zfu=zg zav zco):z80 K [1,1,0,1,0,0,1,0,0,1,0,0,1,0,0,1,0] [X0,X1] (zCM zaa iv2 kv2 ev2 zco zfu) :=
  zl (fun X=>z80 K [1,1,0,1,0,0,1,0,0,1,0,0,1,0,0,1,0,0] [X0,X1,X]) (by kernel_rfl) fun X2 hX =>
  (show ∀ k, zKo K zaa X2 (zda P0 P1 zaa k) (zc9 S0 S1 zaa k) from zeV _ _ (zfw P0 P1 zaa) (zfv S0 S1 zaa) (zKo K zaa X2)
 (by intro _ _ _ _ _ hs;exact absurd hs Bool.false_ne_true)
 (by intro P2 S2 hX2 iv2 kv2 ev2 zco zfu hs hk zqL;subst zqL;exact hX _ (zaw (by kernel_rfl) (zc hs hk (fun hs hk=>(zau hs fun hc hs=>And.intro hc (zau hs fun hc hs=>And.intro hc (zc hs hk (fun hs hk=>(zau hs fun hc hs=>And.intro hc (zau hs fun hc hs=>And.intro hc (zau hs fun hc hs=>And.intro hc (zau hs fun hc hs=>And.intro hc (zau hs fun hc hs=>And.intro hc (zau hs fun hc hs=>And.intro hc (zau hs fun hc hs=>And.intro hc (zau hs fun hc hs=>And.intro hc (hX2 hs hk (zeU (enc:=zav) (f:=zco.get) (h:=(fun _=>(s26 ((zaa.get iv2.toNat).Z) (zsJ (zaa.get iv2.toNat) (w64 (ev2.tdiv (2:Int)))) ((zaa.get kv2.toNat).Z) (zsJ (zaa.get kv2.toNat) (ev2.tmod (2:Int)))))) rfl rfl))))))))))) (fun hs hk=>(hX1 hs hk rfl)))))) (fun hs hk=>(hX1 hs hk rfl)))))) _ hs hk zqL
def zhX (S0:Int→(Sl Line)→(Sl Line)) (zaa:(Sl Gate)) (S1:Int→Int→(Sl Line)→(Sl Line)) (iv1:Int) (kv1:Int) (zdP:(Sl Line)):(Sl Line) :=
  (cond (decide (kv1 < (zaa.len : Int)))
 (zqJ S0 S1 zaa iv1 kv1 (0:Int) zdP)
 (S0 (w64 (iv1+(1:Int))) zdP))
def zhY (P0:Int→(Sl Line)→Bool) (zaa:(Sl Gate)) (P1:Int→Int→(Sl Line)→Bool) (iv1:Int) (kv1:Int) (zdP:(Sl Line)):Bool :=
  (cond (decide (kv1 < (zaa.len : Int)))
 (zqK P0 P1 zaa iv1 kv1 (0:Int) zdP)
 (P0 (w64 (iv1+(1:Int))) zdP))
def zgB (S0:Int→(Sl Line)→(Sl Line)) (zaa:(Sl Gate)):Nat→Int→Int→(Sl Line)→(Sl Line):=lpO (fun _ _ _=>default) (zhX S0 zaa)
def zgC (P0:Int→(Sl Line)→Bool) (zaa:(Sl Gate)):Nat→Int→Int→(Sl Line)→Bool:=lpO (fun _ _ _=>false) (zhY P0 zaa)
def zqM (S0:Int→(Sl Line)→(Sl Line)) (zaa:(Sl Gate)) (iv1:Int) (kv1:Int) (zdP:(Sl Line)):(Sl Line):=zgB S0 zaa Fuel iv1 kv1 zdP
def zqN (P0:Int→(Sl Line)→Bool) (zaa:(Sl Gate)) (iv1:Int) (kv1:Int) (zdP:(Sl Line)):Bool:=zgC P0 zaa Fuel iv1 kv1 zdP
theorem zGs (hX0:zBr K zaa X0 P0 S0) (hs:zqN P0 zaa iv1 kv1 zdP=true) (hk:K (e80 (zqM S0 zaa iv1 kv1 zdP))) (zqO:zft=zg zav zdP):z80 K [1,1,0,1,0,0,1,0,0,1,0] [X0] (zCL zaa iv1 kv1 zdP zft) :=
  zl (fun X=>z80 K [1,1,0,1,0,0,1,0,0,1,0,0] [X0,X]) (by kernel_rfl) fun X1 hX =>
  (show ∀ k, zGq K zaa X1 (zgC P0 zaa k) (zgB S0 zaa k) from zeV _ _ (zhY P0 zaa) (zhX S0 zaa) (zGq K zaa X1)
 (by intro _ _ _ _ hs;exact absurd hs Bool.false_ne_true)
 (by intro P1 S1 hX1 iv1 kv1 zdP zft hs hk zqO;subst zqO;exact hX _ (zaw (by kernel_rfl) (zc hs hk (fun hs hk=>(zGr hX0 hX1 hs hk rfl)) (fun hs hk=>(hX0 hs hk rfl)))))) _ hs hk zqO
def zhZ (zaa:(Sl Gate)) (S0:Int→(Sl Line)→(Sl Line)) (iv0:Int) (zd0:(Sl Line)):(Sl Line) :=
  (cond (decide (iv0 < (zaa.len : Int)))
 (zqM S0 zaa iv0 (w64 (iv0+(1:Int))) zd0)
 zd0)
def zh0 (zaa:(Sl Gate)) (P0:Int→(Sl Line)→Bool) (iv0:Int) (zd0:(Sl Line)):Bool :=
  (cond (decide (iv0 < (zaa.len : Int)))
 (zqN P0 zaa iv0 (w64 (iv0+(1:Int))) zd0)
 true)
def zh1 (zaa:(Sl Gate)):Nat→Int→(Sl Line)→(Sl Line):=lpO (fun _ _=>default) (zhZ zaa)
def zh2 (zaa:(Sl Gate)):Nat→Int→(Sl Line)→Bool:=lpO (fun _ _=>false) (zh0 zaa)
def zyV (zaa:(Sl Gate)) (iv0:Int) (zd0:(Sl Line)):(Sl Line):=zh1 zaa Fuel iv0 zd0
def zyW (zaa:(Sl Gate)) (iv0:Int) (zd0:(Sl Line)):Bool:=zh2 zaa Fuel iv0 zd0
theorem zGt (hs:zyW zaa iv0 zd0=true) (hk:K (e80 (zyV zaa iv0 zd0))) (zqP:zfs=zg zav zd0):z80 K [1,1,0,1,0] [] (zCK zaa iv0 zd0 zfs) :=
  zl (fun X=>z80 K [1,1,0,1,0,0] [X]) (by kernel_rfl) fun X0 hX =>
  (show ∀ k, zBr K zaa X0 (zh2 zaa k) (zh1 zaa k) from zeV _ _ (zh0 zaa) (zhZ zaa) (zBr K zaa X0)
 (by intro _ _ _ hs;exact absurd hs Bool.false_ne_true)
 (by intro P0 S0 hX0 iv0 zd0 zfs hs hk zqP;subst zqP;exact hX _ (zaw (by kernel_rfl) (zc hs hk (fun hs hk=>(zGs hX0 hs hk rfl)) (fun hs hk=>hk))))) _ hs hk zqP
def s80 (zaa:(Sl Gate)):(Sl Line) :=
  (zyV zaa (0:Int) (⟨0,(fun _=>default)⟩:Sl Line))
def p80 (zaa:(Sl Gate)):Bool :=
  (zyW zaa (0:Int) (⟨0,(fun _=>default)⟩:Sl Line))
end
theorem q80 (zaa:(Sl Gate)) (K:List PA→Prop) (hs:p80 zaa=true) (hk:K (e80 (s80 zaa))):vcFun Try.prog G80 zGp 80 [.one (.sl zaa.len 3 (fun i=>enc_55 (zaa.get i)))] K :=
  zaw (by kernel_rfl) (zGt hs hk rfl)
def zGu : List PA → COut
  | [.one (.sl a0_n a0_s a0_g)]=>.det (IsE enc_55 3 a0_s a0_g∧p80 (⟨a0_n,zad a0_g⟩:(Sl Gate))=true) [.one (.sl ((s80 (⟨a0_n,zad a0_g⟩:(Sl Gate))).len) 4 (fun i=>zav ((s80 (⟨a0_n,zad a0_g⟩:(Sl Gate))).get i)))]
  | _=>.no
theorem zKp:zaf Try.prog 80:=⟨_,rfl,rfl,by kernel_rfl⟩
theorem zPB:Ok Try.prog 80 zGu:=zay zMT zKp fun args K h=>by
  unfold zGu at h
  split at h
  · rename_i a0_n a0_s a0_g
    obtain ⟨⟨⟨rfl,a0_f,rfl⟩,hs⟩,hk⟩:=h
    try rw [zac a0_f] at hs
    try rw [zac a0_f] at hk
    exact ⟨(fun _ _=>[]),(fun _=>false),zGp,q80 (⟨a0_n,a0_f⟩:(Sl Gate)) K hs hk⟩
  · exact h.elim
abbrev T29:Tabs:=Tabs.nil
theorem zMU:TabsOk Try.prog T29:=TabsOk.nil
abbrev G29:Ctrs:=csm T29 (fun _ _=>[]) (fun _=>false)
def zKq:Ann:=⟨16,[(0,zK [2,3] [2,3]),(1,zK [4] [])],
 [],
 [],
 [],[]⟩
abbrev R29:=Bool
abbrev e29 (r:R29):List PA:=[.one (.bool r)]
section
variable {K:List PA→Prop} {a:Frac} {b:Frac}
def s29 (a:Frac) (b:Frac):Bool :=
  (decide ((w64 (a.Num * b.Den)) < (w64 (b.Num * a.Den))))
end
theorem q29 (a:Frac) (b:Frac) (K:List PA→Prop) (hk:K (e29 (s29 a b))):vcFun Try.prog G29 zKq 29 [.agg (zae a),.agg (zae b)] K :=
  zaw (by kernel_rfl) hk
def zyX : List PA → COut
  | [.agg [.int .i64 a0_Num,.int .i64 a0_Den],.agg [.int .i64 a1_Num,.int .i64 a1_Den]]=>.tot [.one (.bool (s29 (⟨a0_Num,a0_Den⟩:Frac) (⟨a1_Num,a1_Den⟩:Frac)))]
  | _=>.no
theorem zKr:zaf Try.prog 29:=⟨_,rfl,rfl,by kernel_rfl⟩
theorem zMV:Ok Try.prog 29 zyX:=zay zMU zKr fun args K h=>by
  unfold zyX at h
  split at h
  · rename_i a0_Num a0_Den a1_Num a1_Den
    have hk:=h
    exact ⟨(fun _ _=>[]),(fun _=>false),zKq,q29 (⟨a0_Num,a0_Den⟩:Frac) (⟨a1_Num,a1_Den⟩:Frac) K hk⟩
  · exact h.elim
abbrev zNQ:Tabs:=(Tabs.nil.addF 104 zsI)
theorem zKs:TabsOk Try.prog zNQ:=(TabsOk.nil.addF zKi)
abbrev zNR:Ctrs:=csm zNQ (fun _ _=>[]) (fun _=>false)
def zyY:Ann:=⟨33,[(0,zK [1,2] [2]),(1,zK [1,2,5] [2]),(2,zK [1,2,5,11] [2]),(3,zK [1,2,5] [2]),(4,zK [1,2,5,6,7] [2]),(5,zK [1,2,5,32] [2]),(6,zK [4] []),(7,zK [4] [])],
 [(2,zK [1,2,5] [2])],
 [(5,zK [1,2,5,6,7] [2])],
 [],[]⟩
abbrev zPC:=Bool
abbrev zLh (r:zPC):List PA:=[.one (.bool r)]
@[irreducible] def z110:=ptF Try.prog zNR zyY Try.f110
def zyZ (l_a0:Line) (zaa:(Sl Gate)) (iv0:Int):St:=⟨[(1,zS enc_55 3 zaa),(2,zp 2 0),(5,zI iv0)],[(2,.box 37 (zm (zav l_a0)))],[]⟩
abbrev zy0 (K:List PA→Prop) (l_a0:Line) (zaa:(Sl Gate)) (X:St→Prop) (P:Int→Bool) (S:Int→Bool):Prop:=∀ ⦃iv0:Int⦄,P iv0=true→K (zLh (S iv0))→X (zyZ l_a0 zaa iv0)
section
variable {K:List PA→Prop} {l_a0:Line} {zaa:(Sl Gate)} {iv0:Int} {X0:St→Prop} {P0:Int→Bool} {S0:Int→Bool} {iv1:Int} {nv1:Int} {dv1:Int}
def zmE (S0:Int→Bool) (l_a0:Line) (zaa:(Sl Gate)) (iv1:Int) (nv1:Int) (dv1:Int):Bool :=
  (cond (nv1 == (w64 ((zaa.get iv1.toNat).Low * dv1)))
 true
 (S0 (w64 (iv1+(1:Int)))))
def zmF (P0:Int→Bool) (l_a0:Line) (zaa:(Sl Gate)) (iv1:Int) (nv1:Int) (dv1:Int):Bool :=
  (decide ((0≤iv1∧iv1 < (zaa.len:Int))) &&
 (cond (nv1 == (w64 ((zaa.get iv1.toNat).Low * dv1)))
 true
 (P0 (w64 (iv1+(1:Int))))))
theorem zBs (hX0:zy0 K l_a0 zaa X0 P0 S0) (hs:zmF P0 l_a0 zaa iv1 nv1 dv1=true) (hk:K (zLh (zmE S0 l_a0 zaa iv1 nv1 dv1))):z110 K [1,0,1,0,0,1,0,0,1] [X0] ⟨[(1,zS enc_55 3 zaa),(2,zp 2 0),(5,zI iv1),(6,zI nv1),(7,zI dv1)],[(2,.box 37 (zm (zav l_a0)))],[]⟩:=zaw (by kernel_rfl) (zau hs fun hc hs=>And.intro hc (zc hs hk (fun hs hk=>hk) (fun hs hk=>(hX0 hs hk))))
def zfQ (l_a0:Line) (zaa:(Sl Gate)) (S0:Int→Bool) (iv0:Int):Bool :=
  (cond (decide (iv0 < (zaa.len : Int)))
 (zmE S0 l_a0 zaa iv0 ((zqE l_a0 ((zaa.get iv0.toNat).Z)).1) ((zqE l_a0 ((zaa.get iv0.toNat).Z)).2))
 false)
def zfR (l_a0:Line) (zaa:(Sl Gate)) (P0:Int→Bool) (iv0:Int):Bool :=
  (cond (decide (iv0 < (zaa.len : Int)))
 (decide ((0≤iv0∧iv0 < (zaa.len:Int))) &&
 (zmF P0 l_a0 zaa iv0 ((zqE l_a0 ((zaa.get iv0.toNat).Z)).1) ((zqE l_a0 ((zaa.get iv0.toNat).Z)).2)))
 true)
def zfS (l_a0:Line) (zaa:(Sl Gate)):Nat→Int→Bool:=lpO (fun _=>default) (zfQ l_a0 zaa)
def zfT (l_a0:Line) (zaa:(Sl Gate)):Nat→Int→Bool:=lpO (fun _=>false) (zfR l_a0 zaa)
def zsK (l_a0:Line) (zaa:(Sl Gate)) (iv0:Int):Bool:=zfS l_a0 zaa Fuel iv0
def zsL (l_a0:Line) (zaa:(Sl Gate)) (iv0:Int):Bool:=zfT l_a0 zaa Fuel iv0
theorem zBt (hs:zsL l_a0 zaa iv0=true) (hk:K (zLh (zsK l_a0 zaa iv0))):z110 K [1,0,1,0] [] (zyZ l_a0 zaa iv0) :=
  zl (fun X=>z110 K [1,0,1,0,0] [X]) (by kernel_rfl) fun X0 hX =>
  (show ∀ k, zy0 K l_a0 zaa X0 (zfT l_a0 zaa k) (zfS l_a0 zaa k) from zeV _ _ (zfR l_a0 zaa) (zfQ l_a0 zaa) (zy0 K l_a0 zaa X0)
 (by intro _ hs;exact absurd hs Bool.false_ne_true)
 (by intro P0 S0 hX0 iv0 hs hk;exact hX _ (zaw (by kernel_rfl) (zc hs hk (fun hs hk=>(zau hs fun hc hs=>And.intro hc (zBs hX0 hs hk))) (fun hs hk=>hk))))) _ hs hk
def ztI (l_a0:Line) (zaa:(Sl Gate)):Bool :=
  (zsK l_a0 zaa (0:Int))
def zGv (l_a0:Line) (zaa:(Sl Gate)):Bool :=
  (zsL l_a0 zaa (0:Int))
end
theorem zPD (l_a0:Line) (zaa:(Sl Gate)) (K:List PA→Prop) (hs:zGv l_a0 zaa=true) (hk:K (zLh (ztI l_a0 zaa))):vcFun Try.prog zNR zyY 110 [.agg (zav l_a0),.one (.sl zaa.len 3 (fun i=>enc_55 (zaa.get i)))] K :=
  zaw (by kernel_rfl) (zBt hs hk)
def zy1 : List PA → COut
  | [.agg [.int .i64 a0_Slope_Num,.int .i64 a0_Slope_Den,.int .i64 a0_Start_Num,.int .i64 a0_Start_Den],.one (.sl a1_n a1_s a1_g)]=>.det (IsE enc_55 3 a1_s a1_g∧zGv (⟨(⟨a0_Slope_Num,a0_Slope_Den⟩:Frac),(⟨a0_Start_Num,a0_Start_Den⟩:Frac)⟩:Line) (⟨a1_n,zad a1_g⟩:(Sl Gate))=true) [.one (.bool (ztI (⟨(⟨a0_Slope_Num,a0_Slope_Den⟩:Frac),(⟨a0_Start_Num,a0_Start_Den⟩:Frac)⟩:Line) (⟨a1_n,zad a1_g⟩:(Sl Gate))))]
  | _=>.no
theorem zGw:zaf Try.prog 110:=⟨_,rfl,rfl,by kernel_rfl⟩
theorem zMW:Ok Try.prog 110 zy1:=zay zKs zGw fun args K h=>by
  unfold zy1 at h
  split at h
  · rename_i a0_Slope_Num a0_Slope_Den a0_Start_Num a0_Start_Den a1_n a1_s a1_g
    obtain ⟨⟨⟨rfl,a1_f,rfl⟩,hs⟩,hk⟩:=h
    try rw [zac a1_f] at hs
    try rw [zac a1_f] at hk
    exact ⟨(fun _ _=>[]),(fun _=>false),zyY,zPD (⟨(⟨a0_Slope_Num,a0_Slope_Den⟩:Frac),(⟨a0_Start_Num,a0_Start_Den⟩:Frac)⟩:Line) (⟨a1_n,a1_f⟩:(Sl Gate)) K hs hk⟩
  · exact h.elim
abbrev T81:Tabs:=((Tabs.nil.addF 29 zyX).addF 110 zy1)
theorem zMX:TabsOk Try.prog T81:=((TabsOk.nil.addF zMV).addF zMW)
abbrev G81:Ctrs:=csm T81 (fun _ _=>[]) (fun _=>false)
def zGx:Ann:=⟨30,[(0,zK [2,3,4] [3,4]),(1,zK [2,3,4,13] [3,4]),(2,zK [6] []),(3,zK [3,4,19] [3,4]),(4,zK [6] []),(5,zK [6] [])],
 [],
 [(3,zK [2,3,4] [3,4])],
 [],[]⟩
abbrev R81:=Bool
abbrev e81 (r:R81):List PA:=[.one (.bool r)]
@[irreducible] def z81:=ptF Try.prog G81 zGx Try.f81
section
variable {K:List PA→Prop} {a:Line} {b:Line} {zaa:(Sl Gate)}
def zy2 (a:Line) (b:Line) (zaa:(Sl Gate)):Bool :=
  (cond (ztI a zaa)
 (s29 a.Slope b.Slope)
 (s29 b.Slope a.Slope))
def zqQ (a:Line) (b:Line) (zaa:(Sl Gate)):Bool :=
  (decide ((zGv a zaa=true)) &&
 true)
theorem zGy (hs:zqQ a b zaa=true) (hk:K (e81 (zy2 a b zaa))):z81 K [1,1] [] ⟨[(2,zS enc_55 3 zaa),(3,zp 3 0),(4,zp 4 0)],[(3,.box 37 (zm (zav a))),(4,.box 37 (zm (zav b)))],[]⟩:=zaw (by kernel_rfl) (zau hs fun hc hs=>And.intro (And.intro (zE enc_55 3 zaa.get) hc) (zt hk (fun hk=>hk) (fun hk=>hk)))
def s81 (a:Line) (b:Line) (zaa:(Sl Gate)):Bool :=
  (cond ((ztI a zaa) != (ztI b zaa))
 (ztI a zaa)
 (zy2 a b zaa))
def p81 (a:Line) (b:Line) (zaa:(Sl Gate)):Bool :=
  (decide ((zGv a zaa=true)) &&
 (decide ((zGv b zaa=true)) &&
 (cond ((ztI a zaa) != (ztI b zaa))
 (decide ((zGv a zaa=true)) &&
 true)
 (zqQ a b zaa))))
end
theorem q81 (a:Line) (b:Line) (zaa:(Sl Gate)) (K:List PA→Prop) (hs:p81 a b zaa=true) (hk:K (e81 (s81 a b zaa))):vcFun Try.prog G81 zGx 81 [.agg (zav a),.agg (zav b),.one (.sl zaa.len 3 (fun i=>enc_55 (zaa.get i)))] K :=
  zaw (by kernel_rfl) (zau hs fun hc hs=>And.intro (And.intro (zE enc_55 3 zaa.get) hc) (zau hs fun hc hs=>And.intro (And.intro (zE enc_55 3 zaa.get) hc) (zc hs hk (fun hs hk=>(zau hs fun hc hs=>And.intro (And.intro (zE enc_55 3 zaa.get) hc) hk)) (fun hs hk=>(zGy hs hk)))))
def zGz : List PA → COut
  | [.agg [.int .i64 a0_Slope_Num,.int .i64 a0_Slope_Den,.int .i64 a0_Start_Num,.int .i64 a0_Start_Den],.agg [.int .i64 a1_Slope_Num,.int .i64 a1_Slope_Den,.int .i64 a1_Start_Num,.int .i64 a1_Start_Den],.one (.sl a2_n a2_s a2_g)]=>.det (IsE enc_55 3 a2_s a2_g∧p81 (⟨(⟨a0_Slope_Num,a0_Slope_Den⟩:Frac),(⟨a0_Start_Num,a0_Start_Den⟩:Frac)⟩:Line) (⟨(⟨a1_Slope_Num,a1_Slope_Den⟩:Frac),(⟨a1_Start_Num,a1_Start_Den⟩:Frac)⟩:Line) (⟨a2_n,zad a2_g⟩:(Sl Gate))=true) [.one (.bool (s81 (⟨(⟨a0_Slope_Num,a0_Slope_Den⟩:Frac),(⟨a0_Start_Num,a0_Start_Den⟩:Frac)⟩:Line) (⟨(⟨a1_Slope_Num,a1_Slope_Den⟩:Frac),(⟨a1_Start_Num,a1_Start_Den⟩:Frac)⟩:Line) (⟨a2_n,zad a2_g⟩:(Sl Gate))))]
  | _=>.no
theorem zKt:zaf Try.prog 81:=⟨_,rfl,rfl,by kernel_rfl⟩
theorem zPE:Ok Try.prog 81 zGz:=zay zMX zKt fun args K h=>by
  unfold zGz at h
  split at h
  · rename_i a0_Slope_Num a0_Slope_Den a0_Start_Num a0_Start_Den a1_Slope_Num a1_Slope_Den a1_Start_Num a1_Start_Den a2_n a2_s a2_g
    obtain ⟨⟨⟨rfl,a2_f,rfl⟩,hs⟩,hk⟩:=h
    try rw [zac a2_f] at hs
    try rw [zac a2_f] at hk
    exact ⟨(fun _ _=>[]),(fun _=>false),zGx,q81 (⟨(⟨a0_Slope_Num,a0_Slope_Den⟩:Frac),(⟨a0_Start_Num,a0_Start_Den⟩:Frac)⟩:Line) (⟨(⟨a1_Slope_Num,a1_Slope_Den⟩:Frac),(⟨a1_Start_Num,a1_Start_Den⟩:Frac)⟩:Line) (⟨a2_n,a2_f⟩:(Sl Gate)) K hs hk⟩
  · exact h.elim
abbrev T33:Tabs:=(((Tabs.nil.addF 27 zGl).addF 80 zGu).addF 81 zGz)
theorem zMY:TabsOk Try.prog T33:=(((TabsOk.nil.addF zPw).addF zPB).addF zPE)
abbrev G33:Ctrs:=csm T33 (fun _ _=>[]) (fun _=>false)
def zGA:Ann:=⟨73,[(0,zK [0] []),(1,zK [0,3] []),(2,zK [0,3,4] []),(3,zK [0,3,4,5] []),(4,zK [0,3,4,5,12] []),(5,zK [0,3,4,5] [61]),(6,zK [0,3,4,5,24] []),(7,zK [0,3,4,5,6] []),(8,zK [0,3,4,5,6,40] []),(9,zK [0,3,4,5,6] []),(10,zK [0,3,4,5,6,57] []),(11,zK [0,3,4,5] [61]),(12,zK [2] [])],
 [(4,⟨[0,3,4,5],[],[],[],[],[],[(3,4,fun _=>zav default)]⟩),(8,zK [0,3,4,5,6] [])],
 [(3,zK [0,3,4] []),(10,zK [0,3,4,5,6] [])],
 [],[]⟩
abbrev R33:=(Sl Line)
abbrev e33 (r:R33):List PA:=[.one (.sl r.len 4 (fun i=>zav (r.get i)))]
@[irreducible] def z33:=ptF Try.prog G33 zGA Try.f33
def zCN (zaa:(Sl Gate)) (lv0:(Sl Line)) (zdK:(Sl Line)) (iv1:Int) (zfx:Nat→List PV):St:=⟨[(0,zS enc_55 3 zaa),(3,zP (.sl zdK.len 4 zfx)),(4,zS zav 4 lv0),(5,zI iv1)],[],[]⟩
abbrev zBu (K:List PA→Prop) (zaa:(Sl Gate)) (lv0:(Sl Line)) (X:St→Prop) (P:(Sl Line)→Int→Bool) (S:(Sl Line)→Int→(Sl Line)):Prop:=∀ ⦃zdK:(Sl Line)⦄ ⦃iv1:Int⦄ ⦃zfx:Nat→List PV⦄,P zdK iv1=true→K (e33 (S zdK iv1))→zfx=zg zav zdK→X (zCN zaa lv0 zdK iv1 zfx)
def zCO (zaa:(Sl Gate)) (lv0:(Sl Line)) (zcx:(Sl Line)) (iv2:Int) (zhe:Int) (zfy:Nat→List PV):St:=⟨[(0,zS enc_55 3 zaa),(3,zP (.sl zcx.len 4 zfy)),(4,zS zav 4 lv0),(5,zI iv2),(6,zI zhe)],[],[]⟩
abbrev zKu (K:List PA→Prop) (zaa:(Sl Gate)) (lv0:(Sl Line)) (X:St→Prop) (P:(Sl Line)→Int→Int→Bool) (S:(Sl Line)→Int→Int→(Sl Line)):Prop:=∀ ⦃zcx:(Sl Line)⦄ ⦃iv2:Int⦄ ⦃zhe:Int⦄ ⦃zfy:Nat→List PV⦄,P zcx iv2 zhe=true→K (e33 (S zcx iv2 zhe))→zfy=zg zav zcx→X (zCO zaa lv0 zcx iv2 zhe zfy)
section
variable {K:List PA→Prop} {zaa:(Sl Gate)} {lv0:(Sl Line)} {zGB:Nat→List PV} {zdK:(Sl Line)} {iv1:Int} {zfx:Nat→List PV} {X1:St→Prop} {P1:(Sl Line)→Int→Bool} {S1:(Sl Line)→Int→(Sl Line)} {zcx:(Sl Line)} {iv2:Int} {zhe:Int} {zfy:Nat→List PV} {X2:St→Prop} {P2:(Sl Line)→Int→Int→Bool} {S2:(Sl Line)→Int→Int→(Sl Line)} {zbw:(Sl Line)} {iv3:Int} {zch:Int} {zy3:Nat→List PV}
def zkr (S1:(Sl Line)→Int→(Sl Line)) (zaa:(Sl Gate)) (lv0:(Sl Line)) (zbw:(Sl Line)) (iv3:Int) (zch:Int):(Sl Line) :=
  (cond (decide (zch < (zbw.len : Int)))
 (cond (match (match ((zbw.get zch.toNat).Slope.Num == (lv0.get iv3.toNat).Slope.Num) with | true => (match ((zbw.get zch.toNat).Slope.Den == (lv0.get iv3.toNat).Slope.Den) with | true => true | false => false) | false => false) with | true => (match (match ((zbw.get zch.toNat).Start.Num == (lv0.get iv3.toNat).Start.Num) with | true => (match ((zbw.get zch.toNat).Start.Den == (lv0.get iv3.toNat).Start.Den) with | true => true | false => false) | false => false) with | true => true | false => false) | false => false)
 (S1 zbw (w64 (iv3+(1:Int))))
 (S1 (⟨(((zch - (0:Int)).toNat+1)+((zbw.len:Int) - zch).toNat),(zdX ((zch - (0:Int)).toNat+1) (zdX ((zch - (0:Int)).toNat) (fun i=>zbw.get (i+((0:Int).toNat))) (fun _=>(lv0.get iv3.toNat))) (fun i=>zbw.get (i+zch.toNat)))⟩:Sl Line) (w64 (iv3+(1:Int)))))
 (S1 (⟨(((zch - (0:Int)).toNat+1)+((zbw.len:Int) - zch).toNat),(zdX ((zch - (0:Int)).toNat+1) (zdX ((zch - (0:Int)).toNat) (fun i=>zbw.get (i+((0:Int).toNat))) (fun _=>(lv0.get iv3.toNat))) (fun i=>zbw.get (i+zch.toNat)))⟩:Sl Line) (w64 (iv3+(1:Int)))))
def zks (P1:(Sl Line)→Int→Bool) (zaa:(Sl Gate)) (lv0:(Sl Line)) (zbw:(Sl Line)) (iv3:Int) (zch:Int):Bool :=
  (cond (decide (zch < (zbw.len : Int)))
 (decide ((0≤zch∧zch < (zbw.len:Int))) &&
 (decide ((0≤iv3∧iv3 < (lv0.len:Int))) &&
 (cond (match (match ((zbw.get zch.toNat).Slope.Num == (lv0.get iv3.toNat).Slope.Num) with | true => (match ((zbw.get zch.toNat).Slope.Den == (lv0.get iv3.toNat).Slope.Den) with | true => true | false => false) | false => false) with | true => (match (match ((zbw.get zch.toNat).Start.Num == (lv0.get iv3.toNat).Start.Num) with | true => (match ((zbw.get zch.toNat).Start.Den == (lv0.get iv3.toNat).Start.Den) with | true => true | false => false) | false => false) with | true => true | false => false) | false => false)
 (P1 zbw (w64 (iv3+(1:Int))))
 (decide ((0≤(0:Int)∧(0:Int)≤zch∧zch≤(zbw.len:Int))) &&
 (decide (((zch - (0:Int)).toNat * 32≤140737488355328∧(zch - (0:Int)).toNat≤9223372036854775807)) &&
 (decide ((0≤iv3∧iv3 < (lv0.len:Int))) &&
 (decide ((((zch - (0:Int)).toNat+1) * 32≤140737488355328∧(zch - (0:Int)).toNat+1≤9223372036854775807)) &&
 (decide ((0≤zch∧zch≤(zbw.len:Int)∧(zbw.len:Int)≤(zbw.len:Int))) &&
 (decide (((((zch - (0:Int)).toNat+1)+((zbw.len:Int) - zch).toNat) * 32≤140737488355328∧((zch - (0:Int)).toNat+1)+((zbw.len:Int) - zch).toNat≤9223372036854775807)) &&
 (P1 (⟨(((zch - (0:Int)).toNat+1)+((zbw.len:Int) - zch).toNat),(zdX ((zch - (0:Int)).toNat+1) (zdX ((zch - (0:Int)).toNat) (fun i=>zbw.get (i+((0:Int).toNat))) (fun _=>(lv0.get iv3.toNat))) (fun i=>zbw.get (i+zch.toNat)))⟩:Sl Line) (w64 (iv3+(1:Int)))))))))))))
 (decide ((0≤(0:Int)∧(0:Int)≤zch∧zch≤(zbw.len:Int))) &&
 (decide (((zch - (0:Int)).toNat * 32≤140737488355328∧(zch - (0:Int)).toNat≤9223372036854775807)) &&
 (decide ((0≤iv3∧iv3 < (lv0.len:Int))) &&
 (decide ((((zch - (0:Int)).toNat+1) * 32≤140737488355328∧(zch - (0:Int)).toNat+1≤9223372036854775807)) &&
 (decide ((0≤zch∧zch≤(zbw.len:Int)∧(zbw.len:Int)≤(zbw.len:Int))) &&
 (decide (((((zch - (0:Int)).toNat+1)+((zbw.len:Int) - zch).toNat) * 32≤140737488355328∧((zch - (0:Int)).toNat+1)+((zbw.len:Int) - zch).toNat≤9223372036854775807)) &&
 (P1 (⟨(((zch - (0:Int)).toNat+1)+((zbw.len:Int) - zch).toNat),(zdX ((zch - (0:Int)).toNat+1) (zdX ((zch - (0:Int)).toNat) (fun i=>zbw.get (i+((0:Int).toNat))) (fun _=>(lv0.get iv3.toNat))) (fun i=>zbw.get (i+zch.toNat)))⟩:Sl Line) (w64 (iv3+(1:Int)))))))))))
theorem zy4 (hX1:zBu K zaa lv0 X1 P1 S1) (hs:zks P1 zaa lv0 zbw iv3 zch=true) (hk:K (e33 (zkr S1 zaa lv0 zbw iv3 zch))) (zGC:zy3=zg zav zbw):z33 K [1,1,1,0,1,0,0,1,0,0,1,1,1] [X1] ⟨[(0,zS enc_55 3 zaa),(3,zP (.sl zbw.len 4 zy3)),(4,zS zav 4 lv0),(5,zI iv3),(6,zI zch)],[],[]⟩:=by subst zGC;exact zaw (by kernel_rfl) (zc hs hk (fun hs hk=>(zau hs fun hc hs=>And.intro hc (zau hs fun hc hs=>And.intro hc (zc hs hk (fun hs hk=>(hX1 hs hk rfl)) (fun hs hk=>(zau hs fun hc hs=>And.intro hc (zau hs fun hc hs=>And.intro hc (zau hs fun hc hs=>And.intro hc (zau hs fun hc hs=>And.intro hc (zau hs fun hc hs=>And.intro hc (zau hs fun hc hs=>And.intro hc (hX1 hs hk (zeU (enc:=zav) (f:=(zdX ((zch - (0:Int)).toNat) (fun i=>zbw.get (i+((0:Int).toNat))) (fun _=>(lv0.get iv3.toNat)))) (h:=(fun i=>zbw.get (i+zch.toNat))) (zeU (enc:=zav) (f:=(fun i=>zbw.get (i+((0:Int).toNat)))) (h:=(fun _=>(lv0.get iv3.toNat))) rfl rfl) rfl))))))))))))) (fun hs hk=>(zau hs fun hc hs=>And.intro hc (zau hs fun hc hs=>And.intro hc (zau hs fun hc hs=>And.intro hc (zau hs fun hc hs=>And.intro hc (zau hs fun hc hs=>And.intro hc (zau hs fun hc hs=>And.intro hc (hX1 hs hk (zeU (enc:=zav) (f:=(zdX ((zch - (0:Int)).toNat) (fun i=>zbw.get (i+((0:Int).toNat))) (fun _=>(lv0.get iv3.toNat)))) (h:=(fun i=>zbw.get (i+zch.toNat))) (zeU (enc:=zav) (f:=(fun i=>zbw.get (i+((0:Int).toNat)))) (h:=(fun _=>(lv0.get iv3.toNat))) rfl rfl) rfl))))))))))
def zh3 (S1:(Sl Line)→Int→(Sl Line)) (zaa:(Sl Gate)) (lv0:(Sl Line)) (S2:(Sl Line)→Int→Int→(Sl Line)) (zcx:(Sl Line)) (iv2:Int) (zhe:Int):(Sl Line) :=
  (cond (decide (zhe < (zcx.len : Int)))
 (cond (s81 (zcx.get zhe.toNat) (lv0.get iv2.toNat) zaa)
 (S2 zcx iv2 (w64 (zhe+(1:Int))))
 (zkr S1 zaa lv0 zcx iv2 zhe))
 (zkr S1 zaa lv0 zcx iv2 zhe))
def zh4 (P1:(Sl Line)→Int→Bool) (zaa:(Sl Gate)) (lv0:(Sl Line)) (P2:(Sl Line)→Int→Int→Bool) (zcx:(Sl Line)) (iv2:Int) (zhe:Int):Bool :=
  (cond (decide (zhe < (zcx.len : Int)))
 (decide ((0≤zhe∧zhe < (zcx.len:Int))) &&
 (decide ((0≤iv2∧iv2 < (lv0.len:Int))) &&
 (decide ((p81 (zcx.get zhe.toNat) (lv0.get iv2.toNat) zaa=true)) &&
 (cond (s81 (zcx.get zhe.toNat) (lv0.get iv2.toNat) zaa)
 (P2 zcx iv2 (w64 (zhe+(1:Int))))
 (zks P1 zaa lv0 zcx iv2 zhe)))))
 (zks P1 zaa lv0 zcx iv2 zhe))
def zgD (S1:(Sl Line)→Int→(Sl Line)) (zaa:(Sl Gate)) (lv0:(Sl Line)):Nat→(Sl Line)→Int→Int→(Sl Line):=lpO (fun _ _ _=>default) (zh3 S1 zaa lv0)
def zh5 (P1:(Sl Line)→Int→Bool) (zaa:(Sl Gate)) (lv0:(Sl Line)):Nat→(Sl Line)→Int→Int→Bool:=lpO (fun _ _ _=>false) (zh4 P1 zaa lv0)
def zqR (S1:(Sl Line)→Int→(Sl Line)) (zaa:(Sl Gate)) (lv0:(Sl Line)) (zcx:(Sl Line)) (iv2:Int) (zhe:Int):(Sl Line):=zgD S1 zaa lv0 Fuel zcx iv2 zhe
def zqS (P1:(Sl Line)→Int→Bool) (zaa:(Sl Gate)) (lv0:(Sl Line)) (zcx:(Sl Line)) (iv2:Int) (zhe:Int):Bool:=zh5 P1 zaa lv0 Fuel zcx iv2 zhe
theorem zGD (hX1:zBu K zaa lv0 X1 P1 S1) (hs:zqS P1 zaa lv0 zcx iv2 zhe=true) (hk:K (e33 (zqR S1 zaa lv0 zcx iv2 zhe))) (zqT:zfy=zg zav zcx):z33 K [1,1,1,0,1,0,0,1,0,0,1,1,0,0] [X1] (zCO zaa lv0 zcx iv2 zhe zfy) :=
  zl (fun X=>z33 K [1,1,1,0,1,0,0,1,0,0,1,1,0,0,0] [X1,X]) (by kernel_rfl) fun X2 hX =>
  (show ∀ k, zKu K zaa lv0 X2 (zh5 P1 zaa lv0 k) (zgD S1 zaa lv0 k) from zeV _ _ (zh4 P1 zaa lv0) (zh3 S1 zaa lv0) (zKu K zaa lv0 X2)
 (by intro _ _ _ _ hs;exact absurd hs Bool.false_ne_true)
 (by intro P2 S2 hX2 zcx iv2 zhe zfy hs hk zqT;subst zqT;exact hX _ (zaw (by kernel_rfl) (zc hs hk (fun hs hk=>(zau hs fun hc hs=>And.intro hc (zau hs fun hc hs=>And.intro hc (zau hs fun hc hs=>And.intro (And.intro (zE enc_55 3 zaa.get) hc) (zc hs hk (fun hs hk=>(hX2 hs hk rfl)) (fun hs hk=>(zy4 hX1 hs hk rfl))))))) (fun hs hk=>(zy4 hX1 hs hk rfl)))))) _ hs hk zqT
def zh6 (zaa:(Sl Gate)) (lv0:(Sl Line)) (S1:(Sl Line)→Int→(Sl Line)) (zdK:(Sl Line)) (iv1:Int):(Sl Line) :=
  (cond (decide (iv1 < (lv0.len : Int)))
 (cond (decide (((s27 (lv0.get iv1.toNat) zaa).len : Int) < (zaa.len : Int)))
 (S1 zdK (w64 (iv1+(1:Int))))
 (zqR S1 zaa lv0 zdK iv1 (0:Int)))
 zdK)
def zh7 (zaa:(Sl Gate)) (lv0:(Sl Line)) (P1:(Sl Line)→Int→Bool) (zdK:(Sl Line)) (iv1:Int):Bool :=
  (cond (decide (iv1 < (lv0.len : Int)))
 (decide ((0≤iv1∧iv1 < (lv0.len:Int))) &&
 (decide ((p27 (lv0.get iv1.toNat) zaa=true)) &&
 (cond (decide (((s27 (lv0.get iv1.toNat) zaa).len : Int) < (zaa.len : Int)))
 (P1 zdK (w64 (iv1+(1:Int))))
 (zqS P1 zaa lv0 zdK iv1 (0:Int)))))
 true)
def zgE (zaa:(Sl Gate)) (lv0:(Sl Line)):Nat→(Sl Line)→Int→(Sl Line):=lpO (fun _ _=>default) (zh6 zaa lv0)
def zh8 (zaa:(Sl Gate)) (lv0:(Sl Line)):Nat→(Sl Line)→Int→Bool:=lpO (fun _ _=>false) (zh7 zaa lv0)
def zy5 (zaa:(Sl Gate)) (lv0:(Sl Line)) (zdK:(Sl Line)) (iv1:Int):(Sl Line):=zgE zaa lv0 Fuel zdK iv1
def zy6 (zaa:(Sl Gate)) (lv0:(Sl Line)) (zdK:(Sl Line)) (iv1:Int):Bool:=zh8 zaa lv0 Fuel zdK iv1
theorem zGE (hs:zy6 zaa lv0 zdK iv1=true) (hk:K (e33 (zy5 zaa lv0 zdK iv1))) (zqU:zfx=zg zav zdK):z33 K [1,1,1,0,1,0] [] (zCN zaa lv0 zdK iv1 zfx) :=
  zl (fun X=>z33 K [1,1,1,0,1,0,0] [X]) (by kernel_rfl) fun X1 hX =>
  (show ∀ k, zBu K zaa lv0 X1 (zh8 zaa lv0 k) (zgE zaa lv0 k) from zeV _ _ (zh7 zaa lv0) (zh6 zaa lv0) (zBu K zaa lv0 X1)
 (by intro _ _ _ hs;exact absurd hs Bool.false_ne_true)
 (by intro P1 S1 hX1 zdK iv1 zfx hs hk zqU;subst zqU;exact hX _ (zaw (by kernel_rfl) (zc hs hk (fun hs hk=>(zau hs fun hc hs=>And.intro hc (zau hs fun hc hs=>And.intro (And.intro (zE enc_55 3 zaa.get) hc) (zc hs hk (fun hs hk=>(hX1 hs hk rfl)) (fun hs hk=>(zGD hX1 hs hk rfl)))))) (fun hs hk=>hk))))) _ hs hk zqU
def zy7 (zaa:(Sl Gate)) (lv0:(Sl Line)):(Sl Line) :=
  (zy5 zaa lv0 (⟨0,(fun _=>default)⟩:Sl Line) (0:Int))
def zy8 (zaa:(Sl Gate)) (lv0:(Sl Line)):Bool :=
  (zy6 zaa lv0 (⟨0,(fun _=>default)⟩:Sl Line) (0:Int))
theorem zGF (hs:zy8 zaa lv0=true) (hk:K (e33 (zy7 zaa lv0))) (zMZ:zGB=zg zav lv0):z33 K [1,1,1] [] ⟨[(0,zS enc_55 3 zaa),(3,zP (.nils)),(4,zP (.sl lv0.len 4 zGB))],[],[]⟩:=by subst zMZ;exact zaw (by kernel_rfl) (zGE hs hk rfl)
def s33 (zaa:(Sl Gate)):(Sl Line) :=
  (zy7 zaa (s80 zaa))
def p33 (zaa:(Sl Gate)):Bool :=
  (decide ((p80 zaa=true)) &&
 (zy8 zaa (s80 zaa)))
end
theorem q33 (zaa:(Sl Gate)) (K:List PA→Prop) (hs:p33 zaa=true) (hk:K (e33 (s33 zaa))):vcFun Try.prog G33 zGA 33 [.one (.sl zaa.len 3 (fun i=>enc_55 (zaa.get i)))] K :=
  zaw (by kernel_rfl) (zau hs fun hc hs=>And.intro (And.intro (zE enc_55 3 zaa.get) hc) (zGF hs hk rfl))
def zBv : List PA → COut
  | [.one (.sl a0_n a0_s a0_g)]=>.det (IsE enc_55 3 a0_s a0_g∧p33 (⟨a0_n,zad a0_g⟩:(Sl Gate))=true) [.one (.sl ((s33 (⟨a0_n,zad a0_g⟩:(Sl Gate))).len) 4 (fun i=>zav ((s33 (⟨a0_n,zad a0_g⟩:(Sl Gate))).get i)))]
  | _=>.no
theorem zKv:zaf Try.prog 33:=⟨_,rfl,rfl,by kernel_rfl⟩
theorem zNS:Ok Try.prog 33 zBv:=zay zMY zKv fun args K h=>by
  unfold zBv at h
  split at h
  · rename_i a0_n a0_s a0_g
    obtain ⟨⟨⟨rfl,a0_f,rfl⟩,hs⟩,hk⟩:=h
    try rw [zac a0_f] at hs
    try rw [zac a0_f] at hk
    exact ⟨(fun _ _=>[]),(fun _=>false),zGA,q33 (⟨a0_n,a0_f⟩:(Sl Gate)) K hs hk⟩
  · exact h.elim
abbrev T71:Tabs:=Tabs.nil
theorem zM0:TabsOk Try.prog T71:=TabsOk.nil
abbrev G71:Ctrs:=csm T71 (fun _ _=>[]) (fun _=>false)
def zGG:Ann:=⟨41,[(0,zK [0] []),(1,zK [0,5,6] []),(2,zK [0,5,6,7] []),(3,zK [0,5,6,7,19] []),(4,zK [0,5,6,7] []),(5,zK [0,5,6,7] []),(6,zK [2,3,4] [])],
 [(3,zK [0,5,6,7] [])],
 [],
 [],[]⟩
abbrev R71:=(Int×Int×Bool)
abbrev e71 (r:R71):List PA:=[.one (.int .i64 r.1),.one (.int .i64 r.2.1),.one (.bool r.2.2)]
@[irreducible] def z71:=ptF Try.prog G71 zGG Try.f71
def zCP (zaa:(Sl Gate)) (av0:Int) (bv0:Int) (iv0:Int):St:=⟨[(0,zS enc_55 3 zaa),(5,zI av0),(6,zI bv0),(7,zI iv0)],[],[]⟩
abbrev zKw (K:List PA→Prop) (zaa:(Sl Gate)) (X:St→Prop) (P:Int→Int→Int→Bool) (S:Int→Int→Int→(Int×Int×Bool)):Prop:=∀ ⦃av0:Int⦄ ⦃bv0:Int⦄ ⦃iv0:Int⦄,P av0 bv0 iv0=true→K (e71 (S av0 bv0 iv0))→X (zCP zaa av0 bv0 iv0)
section
variable {K:List PA→Prop} {zaa:(Sl Gate)} {av0:Int} {bv0:Int} {iv0:Int} {X0:St→Prop} {P0:Int→Int→Int→Bool} {S0:Int→Int→Int→(Int×Int×Bool)}
def zh9 (zaa:(Sl Gate)) (S0:Int→Int→Int→(Int×Int×Bool)) (av0:Int) (bv0:Int) (iv0:Int):(Int×Int×Bool) :=
  (cond (decide (iv0 < (zaa.len : Int)))
 (S0 (if (zaa.get iv0.toNat).Low > av0 then (zaa.get iv0.toNat).Low else av0) (if (zaa.get iv0.toNat).High < bv0 then (zaa.get iv0.toNat).High else bv0) (w64 (iv0+(1:Int))))
 (av0,bv0,(decide (av0≤bv0))))
def zia (zaa:(Sl Gate)) (P0:Int→Int→Int→Bool) (av0:Int) (bv0:Int) (iv0:Int):Bool :=
  (cond (decide (iv0 < (zaa.len : Int)))
 (decide ((0≤iv0∧iv0 < (zaa.len:Int))) &&
 (decide ((0≤iv0∧iv0 < (zaa.len:Int))) &&
 (P0 (if (zaa.get iv0.toNat).Low > av0 then (zaa.get iv0.toNat).Low else av0) (if (zaa.get iv0.toNat).High < bv0 then (zaa.get iv0.toNat).High else bv0) (w64 (iv0+(1:Int))))))
 true)
def zib (zaa:(Sl Gate)):Nat→Int→Int→Int→(Int×Int×Bool):=lpO (fun _ _ _=>default) (zh9 zaa)
def zic (zaa:(Sl Gate)):Nat→Int→Int→Int→Bool:=lpO (fun _ _ _=>false) (zia zaa)
def zy9 (zaa:(Sl Gate)) (av0:Int) (bv0:Int) (iv0:Int):(Int×Int×Bool):=zib zaa Fuel av0 bv0 iv0
def zza (zaa:(Sl Gate)) (av0:Int) (bv0:Int) (iv0:Int):Bool:=zic zaa Fuel av0 bv0 iv0
theorem zGH (hs:zza zaa av0 bv0 iv0=true) (hk:K (e71 (zy9 zaa av0 bv0 iv0))):z71 K [1,1,0,1,0] [] (zCP zaa av0 bv0 iv0) :=
  zl (fun X=>z71 K [1,1,0,1,0,0] [X]) (by kernel_rfl) fun X0 hX =>
  (show ∀ k, zKw K zaa X0 (zic zaa k) (zib zaa k) from zeV _ _ (zia zaa) (zh9 zaa) (zKw K zaa X0)
 (by intro _ _ _ hs;exact absurd hs Bool.false_ne_true)
 (by intro P0 S0 hX0 av0 bv0 iv0 hs hk;exact hX _ (zaw (by kernel_rfl) (zc hs hk (fun hs hk=>(zau hs fun hc hs=>And.intro hc (zau hs fun hc hs=>And.intro hc (hX0 hs hk)))) (fun hs hk=>hk))))) _ hs hk
def s71 (zaa:(Sl Gate)):(Int×Int×Bool) :=
  (zy9 zaa ((zaa.get 0).Low) ((zaa.get 0).High) (1:Int))
def p71 (zaa:(Sl Gate)):Bool :=
  (decide ((0≤(0:Int)∧(0:Int) < (zaa.len:Int))) &&
 (decide ((0≤(0:Int)∧(0:Int) < (zaa.len:Int))) &&
 (zza zaa ((zaa.get 0).Low) ((zaa.get 0).High) (1:Int))))
end
theorem q71 (zaa:(Sl Gate)) (K:List PA→Prop) (hs:p71 zaa=true) (hk:K (e71 (s71 zaa))):vcFun Try.prog G71 zGG 71 [.one (.sl zaa.len 3 (fun i=>enc_55 (zaa.get i)))] K :=
  zaw (by kernel_rfl) (zau hs fun hc hs=>And.intro hc (zau hs fun hc hs=>And.intro hc (zGH hs hk)))
def zBw : List PA → COut
  | [.one (.sl a0_n a0_s a0_g)]=>.det (IsE enc_55 3 a0_s a0_g∧p71 (⟨a0_n,zad a0_g⟩:(Sl Gate))=true) [.one (.int .i64 ((s71 (⟨a0_n,zad a0_g⟩:(Sl Gate))).1)),.one (.int .i64 ((s71 (⟨a0_n,zad a0_g⟩:(Sl Gate))).2.1)),.one (.bool ((s71 (⟨a0_n,zad a0_g⟩:(Sl Gate))).2.2))]
  | _=>.no
theorem zKx:zaf Try.prog 71:=⟨_,rfl,rfl,by kernel_rfl⟩
theorem zNT:Ok Try.prog 71 zBw:=zay zM0 zKx fun args K h=>by
  unfold zBw at h
  split at h
  · rename_i a0_n a0_s a0_g
    obtain ⟨⟨⟨rfl,a0_f,rfl⟩,hs⟩,hk⟩:=h
    try rw [zac a0_f] at hs
    try rw [zac a0_f] at hk
    exact ⟨(fun _ _=>[]),(fun _=>false),zGG,q71 (⟨a0_n,a0_f⟩:(Sl Gate)) K hs hk⟩
  · exact h.elim
abbrev T21:Tabs:=(((Tabs.nil.addF 22 zyP).addF 33 zBv).addF 71 zBw)
theorem zM1:TabsOk Try.prog T21:=(((TabsOk.nil.addF zMO).addF zNS).addF zNT)
abbrev G21:Ctrs:=csm T21 (fun _ _=>[]) (fun _=>false)
def zKz:Ann:=⟨19,[(0,zK [0] []),(1,zK [0,7] []),(2,zK [5] []),(3,zK [2] []),(4,zK [2] [])],
 [],
 [],
 [],[]⟩
abbrev R21:=Bool
abbrev e21 (r:R21):List PA:=[.one (.bool r)]
section
variable {K:List PA→Prop} {zaa:(Sl Gate)}
def s21 (zaa:(Sl Gate)):Bool :=
  (cond (s22 zaa)
 ((s71 zaa).2.2)
 (decide (((s33 zaa).len:Int) > (0:Int))))
def p21 (zaa:(Sl Gate)):Bool :=
  (decide ((p22 zaa=true)) &&
 (cond (s22 zaa)
 (decide ((p71 zaa=true)) &&
 true)
 (decide ((p33 zaa=true)) &&
 true)))
end
theorem q21 (zaa:(Sl Gate)) (K:List PA→Prop) (hs:p21 zaa=true) (hk:K (e21 (s21 zaa))):vcFun Try.prog G21 zKz 21 [.one (.sl zaa.len 3 (fun i=>enc_55 (zaa.get i)))] K :=
  zaw (by kernel_rfl) (zau hs fun hc hs=>And.intro (And.intro (zE enc_55 3 zaa.get) hc) (zc hs hk (fun hs hk=>(zau hs fun hc hs=>And.intro (And.intro (zE enc_55 3 zaa.get) hc) hk)) (fun hs hk=>(zau hs fun hc hs=>And.intro (And.intro (zE enc_55 3 zaa.get) hc) hk))))
def zGI : List PA → COut
  | [.one (.sl a0_n a0_s a0_g)]=>.det (IsE enc_55 3 a0_s a0_g∧p21 (⟨a0_n,zad a0_g⟩:(Sl Gate))=true) [.one (.bool (s21 (⟨a0_n,zad a0_g⟩:(Sl Gate))))]
  | _=>.no
theorem zKA:zaf Try.prog 21:=⟨_,rfl,rfl,by kernel_rfl⟩
theorem zPF:Ok Try.prog 21 zGI:=zay zM1 zKA fun args K h=>by
  unfold zGI at h
  split at h
  · rename_i a0_n a0_s a0_g
    obtain ⟨⟨⟨rfl,a0_f,rfl⟩,hs⟩,hk⟩:=h
    try rw [zac a0_f] at hs
    try rw [zac a0_f] at hk
    exact ⟨(fun _ _=>[]),(fun _=>false),zKz,q21 (⟨a0_n,a0_f⟩:(Sl Gate)) K hs hk⟩
  · exact h.elim
abbrev T48:Tabs:=((((((Tabs.nil.addF 67 zoc).addF 68 zvN).addF 69 zpy).addF 75 ztG).addF 87 zAP).addF 89 zps)
theorem zM2:TabsOk Try.prog T48:=((((((TabsOk.nil.addF zHI).addF zMc).addF zI4).addF zMi).addF zNg).addF zIM)
abbrev G48:Ctrs:=csm T48 (fun _ _=>[]) (fun _=>false)
def zGJ:Ann:=⟨72,[(0,zK [0,3] [3]),(1,zK [0,3,14] [3]),(2,zK [4,5] []),(3,zK [3,6,7] [3,6]),(4,zK [3,6,7,21] [3,6]),(5,zK [4,5] []),(6,zK [3,6,36] [3,6]),(7,zK [4,5] []),(8,zK [3,8,9] [3,8,9]),(9,zK [8,9,10,11] [8,9,10,11]),(10,zK [8,9,10,11,50] [8,9,10,11]),(11,zK [4,5] []),(12,zK [61] []),(13,zK [4,5] []),(14,zK [4,5] [])],
 [],
 [(2,zK [0,3,14] [3]),(3,zK [0,3] [3]),(4,zK [3,6,7] [3,6]),(6,zK [3,6] [3,6]),(7,zK [3,6,36] [3,6]),(8,zK [3,6] [3,6]),(9,zK [3,8,9] [3,8,9]),(10,zK [8,9,10,11] [8,9,10,11]),(11,zK [8,9,10,11,50] [8,9,10,11]),(13,zK [61] [])],
 [],[]⟩
abbrev R48:=(Int×Int)
abbrev e48 (r:R48):List PA:=[.one (.int .i64 r.1),.one (.int .i64 r.2)]
@[irreducible] def z48:=ptF Try.prog G48 zGJ Try.f48
section
variable {K:List PA→Prop} {zaa:(Sl Gate)} {g:Gate} {zai:Bool} {ev2:Int} {zfi:(Sl Gate)} {zfj:(Sl straight)} {zj5:Nat→List PV} {zj6:Nat→List PV} {zcv:(Sl Gate)} {zdH:(Sl straight)} {zj7:Nat→List PV} {zj8:Nat→List PV} {zgF:Bool} {zor:(Sl Gate)} {zos:(Sl straight)} {zzb:Nat→List PV} {zzc:Nat→List PV} {zfZ:(Sl Gate)} {zf0:(Sl straight)} {zzd:Nat→List PV} {zze:Nat→List PV} {zc3:Int} {zc4:Int} {zdq:Int} {zdr:Int} {zd1:Int} {zd2:Int} {zcS:Int} {zcT:Int} {zBx:Bool} {zBy:Bool}
def zmG (zBy:Bool):(Int×Int) :=
  (cond zBy
 ((3:Int),(0:Int))
 ((2:Int),(0:Int)))
theorem zzf (hk:K (e48 (zmG zBy))):z48 K [1,1,1,1,1,1,1,0,0,1,1,1] [] ⟨[(61,zB zBy)],[],[]⟩:=zaw (by kernel_rfl) (zt hk (fun hk=>hk) (fun hk=>hk))
def zmH (zc3:Int) (zc4:Int) (zdq:Int) (zdr:Int) (zd1:Int) (zd2:Int) (zcS:Int) (zcT:Int) (zBx:Bool):(Int×Int) :=
  (cond zBx
 ((1:Int),(0:Int))
 (cond (decide ((s69 (⟨zdq, zdr⟩ : Frac) (⟨zd1, zd2⟩ : Frac)) < (0:Int)))
 (zmG true)
 (zmG (decide ((s69 (⟨zc3,zc4⟩:Frac) (⟨zcS,zcT⟩:Frac)) > (0:Int))))))
theorem zzg (hk:K (e48 (zmH zc3 zc4 zdq zdr zd1 zd2 zcS zcT zBx))):z48 K [1,1,1,1,1,1,1,0,0,1] [] ⟨[(8,zp 8 0),(9,zp 9 0),(10,zp 10 0),(11,zp 11 0),(50,zB zBx)],[(8,.box 25 (zm (zae (⟨zc3,zc4⟩:Frac)))),(9,.box 25 (zm (zae (⟨zdq,zdr⟩:Frac)))),(10,.box 25 (zm (zae (⟨zd1,zd2⟩:Frac)))),(11,.box 25 (zm (zae (⟨zcS,zcT⟩:Frac))))],[]⟩:=zaw (by kernel_rfl) (zt hk (fun hk=>hk) (fun hk=>(zt hk (fun hk=>(zzf hk)) (fun hk=>(zzf hk)))))
def zqV (zc3:Int) (zc4:Int) (zdq:Int) (zdr:Int) (zd1:Int) (zd2:Int) (zcS:Int) (zcT:Int):(Int×Int) :=
  (cond (decide ((s69 (⟨zc3, zc4⟩ : Frac) (⟨zd1, zd2⟩ : Frac)) ≥ (0:Int)))
 (zmH zc3 zc4 zdq zdr zd1 zd2 zcS zcT (decide ((s69 (⟨zdq,zdr⟩:Frac) (⟨zcS,zcT⟩:Frac))≤(0:Int))))
 (zmH zc3 zc4 zdq zdr zd1 zd2 zcS zcT false))
theorem zGK (hk:K (e48 (zqV zc3 zc4 zdq zdr zd1 zd2 zcS zcT))):z48 K [1,1,1,1,1,1,1] [] ⟨[(8,zp 8 0),(9,zp 9 0),(10,zp 10 0),(11,zp 11 0)],[(8,.box 25 (zm (zae (⟨zc3,zc4⟩:Frac)))),(9,.box 25 (zm (zae (⟨zdq,zdr⟩:Frac)))),(10,.box 25 (zm (zae (⟨zd1,zd2⟩:Frac)))),(11,.box 25 (zm (zae (⟨zcS,zcT⟩:Frac))))],[]⟩:=zaw (by kernel_rfl) (zt hk (fun hk=>(zzg hk)) (fun hk=>(zzg hk)))
def zmI (g:Gate) (zc3:Int) (zc4:Int) (zdq:Int) (zdr:Int):(Int×Int) :=
  (zqV zc3 zc4 zdq zdr ((s89 g.Low (1:Int)).Num) ((s89 g.Low (1:Int)).Den) ((s89 g.High (1:Int)).Num) ((s89 g.High (1:Int)).Den))
def zmJ (g:Gate) (zc3:Int) (zc4:Int) (zdq:Int) (zdr:Int):Bool :=
  (decide ((p89 g.Low (1:Int)=true)) &&
 (decide ((p89 g.High (1:Int)=true)) &&
 true))
theorem zGL (hs:zmJ g zc3 zc4 zdq zdr=true) (hk:K (e48 (zmI g zc3 zc4 zdq zdr))):z48 K [1,1,1,1,1,1] [] ⟨[(3,zp 3 0),(8,zp 8 0),(9,zp 9 0)],[(3,.box 55 (zm (enc_55 g))),(8,.box 25 (zm (zae (⟨zc3,zc4⟩:Frac)))),(9,.box 25 (zm (zae (⟨zdq,zdr⟩:Frac))))],[]⟩:=zaw (by kernel_rfl) (zau hs fun hc hs=>And.intro hc (zau hs fun hc hs=>And.intro hc (zGK hk)))
def zmK (g:Gate) (zfZ:(Sl Gate)) (zf0:(Sl straight)):(Int×Int) :=
  (zmI g (((s68 (⟨(⟨zfZ⟩:list),zf0⟩:set) g.Z).1).Num) (((s68 (⟨(⟨zfZ⟩:list),zf0⟩:set) g.Z).1).Den) (((s68 (⟨(⟨zfZ⟩:list),zf0⟩:set) g.Z).2).Num) (((s68 (⟨(⟨zfZ⟩:list),zf0⟩:set) g.Z).2).Den))
def zmL (g:Gate) (zfZ:(Sl Gate)) (zf0:(Sl straight)):Bool :=
  (decide ((p68 (⟨(⟨zfZ⟩:list),zf0⟩:set) g.Z=true)) &&
 (zmJ g (((s68 (⟨(⟨zfZ⟩:list),zf0⟩:set) g.Z).1).Num) (((s68 (⟨(⟨zfZ⟩:list),zf0⟩:set) g.Z).1).Den) (((s68 (⟨(⟨zfZ⟩:list),zf0⟩:set) g.Z).2).Num) (((s68 (⟨(⟨zfZ⟩:list),zf0⟩:set) g.Z).2).Den)))
theorem zGM (hs:zmL g zfZ zf0=true) (hk:K (e48 (zmK g zfZ zf0))) (zGN:zzd=zg enc_55 zfZ) (zGO:zze=zg zah zf0):z48 K [1,1,1,1,1] [] ⟨[(3,zp 3 0),(6,zp 6 0)],[(3,.box 55 (zm (enc_55 g))),(6,.box 104 [.p (.sl zfZ.len 3 zzd),.p (.sl zf0.len 3 zze)])],[]⟩:=by subst zGN;subst zGO;exact zaw (by kernel_rfl) (zau hs fun hc hs=>And.intro (And.intro (zE enc_55 3 zfZ.get) (And.intro (zE zah 3 zf0.get) hc)) (zGL hs hk))
def zmM (g:Gate) (zgF:Bool) (zor:(Sl Gate)) (zos:(Sl straight)):(Int×Int) :=
  (cond zgF
 ((2:Int),(0:Int))
 (zmK g zor zos))
def zmN (g:Gate) (zgF:Bool) (zor:(Sl Gate)) (zos:(Sl straight)):Bool :=
  (cond zgF
 true
 (zmL g zor zos))
theorem zzh (hs:zmN g zgF zor zos=true) (hk:K (e48 (zmM g zgF zor zos))) (zGP:zzb=zg enc_55 zor) (zGQ:zzc=zg zah zos):z48 K [1,1,1,1,0,1] [] ⟨[(3,zp 3 0),(6,zp 6 0),(36,zB zgF)],[(3,.box 55 (zm (enc_55 g))),(6,.box 104 [.p (.sl zor.len 3 zzb),.p (.sl zos.len 3 zzc)])],[]⟩:=by subst zGP;subst zGQ;exact zaw (by kernel_rfl) (zc hs hk (fun hs hk=>hk) (fun hs hk=>(zGM hs hk rfl rfl)))
def zqW (g:Gate) (zcv:(Sl Gate)) (zdH:(Sl straight)):(Int×Int) :=
  (cond (s67 (⟨zcv⟩ : list))
 (zmM g ((zcv.get 0).Z != g.Z) zcv zdH)
 (zmM g false zcv zdH))
def zqX (g:Gate) (zcv:(Sl Gate)) (zdH:(Sl straight)):Bool :=
  (decide ((p67 (⟨zcv⟩:list)=true)) &&
 (cond (s67 (⟨zcv⟩ : list))
 (decide ((0≤(0:Int)∧(0:Int) < (zcv.len:Int))) &&
 (zmN g ((zcv.get 0).Z != g.Z) zcv zdH))
 (zmN g false zcv zdH)))
theorem zGR (hs:zqX g zcv zdH=true) (hk:K (e48 (zqW g zcv zdH))) (zpV:zj7=zg enc_55 zcv) (zpW:zj8=zg zah zdH):z48 K [1,1,1,1] [] ⟨[(3,zp 3 0),(6,zp 6 0)],[(3,.box 55 (zm (enc_55 g))),(6,.box 104 [.p (.sl zcv.len 3 zj7),.p (.sl zdH.len 3 zj8)])],[]⟩:=by subst zpV;subst zpW;exact zaw (by kernel_rfl) (zau hs fun hc hs=>And.intro (And.intro (zE enc_55 3 zcv.get) hc) (zc hs hk (fun hs hk=>(zau hs fun hc hs=>And.intro hc (zzh hs hk rfl rfl))) (fun hs hk=>(zzh hs hk rfl rfl))))
def zmO (g:Gate) (ev2:Int) (zfi:(Sl Gate)) (zfj:(Sl straight)):(Int×Int) :=
  (cond (ev2 != (0:Int))
 ((0:Int),ev2)
 (zqW g zfi zfj))
def zmP (g:Gate) (ev2:Int) (zfi:(Sl Gate)) (zfj:(Sl straight)):Bool :=
  (cond (ev2 != (0:Int))
 true
 (zqX g zfi zfj))
theorem zGS (hs:zmP g ev2 zfi zfj=true) (hk:K (e48 (zmO g ev2 zfi zfj))) (zpX:zj5=zg enc_55 zfi) (zpY:zj6=zg zah zfj):z48 K [1,1,1] [] ⟨[(3,zp 3 0),(6,zp 6 0),(7,zI ev2)],[(3,.box 55 (zm (enc_55 g))),(6,.box 104 [.p (.sl zfi.len 3 zj5),.p (.sl zfj.len 3 zj6)])],[]⟩:=by subst zpX;subst zpY;exact zaw (by kernel_rfl) (zc hs hk (fun hs hk=>hk) (fun hs hk=>(zGR hs hk rfl rfl)))
def zmQ (zaa:(Sl Gate)) (g:Gate):(Int×Int) :=
  (zmO g ((zoE zaa).2) (((zoE zaa).1).list.Gates) (((zoE zaa).1).corners))
def zmR (zaa:(Sl Gate)) (g:Gate):Bool :=
  (decide ((zEC zaa=true)) &&
 (zmP g ((zoE zaa).2) (((zoE zaa).1).list.Gates) (((zoE zaa).1).corners)))
theorem zGT (hs:zmR zaa g=true) (hk:K (e48 (zmQ zaa g))):z48 K [1,1] [] ⟨[(0,zS enc_55 3 zaa),(3,zp 3 0)],[(3,.box 55 (zm (enc_55 g)))],[]⟩:=zaw (by kernel_rfl) (zau hs fun hc hs=>And.intro (And.intro (zE enc_55 3 zaa.get) hc) (zGS hs hk rfl rfl))
def zkt (zaa:(Sl Gate)) (g:Gate) (zai:Bool):(Int×Int) :=
  (cond zai
 ((0:Int),(2:Int))
 (zmQ zaa g))
def zku (zaa:(Sl Gate)) (g:Gate) (zai:Bool):Bool :=
  (cond zai
 true
 (zmR zaa g))
theorem zGU (hs:zku zaa g zai=true) (hk:K (e48 (zkt zaa g zai))):z48 K [1,0,1] [] ⟨[(0,zS enc_55 3 zaa),(3,zp 3 0),(14,zB zai)],[(3,.box 55 (zm (enc_55 g)))],[]⟩:=zaw (by kernel_rfl) (zc hs hk (fun hs hk=>hk) (fun hs hk=>(zGT hs hk)))
def s48 (zaa:(Sl Gate)) (g:Gate):(Int×Int) :=
  (zkt zaa g (!(s87 g)))
def p48 (zaa:(Sl Gate)) (g:Gate):Bool :=
  (zku zaa g (!(s87 g)))
end
theorem q48 (zaa:(Sl Gate)) (g:Gate) (K:List PA→Prop) (hs:p48 zaa g=true) (hk:K (e48 (s48 zaa g))):vcFun Try.prog G48 zGJ 48 [.one (.sl zaa.len 3 (fun i=>enc_55 (zaa.get i))),.agg (enc_55 g)] K :=
  zaw (by kernel_rfl) (zGU hs hk)
def zGV : List PA → COut
  | [.one (.sl a0_n a0_s a0_g),.agg [.int .i64 a1_Z,.int .i64 a1_Low,.int .i64 a1_High]]=>.det (IsE enc_55 3 a0_s a0_g∧p48 (⟨a0_n,zad a0_g⟩:(Sl Gate)) (⟨a1_Z,a1_Low,a1_High⟩:Gate)=true) [.one (.int .i64 ((s48 (⟨a0_n,zad a0_g⟩:(Sl Gate)) (⟨a1_Z,a1_Low,a1_High⟩:Gate)).1)),.one (.int .i64 ((s48 (⟨a0_n,zad a0_g⟩:(Sl Gate)) (⟨a1_Z,a1_Low,a1_High⟩:Gate)).2))]
  | _=>.no
theorem zKB:zaf Try.prog 48:=⟨_,rfl,rfl,by kernel_rfl⟩
theorem zPG:Ok Try.prog 48 zGV:=zay zM2 zKB fun args K h=>by
  unfold zGV at h
  split at h
  · rename_i a0_n a0_s a0_g a1_Z a1_Low a1_High
    obtain ⟨⟨⟨rfl,a0_f,rfl⟩,hs⟩,hk⟩:=h
    try rw [zac a0_f] at hs
    try rw [zac a0_f] at hk
    exact ⟨(fun _ _=>[]),(fun _=>false),zGJ,q48 (⟨a0_n,a0_f⟩:(Sl Gate)) (⟨a1_Z,a1_Low,a1_High⟩:Gate) K hs hk⟩
  · exact h.elim
abbrev T28:Tabs:=((Tabs.nil.addF 40 zp8).addF 73 zBl)
theorem zM3:TabsOk Try.prog T28:=((TabsOk.nil.addF zJK).addF zNJ)
abbrev G28:Ctrs:=csm T28 (fun _ _=>[]) (fun _=>false)
def zGW:Ann:=⟨44,[(0,zK [1,2,4] [2,4]),(1,zK [1,2,4,5] [2,4]),(2,zK [4] [4])],
 [],
 [(2,zK [1,2,4,5] [2,4])],
 [],[]⟩
abbrev R28:=Frac
abbrev e28 (r:R28):List PA:=[.agg [.int .i64 r.Num,.int .i64 r.Den]]
@[irreducible] def z28:=ptF Try.prog G28 zGW Try.f28
section
variable {K:List PA→Prop} {l_a0:Line} {z:Int} {dv0:Int}
def zqY (l_a0:Line) (z:Int) (dv0:Int):Frac :=
  (s40 (w64 ((w64 (l_a0.Start.Num * (w64 (dv0.tdiv l_a0.Start.Den))))+(w64 ((w64 (l_a0.Slope.Num * (w64 (dv0.tdiv l_a0.Slope.Den)))) * z)))) dv0)
def zqZ (l_a0:Line) (z:Int) (dv0:Int):Bool :=
  (decide ((l_a0.Start.Den ≠ 0)) &&
 (decide ((l_a0.Slope.Den ≠ 0)) &&
 (decide ((p40 (w64 ((w64 (l_a0.Start.Num * (w64 (dv0.tdiv l_a0.Start.Den))))+(w64 ((w64 (l_a0.Slope.Num * (w64 (dv0.tdiv l_a0.Slope.Den)))) * z)))) dv0=true)) &&
 true)))
theorem zGX (hs:zqZ l_a0 z dv0=true) (hk:K (e28 (zqY l_a0 z dv0))):z28 K [1,1] [] ⟨[(1,zI z),(2,zp 2 0),(4,zp 4 0),(5,zI dv0)],[(2,.box 37 (zm (zav l_a0))),(4,.box 25 (zm (zae (⟨(0:Int),(0:Int)⟩:Frac))))],[]⟩:=zaw (by kernel_rfl) (zau hs fun hc hs=>And.intro hc (zau hs fun hc hs=>And.intro hc (zau hs fun hc hs=>And.intro hc hk)))
def s28 (l_a0:Line) (z:Int):Frac :=
  (zqY l_a0 z (w64 ((w64 (l_a0.Start.Den.tdiv (s73 l_a0.Start.Den l_a0.Slope.Den))) * l_a0.Slope.Den)))
def p28 (l_a0:Line) (z:Int):Bool :=
  (decide ((p73 l_a0.Start.Den l_a0.Slope.Den=true)) &&
 (decide (((s73 l_a0.Start.Den l_a0.Slope.Den) ≠ 0)) &&
 (zqZ l_a0 z (w64 ((w64 (l_a0.Start.Den.tdiv (s73 l_a0.Start.Den l_a0.Slope.Den))) * l_a0.Slope.Den)))))
end
theorem q28 (l_a0:Line) (z:Int) (K:List PA→Prop) (hs:p28 l_a0 z=true) (hk:K (e28 (s28 l_a0 z))):vcFun Try.prog G28 zGW 28 [.agg (zav l_a0),.one (.int .i64 z)] K :=
  zaw (by kernel_rfl) (zau hs fun hc hs=>And.intro hc (zau hs fun hc hs=>And.intro hc (zGX hs hk)))
def zGY : List PA → COut
  | [.agg [.int .i64 a0_Slope_Num,.int .i64 a0_Slope_Den,.int .i64 a0_Start_Num,.int .i64 a0_Start_Den],.one (.int .i64 a1)]=>.det (p28 (⟨(⟨a0_Slope_Num,a0_Slope_Den⟩:Frac),(⟨a0_Start_Num,a0_Start_Den⟩:Frac)⟩:Line) a1=true) [.agg [.int .i64 ((s28 (⟨(⟨a0_Slope_Num,a0_Slope_Den⟩:Frac),(⟨a0_Start_Num,a0_Start_Den⟩:Frac)⟩:Line) a1).Num),.int .i64 ((s28 (⟨(⟨a0_Slope_Num,a0_Slope_Den⟩:Frac),(⟨a0_Start_Num,a0_Start_Den⟩:Frac)⟩:Line) a1).Den)]]
  | _=>.no
theorem call28:zaf Try.prog 28:=⟨_,rfl,rfl,by kernel_rfl⟩
theorem zPH:Ok Try.prog 28 zGY:=zay zM3 call28 fun args K h=>by
  unfold zGY at h
  split at h
  · rename_i a0_Slope_Num a0_Slope_Den a0_Start_Num a0_Start_Den a1
    obtain ⟨hs,hk⟩:=h
    exact ⟨(fun _ _=>[]),(fun _=>false),zGW,q28 (⟨(⟨a0_Slope_Num,a0_Slope_Den⟩:Frac),(⟨a0_Start_Num,a0_Start_Den⟩:Frac)⟩:Line) a1 K hs hk⟩
  · exact h.elim
abbrev T36:Tabs:=((((((Tabs.nil.addF 22 zyP).addF 28 zGY).addF 29 zyX).addF 33 zBv).addF 40 zp8).addF 71 zBw)
theorem zM4:TabsOk Try.prog T36:=((((((TabsOk.nil.addF zMO).addF zPH).addF zMV).addF zNS).addF zJK).addF zNT)
abbrev G36:Ctrs:=csm T36 (fun _ _=>[]) (fun _=>false)
def zGZ:Ann:=⟨60,[(0,zK [0,1,4,5] [4,5]),(1,zK [0,1,4,5,15] [4,5]),(2,zK [4,5,6,7] [4,5]),(3,zK [4,5] [4,5]),(4,zK [1,4,5,9] [4,5]),(5,zK [1,4,5,9,10,11] [4,5,10,11]),(6,zK [1,4,5,9,10,11,12] [4,5,10,11]),(7,zK [1,4,5,9,10,11,12,41] [4,5,10,11]),(8,zK [1,4,5,9,10,11,12] [4,5,10,11]),(9,zK [1,4,5,9,10,11,12,13] [4,5,10,11,13]),(10,zK [1,4,5,9,10,11,12,13,52] [4,5,10,11,13]),(11,zK [1,4,5,9,10,11,12,13] [4,5,10,11,13]),(12,zK [1,4,5,9,10,11,12,13,56] [4,5,10,11,13]),(13,zK [1,4,5,9,10,11,12] [4,5,10,11]),(14,zK [4,5] [4,5])],
 [(7,zK [1,4,5,9,10,11,12] [4,5,10,11])],
 [(2,zK [0,1,4,5,15] [4,5]),(3,zK [4,5,6,7] [4,5]),(4,zK [0,1,4,5] [4,5]),(5,zK [1,4,5,9] [4,5]),(6,zK [1,4,5,9,10,11] [4,5,10,11]),(10,zK [1,4,5,9,10,11,12,13] [4,5,10,11,13]),(11,zK [1,4,5,9,10,11,12,13,52] [4,5,10,11,13]),(13,zK [1,4,5,9,10,11,12,13,56] [4,5,10,11,13])],
 [],[]⟩
abbrev R36:=(Frac×Frac)
abbrev e36 (r:R36):List PA:=[.agg [.int .i64 r.1.Num,.int .i64 r.1.Den],.agg [.int .i64 r.2.Num,.int .i64 r.2.Den]]
@[irreducible] def z36:=ptF Try.prog G36 zGZ Try.f36
def zCQ (z:Int) (lv3:(Sl Line)) (iv5:Int) (zeL:Int) (zeM:Int) (zeN:Int) (zeO:Int):St:=⟨[(1,zI z),(4,zp 4 0),(5,zp 5 0),(9,zS zav 4 lv3),(10,zp 10 0),(11,zp 11 0),(12,zI iv5)],[(4,.box 25 (zm (zae (⟨(0:Int),(0:Int)⟩:Frac)))),(5,.box 25 (zm (zae (⟨(0:Int),(0:Int)⟩:Frac)))),(10,.box 25 (zm (zae (⟨zeL,zeM⟩:Frac)))),(11,.box 25 (zm (zae (⟨zeN,zeO⟩:Frac))))],[]⟩
abbrev zzi (K:List PA→Prop) (z:Int) (lv3:(Sl Line)) (X:St→Prop) (P:Int→Int→Int→Int→Int→Bool) (S:Int→Int→Int→Int→Int→(Frac×Frac)):Prop:=∀ ⦃iv5:Int⦄ ⦃zeL:Int⦄ ⦃zeM:Int⦄ ⦃zeN:Int⦄ ⦃zeO:Int⦄,P iv5 zeL zeM zeN zeO=true→K (e36 (S iv5 zeL zeM zeN zeO))→X (zCQ z lv3 iv5 zeL zeM zeN zeO)
section
variable {K:List PA→Prop} {zaa:(Sl Gate)} {z:Int} {zq0:Bool} {av1:Int} {bv1:Int} {lv3:(Sl Line)} {zKC:Nat→List PV} {zq1:Int} {zq2:Int} {ziF:Int} {ziG:Int} {iv5:Int} {zeL:Int} {zeM:Int} {zeN:Int} {zeO:Int} {X5:St→Prop} {P5:Int→Int→Int→Int→Int→Bool} {S5:Int→Int→Int→Int→Int→(Frac×Frac)} {iv6:Int} {zc3:Int} {zc4:Int} {zdq:Int} {zdr:Int} {zcp:Int} {zcq:Int} {iv7:Int} {zq3:Bool} {zq4:Int} {zq5:Int} {zid:Int} {zie:Int} {iv8:Int} {zq6:Bool} {zmS:Int} {zmT:Int} {zq7:Int} {zq8:Int}
def zmU (S5:Int→Int→Int→Int→Int→(Frac×Frac)) (z:Int) (lv3:(Sl Line)) (zcp:Int) (zcq:Int) (iv8:Int) (zq6:Bool) (zmS:Int) (zmT:Int) (zq7:Int) (zq8:Int):(Frac×Frac) :=
  (cond zq6
 (S5 (w64 (iv8+(1:Int))) zmS zmT zcp zcq)
 (S5 (w64 (iv8+(1:Int))) zmS zmT zq7 zq8))
def zmV (P5:Int→Int→Int→Int→Int→Bool) (z:Int) (lv3:(Sl Line)) (zcp:Int) (zcq:Int) (iv8:Int) (zq6:Bool) (zmS:Int) (zmT:Int) (zq7:Int) (zq8:Int):Bool :=
  (cond zq6
 (P5 (w64 (iv8+(1:Int))) zmS zmT zcp zcq)
 (P5 (w64 (iv8+(1:Int))) zmS zmT zq7 zq8))
theorem zzj (hX5:zzi K z lv3 X5 P5 S5) (hs:zmV P5 z lv3 zcp zcq iv8 zq6 zmS zmT zq7 zq8=true) (hk:K (e36 (zmU S5 z lv3 zcp zcq iv8 zq6 zmS zmT zq7 zq8))):z36 K [1,1,1,1,0,1,0,0,1,0,0,1,1,1] [X5] ⟨[(1,zI z),(4,zp 4 0),(5,zp 5 0),(9,zS zav 4 lv3),(10,zp 10 0),(11,zp 11 0),(12,zI iv8),(13,zp 13 0),(56,zB zq6)],[(4,.box 25 (zm (zae (⟨(0:Int),(0:Int)⟩:Frac)))),(5,.box 25 (zm (zae (⟨(0:Int),(0:Int)⟩:Frac)))),(10,.box 25 (zm (zae (⟨zmS,zmT⟩:Frac)))),(11,.box 25 (zm (zae (⟨zq7,zq8⟩:Frac)))),(13,.box 25 (zm (zae (⟨zcp,zcq⟩:Frac))))],[]⟩:=zaw (by kernel_rfl) (zc hs hk (fun hs hk=>(hX5 hs hk)) (fun hs hk=>(hX5 hs hk)))
def zq9 (S5:Int→Int→Int→Int→Int→(Frac×Frac)) (z:Int) (lv3:(Sl Line)) (zcp:Int) (zcq:Int) (iv7:Int) (zq3:Bool) (zq4:Int) (zq5:Int) (zid:Int) (zie:Int):(Frac×Frac) :=
  (cond zq3
 (zmU S5 z lv3 zcp zcq iv7 (s29 (⟨zid,zie⟩:Frac) (⟨zcp,zcq⟩:Frac)) zcp zcq zid zie)
 (zmU S5 z lv3 zcp zcq iv7 (s29 (⟨zid,zie⟩:Frac) (⟨zcp,zcq⟩:Frac)) zq4 zq5 zid zie))
def zra (P5:Int→Int→Int→Int→Int→Bool) (z:Int) (lv3:(Sl Line)) (zcp:Int) (zcq:Int) (iv7:Int) (zq3:Bool) (zq4:Int) (zq5:Int) (zid:Int) (zie:Int):Bool :=
  (cond zq3
 (zmV P5 z lv3 zcp zcq iv7 (s29 (⟨zid,zie⟩:Frac) (⟨zcp,zcq⟩:Frac)) zcp zcq zid zie)
 (zmV P5 z lv3 zcp zcq iv7 (s29 (⟨zid,zie⟩:Frac) (⟨zcp,zcq⟩:Frac)) zq4 zq5 zid zie))
theorem zG0 (hX5:zzi K z lv3 X5 P5 S5) (hs:zra P5 z lv3 zcp zcq iv7 zq3 zq4 zq5 zid zie=true) (hk:K (e36 (zq9 S5 z lv3 zcp zcq iv7 zq3 zq4 zq5 zid zie))):z36 K [1,1,1,1,0,1,0,0,1,0,0,1,0,1] [X5] ⟨[(1,zI z),(4,zp 4 0),(5,zp 5 0),(9,zS zav 4 lv3),(10,zp 10 0),(11,zp 11 0),(12,zI iv7),(13,zp 13 0),(52,zB zq3)],[(4,.box 25 (zm (zae (⟨(0:Int),(0:Int)⟩:Frac)))),(5,.box 25 (zm (zae (⟨(0:Int),(0:Int)⟩:Frac)))),(10,.box 25 (zm (zae (⟨zq4,zq5⟩:Frac)))),(11,.box 25 (zm (zae (⟨zid,zie⟩:Frac)))),(13,.box 25 (zm (zae (⟨zcp,zcq⟩:Frac))))],[]⟩:=zaw (by kernel_rfl) (zc hs hk (fun hs hk=>(zzj hX5 hs hk)) (fun hs hk=>(zzj hX5 hs hk)))
def zrb (S5:Int→Int→Int→Int→Int→(Frac×Frac)) (z:Int) (lv3:(Sl Line)) (iv6:Int) (zc3:Int) (zc4:Int) (zdq:Int) (zdr:Int) (zcp:Int) (zcq:Int):(Frac×Frac) :=
  (zq9 S5 z lv3 zcp zcq iv6 (s29 (⟨zcp,zcq⟩:Frac) (⟨zc3,zc4⟩:Frac)) zc3 zc4 zdq zdr)
def zrd (P5:Int→Int→Int→Int→Int→Bool) (z:Int) (lv3:(Sl Line)) (iv6:Int) (zc3:Int) (zc4:Int) (zdq:Int) (zdr:Int) (zcp:Int) (zcq:Int):Bool :=
  (zra P5 z lv3 zcp zcq iv6 (s29 (⟨zcp,zcq⟩:Frac) (⟨zc3,zc4⟩:Frac)) zc3 zc4 zdq zdr)
theorem zG1 (hX5:zzi K z lv3 X5 P5 S5) (hs:zrd P5 z lv3 iv6 zc3 zc4 zdq zdr zcp zcq=true) (hk:K (e36 (zrb S5 z lv3 iv6 zc3 zc4 zdq zdr zcp zcq))):z36 K [1,1,1,1,0,1,0,0,1,0,0,1] [X5] ⟨[(1,zI z),(4,zp 4 0),(5,zp 5 0),(9,zS zav 4 lv3),(10,zp 10 0),(11,zp 11 0),(12,zI iv6),(13,zp 13 0)],[(4,.box 25 (zm (zae (⟨(0:Int),(0:Int)⟩:Frac)))),(5,.box 25 (zm (zae (⟨(0:Int),(0:Int)⟩:Frac)))),(10,.box 25 (zm (zae (⟨zc3,zc4⟩:Frac)))),(11,.box 25 (zm (zae (⟨zdq,zdr⟩:Frac)))),(13,.box 25 (zm (zae (⟨zcp,zcq⟩:Frac))))],[]⟩:=zaw (by kernel_rfl) (zG0 hX5 hs hk)
def zif (z:Int) (lv3:(Sl Line)) (S5:Int→Int→Int→Int→Int→(Frac×Frac)) (iv5:Int) (zeL:Int) (zeM:Int) (zeN:Int) (zeO:Int):(Frac×Frac) :=
  (cond (decide (iv5 < (lv3.len : Int)))
 (zrb S5 z lv3 iv5 zeL zeM zeN zeO ((s28 (lv3.get iv5.toNat) z).Num) ((s28 (lv3.get iv5.toNat) z).Den))
 ((⟨zeL,zeM⟩:Frac),(⟨zeN,zeO⟩:Frac)))
def zih (z:Int) (lv3:(Sl Line)) (P5:Int→Int→Int→Int→Int→Bool) (iv5:Int) (zeL:Int) (zeM:Int) (zeN:Int) (zeO:Int):Bool :=
  (cond (decide (iv5 < (lv3.len : Int)))
 (decide ((0≤iv5∧iv5 < (lv3.len:Int))) &&
 (decide ((p28 (lv3.get iv5.toNat) z=true)) &&
 (zrd P5 z lv3 iv5 zeL zeM zeN zeO ((s28 (lv3.get iv5.toNat) z).Num) ((s28 (lv3.get iv5.toNat) z).Den))))
 true)
def zii (z:Int) (lv3:(Sl Line)):Nat→Int→Int→Int→Int→Int→(Frac×Frac):=lpO (fun _ _ _ _ _=>default) (zif z lv3)
def zij (z:Int) (lv3:(Sl Line)):Nat→Int→Int→Int→Int→Int→Bool:=lpO (fun _ _ _ _ _=>false) (zih z lv3)
def zzk (z:Int) (lv3:(Sl Line)) (iv5:Int) (zeL:Int) (zeM:Int) (zeN:Int) (zeO:Int):(Frac×Frac):=zii z lv3 Fuel iv5 zeL zeM zeN zeO
def zzl (z:Int) (lv3:(Sl Line)) (iv5:Int) (zeL:Int) (zeM:Int) (zeN:Int) (zeO:Int):Bool:=zij z lv3 Fuel iv5 zeL zeM zeN zeO
theorem zG2 (hs:zzl z lv3 iv5 zeL zeM zeN zeO=true) (hk:K (e36 (zzk z lv3 iv5 zeL zeM zeN zeO))):z36 K [1,1,1,1,0,1,0] [] (zCQ z lv3 iv5 zeL zeM zeN zeO) :=
  zl (fun X=>z36 K [1,1,1,1,0,1,0,0] [X]) (by kernel_rfl) fun X5 hX =>
  (show ∀ k, zzi K z lv3 X5 (zij z lv3 k) (zii z lv3 k) from zeV _ _ (zih z lv3) (zif z lv3) (zzi K z lv3 X5)
 (by intro _ _ _ _ _ hs;exact absurd hs Bool.false_ne_true)
 (by intro P5 S5 hX5 iv5 zeL zeM zeN zeO hs hk;exact hX _ (zaw (by kernel_rfl) (zc hs hk (fun hs hk=>(zau hs fun hc hs=>And.intro hc (zau hs fun hc hs=>And.intro hc (zG1 hX5 hs hk)))) (fun hs hk=>hk))))) _ hs hk
def zzm (z:Int) (lv3:(Sl Line)) (zq1:Int) (zq2:Int) (ziF:Int) (ziG:Int):(Frac×Frac) :=
  (zzk z lv3 (1:Int) zq1 zq2 ziF ziG)
def zre (z:Int) (lv3:(Sl Line)) (zq1:Int) (zq2:Int) (ziF:Int) (ziG:Int):Bool :=
  (zzl z lv3 (1:Int) zq1 zq2 ziF ziG)
theorem zG3 (hs:zre z lv3 zq1 zq2 ziF ziG=true) (hk:K (e36 (zzm z lv3 zq1 zq2 ziF ziG))):z36 K [1,1,1,1] [] ⟨[(1,zI z),(4,zp 4 0),(5,zp 5 0),(9,zS zav 4 lv3),(10,zp 10 0),(11,zp 11 0)],[(4,.box 25 (zm (zae (⟨(0:Int),(0:Int)⟩:Frac)))),(5,.box 25 (zm (zae (⟨(0:Int),(0:Int)⟩:Frac)))),(10,.box 25 (zm (zae (⟨zq1,zq2⟩:Frac)))),(11,.box 25 (zm (zae (⟨ziF,ziG⟩:Frac))))],[]⟩:=zaw (by kernel_rfl) (zG2 hs hk)
def zzn (z:Int) (lv3:(Sl Line)):(Frac×Frac) :=
  (zzm z lv3 ((s28 (lv3.get 0) z).Num) ((s28 (lv3.get 0) z).Den) ((s28 (lv3.get 0) z).Num) ((s28 (lv3.get 0) z).Den))
def zrf (z:Int) (lv3:(Sl Line)):Bool :=
  (decide ((0≤(0:Int)∧(0:Int) < (lv3.len:Int))) &&
 (decide ((p28 (lv3.get 0) z=true)) &&
 (decide ((0≤(0:Int)∧(0:Int) < (lv3.len:Int))) &&
 (decide ((p28 (lv3.get 0) z=true)) &&
 (zre z lv3 ((s28 (lv3.get 0) z).Num) ((s28 (lv3.get 0) z).Den) ((s28 (lv3.get 0) z).Num) ((s28 (lv3.get 0) z).Den))))))
theorem zG4 (hs:zrf z lv3=true) (hk:K (e36 (zzn z lv3))) (zM5:zKC=zg zav lv3):z36 K [1,1,1] [] ⟨[(1,zI z),(4,zp 4 0),(5,zp 5 0),(9,zP (.sl lv3.len 4 zKC))],[(4,.box 25 (zm (zae (⟨(0:Int),(0:Int)⟩:Frac)))),(5,.box 25 (zm (zae (⟨(0:Int),(0:Int)⟩:Frac))))],[]⟩:=by subst zM5;exact zaw (by kernel_rfl) (zau hs fun hc hs=>And.intro hc (zau hs fun hc hs=>And.intro hc (zau hs fun hc hs=>And.intro hc (zau hs fun hc hs=>And.intro hc (zG3 hs hk)))))
def zmW (zaa:(Sl Gate)) (z:Int):(Frac×Frac) :=
  (zzn z (s33 zaa))
def zmX (zaa:(Sl Gate)) (z:Int):Bool :=
  (decide ((p33 zaa=true)) &&
 (zrf z (s33 zaa)))
theorem zG5 (hs:zmX zaa z=true) (hk:K (e36 (zmW zaa z))):z36 K [1,1] [] ⟨[(0,zS enc_55 3 zaa),(1,zI z),(4,zp 4 0),(5,zp 5 0)],[(4,.box 25 (zm (zae (⟨(0:Int),(0:Int)⟩:Frac)))),(5,.box 25 (zm (zae (⟨(0:Int),(0:Int)⟩:Frac))))],[]⟩:=zaw (by kernel_rfl) (zau hs fun hc hs=>And.intro (And.intro (zE enc_55 3 zaa.get) hc) (zG4 hs hk rfl))
def zrg (av1:Int) (bv1:Int):(Frac×Frac) :=
  ((s40 av1 (1:Int)),(s40 bv1 (1:Int)))
def zrh (av1:Int) (bv1:Int):Bool :=
  (decide ((p40 av1 (1:Int)=true)) &&
 (decide ((p40 bv1 (1:Int)=true)) &&
 true))
theorem zG6 (hs:zrh av1 bv1=true) (hk:K (e36 (zrg av1 bv1))):z36 K [1,0,1,0,1] [] ⟨[(4,zp 4 0),(5,zp 5 0),(6,zI av1),(7,zI bv1)],[(4,.box 25 (zm (zae (⟨(0:Int),(0:Int)⟩:Frac)))),(5,.box 25 (zm (zae (⟨(0:Int),(0:Int)⟩:Frac))))],[]⟩:=zaw (by kernel_rfl) (zau hs fun hc hs=>And.intro hc (zau hs fun hc hs=>And.intro hc hk))
def zmY (zaa:(Sl Gate)) (z:Int) (zq0:Bool):(Frac×Frac) :=
  (cond zq0
 (zrg ((s71 zaa).1) ((s71 zaa).2.1))
 (zmW zaa z))
def zri (zaa:(Sl Gate)) (z:Int) (zq0:Bool):Bool :=
  (cond zq0
 (decide ((p71 zaa=true)) &&
 (zrh ((s71 zaa).1) ((s71 zaa).2.1)))
 (zmX zaa z))
theorem zG7 (hs:zri zaa z zq0=true) (hk:K (e36 (zmY zaa z zq0))):z36 K [1,0,1] [] ⟨[(0,zS enc_55 3 zaa),(1,zI z),(4,zp 4 0),(5,zp 5 0),(15,zB zq0)],[(4,.box 25 (zm (zae (⟨(0:Int),(0:Int)⟩:Frac)))),(5,.box 25 (zm (zae (⟨(0:Int),(0:Int)⟩:Frac))))],[]⟩:=zaw (by kernel_rfl) (zc hs hk (fun hs hk=>(zau hs fun hc hs=>And.intro (And.intro (zE enc_55 3 zaa.get) hc) (zG6 hs hk))) (fun hs hk=>(zG5 hs hk)))
def s36 (zaa:(Sl Gate)) (z:Int):(Frac×Frac) :=
  (zmY zaa z (s22 zaa))
def p36 (zaa:(Sl Gate)) (z:Int):Bool :=
  (decide ((p22 zaa=true)) &&
 (zri zaa z (s22 zaa)))
end
theorem q36 (zaa:(Sl Gate)) (z:Int) (K:List PA→Prop) (hs:p36 zaa z=true) (hk:K (e36 (s36 zaa z))):vcFun Try.prog G36 zGZ 36 [.one (.sl zaa.len 3 (fun i=>enc_55 (zaa.get i))),.one (.int .i64 z)] K :=
  zaw (by kernel_rfl) (zau hs fun hc hs=>And.intro (And.intro (zE enc_55 3 zaa.get) hc) (zG7 hs hk))
def zG8 : List PA → COut
  | [.one (.sl a0_n a0_s a0_g),.one (.int .i64 a1)]=>.det (IsE enc_55 3 a0_s a0_g∧p36 (⟨a0_n,zad a0_g⟩:(Sl Gate)) a1=true) [.agg [.int .i64 (((s36 (⟨a0_n,zad a0_g⟩:(Sl Gate)) a1).1).Num),.int .i64 (((s36 (⟨a0_n,zad a0_g⟩:(Sl Gate)) a1).1).Den)],.agg [.int .i64 (((s36 (⟨a0_n,zad a0_g⟩:(Sl Gate)) a1).2).Num),.int .i64 (((s36 (⟨a0_n,zad a0_g⟩:(Sl Gate)) a1).2).Den)]]
  | _=>.no
theorem zKD:zaf Try.prog 36:=⟨_,rfl,rfl,by kernel_rfl⟩
theorem zPI:Ok Try.prog 36 zG8:=zay zM4 zKD fun args K h=>by
  unfold zG8 at h
  split at h
  · rename_i a0_n a0_s a0_g a1
    obtain ⟨⟨⟨rfl,a0_f,rfl⟩,hs⟩,hk⟩:=h
    try rw [zac a0_f] at hs
    try rw [zac a0_f] at hk
    exact ⟨(fun _ _=>[]),(fun _=>false),zGZ,q36 (⟨a0_n,a0_f⟩:(Sl Gate)) a1 K hs hk⟩
  · exact h.elim
abbrev T50:Tabs:=((((Tabs.nil.addF 22 zyP).addF 29 zyX).addF 36 zG8).addF 40 zp8)
theorem zM6:TabsOk Try.prog T50:=((((TabsOk.nil.addF zMO).addF zMV).addF zPI).addF zJK)
abbrev G50:Ctrs:=csm T50 (fun _ _=>[]) (fun _=>false)
def zG9:Ann:=⟨51,[(0,zK [0,3] [3]),(1,zK [0,3,19] [3]),(2,zK [4] []),(3,zK [3,5,6] [3,5,6]),(4,zK [5,6,7,8] [5,6,7,8]),(5,zK [5,6,7,8,42] [5,6,7,8]),(6,zK [4] []),(7,zK [50] []),(8,zK [4] []),(9,zK [4] [])],
 [],
 [(2,zK [0,3,19] [3]),(3,zK [0,3] [3]),(4,zK [3,5,6] [3,5,6]),(5,zK [5,6,7,8] [5,6,7,8]),(6,zK [5,6,7,8,42] [5,6,7,8]),(8,zK [50] [])],
 [],[]⟩
abbrev R50:=Int
abbrev e50 (r:R50):List PA:=[.one (.int .i64 r)]
@[irreducible] def z50:=ptF Try.prog G50 zG9 Try.f50
section
variable {K:List PA→Prop} {zaa:(Sl Gate)} {g:Gate} {zrj:Bool} {zd3:Int} {zd4:Int} {zdL:Int} {zdM:Int} {zf7:Int} {zf8:Int} {zf9:Int} {zga:Int} {zmZ:Bool} {zBz:Bool}
def zm0 (zBz:Bool):Int :=
  (cond zBz
 (3:Int)
 (2:Int))
theorem zzo (hk:K (e50 (zm0 zBz))):z50 K [1,1,1,1,1,0,1] [] ⟨[(50,zB zBz)],[],[]⟩:=zaw (by kernel_rfl) (zt hk (fun hk=>hk) (fun hk=>hk))
def zm1 (zd3:Int) (zd4:Int) (zdL:Int) (zdM:Int) (zf7:Int) (zf8:Int) (zf9:Int) (zga:Int) (zmZ:Bool):Int :=
  (cond zmZ
 (1:Int)
 (cond (s29 (⟨zdL, zdM⟩ : Frac) (⟨zf7, zf8⟩ : Frac))
 (zm0 true)
 (zm0 (s29 (⟨zf9,zga⟩:Frac) (⟨zd3,zd4⟩:Frac)))))
theorem zzp (hk:K (e50 (zm1 zd3 zd4 zdL zdM zf7 zf8 zf9 zga zmZ))):z50 K [1,1,1,1,0,1] [] ⟨[(5,zp 5 0),(6,zp 6 0),(7,zp 7 0),(8,zp 8 0),(42,zB zmZ)],[(5,.box 25 (zm (zae (⟨zd3,zd4⟩:Frac)))),(6,.box 25 (zm (zae (⟨zdL,zdM⟩:Frac)))),(7,.box 25 (zm (zae (⟨zf7,zf8⟩:Frac)))),(8,.box 25 (zm (zae (⟨zf9,zga⟩:Frac))))],[]⟩:=zaw (by kernel_rfl) (zt hk (fun hk=>hk) (fun hk=>(zt hk (fun hk=>(zzo hk)) (fun hk=>(zzo hk)))))
def zrk (zd3:Int) (zd4:Int) (zdL:Int) (zdM:Int) (zf7:Int) (zf8:Int) (zf9:Int) (zga:Int):Int :=
  (cond (!(s29 (⟨zd3, zd4⟩ : Frac) (⟨zf7, zf8⟩ : Frac)))
 (zm1 zd3 zd4 zdL zdM zf7 zf8 zf9 zga (!(s29 (⟨zf9,zga⟩:Frac) (⟨zdL,zdM⟩:Frac))))
 (zm1 zd3 zd4 zdL zdM zf7 zf8 zf9 zga false))
theorem zHa (hk:K (e50 (zrk zd3 zd4 zdL zdM zf7 zf8 zf9 zga))):z50 K [1,1,1,1] [] ⟨[(5,zp 5 0),(6,zp 6 0),(7,zp 7 0),(8,zp 8 0)],[(5,.box 25 (zm (zae (⟨zd3,zd4⟩:Frac)))),(6,.box 25 (zm (zae (⟨zdL,zdM⟩:Frac)))),(7,.box 25 (zm (zae (⟨zf7,zf8⟩:Frac)))),(8,.box 25 (zm (zae (⟨zf9,zga⟩:Frac))))],[]⟩:=zaw (by kernel_rfl) (zt hk (fun hk=>(zzp hk)) (fun hk=>(zzp hk)))
def zm2 (g:Gate) (zd3:Int) (zd4:Int) (zdL:Int) (zdM:Int):Int :=
  (zrk zd3 zd4 zdL zdM ((s40 g.Low (1:Int)).Num) ((s40 g.Low (1:Int)).Den) ((s40 g.High (1:Int)).Num) ((s40 g.High (1:Int)).Den))
def zm3 (g:Gate) (zd3:Int) (zd4:Int) (zdL:Int) (zdM:Int):Bool :=
  (decide ((p40 g.Low (1:Int)=true)) &&
 (decide ((p40 g.High (1:Int)=true)) &&
 true))
theorem zHb (hs:zm3 g zd3 zd4 zdL zdM=true) (hk:K (e50 (zm2 g zd3 zd4 zdL zdM))):z50 K [1,1,1] [] ⟨[(3,zp 3 0),(5,zp 5 0),(6,zp 6 0)],[(3,.box 55 (zm (enc_55 g))),(5,.box 25 (zm (zae (⟨zd3,zd4⟩:Frac)))),(6,.box 25 (zm (zae (⟨zdL,zdM⟩:Frac))))],[]⟩:=zaw (by kernel_rfl) (zau hs fun hc hs=>And.intro hc (zau hs fun hc hs=>And.intro hc (zHa hk)))
def zm4 (zaa:(Sl Gate)) (g:Gate):Int :=
  (zm2 g (((s36 zaa g.Z).1).Num) (((s36 zaa g.Z).1).Den) (((s36 zaa g.Z).2).Num) (((s36 zaa g.Z).2).Den))
def zm5 (zaa:(Sl Gate)) (g:Gate):Bool :=
  (decide ((p36 zaa g.Z=true)) &&
 (zm3 g (((s36 zaa g.Z).1).Num) (((s36 zaa g.Z).1).Den) (((s36 zaa g.Z).2).Num) (((s36 zaa g.Z).2).Den)))
theorem zHc (hs:zm5 zaa g=true) (hk:K (e50 (zm4 zaa g))):z50 K [1,1] [] ⟨[(0,zS enc_55 3 zaa),(3,zp 3 0)],[(3,.box 55 (zm (enc_55 g)))],[]⟩:=zaw (by kernel_rfl) (zau hs fun hc hs=>And.intro (And.intro (zE enc_55 3 zaa.get) hc) (zHb hs hk))
def zm6 (zaa:(Sl Gate)) (g:Gate) (zrj:Bool):Int :=
  (cond zrj
 (2:Int)
 (zm4 zaa g))
def zm7 (zaa:(Sl Gate)) (g:Gate) (zrj:Bool):Bool :=
  (cond zrj
 true
 (zm5 zaa g))
theorem zzq (hs:zm7 zaa g zrj=true) (hk:K (e50 (zm6 zaa g zrj))):z50 K [1,0,1] [] ⟨[(0,zS enc_55 3 zaa),(3,zp 3 0),(19,zB zrj)],[(3,.box 55 (zm (enc_55 g)))],[]⟩:=zaw (by kernel_rfl) (zc hs hk (fun hs hk=>hk) (fun hs hk=>(zHc hs hk)))
def s50 (zaa:(Sl Gate)) (g:Gate):Int :=
  (cond (s22 zaa)
 (zm6 zaa g (g.Z != (zaa.get 0).Z))
 (zm6 zaa g false))
def p50 (zaa:(Sl Gate)) (g:Gate):Bool :=
  (decide ((p22 zaa=true)) &&
 (cond (s22 zaa)
 (decide ((0≤(0:Int)∧(0:Int) < (zaa.len:Int))) &&
 (zm7 zaa g (g.Z != (zaa.get 0).Z)))
 (zm7 zaa g false)))
end
theorem q50 (zaa:(Sl Gate)) (g:Gate) (K:List PA→Prop) (hs:p50 zaa g=true) (hk:K (e50 (s50 zaa g))):vcFun Try.prog G50 zG9 50 [.one (.sl zaa.len 3 (fun i=>enc_55 (zaa.get i))),.agg (enc_55 g)] K :=
  zaw (by kernel_rfl) (zau hs fun hc hs=>And.intro (And.intro (zE enc_55 3 zaa.get) hc) (zc hs hk (fun hs hk=>(zau hs fun hc hs=>And.intro hc (zzq hs hk))) (fun hs hk=>(zzq hs hk))))
def zHd : List PA → COut
  | [.one (.sl a0_n a0_s a0_g),.agg [.int .i64 a1_Z,.int .i64 a1_Low,.int .i64 a1_High]]=>.det (IsE enc_55 3 a0_s a0_g∧p50 (⟨a0_n,zad a0_g⟩:(Sl Gate)) (⟨a1_Z,a1_Low,a1_High⟩:Gate)=true) [.one (.int .i64 (s50 (⟨a0_n,zad a0_g⟩:(Sl Gate)) (⟨a1_Z,a1_Low,a1_High⟩:Gate)))]
  | _=>.no
theorem zKE:zaf Try.prog 50:=⟨_,rfl,rfl,by kernel_rfl⟩
theorem zPJ:Ok Try.prog 50 zHd:=zay zM6 zKE fun args K h=>by
  unfold zHd at h
  split at h
  · rename_i a0_n a0_s a0_g a1_Z a1_Low a1_High
    obtain ⟨⟨⟨rfl,a0_f,rfl⟩,hs⟩,hk⟩:=h
    try rw [zac a0_f] at hs
    try rw [zac a0_f] at hk
    exact ⟨(fun _ _=>[]),(fun _=>false),zG9,q50 (⟨a0_n,a0_f⟩:(Sl Gate)) (⟨a1_Z,a1_Low,a1_High⟩:Gate) K hs hk⟩
  · exact h.elim
abbrev T11:Tabs:=((((((Tabs.nil.addF 18 zF6).addF 20 zGb).addF 21 zGI).addF 48 zGV).addF 49 zBq).addF 50 zHd)
theorem zM7:TabsOk Try.prog T11:=((((((TabsOk.nil.addF zPp).addF zPq).addF zPF).addF zPG).addF zNN).addF zPJ)
abbrev G11:Ctrs:=csm T11 (fun _ _=>[]) (fun _=>false)
def zHe:Ann:=⟨58,[(0,zK [0,3] [3]),(1,zK [0,3,9] [3]),(2,zK [4] []),(3,zK [0,3,5,6] [3]),(4,zK [0,3,5,6,24] [3]),(5,zK [4] []),(6,zK [0,3,5,6,36] [3]),(7,zK [4] []),(8,zK [4] [])],
 [],
 [(3,zK [0,3] [3]),(4,zK [0,3,5,6] [3]),(5,zK [0,3,5,6,24] [3]),(6,zK [0,3,5,6] [3]),(7,zK [0,3,5,6,36] [3]),(8,zK [0,3,5,6] [3])],
 [],[]⟩
abbrev R11:=Bool
abbrev e11 (r:R11):List PA:=[.one (.bool r)]
@[irreducible] def z11:=ptF Try.prog G11 zHe Try.f11
section
variable {K:List PA→Prop} {zaa:(Sl Gate)} {g:Gate} {mv1:Int} {ev1:Int} {zrl:Bool} {zgF:Bool}
def zrm (zaa:(Sl Gate)) (g:Gate) (mv1:Int) (ev1:Int):Bool :=
  (cond (ev1 == (0:Int))
 (cond (mv1 == (s50 zaa g))
 true
 false)
 false)
def zrn (zaa:(Sl Gate)) (g:Gate) (mv1:Int) (ev1:Int):Bool :=
  (cond (ev1 == (0:Int))
 (decide ((p50 zaa g=true)) &&
 true)
 true)
theorem zHf (hs:zrn zaa g mv1 ev1=true) (hk:K (e11 (zrm zaa g mv1 ev1))):z11 K [1,1,1,1,1] [] ⟨[(0,zS enc_55 3 zaa),(3,zp 3 0),(5,zI mv1),(6,zI ev1)],[(3,.box 55 (zm (enc_55 g)))],[]⟩:=zaw (by kernel_rfl) (zc hs hk (fun hs hk=>(zau hs fun hc hs=>And.intro (And.intro (zE enc_55 3 zaa.get) hc) (zt hk (fun hk=>hk) (fun hk=>hk)))) (fun hs hk=>hk))
def zro (zaa:(Sl Gate)) (g:Gate) (mv1:Int) (ev1:Int) (zgF:Bool):Bool :=
  (cond zgF
 (cond (ev1 == (5:Int))
 (cond (mv1 == (0:Int))
 true
 false)
 false)
 (zrm zaa g mv1 ev1))
def zrp (zaa:(Sl Gate)) (g:Gate) (mv1:Int) (ev1:Int) (zgF:Bool):Bool :=
  (cond zgF
 true
 (zrn zaa g mv1 ev1))
theorem zHg (hs:zrp zaa g mv1 ev1 zgF=true) (hk:K (e11 (zro zaa g mv1 ev1 zgF))):z11 K [1,1,1,1,0,1] [] ⟨[(0,zS enc_55 3 zaa),(3,zp 3 0),(5,zI mv1),(6,zI ev1),(36,zB zgF)],[(3,.box 55 (zm (enc_55 g)))],[]⟩:=zaw (by kernel_rfl) (zc hs hk (fun hs hk=>(zt hk (fun hk=>(zt hk (fun hk=>hk) (fun hk=>hk))) (fun hk=>hk))) (fun hs hk=>(zHf hs hk)))
def zrq (zaa:(Sl Gate)) (g:Gate) (mv1:Int) (ev1:Int):Bool :=
  (zro zaa g mv1 ev1 (!(s21 zaa)))
def zrr (zaa:(Sl Gate)) (g:Gate) (mv1:Int) (ev1:Int):Bool :=
  (decide ((p21 zaa=true)) &&
 (zrp zaa g mv1 ev1 (!(s21 zaa))))
theorem zHh (hs:zrr zaa g mv1 ev1=true) (hk:K (e11 (zrq zaa g mv1 ev1))):z11 K [1,1,1,1] [] ⟨[(0,zS enc_55 3 zaa),(3,zp 3 0),(5,zI mv1),(6,zI ev1)],[(3,.box 55 (zm (enc_55 g)))],[]⟩:=zaw (by kernel_rfl) (zau hs fun hc hs=>And.intro (And.intro (zE enc_55 3 zaa.get) hc) (zHg hs hk))
def zm8 (zaa:(Sl Gate)) (g:Gate) (mv1:Int) (ev1:Int) (zrl:Bool):Bool :=
  (cond zrl
 (cond (ev1 == (2:Int))
 (cond (mv1 == (0:Int))
 true
 false)
 false)
 (zrq zaa g mv1 ev1))
def zm9 (zaa:(Sl Gate)) (g:Gate) (mv1:Int) (ev1:Int) (zrl:Bool):Bool :=
  (cond zrl
 true
 (zrr zaa g mv1 ev1))
theorem zzr (hs:zm9 zaa g mv1 ev1 zrl=true) (hk:K (e11 (zm8 zaa g mv1 ev1 zrl))):z11 K [1,1,1,0,1] [] ⟨[(0,zS enc_55 3 zaa),(3,zp 3 0),(5,zI mv1),(6,zI ev1),(24,zB zrl)],[(3,.box 55 (zm (enc_55 g)))],[]⟩:=zaw (by kernel_rfl) (zc hs hk (fun hs hk=>(zt hk (fun hk=>(zt hk (fun hk=>hk) (fun hk=>hk))) (fun hk=>hk))) (fun hs hk=>(zHh hs hk)))
def zrt (zaa:(Sl Gate)) (g:Gate) (mv1:Int) (ev1:Int):Bool :=
  (cond (!(s20 zaa))
 (zm8 zaa g mv1 ev1 true)
 (zm8 zaa g mv1 ev1 (!(s49 g))))
def zru (zaa:(Sl Gate)) (g:Gate) (mv1:Int) (ev1:Int):Bool :=
  (decide ((p20 zaa=true)) &&
 (cond (!(s20 zaa))
 (zm9 zaa g mv1 ev1 true)
 (zm9 zaa g mv1 ev1 (!(s49 g)))))
theorem zHi (hs:zru zaa g mv1 ev1=true) (hk:K (e11 (zrt zaa g mv1 ev1))):z11 K [1,1,1] [] ⟨[(0,zS enc_55 3 zaa),(3,zp 3 0),(5,zI mv1),(6,zI ev1)],[(3,.box 55 (zm (enc_55 g)))],[]⟩:=zaw (by kernel_rfl) (zau hs fun hc hs=>And.intro (And.intro (zE enc_55 3 zaa.get) hc) (zc hs hk (fun hs hk=>(zzr hs hk)) (fun hs hk=>(zzr hs hk))))
def zrv (zaa:(Sl Gate)) (g:Gate):Bool :=
  (zrt zaa g ((s48 zaa g).1) ((s48 zaa g).2))
def zrx (zaa:(Sl Gate)) (g:Gate):Bool :=
  (decide ((p48 zaa g=true)) &&
 (zru zaa g ((s48 zaa g).1) ((s48 zaa g).2)))
theorem zHj (hs:zrx zaa g=true) (hk:K (e11 (zrv zaa g))):z11 K [1,1] [] ⟨[(0,zS enc_55 3 zaa),(3,zp 3 0)],[(3,.box 55 (zm (enc_55 g)))],[]⟩:=zaw (by kernel_rfl) (zau hs fun hc hs=>And.intro (And.intro (zE enc_55 3 zaa.get) hc) (zHi hs hk))
def s11 (zaa:(Sl Gate)) (g:Gate):Bool :=
  (cond (decide ((zaa.len : Int) > (40:Int)))
 true
 (zrv zaa g))
def p11 (zaa:(Sl Gate)) (g:Gate):Bool :=
  (cond (decide ((zaa.len : Int) > (40:Int)))
 true
 (zrx zaa g))
end
theorem q11 (zaa:(Sl Gate)) (g:Gate) (K:List PA→Prop) (hs:p11 zaa g=true) (hk:K (e11 (s11 zaa g))):vcFun Try.prog G11 zHe 11 [.one (.sl zaa.len 3 (fun i=>enc_55 (zaa.get i))),.agg (enc_55 g)] K :=
  zaw (by kernel_rfl) (zc hs hk (fun hs hk=>hk) (fun hs hk=>(zHj hs hk)))
def zKF : List PA → COut
  | [.one (.sl a0_n a0_s a0_g),.agg [.int .i64 a1_Z,.int .i64 a1_Low,.int .i64 a1_High]]=>.det (IsE enc_55 3 a0_s a0_g∧p11 (⟨a0_n,zad a0_g⟩:(Sl Gate)) (⟨a1_Z,a1_Low,a1_High⟩:Gate)=true) [.one (.bool (s11 (⟨a0_n,zad a0_g⟩:(Sl Gate)) (⟨a1_Z,a1_Low,a1_High⟩:Gate)))]
  | _=>.no
theorem call11:zaf Try.prog 11:=⟨_,rfl,rfl,by kernel_rfl⟩
theorem ok11:Ok Try.prog 11 zKF:=zay zM7 call11 fun args K h=>by
  unfold zKF at h
  split at h
  · rename_i a0_n a0_s a0_g a1_Z a1_Low a1_High
    obtain ⟨⟨⟨rfl,a0_f,rfl⟩,hs⟩,hk⟩:=h
    try rw [zac a0_f] at hs
    try rw [zac a0_f] at hk
    exact ⟨(fun _ _=>[]),(fun _=>false),zHe,q11 (⟨a0_n,a0_f⟩:(Sl Gate)) (⟨a1_Z,a1_Low,a1_High⟩:Gate) K hs hk⟩
  · exact h.elim
end Go.Proofs
namespace Go.Proofs
open Go Go.Pm
set_option maxRecDepth 100000
set_option linter.unusedVariables false
attribute [local irreducible] Go.Pm.vcFun Go.Pm.vc Go.Pm.vcIter
theorem C_3:Try.prog.cellsOf 3=1:=by kernel_rfl
theorem zNU:Try.prog.cellsOf 55=3:=by kernel_rfl
abbrev zLi (x:Int):Prop:=wfI x
theorem zM8 {H:Type} {en:TypeId×Value→H} {w:World} {sp:Nat→Bool} {held:Bool} : Rd H en Try.prog w sp held 3 zal zLi:=zIl Try.underlying3
def wf_55 (x:Gate):Prop:=zLi x.Z∧zLi x.Low∧zLi x.High
theorem rd_55 {H:Type} {en:TypeId×Value→H} {w:World} {sp:Nat→Bool} {held:Bool} : Rd H en Try.prog w sp held 55 enc_55 wf_55:=by
  intro fuel cs x h
  obtain ⟨hl,hf⟩:=zuY Try.underlying55 h
  rw [zNU] at hl
  obtain ⟨n0,y0,g0⟩:=hf 0 _ rfl
  have g0:DataW.trod en Try.prog w 0 sp held n0 3 ((cs.drop 0).take (Try.prog.cellsOf 3))=some y0:=g0
  rw [C_3] at g0
  obtain ⟨a0,r0,w0⟩:=zM8 _ _ _ g0
  obtain ⟨n1,y1,g1⟩:=hf 1 _ rfl
  have g1:DataW.trod en Try.prog w 0 sp held n1 3 ((cs.drop 1).take (Try.prog.cellsOf 3))=some y1:=g1
  rw [C_3] at g1
  obtain ⟨a1,r1,w1⟩:=zM8 _ _ _ g1
  obtain ⟨n2,y2,g2⟩:=hf 2 _ rfl
  have g2:DataW.trod en Try.prog w 0 sp held n2 3 ((cs.drop 2).take (Try.prog.cellsOf 3))=some y2:=g2
  rw [C_3] at g2
  obtain ⟨a2,r2,w2⟩:=zM8 _ _ _ g2
  have z:cs.drop 3=[]:=List.drop_eq_nil_of_le (by omega)
  have R:=(r0.append (r1.append (r2.append (show RL (Rep (H0 w)) [] (cs.drop 3) by rw [z];exact zhr))))
  rw [← (show cs.drop 2=(cs.drop 2).take 1 ++ cs.drop 3 from zht cs 2 1)] at R
  rw [← (show cs.drop 1=(cs.drop 1).take 1 ++ cs.drop 2 from zht cs 1 1)] at R
  rw [← (show cs.drop 0=(cs.drop 0).take 1 ++ cs.drop 1 from zht cs 0 1)] at R
  exact ⟨⟨a0,a1,a2⟩,R,⟨w0,w1,w2⟩⟩
def wf_22 (x:(Sl Gate)):Prop:=x.len≤9223372036854775807∧∀ i,i < x.len→wf_55 (x.get i)
theorem rd_22 {H:Type} {en:TypeId×Value→H} {w:World} {sp:Nat→Bool} {held:Bool} : Rd H en Try.prog w sp held 22 zIn wf_22:=zAM Try.underlying22 zNU (by decide) (fun _=>rfl) rd_55
end Go.Proofs
namespace Go.Proofs
open Go Go.Pm
set_option maxRecDepth 100000
set_option linter.unusedVariables false
attribute [local irreducible] Go.Pm.vcFun Go.Pm.vc Go.Pm.vcIter
section
variable {K:List PA→Prop} {zaa:(Sl Gate)} {lv0:(Sl Line)} {zGB:Nat→List PV} {iv1:Int} {zaL:Int} {zaU:Int} {zna:Int} {znb:Int} {X1:St→Prop} {P1:Int→Int→Int→Int→Int→Bool} {S1:Int→Int→Int→Int→Int→(Frac×Frac)} {iv2:Int} {zBA:Bool} {zd3:Int} {zd4:Int} {zdL:Int} {zdM:Int} {iv3:Int} {zkQ:Int} {zkR:Int} {ztJ:Int} {ztK:Int} {iv4:Int} {zmZ:Bool} {ziF:Int} {ziG:Int}
def zzs (S1:Int→Int→Int→Int→Int→(Frac×Frac)) (lv0:(Sl Line)) (zkQ:Int) (zkR:Int) (iv4:Int) (zmZ:Bool) (ziF:Int) (ziG:Int):(Frac×Frac) :=
  (cond zmZ
 (S1 (w64 (iv4+(1:Int))) zkQ zkR ((lv0.get iv4.toNat).Slope.Num) ((lv0.get iv4.toNat).Slope.Den))
 (S1 (w64 (iv4+(1:Int))) zkQ zkR ziF ziG))
def zzt (P1:Int→Int→Int→Int→Int→Bool) (lv0:(Sl Line)) (zkQ:Int) (zkR:Int) (iv4:Int) (zmZ:Bool) (ziF:Int) (ziG:Int):Bool :=
  (cond zmZ
 (decide ((0≤iv4∧iv4 < (lv0.len:Int))) &&
 (P1 (w64 (iv4+(1:Int))) zkQ zkR ((lv0.get iv4.toNat).Slope.Num) ((lv0.get iv4.toNat).Slope.Den)))
 (P1 (w64 (iv4+(1:Int))) zkQ zkR ziF ziG))
def zry (S1:Int→Int→Int→Int→Int→(Frac×Frac)) (lv0:(Sl Line)) (iv3:Int) (zkQ:Int) (zkR:Int) (ztJ:Int) (ztK:Int):(Frac×Frac) :=
  (zzs S1 lv0 zkQ zkR iv3 (s29 (⟨ztJ,ztK⟩:Frac) ((lv0.get iv3.toNat).Slope)) ztJ ztK)
def zrz (P1:Int→Int→Int→Int→Int→Bool) (lv0:(Sl Line)) (iv3:Int) (zkQ:Int) (zkR:Int) (ztJ:Int) (ztK:Int):Bool :=
  (decide ((0≤iv3∧iv3 < (lv0.len:Int))) &&
 (zzt P1 lv0 zkQ zkR iv3 (s29 (⟨ztJ,ztK⟩:Frac) ((lv0.get iv3.toNat).Slope)) ztJ ztK))
def zzu (S1:Int→Int→Int→Int→Int→(Frac×Frac)) (lv0:(Sl Line)) (iv2:Int) (zBA:Bool) (zd3:Int) (zd4:Int) (zdL:Int) (zdM:Int):(Frac×Frac) :=
  (cond zBA
 (zry S1 lv0 iv2 ((lv0.get iv2.toNat).Slope.Num) ((lv0.get iv2.toNat).Slope.Den) zdL zdM)
 (zry S1 lv0 iv2 zd3 zd4 zdL zdM))
def zzv (P1:Int→Int→Int→Int→Int→Bool) (lv0:(Sl Line)) (iv2:Int) (zBA:Bool) (zd3:Int) (zd4:Int) (zdL:Int) (zdM:Int):Bool :=
  (cond zBA
 (decide ((0≤iv2∧iv2 < (lv0.len:Int))) &&
 (zrz P1 lv0 iv2 ((lv0.get iv2.toNat).Slope.Num) ((lv0.get iv2.toNat).Slope.Den) zdL zdM))
 (zrz P1 lv0 iv2 zd3 zd4 zdL zdM))
def zkv (lv0:(Sl Line)) (S1:Int→Int→Int→Int→Int→(Frac×Frac)) (iv1:Int) (zaL:Int) (zaU:Int) (zna:Int) (znb:Int):(Frac×Frac) :=
  (cond (decide (iv1 < (lv0.len : Int)))
 (zzu S1 lv0 iv1 (s29 ((lv0.get iv1.toNat).Slope) (⟨zaL,zaU⟩:Frac)) zaL zaU zna znb)
 ((⟨zaL,zaU⟩:Frac),(⟨zna,znb⟩:Frac)))
def zkw (lv0:(Sl Line)) (P1:Int→Int→Int→Int→Int→Bool) (iv1:Int) (zaL:Int) (zaU:Int) (zna:Int) (znb:Int):Bool :=
  (cond (decide (iv1 < (lv0.len : Int)))
 (decide ((0≤iv1∧iv1 < (lv0.len:Int))) &&
 (zzv P1 lv0 iv1 (s29 ((lv0.get iv1.toNat).Slope) (⟨zaL,zaU⟩:Frac)) zaL zaU zna znb))
 true)
def zkx (lv0:(Sl Line)):Nat→Int→Int→Int→Int→Int→(Frac×Frac):=lpO (fun _ _ _ _ _=>default) (zkv lv0)
def zky (lv0:(Sl Line)):Nat→Int→Int→Int→Int→Int→Bool:=lpO (fun _ _ _ _ _=>false) (zkw lv0)
def zHk (lv0:(Sl Line)) (iv1:Int) (zaL:Int) (zaU:Int) (zna:Int) (znb:Int):(Frac×Frac):=zkx lv0 Fuel iv1 zaL zaU zna znb
def zHl (lv0:(Sl Line)) (iv1:Int) (zaL:Int) (zaU:Int) (zna:Int) (znb:Int):Bool:=zky lv0 Fuel iv1 zaL zaU zna znb
def zHm (lv0:(Sl Line)):(Frac×Frac) :=
  (zHk lv0 (1:Int) ((lv0.get 0).Slope.Num) ((lv0.get 0).Slope.Den) ((lv0.get 0).Slope.Num) ((lv0.get 0).Slope.Den))
def zzw (lv0:(Sl Line)):Bool :=
  (decide ((0≤(0:Int)∧(0:Int) < (lv0.len:Int))) &&
 (decide ((0≤(0:Int)∧(0:Int) < (lv0.len:Int))) &&
 (zHl lv0 (1:Int) ((lv0.get 0).Slope.Num) ((lv0.get 0).Slope.Den) ((lv0.get 0).Slope.Num) ((lv0.get 0).Slope.Den))))
def s37 (zaa:(Sl Gate)):(Frac×Frac) :=
  (zHm (s33 zaa))
def p37 (zaa:(Sl Gate)):Bool :=
  (decide ((p33 zaa=true)) &&
 (zzw (s33 zaa)))
end
section
variable {K:List PA→Prop} {f:Frac}
end
abbrev T35:Tabs:=((Tabs.nil.addF 75 ztG).addF 82 zBa)
abbrev G35:Ctrs:=csm T35 (fun _ _=>[]) (fun _=>false)
def zM9:Ann:=⟨26,[(0,zK [0,2,3] [2,3]),(1,zK [2,3,5,6] [2,3,5]),(2,zK [2,3,5,6,15] [2,3,5]),(3,zK [2,3,4] [2,3]),(4,zK [2,3,7,8] [2,3,7,8]),(5,zK [2,3,4] [2,3])],
 [],
 [(4,zK [2,3,5] [2,3,5])],
 [],[]⟩
@[irreducible] def z35:=ptF Try.prog G35 zM9 Try.f35
section
variable {K:List PA→Prop} {zaa:(Sl Gate)} {zmn:(Sl Gate)} {zmo:(Sl straight)} {zpZ:Nat→List PV} {zp0:Nat→List PV}
end
end Go.Proofs
namespace Go.Pm
open Go
theorem zbz {i n:Nat} (h:i < n) (hn:n≤9223372036854775807):w64 ((i:Int)+(1:Int))=((i+1:Nat):Int):=by
 rw [zaP (by omega) (by omega)];omega
theorem zHn {β : Type} {good : Nat → Bool} {bad fin : β} {finP : Bool} {n : Nat} {lpS : Nat → Int → β} {lpP : Nat → Int → Bool}
    (hS:∀ (k i:Nat),i < n→lpS (k+1) (i:Int)=cond (good i) (lpS k (w64 ((i:Int)+(1:Int)))) bad)
    (hE:∀ k,lpS (k+1) (n:Int)=fin)
    (hP:∀ (k i:Nat),i < n→lpP (k+1) (i:Int)=cond (good i) (lpP k (w64 ((i:Int)+(1:Int)))) true)
    (hPE:∀ k,lpP (k+1) (n:Int)=finP) (hn:n≤9223372036854775807) :
    ((∀ i,i < n→good i=true)→lpP Fuel 0=finP∧lpS Fuel 0=fin)∧((¬ ∀ i,i < n→good i=true)→lpP Fuel 0=true∧lpS Fuel 0=bad):=by
  have key:∀ (m k i:Nat),i+m=n→m < k→((∀ j,i≤j→j < n→good j=true)→lpP k (i:Int)=finP∧lpS k (i:Int)=fin)∧((¬ ∀ j,i≤j→j < n→good j=true)→lpP k (i:Int)=true∧lpS k (i:Int)=bad):=by
    intro m
    induction m with
    | zero =>
      intro k i hi hk
      obtain ⟨k,rfl⟩:∃ k',k=k'+1:=⟨k - 1,by omega⟩
      have:i=n:=by omega
      subst this
      rw [hE,hPE]
      exact ⟨fun _=>⟨rfl,rfl⟩,fun h=>absurd (fun j h1 h2=>absurd h2 (by omega)) h⟩
    | succ m ih =>
      intro k i hi hk
      obtain ⟨k,rfl⟩:∃ k',k=k'+1:=⟨k - 1,by omega⟩
      rw [hS k i (by omega),hP k i (by omega),zbz (n:=n) (by omega) hn]
      obtain ⟨h1,h2⟩:=ih k (i+1) (by omega) (by omega)
      cases hg:good i
      · refine ⟨fun h => ?_, fun _ => ⟨rfl, rfl⟩⟩
        have:=h i (Nat.le_refl _) (by omega)
        rw [hg] at this;cases this
      · refine ⟨fun h => h1 fun j a b => h j (by omega) b, fun h => h2 fun h' => h fun j a b => ?_⟩
        by_cases hji:j=i
        · rw [hji];exact hg
        · exact h' j (by omega) b
  have:=key n Fuel 0 (by omega) (by simp only [Fuel];omega)
  simpa using this
def zik {σ : Type} (step : Nat → σ → σ) : Nat → Nat → σ → σ
  | 0,_,s=>s
  | m+1,i,s=>zik step m (i+1) (step i s)
theorem zkz {σ β : Type} {step : Nat → σ → σ} {E : σ → β} {EP : σ → Bool} {Inv : Nat → σ → Prop} {a n : Nat} {lpS : Nat → σ → Int → β} {lpP : Nat → σ → Int → Bool}
    (hS:∀ (k i:Nat) (s:σ),a≤i→i < n→Inv i s→lpS (k+1) s (i:Int)=lpS k (step i s) (w64 ((i:Int)+(1:Int))))
    (hE:∀ k s,lpS (k+1) s (n:Int)=E s)
    (hP:∀ (k i:Nat) (s:σ),a≤i→i < n→Inv i s→lpP (k+1) s (i:Int)=lpP k (step i s) (w64 ((i:Int)+(1:Int))))
    (hPE:∀ k s,lpP (k+1) s (n:Int)=EP s)
    (hI:∀ i s,a≤i→i < n→Inv i s→Inv (i+1) (step i s)) (ha:a≤n) (hn:n≤9223372036854775807) (s:σ) (h0:Inv a s) :
    lpP Fuel s (a:Int)=EP (zik step (n - a) a s)∧lpS Fuel s (a:Int)=E (zik step (n - a) a s):=by
  have key:∀ (m k i:Nat) (s:σ),a≤i→i+m=n→m < k→Inv i s→lpP k s (i:Int)=EP (zik step m i s)∧lpS k s (i:Int)=E (zik step m i s):=by
    intro m
    induction m with
    | zero =>
      intro k i s h1 hi hk _
      obtain ⟨k,rfl⟩:∃ k',k=k'+1:=⟨k - 1,by omega⟩
      have:i=n:=by omega
      subst this
      rw [hE,hPE]
      exact ⟨rfl,rfl⟩
    | succ m ih =>
      intro k i s h1 hi hk hs
      obtain ⟨k,rfl⟩:∃ k',k=k'+1:=⟨k - 1,by omega⟩
      rw [hS k i s h1 (by omega) hs,hP k i s h1 (by omega) hs,zbz (n:=n) (by omega) hn]
      exact ih k (i+1) (step i s) (by omega) (by omega) (by omega) (hI i s h1 (by omega) hs)
  exact key (n - a) Fuel a s (Nat.le_refl _) (by omega) (by simp only [Fuel];omega) h0
end Go.Pm
namespace Go.Proofs
open Go Go.Pm
set_option maxRecDepth 100000
theorem zsM (n a b:Int):s70 n a b=decide (a≤n∧n≤b):=by
 unfold s70;by_cases h:n ≥ a
 ·rw [decide_eq_true h,cond_true];exact decide_eq_decide.2 ⟨fun k=>⟨h,k⟩,fun k=>k.2⟩
 ·rw [decide_eq_false h,cond_false];exact (decide_eq_false fun k=>h k.1).symm
theorem zzx (n a b:Int):s74 n a b=decide (a≤n∧n≤b):=zsM n a b
def zeW (g:Gate):Prop:=(0≤g.Z∧g.Z≤100000)∧-1000000≤g.Low∧g.Low≤g.High∧g.High≤1000000
def zaC (l:Sl Gate):Prop:=(∀ i,i < l.len→zeW (l.get i))∧1≤l.len∧l.len≤24
theorem zfU (a b:Bool):cond a b false=(a && b):=by cases a <;> rfl
theorem zot (g:Gate):s87 g=true↔zeW g:=by
 unfold s87 zeW
 rw [zzx,zfU,zfU,zfU,Bool.and_eq_true,Bool.and_eq_true,Bool.and_eq_true,decide_eq_true_eq,decide_eq_true_eq,decide_eq_true_eq,decide_eq_true_eq]
theorem zsN (g:Gate):s49 g=true↔zeW g:=by
 unfold s49 zeW
 rw [zsM,zsM,zfU,zfU,Bool.and_eq_true,Bool.and_eq_true,decide_eq_true_eq,decide_eq_true_eq,decide_eq_true_eq]
 omega
theorem zzy (l:Sl Gate) (hn:l.len≤9223372036854775807):p64 l=true∧(s64 l=true↔zaC l):=by
  have := zsb (good := fun i => s87 (l.get i)) (fin := s74 (l.len : Int) 1 24) (n := l.len) (lpS := zhw l) (lpP := zhx l)
    (fun k i hi=>by
      show zhu l (zhw l k) (i:Int)=_
      generalize zhw l k=S
      unfold zhu zpm
      rw [decide_eq_true (show (i:Int) < (l.len:Int) by omega),cond_true,Int.toNat_natCast]
      cases s87 (l.get i) <;> rfl)
    (fun k=>by
      show zhu l (zhw l k) (l.len:Int)=_
      unfold zhu
      rw [decide_eq_false (show ¬ (l.len:Int) < (l.len:Int) by omega),cond_false])
    (fun k i hi=>by
      show zhv l (zhx l k) (i:Int)=_
      generalize zhx l k=S
      unfold zhv zpn
      rw [decide_eq_true (show (i:Int) < (l.len:Int) by omega),cond_true,Int.toNat_natCast,decide_eq_true (show 0≤(i:Int)∧(i:Int) < (l.len:Int) by omega),Bool.true_and]
      cases s87 (l.get i) <;> rfl)
    (fun k=>by
      show zhv l (zhx l k) (l.len:Int)=_
      unfold zhv
      rw [decide_eq_false (show ¬ (l.len:Int) < (l.len:Int) by omega),cond_false])
    hn
  refine ⟨this.1,this.2.trans ?_⟩
  rw [zzx,decide_eq_true_eq]
  exact ⟨fun k=>⟨fun i hi=>(zot _).1 (k.1 i hi),by omega,by omega⟩,fun k=>⟨fun i hi=>(zot _).2 (k.1 i hi),by have:=k.2;omega⟩⟩
theorem zzz (l:Sl Gate) (hn:l.len≤9223372036854775807):p20 l=true∧(s20 l=true↔zaC l):=by
  have := zsb (good := fun i => s49 (l.get i)) (fin := s70 (l.len : Int) 1 24) (n := l.len) (lpS := zhN l) (lpP := zhO l)
    (fun k i hi=>by
      show zhL l (zhN l k) (i:Int)=_
      generalize zhN l k=S
      unfold zhL zqC
      rw [decide_eq_true (show (i:Int) < (l.len:Int) by omega),cond_true,Int.toNat_natCast]
      cases s49 (l.get i) <;> rfl)
    (fun k=>by
      show zhL l (zhN l k) (l.len:Int)=_
      unfold zhL
      rw [decide_eq_false (show ¬ (l.len:Int) < (l.len:Int) by omega),cond_false])
    (fun k i hi=>by
      show zhM l (zhO l k) (i:Int)=_
      generalize zhO l k=S
      unfold zhM zqD
      rw [decide_eq_true (show (i:Int) < (l.len:Int) by omega),cond_true,Int.toNat_natCast,decide_eq_true (show 0≤(i:Int)∧(i:Int) < (l.len:Int) by omega),Bool.true_and]
      cases s49 (l.get i) <;> rfl)
    (fun k=>by
      show zhM l (zhO l k) (l.len:Int)=_
      unfold zhM
      rw [decide_eq_false (show ¬ (l.len:Int) < (l.len:Int) by omega),cond_false])
    hn
  refine ⟨this.1,this.2.trans ?_⟩
  rw [zsM,decide_eq_true_eq]
  exact ⟨fun k=>⟨fun i hi=>(zsN _).1 (k.1 i hi),by omega,by omega⟩,fun k=>⟨fun i hi=>(zsN _).2 (k.1 i hi),by have:=k.2;omega⟩⟩
theorem zKG (l:Sl Gate) (hn:l.len≤9223372036854775807):s64 l=s20 l :=
 Bool.eq_iff_iff.2 ((zzy l hn).2.trans (zzz l hn).2.symm)
-- the greatest common divisor
theorem zzA:∀ (k:Nat) (a b:Int),0≤a→0≤b→b < (k:Int) →
  (ziV k a b=true∧ziU k a b=(Int.gcd a b:Int))∧(zms k a b=true∧zmr k a b=(Int.gcd a b:Int)):=by
 intro k
 induction k with
 | zero=>intro a b _ h1 h2;omega
 | succ k ih =>
  intro a b ha hb hk
  show (ziT (ziV k) a b=true∧ziS (ziU k) a b=_)∧(zmq (zms k) a b=true∧zmp (zmr k) a b=_)
  unfold ziT ziS zmq zmp
  by_cases h0:b=0
  ·subst h0
   simp [Int.natAbs_of_nonneg ha]
  ·have hb0 : b > 0 := by omega
   have e1:(b != (0:Int))=true:=by simpa using h0
   have m0:0≤a.tmod b:=Int.tmod_nonneg b ha
   have m1:a.tmod b < b:=Int.tmod_lt_of_pos a hb0
   have g:Int.gcd b (a.tmod b)=Int.gcd a b:=by
    obtain ⟨m,rfl⟩:=Int.eq_ofNat_of_zero_le ha
    obtain ⟨n,rfl⟩:=Int.eq_ofNat_of_zero_le hb
    show Nat.gcd n (m % n)=Nat.gcd m n
    rw [Nat.gcd_comm m n,Nat.gcd_rec n m,Nat.gcd_comm]
   obtain ⟨⟨i1,i2⟩,i3,i4⟩:=ih b (a.tmod b) hb m0 (by omega)
   rw [decide_eq_true hb0,e1,decide_eq_true (show b ≠ 0 from h0),cond_true,cond_true,cond_true,cond_true,Bool.true_and,Bool.true_and,i1,i2,i3,i4,g]
   exact ⟨⟨rfl,rfl⟩,rfl,rfl⟩
theorem zHo (a b:Int) (ha:0≤a) (hb:0≤b) (hk:b≤9223372036854775807):zLb a b=true∧zDL a b=(Int.gcd a b:Int) :=
 (zzA Fuel a b ha hb (by simp only [Fuel];omega)).1
theorem zCR (a b:Int) (ha:0≤a) (hb:0≤b) (hk:b≤9223372036854775807):p73 a b=true∧s73 a b=(Int.gcd a b:Int) :=
 (zzA Fuel a b ha hb (by simp only [Fuel];omega)).2
-- the order of equal lists
end Go.Proofs
namespace Go.Proofs
open Go Go.Pm
set_option maxRecDepth 100000
theorem zzB {σ : Type} {step : Nat → σ → σ} {Inv : Nat → σ → Prop} {n : Nat} (hI : ∀ i s, i < n → Inv i s → Inv (i + 1) (step i s)) :
    ∀ (m i:Nat) (s:σ),i+m=n→Inv i s→Inv n (zik step m i s):=by
  intro m
  induction m with
  | zero => intro i s h hs; have : i = n := by omega
            subst this;exact hs
  | succ m ih=>intro i s h hs;exact ih (i+1) (step i s) (by omega) (hI i s (by omega) hs)
def addI (l:Line) (zaa:Sl Gate) (i:Nat) (v:Sl Int):Sl Int:=cond (s72 l (zaa.get i)) (⟨v.len+1,zdX v.len v.get (fun _=>(i:Int))⟩:Sl Int) v
def zLj (l:Line) (zaa:Sl Gate):Sl Int:=zik (addI l zaa) zaa.len 0 (⟨0,fun _=>default⟩:Sl Int)
theorem zsO (l:Line) (zaa:Sl Gate) (i:Nat) (v:Sl Int) (h:v.len≤i):(addI l zaa i v).len≤i+1:=by
 unfold addI;cases s72 l (zaa.get i)
 ·exact Nat.le_succ_of_le h
 ·exact Nat.succ_le_succ h
theorem zKH (l:Line) (zaa:Sl Gate) (hn:zaa.len≤40):p27 l zaa=true∧s27 l zaa=zLj l zaa:=by
  have := zkz (σ := Sl Int) (step := addI l zaa) (E := id) (EP := fun _ => true) (Inv := fun i v => v.len ≤ i) (a := 0) (n := zaa.len) (lpS := fun k v i => zhV l zaa k i v) (lpP := fun k v i => zhW l zaa k i v)
    (fun k i v _ hi _=>by
      show zhT l zaa (zhV l zaa k) (i:Int) v=_
      generalize zhV l zaa k=S
      unfold zhT zqG addI
      rw [decide_eq_true (show (i:Int) < (zaa.len:Int) by omega),cond_true,Int.toNat_natCast]
      cases s72 l (zaa.get i) <;> rfl)
    (fun k v=>by
      show zhT l zaa (zhV l zaa k) (zaa.len:Int) v=_
      unfold zhT
      rw [decide_eq_false (show ¬ (zaa.len:Int) < (zaa.len:Int) by omega),cond_false];rfl)
    (fun k i v _ hi hv=>by
      show zhU l zaa (zhW l zaa k) (i:Int) v=_
      generalize zhW l zaa k=S
      unfold zhU zqH addI
      rw [decide_eq_true (show (i:Int) < (zaa.len:Int) by omega),cond_true,Int.toNat_natCast,decide_eq_true (show 0≤(i:Int)∧(i:Int) < (zaa.len:Int) by omega),decide_eq_true (show (v.len+1) * 8≤140737488355328∧v.len+1≤9223372036854775807 by omega)]
      cases s72 l (zaa.get i) <;> rfl)
    (fun k v=>by
      show zhU l zaa (zhW l zaa k) (zaa.len:Int) v=_
      unfold zhU
      rw [decide_eq_false (show ¬ (zaa.len:Int) < (zaa.len:Int) by omega),cond_false])
    (fun i v _ _ h=>zsO l zaa i v h) (Nat.zero_le _) (by omega) (⟨0,fun _=>default⟩:Sl Int) (Nat.le_refl _)
  exact this
end Go.Proofs
namespace Go.Proofs
open Go Go.Pm
set_option maxRecDepth 100000
def red (num den:Int):Frac:=⟨num.tdiv (Int.gcd num den:Int),den.tdiv (Int.gcd num den:Int)⟩
theorem zCS (num:Int):(if -num > num then -num else num)=(num.natAbs:Int):=by split <;> omega
theorem zzC (num den:Int):Int.gcd (num.natAbs:Int) den=Int.gcd num den:=by
 unfold Int.gcd;rw [Int.natAbs_natCast]
theorem zb9 {num den:Int} (hd:0 < den):0 < (Int.gcd num den:Int):=by
 have:Int.gcd num den ≠ 0:=fun h=>by have:=(Int.gcd_eq_zero_iff.1 h).2;omega
 omega
theorem zNV (num den:Int):∃ a,num=(Int.gcd num den:Int) * a:=Int.gcd_dvd_left num den
theorem zNW (num den:Int):∃ a,den=(Int.gcd num den:Int) * a:=Int.gcd_dvd_right num den
theorem zdN {num den:Int} (hd:0 < den):(Int.gcd num den:Int) * (red num den).Num=num:=by
 have hg:=zb9 (num:=num) hd
 obtain ⟨a,ha⟩:=zNV num den
 show (Int.gcd num den:Int) * num.tdiv (Int.gcd num den:Int)=num
 generalize (Int.gcd num den:Int)=g at ha hg ⊢
 rw [ha,Int.mul_tdiv_cancel_left _ (by omega)]
theorem zdb {num den:Int} (hd:0 < den):(Int.gcd num den:Int) * (red num den).Den=den:=by
 have hg:=zb9 (num:=num) hd
 obtain ⟨a,ha⟩:=zNW num den
 show (Int.gcd num den:Int) * den.tdiv (Int.gcd num den:Int)=den
 generalize (Int.gcd num den:Int)=g at ha hg ⊢
 rw [ha,Int.mul_tdiv_cancel_left _ (by omega)]
theorem zcG {num den:Int} (hd:0 < den):0 < (red num den).Den:=by
 have h1:=zdb (num:=num) hd
 have hg:=zb9 (num:=num) hd
 rcases Int.lt_or_le 0 (red num den).Den with h | h
 ·exact h
 ·have := Int.mul_le_mul_of_nonneg_left h (Int.le_of_lt hg)
  rw [h1,Int.mul_zero] at this
  omega
theorem zkA {num den:Int} (hd:0 < den):(red num den).Den≤den:=by
 have h1:=zdb (num:=num) hd
 have hg:=zb9 (num:=num) hd
 have:=Int.mul_le_mul_of_nonneg_right (show (1:Int)≤(Int.gcd num den:Int) by omega) (Int.le_of_lt (zcG (num:=num) hd))
 omega
theorem zgG {num den:Int} (hd:0 < den) : -(num.natAbs:Int)≤(red num den).Num∧(red num den).Num≤(num.natAbs:Int):=by
 have h1:=zdN (num:=num) hd
 have hg:=zb9 (num:=num) hd
 have h2:num.natAbs=(Int.gcd num den) * (red num den).Num.natAbs:=by
  have:=congrArg Int.natAbs h1
  rw [Int.natAbs_mul] at this
  simpa using this.symm
 have h3:(red num den).Num.natAbs≤num.natAbs:=by
  rw [h2];exact Nat.le_mul_of_pos_left _ (by omega)
 omega
theorem zzD {num den:Int} (hd:0 < den):Int.gcd (red num den).Num (red num den).Den=1:=by
 have h1:=zdN (num:=num) hd
 have h2:=zdb (num:=num) hd
 have hg:=zb9 (num:=num) hd
 have h3:Int.gcd ((Int.gcd num den:Int) * (red num den).Num) ((Int.gcd num den:Int) * (red num den).Den)=Int.gcd num den * Int.gcd (red num den).Num (red num den).Den:=by
  rw [Int.gcd_mul_left];simp
 rw [h1,h2] at h3
 have h4:Int.gcd num den * 1=Int.gcd num den * Int.gcd (red num den).Num (red num den).Den:=by rw [Nat.mul_one];exact h3
 exact (Nat.eq_of_mul_eq_mul_left (by omega) h4).symm
theorem zzE {a b c d:Int} (hb:0 < b) (hd:0 < d):red a b=red c d↔a * d=c * b:=by
 have a1:=zdN (num:=a) hb
 have a2:=zdb (num:=a) hb
 have c1:=zdN (num:=c) hd
 have c2:=zdb (num:=c) hd
 constructor
 ·intro h
  rw [h] at a1 a2
  generalize hG:(Int.gcd a b:Int)=G at a1 a2
  generalize hK:(Int.gcd c d:Int)=K at c1 c2
  generalize (red c d).Num=x at a1 c1
  generalize (red c d).Den=y at a2 c2
  subst a1;subst a2;subst c1;subst c2
  ac_rfl
 ·intro h
  have ga:=zzD (num:=a) hb
  have gc:=zzD (num:=c) hd
  have pa:=zcG (num:=a) hb
  have pc:=zcG (num:=c) hd
  have hG:=zb9 (num:=a) hb
  have hK:=zb9 (num:=c) hd
  -- cross products of the lowest forms
  have hx:(red a b).Num * (red c d).Den=(red c d).Num * (red a b).Den:=by
   have e:((Int.gcd a b:Int) * (Int.gcd c d:Int)) * ((red a b).Num * (red c d).Den)=((Int.gcd a b:Int) * (Int.gcd c d:Int)) * ((red c d).Num * (red a b).Den):=by
    have l1:((Int.gcd a b:Int) * (Int.gcd c d:Int)) * ((red a b).Num * (red c d).Den)=((Int.gcd a b:Int) * (red a b).Num) * ((Int.gcd c d:Int) * (red c d).Den):=by
     generalize (Int.gcd a b:Int)=G;generalize (Int.gcd c d:Int)=K
     ac_rfl
    have l2:((Int.gcd a b:Int) * (Int.gcd c d:Int)) * ((red c d).Num * (red a b).Den)=((Int.gcd c d:Int) * (red c d).Num) * ((Int.gcd a b:Int) * (red a b).Den):=by
     generalize (Int.gcd a b:Int)=G;generalize (Int.gcd c d:Int)=K
     ac_rfl
    rw [l1,l2,a1,a2,c1,c2];exact h
   exact Int.eq_of_mul_eq_mul_left (by have:=Int.mul_pos hG hK;omega) e
  have hx':=congrArg Int.natAbs hx
  rw [Int.natAbs_mul,Int.natAbs_mul] at hx'
  have ga':Nat.Coprime (red a b).Den.natAbs (red a b).Num.natAbs:=(Nat.gcd_comm _ _).trans ga
  have gc':Nat.Coprime (red c d).Den.natAbs (red c d).Num.natAbs:=(Nat.gcd_comm _ _).trans gc
  have d1:(red a b).Den ∣ (red c d).Den:=Int.natAbs_dvd_natAbs.1 (ga'.dvd_of_dvd_mul_left ⟨(red c d).Num.natAbs,by rw [hx',Nat.mul_comm]⟩)
  have d2:(red c d).Den ∣ (red a b).Den:=Int.natAbs_dvd_natAbs.1 (gc'.dvd_of_dvd_mul_left ⟨(red a b).Num.natAbs,by rw [← hx',Nat.mul_comm]⟩)
  have hden:(red a b).Den=(red c d).Den:=Int.le_antisymm (Int.le_of_dvd pc d1) (Int.le_of_dvd pa d2)
  rw [← hden] at hx
  have hnum:=Int.eq_of_mul_eq_mul_right (by omega) hx
  cases h1:red a b;cases h2:red c d
  rw [h1,h2] at hden hnum
  simp only at hden hnum
  rw [hden,hnum]
theorem ziz {num den:Int} (h1 : -4611686018427387904≤num) (h2:num≤4611686018427387904) (hd:0 < den) (hd2:den≤4611686018427387904):p89 num den=true∧s89 num den=red num den:=by
 have e:w64 (0 - num) = -num:=by rw [zaP (by omega) (by omega)];omega
 obtain ⟨g1,g2⟩:=zHo (num.natAbs:Int) den (by omega) (by omega) (by omega)
 have hg:=zb9 (num:=num) hd
 have r1:=zgG (num:=num) hd
 have r2:=zkA (num:=num) hd
 have r3:=zcG (num:=num) hd
 unfold p89 s89
 rw [e,zCS,g1,g2,zzC]
 have w1:w64 (num.tdiv (Int.gcd num den:Int))=(red num den).Num:=zaP (by show _≤(red num den).Num;omega) (by show (red num den).Num≤_;omega)
 have w2:w64 (den.tdiv (Int.gcd num den:Int))=(red num den).Den:=zaP (by show _≤(red num den).Den;omega) (by show (red num den).Den≤_;omega)
 rw [w1,w2,decide_eq_true (show (Int.gcd num den:Int) ≠ 0 by omega)]
 exact ⟨by simp only [decide_true,Bool.and_self],by cases red num den;simp only⟩
theorem zfz {num den:Int} (h1 : -4611686018427387904≤num) (h2:num≤4611686018427387904) (hd:0 < den) (hd2:den≤4611686018427387904):p40 num den=true∧s40 num den=red num den:=by
 have e:w64 (0 - num) = -num:=by rw [zaP (by omega) (by omega)];omega
 obtain ⟨g1,g2⟩:=zCR (num.natAbs:Int) den (by omega) (by omega) (by omega)
 have hg:=zb9 (num:=num) hd
 have r1:=zgG (num:=num) hd
 have r2:=zkA (num:=num) hd
 have r3:=zcG (num:=num) hd
 unfold p40 s40
 rw [e,zCS,g1,g2,zzC]
 have w1:w64 (num.tdiv (Int.gcd num den:Int))=(red num den).Num:=zaP (by show _≤(red num den).Num;omega) (by show (red num den).Num≤_;omega)
 have w2:w64 (den.tdiv (Int.gcd num den:Int))=(red num den).Den:=zaP (by show _≤(red num den).Den;omega) (by show (red num den).Den≤_;omega)
 rw [w1,w2,decide_eq_true (show (Int.gcd num den:Int) ≠ 0 by omega)]
 exact ⟨by simp only [decide_true,Bool.and_self],by cases red num den;simp only⟩
end Go.Proofs
