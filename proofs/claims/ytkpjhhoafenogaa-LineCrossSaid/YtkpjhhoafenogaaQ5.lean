/- Part 5 of what the proof rests on: a machine that runs functions of the program on pure values, proved sound; the functions that the law reaches, and what they compute. -/
import Derived.Test.YtkpjhhoafenogaaQ4
set_option linter.all false
namespace Go.Proofs
open Go Go.Pm
set_option maxRecDepth 100000
set_option linter.unusedVariables false
attribute [local irreducible] Go.Pm.vcFun Go.Pm.vc Go.Pm.vcIter
abbrev T38:Tabs:=((Tabs.nil.addF 64 ztz).addF 84 zFk)
theorem zMt:TabsOk Try.prog T38:=((TabsOk.nil.addF zK2).addF zPy)
abbrev G38:Ctrs:=csm T38 (fun _ _=>[]) (fun _=>false)
def zFl:Ann:=⟨66,[(0,zK [0] []),(1,zK [0,12] []),(2,zK [2,3] []),(3,zK [0,4] []),(4,zK [0,4,15,16] []),(5,zK [0,4,15,16,17] []),(6,zK [0,4,5,15,16] []),(7,zK [0,4,5,6,15,16] []),(8,zK [0,4,5,6,15,16,23] []),(9,zK [0,4,5,6,15,16] []),(10,zK [0,4,5,6,15,16,31] []),(11,zK [2,3] [34]),(12,zK [0,4,15,16] []),(13,zK [0,4,36,37] []),(14,zK [0,4,36,37,38] []),(15,zK [0,4,7,36,37] []),(16,zK [0,4,7,8,36,37] []),(17,zK [0,4,7,8,36,37,44] []),(18,zK [0,4,7,8,36,37] []),(19,zK [0,4,7,8,9,36,37] []),(20,zK [0,4,7,8,9,36,37,51] []),(21,zK [0,4,7,8,9,36,37] []),(22,zK [0,4,7,8,9,36,37,60] []),(23,zK [2,3] [64]),(24,zK [0,4,36,37] []),(25,zK [2,3] [])],
 [(5,zK [0,4,15,16] []),(8,zK [0,4,5,6,15,16] []),(14,zK [0,4,36,37] []),(17,zK [0,4,7,8,36,37] []),(20,zK [0,4,7,8,9,36,37] [])],
 [(2,zK [0,12] []),(3,zK [0] []),(13,zK [0,4] []),(11,zK [0,4,5,6,15,16,31] []),(23,zK [0,4,7,8,9,36,37,60] [])],
 [],[]⟩
abbrev R38:=((Sl Int)×Int)
abbrev e38 (r:R38):List PA:=[.one (.sl r.1.len 1 (fun i=>zal (r.1.get i))),.one (.int .i64 r.2)]
@[irreducible] def z38:=ptF Try.prog G38 zFl Try.f38
def zCC (zaa:(Sl Gate)) (zds:Int):St:=⟨[(0,zS enc_55 3 zaa),(4,zI (zaa.len:Int)),(15,zI (zaa.len:Int)),(16,zI zds)],[],[]⟩
abbrev zBo (K:List PA→Prop) (zaa:(Sl Gate)) (X:St→Prop) (P:Int→Bool) (S:Int→((Sl Int)×Int)):Prop:=∀ ⦃zds:Int⦄,P zds=true→K (e38 (S zds))→X (zCC zaa zds)
def zCD (zaa:(Sl Gate)) (iv3:Int) (jv3:Int) (zed:Int):St:=⟨[(0,zS enc_55 3 zaa),(4,zI (zaa.len:Int)),(5,zI iv3),(6,zI jv3),(15,zI (zaa.len:Int)),(16,zI zed)],[],[]⟩
abbrev zFm (K:List PA→Prop) (zaa:(Sl Gate)) (X:St→Prop) (P:Int→Int→Int→Bool) (S:Int→Int→Int→((Sl Int)×Int)):Prop:=∀ ⦃iv3:Int⦄ ⦃jv3:Int⦄ ⦃zed:Int⦄,P iv3 jv3 zed=true→K (e38 (S iv3 jv3 zed))→X (zCD zaa iv3 jv3 zed)
def zCE (zaa:(Sl Gate)) (zdt:Int):St:=⟨[(0,zS enc_55 3 zaa),(4,zI (zaa.len:Int)),(36,zI (zaa.len:Int)),(37,zI zdt)],[],[]⟩
abbrev zwS (K:List PA→Prop) (zaa:(Sl Gate)) (X:St→Prop) (P:Int→Bool) (S:Int→((Sl Int)×Int)):Prop:=∀ ⦃zdt:Int⦄,P zdt=true→K (e38 (S zdt))→X (zCE zaa zdt)
def zCF (zaa:(Sl Gate)) (iv7:Int) (jv7:Int) (zee:Int):St:=⟨[(0,zS enc_55 3 zaa),(4,zI (zaa.len:Int)),(7,zI iv7),(8,zI jv7),(36,zI (zaa.len:Int)),(37,zI zee)],[],[]⟩
abbrev zBp (K:List PA→Prop) (zaa:(Sl Gate)) (X:St→Prop) (P:Int→Int→Int→Bool) (S:Int→Int→Int→((Sl Int)×Int)):Prop:=∀ ⦃iv7:Int⦄ ⦃jv7:Int⦄ ⦃zee:Int⦄,P iv7 jv7 zee=true→K (e38 (S iv7 jv7 zee))→X (zCF zaa iv7 jv7 zee)
def zCG (zaa:(Sl Gate)) (iv8:Int) (jv8:Int) (kv8:Int) (zef:Int):St:=⟨[(0,zS enc_55 3 zaa),(4,zI (zaa.len:Int)),(7,zI iv8),(8,zI jv8),(9,zI kv8),(36,zI (zaa.len:Int)),(37,zI zef)],[],[]⟩
abbrev zFn (K:List PA→Prop) (zaa:(Sl Gate)) (X:St→Prop) (P:Int→Int→Int→Int→Bool) (S:Int→Int→Int→Int→((Sl Int)×Int)):Prop:=∀ ⦃iv8:Int⦄ ⦃jv8:Int⦄ ⦃kv8:Int⦄ ⦃zef:Int⦄,P iv8 jv8 kv8 zef=true→K (e38 (S iv8 jv8 kv8 zef))→X (zCG zaa iv8 jv8 kv8 zef)
section
variable {K:List PA→Prop} {zaa:(Sl Gate)} {zaM:Bool} {zds:Int} {X2:St→Prop} {P2:Int→Bool} {S2:Int→((Sl Int)×Int)} {iv3:Int} {jv3:Int} {zed:Int} {X3:St→Prop} {P3:Int→Int→Int→Bool} {S3:Int→Int→Int→((Sl Int)×Int)} {iv5:Int} {jv5:Int} {zpV:Int} {zpW:Bool} {zdt:Int} {X6:St→Prop} {P6:Int→Bool} {S6:Int→((Sl Int)×Int)} {iv7:Int} {jv7:Int} {zee:Int} {X7:St→Prop} {P7:Int→Int→Int→Bool} {S7:Int→Int→Int→((Sl Int)×Int)} {iv8:Int} {jv8:Int} {kv8:Int} {zef:Int} {X8:St→Prop} {P8:Int→Int→Int→Int→Bool} {S8:Int→Int→Int→Int→((Sl Int)×Int)} {iv9:Int} {jv9:Int} {kv9:Int} {zpX:Int} {zpY:Bool}
def zwT (S6:Int→((Sl Int)×Int)) (S7:Int→Int→Int→((Sl Int)×Int)) (S8:Int→Int→Int→Int→((Sl Int)×Int)) (zaa:(Sl Gate)) (iv9:Int) (jv9:Int) (kv9:Int) (zpX:Int) (zpY:Bool):((Sl Int)×Int) :=
  (cond zpY
 ((⟨3,(zi5 iv9 [iv9,jv9,kv9])⟩:(Sl Int)),(0:Int))
 (S8 iv9 jv9 (w64 (kv9+(1:Int))) zpX))
def zwU (P6:Int→Bool) (P7:Int→Int→Int→Bool) (P8:Int→Int→Int→Int→Bool) (zaa:(Sl Gate)) (iv9:Int) (jv9:Int) (kv9:Int) (zpX:Int) (zpY:Bool):Bool :=
  (cond zpY
 true
 (P8 iv9 jv9 (w64 (kv9+(1:Int))) zpX))
theorem zFo (hX6:zwS K zaa X6 P6 S6) (hX7:zBp K zaa X7 P7 S7) (hX8:zFn K zaa X8 P8 S8) (hs:zwU P6 P7 P8 zaa iv9 jv9 kv9 zpX zpY=true) (hk:K (e38 (zwT S6 S7 S8 zaa iv9 jv9 kv9 zpX zpY))):z38 (Wk K) [1,1,1,1,0,1,0,0,1,1,0,0,1,1,0,0,1,0,0,1,0,0,1,0,0,1] [X6,X7,X8] ⟨[(0,zS enc_55 3 zaa),(4,zI (zaa.len:Int)),(7,zI iv9),(8,zI jv9),(9,zI kv9),(36,zI (zaa.len:Int)),(37,zI zpX),(60,zB zpY)],[],[]⟩:=zaw (by kernel_rfl) (zc hs hk (fun hs hk=>((zd8 (Eq.mpr (congrArg K (congrArg (fun (g_:Nat→List PV)=>([.one (.sl 3 1 g_),.one (.int .i64 (0:Int))]:List PA)) (zes (enc:=zal) (x:=iv9) (y:=jv9) (r:=[kv9])))) hk)):Wk K [.one (.sl 3 1 (zdk [(zal iv9),(zal jv9),(zal kv9)])),.one (.int .i64 (0:Int))])) (fun hs hk=>(hX8 hs hk)))
def zwV (S6:Int→((Sl Int)×Int)) (S7:Int→Int→Int→((Sl Int)×Int)) (zaa:(Sl Gate)) (S8:Int→Int→Int→Int→((Sl Int)×Int)) (iv8:Int) (jv8:Int) (kv8:Int) (zef:Int):((Sl Int)×Int) :=
  (cond (decide (kv8 < (zaa.len : Int)))
 (zwT S6 S7 S8 zaa iv8 jv8 kv8 zef (!(s84 zaa (⟨3,zcT (zdk [(zal iv8),(zal jv8),(zal kv8)])⟩:(Sl Int)))))
 (S7 iv8 (w64 (jv8+(1:Int))) zef))
def zwW (P6:Int→Bool) (P7:Int→Int→Int→Bool) (zaa:(Sl Gate)) (P8:Int→Int→Int→Int→Bool) (iv8:Int) (jv8:Int) (kv8:Int) (zef:Int):Bool :=
  (cond (decide (kv8 < (zaa.len : Int)))
 (decide ((p84 zaa (⟨3,zcT (zdk [(zal iv8),(zal jv8),(zal kv8)])⟩:(Sl Int))=true)) &&
 (zwU P6 P7 P8 zaa iv8 jv8 kv8 zef (!(s84 zaa (⟨3,zcT (zdk [(zal iv8),(zal jv8),(zal kv8)])⟩:(Sl Int))))))
 (P7 iv8 (w64 (jv8+(1:Int))) zef))
def zwX (S6:Int→((Sl Int)×Int)) (S7:Int→Int→Int→((Sl Int)×Int)) (zaa:(Sl Gate)):Nat→Int→Int→Int→Int→((Sl Int)×Int):=lpO (fun _ _ _ _=>default) (zwV S6 S7 zaa)
def zwY (P6:Int→Bool) (P7:Int→Int→Int→Bool) (zaa:(Sl Gate)):Nat→Int→Int→Int→Int→Bool:=lpO (fun _ _ _ _=>false) (zwW P6 P7 zaa)
def zwZ (S6:Int→((Sl Int)×Int)) (S7:Int→Int→Int→((Sl Int)×Int)) (zaa:(Sl Gate)) (iv8:Int) (jv8:Int) (kv8:Int) (zef:Int):((Sl Int)×Int):=zwX S6 S7 zaa Fuel iv8 jv8 kv8 zef
def zw0 (P6:Int→Bool) (P7:Int→Int→Int→Bool) (zaa:(Sl Gate)) (iv8:Int) (jv8:Int) (kv8:Int) (zef:Int):Bool:=zwY P6 P7 zaa Fuel iv8 jv8 kv8 zef
theorem zFp (hX6:zwS K zaa X6 P6 S6) (hX7:zBp K zaa X7 P7 S7) (hs:zw0 P6 P7 zaa iv8 jv8 kv8 zef=true) (hk:K (e38 (zwZ S6 S7 zaa iv8 jv8 kv8 zef))):z38 (Wk K) [1,1,1,1,0,1,0,0,1,1,0,0,1,1,0,0,1,0,0,1,0] [X6,X7] (zCG zaa iv8 jv8 kv8 zef) :=
  zl (fun X=>z38 (Wk K) [1,1,1,1,0,1,0,0,1,1,0,0,1,1,0,0,1,0,0,1,0,0] [X6,X7,X]) (by kernel_rfl) fun X8 hX =>
  (show ∀ k, zFn K zaa X8 (zwY P6 P7 zaa k) (zwX S6 S7 zaa k) from zet _ _ (zwW P6 P7 zaa) (zwV S6 S7 zaa) (zFn K zaa X8)
 (by intro _ _ _ _ hs;exact absurd hs Bool.false_ne_true)
 (by intro P8 S8 hX8 iv8 jv8 kv8 zef hs hk;exact hX _ (zaw (by kernel_rfl) (zc hs hk (fun hs hk=>(zau hs fun hc hs=>And.intro (And.intro (zE enc_55 3 zaa.get) (And.intro ((zfw [kv8]):IsE zal 1 1 (zdk [(zal iv8),(zal jv8),(zal kv8)])) hc)) (zFo hX6 hX7 hX8 hs hk))) (fun hs hk=>(hX7 hs hk)))))) _ hs hk
def zw1 (S6:Int→((Sl Int)×Int)) (zaa:(Sl Gate)) (S7:Int→Int→Int→((Sl Int)×Int)) (iv7:Int) (jv7:Int) (zee:Int):((Sl Int)×Int) :=
  (cond (decide (jv7 < (zaa.len : Int)))
 (zwZ S6 S7 zaa iv7 jv7 (w64 (jv7+(1:Int))) zee)
 (S6 (w64 (zee+(1:Int)))))
def zw2 (P6:Int→Bool) (zaa:(Sl Gate)) (P7:Int→Int→Int→Bool) (iv7:Int) (jv7:Int) (zee:Int):Bool :=
  (cond (decide (jv7 < (zaa.len : Int)))
 (zw0 P6 P7 zaa iv7 jv7 (w64 (jv7+(1:Int))) zee)
 (P6 (w64 (zee+(1:Int)))))
def zw3 (S6:Int→((Sl Int)×Int)) (zaa:(Sl Gate)):Nat→Int→Int→Int→((Sl Int)×Int):=lpO (fun _ _ _=>default) (zw1 S6 zaa)
def zw4 (P6:Int→Bool) (zaa:(Sl Gate)):Nat→Int→Int→Int→Bool:=lpO (fun _ _ _=>false) (zw2 P6 zaa)
def zw5 (S6:Int→((Sl Int)×Int)) (zaa:(Sl Gate)) (iv7:Int) (jv7:Int) (zee:Int):((Sl Int)×Int):=zw3 S6 zaa Fuel iv7 jv7 zee
def zw6 (P6:Int→Bool) (zaa:(Sl Gate)) (iv7:Int) (jv7:Int) (zee:Int):Bool:=zw4 P6 zaa Fuel iv7 jv7 zee
theorem zFq (hX6:zwS K zaa X6 P6 S6) (hs:zw6 P6 zaa iv7 jv7 zee=true) (hk:K (e38 (zw5 S6 zaa iv7 jv7 zee))):z38 (Wk K) [1,1,1,1,0,1,0,0,1,1,0,0,1,1,0] [X6] (zCF zaa iv7 jv7 zee) :=
  zl (fun X=>z38 (Wk K) [1,1,1,1,0,1,0,0,1,1,0,0,1,1,0,0] [X6,X]) (by kernel_rfl) fun X7 hX =>
  (show ∀ k, zBp K zaa X7 (zw4 P6 zaa k) (zw3 S6 zaa k) from zet _ _ (zw2 P6 zaa) (zw1 S6 zaa) (zBp K zaa X7)
 (by intro _ _ _ hs;exact absurd hs Bool.false_ne_true)
 (by intro P7 S7 hX7 iv7 jv7 zee hs hk;exact hX _ (zaw (by kernel_rfl) (zc hs hk (fun hs hk=>(zFp hX6 hX7 hs hk)) (fun hs hk=>(hX6 hs hk)))))) _ hs hk
def zw7 (zaa:(Sl Gate)) (S6:Int→((Sl Int)×Int)) (zdt:Int):((Sl Int)×Int) :=
  (cond (decide (zdt < (zaa.len : Int)))
 (zw5 S6 zaa zdt (w64 (zdt+(1:Int))) zdt)
 ((⟨0,fun _=>default⟩:(Sl Int)),(7:Int)))
def zw8 (zaa:(Sl Gate)) (P6:Int→Bool) (zdt:Int):Bool :=
  (cond (decide (zdt < (zaa.len : Int)))
 (zw6 P6 zaa zdt (w64 (zdt+(1:Int))) zdt)
 true)
def zw9 (zaa:(Sl Gate)):Nat→Int→((Sl Int)×Int):=lpO (fun _=>default) (zw7 zaa)
def zxa (zaa:(Sl Gate)):Nat→Int→Bool:=lpO (fun _=>false) (zw8 zaa)
def zxb (zaa:(Sl Gate)) (zdt:Int):((Sl Int)×Int):=zw9 zaa Fuel zdt
def zxc (zaa:(Sl Gate)) (zdt:Int):Bool:=zxa zaa Fuel zdt
theorem zFr (hs:zxc zaa zdt=true) (hk:K (e38 (zxb zaa zdt))):z38 (Wk K) [1,1,1,1,0,1,0] [] (zCE zaa zdt) :=
  zl (fun X=>z38 (Wk K) [1,1,1,1,0,1,0,0] [X]) (by kernel_rfl) fun X6 hX =>
  (show ∀ k, zwS K zaa X6 (zxa zaa k) (zw9 zaa k) from zet _ _ (zw8 zaa) (zw7 zaa) (zwS K zaa X6)
 (by intro _ hs;exact absurd hs Bool.false_ne_true)
 (by intro P6 S6 hX6 zdt hs hk;exact hX _ (zaw (by kernel_rfl) (zc hs hk (fun hs hk=>(zFq hX6 hs hk)) (fun hs hk=>((wk hk (zc9 (.one (.nil _ _)) (zc9 (.one (.rfl _)) zhl))):Wk K [.one (.nils),.one (.int .i64 (7:Int))])))))) _ hs hk
def zxd (S2:Int→((Sl Int)×Int)) (S3:Int→Int→Int→((Sl Int)×Int)) (zaa:(Sl Gate)) (iv5:Int) (jv5:Int) (zpV:Int) (zpW:Bool):((Sl Int)×Int) :=
  (cond zpW
 ((⟨2,(zi5 iv5 [iv5,jv5])⟩:(Sl Int)),(0:Int))
 (S3 iv5 (w64 (jv5+(1:Int))) zpV))
def zxe (P2:Int→Bool) (P3:Int→Int→Int→Bool) (zaa:(Sl Gate)) (iv5:Int) (jv5:Int) (zpV:Int) (zpW:Bool):Bool :=
  (cond zpW
 true
 (P3 iv5 (w64 (jv5+(1:Int))) zpV))
theorem zFs (hX2:zBo K zaa X2 P2 S2) (hX3:zFm K zaa X3 P3 S3) (hs:zxe P2 P3 zaa iv5 jv5 zpV zpW=true) (hk:K (e38 (zxd S2 S3 zaa iv5 jv5 zpV zpW))):z38 (Wk K) [1,1,1,0,1,0,0,1,1,0,0,1,1,0,0,1,0,0,1] [X2,X3] ⟨[(0,zS enc_55 3 zaa),(4,zI (zaa.len:Int)),(5,zI iv5),(6,zI jv5),(15,zI (zaa.len:Int)),(16,zI zpV),(31,zB zpW)],[],[]⟩:=zaw (by kernel_rfl) (zc hs hk (fun hs hk=>((zd8 (Eq.mpr (congrArg K (congrArg (fun (g_:Nat→List PV)=>([.one (.sl 2 1 g_),.one (.int .i64 (0:Int))]:List PA)) (zes (enc:=zal) (x:=iv5) (y:=jv5) (r:=[])))) hk)):Wk K [.one (.sl 2 1 (zdk [(zal iv5),(zal jv5)])),.one (.int .i64 (0:Int))])) (fun hs hk=>(hX3 hs hk)))
def zxf (zaa:(Sl Gate)):((Sl Int)×Int) :=
  (zxb zaa (0:Int))
def zxg (zaa:(Sl Gate)):Bool :=
  (zxc zaa (0:Int))
theorem zFt (hs:zxg zaa=true) (hk:K (e38 (zxf zaa))):z38 (Wk K) [1,1,1,1] [] ⟨[(0,zS enc_55 3 zaa),(4,zI (zaa.len:Int))],[],[]⟩:=zaw (by kernel_rfl) (zFr hs hk)
def zxh (S2:Int→((Sl Int)×Int)) (zaa:(Sl Gate)) (S3:Int→Int→Int→((Sl Int)×Int)) (iv3:Int) (jv3:Int) (zed:Int):((Sl Int)×Int) :=
  (cond (decide (jv3 < (zaa.len : Int)))
 (zxd S2 S3 zaa iv3 jv3 zed (!(s84 zaa (⟨2,zcT (zdk [(zal iv3),(zal jv3)])⟩:(Sl Int)))))
 (S2 (w64 (zed+(1:Int)))))
def zxi (P2:Int→Bool) (zaa:(Sl Gate)) (P3:Int→Int→Int→Bool) (iv3:Int) (jv3:Int) (zed:Int):Bool :=
  (cond (decide (jv3 < (zaa.len : Int)))
 (decide ((p84 zaa (⟨2,zcT (zdk [(zal iv3),(zal jv3)])⟩:(Sl Int))=true)) &&
 (zxe P2 P3 zaa iv3 jv3 zed (!(s84 zaa (⟨2,zcT (zdk [(zal iv3),(zal jv3)])⟩:(Sl Int))))))
 (P2 (w64 (zed+(1:Int)))))
def zxj (S2:Int→((Sl Int)×Int)) (zaa:(Sl Gate)):Nat→Int→Int→Int→((Sl Int)×Int):=lpO (fun _ _ _=>default) (zxh S2 zaa)
def zxk (P2:Int→Bool) (zaa:(Sl Gate)):Nat→Int→Int→Int→Bool:=lpO (fun _ _ _=>false) (zxi P2 zaa)
def zxl (S2:Int→((Sl Int)×Int)) (zaa:(Sl Gate)) (iv3:Int) (jv3:Int) (zed:Int):((Sl Int)×Int):=zxj S2 zaa Fuel iv3 jv3 zed
def zxm (P2:Int→Bool) (zaa:(Sl Gate)) (iv3:Int) (jv3:Int) (zed:Int):Bool:=zxk P2 zaa Fuel iv3 jv3 zed
theorem zFu (hX2:zBo K zaa X2 P2 S2) (hs:zxm P2 zaa iv3 jv3 zed=true) (hk:K (e38 (zxl S2 zaa iv3 jv3 zed))):z38 (Wk K) [1,1,1,0,1,0,0,1,1,0,0,1,1,0] [X2] (zCD zaa iv3 jv3 zed) :=
  zl (fun X=>z38 (Wk K) [1,1,1,0,1,0,0,1,1,0,0,1,1,0,0] [X2,X]) (by kernel_rfl) fun X3 hX =>
  (show ∀ k, zFm K zaa X3 (zxk P2 zaa k) (zxj S2 zaa k) from zet _ _ (zxi P2 zaa) (zxh S2 zaa) (zFm K zaa X3)
 (by intro _ _ _ hs;exact absurd hs Bool.false_ne_true)
 (by intro P3 S3 hX3 iv3 jv3 zed hs hk;exact hX _ (zaw (by kernel_rfl) (zc hs hk (fun hs hk=>(zau hs fun hc hs=>And.intro (And.intro (zE enc_55 3 zaa.get) (And.intro ((zfw []):IsE zal 1 1 (zdk [(zal iv3),(zal jv3)])) hc)) (zFs hX2 hX3 hs hk))) (fun hs hk=>(hX2 hs hk)))))) _ hs hk
def zxn (zaa:(Sl Gate)) (S2:Int→((Sl Int)×Int)) (zds:Int):((Sl Int)×Int) :=
  (cond (decide (zds < (zaa.len : Int)))
 (zxl S2 zaa zds (w64 (zds+(1:Int))) zds)
 (zxf zaa))
def zxo (zaa:(Sl Gate)) (P2:Int→Bool) (zds:Int):Bool :=
  (cond (decide (zds < (zaa.len : Int)))
 (zxm P2 zaa zds (w64 (zds+(1:Int))) zds)
 (zxg zaa))
def zxp (zaa:(Sl Gate)):Nat→Int→((Sl Int)×Int):=lpO (fun _=>default) (zxn zaa)
def zxq (zaa:(Sl Gate)):Nat→Int→Bool:=lpO (fun _=>false) (zxo zaa)
def zxr (zaa:(Sl Gate)) (zds:Int):((Sl Int)×Int):=zxp zaa Fuel zds
def zxs (zaa:(Sl Gate)) (zds:Int):Bool:=zxq zaa Fuel zds
theorem zFv (hs:zxs zaa zds=true) (hk:K (e38 (zxr zaa zds))):z38 (Wk K) [1,1,1,0,1,0] [] (zCC zaa zds) :=
  zl (fun X=>z38 (Wk K) [1,1,1,0,1,0,0] [X]) (by kernel_rfl) fun X2 hX =>
  (show ∀ k, zBo K zaa X2 (zxq zaa k) (zxp zaa k) from zet _ _ (zxo zaa) (zxn zaa) (zBo K zaa X2)
 (by intro _ hs;exact absurd hs Bool.false_ne_true)
 (by intro P2 S2 hX2 zds hs hk;exact hX _ (zaw (by kernel_rfl) (zc hs hk (fun hs hk=>(zFu hX2 hs hk)) (fun hs hk=>(zFt hs hk)))))) _ hs hk
def zxt (zaa:(Sl Gate)):((Sl Int)×Int) :=
  (zxr zaa (0:Int))
def zxu (zaa:(Sl Gate)):Bool :=
  (zxs zaa (0:Int))
theorem zFw (hs:zxu zaa=true) (hk:K (e38 (zxt zaa))):z38 (Wk K) [1,1] [] ⟨[(0,zS enc_55 3 zaa)],[],[]⟩:=zaw (by kernel_rfl) (zFv hs hk)
def zxv (zaa:(Sl Gate)) (zaM:Bool):((Sl Int)×Int) :=
  (cond zaM
 ((⟨0,fun _=>default⟩:(Sl Int)),(2:Int))
 (zxt zaa))
def zxw (zaa:(Sl Gate)) (zaM:Bool):Bool :=
  (cond zaM
 true
 (zxu zaa))
theorem zFx (hs:zxw zaa zaM=true) (hk:K (e38 (zxv zaa zaM))):z38 (Wk K) [1,0,1] [] ⟨[(0,zS enc_55 3 zaa),(12,zB zaM)],[],[]⟩:=zaw (by kernel_rfl) (zc hs hk (fun hs hk=>((wk hk (zc9 (.one (.nil _ _)) (zc9 (.one (.rfl _)) zhl))):Wk K [.one (.nils),.one (.int .i64 (2:Int))])) (fun hs hk=>(zFw hs hk)))
def s38 (zaa:(Sl Gate)):((Sl Int)×Int) :=
  (zxv zaa (!(s64 zaa)))
def p38 (zaa:(Sl Gate)):Bool :=
  (decide ((p64 zaa=true)) &&
 (zxw zaa (!(s64 zaa))))
end
theorem q38 (zaa:(Sl Gate)) (K:List PA→Prop) (hs:p38 zaa=true) (hk:K (e38 (s38 zaa))):vcFun Try.prog G38 zFl 38 [.one (.sl zaa.len 3 (fun i=>enc_55 (zaa.get i)))] (Wk K) :=
  zaw (by kernel_rfl) (zau hs fun hc hs=>And.intro (And.intro (zE enc_55 3 zaa.get) hc) (zFx hs hk))
def zFy : List PA → COut
  | [.one (.sl a0_n a0_s a0_g)]=>.det (IsE enc_55 3 a0_s a0_g∧p38 (⟨a0_n,zae a0_g⟩:(Sl Gate))=true) [.one (.sl (((s38 (⟨a0_n,zae a0_g⟩:(Sl Gate))).1).len) 1 (fun i=>zal (((s38 (⟨a0_n,zae a0_g⟩:(Sl Gate))).1).get i))),.one (.int .i64 ((s38 (⟨a0_n,zae a0_g⟩:(Sl Gate))).2))]
  | _=>.no
theorem zJz:zaf Try.prog 38:=⟨_,rfl,rfl,by kernel_rfl⟩
theorem zPz:Ok Try.prog 38 zFy:=zhm zMt zJz fun args K h=>by
  unfold zFy at h
  split at h
  · rename_i a0_n a0_s a0_g
    obtain ⟨⟨⟨rfl,a0_f,rfl⟩,hs⟩,hk⟩:=h
    try rw [zac a0_f] at hs
    try rw [zac a0_f] at hk
    exact ⟨_,ze0 zfW _,(fun _ _=>[]),(fun _=>false),zFl,q38 (⟨a0_n,a0_f⟩:(Sl Gate)) K hs hk⟩
  · exact h.elim
abbrev T39:Tabs:=Tabs.nil
theorem zMu:TabsOk Try.prog T39:=TabsOk.nil
abbrev G39:Ctrs:=csm T39 (fun _ _=>[]) (fun _=>false)
def zFz:Ann:=⟨46,[(0,zK [0,1] []),(1,zK [0,1,5] []),(2,zK [0,1,5,15] []),(3,zK [0,1,5] []),(4,zK [0,1,5,26] []),(5,zK [4] []),(6,zK [0,1,5,35] []),(7,zK [4] []),(8,zK [0,1,40] []),(9,zK [4] []),(10,zK [45] []),(11,zK [4] []),(12,zK [4] [])],
 [(2,zK [0,1,5] [])],
 [(8,zK [0,1] [])],
 [],[]⟩
abbrev R39:=Int
abbrev e39 (r:R39):List PA:=[.one (.int .i64 r)]
@[irreducible] def z39:=ptF Try.prog G39 zFz Try.f39
def zCH (a:(Sl Int)) (b:(Sl Int)) (iv0:Int):St:=⟨[(0,zS zal 1 a),(1,zS zal 1 b),(5,zI iv0)],[],[]⟩
abbrev zJA (K:List PA→Prop) (a:(Sl Int)) (b:(Sl Int)) (X:St→Prop) (P:Int→Bool) (S:Int→Int):Prop:=∀ ⦃iv0:Int⦄,P iv0=true→K (e39 (S iv0))→X (zCH a b iv0)
section
variable {K:List PA→Prop} {a:(Sl Int)} {b:(Sl Int)} {iv0:Int} {X0:St→Prop} {P0:Int→Bool} {S0:Int→Int}
def zpZ (a:(Sl Int)) (b:(Sl Int)):Int :=
  (cond (decide ((a.len : Int) < (b.len : Int)))
 (-1:Int)
 (cond (decide ((a.len : Int) > (b.len : Int)))
 (1:Int)
 (0:Int)))
theorem zxx (hk:K (e39 (zpZ a b))):z39 K [1,1] [] ⟨[(0,zS zal 1 a),(1,zS zal 1 b)],[],[]⟩:=zaw (by kernel_rfl) (zt hk (fun hk=>hk) (fun hk=>(zt hk (fun hk=>hk) (fun hk=>hk))))
def zxy (a:(Sl Int)) (b:(Sl Int)) (S0:Int→Int) (iv0:Int):Int :=
  (cond (decide (iv0 < (a.len : Int)))
 (cond (decide (iv0 < (b.len : Int)))
 (cond (decide ((a.get iv0.toNat) < (b.get iv0.toNat)))
 (-1:Int)
 (cond (decide ((a.get iv0.toNat) > (b.get iv0.toNat)))
 (1:Int)
 (S0 (w64 (iv0+(1:Int))))))
 (zpZ a b))
 (zpZ a b))
def zxz (a:(Sl Int)) (b:(Sl Int)) (P0:Int→Bool) (iv0:Int):Bool :=
  (cond (decide (iv0 < (a.len : Int)))
 (cond (decide (iv0 < (b.len : Int)))
 (decide ((0≤iv0∧iv0 < (a.len:Int))) &&
 (decide ((0≤iv0∧iv0 < (b.len:Int))) &&
 (cond (decide ((a.get iv0.toNat) < (b.get iv0.toNat)))
 true
 (decide ((0≤iv0∧iv0 < (a.len:Int))) &&
 (decide ((0≤iv0∧iv0 < (b.len:Int))) &&
 (cond (decide ((a.get iv0.toNat) > (b.get iv0.toNat)))
 true
 (P0 (w64 (iv0+(1:Int))))))))))
 true)
 true)
def zxA (a:(Sl Int)) (b:(Sl Int)):Nat→Int→Int:=lpO (fun _=>default) (zxy a b)
def zxB (a:(Sl Int)) (b:(Sl Int)):Nat→Int→Bool:=lpO (fun _=>false) (zxz a b)
def zxC (a:(Sl Int)) (b:(Sl Int)) (iv0:Int):Int:=zxA a b Fuel iv0
def zxD (a:(Sl Int)) (b:(Sl Int)) (iv0:Int):Bool:=zxB a b Fuel iv0
theorem zFA (hs:zxD a b iv0=true) (hk:K (e39 (zxC a b iv0))):z39 K [1,0,1,0] [] (zCH a b iv0) :=
  zl (fun X=>z39 K [1,0,1,0,0] [X]) (by kernel_rfl) fun X0 hX =>
  (show ∀ k, zJA K a b X0 (zxB a b k) (zxA a b k) from zet _ _ (zxz a b) (zxy a b) (zJA K a b X0)
 (by intro _ hs;exact absurd hs Bool.false_ne_true)
 (by intro P0 S0 hX0 iv0 hs hk;exact hX _ (zaw (by kernel_rfl) (zc hs hk (fun hs hk=>(zc hs hk (fun hs hk=>(zau hs fun hc hs=>And.intro hc (zau hs fun hc hs=>And.intro hc (zc hs hk (fun hs hk=>hk) (fun hs hk=>(zau hs fun hc hs=>And.intro hc (zau hs fun hc hs=>And.intro hc (zc hs hk (fun hs hk=>hk) (fun hs hk=>(hX0 hs hk)))))))))) (fun hs hk=>(zxx hk)))) (fun hs hk=>(zxx hk)))))) _ hs hk
def s39 (a:(Sl Int)) (b:(Sl Int)):Int :=
  (zxC a b (0:Int))
def p39 (a:(Sl Int)) (b:(Sl Int)):Bool :=
  (zxD a b (0:Int))
end
theorem q39 (a:(Sl Int)) (b:(Sl Int)) (K:List PA→Prop) (hs:p39 a b=true) (hk:K (e39 (s39 a b))):vcFun Try.prog G39 zFz 39 [.one (.sl a.len 1 (fun i=>zal (a.get i))),.one (.sl b.len 1 (fun i=>zal (b.get i)))] K :=
  zaw (by kernel_rfl) (zFA hs hk)
def zFB : List PA → COut
  | [.one (.sl a0_n a0_s a0_g),.one (.sl a1_n a1_s a1_g)]=>.det (IsE zal 1 a0_s a0_g∧IsE zal 1 a1_s a1_g∧p39 (⟨a0_n,zcT a0_g⟩:(Sl Int)) (⟨a1_n,zcT a1_g⟩:(Sl Int))=true) [.one (.int .i64 (s39 (⟨a0_n,zcT a0_g⟩:(Sl Int)) (⟨a1_n,zcT a1_g⟩:(Sl Int))))]
  | _=>.no
theorem zJB:zaf Try.prog 39:=⟨_,rfl,rfl,by kernel_rfl⟩
theorem zPA:Ok Try.prog 39 zFB:=zay zMu zJB fun args K h=>by
  unfold zFB at h
  split at h
  · rename_i a0_n a0_s a0_g a1_n a1_s a1_g
    obtain ⟨⟨⟨rfl,a0_f,rfl⟩,⟨rfl,a1_f,rfl⟩,hs⟩,hk⟩:=h
    try rw [zdx a0_f] at hs
    try rw [zdx a0_f] at hk
    try rw [zdx a1_f] at hs
    try rw [zdx a1_f] at hk
    exact ⟨(fun _ _=>[]),(fun _=>false),zFz,q39 (⟨a0_n,a0_f⟩:(Sl Int)) (⟨a1_n,a1_f⟩:(Sl Int)) K hs hk⟩
  · exact h.elim
abbrev T73:Tabs:=Tabs.nil
theorem zMv:TabsOk Try.prog T73:=TabsOk.nil
abbrev G73:Ctrs:=csm T73 (fun _ _=>[]) (fun _=>false)
def zFC:Ann:=⟨12,[(0,zK [0,1] []),(1,zK [0,1,6] []),(2,zK [0,1] []),(3,zK [4] [])],
 [(1,zK [0,1] [])],
 [],
 [],[]⟩
abbrev R73:=Int
abbrev e73 (r:R73):List PA:=[.one (.int .i64 r)]
@[irreducible] def z73:=ptF Try.prog G73 zFC Try.f73
def zCI (av0:Int) (bv0:Int):St:=⟨[(0,zI av0),(1,zI bv0)],[],[]⟩
abbrev zJC (K:List PA→Prop) (X:St→Prop) (P:Int→Int→Bool) (S:Int→Int→Int):Prop:=∀ ⦃av0:Int⦄ ⦃bv0:Int⦄,P av0 bv0=true→K (e73 (S av0 bv0))→X (zCI av0 bv0)
section
variable {K:List PA→Prop} {a:Int} {b:Int} {av0:Int} {bv0:Int} {X0:St→Prop} {P0:Int→Int→Bool} {S0:Int→Int→Int}
def zmy (S0:Int→Int→Int) (av0:Int) (bv0:Int):Int :=
  (cond (bv0 != (0:Int))
 (S0 bv0 (av0.tmod bv0))
 av0)
def zmz (P0:Int→Int→Bool) (av0:Int) (bv0:Int):Bool :=
  (cond (bv0 != (0:Int))
 (decide ((bv0 ≠ 0)) &&
 (P0 bv0 (av0.tmod bv0)))
 true)
def zmA:Nat→Int→Int→Int:=lpO (fun _ _=>default) (zmy)
def zmB:Nat→Int→Int→Bool:=lpO (fun _ _=>false) (zmz)
def zxE (av0:Int) (bv0:Int):Int:=zmA Fuel av0 bv0
def zxF (av0:Int) (bv0:Int):Bool:=zmB Fuel av0 bv0
theorem zFD (hs:zxF av0 bv0=true) (hk:K (e73 (zxE av0 bv0))):z73 K [1,0,0] [] (zCI av0 bv0) :=
  zl (fun X=>z73 K [1,0,0,0] [X]) (by kernel_rfl) fun X0 hX =>
  (show ∀ k, zJC K X0 (zmB k) (zmA k) from zet _ _ (zmz) (zmy) (zJC K X0)
 (by intro _ _ hs;exact absurd hs Bool.false_ne_true)
 (by intro P0 S0 hX0 av0 bv0 hs hk;exact hX _ (zaw (by kernel_rfl) (zc hs hk (fun hs hk=>(zau hs fun hc hs=>And.intro hc (hX0 hs hk))) (fun hs hk=>hk))))) _ hs hk
def s73 (a:Int) (b:Int):Int :=
  (zxE a b)
def p73 (a:Int) (b:Int):Bool :=
  (zxF a b)
end
theorem q73 (a:Int) (b:Int) (K:List PA→Prop) (hs:p73 a b=true) (hk:K (e73 (s73 a b))):vcFun Try.prog G73 zFC 73 [.one (.int .i64 a),.one (.int .i64 b)] K :=
  zaw (by kernel_rfl) (zFD hs hk)
def zBq : List PA → COut
  | [.one (.int .i64 a0),.one (.int .i64 a1)]=>.det (p73 a0 a1=true) [.one (.int .i64 (s73 a0 a1))]
  | _=>.no
theorem zJD:zaf Try.prog 73:=⟨_,rfl,rfl,by kernel_rfl⟩
theorem zNW:Ok Try.prog 73 zBq:=zay zMv zJD fun args K h=>by
  unfold zBq at h
  split at h
  · rename_i a0 a1
    obtain ⟨hs,hk⟩:=h
    exact ⟨(fun _ _=>[]),(fun _=>false),zFC,q73 a0 a1 K hs hk⟩
  · exact h.elim
abbrev T40:Tabs:=(Tabs.nil.addF 73 zBq)
theorem zMw:TabsOk Try.prog T40:=(TabsOk.nil.addF zNW)
abbrev G40:Ctrs:=csm T40 (fun _ _=>[]) (fun _=>false)
def zJE:Ann:=⟨19,[(0,zK [0,1,4] [4]),(1,zK [0,1,4,5] [4]),(2,zK [4] [4])],
 [],
 [],
 [],[]⟩
abbrev R40:=Frac
abbrev e40 (r:R40):List PA:=[.agg [.int .i64 r.Num,.int .i64 r.Den]]
section
variable {K:List PA→Prop} {num:Int} {den:Int}
def s40 (num:Int) (den:Int):Frac :=
  (⟨(w64 (num.tdiv (s73 (if (w64 (0 - num)) > num then (w64 (0 - num)) else num) den))),(w64 (den.tdiv (s73 (if (w64 (0 - num)) > num then (w64 (0 - num)) else num) den)))⟩:Frac)
def p40 (num:Int) (den:Int):Bool :=
  (decide ((p73 (if (w64 (0 - num)) > num then (w64 (0 - num)) else num) den=true)) &&
 (decide (((s73 (if (w64 (0 - num)) > num then (w64 (0 - num)) else num) den) ≠ 0)) &&
 (decide (((s73 (if (w64 (0 - num)) > num then (w64 (0 - num)) else num) den) ≠ 0)) &&
 true)))
end
theorem q40 (num:Int) (den:Int) (K:List PA→Prop) (hs:p40 num den=true) (hk:K (e40 (s40 num den))):vcFun Try.prog G40 zJE 40 [.one (.int .i64 num),.one (.int .i64 den)] K :=
  zaw (by kernel_rfl) (zau hs fun hc hs=>And.intro hc (zau hs fun hc hs=>And.intro hc (zau hs fun hc hs=>And.intro hc hk)))
def zp0 : List PA → COut
  | [.one (.int .i64 a0),.one (.int .i64 a1)]=>.det (p40 a0 a1=true) [.agg [.int .i64 ((s40 a0 a1).Num),.int .i64 ((s40 a0 a1).Den)]]
  | _=>.no
theorem zJF:zaf Try.prog 40:=⟨_,rfl,rfl,by kernel_rfl⟩
theorem zLf:Ok Try.prog 40 zp0:=zay zMw zJF fun args K h=>by
  unfold zp0 at h
  split at h
  · rename_i a0 a1
    obtain ⟨hs,hk⟩:=h
    exact ⟨(fun _ _=>[]),(fun _=>false),zJE,q40 a0 a1 K hs hk⟩
  · exact h.elim
abbrev T85:Tabs:=Tabs.nil
theorem zMx:TabsOk Try.prog T85:=TabsOk.nil
abbrev G85:Ctrs:=csm T85 (fun _ _=>[]) (fun _=>false)
def zJG:Ann:=⟨47,[(0,zK [0,1,2,3,4,5] []),(1,zK [0,1,2,13] []),(2,zK [13,14] []),(3,zK [12] [])],
 [],
 [],
 [],[]⟩
abbrev R85:=Int
abbrev e85 (r:R85):List PA:=[.one (.int .i64 r)]
section
variable {K:List PA→Prop} {u:Int} {v:Int} {w:Int} {p:Int} {q:Int} {r_a5:Int}
def s85 (u:Int) (v:Int) (w:Int) (p:Int) (q:Int) (r_a5:Int):Int :=
  (w64 ((w64 ((w64 ((w64 ((1000:Int) * (if (w64 (0 - (w64 ((w64 ((w64 (r_a5 - q)) * (w64 (v - u)))) - (w64 ((w64 (q - p)) * (w64 (w - v)))))))) > (w64 ((w64 ((w64 (r_a5 - q)) * (w64 (v - u)))) - (w64 ((w64 (q - p)) * (w64 (w - v)))))) then (w64 (0 - (w64 ((w64 ((w64 (r_a5 - q)) * (w64 (v - u)))) - (w64 ((w64 (q - p)) * (w64 (w - v)))))))) else (w64 ((w64 ((w64 (r_a5 - q)) * (w64 (v - u)))) - (w64 ((w64 (q - p)) * (w64 (w - v)))))))))+(w64 ((w64 (v - u)) * (w64 (w - v)))))) - (1:Int))).tdiv (w64 ((w64 (v - u)) * (w64 (w - v))))))
def p85 (u:Int) (v:Int) (w:Int) (p:Int) (q:Int) (r_a5:Int):Bool :=
  (decide (((w64 ((w64 (v - u)) * (w64 (w - v)))) ≠ 0)) &&
 true)
end
theorem q85 (u:Int) (v:Int) (w:Int) (p:Int) (q:Int) (r_a5:Int) (K:List PA→Prop) (hs:p85 u v w p q r_a5=true) (hk:K (e85 (s85 u v w p q r_a5))):vcFun Try.prog G85 zJG 85 [.one (.int .i64 u),.one (.int .i64 v),.one (.int .i64 w),.one (.int .i64 p),.one (.int .i64 q),.one (.int .i64 r_a5)] K :=
  zaw (by kernel_rfl) (zau hs fun hc hs=>And.intro hc hk)
def zBr : List PA → COut
  | [.one (.int .i64 a0),.one (.int .i64 a1),.one (.int .i64 a2),.one (.int .i64 a3),.one (.int .i64 a4),.one (.int .i64 a5)]=>.det (p85 a0 a1 a2 a3 a4 a5=true) [.one (.int .i64 (s85 a0 a1 a2 a3 a4 a5))]
  | _=>.no
theorem zJH:zaf Try.prog 85:=⟨_,rfl,rfl,by kernel_rfl⟩
theorem zNX:Ok Try.prog 85 zBr:=zay zMx zJH fun args K h=>by
  unfold zBr at h
  split at h
  · rename_i a0 a1 a2 a3 a4 a5
    obtain ⟨hs,hk⟩:=h
    exact ⟨(fun _ _=>[]),(fun _=>false),zJG,q85 a0 a1 a2 a3 a4 a5 K hs hk⟩
  · exact h.elim
abbrev T92:Tabs:=((Tabs.nil.addF 64 ztz).addF 74 zpb)
theorem zMy:TabsOk Try.prog T92:=((TabsOk.nil.addF zK2).addF zIp)
abbrev G92:Ctrs:=csm T92 (fun _ _=>[]) (fun _=>false)
def zFE:Ann:=⟨41,[(0,zK [0] []),(1,zK [0,5,6,7] []),(2,zK [0,5,6,7,8] []),(3,zK [0,3,4,5,6,7] [4]),(4,zK [0,5,6,7,32] []),(5,zK [2] []),(6,zK [0,5,6,7] []),(7,zK [2] [])],
 [(2,zK [0,5,6,7] [])],
 [],
 [],[]⟩
abbrev R92:=Bool
abbrev e92 (r:R92):List PA:=[.one (.bool r)]
@[irreducible] def z92:=ptF Try.prog G92 zFE Try.f92
def zCJ (zaa:(Sl Gate)) (za0:Int):St:=⟨[(0,zS enc_55 3 zaa),(5,zS enc_55 3 zaa),(6,zI (zaa.len:Int)),(7,zI za0)],[],[]⟩
abbrev zJI (K:List PA→Prop) (zaa:(Sl Gate)) (X:St→Prop) (P:Int→Bool) (S:Int→Bool):Prop:=∀ ⦃za0:Int⦄,P za0=true→K (e92 (S za0))→X (zCJ zaa za0)
section
variable {K:List PA→Prop} {zaa:(Sl Gate)} {za0:Int} {X0:St→Prop} {P0:Int→Bool} {S0:Int→Bool}
def zxG (zaa:(Sl Gate)) (S0:Int→Bool) (za0:Int):Bool :=
  (cond (decide (za0 < (zaa.len : Int)))
 (cond (decide ((w64 ((zaa.get za0.toNat).High - (zaa.get za0.toNat).Low)) > (60:Int)))
 false
 (cond (decide (za0 > (0:Int)))
 (cond (decide ((zaa.get za0.toNat).Z ≤ (zaa.get ((w64 (za0 - (1:Int))).toNat)).Z))
 false
 (S0 (w64 (za0+(1:Int)))))
 (S0 (w64 (za0+(1:Int))))))
 (cond (s74 (zaa.len : Int) (2:Int) (8:Int))
 (s64 zaa)
 false))
def zxH (zaa:(Sl Gate)) (P0:Int→Bool) (za0:Int):Bool :=
  (cond (decide (za0 < (zaa.len : Int)))
 (decide ((0≤za0∧za0 < (zaa.len:Int))) &&
 (cond (decide ((w64 ((zaa.get za0.toNat).High - (zaa.get za0.toNat).Low)) > (60:Int)))
 true
 (cond (decide (za0 > (0:Int)))
 (decide ((0≤(w64 (za0 - (1:Int)))∧(w64 (za0 - (1:Int))) < (zaa.len:Int))) &&
 (cond (decide ((zaa.get za0.toNat).Z ≤ (zaa.get ((w64 (za0 - (1:Int))).toNat)).Z))
 true
 (P0 (w64 (za0+(1:Int))))))
 (P0 (w64 (za0+(1:Int)))))))
 (cond (s74 (zaa.len : Int) (2:Int) (8:Int))
 (decide ((p64 zaa=true)) &&
 true)
 true))
def zxI (zaa:(Sl Gate)):Nat→Int→Bool:=lpO (fun _=>default) (zxG zaa)
def zxJ (zaa:(Sl Gate)):Nat→Int→Bool:=lpO (fun _=>false) (zxH zaa)
def zxK (zaa:(Sl Gate)) (za0:Int):Bool:=zxI zaa Fuel za0
def zxL (zaa:(Sl Gate)) (za0:Int):Bool:=zxJ zaa Fuel za0
theorem zFF (hs:zxL zaa za0=true) (hk:K (e92 (zxK zaa za0))):z92 K [1,0,1,0] [] (zCJ zaa za0) :=
  zl (fun X=>z92 K [1,0,1,0,0] [X]) (by kernel_rfl) fun X0 hX =>
  (show ∀ k, zJI K zaa X0 (zxJ zaa k) (zxI zaa k) from zet _ _ (zxH zaa) (zxG zaa) (zJI K zaa X0)
 (by intro _ hs;exact absurd hs Bool.false_ne_true)
 (by intro P0 S0 hX0 za0 hs hk;exact hX _ (zaw (by kernel_rfl) (zc hs hk (fun hs hk=>(zau hs fun hc hs=>And.intro hc (zc hs hk (fun hs hk=>hk) (fun hs hk=>(zc hs hk (fun hs hk=>(zau hs fun hc hs=>And.intro hc (zc hs hk (fun hs hk=>hk) (fun hs hk=>(hX0 hs hk))))) (fun hs hk=>(hX0 hs hk))))))) (fun hs hk=>(zc hs hk (fun hs hk=>(zau hs fun hc hs=>And.intro (And.intro (zE enc_55 3 zaa.get) hc) hk)) (fun hs hk=>hk))))))) _ hs hk
def s92 (zaa:(Sl Gate)):Bool :=
  (zxK zaa (0:Int))
def p92 (zaa:(Sl Gate)):Bool :=
  (zxL zaa (0:Int))
end
theorem q92 (zaa:(Sl Gate)) (K:List PA→Prop) (hs:p92 zaa=true) (hk:K (e92 (s92 zaa))):vcFun Try.prog G92 zFE 92 [.one (.sl zaa.len 3 (fun i=>enc_55 (zaa.get i)))] K :=
  zaw (by kernel_rfl) (zFF hs hk)
def zFG : List PA → COut
  | [.one (.sl a0_n a0_s a0_g)]=>.det (IsE enc_55 3 a0_s a0_g∧p92 (⟨a0_n,zae a0_g⟩:(Sl Gate))=true) [.one (.bool (s92 (⟨a0_n,zae a0_g⟩:(Sl Gate))))]
  | _=>.no
theorem zJJ:zaf Try.prog 92:=⟨_,rfl,rfl,by kernel_rfl⟩
theorem zPB:Ok Try.prog 92 zFG:=zay zMy zJJ fun args K h=>by
  unfold zFG at h
  split at h
  · rename_i a0_n a0_s a0_g
    obtain ⟨⟨⟨rfl,a0_f,rfl⟩,hs⟩,hk⟩:=h
    try rw [zac a0_f] at hs
    try rw [zac a0_f] at hk
    exact ⟨(fun _ _=>[]),(fun _=>false),zFE,q92 (⟨a0_n,a0_f⟩:(Sl Gate)) K hs hk⟩
  · exact h.elim
abbrev T93:Tabs:=(Tabs.nil.addF 85 zBr)
theorem zMz:TabsOk Try.prog T93:=(TabsOk.nil.addF zNX)
abbrev G93:Ctrs:=csm T93 (fun _ _=>[]) (fun l=>Nat.beq l 15 || Nat.beq l 24)
def zFH:Ann:=⟨131,[(0,zK [0] []),(1,zK [0,3] []),(2,zK [0,3,4] [15]),(3,zK [0,3,4,5] [15]),(4,zK [0,3,4,5,19] [15]),(5,zK [0,3,4,5] [15]),(6,zK [0,3,4,5] [15]),(7,zK [0,3,4,5,6] [15]),(8,zK [0,3,4,5,6,37] [15]),(9,zK [0,3,4,5,6] [15]),(10,zK [0,3,4,5,6,7] [15]),(11,zK [0,3,4,5,6,7,53] [15]),(12,zK [0,3,4,5,6,7] [15]),(13,zK [0,3,4,5,6,7,59] [15]),(14,zK [0,3,4,5,6,7] [15]),(15,zK [0,3,4,5,6,7,8] [15]),(16,zK [0,3,4,5,6,7,8,9] [15]),(17,zK [0,3,4,5,6,7,8,9,80] [15]),(18,zK [0,3,4,5,6,7,8,9] [15]),(19,zK [0,3,4,5,6,7,8,9,10] [15]),(20,zK [0,3,4,5,6,7,8,9,10,120] [15]),(21,zK [0,3,4,5,6,7,8,9] [15]),(22,zK [0,3,4,5,6,7] [15]),(23,zK [2] [15])],
 [(4,zK [0,3,4,5] [15]),(8,zK [0,3,4,5,6] [15]),(11,zK [0,3,4,5,6,7] [15]),(17,zK [0,3,4,5,6,7,8,9] [15])],
 [(15,zK [0,3,4,5,6,7] [15]),(20,zK [0,3,4,5,6,7,8,9,10] [15])],
 [],[]⟩
abbrev R93:=(Sl Mp)
abbrev e93 (r:R93):List PA:=[.one (.sl r.len 1 (fun i=>zcF (r.get i)))]
@[irreducible] def z93:=ptF Try.prog G93 zFH Try.f93
def zCK (zaa:(Sl Gate)) (iv0:Int) (zbM:Nat) (zbB:(Nat→Bool)) (zbC:(Nat→Nat)) (zbX:(Nat→List Int→Option (List Int))):St:=⟨[(0,zS enc_55 3 zaa),(3,zI (zaa.len:Int)),(4,zv 15),(5,zI iv0)],[(15,.vm 129 8 131 3 (true,2,false,[some .i64]) zbM zbB zbC zbX)],[]⟩
abbrev zp1 (K:List PA→Prop) (zaa:(Sl Gate)) (X:St→Prop) (P:Int→Nat→(Nat→Bool)→(Nat→Nat)→(Nat→List Int→Option (List Int))→Bool) (S:Int→Nat→(Nat→Bool)→(Nat→Nat)→(Nat→List Int→Option (List Int))→(Sl Mp)):Prop:=∀ ⦃iv0:Int⦄ ⦃zbM:Nat⦄ ⦃zbB:(Nat→Bool)⦄ ⦃zbC:(Nat→Nat)⦄ ⦃zbX:(Nat→List Int→Option (List Int))⦄,P iv0 zbM zbB zbC zbX=true→K (e93 (S iv0 zbM zbB zbC zbX))→X (zCK zaa iv0 zbM zbB zbC zbX)
def zCL (zaa:(Sl Gate)) (iv1:Int) (pv1:Int) (zbP:Nat) (zbu:(Nat→Bool)) (zbv:(Nat→Nat)) (zbQ:(Nat→List Int→Option (List Int))):St:=⟨[(0,zS enc_55 3 zaa),(3,zI (zaa.len:Int)),(4,zv 15),(5,zI iv1),(6,zI pv1)],[(15,.vm 129 8 131 3 (true,2,false,[some .i64]) zbP zbu zbv zbQ)],[]⟩
abbrev ztE (K:List PA→Prop) (zaa:(Sl Gate)) (X:St→Prop) (P:Int→Int→Nat→(Nat→Bool)→(Nat→Nat)→(Nat→List Int→Option (List Int))→Bool) (S:Int→Int→Nat→(Nat→Bool)→(Nat→Nat)→(Nat→List Int→Option (List Int))→(Sl Mp)):Prop:=∀ ⦃iv1:Int⦄ ⦃pv1:Int⦄ ⦃zbP:Nat⦄ ⦃zbu:(Nat→Bool)⦄ ⦃zbv:(Nat→Nat)⦄ ⦃zbQ:(Nat→List Int→Option (List Int))⦄,P iv1 pv1 zbP zbu zbv zbQ=true→K (e93 (S iv1 pv1 zbP zbu zbv zbQ))→X (zCL zaa iv1 pv1 zbP zbu zbv zbQ)
def zCM (zaa:(Sl Gate)) (iv2:Int) (pv2:Int) (qv2:Int) (zbw:Nat) (za8:(Nat→Bool)) (za1:(Nat→Nat)) (zbk:(Nat→List Int→Option (List Int))):St:=⟨[(0,zS enc_55 3 zaa),(3,zI (zaa.len:Int)),(4,zv 15),(5,zI iv2),(6,zI pv2),(7,zI qv2)],[(15,.vm 129 8 131 3 (true,2,false,[some .i64]) zbw za8 za1 zbk)],[]⟩
abbrev zxM (K:List PA→Prop) (zaa:(Sl Gate)) (X:St→Prop) (P:Int→Int→Int→Nat→(Nat→Bool)→(Nat→Nat)→(Nat→List Int→Option (List Int))→Bool) (S:Int→Int→Int→Nat→(Nat→Bool)→(Nat→Nat)→(Nat→List Int→Option (List Int))→(Sl Mp)):Prop:=∀ ⦃iv2:Int⦄ ⦃pv2:Int⦄ ⦃qv2:Int⦄ ⦃zbw:Nat⦄ ⦃za8:(Nat→Bool)⦄ ⦃za1:(Nat→Nat)⦄ ⦃zbk:(Nat→List Int→Option (List Int))⦄,P iv2 pv2 qv2 zbw za8 za1 zbk=true→K (e93 (S iv2 pv2 qv2 zbw za8 za1 zbk))→X (zCM zaa iv2 pv2 qv2 zbw za8 za1 zbk)
def zCN (zaa:(Sl Gate)) (qv3:Int) (iv4:Int) (pv4:Int) (zcz:Int) (rv4:Int) (zbl:Nat) (zbc:(Nat→Bool)) (zbd:(Nat→Nat)) (zbb:(Nat→List Int→Option (List Int))):St:=⟨[(0,zS enc_55 3 zaa),(3,zI (zaa.len:Int)),(4,zv 15),(5,zI iv4),(6,zI pv4),(7,zI qv3),(8,zI zcz),(9,zI rv4)],[(15,.vm 129 8 131 3 (true,2,false,[some .i64]) zbl zbc zbd zbb)],[]⟩
abbrev zFI (K:List PA→Prop) (zaa:(Sl Gate)) (qv3:Int) (X:St→Prop) (P:Int→Int→Int→Int→Nat→(Nat→Bool)→(Nat→Nat)→(Nat→List Int→Option (List Int))→Bool) (S:Int→Int→Int→Int→Nat→(Nat→Bool)→(Nat→Nat)→(Nat→List Int→Option (List Int))→(Sl Mp)):Prop:=∀ ⦃iv4:Int⦄ ⦃pv4:Int⦄ ⦃zcz:Int⦄ ⦃rv4:Int⦄ ⦃zbl:Nat⦄ ⦃zbc:(Nat→Bool)⦄ ⦃zbd:(Nat→Nat)⦄ ⦃zbb:(Nat→List Int→Option (List Int))⦄,P iv4 pv4 zcz rv4 zbl zbc zbd zbb=true→K (e93 (S iv4 pv4 zcz rv4 zbl zbc zbd zbb))→X (zCN zaa qv3 iv4 pv4 zcz rv4 zbl zbc zbd zbb)
section
variable {K:List PA→Prop} {zaa:(Sl Gate)} {iv0:Int} {zbM:Nat} {zbB:(Nat→Bool)} {zbC:(Nat→Nat)} {zbX:(Nat→List Int→Option (List Int))} {X0:St→Prop} {P0:Int→Nat→(Nat→Bool)→(Nat→Nat)→(Nat→List Int→Option (List Int))→Bool} {S0:Int→Nat→(Nat→Bool)→(Nat→Nat)→(Nat→List Int→Option (List Int))→(Sl Mp)} {iv1:Int} {pv1:Int} {zbP:Nat} {zbu:(Nat→Bool)} {zbv:(Nat→Nat)} {zbQ:(Nat→List Int→Option (List Int))} {X1:St→Prop} {P1:Int→Int→Nat→(Nat→Bool)→(Nat→Nat)→(Nat→List Int→Option (List Int))→Bool} {S1:Int→Int→Nat→(Nat→Bool)→(Nat→Nat)→(Nat→List Int→Option (List Int))→(Sl Mp)} {iv2:Int} {pv2:Int} {qv2:Int} {zbw:Nat} {za8:(Nat→Bool)} {za1:(Nat→Nat)} {zbk:(Nat→List Int→Option (List Int))} {X2:St→Prop} {P2:Int→Int→Int→Nat→(Nat→Bool)→(Nat→Nat)→(Nat→List Int→Option (List Int))→Bool} {S2:Int→Int→Int→Nat→(Nat→Bool)→(Nat→Nat)→(Nat→List Int→Option (List Int))→(Sl Mp)} {iv3:Int} {pv3:Int} {qv3:Int} {zgo:Nat} {zeD:(Nat→Bool)} {zeE:(Nat→Nat)} {zgp:(Nat→List Int→Option (List Int))} {iv4:Int} {pv4:Int} {zcz:Int} {rv4:Int} {zbl:Nat} {zbc:(Nat→Bool)} {zbd:(Nat→Nat)} {zbb:(Nat→List Int→Option (List Int))} {X4:St→Prop} {P4:Int→Int→Int→Int→Nat→(Nat→Bool)→(Nat→Nat)→(Nat→List Int→Option (List Int))→Bool} {S4:Int→Int→Int→Int→Nat→(Nat→Bool)→(Nat→Nat)→(Nat→List Int→Option (List Int))→(Sl Mp)} {iv5:Int} {pv5:Int} {zfe:Int} {rv5:Int} {kv5:Int} {zdJ:Nat} {zcJ:(Nat→Bool)} {zcK:(Nat→Nat)} {zdK:(Nat→List Int→Option (List Int))}
def zxN (S0:Int→Nat→(Nat→Bool)→(Nat→Nat)→(Nat→List Int→Option (List Int))→(Sl Mp)) (S1:Int→Int→Nat→(Nat→Bool)→(Nat→Nat)→(Nat→List Int→Option (List Int))→(Sl Mp)) (S2:Int→Int→Int→Nat→(Nat→Bool)→(Nat→Nat)→(Nat→List Int→Option (List Int))→(Sl Mp)) (S4:Int→Int→Int→Int→Nat→(Nat→Bool)→(Nat→Nat)→(Nat→List Int→Option (List Int))→(Sl Mp)) (zaa:(Sl Gate)) (qv3:Int) (iv5:Int) (pv5:Int) (zfe:Int) (rv5:Int) (kv5:Int) (zdJ:Nat) (zcJ:(Nat→Bool)) (zcK:(Nat→Nat)) (zdK:(Nat→List Int→Option (List Int))):(Sl Mp) :=
  (cond (decide (zfe < (0:Int)))
 (S4 iv5 pv5 kv5 (w64 (rv5+(1:Int))) zdJ zcJ zcK zdK)
 (cond (decide (kv5 < zfe))
 (S4 iv5 pv5 kv5 (w64 (rv5+(1:Int))) zdJ zcJ zcK zdK)
 (S4 iv5 pv5 zfe (w64 (rv5+(1:Int))) zdJ zcJ zcK zdK)))
def zxO (P0:Int→Nat→(Nat→Bool)→(Nat→Nat)→(Nat→List Int→Option (List Int))→Bool) (P1:Int→Int→Nat→(Nat→Bool)→(Nat→Nat)→(Nat→List Int→Option (List Int))→Bool) (P2:Int→Int→Int→Nat→(Nat→Bool)→(Nat→Nat)→(Nat→List Int→Option (List Int))→Bool) (P4:Int→Int→Int→Int→Nat→(Nat→Bool)→(Nat→Nat)→(Nat→List Int→Option (List Int))→Bool) (zaa:(Sl Gate)) (qv3:Int) (iv5:Int) (pv5:Int) (zfe:Int) (rv5:Int) (kv5:Int) (zdJ:Nat) (zcJ:(Nat→Bool)) (zcK:(Nat→Nat)) (zdK:(Nat→List Int→Option (List Int))):Bool :=
  (cond (decide (zfe < (0:Int)))
 (P4 iv5 pv5 kv5 (w64 (rv5+(1:Int))) zdJ zcJ zcK zdK)
 (cond (decide (kv5 < zfe))
 (P4 iv5 pv5 kv5 (w64 (rv5+(1:Int))) zdJ zcJ zcK zdK)
 (P4 iv5 pv5 zfe (w64 (rv5+(1:Int))) zdJ zcJ zcK zdK)))
theorem zFJ (hX0:zp1 K zaa X0 P0 S0) (hX1:ztE K zaa X1 P1 S1) (hX2:zxM K zaa X2 P2 S2) (hX4:zFI K zaa qv3 X4 P4 S4) (hs:zxO P0 P1 P2 P4 zaa qv3 iv5 pv5 zfe rv5 kv5 zdJ zcJ zcK zdK=true) (hk:K (e93 (zxN S0 S1 S2 S4 zaa qv3 iv5 pv5 zfe rv5 kv5 zdJ zcJ zcK zdK))):z93 K [1,1,1,0,1,0,0,1,0,0,1,1,0,0,1,0,0,1,0,0,1,0,0,1,1,0,1,0,0,1,0,0,1] [X0,X1,X2,X4] ⟨[(0,zS enc_55 3 zaa),(3,zI (zaa.len:Int)),(4,zv 15),(5,zI iv5),(6,zI pv5),(7,zI qv3),(8,zI zfe),(9,zI rv5),(10,zI kv5)],[(15,.vm 129 8 131 3 (true,2,false,[some .i64]) zdJ zcJ zcK zdK)],[]⟩:=zaw (by kernel_rfl) (zc hs hk (fun hs hk=>(hX4 hs hk)) (fun hs hk=>(zc hs hk (fun hs hk=>(hX4 hs hk)) (fun hs hk=>(hX4 hs hk)))))
def zxP (S0:Int→Nat→(Nat→Bool)→(Nat→Nat)→(Nat→List Int→Option (List Int))→(Sl Mp)) (S1:Int→Int→Nat→(Nat→Bool)→(Nat→Nat)→(Nat→List Int→Option (List Int))→(Sl Mp)) (S2:Int→Int→Int→Nat→(Nat→Bool)→(Nat→Nat)→(Nat→List Int→Option (List Int))→(Sl Mp)) (zaa:(Sl Gate)) (qv3:Int) (S4:Int→Int→Int→Int→Nat→(Nat→Bool)→(Nat→Nat)→(Nat→List Int→Option (List Int))→(Sl Mp)) (iv4:Int) (pv4:Int) (zcz:Int) (rv4:Int) (zbl:Nat) (zbc:(Nat→Bool)) (zbd:(Nat→Nat)) (zbb:(Nat→List Int→Option (List Int))):(Sl Mp) :=
  (cond (decide (rv4 ≤ (zaa.get ((w64 (iv4 + (2:Int))).toNat)).High))
 (zxN S0 S1 S2 S4 zaa qv3 iv4 pv4 zcz rv4 (if (zdP ((zbb ((w64 (iv4+(1:Int))).toNat)) [qv3,rv4]) 0) > (s85 ((zaa.get iv4.toNat).Z) ((zaa.get ((w64 (iv4+(1:Int))).toNat)).Z) ((zaa.get ((w64 (iv4+(2:Int))).toNat)).Z) pv4 qv3 rv4) then (zdP ((zbb ((w64 (iv4+(1:Int))).toNat)) [qv3,rv4]) 0) else (s85 ((zaa.get iv4.toNat).Z) ((zaa.get ((w64 (iv4+(1:Int))).toNat)).Z) ((zaa.get ((w64 (iv4+(2:Int))).toNat)).Z) pv4 qv3 rv4)) zbl zbc zbd zbb)
 (S2 iv4 pv4 (w64 (qv3+(1:Int))) zbl zbc (zcS iv4.toNat (addN ((zbb iv4.toNat) [pv4,qv3]) (zbd iv4.toNat)) zbd) (zcS iv4.toNat (zkZ [pv4,qv3] [zcz] (zbb iv4.toNat)) zbb)))
def zxQ (P0:Int→Nat→(Nat→Bool)→(Nat→Nat)→(Nat→List Int→Option (List Int))→Bool) (P1:Int→Int→Nat→(Nat→Bool)→(Nat→Nat)→(Nat→List Int→Option (List Int))→Bool) (P2:Int→Int→Int→Nat→(Nat→Bool)→(Nat→Nat)→(Nat→List Int→Option (List Int))→Bool) (zaa:(Sl Gate)) (qv3:Int) (P4:Int→Int→Int→Int→Nat→(Nat→Bool)→(Nat→Nat)→(Nat→List Int→Option (List Int))→Bool) (iv4:Int) (pv4:Int) (zcz:Int) (rv4:Int) (zbl:Nat) (zbc:(Nat→Bool)) (zbd:(Nat→Nat)) (zbb:(Nat→List Int→Option (List Int))):Bool :=
  (decide ((0≤(w64 (iv4+(2:Int)))∧(w64 (iv4+(2:Int))) < (zaa.len:Int))) &&
 (cond (decide (rv4 ≤ (zaa.get ((w64 (iv4 + (2:Int))).toNat)).High))
 (decide ((0≤iv4∧iv4 < (zaa.len:Int))) &&
 (decide ((0≤(w64 (iv4+(1:Int)))∧(w64 (iv4+(1:Int))) < (zaa.len:Int))) &&
 (decide ((0≤(w64 (iv4+(2:Int)))∧(w64 (iv4+(2:Int))) < (zaa.len:Int))) &&
 (decide ((p85 ((zaa.get iv4.toNat).Z) ((zaa.get ((w64 (iv4+(1:Int))).toNat)).Z) ((zaa.get ((w64 (iv4+(2:Int))).toNat)).Z) pv4 qv3 rv4=true)) &&
 (decide ((0≤(w64 (iv4+(1:Int)))∧(w64 (iv4+(1:Int))) < (zbl:Int))) &&
 (decide (((w64 (iv4+(1:Int))).toNat < zbl∧zbc ((w64 (iv4+(1:Int))).toNat)=true)) &&
 (decide (((w64 (iv4+(1:Int))).toNat < zbl)) &&
 (zxO P0 P1 P2 P4 zaa qv3 iv4 pv4 zcz rv4 (if (zdP ((zbb ((w64 (iv4+(1:Int))).toNat)) [qv3,rv4]) 0) > (s85 ((zaa.get iv4.toNat).Z) ((zaa.get ((w64 (iv4+(1:Int))).toNat)).Z) ((zaa.get ((w64 (iv4+(2:Int))).toNat)).Z) pv4 qv3 rv4) then (zdP ((zbb ((w64 (iv4+(1:Int))).toNat)) [qv3,rv4]) 0) else (s85 ((zaa.get iv4.toNat).Z) ((zaa.get ((w64 (iv4+(1:Int))).toNat)).Z) ((zaa.get ((w64 (iv4+(2:Int))).toNat)).Z) pv4 qv3 rv4)) zbl zbc zbd zbb))))))))
 (decide ((0≤iv4∧iv4 < (zbl:Int))) &&
 (decide ((iv4.toNat < zbl∧zbc iv4.toNat=true)) &&
 (decide ((iv4.toNat < zbl)) &&
 (P2 iv4 pv4 (w64 (qv3+(1:Int))) zbl zbc (zcS iv4.toNat (addN ((zbb iv4.toNat) [pv4,qv3]) (zbd iv4.toNat)) zbd) (zcS iv4.toNat (zkZ [pv4,qv3] [zcz] (zbb iv4.toNat)) zbb)))))))
def zxR (S0:Int→Nat→(Nat→Bool)→(Nat→Nat)→(Nat→List Int→Option (List Int))→(Sl Mp)) (S1:Int→Int→Nat→(Nat→Bool)→(Nat→Nat)→(Nat→List Int→Option (List Int))→(Sl Mp)) (S2:Int→Int→Int→Nat→(Nat→Bool)→(Nat→Nat)→(Nat→List Int→Option (List Int))→(Sl Mp)) (zaa:(Sl Gate)) (qv3:Int):Nat→Int→Int→Int→Int→Nat→(Nat→Bool)→(Nat→Nat)→(Nat→List Int→Option (List Int))→(Sl Mp):=lpO (fun _ _ _ _ _ _ _ _=>default) (zxP S0 S1 S2 zaa qv3)
def zxS (P0:Int→Nat→(Nat→Bool)→(Nat→Nat)→(Nat→List Int→Option (List Int))→Bool) (P1:Int→Int→Nat→(Nat→Bool)→(Nat→Nat)→(Nat→List Int→Option (List Int))→Bool) (P2:Int→Int→Int→Nat→(Nat→Bool)→(Nat→Nat)→(Nat→List Int→Option (List Int))→Bool) (zaa:(Sl Gate)) (qv3:Int):Nat→Int→Int→Int→Int→Nat→(Nat→Bool)→(Nat→Nat)→(Nat→List Int→Option (List Int))→Bool:=lpO (fun _ _ _ _ _ _ _ _=>false) (zxQ P0 P1 P2 zaa qv3)
def zxT (S0:Int→Nat→(Nat→Bool)→(Nat→Nat)→(Nat→List Int→Option (List Int))→(Sl Mp)) (S1:Int→Int→Nat→(Nat→Bool)→(Nat→Nat)→(Nat→List Int→Option (List Int))→(Sl Mp)) (S2:Int→Int→Int→Nat→(Nat→Bool)→(Nat→Nat)→(Nat→List Int→Option (List Int))→(Sl Mp)) (zaa:(Sl Gate)) (qv3:Int) (iv4:Int) (pv4:Int) (zcz:Int) (rv4:Int) (zbl:Nat) (zbc:(Nat→Bool)) (zbd:(Nat→Nat)) (zbb:(Nat→List Int→Option (List Int))):(Sl Mp):=zxR S0 S1 S2 zaa qv3 Fuel iv4 pv4 zcz rv4 zbl zbc zbd zbb
def zxU (P0:Int→Nat→(Nat→Bool)→(Nat→Nat)→(Nat→List Int→Option (List Int))→Bool) (P1:Int→Int→Nat→(Nat→Bool)→(Nat→Nat)→(Nat→List Int→Option (List Int))→Bool) (P2:Int→Int→Int→Nat→(Nat→Bool)→(Nat→Nat)→(Nat→List Int→Option (List Int))→Bool) (zaa:(Sl Gate)) (qv3:Int) (iv4:Int) (pv4:Int) (zcz:Int) (rv4:Int) (zbl:Nat) (zbc:(Nat→Bool)) (zbd:(Nat→Nat)) (zbb:(Nat→List Int→Option (List Int))):Bool:=zxS P0 P1 P2 zaa qv3 Fuel iv4 pv4 zcz rv4 zbl zbc zbd zbb
theorem zFK (hX0:zp1 K zaa X0 P0 S0) (hX1:ztE K zaa X1 P1 S1) (hX2:zxM K zaa X2 P2 S2) (hs:zxU P0 P1 P2 zaa qv3 iv4 pv4 zcz rv4 zbl zbc zbd zbb=true) (hk:K (e93 (zxT S0 S1 S2 zaa qv3 iv4 pv4 zcz rv4 zbl zbc zbd zbb))):z93 K [1,1,1,0,1,0,0,1,0,0,1,1,0,0,1,0,0,1,0,0,1,0,0,1,1,0,1,0] [X0,X1,X2] (zCN zaa qv3 iv4 pv4 zcz rv4 zbl zbc zbd zbb) :=
  zl (fun X=>z93 K [1,1,1,0,1,0,0,1,0,0,1,1,0,0,1,0,0,1,0,0,1,0,0,1,1,0,1,0,0] [X0,X1,X2,X]) (by kernel_rfl) fun X4 hX =>
  (show ∀ k, zFI K zaa qv3 X4 (zxS P0 P1 P2 zaa qv3 k) (zxR S0 S1 S2 zaa qv3 k) from zet _ _ (zxQ P0 P1 P2 zaa qv3) (zxP S0 S1 S2 zaa qv3) (zFI K zaa qv3 X4)
 (by intro _ _ _ _ _ _ _ _ hs;exact absurd hs Bool.false_ne_true)
 (by intro P4 S4 hX4 iv4 pv4 zcz rv4 zbl zbc zbd zbb hs hk;exact hX _ (zaw (by kernel_rfl) (zau hs fun hc hs=>And.intro hc (zc hs hk (fun hs hk=>(zau hs fun hc hs=>And.intro hc (zau hs fun hc hs=>And.intro hc (zau hs fun hc hs=>And.intro hc (zau hs fun hc hs=>And.intro hc (zau hs fun hc hs=>And.intro hc (zau hs fun hc hs=>And.intro hc (zau hs fun hc hs=>And.intro hc (zFJ hX0 hX1 hX2 hX4 hs hk))))))))) (fun hs hk=>(zau hs fun hc hs=>And.intro hc (zau hs fun hc hs=>And.intro hc (zau hs fun hc hs=>And.intro hc (hX2 hs hk)))))))))) _ hs hk
def zxV (S0:Int→Nat→(Nat→Bool)→(Nat→Nat)→(Nat→List Int→Option (List Int))→(Sl Mp)) (S1:Int→Int→Nat→(Nat→Bool)→(Nat→Nat)→(Nat→List Int→Option (List Int))→(Sl Mp)) (S2:Int→Int→Int→Nat→(Nat→Bool)→(Nat→Nat)→(Nat→List Int→Option (List Int))→(Sl Mp)) (zaa:(Sl Gate)) (iv3:Int) (pv3:Int) (qv3:Int) (zgo:Nat) (zeD:(Nat→Bool)) (zeE:(Nat→Nat)) (zgp:(Nat→List Int→Option (List Int))):(Sl Mp) :=
  (zxT S0 S1 S2 zaa qv3 iv3 pv3 (-1:Int) ((zaa.get ((w64 (iv3+(2:Int))).toNat)).Low) zgo zeD zeE zgp)
def zxW (P0:Int→Nat→(Nat→Bool)→(Nat→Nat)→(Nat→List Int→Option (List Int))→Bool) (P1:Int→Int→Nat→(Nat→Bool)→(Nat→Nat)→(Nat→List Int→Option (List Int))→Bool) (P2:Int→Int→Int→Nat→(Nat→Bool)→(Nat→Nat)→(Nat→List Int→Option (List Int))→Bool) (zaa:(Sl Gate)) (iv3:Int) (pv3:Int) (qv3:Int) (zgo:Nat) (zeD:(Nat→Bool)) (zeE:(Nat→Nat)) (zgp:(Nat→List Int→Option (List Int))):Bool :=
  (decide ((0≤(w64 (iv3+(2:Int)))∧(w64 (iv3+(2:Int))) < (zaa.len:Int))) &&
 (zxU P0 P1 P2 zaa qv3 iv3 pv3 (-1:Int) ((zaa.get ((w64 (iv3+(2:Int))).toNat)).Low) zgo zeD zeE zgp))
theorem zFL (hX0:zp1 K zaa X0 P0 S0) (hX1:ztE K zaa X1 P1 S1) (hX2:zxM K zaa X2 P2 S2) (hs:zxW P0 P1 P2 zaa iv3 pv3 qv3 zgo zeD zeE zgp=true) (hk:K (e93 (zxV S0 S1 S2 zaa iv3 pv3 qv3 zgo zeD zeE zgp))):z93 K [1,1,1,0,1,0,0,1,0,0,1,1,0,0,1,0,0,1,0,0,1,0,0,1] [X0,X1,X2] ⟨[(0,zS enc_55 3 zaa),(3,zI (zaa.len:Int)),(4,zv 15),(5,zI iv3),(6,zI pv3),(7,zI qv3)],[(15,.vm 129 8 131 3 (true,2,false,[some .i64]) zgo zeD zeE zgp)],[]⟩:=zaw (by kernel_rfl) (zau hs fun hc hs=>And.intro hc (zFK hX0 hX1 hX2 hs hk))
def zxX (S0:Int→Nat→(Nat→Bool)→(Nat→Nat)→(Nat→List Int→Option (List Int))→(Sl Mp)) (S1:Int→Int→Nat→(Nat→Bool)→(Nat→Nat)→(Nat→List Int→Option (List Int))→(Sl Mp)) (zaa:(Sl Gate)) (S2:Int→Int→Int→Nat→(Nat→Bool)→(Nat→Nat)→(Nat→List Int→Option (List Int))→(Sl Mp)) (iv2:Int) (pv2:Int) (qv2:Int) (zbw:Nat) (za8:(Nat→Bool)) (za1:(Nat→Nat)) (zbk:(Nat→List Int→Option (List Int))):(Sl Mp) :=
  (cond (decide (qv2 ≤ (zaa.get ((w64 (iv2 + (1:Int))).toNat)).High))
 (cond (iv2 == (w64 ((zaa.len : Int) - (2:Int))))
 (S2 iv2 pv2 (w64 (qv2+(1:Int))) zbw za8 (zcS iv2.toNat (addN ((zbk iv2.toNat) [pv2,qv2]) (za1 iv2.toNat)) za1) (zcS iv2.toNat (zkZ [pv2,qv2] [(0:Int)] (zbk iv2.toNat)) zbk))
 (zxV S0 S1 S2 zaa iv2 pv2 qv2 zbw za8 za1 zbk))
 (S1 iv2 (w64 (pv2+(1:Int))) zbw za8 za1 zbk))
def zxY (P0:Int→Nat→(Nat→Bool)→(Nat→Nat)→(Nat→List Int→Option (List Int))→Bool) (P1:Int→Int→Nat→(Nat→Bool)→(Nat→Nat)→(Nat→List Int→Option (List Int))→Bool) (zaa:(Sl Gate)) (P2:Int→Int→Int→Nat→(Nat→Bool)→(Nat→Nat)→(Nat→List Int→Option (List Int))→Bool) (iv2:Int) (pv2:Int) (qv2:Int) (zbw:Nat) (za8:(Nat→Bool)) (za1:(Nat→Nat)) (zbk:(Nat→List Int→Option (List Int))):Bool :=
  (decide ((0≤(w64 (iv2+(1:Int)))∧(w64 (iv2+(1:Int))) < (zaa.len:Int))) &&
 (cond (decide (qv2 ≤ (zaa.get ((w64 (iv2 + (1:Int))).toNat)).High))
 (cond (iv2 == (w64 ((zaa.len : Int) - (2:Int))))
 (decide ((0≤iv2∧iv2 < (zbw:Int))) &&
 (decide ((iv2.toNat < zbw∧za8 iv2.toNat=true)) &&
 (decide ((iv2.toNat < zbw)) &&
 (P2 iv2 pv2 (w64 (qv2+(1:Int))) zbw za8 (zcS iv2.toNat (addN ((zbk iv2.toNat) [pv2,qv2]) (za1 iv2.toNat)) za1) (zcS iv2.toNat (zkZ [pv2,qv2] [(0:Int)] (zbk iv2.toNat)) zbk)))))
 (zxW P0 P1 P2 zaa iv2 pv2 qv2 zbw za8 za1 zbk))
 (P1 iv2 (w64 (pv2+(1:Int))) zbw za8 za1 zbk)))
def zxZ (S0:Int→Nat→(Nat→Bool)→(Nat→Nat)→(Nat→List Int→Option (List Int))→(Sl Mp)) (S1:Int→Int→Nat→(Nat→Bool)→(Nat→Nat)→(Nat→List Int→Option (List Int))→(Sl Mp)) (zaa:(Sl Gate)):Nat→Int→Int→Int→Nat→(Nat→Bool)→(Nat→Nat)→(Nat→List Int→Option (List Int))→(Sl Mp):=lpO (fun _ _ _ _ _ _ _=>default) (zxX S0 S1 zaa)
def zx0 (P0:Int→Nat→(Nat→Bool)→(Nat→Nat)→(Nat→List Int→Option (List Int))→Bool) (P1:Int→Int→Nat→(Nat→Bool)→(Nat→Nat)→(Nat→List Int→Option (List Int))→Bool) (zaa:(Sl Gate)):Nat→Int→Int→Int→Nat→(Nat→Bool)→(Nat→Nat)→(Nat→List Int→Option (List Int))→Bool:=lpO (fun _ _ _ _ _ _ _=>false) (zxY P0 P1 zaa)
def zx1 (S0:Int→Nat→(Nat→Bool)→(Nat→Nat)→(Nat→List Int→Option (List Int))→(Sl Mp)) (S1:Int→Int→Nat→(Nat→Bool)→(Nat→Nat)→(Nat→List Int→Option (List Int))→(Sl Mp)) (zaa:(Sl Gate)) (iv2:Int) (pv2:Int) (qv2:Int) (zbw:Nat) (za8:(Nat→Bool)) (za1:(Nat→Nat)) (zbk:(Nat→List Int→Option (List Int))):(Sl Mp):=zxZ S0 S1 zaa Fuel iv2 pv2 qv2 zbw za8 za1 zbk
def zx2 (P0:Int→Nat→(Nat→Bool)→(Nat→Nat)→(Nat→List Int→Option (List Int))→Bool) (P1:Int→Int→Nat→(Nat→Bool)→(Nat→Nat)→(Nat→List Int→Option (List Int))→Bool) (zaa:(Sl Gate)) (iv2:Int) (pv2:Int) (qv2:Int) (zbw:Nat) (za8:(Nat→Bool)) (za1:(Nat→Nat)) (zbk:(Nat→List Int→Option (List Int))):Bool:=zx0 P0 P1 zaa Fuel iv2 pv2 qv2 zbw za8 za1 zbk
theorem zFM (hX0:zp1 K zaa X0 P0 S0) (hX1:ztE K zaa X1 P1 S1) (hs:zx2 P0 P1 zaa iv2 pv2 qv2 zbw za8 za1 zbk=true) (hk:K (e93 (zx1 S0 S1 zaa iv2 pv2 qv2 zbw za8 za1 zbk))):z93 K [1,1,1,0,1,0,0,1,0,0,1,1,0,0,1,0,0,1,0] [X0,X1] (zCM zaa iv2 pv2 qv2 zbw za8 za1 zbk) :=
  zl (fun X=>z93 K [1,1,1,0,1,0,0,1,0,0,1,1,0,0,1,0,0,1,0,0] [X0,X1,X]) (by kernel_rfl) fun X2 hX =>
  (show ∀ k, zxM K zaa X2 (zx0 P0 P1 zaa k) (zxZ S0 S1 zaa k) from zet _ _ (zxY P0 P1 zaa) (zxX S0 S1 zaa) (zxM K zaa X2)
 (by intro _ _ _ _ _ _ _ hs;exact absurd hs Bool.false_ne_true)
 (by intro P2 S2 hX2 iv2 pv2 qv2 zbw za8 za1 zbk hs hk;exact hX _ (zaw (by kernel_rfl) (zau hs fun hc hs=>And.intro hc (zc hs hk (fun hs hk=>(zc hs hk (fun hs hk=>(zau hs fun hc hs=>And.intro hc (zau hs fun hc hs=>And.intro hc (zau hs fun hc hs=>And.intro hc (hX2 hs hk))))) (fun hs hk=>(zFL hX0 hX1 hX2 hs hk)))) (fun hs hk=>(hX1 hs hk))))))) _ hs hk
def zx3 (S0:Int→Nat→(Nat→Bool)→(Nat→Nat)→(Nat→List Int→Option (List Int))→(Sl Mp)) (zaa:(Sl Gate)) (S1:Int→Int→Nat→(Nat→Bool)→(Nat→Nat)→(Nat→List Int→Option (List Int))→(Sl Mp)) (iv1:Int) (pv1:Int) (zbP:Nat) (zbu:(Nat→Bool)) (zbv:(Nat→Nat)) (zbQ:(Nat→List Int→Option (List Int))):(Sl Mp) :=
  (cond (decide (pv1 ≤ (zaa.get iv1.toNat).High))
 (zx1 S0 S1 zaa iv1 pv1 ((zaa.get ((w64 (iv1+(1:Int))).toNat)).Low) zbP zbu zbv zbQ)
 (S0 (w64 (iv1 - (1:Int))) zbP zbu zbv zbQ))
def zx4 (P0:Int→Nat→(Nat→Bool)→(Nat→Nat)→(Nat→List Int→Option (List Int))→Bool) (zaa:(Sl Gate)) (P1:Int→Int→Nat→(Nat→Bool)→(Nat→Nat)→(Nat→List Int→Option (List Int))→Bool) (iv1:Int) (pv1:Int) (zbP:Nat) (zbu:(Nat→Bool)) (zbv:(Nat→Nat)) (zbQ:(Nat→List Int→Option (List Int))):Bool :=
  (decide ((0≤iv1∧iv1 < (zaa.len:Int))) &&
 (cond (decide (pv1 ≤ (zaa.get iv1.toNat).High))
 (decide ((0≤(w64 (iv1+(1:Int)))∧(w64 (iv1+(1:Int))) < (zaa.len:Int))) &&
 (zx2 P0 P1 zaa iv1 pv1 ((zaa.get ((w64 (iv1+(1:Int))).toNat)).Low) zbP zbu zbv zbQ))
 (P0 (w64 (iv1 - (1:Int))) zbP zbu zbv zbQ)))
def zx5 (S0:Int→Nat→(Nat→Bool)→(Nat→Nat)→(Nat→List Int→Option (List Int))→(Sl Mp)) (zaa:(Sl Gate)):Nat→Int→Int→Nat→(Nat→Bool)→(Nat→Nat)→(Nat→List Int→Option (List Int))→(Sl Mp):=lpO (fun _ _ _ _ _ _=>default) (zx3 S0 zaa)
def zx6 (P0:Int→Nat→(Nat→Bool)→(Nat→Nat)→(Nat→List Int→Option (List Int))→Bool) (zaa:(Sl Gate)):Nat→Int→Int→Nat→(Nat→Bool)→(Nat→Nat)→(Nat→List Int→Option (List Int))→Bool:=lpO (fun _ _ _ _ _ _=>false) (zx4 P0 zaa)
def zx7 (S0:Int→Nat→(Nat→Bool)→(Nat→Nat)→(Nat→List Int→Option (List Int))→(Sl Mp)) (zaa:(Sl Gate)) (iv1:Int) (pv1:Int) (zbP:Nat) (zbu:(Nat→Bool)) (zbv:(Nat→Nat)) (zbQ:(Nat→List Int→Option (List Int))):(Sl Mp):=zx5 S0 zaa Fuel iv1 pv1 zbP zbu zbv zbQ
def zx8 (P0:Int→Nat→(Nat→Bool)→(Nat→Nat)→(Nat→List Int→Option (List Int))→Bool) (zaa:(Sl Gate)) (iv1:Int) (pv1:Int) (zbP:Nat) (zbu:(Nat→Bool)) (zbv:(Nat→Nat)) (zbQ:(Nat→List Int→Option (List Int))):Bool:=zx6 P0 zaa Fuel iv1 pv1 zbP zbu zbv zbQ
theorem zFN (hX0:zp1 K zaa X0 P0 S0) (hs:zx8 P0 zaa iv1 pv1 zbP zbu zbv zbQ=true) (hk:K (e93 (zx7 S0 zaa iv1 pv1 zbP zbu zbv zbQ))):z93 K [1,1,1,0,1,0,0,1,0,0,1,1,0] [X0] (zCL zaa iv1 pv1 zbP zbu zbv zbQ) :=
  zl (fun X=>z93 K [1,1,1,0,1,0,0,1,0,0,1,1,0,0] [X0,X]) (by kernel_rfl) fun X1 hX =>
  (show ∀ k, ztE K zaa X1 (zx6 P0 zaa k) (zx5 S0 zaa k) from zet _ _ (zx4 P0 zaa) (zx3 S0 zaa) (ztE K zaa X1)
 (by intro _ _ _ _ _ _ hs;exact absurd hs Bool.false_ne_true)
 (by intro P1 S1 hX1 iv1 pv1 zbP zbu zbv zbQ hs hk;exact hX _ (zaw (by kernel_rfl) (zau hs fun hc hs=>And.intro hc (zc hs hk (fun hs hk=>(zau hs fun hc hs=>And.intro hc (zFM hX0 hX1 hs hk))) (fun hs hk=>(hX0 hs hk))))))) _ hs hk
def zx9 (zaa:(Sl Gate)) (S0:Int→Nat→(Nat→Bool)→(Nat→Nat)→(Nat→List Int→Option (List Int))→(Sl Mp)) (iv0:Int) (zbM:Nat) (zbB:(Nat→Bool)) (zbC:(Nat→Nat)) (zbX:(Nat→List Int→Option (List Int))):(Sl Mp) :=
  (cond (decide (iv0 ≥ (0:Int)))
 (zx7 S0 zaa iv0 ((zaa.get iv0.toNat).Low) zbM (zcS iv0.toNat true zbB) (zcS iv0.toNat 0 zbC) (zcS iv0.toNat (fun _=>none) zbX))
 (⟨zbM,(fun i=>(⟨zbC i,zbX i⟩:Mp))⟩:(Sl Mp)))
def zya (zaa:(Sl Gate)) (P0:Int→Nat→(Nat→Bool)→(Nat→Nat)→(Nat→List Int→Option (List Int))→Bool) (iv0:Int) (zbM:Nat) (zbB:(Nat→Bool)) (zbC:(Nat→Nat)) (zbX:(Nat→List Int→Option (List Int))):Bool :=
  (cond (decide (iv0 ≥ (0:Int)))
 (decide ((0≤iv0∧iv0 < (zbM:Int))) &&
 (decide ((iv0.toNat < zbM∧zbB iv0.toNat=false)) &&
 (decide ((0≤iv0∧iv0 < (zaa.len:Int))) &&
 (zx8 P0 zaa iv0 ((zaa.get iv0.toNat).Low) zbM (zcS iv0.toNat true zbB) (zcS iv0.toNat 0 zbC) (zcS iv0.toNat (fun _=>none) zbX)))))
 true)
def zyb (zaa:(Sl Gate)):Nat→Int→Nat→(Nat→Bool)→(Nat→Nat)→(Nat→List Int→Option (List Int))→(Sl Mp):=lpO (fun _ _ _ _ _=>default) (zx9 zaa)
def zyc (zaa:(Sl Gate)):Nat→Int→Nat→(Nat→Bool)→(Nat→Nat)→(Nat→List Int→Option (List Int))→Bool:=lpO (fun _ _ _ _ _=>false) (zya zaa)
def zyd (zaa:(Sl Gate)) (iv0:Int) (zbM:Nat) (zbB:(Nat→Bool)) (zbC:(Nat→Nat)) (zbX:(Nat→List Int→Option (List Int))):(Sl Mp):=zyb zaa Fuel iv0 zbM zbB zbC zbX
def zye (zaa:(Sl Gate)) (iv0:Int) (zbM:Nat) (zbB:(Nat→Bool)) (zbC:(Nat→Nat)) (zbX:(Nat→List Int→Option (List Int))):Bool:=zyc zaa Fuel iv0 zbM zbB zbC zbX
theorem zFO (hs:zye zaa iv0 zbM zbB zbC zbX=true) (hk:K (e93 (zyd zaa iv0 zbM zbB zbC zbX))):z93 K [1,1,1,0,1,0] [] (zCK zaa iv0 zbM zbB zbC zbX) :=
  zl (fun X=>z93 K [1,1,1,0,1,0,0] [X]) (by kernel_rfl) fun X0 hX =>
  (show ∀ k, zp1 K zaa X0 (zyc zaa k) (zyb zaa k) from zet _ _ (zya zaa) (zx9 zaa) (zp1 K zaa X0)
 (by intro _ _ _ _ _ hs;exact absurd hs Bool.false_ne_true)
 (by intro P0 S0 hX0 iv0 zbM zbB zbC zbX hs hk;exact hX _ (zaw (by kernel_rfl) (zc hs hk (fun hs hk=>(zau hs fun hc hs=>And.intro hc (zau hs fun hc hs=>And.intro hc (zau hs fun hc hs=>And.intro hc (zFN hX0 hs hk))))) (fun hs hk=>hk))))) _ hs hk
def s93 (zaa:(Sl Gate)):(Sl Mp) :=
  (zyd zaa (w64 ((zaa.len:Int) - (2:Int))) ((w64 ((zaa.len:Int) - (1:Int))).toNat) (fun _=>false) (fun _=>0) (fun _ _=>none))
def p93 (zaa:(Sl Gate)):Bool :=
  (decide ((0≤(w64 ((zaa.len:Int) - (1:Int)))∧(w64 ((zaa.len:Int) - (1:Int)))=(w64 ((zaa.len:Int) - (1:Int)))∧(w64 ((zaa.len:Int) - (1:Int)))≤1000000)) &&
 (zye zaa (w64 ((zaa.len:Int) - (2:Int))) ((w64 ((zaa.len:Int) - (1:Int))).toNat) (fun _=>false) (fun _=>0) (fun _ _=>none)))
end
theorem q93 (zaa:(Sl Gate)) (K:List PA→Prop) (hs:p93 zaa=true) (hk:K (e93 (s93 zaa))):vcFun Try.prog G93 zFH 93 [.one (.sl zaa.len 3 (fun i=>enc_55 (zaa.get i)))] K :=
  zaw (by kernel_rfl) (zau hs fun hc hs=>And.intro hc (zFO hs hk))
def zFP : List PA → COut
  | [.one (.sl a0_n a0_s a0_g)]=>.det (IsE enc_55 3 a0_s a0_g∧p93 (⟨a0_n,zae a0_g⟩:(Sl Gate))=true) [.one (.sl ((s93 (⟨a0_n,zae a0_g⟩:(Sl Gate))).len) 1 (fun i=>zcF ((s93 (⟨a0_n,zae a0_g⟩:(Sl Gate))).get i)))]
  | _=>.no
theorem zJK:zaf Try.prog 93:=⟨_,rfl,rfl,by kernel_rfl⟩
theorem zPC:Ok Try.prog 93 zFP:=zay zMz zJK fun args K h=>by
  unfold zFP at h
  split at h
  · rename_i a0_n a0_s a0_g
    obtain ⟨⟨⟨rfl,a0_f,rfl⟩,hs⟩,hk⟩:=h
    try rw [zac a0_f] at hs
    try rw [zac a0_f] at hk
    exact ⟨(fun _ _=>[]),(fun l=>Nat.beq l 15 || Nat.beq l 24),zFH,q93 (⟨a0_n,a0_f⟩:(Sl Gate)) K hs hk⟩
  · exact h.elim
def zNY (a b:Int):List Int:=(List.range (b - a+1).toNat).map fun (i:Nat)=>a+i
def zob (zaa:Sl Gate):List (List Int):=(zNY (zaa.get 0).Low (zaa.get 0).High).flatMap fun p=>(zNY (zaa.get 1).Low (zaa.get 1).High).map fun q=>[p,q]
abbrev T55:Tabs:=(((Tabs.nil.addF 85 zBr).addF 92 zFG).addF 93 zFP)
theorem zMA:TabsOk Try.prog T55:=(((TabsOk.nil.addF zNX).addF zPB).addF zPC)
abbrev G55:Ctrs:=csm T55 (fun _ _=>[]) (fun _=>false)
def zaV:Ann:=⟨145,[(0,⟨[0],[],[],[],[],[],[]⟩),(1,⟨[0,18],[],[],[],[],[],[]⟩),(2,⟨[2,3,4],[],[],[],[],[],[]⟩),(3,⟨[0,5],[],[],[],[],[],[]⟩),(4,⟨[0,5,6],[],[],[],[],[],[]⟩),(5,⟨[0,5,6,24],[24],[],[],[],[],[]⟩),(6,⟨[0,5,6,24,26],[24],[],[],[],[],[]⟩),(7,⟨[0,5,6,8,24],[24],[],[],[],[],[]⟩),(8,⟨[0,5,6,8,24,35],[24],[],[],[],[],[]⟩),(9,⟨[0,5,6,24],[24],[],[],[],[],[]⟩),(10,⟨[0,5,6,9],[],[],[],[],[],[]⟩),(11,⟨[0,5,6,9,10],[],[],[],[],[],[]⟩),(12,⟨[0,5,6,9,10,46],[],[],[],[],[],[]⟩),(13,⟨[0,5,6,9,10],[],[],[],[],[],[]⟩),(14,⟨[0,5,6,9,10,11],[],[],[],[],[],[]⟩),(15,⟨[0,5,6,9,10,11,58],[],[],[],[],[],[]⟩),(16,⟨[0,5,6,9,10,11],[],[],[],[],[],[]⟩),(17,⟨[0,5,6,9,10,11,69],[],[],[],[],[],[]⟩),(18,⟨[0,5,6,9],[72],[],[],[],[],[]⟩),(19,⟨[0,5,6,9,12],[72],[],[],[],[],[]⟩),(20,⟨[0,5,6,9,12,76],[72],[],[],[],[],[]⟩),(21,⟨[0,5,6,9,12],[72],[],[],[],[],[]⟩),(22,⟨[0,5,6,9,12,13,14],[72],[],[],[],[],[]⟩),(23,⟨[0,5,6,9,12,13,14,15],[72],[],[],[],[],[]⟩),(24,⟨[0,5,6,9,12,13,14,15,100],[72],[],[],[],[],[]⟩),(25,⟨[0,5,6,9,12,13,14,15],[72],[],[],[],[],[]⟩),(26,⟨[0,5,6,9,12,13,14,15,138],[72],[],[],[],[],[]⟩),(27,⟨[0,5,6,9,12],[72],[],[],[],[],[]⟩),(28,⟨[2,3,4],[72],[],[],[],[],[]⟩)],
 [(6,⟨[0,5,6,24],[24],[],[],[],[],[]⟩),(12,⟨[0,5,6,9,10],[],[],[],[],[],[]⟩),(15,⟨[0,5,6,9,10,11],[],[],[],[],[],[]⟩),(20,⟨[0,5,6,9,12],[72],[],[],[],[],[]⟩),(24,⟨[0,5,6,9,12,13,14,15],[72],[],[],[],[],[]⟩)],
 [(2,⟨[0,18],[],[],[],[],[],[]⟩),(3,⟨[0],[],[],[],[],[],[]⟩),(4,⟨[0,5],[],[],[],[],[],[]⟩),(10,⟨[0,5,6],[],[],[],[],[],[]⟩),(19,⟨[0,5,6,9],[72],[(9,72,3,fun _=>zal default)],[],[],[],[]⟩),(27,⟨[0,5,6,9,12,13,14,15,138],[72],[],[],[],[],[]⟩)],
 [],[]⟩
def zJL (zaa:(Sl Gate)) (zgq:Bool):St:=⟨[(0,.one (.c (.p (.sl zaa.len 3 (fun i=>enc_55 (zaa.get i)))))),(18,.one (.c (.p (.bool zgq))))],[],[]⟩
def zmC (K:List PA→Prop) (zaa:(Sl Gate)) (zgq:Bool):Prop:=vc Try.prog G55 zaV (cdF Try.f55 [1,0,0,1]) (sqK Try.prog G55 zaV (cdF Try.f55 [1,0,1]) (zcb (zcq Try.prog Try.f55 K))) (zJL zaa zgq)
def zJM (zaa:(Sl Gate)):St:=⟨[(0,.one (.c (.p (.sl zaa.len 3 (fun i=>enc_55 (zaa.get i))))))],[],[]⟩
def zmD (K:List PA→Prop) (zaa:(Sl Gate)):Prop:=vc Try.prog G55 zaV (cdF Try.f55 [1,0,1]) (zcb (zcq Try.prog Try.f55 K)) (zJM zaa)
def zJN (zaa:(Sl Gate)) (zj8:Nat) (zeg:Nat→List PV):St:=⟨[(0,.one (.c (.p (.sl zaa.len 3 (fun i=>enc_55 (zaa.get i)))))),(5,.one (.c (.p (.sl zj8 1 zeg))))],[],[]⟩
def zmE (K:List PA→Prop) (zaa:(Sl Gate)) (zj8:Nat) (zeg:Nat→List PV):Prop:=vc Try.prog G55 zaV (cdF Try.f55 [1,0,1,1]) (zcb (zcq Try.prog Try.f55 K)) (zJN zaa zj8 zeg)
def zg4 (zaa:(Sl Gate)) (zab:(Sl Mp)) (zbe:(List (List Int))) (zaB:Int):St:=⟨[(0,.one (.c (.p (.sl zaa.len 3 (fun i=>enc_55 (zaa.get i)))))),(5,.one (.c (.p (.sl zab.len 1 (fun i=>zcF (zab.get i)))))),(6,.one (.c (.p (.int .i64 zaB)))),(24,.one (.c (.ptr 24 0)))],[(24,.mit (true,2,false,[some .i64]) ((zab.get 0).n) ((zab.get 0).F) zbe)],[]⟩
def zj9 (K:List PA→Prop) (zaa:(Sl Gate)) (zab:(Sl Mp)) (zbe:(List (List Int))) (zaB:Int):Prop:=vc Try.prog G55 zaV (cdF Try.f55 [1,0,1,1,1,0,1,0]) (za2 0 (sqK Try.prog G55 zaV (cdF Try.f55 [1,0,1,1,1,1]) (zcb (zcq Try.prog Try.f55 K)))) (zg4 zaa zab zbe zaB)
def zJO (zaa:(Sl Gate)) (zab:(Sl Mp)) (zdi:Int):St:=⟨[(0,.one (.c (.p (.sl zaa.len 3 (fun i=>enc_55 (zaa.get i)))))),(5,.one (.c (.p (.sl zab.len 1 (fun i=>zcF (zab.get i)))))),(6,.one (.c (.p (.int .i64 zdi))))],[],[]⟩
def zmF (K:List PA→Prop) (zaa:(Sl Gate)) (zab:(Sl Mp)) (zdi:Int):Prop:=vc Try.prog G55 zaV (cdF Try.f55 [1,0,1,1,1,1]) (zcb (zcq Try.prog Try.f55 K)) (zJO zaa zab zdi)
def ziv (zaa:(Sl Gate)) (zab:(Sl Mp)) (zaQ:Int) (pv5:Int):St:=⟨[(0,.one (.c (.p (.sl zaa.len 3 (fun i=>enc_55 (zaa.get i)))))),(5,.one (.c (.p (.sl zab.len 1 (fun i=>zcF (zab.get i)))))),(6,.one (.c (.p (.int .i64 zaQ)))),(9,.one (.c (.p (.nils)))),(10,.one (.c (.p (.int .i64 pv5))))],[],[]⟩
def zka (K:List PA→Prop) (zaa:(Sl Gate)) (zab:(Sl Mp)) (zaQ:Int) (pv5:Int):Prop:=vc Try.prog G55 zaV (cdF Try.f55 [1,0,1,1,1,1,1,1,0,1,0]) (za2 2 (sqK Try.prog G55 zaV (cdF Try.f55 [1,0,1,1,1,1,1,1,1]) (zcb (zcq Try.prog Try.f55 K)))) (ziv zaa zab zaQ pv5)
def zkb (zaa:(Sl Gate)) (zab:(Sl Mp)) (zaL:Int) (pv6:Int) (qv6:Int):St:=⟨[(0,.one (.c (.p (.sl zaa.len 3 (fun i=>enc_55 (zaa.get i)))))),(5,.one (.c (.p (.sl zab.len 1 (fun i=>zcF (zab.get i)))))),(6,.one (.c (.p (.int .i64 zaL)))),(9,.one (.c (.p (.nils)))),(10,.one (.c (.p (.int .i64 pv6)))),(11,.one (.c (.p (.int .i64 qv6))))],[],[]⟩
def zkc (K:List PA→Prop) (X5:St→Prop) (zaa:(Sl Gate)) (zab:(Sl Mp)) (zaL:Int) (pv6:Int) (qv6:Int):Prop:=vc Try.prog G55 zaV (cdF Try.f55 [1,0,1,1,1,1,1,1,0,1,0,0,1,0,0,1,0]) (za2 4 (za2 3 (sqK Try.prog G55 zaV (cdF Try.f55 [1,0,1,1,1,1,1,1,0,1,0,0,1,1]) (zdU Try.prog zaV 12 X5 (za2 2 (sqK Try.prog G55 zaV (cdF Try.f55 [1,0,1,1,1,1,1,1,1]) (zcb (zcq Try.prog Try.f55 K)))))))) (zkb zaa zab zaL pv6 qv6)
def zJP (zaa:(Sl Gate)) (zab:(Sl Mp)) (zdj:Int) (zp2:Nat) (zhF:Nat→List PV):St:=⟨[(0,.one (.c (.p (.sl zaa.len 3 (fun i=>enc_55 (zaa.get i)))))),(5,.one (.c (.p (.sl zab.len 1 (fun i=>zcF (zab.get i)))))),(6,.one (.c (.p (.int .i64 zdj)))),(9,.one (.c (.vec 72)))],[(72,.vec 3 1 8 zp2 zhF)],[]⟩
def zkd (K:List PA→Prop) (zaa:(Sl Gate)) (zab:(Sl Mp)) (zdj:Int) (zp2:Nat) (zhF:Nat→List PV):Prop:=vc Try.prog G55 zaV (cdF Try.f55 [1,0,1,1,1,1,1,1,1]) (zcb (zcq Try.prog Try.f55 K)) (zJP zaa zab zdj zp2 zhF)
def zfX (zaa:(Sl Gate)) (zab:(Sl Mp)) (zaN:Int) (iv8:Int) (zff:Nat) (zbD:Nat→List PV):St:=⟨[(0,.one (.c (.p (.sl zaa.len 3 (fun i=>enc_55 (zaa.get i)))))),(5,.one (.c (.p (.sl zab.len 1 (fun i=>zcF (zab.get i)))))),(6,.one (.c (.p (.int .i64 zaN)))),(9,.one (.c (.vec 72))),(12,.one (.c (.p (.int .i64 iv8))))],[(72,.vec 3 1 8 zff zbD)],[]⟩
def zke (K:List PA→Prop) (zaa:(Sl Gate)) (zab:(Sl Mp)) (zaN:Int) (iv8:Int) (zff:Nat) (zbD:Nat→List PV):Prop:=vc Try.prog G55 zaV (cdF Try.f55 [1,0,1,1,1,1,1,1,1,0,1,0]) (za2 6 (sqK Try.prog G55 zaV (cdF Try.f55 [1,0,1,1,1,1,1,1,1,1]) (zcb (zcq Try.prog Try.f55 K)))) (zfX zaa zab zaN iv8 zff zbD)
def ziw (zaa:(Sl Gate)) (zab:(Sl Mp)) (zaz:Int) (iv9:Int) (pv9:Int) (qv9:Int) (rv9:Int) (zfg:Nat) (zbN:Nat→List PV):St:=⟨[(0,.one (.c (.p (.sl zaa.len 3 (fun i=>enc_55 (zaa.get i)))))),(5,.one (.c (.p (.sl zab.len 1 (fun i=>zcF (zab.get i)))))),(6,.one (.c (.p (.int .i64 zaz)))),(9,.one (.c (.vec 72))),(12,.one (.c (.p (.int .i64 iv9)))),(13,.one (.c (.p (.int .i64 pv9)))),(14,.one (.c (.p (.int .i64 qv9)))),(15,.one (.c (.p (.int .i64 rv9))))],[(72,.vec 3 1 8 zfg zbN)],[]⟩
def zkf (K:List PA→Prop) (X8:St→Prop) (zaa:(Sl Gate)) (zab:(Sl Mp)) (zaz:Int) (iv9:Int) (pv9:Int) (qv9:Int) (rv9:Int) (zfg:Nat) (zbN:Nat→List PV):Prop:=vc Try.prog G55 zaV (cdF Try.f55 [1,0,1,1,1,1,1,1,1,0,1,0,0,1,0,0,1,1,0]) (za2 8 (za2 7 (sqK Try.prog G55 zaV (cdF Try.f55 [1,0,1,1,1,1,1,1,1,0,1,0,0,1,1]) (zdU Try.prog zaV 20 X8 (za2 6 (sqK Try.prog G55 zaV (cdF Try.f55 [1,0,1,1,1,1,1,1,1,1]) (zcb (zcq Try.prog Try.f55 K)))))))) (ziw zaa zab zaz iv9 pv9 qv9 rv9 zfg zbN)
def zFQ (zaa:(Sl Gate)) (zab:(Sl Mp)) (zbR:Int) (zhb:Int) (zow:Int) (zox:Int) (zkL:Int) (zcv:Bool) (zmG:Nat) (zfF:Nat→List PV):St:=⟨[(0,.one (.c (.p (.sl zaa.len 3 (fun i=>enc_55 (zaa.get i)))))),(5,.one (.c (.p (.sl zab.len 1 (fun i=>zcF (zab.get i)))))),(6,.one (.c (.p (.int .i64 zbR)))),(9,.one (.c (.vec 72))),(12,.one (.c (.p (.int .i64 zhb)))),(13,.one (.c (.p (.int .i64 zow)))),(14,.one (.c (.p (.int .i64 zox)))),(15,.one (.c (.p (.int .i64 zkL)))),(138,.one (.c (.p (.bool zcv))))],[(72,.vec 3 1 8 zmG zfF)],[]⟩
def zg5 (K:List PA→Prop) (X8:St→Prop) (X9:St→Prop) (zaa:(Sl Gate)) (zab:(Sl Mp)) (zbR:Int) (zhb:Int) (zow:Int) (zox:Int) (zkL:Int) (zcv:Bool) (zmG:Nat) (zfF:Nat→List PV):Prop:=vc Try.prog G55 zaV (cdF Try.f55 [1,0,1,1,1,1,1,1,1,0,1,0,0,1,0,0,1,1,0,0,1,0,0,1]) (za2 9 (sqK Try.prog G55 zaV (cdF Try.f55 [1,0,1,1,1,1,1,1,1,0,1,0,0,1,0,0,1,1,0,0,1,1]) (zdU Try.prog zaV 24 X9 (za2 8 (za2 7 (sqK Try.prog G55 zaV (cdF Try.f55 [1,0,1,1,1,1,1,1,1,0,1,0,0,1,1]) (zdU Try.prog zaV 20 X8 (za2 6 (sqK Try.prog G55 zaV (cdF Try.f55 [1,0,1,1,1,1,1,1,1,1]) (zcb (zcq Try.prog Try.f55 K))))))))))) (zFQ zaa zab zbR zhb zow zox zkL zcv zmG zfF)
theorem zFR (zaa : (Sl Gate)) (K : List PA → Prop) :
  vcFun Try.prog G55 zaV 55 [.one (.sl zaa.len 3 (fun i=>enc_55 (zaa.get i)))] K =
  ((IsE enc_55 3 3 (fun i=>enc_55 (zaa.get i))∧(p92 zaa=true)) ∧
 (zmC K zaa (!(s92 zaa)))):=by kernel_rfl
theorem zFS (K : List PA → Prop) (zaa : (Sl Gate)) (zgq : Bool) :
  zmC K zaa zgq =
  (zc0 zgq
 (K [.one (.nils),.one (.int .i64 (0:Int)),.one (.int .i64 (2:Int))])
 (zmD K zaa)):=by kernel_rfl
theorem zFT (K : List PA → Prop) (zaa : (Sl Gate)) :
  zmD K zaa =
  ((IsE enc_55 3 3 (fun i=>enc_55 (zaa.get i))∧(p93 zaa=true)) ∧
 (zmE K zaa ((s93 zaa).len) (fun i=>zcF ((s93 zaa).get i)))):=by kernel_rfl
theorem zFU (K : List PA → Prop) (zaa : (Sl Gate)) (zab : (Sl Mp)) :
  zmE K zaa zab.len (fun i=>zcF (zab.get i)) =
  (((0≤(0:Int)∧(0:Int) < (zab.len:Int))) ∧
 (zj9 K zaa zab ([]) (-1:Int))):=by kernel_rfl
def zoc (K:List PA→Prop) (X3:St→Prop) (zaa:(Sl Gate)) (zab:(Sl Mp)) (zbe:(List (List Int))) (zaB:Int):Prop :=
  (zHQ 2 ((zab.get 0).n) ((zab.get 0).F) →
 ((∀ c:List Int,c.length=2→((zab.get 0).F) c ≠ none→c∈zbe) →
 (zmF K zaa zab zaB))∧∀ k24_0 k24_1:Int,((zab.get 0).F) [k24_0,k24_1] ≠ none→[k24_0,k24_1] ∉ zbe →
 (zc0 (decide (zaB < (0:Int)))
 (X3 (zg4 zaa zab ([k24_0,k24_1] :: zbe) (zdP (((zab.get 0).F) [k24_0,k24_1]) 0)))
 (zc0 (decide ((zdP (((zab.get 0).F) [k24_0, k24_1]) 0) < zaB))
 (X3 (zg4 zaa zab ([k24_0,k24_1] :: zbe) (zdP (((zab.get 0).F) [k24_0,k24_1]) 0)))
 (X3 (zg4 zaa zab ([k24_0,k24_1] :: zbe) zaB)))))
theorem zp3 (K : List PA → Prop) (X3 : St → Prop) (zaa : (Sl Gate)) (zab : (Sl Mp)) (zbe : (List (List Int))) (zaB : Int) :
  vc Try.prog G55 zaV (cd (cdF Try.f55 [1,0,1,1,1,0,1,0]) [0]) (zdU Try.prog zaV 6 X3 (za2 0 (sqK Try.prog G55 zaV (cdF Try.f55 [1,0,1,1,1,1]) (zcb (zcq Try.prog Try.f55 K))))) (zg4 zaa zab zbe zaB) =
  zoc K X3 zaa zab zbe zaB:=by kernel_rfl
theorem zyf (K : List PA → Prop) (zaa : (Sl Gate)) (zab : (Sl Mp)) (zbe : (List (List Int))) (zaB : Int)
  (h:∀ X3:St→Prop,(∀ (zbe:(List (List Int))) (zaB:Int),zoc K X3 zaa zab zbe zaB→X3 (zg4 zaa zab zbe zaB))→X3 (zg4 zaa zab zbe zaB)) :
  zj9 K zaa zab zbe zaB:=by
  have e:zj9 K zaa zab zbe zaB=(∀ X:St→Prop,(∀ s,vc Try.prog G55 zaV (cd (cdF Try.f55 [1,0,1,1,1,0,1,0]) [0]) (zdU Try.prog zaV 6 X (za2 0 (sqK Try.prog G55 zaV (cdF Try.f55 [1,0,1,1,1,1]) (zcb (zcq Try.prog Try.f55 K))))) s→X s)→X (zg4 zaa zab zbe zaB)):=by kernel_rfl
  refine zaw e ?_
  intro X hX
  refine h X ?_
  intro zbe zaB hs
  refine hX _ ?_
  have e2:=zp3 K X zaa zab zbe zaB
  rw [e2]
  exact hs
theorem zFV (K : List PA → Prop) (zaa : (Sl Gate)) (zab : (Sl Mp)) (zdi : Int) :
  zmF K zaa zab zdi =
  (((0≤(0:Int)∧(0:Int) < (zaa.len:Int))) ∧
 (zka K zaa zab zdi ((zaa.get 0).Low))):=by kernel_rfl
def zod (K:List PA→Prop) (X5:St→Prop) (zaa:(Sl Gate)) (zab:(Sl Mp)) (zaQ:Int) (pv5:Int):Prop :=
  (((0≤(0:Int)∧(0:Int) < (zaa.len:Int))) ∧
 (zc0 (decide (pv5 ≤ (zaa.get 0).High))
 (((0≤(1:Int)∧(1:Int) < (zaa.len:Int))) ∧
 (zkc K X5 zaa zab zaQ pv5 ((zaa.get 1).Low)))
 (zkd K zaa zab zaQ 0 (fun i=>zal ((fun _=>default) i)))))
theorem zp4 (K : List PA → Prop) (X5 : St → Prop) (zaa : (Sl Gate)) (zab : (Sl Mp)) (zaQ : Int) (pv5 : Int) :
  vc Try.prog G55 zaV (cd (cdF Try.f55 [1,0,1,1,1,1,1,1,0,1,0]) [0]) (zdU Try.prog zaV 12 X5 (za2 2 (sqK Try.prog G55 zaV (cdF Try.f55 [1,0,1,1,1,1,1,1,1]) (zcb (zcq Try.prog Try.f55 K))))) (ziv zaa zab zaQ pv5) =
  zod K X5 zaa zab zaQ pv5:=by kernel_rfl
theorem zyg (K : List PA → Prop) (zaa : (Sl Gate)) (zab : (Sl Mp)) (zaQ : Int) (pv5 : Int)
  (h:∀ X5:St→Prop,(∀ (zaQ:Int) (pv5:Int),zod K X5 zaa zab zaQ pv5→X5 (ziv zaa zab zaQ pv5))→X5 (ziv zaa zab zaQ pv5)) :
  zka K zaa zab zaQ pv5:=by
  have e:zka K zaa zab zaQ pv5=(∀ X:St→Prop,(∀ s,vc Try.prog G55 zaV (cd (cdF Try.f55 [1,0,1,1,1,1,1,1,0,1,0]) [0]) (zdU Try.prog zaV 12 X (za2 2 (sqK Try.prog G55 zaV (cdF Try.f55 [1,0,1,1,1,1,1,1,1]) (zcb (zcq Try.prog Try.f55 K))))) s→X s)→X (ziv zaa zab zaQ pv5)):=by kernel_rfl
  refine zaw e ?_
  intro X hX
  refine h X ?_
  intro zaQ pv5 hs
  refine hX _ ?_
  have e2:=zp4 K X zaa zab zaQ pv5
  rw [e2]
  exact hs
def zoe (K:List PA→Prop) (X5:St→Prop) (X6:St→Prop) (zaa:(Sl Gate)) (zab:(Sl Mp)) (zaL:Int) (pv6:Int) (qv6:Int):Prop :=
  (((0≤(1:Int)∧(1:Int) < (zaa.len:Int))) ∧
 (zc0 (decide (qv6 ≤ (zaa.get 1).High))
 (((0≤(0:Int)∧(0:Int) < (zab.len:Int))) ∧
 (zc0 ((zdP (((zab.get 0).F) [pv6, qv6]) 0) == zaL)
 (zkd K zaa zab zaL 2 (zdk [(zal pv6),(zal qv6)]))
 (X6 (zkb zaa zab zaL pv6 (w64 (qv6+(1:Int)))))))
 (X5 (ziv zaa zab zaL (w64 (pv6+(1:Int)))))))
theorem zp5 (K : List PA → Prop) (X5 : St → Prop) (X6 : St → Prop) (zaa : (Sl Gate)) (zab : (Sl Mp)) (zaL : Int) (pv6 : Int) (qv6 : Int) :
  vc Try.prog G55 zaV (cd (cdF Try.f55 [1,0,1,1,1,1,1,1,0,1,0,0,1,0,0,1,0]) [0]) (zdU Try.prog zaV 15 X6 (za2 4 (za2 3 (sqK Try.prog G55 zaV (cdF Try.f55 [1,0,1,1,1,1,1,1,0,1,0,0,1,1]) (zdU Try.prog zaV 12 X5 (za2 2 (sqK Try.prog G55 zaV (cdF Try.f55 [1,0,1,1,1,1,1,1,1]) (zcb (zcq Try.prog Try.f55 K))))))))) (zkb zaa zab zaL pv6 qv6) =
  zoe K X5 X6 zaa zab zaL pv6 qv6:=by kernel_rfl
theorem zyh (K : List PA → Prop) (X5 : St → Prop) (zaa : (Sl Gate)) (zab : (Sl Mp)) (zaL : Int) (pv6 : Int) (qv6 : Int)
  (h:∀ X6:St→Prop,(∀ (zaL:Int) (pv6:Int) (qv6:Int),zoe K X5 X6 zaa zab zaL pv6 qv6→X6 (zkb zaa zab zaL pv6 qv6))→X6 (zkb zaa zab zaL pv6 qv6)) :
  zkc K X5 zaa zab zaL pv6 qv6:=by
  have e:zkc K X5 zaa zab zaL pv6 qv6=(∀ X:St→Prop,(∀ s,vc Try.prog G55 zaV (cd (cdF Try.f55 [1,0,1,1,1,1,1,1,0,1,0,0,1,0,0,1,0]) [0]) (zdU Try.prog zaV 15 X (za2 4 (za2 3 (sqK Try.prog G55 zaV (cdF Try.f55 [1,0,1,1,1,1,1,1,0,1,0,0,1,1]) (zdU Try.prog zaV 12 X5 (za2 2 (sqK Try.prog G55 zaV (cdF Try.f55 [1,0,1,1,1,1,1,1,1]) (zcb (zcq Try.prog Try.f55 K))))))))) s→X s)→X (zkb zaa zab zaL pv6 qv6)):=by kernel_rfl
  refine zaw e ?_
  intro X hX
  refine h X ?_
  intro zaL pv6 qv6 hs
  refine hX _ ?_
  have e2:=zp5 K X5 X zaa zab zaL pv6 qv6
  rw [e2]
  exact hs
theorem zFW (K : List PA → Prop) (zaa : (Sl Gate)) (zab : (Sl Mp)) (zdj : Int) (zfO : (Sl Int)) :
  zkd K zaa zab zdj zfO.len (fun i=>zal (zfO.get i)) =
  (zke K zaa zab zdj (2:Int) zfO.len (fun i=>zal (zfO.get i))):=by kernel_rfl
def zof (K:List PA→Prop) (X8:St→Prop) (zaa:(Sl Gate)) (zab:(Sl Mp)) (zaN:Int) (iv8:Int) (zaU:(Sl Int)):Prop :=
  (zc0 (decide (iv8 < (zaa.len : Int)))
 (((0≤(w64 (iv8 - (2:Int)))∧(w64 (iv8 - (2:Int))) < (zaU.len:Int))) ∧
 ((((w64 (iv8 - (2:Int))).toNat < zaU.len)) ∧
 (((0≤(w64 (iv8 - (1:Int)))∧(w64 (iv8 - (1:Int))) < (zaU.len:Int))) ∧
 ((((w64 (iv8 - (1:Int))).toNat < zaU.len)) ∧
 (((0≤iv8∧iv8 < (zaa.len:Int))) ∧
 (zkf K X8 zaa zab zaN iv8 (zaU.get ((w64 (iv8 - (2:Int))).toNat)) (zaU.get ((w64 (iv8 - (1:Int))).toNat)) ((zaa.get iv8.toNat).Low) zaU.len (fun i=>zal (zaU.get i))))))))
 (K [.one (.sl zaU.len 1 (fun i=>zal (zaU.get i))),.one (.int .i64 zaN),.one (.int .i64 (0:Int))]))
theorem zp6 (K : List PA → Prop) (X8 : St → Prop) (zaa : (Sl Gate)) (zab : (Sl Mp)) (zaN : Int) (iv8 : Int) (zaU : (Sl Int)) :
  vc Try.prog G55 zaV (cd (cdF Try.f55 [1,0,1,1,1,1,1,1,1,0,1,0]) [0]) (zdU Try.prog zaV 20 X8 (za2 6 (sqK Try.prog G55 zaV (cdF Try.f55 [1,0,1,1,1,1,1,1,1,1]) (zcb (zcq Try.prog Try.f55 K))))) (zfX zaa zab zaN iv8 zaU.len (fun i=>zal (zaU.get i))) =
  zof K X8 zaa zab zaN iv8 zaU:=by kernel_rfl
theorem zyi (K : List PA → Prop) (zaa : (Sl Gate)) (zab : (Sl Mp)) (zaN : Int) (iv8 : Int) (zff : Nat) (zbD : Nat → List PV)
  (h:∀ X8:St→Prop,(∀ (zaN:Int) (iv8:Int) (zaU:(Sl Int)),zof K X8 zaa zab zaN iv8 zaU→X8 (zfX zaa zab zaN iv8 zaU.len (fun i=>zal (zaU.get i))))→X8 (zfX zaa zab zaN iv8 zff zbD)) :
  zke K zaa zab zaN iv8 zff zbD:=by
  have e:zke K zaa zab zaN iv8 zff zbD=(∀ X:St→Prop,(∀ s,vc Try.prog G55 zaV (cd (cdF Try.f55 [1,0,1,1,1,1,1,1,1,0,1,0]) [0]) (zdU Try.prog zaV 20 X (za2 6 (sqK Try.prog G55 zaV (cdF Try.f55 [1,0,1,1,1,1,1,1,1,1]) (zcb (zcq Try.prog Try.f55 K))))) s→X s)→X (zfX zaa zab zaN iv8 zff zbD)):=by kernel_rfl
  refine zaw e ?_
  intro X hX
  refine h X ?_
  intro zaN iv8 zaU hs
  refine hX _ ?_
  have e2:=zp6 K X zaa zab zaN iv8 zaU
  rw [e2]
  exact hs
def zog (K:List PA→Prop) (X8:St→Prop) (X9:St→Prop) (zaa:(Sl Gate)) (zab:(Sl Mp)) (zaz:Int) (iv9:Int) (pv9:Int) (qv9:Int) (rv9:Int) (zbg:(Sl Int)):Prop :=
  (((0≤iv9∧iv9 < (zaa.len:Int))) ∧
 (zc0 (decide (rv9 ≤ (zaa.get iv9.toNat).High))
 (((0≤(w64 (iv9 - (2:Int)))∧(w64 (iv9 - (2:Int))) < (zaa.len:Int))) ∧
 (((0≤(w64 (iv9 - (1:Int)))∧(w64 (iv9 - (1:Int))) < (zaa.len:Int))) ∧
 (((0≤iv9∧iv9 < (zaa.len:Int))) ∧
 (((p85 ((zaa.get ((w64 (iv9 - (2:Int))).toNat)).Z) ((zaa.get ((w64 (iv9 - (1:Int))).toNat)).Z) ((zaa.get iv9.toNat).Z) pv9 qv9 rv9=true)) ∧
 (zc0 (decide ((s85 ((zaa.get ((w64 (iv9 - (2:Int))).toNat)).Z) ((zaa.get ((w64 (iv9 - (1:Int))).toNat)).Z) ((zaa.get iv9.toNat).Z) pv9 qv9 rv9) ≤ zaz))
 (((0≤(w64 (iv9 - (1:Int)))∧(w64 (iv9 - (1:Int))) < (zab.len:Int))) ∧
 (zg5 K X8 X9 zaa zab zaz iv9 pv9 qv9 rv9 (decide ((zdP (((zab.get ((w64 (iv9 - (1:Int))).toNat)).F) [qv9,rv9]) 0)≤zaz)) zbg.len (fun i=>zal (zbg.get i))))
 (zg5 K X8 X9 zaa zab zaz iv9 pv9 qv9 rv9 false zbg.len (fun i=>zal (zbg.get i))))))))
 (X8 (zfX zaa zab zaz (w64 (iv9+(1:Int))) zbg.len (fun i=>zal (zbg.get i))))))
theorem zp7 (K : List PA → Prop) (X8 : St → Prop) (X9 : St → Prop) (zaa : (Sl Gate)) (zab : (Sl Mp)) (zaz : Int) (iv9 : Int) (pv9 : Int) (qv9 : Int) (rv9 : Int) (zbg : (Sl Int)) :
  vc Try.prog G55 zaV (cd (cdF Try.f55 [1,0,1,1,1,1,1,1,1,0,1,0,0,1,0,0,1,1,0]) [0]) (zdU Try.prog zaV 24 X9 (za2 8 (za2 7 (sqK Try.prog G55 zaV (cdF Try.f55 [1,0,1,1,1,1,1,1,1,0,1,0,0,1,1]) (zdU Try.prog zaV 20 X8 (za2 6 (sqK Try.prog G55 zaV (cdF Try.f55 [1,0,1,1,1,1,1,1,1,1]) (zcb (zcq Try.prog Try.f55 K))))))))) (ziw zaa zab zaz iv9 pv9 qv9 rv9 zbg.len (fun i=>zal (zbg.get i))) =
  zog K X8 X9 zaa zab zaz iv9 pv9 qv9 rv9 zbg:=by kernel_rfl
theorem zyj (K : List PA → Prop) (X8 : St → Prop) (zaa : (Sl Gate)) (zab : (Sl Mp)) (zaz : Int) (iv9 : Int) (pv9 : Int) (qv9 : Int) (rv9 : Int) (zfg : Nat) (zbN : Nat → List PV)
  (h:∀ X9:St→Prop,(∀ (zaz:Int) (iv9:Int) (pv9:Int) (qv9:Int) (rv9:Int) (zbg:(Sl Int)),zog K X8 X9 zaa zab zaz iv9 pv9 qv9 rv9 zbg→X9 (ziw zaa zab zaz iv9 pv9 qv9 rv9 zbg.len (fun i=>zal (zbg.get i))))→X9 (ziw zaa zab zaz iv9 pv9 qv9 rv9 zfg zbN)) :
  zkf K X8 zaa zab zaz iv9 pv9 qv9 rv9 zfg zbN:=by
  have e:zkf K X8 zaa zab zaz iv9 pv9 qv9 rv9 zfg zbN=(∀ X:St→Prop,(∀ s,vc Try.prog G55 zaV (cd (cdF Try.f55 [1,0,1,1,1,1,1,1,1,0,1,0,0,1,0,0,1,1,0]) [0]) (zdU Try.prog zaV 24 X (za2 8 (za2 7 (sqK Try.prog G55 zaV (cdF Try.f55 [1,0,1,1,1,1,1,1,1,0,1,0,0,1,1]) (zdU Try.prog zaV 20 X8 (za2 6 (sqK Try.prog G55 zaV (cdF Try.f55 [1,0,1,1,1,1,1,1,1,1]) (zcb (zcq Try.prog Try.f55 K))))))))) s→X s)→X (ziw zaa zab zaz iv9 pv9 qv9 rv9 zfg zbN)):=by kernel_rfl
  refine zaw e ?_
  intro X hX
  refine h X ?_
  intro zaz iv9 pv9 qv9 rv9 zbg hs
  refine hX _ ?_
  have e2:=zp7 K X8 X zaa zab zaz iv9 pv9 qv9 rv9 zbg
  rw [e2]
  exact hs
theorem zBs (K : List PA → Prop) (X8 : St → Prop) (X9 : St → Prop) (zaa : (Sl Gate)) (zab : (Sl Mp)) (zbR : Int) (zhb : Int) (zow : Int) (zox : Int) (zkL : Int) (zcv : Bool) (zbm : (Sl Int)) :
  zg5 K X8 X9 zaa zab zbR zhb zow zox zkL zcv zbm.len (fun i=>zal (zbm.get i)) =
  (zc0 zcv
 ((((zbm.len+1) * 8≤140737488355328∧zbm.len+1≤9223372036854775807)) ∧
 (X8 (zfX zaa zab zbR (w64 (zhb+(1:Int))) (zbm.len+1) (appG zbm.len (fun i=>zal (zbm.get i)) (fun _=>(zal zkL))))))
 (X9 (ziw zaa zab zbR zhb zow zox (w64 (zkL+(1:Int))) zbm.len (fun i=>zal (zbm.get i))))):=by kernel_rfl
abbrev e55 (r:((Sl Int)×Int×Int)):List PA:=[.one (.sl r.1.len 1 (fun i=>zal (r.1.get i))),.one (.int .i64 r.2.1),.one (.int .i64 r.2.2)]
attribute [irreducible] zmC zmD zmE zj9 zmF zka zkc zkd zke zkf zg5
def zi3 (S8:Int→Int→(Sl Int)→((Sl Int)×Int×Int)) (S9:Int→Int→Int→Int→Int→(Sl Int)→((Sl Int)×Int×Int)) (zaa:(Sl Gate)) (zab:(Sl Mp)) (zbR:Int) (zhb:Int) (zow:Int) (zox:Int) (zkL:Int) (zcv:Bool) (zbm:(Sl Int)):((Sl Int)×Int×Int) :=
  (cond zcv
 (S8 zbR (w64 (zhb+(1:Int))) (⟨(zbm.len+1),(zdW zbm.len zbm.get (fun _=>zkL))⟩:Sl Int))
 (S9 zbR zhb zow zox (w64 (zkL+(1:Int))) zbm))
def zi4 (P8:Int→Int→(Sl Int)→Bool) (P9:Int→Int→Int→Int→Int→(Sl Int)→Bool) (zaa:(Sl Gate)) (zab:(Sl Mp)) (zbR:Int) (zhb:Int) (zow:Int) (zox:Int) (zkL:Int) (zcv:Bool) (zbm:(Sl Int)):Bool :=
  (cond zcv
 (decide (((zbm.len+1) * 8≤140737488355328∧zbm.len+1≤9223372036854775807)) &&
 (P8 zbR (w64 (zhb+(1:Int))) (⟨(zbm.len+1),(zdW zbm.len zbm.get (fun _=>zkL))⟩:Sl Int)))
 (P9 zbR zhb zow zox (w64 (zkL+(1:Int))) zbm))
theorem zsv (K : List PA → Prop) (zaa : (Sl Gate)) (zab : (Sl Mp))
  (X8:St→Prop) (P8:Int→Int→(Sl Int)→Bool) (S8:Int→Int→(Sl Int)→((Sl Int)×Int×Int))
  (hX8:∀ (zaN:Int) (iv8:Int) (zaU:(Sl Int)) (zbD:Nat→List PV) (zgr:zbD=fun i=>zal (zaU.get i)),P8 zaN iv8 zaU=true→K (e55 (S8 zaN iv8 zaU))→X8 (zfX zaa zab zaN iv8 zaU.len zbD))
  (X9:St→Prop) (P9:Int→Int→Int→Int→Int→(Sl Int)→Bool) (S9:Int→Int→Int→Int→Int→(Sl Int)→((Sl Int)×Int×Int))
  (hX9:∀ (zaz:Int) (iv9:Int) (pv9:Int) (qv9:Int) (rv9:Int) (zbg:(Sl Int)) (zbN:Nat→List PV) (zhG:zbN=fun i=>zal (zbg.get i)),P9 zaz iv9 pv9 qv9 rv9 zbg=true→K (e55 (S9 zaz iv9 pv9 qv9 rv9 zbg))→X9 (ziw zaa zab zaz iv9 pv9 qv9 rv9 zbg.len zbN)) (zbR:Int) (zhb:Int) (zow:Int) (zox:Int) (zkL:Int) (zcv:Bool) (zbm:(Sl Int)) (zfF:Nat→List PV) (zBt:zfF=fun i=>zal (zbm.get i)) (hs:zi4 P8 P9 zaa zab zbR zhb zow zox zkL zcv zbm=true) (hk:K (e55 (zi3 S8 S9 zaa zab zbR zhb zow zox zkL zcv zbm))):zg5 (Wk K) X8 X9 zaa zab zbR zhb zow zox zkL zcv zbm.len zfF:=by
  subst zBt
  refine zaw (zBs (Wk K) X8 X9 zaa zab zbR zhb zow zox zkL zcv zbm) ?_
  unfold zi4 at hs
  unfold zi3 at hk
  exact (zcj (K := fun r => K (e55 r))
 (fun hs hk=>(zau hs fun hc hs=>⟨hc,(hX8 zbR (w64 (zhb+(1:Int))) (⟨(zbm.len+1),(zdW zbm.len zbm.get (fun _=>zkL))⟩:Sl Int) (appG zbm.len (fun i=>zal (zbm.get i)) (fun _=>(zal zkL))) (zeP (enc:=zal) (f:=zbm.get) (h:=(fun _=>zkL)) rfl rfl) hs hk)⟩))
 (fun hs hk=>(hX9 zbR zhb zow zox (w64 (zkL+(1:Int))) zbm (fun i=>zal (zbm.get i)) rfl hs hk)) hs hk)
def zp8 (S8:Int→Int→(Sl Int)→((Sl Int)×Int×Int)) (zaa:(Sl Gate)) (zab:(Sl Mp)) (S9:Int→Int→Int→Int→Int→(Sl Int)→((Sl Int)×Int×Int)) (zaz:Int) (iv9:Int) (pv9:Int) (qv9:Int) (rv9:Int) (zbg:(Sl Int)):((Sl Int)×Int×Int) :=
  (cond (decide (rv9 ≤ (zaa.get iv9.toNat).High))
 (cond (decide ((s85 ((zaa.get ((w64 (iv9 - (2:Int))).toNat)).Z) ((zaa.get ((w64 (iv9 - (1:Int))).toNat)).Z) ((zaa.get iv9.toNat).Z) pv9 qv9 rv9) ≤ zaz))
 (zi3 S8 S9 zaa zab zaz iv9 pv9 qv9 rv9 (decide ((zdP (((zab.get ((w64 (iv9 - (1:Int))).toNat)).F) [qv9,rv9]) 0)≤zaz)) zbg)
 (zi3 S8 S9 zaa zab zaz iv9 pv9 qv9 rv9 false zbg))
 (S8 zaz (w64 (iv9+(1:Int))) zbg))
def zp9 (P8:Int→Int→(Sl Int)→Bool) (zaa:(Sl Gate)) (zab:(Sl Mp)) (P9:Int→Int→Int→Int→Int→(Sl Int)→Bool) (zaz:Int) (iv9:Int) (pv9:Int) (qv9:Int) (rv9:Int) (zbg:(Sl Int)):Bool :=
  (decide ((0≤iv9∧iv9 < (zaa.len:Int))) &&
 (cond (decide (rv9 ≤ (zaa.get iv9.toNat).High))
 (decide ((0≤(w64 (iv9 - (2:Int)))∧(w64 (iv9 - (2:Int))) < (zaa.len:Int))) &&
 (decide ((0≤(w64 (iv9 - (1:Int)))∧(w64 (iv9 - (1:Int))) < (zaa.len:Int))) &&
 (decide ((0≤iv9∧iv9 < (zaa.len:Int))) &&
 (decide ((p85 ((zaa.get ((w64 (iv9 - (2:Int))).toNat)).Z) ((zaa.get ((w64 (iv9 - (1:Int))).toNat)).Z) ((zaa.get iv9.toNat).Z) pv9 qv9 rv9=true)) &&
 (cond (decide ((s85 ((zaa.get ((w64 (iv9 - (2:Int))).toNat)).Z) ((zaa.get ((w64 (iv9 - (1:Int))).toNat)).Z) ((zaa.get iv9.toNat).Z) pv9 qv9 rv9) ≤ zaz))
 (decide ((0≤(w64 (iv9 - (1:Int)))∧(w64 (iv9 - (1:Int))) < (zab.len:Int))) &&
 (zi4 P8 P9 zaa zab zaz iv9 pv9 qv9 rv9 (decide ((zdP (((zab.get ((w64 (iv9 - (1:Int))).toNat)).F) [qv9,rv9]) 0)≤zaz)) zbg))
 (zi4 P8 P9 zaa zab zaz iv9 pv9 qv9 rv9 false zbg))))))
 (P8 zaz (w64 (iv9+(1:Int))) zbg)))
def zkg (S8 : Int → Int → (Sl Int) → ((Sl Int) × Int × Int)) (zaa : (Sl Gate)) (zab : (Sl Mp)) : Nat → Int → Int → Int → Int → Int → (Sl Int) → ((Sl Int) × Int × Int)
  | 0=>fun _ _ _ _ _ _=>default
  | k+1=>zp8 S8 zaa zab (zkg S8 zaa zab k)
def zkh (P8 : Int → Int → (Sl Int) → Bool) (zaa : (Sl Gate)) (zab : (Sl Mp)) : Nat → Int → Int → Int → Int → Int → (Sl Int) → Bool
  | 0=>fun _ _ _ _ _ _=>false
  | k+1=>zp9 P8 zaa zab (zkh P8 zaa zab k)
def zyk (S8:Int→Int→(Sl Int)→((Sl Int)×Int×Int)) (zaa:(Sl Gate)) (zab:(Sl Mp)) (zaz:Int) (iv9:Int) (pv9:Int) (qv9:Int) (rv9:Int) (zbg:(Sl Int)):((Sl Int)×Int×Int):=zkg S8 zaa zab Fuel zaz iv9 pv9 qv9 rv9 zbg
def zyl (P8:Int→Int→(Sl Int)→Bool) (zaa:(Sl Gate)) (zab:(Sl Mp)) (zaz:Int) (iv9:Int) (pv9:Int) (qv9:Int) (rv9:Int) (zbg:(Sl Int)):Bool:=zkh P8 zaa zab Fuel zaz iv9 pv9 qv9 rv9 zbg
theorem zFX (K : List PA → Prop) (zaa : (Sl Gate)) (zab : (Sl Mp))
  (X8:St→Prop) (P8:Int→Int→(Sl Int)→Bool) (S8:Int→Int→(Sl Int)→((Sl Int)×Int×Int))
  (hX8:∀ (zaN:Int) (iv8:Int) (zaU:(Sl Int)) (zbD:Nat→List PV) (zgr:zbD=fun i=>zal (zaU.get i)),P8 zaN iv8 zaU=true→K (e55 (S8 zaN iv8 zaU))→X8 (zfX zaa zab zaN iv8 zaU.len zbD)) (zaz:Int) (iv9:Int) (pv9:Int) (qv9:Int) (rv9:Int) (zbg:(Sl Int)) (zbN:Nat→List PV) (zhG:zbN=fun i=>zal (zbg.get i)) (hs:zyl P8 zaa zab zaz iv9 pv9 qv9 rv9 zbg=true) (hk:K (e55 (zyk S8 zaa zab zaz iv9 pv9 qv9 rv9 zbg))):zkf (Wk K) X8 zaa zab zaz iv9 pv9 qv9 rv9 zbg.len zbN:=by
  refine zyj (Wk K) X8 zaa zab zaz iv9 pv9 qv9 rv9 zbg.len zbN ?_
  intro X9 hstep
  have key:∀ (k:Nat) (zaz:Int) (iv9:Int) (pv9:Int) (qv9:Int) (rv9:Int) (zbg:(Sl Int)) (zbN:Nat→List PV) (zhG:zbN=fun i=>zal (zbg.get i)),zkh P8 zaa zab k zaz iv9 pv9 qv9 rv9 zbg=true→K (e55 (zkg S8 zaa zab k zaz iv9 pv9 qv9 rv9 zbg))→X9 (ziw zaa zab zaz iv9 pv9 qv9 rv9 zbg.len zbN):=by
    intro k
    induction k with
    | zero=>intro zaz iv9 pv9 qv9 rv9 zbg zbN zhG hs;exact absurd hs Bool.false_ne_true
    | succ k ih =>
      intro zaz iv9 pv9 qv9 rv9 zbg zbN zhG hs hk
      subst zhG
      refine hstep zaz iv9 pv9 qv9 rv9 zbg ?_
      have hs:zp9 P8 zaa zab (zkh P8 zaa zab k) zaz iv9 pv9 qv9 rv9 zbg=true:=hs
      have hk:K (e55 (zp8 S8 zaa zab (zkg S8 zaa zab k) zaz iv9 pv9 qv9 rv9 zbg)):=hk
      unfold zp9 at hs
      unfold zp8 at hk
      generalize zkg S8 zaa zab k=S9 at hk ih
      generalize zkh P8 zaa zab k=P9 at hs ih
      have hX9:=ih
      exact (zau hs fun hc hs => ⟨hc, (zcj (K := fun r => K (e55 r))
 (fun hs hk => (zau hs fun hc hs => ⟨hc, (zau hs fun hc hs => ⟨hc, (zau hs fun hc hs => ⟨hc, (zau hs fun hc hs => ⟨hc, (zcj (K := fun r => K (e55 r))
 (fun hs hk=>(zau hs fun hc hs=>⟨hc,(zsv K zaa zab X8 P8 S8 hX8 X9 P9 S9 hX9 zaz iv9 pv9 qv9 rv9 (decide ((zdP (((zab.get ((w64 (iv9 - (1:Int))).toNat)).F) [qv9,rv9]) 0)≤zaz)) zbg (fun i=>zal (zbg.get i)) rfl hs hk)⟩))
 (fun hs hk=>(zsv K zaa zab X8 P8 S8 hX8 X9 P9 S9 hX9 zaz iv9 pv9 qv9 rv9 false zbg (fun i=>zal (zbg.get i)) rfl hs hk)) hs hk)⟩)⟩)⟩)⟩))
 (fun hs hk=>(hX8 zaz (w64 (iv9+(1:Int))) zbg (fun i=>zal (zbg.get i)) rfl hs hk)) hs hk)⟩)
  exact key _ zaz iv9 pv9 qv9 rv9 zbg zbN zhG hs hk
def zqa (zaa:(Sl Gate)) (zab:(Sl Mp)) (S8:Int→Int→(Sl Int)→((Sl Int)×Int×Int)) (zaN:Int) (iv8:Int) (zaU:(Sl Int)):((Sl Int)×Int×Int) :=
  (cond (decide (iv8 < (zaa.len : Int)))
 (zyk S8 zaa zab zaN iv8 (zaU.get ((w64 (iv8 - (2:Int))).toNat)) (zaU.get ((w64 (iv8 - (1:Int))).toNat)) ((zaa.get iv8.toNat).Low) zaU)
 (zaU,zaN,(0:Int)))
def zqb (zaa:(Sl Gate)) (zab:(Sl Mp)) (P8:Int→Int→(Sl Int)→Bool) (zaN:Int) (iv8:Int) (zaU:(Sl Int)):Bool :=
  (cond (decide (iv8 < (zaa.len : Int)))
 (decide ((0≤(w64 (iv8 - (2:Int)))∧(w64 (iv8 - (2:Int))) < (zaU.len:Int))) &&
 (decide (((w64 (iv8 - (2:Int))).toNat < zaU.len)) &&
 (decide ((0≤(w64 (iv8 - (1:Int)))∧(w64 (iv8 - (1:Int))) < (zaU.len:Int))) &&
 (decide (((w64 (iv8 - (1:Int))).toNat < zaU.len)) &&
 (decide ((0≤iv8∧iv8 < (zaa.len:Int))) &&
 (zyl P8 zaa zab zaN iv8 (zaU.get ((w64 (iv8 - (2:Int))).toNat)) (zaU.get ((w64 (iv8 - (1:Int))).toNat)) ((zaa.get iv8.toNat).Low) zaU))))))
 true)
def zki (zaa : (Sl Gate)) (zab : (Sl Mp)) : Nat → Int → Int → (Sl Int) → ((Sl Int) × Int × Int)
  | 0=>fun _ _ _=>default
  | k+1=>zqa zaa zab (zki zaa zab k)
def zkj (zaa : (Sl Gate)) (zab : (Sl Mp)) : Nat → Int → Int → (Sl Int) → Bool
  | 0=>fun _ _ _=>false
  | k+1=>zqb zaa zab (zkj zaa zab k)
def zym (zaa:(Sl Gate)) (zab:(Sl Mp)) (zaN:Int) (iv8:Int) (zaU:(Sl Int)):((Sl Int)×Int×Int):=zki zaa zab Fuel zaN iv8 zaU
def zyn (zaa:(Sl Gate)) (zab:(Sl Mp)) (zaN:Int) (iv8:Int) (zaU:(Sl Int)):Bool:=zkj zaa zab Fuel zaN iv8 zaU
theorem zFY (K:List PA→Prop) (zaa:(Sl Gate)) (zab:(Sl Mp)) (zaN:Int) (iv8:Int) (zaU:(Sl Int)) (zbD:Nat→List PV) (zgr:zbD=fun i=>zal (zaU.get i)) (hs:zyn zaa zab zaN iv8 zaU=true) (hk:K (e55 (zym zaa zab zaN iv8 zaU))):zke (Wk K) zaa zab zaN iv8 zaU.len zbD:=by
  refine zyi (Wk K) zaa zab zaN iv8 zaU.len zbD ?_
  intro X8 hstep
  have key:∀ (k:Nat) (zaN:Int) (iv8:Int) (zaU:(Sl Int)) (zbD:Nat→List PV) (zgr:zbD=fun i=>zal (zaU.get i)),zkj zaa zab k zaN iv8 zaU=true→K (e55 (zki zaa zab k zaN iv8 zaU))→X8 (zfX zaa zab zaN iv8 zaU.len zbD):=by
    intro k
    induction k with
    | zero=>intro zaN iv8 zaU zbD zgr hs;exact absurd hs Bool.false_ne_true
    | succ k ih =>
      intro zaN iv8 zaU zbD zgr hs hk
      subst zgr
      refine hstep zaN iv8 zaU ?_
      have hs:zqb zaa zab (zkj zaa zab k) zaN iv8 zaU=true:=hs
      have hk:K (e55 (zqa zaa zab (zki zaa zab k) zaN iv8 zaU)):=hk
      unfold zqb at hs
      unfold zqa at hk
      generalize zki zaa zab k=S8 at hk ih
      generalize zkj zaa zab k=P8 at hs ih
      have hX8:=ih
      exact (zcj (K := fun r => K (e55 r))
 (fun hs hk=>(zau hs fun hc hs=>⟨hc,(zau hs fun hc hs=>⟨hc,(zau hs fun hc hs=>⟨hc,(zau hs fun hc hs=>⟨hc,(zau hs fun hc hs=>⟨hc,(zFX K zaa zab X8 P8 S8 hX8 zaN iv8 (zaU.get ((w64 (iv8 - (2:Int))).toNat)) (zaU.get ((w64 (iv8 - (1:Int))).toNat)) ((zaa.get iv8.toNat).Low) zaU (fun i=>zal (zaU.get i)) rfl hs hk)⟩)⟩)⟩)⟩)⟩))
 (fun hs hk=>(zd8 hk)) hs hk)
  exact key _ zaN iv8 zaU zbD zgr hs hk
def zmH (zaa:(Sl Gate)) (zab:(Sl Mp)) (zdj:Int) (zfO:(Sl Int)):((Sl Int)×Int×Int) :=
  (zym zaa zab zdj (2:Int) zfO)
def zmI (zaa:(Sl Gate)) (zab:(Sl Mp)) (zdj:Int) (zfO:(Sl Int)):Bool :=
  (zyn zaa zab zdj (2:Int) zfO)
theorem zyo (K:List PA→Prop) (zaa:(Sl Gate)) (zab:(Sl Mp)) (zdj:Int) (zfO:(Sl Int)) (zhF:Nat→List PV) (zFZ:zhF=fun i=>zal (zfO.get i)) (hs:zmI zaa zab zdj zfO=true) (hk:K (e55 (zmH zaa zab zdj zfO))):zkd (Wk K) zaa zab zdj zfO.len zhF:=by
  subst zFZ
  refine zaw (zFW (Wk K) zaa zab zdj zfO) ?_
  unfold zmI at hs
  unfold zmH at hk
  exact (zFY K zaa zab zdj (2:Int) zfO (fun i=>zal (zfO.get i)) rfl hs hk)
def zqc (S5:Int→Int→((Sl Int)×Int×Int)) (zaa:(Sl Gate)) (zab:(Sl Mp)) (S6:Int→Int→Int→((Sl Int)×Int×Int)) (zaL:Int) (pv6:Int) (qv6:Int):((Sl Int)×Int×Int) :=
  (cond (decide (qv6 ≤ (zaa.get 1).High))
 (cond ((zdP (((zab.get 0).F) [pv6, qv6]) 0) == zaL)
 (zmH zaa zab zaL (⟨2,(zi5 pv6 [pv6,qv6])⟩:Sl Int))
 (S6 zaL pv6 (w64 (qv6+(1:Int)))))
 (S5 zaL (w64 (pv6+(1:Int)))))
def zqd (P5:Int→Int→Bool) (zaa:(Sl Gate)) (zab:(Sl Mp)) (P6:Int→Int→Int→Bool) (zaL:Int) (pv6:Int) (qv6:Int):Bool :=
  (decide ((0≤(1:Int)∧(1:Int) < (zaa.len:Int))) &&
 (cond (decide (qv6 ≤ (zaa.get 1).High))
 (decide ((0≤(0:Int)∧(0:Int) < (zab.len:Int))) &&
 (cond ((zdP (((zab.get 0).F) [pv6, qv6]) 0) == zaL)
 (zmI zaa zab zaL (⟨2,(zi5 pv6 [pv6,qv6])⟩:Sl Int))
 (P6 zaL pv6 (w64 (qv6+(1:Int))))))
 (P5 zaL (w64 (pv6+(1:Int))))))
def zkk (S5 : Int → Int → ((Sl Int) × Int × Int)) (zaa : (Sl Gate)) (zab : (Sl Mp)) : Nat → Int → Int → Int → ((Sl Int) × Int × Int)
  | 0=>fun _ _ _=>default
  | k+1=>zqc S5 zaa zab (zkk S5 zaa zab k)
def zkl (P5 : Int → Int → Bool) (zaa : (Sl Gate)) (zab : (Sl Mp)) : Nat → Int → Int → Int → Bool
  | 0=>fun _ _ _=>false
  | k+1=>zqd P5 zaa zab (zkl P5 zaa zab k)
def zyp (S5:Int→Int→((Sl Int)×Int×Int)) (zaa:(Sl Gate)) (zab:(Sl Mp)) (zaL:Int) (pv6:Int) (qv6:Int):((Sl Int)×Int×Int):=zkk S5 zaa zab Fuel zaL pv6 qv6
def zyq (P5:Int→Int→Bool) (zaa:(Sl Gate)) (zab:(Sl Mp)) (zaL:Int) (pv6:Int) (qv6:Int):Bool:=zkl P5 zaa zab Fuel zaL pv6 qv6
theorem zF0 (K : List PA → Prop) (zaa : (Sl Gate)) (zab : (Sl Mp))
  (X5:St→Prop) (P5:Int→Int→Bool) (S5:Int→Int→((Sl Int)×Int×Int))
  (hX5:∀ (zaQ:Int) (pv5:Int),P5 zaQ pv5=true→K (e55 (S5 zaQ pv5))→X5 (ziv zaa zab zaQ pv5)) (zaL:Int) (pv6:Int) (qv6:Int) (hs:zyq P5 zaa zab zaL pv6 qv6=true) (hk:K (e55 (zyp S5 zaa zab zaL pv6 qv6))):zkc (Wk K) X5 zaa zab zaL pv6 qv6:=by
  refine zyh (Wk K) X5 zaa zab zaL pv6 qv6 ?_
  intro X6 hstep
  have key:∀ (k:Nat) (zaL:Int) (pv6:Int) (qv6:Int),zkl P5 zaa zab k zaL pv6 qv6=true→K (e55 (zkk S5 zaa zab k zaL pv6 qv6))→X6 (zkb zaa zab zaL pv6 qv6):=by
    intro k
    induction k with
    | zero=>intro zaL pv6 qv6 hs;exact absurd hs Bool.false_ne_true
    | succ k ih =>
      intro zaL pv6 qv6 hs hk
      refine hstep zaL pv6 qv6 ?_
      have hs:zqd P5 zaa zab (zkl P5 zaa zab k) zaL pv6 qv6=true:=hs
      have hk:K (e55 (zqc S5 zaa zab (zkk S5 zaa zab k) zaL pv6 qv6)):=hk
      unfold zqd at hs
      unfold zqc at hk
      generalize zkk S5 zaa zab k=S6 at hk ih
      generalize zkl P5 zaa zab k=P6 at hs ih
      have hX6:=ih
      exact (zau hs fun hc hs => ⟨hc, (zcj (K := fun r => K (e55 r))
 (fun hs hk => (zau hs fun hc hs => ⟨hc, (zcj (K := fun r => K (e55 r))
 (fun hs hk=>(zyo K zaa zab zaL (⟨2,(zi5 pv6 [pv6,qv6])⟩:Sl Int) (zdk [(zal pv6),(zal qv6)]) (zes (enc:=zal) (x:=pv6) (y:=qv6) (r:=[])) hs hk))
 (fun hs hk=>(hX6 zaL pv6 (w64 (qv6+(1:Int))) hs hk)) hs hk)⟩))
 (fun hs hk=>(hX5 zaL (w64 (pv6+(1:Int))) hs hk)) hs hk)⟩)
  exact key _ zaL pv6 qv6 hs hk
def zqe (zaa:(Sl Gate)) (zab:(Sl Mp)) (S5:Int→Int→((Sl Int)×Int×Int)) (zaQ:Int) (pv5:Int):((Sl Int)×Int×Int) :=
  (cond (decide (pv5 ≤ (zaa.get 0).High))
 (zyp S5 zaa zab zaQ pv5 ((zaa.get 1).Low))
 (zmH zaa zab zaQ (⟨0,(fun _=>default)⟩:Sl Int)))
def zqf (zaa:(Sl Gate)) (zab:(Sl Mp)) (P5:Int→Int→Bool) (zaQ:Int) (pv5:Int):Bool :=
  (decide ((0≤(0:Int)∧(0:Int) < (zaa.len:Int))) &&
 (cond (decide (pv5 ≤ (zaa.get 0).High))
 (decide ((0≤(1:Int)∧(1:Int) < (zaa.len:Int))) &&
 (zyq P5 zaa zab zaQ pv5 ((zaa.get 1).Low)))
 (zmI zaa zab zaQ (⟨0,(fun _=>default)⟩:Sl Int))))
def zkm (zaa : (Sl Gate)) (zab : (Sl Mp)) : Nat → Int → Int → ((Sl Int) × Int × Int)
  | 0=>fun _ _=>default
  | k+1=>zqe zaa zab (zkm zaa zab k)
def zkn (zaa : (Sl Gate)) (zab : (Sl Mp)) : Nat → Int → Int → Bool
  | 0=>fun _ _=>false
  | k+1=>zqf zaa zab (zkn zaa zab k)
def zyr (zaa:(Sl Gate)) (zab:(Sl Mp)) (zaQ:Int) (pv5:Int):((Sl Int)×Int×Int):=zkm zaa zab Fuel zaQ pv5
def zys (zaa:(Sl Gate)) (zab:(Sl Mp)) (zaQ:Int) (pv5:Int):Bool:=zkn zaa zab Fuel zaQ pv5
theorem zF1 (K:List PA→Prop) (zaa:(Sl Gate)) (zab:(Sl Mp)) (zaQ:Int) (pv5:Int) (hs:zys zaa zab zaQ pv5=true) (hk:K (e55 (zyr zaa zab zaQ pv5))):zka (Wk K) zaa zab zaQ pv5:=by
  refine zyg (Wk K) zaa zab zaQ pv5 ?_
  intro X5 hstep
  have key:∀ (k:Nat) (zaQ:Int) (pv5:Int),zkn zaa zab k zaQ pv5=true→K (e55 (zkm zaa zab k zaQ pv5))→X5 (ziv zaa zab zaQ pv5):=by
    intro k
    induction k with
    | zero=>intro zaQ pv5 hs;exact absurd hs Bool.false_ne_true
    | succ k ih =>
      intro zaQ pv5 hs hk
      refine hstep zaQ pv5 ?_
      have hs:zqf zaa zab (zkn zaa zab k) zaQ pv5=true:=hs
      have hk:K (e55 (zqe zaa zab (zkm zaa zab k) zaQ pv5)):=hk
      unfold zqf at hs
      unfold zqe at hk
      generalize zkm zaa zab k=S5 at hk ih
      generalize zkn zaa zab k=P5 at hs ih
      have hX5:=ih
      exact (zau hs fun hc hs => ⟨hc, (zcj (K := fun r => K (e55 r))
 (fun hs hk=>(zau hs fun hc hs=>⟨hc,(zF0 K zaa zab X5 P5 S5 hX5 zaQ pv5 ((zaa.get 1).Low) hs hk)⟩))
 (fun hs hk=>(zyo K zaa zab zaQ (⟨0,(fun _=>default)⟩:Sl Int) (fun i=>zal ((fun _=>default) i)) rfl hs hk)) hs hk)⟩)
  exact key _ zaQ pv5 hs hk
def zqg (zaa:(Sl Gate)) (zab:(Sl Mp)) (zdi:Int):((Sl Int)×Int×Int) :=
  (zyr zaa zab zdi ((zaa.get 0).Low))
def zqh (zaa:(Sl Gate)) (zab:(Sl Mp)) (zdi:Int):Bool :=
  (decide ((0≤(0:Int)∧(0:Int) < (zaa.len:Int))) &&
 (zys zaa zab zdi ((zaa.get 0).Low)))
theorem zF2 (K:List PA→Prop) (zaa:(Sl Gate)) (zab:(Sl Mp)) (zdi:Int) (hs:zqh zaa zab zdi=true) (hk:K (e55 (zqg zaa zab zdi))):zmF (Wk K) zaa zab zdi:=by
  refine zaw (zFV (Wk K) zaa zab zdi) ?_
  unfold zqh at hs
  unfold zqg at hk
  exact (zau hs fun hc hs=>⟨hc,(zF1 K zaa zab zdi ((zaa.get 0).Low) hs hk)⟩)
def zmJ (zaa:(Sl Gate)) (zab:(Sl Mp)) (zaB:Int):((Sl Int)×Int×Int) :=
  (zqg zaa zab zaB)
def zmK (zaa:(Sl Gate)) (zab:(Sl Mp)) (zaB:Int):Bool :=
  (zqh zaa zab zaB)
def zko (zaa:(Sl Gate)) (zab:(Sl Mp)) (k24_0:Int) (k24_1:Int) (S3:Int→((Sl Int)×Int×Int)) (zaB:Int):((Sl Int)×Int×Int) :=
  (cond (decide (zaB < (0:Int)))
 (S3 (zdP (((zab.get 0).F) [k24_0,k24_1]) 0))
 (cond (decide ((zdP (((zab.get 0).F) [k24_0, k24_1]) 0) < zaB))
 (S3 (zdP (((zab.get 0).F) [k24_0,k24_1]) 0))
 (S3 zaB)))
def zkp (zaa:(Sl Gate)) (zab:(Sl Mp)) (k24_0:Int) (k24_1:Int) (P3:Int→Bool) (zaB:Int):Bool :=
  (cond (decide (zaB < (0:Int)))
 (P3 (zdP (((zab.get 0).F) [k24_0,k24_1]) 0))
 (cond (decide ((zdP (((zab.get 0).F) [k24_0, k24_1]) 0) < zaB))
 (P3 (zdP (((zab.get 0).F) [k24_0,k24_1]) 0))
 (P3 zaB)))
def zeF (zaa : (Sl Gate)) (zab : (Sl Mp)) : List (List Int) → Int → ((Sl Int) × Int × Int)
  | []=>zmJ zaa zab
  | y :: r=>zko zaa zab (y.getD 0 0) (y.getD 1 0) (zeF zaa zab r)
def zeG (zaa : (Sl Gate)) (zab : (Sl Mp)) : List (List Int) → Int → Bool
  | []=>zmK zaa zab
  | y :: r=>zkp zaa zab (y.getD 0 0) (y.getD 1 0) (zeG zaa zab r)
def zfh (_gates:Sl Gate) (t:Sl Mp) (ys:List (List Int)):Bool:=ys.all fun y=>decide (0≤zdP ((t.get 0).F y) 0)
theorem zF3 (zaa:Sl Gate) (t:Sl Mp):∀ (y:List Int) (r:List (List Int)),zfh zaa t (y :: r)=true→zfh zaa t r=true:=fun y r h=>by
  simp only [zfh,List.all_cons,Bool.and_eq_true] at h ⊢;exact h.2
def kst (F:List Int→Option (List Int)) (k:Int) (y:List Int):Int:=if k < 0 then zdP (F y) 0 else if zdP (F y) 0 < k then zdP (F y) 0 else k
theorem zsw (F:List Int→Option (List Int)) {ys zs:List (List Int)} (h:∀ y∈ys,0≤zdP (F y) 0) (hp:ys.Perm zs) (k:Int):ys.foldl (kst F) k=zs.foldl (kst F) k:=by
  refine hp.foldl_eq' (fun x hx y hy z=>?_) k
  have h1:=h x hx
  have h2:=h y hy
  unfold kst
  repeat' split
  all_goals omega
theorem zqi (zaa : Sl Gate) (t : Sl Mp) : ∀ (ys : List (List Int)) (k : Int), (∀ y ∈ ys, y.length = 2) → zeF zaa t ys k = zmJ zaa t (ys.foldl (kst (t.get 0).F) k)
  | [],k,_=>rfl
  | y :: r,k,h=>by
    have hy:=h y List.mem_cons_self
    match y,hy with
    | [a,b],_ =>
    have ih:=fun k=>zqi zaa t r k (fun z hz=>h z (List.mem_cons_of_mem _ hz))
    show zko zaa t a b (zeF zaa t r) k=_
    rw [List.foldl_cons]
    unfold zko
    by_cases h1:k < 0
    · rw [decide_eq_true h1,cond_true,ih,show kst (t.get 0).F k [a,b]=zdP ((t.get 0).F [a,b]) 0 from if_pos h1]
    · rw [decide_eq_false h1, cond_false]
      by_cases h2:zdP ((t.get 0).F [a,b]) 0 < k
      · rw [decide_eq_true h2,cond_true,ih,show kst (t.get 0).F k [a,b]=zdP ((t.get 0).F [a,b]) 0 from (if_neg h1).trans (if_pos h2)]
      · rw [decide_eq_false h2,cond_false,ih,show kst (t.get 0).F k [a,b]=k from (if_neg h1).trans (if_neg h2)]
theorem zqj (zaa : Sl Gate) (t : Sl Mp) : ∀ (ys : List (List Int)) (k : Int), (∀ y ∈ ys, y.length = 2) → zeG zaa t ys k = zmK zaa t (ys.foldl (kst (t.get 0).F) k)
  | [],k,_=>rfl
  | y :: r,k,h=>by
    have hy:=h y List.mem_cons_self
    match y,hy with
    | [a,b],_ =>
    have ih:=fun k=>zqj zaa t r k (fun z hz=>h z (List.mem_cons_of_mem _ hz))
    show zkp zaa t a b (zeG zaa t r) k=_
    rw [List.foldl_cons]
    unfold zkp
    by_cases h1:k < 0
    · rw [decide_eq_true h1,cond_true,ih,show kst (t.get 0).F k [a,b]=zdP ((t.get 0).F [a,b]) 0 from if_pos h1]
    · rw [decide_eq_false h1, cond_false]
      by_cases h2:zdP ((t.get 0).F [a,b]) 0 < k
      · rw [decide_eq_true h2,cond_true,ih,show kst (t.get 0).F k [a,b]=zdP ((t.get 0).F [a,b]) 0 from (if_neg h1).trans (if_pos h2)]
      · rw [decide_eq_false h2,cond_false,ih,show kst (t.get 0).F k [a,b]=k from (if_neg h1).trans (if_neg h2)]
theorem zF4 (zaa : Sl Gate) (t : Sl Mp) (ys zs : List (List Int)) (hl : ∀ y ∈ ys, y.length = 2) (h : zfh zaa t ys = true) (hp : ys.Perm zs) :
    zfh zaa t zs=true∧zeF zaa t ys=zeF zaa t zs∧zeG zaa t ys=zeG zaa t zs:=by
  simp only [zfh,List.all_eq_true,decide_eq_true_eq] at h ⊢
  have hl2:∀ y∈zs,y.length=2:=fun y hy=>hl y (hp.mem_iff.2 hy)
  refine ⟨fun y hy=>h y (hp.mem_iff.2 hy),funext fun k=>?_,funext fun k=>?_⟩
  · rw [zqi zaa t ys k hl,zqi zaa t zs k hl2,zsw _ h hp]
  · rw [zqj zaa t ys k hl,zqj zaa t zs k hl2,zsw _ h hp]
def zqk (zaa:(Sl Gate)) (zab:(Sl Mp)) (zaB:Int):((Sl Int)×Int×Int):=zeF zaa zab (zob zaa) zaB
def zql (zaa:(Sl Gate)) (zab:(Sl Mp)) (zaB:Int):Bool:=keysB 2 ((zab.get 0).n) ((zab.get 0).F) (zob zaa) && zfh zaa zab (zob zaa) && zeG zaa zab (zob zaa) zaB
theorem zF5 (K:List PA→Prop) (zaa:(Sl Gate)) (zab:(Sl Mp)) (zaB:Int) (hs:zql zaa zab zaB=true) (hk:K (e55 (zqk zaa zab zaB))):zj9 (Wk K) zaa zab [] zaB:=by
  unfold zql at hs
  rw [Bool.and_eq_true,Bool.and_eq_true] at hs
  obtain ⟨⟨hkeys,hI⟩,hs⟩:=hs
  unfold zqk at hk
  generalize hys:zob zaa=ys0 at hkeys hI hs hk
  refine zyf (Wk K) zaa zab [] zaB ?_
  intro X3 hstep
  have key:∀ (N:Nat) (ys:List (List Int)) (seen:List (List Int)) (zaB:Int),ys.length=N→(zHQ 2 ((zab.get 0).n) ((zab.get 0).F)→zIh 2 ((zab.get 0).F) seen ys)→zfh zaa zab ys=true→zeG zaa zab ys zaB=true→K (e55 (zeF zaa zab ys zaB))→X3 (zg4 zaa zab seen zaB):=by
    intro N
    induction N with
    | zero =>
      intro ys seen zaB hN hrem hI hs hk
      obtain rfl:=List.eq_nil_of_length_eq_zero hN
      refine hstep seen zaB ?_
      intro hfin
      have hrem:=hrem hfin
      refine ⟨fun _=>?_,fun k24_0 k24_1 hF hns=>absurd (hrem.2.2 [k24_0,k24_1] rfl hF hns) (by simp)⟩
      have hs:zmK zaa zab zaB=true:=hs
      have hk:K (e55 (zmJ zaa zab zaB)):=hk
      unfold zmK at hs
      unfold zmJ at hk
      exact (zF2 K zaa zab zaB hs hk)
    | succ N ih =>
      intro ys seen zaB hN hrem hI hs hk
      refine hstep seen zaB ?_
      intro hfin
      have hrem:=hrem hfin
      refine ⟨fun hend=>?_,fun k24_0 k24_1 hF hns=>?_⟩
      · exact absurd (zDI hrem hend) (fun e=>by rw [e] at hN;simp at hN)
      · obtain ⟨hperm, hrem2, hlen⟩ := zAO hrem (c := [k24_0, k24_1]) rfl hF hns
        obtain ⟨hI2,e1,e2⟩:=zF4 zaa zab ys _ (fun y hy=>(hrem.2.1 y hy).1) hI hperm
        have hI3:=zF3 zaa zab _ _ hI2
        rw [e2] at hs
        rw [e1] at hk
        have hs:zkp zaa zab k24_0 k24_1 (zeG zaa zab (ys.erase [k24_0,k24_1])) zaB=true:=hs
        have hk:K (e55 (zko zaa zab k24_0 k24_1 (zeF zaa zab (ys.erase [k24_0,k24_1])) zaB)):=hk
        have ih:=fun (zaB:Int)=>ih (ys.erase [k24_0,k24_1]) ([k24_0,k24_1] :: seen) zaB (by omega) (fun _=>hrem2) hI3
        unfold zkp at hs
        unfold zko at hk
        generalize zeF zaa zab (ys.erase [k24_0,k24_1])=S3 at hk ih
        generalize zeG zaa zab (ys.erase [k24_0,k24_1])=P3 at hs ih
        have hX3:=ih
        exact (zcj (K := fun r => K (e55 r))
 (fun hs hk=>(hX3 (zdP (((zab.get 0).F) [k24_0,k24_1]) 0) hs hk))
 (fun hs hk => (zcj (K := fun r => K (e55 r))
 (fun hs hk=>(hX3 (zdP (((zab.get 0).F) [k24_0,k24_1]) 0) hs hk))
 (fun hs hk=>(hX3 zaB hs hk)) hs hk)) hs hk)
  exact key _ ys0 [] zaB rfl (fun hf=>zuY hkeys hf) hI hs hk
def zqm (zaa:(Sl Gate)) (zab:(Sl Mp)):((Sl Int)×Int×Int) :=
  (zqk zaa zab (-1:Int))
def zqn (zaa:(Sl Gate)) (zab:(Sl Mp)):Bool :=
  (decide ((0≤(0:Int)∧(0:Int) < (zab.len:Int))) &&
 (zql zaa zab (-1:Int)))
theorem zF6 (K:List PA→Prop) (zaa:(Sl Gate)) (zab:(Sl Mp)) (zeg:Nat→List PV) (zyt:zeg=fun i=>zcF (zab.get i)) (hs:zqn zaa zab=true) (hk:K (e55 (zqm zaa zab))):zmE (Wk K) zaa zab.len zeg:=by
  subst zyt
  refine zaw (zFU (Wk K) zaa zab) ?_
  unfold zqn at hs
  unfold zqm at hk
  exact (zau hs fun hc hs=>⟨hc,(zF5 K zaa zab (-1:Int) hs hk)⟩)
def zqo (zaa:(Sl Gate)):((Sl Int)×Int×Int) :=
  (zqm zaa (s93 zaa))
def zqp (zaa:(Sl Gate)):Bool :=
  (decide ((p93 zaa=true)) &&
 (zqn zaa (s93 zaa)))
theorem zF7 (K:List PA→Prop) (zaa:(Sl Gate)) (hs:zqp zaa=true) (hk:K (e55 (zqo zaa))):zmD (Wk K) zaa:=by
  refine zaw (zFT (Wk K) zaa) ?_
  unfold zqp at hs
  unfold zqo at hk
  exact (zau hs fun hc hs=>⟨⟨isE,hc⟩,(zF6 K zaa (s93 zaa) (fun i=>zcF ((s93 zaa).get i)) rfl hs hk)⟩)
def zqq (zaa:(Sl Gate)) (zgq:Bool):((Sl Int)×Int×Int) :=
  (cond zgq
 ((⟨0,fun _=>default⟩:(Sl Int)),(0:Int),(2:Int))
 (zqo zaa))
def zqr (zaa:(Sl Gate)) (zgq:Bool):Bool :=
  (cond zgq
 true
 (zqp zaa))
theorem zF8 (K:List PA→Prop) (zaa:(Sl Gate)) (zgq:Bool) (hs:zqr zaa zgq=true) (hk:K (e55 (zqq zaa zgq))):zmC (Wk K) zaa zgq:=by
  refine zaw (zFS (Wk K) zaa zgq) ?_
  unfold zqr at hs
  unfold zqq at hk
  exact (zcj (K := fun r => K (e55 r))
 (fun hs hk=>(wk hk (zc9 (.one (.nil _ _)) (zc9 (.one (.rfl _)) (zc9 (.one (.rfl _)) zhl)))))
 (fun hs hk=>(zF7 K zaa hs hk)) hs hk)
def s55 (zaa:(Sl Gate)):((Sl Int)×Int×Int) :=
  (zqq zaa (!(s92 zaa)))
def p55 (zaa:(Sl Gate)):Bool :=
  (decide ((p92 zaa=true)) &&
 (zqr zaa (!(s92 zaa))))
theorem q55 (zaa:(Sl Gate)) (K:List PA→Prop) (hs:p55 zaa=true) (hk:K (e55 (s55 zaa))):vcFun Try.prog G55 zaV 55 [.one (.sl zaa.len 3 (fun i=>enc_55 (zaa.get i)))] (Wk K):=by
  refine zaw (zFR zaa (Wk K)) ?_
  unfold p55 at hs
  unfold s55 at hk
  exact (zau hs fun hc hs=>⟨⟨isE,hc⟩,(zF8 K zaa (!(s92 zaa)) hs hk)⟩)
def zF9 : List PA → COut
  | [.one (.sl a0_n a0_s a0_g)]=>.det (IsE enc_55 3 a0_s a0_g∧p55 (⟨a0_n,zae a0_g⟩:(Sl Gate))=true) [.one (.sl (((s55 (⟨a0_n,zae a0_g⟩:(Sl Gate))).1).len) 1 (fun i=>zal (((s55 (⟨a0_n,zae a0_g⟩:(Sl Gate))).1).get i))),.one (.int .i64 ((s55 (⟨a0_n,zae a0_g⟩:(Sl Gate))).2.1)),.one (.int .i64 ((s55 (⟨a0_n,zae a0_g⟩:(Sl Gate))).2.2))]
  | _=>.no
theorem zJQ:zaf Try.prog 55:=⟨_,rfl,rfl,by kernel_rfl⟩
theorem zPD:Ok Try.prog 55 zF9:=zhm zMA zJQ fun args K h=>by
  unfold zF9 at h
  split at h
  · rename_i a0_n a0_s a0_g
    obtain ⟨⟨⟨rfl,a0_f,rfl⟩,hs⟩,hk⟩:=h
    try rw [zac a0_f] at hs
    try rw [zac a0_f] at hk
    exact ⟨_,ze0 zfW _,(fun _ _=>[]),(fun _=>false),zaV,q55 (⟨a0_n,a0_f⟩:(Sl Gate)) K hs hk⟩
  · exact h.elim
abbrev T62:Tabs:=Tabs.nil
theorem zMB:TabsOk Try.prog T62:=TabsOk.nil
abbrev G62:Ctrs:=csm T62 (fun _ _=>[]) (fun _=>false)
def zJR:Ann:=⟨5,[(0,zK [] []),(1,zK [0] [4])],
 [],
 [],
 [],[]⟩
abbrev R62:=(Sl Gate)
abbrev e62 (r:R62):List PA:=[.one (.sl r.len 3 (fun i=>enc_55 (r.get i)))]
section
variable {K:List PA→Prop}
def s62:(Sl Gate) :=
  (⟨3,(zi5 (⟨(0:Int),(0:Int),(10:Int)⟩:Gate) [(⟨(0:Int),(0:Int),(10:Int)⟩:Gate),(⟨(100:Int),(20:Int),(30:Int)⟩:Gate),(⟨(200:Int),(30:Int),(60:Int)⟩:Gate)])⟩:(Sl Gate))
end
theorem q62 (K:List PA→Prop) (hk:K (e62 (s62))):vcFun Try.prog G62 zJR 62 [] K :=
  zaw (by kernel_rfl) (Eq.mpr (congrArg K (congrArg (fun (g_:Nat→List PV)=>([.one (.sl 3 3 g_)]:List PA)) (zes (enc:=enc_55) (x:=(⟨(0:Int),(0:Int),(10:Int)⟩:Gate)) (y:=(⟨(100:Int),(20:Int),(30:Int)⟩:Gate)) (r:=[(⟨(200:Int),(30:Int),(60:Int)⟩:Gate)])))) hk)
def zGa : List PA → COut
  | []=>.tot [.one (.sl ((s62).len) 3 (fun i=>enc_55 ((s62).get i)))]
  | _=>.no
theorem zJS:zaf Try.prog 62:=⟨_,rfl,rfl,by kernel_rfl⟩
theorem zPE:Ok Try.prog 62 zGa:=zay zMB zJS fun args K h=>by
  unfold zGa at h
  split at h
  · have hk := h
    exact ⟨(fun _ _=>[]),(fun _=>false),zJR,q62 K hk⟩
  · exact h.elim
abbrev T63:Tabs:=Tabs.nil
theorem zMC:TabsOk Try.prog T63:=TabsOk.nil
abbrev G63:Ctrs:=csm T63 (fun _ _=>[]) (fun _=>false)
def zJT:Ann:=⟨5,[(0,zK [] []),(1,zK [0] [4])],
 [],
 [],
 [],[]⟩
abbrev R63:=(Sl Gate)
abbrev e63 (r:R63):List PA:=[.one (.sl r.len 3 (fun i=>enc_55 (r.get i)))]
section
variable {K:List PA→Prop}
def s63:(Sl Gate) :=
  (⟨3,(zi5 (⟨(0:Int),(0:Int),(10:Int)⟩:Gate) [(⟨(0:Int),(0:Int),(10:Int)⟩:Gate),(⟨(100:Int),(20:Int),(30:Int)⟩:Gate),(⟨(200:Int),(0:Int),(9:Int)⟩:Gate)])⟩:(Sl Gate))
end
theorem q63 (K:List PA→Prop) (hk:K (e63 (s63))):vcFun Try.prog G63 zJT 63 [] K :=
  zaw (by kernel_rfl) (Eq.mpr (congrArg K (congrArg (fun (g_:Nat→List PV)=>([.one (.sl 3 3 g_)]:List PA)) (zes (enc:=enc_55) (x:=(⟨(0:Int),(0:Int),(10:Int)⟩:Gate)) (y:=(⟨(100:Int),(20:Int),(30:Int)⟩:Gate)) (r:=[(⟨(200:Int),(0:Int),(9:Int)⟩:Gate)])))) hk)
def zGb : List PA → COut
  | []=>.tot [.one (.sl ((s63).len) 3 (fun i=>enc_55 ((s63).get i)))]
  | _=>.no
theorem zJU:zaf Try.prog 63:=⟨_,rfl,rfl,by kernel_rfl⟩
theorem zPF:Ok Try.prog 63 zGb:=zay zMC zJU fun args K h=>by
  unfold zGb at h
  split at h
  · have hk := h
    exact ⟨(fun _ _=>[]),(fun _=>false),zJT,q63 K hk⟩
  · exact h.elim
abbrev T18:Tabs:=((((((((((Tabs.nil.addF 19 zBk).addF 30 zEY).addF 31 zFd).addF 34 zFh).addF 38 zFy).addF 39 zFB).addF 40 zp0).addF 55 zF9).addF 62 zGa).addF 63 zGb)
theorem zMD:TabsOk Try.prog T18:=((((((((((TabsOk.nil.addF zNL).addF zPn).addF zPw).addF zPx).addF zPz).addF zPA).addF zLf).addF zPD).addF zPE).addF zPF)
abbrev G18:Ctrs:=csm T18 (fun _ _=>[]) (fun _=>false)
def zGc:Ann:=⟨125,[(0,zK [] []),(1,zK [1,2] []),(2,zK [1,2,3,4,5] [3,4]),(3,zK [1,2,3,4,5,6,7] [3,4]),(4,zK [1,2,3,4,5,6,7,8,9,10,11] [3,4,9,10]),(5,zK [1,2,3,4,5,6,7,8,9,10,11,12,13,14] [3,4,9,10]),(6,zK [1,3,4,6,9,10,12,76] [3,4,9,10]),(7,zK [0] []),(8,zK [1,3,4,6,9,10,12,15] [3,4,9,10,89]),(9,zK [0] [])],
 [],
 [(2,zK [1,2] []),(3,zK [1,2,3,4,5] [3,4]),(4,zK [1,2,3,4,5,6,7] [3,4]),(5,zK [1,2,3,4,5,6,7,8,9,10,11] [3,4,9,10]),(6,zK [1,2,3,4,5,6,7,8,9,10,11,12,13,14] [3,4,9,10]),(8,zK [1,3,4,6,9,10,12] [3,4,9,10]),(9,zK [1,3,4,6,9,10,12,15] [3,4,9,10,89])],
 [],[]⟩
abbrev R18:=Bool
abbrev e18 (r:R18):List PA:=[.one (.bool r)]
@[irreducible] def z18:=ptF Try.prog G18 zGc Try.f18
section
variable {K:List PA→Prop} {cv0:(Sl Line)} {ev0:Int} {zJV:Nat→List PV} {fv1:Int} {zaX:Int} {zaY:Int} {zaI:Int} {zaJ:Int} {sv2:(Sl Int)} {gv2:Int} {zJW:Nat→List PV} {sv3:(Sl Int)} {zv3:Int} {hv3:Int} {zcO:Int} {zcP:Int} {zcQ:Int} {zcR:Int} {zJX:Nat→List PV} {sv4:(Sl Int)} {lv4:(Sl Int)} {kv4:Int} {iv4:Int} {zJY:Nat→List PV} {zJZ:Nat→List PV} {sv5:(Sl Int)} {zJ0:Nat→List PV} {sv6:(Sl Int)} {zkT:(Sl Line)} {zJ1:Nat→List PV} {zyu:Nat→List PV}
def zyv (cv0:(Sl Line)) (zaX:Int) (zaY:Int) (zaI:Int) (zaJ:Int) (zcO:Int) (zcP:Int) (zcQ:Int) (zcR:Int) (lv4:(Sl Int)) (sv6:(Sl Int)) (zkT:(Sl Line)):Bool :=
  (cond (s34 cv0 zkT)
 (cond (match (zaX == (s40 (40:Int) (1:Int)).Num) with | true => (match (zaY == (s40 (40:Int) (1:Int)).Den) with | true => true | false => false) | false => false)
 (cond (match (zaI == (s40 (90:Int) (1:Int)).Num) with | true => (match (zaJ == (s40 (90:Int) (1:Int)).Den) with | true => true | false => false) | false => false)
 (cond ((s39 sv6 (⟨3, zcT (zdk [(zal (0:Int)), (zal (1:Int)), (zal (2:Int))])⟩ : (Sl Int))) == (0:Int))
 (cond (match (zcO == (s40 (499:Int) (10:Int)).Num) with | true => (match (zcP == (s40 (499:Int) (10:Int)).Den) with | true => true | false => false) | false => false)
 (cond (match (zcQ == (s40 (501:Int) (10:Int)).Num) with | true => (match (zcR == (s40 (501:Int) (10:Int)).Den) with | true => true | false => false) | false => false)
 ((s39 lv4 (⟨3,zcT (zdk [(zal (2:Int)),(zal (5:Int)),(zal (2:Int))])⟩:(Sl Int))) == (0:Int))
 false)
 false)
 false)
 false)
 false)
 false)
def zyw (cv0:(Sl Line)) (zaX:Int) (zaY:Int) (zaI:Int) (zaJ:Int) (zcO:Int) (zcP:Int) (zcQ:Int) (zcR:Int) (lv4:(Sl Int)) (sv6:(Sl Int)) (zkT:(Sl Line)):Bool :=
  (decide ((p34 cv0 zkT=true)) &&
 (cond (s34 cv0 zkT)
 (decide ((p40 (40:Int) (1:Int)=true)) &&
 (cond (match (zaX == (s40 (40:Int) (1:Int)).Num) with | true => (match (zaY == (s40 (40:Int) (1:Int)).Den) with | true => true | false => false) | false => false)
 (decide ((p40 (90:Int) (1:Int)=true)) &&
 (cond (match (zaI == (s40 (90:Int) (1:Int)).Num) with | true => (match (zaJ == (s40 (90:Int) (1:Int)).Den) with | true => true | false => false) | false => false)
 (decide ((p39 sv6 (⟨3,zcT (zdk [(zal (0:Int)),(zal (1:Int)),(zal (2:Int))])⟩:(Sl Int))=true)) &&
 (cond ((s39 sv6 (⟨3, zcT (zdk [(zal (0:Int)), (zal (1:Int)), (zal (2:Int))])⟩ : (Sl Int))) == (0:Int))
 (decide ((p40 (499:Int) (10:Int)=true)) &&
 (cond (match (zcO == (s40 (499:Int) (10:Int)).Num) with | true => (match (zcP == (s40 (499:Int) (10:Int)).Den) with | true => true | false => false) | false => false)
 (decide ((p40 (501:Int) (10:Int)=true)) &&
 (cond (match (zcQ == (s40 (501:Int) (10:Int)).Num) with | true => (match (zcR == (s40 (501:Int) (10:Int)).Den) with | true => true | false => false) | false => false)
 (decide ((p39 lv4 (⟨3,zcT (zdk [(zal (2:Int)),(zal (5:Int)),(zal (2:Int))])⟩:(Sl Int))=true)) &&
 true)
 true))
 true))
 true))
 true))
 true))
 true))
theorem zGd (hs:zyw cv0 zaX zaY zaI zaJ zcO zcP zcQ zcR lv4 sv6 zkT=true) (hk:K (e18 (zyv cv0 zaX zaY zaI zaJ zcO zcP zcQ zcR lv4 sv6 zkT))) (zME:zJ1=zg zal sv6) (zGe:zyu=zg zav zkT):z18 K [1,1,1,1,1,1,1,1] [] ⟨[(1,zS zav 4 cv0),(3,zp 3 0),(4,zp 4 0),(6,zP (.sl sv6.len 1 zJ1)),(9,zp 9 0),(10,zp 10 0),(12,zS zal 1 lv4),(15,zv 89)],[(3,.box 25 (zm (zad (⟨zaX,zaY⟩:Frac)))),(4,.box 25 (zm (zad (⟨zaI,zaJ⟩:Frac)))),(9,.box 25 (zm (zad (⟨zcO,zcP⟩:Frac)))),(10,.box 25 (zm (zad (⟨zcQ,zcR⟩:Frac)))),(89,.vec 37 4 32 zkT.len zyu)],[]⟩:=by subst zME;subst zGe;exact zaw (by kernel_rfl) (zau hs fun hc hs=>And.intro (And.intro (zE zav 4 cv0.get) (And.intro (zE zav 4 zkT.get) hc)) (zc hs hk (fun hs hk=>(zau hs fun hc hs=>And.intro hc (zc hs hk (fun hs hk=>(zau hs fun hc hs=>And.intro hc (zc hs hk (fun hs hk=>(zau hs fun hc hs=>And.intro (And.intro (zE zal 1 sv6.get) (And.intro ((zfw [(2:Int)]):IsE zal 1 1 (zdk [(zal (0:Int)),(zal (1:Int)),(zal (2:Int))])) hc)) (zc hs hk (fun hs hk=>(zau hs fun hc hs=>And.intro hc (zc hs hk (fun hs hk=>(zau hs fun hc hs=>And.intro hc (zc hs hk (fun hs hk=>(zau hs fun hc hs=>And.intro (And.intro (zE zal 1 lv4.get) (And.intro ((zfw [(2:Int)]):IsE zal 1 1 (zdk [(zal (2:Int)),(zal (5:Int)),(zal (2:Int))])) hc)) hk)) (fun hs hk=>hk)))) (fun hs hk=>hk)))) (fun hs hk=>hk)))) (fun hs hk=>hk)))) (fun hs hk=>hk)))) (fun hs hk=>hk)))
def zyx (cv0:(Sl Line)) (zaX:Int) (zaY:Int) (zaI:Int) (zaJ:Int) (zcO:Int) (zcP:Int) (zcQ:Int) (zcR:Int) (lv4:(Sl Int)) (sv5:(Sl Int)):Bool :=
  (zyv cv0 zaX zaY zaI zaJ zcO zcP zcQ zcR lv4 sv5 (⟨4,(zi5 (⟨(s40 (1:Int) (10:Int)),(s40 (10:Int) (1:Int))⟩:Line) [(⟨(s40 (1:Int) (10:Int)),(s40 (10:Int) (1:Int))⟩:Line),(⟨(s40 (1:Int) (5:Int)),(s40 (0:Int) (1:Int))⟩:Line),(⟨(s40 (3:Int) (10:Int)),(s40 (0:Int) (1:Int))⟩:Line),(⟨(s40 (1:Int) (5:Int)),(s40 (10:Int) (1:Int))⟩:Line)])⟩:Sl Line))
def zyy (cv0:(Sl Line)) (zaX:Int) (zaY:Int) (zaI:Int) (zaJ:Int) (zcO:Int) (zcP:Int) (zcQ:Int) (zcR:Int) (lv4:(Sl Int)) (sv5:(Sl Int)):Bool :=
  (decide ((p40 (1:Int) (10:Int)=true)) &&
 (decide ((p40 (10:Int) (1:Int)=true)) &&
 (decide ((p40 (1:Int) (5:Int)=true)) &&
 (decide ((p40 (0:Int) (1:Int)=true)) &&
 (decide ((p40 (3:Int) (10:Int)=true)) &&
 (decide ((p40 (0:Int) (1:Int)=true)) &&
 (decide ((p40 (1:Int) (5:Int)=true)) &&
 (decide ((p40 (10:Int) (1:Int)=true)) &&
 (zyw cv0 zaX zaY zaI zaJ zcO zcP zcQ zcR lv4 sv5 (⟨4,(zi5 (⟨(s40 (1:Int) (10:Int)),(s40 (10:Int) (1:Int))⟩:Line) [(⟨(s40 (1:Int) (10:Int)),(s40 (10:Int) (1:Int))⟩:Line),(⟨(s40 (1:Int) (5:Int)),(s40 (0:Int) (1:Int))⟩:Line),(⟨(s40 (3:Int) (10:Int)),(s40 (0:Int) (1:Int))⟩:Line),(⟨(s40 (1:Int) (5:Int)),(s40 (10:Int) (1:Int))⟩:Line)])⟩:Sl Line))))))))))
theorem zGf (hs:zyy cv0 zaX zaY zaI zaJ zcO zcP zcQ zcR lv4 sv5=true) (hk:K (e18 (zyx cv0 zaX zaY zaI zaJ zcO zcP zcQ zcR lv4 sv5))) (zMF:zJ0=zg zal sv5):z18 K [1,1,1,1,1,1,1] [] ⟨[(1,zS zav 4 cv0),(3,zp 3 0),(4,zp 4 0),(6,zP (.sl sv5.len 1 zJ0)),(9,zp 9 0),(10,zp 10 0),(12,zS zal 1 lv4)],[(3,.box 25 (zm (zad (⟨zaX,zaY⟩:Frac)))),(4,.box 25 (zm (zad (⟨zaI,zaJ⟩:Frac)))),(9,.box 25 (zm (zad (⟨zcO,zcP⟩:Frac)))),(10,.box 25 (zm (zad (⟨zcQ,zcR⟩:Frac))))],[]⟩:=by subst zMF;exact zaw (by kernel_rfl) (zau hs fun hc hs=>And.intro hc (zau hs fun hc hs=>And.intro hc (zau hs fun hc hs=>And.intro hc (zau hs fun hc hs=>And.intro hc (zau hs fun hc hs=>And.intro hc (zau hs fun hc hs=>And.intro hc (zau hs fun hc hs=>And.intro hc (zau hs fun hc hs=>And.intro hc (zGd hs hk rfl (zes (enc:=zav) (x:=(⟨(s40 (1:Int) (10:Int)),(s40 (10:Int) (1:Int))⟩:Line)) (y:=(⟨(s40 (1:Int) (5:Int)),(s40 (0:Int) (1:Int))⟩:Line)) (r:=[(⟨(s40 (3:Int) (10:Int)),(s40 (0:Int) (1:Int))⟩:Line),(⟨(s40 (1:Int) (5:Int)),(s40 (10:Int) (1:Int))⟩:Line)])))))))))))
def zyz (cv0:(Sl Line)) (ev0:Int) (fv1:Int) (zaX:Int) (zaY:Int) (zaI:Int) (zaJ:Int) (gv2:Int) (zv3:Int) (hv3:Int) (zcO:Int) (zcP:Int) (zcQ:Int) (zcR:Int) (sv4:(Sl Int)) (lv4:(Sl Int)) (kv4:Int) (iv4:Int):Bool :=
  (cond (ev0 != (0:Int))
 false
 (cond (fv1 != (0:Int))
 false
 (cond (gv2 != (0:Int))
 false
 (cond (hv3 != (0:Int))
 false
 (cond (iv4 != (0:Int))
 false
 (cond (kv4 != (600:Int))
 false
 (cond (zv3 != (167:Int))
 false
 (zyx cv0 zaX zaY zaI zaJ zcO zcP zcQ zcR lv4 sv4))))))))
def zyA (cv0:(Sl Line)) (ev0:Int) (fv1:Int) (zaX:Int) (zaY:Int) (zaI:Int) (zaJ:Int) (gv2:Int) (zv3:Int) (hv3:Int) (zcO:Int) (zcP:Int) (zcQ:Int) (zcR:Int) (sv4:(Sl Int)) (lv4:(Sl Int)) (kv4:Int) (iv4:Int):Bool :=
  (cond (ev0 != (0:Int))
 true
 (cond (fv1 != (0:Int))
 true
 (cond (gv2 != (0:Int))
 true
 (cond (hv3 != (0:Int))
 true
 (cond (iv4 != (0:Int))
 true
 (cond (kv4 != (600:Int))
 true
 (cond (zv3 != (167:Int))
 true
 (zyy cv0 zaX zaY zaI zaJ zcO zcP zcQ zcR lv4 sv4))))))))
theorem zGg (hs:zyA cv0 ev0 fv1 zaX zaY zaI zaJ gv2 zv3 hv3 zcO zcP zcQ zcR sv4 lv4 kv4 iv4=true) (hk:K (e18 (zyz cv0 ev0 fv1 zaX zaY zaI zaJ gv2 zv3 hv3 zcO zcP zcQ zcR sv4 lv4 kv4 iv4))) (zMG:zJY=zg zal sv4) (zMH:zJZ=zg zal lv4):z18 K [1,1,1,1,1,1] [] ⟨[(1,zS zav 4 cv0),(2,zI ev0),(3,zp 3 0),(4,zp 4 0),(5,zI fv1),(6,zP (.sl sv4.len 1 zJY)),(7,zI gv2),(8,zI zv3),(9,zp 9 0),(10,zp 10 0),(11,zI hv3),(12,zP (.sl lv4.len 1 zJZ)),(13,zI kv4),(14,zI iv4)],[(3,.box 25 (zm (zad (⟨zaX,zaY⟩:Frac)))),(4,.box 25 (zm (zad (⟨zaI,zaJ⟩:Frac)))),(9,.box 25 (zm (zad (⟨zcO,zcP⟩:Frac)))),(10,.box 25 (zm (zad (⟨zcQ,zcR⟩:Frac))))],[]⟩:=by subst zMG;subst zMH;exact zaw (by kernel_rfl) (zc hs hk (fun hs hk=>hk) (fun hs hk=>(zc hs hk (fun hs hk=>hk) (fun hs hk=>(zc hs hk (fun hs hk=>hk) (fun hs hk=>(zc hs hk (fun hs hk=>hk) (fun hs hk=>(zc hs hk (fun hs hk=>hk) (fun hs hk=>(zc hs hk (fun hs hk=>hk) (fun hs hk=>(zc hs hk (fun hs hk=>hk) (fun hs hk=>(zGf hs hk rfl)))))))))))))))
def zyB (cv0:(Sl Line)) (ev0:Int) (fv1:Int) (zaX:Int) (zaY:Int) (zaI:Int) (zaJ:Int) (gv2:Int) (sv3:(Sl Int)) (zv3:Int) (hv3:Int) (zcO:Int) (zcP:Int) (zcQ:Int) (zcR:Int):Bool :=
  (zyz cv0 ev0 fv1 zaX zaY zaI zaJ gv2 zv3 hv3 zcO zcP zcQ zcR sv3 ((s55 (⟨3,zae (zdk [(enc_55 (⟨(0:Int),(0:Int),(2:Int)⟩:Gate)),(enc_55 (⟨(10:Int),(5:Int),(6:Int)⟩:Gate)),(enc_55 (⟨(20:Int),(0:Int),(2:Int)⟩:Gate))])⟩:(Sl Gate))).1) ((s55 (⟨3,zae (zdk [(enc_55 (⟨(0:Int),(0:Int),(2:Int)⟩:Gate)),(enc_55 (⟨(10:Int),(5:Int),(6:Int)⟩:Gate)),(enc_55 (⟨(20:Int),(0:Int),(2:Int)⟩:Gate))])⟩:(Sl Gate))).2.1) ((s55 (⟨3,zae (zdk [(enc_55 (⟨(0:Int),(0:Int),(2:Int)⟩:Gate)),(enc_55 (⟨(10:Int),(5:Int),(6:Int)⟩:Gate)),(enc_55 (⟨(20:Int),(0:Int),(2:Int)⟩:Gate))])⟩:(Sl Gate))).2.2))
def zyC (cv0:(Sl Line)) (ev0:Int) (fv1:Int) (zaX:Int) (zaY:Int) (zaI:Int) (zaJ:Int) (gv2:Int) (sv3:(Sl Int)) (zv3:Int) (hv3:Int) (zcO:Int) (zcP:Int) (zcQ:Int) (zcR:Int):Bool :=
  (decide ((p55 (⟨3,zae (zdk [(enc_55 (⟨(0:Int),(0:Int),(2:Int)⟩:Gate)),(enc_55 (⟨(10:Int),(5:Int),(6:Int)⟩:Gate)),(enc_55 (⟨(20:Int),(0:Int),(2:Int)⟩:Gate))])⟩:(Sl Gate))=true)) &&
 (zyA cv0 ev0 fv1 zaX zaY zaI zaJ gv2 zv3 hv3 zcO zcP zcQ zcR sv3 ((s55 (⟨3,zae (zdk [(enc_55 (⟨(0:Int),(0:Int),(2:Int)⟩:Gate)),(enc_55 (⟨(10:Int),(5:Int),(6:Int)⟩:Gate)),(enc_55 (⟨(20:Int),(0:Int),(2:Int)⟩:Gate))])⟩:(Sl Gate))).1) ((s55 (⟨3,zae (zdk [(enc_55 (⟨(0:Int),(0:Int),(2:Int)⟩:Gate)),(enc_55 (⟨(10:Int),(5:Int),(6:Int)⟩:Gate)),(enc_55 (⟨(20:Int),(0:Int),(2:Int)⟩:Gate))])⟩:(Sl Gate))).2.1) ((s55 (⟨3,zae (zdk [(enc_55 (⟨(0:Int),(0:Int),(2:Int)⟩:Gate)),(enc_55 (⟨(10:Int),(5:Int),(6:Int)⟩:Gate)),(enc_55 (⟨(20:Int),(0:Int),(2:Int)⟩:Gate))])⟩:(Sl Gate))).2.2)))
theorem zGh (hs:zyC cv0 ev0 fv1 zaX zaY zaI zaJ gv2 sv3 zv3 hv3 zcO zcP zcQ zcR=true) (hk:K (e18 (zyB cv0 ev0 fv1 zaX zaY zaI zaJ gv2 sv3 zv3 hv3 zcO zcP zcQ zcR))) (zMI:zJX=zg zal sv3):z18 K [1,1,1,1,1] [] ⟨[(1,zS zav 4 cv0),(2,zI ev0),(3,zp 3 0),(4,zp 4 0),(5,zI fv1),(6,zP (.sl sv3.len 1 zJX)),(7,zI gv2),(8,zI zv3),(9,zp 9 0),(10,zp 10 0),(11,zI hv3)],[(3,.box 25 (zm (zad (⟨zaX,zaY⟩:Frac)))),(4,.box 25 (zm (zad (⟨zaI,zaJ⟩:Frac)))),(9,.box 25 (zm (zad (⟨zcO,zcP⟩:Frac)))),(10,.box 25 (zm (zad (⟨zcQ,zcR⟩:Frac))))],[]⟩:=by subst zMI;exact zaw (by kernel_rfl) (zau hs fun hc hs=>And.intro (And.intro ((zfw [(⟨(20:Int),(0:Int),(2:Int)⟩:Gate)]):IsE enc_55 3 3 (zdk [(enc_55 (⟨(0:Int),(0:Int),(2:Int)⟩:Gate)),(enc_55 (⟨(10:Int),(5:Int),(6:Int)⟩:Gate)),(enc_55 (⟨(20:Int),(0:Int),(2:Int)⟩:Gate))])) hc) (zGg hs hk rfl rfl))
def zyD (cv0:(Sl Line)) (ev0:Int) (fv1:Int) (zaX:Int) (zaY:Int) (zaI:Int) (zaJ:Int) (sv2:(Sl Int)) (gv2:Int):Bool :=
  (zyB cv0 ev0 fv1 zaX zaY zaI zaJ gv2 sv2 ((s19 s62 (⟨2,zae (zdk [(enc_55 (⟨(0:Int),(100:Int),(110:Int)⟩:Gate)),(enc_55 (⟨(200:Int),(40:Int),(50:Int)⟩:Gate))])⟩:(Sl Gate)) (0:Int) (300:Int)).1) ((s19 s62 (⟨2,zae (zdk [(enc_55 (⟨(0:Int),(100:Int),(110:Int)⟩:Gate)),(enc_55 (⟨(200:Int),(40:Int),(50:Int)⟩:Gate))])⟩:(Sl Gate)) (0:Int) (300:Int)).2.2.2) (((s19 s62 (⟨2,zae (zdk [(enc_55 (⟨(0:Int),(100:Int),(110:Int)⟩:Gate)),(enc_55 (⟨(200:Int),(40:Int),(50:Int)⟩:Gate))])⟩:(Sl Gate)) (0:Int) (300:Int)).2.1).Num) (((s19 s62 (⟨2,zae (zdk [(enc_55 (⟨(0:Int),(100:Int),(110:Int)⟩:Gate)),(enc_55 (⟨(200:Int),(40:Int),(50:Int)⟩:Gate))])⟩:(Sl Gate)) (0:Int) (300:Int)).2.1).Den) (((s19 s62 (⟨2,zae (zdk [(enc_55 (⟨(0:Int),(100:Int),(110:Int)⟩:Gate)),(enc_55 (⟨(200:Int),(40:Int),(50:Int)⟩:Gate))])⟩:(Sl Gate)) (0:Int) (300:Int)).2.2.1).Num) (((s19 s62 (⟨2,zae (zdk [(enc_55 (⟨(0:Int),(100:Int),(110:Int)⟩:Gate)),(enc_55 (⟨(200:Int),(40:Int),(50:Int)⟩:Gate))])⟩:(Sl Gate)) (0:Int) (300:Int)).2.2.1).Den))
def zyE (cv0:(Sl Line)) (ev0:Int) (fv1:Int) (zaX:Int) (zaY:Int) (zaI:Int) (zaJ:Int) (sv2:(Sl Int)) (gv2:Int):Bool :=
  (decide ((p19 s62 (⟨2,zae (zdk [(enc_55 (⟨(0:Int),(100:Int),(110:Int)⟩:Gate)),(enc_55 (⟨(200:Int),(40:Int),(50:Int)⟩:Gate))])⟩:(Sl Gate)) (0:Int) (300:Int)=true)) &&
 (zyC cv0 ev0 fv1 zaX zaY zaI zaJ gv2 sv2 ((s19 s62 (⟨2,zae (zdk [(enc_55 (⟨(0:Int),(100:Int),(110:Int)⟩:Gate)),(enc_55 (⟨(200:Int),(40:Int),(50:Int)⟩:Gate))])⟩:(Sl Gate)) (0:Int) (300:Int)).1) ((s19 s62 (⟨2,zae (zdk [(enc_55 (⟨(0:Int),(100:Int),(110:Int)⟩:Gate)),(enc_55 (⟨(200:Int),(40:Int),(50:Int)⟩:Gate))])⟩:(Sl Gate)) (0:Int) (300:Int)).2.2.2) (((s19 s62 (⟨2,zae (zdk [(enc_55 (⟨(0:Int),(100:Int),(110:Int)⟩:Gate)),(enc_55 (⟨(200:Int),(40:Int),(50:Int)⟩:Gate))])⟩:(Sl Gate)) (0:Int) (300:Int)).2.1).Num) (((s19 s62 (⟨2,zae (zdk [(enc_55 (⟨(0:Int),(100:Int),(110:Int)⟩:Gate)),(enc_55 (⟨(200:Int),(40:Int),(50:Int)⟩:Gate))])⟩:(Sl Gate)) (0:Int) (300:Int)).2.1).Den) (((s19 s62 (⟨2,zae (zdk [(enc_55 (⟨(0:Int),(100:Int),(110:Int)⟩:Gate)),(enc_55 (⟨(200:Int),(40:Int),(50:Int)⟩:Gate))])⟩:(Sl Gate)) (0:Int) (300:Int)).2.2.1).Num) (((s19 s62 (⟨2,zae (zdk [(enc_55 (⟨(0:Int),(100:Int),(110:Int)⟩:Gate)),(enc_55 (⟨(200:Int),(40:Int),(50:Int)⟩:Gate))])⟩:(Sl Gate)) (0:Int) (300:Int)).2.2.1).Den)))
theorem zGi (hs:zyE cv0 ev0 fv1 zaX zaY zaI zaJ sv2 gv2=true) (hk:K (e18 (zyD cv0 ev0 fv1 zaX zaY zaI zaJ sv2 gv2))) (zMJ:zJW=zg zal sv2):z18 K [1,1,1,1] [] ⟨[(1,zS zav 4 cv0),(2,zI ev0),(3,zp 3 0),(4,zp 4 0),(5,zI fv1),(6,zP (.sl sv2.len 1 zJW)),(7,zI gv2)],[(3,.box 25 (zm (zad (⟨zaX,zaY⟩:Frac)))),(4,.box 25 (zm (zad (⟨zaI,zaJ⟩:Frac))))],[]⟩:=by subst zMJ;exact zaw (by kernel_rfl) (zau hs fun hc hs=>And.intro (And.intro (zE enc_55 3 s62.get) (And.intro ((zfw []):IsE enc_55 3 3 (zdk [(enc_55 (⟨(0:Int),(100:Int),(110:Int)⟩:Gate)),(enc_55 (⟨(200:Int),(40:Int),(50:Int)⟩:Gate))])) hc)) (zGh hs hk rfl))
def zyF (cv0:(Sl Line)) (ev0:Int) (fv1:Int) (zaX:Int) (zaY:Int) (zaI:Int) (zaJ:Int):Bool :=
  (zyD cv0 ev0 fv1 zaX zaY zaI zaJ ((s38 s63).1) ((s38 s63).2))
def zyG (cv0:(Sl Line)) (ev0:Int) (fv1:Int) (zaX:Int) (zaY:Int) (zaI:Int) (zaJ:Int):Bool :=
  (decide ((p38 s63=true)) &&
 (zyE cv0 ev0 fv1 zaX zaY zaI zaJ ((s38 s63).1) ((s38 s63).2)))
theorem zGj (hs:zyG cv0 ev0 fv1 zaX zaY zaI zaJ=true) (hk:K (e18 (zyF cv0 ev0 fv1 zaX zaY zaI zaJ))):z18 K [1,1,1] [] ⟨[(1,zS zav 4 cv0),(2,zI ev0),(3,zp 3 0),(4,zp 4 0),(5,zI fv1)],[(3,.box 25 (zm (zad (⟨zaX,zaY⟩:Frac)))),(4,.box 25 (zm (zad (⟨zaI,zaJ⟩:Frac))))],[]⟩:=zaw (by kernel_rfl) (zau hs fun hc hs=>And.intro (And.intro (zE enc_55 3 s63.get) hc) (zGi hs hk rfl))
def zyH (cv0:(Sl Line)) (ev0:Int):Bool :=
  (zyF cv0 ev0 ((s30 s62 (300:Int)).2.2) (((s30 s62 (300:Int)).1).Num) (((s30 s62 (300:Int)).1).Den) (((s30 s62 (300:Int)).2.1).Num) (((s30 s62 (300:Int)).2.1).Den))
def zyI (cv0:(Sl Line)) (ev0:Int):Bool :=
  (decide ((p30 s62 (300:Int)=true)) &&
 (zyG cv0 ev0 ((s30 s62 (300:Int)).2.2) (((s30 s62 (300:Int)).1).Num) (((s30 s62 (300:Int)).1).Den) (((s30 s62 (300:Int)).2.1).Num) (((s30 s62 (300:Int)).2.1).Den)))
theorem zGk (hs:zyI cv0 ev0=true) (hk:K (e18 (zyH cv0 ev0))) (zMK:zJV=zg zav cv0):z18 K [1,1] [] ⟨[(1,zP (.sl cv0.len 4 zJV)),(2,zI ev0)],[],[]⟩:=by subst zMK;exact zaw (by kernel_rfl) (zau hs fun hc hs=>And.intro (And.intro (zE enc_55 3 s62.get) hc) (zGj hs hk))
def s18:Bool :=
  (zyH ((s31 s62).1) ((s31 s62).2))
def p18:Bool :=
  (decide ((p31 s62=true)) &&
 (zyI ((s31 s62).1) ((s31 s62).2)))
end
theorem q18 (K:List PA→Prop) (hs:p18=true) (hk:K (e18 (s18))):vcFun Try.prog G18 zGc 18 [] K :=
  zaw (by kernel_rfl) (zau hs fun hc hs=>And.intro (And.intro (zE enc_55 3 s62.get) hc) (zGk hs hk rfl))
theorem zJ2:p18=true:=by kernel_rfl
theorem zJ3:s18=true:=by kernel_rfl
def zGl : List PA → COut
  | []=>.tot [.one (.bool true)]
  | _=>.no
theorem zJ4:zaf Try.prog 18:=⟨_,rfl,rfl,by kernel_rfl⟩
theorem zPG:Ok Try.prog 18 zGl:=zay zMD zJ4 fun args K h=>by
  unfold zGl at h
  split at h
  · refine ⟨fun _ _ => [], fun _ => false, zGc, q18 K zJ2 ?_⟩
    show K [.one (.bool s18)]
    rw [zJ3];exact h
  · exact h.elim
abbrev T70:Tabs:=Tabs.nil
theorem zML:TabsOk Try.prog T70:=TabsOk.nil
abbrev G70:Ctrs:=csm T70 (fun _ _=>[]) (fun _=>false)
def zJ5:Ann:=⟨15,[(0,zK [0,1,2] []),(1,zK [6] [])],
 [],
 [],
 [],[]⟩
abbrev R70:=Bool
abbrev e70 (r:R70):List PA:=[.one (.bool r)]
section
variable {K:List PA→Prop} {n:Int} {low:Int} {high:Int}
def s70 (n:Int) (low:Int) (high:Int):Bool :=
  (cond (decide (n ≥ low))
 (decide (n≤high))
 false)
end
theorem q70 (n:Int) (low:Int) (high:Int) (K:List PA→Prop) (hk:K (e70 (s70 n low high))):vcFun Try.prog G70 zJ5 70 [.one (.int .i64 n),.one (.int .i64 low),.one (.int .i64 high)] K :=
  zaw (by kernel_rfl) (zt hk (fun hk=>hk) (fun hk=>hk))
def zBu : List PA → COut
  | [.one (.int .i64 a0),.one (.int .i64 a1),.one (.int .i64 a2)]=>.tot [.one (.bool (s70 a0 a1 a2))]
  | _=>.no
theorem zJ6:zaf Try.prog 70:=⟨_,rfl,rfl,by kernel_rfl⟩
theorem zNZ:Ok Try.prog 70 zBu:=zay zML zJ6 fun args K h=>by
  unfold zBu at h
  split at h
  · rename_i a0 a1 a2
    have hk:=h
    exact ⟨(fun _ _=>[]),(fun _=>false),zJ5,q70 a0 a1 a2 K hk⟩
  · exact h.elim
abbrev T49:Tabs:=(Tabs.nil.addF 70 zBu)
theorem zMM:TabsOk Try.prog T49:=(TabsOk.nil.addF zNZ)
abbrev G49:Ctrs:=csm T49 (fun _ _=>[]) (fun _=>false)
def zJ7:Ann:=⟨18,[(0,zK [1] [1]),(1,zK [2] [])],
 [],
 [],
 [],[]⟩
abbrev R49:=Bool
abbrev e49 (r:R49):List PA:=[.one (.bool r)]
section
variable {K:List PA→Prop} {g:Gate}
def s49 (g:Gate):Bool :=
  (cond (s70 g.Z (0:Int) (100000:Int))
 (cond (s70 g.Low (-1000000:Int) g.High)
 (decide (g.High≤(1000000:Int)))
 false)
 false)
end
theorem q49 (g:Gate) (K:List PA→Prop) (hk:K (e49 (s49 g))):vcFun Try.prog G49 zJ7 49 [.agg (enc_55 g)] K :=
  zaw (by kernel_rfl) (zt hk (fun hk=>(zt hk (fun hk=>hk) (fun hk=>hk))) (fun hk=>hk))
def zGm : List PA → COut
  | [.agg [.int .i64 a0_Z,.int .i64 a0_Low,.int .i64 a0_High]]=>.tot [.one (.bool (s49 (⟨a0_Z,a0_Low,a0_High⟩:Gate)))]
  | _=>.no
theorem zJ8:zaf Try.prog 49:=⟨_,rfl,rfl,by kernel_rfl⟩
theorem zPH:Ok Try.prog 49 zGm:=zay zMM zJ8 fun args K h=>by
  unfold zGm at h
  split at h
  · rename_i a0_Z a0_Low a0_High
    have hk:=h
    exact ⟨(fun _ _=>[]),(fun _=>false),zJ7,q49 (⟨a0_Z,a0_Low,a0_High⟩:Gate) K hk⟩
  · exact h.elim
abbrev T20:Tabs:=((Tabs.nil.addF 49 zGm).addF 70 zBu)
theorem zMN:TabsOk Try.prog T20:=((TabsOk.nil.addF zPH).addF zNZ)
abbrev G20:Ctrs:=csm T20 (fun _ _=>[]) (fun _=>false)
def zGn:Ann:=⟨19,[(0,zK [0] []),(1,zK [0,3] []),(2,zK [0,3,7] []),(3,zK [0,3] []),(4,zK [0,3,15] []),(5,zK [2] []),(6,zK [2] [])],
 [(2,zK [0,3] [])],
 [(5,zK [0,3,15] [])],
 [],[]⟩
abbrev R20:=Bool
abbrev e20 (r:R20):List PA:=[.one (.bool r)]
@[irreducible] def z20:=ptF Try.prog G20 zGn Try.f20
def zCO (l_a0:(Sl Gate)) (iv0:Int):St:=⟨[(0,zS enc_55 3 l_a0),(3,zI iv0)],[],[]⟩
abbrev zGo (K:List PA→Prop) (l_a0:(Sl Gate)) (X:St→Prop) (P:Int→Bool) (S:Int→Bool):Prop:=∀ ⦃iv0:Int⦄,P iv0=true→K (e20 (S iv0))→X (zCO l_a0 iv0)
section
variable {K:List PA→Prop} {l_a0:(Sl Gate)} {iv0:Int} {X0:St→Prop} {P0:Int→Bool} {S0:Int→Bool} {iv1:Int} {zqs:Bool}
def zqu (S0:Int→Bool) (l_a0:(Sl Gate)) (iv1:Int) (zqs:Bool):Bool :=
  (cond zqs
 false
 (S0 (w64 (iv1+(1:Int)))))
def zqv (P0:Int→Bool) (l_a0:(Sl Gate)) (iv1:Int) (zqs:Bool):Bool :=
  (cond zqs
 true
 (P0 (w64 (iv1+(1:Int)))))
theorem zGp (hX0:zGo K l_a0 X0 P0 S0) (hs:zqv P0 l_a0 iv1 zqs=true) (hk:K (e20 (zqu S0 l_a0 iv1 zqs))):z20 K [1,0,1,0,0,1,0,0,1] [X0] ⟨[(0,zS enc_55 3 l_a0),(3,zI iv1),(15,zB zqs)],[],[]⟩:=zaw (by kernel_rfl) (zc hs hk (fun hs hk=>hk) (fun hs hk=>(hX0 hs hk)))
def zhH (l_a0:(Sl Gate)) (S0:Int→Bool) (iv0:Int):Bool :=
  (cond (decide (iv0 < (l_a0.len : Int)))
 (zqu S0 l_a0 iv0 (!(s49 (l_a0.get iv0.toNat))))
 (s70 (l_a0.len:Int) (1:Int) (24:Int)))
def zhI (l_a0:(Sl Gate)) (P0:Int→Bool) (iv0:Int):Bool :=
  (cond (decide (iv0 < (l_a0.len : Int)))
 (decide ((0≤iv0∧iv0 < (l_a0.len:Int))) &&
 (zqv P0 l_a0 iv0 (!(s49 (l_a0.get iv0.toNat)))))
 true)
def zhJ (l_a0:(Sl Gate)):Nat→Int→Bool:=lpO (fun _=>default) (zhH l_a0)
def zhK (l_a0:(Sl Gate)):Nat→Int→Bool:=lpO (fun _=>false) (zhI l_a0)
def zyJ (l_a0:(Sl Gate)) (iv0:Int):Bool:=zhJ l_a0 Fuel iv0
def zyK (l_a0:(Sl Gate)) (iv0:Int):Bool:=zhK l_a0 Fuel iv0
theorem zGq (hs:zyK l_a0 iv0=true) (hk:K (e20 (zyJ l_a0 iv0))):z20 K [1,0,1,0] [] (zCO l_a0 iv0) :=
  zl (fun X=>z20 K [1,0,1,0,0] [X]) (by kernel_rfl) fun X0 hX =>
  (show ∀ k, zGo K l_a0 X0 (zhK l_a0 k) (zhJ l_a0 k) from zet _ _ (zhI l_a0) (zhH l_a0) (zGo K l_a0 X0)
 (by intro _ hs;exact absurd hs Bool.false_ne_true)
 (by intro P0 S0 hX0 iv0 hs hk;exact hX _ (zaw (by kernel_rfl) (zc hs hk (fun hs hk=>(zau hs fun hc hs=>And.intro hc (zGp hX0 hs hk))) (fun hs hk=>hk))))) _ hs hk
def s20 (l_a0:(Sl Gate)):Bool :=
  (zyJ l_a0 (0:Int))
def p20 (l_a0:(Sl Gate)):Bool :=
  (zyK l_a0 (0:Int))
end
theorem q20 (l_a0:(Sl Gate)) (K:List PA→Prop) (hs:p20 l_a0=true) (hk:K (e20 (s20 l_a0))):vcFun Try.prog G20 zGn 20 [.one (.sl l_a0.len 3 (fun i=>enc_55 (l_a0.get i)))] K :=
  zaw (by kernel_rfl) (zGq hs hk)
def zGr : List PA → COut
  | [.one (.sl a0_n a0_s a0_g)]=>.det (IsE enc_55 3 a0_s a0_g∧p20 (⟨a0_n,zae a0_g⟩:(Sl Gate))=true) [.one (.bool (s20 (⟨a0_n,zae a0_g⟩:(Sl Gate))))]
  | _=>.no
theorem zJ9:zaf Try.prog 20:=⟨_,rfl,rfl,by kernel_rfl⟩
theorem zPI:Ok Try.prog 20 zGr:=zay zMN zJ9 fun args K h=>by
  unfold zGr at h
  split at h
  · rename_i a0_n a0_s a0_g
    obtain ⟨⟨⟨rfl,a0_f,rfl⟩,hs⟩,hk⟩:=h
    try rw [zac a0_f] at hs
    try rw [zac a0_f] at hk
    exact ⟨(fun _ _=>[]),(fun _=>false),zGn,q20 (⟨a0_n,a0_f⟩:(Sl Gate)) K hs hk⟩
  · exact h.elim
abbrev T22:Tabs:=Tabs.nil
theorem zMO:TabsOk Try.prog T22:=TabsOk.nil
abbrev G22:Ctrs:=csm T22 (fun _ _=>[]) (fun _=>false)
def zGs:Ann:=⟨20,[(0,zK [0] []),(1,zK [0,3] []),(2,zK [0,3,7] []),(3,zK [0,3] []),(4,zK [0,3,19] []),(5,zK [2] []),(6,zK [2] [])],
 [(2,zK [0,3] [])],
 [],
 [],[]⟩
abbrev R22:=Bool
abbrev e22 (r:R22):List PA:=[.one (.bool r)]
@[irreducible] def z22:=ptF Try.prog G22 zGs Try.f22
def zCP (zaa:(Sl Gate)) (iv0:Int):St:=⟨[(0,zS enc_55 3 zaa),(3,zI iv0)],[],[]⟩
abbrev zKa (K:List PA→Prop) (zaa:(Sl Gate)) (X:St→Prop) (P:Int→Bool) (S:Int→Bool):Prop:=∀ ⦃iv0:Int⦄,P iv0=true→K (e22 (S iv0))→X (zCP zaa iv0)
section
variable {K:List PA→Prop} {zaa:(Sl Gate)} {iv0:Int} {X0:St→Prop} {P0:Int→Bool} {S0:Int→Bool}
def zhL (zaa:(Sl Gate)) (S0:Int→Bool) (iv0:Int):Bool :=
  (cond (decide (iv0 < (zaa.len : Int)))
 (cond ((zaa.get iv0.toNat).Z != (zaa.get 0).Z)
 false
 (S0 (w64 (iv0+(1:Int)))))
 true)
def zhM (zaa:(Sl Gate)) (P0:Int→Bool) (iv0:Int):Bool :=
  (cond (decide (iv0 < (zaa.len : Int)))
 (decide ((0≤iv0∧iv0 < (zaa.len:Int))) &&
 (decide ((0≤(0:Int)∧(0:Int) < (zaa.len:Int))) &&
 (cond ((zaa.get iv0.toNat).Z != (zaa.get 0).Z)
 true
 (P0 (w64 (iv0+(1:Int)))))))
 true)
def zhN (zaa:(Sl Gate)):Nat→Int→Bool:=lpO (fun _=>default) (zhL zaa)
def zhO (zaa:(Sl Gate)):Nat→Int→Bool:=lpO (fun _=>false) (zhM zaa)
def zyL (zaa:(Sl Gate)) (iv0:Int):Bool:=zhN zaa Fuel iv0
def zyM (zaa:(Sl Gate)) (iv0:Int):Bool:=zhO zaa Fuel iv0
theorem zGt (hs:zyM zaa iv0=true) (hk:K (e22 (zyL zaa iv0))):z22 K [1,0,1,0] [] (zCP zaa iv0) :=
  zl (fun X=>z22 K [1,0,1,0,0] [X]) (by kernel_rfl) fun X0 hX =>
  (show ∀ k, zKa K zaa X0 (zhO zaa k) (zhN zaa k) from zet _ _ (zhM zaa) (zhL zaa) (zKa K zaa X0)
 (by intro _ hs;exact absurd hs Bool.false_ne_true)
 (by intro P0 S0 hX0 iv0 hs hk;exact hX _ (zaw (by kernel_rfl) (zc hs hk (fun hs hk=>(zau hs fun hc hs=>And.intro hc (zau hs fun hc hs=>And.intro hc (zc hs hk (fun hs hk=>hk) (fun hs hk=>(hX0 hs hk)))))) (fun hs hk=>hk))))) _ hs hk
def s22 (zaa:(Sl Gate)):Bool :=
  (zyL zaa (1:Int))
def p22 (zaa:(Sl Gate)):Bool :=
  (zyM zaa (1:Int))
end
theorem q22 (zaa:(Sl Gate)) (K:List PA→Prop) (hs:p22 zaa=true) (hk:K (e22 (s22 zaa))):vcFun Try.prog G22 zGs 22 [.one (.sl zaa.len 3 (fun i=>enc_55 (zaa.get i)))] K :=
  zaw (by kernel_rfl) (zGt hs hk)
def ztF : List PA → COut
  | [.one (.sl a0_n a0_s a0_g)]=>.det (IsE enc_55 3 a0_s a0_g∧p22 (⟨a0_n,zae a0_g⟩:(Sl Gate))=true) [.one (.bool (s22 (⟨a0_n,zae a0_g⟩:(Sl Gate))))]
  | _=>.no
theorem zKb:zaf Try.prog 22:=⟨_,rfl,rfl,by kernel_rfl⟩
theorem zMP:Ok Try.prog 22 ztF:=zay zMO zKb fun args K h=>by
  unfold ztF at h
  split at h
  · rename_i a0_n a0_s a0_g
    obtain ⟨⟨⟨rfl,a0_f,rfl⟩,hs⟩,hk⟩:=h
    try rw [zac a0_f] at hs
    try rw [zac a0_f] at hk
    exact ⟨(fun _ _=>[]),(fun _=>false),zGs,q22 (⟨a0_n,a0_f⟩:(Sl Gate)) K hs hk⟩
  · exact h.elim
abbrev zN0:Tabs:=Tabs.nil
theorem zKc:TabsOk Try.prog zN0:=TabsOk.nil
abbrev zPJ:Ctrs:=csm zN0 (fun _ _=>[]) (fun _=>false)
def zCQ:Ann:=⟨30,[(0,zK [1,2] [2]),(1,zK [4,5] [])],
 [],
 [],
 [],[]⟩
abbrev zPK:=(Int×Int)
abbrev zPL (r:zPK):List PA:=[.one (.int .i64 r.1),.one (.int .i64 r.2)]
section
variable {K:List PA→Prop} {l_a0:Line} {z:Int}
def zqw (l_a0:Line) (z:Int):(Int×Int) :=
  ((w64 ((w64 (l_a0.Start.Num * l_a0.Slope.Den))+(w64 ((w64 (l_a0.Slope.Num * z)) * l_a0.Start.Den)))),(w64 (l_a0.Start.Den * l_a0.Slope.Den)))
end
theorem zPM (l_a0:Line) (z:Int) (K:List PA→Prop) (hk:K (zPL (zqw l_a0 z))):vcFun Try.prog zPJ zCQ 104 [.agg (zav l_a0),.one (.int .i64 z)] K :=
  zaw (by kernel_rfl) hk
def zsx : List PA → COut
  | [.agg [.int .i64 a0_Slope_Num,.int .i64 a0_Slope_Den,.int .i64 a0_Start_Num,.int .i64 a0_Start_Den],.one (.int .i64 a1)]=>.tot [.one (.int .i64 ((zqw (⟨(⟨a0_Slope_Num,a0_Slope_Den⟩:Frac),(⟨a0_Start_Num,a0_Start_Den⟩:Frac)⟩:Line) a1).1)),.one (.int .i64 ((zqw (⟨(⟨a0_Slope_Num,a0_Slope_Den⟩:Frac),(⟨a0_Start_Num,a0_Start_Den⟩:Frac)⟩:Line) a1).2))]
  | _=>.no
theorem zGu:zaf Try.prog 104:=⟨_,rfl,rfl,by kernel_rfl⟩
theorem zKd:Ok Try.prog 104 zsx:=zay zKc zGu fun args K h=>by
  unfold zsx at h
  split at h
  · rename_i a0_Slope_Num a0_Slope_Den a0_Start_Num a0_Start_Den a1
    have hk:=h
    exact ⟨(fun _ _=>[]),(fun _=>false),zCQ,zPM (⟨(⟨a0_Slope_Num,a0_Slope_Den⟩:Frac),(⟨a0_Start_Num,a0_Start_Den⟩:Frac)⟩:Line) a1 K hk⟩
  · exact h.elim
abbrev T72:Tabs:=(Tabs.nil.addF 104 zsx)
theorem zMQ:TabsOk Try.prog T72:=(TabsOk.nil.addF zKd)
abbrev G72:Ctrs:=csm T72 (fun _ _=>[]) (fun _=>false)
def zKe:Ann:=⟨28,[(0,zK [2,3] [2,3]),(1,zK [3,5,6] [3]),(2,zK [4] [])],
 [],
 [],
 [],[]⟩
abbrev R72:=Bool
abbrev e72 (r:R72):List PA:=[.one (.bool r)]
section
variable {K:List PA→Prop} {l_a0:Line} {g:Gate}
def s72 (l_a0:Line) (g:Gate):Bool :=
  (cond (decide ((w64 (g.Low * ((zqw l_a0 g.Z).2))) ≤ ((zqw l_a0 g.Z).1)))
 (decide (((zqw l_a0 g.Z).1)≤(w64 (g.High * ((zqw l_a0 g.Z).2)))))
 false)
end
theorem q72 (l_a0:Line) (g:Gate) (K:List PA→Prop) (hk:K (e72 (s72 l_a0 g))):vcFun Try.prog G72 zKe 72 [.agg (zav l_a0),.agg (enc_55 g)] K :=
  zaw (by kernel_rfl) (zt hk (fun hk=>hk) (fun hk=>hk))
def zGv : List PA → COut
  | [.agg [.int .i64 a0_Slope_Num,.int .i64 a0_Slope_Den,.int .i64 a0_Start_Num,.int .i64 a0_Start_Den],.agg [.int .i64 a1_Z,.int .i64 a1_Low,.int .i64 a1_High]]=>.tot [.one (.bool (s72 (⟨(⟨a0_Slope_Num,a0_Slope_Den⟩:Frac),(⟨a0_Start_Num,a0_Start_Den⟩:Frac)⟩:Line) (⟨a1_Z,a1_Low,a1_High⟩:Gate)))]
  | _=>.no
theorem zKf:zaf Try.prog 72:=⟨_,rfl,rfl,by kernel_rfl⟩
theorem zPN:Ok Try.prog 72 zGv:=zay zMQ zKf fun args K h=>by
  unfold zGv at h
  split at h
  · rename_i a0_Slope_Num a0_Slope_Den a0_Start_Num a0_Start_Den a1_Z a1_Low a1_High
    have hk:=h
    exact ⟨(fun _ _=>[]),(fun _=>false),zKe,q72 (⟨(⟨a0_Slope_Num,a0_Slope_Den⟩:Frac),(⟨a0_Start_Num,a0_Start_Den⟩:Frac)⟩:Line) (⟨a1_Z,a1_Low,a1_High⟩:Gate) K hk⟩
  · exact h.elim
abbrev T27:Tabs:=(Tabs.nil.addF 72 zGv)
theorem zMR:TabsOk Try.prog T27:=(TabsOk.nil.addF zPN)
abbrev G27:Ctrs:=csm T27 (fun _ _=>[]) (fun _=>false)
def zGw:Ann:=⟨24,[(0,zK [1,2] [2]),(1,zK [1,2,5] [2]),(2,zK [1,2,5,6] [2]),(3,zK [1,2,5,6,10] [2,22]),(4,zK [1,2,5,6] [2,22]),(5,zK [1,2,5,6,18] [2,22]),(6,zK [1,2,5,6] [2,22]),(7,zK [4] [22])],
 [(3,⟨[1,2,5,6],[2,22],[(5,22,3,fun _=>zal default)],[],[],[],[]⟩)],
 [(6,zK [1,2,5,6,18] [2,22])],
 [],[]⟩
abbrev R27:=(Sl Int)
abbrev e27 (r:R27):List PA:=[.one (.sl r.len 1 (fun i=>zal (r.get i)))]
@[irreducible] def z27:=ptF Try.prog G27 zGw Try.f27
def zCR (l_a0:Line) (zaa:(Sl Gate)) (iv0:Int) (zdY:(Sl Int)) (zfi:Nat→List PV):St:=⟨[(1,zS enc_55 3 zaa),(2,zp 2 0),(5,zv 22),(6,zI iv0)],[(2,.box 37 (zm (zav l_a0))),(22,.vec 3 1 8 zdY.len zfi)],[]⟩
abbrev zGx (K:List PA→Prop) (l_a0:Line) (zaa:(Sl Gate)) (X:St→Prop) (P:Int→(Sl Int)→Bool) (S:Int→(Sl Int)→(Sl Int)):Prop:=∀ ⦃iv0:Int⦄ ⦃zdY:(Sl Int)⦄ ⦃zfi:Nat→List PV⦄,P iv0 zdY=true→K (e27 (S iv0 zdY))→zfi=zg zal zdY→X (zCR l_a0 zaa iv0 zdY zfi)
section
variable {K:List PA→Prop} {l_a0:Line} {zaa:(Sl Gate)} {iv0:Int} {zdY:(Sl Int)} {zfi:Nat→List PV} {X0:St→Prop} {P0:Int→(Sl Int)→Bool} {S0:Int→(Sl Int)→(Sl Int)} {iv1:Int} {zqx:Bool} {zfj:(Sl Int)} {zyN:Nat→List PV}
def zqy (S0:Int→(Sl Int)→(Sl Int)) (l_a0:Line) (zaa:(Sl Gate)) (iv1:Int) (zqx:Bool) (zfj:(Sl Int)):(Sl Int) :=
  (cond zqx
 (S0 (w64 (iv1+(1:Int))) (⟨(zfj.len+1),(zdW zfj.len zfj.get (fun _=>iv1))⟩:Sl Int))
 (S0 (w64 (iv1+(1:Int))) zfj))
def zqz (P0:Int→(Sl Int)→Bool) (l_a0:Line) (zaa:(Sl Gate)) (iv1:Int) (zqx:Bool) (zfj:(Sl Int)):Bool :=
  (cond zqx
 (decide (((zfj.len+1) * 8≤140737488355328∧zfj.len+1≤9223372036854775807)) &&
 (P0 (w64 (iv1+(1:Int))) (⟨(zfj.len+1),(zdW zfj.len zfj.get (fun _=>iv1))⟩:Sl Int)))
 (P0 (w64 (iv1+(1:Int))) zfj))
theorem zGy (hX0:zGx K l_a0 zaa X0 P0 S0) (hs:zqz P0 l_a0 zaa iv1 zqx zfj=true) (hk:K (e27 (zqy S0 l_a0 zaa iv1 zqx zfj))) (zGz:zyN=zg zal zfj):z27 K [1,1,0,1,0,0,1,0,0,1] [X0] ⟨[(1,zS enc_55 3 zaa),(2,zp 2 0),(5,zv 22),(6,zI iv1),(18,zB zqx)],[(2,.box 37 (zm (zav l_a0))),(22,.vec 3 1 8 zfj.len zyN)],[]⟩:=by subst zGz;exact zaw (by kernel_rfl) (zc hs hk (fun hs hk=>(zau hs fun hc hs=>And.intro hc (hX0 hs hk (zeP (enc:=zal) (f:=zfj.get) (h:=(fun _=>iv1)) rfl rfl)))) (fun hs hk=>(hX0 hs hk rfl)))
def zhP (l_a0:Line) (zaa:(Sl Gate)) (S0:Int→(Sl Int)→(Sl Int)) (iv0:Int) (zdY:(Sl Int)):(Sl Int) :=
  (cond (decide (iv0 < (zaa.len : Int)))
 (zqy S0 l_a0 zaa iv0 (s72 l_a0 (zaa.get iv0.toNat)) zdY)
 zdY)
def zhQ (l_a0:Line) (zaa:(Sl Gate)) (P0:Int→(Sl Int)→Bool) (iv0:Int) (zdY:(Sl Int)):Bool :=
  (cond (decide (iv0 < (zaa.len : Int)))
 (decide ((0≤iv0∧iv0 < (zaa.len:Int))) &&
 (zqz P0 l_a0 zaa iv0 (s72 l_a0 (zaa.get iv0.toNat)) zdY))
 true)
def zhR (l_a0:Line) (zaa:(Sl Gate)):Nat→Int→(Sl Int)→(Sl Int):=lpO (fun _ _=>default) (zhP l_a0 zaa)
def zhS (l_a0:Line) (zaa:(Sl Gate)):Nat→Int→(Sl Int)→Bool:=lpO (fun _ _=>false) (zhQ l_a0 zaa)
def zyO (l_a0:Line) (zaa:(Sl Gate)) (iv0:Int) (zdY:(Sl Int)):(Sl Int):=zhR l_a0 zaa Fuel iv0 zdY
def zyP (l_a0:Line) (zaa:(Sl Gate)) (iv0:Int) (zdY:(Sl Int)):Bool:=zhS l_a0 zaa Fuel iv0 zdY
theorem zGA (hs:zyP l_a0 zaa iv0 zdY=true) (hk:K (e27 (zyO l_a0 zaa iv0 zdY))) (zqA:zfi=zg zal zdY):z27 K [1,1,0,1,0] [] (zCR l_a0 zaa iv0 zdY zfi) :=
  zl (fun X=>z27 K [1,1,0,1,0,0] [X]) (by kernel_rfl) fun X0 hX =>
  (show ∀ k, zGx K l_a0 zaa X0 (zhS l_a0 zaa k) (zhR l_a0 zaa k) from zet _ _ (zhQ l_a0 zaa) (zhP l_a0 zaa) (zGx K l_a0 zaa X0)
 (by intro _ _ _ hs;exact absurd hs Bool.false_ne_true)
 (by intro P0 S0 hX0 iv0 zdY zfi hs hk zqA;subst zqA;exact hX _ (zaw (by kernel_rfl) (zc hs hk (fun hs hk=>(zau hs fun hc hs=>And.intro hc (zGy hX0 hs hk rfl))) (fun hs hk=>hk))))) _ hs hk zqA
def s27 (l_a0:Line) (zaa:(Sl Gate)):(Sl Int) :=
  (zyO l_a0 zaa (0:Int) (⟨0,(fun _=>default)⟩:Sl Int))
def p27 (l_a0:Line) (zaa:(Sl Gate)):Bool :=
  (zyP l_a0 zaa (0:Int) (⟨0,(fun _=>default)⟩:Sl Int))
end
theorem q27 (l_a0:Line) (zaa:(Sl Gate)) (K:List PA→Prop) (hs:p27 l_a0 zaa=true) (hk:K (e27 (s27 l_a0 zaa))):vcFun Try.prog G27 zGw 27 [.agg (zav l_a0),.one (.sl zaa.len 3 (fun i=>enc_55 (zaa.get i)))] K :=
  zaw (by kernel_rfl) (zGA hs hk rfl)
def zGB : List PA → COut
  | [.agg [.int .i64 a0_Slope_Num,.int .i64 a0_Slope_Den,.int .i64 a0_Start_Num,.int .i64 a0_Start_Den],.one (.sl a1_n a1_s a1_g)]=>.det (IsE enc_55 3 a1_s a1_g∧p27 (⟨(⟨a0_Slope_Num,a0_Slope_Den⟩:Frac),(⟨a0_Start_Num,a0_Start_Den⟩:Frac)⟩:Line) (⟨a1_n,zae a1_g⟩:(Sl Gate))=true) [.one (.sl ((s27 (⟨(⟨a0_Slope_Num,a0_Slope_Den⟩:Frac),(⟨a0_Start_Num,a0_Start_Den⟩:Frac)⟩:Line) (⟨a1_n,zae a1_g⟩:(Sl Gate))).len) 1 (fun i=>zal ((s27 (⟨(⟨a0_Slope_Num,a0_Slope_Den⟩:Frac),(⟨a0_Start_Num,a0_Start_Den⟩:Frac)⟩:Line) (⟨a1_n,zae a1_g⟩:(Sl Gate))).get i)))]
  | _=>.no
theorem zKg:zaf Try.prog 27:=⟨_,rfl,rfl,by kernel_rfl⟩
theorem zPO:Ok Try.prog 27 zGB:=zay zMR zKg fun args K h=>by
  unfold zGB at h
  split at h
  · rename_i a0_Slope_Num a0_Slope_Den a0_Start_Num a0_Start_Den a1_n a1_s a1_g
    obtain ⟨⟨⟨rfl,a1_f,rfl⟩,hs⟩,hk⟩:=h
    try rw [zac a1_f] at hs
    try rw [zac a1_f] at hk
    exact ⟨(fun _ _=>[]),(fun _=>false),zGw,q27 (⟨(⟨a0_Slope_Num,a0_Slope_Den⟩:Frac),(⟨a0_Start_Num,a0_Start_Den⟩:Frac)⟩:Line) (⟨a1_n,a1_f⟩:(Sl Gate)) K hs hk⟩
  · exact h.elim
abbrev T26:Tabs:=(Tabs.nil.addF 40 zp0)
theorem zMS:TabsOk Try.prog T26:=(TabsOk.nil.addF zLf)
abbrev G26:Ctrs:=csm T26 (fun _ _=>[]) (fun _=>false)
def zGC:Ann:=⟨35,[(0,zK [0,1,2,3,8] [8]),(1,zK [0,1,2,3,8,11] [8]),(2,zK [0,1,2,3,8] [8]),(3,zK [8] [8])],
 [],
 [(3,zK [0,1,2,3,8] [8])],
 [],[]⟩
abbrev R26:=Line
abbrev e26 (r:R26):List PA:=[.agg [.int .i64 r.Slope.Num,.int .i64 r.Slope.Den,.int .i64 r.Start.Num,.int .i64 r.Start.Den]]
@[irreducible] def z26:=ptF Try.prog G26 zGC Try.f26
section
variable {K:List PA→Prop} {z:Int} {x:Int} {w:Int} {y_a3:Int} {zv0:Int} {xv0:Int} {wv0:Int} {yv0:Int}
def zmL (zv0:Int) (xv0:Int) (wv0:Int) (yv0:Int):Line :=
  (⟨(s40 (w64 (yv0 - xv0)) (w64 (wv0 - zv0))),(s40 (w64 ((w64 (xv0 * wv0)) - (w64 (yv0 * zv0)))) (w64 (wv0 - zv0)))⟩:Line)
def zmM (zv0:Int) (xv0:Int) (wv0:Int) (yv0:Int):Bool :=
  (decide ((p40 (w64 (yv0 - xv0)) (w64 (wv0 - zv0))=true)) &&
 (decide ((p40 (w64 ((w64 (xv0 * wv0)) - (w64 (yv0 * zv0)))) (w64 (wv0 - zv0))=true)) &&
 true))
theorem zyQ (hs:zmM zv0 xv0 wv0 yv0=true) (hk:K (e26 (zmL zv0 xv0 wv0 yv0))):z26 K [1,1] [] ⟨[(0,zI zv0),(1,zI xv0),(2,zI wv0),(3,zI yv0),(8,zp 8 0)],[(8,.box 37 (zm (zav (⟨(⟨(0:Int),(0:Int)⟩:Frac),(⟨(0:Int),(0:Int)⟩:Frac)⟩:Line))))],[]⟩:=zaw (by kernel_rfl) (zau hs fun hc hs=>And.intro hc (zau hs fun hc hs=>And.intro hc hk))
def s26 (z:Int) (x:Int) (w:Int) (y_a3:Int):Line :=
  (cond (decide (w < z))
 (zmL w y_a3 z x)
 (zmL z x w y_a3))
def p26 (z:Int) (x:Int) (w:Int) (y_a3:Int):Bool :=
  (cond (decide (w < z))
 (zmM w y_a3 z x)
 (zmM z x w y_a3))
end
theorem q26 (z:Int) (x:Int) (w:Int) (y_a3:Int) (K:List PA→Prop) (hs:p26 z x w y_a3=true) (hk:K (e26 (s26 z x w y_a3))):vcFun Try.prog G26 zGC 26 [.one (.int .i64 z),.one (.int .i64 x),.one (.int .i64 w),.one (.int .i64 y_a3)] K :=
  zaw (by kernel_rfl) (zc hs hk (fun hs hk=>(zyQ hs hk)) (fun hs hk=>(zyQ hs hk)))
def zGD : List PA → COut
  | [.one (.int .i64 a0),.one (.int .i64 a1),.one (.int .i64 a2),.one (.int .i64 a3)]=>.det (p26 a0 a1 a2 a3=true) [.agg [.int .i64 ((s26 a0 a1 a2 a3).Slope.Num),.int .i64 ((s26 a0 a1 a2 a3).Slope.Den),.int .i64 ((s26 a0 a1 a2 a3).Start.Num),.int .i64 ((s26 a0 a1 a2 a3).Start.Den)]]
  | _=>.no
theorem zKh:zaf Try.prog 26:=⟨_,rfl,rfl,by kernel_rfl⟩
theorem zPP:Ok Try.prog 26 zGD:=zay zMS zKh fun args K h=>by
  unfold zGD at h
  split at h
  · rename_i a0 a1 a2 a3
    obtain ⟨hs,hk⟩:=h
    exact ⟨(fun _ _=>[]),(fun _=>false),zGC,q26 a0 a1 a2 a3 K hs hk⟩
  · exact h.elim
abbrev zN1:Tabs:=Tabs.nil
theorem zKi:TabsOk Try.prog zN1:=TabsOk.nil
abbrev zPQ:Ctrs:=csm zN1 (fun _ _=>[]) (fun _=>false)
def zCS:Ann:=⟨11,[(0,zK [1,2] [2]),(1,zK [2,6] [2]),(2,zK [4] []),(3,zK [4] [])],
 [],
 [],
 [],[]⟩
abbrev zPR:=Int
abbrev e109 (r:zPR):List PA:=[.one (.int .i64 r)]
section
variable {K:List PA→Prop} {g:Gate} {which:Int}
def zsy (g:Gate) (which:Int):Int :=
  (cond (which == (0:Int))
 g.Low
 g.High)
end
theorem zPS (g:Gate) (which:Int) (K:List PA→Prop) (hk:K (e109 (zsy g which))):vcFun Try.prog zPQ zCS 109 [.agg (enc_55 g),.one (.int .i64 which)] K :=
  zaw (by kernel_rfl) (zt hk (fun hk=>hk) (fun hk=>hk))
def zyR : List PA → COut
  | [.agg [.int .i64 a0_Z,.int .i64 a0_Low,.int .i64 a0_High],.one (.int .i64 a1)]=>.tot [.one (.int .i64 (zsy (⟨a0_Z,a0_Low,a0_High⟩:Gate) a1))]
  | _=>.no
theorem zGE:zaf Try.prog 109:=⟨_,rfl,rfl,by kernel_rfl⟩
theorem zMT:Ok Try.prog 109 zyR:=zay zKi zGE fun args K h=>by
  unfold zyR at h
  split at h
  · rename_i a0_Z a0_Low a0_High a1
    have hk:=h
    exact ⟨(fun _ _=>[]),(fun _=>false),zCS,zPS (⟨a0_Z,a0_Low,a0_High⟩:Gate) a1 K hk⟩
  · exact h.elim
abbrev T80:Tabs:=((Tabs.nil.addF 26 zGD).addF 109 zyR)
theorem zMU:TabsOk Try.prog T80:=((TabsOk.nil.addF zPP).addF zMT)
abbrev G80:Ctrs:=csm T80 (fun _ _=>[]) (fun _=>false)
def zGF:Ann:=⟨67,[(0,zK [0] []),(1,zK [0,3] []),(2,zK [0,3,4] []),(3,zK [0,3,4,10] [65]),(4,zK [0,3,4] [65]),(5,zK [0,3,4,5] [65]),(6,zK [0,3,4,5,18] [65]),(7,zK [0,3,4,5] [65]),(8,zK [0,3,4,5,6] [65]),(9,zK [0,3,4,5,6,35] [65]),(10,zK [0,3,4,5,6] [65]),(11,zK [0,3,4,5,6] [65]),(12,zK [2] [65])],
 [(3,⟨[0,3,4],[65],[(3,65,37,fun _=>zav default)],[],[],[],[]⟩),(6,⟨[0,3,4,5],[65],[(3,65,37,fun _=>zav default)],[],[],[],[]⟩),(9,⟨[0,3,4,5,6],[65],[(3,65,37,fun _=>zav default)],[],[],[],[]⟩)],
 [],
 [],[]⟩
abbrev R80:=(Sl Line)
abbrev e80 (r:R80):List PA:=[.one (.sl r.len 4 (fun i=>zav (r.get i)))]
@[irreducible] def z80:=ptF Try.prog G80 zGF Try.f80
def zCT (zaa:(Sl Gate)) (iv0:Int) (zdZ:(Sl Line)) (zfk:Nat→List PV):St:=⟨[(0,zS enc_55 3 zaa),(3,zv 65),(4,zI iv0)],[(65,.vec 37 4 32 zdZ.len zfk)],[]⟩
abbrev zBv (K:List PA→Prop) (zaa:(Sl Gate)) (X:St→Prop) (P:Int→(Sl Line)→Bool) (S:Int→(Sl Line)→(Sl Line)):Prop:=∀ ⦃iv0:Int⦄ ⦃zdZ:(Sl Line)⦄ ⦃zfk:Nat→List PV⦄,P iv0 zdZ=true→K (e80 (S iv0 zdZ))→zfk=zg zav zdZ→X (zCT zaa iv0 zdZ zfk)
def zCU (zaa:(Sl Gate)) (iv1:Int) (kv1:Int) (zdO:(Sl Line)) (zfl:Nat→List PV):St:=⟨[(0,zS enc_55 3 zaa),(3,zv 65),(4,zI iv1),(5,zI kv1)],[(65,.vec 37 4 32 zdO.len zfl)],[]⟩
abbrev zGG (K:List PA→Prop) (zaa:(Sl Gate)) (X:St→Prop) (P:Int→Int→(Sl Line)→Bool) (S:Int→Int→(Sl Line)→(Sl Line)):Prop:=∀ ⦃iv1:Int⦄ ⦃kv1:Int⦄ ⦃zdO:(Sl Line)⦄ ⦃zfl:Nat→List PV⦄,P iv1 kv1 zdO=true→K (e80 (S iv1 kv1 zdO))→zfl=zg zav zdO→X (zCU zaa iv1 kv1 zdO zfl)
def zCV (zaa:(Sl Gate)) (iv2:Int) (kv2:Int) (ev2:Int) (zcw:(Sl Line)) (zfm:Nat→List PV):St:=⟨[(0,zS enc_55 3 zaa),(3,zv 65),(4,zI iv2),(5,zI kv2),(6,zI ev2)],[(65,.vec 37 4 32 zcw.len zfm)],[]⟩
abbrev zKj (K:List PA→Prop) (zaa:(Sl Gate)) (X:St→Prop) (P:Int→Int→Int→(Sl Line)→Bool) (S:Int→Int→Int→(Sl Line)→(Sl Line)):Prop:=∀ ⦃iv2:Int⦄ ⦃kv2:Int⦄ ⦃ev2:Int⦄ ⦃zcw:(Sl Line)⦄ ⦃zfm:Nat→List PV⦄,P iv2 kv2 ev2 zcw=true→K (e80 (S iv2 kv2 ev2 zcw))→zfm=zg zav zcw→X (zCV zaa iv2 kv2 ev2 zcw zfm)
section
variable {K:List PA→Prop} {zaa:(Sl Gate)} {iv0:Int} {zdZ:(Sl Line)} {zfk:Nat→List PV} {X0:St→Prop} {P0:Int→(Sl Line)→Bool} {S0:Int→(Sl Line)→(Sl Line)} {iv1:Int} {kv1:Int} {zdO:(Sl Line)} {zfl:Nat→List PV} {X1:St→Prop} {P1:Int→Int→(Sl Line)→Bool} {S1:Int→Int→(Sl Line)→(Sl Line)} {iv2:Int} {kv2:Int} {ev2:Int} {zcw:(Sl Line)} {zfm:Nat→List PV} {X2:St→Prop} {P2:Int→Int→Int→(Sl Line)→Bool} {S2:Int→Int→Int→(Sl Line)→(Sl Line)}
def zfn (S0:Int→(Sl Line)→(Sl Line)) (S1:Int→Int→(Sl Line)→(Sl Line)) (zaa:(Sl Gate)) (S2:Int→Int→Int→(Sl Line)→(Sl Line)) (iv2:Int) (kv2:Int) (ev2:Int) (zcw:(Sl Line)):(Sl Line) :=
  (cond (decide (ev2 < (4:Int)))
 (cond ((zaa.get iv2.toNat).Z != (zaa.get kv2.toNat).Z)
 (S2 iv2 kv2 (w64 (ev2+(1:Int))) (⟨(zcw.len+1),(zdW zcw.len zcw.get (fun _=>(s26 ((zaa.get iv2.toNat).Z) (zsy (zaa.get iv2.toNat) (w64 (ev2.tdiv (2:Int)))) ((zaa.get kv2.toNat).Z) (zsy (zaa.get kv2.toNat) (ev2.tmod (2:Int))))))⟩:Sl Line))
 (S1 iv2 (w64 (kv2+(1:Int))) zcw))
 (S1 iv2 (w64 (kv2+(1:Int))) zcw))
def zfo (P0:Int→(Sl Line)→Bool) (P1:Int→Int→(Sl Line)→Bool) (zaa:(Sl Gate)) (P2:Int→Int→Int→(Sl Line)→Bool) (iv2:Int) (kv2:Int) (ev2:Int) (zcw:(Sl Line)):Bool :=
  (cond (decide (ev2 < (4:Int)))
 (decide ((0≤iv2∧iv2 < (zaa.len:Int))) &&
 (decide ((0≤kv2∧kv2 < (zaa.len:Int))) &&
 (cond ((zaa.get iv2.toNat).Z != (zaa.get kv2.toNat).Z)
 (decide ((0≤iv2∧iv2 < (zaa.len:Int))) &&
 (decide ((0≤iv2∧iv2 < (zaa.len:Int))) &&
 (decide (((2:Int) ≠ 0)) &&
 (decide ((0≤kv2∧kv2 < (zaa.len:Int))) &&
 (decide ((0≤kv2∧kv2 < (zaa.len:Int))) &&
 (decide (((2:Int) ≠ 0)) &&
 (decide ((p26 ((zaa.get iv2.toNat).Z) (zsy (zaa.get iv2.toNat) (w64 (ev2.tdiv (2:Int)))) ((zaa.get kv2.toNat).Z) (zsy (zaa.get kv2.toNat) (ev2.tmod (2:Int)))=true)) &&
 (decide (((zcw.len+1) * 32≤140737488355328∧zcw.len+1≤9223372036854775807)) &&
 (P2 iv2 kv2 (w64 (ev2+(1:Int))) (⟨(zcw.len+1),(zdW zcw.len zcw.get (fun _=>(s26 ((zaa.get iv2.toNat).Z) (zsy (zaa.get iv2.toNat) (w64 (ev2.tdiv (2:Int)))) ((zaa.get kv2.toNat).Z) (zsy (zaa.get kv2.toNat) (ev2.tmod (2:Int))))))⟩:Sl Line))))))))))
 (P1 iv2 (w64 (kv2+(1:Int))) zcw))))
 (P1 iv2 (w64 (kv2+(1:Int))) zcw))
def zdd (S0:Int→(Sl Line)→(Sl Line)) (S1:Int→Int→(Sl Line)→(Sl Line)) (zaa:(Sl Gate)):Nat→Int→Int→Int→(Sl Line)→(Sl Line):=lpO (fun _ _ _ _=>default) (zfn S0 S1 zaa)
def zde (P0:Int→(Sl Line)→Bool) (P1:Int→Int→(Sl Line)→Bool) (zaa:(Sl Gate)):Nat→Int→Int→Int→(Sl Line)→Bool:=lpO (fun _ _ _ _=>false) (zfo P0 P1 zaa)
def zqB (S0:Int→(Sl Line)→(Sl Line)) (S1:Int→Int→(Sl Line)→(Sl Line)) (zaa:(Sl Gate)) (iv2:Int) (kv2:Int) (ev2:Int) (zcw:(Sl Line)):(Sl Line):=zdd S0 S1 zaa Fuel iv2 kv2 ev2 zcw
def zqC (P0:Int→(Sl Line)→Bool) (P1:Int→Int→(Sl Line)→Bool) (zaa:(Sl Gate)) (iv2:Int) (kv2:Int) (ev2:Int) (zcw:(Sl Line)):Bool:=zde P0 P1 zaa Fuel iv2 kv2 ev2 zcw
theorem zGH (hX0:zBv K zaa X0 P0 S0) (hX1:zGG K zaa X1 P1 S1) (hs:zqC P0 P1 zaa iv2 kv2 ev2 zcw=true) (hk:K (e80 (zqB S0 S1 zaa iv2 kv2 ev2 zcw))) (zqD:zfm=zg zav zcw):z80 K [1,1,0,1,0,0,1,0,0,1,0,0,1,0,0,1,0] [X0,X1] (zCV zaa iv2 kv2 ev2 zcw zfm) :=
  zl (fun X=>z80 K [1,1,0,1,0,0,1,0,0,1,0,0,1,0,0,1,0,0] [X0,X1,X]) (by kernel_rfl) fun X2 hX =>
  (show ∀ k, zKj K zaa X2 (zde P0 P1 zaa k) (zdd S0 S1 zaa k) from zet _ _ (zfo P0 P1 zaa) (zfn S0 S1 zaa) (zKj K zaa X2)
 (by intro _ _ _ _ _ hs;exact absurd hs Bool.false_ne_true)
 (by intro P2 S2 hX2 iv2 kv2 ev2 zcw zfm hs hk zqD;subst zqD;exact hX _ (zaw (by kernel_rfl) (zc hs hk (fun hs hk=>(zau hs fun hc hs=>And.intro hc (zau hs fun hc hs=>And.intro hc (zc hs hk (fun hs hk=>(zau hs fun hc hs=>And.intro hc (zau hs fun hc hs=>And.intro hc (zau hs fun hc hs=>And.intro hc (zau hs fun hc hs=>And.intro hc (zau hs fun hc hs=>And.intro hc (zau hs fun hc hs=>And.intro hc (zau hs fun hc hs=>And.intro hc (zau hs fun hc hs=>And.intro hc (hX2 hs hk (zeP (enc:=zav) (f:=zcw.get) (h:=(fun _=>(s26 ((zaa.get iv2.toNat).Z) (zsy (zaa.get iv2.toNat) (w64 (ev2.tdiv (2:Int)))) ((zaa.get kv2.toNat).Z) (zsy (zaa.get kv2.toNat) (ev2.tmod (2:Int)))))) rfl rfl))))))))))) (fun hs hk=>(hX1 hs hk rfl)))))) (fun hs hk=>(hX1 hs hk rfl)))))) _ hs hk zqD
def zhT (S0:Int→(Sl Line)→(Sl Line)) (zaa:(Sl Gate)) (S1:Int→Int→(Sl Line)→(Sl Line)) (iv1:Int) (kv1:Int) (zdO:(Sl Line)):(Sl Line) :=
  (cond (decide (kv1 < (zaa.len : Int)))
 (zqB S0 S1 zaa iv1 kv1 (0:Int) zdO)
 (S0 (w64 (iv1+(1:Int))) zdO))
def zhU (P0:Int→(Sl Line)→Bool) (zaa:(Sl Gate)) (P1:Int→Int→(Sl Line)→Bool) (iv1:Int) (kv1:Int) (zdO:(Sl Line)):Bool :=
  (cond (decide (kv1 < (zaa.len : Int)))
 (zqC P0 P1 zaa iv1 kv1 (0:Int) zdO)
 (P0 (w64 (iv1+(1:Int))) zdO))
def zgs (S0:Int→(Sl Line)→(Sl Line)) (zaa:(Sl Gate)):Nat→Int→Int→(Sl Line)→(Sl Line):=lpO (fun _ _ _=>default) (zhT S0 zaa)
def zgt (P0:Int→(Sl Line)→Bool) (zaa:(Sl Gate)):Nat→Int→Int→(Sl Line)→Bool:=lpO (fun _ _ _=>false) (zhU P0 zaa)
def zqE (S0:Int→(Sl Line)→(Sl Line)) (zaa:(Sl Gate)) (iv1:Int) (kv1:Int) (zdO:(Sl Line)):(Sl Line):=zgs S0 zaa Fuel iv1 kv1 zdO
def zqF (P0:Int→(Sl Line)→Bool) (zaa:(Sl Gate)) (iv1:Int) (kv1:Int) (zdO:(Sl Line)):Bool:=zgt P0 zaa Fuel iv1 kv1 zdO
theorem zGI (hX0:zBv K zaa X0 P0 S0) (hs:zqF P0 zaa iv1 kv1 zdO=true) (hk:K (e80 (zqE S0 zaa iv1 kv1 zdO))) (zqG:zfl=zg zav zdO):z80 K [1,1,0,1,0,0,1,0,0,1,0] [X0] (zCU zaa iv1 kv1 zdO zfl) :=
  zl (fun X=>z80 K [1,1,0,1,0,0,1,0,0,1,0,0] [X0,X]) (by kernel_rfl) fun X1 hX =>
  (show ∀ k, zGG K zaa X1 (zgt P0 zaa k) (zgs S0 zaa k) from zet _ _ (zhU P0 zaa) (zhT S0 zaa) (zGG K zaa X1)
 (by intro _ _ _ _ hs;exact absurd hs Bool.false_ne_true)
 (by intro P1 S1 hX1 iv1 kv1 zdO zfl hs hk zqG;subst zqG;exact hX _ (zaw (by kernel_rfl) (zc hs hk (fun hs hk=>(zGH hX0 hX1 hs hk rfl)) (fun hs hk=>(hX0 hs hk rfl)))))) _ hs hk zqG
def zhV (zaa:(Sl Gate)) (S0:Int→(Sl Line)→(Sl Line)) (iv0:Int) (zdZ:(Sl Line)):(Sl Line) :=
  (cond (decide (iv0 < (zaa.len : Int)))
 (zqE S0 zaa iv0 (w64 (iv0+(1:Int))) zdZ)
 zdZ)
def zhW (zaa:(Sl Gate)) (P0:Int→(Sl Line)→Bool) (iv0:Int) (zdZ:(Sl Line)):Bool :=
  (cond (decide (iv0 < (zaa.len : Int)))
 (zqF P0 zaa iv0 (w64 (iv0+(1:Int))) zdZ)
 true)
def zhX (zaa:(Sl Gate)):Nat→Int→(Sl Line)→(Sl Line):=lpO (fun _ _=>default) (zhV zaa)
def zhY (zaa:(Sl Gate)):Nat→Int→(Sl Line)→Bool:=lpO (fun _ _=>false) (zhW zaa)
def zyS (zaa:(Sl Gate)) (iv0:Int) (zdZ:(Sl Line)):(Sl Line):=zhX zaa Fuel iv0 zdZ
def zyT (zaa:(Sl Gate)) (iv0:Int) (zdZ:(Sl Line)):Bool:=zhY zaa Fuel iv0 zdZ
theorem zGJ (hs:zyT zaa iv0 zdZ=true) (hk:K (e80 (zyS zaa iv0 zdZ))) (zqH:zfk=zg zav zdZ):z80 K [1,1,0,1,0] [] (zCT zaa iv0 zdZ zfk) :=
  zl (fun X=>z80 K [1,1,0,1,0,0] [X]) (by kernel_rfl) fun X0 hX =>
  (show ∀ k, zBv K zaa X0 (zhY zaa k) (zhX zaa k) from zet _ _ (zhW zaa) (zhV zaa) (zBv K zaa X0)
 (by intro _ _ _ hs;exact absurd hs Bool.false_ne_true)
 (by intro P0 S0 hX0 iv0 zdZ zfk hs hk zqH;subst zqH;exact hX _ (zaw (by kernel_rfl) (zc hs hk (fun hs hk=>(zGI hX0 hs hk rfl)) (fun hs hk=>hk))))) _ hs hk zqH
def s80 (zaa:(Sl Gate)):(Sl Line) :=
  (zyS zaa (0:Int) (⟨0,(fun _=>default)⟩:Sl Line))
def p80 (zaa:(Sl Gate)):Bool :=
  (zyT zaa (0:Int) (⟨0,(fun _=>default)⟩:Sl Line))
end
theorem q80 (zaa:(Sl Gate)) (K:List PA→Prop) (hs:p80 zaa=true) (hk:K (e80 (s80 zaa))):vcFun Try.prog G80 zGF 80 [.one (.sl zaa.len 3 (fun i=>enc_55 (zaa.get i)))] K :=
  zaw (by kernel_rfl) (zGJ hs hk rfl)
def zGK : List PA → COut
  | [.one (.sl a0_n a0_s a0_g)]=>.det (IsE enc_55 3 a0_s a0_g∧p80 (⟨a0_n,zae a0_g⟩:(Sl Gate))=true) [.one (.sl ((s80 (⟨a0_n,zae a0_g⟩:(Sl Gate))).len) 4 (fun i=>zav ((s80 (⟨a0_n,zae a0_g⟩:(Sl Gate))).get i)))]
  | _=>.no
theorem zKk:zaf Try.prog 80:=⟨_,rfl,rfl,by kernel_rfl⟩
theorem zPT:Ok Try.prog 80 zGK:=zay zMU zKk fun args K h=>by
  unfold zGK at h
  split at h
  · rename_i a0_n a0_s a0_g
    obtain ⟨⟨⟨rfl,a0_f,rfl⟩,hs⟩,hk⟩:=h
    try rw [zac a0_f] at hs
    try rw [zac a0_f] at hk
    exact ⟨(fun _ _=>[]),(fun _=>false),zGF,q80 (⟨a0_n,a0_f⟩:(Sl Gate)) K hs hk⟩
  · exact h.elim
abbrev T29:Tabs:=Tabs.nil
theorem zMV:TabsOk Try.prog T29:=TabsOk.nil
abbrev G29:Ctrs:=csm T29 (fun _ _=>[]) (fun _=>false)
def zKl:Ann:=⟨16,[(0,zK [2,3] [2,3]),(1,zK [4] [])],
 [],
 [],
 [],[]⟩
abbrev R29:=Bool
abbrev e29 (r:R29):List PA:=[.one (.bool r)]
section
variable {K:List PA→Prop} {a:Frac} {b:Frac}
def s29 (a:Frac) (b:Frac):Bool :=
  (decide ((w64 (a.Num * b.Den)) < (w64 (b.Num * a.Den))))
end
theorem q29 (a:Frac) (b:Frac) (K:List PA→Prop) (hk:K (e29 (s29 a b))):vcFun Try.prog G29 zKl 29 [.agg (zad a),.agg (zad b)] K :=
  zaw (by kernel_rfl) hk
def ztG : List PA → COut
  | [.agg [.int .i64 a0_Num,.int .i64 a0_Den],.agg [.int .i64 a1_Num,.int .i64 a1_Den]]=>.tot [.one (.bool (s29 (⟨a0_Num,a0_Den⟩:Frac) (⟨a1_Num,a1_Den⟩:Frac)))]
  | _=>.no
theorem zKm:zaf Try.prog 29:=⟨_,rfl,rfl,by kernel_rfl⟩
theorem zMW:Ok Try.prog 29 ztG:=zay zMV zKm fun args K h=>by
  unfold ztG at h
  split at h
  · rename_i a0_Num a0_Den a1_Num a1_Den
    have hk:=h
    exact ⟨(fun _ _=>[]),(fun _=>false),zKl,q29 (⟨a0_Num,a0_Den⟩:Frac) (⟨a1_Num,a1_Den⟩:Frac) K hk⟩
  · exact h.elim
abbrev zN2:Tabs:=(Tabs.nil.addF 104 zsx)
theorem zKn:TabsOk Try.prog zN2:=(TabsOk.nil.addF zKd)
abbrev zN3:Ctrs:=csm zN2 (fun _ _=>[]) (fun _=>false)
def zyU:Ann:=⟨33,[(0,zK [1,2] [2]),(1,zK [1,2,5] [2]),(2,zK [1,2,5,11] [2]),(3,zK [1,2,5] [2]),(4,zK [1,2,5,6,7] [2]),(5,zK [1,2,5,32] [2]),(6,zK [4] []),(7,zK [4] [])],
 [(2,zK [1,2,5] [2])],
 [(5,zK [1,2,5,6,7] [2])],
 [],[]⟩
abbrev zPU:=Bool
abbrev zLg (r:zPU):List PA:=[.one (.bool r)]
@[irreducible] def z110:=ptF Try.prog zN3 zyU Try.f110
def zyV (l_a0:Line) (zaa:(Sl Gate)) (iv0:Int):St:=⟨[(1,zS enc_55 3 zaa),(2,zp 2 0),(5,zI iv0)],[(2,.box 37 (zm (zav l_a0)))],[]⟩
abbrev zyW (K:List PA→Prop) (l_a0:Line) (zaa:(Sl Gate)) (X:St→Prop) (P:Int→Bool) (S:Int→Bool):Prop:=∀ ⦃iv0:Int⦄,P iv0=true→K (zLg (S iv0))→X (zyV l_a0 zaa iv0)
section
variable {K:List PA→Prop} {l_a0:Line} {zaa:(Sl Gate)} {iv0:Int} {X0:St→Prop} {P0:Int→Bool} {S0:Int→Bool} {iv1:Int} {nv1:Int} {dv1:Int}
def zmN (S0:Int→Bool) (l_a0:Line) (zaa:(Sl Gate)) (iv1:Int) (nv1:Int) (dv1:Int):Bool :=
  (cond (nv1 == (w64 ((zaa.get iv1.toNat).Low * dv1)))
 true
 (S0 (w64 (iv1+(1:Int)))))
def zmO (P0:Int→Bool) (l_a0:Line) (zaa:(Sl Gate)) (iv1:Int) (nv1:Int) (dv1:Int):Bool :=
  (decide ((0≤iv1∧iv1 < (zaa.len:Int))) &&
 (cond (nv1 == (w64 ((zaa.get iv1.toNat).Low * dv1)))
 true
 (P0 (w64 (iv1+(1:Int))))))
theorem zBw (hX0:zyW K l_a0 zaa X0 P0 S0) (hs:zmO P0 l_a0 zaa iv1 nv1 dv1=true) (hk:K (zLg (zmN S0 l_a0 zaa iv1 nv1 dv1))):z110 K [1,0,1,0,0,1,0,0,1] [X0] ⟨[(1,zS enc_55 3 zaa),(2,zp 2 0),(5,zI iv1),(6,zI nv1),(7,zI dv1)],[(2,.box 37 (zm (zav l_a0)))],[]⟩:=zaw (by kernel_rfl) (zau hs fun hc hs=>And.intro hc (zc hs hk (fun hs hk=>hk) (fun hs hk=>(hX0 hs hk))))
def zfG (l_a0:Line) (zaa:(Sl Gate)) (S0:Int→Bool) (iv0:Int):Bool :=
  (cond (decide (iv0 < (zaa.len : Int)))
 (zmN S0 l_a0 zaa iv0 ((zqw l_a0 ((zaa.get iv0.toNat).Z)).1) ((zqw l_a0 ((zaa.get iv0.toNat).Z)).2))
 false)
def zfH (l_a0:Line) (zaa:(Sl Gate)) (P0:Int→Bool) (iv0:Int):Bool :=
  (cond (decide (iv0 < (zaa.len : Int)))
 (decide ((0≤iv0∧iv0 < (zaa.len:Int))) &&
 (zmO P0 l_a0 zaa iv0 ((zqw l_a0 ((zaa.get iv0.toNat).Z)).1) ((zqw l_a0 ((zaa.get iv0.toNat).Z)).2)))
 true)
def zfI (l_a0:Line) (zaa:(Sl Gate)):Nat→Int→Bool:=lpO (fun _=>default) (zfG l_a0 zaa)
def zfJ (l_a0:Line) (zaa:(Sl Gate)):Nat→Int→Bool:=lpO (fun _=>false) (zfH l_a0 zaa)
def zsz (l_a0:Line) (zaa:(Sl Gate)) (iv0:Int):Bool:=zfI l_a0 zaa Fuel iv0
def zsA (l_a0:Line) (zaa:(Sl Gate)) (iv0:Int):Bool:=zfJ l_a0 zaa Fuel iv0
theorem zBx (hs:zsA l_a0 zaa iv0=true) (hk:K (zLg (zsz l_a0 zaa iv0))):z110 K [1,0,1,0] [] (zyV l_a0 zaa iv0) :=
  zl (fun X=>z110 K [1,0,1,0,0] [X]) (by kernel_rfl) fun X0 hX =>
  (show ∀ k, zyW K l_a0 zaa X0 (zfJ l_a0 zaa k) (zfI l_a0 zaa k) from zet _ _ (zfH l_a0 zaa) (zfG l_a0 zaa) (zyW K l_a0 zaa X0)
 (by intro _ hs;exact absurd hs Bool.false_ne_true)
 (by intro P0 S0 hX0 iv0 hs hk;exact hX _ (zaw (by kernel_rfl) (zc hs hk (fun hs hk=>(zau hs fun hc hs=>And.intro hc (zBw hX0 hs hk))) (fun hs hk=>hk))))) _ hs hk
def ztH (l_a0:Line) (zaa:(Sl Gate)):Bool :=
  (zsz l_a0 zaa (0:Int))
def zGL (l_a0:Line) (zaa:(Sl Gate)):Bool :=
  (zsA l_a0 zaa (0:Int))
end
theorem zPV (l_a0:Line) (zaa:(Sl Gate)) (K:List PA→Prop) (hs:zGL l_a0 zaa=true) (hk:K (zLg (ztH l_a0 zaa))):vcFun Try.prog zN3 zyU 110 [.agg (zav l_a0),.one (.sl zaa.len 3 (fun i=>enc_55 (zaa.get i)))] K :=
  zaw (by kernel_rfl) (zBx hs hk)
def zyX : List PA → COut
  | [.agg [.int .i64 a0_Slope_Num,.int .i64 a0_Slope_Den,.int .i64 a0_Start_Num,.int .i64 a0_Start_Den],.one (.sl a1_n a1_s a1_g)]=>.det (IsE enc_55 3 a1_s a1_g∧zGL (⟨(⟨a0_Slope_Num,a0_Slope_Den⟩:Frac),(⟨a0_Start_Num,a0_Start_Den⟩:Frac)⟩:Line) (⟨a1_n,zae a1_g⟩:(Sl Gate))=true) [.one (.bool (ztH (⟨(⟨a0_Slope_Num,a0_Slope_Den⟩:Frac),(⟨a0_Start_Num,a0_Start_Den⟩:Frac)⟩:Line) (⟨a1_n,zae a1_g⟩:(Sl Gate))))]
  | _=>.no
theorem zGM:zaf Try.prog 110:=⟨_,rfl,rfl,by kernel_rfl⟩
theorem zMX:Ok Try.prog 110 zyX:=zay zKn zGM fun args K h=>by
  unfold zyX at h
  split at h
  · rename_i a0_Slope_Num a0_Slope_Den a0_Start_Num a0_Start_Den a1_n a1_s a1_g
    obtain ⟨⟨⟨rfl,a1_f,rfl⟩,hs⟩,hk⟩:=h
    try rw [zac a1_f] at hs
    try rw [zac a1_f] at hk
    exact ⟨(fun _ _=>[]),(fun _=>false),zyU,zPV (⟨(⟨a0_Slope_Num,a0_Slope_Den⟩:Frac),(⟨a0_Start_Num,a0_Start_Den⟩:Frac)⟩:Line) (⟨a1_n,a1_f⟩:(Sl Gate)) K hs hk⟩
  · exact h.elim
abbrev T81:Tabs:=((Tabs.nil.addF 29 ztG).addF 110 zyX)
theorem zMY:TabsOk Try.prog T81:=((TabsOk.nil.addF zMW).addF zMX)
abbrev G81:Ctrs:=csm T81 (fun _ _=>[]) (fun _=>false)
def zGN:Ann:=⟨30,[(0,zK [2,3,4] [3,4]),(1,zK [2,3,4,13] [3,4]),(2,zK [6] []),(3,zK [3,4,19] [3,4]),(4,zK [6] []),(5,zK [6] [])],
 [],
 [(3,zK [2,3,4] [3,4])],
 [],[]⟩
abbrev R81:=Bool
abbrev e81 (r:R81):List PA:=[.one (.bool r)]
@[irreducible] def z81:=ptF Try.prog G81 zGN Try.f81
section
variable {K:List PA→Prop} {a:Line} {b:Line} {zaa:(Sl Gate)}
def zyY (a:Line) (b:Line) (zaa:(Sl Gate)):Bool :=
  (cond (ztH a zaa)
 (s29 a.Slope b.Slope)
 (s29 b.Slope a.Slope))
def zqI (a:Line) (b:Line) (zaa:(Sl Gate)):Bool :=
  (decide ((zGL a zaa=true)) &&
 true)
theorem zGO (hs:zqI a b zaa=true) (hk:K (e81 (zyY a b zaa))):z81 K [1,1] [] ⟨[(2,zS enc_55 3 zaa),(3,zp 3 0),(4,zp 4 0)],[(3,.box 37 (zm (zav a))),(4,.box 37 (zm (zav b)))],[]⟩:=zaw (by kernel_rfl) (zau hs fun hc hs=>And.intro (And.intro (zE enc_55 3 zaa.get) hc) (zt hk (fun hk=>hk) (fun hk=>hk)))
def s81 (a:Line) (b:Line) (zaa:(Sl Gate)):Bool :=
  (cond ((ztH a zaa) != (ztH b zaa))
 (ztH a zaa)
 (zyY a b zaa))
def p81 (a:Line) (b:Line) (zaa:(Sl Gate)):Bool :=
  (decide ((zGL a zaa=true)) &&
 (decide ((zGL b zaa=true)) &&
 (cond ((ztH a zaa) != (ztH b zaa))
 (decide ((zGL a zaa=true)) &&
 true)
 (zqI a b zaa))))
end
theorem q81 (a:Line) (b:Line) (zaa:(Sl Gate)) (K:List PA→Prop) (hs:p81 a b zaa=true) (hk:K (e81 (s81 a b zaa))):vcFun Try.prog G81 zGN 81 [.agg (zav a),.agg (zav b),.one (.sl zaa.len 3 (fun i=>enc_55 (zaa.get i)))] K :=
  zaw (by kernel_rfl) (zau hs fun hc hs=>And.intro (And.intro (zE enc_55 3 zaa.get) hc) (zau hs fun hc hs=>And.intro (And.intro (zE enc_55 3 zaa.get) hc) (zc hs hk (fun hs hk=>(zau hs fun hc hs=>And.intro (And.intro (zE enc_55 3 zaa.get) hc) hk)) (fun hs hk=>(zGO hs hk)))))
def zGP : List PA → COut
  | [.agg [.int .i64 a0_Slope_Num,.int .i64 a0_Slope_Den,.int .i64 a0_Start_Num,.int .i64 a0_Start_Den],.agg [.int .i64 a1_Slope_Num,.int .i64 a1_Slope_Den,.int .i64 a1_Start_Num,.int .i64 a1_Start_Den],.one (.sl a2_n a2_s a2_g)]=>.det (IsE enc_55 3 a2_s a2_g∧p81 (⟨(⟨a0_Slope_Num,a0_Slope_Den⟩:Frac),(⟨a0_Start_Num,a0_Start_Den⟩:Frac)⟩:Line) (⟨(⟨a1_Slope_Num,a1_Slope_Den⟩:Frac),(⟨a1_Start_Num,a1_Start_Den⟩:Frac)⟩:Line) (⟨a2_n,zae a2_g⟩:(Sl Gate))=true) [.one (.bool (s81 (⟨(⟨a0_Slope_Num,a0_Slope_Den⟩:Frac),(⟨a0_Start_Num,a0_Start_Den⟩:Frac)⟩:Line) (⟨(⟨a1_Slope_Num,a1_Slope_Den⟩:Frac),(⟨a1_Start_Num,a1_Start_Den⟩:Frac)⟩:Line) (⟨a2_n,zae a2_g⟩:(Sl Gate))))]
  | _=>.no
theorem zKo:zaf Try.prog 81:=⟨_,rfl,rfl,by kernel_rfl⟩
theorem zPW:Ok Try.prog 81 zGP:=zay zMY zKo fun args K h=>by
  unfold zGP at h
  split at h
  · rename_i a0_Slope_Num a0_Slope_Den a0_Start_Num a0_Start_Den a1_Slope_Num a1_Slope_Den a1_Start_Num a1_Start_Den a2_n a2_s a2_g
    obtain ⟨⟨⟨rfl,a2_f,rfl⟩,hs⟩,hk⟩:=h
    try rw [zac a2_f] at hs
    try rw [zac a2_f] at hk
    exact ⟨(fun _ _=>[]),(fun _=>false),zGN,q81 (⟨(⟨a0_Slope_Num,a0_Slope_Den⟩:Frac),(⟨a0_Start_Num,a0_Start_Den⟩:Frac)⟩:Line) (⟨(⟨a1_Slope_Num,a1_Slope_Den⟩:Frac),(⟨a1_Start_Num,a1_Start_Den⟩:Frac)⟩:Line) (⟨a2_n,a2_f⟩:(Sl Gate)) K hs hk⟩
  · exact h.elim
abbrev T33:Tabs:=(((Tabs.nil.addF 27 zGB).addF 80 zGK).addF 81 zGP)
theorem zMZ:TabsOk Try.prog T33:=(((TabsOk.nil.addF zPO).addF zPT).addF zPW)
abbrev G33:Ctrs:=csm T33 (fun _ _=>[]) (fun _=>false)
def zGQ:Ann:=⟨73,[(0,zK [0] []),(1,zK [0,3] []),(2,zK [0,3,4] []),(3,zK [0,3,4,5] []),(4,zK [0,3,4,5,12] []),(5,zK [0,3,4,5] [61]),(6,zK [0,3,4,5,24] []),(7,zK [0,3,4,5,6] []),(8,zK [0,3,4,5,6,40] []),(9,zK [0,3,4,5,6] []),(10,zK [0,3,4,5,6,57] []),(11,zK [0,3,4,5] [61]),(12,zK [2] [])],
 [(4,⟨[0,3,4,5],[],[],[],[],[],[(3,4,fun _=>zav default)]⟩),(8,zK [0,3,4,5,6] [])],
 [(3,zK [0,3,4] []),(10,zK [0,3,4,5,6] [])],
 [],[]⟩
abbrev R33:=(Sl Line)
abbrev e33 (r:R33):List PA:=[.one (.sl r.len 4 (fun i=>zav (r.get i)))]
@[irreducible] def z33:=ptF Try.prog G33 zGQ Try.f33
def zCW (zaa:(Sl Gate)) (lv0:(Sl Line)) (zdL:(Sl Line)) (iv1:Int) (zfp:Nat→List PV):St:=⟨[(0,zS enc_55 3 zaa),(3,zP (.sl zdL.len 4 zfp)),(4,zS zav 4 lv0),(5,zI iv1)],[],[]⟩
abbrev zBy (K:List PA→Prop) (zaa:(Sl Gate)) (lv0:(Sl Line)) (X:St→Prop) (P:(Sl Line)→Int→Bool) (S:(Sl Line)→Int→(Sl Line)):Prop:=∀ ⦃zdL:(Sl Line)⦄ ⦃iv1:Int⦄ ⦃zfp:Nat→List PV⦄,P zdL iv1=true→K (e33 (S zdL iv1))→zfp=zg zav zdL→X (zCW zaa lv0 zdL iv1 zfp)
def zCX (zaa:(Sl Gate)) (lv0:(Sl Line)) (zcC:(Sl Line)) (iv2:Int) (zg6:Int) (zfq:Nat→List PV):St:=⟨[(0,zS enc_55 3 zaa),(3,zP (.sl zcC.len 4 zfq)),(4,zS zav 4 lv0),(5,zI iv2),(6,zI zg6)],[],[]⟩
abbrev zKp (K:List PA→Prop) (zaa:(Sl Gate)) (lv0:(Sl Line)) (X:St→Prop) (P:(Sl Line)→Int→Int→Bool) (S:(Sl Line)→Int→Int→(Sl Line)):Prop:=∀ ⦃zcC:(Sl Line)⦄ ⦃iv2:Int⦄ ⦃zg6:Int⦄ ⦃zfq:Nat→List PV⦄,P zcC iv2 zg6=true→K (e33 (S zcC iv2 zg6))→zfq=zg zav zcC→X (zCX zaa lv0 zcC iv2 zg6 zfq)
section
variable {K:List PA→Prop} {zaa:(Sl Gate)} {lv0:(Sl Line)} {zGR:Nat→List PV} {zdL:(Sl Line)} {iv1:Int} {zfp:Nat→List PV} {X1:St→Prop} {P1:(Sl Line)→Int→Bool} {S1:(Sl Line)→Int→(Sl Line)} {zcC:(Sl Line)} {iv2:Int} {zg6:Int} {zfq:Nat→List PV} {X2:St→Prop} {P2:(Sl Line)→Int→Int→Bool} {S2:(Sl Line)→Int→Int→(Sl Line)} {zbE:(Sl Line)} {iv3:Int} {zcp:Int} {zyZ:Nat→List PV}
def zkq (S1:(Sl Line)→Int→(Sl Line)) (zaa:(Sl Gate)) (lv0:(Sl Line)) (zbE:(Sl Line)) (iv3:Int) (zcp:Int):(Sl Line) :=
  (cond (decide (zcp < (zbE.len : Int)))
 (cond (match (match ((zbE.get zcp.toNat).Slope.Num == (lv0.get iv3.toNat).Slope.Num) with | true => (match ((zbE.get zcp.toNat).Slope.Den == (lv0.get iv3.toNat).Slope.Den) with | true => true | false => false) | false => false) with | true => (match (match ((zbE.get zcp.toNat).Start.Num == (lv0.get iv3.toNat).Start.Num) with | true => (match ((zbE.get zcp.toNat).Start.Den == (lv0.get iv3.toNat).Start.Den) with | true => true | false => false) | false => false) with | true => true | false => false) | false => false)
 (S1 zbE (w64 (iv3+(1:Int))))
 (S1 (⟨(((zcp - (0:Int)).toNat+1)+((zbE.len:Int) - zcp).toNat),(zdW ((zcp - (0:Int)).toNat+1) (zdW ((zcp - (0:Int)).toNat) (fun i=>zbE.get (i+((0:Int).toNat))) (fun _=>(lv0.get iv3.toNat))) (fun i=>zbE.get (i+zcp.toNat)))⟩:Sl Line) (w64 (iv3+(1:Int)))))
 (S1 (⟨(((zcp - (0:Int)).toNat+1)+((zbE.len:Int) - zcp).toNat),(zdW ((zcp - (0:Int)).toNat+1) (zdW ((zcp - (0:Int)).toNat) (fun i=>zbE.get (i+((0:Int).toNat))) (fun _=>(lv0.get iv3.toNat))) (fun i=>zbE.get (i+zcp.toNat)))⟩:Sl Line) (w64 (iv3+(1:Int)))))
def zkr (P1:(Sl Line)→Int→Bool) (zaa:(Sl Gate)) (lv0:(Sl Line)) (zbE:(Sl Line)) (iv3:Int) (zcp:Int):Bool :=
  (cond (decide (zcp < (zbE.len : Int)))
 (decide ((0≤zcp∧zcp < (zbE.len:Int))) &&
 (decide ((0≤iv3∧iv3 < (lv0.len:Int))) &&
 (cond (match (match ((zbE.get zcp.toNat).Slope.Num == (lv0.get iv3.toNat).Slope.Num) with | true => (match ((zbE.get zcp.toNat).Slope.Den == (lv0.get iv3.toNat).Slope.Den) with | true => true | false => false) | false => false) with | true => (match (match ((zbE.get zcp.toNat).Start.Num == (lv0.get iv3.toNat).Start.Num) with | true => (match ((zbE.get zcp.toNat).Start.Den == (lv0.get iv3.toNat).Start.Den) with | true => true | false => false) | false => false) with | true => true | false => false) | false => false)
 (P1 zbE (w64 (iv3+(1:Int))))
 (decide ((0≤(0:Int)∧(0:Int)≤zcp∧zcp≤(zbE.len:Int))) &&
 (decide (((zcp - (0:Int)).toNat * 32≤140737488355328∧(zcp - (0:Int)).toNat≤9223372036854775807)) &&
 (decide ((0≤iv3∧iv3 < (lv0.len:Int))) &&
 (decide ((((zcp - (0:Int)).toNat+1) * 32≤140737488355328∧(zcp - (0:Int)).toNat+1≤9223372036854775807)) &&
 (decide ((0≤zcp∧zcp≤(zbE.len:Int)∧(zbE.len:Int)≤(zbE.len:Int))) &&
 (decide (((((zcp - (0:Int)).toNat+1)+((zbE.len:Int) - zcp).toNat) * 32≤140737488355328∧((zcp - (0:Int)).toNat+1)+((zbE.len:Int) - zcp).toNat≤9223372036854775807)) &&
 (P1 (⟨(((zcp - (0:Int)).toNat+1)+((zbE.len:Int) - zcp).toNat),(zdW ((zcp - (0:Int)).toNat+1) (zdW ((zcp - (0:Int)).toNat) (fun i=>zbE.get (i+((0:Int).toNat))) (fun _=>(lv0.get iv3.toNat))) (fun i=>zbE.get (i+zcp.toNat)))⟩:Sl Line) (w64 (iv3+(1:Int)))))))))))))
 (decide ((0≤(0:Int)∧(0:Int)≤zcp∧zcp≤(zbE.len:Int))) &&
 (decide (((zcp - (0:Int)).toNat * 32≤140737488355328∧(zcp - (0:Int)).toNat≤9223372036854775807)) &&
 (decide ((0≤iv3∧iv3 < (lv0.len:Int))) &&
 (decide ((((zcp - (0:Int)).toNat+1) * 32≤140737488355328∧(zcp - (0:Int)).toNat+1≤9223372036854775807)) &&
 (decide ((0≤zcp∧zcp≤(zbE.len:Int)∧(zbE.len:Int)≤(zbE.len:Int))) &&
 (decide (((((zcp - (0:Int)).toNat+1)+((zbE.len:Int) - zcp).toNat) * 32≤140737488355328∧((zcp - (0:Int)).toNat+1)+((zbE.len:Int) - zcp).toNat≤9223372036854775807)) &&
 (P1 (⟨(((zcp - (0:Int)).toNat+1)+((zbE.len:Int) - zcp).toNat),(zdW ((zcp - (0:Int)).toNat+1) (zdW ((zcp - (0:Int)).toNat) (fun i=>zbE.get (i+((0:Int).toNat))) (fun _=>(lv0.get iv3.toNat))) (fun i=>zbE.get (i+zcp.toNat)))⟩:Sl Line) (w64 (iv3+(1:Int)))))))))))
theorem zy0 (hX1:zBy K zaa lv0 X1 P1 S1) (hs:zkr P1 zaa lv0 zbE iv3 zcp=true) (hk:K (e33 (zkq S1 zaa lv0 zbE iv3 zcp))) (zGS:zyZ=zg zav zbE):z33 K [1,1,1,0,1,0,0,1,0,0,1,1,1] [X1] ⟨[(0,zS enc_55 3 zaa),(3,zP (.sl zbE.len 4 zyZ)),(4,zS zav 4 lv0),(5,zI iv3),(6,zI zcp)],[],[]⟩:=by subst zGS;exact zaw (by kernel_rfl) (zc hs hk (fun hs hk=>(zau hs fun hc hs=>And.intro hc (zau hs fun hc hs=>And.intro hc (zc hs hk (fun hs hk=>(hX1 hs hk rfl)) (fun hs hk=>(zau hs fun hc hs=>And.intro hc (zau hs fun hc hs=>And.intro hc (zau hs fun hc hs=>And.intro hc (zau hs fun hc hs=>And.intro hc (zau hs fun hc hs=>And.intro hc (zau hs fun hc hs=>And.intro hc (hX1 hs hk (zeP (enc:=zav) (f:=(zdW ((zcp - (0:Int)).toNat) (fun i=>zbE.get (i+((0:Int).toNat))) (fun _=>(lv0.get iv3.toNat)))) (h:=(fun i=>zbE.get (i+zcp.toNat))) (zeP (enc:=zav) (f:=(fun i=>zbE.get (i+((0:Int).toNat)))) (h:=(fun _=>(lv0.get iv3.toNat))) rfl rfl) rfl))))))))))))) (fun hs hk=>(zau hs fun hc hs=>And.intro hc (zau hs fun hc hs=>And.intro hc (zau hs fun hc hs=>And.intro hc (zau hs fun hc hs=>And.intro hc (zau hs fun hc hs=>And.intro hc (zau hs fun hc hs=>And.intro hc (hX1 hs hk (zeP (enc:=zav) (f:=(zdW ((zcp - (0:Int)).toNat) (fun i=>zbE.get (i+((0:Int).toNat))) (fun _=>(lv0.get iv3.toNat)))) (h:=(fun i=>zbE.get (i+zcp.toNat))) (zeP (enc:=zav) (f:=(fun i=>zbE.get (i+((0:Int).toNat)))) (h:=(fun _=>(lv0.get iv3.toNat))) rfl rfl) rfl))))))))))
def zhZ (S1:(Sl Line)→Int→(Sl Line)) (zaa:(Sl Gate)) (lv0:(Sl Line)) (S2:(Sl Line)→Int→Int→(Sl Line)) (zcC:(Sl Line)) (iv2:Int) (zg6:Int):(Sl Line) :=
  (cond (decide (zg6 < (zcC.len : Int)))
 (cond (s81 (zcC.get zg6.toNat) (lv0.get iv2.toNat) zaa)
 (S2 zcC iv2 (w64 (zg6+(1:Int))))
 (zkq S1 zaa lv0 zcC iv2 zg6))
 (zkq S1 zaa lv0 zcC iv2 zg6))
def zh0 (P1:(Sl Line)→Int→Bool) (zaa:(Sl Gate)) (lv0:(Sl Line)) (P2:(Sl Line)→Int→Int→Bool) (zcC:(Sl Line)) (iv2:Int) (zg6:Int):Bool :=
  (cond (decide (zg6 < (zcC.len : Int)))
 (decide ((0≤zg6∧zg6 < (zcC.len:Int))) &&
 (decide ((0≤iv2∧iv2 < (lv0.len:Int))) &&
 (decide ((p81 (zcC.get zg6.toNat) (lv0.get iv2.toNat) zaa=true)) &&
 (cond (s81 (zcC.get zg6.toNat) (lv0.get iv2.toNat) zaa)
 (P2 zcC iv2 (w64 (zg6+(1:Int))))
 (zkr P1 zaa lv0 zcC iv2 zg6)))))
 (zkr P1 zaa lv0 zcC iv2 zg6))
def zgu (S1:(Sl Line)→Int→(Sl Line)) (zaa:(Sl Gate)) (lv0:(Sl Line)):Nat→(Sl Line)→Int→Int→(Sl Line):=lpO (fun _ _ _=>default) (zhZ S1 zaa lv0)
def zh1 (P1:(Sl Line)→Int→Bool) (zaa:(Sl Gate)) (lv0:(Sl Line)):Nat→(Sl Line)→Int→Int→Bool:=lpO (fun _ _ _=>false) (zh0 P1 zaa lv0)
def zqJ (S1:(Sl Line)→Int→(Sl Line)) (zaa:(Sl Gate)) (lv0:(Sl Line)) (zcC:(Sl Line)) (iv2:Int) (zg6:Int):(Sl Line):=zgu S1 zaa lv0 Fuel zcC iv2 zg6
def zqK (P1:(Sl Line)→Int→Bool) (zaa:(Sl Gate)) (lv0:(Sl Line)) (zcC:(Sl Line)) (iv2:Int) (zg6:Int):Bool:=zh1 P1 zaa lv0 Fuel zcC iv2 zg6
theorem zGT (hX1:zBy K zaa lv0 X1 P1 S1) (hs:zqK P1 zaa lv0 zcC iv2 zg6=true) (hk:K (e33 (zqJ S1 zaa lv0 zcC iv2 zg6))) (zqL:zfq=zg zav zcC):z33 K [1,1,1,0,1,0,0,1,0,0,1,1,0,0] [X1] (zCX zaa lv0 zcC iv2 zg6 zfq) :=
  zl (fun X=>z33 K [1,1,1,0,1,0,0,1,0,0,1,1,0,0,0] [X1,X]) (by kernel_rfl) fun X2 hX =>
  (show ∀ k, zKp K zaa lv0 X2 (zh1 P1 zaa lv0 k) (zgu S1 zaa lv0 k) from zet _ _ (zh0 P1 zaa lv0) (zhZ S1 zaa lv0) (zKp K zaa lv0 X2)
 (by intro _ _ _ _ hs;exact absurd hs Bool.false_ne_true)
 (by intro P2 S2 hX2 zcC iv2 zg6 zfq hs hk zqL;subst zqL;exact hX _ (zaw (by kernel_rfl) (zc hs hk (fun hs hk=>(zau hs fun hc hs=>And.intro hc (zau hs fun hc hs=>And.intro hc (zau hs fun hc hs=>And.intro (And.intro (zE enc_55 3 zaa.get) hc) (zc hs hk (fun hs hk=>(hX2 hs hk rfl)) (fun hs hk=>(zy0 hX1 hs hk rfl))))))) (fun hs hk=>(zy0 hX1 hs hk rfl)))))) _ hs hk zqL
def zh2 (zaa:(Sl Gate)) (lv0:(Sl Line)) (S1:(Sl Line)→Int→(Sl Line)) (zdL:(Sl Line)) (iv1:Int):(Sl Line) :=
  (cond (decide (iv1 < (lv0.len : Int)))
 (cond (decide (((s27 (lv0.get iv1.toNat) zaa).len : Int) < (zaa.len : Int)))
 (S1 zdL (w64 (iv1+(1:Int))))
 (zqJ S1 zaa lv0 zdL iv1 (0:Int)))
 zdL)
def zh3 (zaa:(Sl Gate)) (lv0:(Sl Line)) (P1:(Sl Line)→Int→Bool) (zdL:(Sl Line)) (iv1:Int):Bool :=
  (cond (decide (iv1 < (lv0.len : Int)))
 (decide ((0≤iv1∧iv1 < (lv0.len:Int))) &&
 (decide ((p27 (lv0.get iv1.toNat) zaa=true)) &&
 (cond (decide (((s27 (lv0.get iv1.toNat) zaa).len : Int) < (zaa.len : Int)))
 (P1 zdL (w64 (iv1+(1:Int))))
 (zqK P1 zaa lv0 zdL iv1 (0:Int)))))
 true)
def zgv (zaa:(Sl Gate)) (lv0:(Sl Line)):Nat→(Sl Line)→Int→(Sl Line):=lpO (fun _ _=>default) (zh2 zaa lv0)
def zh4 (zaa:(Sl Gate)) (lv0:(Sl Line)):Nat→(Sl Line)→Int→Bool:=lpO (fun _ _=>false) (zh3 zaa lv0)
def zy1 (zaa:(Sl Gate)) (lv0:(Sl Line)) (zdL:(Sl Line)) (iv1:Int):(Sl Line):=zgv zaa lv0 Fuel zdL iv1
def zy2 (zaa:(Sl Gate)) (lv0:(Sl Line)) (zdL:(Sl Line)) (iv1:Int):Bool:=zh4 zaa lv0 Fuel zdL iv1
theorem zGU (hs:zy2 zaa lv0 zdL iv1=true) (hk:K (e33 (zy1 zaa lv0 zdL iv1))) (zqM:zfp=zg zav zdL):z33 K [1,1,1,0,1,0] [] (zCW zaa lv0 zdL iv1 zfp) :=
  zl (fun X=>z33 K [1,1,1,0,1,0,0] [X]) (by kernel_rfl) fun X1 hX =>
  (show ∀ k, zBy K zaa lv0 X1 (zh4 zaa lv0 k) (zgv zaa lv0 k) from zet _ _ (zh3 zaa lv0) (zh2 zaa lv0) (zBy K zaa lv0 X1)
 (by intro _ _ _ hs;exact absurd hs Bool.false_ne_true)
 (by intro P1 S1 hX1 zdL iv1 zfp hs hk zqM;subst zqM;exact hX _ (zaw (by kernel_rfl) (zc hs hk (fun hs hk=>(zau hs fun hc hs=>And.intro hc (zau hs fun hc hs=>And.intro (And.intro (zE enc_55 3 zaa.get) hc) (zc hs hk (fun hs hk=>(hX1 hs hk rfl)) (fun hs hk=>(zGT hX1 hs hk rfl)))))) (fun hs hk=>hk))))) _ hs hk zqM
def zy3 (zaa:(Sl Gate)) (lv0:(Sl Line)):(Sl Line) :=
  (zy1 zaa lv0 (⟨0,(fun _=>default)⟩:Sl Line) (0:Int))
def zy4 (zaa:(Sl Gate)) (lv0:(Sl Line)):Bool :=
  (zy2 zaa lv0 (⟨0,(fun _=>default)⟩:Sl Line) (0:Int))
theorem zGV (hs:zy4 zaa lv0=true) (hk:K (e33 (zy3 zaa lv0))) (zM0:zGR=zg zav lv0):z33 K [1,1,1] [] ⟨[(0,zS enc_55 3 zaa),(3,zP (.nils)),(4,zP (.sl lv0.len 4 zGR))],[],[]⟩:=by subst zM0;exact zaw (by kernel_rfl) (zGU hs hk rfl)
def s33 (zaa:(Sl Gate)):(Sl Line) :=
  (zy3 zaa (s80 zaa))
def p33 (zaa:(Sl Gate)):Bool :=
  (decide ((p80 zaa=true)) &&
 (zy4 zaa (s80 zaa)))
end
theorem q33 (zaa:(Sl Gate)) (K:List PA→Prop) (hs:p33 zaa=true) (hk:K (e33 (s33 zaa))):vcFun Try.prog G33 zGQ 33 [.one (.sl zaa.len 3 (fun i=>enc_55 (zaa.get i)))] K :=
  zaw (by kernel_rfl) (zau hs fun hc hs=>And.intro (And.intro (zE enc_55 3 zaa.get) hc) (zGV hs hk rfl))
def zBz : List PA → COut
  | [.one (.sl a0_n a0_s a0_g)]=>.det (IsE enc_55 3 a0_s a0_g∧p33 (⟨a0_n,zae a0_g⟩:(Sl Gate))=true) [.one (.sl ((s33 (⟨a0_n,zae a0_g⟩:(Sl Gate))).len) 4 (fun i=>zav ((s33 (⟨a0_n,zae a0_g⟩:(Sl Gate))).get i)))]
  | _=>.no
theorem zKq:zaf Try.prog 33:=⟨_,rfl,rfl,by kernel_rfl⟩
theorem zN4:Ok Try.prog 33 zBz:=zay zMZ zKq fun args K h=>by
  unfold zBz at h
  split at h
  · rename_i a0_n a0_s a0_g
    obtain ⟨⟨⟨rfl,a0_f,rfl⟩,hs⟩,hk⟩:=h
    try rw [zac a0_f] at hs
    try rw [zac a0_f] at hk
    exact ⟨(fun _ _=>[]),(fun _=>false),zGQ,q33 (⟨a0_n,a0_f⟩:(Sl Gate)) K hs hk⟩
  · exact h.elim
abbrev T71:Tabs:=Tabs.nil
theorem zM1:TabsOk Try.prog T71:=TabsOk.nil
abbrev G71:Ctrs:=csm T71 (fun _ _=>[]) (fun _=>false)
def zGW:Ann:=⟨41,[(0,zK [0] []),(1,zK [0,5,6] []),(2,zK [0,5,6,7] []),(3,zK [0,5,6,7,19] []),(4,zK [0,5,6,7] []),(5,zK [0,5,6,7] []),(6,zK [2,3,4] [])],
 [(3,zK [0,5,6,7] [])],
 [],
 [],[]⟩
abbrev R71:=(Int×Int×Bool)
abbrev e71 (r:R71):List PA:=[.one (.int .i64 r.1),.one (.int .i64 r.2.1),.one (.bool r.2.2)]
@[irreducible] def z71:=ptF Try.prog G71 zGW Try.f71
def zCY (zaa:(Sl Gate)) (av0:Int) (bv0:Int) (iv0:Int):St:=⟨[(0,zS enc_55 3 zaa),(5,zI av0),(6,zI bv0),(7,zI iv0)],[],[]⟩
abbrev zKr (K:List PA→Prop) (zaa:(Sl Gate)) (X:St→Prop) (P:Int→Int→Int→Bool) (S:Int→Int→Int→(Int×Int×Bool)):Prop:=∀ ⦃av0:Int⦄ ⦃bv0:Int⦄ ⦃iv0:Int⦄,P av0 bv0 iv0=true→K (e71 (S av0 bv0 iv0))→X (zCY zaa av0 bv0 iv0)
section
variable {K:List PA→Prop} {zaa:(Sl Gate)} {av0:Int} {bv0:Int} {iv0:Int} {X0:St→Prop} {P0:Int→Int→Int→Bool} {S0:Int→Int→Int→(Int×Int×Bool)}
def zh5 (zaa:(Sl Gate)) (S0:Int→Int→Int→(Int×Int×Bool)) (av0:Int) (bv0:Int) (iv0:Int):(Int×Int×Bool) :=
  (cond (decide (iv0 < (zaa.len : Int)))
 (S0 (if (zaa.get iv0.toNat).Low > av0 then (zaa.get iv0.toNat).Low else av0) (if (zaa.get iv0.toNat).High < bv0 then (zaa.get iv0.toNat).High else bv0) (w64 (iv0+(1:Int))))
 (av0,bv0,(decide (av0≤bv0))))
def zh6 (zaa:(Sl Gate)) (P0:Int→Int→Int→Bool) (av0:Int) (bv0:Int) (iv0:Int):Bool :=
  (cond (decide (iv0 < (zaa.len : Int)))
 (decide ((0≤iv0∧iv0 < (zaa.len:Int))) &&
 (decide ((0≤iv0∧iv0 < (zaa.len:Int))) &&
 (P0 (if (zaa.get iv0.toNat).Low > av0 then (zaa.get iv0.toNat).Low else av0) (if (zaa.get iv0.toNat).High < bv0 then (zaa.get iv0.toNat).High else bv0) (w64 (iv0+(1:Int))))))
 true)
def zh7 (zaa:(Sl Gate)):Nat→Int→Int→Int→(Int×Int×Bool):=lpO (fun _ _ _=>default) (zh5 zaa)
def zh8 (zaa:(Sl Gate)):Nat→Int→Int→Int→Bool:=lpO (fun _ _ _=>false) (zh6 zaa)
def zy5 (zaa:(Sl Gate)) (av0:Int) (bv0:Int) (iv0:Int):(Int×Int×Bool):=zh7 zaa Fuel av0 bv0 iv0
def zy6 (zaa:(Sl Gate)) (av0:Int) (bv0:Int) (iv0:Int):Bool:=zh8 zaa Fuel av0 bv0 iv0
theorem zGX (hs:zy6 zaa av0 bv0 iv0=true) (hk:K (e71 (zy5 zaa av0 bv0 iv0))):z71 K [1,1,0,1,0] [] (zCY zaa av0 bv0 iv0) :=
  zl (fun X=>z71 K [1,1,0,1,0,0] [X]) (by kernel_rfl) fun X0 hX =>
  (show ∀ k, zKr K zaa X0 (zh8 zaa k) (zh7 zaa k) from zet _ _ (zh6 zaa) (zh5 zaa) (zKr K zaa X0)
 (by intro _ _ _ hs;exact absurd hs Bool.false_ne_true)
 (by intro P0 S0 hX0 av0 bv0 iv0 hs hk;exact hX _ (zaw (by kernel_rfl) (zc hs hk (fun hs hk=>(zau hs fun hc hs=>And.intro hc (zau hs fun hc hs=>And.intro hc (hX0 hs hk)))) (fun hs hk=>hk))))) _ hs hk
def s71 (zaa:(Sl Gate)):(Int×Int×Bool) :=
  (zy5 zaa ((zaa.get 0).Low) ((zaa.get 0).High) (1:Int))
def p71 (zaa:(Sl Gate)):Bool :=
  (decide ((0≤(0:Int)∧(0:Int) < (zaa.len:Int))) &&
 (decide ((0≤(0:Int)∧(0:Int) < (zaa.len:Int))) &&
 (zy6 zaa ((zaa.get 0).Low) ((zaa.get 0).High) (1:Int))))
end
theorem q71 (zaa:(Sl Gate)) (K:List PA→Prop) (hs:p71 zaa=true) (hk:K (e71 (s71 zaa))):vcFun Try.prog G71 zGW 71 [.one (.sl zaa.len 3 (fun i=>enc_55 (zaa.get i)))] K :=
  zaw (by kernel_rfl) (zau hs fun hc hs=>And.intro hc (zau hs fun hc hs=>And.intro hc (zGX hs hk)))
def zBA : List PA → COut
  | [.one (.sl a0_n a0_s a0_g)]=>.det (IsE enc_55 3 a0_s a0_g∧p71 (⟨a0_n,zae a0_g⟩:(Sl Gate))=true) [.one (.int .i64 ((s71 (⟨a0_n,zae a0_g⟩:(Sl Gate))).1)),.one (.int .i64 ((s71 (⟨a0_n,zae a0_g⟩:(Sl Gate))).2.1)),.one (.bool ((s71 (⟨a0_n,zae a0_g⟩:(Sl Gate))).2.2))]
  | _=>.no
theorem zKs:zaf Try.prog 71:=⟨_,rfl,rfl,by kernel_rfl⟩
theorem zN5:Ok Try.prog 71 zBA:=zay zM1 zKs fun args K h=>by
  unfold zBA at h
  split at h
  · rename_i a0_n a0_s a0_g
    obtain ⟨⟨⟨rfl,a0_f,rfl⟩,hs⟩,hk⟩:=h
    try rw [zac a0_f] at hs
    try rw [zac a0_f] at hk
    exact ⟨(fun _ _=>[]),(fun _=>false),zGW,q71 (⟨a0_n,a0_f⟩:(Sl Gate)) K hs hk⟩
  · exact h.elim
abbrev T21:Tabs:=(((Tabs.nil.addF 22 ztF).addF 33 zBz).addF 71 zBA)
theorem zM2:TabsOk Try.prog T21:=(((TabsOk.nil.addF zMP).addF zN4).addF zN5)
abbrev G21:Ctrs:=csm T21 (fun _ _=>[]) (fun _=>false)
def zKt:Ann:=⟨19,[(0,zK [0] []),(1,zK [0,7] []),(2,zK [5] []),(3,zK [2] []),(4,zK [2] [])],
 [],
 [],
 [],[]⟩
abbrev R21:=Bool
abbrev e21 (r:R21):List PA:=[.one (.bool r)]
section
variable {K:List PA→Prop} {zaa:(Sl Gate)}
def s21 (zaa:(Sl Gate)):Bool :=
  (cond (s22 zaa)
 ((s71 zaa).2.2)
 (decide (((s33 zaa).len:Int) > (0:Int))))
def p21 (zaa:(Sl Gate)):Bool :=
  (decide ((p22 zaa=true)) &&
 (cond (s22 zaa)
 (decide ((p71 zaa=true)) &&
 true)
 (decide ((p33 zaa=true)) &&
 true)))
end
theorem q21 (zaa:(Sl Gate)) (K:List PA→Prop) (hs:p21 zaa=true) (hk:K (e21 (s21 zaa))):vcFun Try.prog G21 zKt 21 [.one (.sl zaa.len 3 (fun i=>enc_55 (zaa.get i)))] K :=
  zaw (by kernel_rfl) (zau hs fun hc hs=>And.intro (And.intro (zE enc_55 3 zaa.get) hc) (zc hs hk (fun hs hk=>(zau hs fun hc hs=>And.intro (And.intro (zE enc_55 3 zaa.get) hc) hk)) (fun hs hk=>(zau hs fun hc hs=>And.intro (And.intro (zE enc_55 3 zaa.get) hc) hk))))
def zGY : List PA → COut
  | [.one (.sl a0_n a0_s a0_g)]=>.det (IsE enc_55 3 a0_s a0_g∧p21 (⟨a0_n,zae a0_g⟩:(Sl Gate))=true) [.one (.bool (s21 (⟨a0_n,zae a0_g⟩:(Sl Gate))))]
  | _=>.no
theorem zKu:zaf Try.prog 21:=⟨_,rfl,rfl,by kernel_rfl⟩
theorem zPX:Ok Try.prog 21 zGY:=zay zM2 zKu fun args K h=>by
  unfold zGY at h
  split at h
  · rename_i a0_n a0_s a0_g
    obtain ⟨⟨⟨rfl,a0_f,rfl⟩,hs⟩,hk⟩:=h
    try rw [zac a0_f] at hs
    try rw [zac a0_f] at hk
    exact ⟨(fun _ _=>[]),(fun _=>false),zKt,q21 (⟨a0_n,a0_f⟩:(Sl Gate)) K hs hk⟩
  · exact h.elim
abbrev T28:Tabs:=((Tabs.nil.addF 40 zp0).addF 73 zBq)
theorem zM3:TabsOk Try.prog T28:=((TabsOk.nil.addF zLf).addF zNW)
abbrev G28:Ctrs:=csm T28 (fun _ _=>[]) (fun _=>false)
def zGZ:Ann:=⟨44,[(0,zK [1,2,4] [2,4]),(1,zK [1,2,4,5] [2,4]),(2,zK [4] [4])],
 [],
 [(2,zK [1,2,4,5] [2,4])],
 [],[]⟩
abbrev R28:=Frac
abbrev e28 (r:R28):List PA:=[.agg [.int .i64 r.Num,.int .i64 r.Den]]
@[irreducible] def z28:=ptF Try.prog G28 zGZ Try.f28
section
variable {K:List PA→Prop} {l_a0:Line} {z:Int} {dv0:Int}
def zqN (l_a0:Line) (z:Int) (dv0:Int):Frac :=
  (s40 (w64 ((w64 (l_a0.Start.Num * (w64 (dv0.tdiv l_a0.Start.Den))))+(w64 ((w64 (l_a0.Slope.Num * (w64 (dv0.tdiv l_a0.Slope.Den)))) * z)))) dv0)
def zqO (l_a0:Line) (z:Int) (dv0:Int):Bool :=
  (decide ((l_a0.Start.Den ≠ 0)) &&
 (decide ((l_a0.Slope.Den ≠ 0)) &&
 (decide ((p40 (w64 ((w64 (l_a0.Start.Num * (w64 (dv0.tdiv l_a0.Start.Den))))+(w64 ((w64 (l_a0.Slope.Num * (w64 (dv0.tdiv l_a0.Slope.Den)))) * z)))) dv0=true)) &&
 true)))
theorem zG0 (hs:zqO l_a0 z dv0=true) (hk:K (e28 (zqN l_a0 z dv0))):z28 K [1,1] [] ⟨[(1,zI z),(2,zp 2 0),(4,zp 4 0),(5,zI dv0)],[(2,.box 37 (zm (zav l_a0))),(4,.box 25 (zm (zad (⟨(0:Int),(0:Int)⟩:Frac))))],[]⟩:=zaw (by kernel_rfl) (zau hs fun hc hs=>And.intro hc (zau hs fun hc hs=>And.intro hc (zau hs fun hc hs=>And.intro hc hk)))
def s28 (l_a0:Line) (z:Int):Frac :=
  (zqN l_a0 z (w64 ((w64 (l_a0.Start.Den.tdiv (s73 l_a0.Start.Den l_a0.Slope.Den))) * l_a0.Slope.Den)))
def p28 (l_a0:Line) (z:Int):Bool :=
  (decide ((p73 l_a0.Start.Den l_a0.Slope.Den=true)) &&
 (decide (((s73 l_a0.Start.Den l_a0.Slope.Den) ≠ 0)) &&
 (zqO l_a0 z (w64 ((w64 (l_a0.Start.Den.tdiv (s73 l_a0.Start.Den l_a0.Slope.Den))) * l_a0.Slope.Den)))))
end
theorem q28 (l_a0:Line) (z:Int) (K:List PA→Prop) (hs:p28 l_a0 z=true) (hk:K (e28 (s28 l_a0 z))):vcFun Try.prog G28 zGZ 28 [.agg (zav l_a0),.one (.int .i64 z)] K :=
  zaw (by kernel_rfl) (zau hs fun hc hs=>And.intro hc (zau hs fun hc hs=>And.intro hc (zG0 hs hk)))
def zG1 : List PA → COut
  | [.agg [.int .i64 a0_Slope_Num,.int .i64 a0_Slope_Den,.int .i64 a0_Start_Num,.int .i64 a0_Start_Den],.one (.int .i64 a1)]=>.det (p28 (⟨(⟨a0_Slope_Num,a0_Slope_Den⟩:Frac),(⟨a0_Start_Num,a0_Start_Den⟩:Frac)⟩:Line) a1=true) [.agg [.int .i64 ((s28 (⟨(⟨a0_Slope_Num,a0_Slope_Den⟩:Frac),(⟨a0_Start_Num,a0_Start_Den⟩:Frac)⟩:Line) a1).Num),.int .i64 ((s28 (⟨(⟨a0_Slope_Num,a0_Slope_Den⟩:Frac),(⟨a0_Start_Num,a0_Start_Den⟩:Frac)⟩:Line) a1).Den)]]
  | _=>.no
theorem call28:zaf Try.prog 28:=⟨_,rfl,rfl,by kernel_rfl⟩
theorem zPY:Ok Try.prog 28 zG1:=zay zM3 call28 fun args K h=>by
  unfold zG1 at h
  split at h
  · rename_i a0_Slope_Num a0_Slope_Den a0_Start_Num a0_Start_Den a1
    obtain ⟨hs,hk⟩:=h
    exact ⟨(fun _ _=>[]),(fun _=>false),zGZ,q28 (⟨(⟨a0_Slope_Num,a0_Slope_Den⟩:Frac),(⟨a0_Start_Num,a0_Start_Den⟩:Frac)⟩:Line) a1 K hs hk⟩
  · exact h.elim
abbrev T36:Tabs:=((((((Tabs.nil.addF 22 ztF).addF 28 zG1).addF 29 ztG).addF 33 zBz).addF 40 zp0).addF 71 zBA)
theorem zM4:TabsOk Try.prog T36:=((((((TabsOk.nil.addF zMP).addF zPY).addF zMW).addF zN4).addF zLf).addF zN5)
abbrev G36:Ctrs:=csm T36 (fun _ _=>[]) (fun _=>false)
def zG2:Ann:=⟨60,[(0,zK [0,1,4,5] [4,5]),(1,zK [0,1,4,5,15] [4,5]),(2,zK [4,5,6,7] [4,5]),(3,zK [4,5] [4,5]),(4,zK [1,4,5,9] [4,5]),(5,zK [1,4,5,9,10,11] [4,5,10,11]),(6,zK [1,4,5,9,10,11,12] [4,5,10,11]),(7,zK [1,4,5,9,10,11,12,41] [4,5,10,11]),(8,zK [1,4,5,9,10,11,12] [4,5,10,11]),(9,zK [1,4,5,9,10,11,12,13] [4,5,10,11,13]),(10,zK [1,4,5,9,10,11,12,13,52] [4,5,10,11,13]),(11,zK [1,4,5,9,10,11,12,13] [4,5,10,11,13]),(12,zK [1,4,5,9,10,11,12,13,56] [4,5,10,11,13]),(13,zK [1,4,5,9,10,11,12] [4,5,10,11]),(14,zK [4,5] [4,5])],
 [(7,zK [1,4,5,9,10,11,12] [4,5,10,11])],
 [(2,zK [0,1,4,5,15] [4,5]),(3,zK [4,5,6,7] [4,5]),(4,zK [0,1,4,5] [4,5]),(5,zK [1,4,5,9] [4,5]),(6,zK [1,4,5,9,10,11] [4,5,10,11]),(10,zK [1,4,5,9,10,11,12,13] [4,5,10,11,13]),(11,zK [1,4,5,9,10,11,12,13,52] [4,5,10,11,13]),(13,zK [1,4,5,9,10,11,12,13,56] [4,5,10,11,13])],
 [],[]⟩
abbrev R36:=(Frac×Frac)
abbrev e36 (r:R36):List PA:=[.agg [.int .i64 r.1.Num,.int .i64 r.1.Den],.agg [.int .i64 r.2.Num,.int .i64 r.2.Den]]
@[irreducible] def z36:=ptF Try.prog G36 zG2 Try.f36
def zCZ (z:Int) (lv3:(Sl Line)) (iv5:Int) (zeH:Int) (zeI:Int) (zeJ:Int) (zeK:Int):St:=⟨[(1,zI z),(4,zp 4 0),(5,zp 5 0),(9,zS zav 4 lv3),(10,zp 10 0),(11,zp 11 0),(12,zI iv5)],[(4,.box 25 (zm (zad (⟨(0:Int),(0:Int)⟩:Frac)))),(5,.box 25 (zm (zad (⟨(0:Int),(0:Int)⟩:Frac)))),(10,.box 25 (zm (zad (⟨zeH,zeI⟩:Frac)))),(11,.box 25 (zm (zad (⟨zeJ,zeK⟩:Frac))))],[]⟩
abbrev zy7 (K:List PA→Prop) (z:Int) (lv3:(Sl Line)) (X:St→Prop) (P:Int→Int→Int→Int→Int→Bool) (S:Int→Int→Int→Int→Int→(Frac×Frac)):Prop:=∀ ⦃iv5:Int⦄ ⦃zeH:Int⦄ ⦃zeI:Int⦄ ⦃zeJ:Int⦄ ⦃zeK:Int⦄,P iv5 zeH zeI zeJ zeK=true→K (e36 (S iv5 zeH zeI zeJ zeK))→X (zCZ z lv3 iv5 zeH zeI zeJ zeK)
section
variable {K:List PA→Prop} {zaa:(Sl Gate)} {z:Int} {zqP:Bool} {av1:Int} {bv1:Int} {lv3:(Sl Line)} {zKv:Nat→List PV} {zqQ:Int} {zqR:Int} {ziD:Int} {ziE:Int} {iv5:Int} {zeH:Int} {zeI:Int} {zeJ:Int} {zeK:Int} {X5:St→Prop} {P5:Int→Int→Int→Int→Int→Bool} {S5:Int→Int→Int→Int→Int→(Frac×Frac)} {iv6:Int} {zkU:Int} {zkV:Int} {zoh:Int} {zoi:Int} {zb8:Int} {zb9:Int} {iv7:Int} {zqS:Bool} {zqT:Int} {zqU:Int} {zh9:Int} {zia:Int} {iv8:Int} {zqV:Bool} {zmP:Int} {zmQ:Int} {zqW:Int} {zqX:Int}
def zmR (S5:Int→Int→Int→Int→Int→(Frac×Frac)) (z:Int) (lv3:(Sl Line)) (zb8:Int) (zb9:Int) (iv8:Int) (zqV:Bool) (zmP:Int) (zmQ:Int) (zqW:Int) (zqX:Int):(Frac×Frac) :=
  (cond zqV
 (S5 (w64 (iv8+(1:Int))) zmP zmQ zb8 zb9)
 (S5 (w64 (iv8+(1:Int))) zmP zmQ zqW zqX))
def zmS (P5:Int→Int→Int→Int→Int→Bool) (z:Int) (lv3:(Sl Line)) (zb8:Int) (zb9:Int) (iv8:Int) (zqV:Bool) (zmP:Int) (zmQ:Int) (zqW:Int) (zqX:Int):Bool :=
  (cond zqV
 (P5 (w64 (iv8+(1:Int))) zmP zmQ zb8 zb9)
 (P5 (w64 (iv8+(1:Int))) zmP zmQ zqW zqX))
theorem zy8 (hX5:zy7 K z lv3 X5 P5 S5) (hs:zmS P5 z lv3 zb8 zb9 iv8 zqV zmP zmQ zqW zqX=true) (hk:K (e36 (zmR S5 z lv3 zb8 zb9 iv8 zqV zmP zmQ zqW zqX))):z36 K [1,1,1,1,0,1,0,0,1,0,0,1,1,1] [X5] ⟨[(1,zI z),(4,zp 4 0),(5,zp 5 0),(9,zS zav 4 lv3),(10,zp 10 0),(11,zp 11 0),(12,zI iv8),(13,zp 13 0),(56,zB zqV)],[(4,.box 25 (zm (zad (⟨(0:Int),(0:Int)⟩:Frac)))),(5,.box 25 (zm (zad (⟨(0:Int),(0:Int)⟩:Frac)))),(10,.box 25 (zm (zad (⟨zmP,zmQ⟩:Frac)))),(11,.box 25 (zm (zad (⟨zqW,zqX⟩:Frac)))),(13,.box 25 (zm (zad (⟨zb8,zb9⟩:Frac))))],[]⟩:=zaw (by kernel_rfl) (zc hs hk (fun hs hk=>(hX5 hs hk)) (fun hs hk=>(hX5 hs hk)))
def zqY (S5:Int→Int→Int→Int→Int→(Frac×Frac)) (z:Int) (lv3:(Sl Line)) (zb8:Int) (zb9:Int) (iv7:Int) (zqS:Bool) (zqT:Int) (zqU:Int) (zh9:Int) (zia:Int):(Frac×Frac) :=
  (cond zqS
 (zmR S5 z lv3 zb8 zb9 iv7 (s29 (⟨zh9,zia⟩:Frac) (⟨zb8,zb9⟩:Frac)) zb8 zb9 zh9 zia)
 (zmR S5 z lv3 zb8 zb9 iv7 (s29 (⟨zh9,zia⟩:Frac) (⟨zb8,zb9⟩:Frac)) zqT zqU zh9 zia))
def zqZ (P5:Int→Int→Int→Int→Int→Bool) (z:Int) (lv3:(Sl Line)) (zb8:Int) (zb9:Int) (iv7:Int) (zqS:Bool) (zqT:Int) (zqU:Int) (zh9:Int) (zia:Int):Bool :=
  (cond zqS
 (zmS P5 z lv3 zb8 zb9 iv7 (s29 (⟨zh9,zia⟩:Frac) (⟨zb8,zb9⟩:Frac)) zb8 zb9 zh9 zia)
 (zmS P5 z lv3 zb8 zb9 iv7 (s29 (⟨zh9,zia⟩:Frac) (⟨zb8,zb9⟩:Frac)) zqT zqU zh9 zia))
theorem zG3 (hX5:zy7 K z lv3 X5 P5 S5) (hs:zqZ P5 z lv3 zb8 zb9 iv7 zqS zqT zqU zh9 zia=true) (hk:K (e36 (zqY S5 z lv3 zb8 zb9 iv7 zqS zqT zqU zh9 zia))):z36 K [1,1,1,1,0,1,0,0,1,0,0,1,0,1] [X5] ⟨[(1,zI z),(4,zp 4 0),(5,zp 5 0),(9,zS zav 4 lv3),(10,zp 10 0),(11,zp 11 0),(12,zI iv7),(13,zp 13 0),(52,zB zqS)],[(4,.box 25 (zm (zad (⟨(0:Int),(0:Int)⟩:Frac)))),(5,.box 25 (zm (zad (⟨(0:Int),(0:Int)⟩:Frac)))),(10,.box 25 (zm (zad (⟨zqT,zqU⟩:Frac)))),(11,.box 25 (zm (zad (⟨zh9,zia⟩:Frac)))),(13,.box 25 (zm (zad (⟨zb8,zb9⟩:Frac))))],[]⟩:=zaw (by kernel_rfl) (zc hs hk (fun hs hk=>(zy8 hX5 hs hk)) (fun hs hk=>(zy8 hX5 hs hk)))
def zq0 (S5:Int→Int→Int→Int→Int→(Frac×Frac)) (z:Int) (lv3:(Sl Line)) (iv6:Int) (zkU:Int) (zkV:Int) (zoh:Int) (zoi:Int) (zb8:Int) (zb9:Int):(Frac×Frac) :=
  (zqY S5 z lv3 zb8 zb9 iv6 (s29 (⟨zb8,zb9⟩:Frac) (⟨zkU,zkV⟩:Frac)) zkU zkV zoh zoi)
def zq1 (P5:Int→Int→Int→Int→Int→Bool) (z:Int) (lv3:(Sl Line)) (iv6:Int) (zkU:Int) (zkV:Int) (zoh:Int) (zoi:Int) (zb8:Int) (zb9:Int):Bool :=
  (zqZ P5 z lv3 zb8 zb9 iv6 (s29 (⟨zb8,zb9⟩:Frac) (⟨zkU,zkV⟩:Frac)) zkU zkV zoh zoi)
theorem zG4 (hX5:zy7 K z lv3 X5 P5 S5) (hs:zq1 P5 z lv3 iv6 zkU zkV zoh zoi zb8 zb9=true) (hk:K (e36 (zq0 S5 z lv3 iv6 zkU zkV zoh zoi zb8 zb9))):z36 K [1,1,1,1,0,1,0,0,1,0,0,1] [X5] ⟨[(1,zI z),(4,zp 4 0),(5,zp 5 0),(9,zS zav 4 lv3),(10,zp 10 0),(11,zp 11 0),(12,zI iv6),(13,zp 13 0)],[(4,.box 25 (zm (zad (⟨(0:Int),(0:Int)⟩:Frac)))),(5,.box 25 (zm (zad (⟨(0:Int),(0:Int)⟩:Frac)))),(10,.box 25 (zm (zad (⟨zkU,zkV⟩:Frac)))),(11,.box 25 (zm (zad (⟨zoh,zoi⟩:Frac)))),(13,.box 25 (zm (zad (⟨zb8,zb9⟩:Frac))))],[]⟩:=zaw (by kernel_rfl) (zG3 hX5 hs hk)
def zib (z:Int) (lv3:(Sl Line)) (S5:Int→Int→Int→Int→Int→(Frac×Frac)) (iv5:Int) (zeH:Int) (zeI:Int) (zeJ:Int) (zeK:Int):(Frac×Frac) :=
  (cond (decide (iv5 < (lv3.len : Int)))
 (zq0 S5 z lv3 iv5 zeH zeI zeJ zeK ((s28 (lv3.get iv5.toNat) z).Num) ((s28 (lv3.get iv5.toNat) z).Den))
 ((⟨zeH,zeI⟩:Frac),(⟨zeJ,zeK⟩:Frac)))
def zic (z:Int) (lv3:(Sl Line)) (P5:Int→Int→Int→Int→Int→Bool) (iv5:Int) (zeH:Int) (zeI:Int) (zeJ:Int) (zeK:Int):Bool :=
  (cond (decide (iv5 < (lv3.len : Int)))
 (decide ((0≤iv5∧iv5 < (lv3.len:Int))) &&
 (decide ((p28 (lv3.get iv5.toNat) z=true)) &&
 (zq1 P5 z lv3 iv5 zeH zeI zeJ zeK ((s28 (lv3.get iv5.toNat) z).Num) ((s28 (lv3.get iv5.toNat) z).Den))))
 true)
def zid (z:Int) (lv3:(Sl Line)):Nat→Int→Int→Int→Int→Int→(Frac×Frac):=lpO (fun _ _ _ _ _=>default) (zib z lv3)
def zie (z:Int) (lv3:(Sl Line)):Nat→Int→Int→Int→Int→Int→Bool:=lpO (fun _ _ _ _ _=>false) (zic z lv3)
def zy9 (z:Int) (lv3:(Sl Line)) (iv5:Int) (zeH:Int) (zeI:Int) (zeJ:Int) (zeK:Int):(Frac×Frac):=zid z lv3 Fuel iv5 zeH zeI zeJ zeK
def zza (z:Int) (lv3:(Sl Line)) (iv5:Int) (zeH:Int) (zeI:Int) (zeJ:Int) (zeK:Int):Bool:=zie z lv3 Fuel iv5 zeH zeI zeJ zeK
theorem zG5 (hs:zza z lv3 iv5 zeH zeI zeJ zeK=true) (hk:K (e36 (zy9 z lv3 iv5 zeH zeI zeJ zeK))):z36 K [1,1,1,1,0,1,0] [] (zCZ z lv3 iv5 zeH zeI zeJ zeK) :=
  zl (fun X=>z36 K [1,1,1,1,0,1,0,0] [X]) (by kernel_rfl) fun X5 hX =>
  (show ∀ k, zy7 K z lv3 X5 (zie z lv3 k) (zid z lv3 k) from zet _ _ (zic z lv3) (zib z lv3) (zy7 K z lv3 X5)
 (by intro _ _ _ _ _ hs;exact absurd hs Bool.false_ne_true)
 (by intro P5 S5 hX5 iv5 zeH zeI zeJ zeK hs hk;exact hX _ (zaw (by kernel_rfl) (zc hs hk (fun hs hk=>(zau hs fun hc hs=>And.intro hc (zau hs fun hc hs=>And.intro hc (zG4 hX5 hs hk)))) (fun hs hk=>hk))))) _ hs hk
def zzb (z:Int) (lv3:(Sl Line)) (zqQ:Int) (zqR:Int) (ziD:Int) (ziE:Int):(Frac×Frac) :=
  (zy9 z lv3 (1:Int) zqQ zqR ziD ziE)
def zq2 (z:Int) (lv3:(Sl Line)) (zqQ:Int) (zqR:Int) (ziD:Int) (ziE:Int):Bool :=
  (zza z lv3 (1:Int) zqQ zqR ziD ziE)
theorem zG6 (hs:zq2 z lv3 zqQ zqR ziD ziE=true) (hk:K (e36 (zzb z lv3 zqQ zqR ziD ziE))):z36 K [1,1,1,1] [] ⟨[(1,zI z),(4,zp 4 0),(5,zp 5 0),(9,zS zav 4 lv3),(10,zp 10 0),(11,zp 11 0)],[(4,.box 25 (zm (zad (⟨(0:Int),(0:Int)⟩:Frac)))),(5,.box 25 (zm (zad (⟨(0:Int),(0:Int)⟩:Frac)))),(10,.box 25 (zm (zad (⟨zqQ,zqR⟩:Frac)))),(11,.box 25 (zm (zad (⟨ziD,ziE⟩:Frac))))],[]⟩:=zaw (by kernel_rfl) (zG5 hs hk)
def zzc (z:Int) (lv3:(Sl Line)):(Frac×Frac) :=
  (zzb z lv3 ((s28 (lv3.get 0) z).Num) ((s28 (lv3.get 0) z).Den) ((s28 (lv3.get 0) z).Num) ((s28 (lv3.get 0) z).Den))
def zq3 (z:Int) (lv3:(Sl Line)):Bool :=
  (decide ((0≤(0:Int)∧(0:Int) < (lv3.len:Int))) &&
 (decide ((p28 (lv3.get 0) z=true)) &&
 (decide ((0≤(0:Int)∧(0:Int) < (lv3.len:Int))) &&
 (decide ((p28 (lv3.get 0) z=true)) &&
 (zq2 z lv3 ((s28 (lv3.get 0) z).Num) ((s28 (lv3.get 0) z).Den) ((s28 (lv3.get 0) z).Num) ((s28 (lv3.get 0) z).Den))))))
theorem zG7 (hs:zq3 z lv3=true) (hk:K (e36 (zzc z lv3))) (zM5:zKv=zg zav lv3):z36 K [1,1,1] [] ⟨[(1,zI z),(4,zp 4 0),(5,zp 5 0),(9,zP (.sl lv3.len 4 zKv))],[(4,.box 25 (zm (zad (⟨(0:Int),(0:Int)⟩:Frac)))),(5,.box 25 (zm (zad (⟨(0:Int),(0:Int)⟩:Frac))))],[]⟩:=by subst zM5;exact zaw (by kernel_rfl) (zau hs fun hc hs=>And.intro hc (zau hs fun hc hs=>And.intro hc (zau hs fun hc hs=>And.intro hc (zau hs fun hc hs=>And.intro hc (zG6 hs hk)))))
def zmT (zaa:(Sl Gate)) (z:Int):(Frac×Frac) :=
  (zzc z (s33 zaa))
def zmU (zaa:(Sl Gate)) (z:Int):Bool :=
  (decide ((p33 zaa=true)) &&
 (zq3 z (s33 zaa)))
theorem zG8 (hs:zmU zaa z=true) (hk:K (e36 (zmT zaa z))):z36 K [1,1] [] ⟨[(0,zS enc_55 3 zaa),(1,zI z),(4,zp 4 0),(5,zp 5 0)],[(4,.box 25 (zm (zad (⟨(0:Int),(0:Int)⟩:Frac)))),(5,.box 25 (zm (zad (⟨(0:Int),(0:Int)⟩:Frac))))],[]⟩:=zaw (by kernel_rfl) (zau hs fun hc hs=>And.intro (And.intro (zE enc_55 3 zaa.get) hc) (zG7 hs hk rfl))
def zq4 (av1:Int) (bv1:Int):(Frac×Frac) :=
  ((s40 av1 (1:Int)),(s40 bv1 (1:Int)))
def zq5 (av1:Int) (bv1:Int):Bool :=
  (decide ((p40 av1 (1:Int)=true)) &&
 (decide ((p40 bv1 (1:Int)=true)) &&
 true))
theorem zG9 (hs:zq5 av1 bv1=true) (hk:K (e36 (zq4 av1 bv1))):z36 K [1,0,1,0,1] [] ⟨[(4,zp 4 0),(5,zp 5 0),(6,zI av1),(7,zI bv1)],[(4,.box 25 (zm (zad (⟨(0:Int),(0:Int)⟩:Frac)))),(5,.box 25 (zm (zad (⟨(0:Int),(0:Int)⟩:Frac))))],[]⟩:=zaw (by kernel_rfl) (zau hs fun hc hs=>And.intro hc (zau hs fun hc hs=>And.intro hc hk))
def zmV (zaa:(Sl Gate)) (z:Int) (zqP:Bool):(Frac×Frac) :=
  (cond zqP
 (zq4 ((s71 zaa).1) ((s71 zaa).2.1))
 (zmT zaa z))
def zq6 (zaa:(Sl Gate)) (z:Int) (zqP:Bool):Bool :=
  (cond zqP
 (decide ((p71 zaa=true)) &&
 (zq5 ((s71 zaa).1) ((s71 zaa).2.1)))
 (zmU zaa z))
theorem zHa (hs:zq6 zaa z zqP=true) (hk:K (e36 (zmV zaa z zqP))):z36 K [1,0,1] [] ⟨[(0,zS enc_55 3 zaa),(1,zI z),(4,zp 4 0),(5,zp 5 0),(15,zB zqP)],[(4,.box 25 (zm (zad (⟨(0:Int),(0:Int)⟩:Frac)))),(5,.box 25 (zm (zad (⟨(0:Int),(0:Int)⟩:Frac))))],[]⟩:=zaw (by kernel_rfl) (zc hs hk (fun hs hk=>(zau hs fun hc hs=>And.intro (And.intro (zE enc_55 3 zaa.get) hc) (zG9 hs hk))) (fun hs hk=>(zG8 hs hk)))
def s36 (zaa:(Sl Gate)) (z:Int):(Frac×Frac) :=
  (zmV zaa z (s22 zaa))
def p36 (zaa:(Sl Gate)) (z:Int):Bool :=
  (decide ((p22 zaa=true)) &&
 (zq6 zaa z (s22 zaa)))
end
theorem q36 (zaa:(Sl Gate)) (z:Int) (K:List PA→Prop) (hs:p36 zaa z=true) (hk:K (e36 (s36 zaa z))):vcFun Try.prog G36 zG2 36 [.one (.sl zaa.len 3 (fun i=>enc_55 (zaa.get i))),.one (.int .i64 z)] K :=
  zaw (by kernel_rfl) (zau hs fun hc hs=>And.intro (And.intro (zE enc_55 3 zaa.get) hc) (zHa hs hk))
def zBB : List PA → COut
  | [.one (.sl a0_n a0_s a0_g),.one (.int .i64 a1)]=>.det (IsE enc_55 3 a0_s a0_g∧p36 (⟨a0_n,zae a0_g⟩:(Sl Gate)) a1=true) [.agg [.int .i64 (((s36 (⟨a0_n,zae a0_g⟩:(Sl Gate)) a1).1).Num),.int .i64 (((s36 (⟨a0_n,zae a0_g⟩:(Sl Gate)) a1).1).Den)],.agg [.int .i64 (((s36 (⟨a0_n,zae a0_g⟩:(Sl Gate)) a1).2).Num),.int .i64 (((s36 (⟨a0_n,zae a0_g⟩:(Sl Gate)) a1).2).Den)]]
  | _=>.no
theorem zKw:zaf Try.prog 36:=⟨_,rfl,rfl,by kernel_rfl⟩
theorem zPZ:Ok Try.prog 36 zBB:=zay zM4 zKw fun args K h=>by
  unfold zBB at h
  split at h
  · rename_i a0_n a0_s a0_g a1
    obtain ⟨⟨⟨rfl,a0_f,rfl⟩,hs⟩,hk⟩:=h
    try rw [zac a0_f] at hs
    try rw [zac a0_f] at hk
    exact ⟨(fun _ _=>[]),(fun _=>false),zG2,q36 (⟨a0_n,a0_f⟩:(Sl Gate)) a1 K hs hk⟩
  · exact h.elim
abbrev T23:Tabs:=((Tabs.nil.addF 29 ztG).addF 36 zBB)
theorem zM6:TabsOk Try.prog T23:=((TabsOk.nil.addF zMW).addF zPZ)
abbrev G23:Ctrs:=csm T23 (fun _ _=>[]) (fun _=>false)
def zHb:Ann:=⟨51,[(0,zK [0,1,2,3,9,10] [9,10]),(1,zK [0,1,3,9,10,11] [9,10]),(2,zK [0,1,3,9,10,11,19] [9,10]),(3,zK [0,1,3,9,10,11] [9,10]),(4,zK [0,1,3,9,10,11,12,13] [9,10,12,13]),(5,zK [0,1,3,9,10,11,12,13,14,15] [9,10,12,13,14,15]),(6,zK [0,1,3,9,10,11,12,13,14,15,36] [9,10,12,13,14,15]),(7,zK [0,1,3,9,10,11,12,13,15] [9,10,12,13,15]),(8,zK [0,1,3,9,10,11,12,13,15,40] [9,10,12,13,15]),(9,zK [0,1,3,9,10,11,12,13] [9,10,12,13]),(10,zK [0,1,3,9,10,11,12,13,45] [9,10,12,13]),(11,zK [8,9,10] [9,10]),(12,zK [8,9,10] [9,10])],
 [(2,zK [0,1,3,9,10,11] [9,10])],
 [(5,zK [0,1,3,9,10,11,12,13] [9,10,12,13]),(6,zK [0,1,3,9,10,11,12,13,14,15] [9,10,12,13,14,15]),(7,zK [0,1,3,9,10,11,12,13,14,15,36] [9,10,12,13,14,15]),(8,zK [0,1,3,9,10,11,12,13,15] [9,10,12,13,15]),(9,zK [0,1,3,9,10,11,12,13,15,40] [9,10,12,13,15]),(11,zK [0,1,3,9,10,11,12,13,45] [9,10,12,13])],
 [],[]⟩
abbrev R23:=(Int×Frac×Frac)
abbrev e23 (r:R23):List PA:=[.one (.int .i64 r.1),.agg [.int .i64 r.2.1.Num,.int .i64 r.2.1.Den],.agg [.int .i64 r.2.2.Num,.int .i64 r.2.2.Den]]
@[irreducible] def z23:=ptF Try.prog G23 zHb Try.f23
def zC0 (a:(Sl Gate)) (b:(Sl Gate)) (to:Int) (zv0:Int):St:=⟨[(0,zS enc_55 3 a),(1,zS enc_55 3 b),(3,zI to),(9,zp 9 0),(10,zp 10 0),(11,zI zv0)],[(9,.box 25 (zm (zad (⟨(0:Int),(0:Int)⟩:Frac)))),(10,.box 25 (zm (zad (⟨(0:Int),(0:Int)⟩:Frac))))],[]⟩
abbrev zoj (K:List PA→Prop) (a:(Sl Gate)) (b:(Sl Gate)) (to:Int) (X:St→Prop) (P:Int→Bool) (S:Int→(Int×Frac×Frac)):Prop:=∀ ⦃zv0:Int⦄,P zv0=true→K (e23 (S zv0))→X (zC0 a b to zv0)
section
variable {K:List PA→Prop} {a:(Sl Gate)} {b:(Sl Gate)} {from_a2:Int} {to:Int} {zv0:Int} {X0:St→Prop} {P0:Int→Bool} {S0:Int→(Int×Frac×Frac)} {zv1:Int} {zaX:Int} {zaY:Int} {zaI:Int} {zaJ:Int} {zv2:Int} {zfP:Int} {zfQ:Int} {zbI:Int} {zbJ:Int} {zv3:Int} {zq7:Bool} {zv4:Int} {zc7:Int} {zc8:Int} {zv5:Int} {zq8:Bool} {zv6:Int} {zq9:Bool} {ztI:Int} {ztJ:Int}
def zmW (S0:Int→(Int×Frac×Frac)) (a:(Sl Gate)) (b:(Sl Gate)) (to:Int) (zc7:Int) (zc8:Int) (zv6:Int) (zq9:Bool) (ztI:Int) (ztJ:Int):(Int×Frac×Frac) :=
  (cond zq9
 (zv6,(⟨zc7,zc8⟩:Frac),(⟨ztI,ztJ⟩:Frac))
 (S0 (w64 (zv6+(1:Int)))))
def zmX (P0:Int→Bool) (a:(Sl Gate)) (b:(Sl Gate)) (to:Int) (zc7:Int) (zc8:Int) (zv6:Int) (zq9:Bool) (ztI:Int) (ztJ:Int):Bool :=
  (cond zq9
 true
 (P0 (w64 (zv6+(1:Int)))))
theorem zzd (hX0:zoj K a b to X0 P0 S0) (hs:zmX P0 a b to zc7 zc8 zv6 zq9 ztI ztJ=true) (hk:K (e23 (zmW S0 a b to zc7 zc8 zv6 zq9 ztI ztJ))):z23 K [1,0,1,0,0,1,0,0,1,1,1,1,1] [X0] ⟨[(0,zS enc_55 3 a),(1,zS enc_55 3 b),(3,zI to),(9,zp 9 0),(10,zp 10 0),(11,zI zv6),(12,zp 12 0),(13,zp 13 0),(45,zB zq9)],[(9,.box 25 (zm (zad (⟨(0:Int),(0:Int)⟩:Frac)))),(10,.box 25 (zm (zad (⟨(0:Int),(0:Int)⟩:Frac)))),(12,.box 25 (zm (zad (⟨zc7,zc8⟩:Frac)))),(13,.box 25 (zm (zad (⟨ztI,ztJ⟩:Frac))))],[]⟩:=zaw (by kernel_rfl) (zc hs hk (fun hs hk=>hk) (fun hs hk=>(hX0 hs hk)))
def zra (S0:Int→(Int×Frac×Frac)) (a:(Sl Gate)) (b:(Sl Gate)) (to:Int) (zaI:Int) (zaJ:Int) (zbI:Int) (zbJ:Int) (zc7:Int) (zc8:Int) (zv5:Int) (zq8:Bool):(Int×Frac×Frac) :=
  (cond zq8
 (zmW S0 a b to zc7 zc8 zv5 (!(s29 (⟨zbI,zbJ⟩:Frac) (⟨zc7,zc8⟩:Frac))) zbI zbJ)
 (zmW S0 a b to zc7 zc8 zv5 (!(s29 (⟨zaI,zaJ⟩:Frac) (⟨zc7,zc8⟩:Frac))) zaI zaJ))
def zrb (P0:Int→Bool) (a:(Sl Gate)) (b:(Sl Gate)) (to:Int) (zaI:Int) (zaJ:Int) (zbI:Int) (zbJ:Int) (zc7:Int) (zc8:Int) (zv5:Int) (zq8:Bool):Bool :=
  (cond zq8
 (zmX P0 a b to zc7 zc8 zv5 (!(s29 (⟨zbI,zbJ⟩:Frac) (⟨zc7,zc8⟩:Frac))) zbI zbJ)
 (zmX P0 a b to zc7 zc8 zv5 (!(s29 (⟨zaI,zaJ⟩:Frac) (⟨zc7,zc8⟩:Frac))) zaI zaJ))
theorem zHc (hX0:zoj K a b to X0 P0 S0) (hs:zrb P0 a b to zaI zaJ zbI zbJ zc7 zc8 zv5 zq8=true) (hk:K (e23 (zra S0 a b to zaI zaJ zbI zbJ zc7 zc8 zv5 zq8))):z23 K [1,0,1,0,0,1,0,0,1,1,1,0,1] [X0] ⟨[(0,zS enc_55 3 a),(1,zS enc_55 3 b),(3,zI to),(9,zp 9 0),(10,zp 10 0),(11,zI zv5),(12,zp 12 0),(13,zp 13 0),(15,zp 15 0),(40,zB zq8)],[(9,.box 25 (zm (zad (⟨(0:Int),(0:Int)⟩:Frac)))),(10,.box 25 (zm (zad (⟨(0:Int),(0:Int)⟩:Frac)))),(12,.box 25 (zm (zad (⟨zc7,zc8⟩:Frac)))),(13,.box 25 (zm (zad (⟨zaI,zaJ⟩:Frac)))),(15,.box 25 (zm (zad (⟨zbI,zbJ⟩:Frac))))],[]⟩:=zaw (by kernel_rfl) (zc hs hk (fun hs hk=>(zzd hX0 hs hk)) (fun hs hk=>(zzd hX0 hs hk)))
def zmY (S0:Int→(Int×Frac×Frac)) (a:(Sl Gate)) (b:(Sl Gate)) (to:Int) (zaI:Int) (zaJ:Int) (zbI:Int) (zbJ:Int) (zv4:Int) (zc7:Int) (zc8:Int):(Int×Frac×Frac) :=
  (zra S0 a b to zaI zaJ zbI zbJ zc7 zc8 zv4 (s29 (⟨zbI,zbJ⟩:Frac) (⟨zaI,zaJ⟩:Frac)))
def zmZ (P0:Int→Bool) (a:(Sl Gate)) (b:(Sl Gate)) (to:Int) (zaI:Int) (zaJ:Int) (zbI:Int) (zbJ:Int) (zv4:Int) (zc7:Int) (zc8:Int):Bool :=
  (zrb P0 a b to zaI zaJ zbI zbJ zc7 zc8 zv4 (s29 (⟨zbI,zbJ⟩:Frac) (⟨zaI,zaJ⟩:Frac)))
theorem zze (hX0:zoj K a b to X0 P0 S0) (hs:zmZ P0 a b to zaI zaJ zbI zbJ zv4 zc7 zc8=true) (hk:K (e23 (zmY S0 a b to zaI zaJ zbI zbJ zv4 zc7 zc8))):z23 K [1,0,1,0,0,1,0,0,1,1,1] [X0] ⟨[(0,zS enc_55 3 a),(1,zS enc_55 3 b),(3,zI to),(9,zp 9 0),(10,zp 10 0),(11,zI zv4),(12,zp 12 0),(13,zp 13 0),(15,zp 15 0)],[(9,.box 25 (zm (zad (⟨(0:Int),(0:Int)⟩:Frac)))),(10,.box 25 (zm (zad (⟨(0:Int),(0:Int)⟩:Frac)))),(12,.box 25 (zm (zad (⟨zc7,zc8⟩:Frac)))),(13,.box 25 (zm (zad (⟨zaI,zaJ⟩:Frac)))),(15,.box 25 (zm (zad (⟨zbI,zbJ⟩:Frac))))],[]⟩:=zaw (by kernel_rfl) (zHc hX0 hs hk)
def zrd (S0:Int→(Int×Frac×Frac)) (a:(Sl Gate)) (b:(Sl Gate)) (to:Int) (zaX:Int) (zaY:Int) (zaI:Int) (zaJ:Int) (zfP:Int) (zfQ:Int) (zbI:Int) (zbJ:Int) (zv3:Int) (zq7:Bool):(Int×Frac×Frac) :=
  (cond zq7
 (zmY S0 a b to zaI zaJ zbI zbJ zv3 zfP zfQ)
 (zmY S0 a b to zaI zaJ zbI zbJ zv3 zaX zaY))
def zre (P0:Int→Bool) (a:(Sl Gate)) (b:(Sl Gate)) (to:Int) (zaX:Int) (zaY:Int) (zaI:Int) (zaJ:Int) (zfP:Int) (zfQ:Int) (zbI:Int) (zbJ:Int) (zv3:Int) (zq7:Bool):Bool :=
  (cond zq7
 (zmZ P0 a b to zaI zaJ zbI zbJ zv3 zfP zfQ)
 (zmZ P0 a b to zaI zaJ zbI zbJ zv3 zaX zaY))
theorem zHd (hX0:zoj K a b to X0 P0 S0) (hs:zre P0 a b to zaX zaY zaI zaJ zfP zfQ zbI zbJ zv3 zq7=true) (hk:K (e23 (zrd S0 a b to zaX zaY zaI zaJ zfP zfQ zbI zbJ zv3 zq7))):z23 K [1,0,1,0,0,1,0,0,1,1,0,1] [X0] ⟨[(0,zS enc_55 3 a),(1,zS enc_55 3 b),(3,zI to),(9,zp 9 0),(10,zp 10 0),(11,zI zv3),(12,zp 12 0),(13,zp 13 0),(14,zp 14 0),(15,zp 15 0),(36,zB zq7)],[(9,.box 25 (zm (zad (⟨(0:Int),(0:Int)⟩:Frac)))),(10,.box 25 (zm (zad (⟨(0:Int),(0:Int)⟩:Frac)))),(12,.box 25 (zm (zad (⟨zaX,zaY⟩:Frac)))),(13,.box 25 (zm (zad (⟨zaI,zaJ⟩:Frac)))),(14,.box 25 (zm (zad (⟨zfP,zfQ⟩:Frac)))),(15,.box 25 (zm (zad (⟨zbI,zbJ⟩:Frac))))],[]⟩:=zaw (by kernel_rfl) (zc hs hk (fun hs hk=>(zze hX0 hs hk)) (fun hs hk=>(zze hX0 hs hk)))
def zrf (S0:Int→(Int×Frac×Frac)) (a:(Sl Gate)) (b:(Sl Gate)) (to:Int) (zaX:Int) (zaY:Int) (zaI:Int) (zaJ:Int) (zv2:Int) (zfP:Int) (zfQ:Int) (zbI:Int) (zbJ:Int):(Int×Frac×Frac) :=
  (zrd S0 a b to zaX zaY zaI zaJ zfP zfQ zbI zbJ zv2 (s29 (⟨zaX,zaY⟩:Frac) (⟨zfP,zfQ⟩:Frac)))
def zrg (P0:Int→Bool) (a:(Sl Gate)) (b:(Sl Gate)) (to:Int) (zaX:Int) (zaY:Int) (zaI:Int) (zaJ:Int) (zv2:Int) (zfP:Int) (zfQ:Int) (zbI:Int) (zbJ:Int):Bool :=
  (zre P0 a b to zaX zaY zaI zaJ zfP zfQ zbI zbJ zv2 (s29 (⟨zaX,zaY⟩:Frac) (⟨zfP,zfQ⟩:Frac)))
theorem zHe (hX0:zoj K a b to X0 P0 S0) (hs:zrg P0 a b to zaX zaY zaI zaJ zv2 zfP zfQ zbI zbJ=true) (hk:K (e23 (zrf S0 a b to zaX zaY zaI zaJ zv2 zfP zfQ zbI zbJ))):z23 K [1,0,1,0,0,1,0,0,1,1] [X0] ⟨[(0,zS enc_55 3 a),(1,zS enc_55 3 b),(3,zI to),(9,zp 9 0),(10,zp 10 0),(11,zI zv2),(12,zp 12 0),(13,zp 13 0),(14,zp 14 0),(15,zp 15 0)],[(9,.box 25 (zm (zad (⟨(0:Int),(0:Int)⟩:Frac)))),(10,.box 25 (zm (zad (⟨(0:Int),(0:Int)⟩:Frac)))),(12,.box 25 (zm (zad (⟨zaX,zaY⟩:Frac)))),(13,.box 25 (zm (zad (⟨zaI,zaJ⟩:Frac)))),(14,.box 25 (zm (zad (⟨zfP,zfQ⟩:Frac)))),(15,.box 25 (zm (zad (⟨zbI,zbJ⟩:Frac))))],[]⟩:=zaw (by kernel_rfl) (zHd hX0 hs hk)
def zrh (S0:Int→(Int×Frac×Frac)) (a:(Sl Gate)) (b:(Sl Gate)) (to:Int) (zv1:Int) (zaX:Int) (zaY:Int) (zaI:Int) (zaJ:Int):(Int×Frac×Frac) :=
  (zrf S0 a b to zaX zaY zaI zaJ zv1 (((s36 b zv1).1).Num) (((s36 b zv1).1).Den) (((s36 b zv1).2).Num) (((s36 b zv1).2).Den))
def zri (P0:Int→Bool) (a:(Sl Gate)) (b:(Sl Gate)) (to:Int) (zv1:Int) (zaX:Int) (zaY:Int) (zaI:Int) (zaJ:Int):Bool :=
  (decide ((p36 b zv1=true)) &&
 (zrg P0 a b to zaX zaY zaI zaJ zv1 (((s36 b zv1).1).Num) (((s36 b zv1).1).Den) (((s36 b zv1).2).Num) (((s36 b zv1).2).Den)))
theorem zHf (hX0:zoj K a b to X0 P0 S0) (hs:zri P0 a b to zv1 zaX zaY zaI zaJ=true) (hk:K (e23 (zrh S0 a b to zv1 zaX zaY zaI zaJ))):z23 K [1,0,1,0,0,1,0,0,1] [X0] ⟨[(0,zS enc_55 3 a),(1,zS enc_55 3 b),(3,zI to),(9,zp 9 0),(10,zp 10 0),(11,zI zv1),(12,zp 12 0),(13,zp 13 0)],[(9,.box 25 (zm (zad (⟨(0:Int),(0:Int)⟩:Frac)))),(10,.box 25 (zm (zad (⟨(0:Int),(0:Int)⟩:Frac)))),(12,.box 25 (zm (zad (⟨zaX,zaY⟩:Frac)))),(13,.box 25 (zm (zad (⟨zaI,zaJ⟩:Frac))))],[]⟩:=zaw (by kernel_rfl) (zau hs fun hc hs=>And.intro (And.intro (zE enc_55 3 b.get) hc) (zHe hX0 hs hk))
def zgw (a:(Sl Gate)) (b:(Sl Gate)) (to:Int) (S0:Int→(Int×Frac×Frac)) (zv0:Int):(Int×Frac×Frac) :=
  (cond (decide (zv0 ≤ to))
 (zrh S0 a b to zv0 (((s36 a zv0).1).Num) (((s36 a zv0).1).Den) (((s36 a zv0).2).Num) (((s36 a zv0).2).Den))
 ((-1000000:Int),(⟨(0:Int),(0:Int)⟩:Frac),(⟨(0:Int),(0:Int)⟩:Frac)))
def zgx (a:(Sl Gate)) (b:(Sl Gate)) (to:Int) (P0:Int→Bool) (zv0:Int):Bool :=
  (cond (decide (zv0 ≤ to))
 (decide ((p36 a zv0=true)) &&
 (zri P0 a b to zv0 (((s36 a zv0).1).Num) (((s36 a zv0).1).Den) (((s36 a zv0).2).Num) (((s36 a zv0).2).Den)))
 true)
def zif (a:(Sl Gate)) (b:(Sl Gate)) (to:Int):Nat→Int→(Int×Frac×Frac):=lpO (fun _=>default) (zgw a b to)
def zih (a:(Sl Gate)) (b:(Sl Gate)) (to:Int):Nat→Int→Bool:=lpO (fun _=>false) (zgx a b to)
def zzf (a:(Sl Gate)) (b:(Sl Gate)) (to:Int) (zv0:Int):(Int×Frac×Frac):=zif a b to Fuel zv0
def zzg (a:(Sl Gate)) (b:(Sl Gate)) (to:Int) (zv0:Int):Bool:=zih a b to Fuel zv0
theorem zHg (hs:zzg a b to zv0=true) (hk:K (e23 (zzf a b to zv0))):z23 K [1,0,1,0] [] (zC0 a b to zv0) :=
  zl (fun X=>z23 K [1,0,1,0,0] [X]) (by kernel_rfl) fun X0 hX =>
  (show ∀ k, zoj K a b to X0 (zih a b to k) (zif a b to k) from zet _ _ (zgx a b to) (zgw a b to) (zoj K a b to X0)
 (by intro _ hs;exact absurd hs Bool.false_ne_true)
 (by intro P0 S0 hX0 zv0 hs hk;exact hX _ (zaw (by kernel_rfl) (zc hs hk (fun hs hk=>(zau hs fun hc hs=>And.intro (And.intro (zE enc_55 3 a.get) hc) (zHf hX0 hs hk))) (fun hs hk=>hk))))) _ hs hk
def s23 (a:(Sl Gate)) (b:(Sl Gate)) (from_a2:Int) (to:Int):(Int×Frac×Frac) :=
  (zzf a b to from_a2)
def p23 (a:(Sl Gate)) (b:(Sl Gate)) (from_a2:Int) (to:Int):Bool :=
  (zzg a b to from_a2)
end
theorem q23 (a:(Sl Gate)) (b:(Sl Gate)) (from_a2:Int) (to:Int) (K:List PA→Prop) (hs:p23 a b from_a2 to=true) (hk:K (e23 (s23 a b from_a2 to))):vcFun Try.prog G23 zHb 23 [.one (.sl a.len 3 (fun i=>enc_55 (a.get i))),.one (.sl b.len 3 (fun i=>enc_55 (b.get i))),.one (.int .i64 from_a2),.one (.int .i64 to)] K :=
  zaw (by kernel_rfl) (zHg hs hk)
def zHh : List PA → COut
  | [.one (.sl a0_n a0_s a0_g),.one (.sl a1_n a1_s a1_g),.one (.int .i64 a2),.one (.int .i64 a3)]=>.det (IsE enc_55 3 a0_s a0_g∧IsE enc_55 3 a1_s a1_g∧p23 (⟨a0_n,zae a0_g⟩:(Sl Gate)) (⟨a1_n,zae a1_g⟩:(Sl Gate)) a2 a3=true) [.one (.int .i64 ((s23 (⟨a0_n,zae a0_g⟩:(Sl Gate)) (⟨a1_n,zae a1_g⟩:(Sl Gate)) a2 a3).1)),.agg [.int .i64 (((s23 (⟨a0_n,zae a0_g⟩:(Sl Gate)) (⟨a1_n,zae a1_g⟩:(Sl Gate)) a2 a3).2.1).Num),.int .i64 (((s23 (⟨a0_n,zae a0_g⟩:(Sl Gate)) (⟨a1_n,zae a1_g⟩:(Sl Gate)) a2 a3).2.1).Den)],.agg [.int .i64 (((s23 (⟨a0_n,zae a0_g⟩:(Sl Gate)) (⟨a1_n,zae a1_g⟩:(Sl Gate)) a2 a3).2.2).Num),.int .i64 (((s23 (⟨a0_n,zae a0_g⟩:(Sl Gate)) (⟨a1_n,zae a1_g⟩:(Sl Gate)) a2 a3).2.2).Den)]]
  | _=>.no
theorem zKx:zaf Try.prog 23:=⟨_,rfl,rfl,by kernel_rfl⟩
theorem zP0:Ok Try.prog 23 zHh:=zay zM6 zKx fun args K h=>by
  unfold zHh at h
  split at h
  · rename_i a0_n a0_s a0_g a1_n a1_s a1_g a2 a3
    obtain ⟨⟨⟨rfl,a0_f,rfl⟩,⟨rfl,a1_f,rfl⟩,hs⟩,hk⟩:=h
    try rw [zac a0_f] at hs
    try rw [zac a0_f] at hk
    try rw [zac a1_f] at hs
    try rw [zac a1_f] at hk
    exact ⟨(fun _ _=>[]),(fun _=>false),zHb,q23 (⟨a0_n,a0_f⟩:(Sl Gate)) (⟨a1_n,a1_f⟩:(Sl Gate)) a2 a3 K hs hk⟩
  · exact h.elim
abbrev T24:Tabs:=Tabs.nil
theorem zM7:TabsOk Try.prog T24:=TabsOk.nil
abbrev G24:Ctrs:=csm T24 (fun _ _=>[]) (fun _=>false)
def zKz:Ann:=⟨6,[(0,zK [1] [1]),(1,zK [2] [])],
 [],
 [],
 [],[]⟩
abbrev R24:=Bool
abbrev e24 (r:R24):List PA:=[.one (.bool r)]
section
variable {K:List PA→Prop} {f:Frac}
def s24 (f:Frac):Bool :=
  (match (f.Num == (0:Int)) with | true=>(match (f.Den == (0:Int)) with | true=>true | false=>false) | false=>false)
end
theorem q24 (f:Frac) (K:List PA→Prop) (hk:K (e24 (s24 f))):vcFun Try.prog G24 zKz 24 [.agg (zad f)] K :=
  zaw (by kernel_rfl) hk
def zHi : List PA → COut
  | [.agg [.int .i64 a0_Num,.int .i64 a0_Den]]=>.tot [.one (.bool (s24 (⟨a0_Num,a0_Den⟩:Frac)))]
  | _=>.no
theorem zKA:zaf Try.prog 24:=⟨_,rfl,rfl,by kernel_rfl⟩
theorem zP1:Ok Try.prog 24 zHi:=zay zM7 zKA fun args K h=>by
  unfold zHi at h
  split at h
  · rename_i a0_Num a0_Den
    have hk:=h
    exact ⟨(fun _ _=>[]),(fun _=>false),zKz,q24 (⟨a0_Num,a0_Den⟩:Frac) K hk⟩
  · exact h.elim
abbrev T3:Tabs:=(((((((Tabs.nil.addF 18 zGl).addF 19 zBk).addF 20 zGr).addF 21 zGY).addF 22 ztF).addF 23 zHh).addF 24 zHi)
theorem zP2:TabsOk Try.prog T3:=(((((((TabsOk.nil.addF zPG).addF zNL).addF zPI).addF zPX).addF zMP).addF zP0).addF zP1)
abbrev G3:Ctrs:=csm T3 (fun _ _=>[]) (fun _=>false)
def zM8:Ann:=⟨153,[(0,zK [0,1,2,3] []),(1,zK [0,1,2,3,45] []),(2,zK [8] []),(3,zK [0,1,2,3,9] []),(4,zK [0,1,2,3,9,64] []),(5,zK [8] []),(6,zK [0,1,2,3,9,10,11,12,13] [11,12]),(7,zK [0,1,2,3,9,10,11,12,13,14] [11,12]),(8,zK [0,1,2,3,9,10,11,12,13,14,15] [11,12]),(9,zK [0,1,2,3,9,10,11,12,13,14,15,16,17] [11,12,16,17]),(10,zK [0,1,2,3,10,11,12,13,14,15,16,17,87] [11,12,16,17]),(11,zK [10,11,12,13,14,15,16,17] [11,12,16,17]),(12,zK [0,1,2,3,10,11,12,13,14,15,16,17,95] [11,12,16,17]),(13,zK [10,11,12,13,14,15,16,17] [11,12,16,17]),(14,zK [0,1,2,3,10,11,12,13,14,15,16,17,101] [11,12,16,17]),(15,zK [10,11,12,13,14,15,16,17] [11,12,16,17]),(16,zK [10,11,12,13,14,15,16,17] [11,12,16,17]),(17,zK [10,11,12,13,14,15,16,17,112] [11,12,16,17]),(18,zK [10,11,12,13,14,15,16,17] [11,12,16,17]),(19,zK [10,11,12,13,14,15,16,17,114] [11,12,16,17]),(20,zK [8] []),(21,zK [8] [])],
 [],
 [(3,zK [0,1,2,3] []),(6,zK [0,1,2,3,9] []),(7,zK [0,1,2,3,9,10,11,12,13] [11,12]),(11,zK [0,1,2,3,10,11,12,13,14,15,16,17,87] [11,12,16,17]),(19,zK [10,11,12,13,14,15,16,17] [11,12,16,17]),(13,zK [0,1,2,3,10,11,12,13,14,15,16,17,95] [11,12,16,17]),(21,zK [10,11,12,13,15,16,17] [11,12,16,17]),(15,zK [0,1,2,3,10,11,12,13,14,15,16,17,101] [11,12,16,17]),(17,zK [10,11,12,13,14,15,16,17] [11,12,16,17])],
 [],[]⟩
abbrev R3:=Bool
abbrev e3 (r:R3):List PA:=[.one (.bool r)]
@[irreducible] def z3:=ptF Try.prog G3 zM8 Try.f3
section
variable {K:List PA→Prop} {a:(Sl Gate)} {b:(Sl Gate)} {low:Int} {high:Int} {zcL:Bool} {zv2:Int} {ev2:Int} {zbn:Int} {zbo:Int} {zbp:Int} {zbq:Int} {zrj:Bool} {zok:Int} {zLh:Int} {zBC:Int} {zBD:Int} {zBE:Int} {zBF:Int} {zrk:Bool} {zLi:Int} {zb8:Int} {zb9:Int} {zBG:Int} {zBH:Int} {zks:Bool} {zHI:Int} {zzh:Int} {zzi:Int} {zzj:Int} {zzk:Int}
def zzl (zv2:Int) (ev2:Int) (zbn:Int) (zbo:Int) (zbp:Int) (zbq:Int) (zLi:Int) (zb8:Int) (zb9:Int) (zBG:Int) (zBH:Int):Bool :=
  (cond (ev2 == (0:Int))
 (cond (zv2 == zLi)
 (cond (match (zbn == zb8) with | true => (match (zbo == zb9) with | true => true | false => false) | false => false)
 (cond (match (zbp == zBG) with | true => (match (zbq == zBH) with | true => true | false => false) | false => false)
 true
 false)
 false)
 false)
 false)
theorem zKB (hk:K (e3 (zzl zv2 ev2 zbn zbo zbp zbq zLi zb8 zb9 zBG zBH))):z3 K [1,1,1,1,1,1,1,1,1,1] [] ⟨[(10,zI zv2),(11,zp 11 0),(12,zp 12 0),(13,zI ev2),(15,zI zLi),(16,zp 16 0),(17,zp 17 0)],[(11,.box 25 (zm (zad (⟨zbn,zbo⟩:Frac)))),(12,.box 25 (zm (zad (⟨zbp,zbq⟩:Frac)))),(16,.box 25 (zm (zad (⟨zb8,zb9⟩:Frac)))),(17,.box 25 (zm (zad (⟨zBG,zBH⟩:Frac))))],[]⟩:=zaw (by kernel_rfl) (zt hk (fun hk=>(zt hk (fun hk=>(zt hk (fun hk=>(zt hk (fun hk=>hk) (fun hk=>hk))) (fun hk=>hk))) (fun hk=>hk))) (fun hk=>hk))
def zkt (zv2:Int) (ev2:Int) (zbn:Int) (zbo:Int) (zbp:Int) (zbq:Int) (zok:Int) (zLh:Int) (zBC:Int) (zBD:Int) (zBE:Int) (zBF:Int):Bool :=
  (cond (zok != (0:Int))
 (cond (ev2 == zok)
 (cond (zv2 == (0:Int))
 (cond (s24 (⟨zbn, zbo⟩ : Frac))
 (cond (s24 (⟨zbp, zbq⟩ : Frac))
 true
 false)
 false)
 false)
 false)
 (zzl zv2 ev2 zbn zbo zbp zbq zLh zBC zBD zBE zBF))
theorem zol (hk:K (e3 (zkt zv2 ev2 zbn zbo zbp zbq zok zLh zBC zBD zBE zBF))):z3 K [1,1,1,1,1,1,1,1,1] [] ⟨[(10,zI zv2),(11,zp 11 0),(12,zp 12 0),(13,zI ev2),(14,zI zok),(15,zI zLh),(16,zp 16 0),(17,zp 17 0)],[(11,.box 25 (zm (zad (⟨zbn,zbo⟩:Frac)))),(12,.box 25 (zm (zad (⟨zbp,zbq⟩:Frac)))),(16,.box 25 (zm (zad (⟨zBC,zBD⟩:Frac)))),(17,.box 25 (zm (zad (⟨zBE,zBF⟩:Frac))))],[]⟩:=zaw (by kernel_rfl) (zt hk (fun hk=>(zt hk (fun hk=>(zt hk (fun hk=>(zt hk (fun hk=>(zt hk (fun hk=>hk) (fun hk=>hk))) (fun hk=>hk))) (fun hk=>hk))) (fun hk=>hk))) (fun hk=>(zKB hk)))
def zzm (zv2:Int) (ev2:Int) (zbn:Int) (zbo:Int) (zbp:Int) (zbq:Int) (zHI:Int) (zzh:Int) (zzi:Int) (zzj:Int) (zzk:Int):Bool :=
  (cond (zHI == (-1000000:Int))
 (zkt zv2 ev2 zbn zbo zbp zbq (5:Int) zHI zzh zzi zzj zzk)
 (zkt zv2 ev2 zbn zbo zbp zbq (0:Int) zHI zzh zzi zzj zzk))
theorem zKC (hk:K (e3 (zzm zv2 ev2 zbn zbo zbp zbq zHI zzh zzi zzj zzk))):z3 K [1,1,1,1,1,1,1,1,0,1,1,1,1,1,1,1] [] ⟨[(10,zI zv2),(11,zp 11 0),(12,zp 12 0),(13,zI ev2),(14,zI (0:Int)),(15,zI zHI),(16,zp 16 0),(17,zp 17 0)],[(11,.box 25 (zm (zad (⟨zbn,zbo⟩:Frac)))),(12,.box 25 (zm (zad (⟨zbp,zbq⟩:Frac)))),(16,.box 25 (zm (zad (⟨zzh,zzi⟩:Frac)))),(17,.box 25 (zm (zad (⟨zzj,zzk⟩:Frac))))],[]⟩:=zaw (by kernel_rfl) (zt hk (fun hk=>(zol hk)) (fun hk=>(zol hk)))
def zsB (a:(Sl Gate)) (b:(Sl Gate)) (low:Int) (high:Int) (zv2:Int) (ev2:Int) (zbn:Int) (zbo:Int) (zbp:Int) (zbq:Int) (zks:Bool):Bool :=
  (cond zks
 (zkt zv2 ev2 zbn zbo zbp zbq (6:Int) (0:Int) (0:Int) (0:Int) (0:Int) (0:Int))
 (zzm zv2 ev2 zbn zbo zbp zbq ((s23 a b low high).1) (((s23 a b low high).2.1).Num) (((s23 a b low high).2.1).Den) (((s23 a b low high).2.2).Num) (((s23 a b low high).2.2).Den)))
def zsC (a:(Sl Gate)) (b:(Sl Gate)) (low:Int) (high:Int) (zv2:Int) (ev2:Int) (zbn:Int) (zbo:Int) (zbp:Int) (zbq:Int) (zks:Bool):Bool :=
  (cond zks
 true
 (decide ((p23 a b low high=true)) &&
 true))
theorem zC1 (hs:zsC a b low high zv2 ev2 zbn zbo zbp zbq zks=true) (hk:K (e3 (zsB a b low high zv2 ev2 zbn zbo zbp zbq zks))):z3 K [1,1,1,1,1,1,1,1,0,1,1,1,1,1] [] ⟨[(0,zS enc_55 3 a),(1,zS enc_55 3 b),(2,zI low),(3,zI high),(10,zI zv2),(11,zp 11 0),(12,zp 12 0),(13,zI ev2),(14,zI (0:Int)),(15,zI (0:Int)),(16,zp 16 0),(17,zp 17 0),(101,zB zks)],[(11,.box 25 (zm (zad (⟨zbn,zbo⟩:Frac)))),(12,.box 25 (zm (zad (⟨zbp,zbq⟩:Frac)))),(16,.box 25 (zm (zad (⟨(0:Int),(0:Int)⟩:Frac)))),(17,.box 25 (zm (zad (⟨(0:Int),(0:Int)⟩:Frac))))],[]⟩:=zaw (by kernel_rfl) (zc hs hk (fun hs hk=>(zol hk)) (fun hs hk=>(zau hs fun hc hs=>And.intro (And.intro (zE enc_55 3 a.get) (And.intro (zE enc_55 3 b.get) hc)) (zKC hk))))
def zsD (a:(Sl Gate)) (b:(Sl Gate)) (low:Int) (high:Int) (zv2:Int) (ev2:Int) (zbn:Int) (zbo:Int) (zbp:Int) (zbq:Int) (zrk:Bool):Bool :=
  (cond zrk
 (zkt zv2 ev2 zbn zbo zbp zbq (5:Int) (0:Int) (0:Int) (0:Int) (0:Int) (0:Int))
 (cond (s22 a)
 (zsB a b low high zv2 ev2 zbn zbo zbp zbq true)
 (zsB a b low high zv2 ev2 zbn zbo zbp zbq (s22 b))))
def zsE (a:(Sl Gate)) (b:(Sl Gate)) (low:Int) (high:Int) (zv2:Int) (ev2:Int) (zbn:Int) (zbo:Int) (zbp:Int) (zbq:Int) (zrk:Bool):Bool :=
  (cond zrk
 true
 (decide ((p22 a=true)) &&
 (cond (s22 a)
 (zsC a b low high zv2 ev2 zbn zbo zbp zbq true)
 (decide ((p22 b=true)) &&
 (zsC a b low high zv2 ev2 zbn zbo zbp zbq (s22 b))))))
theorem zC2 (hs:zsE a b low high zv2 ev2 zbn zbo zbp zbq zrk=true) (hk:K (e3 (zsD a b low high zv2 ev2 zbn zbo zbp zbq zrk))):z3 K [1,1,1,1,1,1,1,1,0,1,1,1] [] ⟨[(0,zS enc_55 3 a),(1,zS enc_55 3 b),(2,zI low),(3,zI high),(10,zI zv2),(11,zp 11 0),(12,zp 12 0),(13,zI ev2),(14,zI (0:Int)),(15,zI (0:Int)),(16,zp 16 0),(17,zp 17 0),(95,zB zrk)],[(11,.box 25 (zm (zad (⟨zbn,zbo⟩:Frac)))),(12,.box 25 (zm (zad (⟨zbp,zbq⟩:Frac)))),(16,.box 25 (zm (zad (⟨(0:Int),(0:Int)⟩:Frac)))),(17,.box 25 (zm (zad (⟨(0:Int),(0:Int)⟩:Frac))))],[]⟩:=zaw (by kernel_rfl) (zc hs hk (fun hs hk=>(zol hk)) (fun hs hk=>(zau hs fun hc hs=>And.intro (And.intro (zE enc_55 3 a.get) hc) (zc hs hk (fun hs hk=>(zC1 hs hk)) (fun hs hk=>(zau hs fun hc hs=>And.intro (And.intro (zE enc_55 3 b.get) hc) (zC1 hs hk)))))))
def zom (a:(Sl Gate)) (b:(Sl Gate)) (low:Int) (high:Int) (zv2:Int) (ev2:Int) (zbn:Int) (zbo:Int) (zbp:Int) (zbq:Int) (zrj:Bool):Bool :=
  (cond zrj
 (zkt zv2 ev2 zbn zbo zbp zbq (2:Int) (0:Int) (0:Int) (0:Int) (0:Int) (0:Int))
 (cond (!(s21 a))
 (zsD a b low high zv2 ev2 zbn zbo zbp zbq true)
 (zsD a b low high zv2 ev2 zbn zbo zbp zbq (!(s21 b)))))
def zon (a:(Sl Gate)) (b:(Sl Gate)) (low:Int) (high:Int) (zv2:Int) (ev2:Int) (zbn:Int) (zbo:Int) (zbp:Int) (zbq:Int) (zrj:Bool):Bool :=
  (cond zrj
 true
 (decide ((p21 a=true)) &&
 (cond (!(s21 a))
 (zsE a b low high zv2 ev2 zbn zbo zbp zbq true)
 (decide ((p21 b=true)) &&
 (zsE a b low high zv2 ev2 zbn zbo zbp zbq (!(s21 b)))))))
theorem zzn (hs:zon a b low high zv2 ev2 zbn zbo zbp zbq zrj=true) (hk:K (e3 (zom a b low high zv2 ev2 zbn zbo zbp zbq zrj))):z3 K [1,1,1,1,1,1,1,1,0,1] [] ⟨[(0,zS enc_55 3 a),(1,zS enc_55 3 b),(2,zI low),(3,zI high),(10,zI zv2),(11,zp 11 0),(12,zp 12 0),(13,zI ev2),(14,zI (0:Int)),(15,zI (0:Int)),(16,zp 16 0),(17,zp 17 0),(87,zB zrj)],[(11,.box 25 (zm (zad (⟨zbn,zbo⟩:Frac)))),(12,.box 25 (zm (zad (⟨zbp,zbq⟩:Frac)))),(16,.box 25 (zm (zad (⟨(0:Int),(0:Int)⟩:Frac)))),(17,.box 25 (zm (zad (⟨(0:Int),(0:Int)⟩:Frac))))],[]⟩:=zaw (by kernel_rfl) (zc hs hk (fun hs hk=>(zol hk)) (fun hs hk=>(zau hs fun hc hs=>And.intro (And.intro (zE enc_55 3 a.get) hc) (zc hs hk (fun hs hk=>(zC2 hs hk)) (fun hs hk=>(zau hs fun hc hs=>And.intro (And.intro (zE enc_55 3 b.get) hc) (zC2 hs hk)))))))
def zzo (a:(Sl Gate)) (b:(Sl Gate)) (low:Int) (high:Int) (zcL:Bool) (zv2:Int) (ev2:Int) (zbn:Int) (zbo:Int) (zbp:Int) (zbq:Int):Bool :=
  (cond (!(s20 a))
 (zom a b low high zv2 ev2 zbn zbo zbp zbq true)
 (cond (!(s20 b))
 (zom a b low high zv2 ev2 zbn zbo zbp zbq true)
 (zom a b low high zv2 ev2 zbn zbo zbp zbq (!zcL))))
def zzp (a:(Sl Gate)) (b:(Sl Gate)) (low:Int) (high:Int) (zcL:Bool) (zv2:Int) (ev2:Int) (zbn:Int) (zbo:Int) (zbp:Int) (zbq:Int):Bool :=
  (decide ((p20 a=true)) &&
 (cond (!(s20 a))
 (zon a b low high zv2 ev2 zbn zbo zbp zbq true)
 (decide ((p20 b=true)) &&
 (cond (!(s20 b))
 (zon a b low high zv2 ev2 zbn zbo zbp zbq true)
 (zon a b low high zv2 ev2 zbn zbo zbp zbq (!zcL))))))
theorem zKD (hs:zzp a b low high zcL zv2 ev2 zbn zbo zbp zbq=true) (hk:K (e3 (zzo a b low high zcL zv2 ev2 zbn zbo zbp zbq))):z3 K [1,1,1,1,1] [] ⟨[(0,zS enc_55 3 a),(1,zS enc_55 3 b),(2,zI low),(3,zI high),(9,zB zcL),(10,zI zv2),(11,zp 11 0),(12,zp 12 0),(13,zI ev2)],[(11,.box 25 (zm (zad (⟨zbn,zbo⟩:Frac)))),(12,.box 25 (zm (zad (⟨zbp,zbq⟩:Frac))))],[]⟩:=zaw (by kernel_rfl) (zau hs fun hc hs=>And.intro (And.intro (zE enc_55 3 a.get) hc) (zc hs hk (fun hs hk=>(zzn hs hk)) (fun hs hk=>(zau hs fun hc hs=>And.intro (And.intro (zE enc_55 3 b.get) hc) (zc hs hk (fun hs hk=>(zzn hs hk)) (fun hs hk=>(zzn hs hk)))))))
def zku (a:(Sl Gate)) (b:(Sl Gate)) (low:Int) (high:Int) (zcL:Bool):Bool :=
  (zzo a b low high zcL ((s19 a b low high).1) ((s19 a b low high).2.2.2) (((s19 a b low high).2.1).Num) (((s19 a b low high).2.1).Den) (((s19 a b low high).2.2.1).Num) (((s19 a b low high).2.2.1).Den))
def zkv (a:(Sl Gate)) (b:(Sl Gate)) (low:Int) (high:Int) (zcL:Bool):Bool :=
  (decide ((p19 a b low high=true)) &&
 (zzp a b low high zcL ((s19 a b low high).1) ((s19 a b low high).2.2.2) (((s19 a b low high).2.1).Num) (((s19 a b low high).2.1).Den) (((s19 a b low high).2.2.1).Num) (((s19 a b low high).2.2.1).Den)))
theorem zsF (hs:zkv a b low high zcL=true) (hk:K (e3 (zku a b low high zcL))):z3 K [1,1,1,1] [] ⟨[(0,zS enc_55 3 a),(1,zS enc_55 3 b),(2,zI low),(3,zI high),(9,zB zcL)],[],[]⟩:=zaw (by kernel_rfl) (zau hs fun hc hs=>And.intro (And.intro (zE enc_55 3 a.get) (And.intro (zE enc_55 3 b.get) hc)) (zKD hs hk))
def zkw (a:(Sl Gate)) (b:(Sl Gate)) (low:Int) (high:Int):Bool :=
  (cond (decide (low ≥ (-100000:Int)))
 (cond (decide (low ≤ high))
 (cond (decide (high ≤ (200000:Int)))
 (cond (decide ((w64 (high - low)) > (200:Int)))
 true
 (zku a b low high (decide (high≤(200000:Int)))))
 (zku a b low high (decide (high≤(200000:Int)))))
 (zku a b low high false))
 (zku a b low high false))
def zkx (a:(Sl Gate)) (b:(Sl Gate)) (low:Int) (high:Int):Bool :=
  (cond (decide (low ≥ (-100000:Int)))
 (cond (decide (low ≤ high))
 (cond (decide (high ≤ (200000:Int)))
 (cond (decide ((w64 (high - low)) > (200:Int)))
 true
 (zkv a b low high (decide (high≤(200000:Int)))))
 (zkv a b low high (decide (high≤(200000:Int)))))
 (zkv a b low high false))
 (zkv a b low high false))
theorem zsG (hs:zkx a b low high=true) (hk:K (e3 (zkw a b low high))):z3 K [1,1] [] ⟨[(0,zS enc_55 3 a),(1,zS enc_55 3 b),(2,zI low),(3,zI high)],[],[]⟩:=zaw (by kernel_rfl) (zc hs hk (fun hs hk=>(zc hs hk (fun hs hk=>(zc hs hk (fun hs hk=>(zc hs hk (fun hs hk=>hk) (fun hs hk=>(zsF hs hk)))) (fun hs hk=>(zsF hs hk)))) (fun hs hk=>(zsF hs hk)))) (fun hs hk=>(zsF hs hk)))
def s3 (a:(Sl Gate)) (b:(Sl Gate)) (low:Int) (high:Int):Bool :=
  (cond (decide ((a.len : Int) > (12:Int)))
 (cond (decide ((a.len : Int) ≤ (24:Int)))
 true
 (cond (decide ((b.len : Int) > (12:Int)))
 (cond (decide ((b.len : Int) ≤ (24:Int)))
 true
 (cond (decide ((a.len : Int) > (40:Int)))
 true
 (cond (decide ((b.len : Int) > (40:Int)))
 true
 (zkw a b low high))))
 (cond (decide ((a.len : Int) > (40:Int)))
 true
 (cond (decide ((b.len : Int) > (40:Int)))
 true
 (zkw a b low high)))))
 (cond (decide ((b.len : Int) > (12:Int)))
 (cond (decide ((b.len : Int) ≤ (24:Int)))
 true
 (cond (decide ((a.len : Int) > (40:Int)))
 true
 (cond (decide ((b.len : Int) > (40:Int)))
 true
 (zkw a b low high))))
 (cond (decide ((a.len : Int) > (40:Int)))
 true
 (cond (decide ((b.len : Int) > (40:Int)))
 true
 (zkw a b low high)))))
def p3 (a:(Sl Gate)) (b:(Sl Gate)) (low:Int) (high:Int):Bool :=
  (cond (decide ((a.len : Int) > (12:Int)))
 (cond (decide ((a.len : Int) ≤ (24:Int)))
 true
 (cond (decide ((b.len : Int) > (12:Int)))
 (cond (decide ((b.len : Int) ≤ (24:Int)))
 true
 (cond (decide ((a.len : Int) > (40:Int)))
 true
 (cond (decide ((b.len : Int) > (40:Int)))
 true
 (zkx a b low high))))
 (cond (decide ((a.len : Int) > (40:Int)))
 true
 (cond (decide ((b.len : Int) > (40:Int)))
 true
 (zkx a b low high)))))
 (cond (decide ((b.len : Int) > (12:Int)))
 (cond (decide ((b.len : Int) ≤ (24:Int)))
 true
 (cond (decide ((a.len : Int) > (40:Int)))
 true
 (cond (decide ((b.len : Int) > (40:Int)))
 true
 (zkx a b low high))))
 (cond (decide ((a.len : Int) > (40:Int)))
 true
 (cond (decide ((b.len : Int) > (40:Int)))
 true
 (zkx a b low high)))))
end
theorem q3 (a:(Sl Gate)) (b:(Sl Gate)) (low:Int) (high:Int) (K:List PA→Prop) (hs:p3 a b low high=true) (hk:K (e3 (s3 a b low high))):vcFun Try.prog G3 zM8 3 [.one (.sl a.len 3 (fun i=>enc_55 (a.get i))),.one (.sl b.len 3 (fun i=>enc_55 (b.get i))),.one (.int .i64 low),.one (.int .i64 high)] K :=
  zaw (by kernel_rfl) (zc hs hk (fun hs hk=>(zc hs hk (fun hs hk=>hk) (fun hs hk=>(zc hs hk (fun hs hk=>(zc hs hk (fun hs hk=>hk) (fun hs hk=>(zc hs hk (fun hs hk=>hk) (fun hs hk=>(zc hs hk (fun hs hk=>hk) (fun hs hk=>(zsG hs hk)))))))) (fun hs hk=>(zc hs hk (fun hs hk=>hk) (fun hs hk=>(zc hs hk (fun hs hk=>hk) (fun hs hk=>(zsG hs hk)))))))))) (fun hs hk=>(zc hs hk (fun hs hk=>(zc hs hk (fun hs hk=>hk) (fun hs hk=>(zc hs hk (fun hs hk=>hk) (fun hs hk=>(zc hs hk (fun hs hk=>hk) (fun hs hk=>(zsG hs hk)))))))) (fun hs hk=>(zc hs hk (fun hs hk=>hk) (fun hs hk=>(zc hs hk (fun hs hk=>hk) (fun hs hk=>(zsG hs hk)))))))))
def zN6 : List PA → COut
  | [.one (.sl a0_n a0_s a0_g),.one (.sl a1_n a1_s a1_g),.one (.int .i64 a2),.one (.int .i64 a3)]=>.det (IsE enc_55 3 a0_s a0_g∧IsE enc_55 3 a1_s a1_g∧p3 (⟨a0_n,zae a0_g⟩:(Sl Gate)) (⟨a1_n,zae a1_g⟩:(Sl Gate)) a2 a3=true) [.one (.bool (s3 (⟨a0_n,zae a0_g⟩:(Sl Gate)) (⟨a1_n,zae a1_g⟩:(Sl Gate)) a2 a3))]
  | _=>.no
theorem zM9:zaf Try.prog 3:=⟨_,rfl,rfl,by kernel_rfl⟩
theorem ok3:Ok Try.prog 3 zN6:=zay zP2 zM9 fun args K h=>by
  unfold zN6 at h
  split at h
  · rename_i a0_n a0_s a0_g a1_n a1_s a1_g a2 a3
    obtain ⟨⟨⟨rfl,a0_f,rfl⟩,⟨rfl,a1_f,rfl⟩,hs⟩,hk⟩:=h
    try rw [zac a0_f] at hs
    try rw [zac a0_f] at hk
    try rw [zac a1_f] at hs
    try rw [zac a1_f] at hk
    exact ⟨(fun _ _=>[]),(fun _=>false),zM8,q3 (⟨a0_n,a0_f⟩:(Sl Gate)) (⟨a1_n,a1_f⟩:(Sl Gate)) a2 a3 K hs hk⟩
  · exact h.elim
end Go.Proofs
namespace Go.Proofs
open Go Go.Pm
set_option maxRecDepth 100000
set_option linter.unusedVariables false
attribute [local irreducible] Go.Pm.vcFun Go.Pm.vc Go.Pm.vcIter
theorem C_3:Try.prog.cellsOf 3=1:=by kernel_rfl
theorem zN7:Try.prog.cellsOf 55=3:=by kernel_rfl
abbrev wf_3 (x:Int):Prop:=wfI x
theorem rd_3 {H:Type} {en:TypeId×Value→H} {w:World} {sp:Nat→Bool} {held:Bool} : Rd H en Try.prog w sp held 3 zal wf_3:=zIi Try.underlying3
def zKE (x:Gate):Prop:=wf_3 x.Z∧wf_3 x.Low∧wf_3 x.High
theorem zNa {H:Type} {en:TypeId×Value→H} {w:World} {sp:Nat→Bool} {held:Bool} : Rd H en Try.prog w sp held 55 enc_55 zKE:=by
  intro fuel cs x h
  obtain ⟨hl,hf⟩:=zu1 Try.underlying55 h
  rw [zN7] at hl
  obtain ⟨n0,y0,g0⟩:=hf 0 _ rfl
  have g0:DataW.trod en Try.prog w 0 sp held n0 3 ((cs.drop 0).take (Try.prog.cellsOf 3))=some y0:=g0
  rw [C_3] at g0
  obtain ⟨a0,r0,w0⟩:=rd_3 _ _ _ g0
  obtain ⟨n1,y1,g1⟩:=hf 1 _ rfl
  have g1:DataW.trod en Try.prog w 0 sp held n1 3 ((cs.drop 1).take (Try.prog.cellsOf 3))=some y1:=g1
  rw [C_3] at g1
  obtain ⟨a1,r1,w1⟩:=rd_3 _ _ _ g1
  obtain ⟨n2,y2,g2⟩:=hf 2 _ rfl
  have g2:DataW.trod en Try.prog w 0 sp held n2 3 ((cs.drop 2).take (Try.prog.cellsOf 3))=some y2:=g2
  rw [C_3] at g2
  obtain ⟨a2,r2,w2⟩:=rd_3 _ _ _ g2
  have z:cs.drop 3=[]:=List.drop_eq_nil_of_le (by omega)
  have R:=(r0.append (r1.append (r2.append (show RL (Rep (H0 w)) [] (cs.drop 3) by rw [z];exact zhl))))
  rw [← (show cs.drop 2=(cs.drop 2).take 1 ++ cs.drop 3 from zhn cs 2 1)] at R
  rw [← (show cs.drop 1=(cs.drop 1).take 1 ++ cs.drop 2 from zhn cs 1 1)] at R
  rw [← (show cs.drop 0=(cs.drop 0).take 1 ++ cs.drop 1 from zhn cs 0 1)] at R
  exact ⟨⟨a0,a1,a2⟩,R,⟨w0,w1,w2⟩⟩
def wf_22 (x:(Sl Gate)):Prop:=x.len≤9223372036854775807∧∀ i,i < x.len→zKE (x.get i)
theorem rd_22 {H:Type} {en:TypeId×Value→H} {w:World} {sp:Nat→Bool} {held:Bool} : Rd H en Try.prog w sp held 22 zIk wf_22:=zAQ Try.underlying22 zN7 (by decide) (fun _=>rfl) zNa
end Go.Proofs
namespace Go.Proofs
open Go Go.Pm
set_option maxRecDepth 100000
set_option linter.unusedVariables false
attribute [local irreducible] Go.Pm.vcFun Go.Pm.vc Go.Pm.vcIter
section
variable {K:List PA→Prop} {zaa:(Sl Gate)} {lv0:(Sl Line)} {zGR:Nat→List PV} {iv1:Int} {zaO:Int} {zaW:Int} {zm0:Int} {zm1:Int} {X1:St→Prop} {P1:Int→Int→Int→Int→Int→Bool} {S1:Int→Int→Int→Int→Int→(Frac×Frac)} {iv2:Int} {zBI:Bool} {zzq:Int} {zzr:Int} {zrl:Int} {zrm:Int} {iv3:Int} {zkW:Int} {zkX:Int} {ztK:Int} {ztL:Int} {iv4:Int} {zzs:Bool} {ziD:Int} {ziE:Int}
def zzt (S1:Int→Int→Int→Int→Int→(Frac×Frac)) (lv0:(Sl Line)) (zkW:Int) (zkX:Int) (iv4:Int) (zzs:Bool) (ziD:Int) (ziE:Int):(Frac×Frac) :=
  (cond zzs
 (S1 (w64 (iv4+(1:Int))) zkW zkX ((lv0.get iv4.toNat).Slope.Num) ((lv0.get iv4.toNat).Slope.Den))
 (S1 (w64 (iv4+(1:Int))) zkW zkX ziD ziE))
def zzu (P1:Int→Int→Int→Int→Int→Bool) (lv0:(Sl Line)) (zkW:Int) (zkX:Int) (iv4:Int) (zzs:Bool) (ziD:Int) (ziE:Int):Bool :=
  (cond zzs
 (decide ((0≤iv4∧iv4 < (lv0.len:Int))) &&
 (P1 (w64 (iv4+(1:Int))) zkW zkX ((lv0.get iv4.toNat).Slope.Num) ((lv0.get iv4.toNat).Slope.Den)))
 (P1 (w64 (iv4+(1:Int))) zkW zkX ziD ziE))
def zrn (S1:Int→Int→Int→Int→Int→(Frac×Frac)) (lv0:(Sl Line)) (iv3:Int) (zkW:Int) (zkX:Int) (ztK:Int) (ztL:Int):(Frac×Frac) :=
  (zzt S1 lv0 zkW zkX iv3 (s29 (⟨ztK,ztL⟩:Frac) ((lv0.get iv3.toNat).Slope)) ztK ztL)
def zro (P1:Int→Int→Int→Int→Int→Bool) (lv0:(Sl Line)) (iv3:Int) (zkW:Int) (zkX:Int) (ztK:Int) (ztL:Int):Bool :=
  (decide ((0≤iv3∧iv3 < (lv0.len:Int))) &&
 (zzu P1 lv0 zkW zkX iv3 (s29 (⟨ztK,ztL⟩:Frac) ((lv0.get iv3.toNat).Slope)) ztK ztL))
def zzv (S1:Int→Int→Int→Int→Int→(Frac×Frac)) (lv0:(Sl Line)) (iv2:Int) (zBI:Bool) (zzq:Int) (zzr:Int) (zrl:Int) (zrm:Int):(Frac×Frac) :=
  (cond zBI
 (zrn S1 lv0 iv2 ((lv0.get iv2.toNat).Slope.Num) ((lv0.get iv2.toNat).Slope.Den) zrl zrm)
 (zrn S1 lv0 iv2 zzq zzr zrl zrm))
def zzw (P1:Int→Int→Int→Int→Int→Bool) (lv0:(Sl Line)) (iv2:Int) (zBI:Bool) (zzq:Int) (zzr:Int) (zrl:Int) (zrm:Int):Bool :=
  (cond zBI
 (decide ((0≤iv2∧iv2 < (lv0.len:Int))) &&
 (zro P1 lv0 iv2 ((lv0.get iv2.toNat).Slope.Num) ((lv0.get iv2.toNat).Slope.Den) zrl zrm))
 (zro P1 lv0 iv2 zzq zzr zrl zrm))
def zky (lv0:(Sl Line)) (S1:Int→Int→Int→Int→Int→(Frac×Frac)) (iv1:Int) (zaO:Int) (zaW:Int) (zm0:Int) (zm1:Int):(Frac×Frac) :=
  (cond (decide (iv1 < (lv0.len : Int)))
 (zzv S1 lv0 iv1 (s29 ((lv0.get iv1.toNat).Slope) (⟨zaO,zaW⟩:Frac)) zaO zaW zm0 zm1)
 ((⟨zaO,zaW⟩:Frac),(⟨zm0,zm1⟩:Frac)))
def zkz (lv0:(Sl Line)) (P1:Int→Int→Int→Int→Int→Bool) (iv1:Int) (zaO:Int) (zaW:Int) (zm0:Int) (zm1:Int):Bool :=
  (cond (decide (iv1 < (lv0.len : Int)))
 (decide ((0≤iv1∧iv1 < (lv0.len:Int))) &&
 (zzw P1 lv0 iv1 (s29 ((lv0.get iv1.toNat).Slope) (⟨zaO,zaW⟩:Frac)) zaO zaW zm0 zm1))
 true)
def zkA (lv0:(Sl Line)):Nat→Int→Int→Int→Int→Int→(Frac×Frac):=lpO (fun _ _ _ _ _=>default) (zky lv0)
def zkB (lv0:(Sl Line)):Nat→Int→Int→Int→Int→Int→Bool:=lpO (fun _ _ _ _ _=>false) (zkz lv0)
def zHj (lv0:(Sl Line)) (iv1:Int) (zaO:Int) (zaW:Int) (zm0:Int) (zm1:Int):(Frac×Frac):=zkA lv0 Fuel iv1 zaO zaW zm0 zm1
def zHk (lv0:(Sl Line)) (iv1:Int) (zaO:Int) (zaW:Int) (zm0:Int) (zm1:Int):Bool:=zkB lv0 Fuel iv1 zaO zaW zm0 zm1
def zHl (lv0:(Sl Line)):(Frac×Frac) :=
  (zHj lv0 (1:Int) ((lv0.get 0).Slope.Num) ((lv0.get 0).Slope.Den) ((lv0.get 0).Slope.Num) ((lv0.get 0).Slope.Den))
def zzx (lv0:(Sl Line)):Bool :=
  (decide ((0≤(0:Int)∧(0:Int) < (lv0.len:Int))) &&
 (decide ((0≤(0:Int)∧(0:Int) < (lv0.len:Int))) &&
 (zHk lv0 (1:Int) ((lv0.get 0).Slope.Num) ((lv0.get 0).Slope.Den) ((lv0.get 0).Slope.Num) ((lv0.get 0).Slope.Den))))
def s37 (zaa:(Sl Gate)):(Frac×Frac) :=
  (zHl (s33 zaa))
def p37 (zaa:(Sl Gate)):Bool :=
  (decide ((p33 zaa=true)) &&
 (zzx (s33 zaa)))
end
abbrev T35:Tabs:=((Tabs.nil.addF 75 ztD).addF 82 zBe)
abbrev G35:Ctrs:=csm T35 (fun _ _=>[]) (fun _=>false)
def zNb:Ann:=⟨26,[(0,zK [0,2,3] [2,3]),(1,zK [2,3,5,6] [2,3,5]),(2,zK [2,3,5,6,15] [2,3,5]),(3,zK [2,3,4] [2,3]),(4,zK [2,3,7,8] [2,3,7,8]),(5,zK [2,3,4] [2,3])],
 [],
 [(4,zK [2,3,5] [2,3,5])],
 [],[]⟩
@[irreducible] def z35:=ptF Try.prog G35 zNb Try.f35
section
variable {K:List PA→Prop} {zaa:(Sl Gate)} {zmw:(Sl Gate)} {zmx:(Sl straight)} {zpR:Nat→List PV} {zpS:Nat→List PV}
end
abbrev T48:Tabs:=((((((Tabs.nil.addF 67 zn2).addF 68 zvQ).addF 69 zpp).addF 75 ztD).addF 87 zAT).addF 89 zpj)
abbrev G48:Ctrs:=csm T48 (fun _ _=>[]) (fun _=>false)
def zNc:Ann:=⟨72,[(0,zK [0,3] [3]),(1,zK [0,3,14] [3]),(2,zK [4,5] []),(3,zK [3,6,7] [3,6]),(4,zK [3,6,7,21] [3,6]),(5,zK [4,5] []),(6,zK [3,6,36] [3,6]),(7,zK [4,5] []),(8,zK [3,8,9] [3,8,9]),(9,zK [8,9,10,11] [8,9,10,11]),(10,zK [8,9,10,11,50] [8,9,10,11]),(11,zK [4,5] []),(12,zK [61] []),(13,zK [4,5] []),(14,zK [4,5] [])],
 [],
 [(2,zK [0,3,14] [3]),(3,zK [0,3] [3]),(4,zK [3,6,7] [3,6]),(6,zK [3,6] [3,6]),(7,zK [3,6,36] [3,6]),(8,zK [3,6] [3,6]),(9,zK [3,8,9] [3,8,9]),(10,zK [8,9,10,11] [8,9,10,11]),(11,zK [8,9,10,11,50] [8,9,10,11]),(13,zK [61] [])],
 [],[]⟩
@[irreducible] def z48:=ptF Try.prog G48 zNc Try.f48
section
variable {K:List PA→Prop} {zaa:(Sl Gate)} {g:Gate} {zai:Bool} {ev2:Int} {zbI:(Sl Gate)} {zbJ:(Sl straight)} {zpN:Nat→List PV} {zpO:Nat→List PV} {zhD:(Sl Gate)} {zhE:(Sl straight)} {zpP:Nat→List PV} {zpQ:Nat→List PV} {zP3:Bool} {zP4:(Sl Gate)} {zP5:(Sl straight)} {zNd:Nat→List PV} {zNe:Nat→List PV} {zP6:(Sl Gate)} {zP7:(Sl straight)} {zNf:Nat→List PV} {zNg:Nat→List PV} {zkU:Int} {zkV:Int} {zoh:Int} {zoi:Int} {zNh:Int} {zNi:Int} {zLj:Int} {zLk:Int} {zP8:Bool} {zP9:Bool}
end
abbrev T50:Tabs:=((((Tabs.nil.addF 22 ztF).addF 29 ztG).addF 36 zBB).addF 40 zp0)
abbrev G50:Ctrs:=csm T50 (fun _ _=>[]) (fun _=>false)
def zNj:Ann:=⟨51,[(0,zK [0,3] [3]),(1,zK [0,3,19] [3]),(2,zK [4] []),(3,zK [3,5,6] [3,5,6]),(4,zK [5,6,7,8] [5,6,7,8]),(5,zK [5,6,7,8,42] [5,6,7,8]),(6,zK [4] []),(7,zK [50] []),(8,zK [4] []),(9,zK [4] [])],
 [],
 [(2,zK [0,3,19] [3]),(3,zK [0,3] [3]),(4,zK [3,5,6] [3,5,6]),(5,zK [5,6,7,8] [5,6,7,8]),(6,zK [5,6,7,8,42] [5,6,7,8]),(8,zK [50] [])],
 [],[]⟩
@[irreducible] def z50:=ptF Try.prog G50 zNj Try.f50
section
variable {K:List PA→Prop} {zaa:(Sl Gate)} {g:Gate} {zQa:Bool} {zzq:Int} {zzr:Int} {zrl:Int} {zrm:Int} {zN8:Int} {zN9:Int} {zOa:Int} {zOb:Int} {zzs:Bool} {zQb:Bool}
end
end Go.Proofs
namespace Go.Pm
open Go
theorem zbF {i n:Nat} (h:i < n) (hn:n≤9223372036854775807):w64 ((i:Int)+(1:Int))=((i+1:Nat):Int):=by
 rw [zaH (by omega) (by omega)];omega
theorem zHm {β : Type} {good : Nat → Bool} {bad fin : β} {finP : Bool} {n : Nat} {lpS : Nat → Int → β} {lpP : Nat → Int → Bool}
    (hS:∀ (k i:Nat),i < n→lpS (k+1) (i:Int)=cond (good i) (lpS k (w64 ((i:Int)+(1:Int)))) bad)
    (hE:∀ k,lpS (k+1) (n:Int)=fin)
    (hP:∀ (k i:Nat),i < n→lpP (k+1) (i:Int)=cond (good i) (lpP k (w64 ((i:Int)+(1:Int)))) true)
    (hPE:∀ k,lpP (k+1) (n:Int)=finP) (hn:n≤9223372036854775807) :
    ((∀ i,i < n→good i=true)→lpP Fuel 0=finP∧lpS Fuel 0=fin)∧((¬ ∀ i,i < n→good i=true)→lpP Fuel 0=true∧lpS Fuel 0=bad):=by
  have key:∀ (m k i:Nat),i+m=n→m < k→((∀ j,i≤j→j < n→good j=true)→lpP k (i:Int)=finP∧lpS k (i:Int)=fin)∧((¬ ∀ j,i≤j→j < n→good j=true)→lpP k (i:Int)=true∧lpS k (i:Int)=bad):=by
    intro m
    induction m with
    | zero =>
      intro k i hi hk
      obtain ⟨k,rfl⟩:∃ k',k=k'+1:=⟨k - 1,by omega⟩
      have:i=n:=by omega
      subst this
      rw [hE,hPE]
      exact ⟨fun _=>⟨rfl,rfl⟩,fun h=>absurd (fun j h1 h2=>absurd h2 (by omega)) h⟩
    | succ m ih =>
      intro k i hi hk
      obtain ⟨k,rfl⟩:∃ k',k=k'+1:=⟨k - 1,by omega⟩
      rw [hS k i (by omega),hP k i (by omega),zbF (n:=n) (by omega) hn]
      obtain ⟨h1,h2⟩:=ih k (i+1) (by omega) (by omega)
      cases hg:good i
      · refine ⟨fun h => ?_, fun _ => ⟨rfl, rfl⟩⟩
        have:=h i (Nat.le_refl _) (by omega)
        rw [hg] at this;cases this
      · refine ⟨fun h => h1 fun j a b => h j (by omega) b, fun h => h2 fun h' => h fun j a b => ?_⟩
        by_cases hji:j=i
        · rw [hji];exact hg
        · exact h' j (by omega) b
  have:=key n Fuel 0 (by omega) (by simp only [Fuel];omega)
  simpa using this
def zii {σ : Type} (step : Nat → σ → σ) : Nat → Nat → σ → σ
  | 0,_,s=>s
  | m+1,i,s=>zii step m (i+1) (step i s)
theorem zkC {σ β : Type} {step : Nat → σ → σ} {E : σ → β} {EP : σ → Bool} {Inv : Nat → σ → Prop} {a n : Nat} {lpS : Nat → σ → Int → β} {lpP : Nat → σ → Int → Bool}
    (hS:∀ (k i:Nat) (s:σ),a≤i→i < n→Inv i s→lpS (k+1) s (i:Int)=lpS k (step i s) (w64 ((i:Int)+(1:Int))))
    (hE:∀ k s,lpS (k+1) s (n:Int)=E s)
    (hP:∀ (k i:Nat) (s:σ),a≤i→i < n→Inv i s→lpP (k+1) s (i:Int)=lpP k (step i s) (w64 ((i:Int)+(1:Int))))
    (hPE:∀ k s,lpP (k+1) s (n:Int)=EP s)
    (hI:∀ i s,a≤i→i < n→Inv i s→Inv (i+1) (step i s)) (ha:a≤n) (hn:n≤9223372036854775807) (s:σ) (h0:Inv a s) :
    lpP Fuel s (a:Int)=EP (zii step (n - a) a s)∧lpS Fuel s (a:Int)=E (zii step (n - a) a s):=by
  have key:∀ (m k i:Nat) (s:σ),a≤i→i+m=n→m < k→Inv i s→lpP k s (i:Int)=EP (zii step m i s)∧lpS k s (i:Int)=E (zii step m i s):=by
    intro m
    induction m with
    | zero =>
      intro k i s h1 hi hk _
      obtain ⟨k,rfl⟩:∃ k',k=k'+1:=⟨k - 1,by omega⟩
      have:i=n:=by omega
      subst this
      rw [hE,hPE]
      exact ⟨rfl,rfl⟩
    | succ m ih =>
      intro k i s h1 hi hk hs
      obtain ⟨k,rfl⟩:∃ k',k=k'+1:=⟨k - 1,by omega⟩
      rw [hS k i s h1 (by omega) hs,hP k i s h1 (by omega) hs,zbF (n:=n) (by omega) hn]
      exact ih k (i+1) (step i s) (by omega) (by omega) (by omega) (hI i s h1 (by omega) hs)
  exact key (n - a) Fuel a s (Nat.le_refl _) (by omega) (by simp only [Fuel];omega) h0
end Go.Pm
namespace Go.Proofs
open Go Go.Pm
set_option maxRecDepth 100000
theorem zsH (n a b:Int):s70 n a b=decide (a≤n∧n≤b):=by
 unfold s70;by_cases h:n ≥ a
 ·rw [decide_eq_true h,cond_true];exact decide_eq_decide.2 ⟨fun k=>⟨h,k⟩,fun k=>k.2⟩
 ·rw [decide_eq_false h,cond_false];exact (decide_eq_false fun k=>h k.1).symm
theorem zzy (n a b:Int):s74 n a b=decide (a≤n∧n≤b):=zsH n a b
def zfY (g:Gate):Prop:=(0≤g.Z∧g.Z≤100000)∧-1000000≤g.Low∧g.Low≤g.High∧g.High≤1000000
def zaC (l:Sl Gate):Prop:=(∀ i,i < l.len→zfY (l.get i))∧1≤l.len∧l.len≤24
theorem zfK (a b:Bool):cond a b false=(a && b):=by cases a <;> rfl
theorem zC3 (g:Gate):s87 g=true↔zfY g:=by
 unfold s87 zfY
 rw [zzy,zfK,zfK,zfK,Bool.and_eq_true,Bool.and_eq_true,Bool.and_eq_true,decide_eq_true_eq,decide_eq_true_eq,decide_eq_true_eq,decide_eq_true_eq]
theorem zC4 (g:Gate):s49 g=true↔zfY g:=by
 unfold s49 zfY
 rw [zsH,zsH,zfK,zfK,Bool.and_eq_true,Bool.and_eq_true,decide_eq_true_eq,decide_eq_true_eq,decide_eq_true_eq]
 omega
theorem zzz (l:Sl Gate) (hn:l.len≤9223372036854775807):p64 l=true∧(s64 l=true↔zaC l):=by
  have := zr2 (good := fun i => s87 (l.get i)) (fin := s74 (l.len : Int) 1 24) (n := l.len) (lpS := zhq l) (lpP := zhr l)
    (fun k i hi=>by
      show zho l (zhq l k) (i:Int)=_
      generalize zhq l k=S
      unfold zho zpd
      rw [decide_eq_true (show (i:Int) < (l.len:Int) by omega),cond_true,Int.toNat_natCast]
      cases s87 (l.get i) <;> rfl)
    (fun k=>by
      show zho l (zhq l k) (l.len:Int)=_
      unfold zho
      rw [decide_eq_false (show ¬ (l.len:Int) < (l.len:Int) by omega),cond_false])
    (fun k i hi=>by
      show zhp l (zhr l k) (i:Int)=_
      generalize zhr l k=S
      unfold zhp zpe
      rw [decide_eq_true (show (i:Int) < (l.len:Int) by omega),cond_true,Int.toNat_natCast,decide_eq_true (show 0≤(i:Int)∧(i:Int) < (l.len:Int) by omega),Bool.true_and]
      cases s87 (l.get i) <;> rfl)
    (fun k=>by
      show zhp l (zhr l k) (l.len:Int)=_
      unfold zhp
      rw [decide_eq_false (show ¬ (l.len:Int) < (l.len:Int) by omega),cond_false])
    hn
  refine ⟨this.1,this.2.trans ?_⟩
  rw [zzy,decide_eq_true_eq]
  exact ⟨fun k=>⟨fun i hi=>(zC3 _).1 (k.1 i hi),by omega,by omega⟩,fun k=>⟨fun i hi=>(zC3 _).2 (k.1 i hi),by have:=k.2;omega⟩⟩
theorem zsI (l:Sl Gate) (hn:l.len≤9223372036854775807):p20 l=true∧(s20 l=true↔zaC l):=by
  have := zr2 (good := fun i => s49 (l.get i)) (fin := s70 (l.len : Int) 1 24) (n := l.len) (lpS := zhJ l) (lpP := zhK l)
    (fun k i hi=>by
      show zhH l (zhJ l k) (i:Int)=_
      generalize zhJ l k=S
      unfold zhH zqu
      rw [decide_eq_true (show (i:Int) < (l.len:Int) by omega),cond_true,Int.toNat_natCast]
      cases s49 (l.get i) <;> rfl)
    (fun k=>by
      show zhH l (zhJ l k) (l.len:Int)=_
      unfold zhH
      rw [decide_eq_false (show ¬ (l.len:Int) < (l.len:Int) by omega),cond_false])
    (fun k i hi=>by
      show zhI l (zhK l k) (i:Int)=_
      generalize zhK l k=S
      unfold zhI zqv
      rw [decide_eq_true (show (i:Int) < (l.len:Int) by omega),cond_true,Int.toNat_natCast,decide_eq_true (show 0≤(i:Int)∧(i:Int) < (l.len:Int) by omega),Bool.true_and]
      cases s49 (l.get i) <;> rfl)
    (fun k=>by
      show zhI l (zhK l k) (l.len:Int)=_
      unfold zhI
      rw [decide_eq_false (show ¬ (l.len:Int) < (l.len:Int) by omega),cond_false])
    hn
  refine ⟨this.1,this.2.trans ?_⟩
  rw [zsH,decide_eq_true_eq]
  exact ⟨fun k=>⟨fun i hi=>(zC4 _).1 (k.1 i hi),by omega,by omega⟩,fun k=>⟨fun i hi=>(zC4 _).2 (k.1 i hi),by have:=k.2;omega⟩⟩
theorem zC5 (l:Sl Gate) (hn:l.len≤9223372036854775807):s64 l=s20 l :=
 Bool.eq_iff_iff.2 ((zzz l hn).2.trans (zsI l hn).2.symm)
-- the greatest common divisor
theorem zzA:∀ (k:Nat) (a b:Int),0≤a→0≤b→b < (k:Int) →
  (ziT k a b=true∧ziS k a b=(Int.gcd a b:Int))∧(zmB k a b=true∧zmA k a b=(Int.gcd a b:Int)):=by
 intro k
 induction k with
 | zero=>intro a b _ h1 h2;omega
 | succ k ih =>
  intro a b ha hb hk
  show (ziR (ziT k) a b=true∧ziQ (ziS k) a b=_)∧(zmz (zmB k) a b=true∧zmy (zmA k) a b=_)
  unfold ziR ziQ zmz zmy
  by_cases h0:b=0
  ·subst h0
   simp [Int.natAbs_of_nonneg ha]
  ·have hb0 : b > 0 := by omega
   have e1:(b != (0:Int))=true:=by simpa using h0
   have m0:0≤a.tmod b:=Int.tmod_nonneg b ha
   have m1:a.tmod b < b:=Int.tmod_lt_of_pos a hb0
   have g:Int.gcd b (a.tmod b)=Int.gcd a b:=by
    obtain ⟨m,rfl⟩:=Int.eq_ofNat_of_zero_le ha
    obtain ⟨n,rfl⟩:=Int.eq_ofNat_of_zero_le hb
    show Nat.gcd n (m % n)=Nat.gcd m n
    rw [Nat.gcd_comm m n,Nat.gcd_rec n m,Nat.gcd_comm]
   obtain ⟨⟨i1,i2⟩,i3,i4⟩:=ih b (a.tmod b) hb m0 (by omega)
   rw [decide_eq_true hb0,e1,decide_eq_true (show b ≠ 0 from h0),cond_true,cond_true,cond_true,cond_true,Bool.true_and,Bool.true_and,i1,i2,i3,i4,g]
   exact ⟨⟨rfl,rfl⟩,rfl,rfl⟩
theorem zHn (a b:Int) (ha:0≤a) (hb:0≤b) (hk:b≤9223372036854775807):zK7 a b=true∧zDZ a b=(Int.gcd a b:Int) :=
 (zzA Fuel a b ha hb (by simp only [Fuel];omega)).1
theorem zC6 (a b:Int) (ha:0≤a) (hb:0≤b) (hk:b≤9223372036854775807):p73 a b=true∧s73 a b=(Int.gcd a b:Int) :=
 (zzA Fuel a b ha hb (by simp only [Fuel];omega)).2
-- the order of equal lists
end Go.Proofs
namespace Go.Proofs
open Go Go.Pm
set_option maxRecDepth 100000
theorem zzB {σ : Type} {step : Nat → σ → σ} {Inv : Nat → σ → Prop} {n : Nat} (hI : ∀ i s, i < n → Inv i s → Inv (i + 1) (step i s)) :
    ∀ (m i:Nat) (s:σ),i+m=n→Inv i s→Inv n (zii step m i s):=by
  intro m
  induction m with
  | zero => intro i s h hs; have : i = n := by omega
            subst this;exact hs
  | succ m ih=>intro i s h hs;exact ih (i+1) (step i s) (by omega) (hI i s (by omega) hs)
def addI (l:Line) (zaa:Sl Gate) (i:Nat) (v:Sl Int):Sl Int:=cond (s72 l (zaa.get i)) (⟨v.len+1,zdW v.len v.get (fun _=>(i:Int))⟩:Sl Int) v
def zLl (l:Line) (zaa:Sl Gate):Sl Int:=zii (addI l zaa) zaa.len 0 (⟨0,fun _=>default⟩:Sl Int)
theorem zsJ (l:Line) (zaa:Sl Gate) (i:Nat) (v:Sl Int) (h:v.len≤i):(addI l zaa i v).len≤i+1:=by
 unfold addI;cases s72 l (zaa.get i)
 ·exact Nat.le_succ_of_le h
 ·exact Nat.succ_le_succ h
theorem zKF (l:Line) (zaa:Sl Gate) (hn:zaa.len≤40):p27 l zaa=true∧s27 l zaa=zLl l zaa:=by
  have := zkC (σ := Sl Int) (step := addI l zaa) (E := id) (EP := fun _ => true) (Inv := fun i v => v.len ≤ i) (a := 0) (n := zaa.len) (lpS := fun k v i => zhR l zaa k i v) (lpP := fun k v i => zhS l zaa k i v)
    (fun k i v _ hi _=>by
      show zhP l zaa (zhR l zaa k) (i:Int) v=_
      generalize zhR l zaa k=S
      unfold zhP zqy addI
      rw [decide_eq_true (show (i:Int) < (zaa.len:Int) by omega),cond_true,Int.toNat_natCast]
      cases s72 l (zaa.get i) <;> rfl)
    (fun k v=>by
      show zhP l zaa (zhR l zaa k) (zaa.len:Int) v=_
      unfold zhP
      rw [decide_eq_false (show ¬ (zaa.len:Int) < (zaa.len:Int) by omega),cond_false];rfl)
    (fun k i v _ hi hv=>by
      show zhQ l zaa (zhS l zaa k) (i:Int) v=_
      generalize zhS l zaa k=S
      unfold zhQ zqz addI
      rw [decide_eq_true (show (i:Int) < (zaa.len:Int) by omega),cond_true,Int.toNat_natCast,decide_eq_true (show 0≤(i:Int)∧(i:Int) < (zaa.len:Int) by omega),decide_eq_true (show (v.len+1) * 8≤140737488355328∧v.len+1≤9223372036854775807 by omega)]
      cases s72 l (zaa.get i) <;> rfl)
    (fun k v=>by
      show zhQ l zaa (zhS l zaa k) (zaa.len:Int) v=_
      unfold zhQ
      rw [decide_eq_false (show ¬ (zaa.len:Int) < (zaa.len:Int) by omega),cond_false])
    (fun i v _ _ h=>zsJ l zaa i v h) (Nat.zero_le _) (by omega) (⟨0,fun _=>default⟩:Sl Int) (Nat.le_refl _)
  exact this
end Go.Proofs
