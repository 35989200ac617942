/- Part 5 of what the proof rests on: a machine that runs functions of the program on pure values, proved sound; the functions that the law reaches, and what they compute. -/
import Derived.Test.YtkpjhhoafenogaaQ4
set_option linter.all false
namespace Go.Proofs
open Go Go.Pm
set_option maxRecDepth 100000
set_option linter.unusedVariables false
attribute [local irreducible] Go.Pm.vcFun Go.Pm.vc Go.Pm.vcIter
abbrev T38:Tabs:=((Tabs.nil.addF 64 ztC).addF 84 zEY)
theorem zMd:TabsOk Try.prog T38:=((TabsOk.nil.addF zKY).addF zO3)
abbrev G38:Ctrs:=csm T38 (fun _ _=>[]) (fun _=>false)
def zEZ:Ann:=⟨66,[(0,zK [0] []),(1,zK [0,12] []),(2,zK [2,3] []),(3,zK [0,4] []),(4,zK [0,4,15,16] []),(5,zK [0,4,15,16,17] []),(6,zK [0,4,5,15,16] []),(7,zK [0,4,5,6,15,16] []),(8,zK [0,4,5,6,15,16,23] []),(9,zK [0,4,5,6,15,16] []),(10,zK [0,4,5,6,15,16,31] []),(11,zK [2,3] [34]),(12,zK [0,4,15,16] []),(13,zK [0,4,36,37] []),(14,zK [0,4,36,37,38] []),(15,zK [0,4,7,36,37] []),(16,zK [0,4,7,8,36,37] []),(17,zK [0,4,7,8,36,37,44] []),(18,zK [0,4,7,8,36,37] []),(19,zK [0,4,7,8,9,36,37] []),(20,zK [0,4,7,8,9,36,37,51] []),(21,zK [0,4,7,8,9,36,37] []),(22,zK [0,4,7,8,9,36,37,60] []),(23,zK [2,3] [64]),(24,zK [0,4,36,37] []),(25,zK [2,3] [])],
 [(5,zK [0,4,15,16] []),(8,zK [0,4,5,6,15,16] []),(14,zK [0,4,36,37] []),(17,zK [0,4,7,8,36,37] []),(20,zK [0,4,7,8,9,36,37] [])],
 [(2,zK [0,12] []),(3,zK [0] []),(13,zK [0,4] []),(11,zK [0,4,5,6,15,16,31] []),(23,zK [0,4,7,8,9,36,37,60] [])],
 [],[]⟩
abbrev R38:=((Sl Int)×Int)
abbrev e38 (r:R38):List PA:=[.one (.sl r.1.len 1 (fun i=>zaq (r.1.get i))),.one (.int .i64 r.2)]
@[irreducible] def z38:=ptF Try.prog G38 zEZ Try.f38
def zCi (zaa:(Sl Gate)) (zdq:Int):St:=⟨[(0,zS enc_55 3 zaa),(4,zI (zaa.len:Int)),(15,zI (zaa.len:Int)),(16,zI zdq)],[],[]⟩
abbrev zBe (K:List PA→Prop) (zaa:(Sl Gate)) (X:St→Prop) (P:Int→Bool) (S:Int→((Sl Int)×Int)):Prop:=∀ ⦃zdq:Int⦄,P zdq=true→K (e38 (S zdq))→X (zCi zaa zdq)
def zCj (zaa:(Sl Gate)) (iv3:Int) (jv3:Int) (zea:Int):St:=⟨[(0,zS enc_55 3 zaa),(4,zI (zaa.len:Int)),(5,zI iv3),(6,zI jv3),(15,zI (zaa.len:Int)),(16,zI zea)],[],[]⟩
abbrev zE0 (K:List PA→Prop) (zaa:(Sl Gate)) (X:St→Prop) (P:Int→Int→Int→Bool) (S:Int→Int→Int→((Sl Int)×Int)):Prop:=∀ ⦃iv3:Int⦄ ⦃jv3:Int⦄ ⦃zea:Int⦄,P iv3 jv3 zea=true→K (e38 (S iv3 jv3 zea))→X (zCj zaa iv3 jv3 zea)
def zCk (zaa:(Sl Gate)) (zdr:Int):St:=⟨[(0,zS enc_55 3 zaa),(4,zI (zaa.len:Int)),(36,zI (zaa.len:Int)),(37,zI zdr)],[],[]⟩
abbrev zwM (K:List PA→Prop) (zaa:(Sl Gate)) (X:St→Prop) (P:Int→Bool) (S:Int→((Sl Int)×Int)):Prop:=∀ ⦃zdr:Int⦄,P zdr=true→K (e38 (S zdr))→X (zCk zaa zdr)
def zCl (zaa:(Sl Gate)) (iv7:Int) (jv7:Int) (zeb:Int):St:=⟨[(0,zS enc_55 3 zaa),(4,zI (zaa.len:Int)),(7,zI iv7),(8,zI jv7),(36,zI (zaa.len:Int)),(37,zI zeb)],[],[]⟩
abbrev zBf (K:List PA→Prop) (zaa:(Sl Gate)) (X:St→Prop) (P:Int→Int→Int→Bool) (S:Int→Int→Int→((Sl Int)×Int)):Prop:=∀ ⦃iv7:Int⦄ ⦃jv7:Int⦄ ⦃zeb:Int⦄,P iv7 jv7 zeb=true→K (e38 (S iv7 jv7 zeb))→X (zCl zaa iv7 jv7 zeb)
def zCm (zaa:(Sl Gate)) (iv8:Int) (jv8:Int) (kv8:Int) (zec:Int):St:=⟨[(0,zS enc_55 3 zaa),(4,zI (zaa.len:Int)),(7,zI iv8),(8,zI jv8),(9,zI kv8),(36,zI (zaa.len:Int)),(37,zI zec)],[],[]⟩
abbrev zE1 (K:List PA→Prop) (zaa:(Sl Gate)) (X:St→Prop) (P:Int→Int→Int→Int→Bool) (S:Int→Int→Int→Int→((Sl Int)×Int)):Prop:=∀ ⦃iv8:Int⦄ ⦃jv8:Int⦄ ⦃kv8:Int⦄ ⦃zec:Int⦄,P iv8 jv8 kv8 zec=true→K (e38 (S iv8 jv8 kv8 zec))→X (zCm zaa iv8 jv8 kv8 zec)
section
variable {K:List PA→Prop} {zaa:(Sl Gate)} {zaQ:Bool} {zdq:Int} {X2:St→Prop} {P2:Int→Bool} {S2:Int→((Sl Int)×Int)} {iv3:Int} {jv3:Int} {zea:Int} {X3:St→Prop} {P3:Int→Int→Int→Bool} {S3:Int→Int→Int→((Sl Int)×Int)} {iv5:Int} {jv5:Int} {zpJ:Int} {zpK:Bool} {zdr:Int} {X6:St→Prop} {P6:Int→Bool} {S6:Int→((Sl Int)×Int)} {iv7:Int} {jv7:Int} {zeb:Int} {X7:St→Prop} {P7:Int→Int→Int→Bool} {S7:Int→Int→Int→((Sl Int)×Int)} {iv8:Int} {jv8:Int} {kv8:Int} {zec:Int} {X8:St→Prop} {P8:Int→Int→Int→Int→Bool} {S8:Int→Int→Int→Int→((Sl Int)×Int)} {iv9:Int} {jv9:Int} {kv9:Int} {zpL:Int} {zpM:Bool}
def zwN (S6:Int→((Sl Int)×Int)) (S7:Int→Int→Int→((Sl Int)×Int)) (S8:Int→Int→Int→Int→((Sl Int)×Int)) (zaa:(Sl Gate)) (iv9:Int) (jv9:Int) (kv9:Int) (zpL:Int) (zpM:Bool):((Sl Int)×Int) :=
  (cond zpM
 ((⟨3,(zi1 iv9 [iv9,jv9,kv9])⟩:(Sl Int)),(0:Int))
 (S8 iv9 jv9 (w64 (kv9+(1:Int))) zpL))
def zwO (P6:Int→Bool) (P7:Int→Int→Int→Bool) (P8:Int→Int→Int→Int→Bool) (zaa:(Sl Gate)) (iv9:Int) (jv9:Int) (kv9:Int) (zpL:Int) (zpM:Bool):Bool :=
  (cond zpM
 true
 (P8 iv9 jv9 (w64 (kv9+(1:Int))) zpL))
theorem zE2 (hX6:zwM K zaa X6 P6 S6) (hX7:zBf K zaa X7 P7 S7) (hX8:zE1 K zaa X8 P8 S8) (hs:zwO P6 P7 P8 zaa iv9 jv9 kv9 zpL zpM=true) (hk:K (e38 (zwN S6 S7 S8 zaa iv9 jv9 kv9 zpL zpM))):z38 (Wk K) [1,1,1,1,0,1,0,0,1,1,0,0,1,1,0,0,1,0,0,1,0,0,1,0,0,1] [X6,X7,X8] ⟨[(0,zS enc_55 3 zaa),(4,zI (zaa.len:Int)),(7,zI iv9),(8,zI jv9),(9,zI kv9),(36,zI (zaa.len:Int)),(37,zI zpL),(60,zB zpM)],[],[]⟩:=zaD (by kernel_rfl) (zc hs hk (fun hs hk=>((zd5 (Eq.mpr (congrArg K (congrArg (fun (g_:Nat→List PV)=>([.one (.sl 3 1 g_),.one (.int .i64 (0:Int))]:List PA)) (zeq (enc:=zaq) (x:=iv9) (y:=jv9) (r:=[kv9])))) hk)):Wk K [.one (.sl 3 1 (zdi [(zaq iv9),(zaq jv9),(zaq kv9)])),.one (.int .i64 (0:Int))])) (fun hs hk=>(hX8 hs hk)))
def zwP (S6:Int→((Sl Int)×Int)) (S7:Int→Int→Int→((Sl Int)×Int)) (zaa:(Sl Gate)) (S8:Int→Int→Int→Int→((Sl Int)×Int)) (iv8:Int) (jv8:Int) (kv8:Int) (zec:Int):((Sl Int)×Int) :=
  (cond (decide (kv8 < (zaa.len : Int)))
 (zwN S6 S7 S8 zaa iv8 jv8 kv8 zec (!(s84 zaa (⟨3,zcT (zdi [(zaq iv8),(zaq jv8),(zaq kv8)])⟩:(Sl Int)))))
 (S7 iv8 (w64 (jv8+(1:Int))) zec))
def zwQ (P6:Int→Bool) (P7:Int→Int→Int→Bool) (zaa:(Sl Gate)) (P8:Int→Int→Int→Int→Bool) (iv8:Int) (jv8:Int) (kv8:Int) (zec:Int):Bool :=
  (cond (decide (kv8 < (zaa.len : Int)))
 (decide ((p84 zaa (⟨3,zcT (zdi [(zaq iv8),(zaq jv8),(zaq kv8)])⟩:(Sl Int))=true)) &&
 (zwO P6 P7 P8 zaa iv8 jv8 kv8 zec (!(s84 zaa (⟨3,zcT (zdi [(zaq iv8),(zaq jv8),(zaq kv8)])⟩:(Sl Int))))))
 (P7 iv8 (w64 (jv8+(1:Int))) zec))
def zwR (S6:Int→((Sl Int)×Int)) (S7:Int→Int→Int→((Sl Int)×Int)) (zaa:(Sl Gate)):Nat→Int→Int→Int→Int→((Sl Int)×Int):=lpO (fun _ _ _ _=>default) (zwP S6 S7 zaa)
def zwS (P6:Int→Bool) (P7:Int→Int→Int→Bool) (zaa:(Sl Gate)):Nat→Int→Int→Int→Int→Bool:=lpO (fun _ _ _ _=>false) (zwQ P6 P7 zaa)
def zwT (S6:Int→((Sl Int)×Int)) (S7:Int→Int→Int→((Sl Int)×Int)) (zaa:(Sl Gate)) (iv8:Int) (jv8:Int) (kv8:Int) (zec:Int):((Sl Int)×Int):=zwR S6 S7 zaa Fuel iv8 jv8 kv8 zec
def zwU (P6:Int→Bool) (P7:Int→Int→Int→Bool) (zaa:(Sl Gate)) (iv8:Int) (jv8:Int) (kv8:Int) (zec:Int):Bool:=zwS P6 P7 zaa Fuel iv8 jv8 kv8 zec
theorem zE3 (hX6:zwM K zaa X6 P6 S6) (hX7:zBf K zaa X7 P7 S7) (hs:zwU P6 P7 zaa iv8 jv8 kv8 zec=true) (hk:K (e38 (zwT S6 S7 zaa iv8 jv8 kv8 zec))):z38 (Wk K) [1,1,1,1,0,1,0,0,1,1,0,0,1,1,0,0,1,0,0,1,0] [X6,X7] (zCm zaa iv8 jv8 kv8 zec) :=
  zl (fun X=>z38 (Wk K) [1,1,1,1,0,1,0,0,1,1,0,0,1,1,0,0,1,0,0,1,0,0] [X6,X7,X]) (by kernel_rfl) fun X8 hX =>
  (show ∀ k, zE1 K zaa X8 (zwS P6 P7 zaa k) (zwR S6 S7 zaa k) from zer _ _ (zwQ P6 P7 zaa) (zwP S6 S7 zaa) (zE1 K zaa X8)
 (by intro _ _ _ _ hs;exact absurd hs Bool.false_ne_true)
 (by intro P8 S8 hX8 iv8 jv8 kv8 zec hs hk;exact hX _ (zaD (by kernel_rfl) (zc hs hk (fun hs hk=>(zay hs fun hc hs=>And.intro (And.intro (zE enc_55 3 zaa.get) (And.intro ((zfA [kv8]):IsE zaq 1 1 (zdi [(zaq iv8),(zaq jv8),(zaq kv8)])) hc)) (zE2 hX6 hX7 hX8 hs hk))) (fun hs hk=>(hX7 hs hk)))))) _ hs hk
def zwV (S6:Int→((Sl Int)×Int)) (zaa:(Sl Gate)) (S7:Int→Int→Int→((Sl Int)×Int)) (iv7:Int) (jv7:Int) (zeb:Int):((Sl Int)×Int) :=
  (cond (decide (jv7 < (zaa.len : Int)))
 (zwT S6 S7 zaa iv7 jv7 (w64 (jv7+(1:Int))) zeb)
 (S6 (w64 (zeb+(1:Int)))))
def zwW (P6:Int→Bool) (zaa:(Sl Gate)) (P7:Int→Int→Int→Bool) (iv7:Int) (jv7:Int) (zeb:Int):Bool :=
  (cond (decide (jv7 < (zaa.len : Int)))
 (zwU P6 P7 zaa iv7 jv7 (w64 (jv7+(1:Int))) zeb)
 (P6 (w64 (zeb+(1:Int)))))
def zwX (S6:Int→((Sl Int)×Int)) (zaa:(Sl Gate)):Nat→Int→Int→Int→((Sl Int)×Int):=lpO (fun _ _ _=>default) (zwV S6 zaa)
def zwY (P6:Int→Bool) (zaa:(Sl Gate)):Nat→Int→Int→Int→Bool:=lpO (fun _ _ _=>false) (zwW P6 zaa)
def zwZ (S6:Int→((Sl Int)×Int)) (zaa:(Sl Gate)) (iv7:Int) (jv7:Int) (zeb:Int):((Sl Int)×Int):=zwX S6 zaa Fuel iv7 jv7 zeb
def zw0 (P6:Int→Bool) (zaa:(Sl Gate)) (iv7:Int) (jv7:Int) (zeb:Int):Bool:=zwY P6 zaa Fuel iv7 jv7 zeb
theorem zE4 (hX6:zwM K zaa X6 P6 S6) (hs:zw0 P6 zaa iv7 jv7 zeb=true) (hk:K (e38 (zwZ S6 zaa iv7 jv7 zeb))):z38 (Wk K) [1,1,1,1,0,1,0,0,1,1,0,0,1,1,0] [X6] (zCl zaa iv7 jv7 zeb) :=
  zl (fun X=>z38 (Wk K) [1,1,1,1,0,1,0,0,1,1,0,0,1,1,0,0] [X6,X]) (by kernel_rfl) fun X7 hX =>
  (show ∀ k, zBf K zaa X7 (zwY P6 zaa k) (zwX S6 zaa k) from zer _ _ (zwW P6 zaa) (zwV S6 zaa) (zBf K zaa X7)
 (by intro _ _ _ hs;exact absurd hs Bool.false_ne_true)
 (by intro P7 S7 hX7 iv7 jv7 zeb hs hk;exact hX _ (zaD (by kernel_rfl) (zc hs hk (fun hs hk=>(zE3 hX6 hX7 hs hk)) (fun hs hk=>(hX6 hs hk)))))) _ hs hk
def zw1 (zaa:(Sl Gate)) (S6:Int→((Sl Int)×Int)) (zdr:Int):((Sl Int)×Int) :=
  (cond (decide (zdr < (zaa.len : Int)))
 (zwZ S6 zaa zdr (w64 (zdr+(1:Int))) zdr)
 ((⟨0,fun _=>default⟩:(Sl Int)),(7:Int)))
def zw2 (zaa:(Sl Gate)) (P6:Int→Bool) (zdr:Int):Bool :=
  (cond (decide (zdr < (zaa.len : Int)))
 (zw0 P6 zaa zdr (w64 (zdr+(1:Int))) zdr)
 true)
def zw3 (zaa:(Sl Gate)):Nat→Int→((Sl Int)×Int):=lpO (fun _=>default) (zw1 zaa)
def zw4 (zaa:(Sl Gate)):Nat→Int→Bool:=lpO (fun _=>false) (zw2 zaa)
def zw5 (zaa:(Sl Gate)) (zdr:Int):((Sl Int)×Int):=zw3 zaa Fuel zdr
def zw6 (zaa:(Sl Gate)) (zdr:Int):Bool:=zw4 zaa Fuel zdr
theorem zE5 (hs:zw6 zaa zdr=true) (hk:K (e38 (zw5 zaa zdr))):z38 (Wk K) [1,1,1,1,0,1,0] [] (zCk zaa zdr) :=
  zl (fun X=>z38 (Wk K) [1,1,1,1,0,1,0,0] [X]) (by kernel_rfl) fun X6 hX =>
  (show ∀ k, zwM K zaa X6 (zw4 zaa k) (zw3 zaa k) from zer _ _ (zw2 zaa) (zw1 zaa) (zwM K zaa X6)
 (by intro _ hs;exact absurd hs Bool.false_ne_true)
 (by intro P6 S6 hX6 zdr hs hk;exact hX _ (zaD (by kernel_rfl) (zc hs hk (fun hs hk=>(zE4 hX6 hs hk)) (fun hs hk=>((wk hk (zc7 (.one (.nil _ _)) (zc7 (.one (.rfl _)) zhm))):Wk K [.one (.nils),.one (.int .i64 (7:Int))])))))) _ hs hk
def zw7 (S2:Int→((Sl Int)×Int)) (S3:Int→Int→Int→((Sl Int)×Int)) (zaa:(Sl Gate)) (iv5:Int) (jv5:Int) (zpJ:Int) (zpK:Bool):((Sl Int)×Int) :=
  (cond zpK
 ((⟨2,(zi1 iv5 [iv5,jv5])⟩:(Sl Int)),(0:Int))
 (S3 iv5 (w64 (jv5+(1:Int))) zpJ))
def zw8 (P2:Int→Bool) (P3:Int→Int→Int→Bool) (zaa:(Sl Gate)) (iv5:Int) (jv5:Int) (zpJ:Int) (zpK:Bool):Bool :=
  (cond zpK
 true
 (P3 iv5 (w64 (jv5+(1:Int))) zpJ))
theorem zE6 (hX2:zBe K zaa X2 P2 S2) (hX3:zE0 K zaa X3 P3 S3) (hs:zw8 P2 P3 zaa iv5 jv5 zpJ zpK=true) (hk:K (e38 (zw7 S2 S3 zaa iv5 jv5 zpJ zpK))):z38 (Wk K) [1,1,1,0,1,0,0,1,1,0,0,1,1,0,0,1,0,0,1] [X2,X3] ⟨[(0,zS enc_55 3 zaa),(4,zI (zaa.len:Int)),(5,zI iv5),(6,zI jv5),(15,zI (zaa.len:Int)),(16,zI zpJ),(31,zB zpK)],[],[]⟩:=zaD (by kernel_rfl) (zc hs hk (fun hs hk=>((zd5 (Eq.mpr (congrArg K (congrArg (fun (g_:Nat→List PV)=>([.one (.sl 2 1 g_),.one (.int .i64 (0:Int))]:List PA)) (zeq (enc:=zaq) (x:=iv5) (y:=jv5) (r:=[])))) hk)):Wk K [.one (.sl 2 1 (zdi [(zaq iv5),(zaq jv5)])),.one (.int .i64 (0:Int))])) (fun hs hk=>(hX3 hs hk)))
def zw9 (zaa:(Sl Gate)):((Sl Int)×Int) :=
  (zw5 zaa (0:Int))
def zxa (zaa:(Sl Gate)):Bool :=
  (zw6 zaa (0:Int))
theorem zE7 (hs:zxa zaa=true) (hk:K (e38 (zw9 zaa))):z38 (Wk K) [1,1,1,1] [] ⟨[(0,zS enc_55 3 zaa),(4,zI (zaa.len:Int))],[],[]⟩:=zaD (by kernel_rfl) (zE5 hs hk)
def zxb (S2:Int→((Sl Int)×Int)) (zaa:(Sl Gate)) (S3:Int→Int→Int→((Sl Int)×Int)) (iv3:Int) (jv3:Int) (zea:Int):((Sl Int)×Int) :=
  (cond (decide (jv3 < (zaa.len : Int)))
 (zw7 S2 S3 zaa iv3 jv3 zea (!(s84 zaa (⟨2,zcT (zdi [(zaq iv3),(zaq jv3)])⟩:(Sl Int)))))
 (S2 (w64 (zea+(1:Int)))))
def zxc (P2:Int→Bool) (zaa:(Sl Gate)) (P3:Int→Int→Int→Bool) (iv3:Int) (jv3:Int) (zea:Int):Bool :=
  (cond (decide (jv3 < (zaa.len : Int)))
 (decide ((p84 zaa (⟨2,zcT (zdi [(zaq iv3),(zaq jv3)])⟩:(Sl Int))=true)) &&
 (zw8 P2 P3 zaa iv3 jv3 zea (!(s84 zaa (⟨2,zcT (zdi [(zaq iv3),(zaq jv3)])⟩:(Sl Int))))))
 (P2 (w64 (zea+(1:Int)))))
def zxd (S2:Int→((Sl Int)×Int)) (zaa:(Sl Gate)):Nat→Int→Int→Int→((Sl Int)×Int):=lpO (fun _ _ _=>default) (zxb S2 zaa)
def zxe (P2:Int→Bool) (zaa:(Sl Gate)):Nat→Int→Int→Int→Bool:=lpO (fun _ _ _=>false) (zxc P2 zaa)
def zxf (S2:Int→((Sl Int)×Int)) (zaa:(Sl Gate)) (iv3:Int) (jv3:Int) (zea:Int):((Sl Int)×Int):=zxd S2 zaa Fuel iv3 jv3 zea
def zxg (P2:Int→Bool) (zaa:(Sl Gate)) (iv3:Int) (jv3:Int) (zea:Int):Bool:=zxe P2 zaa Fuel iv3 jv3 zea
theorem zE8 (hX2:zBe K zaa X2 P2 S2) (hs:zxg P2 zaa iv3 jv3 zea=true) (hk:K (e38 (zxf S2 zaa iv3 jv3 zea))):z38 (Wk K) [1,1,1,0,1,0,0,1,1,0,0,1,1,0] [X2] (zCj zaa iv3 jv3 zea) :=
  zl (fun X=>z38 (Wk K) [1,1,1,0,1,0,0,1,1,0,0,1,1,0,0] [X2,X]) (by kernel_rfl) fun X3 hX =>
  (show ∀ k, zE0 K zaa X3 (zxe P2 zaa k) (zxd S2 zaa k) from zer _ _ (zxc P2 zaa) (zxb S2 zaa) (zE0 K zaa X3)
 (by intro _ _ _ hs;exact absurd hs Bool.false_ne_true)
 (by intro P3 S3 hX3 iv3 jv3 zea hs hk;exact hX _ (zaD (by kernel_rfl) (zc hs hk (fun hs hk=>(zay hs fun hc hs=>And.intro (And.intro (zE enc_55 3 zaa.get) (And.intro ((zfA []):IsE zaq 1 1 (zdi [(zaq iv3),(zaq jv3)])) hc)) (zE6 hX2 hX3 hs hk))) (fun hs hk=>(hX2 hs hk)))))) _ hs hk
def zxh (zaa:(Sl Gate)) (S2:Int→((Sl Int)×Int)) (zdq:Int):((Sl Int)×Int) :=
  (cond (decide (zdq < (zaa.len : Int)))
 (zxf S2 zaa zdq (w64 (zdq+(1:Int))) zdq)
 (zw9 zaa))
def zxi (zaa:(Sl Gate)) (P2:Int→Bool) (zdq:Int):Bool :=
  (cond (decide (zdq < (zaa.len : Int)))
 (zxg P2 zaa zdq (w64 (zdq+(1:Int))) zdq)
 (zxa zaa))
def zxj (zaa:(Sl Gate)):Nat→Int→((Sl Int)×Int):=lpO (fun _=>default) (zxh zaa)
def zxk (zaa:(Sl Gate)):Nat→Int→Bool:=lpO (fun _=>false) (zxi zaa)
def zxl (zaa:(Sl Gate)) (zdq:Int):((Sl Int)×Int):=zxj zaa Fuel zdq
def zxm (zaa:(Sl Gate)) (zdq:Int):Bool:=zxk zaa Fuel zdq
theorem zE9 (hs:zxm zaa zdq=true) (hk:K (e38 (zxl zaa zdq))):z38 (Wk K) [1,1,1,0,1,0] [] (zCi zaa zdq) :=
  zl (fun X=>z38 (Wk K) [1,1,1,0,1,0,0] [X]) (by kernel_rfl) fun X2 hX =>
  (show ∀ k, zBe K zaa X2 (zxk zaa k) (zxj zaa k) from zer _ _ (zxi zaa) (zxh zaa) (zBe K zaa X2)
 (by intro _ hs;exact absurd hs Bool.false_ne_true)
 (by intro P2 S2 hX2 zdq hs hk;exact hX _ (zaD (by kernel_rfl) (zc hs hk (fun hs hk=>(zE8 hX2 hs hk)) (fun hs hk=>(zE7 hs hk)))))) _ hs hk
def zxn (zaa:(Sl Gate)):((Sl Int)×Int) :=
  (zxl zaa (0:Int))
def zxo (zaa:(Sl Gate)):Bool :=
  (zxm zaa (0:Int))
theorem zFa (hs:zxo zaa=true) (hk:K (e38 (zxn zaa))):z38 (Wk K) [1,1] [] ⟨[(0,zS enc_55 3 zaa)],[],[]⟩:=zaD (by kernel_rfl) (zE9 hs hk)
def zxp (zaa:(Sl Gate)) (zaQ:Bool):((Sl Int)×Int) :=
  (cond zaQ
 ((⟨0,fun _=>default⟩:(Sl Int)),(2:Int))
 (zxn zaa))
def zxq (zaa:(Sl Gate)) (zaQ:Bool):Bool :=
  (cond zaQ
 true
 (zxo zaa))
theorem zFb (hs:zxq zaa zaQ=true) (hk:K (e38 (zxp zaa zaQ))):z38 (Wk K) [1,0,1] [] ⟨[(0,zS enc_55 3 zaa),(12,zB zaQ)],[],[]⟩:=zaD (by kernel_rfl) (zc hs hk (fun hs hk=>((wk hk (zc7 (.one (.nil _ _)) (zc7 (.one (.rfl _)) zhm))):Wk K [.one (.nils),.one (.int .i64 (2:Int))])) (fun hs hk=>(zFa hs hk)))
def s38 (zaa:(Sl Gate)):((Sl Int)×Int) :=
  (zxp zaa (!(s64 zaa)))
def p38 (zaa:(Sl Gate)):Bool :=
  (decide ((p64 zaa=true)) &&
 (zxq zaa (!(s64 zaa))))
end
theorem q38 (zaa:(Sl Gate)) (K:List PA→Prop) (hs:p38 zaa=true) (hk:K (e38 (s38 zaa))):vcFun Try.prog G38 zEZ 38 [.one (.sl zaa.len 3 (fun i=>enc_55 (zaa.get i)))] (Wk K) :=
  zaD (by kernel_rfl) (zay hs fun hc hs=>And.intro (And.intro (zE enc_55 3 zaa.get) hc) (zFb hs hk))
def zFc : List PA → COut
  | [.one (.sl a0_n a0_s a0_g)]=>.det (IsE enc_55 3 a0_s a0_g∧p38 (⟨a0_n,zae a0_g⟩:(Sl Gate))=true) [.one (.sl (((s38 (⟨a0_n,zae a0_g⟩:(Sl Gate))).1).len) 1 (fun i=>zaq (((s38 (⟨a0_n,zae a0_g⟩:(Sl Gate))).1).get i))),.one (.int .i64 ((s38 (⟨a0_n,zae a0_g⟩:(Sl Gate))).2))]
  | _=>.no
theorem zJk:zaf Try.prog 38:=⟨_,rfl,rfl,by kernel_rfl⟩
theorem zO4:Ok Try.prog 38 zFc:=zhn zMd zJk fun args K h=>by
  unfold zFc at h
  split at h
  · rename_i a0_n a0_s a0_g
    obtain ⟨⟨⟨rfl,a0_f,rfl⟩,hs⟩,hk⟩:=h
    try rw [zac a0_f] at hs
    try rw [zac a0_f] at hk
    exact ⟨_,ze0 zf0 _,(fun _ _=>[]),(fun _=>false),zEZ,q38 (⟨a0_n,a0_f⟩:(Sl Gate)) K hs hk⟩
  · exact h.elim
abbrev T39:Tabs:=Tabs.nil
theorem zMe:TabsOk Try.prog T39:=TabsOk.nil
abbrev G39:Ctrs:=csm T39 (fun _ _=>[]) (fun _=>false)
def zFd:Ann:=⟨46,[(0,zK [0,1] []),(1,zK [0,1,5] []),(2,zK [0,1,5,15] []),(3,zK [0,1,5] []),(4,zK [0,1,5,26] []),(5,zK [4] []),(6,zK [0,1,5,35] []),(7,zK [4] []),(8,zK [0,1,40] []),(9,zK [4] []),(10,zK [45] []),(11,zK [4] []),(12,zK [4] [])],
 [(2,zK [0,1,5] [])],
 [(8,zK [0,1] [])],
 [],[]⟩
abbrev R39:=Int
abbrev e39 (r:R39):List PA:=[.one (.int .i64 r)]
@[irreducible] def z39:=ptF Try.prog G39 zFd Try.f39
def zCn (a:(Sl Int)) (b:(Sl Int)) (iv0:Int):St:=⟨[(0,zS zaq 1 a),(1,zS zaq 1 b),(5,zI iv0)],[],[]⟩
abbrev zJl (K:List PA→Prop) (a:(Sl Int)) (b:(Sl Int)) (X:St→Prop) (P:Int→Bool) (S:Int→Int):Prop:=∀ ⦃iv0:Int⦄,P iv0=true→K (e39 (S iv0))→X (zCn a b iv0)
section
variable {K:List PA→Prop} {a:(Sl Int)} {b:(Sl Int)} {iv0:Int} {X0:St→Prop} {P0:Int→Bool} {S0:Int→Int}
def zpN (a:(Sl Int)) (b:(Sl Int)):Int :=
  (cond (decide ((a.len : Int) < (b.len : Int)))
 (-1:Int)
 (cond (decide ((a.len : Int) > (b.len : Int)))
 (1:Int)
 (0:Int)))
theorem zxr (hk:K (e39 (zpN a b))):z39 K [1,1] [] ⟨[(0,zS zaq 1 a),(1,zS zaq 1 b)],[],[]⟩:=zaD (by kernel_rfl) (zt hk (fun hk=>hk) (fun hk=>(zt hk (fun hk=>hk) (fun hk=>hk))))
def zxs (a:(Sl Int)) (b:(Sl Int)) (S0:Int→Int) (iv0:Int):Int :=
  (cond (decide (iv0 < (a.len : Int)))
 (cond (decide (iv0 < (b.len : Int)))
 (cond (decide ((a.get iv0.toNat) < (b.get iv0.toNat)))
 (-1:Int)
 (cond (decide ((a.get iv0.toNat) > (b.get iv0.toNat)))
 (1:Int)
 (S0 (w64 (iv0+(1:Int))))))
 (zpN a b))
 (zpN a b))
def zxt (a:(Sl Int)) (b:(Sl Int)) (P0:Int→Bool) (iv0:Int):Bool :=
  (cond (decide (iv0 < (a.len : Int)))
 (cond (decide (iv0 < (b.len : Int)))
 (decide ((0≤iv0∧iv0 < (a.len:Int))) &&
 (decide ((0≤iv0∧iv0 < (b.len:Int))) &&
 (cond (decide ((a.get iv0.toNat) < (b.get iv0.toNat)))
 true
 (decide ((0≤iv0∧iv0 < (a.len:Int))) &&
 (decide ((0≤iv0∧iv0 < (b.len:Int))) &&
 (cond (decide ((a.get iv0.toNat) > (b.get iv0.toNat)))
 true
 (P0 (w64 (iv0+(1:Int))))))))))
 true)
 true)
def zxu (a:(Sl Int)) (b:(Sl Int)):Nat→Int→Int:=lpO (fun _=>default) (zxs a b)
def zxv (a:(Sl Int)) (b:(Sl Int)):Nat→Int→Bool:=lpO (fun _=>false) (zxt a b)
def zxw (a:(Sl Int)) (b:(Sl Int)) (iv0:Int):Int:=zxu a b Fuel iv0
def zxx (a:(Sl Int)) (b:(Sl Int)) (iv0:Int):Bool:=zxv a b Fuel iv0
theorem zFe (hs:zxx a b iv0=true) (hk:K (e39 (zxw a b iv0))):z39 K [1,0,1,0] [] (zCn a b iv0) :=
  zl (fun X=>z39 K [1,0,1,0,0] [X]) (by kernel_rfl) fun X0 hX =>
  (show ∀ k, zJl K a b X0 (zxv a b k) (zxu a b k) from zer _ _ (zxt a b) (zxs a b) (zJl K a b X0)
 (by intro _ hs;exact absurd hs Bool.false_ne_true)
 (by intro P0 S0 hX0 iv0 hs hk;exact hX _ (zaD (by kernel_rfl) (zc hs hk (fun hs hk=>(zc hs hk (fun hs hk=>(zay hs fun hc hs=>And.intro hc (zay hs fun hc hs=>And.intro hc (zc hs hk (fun hs hk=>hk) (fun hs hk=>(zay hs fun hc hs=>And.intro hc (zay hs fun hc hs=>And.intro hc (zc hs hk (fun hs hk=>hk) (fun hs hk=>(hX0 hs hk)))))))))) (fun hs hk=>(zxr hk)))) (fun hs hk=>(zxr hk)))))) _ hs hk
def s39 (a:(Sl Int)) (b:(Sl Int)):Int :=
  (zxw a b (0:Int))
def p39 (a:(Sl Int)) (b:(Sl Int)):Bool :=
  (zxx a b (0:Int))
end
theorem q39 (a:(Sl Int)) (b:(Sl Int)) (K:List PA→Prop) (hs:p39 a b=true) (hk:K (e39 (s39 a b))):vcFun Try.prog G39 zFd 39 [.one (.sl a.len 1 (fun i=>zaq (a.get i))),.one (.sl b.len 1 (fun i=>zaq (b.get i)))] K :=
  zaD (by kernel_rfl) (zFe hs hk)
def zFf : List PA → COut
  | [.one (.sl a0_n a0_s a0_g),.one (.sl a1_n a1_s a1_g)]=>.det (IsE zaq 1 a0_s a0_g∧IsE zaq 1 a1_s a1_g∧p39 (⟨a0_n,zcT a0_g⟩:(Sl Int)) (⟨a1_n,zcT a1_g⟩:(Sl Int))=true) [.one (.int .i64 (s39 (⟨a0_n,zcT a0_g⟩:(Sl Int)) (⟨a1_n,zcT a1_g⟩:(Sl Int))))]
  | _=>.no
theorem zJm:zaf Try.prog 39:=⟨_,rfl,rfl,by kernel_rfl⟩
theorem zO5:Ok Try.prog 39 zFf:=zaF zMe zJm fun args K h=>by
  unfold zFf at h
  split at h
  · rename_i a0_n a0_s a0_g a1_n a1_s a1_g
    obtain ⟨⟨⟨rfl,a0_f,rfl⟩,⟨rfl,a1_f,rfl⟩,hs⟩,hk⟩:=h
    try rw [zdv a0_f] at hs
    try rw [zdv a0_f] at hk
    try rw [zdv a1_f] at hs
    try rw [zdv a1_f] at hk
    exact ⟨(fun _ _=>[]),(fun _=>false),zFd,q39 (⟨a0_n,a0_f⟩:(Sl Int)) (⟨a1_n,a1_f⟩:(Sl Int)) K hs hk⟩
  · exact h.elim
abbrev T73:Tabs:=Tabs.nil
theorem zMf:TabsOk Try.prog T73:=TabsOk.nil
abbrev G73:Ctrs:=csm T73 (fun _ _=>[]) (fun _=>false)
def zFg:Ann:=⟨12,[(0,zK [0,1] []),(1,zK [0,1,6] []),(2,zK [0,1] []),(3,zK [4] [])],
 [(1,zK [0,1] [])],
 [],
 [],[]⟩
abbrev R73:=Int
abbrev e73 (r:R73):List PA:=[.one (.int .i64 r)]
@[irreducible] def z73:=ptF Try.prog G73 zFg Try.f73
def zCo (av0:Int) (bv0:Int):St:=⟨[(0,zI av0),(1,zI bv0)],[],[]⟩
abbrev zJn (K:List PA→Prop) (X:St→Prop) (P:Int→Int→Bool) (S:Int→Int→Int):Prop:=∀ ⦃av0:Int⦄ ⦃bv0:Int⦄,P av0 bv0=true→K (e73 (S av0 bv0))→X (zCo av0 bv0)
section
variable {K:List PA→Prop} {a:Int} {b:Int} {av0:Int} {bv0:Int} {X0:St→Prop} {P0:Int→Int→Bool} {S0:Int→Int→Int}
def zmo (S0:Int→Int→Int) (av0:Int) (bv0:Int):Int :=
  (cond (bv0 != (0:Int))
 (S0 bv0 (av0.tmod bv0))
 av0)
def zmp (P0:Int→Int→Bool) (av0:Int) (bv0:Int):Bool :=
  (cond (bv0 != (0:Int))
 (decide ((bv0 ≠ 0)) &&
 (P0 bv0 (av0.tmod bv0)))
 true)
def zmq:Nat→Int→Int→Int:=lpO (fun _ _=>default) (zmo)
def zmr:Nat→Int→Int→Bool:=lpO (fun _ _=>false) (zmp)
def zxy (av0:Int) (bv0:Int):Int:=zmq Fuel av0 bv0
def zxz (av0:Int) (bv0:Int):Bool:=zmr Fuel av0 bv0
theorem zFh (hs:zxz av0 bv0=true) (hk:K (e73 (zxy av0 bv0))):z73 K [1,0,0] [] (zCo av0 bv0) :=
  zl (fun X=>z73 K [1,0,0,0] [X]) (by kernel_rfl) fun X0 hX =>
  (show ∀ k, zJn K X0 (zmr k) (zmq k) from zer _ _ (zmp) (zmo) (zJn K X0)
 (by intro _ _ hs;exact absurd hs Bool.false_ne_true)
 (by intro P0 S0 hX0 av0 bv0 hs hk;exact hX _ (zaD (by kernel_rfl) (zc hs hk (fun hs hk=>(zay hs fun hc hs=>And.intro hc (hX0 hs hk))) (fun hs hk=>hk))))) _ hs hk
def s73 (a:Int) (b:Int):Int :=
  (zxy a b)
def p73 (a:Int) (b:Int):Bool :=
  (zxz a b)
end
theorem q73 (a:Int) (b:Int) (K:List PA→Prop) (hs:p73 a b=true) (hk:K (e73 (s73 a b))):vcFun Try.prog G73 zFg 73 [.one (.int .i64 a),.one (.int .i64 b)] K :=
  zaD (by kernel_rfl) (zFh hs hk)
def zBg : List PA → COut
  | [.one (.int .i64 a0),.one (.int .i64 a1)]=>.det (p73 a0 a1=true) [.one (.int .i64 (s73 a0 a1))]
  | _=>.no
theorem zJo:zaf Try.prog 73:=⟨_,rfl,rfl,by kernel_rfl⟩
theorem zNx:Ok Try.prog 73 zBg:=zaF zMf zJo fun args K h=>by
  unfold zBg at h
  split at h
  · rename_i a0 a1
    obtain ⟨hs,hk⟩:=h
    exact ⟨(fun _ _=>[]),(fun _=>false),zFg,q73 a0 a1 K hs hk⟩
  · exact h.elim
abbrev T40:Tabs:=(Tabs.nil.addF 73 zBg)
theorem zMg:TabsOk Try.prog T40:=(TabsOk.nil.addF zNx)
abbrev G40:Ctrs:=csm T40 (fun _ _=>[]) (fun _=>false)
def zJp:Ann:=⟨19,[(0,zK [0,1,4] [4]),(1,zK [0,1,4,5] [4]),(2,zK [4] [4])],
 [],
 [],
 [],[]⟩
abbrev R40:=Frac
abbrev e40 (r:R40):List PA:=[.agg [.int .i64 r.Num,.int .i64 r.Den]]
section
variable {K:List PA→Prop} {num:Int} {den:Int}
def s40 (num:Int) (den:Int):Frac :=
  (⟨(w64 (num.tdiv (s73 (if (w64 (0 - num)) > num then (w64 (0 - num)) else num) den))),(w64 (den.tdiv (s73 (if (w64 (0 - num)) > num then (w64 (0 - num)) else num) den)))⟩:Frac)
def p40 (num:Int) (den:Int):Bool :=
  (decide ((p73 (if (w64 (0 - num)) > num then (w64 (0 - num)) else num) den=true)) &&
 (decide (((s73 (if (w64 (0 - num)) > num then (w64 (0 - num)) else num) den) ≠ 0)) &&
 (decide (((s73 (if (w64 (0 - num)) > num then (w64 (0 - num)) else num) den) ≠ 0)) &&
 true)))
end
theorem q40 (num:Int) (den:Int) (K:List PA→Prop) (hs:p40 num den=true) (hk:K (e40 (s40 num den))):vcFun Try.prog G40 zJp 40 [.one (.int .i64 num),.one (.int .i64 den)] K :=
  zaD (by kernel_rfl) (zay hs fun hc hs=>And.intro hc (zay hs fun hc hs=>And.intro hc (zay hs fun hc hs=>And.intro hc hk)))
def ztF : List PA → COut
  | [.one (.int .i64 a0),.one (.int .i64 a1)]=>.det (p40 a0 a1=true) [.agg [.int .i64 ((s40 a0 a1).Num),.int .i64 ((s40 a0 a1).Den)]]
  | _=>.no
theorem zJq:zaf Try.prog 40:=⟨_,rfl,rfl,by kernel_rfl⟩
theorem zK3:Ok Try.prog 40 ztF:=zaF zMg zJq fun args K h=>by
  unfold ztF at h
  split at h
  · rename_i a0 a1
    obtain ⟨hs,hk⟩:=h
    exact ⟨(fun _ _=>[]),(fun _=>false),zJp,q40 a0 a1 K hs hk⟩
  · exact h.elim
abbrev T85:Tabs:=Tabs.nil
theorem zMh:TabsOk Try.prog T85:=TabsOk.nil
abbrev G85:Ctrs:=csm T85 (fun _ _=>[]) (fun _=>false)
def zJr:Ann:=⟨47,[(0,zK [0,1,2,3,4,5] []),(1,zK [0,1,2,13] []),(2,zK [13,14] []),(3,zK [12] [])],
 [],
 [],
 [],[]⟩
abbrev R85:=Int
abbrev e85 (r:R85):List PA:=[.one (.int .i64 r)]
section
variable {K:List PA→Prop} {u:Int} {v:Int} {w:Int} {p:Int} {q:Int} {r_a5:Int}
def s85 (u:Int) (v:Int) (w:Int) (p:Int) (q:Int) (r_a5:Int):Int :=
  (w64 ((w64 ((w64 ((w64 ((1000:Int) * (if (w64 (0 - (w64 ((w64 ((w64 (r_a5 - q)) * (w64 (v - u)))) - (w64 ((w64 (q - p)) * (w64 (w - v)))))))) > (w64 ((w64 ((w64 (r_a5 - q)) * (w64 (v - u)))) - (w64 ((w64 (q - p)) * (w64 (w - v)))))) then (w64 (0 - (w64 ((w64 ((w64 (r_a5 - q)) * (w64 (v - u)))) - (w64 ((w64 (q - p)) * (w64 (w - v)))))))) else (w64 ((w64 ((w64 (r_a5 - q)) * (w64 (v - u)))) - (w64 ((w64 (q - p)) * (w64 (w - v)))))))))+(w64 ((w64 (v - u)) * (w64 (w - v)))))) - (1:Int))).tdiv (w64 ((w64 (v - u)) * (w64 (w - v))))))
def p85 (u:Int) (v:Int) (w:Int) (p:Int) (q:Int) (r_a5:Int):Bool :=
  (decide (((w64 ((w64 (v - u)) * (w64 (w - v)))) ≠ 0)) &&
 true)
end
theorem q85 (u:Int) (v:Int) (w:Int) (p:Int) (q:Int) (r_a5:Int) (K:List PA→Prop) (hs:p85 u v w p q r_a5=true) (hk:K (e85 (s85 u v w p q r_a5))):vcFun Try.prog G85 zJr 85 [.one (.int .i64 u),.one (.int .i64 v),.one (.int .i64 w),.one (.int .i64 p),.one (.int .i64 q),.one (.int .i64 r_a5)] K :=
  zaD (by kernel_rfl) (zay hs fun hc hs=>And.intro hc hk)
def zBh : List PA → COut
  | [.one (.int .i64 a0),.one (.int .i64 a1),.one (.int .i64 a2),.one (.int .i64 a3),.one (.int .i64 a4),.one (.int .i64 a5)]=>.det (p85 a0 a1 a2 a3 a4 a5=true) [.one (.int .i64 (s85 a0 a1 a2 a3 a4 a5))]
  | _=>.no
theorem zJs:zaf Try.prog 85:=⟨_,rfl,rfl,by kernel_rfl⟩
theorem zNy:Ok Try.prog 85 zBh:=zaF zMh zJs fun args K h=>by
  unfold zBh at h
  split at h
  · rename_i a0 a1 a2 a3 a4 a5
    obtain ⟨hs,hk⟩:=h
    exact ⟨(fun _ _=>[]),(fun _=>false),zJr,q85 a0 a1 a2 a3 a4 a5 K hs hk⟩
  · exact h.elim
abbrev T92:Tabs:=((Tabs.nil.addF 64 ztC).addF 74 zoY)
theorem zMi:TabsOk Try.prog T92:=((TabsOk.nil.addF zKY).addF zIa)
abbrev G92:Ctrs:=csm T92 (fun _ _=>[]) (fun _=>false)
def zFi:Ann:=⟨41,[(0,zK [0] []),(1,zK [0,5,6,7] []),(2,zK [0,5,6,7,8] []),(3,zK [0,3,4,5,6,7] [4]),(4,zK [0,5,6,7,32] []),(5,zK [2] []),(6,zK [0,5,6,7] []),(7,zK [2] [])],
 [(2,zK [0,5,6,7] [])],
 [],
 [],[]⟩
abbrev R92:=Bool
abbrev e92 (r:R92):List PA:=[.one (.bool r)]
@[irreducible] def z92:=ptF Try.prog G92 zFi Try.f92
def zCp (zaa:(Sl Gate)) (za3:Int):St:=⟨[(0,zS enc_55 3 zaa),(5,zS enc_55 3 zaa),(6,zI (zaa.len:Int)),(7,zI za3)],[],[]⟩
abbrev zJt (K:List PA→Prop) (zaa:(Sl Gate)) (X:St→Prop) (P:Int→Bool) (S:Int→Bool):Prop:=∀ ⦃za3:Int⦄,P za3=true→K (e92 (S za3))→X (zCp zaa za3)
section
variable {K:List PA→Prop} {zaa:(Sl Gate)} {za3:Int} {X0:St→Prop} {P0:Int→Bool} {S0:Int→Bool}
def zxA (zaa:(Sl Gate)) (S0:Int→Bool) (za3:Int):Bool :=
  (cond (decide (za3 < (zaa.len : Int)))
 (cond (decide ((w64 ((zaa.get za3.toNat).High - (zaa.get za3.toNat).Low)) > (60:Int)))
 false
 (cond (decide (za3 > (0:Int)))
 (cond (decide ((zaa.get za3.toNat).Z ≤ (zaa.get ((w64 (za3 - (1:Int))).toNat)).Z))
 false
 (S0 (w64 (za3+(1:Int)))))
 (S0 (w64 (za3+(1:Int))))))
 (cond (s74 (zaa.len : Int) (2:Int) (8:Int))
 (s64 zaa)
 false))
def zxB (zaa:(Sl Gate)) (P0:Int→Bool) (za3:Int):Bool :=
  (cond (decide (za3 < (zaa.len : Int)))
 (decide ((0≤za3∧za3 < (zaa.len:Int))) &&
 (cond (decide ((w64 ((zaa.get za3.toNat).High - (zaa.get za3.toNat).Low)) > (60:Int)))
 true
 (cond (decide (za3 > (0:Int)))
 (decide ((0≤(w64 (za3 - (1:Int)))∧(w64 (za3 - (1:Int))) < (zaa.len:Int))) &&
 (cond (decide ((zaa.get za3.toNat).Z ≤ (zaa.get ((w64 (za3 - (1:Int))).toNat)).Z))
 true
 (P0 (w64 (za3+(1:Int))))))
 (P0 (w64 (za3+(1:Int)))))))
 (cond (s74 (zaa.len : Int) (2:Int) (8:Int))
 (decide ((p64 zaa=true)) &&
 true)
 true))
def zxC (zaa:(Sl Gate)):Nat→Int→Bool:=lpO (fun _=>default) (zxA zaa)
def zxD (zaa:(Sl Gate)):Nat→Int→Bool:=lpO (fun _=>false) (zxB zaa)
def zxE (zaa:(Sl Gate)) (za3:Int):Bool:=zxC zaa Fuel za3
def zxF (zaa:(Sl Gate)) (za3:Int):Bool:=zxD zaa Fuel za3
theorem zFj (hs:zxF zaa za3=true) (hk:K (e92 (zxE zaa za3))):z92 K [1,0,1,0] [] (zCp zaa za3) :=
  zl (fun X=>z92 K [1,0,1,0,0] [X]) (by kernel_rfl) fun X0 hX =>
  (show ∀ k, zJt K zaa X0 (zxD zaa k) (zxC zaa k) from zer _ _ (zxB zaa) (zxA zaa) (zJt K zaa X0)
 (by intro _ hs;exact absurd hs Bool.false_ne_true)
 (by intro P0 S0 hX0 za3 hs hk;exact hX _ (zaD (by kernel_rfl) (zc hs hk (fun hs hk=>(zay hs fun hc hs=>And.intro hc (zc hs hk (fun hs hk=>hk) (fun hs hk=>(zc hs hk (fun hs hk=>(zay hs fun hc hs=>And.intro hc (zc hs hk (fun hs hk=>hk) (fun hs hk=>(hX0 hs hk))))) (fun hs hk=>(hX0 hs hk))))))) (fun hs hk=>(zc hs hk (fun hs hk=>(zay hs fun hc hs=>And.intro (And.intro (zE enc_55 3 zaa.get) hc) hk)) (fun hs hk=>hk))))))) _ hs hk
def s92 (zaa:(Sl Gate)):Bool :=
  (zxE zaa (0:Int))
def p92 (zaa:(Sl Gate)):Bool :=
  (zxF zaa (0:Int))
end
theorem q92 (zaa:(Sl Gate)) (K:List PA→Prop) (hs:p92 zaa=true) (hk:K (e92 (s92 zaa))):vcFun Try.prog G92 zFi 92 [.one (.sl zaa.len 3 (fun i=>enc_55 (zaa.get i)))] K :=
  zaD (by kernel_rfl) (zFj hs hk)
def zFk : List PA → COut
  | [.one (.sl a0_n a0_s a0_g)]=>.det (IsE enc_55 3 a0_s a0_g∧p92 (⟨a0_n,zae a0_g⟩:(Sl Gate))=true) [.one (.bool (s92 (⟨a0_n,zae a0_g⟩:(Sl Gate))))]
  | _=>.no
theorem zJu:zaf Try.prog 92:=⟨_,rfl,rfl,by kernel_rfl⟩
theorem zO6:Ok Try.prog 92 zFk:=zaF zMi zJu fun args K h=>by
  unfold zFk at h
  split at h
  · rename_i a0_n a0_s a0_g
    obtain ⟨⟨⟨rfl,a0_f,rfl⟩,hs⟩,hk⟩:=h
    try rw [zac a0_f] at hs
    try rw [zac a0_f] at hk
    exact ⟨(fun _ _=>[]),(fun _=>false),zFi,q92 (⟨a0_n,a0_f⟩:(Sl Gate)) K hs hk⟩
  · exact h.elim
abbrev T93:Tabs:=(Tabs.nil.addF 85 zBh)
theorem zMj:TabsOk Try.prog T93:=(TabsOk.nil.addF zNy)
abbrev G93:Ctrs:=csm T93 (fun _ _=>[]) (fun l=>Nat.beq l 15 || Nat.beq l 24)
def zFl:Ann:=⟨131,[(0,zK [0] []),(1,zK [0,3] []),(2,zK [0,3,4] [15]),(3,zK [0,3,4,5] [15]),(4,zK [0,3,4,5,19] [15]),(5,zK [0,3,4,5] [15]),(6,zK [0,3,4,5] [15]),(7,zK [0,3,4,5,6] [15]),(8,zK [0,3,4,5,6,37] [15]),(9,zK [0,3,4,5,6] [15]),(10,zK [0,3,4,5,6,7] [15]),(11,zK [0,3,4,5,6,7,53] [15]),(12,zK [0,3,4,5,6,7] [15]),(13,zK [0,3,4,5,6,7,59] [15]),(14,zK [0,3,4,5,6,7] [15]),(15,zK [0,3,4,5,6,7,8] [15]),(16,zK [0,3,4,5,6,7,8,9] [15]),(17,zK [0,3,4,5,6,7,8,9,80] [15]),(18,zK [0,3,4,5,6,7,8,9] [15]),(19,zK [0,3,4,5,6,7,8,9,10] [15]),(20,zK [0,3,4,5,6,7,8,9,10,120] [15]),(21,zK [0,3,4,5,6,7,8,9] [15]),(22,zK [0,3,4,5,6,7] [15]),(23,zK [2] [15])],
 [(4,zK [0,3,4,5] [15]),(8,zK [0,3,4,5,6] [15]),(11,zK [0,3,4,5,6,7] [15]),(17,zK [0,3,4,5,6,7,8,9] [15])],
 [(15,zK [0,3,4,5,6,7] [15]),(20,zK [0,3,4,5,6,7,8,9,10] [15])],
 [],[]⟩
abbrev R93:=(Sl Mp)
abbrev e93 (r:R93):List PA:=[.one (.sl r.len 1 (fun i=>zcG (r.get i)))]
@[irreducible] def z93:=ptF Try.prog G93 zFl Try.f93
def zCq (zaa:(Sl Gate)) (iv0:Int) (zbJ:Nat) (zbA:(Nat→Bool)) (zbB:(Nat→Nat)) (zbY:(Nat→List Int→Option (List Int))):St:=⟨[(0,zS enc_55 3 zaa),(3,zI (zaa.len:Int)),(4,zv 15),(5,zI iv0)],[(15,.vm 129 8 131 3 (true,2,false,[some .i64]) zbJ zbA zbB zbY)],[]⟩
abbrev zpO (K:List PA→Prop) (zaa:(Sl Gate)) (X:St→Prop) (P:Int→Nat→(Nat→Bool)→(Nat→Nat)→(Nat→List Int→Option (List Int))→Bool) (S:Int→Nat→(Nat→Bool)→(Nat→Nat)→(Nat→List Int→Option (List Int))→(Sl Mp)):Prop:=∀ ⦃iv0:Int⦄ ⦃zbJ:Nat⦄ ⦃zbA:(Nat→Bool)⦄ ⦃zbB:(Nat→Nat)⦄ ⦃zbY:(Nat→List Int→Option (List Int))⦄,P iv0 zbJ zbA zbB zbY=true→K (e93 (S iv0 zbJ zbA zbB zbY))→X (zCq zaa iv0 zbJ zbA zbB zbY)
def zCr (zaa:(Sl Gate)) (iv1:Int) (pv1:Int) (zbQ:Nat) (zbt:(Nat→Bool)) (zbu:(Nat→Nat)) (zbR:(Nat→List Int→Option (List Int))):St:=⟨[(0,zS enc_55 3 zaa),(3,zI (zaa.len:Int)),(4,zv 15),(5,zI iv1),(6,zI pv1)],[(15,.vm 129 8 131 3 (true,2,false,[some .i64]) zbQ zbt zbu zbR)],[]⟩
abbrev ztG (K:List PA→Prop) (zaa:(Sl Gate)) (X:St→Prop) (P:Int→Int→Nat→(Nat→Bool)→(Nat→Nat)→(Nat→List Int→Option (List Int))→Bool) (S:Int→Int→Nat→(Nat→Bool)→(Nat→Nat)→(Nat→List Int→Option (List Int))→(Sl Mp)):Prop:=∀ ⦃iv1:Int⦄ ⦃pv1:Int⦄ ⦃zbQ:Nat⦄ ⦃zbt:(Nat→Bool)⦄ ⦃zbu:(Nat→Nat)⦄ ⦃zbR:(Nat→List Int→Option (List Int))⦄,P iv1 pv1 zbQ zbt zbu zbR=true→K (e93 (S iv1 pv1 zbQ zbt zbu zbR))→X (zCr zaa iv1 pv1 zbQ zbt zbu zbR)
def zCs (zaa:(Sl Gate)) (iv2:Int) (pv2:Int) (qv2:Int) (zbv:Nat) (zbb:(Nat→Bool)) (za4:(Nat→Nat)) (zbn:(Nat→List Int→Option (List Int))):St:=⟨[(0,zS enc_55 3 zaa),(3,zI (zaa.len:Int)),(4,zv 15),(5,zI iv2),(6,zI pv2),(7,zI qv2)],[(15,.vm 129 8 131 3 (true,2,false,[some .i64]) zbv zbb za4 zbn)],[]⟩
abbrev zxG (K:List PA→Prop) (zaa:(Sl Gate)) (X:St→Prop) (P:Int→Int→Int→Nat→(Nat→Bool)→(Nat→Nat)→(Nat→List Int→Option (List Int))→Bool) (S:Int→Int→Int→Nat→(Nat→Bool)→(Nat→Nat)→(Nat→List Int→Option (List Int))→(Sl Mp)):Prop:=∀ ⦃iv2:Int⦄ ⦃pv2:Int⦄ ⦃qv2:Int⦄ ⦃zbv:Nat⦄ ⦃zbb:(Nat→Bool)⦄ ⦃za4:(Nat→Nat)⦄ ⦃zbn:(Nat→List Int→Option (List Int))⦄,P iv2 pv2 qv2 zbv zbb za4 zbn=true→K (e93 (S iv2 pv2 qv2 zbv zbb za4 zbn))→X (zCs zaa iv2 pv2 qv2 zbv zbb za4 zbn)
def zCt (zaa:(Sl Gate)) (qv3:Int) (iv4:Int) (pv4:Int) (zcA:Int) (rv4:Int) (zbo:Nat) (zbf:(Nat→Bool)) (zbg:(Nat→Nat)) (zbe:(Nat→List Int→Option (List Int))):St:=⟨[(0,zS enc_55 3 zaa),(3,zI (zaa.len:Int)),(4,zv 15),(5,zI iv4),(6,zI pv4),(7,zI qv3),(8,zI zcA),(9,zI rv4)],[(15,.vm 129 8 131 3 (true,2,false,[some .i64]) zbo zbf zbg zbe)],[]⟩
abbrev zFm (K:List PA→Prop) (zaa:(Sl Gate)) (qv3:Int) (X:St→Prop) (P:Int→Int→Int→Int→Nat→(Nat→Bool)→(Nat→Nat)→(Nat→List Int→Option (List Int))→Bool) (S:Int→Int→Int→Int→Nat→(Nat→Bool)→(Nat→Nat)→(Nat→List Int→Option (List Int))→(Sl Mp)):Prop:=∀ ⦃iv4:Int⦄ ⦃pv4:Int⦄ ⦃zcA:Int⦄ ⦃rv4:Int⦄ ⦃zbo:Nat⦄ ⦃zbf:(Nat→Bool)⦄ ⦃zbg:(Nat→Nat)⦄ ⦃zbe:(Nat→List Int→Option (List Int))⦄,P iv4 pv4 zcA rv4 zbo zbf zbg zbe=true→K (e93 (S iv4 pv4 zcA rv4 zbo zbf zbg zbe))→X (zCt zaa qv3 iv4 pv4 zcA rv4 zbo zbf zbg zbe)
section
variable {K:List PA→Prop} {zaa:(Sl Gate)} {iv0:Int} {zbJ:Nat} {zbA:(Nat→Bool)} {zbB:(Nat→Nat)} {zbY:(Nat→List Int→Option (List Int))} {X0:St→Prop} {P0:Int→Nat→(Nat→Bool)→(Nat→Nat)→(Nat→List Int→Option (List Int))→Bool} {S0:Int→Nat→(Nat→Bool)→(Nat→Nat)→(Nat→List Int→Option (List Int))→(Sl Mp)} {iv1:Int} {pv1:Int} {zbQ:Nat} {zbt:(Nat→Bool)} {zbu:(Nat→Nat)} {zbR:(Nat→List Int→Option (List Int))} {X1:St→Prop} {P1:Int→Int→Nat→(Nat→Bool)→(Nat→Nat)→(Nat→List Int→Option (List Int))→Bool} {S1:Int→Int→Nat→(Nat→Bool)→(Nat→Nat)→(Nat→List Int→Option (List Int))→(Sl Mp)} {iv2:Int} {pv2:Int} {qv2:Int} {zbv:Nat} {zbb:(Nat→Bool)} {za4:(Nat→Nat)} {zbn:(Nat→List Int→Option (List Int))} {X2:St→Prop} {P2:Int→Int→Int→Nat→(Nat→Bool)→(Nat→Nat)→(Nat→List Int→Option (List Int))→Bool} {S2:Int→Int→Int→Nat→(Nat→Bool)→(Nat→Nat)→(Nat→List Int→Option (List Int))→(Sl Mp)} {iv3:Int} {pv3:Int} {qv3:Int} {zgo:Nat} {zeD:(Nat→Bool)} {zeE:(Nat→Nat)} {zgp:(Nat→List Int→Option (List Int))} {iv4:Int} {pv4:Int} {zcA:Int} {rv4:Int} {zbo:Nat} {zbf:(Nat→Bool)} {zbg:(Nat→Nat)} {zbe:(Nat→List Int→Option (List Int))} {X4:St→Prop} {P4:Int→Int→Int→Int→Nat→(Nat→Bool)→(Nat→Nat)→(Nat→List Int→Option (List Int))→Bool} {S4:Int→Int→Int→Int→Nat→(Nat→Bool)→(Nat→Nat)→(Nat→List Int→Option (List Int))→(Sl Mp)} {iv5:Int} {pv5:Int} {zfe:Int} {rv5:Int} {kv5:Int} {zdH:Nat} {zcK:(Nat→Bool)} {zcL:(Nat→Nat)} {zdI:(Nat→List Int→Option (List Int))}
def zxH (S0:Int→Nat→(Nat→Bool)→(Nat→Nat)→(Nat→List Int→Option (List Int))→(Sl Mp)) (S1:Int→Int→Nat→(Nat→Bool)→(Nat→Nat)→(Nat→List Int→Option (List Int))→(Sl Mp)) (S2:Int→Int→Int→Nat→(Nat→Bool)→(Nat→Nat)→(Nat→List Int→Option (List Int))→(Sl Mp)) (S4:Int→Int→Int→Int→Nat→(Nat→Bool)→(Nat→Nat)→(Nat→List Int→Option (List Int))→(Sl Mp)) (zaa:(Sl Gate)) (qv3:Int) (iv5:Int) (pv5:Int) (zfe:Int) (rv5:Int) (kv5:Int) (zdH:Nat) (zcK:(Nat→Bool)) (zcL:(Nat→Nat)) (zdI:(Nat→List Int→Option (List Int))):(Sl Mp) :=
  (cond (decide (zfe < (0:Int)))
 (S4 iv5 pv5 kv5 (w64 (rv5+(1:Int))) zdH zcK zcL zdI)
 (cond (decide (kv5 < zfe))
 (S4 iv5 pv5 kv5 (w64 (rv5+(1:Int))) zdH zcK zcL zdI)
 (S4 iv5 pv5 zfe (w64 (rv5+(1:Int))) zdH zcK zcL zdI)))
def zxI (P0:Int→Nat→(Nat→Bool)→(Nat→Nat)→(Nat→List Int→Option (List Int))→Bool) (P1:Int→Int→Nat→(Nat→Bool)→(Nat→Nat)→(Nat→List Int→Option (List Int))→Bool) (P2:Int→Int→Int→Nat→(Nat→Bool)→(Nat→Nat)→(Nat→List Int→Option (List Int))→Bool) (P4:Int→Int→Int→Int→Nat→(Nat→Bool)→(Nat→Nat)→(Nat→List Int→Option (List Int))→Bool) (zaa:(Sl Gate)) (qv3:Int) (iv5:Int) (pv5:Int) (zfe:Int) (rv5:Int) (kv5:Int) (zdH:Nat) (zcK:(Nat→Bool)) (zcL:(Nat→Nat)) (zdI:(Nat→List Int→Option (List Int))):Bool :=
  (cond (decide (zfe < (0:Int)))
 (P4 iv5 pv5 kv5 (w64 (rv5+(1:Int))) zdH zcK zcL zdI)
 (cond (decide (kv5 < zfe))
 (P4 iv5 pv5 kv5 (w64 (rv5+(1:Int))) zdH zcK zcL zdI)
 (P4 iv5 pv5 zfe (w64 (rv5+(1:Int))) zdH zcK zcL zdI)))
theorem zFn (hX0:zpO K zaa X0 P0 S0) (hX1:ztG K zaa X1 P1 S1) (hX2:zxG K zaa X2 P2 S2) (hX4:zFm K zaa qv3 X4 P4 S4) (hs:zxI P0 P1 P2 P4 zaa qv3 iv5 pv5 zfe rv5 kv5 zdH zcK zcL zdI=true) (hk:K (e93 (zxH S0 S1 S2 S4 zaa qv3 iv5 pv5 zfe rv5 kv5 zdH zcK zcL zdI))):z93 K [1,1,1,0,1,0,0,1,0,0,1,1,0,0,1,0,0,1,0,0,1,0,0,1,1,0,1,0,0,1,0,0,1] [X0,X1,X2,X4] ⟨[(0,zS enc_55 3 zaa),(3,zI (zaa.len:Int)),(4,zv 15),(5,zI iv5),(6,zI pv5),(7,zI qv3),(8,zI zfe),(9,zI rv5),(10,zI kv5)],[(15,.vm 129 8 131 3 (true,2,false,[some .i64]) zdH zcK zcL zdI)],[]⟩:=zaD (by kernel_rfl) (zc hs hk (fun hs hk=>(hX4 hs hk)) (fun hs hk=>(zc hs hk (fun hs hk=>(hX4 hs hk)) (fun hs hk=>(hX4 hs hk)))))
def zxJ (S0:Int→Nat→(Nat→Bool)→(Nat→Nat)→(Nat→List Int→Option (List Int))→(Sl Mp)) (S1:Int→Int→Nat→(Nat→Bool)→(Nat→Nat)→(Nat→List Int→Option (List Int))→(Sl Mp)) (S2:Int→Int→Int→Nat→(Nat→Bool)→(Nat→Nat)→(Nat→List Int→Option (List Int))→(Sl Mp)) (zaa:(Sl Gate)) (qv3:Int) (S4:Int→Int→Int→Int→Nat→(Nat→Bool)→(Nat→Nat)→(Nat→List Int→Option (List Int))→(Sl Mp)) (iv4:Int) (pv4:Int) (zcA:Int) (rv4:Int) (zbo:Nat) (zbf:(Nat→Bool)) (zbg:(Nat→Nat)) (zbe:(Nat→List Int→Option (List Int))):(Sl Mp) :=
  (cond (decide (rv4 ≤ (zaa.get ((w64 (iv4 + (2:Int))).toNat)).High))
 (zxH S0 S1 S2 S4 zaa qv3 iv4 pv4 zcA rv4 (if (zdN ((zbe ((w64 (iv4+(1:Int))).toNat)) [qv3,rv4]) 0) > (s85 ((zaa.get iv4.toNat).Z) ((zaa.get ((w64 (iv4+(1:Int))).toNat)).Z) ((zaa.get ((w64 (iv4+(2:Int))).toNat)).Z) pv4 qv3 rv4) then (zdN ((zbe ((w64 (iv4+(1:Int))).toNat)) [qv3,rv4]) 0) else (s85 ((zaa.get iv4.toNat).Z) ((zaa.get ((w64 (iv4+(1:Int))).toNat)).Z) ((zaa.get ((w64 (iv4+(2:Int))).toNat)).Z) pv4 qv3 rv4)) zbo zbf zbg zbe)
 (S2 iv4 pv4 (w64 (qv3+(1:Int))) zbo zbf (zcS iv4.toNat (addN ((zbe iv4.toNat) [pv4,qv3]) (zbg iv4.toNat)) zbg) (zcS iv4.toNat (zkO [pv4,qv3] [zcA] (zbe iv4.toNat)) zbe)))
def zxK (P0:Int→Nat→(Nat→Bool)→(Nat→Nat)→(Nat→List Int→Option (List Int))→Bool) (P1:Int→Int→Nat→(Nat→Bool)→(Nat→Nat)→(Nat→List Int→Option (List Int))→Bool) (P2:Int→Int→Int→Nat→(Nat→Bool)→(Nat→Nat)→(Nat→List Int→Option (List Int))→Bool) (zaa:(Sl Gate)) (qv3:Int) (P4:Int→Int→Int→Int→Nat→(Nat→Bool)→(Nat→Nat)→(Nat→List Int→Option (List Int))→Bool) (iv4:Int) (pv4:Int) (zcA:Int) (rv4:Int) (zbo:Nat) (zbf:(Nat→Bool)) (zbg:(Nat→Nat)) (zbe:(Nat→List Int→Option (List Int))):Bool :=
  (decide ((0≤(w64 (iv4+(2:Int)))∧(w64 (iv4+(2:Int))) < (zaa.len:Int))) &&
 (cond (decide (rv4 ≤ (zaa.get ((w64 (iv4 + (2:Int))).toNat)).High))
 (decide ((0≤iv4∧iv4 < (zaa.len:Int))) &&
 (decide ((0≤(w64 (iv4+(1:Int)))∧(w64 (iv4+(1:Int))) < (zaa.len:Int))) &&
 (decide ((0≤(w64 (iv4+(2:Int)))∧(w64 (iv4+(2:Int))) < (zaa.len:Int))) &&
 (decide ((p85 ((zaa.get iv4.toNat).Z) ((zaa.get ((w64 (iv4+(1:Int))).toNat)).Z) ((zaa.get ((w64 (iv4+(2:Int))).toNat)).Z) pv4 qv3 rv4=true)) &&
 (decide ((0≤(w64 (iv4+(1:Int)))∧(w64 (iv4+(1:Int))) < (zbo:Int))) &&
 (decide (((w64 (iv4+(1:Int))).toNat < zbo∧zbf ((w64 (iv4+(1:Int))).toNat)=true)) &&
 (decide (((w64 (iv4+(1:Int))).toNat < zbo)) &&
 (zxI P0 P1 P2 P4 zaa qv3 iv4 pv4 zcA rv4 (if (zdN ((zbe ((w64 (iv4+(1:Int))).toNat)) [qv3,rv4]) 0) > (s85 ((zaa.get iv4.toNat).Z) ((zaa.get ((w64 (iv4+(1:Int))).toNat)).Z) ((zaa.get ((w64 (iv4+(2:Int))).toNat)).Z) pv4 qv3 rv4) then (zdN ((zbe ((w64 (iv4+(1:Int))).toNat)) [qv3,rv4]) 0) else (s85 ((zaa.get iv4.toNat).Z) ((zaa.get ((w64 (iv4+(1:Int))).toNat)).Z) ((zaa.get ((w64 (iv4+(2:Int))).toNat)).Z) pv4 qv3 rv4)) zbo zbf zbg zbe))))))))
 (decide ((0≤iv4∧iv4 < (zbo:Int))) &&
 (decide ((iv4.toNat < zbo∧zbf iv4.toNat=true)) &&
 (decide ((iv4.toNat < zbo)) &&
 (P2 iv4 pv4 (w64 (qv3+(1:Int))) zbo zbf (zcS iv4.toNat (addN ((zbe iv4.toNat) [pv4,qv3]) (zbg iv4.toNat)) zbg) (zcS iv4.toNat (zkO [pv4,qv3] [zcA] (zbe iv4.toNat)) zbe)))))))
def zxL (S0:Int→Nat→(Nat→Bool)→(Nat→Nat)→(Nat→List Int→Option (List Int))→(Sl Mp)) (S1:Int→Int→Nat→(Nat→Bool)→(Nat→Nat)→(Nat→List Int→Option (List Int))→(Sl Mp)) (S2:Int→Int→Int→Nat→(Nat→Bool)→(Nat→Nat)→(Nat→List Int→Option (List Int))→(Sl Mp)) (zaa:(Sl Gate)) (qv3:Int):Nat→Int→Int→Int→Int→Nat→(Nat→Bool)→(Nat→Nat)→(Nat→List Int→Option (List Int))→(Sl Mp):=lpO (fun _ _ _ _ _ _ _ _=>default) (zxJ S0 S1 S2 zaa qv3)
def zxM (P0:Int→Nat→(Nat→Bool)→(Nat→Nat)→(Nat→List Int→Option (List Int))→Bool) (P1:Int→Int→Nat→(Nat→Bool)→(Nat→Nat)→(Nat→List Int→Option (List Int))→Bool) (P2:Int→Int→Int→Nat→(Nat→Bool)→(Nat→Nat)→(Nat→List Int→Option (List Int))→Bool) (zaa:(Sl Gate)) (qv3:Int):Nat→Int→Int→Int→Int→Nat→(Nat→Bool)→(Nat→Nat)→(Nat→List Int→Option (List Int))→Bool:=lpO (fun _ _ _ _ _ _ _ _=>false) (zxK P0 P1 P2 zaa qv3)
def zxN (S0:Int→Nat→(Nat→Bool)→(Nat→Nat)→(Nat→List Int→Option (List Int))→(Sl Mp)) (S1:Int→Int→Nat→(Nat→Bool)→(Nat→Nat)→(Nat→List Int→Option (List Int))→(Sl Mp)) (S2:Int→Int→Int→Nat→(Nat→Bool)→(Nat→Nat)→(Nat→List Int→Option (List Int))→(Sl Mp)) (zaa:(Sl Gate)) (qv3:Int) (iv4:Int) (pv4:Int) (zcA:Int) (rv4:Int) (zbo:Nat) (zbf:(Nat→Bool)) (zbg:(Nat→Nat)) (zbe:(Nat→List Int→Option (List Int))):(Sl Mp):=zxL S0 S1 S2 zaa qv3 Fuel iv4 pv4 zcA rv4 zbo zbf zbg zbe
def zxO (P0:Int→Nat→(Nat→Bool)→(Nat→Nat)→(Nat→List Int→Option (List Int))→Bool) (P1:Int→Int→Nat→(Nat→Bool)→(Nat→Nat)→(Nat→List Int→Option (List Int))→Bool) (P2:Int→Int→Int→Nat→(Nat→Bool)→(Nat→Nat)→(Nat→List Int→Option (List Int))→Bool) (zaa:(Sl Gate)) (qv3:Int) (iv4:Int) (pv4:Int) (zcA:Int) (rv4:Int) (zbo:Nat) (zbf:(Nat→Bool)) (zbg:(Nat→Nat)) (zbe:(Nat→List Int→Option (List Int))):Bool:=zxM P0 P1 P2 zaa qv3 Fuel iv4 pv4 zcA rv4 zbo zbf zbg zbe
theorem zFo (hX0:zpO K zaa X0 P0 S0) (hX1:ztG K zaa X1 P1 S1) (hX2:zxG K zaa X2 P2 S2) (hs:zxO P0 P1 P2 zaa qv3 iv4 pv4 zcA rv4 zbo zbf zbg zbe=true) (hk:K (e93 (zxN S0 S1 S2 zaa qv3 iv4 pv4 zcA rv4 zbo zbf zbg zbe))):z93 K [1,1,1,0,1,0,0,1,0,0,1,1,0,0,1,0,0,1,0,0,1,0,0,1,1,0,1,0] [X0,X1,X2] (zCt zaa qv3 iv4 pv4 zcA rv4 zbo zbf zbg zbe) :=
  zl (fun X=>z93 K [1,1,1,0,1,0,0,1,0,0,1,1,0,0,1,0,0,1,0,0,1,0,0,1,1,0,1,0,0] [X0,X1,X2,X]) (by kernel_rfl) fun X4 hX =>
  (show ∀ k, zFm K zaa qv3 X4 (zxM P0 P1 P2 zaa qv3 k) (zxL S0 S1 S2 zaa qv3 k) from zer _ _ (zxK P0 P1 P2 zaa qv3) (zxJ S0 S1 S2 zaa qv3) (zFm K zaa qv3 X4)
 (by intro _ _ _ _ _ _ _ _ hs;exact absurd hs Bool.false_ne_true)
 (by intro P4 S4 hX4 iv4 pv4 zcA rv4 zbo zbf zbg zbe hs hk;exact hX _ (zaD (by kernel_rfl) (zay hs fun hc hs=>And.intro hc (zc hs hk (fun hs hk=>(zay hs fun hc hs=>And.intro hc (zay hs fun hc hs=>And.intro hc (zay hs fun hc hs=>And.intro hc (zay hs fun hc hs=>And.intro hc (zay hs fun hc hs=>And.intro hc (zay hs fun hc hs=>And.intro hc (zay hs fun hc hs=>And.intro hc (zFn hX0 hX1 hX2 hX4 hs hk))))))))) (fun hs hk=>(zay hs fun hc hs=>And.intro hc (zay hs fun hc hs=>And.intro hc (zay hs fun hc hs=>And.intro hc (hX2 hs hk)))))))))) _ hs hk
def zxP (S0:Int→Nat→(Nat→Bool)→(Nat→Nat)→(Nat→List Int→Option (List Int))→(Sl Mp)) (S1:Int→Int→Nat→(Nat→Bool)→(Nat→Nat)→(Nat→List Int→Option (List Int))→(Sl Mp)) (S2:Int→Int→Int→Nat→(Nat→Bool)→(Nat→Nat)→(Nat→List Int→Option (List Int))→(Sl Mp)) (zaa:(Sl Gate)) (iv3:Int) (pv3:Int) (qv3:Int) (zgo:Nat) (zeD:(Nat→Bool)) (zeE:(Nat→Nat)) (zgp:(Nat→List Int→Option (List Int))):(Sl Mp) :=
  (zxN S0 S1 S2 zaa qv3 iv3 pv3 (-1:Int) ((zaa.get ((w64 (iv3+(2:Int))).toNat)).Low) zgo zeD zeE zgp)
def zxQ (P0:Int→Nat→(Nat→Bool)→(Nat→Nat)→(Nat→List Int→Option (List Int))→Bool) (P1:Int→Int→Nat→(Nat→Bool)→(Nat→Nat)→(Nat→List Int→Option (List Int))→Bool) (P2:Int→Int→Int→Nat→(Nat→Bool)→(Nat→Nat)→(Nat→List Int→Option (List Int))→Bool) (zaa:(Sl Gate)) (iv3:Int) (pv3:Int) (qv3:Int) (zgo:Nat) (zeD:(Nat→Bool)) (zeE:(Nat→Nat)) (zgp:(Nat→List Int→Option (List Int))):Bool :=
  (decide ((0≤(w64 (iv3+(2:Int)))∧(w64 (iv3+(2:Int))) < (zaa.len:Int))) &&
 (zxO P0 P1 P2 zaa qv3 iv3 pv3 (-1:Int) ((zaa.get ((w64 (iv3+(2:Int))).toNat)).Low) zgo zeD zeE zgp))
theorem zFp (hX0:zpO K zaa X0 P0 S0) (hX1:ztG K zaa X1 P1 S1) (hX2:zxG K zaa X2 P2 S2) (hs:zxQ P0 P1 P2 zaa iv3 pv3 qv3 zgo zeD zeE zgp=true) (hk:K (e93 (zxP S0 S1 S2 zaa iv3 pv3 qv3 zgo zeD zeE zgp))):z93 K [1,1,1,0,1,0,0,1,0,0,1,1,0,0,1,0,0,1,0,0,1,0,0,1] [X0,X1,X2] ⟨[(0,zS enc_55 3 zaa),(3,zI (zaa.len:Int)),(4,zv 15),(5,zI iv3),(6,zI pv3),(7,zI qv3)],[(15,.vm 129 8 131 3 (true,2,false,[some .i64]) zgo zeD zeE zgp)],[]⟩:=zaD (by kernel_rfl) (zay hs fun hc hs=>And.intro hc (zFo hX0 hX1 hX2 hs hk))
def zxR (S0:Int→Nat→(Nat→Bool)→(Nat→Nat)→(Nat→List Int→Option (List Int))→(Sl Mp)) (S1:Int→Int→Nat→(Nat→Bool)→(Nat→Nat)→(Nat→List Int→Option (List Int))→(Sl Mp)) (zaa:(Sl Gate)) (S2:Int→Int→Int→Nat→(Nat→Bool)→(Nat→Nat)→(Nat→List Int→Option (List Int))→(Sl Mp)) (iv2:Int) (pv2:Int) (qv2:Int) (zbv:Nat) (zbb:(Nat→Bool)) (za4:(Nat→Nat)) (zbn:(Nat→List Int→Option (List Int))):(Sl Mp) :=
  (cond (decide (qv2 ≤ (zaa.get ((w64 (iv2 + (1:Int))).toNat)).High))
 (cond (iv2 == (w64 ((zaa.len : Int) - (2:Int))))
 (S2 iv2 pv2 (w64 (qv2+(1:Int))) zbv zbb (zcS iv2.toNat (addN ((zbn iv2.toNat) [pv2,qv2]) (za4 iv2.toNat)) za4) (zcS iv2.toNat (zkO [pv2,qv2] [(0:Int)] (zbn iv2.toNat)) zbn))
 (zxP S0 S1 S2 zaa iv2 pv2 qv2 zbv zbb za4 zbn))
 (S1 iv2 (w64 (pv2+(1:Int))) zbv zbb za4 zbn))
def zxS (P0:Int→Nat→(Nat→Bool)→(Nat→Nat)→(Nat→List Int→Option (List Int))→Bool) (P1:Int→Int→Nat→(Nat→Bool)→(Nat→Nat)→(Nat→List Int→Option (List Int))→Bool) (zaa:(Sl Gate)) (P2:Int→Int→Int→Nat→(Nat→Bool)→(Nat→Nat)→(Nat→List Int→Option (List Int))→Bool) (iv2:Int) (pv2:Int) (qv2:Int) (zbv:Nat) (zbb:(Nat→Bool)) (za4:(Nat→Nat)) (zbn:(Nat→List Int→Option (List Int))):Bool :=
  (decide ((0≤(w64 (iv2+(1:Int)))∧(w64 (iv2+(1:Int))) < (zaa.len:Int))) &&
 (cond (decide (qv2 ≤ (zaa.get ((w64 (iv2 + (1:Int))).toNat)).High))
 (cond (iv2 == (w64 ((zaa.len : Int) - (2:Int))))
 (decide ((0≤iv2∧iv2 < (zbv:Int))) &&
 (decide ((iv2.toNat < zbv∧zbb iv2.toNat=true)) &&
 (decide ((iv2.toNat < zbv)) &&
 (P2 iv2 pv2 (w64 (qv2+(1:Int))) zbv zbb (zcS iv2.toNat (addN ((zbn iv2.toNat) [pv2,qv2]) (za4 iv2.toNat)) za4) (zcS iv2.toNat (zkO [pv2,qv2] [(0:Int)] (zbn iv2.toNat)) zbn)))))
 (zxQ P0 P1 P2 zaa iv2 pv2 qv2 zbv zbb za4 zbn))
 (P1 iv2 (w64 (pv2+(1:Int))) zbv zbb za4 zbn)))
def zxT (S0:Int→Nat→(Nat→Bool)→(Nat→Nat)→(Nat→List Int→Option (List Int))→(Sl Mp)) (S1:Int→Int→Nat→(Nat→Bool)→(Nat→Nat)→(Nat→List Int→Option (List Int))→(Sl Mp)) (zaa:(Sl Gate)):Nat→Int→Int→Int→Nat→(Nat→Bool)→(Nat→Nat)→(Nat→List Int→Option (List Int))→(Sl Mp):=lpO (fun _ _ _ _ _ _ _=>default) (zxR S0 S1 zaa)
def zxU (P0:Int→Nat→(Nat→Bool)→(Nat→Nat)→(Nat→List Int→Option (List Int))→Bool) (P1:Int→Int→Nat→(Nat→Bool)→(Nat→Nat)→(Nat→List Int→Option (List Int))→Bool) (zaa:(Sl Gate)):Nat→Int→Int→Int→Nat→(Nat→Bool)→(Nat→Nat)→(Nat→List Int→Option (List Int))→Bool:=lpO (fun _ _ _ _ _ _ _=>false) (zxS P0 P1 zaa)
def zxV (S0:Int→Nat→(Nat→Bool)→(Nat→Nat)→(Nat→List Int→Option (List Int))→(Sl Mp)) (S1:Int→Int→Nat→(Nat→Bool)→(Nat→Nat)→(Nat→List Int→Option (List Int))→(Sl Mp)) (zaa:(Sl Gate)) (iv2:Int) (pv2:Int) (qv2:Int) (zbv:Nat) (zbb:(Nat→Bool)) (za4:(Nat→Nat)) (zbn:(Nat→List Int→Option (List Int))):(Sl Mp):=zxT S0 S1 zaa Fuel iv2 pv2 qv2 zbv zbb za4 zbn
def zxW (P0:Int→Nat→(Nat→Bool)→(Nat→Nat)→(Nat→List Int→Option (List Int))→Bool) (P1:Int→Int→Nat→(Nat→Bool)→(Nat→Nat)→(Nat→List Int→Option (List Int))→Bool) (zaa:(Sl Gate)) (iv2:Int) (pv2:Int) (qv2:Int) (zbv:Nat) (zbb:(Nat→Bool)) (za4:(Nat→Nat)) (zbn:(Nat→List Int→Option (List Int))):Bool:=zxU P0 P1 zaa Fuel iv2 pv2 qv2 zbv zbb za4 zbn
theorem zFq (hX0:zpO K zaa X0 P0 S0) (hX1:ztG K zaa X1 P1 S1) (hs:zxW P0 P1 zaa iv2 pv2 qv2 zbv zbb za4 zbn=true) (hk:K (e93 (zxV S0 S1 zaa iv2 pv2 qv2 zbv zbb za4 zbn))):z93 K [1,1,1,0,1,0,0,1,0,0,1,1,0,0,1,0,0,1,0] [X0,X1] (zCs zaa iv2 pv2 qv2 zbv zbb za4 zbn) :=
  zl (fun X=>z93 K [1,1,1,0,1,0,0,1,0,0,1,1,0,0,1,0,0,1,0,0] [X0,X1,X]) (by kernel_rfl) fun X2 hX =>
  (show ∀ k, zxG K zaa X2 (zxU P0 P1 zaa k) (zxT S0 S1 zaa k) from zer _ _ (zxS P0 P1 zaa) (zxR S0 S1 zaa) (zxG K zaa X2)
 (by intro _ _ _ _ _ _ _ hs;exact absurd hs Bool.false_ne_true)
 (by intro P2 S2 hX2 iv2 pv2 qv2 zbv zbb za4 zbn hs hk;exact hX _ (zaD (by kernel_rfl) (zay hs fun hc hs=>And.intro hc (zc hs hk (fun hs hk=>(zc hs hk (fun hs hk=>(zay hs fun hc hs=>And.intro hc (zay hs fun hc hs=>And.intro hc (zay hs fun hc hs=>And.intro hc (hX2 hs hk))))) (fun hs hk=>(zFp hX0 hX1 hX2 hs hk)))) (fun hs hk=>(hX1 hs hk))))))) _ hs hk
def zxX (S0:Int→Nat→(Nat→Bool)→(Nat→Nat)→(Nat→List Int→Option (List Int))→(Sl Mp)) (zaa:(Sl Gate)) (S1:Int→Int→Nat→(Nat→Bool)→(Nat→Nat)→(Nat→List Int→Option (List Int))→(Sl Mp)) (iv1:Int) (pv1:Int) (zbQ:Nat) (zbt:(Nat→Bool)) (zbu:(Nat→Nat)) (zbR:(Nat→List Int→Option (List Int))):(Sl Mp) :=
  (cond (decide (pv1 ≤ (zaa.get iv1.toNat).High))
 (zxV S0 S1 zaa iv1 pv1 ((zaa.get ((w64 (iv1+(1:Int))).toNat)).Low) zbQ zbt zbu zbR)
 (S0 (w64 (iv1 - (1:Int))) zbQ zbt zbu zbR))
def zxY (P0:Int→Nat→(Nat→Bool)→(Nat→Nat)→(Nat→List Int→Option (List Int))→Bool) (zaa:(Sl Gate)) (P1:Int→Int→Nat→(Nat→Bool)→(Nat→Nat)→(Nat→List Int→Option (List Int))→Bool) (iv1:Int) (pv1:Int) (zbQ:Nat) (zbt:(Nat→Bool)) (zbu:(Nat→Nat)) (zbR:(Nat→List Int→Option (List Int))):Bool :=
  (decide ((0≤iv1∧iv1 < (zaa.len:Int))) &&
 (cond (decide (pv1 ≤ (zaa.get iv1.toNat).High))
 (decide ((0≤(w64 (iv1+(1:Int)))∧(w64 (iv1+(1:Int))) < (zaa.len:Int))) &&
 (zxW P0 P1 zaa iv1 pv1 ((zaa.get ((w64 (iv1+(1:Int))).toNat)).Low) zbQ zbt zbu zbR))
 (P0 (w64 (iv1 - (1:Int))) zbQ zbt zbu zbR)))
def zxZ (S0:Int→Nat→(Nat→Bool)→(Nat→Nat)→(Nat→List Int→Option (List Int))→(Sl Mp)) (zaa:(Sl Gate)):Nat→Int→Int→Nat→(Nat→Bool)→(Nat→Nat)→(Nat→List Int→Option (List Int))→(Sl Mp):=lpO (fun _ _ _ _ _ _=>default) (zxX S0 zaa)
def zx0 (P0:Int→Nat→(Nat→Bool)→(Nat→Nat)→(Nat→List Int→Option (List Int))→Bool) (zaa:(Sl Gate)):Nat→Int→Int→Nat→(Nat→Bool)→(Nat→Nat)→(Nat→List Int→Option (List Int))→Bool:=lpO (fun _ _ _ _ _ _=>false) (zxY P0 zaa)
def zx1 (S0:Int→Nat→(Nat→Bool)→(Nat→Nat)→(Nat→List Int→Option (List Int))→(Sl Mp)) (zaa:(Sl Gate)) (iv1:Int) (pv1:Int) (zbQ:Nat) (zbt:(Nat→Bool)) (zbu:(Nat→Nat)) (zbR:(Nat→List Int→Option (List Int))):(Sl Mp):=zxZ S0 zaa Fuel iv1 pv1 zbQ zbt zbu zbR
def zx2 (P0:Int→Nat→(Nat→Bool)→(Nat→Nat)→(Nat→List Int→Option (List Int))→Bool) (zaa:(Sl Gate)) (iv1:Int) (pv1:Int) (zbQ:Nat) (zbt:(Nat→Bool)) (zbu:(Nat→Nat)) (zbR:(Nat→List Int→Option (List Int))):Bool:=zx0 P0 zaa Fuel iv1 pv1 zbQ zbt zbu zbR
theorem zFr (hX0:zpO K zaa X0 P0 S0) (hs:zx2 P0 zaa iv1 pv1 zbQ zbt zbu zbR=true) (hk:K (e93 (zx1 S0 zaa iv1 pv1 zbQ zbt zbu zbR))):z93 K [1,1,1,0,1,0,0,1,0,0,1,1,0] [X0] (zCr zaa iv1 pv1 zbQ zbt zbu zbR) :=
  zl (fun X=>z93 K [1,1,1,0,1,0,0,1,0,0,1,1,0,0] [X0,X]) (by kernel_rfl) fun X1 hX =>
  (show ∀ k, ztG K zaa X1 (zx0 P0 zaa k) (zxZ S0 zaa k) from zer _ _ (zxY P0 zaa) (zxX S0 zaa) (ztG K zaa X1)
 (by intro _ _ _ _ _ _ hs;exact absurd hs Bool.false_ne_true)
 (by intro P1 S1 hX1 iv1 pv1 zbQ zbt zbu zbR hs hk;exact hX _ (zaD (by kernel_rfl) (zay hs fun hc hs=>And.intro hc (zc hs hk (fun hs hk=>(zay hs fun hc hs=>And.intro hc (zFq hX0 hX1 hs hk))) (fun hs hk=>(hX0 hs hk))))))) _ hs hk
def zx3 (zaa:(Sl Gate)) (S0:Int→Nat→(Nat→Bool)→(Nat→Nat)→(Nat→List Int→Option (List Int))→(Sl Mp)) (iv0:Int) (zbJ:Nat) (zbA:(Nat→Bool)) (zbB:(Nat→Nat)) (zbY:(Nat→List Int→Option (List Int))):(Sl Mp) :=
  (cond (decide (iv0 ≥ (0:Int)))
 (zx1 S0 zaa iv0 ((zaa.get iv0.toNat).Low) zbJ (zcS iv0.toNat true zbA) (zcS iv0.toNat 0 zbB) (zcS iv0.toNat (fun _=>none) zbY))
 (⟨zbJ,(fun i=>(⟨zbB i,zbY i⟩:Mp))⟩:(Sl Mp)))
def zx4 (zaa:(Sl Gate)) (P0:Int→Nat→(Nat→Bool)→(Nat→Nat)→(Nat→List Int→Option (List Int))→Bool) (iv0:Int) (zbJ:Nat) (zbA:(Nat→Bool)) (zbB:(Nat→Nat)) (zbY:(Nat→List Int→Option (List Int))):Bool :=
  (cond (decide (iv0 ≥ (0:Int)))
 (decide ((0≤iv0∧iv0 < (zbJ:Int))) &&
 (decide ((iv0.toNat < zbJ∧zbA iv0.toNat=false)) &&
 (decide ((0≤iv0∧iv0 < (zaa.len:Int))) &&
 (zx2 P0 zaa iv0 ((zaa.get iv0.toNat).Low) zbJ (zcS iv0.toNat true zbA) (zcS iv0.toNat 0 zbB) (zcS iv0.toNat (fun _=>none) zbY)))))
 true)
def zx5 (zaa:(Sl Gate)):Nat→Int→Nat→(Nat→Bool)→(Nat→Nat)→(Nat→List Int→Option (List Int))→(Sl Mp):=lpO (fun _ _ _ _ _=>default) (zx3 zaa)
def zx6 (zaa:(Sl Gate)):Nat→Int→Nat→(Nat→Bool)→(Nat→Nat)→(Nat→List Int→Option (List Int))→Bool:=lpO (fun _ _ _ _ _=>false) (zx4 zaa)
def zx7 (zaa:(Sl Gate)) (iv0:Int) (zbJ:Nat) (zbA:(Nat→Bool)) (zbB:(Nat→Nat)) (zbY:(Nat→List Int→Option (List Int))):(Sl Mp):=zx5 zaa Fuel iv0 zbJ zbA zbB zbY
def zx8 (zaa:(Sl Gate)) (iv0:Int) (zbJ:Nat) (zbA:(Nat→Bool)) (zbB:(Nat→Nat)) (zbY:(Nat→List Int→Option (List Int))):Bool:=zx6 zaa Fuel iv0 zbJ zbA zbB zbY
theorem zFs (hs:zx8 zaa iv0 zbJ zbA zbB zbY=true) (hk:K (e93 (zx7 zaa iv0 zbJ zbA zbB zbY))):z93 K [1,1,1,0,1,0] [] (zCq zaa iv0 zbJ zbA zbB zbY) :=
  zl (fun X=>z93 K [1,1,1,0,1,0,0] [X]) (by kernel_rfl) fun X0 hX =>
  (show ∀ k, zpO K zaa X0 (zx6 zaa k) (zx5 zaa k) from zer _ _ (zx4 zaa) (zx3 zaa) (zpO K zaa X0)
 (by intro _ _ _ _ _ hs;exact absurd hs Bool.false_ne_true)
 (by intro P0 S0 hX0 iv0 zbJ zbA zbB zbY hs hk;exact hX _ (zaD (by kernel_rfl) (zc hs hk (fun hs hk=>(zay hs fun hc hs=>And.intro hc (zay hs fun hc hs=>And.intro hc (zay hs fun hc hs=>And.intro hc (zFr hX0 hs hk))))) (fun hs hk=>hk))))) _ hs hk
def s93 (zaa:(Sl Gate)):(Sl Mp) :=
  (zx7 zaa (w64 ((zaa.len:Int) - (2:Int))) ((w64 ((zaa.len:Int) - (1:Int))).toNat) (fun _=>false) (fun _=>0) (fun _ _=>none))
def p93 (zaa:(Sl Gate)):Bool :=
  (decide ((0≤(w64 ((zaa.len:Int) - (1:Int)))∧(w64 ((zaa.len:Int) - (1:Int)))=(w64 ((zaa.len:Int) - (1:Int)))∧(w64 ((zaa.len:Int) - (1:Int)))≤1000000)) &&
 (zx8 zaa (w64 ((zaa.len:Int) - (2:Int))) ((w64 ((zaa.len:Int) - (1:Int))).toNat) (fun _=>false) (fun _=>0) (fun _ _=>none)))
end
theorem q93 (zaa:(Sl Gate)) (K:List PA→Prop) (hs:p93 zaa=true) (hk:K (e93 (s93 zaa))):vcFun Try.prog G93 zFl 93 [.one (.sl zaa.len 3 (fun i=>enc_55 (zaa.get i)))] K :=
  zaD (by kernel_rfl) (zay hs fun hc hs=>And.intro hc (zFs hs hk))
def zFt : List PA → COut
  | [.one (.sl a0_n a0_s a0_g)]=>.det (IsE enc_55 3 a0_s a0_g∧p93 (⟨a0_n,zae a0_g⟩:(Sl Gate))=true) [.one (.sl ((s93 (⟨a0_n,zae a0_g⟩:(Sl Gate))).len) 1 (fun i=>zcG ((s93 (⟨a0_n,zae a0_g⟩:(Sl Gate))).get i)))]
  | _=>.no
theorem zJv:zaf Try.prog 93:=⟨_,rfl,rfl,by kernel_rfl⟩
theorem zO7:Ok Try.prog 93 zFt:=zaF zMj zJv fun args K h=>by
  unfold zFt at h
  split at h
  · rename_i a0_n a0_s a0_g
    obtain ⟨⟨⟨rfl,a0_f,rfl⟩,hs⟩,hk⟩:=h
    try rw [zac a0_f] at hs
    try rw [zac a0_f] at hk
    exact ⟨(fun _ _=>[]),(fun l=>Nat.beq l 15 || Nat.beq l 24),zFl,q93 (⟨a0_n,a0_f⟩:(Sl Gate)) K hs hk⟩
  · exact h.elim
def zNz (a b:Int):List Int:=(List.range (b - a+1).toNat).map fun (i:Nat)=>a+i
def zn1 (zaa:Sl Gate):List (List Int):=(zNz (zaa.get 0).Low (zaa.get 0).High).flatMap fun p=>(zNz (zaa.get 1).Low (zaa.get 1).High).map fun q=>[p,q]
abbrev T55:Tabs:=(((Tabs.nil.addF 85 zBh).addF 92 zFk).addF 93 zFt)
theorem zMk:TabsOk Try.prog T55:=(((TabsOk.nil.addF zNy).addF zO6).addF zO7)
abbrev G55:Ctrs:=csm T55 (fun _ _=>[]) (fun _=>false)
def za1:Ann:=⟨145,[(0,⟨[0],[],[],[],[],[],[]⟩),(1,⟨[0,18],[],[],[],[],[],[]⟩),(2,⟨[2,3,4],[],[],[],[],[],[]⟩),(3,⟨[0,5],[],[],[],[],[],[]⟩),(4,⟨[0,5,6],[],[],[],[],[],[]⟩),(5,⟨[0,5,6,24],[24],[],[],[],[],[]⟩),(6,⟨[0,5,6,24,26],[24],[],[],[],[],[]⟩),(7,⟨[0,5,6,8,24],[24],[],[],[],[],[]⟩),(8,⟨[0,5,6,8,24,35],[24],[],[],[],[],[]⟩),(9,⟨[0,5,6,24],[24],[],[],[],[],[]⟩),(10,⟨[0,5,6,9],[],[],[],[],[],[]⟩),(11,⟨[0,5,6,9,10],[],[],[],[],[],[]⟩),(12,⟨[0,5,6,9,10,46],[],[],[],[],[],[]⟩),(13,⟨[0,5,6,9,10],[],[],[],[],[],[]⟩),(14,⟨[0,5,6,9,10,11],[],[],[],[],[],[]⟩),(15,⟨[0,5,6,9,10,11,58],[],[],[],[],[],[]⟩),(16,⟨[0,5,6,9,10,11],[],[],[],[],[],[]⟩),(17,⟨[0,5,6,9,10,11,69],[],[],[],[],[],[]⟩),(18,⟨[0,5,6,9],[72],[],[],[],[],[]⟩),(19,⟨[0,5,6,9,12],[72],[],[],[],[],[]⟩),(20,⟨[0,5,6,9,12,76],[72],[],[],[],[],[]⟩),(21,⟨[0,5,6,9,12],[72],[],[],[],[],[]⟩),(22,⟨[0,5,6,9,12,13,14],[72],[],[],[],[],[]⟩),(23,⟨[0,5,6,9,12,13,14,15],[72],[],[],[],[],[]⟩),(24,⟨[0,5,6,9,12,13,14,15,100],[72],[],[],[],[],[]⟩),(25,⟨[0,5,6,9,12,13,14,15],[72],[],[],[],[],[]⟩),(26,⟨[0,5,6,9,12,13,14,15,138],[72],[],[],[],[],[]⟩),(27,⟨[0,5,6,9,12],[72],[],[],[],[],[]⟩),(28,⟨[2,3,4],[72],[],[],[],[],[]⟩)],
 [(6,⟨[0,5,6,24],[24],[],[],[],[],[]⟩),(12,⟨[0,5,6,9,10],[],[],[],[],[],[]⟩),(15,⟨[0,5,6,9,10,11],[],[],[],[],[],[]⟩),(20,⟨[0,5,6,9,12],[72],[],[],[],[],[]⟩),(24,⟨[0,5,6,9,12,13,14,15],[72],[],[],[],[],[]⟩)],
 [(2,⟨[0,18],[],[],[],[],[],[]⟩),(3,⟨[0],[],[],[],[],[],[]⟩),(4,⟨[0,5],[],[],[],[],[],[]⟩),(10,⟨[0,5,6],[],[],[],[],[],[]⟩),(19,⟨[0,5,6,9],[72],[(9,72,3,fun _=>zaq default)],[],[],[],[]⟩),(27,⟨[0,5,6,9,12,13,14,15,138],[72],[],[],[],[],[]⟩)],
 [],[]⟩
def zJw (zaa:(Sl Gate)) (zgq:Bool):St:=⟨[(0,.one (.c (.p (.sl zaa.len 3 (fun i=>enc_55 (zaa.get i)))))),(18,.one (.c (.p (.bool zgq))))],[],[]⟩
def zms (K:List PA→Prop) (zaa:(Sl Gate)) (zgq:Bool):Prop:=vc Try.prog G55 za1 (cdF Try.f55 [1,0,0,1]) (sqK Try.prog G55 za1 (cdF Try.f55 [1,0,1]) (zca (zcp Try.prog Try.f55 K))) (zJw zaa zgq)
def zJx (zaa:(Sl Gate)):St:=⟨[(0,.one (.c (.p (.sl zaa.len 3 (fun i=>enc_55 (zaa.get i))))))],[],[]⟩
def zmt (K:List PA→Prop) (zaa:(Sl Gate)):Prop:=vc Try.prog G55 za1 (cdF Try.f55 [1,0,1]) (zca (zcp Try.prog Try.f55 K)) (zJx zaa)
def zJy (zaa:(Sl Gate)) (zj5:Nat) (zed:Nat→List PV):St:=⟨[(0,.one (.c (.p (.sl zaa.len 3 (fun i=>enc_55 (zaa.get i)))))),(5,.one (.c (.p (.sl zj5 1 zed))))],[],[]⟩
def zmu (K:List PA→Prop) (zaa:(Sl Gate)) (zj5:Nat) (zed:Nat→List PV):Prop:=vc Try.prog G55 za1 (cdF Try.f55 [1,0,1,1]) (zca (zcp Try.prog Try.f55 K)) (zJy zaa zj5 zed)
def zg6 (zaa:(Sl Gate)) (zab:(Sl Mp)) (zbh:(List (List Int))) (zaI:Int):St:=⟨[(0,.one (.c (.p (.sl zaa.len 3 (fun i=>enc_55 (zaa.get i)))))),(5,.one (.c (.p (.sl zab.len 1 (fun i=>zcG (zab.get i)))))),(6,.one (.c (.p (.int .i64 zaI)))),(24,.one (.c (.ptr 24 0)))],[(24,.mit (true,2,false,[some .i64]) ((zab.get 0).n) ((zab.get 0).F) zbh)],[]⟩
def zj6 (K:List PA→Prop) (zaa:(Sl Gate)) (zab:(Sl Mp)) (zbh:(List (List Int))) (zaI:Int):Prop:=vc Try.prog G55 za1 (cdF Try.f55 [1,0,1,1,1,0,1,0]) (za5 0 (sqK Try.prog G55 za1 (cdF Try.f55 [1,0,1,1,1,1]) (zca (zcp Try.prog Try.f55 K)))) (zg6 zaa zab zbh zaI)
def zJz (zaa:(Sl Gate)) (zab:(Sl Mp)) (zdg:Int):St:=⟨[(0,.one (.c (.p (.sl zaa.len 3 (fun i=>enc_55 (zaa.get i)))))),(5,.one (.c (.p (.sl zab.len 1 (fun i=>zcG (zab.get i)))))),(6,.one (.c (.p (.int .i64 zdg))))],[],[]⟩
def zmv (K:List PA→Prop) (zaa:(Sl Gate)) (zab:(Sl Mp)) (zdg:Int):Prop:=vc Try.prog G55 za1 (cdF Try.f55 [1,0,1,1,1,1]) (zca (zcp Try.prog Try.f55 K)) (zJz zaa zab zdg)
def ziv (zaa:(Sl Gate)) (zab:(Sl Mp)) (zaT:Int) (pv5:Int):St:=⟨[(0,.one (.c (.p (.sl zaa.len 3 (fun i=>enc_55 (zaa.get i)))))),(5,.one (.c (.p (.sl zab.len 1 (fun i=>zcG (zab.get i)))))),(6,.one (.c (.p (.int .i64 zaT)))),(9,.one (.c (.p (.nils)))),(10,.one (.c (.p (.int .i64 pv5))))],[],[]⟩
def zj7 (K:List PA→Prop) (zaa:(Sl Gate)) (zab:(Sl Mp)) (zaT:Int) (pv5:Int):Prop:=vc Try.prog G55 za1 (cdF Try.f55 [1,0,1,1,1,1,1,1,0,1,0]) (za5 2 (sqK Try.prog G55 za1 (cdF Try.f55 [1,0,1,1,1,1,1,1,1]) (zca (zcp Try.prog Try.f55 K)))) (ziv zaa zab zaT pv5)
def zj8 (zaa:(Sl Gate)) (zab:(Sl Mp)) (zaP:Int) (pv6:Int) (qv6:Int):St:=⟨[(0,.one (.c (.p (.sl zaa.len 3 (fun i=>enc_55 (zaa.get i)))))),(5,.one (.c (.p (.sl zab.len 1 (fun i=>zcG (zab.get i)))))),(6,.one (.c (.p (.int .i64 zaP)))),(9,.one (.c (.p (.nils)))),(10,.one (.c (.p (.int .i64 pv6)))),(11,.one (.c (.p (.int .i64 qv6))))],[],[]⟩
def zj9 (K:List PA→Prop) (X5:St→Prop) (zaa:(Sl Gate)) (zab:(Sl Mp)) (zaP:Int) (pv6:Int) (qv6:Int):Prop:=vc Try.prog G55 za1 (cdF Try.f55 [1,0,1,1,1,1,1,1,0,1,0,0,1,0,0,1,0]) (za5 4 (za5 3 (sqK Try.prog G55 za1 (cdF Try.f55 [1,0,1,1,1,1,1,1,0,1,0,0,1,1]) (zdR Try.prog za1 12 X5 (za5 2 (sqK Try.prog G55 za1 (cdF Try.f55 [1,0,1,1,1,1,1,1,1]) (zca (zcp Try.prog Try.f55 K)))))))) (zj8 zaa zab zaP pv6 qv6)
def zJA (zaa:(Sl Gate)) (zab:(Sl Mp)) (zdh:Int) (zpP:Nat) (zhE:Nat→List PV):St:=⟨[(0,.one (.c (.p (.sl zaa.len 3 (fun i=>enc_55 (zaa.get i)))))),(5,.one (.c (.p (.sl zab.len 1 (fun i=>zcG (zab.get i)))))),(6,.one (.c (.p (.int .i64 zdh)))),(9,.one (.c (.vec 72)))],[(72,.vec 3 1 8 zpP zhE)],[]⟩
def zka (K:List PA→Prop) (zaa:(Sl Gate)) (zab:(Sl Mp)) (zdh:Int) (zpP:Nat) (zhE:Nat→List PV):Prop:=vc Try.prog G55 za1 (cdF Try.f55 [1,0,1,1,1,1,1,1,1]) (zca (zcp Try.prog Try.f55 K)) (zJA zaa zab zdh zpP zhE)
def zf1 (zaa:(Sl Gate)) (zab:(Sl Mp)) (zaR:Int) (iv8:Int) (zff:Nat) (zbC:Nat→List PV):St:=⟨[(0,.one (.c (.p (.sl zaa.len 3 (fun i=>enc_55 (zaa.get i)))))),(5,.one (.c (.p (.sl zab.len 1 (fun i=>zcG (zab.get i)))))),(6,.one (.c (.p (.int .i64 zaR)))),(9,.one (.c (.vec 72))),(12,.one (.c (.p (.int .i64 iv8))))],[(72,.vec 3 1 8 zff zbC)],[]⟩
def zkb (K:List PA→Prop) (zaa:(Sl Gate)) (zab:(Sl Mp)) (zaR:Int) (iv8:Int) (zff:Nat) (zbC:Nat→List PV):Prop:=vc Try.prog G55 za1 (cdF Try.f55 [1,0,1,1,1,1,1,1,1,0,1,0]) (za5 6 (sqK Try.prog G55 za1 (cdF Try.f55 [1,0,1,1,1,1,1,1,1,1]) (zca (zcp Try.prog Try.f55 K)))) (zf1 zaa zab zaR iv8 zff zbC)
def ziw (zaa:(Sl Gate)) (zab:(Sl Mp)) (zaG:Int) (iv9:Int) (pv9:Int) (qv9:Int) (rv9:Int) (zfg:Nat) (zbK:Nat→List PV):St:=⟨[(0,.one (.c (.p (.sl zaa.len 3 (fun i=>enc_55 (zaa.get i)))))),(5,.one (.c (.p (.sl zab.len 1 (fun i=>zcG (zab.get i)))))),(6,.one (.c (.p (.int .i64 zaG)))),(9,.one (.c (.vec 72))),(12,.one (.c (.p (.int .i64 iv9)))),(13,.one (.c (.p (.int .i64 pv9)))),(14,.one (.c (.p (.int .i64 qv9)))),(15,.one (.c (.p (.int .i64 rv9))))],[(72,.vec 3 1 8 zfg zbK)],[]⟩
def zkc (K:List PA→Prop) (X8:St→Prop) (zaa:(Sl Gate)) (zab:(Sl Mp)) (zaG:Int) (iv9:Int) (pv9:Int) (qv9:Int) (rv9:Int) (zfg:Nat) (zbK:Nat→List PV):Prop:=vc Try.prog G55 za1 (cdF Try.f55 [1,0,1,1,1,1,1,1,1,0,1,0,0,1,0,0,1,1,0]) (za5 8 (za5 7 (sqK Try.prog G55 za1 (cdF Try.f55 [1,0,1,1,1,1,1,1,1,0,1,0,0,1,1]) (zdR Try.prog za1 20 X8 (za5 6 (sqK Try.prog G55 za1 (cdF Try.f55 [1,0,1,1,1,1,1,1,1,1]) (zca (zcp Try.prog Try.f55 K)))))))) (ziw zaa zab zaG iv9 pv9 qv9 rv9 zfg zbK)
def zFu (zaa:(Sl Gate)) (zab:(Sl Mp)) (zbS:Int) (zhc:Int) (zoj:Int) (zok:Int) (zkE:Int) (zcu:Bool) (zmw:Nat) (zfJ:Nat→List PV):St:=⟨[(0,.one (.c (.p (.sl zaa.len 3 (fun i=>enc_55 (zaa.get i)))))),(5,.one (.c (.p (.sl zab.len 1 (fun i=>zcG (zab.get i)))))),(6,.one (.c (.p (.int .i64 zbS)))),(9,.one (.c (.vec 72))),(12,.one (.c (.p (.int .i64 zhc)))),(13,.one (.c (.p (.int .i64 zoj)))),(14,.one (.c (.p (.int .i64 zok)))),(15,.one (.c (.p (.int .i64 zkE)))),(138,.one (.c (.p (.bool zcu))))],[(72,.vec 3 1 8 zmw zfJ)],[]⟩
def zg7 (K:List PA→Prop) (X8:St→Prop) (X9:St→Prop) (zaa:(Sl Gate)) (zab:(Sl Mp)) (zbS:Int) (zhc:Int) (zoj:Int) (zok:Int) (zkE:Int) (zcu:Bool) (zmw:Nat) (zfJ:Nat→List PV):Prop:=vc Try.prog G55 za1 (cdF Try.f55 [1,0,1,1,1,1,1,1,1,0,1,0,0,1,0,0,1,1,0,0,1,0,0,1]) (za5 9 (sqK Try.prog G55 za1 (cdF Try.f55 [1,0,1,1,1,1,1,1,1,0,1,0,0,1,0,0,1,1,0,0,1,1]) (zdR Try.prog za1 24 X9 (za5 8 (za5 7 (sqK Try.prog G55 za1 (cdF Try.f55 [1,0,1,1,1,1,1,1,1,0,1,0,0,1,1]) (zdR Try.prog za1 20 X8 (za5 6 (sqK Try.prog G55 za1 (cdF Try.f55 [1,0,1,1,1,1,1,1,1,1]) (zca (zcp Try.prog Try.f55 K))))))))))) (zFu zaa zab zbS zhc zoj zok zkE zcu zmw zfJ)
theorem zFv (zaa : (Sl Gate)) (K : List PA → Prop) :
  vcFun Try.prog G55 za1 55 [.one (.sl zaa.len 3 (fun i=>enc_55 (zaa.get i)))] K =
  ((IsE enc_55 3 3 (fun i=>enc_55 (zaa.get i))∧(p92 zaa=true)) ∧
 (zms K zaa (!(s92 zaa)))):=by kernel_rfl
theorem zFw (K : List PA → Prop) (zaa : (Sl Gate)) (zgq : Bool) :
  zms K zaa zgq =
  (zc0 zgq
 (K [.one (.nils),.one (.int .i64 (0:Int)),.one (.int .i64 (2:Int))])
 (zmt K zaa)):=by kernel_rfl
theorem zFx (K : List PA → Prop) (zaa : (Sl Gate)) :
  zmt K zaa =
  ((IsE enc_55 3 3 (fun i=>enc_55 (zaa.get i))∧(p93 zaa=true)) ∧
 (zmu K zaa ((s93 zaa).len) (fun i=>zcG ((s93 zaa).get i)))):=by kernel_rfl
theorem zFy (K : List PA → Prop) (zaa : (Sl Gate)) (zab : (Sl Mp)) :
  zmu K zaa zab.len (fun i=>zcG (zab.get i)) =
  (((0≤(0:Int)∧(0:Int) < (zab.len:Int))) ∧
 (zj6 K zaa zab ([]) (-1:Int))):=by kernel_rfl
def zn2 (K:List PA→Prop) (X3:St→Prop) (zaa:(Sl Gate)) (zab:(Sl Mp)) (zbh:(List (List Int))) (zaI:Int):Prop :=
  (zHB 2 ((zab.get 0).n) ((zab.get 0).F) →
 ((∀ c:List Int,c.length=2→((zab.get 0).F) c ≠ none→c∈zbh) →
 (zmv K zaa zab zaI))∧∀ k24_0 k24_1:Int,((zab.get 0).F) [k24_0,k24_1] ≠ none→[k24_0,k24_1] ∉ zbh →
 (zc0 (decide (zaI < (0:Int)))
 (X3 (zg6 zaa zab ([k24_0,k24_1] :: zbh) (zdN (((zab.get 0).F) [k24_0,k24_1]) 0)))
 (zc0 (decide ((zdN (((zab.get 0).F) [k24_0, k24_1]) 0) < zaI))
 (X3 (zg6 zaa zab ([k24_0,k24_1] :: zbh) (zdN (((zab.get 0).F) [k24_0,k24_1]) 0)))
 (X3 (zg6 zaa zab ([k24_0,k24_1] :: zbh) zaI)))))
theorem zpQ (K : List PA → Prop) (X3 : St → Prop) (zaa : (Sl Gate)) (zab : (Sl Mp)) (zbh : (List (List Int))) (zaI : Int) :
  vc Try.prog G55 za1 (cd (cdF Try.f55 [1,0,1,1,1,0,1,0]) [0]) (zdR Try.prog za1 6 X3 (za5 0 (sqK Try.prog G55 za1 (cdF Try.f55 [1,0,1,1,1,1]) (zca (zcp Try.prog Try.f55 K))))) (zg6 zaa zab zbh zaI) =
  zn2 K X3 zaa zab zbh zaI:=by kernel_rfl
theorem zx9 (K : List PA → Prop) (zaa : (Sl Gate)) (zab : (Sl Mp)) (zbh : (List (List Int))) (zaI : Int)
  (h:∀ X3:St→Prop,(∀ (zbh:(List (List Int))) (zaI:Int),zn2 K X3 zaa zab zbh zaI→X3 (zg6 zaa zab zbh zaI))→X3 (zg6 zaa zab zbh zaI)) :
  zj6 K zaa zab zbh zaI:=by
  have e:zj6 K zaa zab zbh zaI=(∀ X:St→Prop,(∀ s,vc Try.prog G55 za1 (cd (cdF Try.f55 [1,0,1,1,1,0,1,0]) [0]) (zdR Try.prog za1 6 X (za5 0 (sqK Try.prog G55 za1 (cdF Try.f55 [1,0,1,1,1,1]) (zca (zcp Try.prog Try.f55 K))))) s→X s)→X (zg6 zaa zab zbh zaI)):=by kernel_rfl
  refine zaD e ?_
  intro X hX
  refine h X ?_
  intro zbh zaI hs
  refine hX _ ?_
  have e2:=zpQ K X zaa zab zbh zaI
  rw [e2]
  exact hs
theorem zFz (K : List PA → Prop) (zaa : (Sl Gate)) (zab : (Sl Mp)) (zdg : Int) :
  zmv K zaa zab zdg =
  (((0≤(0:Int)∧(0:Int) < (zaa.len:Int))) ∧
 (zj7 K zaa zab zdg ((zaa.get 0).Low))):=by kernel_rfl
def zn3 (K:List PA→Prop) (X5:St→Prop) (zaa:(Sl Gate)) (zab:(Sl Mp)) (zaT:Int) (pv5:Int):Prop :=
  (((0≤(0:Int)∧(0:Int) < (zaa.len:Int))) ∧
 (zc0 (decide (pv5 ≤ (zaa.get 0).High))
 (((0≤(1:Int)∧(1:Int) < (zaa.len:Int))) ∧
 (zj9 K X5 zaa zab zaT pv5 ((zaa.get 1).Low)))
 (zka K zaa zab zaT 0 (fun i=>zaq ((fun _=>default) i)))))
theorem zpR (K : List PA → Prop) (X5 : St → Prop) (zaa : (Sl Gate)) (zab : (Sl Mp)) (zaT : Int) (pv5 : Int) :
  vc Try.prog G55 za1 (cd (cdF Try.f55 [1,0,1,1,1,1,1,1,0,1,0]) [0]) (zdR Try.prog za1 12 X5 (za5 2 (sqK Try.prog G55 za1 (cdF Try.f55 [1,0,1,1,1,1,1,1,1]) (zca (zcp Try.prog Try.f55 K))))) (ziv zaa zab zaT pv5) =
  zn3 K X5 zaa zab zaT pv5:=by kernel_rfl
theorem zya (K : List PA → Prop) (zaa : (Sl Gate)) (zab : (Sl Mp)) (zaT : Int) (pv5 : Int)
  (h:∀ X5:St→Prop,(∀ (zaT:Int) (pv5:Int),zn3 K X5 zaa zab zaT pv5→X5 (ziv zaa zab zaT pv5))→X5 (ziv zaa zab zaT pv5)) :
  zj7 K zaa zab zaT pv5:=by
  have e:zj7 K zaa zab zaT pv5=(∀ X:St→Prop,(∀ s,vc Try.prog G55 za1 (cd (cdF Try.f55 [1,0,1,1,1,1,1,1,0,1,0]) [0]) (zdR Try.prog za1 12 X (za5 2 (sqK Try.prog G55 za1 (cdF Try.f55 [1,0,1,1,1,1,1,1,1]) (zca (zcp Try.prog Try.f55 K))))) s→X s)→X (ziv zaa zab zaT pv5)):=by kernel_rfl
  refine zaD e ?_
  intro X hX
  refine h X ?_
  intro zaT pv5 hs
  refine hX _ ?_
  have e2:=zpR K X zaa zab zaT pv5
  rw [e2]
  exact hs
def zn4 (K:List PA→Prop) (X5:St→Prop) (X6:St→Prop) (zaa:(Sl Gate)) (zab:(Sl Mp)) (zaP:Int) (pv6:Int) (qv6:Int):Prop :=
  (((0≤(1:Int)∧(1:Int) < (zaa.len:Int))) ∧
 (zc0 (decide (qv6 ≤ (zaa.get 1).High))
 (((0≤(0:Int)∧(0:Int) < (zab.len:Int))) ∧
 (zc0 ((zdN (((zab.get 0).F) [pv6, qv6]) 0) == zaP)
 (zka K zaa zab zaP 2 (zdi [(zaq pv6),(zaq qv6)]))
 (X6 (zj8 zaa zab zaP pv6 (w64 (qv6+(1:Int)))))))
 (X5 (ziv zaa zab zaP (w64 (pv6+(1:Int)))))))
theorem zpS (K : List PA → Prop) (X5 : St → Prop) (X6 : St → Prop) (zaa : (Sl Gate)) (zab : (Sl Mp)) (zaP : Int) (pv6 : Int) (qv6 : Int) :
  vc Try.prog G55 za1 (cd (cdF Try.f55 [1,0,1,1,1,1,1,1,0,1,0,0,1,0,0,1,0]) [0]) (zdR Try.prog za1 15 X6 (za5 4 (za5 3 (sqK Try.prog G55 za1 (cdF Try.f55 [1,0,1,1,1,1,1,1,0,1,0,0,1,1]) (zdR Try.prog za1 12 X5 (za5 2 (sqK Try.prog G55 za1 (cdF Try.f55 [1,0,1,1,1,1,1,1,1]) (zca (zcp Try.prog Try.f55 K))))))))) (zj8 zaa zab zaP pv6 qv6) =
  zn4 K X5 X6 zaa zab zaP pv6 qv6:=by kernel_rfl
theorem zyb (K : List PA → Prop) (X5 : St → Prop) (zaa : (Sl Gate)) (zab : (Sl Mp)) (zaP : Int) (pv6 : Int) (qv6 : Int)
  (h:∀ X6:St→Prop,(∀ (zaP:Int) (pv6:Int) (qv6:Int),zn4 K X5 X6 zaa zab zaP pv6 qv6→X6 (zj8 zaa zab zaP pv6 qv6))→X6 (zj8 zaa zab zaP pv6 qv6)) :
  zj9 K X5 zaa zab zaP pv6 qv6:=by
  have e:zj9 K X5 zaa zab zaP pv6 qv6=(∀ X:St→Prop,(∀ s,vc Try.prog G55 za1 (cd (cdF Try.f55 [1,0,1,1,1,1,1,1,0,1,0,0,1,0,0,1,0]) [0]) (zdR Try.prog za1 15 X (za5 4 (za5 3 (sqK Try.prog G55 za1 (cdF Try.f55 [1,0,1,1,1,1,1,1,0,1,0,0,1,1]) (zdR Try.prog za1 12 X5 (za5 2 (sqK Try.prog G55 za1 (cdF Try.f55 [1,0,1,1,1,1,1,1,1]) (zca (zcp Try.prog Try.f55 K))))))))) s→X s)→X (zj8 zaa zab zaP pv6 qv6)):=by kernel_rfl
  refine zaD e ?_
  intro X hX
  refine h X ?_
  intro zaP pv6 qv6 hs
  refine hX _ ?_
  have e2:=zpS K X5 X zaa zab zaP pv6 qv6
  rw [e2]
  exact hs
theorem zFA (K : List PA → Prop) (zaa : (Sl Gate)) (zab : (Sl Mp)) (zdh : Int) (zfS : (Sl Int)) :
  zka K zaa zab zdh zfS.len (fun i=>zaq (zfS.get i)) =
  (zkb K zaa zab zdh (2:Int) zfS.len (fun i=>zaq (zfS.get i))):=by kernel_rfl
def zn5 (K:List PA→Prop) (X8:St→Prop) (zaa:(Sl Gate)) (zab:(Sl Mp)) (zaR:Int) (iv8:Int) (za0:(Sl Int)):Prop :=
  (zc0 (decide (iv8 < (zaa.len : Int)))
 (((0≤(w64 (iv8 - (2:Int)))∧(w64 (iv8 - (2:Int))) < (za0.len:Int))) ∧
 ((((w64 (iv8 - (2:Int))).toNat < za0.len)) ∧
 (((0≤(w64 (iv8 - (1:Int)))∧(w64 (iv8 - (1:Int))) < (za0.len:Int))) ∧
 ((((w64 (iv8 - (1:Int))).toNat < za0.len)) ∧
 (((0≤iv8∧iv8 < (zaa.len:Int))) ∧
 (zkc K X8 zaa zab zaR iv8 (za0.get ((w64 (iv8 - (2:Int))).toNat)) (za0.get ((w64 (iv8 - (1:Int))).toNat)) ((zaa.get iv8.toNat).Low) za0.len (fun i=>zaq (za0.get i))))))))
 (K [.one (.sl za0.len 1 (fun i=>zaq (za0.get i))),.one (.int .i64 zaR),.one (.int .i64 (0:Int))]))
theorem zpT (K : List PA → Prop) (X8 : St → Prop) (zaa : (Sl Gate)) (zab : (Sl Mp)) (zaR : Int) (iv8 : Int) (za0 : (Sl Int)) :
  vc Try.prog G55 za1 (cd (cdF Try.f55 [1,0,1,1,1,1,1,1,1,0,1,0]) [0]) (zdR Try.prog za1 20 X8 (za5 6 (sqK Try.prog G55 za1 (cdF Try.f55 [1,0,1,1,1,1,1,1,1,1]) (zca (zcp Try.prog Try.f55 K))))) (zf1 zaa zab zaR iv8 za0.len (fun i=>zaq (za0.get i))) =
  zn5 K X8 zaa zab zaR iv8 za0:=by kernel_rfl
theorem zyc (K : List PA → Prop) (zaa : (Sl Gate)) (zab : (Sl Mp)) (zaR : Int) (iv8 : Int) (zff : Nat) (zbC : Nat → List PV)
  (h:∀ X8:St→Prop,(∀ (zaR:Int) (iv8:Int) (za0:(Sl Int)),zn5 K X8 zaa zab zaR iv8 za0→X8 (zf1 zaa zab zaR iv8 za0.len (fun i=>zaq (za0.get i))))→X8 (zf1 zaa zab zaR iv8 zff zbC)) :
  zkb K zaa zab zaR iv8 zff zbC:=by
  have e:zkb K zaa zab zaR iv8 zff zbC=(∀ X:St→Prop,(∀ s,vc Try.prog G55 za1 (cd (cdF Try.f55 [1,0,1,1,1,1,1,1,1,0,1,0]) [0]) (zdR Try.prog za1 20 X (za5 6 (sqK Try.prog G55 za1 (cdF Try.f55 [1,0,1,1,1,1,1,1,1,1]) (zca (zcp Try.prog Try.f55 K))))) s→X s)→X (zf1 zaa zab zaR iv8 zff zbC)):=by kernel_rfl
  refine zaD e ?_
  intro X hX
  refine h X ?_
  intro zaR iv8 za0 hs
  refine hX _ ?_
  have e2:=zpT K X zaa zab zaR iv8 za0
  rw [e2]
  exact hs
def zn6 (K:List PA→Prop) (X8:St→Prop) (X9:St→Prop) (zaa:(Sl Gate)) (zab:(Sl Mp)) (zaG:Int) (iv9:Int) (pv9:Int) (qv9:Int) (rv9:Int) (zbj:(Sl Int)):Prop :=
  (((0≤iv9∧iv9 < (zaa.len:Int))) ∧
 (zc0 (decide (rv9 ≤ (zaa.get iv9.toNat).High))
 (((0≤(w64 (iv9 - (2:Int)))∧(w64 (iv9 - (2:Int))) < (zaa.len:Int))) ∧
 (((0≤(w64 (iv9 - (1:Int)))∧(w64 (iv9 - (1:Int))) < (zaa.len:Int))) ∧
 (((0≤iv9∧iv9 < (zaa.len:Int))) ∧
 (((p85 ((zaa.get ((w64 (iv9 - (2:Int))).toNat)).Z) ((zaa.get ((w64 (iv9 - (1:Int))).toNat)).Z) ((zaa.get iv9.toNat).Z) pv9 qv9 rv9=true)) ∧
 (zc0 (decide ((s85 ((zaa.get ((w64 (iv9 - (2:Int))).toNat)).Z) ((zaa.get ((w64 (iv9 - (1:Int))).toNat)).Z) ((zaa.get iv9.toNat).Z) pv9 qv9 rv9) ≤ zaG))
 (((0≤(w64 (iv9 - (1:Int)))∧(w64 (iv9 - (1:Int))) < (zab.len:Int))) ∧
 (zg7 K X8 X9 zaa zab zaG iv9 pv9 qv9 rv9 (decide ((zdN (((zab.get ((w64 (iv9 - (1:Int))).toNat)).F) [qv9,rv9]) 0)≤zaG)) zbj.len (fun i=>zaq (zbj.get i))))
 (zg7 K X8 X9 zaa zab zaG iv9 pv9 qv9 rv9 false zbj.len (fun i=>zaq (zbj.get i))))))))
 (X8 (zf1 zaa zab zaG (w64 (iv9+(1:Int))) zbj.len (fun i=>zaq (zbj.get i))))))
theorem zpU (K : List PA → Prop) (X8 : St → Prop) (X9 : St → Prop) (zaa : (Sl Gate)) (zab : (Sl Mp)) (zaG : Int) (iv9 : Int) (pv9 : Int) (qv9 : Int) (rv9 : Int) (zbj : (Sl Int)) :
  vc Try.prog G55 za1 (cd (cdF Try.f55 [1,0,1,1,1,1,1,1,1,0,1,0,0,1,0,0,1,1,0]) [0]) (zdR Try.prog za1 24 X9 (za5 8 (za5 7 (sqK Try.prog G55 za1 (cdF Try.f55 [1,0,1,1,1,1,1,1,1,0,1,0,0,1,1]) (zdR Try.prog za1 20 X8 (za5 6 (sqK Try.prog G55 za1 (cdF Try.f55 [1,0,1,1,1,1,1,1,1,1]) (zca (zcp Try.prog Try.f55 K))))))))) (ziw zaa zab zaG iv9 pv9 qv9 rv9 zbj.len (fun i=>zaq (zbj.get i))) =
  zn6 K X8 X9 zaa zab zaG iv9 pv9 qv9 rv9 zbj:=by kernel_rfl
theorem zyd (K : List PA → Prop) (X8 : St → Prop) (zaa : (Sl Gate)) (zab : (Sl Mp)) (zaG : Int) (iv9 : Int) (pv9 : Int) (qv9 : Int) (rv9 : Int) (zfg : Nat) (zbK : Nat → List PV)
  (h:∀ X9:St→Prop,(∀ (zaG:Int) (iv9:Int) (pv9:Int) (qv9:Int) (rv9:Int) (zbj:(Sl Int)),zn6 K X8 X9 zaa zab zaG iv9 pv9 qv9 rv9 zbj→X9 (ziw zaa zab zaG iv9 pv9 qv9 rv9 zbj.len (fun i=>zaq (zbj.get i))))→X9 (ziw zaa zab zaG iv9 pv9 qv9 rv9 zfg zbK)) :
  zkc K X8 zaa zab zaG iv9 pv9 qv9 rv9 zfg zbK:=by
  have e:zkc K X8 zaa zab zaG iv9 pv9 qv9 rv9 zfg zbK=(∀ X:St→Prop,(∀ s,vc Try.prog G55 za1 (cd (cdF Try.f55 [1,0,1,1,1,1,1,1,1,0,1,0,0,1,0,0,1,1,0]) [0]) (zdR Try.prog za1 24 X (za5 8 (za5 7 (sqK Try.prog G55 za1 (cdF Try.f55 [1,0,1,1,1,1,1,1,1,0,1,0,0,1,1]) (zdR Try.prog za1 20 X8 (za5 6 (sqK Try.prog G55 za1 (cdF Try.f55 [1,0,1,1,1,1,1,1,1,1]) (zca (zcp Try.prog Try.f55 K))))))))) s→X s)→X (ziw zaa zab zaG iv9 pv9 qv9 rv9 zfg zbK)):=by kernel_rfl
  refine zaD e ?_
  intro X hX
  refine h X ?_
  intro zaG iv9 pv9 qv9 rv9 zbj hs
  refine hX _ ?_
  have e2:=zpU K X8 X zaa zab zaG iv9 pv9 qv9 rv9 zbj
  rw [e2]
  exact hs
theorem zBi (K : List PA → Prop) (X8 : St → Prop) (X9 : St → Prop) (zaa : (Sl Gate)) (zab : (Sl Mp)) (zbS : Int) (zhc : Int) (zoj : Int) (zok : Int) (zkE : Int) (zcu : Bool) (zbp : (Sl Int)) :
  zg7 K X8 X9 zaa zab zbS zhc zoj zok zkE zcu zbp.len (fun i=>zaq (zbp.get i)) =
  (zc0 zcu
 ((((zbp.len+1) * 8≤140737488355328∧zbp.len+1≤9223372036854775807)) ∧
 (X8 (zf1 zaa zab zbS (w64 (zhc+(1:Int))) (zbp.len+1) (appG zbp.len (fun i=>zaq (zbp.get i)) (fun _=>(zaq zkE))))))
 (X9 (ziw zaa zab zbS zhc zoj zok (w64 (zkE+(1:Int))) zbp.len (fun i=>zaq (zbp.get i))))):=by kernel_rfl
abbrev e55 (r:((Sl Int)×Int×Int)):List PA:=[.one (.sl r.1.len 1 (fun i=>zaq (r.1.get i))),.one (.int .i64 r.2.1),.one (.int .i64 r.2.2)]
attribute [irreducible] zms zmt zmu zj6 zmv zj7 zj9 zka zkb zkc zg7
def ziZ (S8:Int→Int→(Sl Int)→((Sl Int)×Int×Int)) (S9:Int→Int→Int→Int→Int→(Sl Int)→((Sl Int)×Int×Int)) (zaa:(Sl Gate)) (zab:(Sl Mp)) (zbS:Int) (zhc:Int) (zoj:Int) (zok:Int) (zkE:Int) (zcu:Bool) (zbp:(Sl Int)):((Sl Int)×Int×Int) :=
  (cond zcu
 (S8 zbS (w64 (zhc+(1:Int))) (⟨(zbp.len+1),(zdT zbp.len zbp.get (fun _=>zkE))⟩:Sl Int))
 (S9 zbS zhc zoj zok (w64 (zkE+(1:Int))) zbp))
def zi0 (P8:Int→Int→(Sl Int)→Bool) (P9:Int→Int→Int→Int→Int→(Sl Int)→Bool) (zaa:(Sl Gate)) (zab:(Sl Mp)) (zbS:Int) (zhc:Int) (zoj:Int) (zok:Int) (zkE:Int) (zcu:Bool) (zbp:(Sl Int)):Bool :=
  (cond zcu
 (decide (((zbp.len+1) * 8≤140737488355328∧zbp.len+1≤9223372036854775807)) &&
 (P8 zbS (w64 (zhc+(1:Int))) (⟨(zbp.len+1),(zdT zbp.len zbp.get (fun _=>zkE))⟩:Sl Int)))
 (P9 zbS zhc zoj zok (w64 (zkE+(1:Int))) zbp))
theorem zst (K : List PA → Prop) (zaa : (Sl Gate)) (zab : (Sl Mp))
  (X8:St→Prop) (P8:Int→Int→(Sl Int)→Bool) (S8:Int→Int→(Sl Int)→((Sl Int)×Int×Int))
  (hX8:∀ (zaR:Int) (iv8:Int) (za0:(Sl Int)) (zbC:Nat→List PV) (zgr:zbC=fun i=>zaq (za0.get i)),P8 zaR iv8 za0=true→K (e55 (S8 zaR iv8 za0))→X8 (zf1 zaa zab zaR iv8 za0.len zbC))
  (X9:St→Prop) (P9:Int→Int→Int→Int→Int→(Sl Int)→Bool) (S9:Int→Int→Int→Int→Int→(Sl Int)→((Sl Int)×Int×Int))
  (hX9:∀ (zaG:Int) (iv9:Int) (pv9:Int) (qv9:Int) (rv9:Int) (zbj:(Sl Int)) (zbK:Nat→List PV) (zhF:zbK=fun i=>zaq (zbj.get i)),P9 zaG iv9 pv9 qv9 rv9 zbj=true→K (e55 (S9 zaG iv9 pv9 qv9 rv9 zbj))→X9 (ziw zaa zab zaG iv9 pv9 qv9 rv9 zbj.len zbK)) (zbS:Int) (zhc:Int) (zoj:Int) (zok:Int) (zkE:Int) (zcu:Bool) (zbp:(Sl Int)) (zfJ:Nat→List PV) (zBj:zfJ=fun i=>zaq (zbp.get i)) (hs:zi0 P8 P9 zaa zab zbS zhc zoj zok zkE zcu zbp=true) (hk:K (e55 (ziZ S8 S9 zaa zab zbS zhc zoj zok zkE zcu zbp))):zg7 (Wk K) X8 X9 zaa zab zbS zhc zoj zok zkE zcu zbp.len zfJ:=by
  subst zBj
  refine zaD (zBi (Wk K) X8 X9 zaa zab zbS zhc zoj zok zkE zcu zbp) ?_
  unfold zi0 at hs
  unfold ziZ at hk
  exact (zci (K := fun r => K (e55 r))
 (fun hs hk=>(zay hs fun hc hs=>⟨hc,(hX8 zbS (w64 (zhc+(1:Int))) (⟨(zbp.len+1),(zdT zbp.len zbp.get (fun _=>zkE))⟩:Sl Int) (appG zbp.len (fun i=>zaq (zbp.get i)) (fun _=>(zaq zkE))) (zeP (enc:=zaq) (f:=zbp.get) (h:=(fun _=>zkE)) rfl rfl) hs hk)⟩))
 (fun hs hk=>(hX9 zbS zhc zoj zok (w64 (zkE+(1:Int))) zbp (fun i=>zaq (zbp.get i)) rfl hs hk)) hs hk)
def zpV (S8:Int→Int→(Sl Int)→((Sl Int)×Int×Int)) (zaa:(Sl Gate)) (zab:(Sl Mp)) (S9:Int→Int→Int→Int→Int→(Sl Int)→((Sl Int)×Int×Int)) (zaG:Int) (iv9:Int) (pv9:Int) (qv9:Int) (rv9:Int) (zbj:(Sl Int)):((Sl Int)×Int×Int) :=
  (cond (decide (rv9 ≤ (zaa.get iv9.toNat).High))
 (cond (decide ((s85 ((zaa.get ((w64 (iv9 - (2:Int))).toNat)).Z) ((zaa.get ((w64 (iv9 - (1:Int))).toNat)).Z) ((zaa.get iv9.toNat).Z) pv9 qv9 rv9) ≤ zaG))
 (ziZ S8 S9 zaa zab zaG iv9 pv9 qv9 rv9 (decide ((zdN (((zab.get ((w64 (iv9 - (1:Int))).toNat)).F) [qv9,rv9]) 0)≤zaG)) zbj)
 (ziZ S8 S9 zaa zab zaG iv9 pv9 qv9 rv9 false zbj))
 (S8 zaG (w64 (iv9+(1:Int))) zbj))
def zpW (P8:Int→Int→(Sl Int)→Bool) (zaa:(Sl Gate)) (zab:(Sl Mp)) (P9:Int→Int→Int→Int→Int→(Sl Int)→Bool) (zaG:Int) (iv9:Int) (pv9:Int) (qv9:Int) (rv9:Int) (zbj:(Sl Int)):Bool :=
  (decide ((0≤iv9∧iv9 < (zaa.len:Int))) &&
 (cond (decide (rv9 ≤ (zaa.get iv9.toNat).High))
 (decide ((0≤(w64 (iv9 - (2:Int)))∧(w64 (iv9 - (2:Int))) < (zaa.len:Int))) &&
 (decide ((0≤(w64 (iv9 - (1:Int)))∧(w64 (iv9 - (1:Int))) < (zaa.len:Int))) &&
 (decide ((0≤iv9∧iv9 < (zaa.len:Int))) &&
 (decide ((p85 ((zaa.get ((w64 (iv9 - (2:Int))).toNat)).Z) ((zaa.get ((w64 (iv9 - (1:Int))).toNat)).Z) ((zaa.get iv9.toNat).Z) pv9 qv9 rv9=true)) &&
 (cond (decide ((s85 ((zaa.get ((w64 (iv9 - (2:Int))).toNat)).Z) ((zaa.get ((w64 (iv9 - (1:Int))).toNat)).Z) ((zaa.get iv9.toNat).Z) pv9 qv9 rv9) ≤ zaG))
 (decide ((0≤(w64 (iv9 - (1:Int)))∧(w64 (iv9 - (1:Int))) < (zab.len:Int))) &&
 (zi0 P8 P9 zaa zab zaG iv9 pv9 qv9 rv9 (decide ((zdN (((zab.get ((w64 (iv9 - (1:Int))).toNat)).F) [qv9,rv9]) 0)≤zaG)) zbj))
 (zi0 P8 P9 zaa zab zaG iv9 pv9 qv9 rv9 false zbj))))))
 (P8 zaG (w64 (iv9+(1:Int))) zbj)))
def zkd (S8 : Int → Int → (Sl Int) → ((Sl Int) × Int × Int)) (zaa : (Sl Gate)) (zab : (Sl Mp)) : Nat → Int → Int → Int → Int → Int → (Sl Int) → ((Sl Int) × Int × Int)
  | 0=>fun _ _ _ _ _ _=>default
  | k+1=>zpV S8 zaa zab (zkd S8 zaa zab k)
def zke (P8 : Int → Int → (Sl Int) → Bool) (zaa : (Sl Gate)) (zab : (Sl Mp)) : Nat → Int → Int → Int → Int → Int → (Sl Int) → Bool
  | 0=>fun _ _ _ _ _ _=>false
  | k+1=>zpW P8 zaa zab (zke P8 zaa zab k)
def zye (S8:Int→Int→(Sl Int)→((Sl Int)×Int×Int)) (zaa:(Sl Gate)) (zab:(Sl Mp)) (zaG:Int) (iv9:Int) (pv9:Int) (qv9:Int) (rv9:Int) (zbj:(Sl Int)):((Sl Int)×Int×Int):=zkd S8 zaa zab Fuel zaG iv9 pv9 qv9 rv9 zbj
def zyf (P8:Int→Int→(Sl Int)→Bool) (zaa:(Sl Gate)) (zab:(Sl Mp)) (zaG:Int) (iv9:Int) (pv9:Int) (qv9:Int) (rv9:Int) (zbj:(Sl Int)):Bool:=zke P8 zaa zab Fuel zaG iv9 pv9 qv9 rv9 zbj
theorem zFB (K : List PA → Prop) (zaa : (Sl Gate)) (zab : (Sl Mp))
  (X8:St→Prop) (P8:Int→Int→(Sl Int)→Bool) (S8:Int→Int→(Sl Int)→((Sl Int)×Int×Int))
  (hX8:∀ (zaR:Int) (iv8:Int) (za0:(Sl Int)) (zbC:Nat→List PV) (zgr:zbC=fun i=>zaq (za0.get i)),P8 zaR iv8 za0=true→K (e55 (S8 zaR iv8 za0))→X8 (zf1 zaa zab zaR iv8 za0.len zbC)) (zaG:Int) (iv9:Int) (pv9:Int) (qv9:Int) (rv9:Int) (zbj:(Sl Int)) (zbK:Nat→List PV) (zhF:zbK=fun i=>zaq (zbj.get i)) (hs:zyf P8 zaa zab zaG iv9 pv9 qv9 rv9 zbj=true) (hk:K (e55 (zye S8 zaa zab zaG iv9 pv9 qv9 rv9 zbj))):zkc (Wk K) X8 zaa zab zaG iv9 pv9 qv9 rv9 zbj.len zbK:=by
  refine zyd (Wk K) X8 zaa zab zaG iv9 pv9 qv9 rv9 zbj.len zbK ?_
  intro X9 hstep
  have key:∀ (k:Nat) (zaG:Int) (iv9:Int) (pv9:Int) (qv9:Int) (rv9:Int) (zbj:(Sl Int)) (zbK:Nat→List PV) (zhF:zbK=fun i=>zaq (zbj.get i)),zke P8 zaa zab k zaG iv9 pv9 qv9 rv9 zbj=true→K (e55 (zkd S8 zaa zab k zaG iv9 pv9 qv9 rv9 zbj))→X9 (ziw zaa zab zaG iv9 pv9 qv9 rv9 zbj.len zbK):=by
    intro k
    induction k with
    | zero=>intro zaG iv9 pv9 qv9 rv9 zbj zbK zhF hs;exact absurd hs Bool.false_ne_true
    | succ k ih =>
      intro zaG iv9 pv9 qv9 rv9 zbj zbK zhF hs hk
      subst zhF
      refine hstep zaG iv9 pv9 qv9 rv9 zbj ?_
      have hs:zpW P8 zaa zab (zke P8 zaa zab k) zaG iv9 pv9 qv9 rv9 zbj=true:=hs
      have hk:K (e55 (zpV S8 zaa zab (zkd S8 zaa zab k) zaG iv9 pv9 qv9 rv9 zbj)):=hk
      unfold zpW at hs
      unfold zpV at hk
      generalize zkd S8 zaa zab k=S9 at hk ih
      generalize zke P8 zaa zab k=P9 at hs ih
      have hX9:=ih
      exact (zay hs fun hc hs => ⟨hc, (zci (K := fun r => K (e55 r))
 (fun hs hk => (zay hs fun hc hs => ⟨hc, (zay hs fun hc hs => ⟨hc, (zay hs fun hc hs => ⟨hc, (zay hs fun hc hs => ⟨hc, (zci (K := fun r => K (e55 r))
 (fun hs hk=>(zay hs fun hc hs=>⟨hc,(zst K zaa zab X8 P8 S8 hX8 X9 P9 S9 hX9 zaG iv9 pv9 qv9 rv9 (decide ((zdN (((zab.get ((w64 (iv9 - (1:Int))).toNat)).F) [qv9,rv9]) 0)≤zaG)) zbj (fun i=>zaq (zbj.get i)) rfl hs hk)⟩))
 (fun hs hk=>(zst K zaa zab X8 P8 S8 hX8 X9 P9 S9 hX9 zaG iv9 pv9 qv9 rv9 false zbj (fun i=>zaq (zbj.get i)) rfl hs hk)) hs hk)⟩)⟩)⟩)⟩))
 (fun hs hk=>(hX8 zaG (w64 (iv9+(1:Int))) zbj (fun i=>zaq (zbj.get i)) rfl hs hk)) hs hk)⟩)
  exact key _ zaG iv9 pv9 qv9 rv9 zbj zbK zhF hs hk
def zpX (zaa:(Sl Gate)) (zab:(Sl Mp)) (S8:Int→Int→(Sl Int)→((Sl Int)×Int×Int)) (zaR:Int) (iv8:Int) (za0:(Sl Int)):((Sl Int)×Int×Int) :=
  (cond (decide (iv8 < (zaa.len : Int)))
 (zye S8 zaa zab zaR iv8 (za0.get ((w64 (iv8 - (2:Int))).toNat)) (za0.get ((w64 (iv8 - (1:Int))).toNat)) ((zaa.get iv8.toNat).Low) za0)
 (za0,zaR,(0:Int)))
def zpY (zaa:(Sl Gate)) (zab:(Sl Mp)) (P8:Int→Int→(Sl Int)→Bool) (zaR:Int) (iv8:Int) (za0:(Sl Int)):Bool :=
  (cond (decide (iv8 < (zaa.len : Int)))
 (decide ((0≤(w64 (iv8 - (2:Int)))∧(w64 (iv8 - (2:Int))) < (za0.len:Int))) &&
 (decide (((w64 (iv8 - (2:Int))).toNat < za0.len)) &&
 (decide ((0≤(w64 (iv8 - (1:Int)))∧(w64 (iv8 - (1:Int))) < (za0.len:Int))) &&
 (decide (((w64 (iv8 - (1:Int))).toNat < za0.len)) &&
 (decide ((0≤iv8∧iv8 < (zaa.len:Int))) &&
 (zyf P8 zaa zab zaR iv8 (za0.get ((w64 (iv8 - (2:Int))).toNat)) (za0.get ((w64 (iv8 - (1:Int))).toNat)) ((zaa.get iv8.toNat).Low) za0))))))
 true)
def zkf (zaa : (Sl Gate)) (zab : (Sl Mp)) : Nat → Int → Int → (Sl Int) → ((Sl Int) × Int × Int)
  | 0=>fun _ _ _=>default
  | k+1=>zpX zaa zab (zkf zaa zab k)
def zkg (zaa : (Sl Gate)) (zab : (Sl Mp)) : Nat → Int → Int → (Sl Int) → Bool
  | 0=>fun _ _ _=>false
  | k+1=>zpY zaa zab (zkg zaa zab k)
def zyg (zaa:(Sl Gate)) (zab:(Sl Mp)) (zaR:Int) (iv8:Int) (za0:(Sl Int)):((Sl Int)×Int×Int):=zkf zaa zab Fuel zaR iv8 za0
def zyh (zaa:(Sl Gate)) (zab:(Sl Mp)) (zaR:Int) (iv8:Int) (za0:(Sl Int)):Bool:=zkg zaa zab Fuel zaR iv8 za0
theorem zFC (K:List PA→Prop) (zaa:(Sl Gate)) (zab:(Sl Mp)) (zaR:Int) (iv8:Int) (za0:(Sl Int)) (zbC:Nat→List PV) (zgr:zbC=fun i=>zaq (za0.get i)) (hs:zyh zaa zab zaR iv8 za0=true) (hk:K (e55 (zyg zaa zab zaR iv8 za0))):zkb (Wk K) zaa zab zaR iv8 za0.len zbC:=by
  refine zyc (Wk K) zaa zab zaR iv8 za0.len zbC ?_
  intro X8 hstep
  have key:∀ (k:Nat) (zaR:Int) (iv8:Int) (za0:(Sl Int)) (zbC:Nat→List PV) (zgr:zbC=fun i=>zaq (za0.get i)),zkg zaa zab k zaR iv8 za0=true→K (e55 (zkf zaa zab k zaR iv8 za0))→X8 (zf1 zaa zab zaR iv8 za0.len zbC):=by
    intro k
    induction k with
    | zero=>intro zaR iv8 za0 zbC zgr hs;exact absurd hs Bool.false_ne_true
    | succ k ih =>
      intro zaR iv8 za0 zbC zgr hs hk
      subst zgr
      refine hstep zaR iv8 za0 ?_
      have hs:zpY zaa zab (zkg zaa zab k) zaR iv8 za0=true:=hs
      have hk:K (e55 (zpX zaa zab (zkf zaa zab k) zaR iv8 za0)):=hk
      unfold zpY at hs
      unfold zpX at hk
      generalize zkf zaa zab k=S8 at hk ih
      generalize zkg zaa zab k=P8 at hs ih
      have hX8:=ih
      exact (zci (K := fun r => K (e55 r))
 (fun hs hk=>(zay hs fun hc hs=>⟨hc,(zay hs fun hc hs=>⟨hc,(zay hs fun hc hs=>⟨hc,(zay hs fun hc hs=>⟨hc,(zay hs fun hc hs=>⟨hc,(zFB K zaa zab X8 P8 S8 hX8 zaR iv8 (za0.get ((w64 (iv8 - (2:Int))).toNat)) (za0.get ((w64 (iv8 - (1:Int))).toNat)) ((zaa.get iv8.toNat).Low) za0 (fun i=>zaq (za0.get i)) rfl hs hk)⟩)⟩)⟩)⟩)⟩))
 (fun hs hk=>(zd5 hk)) hs hk)
  exact key _ zaR iv8 za0 zbC zgr hs hk
def zmx (zaa:(Sl Gate)) (zab:(Sl Mp)) (zdh:Int) (zfS:(Sl Int)):((Sl Int)×Int×Int) :=
  (zyg zaa zab zdh (2:Int) zfS)
def zmy (zaa:(Sl Gate)) (zab:(Sl Mp)) (zdh:Int) (zfS:(Sl Int)):Bool :=
  (zyh zaa zab zdh (2:Int) zfS)
theorem zyi (K:List PA→Prop) (zaa:(Sl Gate)) (zab:(Sl Mp)) (zdh:Int) (zfS:(Sl Int)) (zhE:Nat→List PV) (zFD:zhE=fun i=>zaq (zfS.get i)) (hs:zmy zaa zab zdh zfS=true) (hk:K (e55 (zmx zaa zab zdh zfS))):zka (Wk K) zaa zab zdh zfS.len zhE:=by
  subst zFD
  refine zaD (zFA (Wk K) zaa zab zdh zfS) ?_
  unfold zmy at hs
  unfold zmx at hk
  exact (zFC K zaa zab zdh (2:Int) zfS (fun i=>zaq (zfS.get i)) rfl hs hk)
def zpZ (S5:Int→Int→((Sl Int)×Int×Int)) (zaa:(Sl Gate)) (zab:(Sl Mp)) (S6:Int→Int→Int→((Sl Int)×Int×Int)) (zaP:Int) (pv6:Int) (qv6:Int):((Sl Int)×Int×Int) :=
  (cond (decide (qv6 ≤ (zaa.get 1).High))
 (cond ((zdN (((zab.get 0).F) [pv6, qv6]) 0) == zaP)
 (zmx zaa zab zaP (⟨2,(zi1 pv6 [pv6,qv6])⟩:Sl Int))
 (S6 zaP pv6 (w64 (qv6+(1:Int)))))
 (S5 zaP (w64 (pv6+(1:Int)))))
def zp0 (P5:Int→Int→Bool) (zaa:(Sl Gate)) (zab:(Sl Mp)) (P6:Int→Int→Int→Bool) (zaP:Int) (pv6:Int) (qv6:Int):Bool :=
  (decide ((0≤(1:Int)∧(1:Int) < (zaa.len:Int))) &&
 (cond (decide (qv6 ≤ (zaa.get 1).High))
 (decide ((0≤(0:Int)∧(0:Int) < (zab.len:Int))) &&
 (cond ((zdN (((zab.get 0).F) [pv6, qv6]) 0) == zaP)
 (zmy zaa zab zaP (⟨2,(zi1 pv6 [pv6,qv6])⟩:Sl Int))
 (P6 zaP pv6 (w64 (qv6+(1:Int))))))
 (P5 zaP (w64 (pv6+(1:Int))))))
def zkh (S5 : Int → Int → ((Sl Int) × Int × Int)) (zaa : (Sl Gate)) (zab : (Sl Mp)) : Nat → Int → Int → Int → ((Sl Int) × Int × Int)
  | 0=>fun _ _ _=>default
  | k+1=>zpZ S5 zaa zab (zkh S5 zaa zab k)
def zki (P5 : Int → Int → Bool) (zaa : (Sl Gate)) (zab : (Sl Mp)) : Nat → Int → Int → Int → Bool
  | 0=>fun _ _ _=>false
  | k+1=>zp0 P5 zaa zab (zki P5 zaa zab k)
def zyj (S5:Int→Int→((Sl Int)×Int×Int)) (zaa:(Sl Gate)) (zab:(Sl Mp)) (zaP:Int) (pv6:Int) (qv6:Int):((Sl Int)×Int×Int):=zkh S5 zaa zab Fuel zaP pv6 qv6
def zyk (P5:Int→Int→Bool) (zaa:(Sl Gate)) (zab:(Sl Mp)) (zaP:Int) (pv6:Int) (qv6:Int):Bool:=zki P5 zaa zab Fuel zaP pv6 qv6
theorem zFE (K : List PA → Prop) (zaa : (Sl Gate)) (zab : (Sl Mp))
  (X5:St→Prop) (P5:Int→Int→Bool) (S5:Int→Int→((Sl Int)×Int×Int))
  (hX5:∀ (zaT:Int) (pv5:Int),P5 zaT pv5=true→K (e55 (S5 zaT pv5))→X5 (ziv zaa zab zaT pv5)) (zaP:Int) (pv6:Int) (qv6:Int) (hs:zyk P5 zaa zab zaP pv6 qv6=true) (hk:K (e55 (zyj S5 zaa zab zaP pv6 qv6))):zj9 (Wk K) X5 zaa zab zaP pv6 qv6:=by
  refine zyb (Wk K) X5 zaa zab zaP pv6 qv6 ?_
  intro X6 hstep
  have key:∀ (k:Nat) (zaP:Int) (pv6:Int) (qv6:Int),zki P5 zaa zab k zaP pv6 qv6=true→K (e55 (zkh S5 zaa zab k zaP pv6 qv6))→X6 (zj8 zaa zab zaP pv6 qv6):=by
    intro k
    induction k with
    | zero=>intro zaP pv6 qv6 hs;exact absurd hs Bool.false_ne_true
    | succ k ih =>
      intro zaP pv6 qv6 hs hk
      refine hstep zaP pv6 qv6 ?_
      have hs:zp0 P5 zaa zab (zki P5 zaa zab k) zaP pv6 qv6=true:=hs
      have hk:K (e55 (zpZ S5 zaa zab (zkh S5 zaa zab k) zaP pv6 qv6)):=hk
      unfold zp0 at hs
      unfold zpZ at hk
      generalize zkh S5 zaa zab k=S6 at hk ih
      generalize zki P5 zaa zab k=P6 at hs ih
      have hX6:=ih
      exact (zay hs fun hc hs => ⟨hc, (zci (K := fun r => K (e55 r))
 (fun hs hk => (zay hs fun hc hs => ⟨hc, (zci (K := fun r => K (e55 r))
 (fun hs hk=>(zyi K zaa zab zaP (⟨2,(zi1 pv6 [pv6,qv6])⟩:Sl Int) (zdi [(zaq pv6),(zaq qv6)]) (zeq (enc:=zaq) (x:=pv6) (y:=qv6) (r:=[])) hs hk))
 (fun hs hk=>(hX6 zaP pv6 (w64 (qv6+(1:Int))) hs hk)) hs hk)⟩))
 (fun hs hk=>(hX5 zaP (w64 (pv6+(1:Int))) hs hk)) hs hk)⟩)
  exact key _ zaP pv6 qv6 hs hk
def zp1 (zaa:(Sl Gate)) (zab:(Sl Mp)) (S5:Int→Int→((Sl Int)×Int×Int)) (zaT:Int) (pv5:Int):((Sl Int)×Int×Int) :=
  (cond (decide (pv5 ≤ (zaa.get 0).High))
 (zyj S5 zaa zab zaT pv5 ((zaa.get 1).Low))
 (zmx zaa zab zaT (⟨0,(fun _=>default)⟩:Sl Int)))
def zp2 (zaa:(Sl Gate)) (zab:(Sl Mp)) (P5:Int→Int→Bool) (zaT:Int) (pv5:Int):Bool :=
  (decide ((0≤(0:Int)∧(0:Int) < (zaa.len:Int))) &&
 (cond (decide (pv5 ≤ (zaa.get 0).High))
 (decide ((0≤(1:Int)∧(1:Int) < (zaa.len:Int))) &&
 (zyk P5 zaa zab zaT pv5 ((zaa.get 1).Low)))
 (zmy zaa zab zaT (⟨0,(fun _=>default)⟩:Sl Int))))
def zkj (zaa : (Sl Gate)) (zab : (Sl Mp)) : Nat → Int → Int → ((Sl Int) × Int × Int)
  | 0=>fun _ _=>default
  | k+1=>zp1 zaa zab (zkj zaa zab k)
def zkk (zaa : (Sl Gate)) (zab : (Sl Mp)) : Nat → Int → Int → Bool
  | 0=>fun _ _=>false
  | k+1=>zp2 zaa zab (zkk zaa zab k)
def zyl (zaa:(Sl Gate)) (zab:(Sl Mp)) (zaT:Int) (pv5:Int):((Sl Int)×Int×Int):=zkj zaa zab Fuel zaT pv5
def zym (zaa:(Sl Gate)) (zab:(Sl Mp)) (zaT:Int) (pv5:Int):Bool:=zkk zaa zab Fuel zaT pv5
theorem zFF (K:List PA→Prop) (zaa:(Sl Gate)) (zab:(Sl Mp)) (zaT:Int) (pv5:Int) (hs:zym zaa zab zaT pv5=true) (hk:K (e55 (zyl zaa zab zaT pv5))):zj7 (Wk K) zaa zab zaT pv5:=by
  refine zya (Wk K) zaa zab zaT pv5 ?_
  intro X5 hstep
  have key:∀ (k:Nat) (zaT:Int) (pv5:Int),zkk zaa zab k zaT pv5=true→K (e55 (zkj zaa zab k zaT pv5))→X5 (ziv zaa zab zaT pv5):=by
    intro k
    induction k with
    | zero=>intro zaT pv5 hs;exact absurd hs Bool.false_ne_true
    | succ k ih =>
      intro zaT pv5 hs hk
      refine hstep zaT pv5 ?_
      have hs:zp2 zaa zab (zkk zaa zab k) zaT pv5=true:=hs
      have hk:K (e55 (zp1 zaa zab (zkj zaa zab k) zaT pv5)):=hk
      unfold zp2 at hs
      unfold zp1 at hk
      generalize zkj zaa zab k=S5 at hk ih
      generalize zkk zaa zab k=P5 at hs ih
      have hX5:=ih
      exact (zay hs fun hc hs => ⟨hc, (zci (K := fun r => K (e55 r))
 (fun hs hk=>(zay hs fun hc hs=>⟨hc,(zFE K zaa zab X5 P5 S5 hX5 zaT pv5 ((zaa.get 1).Low) hs hk)⟩))
 (fun hs hk=>(zyi K zaa zab zaT (⟨0,(fun _=>default)⟩:Sl Int) (fun i=>zaq ((fun _=>default) i)) rfl hs hk)) hs hk)⟩)
  exact key _ zaT pv5 hs hk
def zp3 (zaa:(Sl Gate)) (zab:(Sl Mp)) (zdg:Int):((Sl Int)×Int×Int) :=
  (zyl zaa zab zdg ((zaa.get 0).Low))
def zp4 (zaa:(Sl Gate)) (zab:(Sl Mp)) (zdg:Int):Bool :=
  (decide ((0≤(0:Int)∧(0:Int) < (zaa.len:Int))) &&
 (zym zaa zab zdg ((zaa.get 0).Low)))
theorem zFG (K:List PA→Prop) (zaa:(Sl Gate)) (zab:(Sl Mp)) (zdg:Int) (hs:zp4 zaa zab zdg=true) (hk:K (e55 (zp3 zaa zab zdg))):zmv (Wk K) zaa zab zdg:=by
  refine zaD (zFz (Wk K) zaa zab zdg) ?_
  unfold zp4 at hs
  unfold zp3 at hk
  exact (zay hs fun hc hs=>⟨hc,(zFF K zaa zab zdg ((zaa.get 0).Low) hs hk)⟩)
def zmz (zaa:(Sl Gate)) (zab:(Sl Mp)) (zaI:Int):((Sl Int)×Int×Int) :=
  (zp3 zaa zab zaI)
def zmA (zaa:(Sl Gate)) (zab:(Sl Mp)) (zaI:Int):Bool :=
  (zp4 zaa zab zaI)
def zkl (zaa:(Sl Gate)) (zab:(Sl Mp)) (k24_0:Int) (k24_1:Int) (S3:Int→((Sl Int)×Int×Int)) (zaI:Int):((Sl Int)×Int×Int) :=
  (cond (decide (zaI < (0:Int)))
 (S3 (zdN (((zab.get 0).F) [k24_0,k24_1]) 0))
 (cond (decide ((zdN (((zab.get 0).F) [k24_0, k24_1]) 0) < zaI))
 (S3 (zdN (((zab.get 0).F) [k24_0,k24_1]) 0))
 (S3 zaI)))
def zkm (zaa:(Sl Gate)) (zab:(Sl Mp)) (k24_0:Int) (k24_1:Int) (P3:Int→Bool) (zaI:Int):Bool :=
  (cond (decide (zaI < (0:Int)))
 (P3 (zdN (((zab.get 0).F) [k24_0,k24_1]) 0))
 (cond (decide ((zdN (((zab.get 0).F) [k24_0, k24_1]) 0) < zaI))
 (P3 (zdN (((zab.get 0).F) [k24_0,k24_1]) 0))
 (P3 zaI)))
def zeF (zaa : (Sl Gate)) (zab : (Sl Mp)) : List (List Int) → Int → ((Sl Int) × Int × Int)
  | []=>zmz zaa zab
  | y :: r=>zkl zaa zab (y.getD 0 0) (y.getD 1 0) (zeF zaa zab r)
def zeG (zaa : (Sl Gate)) (zab : (Sl Mp)) : List (List Int) → Int → Bool
  | []=>zmA zaa zab
  | y :: r=>zkm zaa zab (y.getD 0 0) (y.getD 1 0) (zeG zaa zab r)
def zfh (_gates:Sl Gate) (t:Sl Mp) (ys:List (List Int)):Bool:=ys.all fun y=>decide (0≤zdN ((t.get 0).F y) 0)
theorem zFH (zaa:Sl Gate) (t:Sl Mp):∀ (y:List Int) (r:List (List Int)),zfh zaa t (y :: r)=true→zfh zaa t r=true:=fun y r h=>by
  simp only [zfh,List.all_cons,Bool.and_eq_true] at h ⊢;exact h.2
def kst (F:List Int→Option (List Int)) (k:Int) (y:List Int):Int:=if k < 0 then zdN (F y) 0 else if zdN (F y) 0 < k then zdN (F y) 0 else k
theorem zsu (F:List Int→Option (List Int)) {ys zs:List (List Int)} (h:∀ y∈ys,0≤zdN (F y) 0) (hp:ys.Perm zs) (k:Int):ys.foldl (kst F) k=zs.foldl (kst F) k:=by
  refine hp.foldl_eq' (fun x hx y hy z=>?_) k
  have h1:=h x hx
  have h2:=h y hy
  unfold kst
  repeat' split
  all_goals omega
theorem zp5 (zaa : Sl Gate) (t : Sl Mp) : ∀ (ys : List (List Int)) (k : Int), (∀ y ∈ ys, y.length = 2) → zeF zaa t ys k = zmz zaa t (ys.foldl (kst (t.get 0).F) k)
  | [],k,_=>rfl
  | y :: r,k,h=>by
    have hy:=h y List.mem_cons_self
    match y,hy with
    | [a,b],_ =>
    have ih:=fun k=>zp5 zaa t r k (fun z hz=>h z (List.mem_cons_of_mem _ hz))
    show zkl zaa t a b (zeF zaa t r) k=_
    rw [List.foldl_cons]
    unfold zkl
    by_cases h1:k < 0
    · rw [decide_eq_true h1,cond_true,ih,show kst (t.get 0).F k [a,b]=zdN ((t.get 0).F [a,b]) 0 from if_pos h1]
    · rw [decide_eq_false h1, cond_false]
      by_cases h2:zdN ((t.get 0).F [a,b]) 0 < k
      · rw [decide_eq_true h2,cond_true,ih,show kst (t.get 0).F k [a,b]=zdN ((t.get 0).F [a,b]) 0 from (if_neg h1).trans (if_pos h2)]
      · rw [decide_eq_false h2,cond_false,ih,show kst (t.get 0).F k [a,b]=k from (if_neg h1).trans (if_neg h2)]
theorem zp6 (zaa : Sl Gate) (t : Sl Mp) : ∀ (ys : List (List Int)) (k : Int), (∀ y ∈ ys, y.length = 2) → zeG zaa t ys k = zmA zaa t (ys.foldl (kst (t.get 0).F) k)
  | [],k,_=>rfl
  | y :: r,k,h=>by
    have hy:=h y List.mem_cons_self
    match y,hy with
    | [a,b],_ =>
    have ih:=fun k=>zp6 zaa t r k (fun z hz=>h z (List.mem_cons_of_mem _ hz))
    show zkm zaa t a b (zeG zaa t r) k=_
    rw [List.foldl_cons]
    unfold zkm
    by_cases h1:k < 0
    · rw [decide_eq_true h1,cond_true,ih,show kst (t.get 0).F k [a,b]=zdN ((t.get 0).F [a,b]) 0 from if_pos h1]
    · rw [decide_eq_false h1, cond_false]
      by_cases h2:zdN ((t.get 0).F [a,b]) 0 < k
      · rw [decide_eq_true h2,cond_true,ih,show kst (t.get 0).F k [a,b]=zdN ((t.get 0).F [a,b]) 0 from (if_neg h1).trans (if_pos h2)]
      · rw [decide_eq_false h2,cond_false,ih,show kst (t.get 0).F k [a,b]=k from (if_neg h1).trans (if_neg h2)]
theorem zFI (zaa : Sl Gate) (t : Sl Mp) (ys zs : List (List Int)) (hl : ∀ y ∈ ys, y.length = 2) (h : zfh zaa t ys = true) (hp : ys.Perm zs) :
    zfh zaa t zs=true∧zeF zaa t ys=zeF zaa t zs∧zeG zaa t ys=zeG zaa t zs:=by
  simp only [zfh,List.all_eq_true,decide_eq_true_eq] at h ⊢
  have hl2:∀ y∈zs,y.length=2:=fun y hy=>hl y (hp.mem_iff.2 hy)
  refine ⟨fun y hy=>h y (hp.mem_iff.2 hy),funext fun k=>?_,funext fun k=>?_⟩
  · rw [zp5 zaa t ys k hl,zp5 zaa t zs k hl2,zsu _ h hp]
  · rw [zp6 zaa t ys k hl,zp6 zaa t zs k hl2,zsu _ h hp]
def zp7 (zaa:(Sl Gate)) (zab:(Sl Mp)) (zaI:Int):((Sl Int)×Int×Int):=zeF zaa zab (zn1 zaa) zaI
def zp8 (zaa:(Sl Gate)) (zab:(Sl Mp)) (zaI:Int):Bool:=keysB 2 ((zab.get 0).n) ((zab.get 0).F) (zn1 zaa) && zfh zaa zab (zn1 zaa) && zeG zaa zab (zn1 zaa) zaI
theorem zFJ (K:List PA→Prop) (zaa:(Sl Gate)) (zab:(Sl Mp)) (zaI:Int) (hs:zp8 zaa zab zaI=true) (hk:K (e55 (zp7 zaa zab zaI))):zj6 (Wk K) zaa zab [] zaI:=by
  unfold zp8 at hs
  rw [Bool.and_eq_true,Bool.and_eq_true] at hs
  obtain ⟨⟨hkeys,hI⟩,hs⟩:=hs
  unfold zp7 at hk
  generalize hys:zn1 zaa=ys0 at hkeys hI hs hk
  refine zx9 (Wk K) zaa zab [] zaI ?_
  intro X3 hstep
  have key:∀ (N:Nat) (ys:List (List Int)) (seen:List (List Int)) (zaI:Int),ys.length=N→(zHB 2 ((zab.get 0).n) ((zab.get 0).F)→zH2 2 ((zab.get 0).F) seen ys)→zfh zaa zab ys=true→zeG zaa zab ys zaI=true→K (e55 (zeF zaa zab ys zaI))→X3 (zg6 zaa zab seen zaI):=by
    intro N
    induction N with
    | zero =>
      intro ys seen zaI hN hrem hI hs hk
      obtain rfl:=List.eq_nil_of_length_eq_zero hN
      refine hstep seen zaI ?_
      intro hfin
      have hrem:=hrem hfin
      refine ⟨fun _=>?_,fun k24_0 k24_1 hF hns=>absurd (hrem.2.2 [k24_0,k24_1] rfl hF hns) (by simp)⟩
      have hs:zmA zaa zab zaI=true:=hs
      have hk:K (e55 (zmz zaa zab zaI)):=hk
      unfold zmA at hs
      unfold zmz at hk
      exact (zFG K zaa zab zaI hs hk)
    | succ N ih =>
      intro ys seen zaI hN hrem hI hs hk
      refine hstep seen zaI ?_
      intro hfin
      have hrem:=hrem hfin
      refine ⟨fun hend=>?_,fun k24_0 k24_1 hF hns=>?_⟩
      · exact absurd (zDm hrem hend) (fun e=>by rw [e] at hN;simp at hN)
      · obtain ⟨hperm, hrem2, hlen⟩ := zAF hrem (c := [k24_0, k24_1]) rfl hF hns
        obtain ⟨hI2,e1,e2⟩:=zFI zaa zab ys _ (fun y hy=>(hrem.2.1 y hy).1) hI hperm
        have hI3:=zFH zaa zab _ _ hI2
        rw [e2] at hs
        rw [e1] at hk
        have hs:zkm zaa zab k24_0 k24_1 (zeG zaa zab (ys.erase [k24_0,k24_1])) zaI=true:=hs
        have hk:K (e55 (zkl zaa zab k24_0 k24_1 (zeF zaa zab (ys.erase [k24_0,k24_1])) zaI)):=hk
        have ih:=fun (zaI:Int)=>ih (ys.erase [k24_0,k24_1]) ([k24_0,k24_1] :: seen) zaI (by omega) (fun _=>hrem2) hI3
        unfold zkm at hs
        unfold zkl at hk
        generalize zeF zaa zab (ys.erase [k24_0,k24_1])=S3 at hk ih
        generalize zeG zaa zab (ys.erase [k24_0,k24_1])=P3 at hs ih
        have hX3:=ih
        exact (zci (K := fun r => K (e55 r))
 (fun hs hk=>(hX3 (zdN (((zab.get 0).F) [k24_0,k24_1]) 0) hs hk))
 (fun hs hk => (zci (K := fun r => K (e55 r))
 (fun hs hk=>(hX3 (zdN (((zab.get 0).F) [k24_0,k24_1]) 0) hs hk))
 (fun hs hk=>(hX3 zaI hs hk)) hs hk)) hs hk)
  exact key _ ys0 [] zaI rfl (fun hf=>zuS hkeys hf) hI hs hk
def zp9 (zaa:(Sl Gate)) (zab:(Sl Mp)):((Sl Int)×Int×Int) :=
  (zp7 zaa zab (-1:Int))
def zqa (zaa:(Sl Gate)) (zab:(Sl Mp)):Bool :=
  (decide ((0≤(0:Int)∧(0:Int) < (zab.len:Int))) &&
 (zp8 zaa zab (-1:Int)))
theorem zFK (K:List PA→Prop) (zaa:(Sl Gate)) (zab:(Sl Mp)) (zed:Nat→List PV) (zyn:zed=fun i=>zcG (zab.get i)) (hs:zqa zaa zab=true) (hk:K (e55 (zp9 zaa zab))):zmu (Wk K) zaa zab.len zed:=by
  subst zyn
  refine zaD (zFy (Wk K) zaa zab) ?_
  unfold zqa at hs
  unfold zp9 at hk
  exact (zay hs fun hc hs=>⟨hc,(zFJ K zaa zab (-1:Int) hs hk)⟩)
def zqb (zaa:(Sl Gate)):((Sl Int)×Int×Int) :=
  (zp9 zaa (s93 zaa))
def zqc (zaa:(Sl Gate)):Bool :=
  (decide ((p93 zaa=true)) &&
 (zqa zaa (s93 zaa)))
theorem zFL (K:List PA→Prop) (zaa:(Sl Gate)) (hs:zqc zaa=true) (hk:K (e55 (zqb zaa))):zmt (Wk K) zaa:=by
  refine zaD (zFx (Wk K) zaa) ?_
  unfold zqc at hs
  unfold zqb at hk
  exact (zay hs fun hc hs=>⟨⟨isE,hc⟩,(zFK K zaa (s93 zaa) (fun i=>zcG ((s93 zaa).get i)) rfl hs hk)⟩)
def zqd (zaa:(Sl Gate)) (zgq:Bool):((Sl Int)×Int×Int) :=
  (cond zgq
 ((⟨0,fun _=>default⟩:(Sl Int)),(0:Int),(2:Int))
 (zqb zaa))
def zqe (zaa:(Sl Gate)) (zgq:Bool):Bool :=
  (cond zgq
 true
 (zqc zaa))
theorem zFM (K:List PA→Prop) (zaa:(Sl Gate)) (zgq:Bool) (hs:zqe zaa zgq=true) (hk:K (e55 (zqd zaa zgq))):zms (Wk K) zaa zgq:=by
  refine zaD (zFw (Wk K) zaa zgq) ?_
  unfold zqe at hs
  unfold zqd at hk
  exact (zci (K := fun r => K (e55 r))
 (fun hs hk=>(wk hk (zc7 (.one (.nil _ _)) (zc7 (.one (.rfl _)) (zc7 (.one (.rfl _)) zhm)))))
 (fun hs hk=>(zFL K zaa hs hk)) hs hk)
def s55 (zaa:(Sl Gate)):((Sl Int)×Int×Int) :=
  (zqd zaa (!(s92 zaa)))
def p55 (zaa:(Sl Gate)):Bool :=
  (decide ((p92 zaa=true)) &&
 (zqe zaa (!(s92 zaa))))
theorem q55 (zaa:(Sl Gate)) (K:List PA→Prop) (hs:p55 zaa=true) (hk:K (e55 (s55 zaa))):vcFun Try.prog G55 za1 55 [.one (.sl zaa.len 3 (fun i=>enc_55 (zaa.get i)))] (Wk K):=by
  refine zaD (zFv zaa (Wk K)) ?_
  unfold p55 at hs
  unfold s55 at hk
  exact (zay hs fun hc hs=>⟨⟨isE,hc⟩,(zFM K zaa (!(s92 zaa)) hs hk)⟩)
def zFN : List PA → COut
  | [.one (.sl a0_n a0_s a0_g)]=>.det (IsE enc_55 3 a0_s a0_g∧p55 (⟨a0_n,zae a0_g⟩:(Sl Gate))=true) [.one (.sl (((s55 (⟨a0_n,zae a0_g⟩:(Sl Gate))).1).len) 1 (fun i=>zaq (((s55 (⟨a0_n,zae a0_g⟩:(Sl Gate))).1).get i))),.one (.int .i64 ((s55 (⟨a0_n,zae a0_g⟩:(Sl Gate))).2.1)),.one (.int .i64 ((s55 (⟨a0_n,zae a0_g⟩:(Sl Gate))).2.2))]
  | _=>.no
theorem zJB:zaf Try.prog 55:=⟨_,rfl,rfl,by kernel_rfl⟩
theorem zO8:Ok Try.prog 55 zFN:=zhn zMk zJB fun args K h=>by
  unfold zFN at h
  split at h
  · rename_i a0_n a0_s a0_g
    obtain ⟨⟨⟨rfl,a0_f,rfl⟩,hs⟩,hk⟩:=h
    try rw [zac a0_f] at hs
    try rw [zac a0_f] at hk
    exact ⟨_,ze0 zf0 _,(fun _ _=>[]),(fun _=>false),za1,q55 (⟨a0_n,a0_f⟩:(Sl Gate)) K hs hk⟩
  · exact h.elim
abbrev T62:Tabs:=Tabs.nil
theorem zMl:TabsOk Try.prog T62:=TabsOk.nil
abbrev G62:Ctrs:=csm T62 (fun _ _=>[]) (fun _=>false)
def zJC:Ann:=⟨5,[(0,zK [] []),(1,zK [0] [4])],
 [],
 [],
 [],[]⟩
abbrev R62:=(Sl Gate)
abbrev e62 (r:R62):List PA:=[.one (.sl r.len 3 (fun i=>enc_55 (r.get i)))]
section
variable {K:List PA→Prop}
def s62:(Sl Gate) :=
  (⟨3,(zi1 (⟨(0:Int),(0:Int),(10:Int)⟩:Gate) [(⟨(0:Int),(0:Int),(10:Int)⟩:Gate),(⟨(100:Int),(20:Int),(30:Int)⟩:Gate),(⟨(200:Int),(30:Int),(60:Int)⟩:Gate)])⟩:(Sl Gate))
end
theorem q62 (K:List PA→Prop) (hk:K (e62 (s62))):vcFun Try.prog G62 zJC 62 [] K :=
  zaD (by kernel_rfl) (Eq.mpr (congrArg K (congrArg (fun (g_:Nat→List PV)=>([.one (.sl 3 3 g_)]:List PA)) (zeq (enc:=enc_55) (x:=(⟨(0:Int),(0:Int),(10:Int)⟩:Gate)) (y:=(⟨(100:Int),(20:Int),(30:Int)⟩:Gate)) (r:=[(⟨(200:Int),(30:Int),(60:Int)⟩:Gate)])))) hk)
def zFO : List PA → COut
  | []=>.tot [.one (.sl ((s62).len) 3 (fun i=>enc_55 ((s62).get i)))]
  | _=>.no
theorem zJD:zaf Try.prog 62:=⟨_,rfl,rfl,by kernel_rfl⟩
theorem zO9:Ok Try.prog 62 zFO:=zaF zMl zJD fun args K h=>by
  unfold zFO at h
  split at h
  · have hk := h
    exact ⟨(fun _ _=>[]),(fun _=>false),zJC,q62 K hk⟩
  · exact h.elim
abbrev T63:Tabs:=Tabs.nil
theorem zMm:TabsOk Try.prog T63:=TabsOk.nil
abbrev G63:Ctrs:=csm T63 (fun _ _=>[]) (fun _=>false)
def zJE:Ann:=⟨5,[(0,zK [] []),(1,zK [0] [4])],
 [],
 [],
 [],[]⟩
abbrev R63:=(Sl Gate)
abbrev e63 (r:R63):List PA:=[.one (.sl r.len 3 (fun i=>enc_55 (r.get i)))]
section
variable {K:List PA→Prop}
def s63:(Sl Gate) :=
  (⟨3,(zi1 (⟨(0:Int),(0:Int),(10:Int)⟩:Gate) [(⟨(0:Int),(0:Int),(10:Int)⟩:Gate),(⟨(100:Int),(20:Int),(30:Int)⟩:Gate),(⟨(200:Int),(0:Int),(9:Int)⟩:Gate)])⟩:(Sl Gate))
end
theorem q63 (K:List PA→Prop) (hk:K (e63 (s63))):vcFun Try.prog G63 zJE 63 [] K :=
  zaD (by kernel_rfl) (Eq.mpr (congrArg K (congrArg (fun (g_:Nat→List PV)=>([.one (.sl 3 3 g_)]:List PA)) (zeq (enc:=enc_55) (x:=(⟨(0:Int),(0:Int),(10:Int)⟩:Gate)) (y:=(⟨(100:Int),(20:Int),(30:Int)⟩:Gate)) (r:=[(⟨(200:Int),(0:Int),(9:Int)⟩:Gate)])))) hk)
def zFP : List PA → COut
  | []=>.tot [.one (.sl ((s63).len) 3 (fun i=>enc_55 ((s63).get i)))]
  | _=>.no
theorem zJF:zaf Try.prog 63:=⟨_,rfl,rfl,by kernel_rfl⟩
theorem zPa:Ok Try.prog 63 zFP:=zaF zMm zJF fun args K h=>by
  unfold zFP at h
  split at h
  · have hk := h
    exact ⟨(fun _ _=>[]),(fun _=>false),zJE,q63 K hk⟩
  · exact h.elim
abbrev T18:Tabs:=((((((((((Tabs.nil.addF 19 zEE).addF 30 zA7).addF 31 zER).addF 34 zEV).addF 38 zFc).addF 39 zFf).addF 40 ztF).addF 55 zFN).addF 62 zFO).addF 63 zFP)
theorem zMn:TabsOk Try.prog T18:=((((((((((TabsOk.nil.addF zOS).addF zNs).addF zO1).addF zO2).addF zO4).addF zO5).addF zK3).addF zO8).addF zO9).addF zPa)
abbrev G18:Ctrs:=csm T18 (fun _ _=>[]) (fun _=>false)
def zFQ:Ann:=⟨125,[(0,zK [] []),(1,zK [1,2] []),(2,zK [1,2,3,4,5] [3,4]),(3,zK [1,2,3,4,5,6,7] [3,4]),(4,zK [1,2,3,4,5,6,7,8,9,10,11] [3,4,9,10]),(5,zK [1,2,3,4,5,6,7,8,9,10,11,12,13,14] [3,4,9,10]),(6,zK [1,3,4,6,9,10,12,76] [3,4,9,10]),(7,zK [0] []),(8,zK [1,3,4,6,9,10,12,15] [3,4,9,10,89]),(9,zK [0] [])],
 [],
 [(2,zK [1,2] []),(3,zK [1,2,3,4,5] [3,4]),(4,zK [1,2,3,4,5,6,7] [3,4]),(5,zK [1,2,3,4,5,6,7,8,9,10,11] [3,4,9,10]),(6,zK [1,2,3,4,5,6,7,8,9,10,11,12,13,14] [3,4,9,10]),(8,zK [1,3,4,6,9,10,12] [3,4,9,10]),(9,zK [1,3,4,6,9,10,12,15] [3,4,9,10,89])],
 [],[]⟩
abbrev R18:=Bool
abbrev e18 (r:R18):List PA:=[.one (.bool r)]
@[irreducible] def z18:=ptF Try.prog G18 zFQ Try.f18
section
variable {K:List PA→Prop} {cv0:(Sl Line)} {ev0:Int} {zJG:Nat→List PV} {fv1:Int} {zbM:Int} {zbN:Int} {zbO:Int} {zbP:Int} {sv2:(Sl Int)} {gv2:Int} {zJH:Nat→List PV} {sv3:(Sl Int)} {zv3:Int} {hv3:Int} {zcO:Int} {zcP:Int} {zcQ:Int} {zcR:Int} {zJI:Nat→List PV} {sv4:(Sl Int)} {lv4:(Sl Int)} {kv4:Int} {iv4:Int} {zJJ:Nat→List PV} {zJK:Nat→List PV} {sv5:(Sl Int)} {zJL:Nat→List PV} {sv6:(Sl Int)} {zkM:(Sl Line)} {zJM:Nat→List PV} {zyo:Nat→List PV}
def zyp (cv0:(Sl Line)) (zbM:Int) (zbN:Int) (zbO:Int) (zbP:Int) (zcO:Int) (zcP:Int) (zcQ:Int) (zcR:Int) (lv4:(Sl Int)) (sv6:(Sl Int)) (zkM:(Sl Line)):Bool :=
  (cond (s34 cv0 zkM)
 (cond (match (zbM == (s40 (40:Int) (1:Int)).Num) with | true => (match (zbN == (s40 (40:Int) (1:Int)).Den) with | true => true | false => false) | false => false)
 (cond (match (zbO == (s40 (90:Int) (1:Int)).Num) with | true => (match (zbP == (s40 (90:Int) (1:Int)).Den) with | true => true | false => false) | false => false)
 (cond ((s39 sv6 (⟨3, zcT (zdi [(zaq (0:Int)), (zaq (1:Int)), (zaq (2:Int))])⟩ : (Sl Int))) == (0:Int))
 (cond (match (zcO == (s40 (499:Int) (10:Int)).Num) with | true => (match (zcP == (s40 (499:Int) (10:Int)).Den) with | true => true | false => false) | false => false)
 (cond (match (zcQ == (s40 (501:Int) (10:Int)).Num) with | true => (match (zcR == (s40 (501:Int) (10:Int)).Den) with | true => true | false => false) | false => false)
 ((s39 lv4 (⟨3,zcT (zdi [(zaq (2:Int)),(zaq (5:Int)),(zaq (2:Int))])⟩:(Sl Int))) == (0:Int))
 false)
 false)
 false)
 false)
 false)
 false)
def zyq (cv0:(Sl Line)) (zbM:Int) (zbN:Int) (zbO:Int) (zbP:Int) (zcO:Int) (zcP:Int) (zcQ:Int) (zcR:Int) (lv4:(Sl Int)) (sv6:(Sl Int)) (zkM:(Sl Line)):Bool :=
  (decide ((p34 cv0 zkM=true)) &&
 (cond (s34 cv0 zkM)
 (decide ((p40 (40:Int) (1:Int)=true)) &&
 (cond (match (zbM == (s40 (40:Int) (1:Int)).Num) with | true => (match (zbN == (s40 (40:Int) (1:Int)).Den) with | true => true | false => false) | false => false)
 (decide ((p40 (90:Int) (1:Int)=true)) &&
 (cond (match (zbO == (s40 (90:Int) (1:Int)).Num) with | true => (match (zbP == (s40 (90:Int) (1:Int)).Den) with | true => true | false => false) | false => false)
 (decide ((p39 sv6 (⟨3,zcT (zdi [(zaq (0:Int)),(zaq (1:Int)),(zaq (2:Int))])⟩:(Sl Int))=true)) &&
 (cond ((s39 sv6 (⟨3, zcT (zdi [(zaq (0:Int)), (zaq (1:Int)), (zaq (2:Int))])⟩ : (Sl Int))) == (0:Int))
 (decide ((p40 (499:Int) (10:Int)=true)) &&
 (cond (match (zcO == (s40 (499:Int) (10:Int)).Num) with | true => (match (zcP == (s40 (499:Int) (10:Int)).Den) with | true => true | false => false) | false => false)
 (decide ((p40 (501:Int) (10:Int)=true)) &&
 (cond (match (zcQ == (s40 (501:Int) (10:Int)).Num) with | true => (match (zcR == (s40 (501:Int) (10:Int)).Den) with | true => true | false => false) | false => false)
 (decide ((p39 lv4 (⟨3,zcT (zdi [(zaq (2:Int)),(zaq (5:Int)),(zaq (2:Int))])⟩:(Sl Int))=true)) &&
 true)
 true))
 true))
 true))
 true))
 true))
 true))
theorem zFR (hs:zyq cv0 zbM zbN zbO zbP zcO zcP zcQ zcR lv4 sv6 zkM=true) (hk:K (e18 (zyp cv0 zbM zbN zbO zbP zcO zcP zcQ zcR lv4 sv6 zkM))) (zMo:zJM=zg zaq sv6) (zFS:zyo=zg zaC zkM):z18 K [1,1,1,1,1,1,1,1] [] ⟨[(1,zS zaC 4 cv0),(3,zp 3 0),(4,zp 4 0),(6,zP (.sl sv6.len 1 zJM)),(9,zp 9 0),(10,zp 10 0),(12,zS zaq 1 lv4),(15,zv 89)],[(3,.box 25 (zm (zad (⟨zbM,zbN⟩:Frac)))),(4,.box 25 (zm (zad (⟨zbO,zbP⟩:Frac)))),(9,.box 25 (zm (zad (⟨zcO,zcP⟩:Frac)))),(10,.box 25 (zm (zad (⟨zcQ,zcR⟩:Frac)))),(89,.vec 37 4 32 zkM.len zyo)],[]⟩:=by subst zMo;subst zFS;exact zaD (by kernel_rfl) (zay hs fun hc hs=>And.intro (And.intro (zE zaC 4 cv0.get) (And.intro (zE zaC 4 zkM.get) hc)) (zc hs hk (fun hs hk=>(zay hs fun hc hs=>And.intro hc (zc hs hk (fun hs hk=>(zay hs fun hc hs=>And.intro hc (zc hs hk (fun hs hk=>(zay hs fun hc hs=>And.intro (And.intro (zE zaq 1 sv6.get) (And.intro ((zfA [(2:Int)]):IsE zaq 1 1 (zdi [(zaq (0:Int)),(zaq (1:Int)),(zaq (2:Int))])) hc)) (zc hs hk (fun hs hk=>(zay hs fun hc hs=>And.intro hc (zc hs hk (fun hs hk=>(zay hs fun hc hs=>And.intro hc (zc hs hk (fun hs hk=>(zay hs fun hc hs=>And.intro (And.intro (zE zaq 1 lv4.get) (And.intro ((zfA [(2:Int)]):IsE zaq 1 1 (zdi [(zaq (2:Int)),(zaq (5:Int)),(zaq (2:Int))])) hc)) hk)) (fun hs hk=>hk)))) (fun hs hk=>hk)))) (fun hs hk=>hk)))) (fun hs hk=>hk)))) (fun hs hk=>hk)))) (fun hs hk=>hk)))
def zyr (cv0:(Sl Line)) (zbM:Int) (zbN:Int) (zbO:Int) (zbP:Int) (zcO:Int) (zcP:Int) (zcQ:Int) (zcR:Int) (lv4:(Sl Int)) (sv5:(Sl Int)):Bool :=
  (zyp cv0 zbM zbN zbO zbP zcO zcP zcQ zcR lv4 sv5 (⟨4,(zi1 (⟨(s40 (1:Int) (10:Int)),(s40 (10:Int) (1:Int))⟩:Line) [(⟨(s40 (1:Int) (10:Int)),(s40 (10:Int) (1:Int))⟩:Line),(⟨(s40 (1:Int) (5:Int)),(s40 (0:Int) (1:Int))⟩:Line),(⟨(s40 (3:Int) (10:Int)),(s40 (0:Int) (1:Int))⟩:Line),(⟨(s40 (1:Int) (5:Int)),(s40 (10:Int) (1:Int))⟩:Line)])⟩:Sl Line))
def zys (cv0:(Sl Line)) (zbM:Int) (zbN:Int) (zbO:Int) (zbP:Int) (zcO:Int) (zcP:Int) (zcQ:Int) (zcR:Int) (lv4:(Sl Int)) (sv5:(Sl Int)):Bool :=
  (decide ((p40 (1:Int) (10:Int)=true)) &&
 (decide ((p40 (10:Int) (1:Int)=true)) &&
 (decide ((p40 (1:Int) (5:Int)=true)) &&
 (decide ((p40 (0:Int) (1:Int)=true)) &&
 (decide ((p40 (3:Int) (10:Int)=true)) &&
 (decide ((p40 (0:Int) (1:Int)=true)) &&
 (decide ((p40 (1:Int) (5:Int)=true)) &&
 (decide ((p40 (10:Int) (1:Int)=true)) &&
 (zyq cv0 zbM zbN zbO zbP zcO zcP zcQ zcR lv4 sv5 (⟨4,(zi1 (⟨(s40 (1:Int) (10:Int)),(s40 (10:Int) (1:Int))⟩:Line) [(⟨(s40 (1:Int) (10:Int)),(s40 (10:Int) (1:Int))⟩:Line),(⟨(s40 (1:Int) (5:Int)),(s40 (0:Int) (1:Int))⟩:Line),(⟨(s40 (3:Int) (10:Int)),(s40 (0:Int) (1:Int))⟩:Line),(⟨(s40 (1:Int) (5:Int)),(s40 (10:Int) (1:Int))⟩:Line)])⟩:Sl Line))))))))))
theorem zFT (hs:zys cv0 zbM zbN zbO zbP zcO zcP zcQ zcR lv4 sv5=true) (hk:K (e18 (zyr cv0 zbM zbN zbO zbP zcO zcP zcQ zcR lv4 sv5))) (zMp:zJL=zg zaq sv5):z18 K [1,1,1,1,1,1,1] [] ⟨[(1,zS zaC 4 cv0),(3,zp 3 0),(4,zp 4 0),(6,zP (.sl sv5.len 1 zJL)),(9,zp 9 0),(10,zp 10 0),(12,zS zaq 1 lv4)],[(3,.box 25 (zm (zad (⟨zbM,zbN⟩:Frac)))),(4,.box 25 (zm (zad (⟨zbO,zbP⟩:Frac)))),(9,.box 25 (zm (zad (⟨zcO,zcP⟩:Frac)))),(10,.box 25 (zm (zad (⟨zcQ,zcR⟩:Frac))))],[]⟩:=by subst zMp;exact zaD (by kernel_rfl) (zay hs fun hc hs=>And.intro hc (zay hs fun hc hs=>And.intro hc (zay hs fun hc hs=>And.intro hc (zay hs fun hc hs=>And.intro hc (zay hs fun hc hs=>And.intro hc (zay hs fun hc hs=>And.intro hc (zay hs fun hc hs=>And.intro hc (zay hs fun hc hs=>And.intro hc (zFR hs hk rfl (zeq (enc:=zaC) (x:=(⟨(s40 (1:Int) (10:Int)),(s40 (10:Int) (1:Int))⟩:Line)) (y:=(⟨(s40 (1:Int) (5:Int)),(s40 (0:Int) (1:Int))⟩:Line)) (r:=[(⟨(s40 (3:Int) (10:Int)),(s40 (0:Int) (1:Int))⟩:Line),(⟨(s40 (1:Int) (5:Int)),(s40 (10:Int) (1:Int))⟩:Line)])))))))))))
def zyt (cv0:(Sl Line)) (ev0:Int) (fv1:Int) (zbM:Int) (zbN:Int) (zbO:Int) (zbP:Int) (gv2:Int) (zv3:Int) (hv3:Int) (zcO:Int) (zcP:Int) (zcQ:Int) (zcR:Int) (sv4:(Sl Int)) (lv4:(Sl Int)) (kv4:Int) (iv4:Int):Bool :=
  (cond (ev0 != (0:Int))
 false
 (cond (fv1 != (0:Int))
 false
 (cond (gv2 != (0:Int))
 false
 (cond (hv3 != (0:Int))
 false
 (cond (iv4 != (0:Int))
 false
 (cond (kv4 != (600:Int))
 false
 (cond (zv3 != (167:Int))
 false
 (zyr cv0 zbM zbN zbO zbP zcO zcP zcQ zcR lv4 sv4))))))))
def zyu (cv0:(Sl Line)) (ev0:Int) (fv1:Int) (zbM:Int) (zbN:Int) (zbO:Int) (zbP:Int) (gv2:Int) (zv3:Int) (hv3:Int) (zcO:Int) (zcP:Int) (zcQ:Int) (zcR:Int) (sv4:(Sl Int)) (lv4:(Sl Int)) (kv4:Int) (iv4:Int):Bool :=
  (cond (ev0 != (0:Int))
 true
 (cond (fv1 != (0:Int))
 true
 (cond (gv2 != (0:Int))
 true
 (cond (hv3 != (0:Int))
 true
 (cond (iv4 != (0:Int))
 true
 (cond (kv4 != (600:Int))
 true
 (cond (zv3 != (167:Int))
 true
 (zys cv0 zbM zbN zbO zbP zcO zcP zcQ zcR lv4 sv4))))))))
theorem zFU (hs:zyu cv0 ev0 fv1 zbM zbN zbO zbP gv2 zv3 hv3 zcO zcP zcQ zcR sv4 lv4 kv4 iv4=true) (hk:K (e18 (zyt cv0 ev0 fv1 zbM zbN zbO zbP gv2 zv3 hv3 zcO zcP zcQ zcR sv4 lv4 kv4 iv4))) (zMq:zJJ=zg zaq sv4) (zMr:zJK=zg zaq lv4):z18 K [1,1,1,1,1,1] [] ⟨[(1,zS zaC 4 cv0),(2,zI ev0),(3,zp 3 0),(4,zp 4 0),(5,zI fv1),(6,zP (.sl sv4.len 1 zJJ)),(7,zI gv2),(8,zI zv3),(9,zp 9 0),(10,zp 10 0),(11,zI hv3),(12,zP (.sl lv4.len 1 zJK)),(13,zI kv4),(14,zI iv4)],[(3,.box 25 (zm (zad (⟨zbM,zbN⟩:Frac)))),(4,.box 25 (zm (zad (⟨zbO,zbP⟩:Frac)))),(9,.box 25 (zm (zad (⟨zcO,zcP⟩:Frac)))),(10,.box 25 (zm (zad (⟨zcQ,zcR⟩:Frac))))],[]⟩:=by subst zMq;subst zMr;exact zaD (by kernel_rfl) (zc hs hk (fun hs hk=>hk) (fun hs hk=>(zc hs hk (fun hs hk=>hk) (fun hs hk=>(zc hs hk (fun hs hk=>hk) (fun hs hk=>(zc hs hk (fun hs hk=>hk) (fun hs hk=>(zc hs hk (fun hs hk=>hk) (fun hs hk=>(zc hs hk (fun hs hk=>hk) (fun hs hk=>(zc hs hk (fun hs hk=>hk) (fun hs hk=>(zFT hs hk rfl)))))))))))))))
def zyv (cv0:(Sl Line)) (ev0:Int) (fv1:Int) (zbM:Int) (zbN:Int) (zbO:Int) (zbP:Int) (gv2:Int) (sv3:(Sl Int)) (zv3:Int) (hv3:Int) (zcO:Int) (zcP:Int) (zcQ:Int) (zcR:Int):Bool :=
  (zyt cv0 ev0 fv1 zbM zbN zbO zbP gv2 zv3 hv3 zcO zcP zcQ zcR sv3 ((s55 (⟨3,zae (zdi [(enc_55 (⟨(0:Int),(0:Int),(2:Int)⟩:Gate)),(enc_55 (⟨(10:Int),(5:Int),(6:Int)⟩:Gate)),(enc_55 (⟨(20:Int),(0:Int),(2:Int)⟩:Gate))])⟩:(Sl Gate))).1) ((s55 (⟨3,zae (zdi [(enc_55 (⟨(0:Int),(0:Int),(2:Int)⟩:Gate)),(enc_55 (⟨(10:Int),(5:Int),(6:Int)⟩:Gate)),(enc_55 (⟨(20:Int),(0:Int),(2:Int)⟩:Gate))])⟩:(Sl Gate))).2.1) ((s55 (⟨3,zae (zdi [(enc_55 (⟨(0:Int),(0:Int),(2:Int)⟩:Gate)),(enc_55 (⟨(10:Int),(5:Int),(6:Int)⟩:Gate)),(enc_55 (⟨(20:Int),(0:Int),(2:Int)⟩:Gate))])⟩:(Sl Gate))).2.2))
def zyw (cv0:(Sl Line)) (ev0:Int) (fv1:Int) (zbM:Int) (zbN:Int) (zbO:Int) (zbP:Int) (gv2:Int) (sv3:(Sl Int)) (zv3:Int) (hv3:Int) (zcO:Int) (zcP:Int) (zcQ:Int) (zcR:Int):Bool :=
  (decide ((p55 (⟨3,zae (zdi [(enc_55 (⟨(0:Int),(0:Int),(2:Int)⟩:Gate)),(enc_55 (⟨(10:Int),(5:Int),(6:Int)⟩:Gate)),(enc_55 (⟨(20:Int),(0:Int),(2:Int)⟩:Gate))])⟩:(Sl Gate))=true)) &&
 (zyu cv0 ev0 fv1 zbM zbN zbO zbP gv2 zv3 hv3 zcO zcP zcQ zcR sv3 ((s55 (⟨3,zae (zdi [(enc_55 (⟨(0:Int),(0:Int),(2:Int)⟩:Gate)),(enc_55 (⟨(10:Int),(5:Int),(6:Int)⟩:Gate)),(enc_55 (⟨(20:Int),(0:Int),(2:Int)⟩:Gate))])⟩:(Sl Gate))).1) ((s55 (⟨3,zae (zdi [(enc_55 (⟨(0:Int),(0:Int),(2:Int)⟩:Gate)),(enc_55 (⟨(10:Int),(5:Int),(6:Int)⟩:Gate)),(enc_55 (⟨(20:Int),(0:Int),(2:Int)⟩:Gate))])⟩:(Sl Gate))).2.1) ((s55 (⟨3,zae (zdi [(enc_55 (⟨(0:Int),(0:Int),(2:Int)⟩:Gate)),(enc_55 (⟨(10:Int),(5:Int),(6:Int)⟩:Gate)),(enc_55 (⟨(20:Int),(0:Int),(2:Int)⟩:Gate))])⟩:(Sl Gate))).2.2)))
theorem zFV (hs:zyw cv0 ev0 fv1 zbM zbN zbO zbP gv2 sv3 zv3 hv3 zcO zcP zcQ zcR=true) (hk:K (e18 (zyv cv0 ev0 fv1 zbM zbN zbO zbP gv2 sv3 zv3 hv3 zcO zcP zcQ zcR))) (zMs:zJI=zg zaq sv3):z18 K [1,1,1,1,1] [] ⟨[(1,zS zaC 4 cv0),(2,zI ev0),(3,zp 3 0),(4,zp 4 0),(5,zI fv1),(6,zP (.sl sv3.len 1 zJI)),(7,zI gv2),(8,zI zv3),(9,zp 9 0),(10,zp 10 0),(11,zI hv3)],[(3,.box 25 (zm (zad (⟨zbM,zbN⟩:Frac)))),(4,.box 25 (zm (zad (⟨zbO,zbP⟩:Frac)))),(9,.box 25 (zm (zad (⟨zcO,zcP⟩:Frac)))),(10,.box 25 (zm (zad (⟨zcQ,zcR⟩:Frac))))],[]⟩:=by subst zMs;exact zaD (by kernel_rfl) (zay hs fun hc hs=>And.intro (And.intro ((zfA [(⟨(20:Int),(0:Int),(2:Int)⟩:Gate)]):IsE enc_55 3 3 (zdi [(enc_55 (⟨(0:Int),(0:Int),(2:Int)⟩:Gate)),(enc_55 (⟨(10:Int),(5:Int),(6:Int)⟩:Gate)),(enc_55 (⟨(20:Int),(0:Int),(2:Int)⟩:Gate))])) hc) (zFU hs hk rfl rfl))
def zyx (cv0:(Sl Line)) (ev0:Int) (fv1:Int) (zbM:Int) (zbN:Int) (zbO:Int) (zbP:Int) (sv2:(Sl Int)) (gv2:Int):Bool :=
  (zyv cv0 ev0 fv1 zbM zbN zbO zbP gv2 sv2 ((s19 s62 (⟨2,zae (zdi [(enc_55 (⟨(0:Int),(100:Int),(110:Int)⟩:Gate)),(enc_55 (⟨(200:Int),(40:Int),(50:Int)⟩:Gate))])⟩:(Sl Gate)) (0:Int) (300:Int)).1) ((s19 s62 (⟨2,zae (zdi [(enc_55 (⟨(0:Int),(100:Int),(110:Int)⟩:Gate)),(enc_55 (⟨(200:Int),(40:Int),(50:Int)⟩:Gate))])⟩:(Sl Gate)) (0:Int) (300:Int)).2.2.2) (((s19 s62 (⟨2,zae (zdi [(enc_55 (⟨(0:Int),(100:Int),(110:Int)⟩:Gate)),(enc_55 (⟨(200:Int),(40:Int),(50:Int)⟩:Gate))])⟩:(Sl Gate)) (0:Int) (300:Int)).2.1).Num) (((s19 s62 (⟨2,zae (zdi [(enc_55 (⟨(0:Int),(100:Int),(110:Int)⟩:Gate)),(enc_55 (⟨(200:Int),(40:Int),(50:Int)⟩:Gate))])⟩:(Sl Gate)) (0:Int) (300:Int)).2.1).Den) (((s19 s62 (⟨2,zae (zdi [(enc_55 (⟨(0:Int),(100:Int),(110:Int)⟩:Gate)),(enc_55 (⟨(200:Int),(40:Int),(50:Int)⟩:Gate))])⟩:(Sl Gate)) (0:Int) (300:Int)).2.2.1).Num) (((s19 s62 (⟨2,zae (zdi [(enc_55 (⟨(0:Int),(100:Int),(110:Int)⟩:Gate)),(enc_55 (⟨(200:Int),(40:Int),(50:Int)⟩:Gate))])⟩:(Sl Gate)) (0:Int) (300:Int)).2.2.1).Den))
def zyy (cv0:(Sl Line)) (ev0:Int) (fv1:Int) (zbM:Int) (zbN:Int) (zbO:Int) (zbP:Int) (sv2:(Sl Int)) (gv2:Int):Bool :=
  (decide ((p19 s62 (⟨2,zae (zdi [(enc_55 (⟨(0:Int),(100:Int),(110:Int)⟩:Gate)),(enc_55 (⟨(200:Int),(40:Int),(50:Int)⟩:Gate))])⟩:(Sl Gate)) (0:Int) (300:Int)=true)) &&
 (zyw cv0 ev0 fv1 zbM zbN zbO zbP gv2 sv2 ((s19 s62 (⟨2,zae (zdi [(enc_55 (⟨(0:Int),(100:Int),(110:Int)⟩:Gate)),(enc_55 (⟨(200:Int),(40:Int),(50:Int)⟩:Gate))])⟩:(Sl Gate)) (0:Int) (300:Int)).1) ((s19 s62 (⟨2,zae (zdi [(enc_55 (⟨(0:Int),(100:Int),(110:Int)⟩:Gate)),(enc_55 (⟨(200:Int),(40:Int),(50:Int)⟩:Gate))])⟩:(Sl Gate)) (0:Int) (300:Int)).2.2.2) (((s19 s62 (⟨2,zae (zdi [(enc_55 (⟨(0:Int),(100:Int),(110:Int)⟩:Gate)),(enc_55 (⟨(200:Int),(40:Int),(50:Int)⟩:Gate))])⟩:(Sl Gate)) (0:Int) (300:Int)).2.1).Num) (((s19 s62 (⟨2,zae (zdi [(enc_55 (⟨(0:Int),(100:Int),(110:Int)⟩:Gate)),(enc_55 (⟨(200:Int),(40:Int),(50:Int)⟩:Gate))])⟩:(Sl Gate)) (0:Int) (300:Int)).2.1).Den) (((s19 s62 (⟨2,zae (zdi [(enc_55 (⟨(0:Int),(100:Int),(110:Int)⟩:Gate)),(enc_55 (⟨(200:Int),(40:Int),(50:Int)⟩:Gate))])⟩:(Sl Gate)) (0:Int) (300:Int)).2.2.1).Num) (((s19 s62 (⟨2,zae (zdi [(enc_55 (⟨(0:Int),(100:Int),(110:Int)⟩:Gate)),(enc_55 (⟨(200:Int),(40:Int),(50:Int)⟩:Gate))])⟩:(Sl Gate)) (0:Int) (300:Int)).2.2.1).Den)))
theorem zFW (hs:zyy cv0 ev0 fv1 zbM zbN zbO zbP sv2 gv2=true) (hk:K (e18 (zyx cv0 ev0 fv1 zbM zbN zbO zbP sv2 gv2))) (zMt:zJH=zg zaq sv2):z18 K [1,1,1,1] [] ⟨[(1,zS zaC 4 cv0),(2,zI ev0),(3,zp 3 0),(4,zp 4 0),(5,zI fv1),(6,zP (.sl sv2.len 1 zJH)),(7,zI gv2)],[(3,.box 25 (zm (zad (⟨zbM,zbN⟩:Frac)))),(4,.box 25 (zm (zad (⟨zbO,zbP⟩:Frac))))],[]⟩:=by subst zMt;exact zaD (by kernel_rfl) (zay hs fun hc hs=>And.intro (And.intro (zE enc_55 3 s62.get) (And.intro ((zfA []):IsE enc_55 3 3 (zdi [(enc_55 (⟨(0:Int),(100:Int),(110:Int)⟩:Gate)),(enc_55 (⟨(200:Int),(40:Int),(50:Int)⟩:Gate))])) hc)) (zFV hs hk rfl))
def zyz (cv0:(Sl Line)) (ev0:Int) (fv1:Int) (zbM:Int) (zbN:Int) (zbO:Int) (zbP:Int):Bool :=
  (zyx cv0 ev0 fv1 zbM zbN zbO zbP ((s38 s63).1) ((s38 s63).2))
def zyA (cv0:(Sl Line)) (ev0:Int) (fv1:Int) (zbM:Int) (zbN:Int) (zbO:Int) (zbP:Int):Bool :=
  (decide ((p38 s63=true)) &&
 (zyy cv0 ev0 fv1 zbM zbN zbO zbP ((s38 s63).1) ((s38 s63).2)))
theorem zFX (hs:zyA cv0 ev0 fv1 zbM zbN zbO zbP=true) (hk:K (e18 (zyz cv0 ev0 fv1 zbM zbN zbO zbP))):z18 K [1,1,1] [] ⟨[(1,zS zaC 4 cv0),(2,zI ev0),(3,zp 3 0),(4,zp 4 0),(5,zI fv1)],[(3,.box 25 (zm (zad (⟨zbM,zbN⟩:Frac)))),(4,.box 25 (zm (zad (⟨zbO,zbP⟩:Frac))))],[]⟩:=zaD (by kernel_rfl) (zay hs fun hc hs=>And.intro (And.intro (zE enc_55 3 s63.get) hc) (zFW hs hk rfl))
def zyB (cv0:(Sl Line)) (ev0:Int):Bool :=
  (zyz cv0 ev0 ((s30 s62 (300:Int)).2.2) (((s30 s62 (300:Int)).1).Num) (((s30 s62 (300:Int)).1).Den) (((s30 s62 (300:Int)).2.1).Num) (((s30 s62 (300:Int)).2.1).Den))
def zyC (cv0:(Sl Line)) (ev0:Int):Bool :=
  (decide ((p30 s62 (300:Int)=true)) &&
 (zyA cv0 ev0 ((s30 s62 (300:Int)).2.2) (((s30 s62 (300:Int)).1).Num) (((s30 s62 (300:Int)).1).Den) (((s30 s62 (300:Int)).2.1).Num) (((s30 s62 (300:Int)).2.1).Den)))
theorem zFY (hs:zyC cv0 ev0=true) (hk:K (e18 (zyB cv0 ev0))) (zMu:zJG=zg zaC cv0):z18 K [1,1] [] ⟨[(1,zP (.sl cv0.len 4 zJG)),(2,zI ev0)],[],[]⟩:=by subst zMu;exact zaD (by kernel_rfl) (zay hs fun hc hs=>And.intro (And.intro (zE enc_55 3 s62.get) hc) (zFX hs hk))
def s18:Bool :=
  (zyB ((s31 s62).1) ((s31 s62).2))
def p18:Bool :=
  (decide ((p31 s62=true)) &&
 (zyC ((s31 s62).1) ((s31 s62).2)))
end
theorem q18 (K:List PA→Prop) (hs:p18=true) (hk:K (e18 (s18))):vcFun Try.prog G18 zFQ 18 [] K :=
  zaD (by kernel_rfl) (zay hs fun hc hs=>And.intro (And.intro (zE enc_55 3 s62.get) hc) (zFY hs hk rfl))
theorem zJN:p18=true:=by kernel_rfl
theorem zJO:s18=true:=by kernel_rfl
def zFZ : List PA → COut
  | []=>.tot [.one (.bool true)]
  | _=>.no
theorem zJP:zaf Try.prog 18:=⟨_,rfl,rfl,by kernel_rfl⟩
theorem zPb:Ok Try.prog 18 zFZ:=zaF zMn zJP fun args K h=>by
  unfold zFZ at h
  split at h
  · refine ⟨fun _ _ => [], fun _ => false, zFQ, q18 K zJN ?_⟩
    show K [.one (.bool s18)]
    rw [zJO];exact h
  · exact h.elim
abbrev T70:Tabs:=Tabs.nil
theorem zMv:TabsOk Try.prog T70:=TabsOk.nil
abbrev G70:Ctrs:=csm T70 (fun _ _=>[]) (fun _=>false)
def zJQ:Ann:=⟨15,[(0,zK [0,1,2] []),(1,zK [6] [])],
 [],
 [],
 [],[]⟩
abbrev R70:=Bool
abbrev e70 (r:R70):List PA:=[.one (.bool r)]
section
variable {K:List PA→Prop} {n:Int} {low:Int} {high:Int}
def s70 (n:Int) (low:Int) (high:Int):Bool :=
  (cond (decide (n ≥ low))
 (decide (n≤high))
 false)
end
theorem q70 (n:Int) (low:Int) (high:Int) (K:List PA→Prop) (hk:K (e70 (s70 n low high))):vcFun Try.prog G70 zJQ 70 [.one (.int .i64 n),.one (.int .i64 low),.one (.int .i64 high)] K :=
  zaD (by kernel_rfl) (zt hk (fun hk=>hk) (fun hk=>hk))
def zBk : List PA → COut
  | [.one (.int .i64 a0),.one (.int .i64 a1),.one (.int .i64 a2)]=>.tot [.one (.bool (s70 a0 a1 a2))]
  | _=>.no
theorem zJR:zaf Try.prog 70:=⟨_,rfl,rfl,by kernel_rfl⟩
theorem zNA:Ok Try.prog 70 zBk:=zaF zMv zJR fun args K h=>by
  unfold zBk at h
  split at h
  · rename_i a0 a1 a2
    have hk:=h
    exact ⟨(fun _ _=>[]),(fun _=>false),zJQ,q70 a0 a1 a2 K hk⟩
  · exact h.elim
abbrev T49:Tabs:=(Tabs.nil.addF 70 zBk)
theorem zMw:TabsOk Try.prog T49:=(TabsOk.nil.addF zNA)
abbrev G49:Ctrs:=csm T49 (fun _ _=>[]) (fun _=>false)
def zJS:Ann:=⟨18,[(0,zK [1] [1]),(1,zK [2] [])],
 [],
 [],
 [],[]⟩
abbrev R49:=Bool
abbrev e49 (r:R49):List PA:=[.one (.bool r)]
section
variable {K:List PA→Prop} {g:Gate}
def s49 (g:Gate):Bool :=
  (cond (s70 g.Z (0:Int) (100000:Int))
 (cond (s70 g.Low (-1000000:Int) g.High)
 (decide (g.High≤(1000000:Int)))
 false)
 false)
end
theorem q49 (g:Gate) (K:List PA→Prop) (hk:K (e49 (s49 g))):vcFun Try.prog G49 zJS 49 [.agg (enc_55 g)] K :=
  zaD (by kernel_rfl) (zt hk (fun hk=>(zt hk (fun hk=>hk) (fun hk=>hk))) (fun hk=>hk))
def zF0 : List PA → COut
  | [.agg [.int .i64 a0_Z,.int .i64 a0_Low,.int .i64 a0_High]]=>.tot [.one (.bool (s49 (⟨a0_Z,a0_Low,a0_High⟩:Gate)))]
  | _=>.no
theorem zJT:zaf Try.prog 49:=⟨_,rfl,rfl,by kernel_rfl⟩
theorem zPc:Ok Try.prog 49 zF0:=zaF zMw zJT fun args K h=>by
  unfold zF0 at h
  split at h
  · rename_i a0_Z a0_Low a0_High
    have hk:=h
    exact ⟨(fun _ _=>[]),(fun _=>false),zJS,q49 (⟨a0_Z,a0_Low,a0_High⟩:Gate) K hk⟩
  · exact h.elim
abbrev T20:Tabs:=((Tabs.nil.addF 49 zF0).addF 70 zBk)
theorem zMx:TabsOk Try.prog T20:=((TabsOk.nil.addF zPc).addF zNA)
abbrev G20:Ctrs:=csm T20 (fun _ _=>[]) (fun _=>false)
def zF1:Ann:=⟨19,[(0,zK [0] []),(1,zK [0,3] []),(2,zK [0,3,7] []),(3,zK [0,3] []),(4,zK [0,3,15] []),(5,zK [2] []),(6,zK [2] [])],
 [(2,zK [0,3] [])],
 [(5,zK [0,3,15] [])],
 [],[]⟩
abbrev R20:=Bool
abbrev e20 (r:R20):List PA:=[.one (.bool r)]
@[irreducible] def z20:=ptF Try.prog G20 zF1 Try.f20
def zCu (l_a0:(Sl Gate)) (iv0:Int):St:=⟨[(0,zS enc_55 3 l_a0),(3,zI iv0)],[],[]⟩
abbrev zF2 (K:List PA→Prop) (l_a0:(Sl Gate)) (X:St→Prop) (P:Int→Bool) (S:Int→Bool):Prop:=∀ ⦃iv0:Int⦄,P iv0=true→K (e20 (S iv0))→X (zCu l_a0 iv0)
section
variable {K:List PA→Prop} {l_a0:(Sl Gate)} {iv0:Int} {X0:St→Prop} {P0:Int→Bool} {S0:Int→Bool} {iv1:Int} {zqf:Bool}
def zqg (S0:Int→Bool) (l_a0:(Sl Gate)) (iv1:Int) (zqf:Bool):Bool :=
  (cond zqf
 false
 (S0 (w64 (iv1+(1:Int)))))
def zqh (P0:Int→Bool) (l_a0:(Sl Gate)) (iv1:Int) (zqf:Bool):Bool :=
  (cond zqf
 true
 (P0 (w64 (iv1+(1:Int)))))
theorem zF3 (hX0:zF2 K l_a0 X0 P0 S0) (hs:zqh P0 l_a0 iv1 zqf=true) (hk:K (e20 (zqg S0 l_a0 iv1 zqf))):z20 K [1,0,1,0,0,1,0,0,1] [X0] ⟨[(0,zS enc_55 3 l_a0),(3,zI iv1),(15,zB zqf)],[],[]⟩:=zaD (by kernel_rfl) (zc hs hk (fun hs hk=>hk) (fun hs hk=>(hX0 hs hk)))
def zhG (l_a0:(Sl Gate)) (S0:Int→Bool) (iv0:Int):Bool :=
  (cond (decide (iv0 < (l_a0.len : Int)))
 (zqg S0 l_a0 iv0 (!(s49 (l_a0.get iv0.toNat))))
 (s70 (l_a0.len:Int) (1:Int) (24:Int)))
def zhH (l_a0:(Sl Gate)) (P0:Int→Bool) (iv0:Int):Bool :=
  (cond (decide (iv0 < (l_a0.len : Int)))
 (decide ((0≤iv0∧iv0 < (l_a0.len:Int))) &&
 (zqh P0 l_a0 iv0 (!(s49 (l_a0.get iv0.toNat)))))
 true)
def zhI (l_a0:(Sl Gate)):Nat→Int→Bool:=lpO (fun _=>default) (zhG l_a0)
def zhJ (l_a0:(Sl Gate)):Nat→Int→Bool:=lpO (fun _=>false) (zhH l_a0)
def zyD (l_a0:(Sl Gate)) (iv0:Int):Bool:=zhI l_a0 Fuel iv0
def zyE (l_a0:(Sl Gate)) (iv0:Int):Bool:=zhJ l_a0 Fuel iv0
theorem zF4 (hs:zyE l_a0 iv0=true) (hk:K (e20 (zyD l_a0 iv0))):z20 K [1,0,1,0] [] (zCu l_a0 iv0) :=
  zl (fun X=>z20 K [1,0,1,0,0] [X]) (by kernel_rfl) fun X0 hX =>
  (show ∀ k, zF2 K l_a0 X0 (zhJ l_a0 k) (zhI l_a0 k) from zer _ _ (zhH l_a0) (zhG l_a0) (zF2 K l_a0 X0)
 (by intro _ hs;exact absurd hs Bool.false_ne_true)
 (by intro P0 S0 hX0 iv0 hs hk;exact hX _ (zaD (by kernel_rfl) (zc hs hk (fun hs hk=>(zay hs fun hc hs=>And.intro hc (zF3 hX0 hs hk))) (fun hs hk=>hk))))) _ hs hk
def s20 (l_a0:(Sl Gate)):Bool :=
  (zyD l_a0 (0:Int))
def p20 (l_a0:(Sl Gate)):Bool :=
  (zyE l_a0 (0:Int))
end
theorem q20 (l_a0:(Sl Gate)) (K:List PA→Prop) (hs:p20 l_a0=true) (hk:K (e20 (s20 l_a0))):vcFun Try.prog G20 zF1 20 [.one (.sl l_a0.len 3 (fun i=>enc_55 (l_a0.get i)))] K :=
  zaD (by kernel_rfl) (zF4 hs hk)
def zF5 : List PA → COut
  | [.one (.sl a0_n a0_s a0_g)]=>.det (IsE enc_55 3 a0_s a0_g∧p20 (⟨a0_n,zae a0_g⟩:(Sl Gate))=true) [.one (.bool (s20 (⟨a0_n,zae a0_g⟩:(Sl Gate))))]
  | _=>.no
theorem zJU:zaf Try.prog 20:=⟨_,rfl,rfl,by kernel_rfl⟩
theorem zPd:Ok Try.prog 20 zF5:=zaF zMx zJU fun args K h=>by
  unfold zF5 at h
  split at h
  · rename_i a0_n a0_s a0_g
    obtain ⟨⟨⟨rfl,a0_f,rfl⟩,hs⟩,hk⟩:=h
    try rw [zac a0_f] at hs
    try rw [zac a0_f] at hk
    exact ⟨(fun _ _=>[]),(fun _=>false),zF1,q20 (⟨a0_n,a0_f⟩:(Sl Gate)) K hs hk⟩
  · exact h.elim
abbrev T22:Tabs:=Tabs.nil
theorem zMy:TabsOk Try.prog T22:=TabsOk.nil
abbrev G22:Ctrs:=csm T22 (fun _ _=>[]) (fun _=>false)
def zF6:Ann:=⟨20,[(0,zK [0] []),(1,zK [0,3] []),(2,zK [0,3,7] []),(3,zK [0,3] []),(4,zK [0,3,19] []),(5,zK [2] []),(6,zK [2] [])],
 [(2,zK [0,3] [])],
 [],
 [],[]⟩
abbrev R22:=Bool
abbrev e22 (r:R22):List PA:=[.one (.bool r)]
@[irreducible] def z22:=ptF Try.prog G22 zF6 Try.f22
def zCv (zaa:(Sl Gate)) (iv0:Int):St:=⟨[(0,zS enc_55 3 zaa),(3,zI iv0)],[],[]⟩
abbrev zJV (K:List PA→Prop) (zaa:(Sl Gate)) (X:St→Prop) (P:Int→Bool) (S:Int→Bool):Prop:=∀ ⦃iv0:Int⦄,P iv0=true→K (e22 (S iv0))→X (zCv zaa iv0)
section
variable {K:List PA→Prop} {zaa:(Sl Gate)} {iv0:Int} {X0:St→Prop} {P0:Int→Bool} {S0:Int→Bool}
def zhK (zaa:(Sl Gate)) (S0:Int→Bool) (iv0:Int):Bool :=
  (cond (decide (iv0 < (zaa.len : Int)))
 (cond ((zaa.get iv0.toNat).Z != (zaa.get 0).Z)
 false
 (S0 (w64 (iv0+(1:Int)))))
 true)
def zhL (zaa:(Sl Gate)) (P0:Int→Bool) (iv0:Int):Bool :=
  (cond (decide (iv0 < (zaa.len : Int)))
 (decide ((0≤iv0∧iv0 < (zaa.len:Int))) &&
 (decide ((0≤(0:Int)∧(0:Int) < (zaa.len:Int))) &&
 (cond ((zaa.get iv0.toNat).Z != (zaa.get 0).Z)
 true
 (P0 (w64 (iv0+(1:Int)))))))
 true)
def zhM (zaa:(Sl Gate)):Nat→Int→Bool:=lpO (fun _=>default) (zhK zaa)
def zhN (zaa:(Sl Gate)):Nat→Int→Bool:=lpO (fun _=>false) (zhL zaa)
def zyF (zaa:(Sl Gate)) (iv0:Int):Bool:=zhM zaa Fuel iv0
def zyG (zaa:(Sl Gate)) (iv0:Int):Bool:=zhN zaa Fuel iv0
theorem zF7 (hs:zyG zaa iv0=true) (hk:K (e22 (zyF zaa iv0))):z22 K [1,0,1,0] [] (zCv zaa iv0) :=
  zl (fun X=>z22 K [1,0,1,0,0] [X]) (by kernel_rfl) fun X0 hX =>
  (show ∀ k, zJV K zaa X0 (zhN zaa k) (zhM zaa k) from zer _ _ (zhL zaa) (zhK zaa) (zJV K zaa X0)
 (by intro _ hs;exact absurd hs Bool.false_ne_true)
 (by intro P0 S0 hX0 iv0 hs hk;exact hX _ (zaD (by kernel_rfl) (zc hs hk (fun hs hk=>(zay hs fun hc hs=>And.intro hc (zay hs fun hc hs=>And.intro hc (zc hs hk (fun hs hk=>hk) (fun hs hk=>(hX0 hs hk)))))) (fun hs hk=>hk))))) _ hs hk
def s22 (zaa:(Sl Gate)):Bool :=
  (zyF zaa (1:Int))
def p22 (zaa:(Sl Gate)):Bool :=
  (zyG zaa (1:Int))
end
theorem q22 (zaa:(Sl Gate)) (K:List PA→Prop) (hs:p22 zaa=true) (hk:K (e22 (s22 zaa))):vcFun Try.prog G22 zF6 22 [.one (.sl zaa.len 3 (fun i=>enc_55 (zaa.get i)))] K :=
  zaD (by kernel_rfl) (zF7 hs hk)
def zyH : List PA → COut
  | [.one (.sl a0_n a0_s a0_g)]=>.det (IsE enc_55 3 a0_s a0_g∧p22 (⟨a0_n,zae a0_g⟩:(Sl Gate))=true) [.one (.bool (s22 (⟨a0_n,zae a0_g⟩:(Sl Gate))))]
  | _=>.no
theorem zJW:zaf Try.prog 22:=⟨_,rfl,rfl,by kernel_rfl⟩
theorem zMz:Ok Try.prog 22 zyH:=zaF zMy zJW fun args K h=>by
  unfold zyH at h
  split at h
  · rename_i a0_n a0_s a0_g
    obtain ⟨⟨⟨rfl,a0_f,rfl⟩,hs⟩,hk⟩:=h
    try rw [zac a0_f] at hs
    try rw [zac a0_f] at hk
    exact ⟨(fun _ _=>[]),(fun _=>false),zF6,q22 (⟨a0_n,a0_f⟩:(Sl Gate)) K hs hk⟩
  · exact h.elim
abbrev zNB:Tabs:=Tabs.nil
theorem zJX:TabsOk Try.prog zNB:=TabsOk.nil
abbrev zPe:Ctrs:=csm zNB (fun _ _=>[]) (fun _=>false)
def zCw:Ann:=⟨30,[(0,zK [1,2] [2]),(1,zK [4,5] [])],
 [],
 [],
 [],[]⟩
abbrev zPf:=(Int×Int)
abbrev zPg (r:zPf):List PA:=[.one (.int .i64 r.1),.one (.int .i64 r.2)]
section
variable {K:List PA→Prop} {l_a0:Line} {z:Int}
def zqi (l_a0:Line) (z:Int):(Int×Int) :=
  ((w64 ((w64 (l_a0.Start.Num * l_a0.Slope.Den))+(w64 ((w64 (l_a0.Slope.Num * z)) * l_a0.Start.Den)))),(w64 (l_a0.Start.Den * l_a0.Slope.Den)))
end
theorem zPh (l_a0:Line) (z:Int) (K:List PA→Prop) (hk:K (zPg (zqi l_a0 z))):vcFun Try.prog zPe zCw 104 [.agg (zaC l_a0),.one (.int .i64 z)] K :=
  zaD (by kernel_rfl) hk
def zsv : List PA → COut
  | [.agg [.int .i64 a0_Slope_Num,.int .i64 a0_Slope_Den,.int .i64 a0_Start_Num,.int .i64 a0_Start_Den],.one (.int .i64 a1)]=>.tot [.one (.int .i64 ((zqi (⟨(⟨a0_Slope_Num,a0_Slope_Den⟩:Frac),(⟨a0_Start_Num,a0_Start_Den⟩:Frac)⟩:Line) a1).1)),.one (.int .i64 ((zqi (⟨(⟨a0_Slope_Num,a0_Slope_Den⟩:Frac),(⟨a0_Start_Num,a0_Start_Den⟩:Frac)⟩:Line) a1).2))]
  | _=>.no
theorem zF8:zaf Try.prog 104:=⟨_,rfl,rfl,by kernel_rfl⟩
theorem zJY:Ok Try.prog 104 zsv:=zaF zJX zF8 fun args K h=>by
  unfold zsv at h
  split at h
  · rename_i a0_Slope_Num a0_Slope_Den a0_Start_Num a0_Start_Den a1
    have hk:=h
    exact ⟨(fun _ _=>[]),(fun _=>false),zCw,zPh (⟨(⟨a0_Slope_Num,a0_Slope_Den⟩:Frac),(⟨a0_Start_Num,a0_Start_Den⟩:Frac)⟩:Line) a1 K hk⟩
  · exact h.elim
abbrev T72:Tabs:=(Tabs.nil.addF 104 zsv)
theorem zMA:TabsOk Try.prog T72:=(TabsOk.nil.addF zJY)
abbrev G72:Ctrs:=csm T72 (fun _ _=>[]) (fun _=>false)
def zJZ:Ann:=⟨28,[(0,zK [2,3] [2,3]),(1,zK [3,5,6] [3]),(2,zK [4] [])],
 [],
 [],
 [],[]⟩
abbrev R72:=Bool
abbrev e72 (r:R72):List PA:=[.one (.bool r)]
section
variable {K:List PA→Prop} {l_a0:Line} {g:Gate}
def s72 (l_a0:Line) (g:Gate):Bool :=
  (cond (decide ((w64 (g.Low * ((zqi l_a0 g.Z).2))) ≤ ((zqi l_a0 g.Z).1)))
 (decide (((zqi l_a0 g.Z).1)≤(w64 (g.High * ((zqi l_a0 g.Z).2)))))
 false)
end
theorem q72 (l_a0:Line) (g:Gate) (K:List PA→Prop) (hk:K (e72 (s72 l_a0 g))):vcFun Try.prog G72 zJZ 72 [.agg (zaC l_a0),.agg (enc_55 g)] K :=
  zaD (by kernel_rfl) (zt hk (fun hk=>hk) (fun hk=>hk))
def zF9 : List PA → COut
  | [.agg [.int .i64 a0_Slope_Num,.int .i64 a0_Slope_Den,.int .i64 a0_Start_Num,.int .i64 a0_Start_Den],.agg [.int .i64 a1_Z,.int .i64 a1_Low,.int .i64 a1_High]]=>.tot [.one (.bool (s72 (⟨(⟨a0_Slope_Num,a0_Slope_Den⟩:Frac),(⟨a0_Start_Num,a0_Start_Den⟩:Frac)⟩:Line) (⟨a1_Z,a1_Low,a1_High⟩:Gate)))]
  | _=>.no
theorem zJ0:zaf Try.prog 72:=⟨_,rfl,rfl,by kernel_rfl⟩
theorem zPi:Ok Try.prog 72 zF9:=zaF zMA zJ0 fun args K h=>by
  unfold zF9 at h
  split at h
  · rename_i a0_Slope_Num a0_Slope_Den a0_Start_Num a0_Start_Den a1_Z a1_Low a1_High
    have hk:=h
    exact ⟨(fun _ _=>[]),(fun _=>false),zJZ,q72 (⟨(⟨a0_Slope_Num,a0_Slope_Den⟩:Frac),(⟨a0_Start_Num,a0_Start_Den⟩:Frac)⟩:Line) (⟨a1_Z,a1_Low,a1_High⟩:Gate) K hk⟩
  · exact h.elim
abbrev T27:Tabs:=(Tabs.nil.addF 72 zF9)
theorem zMB:TabsOk Try.prog T27:=(TabsOk.nil.addF zPi)
abbrev G27:Ctrs:=csm T27 (fun _ _=>[]) (fun _=>false)
def zGa:Ann:=⟨24,[(0,zK [1,2] [2]),(1,zK [1,2,5] [2]),(2,zK [1,2,5,6] [2]),(3,zK [1,2,5,6,10] [2,22]),(4,zK [1,2,5,6] [2,22]),(5,zK [1,2,5,6,18] [2,22]),(6,zK [1,2,5,6] [2,22]),(7,zK [4] [22])],
 [(3,⟨[1,2,5,6],[2,22],[(5,22,3,fun _=>zaq default)],[],[],[],[]⟩)],
 [(6,zK [1,2,5,6,18] [2,22])],
 [],[]⟩
abbrev R27:=(Sl Int)
abbrev e27 (r:R27):List PA:=[.one (.sl r.len 1 (fun i=>zaq (r.get i)))]
@[irreducible] def z27:=ptF Try.prog G27 zGa Try.f27
def zCx (l_a0:Line) (zaa:(Sl Gate)) (iv0:Int) (zdV:(Sl Int)) (zfi:Nat→List PV):St:=⟨[(1,zS enc_55 3 zaa),(2,zp 2 0),(5,zv 22),(6,zI iv0)],[(2,.box 37 (zm (zaC l_a0))),(22,.vec 3 1 8 zdV.len zfi)],[]⟩
abbrev zGb (K:List PA→Prop) (l_a0:Line) (zaa:(Sl Gate)) (X:St→Prop) (P:Int→(Sl Int)→Bool) (S:Int→(Sl Int)→(Sl Int)):Prop:=∀ ⦃iv0:Int⦄ ⦃zdV:(Sl Int)⦄ ⦃zfi:Nat→List PV⦄,P iv0 zdV=true→K (e27 (S iv0 zdV))→zfi=zg zaq zdV→X (zCx l_a0 zaa iv0 zdV zfi)
section
variable {K:List PA→Prop} {l_a0:Line} {zaa:(Sl Gate)} {iv0:Int} {zdV:(Sl Int)} {zfi:Nat→List PV} {X0:St→Prop} {P0:Int→(Sl Int)→Bool} {S0:Int→(Sl Int)→(Sl Int)} {iv1:Int} {zqj:Bool} {zfj:(Sl Int)} {zyI:Nat→List PV}
def zqk (S0:Int→(Sl Int)→(Sl Int)) (l_a0:Line) (zaa:(Sl Gate)) (iv1:Int) (zqj:Bool) (zfj:(Sl Int)):(Sl Int) :=
  (cond zqj
 (S0 (w64 (iv1+(1:Int))) (⟨(zfj.len+1),(zdT zfj.len zfj.get (fun _=>iv1))⟩:Sl Int))
 (S0 (w64 (iv1+(1:Int))) zfj))
def zql (P0:Int→(Sl Int)→Bool) (l_a0:Line) (zaa:(Sl Gate)) (iv1:Int) (zqj:Bool) (zfj:(Sl Int)):Bool :=
  (cond zqj
 (decide (((zfj.len+1) * 8≤140737488355328∧zfj.len+1≤9223372036854775807)) &&
 (P0 (w64 (iv1+(1:Int))) (⟨(zfj.len+1),(zdT zfj.len zfj.get (fun _=>iv1))⟩:Sl Int)))
 (P0 (w64 (iv1+(1:Int))) zfj))
theorem zGc (hX0:zGb K l_a0 zaa X0 P0 S0) (hs:zql P0 l_a0 zaa iv1 zqj zfj=true) (hk:K (e27 (zqk S0 l_a0 zaa iv1 zqj zfj))) (zGd:zyI=zg zaq zfj):z27 K [1,1,0,1,0,0,1,0,0,1] [X0] ⟨[(1,zS enc_55 3 zaa),(2,zp 2 0),(5,zv 22),(6,zI iv1),(18,zB zqj)],[(2,.box 37 (zm (zaC l_a0))),(22,.vec 3 1 8 zfj.len zyI)],[]⟩:=by subst zGd;exact zaD (by kernel_rfl) (zc hs hk (fun hs hk=>(zay hs fun hc hs=>And.intro hc (hX0 hs hk (zeP (enc:=zaq) (f:=zfj.get) (h:=(fun _=>iv1)) rfl rfl)))) (fun hs hk=>(hX0 hs hk rfl)))
def zhO (l_a0:Line) (zaa:(Sl Gate)) (S0:Int→(Sl Int)→(Sl Int)) (iv0:Int) (zdV:(Sl Int)):(Sl Int) :=
  (cond (decide (iv0 < (zaa.len : Int)))
 (zqk S0 l_a0 zaa iv0 (s72 l_a0 (zaa.get iv0.toNat)) zdV)
 zdV)
def zhP (l_a0:Line) (zaa:(Sl Gate)) (P0:Int→(Sl Int)→Bool) (iv0:Int) (zdV:(Sl Int)):Bool :=
  (cond (decide (iv0 < (zaa.len : Int)))
 (decide ((0≤iv0∧iv0 < (zaa.len:Int))) &&
 (zql P0 l_a0 zaa iv0 (s72 l_a0 (zaa.get iv0.toNat)) zdV))
 true)
def zhQ (l_a0:Line) (zaa:(Sl Gate)):Nat→Int→(Sl Int)→(Sl Int):=lpO (fun _ _=>default) (zhO l_a0 zaa)
def zhR (l_a0:Line) (zaa:(Sl Gate)):Nat→Int→(Sl Int)→Bool:=lpO (fun _ _=>false) (zhP l_a0 zaa)
def zyJ (l_a0:Line) (zaa:(Sl Gate)) (iv0:Int) (zdV:(Sl Int)):(Sl Int):=zhQ l_a0 zaa Fuel iv0 zdV
def zyK (l_a0:Line) (zaa:(Sl Gate)) (iv0:Int) (zdV:(Sl Int)):Bool:=zhR l_a0 zaa Fuel iv0 zdV
theorem zGe (hs:zyK l_a0 zaa iv0 zdV=true) (hk:K (e27 (zyJ l_a0 zaa iv0 zdV))) (zqm:zfi=zg zaq zdV):z27 K [1,1,0,1,0] [] (zCx l_a0 zaa iv0 zdV zfi) :=
  zl (fun X=>z27 K [1,1,0,1,0,0] [X]) (by kernel_rfl) fun X0 hX =>
  (show ∀ k, zGb K l_a0 zaa X0 (zhR l_a0 zaa k) (zhQ l_a0 zaa k) from zer _ _ (zhP l_a0 zaa) (zhO l_a0 zaa) (zGb K l_a0 zaa X0)
 (by intro _ _ _ hs;exact absurd hs Bool.false_ne_true)
 (by intro P0 S0 hX0 iv0 zdV zfi hs hk zqm;subst zqm;exact hX _ (zaD (by kernel_rfl) (zc hs hk (fun hs hk=>(zay hs fun hc hs=>And.intro hc (zGc hX0 hs hk rfl))) (fun hs hk=>hk))))) _ hs hk zqm
def s27 (l_a0:Line) (zaa:(Sl Gate)):(Sl Int) :=
  (zyJ l_a0 zaa (0:Int) (⟨0,(fun _=>default)⟩:Sl Int))
def p27 (l_a0:Line) (zaa:(Sl Gate)):Bool :=
  (zyK l_a0 zaa (0:Int) (⟨0,(fun _=>default)⟩:Sl Int))
end
theorem q27 (l_a0:Line) (zaa:(Sl Gate)) (K:List PA→Prop) (hs:p27 l_a0 zaa=true) (hk:K (e27 (s27 l_a0 zaa))):vcFun Try.prog G27 zGa 27 [.agg (zaC l_a0),.one (.sl zaa.len 3 (fun i=>enc_55 (zaa.get i)))] K :=
  zaD (by kernel_rfl) (zGe hs hk rfl)
def zGf : List PA → COut
  | [.agg [.int .i64 a0_Slope_Num,.int .i64 a0_Slope_Den,.int .i64 a0_Start_Num,.int .i64 a0_Start_Den],.one (.sl a1_n a1_s a1_g)]=>.det (IsE enc_55 3 a1_s a1_g∧p27 (⟨(⟨a0_Slope_Num,a0_Slope_Den⟩:Frac),(⟨a0_Start_Num,a0_Start_Den⟩:Frac)⟩:Line) (⟨a1_n,zae a1_g⟩:(Sl Gate))=true) [.one (.sl ((s27 (⟨(⟨a0_Slope_Num,a0_Slope_Den⟩:Frac),(⟨a0_Start_Num,a0_Start_Den⟩:Frac)⟩:Line) (⟨a1_n,zae a1_g⟩:(Sl Gate))).len) 1 (fun i=>zaq ((s27 (⟨(⟨a0_Slope_Num,a0_Slope_Den⟩:Frac),(⟨a0_Start_Num,a0_Start_Den⟩:Frac)⟩:Line) (⟨a1_n,zae a1_g⟩:(Sl Gate))).get i)))]
  | _=>.no
theorem zJ1:zaf Try.prog 27:=⟨_,rfl,rfl,by kernel_rfl⟩
theorem zPj:Ok Try.prog 27 zGf:=zaF zMB zJ1 fun args K h=>by
  unfold zGf at h
  split at h
  · rename_i a0_Slope_Num a0_Slope_Den a0_Start_Num a0_Start_Den a1_n a1_s a1_g
    obtain ⟨⟨⟨rfl,a1_f,rfl⟩,hs⟩,hk⟩:=h
    try rw [zac a1_f] at hs
    try rw [zac a1_f] at hk
    exact ⟨(fun _ _=>[]),(fun _=>false),zGa,q27 (⟨(⟨a0_Slope_Num,a0_Slope_Den⟩:Frac),(⟨a0_Start_Num,a0_Start_Den⟩:Frac)⟩:Line) (⟨a1_n,a1_f⟩:(Sl Gate)) K hs hk⟩
  · exact h.elim
abbrev T26:Tabs:=(Tabs.nil.addF 40 ztF)
theorem zMC:TabsOk Try.prog T26:=(TabsOk.nil.addF zK3)
abbrev G26:Ctrs:=csm T26 (fun _ _=>[]) (fun _=>false)
def zGg:Ann:=⟨35,[(0,zK [0,1,2,3,8] [8]),(1,zK [0,1,2,3,8,11] [8]),(2,zK [0,1,2,3,8] [8]),(3,zK [8] [8])],
 [],
 [(3,zK [0,1,2,3,8] [8])],
 [],[]⟩
abbrev R26:=Line
abbrev e26 (r:R26):List PA:=[.agg [.int .i64 r.Slope.Num,.int .i64 r.Slope.Den,.int .i64 r.Start.Num,.int .i64 r.Start.Den]]
@[irreducible] def z26:=ptF Try.prog G26 zGg Try.f26
section
variable {K:List PA→Prop} {z:Int} {x:Int} {w:Int} {y_a3:Int} {zv0:Int} {xv0:Int} {wv0:Int} {yv0:Int}
def zmB (zv0:Int) (xv0:Int) (wv0:Int) (yv0:Int):Line :=
  (⟨(s40 (w64 (yv0 - xv0)) (w64 (wv0 - zv0))),(s40 (w64 ((w64 (xv0 * wv0)) - (w64 (yv0 * zv0)))) (w64 (wv0 - zv0)))⟩:Line)
def zmC (zv0:Int) (xv0:Int) (wv0:Int) (yv0:Int):Bool :=
  (decide ((p40 (w64 (yv0 - xv0)) (w64 (wv0 - zv0))=true)) &&
 (decide ((p40 (w64 ((w64 (xv0 * wv0)) - (w64 (yv0 * zv0)))) (w64 (wv0 - zv0))=true)) &&
 true))
theorem zyL (hs:zmC zv0 xv0 wv0 yv0=true) (hk:K (e26 (zmB zv0 xv0 wv0 yv0))):z26 K [1,1] [] ⟨[(0,zI zv0),(1,zI xv0),(2,zI wv0),(3,zI yv0),(8,zp 8 0)],[(8,.box 37 (zm (zaC (⟨(⟨(0:Int),(0:Int)⟩:Frac),(⟨(0:Int),(0:Int)⟩:Frac)⟩:Line))))],[]⟩:=zaD (by kernel_rfl) (zay hs fun hc hs=>And.intro hc (zay hs fun hc hs=>And.intro hc hk))
def s26 (z:Int) (x:Int) (w:Int) (y_a3:Int):Line :=
  (cond (decide (w < z))
 (zmB w y_a3 z x)
 (zmB z x w y_a3))
def p26 (z:Int) (x:Int) (w:Int) (y_a3:Int):Bool :=
  (cond (decide (w < z))
 (zmC w y_a3 z x)
 (zmC z x w y_a3))
end
theorem q26 (z:Int) (x:Int) (w:Int) (y_a3:Int) (K:List PA→Prop) (hs:p26 z x w y_a3=true) (hk:K (e26 (s26 z x w y_a3))):vcFun Try.prog G26 zGg 26 [.one (.int .i64 z),.one (.int .i64 x),.one (.int .i64 w),.one (.int .i64 y_a3)] K :=
  zaD (by kernel_rfl) (zc hs hk (fun hs hk=>(zyL hs hk)) (fun hs hk=>(zyL hs hk)))
def zGh : List PA → COut
  | [.one (.int .i64 a0),.one (.int .i64 a1),.one (.int .i64 a2),.one (.int .i64 a3)]=>.det (p26 a0 a1 a2 a3=true) [.agg [.int .i64 ((s26 a0 a1 a2 a3).Slope.Num),.int .i64 ((s26 a0 a1 a2 a3).Slope.Den),.int .i64 ((s26 a0 a1 a2 a3).Start.Num),.int .i64 ((s26 a0 a1 a2 a3).Start.Den)]]
  | _=>.no
theorem zJ2:zaf Try.prog 26:=⟨_,rfl,rfl,by kernel_rfl⟩
theorem zPk:Ok Try.prog 26 zGh:=zaF zMC zJ2 fun args K h=>by
  unfold zGh at h
  split at h
  · rename_i a0 a1 a2 a3
    obtain ⟨hs,hk⟩:=h
    exact ⟨(fun _ _=>[]),(fun _=>false),zGg,q26 a0 a1 a2 a3 K hs hk⟩
  · exact h.elim
abbrev zNC:Tabs:=Tabs.nil
theorem zJ3:TabsOk Try.prog zNC:=TabsOk.nil
abbrev zPl:Ctrs:=csm zNC (fun _ _=>[]) (fun _=>false)
def zCy:Ann:=⟨11,[(0,zK [1,2] [2]),(1,zK [2,6] [2]),(2,zK [4] []),(3,zK [4] [])],
 [],
 [],
 [],[]⟩
abbrev zPm:=Int
abbrev e109 (r:zPm):List PA:=[.one (.int .i64 r)]
section
variable {K:List PA→Prop} {g:Gate} {which:Int}
def zsw (g:Gate) (which:Int):Int :=
  (cond (which == (0:Int))
 g.Low
 g.High)
end
theorem zPn (g:Gate) (which:Int) (K:List PA→Prop) (hk:K (e109 (zsw g which))):vcFun Try.prog zPl zCy 109 [.agg (enc_55 g),.one (.int .i64 which)] K :=
  zaD (by kernel_rfl) (zt hk (fun hk=>hk) (fun hk=>hk))
def zyM : List PA → COut
  | [.agg [.int .i64 a0_Z,.int .i64 a0_Low,.int .i64 a0_High],.one (.int .i64 a1)]=>.tot [.one (.int .i64 (zsw (⟨a0_Z,a0_Low,a0_High⟩:Gate) a1))]
  | _=>.no
theorem zGi:zaf Try.prog 109:=⟨_,rfl,rfl,by kernel_rfl⟩
theorem zMD:Ok Try.prog 109 zyM:=zaF zJ3 zGi fun args K h=>by
  unfold zyM at h
  split at h
  · rename_i a0_Z a0_Low a0_High a1
    have hk:=h
    exact ⟨(fun _ _=>[]),(fun _=>false),zCy,zPn (⟨a0_Z,a0_Low,a0_High⟩:Gate) a1 K hk⟩
  · exact h.elim
abbrev T80:Tabs:=((Tabs.nil.addF 26 zGh).addF 109 zyM)
theorem zME:TabsOk Try.prog T80:=((TabsOk.nil.addF zPk).addF zMD)
abbrev G80:Ctrs:=csm T80 (fun _ _=>[]) (fun _=>false)
def zGj:Ann:=⟨67,[(0,zK [0] []),(1,zK [0,3] []),(2,zK [0,3,4] []),(3,zK [0,3,4,10] [65]),(4,zK [0,3,4] [65]),(5,zK [0,3,4,5] [65]),(6,zK [0,3,4,5,18] [65]),(7,zK [0,3,4,5] [65]),(8,zK [0,3,4,5,6] [65]),(9,zK [0,3,4,5,6,35] [65]),(10,zK [0,3,4,5,6] [65]),(11,zK [0,3,4,5,6] [65]),(12,zK [2] [65])],
 [(3,⟨[0,3,4],[65],[(3,65,37,fun _=>zaC default)],[],[],[],[]⟩),(6,⟨[0,3,4,5],[65],[(3,65,37,fun _=>zaC default)],[],[],[],[]⟩),(9,⟨[0,3,4,5,6],[65],[(3,65,37,fun _=>zaC default)],[],[],[],[]⟩)],
 [],
 [],[]⟩
abbrev R80:=(Sl Line)
abbrev e80 (r:R80):List PA:=[.one (.sl r.len 4 (fun i=>zaC (r.get i)))]
@[irreducible] def z80:=ptF Try.prog G80 zGj Try.f80
def zCz (zaa:(Sl Gate)) (iv0:Int) (zdW:(Sl Line)) (zfk:Nat→List PV):St:=⟨[(0,zS enc_55 3 zaa),(3,zv 65),(4,zI iv0)],[(65,.vec 37 4 32 zdW.len zfk)],[]⟩
abbrev zBl (K:List PA→Prop) (zaa:(Sl Gate)) (X:St→Prop) (P:Int→(Sl Line)→Bool) (S:Int→(Sl Line)→(Sl Line)):Prop:=∀ ⦃iv0:Int⦄ ⦃zdW:(Sl Line)⦄ ⦃zfk:Nat→List PV⦄,P iv0 zdW=true→K (e80 (S iv0 zdW))→zfk=zg zaC zdW→X (zCz zaa iv0 zdW zfk)
def zCA (zaa:(Sl Gate)) (iv1:Int) (kv1:Int) (zdM:(Sl Line)) (zfl:Nat→List PV):St:=⟨[(0,zS enc_55 3 zaa),(3,zv 65),(4,zI iv1),(5,zI kv1)],[(65,.vec 37 4 32 zdM.len zfl)],[]⟩
abbrev zGk (K:List PA→Prop) (zaa:(Sl Gate)) (X:St→Prop) (P:Int→Int→(Sl Line)→Bool) (S:Int→Int→(Sl Line)→(Sl Line)):Prop:=∀ ⦃iv1:Int⦄ ⦃kv1:Int⦄ ⦃zdM:(Sl Line)⦄ ⦃zfl:Nat→List PV⦄,P iv1 kv1 zdM=true→K (e80 (S iv1 kv1 zdM))→zfl=zg zaC zdM→X (zCA zaa iv1 kv1 zdM zfl)
def zCB (zaa:(Sl Gate)) (iv2:Int) (kv2:Int) (ev2:Int) (zcv:(Sl Line)) (zfm:Nat→List PV):St:=⟨[(0,zS enc_55 3 zaa),(3,zv 65),(4,zI iv2),(5,zI kv2),(6,zI ev2)],[(65,.vec 37 4 32 zcv.len zfm)],[]⟩
abbrev zJ4 (K:List PA→Prop) (zaa:(Sl Gate)) (X:St→Prop) (P:Int→Int→Int→(Sl Line)→Bool) (S:Int→Int→Int→(Sl Line)→(Sl Line)):Prop:=∀ ⦃iv2:Int⦄ ⦃kv2:Int⦄ ⦃ev2:Int⦄ ⦃zcv:(Sl Line)⦄ ⦃zfm:Nat→List PV⦄,P iv2 kv2 ev2 zcv=true→K (e80 (S iv2 kv2 ev2 zcv))→zfm=zg zaC zcv→X (zCB zaa iv2 kv2 ev2 zcv zfm)
section
variable {K:List PA→Prop} {zaa:(Sl Gate)} {iv0:Int} {zdW:(Sl Line)} {zfk:Nat→List PV} {X0:St→Prop} {P0:Int→(Sl Line)→Bool} {S0:Int→(Sl Line)→(Sl Line)} {iv1:Int} {kv1:Int} {zdM:(Sl Line)} {zfl:Nat→List PV} {X1:St→Prop} {P1:Int→Int→(Sl Line)→Bool} {S1:Int→Int→(Sl Line)→(Sl Line)} {iv2:Int} {kv2:Int} {ev2:Int} {zcv:(Sl Line)} {zfm:Nat→List PV} {X2:St→Prop} {P2:Int→Int→Int→(Sl Line)→Bool} {S2:Int→Int→Int→(Sl Line)→(Sl Line)}
def zfn (S0:Int→(Sl Line)→(Sl Line)) (S1:Int→Int→(Sl Line)→(Sl Line)) (zaa:(Sl Gate)) (S2:Int→Int→Int→(Sl Line)→(Sl Line)) (iv2:Int) (kv2:Int) (ev2:Int) (zcv:(Sl Line)):(Sl Line) :=
  (cond (decide (ev2 < (4:Int)))
 (cond ((zaa.get iv2.toNat).Z != (zaa.get kv2.toNat).Z)
 (S2 iv2 kv2 (w64 (ev2+(1:Int))) (⟨(zcv.len+1),(zdT zcv.len zcv.get (fun _=>(s26 ((zaa.get iv2.toNat).Z) (zsw (zaa.get iv2.toNat) (w64 (ev2.tdiv (2:Int)))) ((zaa.get kv2.toNat).Z) (zsw (zaa.get kv2.toNat) (ev2.tmod (2:Int))))))⟩:Sl Line))
 (S1 iv2 (w64 (kv2+(1:Int))) zcv))
 (S1 iv2 (w64 (kv2+(1:Int))) zcv))
def zfo (P0:Int→(Sl Line)→Bool) (P1:Int→Int→(Sl Line)→Bool) (zaa:(Sl Gate)) (P2:Int→Int→Int→(Sl Line)→Bool) (iv2:Int) (kv2:Int) (ev2:Int) (zcv:(Sl Line)):Bool :=
  (cond (decide (ev2 < (4:Int)))
 (decide ((0≤iv2∧iv2 < (zaa.len:Int))) &&
 (decide ((0≤kv2∧kv2 < (zaa.len:Int))) &&
 (cond ((zaa.get iv2.toNat).Z != (zaa.get kv2.toNat).Z)
 (decide ((0≤iv2∧iv2 < (zaa.len:Int))) &&
 (decide ((0≤iv2∧iv2 < (zaa.len:Int))) &&
 (decide (((2:Int) ≠ 0)) &&
 (decide ((0≤kv2∧kv2 < (zaa.len:Int))) &&
 (decide ((0≤kv2∧kv2 < (zaa.len:Int))) &&
 (decide (((2:Int) ≠ 0)) &&
 (decide ((p26 ((zaa.get iv2.toNat).Z) (zsw (zaa.get iv2.toNat) (w64 (ev2.tdiv (2:Int)))) ((zaa.get kv2.toNat).Z) (zsw (zaa.get kv2.toNat) (ev2.tmod (2:Int)))=true)) &&
 (decide (((zcv.len+1) * 32≤140737488355328∧zcv.len+1≤9223372036854775807)) &&
 (P2 iv2 kv2 (w64 (ev2+(1:Int))) (⟨(zcv.len+1),(zdT zcv.len zcv.get (fun _=>(s26 ((zaa.get iv2.toNat).Z) (zsw (zaa.get iv2.toNat) (w64 (ev2.tdiv (2:Int)))) ((zaa.get kv2.toNat).Z) (zsw (zaa.get kv2.toNat) (ev2.tmod (2:Int))))))⟩:Sl Line))))))))))
 (P1 iv2 (w64 (kv2+(1:Int))) zcv))))
 (P1 iv2 (w64 (kv2+(1:Int))) zcv))
def zdb (S0:Int→(Sl Line)→(Sl Line)) (S1:Int→Int→(Sl Line)→(Sl Line)) (zaa:(Sl Gate)):Nat→Int→Int→Int→(Sl Line)→(Sl Line):=lpO (fun _ _ _ _=>default) (zfn S0 S1 zaa)
def zdc (P0:Int→(Sl Line)→Bool) (P1:Int→Int→(Sl Line)→Bool) (zaa:(Sl Gate)):Nat→Int→Int→Int→(Sl Line)→Bool:=lpO (fun _ _ _ _=>false) (zfo P0 P1 zaa)
def zqn (S0:Int→(Sl Line)→(Sl Line)) (S1:Int→Int→(Sl Line)→(Sl Line)) (zaa:(Sl Gate)) (iv2:Int) (kv2:Int) (ev2:Int) (zcv:(Sl Line)):(Sl Line):=zdb S0 S1 zaa Fuel iv2 kv2 ev2 zcv
def zqo (P0:Int→(Sl Line)→Bool) (P1:Int→Int→(Sl Line)→Bool) (zaa:(Sl Gate)) (iv2:Int) (kv2:Int) (ev2:Int) (zcv:(Sl Line)):Bool:=zdc P0 P1 zaa Fuel iv2 kv2 ev2 zcv
theorem zGl (hX0:zBl K zaa X0 P0 S0) (hX1:zGk K zaa X1 P1 S1) (hs:zqo P0 P1 zaa iv2 kv2 ev2 zcv=true) (hk:K (e80 (zqn S0 S1 zaa iv2 kv2 ev2 zcv))) (zqp:zfm=zg zaC zcv):z80 K [1,1,0,1,0,0,1,0,0,1,0,0,1,0,0,1,0] [X0,X1] (zCB zaa iv2 kv2 ev2 zcv zfm) :=
  zl (fun X=>z80 K [1,1,0,1,0,0,1,0,0,1,0,0,1,0,0,1,0,0] [X0,X1,X]) (by kernel_rfl) fun X2 hX =>
  (show ∀ k, zJ4 K zaa X2 (zdc P0 P1 zaa k) (zdb S0 S1 zaa k) from zer _ _ (zfo P0 P1 zaa) (zfn S0 S1 zaa) (zJ4 K zaa X2)
 (by intro _ _ _ _ _ hs;exact absurd hs Bool.false_ne_true)
 (by intro P2 S2 hX2 iv2 kv2 ev2 zcv zfm hs hk zqp;subst zqp;exact hX _ (zaD (by kernel_rfl) (zc hs hk (fun hs hk=>(zay hs fun hc hs=>And.intro hc (zay hs fun hc hs=>And.intro hc (zc hs hk (fun hs hk=>(zay hs fun hc hs=>And.intro hc (zay hs fun hc hs=>And.intro hc (zay hs fun hc hs=>And.intro hc (zay hs fun hc hs=>And.intro hc (zay hs fun hc hs=>And.intro hc (zay hs fun hc hs=>And.intro hc (zay hs fun hc hs=>And.intro hc (zay hs fun hc hs=>And.intro hc (hX2 hs hk (zeP (enc:=zaC) (f:=zcv.get) (h:=(fun _=>(s26 ((zaa.get iv2.toNat).Z) (zsw (zaa.get iv2.toNat) (w64 (ev2.tdiv (2:Int)))) ((zaa.get kv2.toNat).Z) (zsw (zaa.get kv2.toNat) (ev2.tmod (2:Int)))))) rfl rfl))))))))))) (fun hs hk=>(hX1 hs hk rfl)))))) (fun hs hk=>(hX1 hs hk rfl)))))) _ hs hk zqp
def zhS (S0:Int→(Sl Line)→(Sl Line)) (zaa:(Sl Gate)) (S1:Int→Int→(Sl Line)→(Sl Line)) (iv1:Int) (kv1:Int) (zdM:(Sl Line)):(Sl Line) :=
  (cond (decide (kv1 < (zaa.len : Int)))
 (zqn S0 S1 zaa iv1 kv1 (0:Int) zdM)
 (S0 (w64 (iv1+(1:Int))) zdM))
def zhT (P0:Int→(Sl Line)→Bool) (zaa:(Sl Gate)) (P1:Int→Int→(Sl Line)→Bool) (iv1:Int) (kv1:Int) (zdM:(Sl Line)):Bool :=
  (cond (decide (kv1 < (zaa.len : Int)))
 (zqo P0 P1 zaa iv1 kv1 (0:Int) zdM)
 (P0 (w64 (iv1+(1:Int))) zdM))
def zgs (S0:Int→(Sl Line)→(Sl Line)) (zaa:(Sl Gate)):Nat→Int→Int→(Sl Line)→(Sl Line):=lpO (fun _ _ _=>default) (zhS S0 zaa)
def zgt (P0:Int→(Sl Line)→Bool) (zaa:(Sl Gate)):Nat→Int→Int→(Sl Line)→Bool:=lpO (fun _ _ _=>false) (zhT P0 zaa)
def zqq (S0:Int→(Sl Line)→(Sl Line)) (zaa:(Sl Gate)) (iv1:Int) (kv1:Int) (zdM:(Sl Line)):(Sl Line):=zgs S0 zaa Fuel iv1 kv1 zdM
def zqr (P0:Int→(Sl Line)→Bool) (zaa:(Sl Gate)) (iv1:Int) (kv1:Int) (zdM:(Sl Line)):Bool:=zgt P0 zaa Fuel iv1 kv1 zdM
theorem zGm (hX0:zBl K zaa X0 P0 S0) (hs:zqr P0 zaa iv1 kv1 zdM=true) (hk:K (e80 (zqq S0 zaa iv1 kv1 zdM))) (zqs:zfl=zg zaC zdM):z80 K [1,1,0,1,0,0,1,0,0,1,0] [X0] (zCA zaa iv1 kv1 zdM zfl) :=
  zl (fun X=>z80 K [1,1,0,1,0,0,1,0,0,1,0,0] [X0,X]) (by kernel_rfl) fun X1 hX =>
  (show ∀ k, zGk K zaa X1 (zgt P0 zaa k) (zgs S0 zaa k) from zer _ _ (zhT P0 zaa) (zhS S0 zaa) (zGk K zaa X1)
 (by intro _ _ _ _ hs;exact absurd hs Bool.false_ne_true)
 (by intro P1 S1 hX1 iv1 kv1 zdM zfl hs hk zqs;subst zqs;exact hX _ (zaD (by kernel_rfl) (zc hs hk (fun hs hk=>(zGl hX0 hX1 hs hk rfl)) (fun hs hk=>(hX0 hs hk rfl)))))) _ hs hk zqs
def zhU (zaa:(Sl Gate)) (S0:Int→(Sl Line)→(Sl Line)) (iv0:Int) (zdW:(Sl Line)):(Sl Line) :=
  (cond (decide (iv0 < (zaa.len : Int)))
 (zqq S0 zaa iv0 (w64 (iv0+(1:Int))) zdW)
 zdW)
def zhV (zaa:(Sl Gate)) (P0:Int→(Sl Line)→Bool) (iv0:Int) (zdW:(Sl Line)):Bool :=
  (cond (decide (iv0 < (zaa.len : Int)))
 (zqr P0 zaa iv0 (w64 (iv0+(1:Int))) zdW)
 true)
def zhW (zaa:(Sl Gate)):Nat→Int→(Sl Line)→(Sl Line):=lpO (fun _ _=>default) (zhU zaa)
def zhX (zaa:(Sl Gate)):Nat→Int→(Sl Line)→Bool:=lpO (fun _ _=>false) (zhV zaa)
def zyN (zaa:(Sl Gate)) (iv0:Int) (zdW:(Sl Line)):(Sl Line):=zhW zaa Fuel iv0 zdW
def zyO (zaa:(Sl Gate)) (iv0:Int) (zdW:(Sl Line)):Bool:=zhX zaa Fuel iv0 zdW
theorem zGn (hs:zyO zaa iv0 zdW=true) (hk:K (e80 (zyN zaa iv0 zdW))) (zqu:zfk=zg zaC zdW):z80 K [1,1,0,1,0] [] (zCz zaa iv0 zdW zfk) :=
  zl (fun X=>z80 K [1,1,0,1,0,0] [X]) (by kernel_rfl) fun X0 hX =>
  (show ∀ k, zBl K zaa X0 (zhX zaa k) (zhW zaa k) from zer _ _ (zhV zaa) (zhU zaa) (zBl K zaa X0)
 (by intro _ _ _ hs;exact absurd hs Bool.false_ne_true)
 (by intro P0 S0 hX0 iv0 zdW zfk hs hk zqu;subst zqu;exact hX _ (zaD (by kernel_rfl) (zc hs hk (fun hs hk=>(zGm hX0 hs hk rfl)) (fun hs hk=>hk))))) _ hs hk zqu
def s80 (zaa:(Sl Gate)):(Sl Line) :=
  (zyN zaa (0:Int) (⟨0,(fun _=>default)⟩:Sl Line))
def p80 (zaa:(Sl Gate)):Bool :=
  (zyO zaa (0:Int) (⟨0,(fun _=>default)⟩:Sl Line))
end
theorem q80 (zaa:(Sl Gate)) (K:List PA→Prop) (hs:p80 zaa=true) (hk:K (e80 (s80 zaa))):vcFun Try.prog G80 zGj 80 [.one (.sl zaa.len 3 (fun i=>enc_55 (zaa.get i)))] K :=
  zaD (by kernel_rfl) (zGn hs hk rfl)
def zGo : List PA → COut
  | [.one (.sl a0_n a0_s a0_g)]=>.det (IsE enc_55 3 a0_s a0_g∧p80 (⟨a0_n,zae a0_g⟩:(Sl Gate))=true) [.one (.sl ((s80 (⟨a0_n,zae a0_g⟩:(Sl Gate))).len) 4 (fun i=>zaC ((s80 (⟨a0_n,zae a0_g⟩:(Sl Gate))).get i)))]
  | _=>.no
theorem zJ5:zaf Try.prog 80:=⟨_,rfl,rfl,by kernel_rfl⟩
theorem zPo:Ok Try.prog 80 zGo:=zaF zME zJ5 fun args K h=>by
  unfold zGo at h
  split at h
  · rename_i a0_n a0_s a0_g
    obtain ⟨⟨⟨rfl,a0_f,rfl⟩,hs⟩,hk⟩:=h
    try rw [zac a0_f] at hs
    try rw [zac a0_f] at hk
    exact ⟨(fun _ _=>[]),(fun _=>false),zGj,q80 (⟨a0_n,a0_f⟩:(Sl Gate)) K hs hk⟩
  · exact h.elim
abbrev T29:Tabs:=Tabs.nil
theorem zMF:TabsOk Try.prog T29:=TabsOk.nil
abbrev G29:Ctrs:=csm T29 (fun _ _=>[]) (fun _=>false)
def zJ6:Ann:=⟨16,[(0,zK [2,3] [2,3]),(1,zK [4] [])],
 [],
 [],
 [],[]⟩
abbrev R29:=Bool
abbrev e29 (r:R29):List PA:=[.one (.bool r)]
section
variable {K:List PA→Prop} {a:Frac} {b:Frac}
def s29 (a:Frac) (b:Frac):Bool :=
  (decide ((w64 (a.Num * b.Den)) < (w64 (b.Num * a.Den))))
end
theorem q29 (a:Frac) (b:Frac) (K:List PA→Prop) (hk:K (e29 (s29 a b))):vcFun Try.prog G29 zJ6 29 [.agg (zad a),.agg (zad b)] K :=
  zaD (by kernel_rfl) hk
def zyP : List PA → COut
  | [.agg [.int .i64 a0_Num,.int .i64 a0_Den],.agg [.int .i64 a1_Num,.int .i64 a1_Den]]=>.tot [.one (.bool (s29 (⟨a0_Num,a0_Den⟩:Frac) (⟨a1_Num,a1_Den⟩:Frac)))]
  | _=>.no
theorem zJ7:zaf Try.prog 29:=⟨_,rfl,rfl,by kernel_rfl⟩
theorem zMG:Ok Try.prog 29 zyP:=zaF zMF zJ7 fun args K h=>by
  unfold zyP at h
  split at h
  · rename_i a0_Num a0_Den a1_Num a1_Den
    have hk:=h
    exact ⟨(fun _ _=>[]),(fun _=>false),zJ6,q29 (⟨a0_Num,a0_Den⟩:Frac) (⟨a1_Num,a1_Den⟩:Frac) K hk⟩
  · exact h.elim
abbrev zND:Tabs:=(Tabs.nil.addF 104 zsv)
theorem zJ8:TabsOk Try.prog zND:=(TabsOk.nil.addF zJY)
abbrev zNE:Ctrs:=csm zND (fun _ _=>[]) (fun _=>false)
def zyQ:Ann:=⟨33,[(0,zK [1,2] [2]),(1,zK [1,2,5] [2]),(2,zK [1,2,5,11] [2]),(3,zK [1,2,5] [2]),(4,zK [1,2,5,6,7] [2]),(5,zK [1,2,5,32] [2]),(6,zK [4] []),(7,zK [4] [])],
 [(2,zK [1,2,5] [2])],
 [(5,zK [1,2,5,6,7] [2])],
 [],[]⟩
abbrev zPp:=Bool
abbrev zK4 (r:zPp):List PA:=[.one (.bool r)]
@[irreducible] def z110:=ptF Try.prog zNE zyQ Try.f110
def zyR (l_a0:Line) (zaa:(Sl Gate)) (iv0:Int):St:=⟨[(1,zS enc_55 3 zaa),(2,zp 2 0),(5,zI iv0)],[(2,.box 37 (zm (zaC l_a0)))],[]⟩
abbrev zyS (K:List PA→Prop) (l_a0:Line) (zaa:(Sl Gate)) (X:St→Prop) (P:Int→Bool) (S:Int→Bool):Prop:=∀ ⦃iv0:Int⦄,P iv0=true→K (zK4 (S iv0))→X (zyR l_a0 zaa iv0)
section
variable {K:List PA→Prop} {l_a0:Line} {zaa:(Sl Gate)} {iv0:Int} {X0:St→Prop} {P0:Int→Bool} {S0:Int→Bool} {iv1:Int} {nv1:Int} {dv1:Int}
def zmD (S0:Int→Bool) (l_a0:Line) (zaa:(Sl Gate)) (iv1:Int) (nv1:Int) (dv1:Int):Bool :=
  (cond (nv1 == (w64 ((zaa.get iv1.toNat).Low * dv1)))
 true
 (S0 (w64 (iv1+(1:Int)))))
def zmE (P0:Int→Bool) (l_a0:Line) (zaa:(Sl Gate)) (iv1:Int) (nv1:Int) (dv1:Int):Bool :=
  (decide ((0≤iv1∧iv1 < (zaa.len:Int))) &&
 (cond (nv1 == (w64 ((zaa.get iv1.toNat).Low * dv1)))
 true
 (P0 (w64 (iv1+(1:Int))))))
theorem zBm (hX0:zyS K l_a0 zaa X0 P0 S0) (hs:zmE P0 l_a0 zaa iv1 nv1 dv1=true) (hk:K (zK4 (zmD S0 l_a0 zaa iv1 nv1 dv1))):z110 K [1,0,1,0,0,1,0,0,1] [X0] ⟨[(1,zS enc_55 3 zaa),(2,zp 2 0),(5,zI iv1),(6,zI nv1),(7,zI dv1)],[(2,.box 37 (zm (zaC l_a0)))],[]⟩:=zaD (by kernel_rfl) (zay hs fun hc hs=>And.intro hc (zc hs hk (fun hs hk=>hk) (fun hs hk=>(hX0 hs hk))))
def zfK (l_a0:Line) (zaa:(Sl Gate)) (S0:Int→Bool) (iv0:Int):Bool :=
  (cond (decide (iv0 < (zaa.len : Int)))
 (zmD S0 l_a0 zaa iv0 ((zqi l_a0 ((zaa.get iv0.toNat).Z)).1) ((zqi l_a0 ((zaa.get iv0.toNat).Z)).2))
 false)
def zfL (l_a0:Line) (zaa:(Sl Gate)) (P0:Int→Bool) (iv0:Int):Bool :=
  (cond (decide (iv0 < (zaa.len : Int)))
 (decide ((0≤iv0∧iv0 < (zaa.len:Int))) &&
 (zmE P0 l_a0 zaa iv0 ((zqi l_a0 ((zaa.get iv0.toNat).Z)).1) ((zqi l_a0 ((zaa.get iv0.toNat).Z)).2)))
 true)
def zfM (l_a0:Line) (zaa:(Sl Gate)):Nat→Int→Bool:=lpO (fun _=>default) (zfK l_a0 zaa)
def zfN (l_a0:Line) (zaa:(Sl Gate)):Nat→Int→Bool:=lpO (fun _=>false) (zfL l_a0 zaa)
def zsx (l_a0:Line) (zaa:(Sl Gate)) (iv0:Int):Bool:=zfM l_a0 zaa Fuel iv0
def zsy (l_a0:Line) (zaa:(Sl Gate)) (iv0:Int):Bool:=zfN l_a0 zaa Fuel iv0
theorem zBn (hs:zsy l_a0 zaa iv0=true) (hk:K (zK4 (zsx l_a0 zaa iv0))):z110 K [1,0,1,0] [] (zyR l_a0 zaa iv0) :=
  zl (fun X=>z110 K [1,0,1,0,0] [X]) (by kernel_rfl) fun X0 hX =>
  (show ∀ k, zyS K l_a0 zaa X0 (zfN l_a0 zaa k) (zfM l_a0 zaa k) from zer _ _ (zfL l_a0 zaa) (zfK l_a0 zaa) (zyS K l_a0 zaa X0)
 (by intro _ hs;exact absurd hs Bool.false_ne_true)
 (by intro P0 S0 hX0 iv0 hs hk;exact hX _ (zaD (by kernel_rfl) (zc hs hk (fun hs hk=>(zay hs fun hc hs=>And.intro hc (zBm hX0 hs hk))) (fun hs hk=>hk))))) _ hs hk
def ztH (l_a0:Line) (zaa:(Sl Gate)):Bool :=
  (zsx l_a0 zaa (0:Int))
def zGp (l_a0:Line) (zaa:(Sl Gate)):Bool :=
  (zsy l_a0 zaa (0:Int))
end
theorem zPq (l_a0:Line) (zaa:(Sl Gate)) (K:List PA→Prop) (hs:zGp l_a0 zaa=true) (hk:K (zK4 (ztH l_a0 zaa))):vcFun Try.prog zNE zyQ 110 [.agg (zaC l_a0),.one (.sl zaa.len 3 (fun i=>enc_55 (zaa.get i)))] K :=
  zaD (by kernel_rfl) (zBn hs hk)
def zyT : List PA → COut
  | [.agg [.int .i64 a0_Slope_Num,.int .i64 a0_Slope_Den,.int .i64 a0_Start_Num,.int .i64 a0_Start_Den],.one (.sl a1_n a1_s a1_g)]=>.det (IsE enc_55 3 a1_s a1_g∧zGp (⟨(⟨a0_Slope_Num,a0_Slope_Den⟩:Frac),(⟨a0_Start_Num,a0_Start_Den⟩:Frac)⟩:Line) (⟨a1_n,zae a1_g⟩:(Sl Gate))=true) [.one (.bool (ztH (⟨(⟨a0_Slope_Num,a0_Slope_Den⟩:Frac),(⟨a0_Start_Num,a0_Start_Den⟩:Frac)⟩:Line) (⟨a1_n,zae a1_g⟩:(Sl Gate))))]
  | _=>.no
theorem zGq:zaf Try.prog 110:=⟨_,rfl,rfl,by kernel_rfl⟩
theorem zMH:Ok Try.prog 110 zyT:=zaF zJ8 zGq fun args K h=>by
  unfold zyT at h
  split at h
  · rename_i a0_Slope_Num a0_Slope_Den a0_Start_Num a0_Start_Den a1_n a1_s a1_g
    obtain ⟨⟨⟨rfl,a1_f,rfl⟩,hs⟩,hk⟩:=h
    try rw [zac a1_f] at hs
    try rw [zac a1_f] at hk
    exact ⟨(fun _ _=>[]),(fun _=>false),zyQ,zPq (⟨(⟨a0_Slope_Num,a0_Slope_Den⟩:Frac),(⟨a0_Start_Num,a0_Start_Den⟩:Frac)⟩:Line) (⟨a1_n,a1_f⟩:(Sl Gate)) K hs hk⟩
  · exact h.elim
abbrev T81:Tabs:=((Tabs.nil.addF 29 zyP).addF 110 zyT)
theorem zMI:TabsOk Try.prog T81:=((TabsOk.nil.addF zMG).addF zMH)
abbrev G81:Ctrs:=csm T81 (fun _ _=>[]) (fun _=>false)
def zGr:Ann:=⟨30,[(0,zK [2,3,4] [3,4]),(1,zK [2,3,4,13] [3,4]),(2,zK [6] []),(3,zK [3,4,19] [3,4]),(4,zK [6] []),(5,zK [6] [])],
 [],
 [(3,zK [2,3,4] [3,4])],
 [],[]⟩
abbrev R81:=Bool
abbrev e81 (r:R81):List PA:=[.one (.bool r)]
@[irreducible] def z81:=ptF Try.prog G81 zGr Try.f81
section
variable {K:List PA→Prop} {a:Line} {b:Line} {zaa:(Sl Gate)}
def zyU (a:Line) (b:Line) (zaa:(Sl Gate)):Bool :=
  (cond (ztH a zaa)
 (s29 a.Slope b.Slope)
 (s29 b.Slope a.Slope))
def zqv (a:Line) (b:Line) (zaa:(Sl Gate)):Bool :=
  (decide ((zGp a zaa=true)) &&
 true)
theorem zGs (hs:zqv a b zaa=true) (hk:K (e81 (zyU a b zaa))):z81 K [1,1] [] ⟨[(2,zS enc_55 3 zaa),(3,zp 3 0),(4,zp 4 0)],[(3,.box 37 (zm (zaC a))),(4,.box 37 (zm (zaC b)))],[]⟩:=zaD (by kernel_rfl) (zay hs fun hc hs=>And.intro (And.intro (zE enc_55 3 zaa.get) hc) (zt hk (fun hk=>hk) (fun hk=>hk)))
def s81 (a:Line) (b:Line) (zaa:(Sl Gate)):Bool :=
  (cond ((ztH a zaa) != (ztH b zaa))
 (ztH a zaa)
 (zyU a b zaa))
def p81 (a:Line) (b:Line) (zaa:(Sl Gate)):Bool :=
  (decide ((zGp a zaa=true)) &&
 (decide ((zGp b zaa=true)) &&
 (cond ((ztH a zaa) != (ztH b zaa))
 (decide ((zGp a zaa=true)) &&
 true)
 (zqv a b zaa))))
end
theorem q81 (a:Line) (b:Line) (zaa:(Sl Gate)) (K:List PA→Prop) (hs:p81 a b zaa=true) (hk:K (e81 (s81 a b zaa))):vcFun Try.prog G81 zGr 81 [.agg (zaC a),.agg (zaC b),.one (.sl zaa.len 3 (fun i=>enc_55 (zaa.get i)))] K :=
  zaD (by kernel_rfl) (zay hs fun hc hs=>And.intro (And.intro (zE enc_55 3 zaa.get) hc) (zay hs fun hc hs=>And.intro (And.intro (zE enc_55 3 zaa.get) hc) (zc hs hk (fun hs hk=>(zay hs fun hc hs=>And.intro (And.intro (zE enc_55 3 zaa.get) hc) hk)) (fun hs hk=>(zGs hs hk)))))
def zGt : List PA → COut
  | [.agg [.int .i64 a0_Slope_Num,.int .i64 a0_Slope_Den,.int .i64 a0_Start_Num,.int .i64 a0_Start_Den],.agg [.int .i64 a1_Slope_Num,.int .i64 a1_Slope_Den,.int .i64 a1_Start_Num,.int .i64 a1_Start_Den],.one (.sl a2_n a2_s a2_g)]=>.det (IsE enc_55 3 a2_s a2_g∧p81 (⟨(⟨a0_Slope_Num,a0_Slope_Den⟩:Frac),(⟨a0_Start_Num,a0_Start_Den⟩:Frac)⟩:Line) (⟨(⟨a1_Slope_Num,a1_Slope_Den⟩:Frac),(⟨a1_Start_Num,a1_Start_Den⟩:Frac)⟩:Line) (⟨a2_n,zae a2_g⟩:(Sl Gate))=true) [.one (.bool (s81 (⟨(⟨a0_Slope_Num,a0_Slope_Den⟩:Frac),(⟨a0_Start_Num,a0_Start_Den⟩:Frac)⟩:Line) (⟨(⟨a1_Slope_Num,a1_Slope_Den⟩:Frac),(⟨a1_Start_Num,a1_Start_Den⟩:Frac)⟩:Line) (⟨a2_n,zae a2_g⟩:(Sl Gate))))]
  | _=>.no
theorem zJ9:zaf Try.prog 81:=⟨_,rfl,rfl,by kernel_rfl⟩
theorem zPr:Ok Try.prog 81 zGt:=zaF zMI zJ9 fun args K h=>by
  unfold zGt at h
  split at h
  · rename_i a0_Slope_Num a0_Slope_Den a0_Start_Num a0_Start_Den a1_Slope_Num a1_Slope_Den a1_Start_Num a1_Start_Den a2_n a2_s a2_g
    obtain ⟨⟨⟨rfl,a2_f,rfl⟩,hs⟩,hk⟩:=h
    try rw [zac a2_f] at hs
    try rw [zac a2_f] at hk
    exact ⟨(fun _ _=>[]),(fun _=>false),zGr,q81 (⟨(⟨a0_Slope_Num,a0_Slope_Den⟩:Frac),(⟨a0_Start_Num,a0_Start_Den⟩:Frac)⟩:Line) (⟨(⟨a1_Slope_Num,a1_Slope_Den⟩:Frac),(⟨a1_Start_Num,a1_Start_Den⟩:Frac)⟩:Line) (⟨a2_n,a2_f⟩:(Sl Gate)) K hs hk⟩
  · exact h.elim
abbrev T33:Tabs:=(((Tabs.nil.addF 27 zGf).addF 80 zGo).addF 81 zGt)
theorem zMJ:TabsOk Try.prog T33:=(((TabsOk.nil.addF zPj).addF zPo).addF zPr)
abbrev G33:Ctrs:=csm T33 (fun _ _=>[]) (fun _=>false)
def zGu:Ann:=⟨73,[(0,zK [0] []),(1,zK [0,3] []),(2,zK [0,3,4] []),(3,zK [0,3,4,5] []),(4,zK [0,3,4,5,12] []),(5,zK [0,3,4,5] [61]),(6,zK [0,3,4,5,24] []),(7,zK [0,3,4,5,6] []),(8,zK [0,3,4,5,6,40] []),(9,zK [0,3,4,5,6] []),(10,zK [0,3,4,5,6,57] []),(11,zK [0,3,4,5] [61]),(12,zK [2] [])],
 [(4,⟨[0,3,4,5],[],[],[],[],[],[(3,4,fun _=>zaC default)]⟩),(8,zK [0,3,4,5,6] [])],
 [(3,zK [0,3,4] []),(10,zK [0,3,4,5,6] [])],
 [],[]⟩
abbrev R33:=(Sl Line)
abbrev e33 (r:R33):List PA:=[.one (.sl r.len 4 (fun i=>zaC (r.get i)))]
@[irreducible] def z33:=ptF Try.prog G33 zGu Try.f33
def zCC (zaa:(Sl Gate)) (lv0:(Sl Line)) (zdJ:(Sl Line)) (iv1:Int) (zfp:Nat→List PV):St:=⟨[(0,zS enc_55 3 zaa),(3,zP (.sl zdJ.len 4 zfp)),(4,zS zaC 4 lv0),(5,zI iv1)],[],[]⟩
abbrev zBo (K:List PA→Prop) (zaa:(Sl Gate)) (lv0:(Sl Line)) (X:St→Prop) (P:(Sl Line)→Int→Bool) (S:(Sl Line)→Int→(Sl Line)):Prop:=∀ ⦃zdJ:(Sl Line)⦄ ⦃iv1:Int⦄ ⦃zfp:Nat→List PV⦄,P zdJ iv1=true→K (e33 (S zdJ iv1))→zfp=zg zaC zdJ→X (zCC zaa lv0 zdJ iv1 zfp)
def zCD (zaa:(Sl Gate)) (lv0:(Sl Line)) (zcD:(Sl Line)) (iv2:Int) (zg8:Int) (zfq:Nat→List PV):St:=⟨[(0,zS enc_55 3 zaa),(3,zP (.sl zcD.len 4 zfq)),(4,zS zaC 4 lv0),(5,zI iv2),(6,zI zg8)],[],[]⟩
abbrev zKa (K:List PA→Prop) (zaa:(Sl Gate)) (lv0:(Sl Line)) (X:St→Prop) (P:(Sl Line)→Int→Int→Bool) (S:(Sl Line)→Int→Int→(Sl Line)):Prop:=∀ ⦃zcD:(Sl Line)⦄ ⦃iv2:Int⦄ ⦃zg8:Int⦄ ⦃zfq:Nat→List PV⦄,P zcD iv2 zg8=true→K (e33 (S zcD iv2 zg8))→zfq=zg zaC zcD→X (zCD zaa lv0 zcD iv2 zg8 zfq)
section
variable {K:List PA→Prop} {zaa:(Sl Gate)} {lv0:(Sl Line)} {zyV:Nat→List PV} {zdJ:(Sl Line)} {iv1:Int} {zfp:Nat→List PV} {X1:St→Prop} {P1:(Sl Line)→Int→Bool} {S1:(Sl Line)→Int→(Sl Line)} {zcD:(Sl Line)} {iv2:Int} {zg8:Int} {zfq:Nat→List PV} {X2:St→Prop} {P2:(Sl Line)→Int→Int→Bool} {S2:(Sl Line)→Int→Int→(Sl Line)} {zbD:(Sl Line)} {iv3:Int} {zco:Int} {zyW:Nat→List PV}
def zkn (S1:(Sl Line)→Int→(Sl Line)) (zaa:(Sl Gate)) (lv0:(Sl Line)) (zbD:(Sl Line)) (iv3:Int) (zco:Int):(Sl Line) :=
  (cond (decide (zco < (zbD.len : Int)))
 (cond (match (match ((zbD.get zco.toNat).Slope.Num == (lv0.get iv3.toNat).Slope.Num) with | true => (match ((zbD.get zco.toNat).Slope.Den == (lv0.get iv3.toNat).Slope.Den) with | true => true | false => false) | false => false) with | true => (match (match ((zbD.get zco.toNat).Start.Num == (lv0.get iv3.toNat).Start.Num) with | true => (match ((zbD.get zco.toNat).Start.Den == (lv0.get iv3.toNat).Start.Den) with | true => true | false => false) | false => false) with | true => true | false => false) | false => false)
 (S1 zbD (w64 (iv3+(1:Int))))
 (S1 (⟨(((zco - (0:Int)).toNat+1)+((zbD.len:Int) - zco).toNat),(zdT ((zco - (0:Int)).toNat+1) (zdT ((zco - (0:Int)).toNat) (fun i=>zbD.get (i+((0:Int).toNat))) (fun _=>(lv0.get iv3.toNat))) (fun i=>zbD.get (i+zco.toNat)))⟩:Sl Line) (w64 (iv3+(1:Int)))))
 (S1 (⟨(((zco - (0:Int)).toNat+1)+((zbD.len:Int) - zco).toNat),(zdT ((zco - (0:Int)).toNat+1) (zdT ((zco - (0:Int)).toNat) (fun i=>zbD.get (i+((0:Int).toNat))) (fun _=>(lv0.get iv3.toNat))) (fun i=>zbD.get (i+zco.toNat)))⟩:Sl Line) (w64 (iv3+(1:Int)))))
def zko (P1:(Sl Line)→Int→Bool) (zaa:(Sl Gate)) (lv0:(Sl Line)) (zbD:(Sl Line)) (iv3:Int) (zco:Int):Bool :=
  (cond (decide (zco < (zbD.len : Int)))
 (decide ((0≤zco∧zco < (zbD.len:Int))) &&
 (decide ((0≤iv3∧iv3 < (lv0.len:Int))) &&
 (cond (match (match ((zbD.get zco.toNat).Slope.Num == (lv0.get iv3.toNat).Slope.Num) with | true => (match ((zbD.get zco.toNat).Slope.Den == (lv0.get iv3.toNat).Slope.Den) with | true => true | false => false) | false => false) with | true => (match (match ((zbD.get zco.toNat).Start.Num == (lv0.get iv3.toNat).Start.Num) with | true => (match ((zbD.get zco.toNat).Start.Den == (lv0.get iv3.toNat).Start.Den) with | true => true | false => false) | false => false) with | true => true | false => false) | false => false)
 (P1 zbD (w64 (iv3+(1:Int))))
 (decide ((0≤(0:Int)∧(0:Int)≤zco∧zco≤(zbD.len:Int))) &&
 (decide (((zco - (0:Int)).toNat * 32≤140737488355328∧(zco - (0:Int)).toNat≤9223372036854775807)) &&
 (decide ((0≤iv3∧iv3 < (lv0.len:Int))) &&
 (decide ((((zco - (0:Int)).toNat+1) * 32≤140737488355328∧(zco - (0:Int)).toNat+1≤9223372036854775807)) &&
 (decide ((0≤zco∧zco≤(zbD.len:Int)∧(zbD.len:Int)≤(zbD.len:Int))) &&
 (decide (((((zco - (0:Int)).toNat+1)+((zbD.len:Int) - zco).toNat) * 32≤140737488355328∧((zco - (0:Int)).toNat+1)+((zbD.len:Int) - zco).toNat≤9223372036854775807)) &&
 (P1 (⟨(((zco - (0:Int)).toNat+1)+((zbD.len:Int) - zco).toNat),(zdT ((zco - (0:Int)).toNat+1) (zdT ((zco - (0:Int)).toNat) (fun i=>zbD.get (i+((0:Int).toNat))) (fun _=>(lv0.get iv3.toNat))) (fun i=>zbD.get (i+zco.toNat)))⟩:Sl Line) (w64 (iv3+(1:Int)))))))))))))
 (decide ((0≤(0:Int)∧(0:Int)≤zco∧zco≤(zbD.len:Int))) &&
 (decide (((zco - (0:Int)).toNat * 32≤140737488355328∧(zco - (0:Int)).toNat≤9223372036854775807)) &&
 (decide ((0≤iv3∧iv3 < (lv0.len:Int))) &&
 (decide ((((zco - (0:Int)).toNat+1) * 32≤140737488355328∧(zco - (0:Int)).toNat+1≤9223372036854775807)) &&
 (decide ((0≤zco∧zco≤(zbD.len:Int)∧(zbD.len:Int)≤(zbD.len:Int))) &&
 (decide (((((zco - (0:Int)).toNat+1)+((zbD.len:Int) - zco).toNat) * 32≤140737488355328∧((zco - (0:Int)).toNat+1)+((zbD.len:Int) - zco).toNat≤9223372036854775807)) &&
 (P1 (⟨(((zco - (0:Int)).toNat+1)+((zbD.len:Int) - zco).toNat),(zdT ((zco - (0:Int)).toNat+1) (zdT ((zco - (0:Int)).toNat) (fun i=>zbD.get (i+((0:Int).toNat))) (fun _=>(lv0.get iv3.toNat))) (fun i=>zbD.get (i+zco.toNat)))⟩:Sl Line) (w64 (iv3+(1:Int)))))))))))
theorem zyX (hX1:zBo K zaa lv0 X1 P1 S1) (hs:zko P1 zaa lv0 zbD iv3 zco=true) (hk:K (e33 (zkn S1 zaa lv0 zbD iv3 zco))) (zGv:zyW=zg zaC zbD):z33 K [1,1,1,0,1,0,0,1,0,0,1,1,1] [X1] ⟨[(0,zS enc_55 3 zaa),(3,zP (.sl zbD.len 4 zyW)),(4,zS zaC 4 lv0),(5,zI iv3),(6,zI zco)],[],[]⟩:=by subst zGv;exact zaD (by kernel_rfl) (zc hs hk (fun hs hk=>(zay hs fun hc hs=>And.intro hc (zay hs fun hc hs=>And.intro hc (zc hs hk (fun hs hk=>(hX1 hs hk rfl)) (fun hs hk=>(zay hs fun hc hs=>And.intro hc (zay hs fun hc hs=>And.intro hc (zay hs fun hc hs=>And.intro hc (zay hs fun hc hs=>And.intro hc (zay hs fun hc hs=>And.intro hc (zay hs fun hc hs=>And.intro hc (hX1 hs hk (zeP (enc:=zaC) (f:=(zdT ((zco - (0:Int)).toNat) (fun i=>zbD.get (i+((0:Int).toNat))) (fun _=>(lv0.get iv3.toNat)))) (h:=(fun i=>zbD.get (i+zco.toNat))) (zeP (enc:=zaC) (f:=(fun i=>zbD.get (i+((0:Int).toNat)))) (h:=(fun _=>(lv0.get iv3.toNat))) rfl rfl) rfl))))))))))))) (fun hs hk=>(zay hs fun hc hs=>And.intro hc (zay hs fun hc hs=>And.intro hc (zay hs fun hc hs=>And.intro hc (zay hs fun hc hs=>And.intro hc (zay hs fun hc hs=>And.intro hc (zay hs fun hc hs=>And.intro hc (hX1 hs hk (zeP (enc:=zaC) (f:=(zdT ((zco - (0:Int)).toNat) (fun i=>zbD.get (i+((0:Int).toNat))) (fun _=>(lv0.get iv3.toNat)))) (h:=(fun i=>zbD.get (i+zco.toNat))) (zeP (enc:=zaC) (f:=(fun i=>zbD.get (i+((0:Int).toNat)))) (h:=(fun _=>(lv0.get iv3.toNat))) rfl rfl) rfl))))))))))
def zhY (S1:(Sl Line)→Int→(Sl Line)) (zaa:(Sl Gate)) (lv0:(Sl Line)) (S2:(Sl Line)→Int→Int→(Sl Line)) (zcD:(Sl Line)) (iv2:Int) (zg8:Int):(Sl Line) :=
  (cond (decide (zg8 < (zcD.len : Int)))
 (cond (s81 (zcD.get zg8.toNat) (lv0.get iv2.toNat) zaa)
 (S2 zcD iv2 (w64 (zg8+(1:Int))))
 (zkn S1 zaa lv0 zcD iv2 zg8))
 (zkn S1 zaa lv0 zcD iv2 zg8))
def zhZ (P1:(Sl Line)→Int→Bool) (zaa:(Sl Gate)) (lv0:(Sl Line)) (P2:(Sl Line)→Int→Int→Bool) (zcD:(Sl Line)) (iv2:Int) (zg8:Int):Bool :=
  (cond (decide (zg8 < (zcD.len : Int)))
 (decide ((0≤zg8∧zg8 < (zcD.len:Int))) &&
 (decide ((0≤iv2∧iv2 < (lv0.len:Int))) &&
 (decide ((p81 (zcD.get zg8.toNat) (lv0.get iv2.toNat) zaa=true)) &&
 (cond (s81 (zcD.get zg8.toNat) (lv0.get iv2.toNat) zaa)
 (P2 zcD iv2 (w64 (zg8+(1:Int))))
 (zko P1 zaa lv0 zcD iv2 zg8)))))
 (zko P1 zaa lv0 zcD iv2 zg8))
def zgu (S1:(Sl Line)→Int→(Sl Line)) (zaa:(Sl Gate)) (lv0:(Sl Line)):Nat→(Sl Line)→Int→Int→(Sl Line):=lpO (fun _ _ _=>default) (zhY S1 zaa lv0)
def zh0 (P1:(Sl Line)→Int→Bool) (zaa:(Sl Gate)) (lv0:(Sl Line)):Nat→(Sl Line)→Int→Int→Bool:=lpO (fun _ _ _=>false) (zhZ P1 zaa lv0)
def zqw (S1:(Sl Line)→Int→(Sl Line)) (zaa:(Sl Gate)) (lv0:(Sl Line)) (zcD:(Sl Line)) (iv2:Int) (zg8:Int):(Sl Line):=zgu S1 zaa lv0 Fuel zcD iv2 zg8
def zqx (P1:(Sl Line)→Int→Bool) (zaa:(Sl Gate)) (lv0:(Sl Line)) (zcD:(Sl Line)) (iv2:Int) (zg8:Int):Bool:=zh0 P1 zaa lv0 Fuel zcD iv2 zg8
theorem zGw (hX1:zBo K zaa lv0 X1 P1 S1) (hs:zqx P1 zaa lv0 zcD iv2 zg8=true) (hk:K (e33 (zqw S1 zaa lv0 zcD iv2 zg8))) (zqy:zfq=zg zaC zcD):z33 K [1,1,1,0,1,0,0,1,0,0,1,1,0,0] [X1] (zCD zaa lv0 zcD iv2 zg8 zfq) :=
  zl (fun X=>z33 K [1,1,1,0,1,0,0,1,0,0,1,1,0,0,0] [X1,X]) (by kernel_rfl) fun X2 hX =>
  (show ∀ k, zKa K zaa lv0 X2 (zh0 P1 zaa lv0 k) (zgu S1 zaa lv0 k) from zer _ _ (zhZ P1 zaa lv0) (zhY S1 zaa lv0) (zKa K zaa lv0 X2)
 (by intro _ _ _ _ hs;exact absurd hs Bool.false_ne_true)
 (by intro P2 S2 hX2 zcD iv2 zg8 zfq hs hk zqy;subst zqy;exact hX _ (zaD (by kernel_rfl) (zc hs hk (fun hs hk=>(zay hs fun hc hs=>And.intro hc (zay hs fun hc hs=>And.intro hc (zay hs fun hc hs=>And.intro (And.intro (zE enc_55 3 zaa.get) hc) (zc hs hk (fun hs hk=>(hX2 hs hk rfl)) (fun hs hk=>(zyX hX1 hs hk rfl))))))) (fun hs hk=>(zyX hX1 hs hk rfl)))))) _ hs hk zqy
def zh1 (zaa:(Sl Gate)) (lv0:(Sl Line)) (S1:(Sl Line)→Int→(Sl Line)) (zdJ:(Sl Line)) (iv1:Int):(Sl Line) :=
  (cond (decide (iv1 < (lv0.len : Int)))
 (cond (decide (((s27 (lv0.get iv1.toNat) zaa).len : Int) < (zaa.len : Int)))
 (S1 zdJ (w64 (iv1+(1:Int))))
 (zqw S1 zaa lv0 zdJ iv1 (0:Int)))
 zdJ)
def zh2 (zaa:(Sl Gate)) (lv0:(Sl Line)) (P1:(Sl Line)→Int→Bool) (zdJ:(Sl Line)) (iv1:Int):Bool :=
  (cond (decide (iv1 < (lv0.len : Int)))
 (decide ((0≤iv1∧iv1 < (lv0.len:Int))) &&
 (decide ((p27 (lv0.get iv1.toNat) zaa=true)) &&
 (cond (decide (((s27 (lv0.get iv1.toNat) zaa).len : Int) < (zaa.len : Int)))
 (P1 zdJ (w64 (iv1+(1:Int))))
 (zqx P1 zaa lv0 zdJ iv1 (0:Int)))))
 true)
def zgv (zaa:(Sl Gate)) (lv0:(Sl Line)):Nat→(Sl Line)→Int→(Sl Line):=lpO (fun _ _=>default) (zh1 zaa lv0)
def zh3 (zaa:(Sl Gate)) (lv0:(Sl Line)):Nat→(Sl Line)→Int→Bool:=lpO (fun _ _=>false) (zh2 zaa lv0)
def zyY (zaa:(Sl Gate)) (lv0:(Sl Line)) (zdJ:(Sl Line)) (iv1:Int):(Sl Line):=zgv zaa lv0 Fuel zdJ iv1
def zyZ (zaa:(Sl Gate)) (lv0:(Sl Line)) (zdJ:(Sl Line)) (iv1:Int):Bool:=zh3 zaa lv0 Fuel zdJ iv1
theorem zGx (hs:zyZ zaa lv0 zdJ iv1=true) (hk:K (e33 (zyY zaa lv0 zdJ iv1))) (zqz:zfp=zg zaC zdJ):z33 K [1,1,1,0,1,0] [] (zCC zaa lv0 zdJ iv1 zfp) :=
  zl (fun X=>z33 K [1,1,1,0,1,0,0] [X]) (by kernel_rfl) fun X1 hX =>
  (show ∀ k, zBo K zaa lv0 X1 (zh3 zaa lv0 k) (zgv zaa lv0 k) from zer _ _ (zh2 zaa lv0) (zh1 zaa lv0) (zBo K zaa lv0 X1)
 (by intro _ _ _ hs;exact absurd hs Bool.false_ne_true)
 (by intro P1 S1 hX1 zdJ iv1 zfp hs hk zqz;subst zqz;exact hX _ (zaD (by kernel_rfl) (zc hs hk (fun hs hk=>(zay hs fun hc hs=>And.intro hc (zay hs fun hc hs=>And.intro (And.intro (zE enc_55 3 zaa.get) hc) (zc hs hk (fun hs hk=>(hX1 hs hk rfl)) (fun hs hk=>(zGw hX1 hs hk rfl)))))) (fun hs hk=>hk))))) _ hs hk zqz
def zy0 (zaa:(Sl Gate)) (lv0:(Sl Line)):(Sl Line) :=
  (zyY zaa lv0 (⟨0,(fun _=>default)⟩:Sl Line) (0:Int))
def zy1 (zaa:(Sl Gate)) (lv0:(Sl Line)):Bool :=
  (zyZ zaa lv0 (⟨0,(fun _=>default)⟩:Sl Line) (0:Int))
theorem zGy (hs:zy1 zaa lv0=true) (hk:K (e33 (zy0 zaa lv0))) (zGz:zyV=zg zaC lv0):z33 K [1,1,1] [] ⟨[(0,zS enc_55 3 zaa),(3,zP (.nils)),(4,zP (.sl lv0.len 4 zyV))],[],[]⟩:=by subst zGz;exact zaD (by kernel_rfl) (zGx hs hk rfl)
def s33 (zaa:(Sl Gate)):(Sl Line) :=
  (zy0 zaa (s80 zaa))
def p33 (zaa:(Sl Gate)):Bool :=
  (decide ((p80 zaa=true)) &&
 (zy1 zaa (s80 zaa)))
end
theorem q33 (zaa:(Sl Gate)) (K:List PA→Prop) (hs:p33 zaa=true) (hk:K (e33 (s33 zaa))):vcFun Try.prog G33 zGu 33 [.one (.sl zaa.len 3 (fun i=>enc_55 (zaa.get i)))] K :=
  zaD (by kernel_rfl) (zay hs fun hc hs=>And.intro (And.intro (zE enc_55 3 zaa.get) hc) (zGy hs hk rfl))
def zy2 : List PA → COut
  | [.one (.sl a0_n a0_s a0_g)]=>.det (IsE enc_55 3 a0_s a0_g∧p33 (⟨a0_n,zae a0_g⟩:(Sl Gate))=true) [.one (.sl ((s33 (⟨a0_n,zae a0_g⟩:(Sl Gate))).len) 4 (fun i=>zaC ((s33 (⟨a0_n,zae a0_g⟩:(Sl Gate))).get i)))]
  | _=>.no
theorem zKb:zaf Try.prog 33:=⟨_,rfl,rfl,by kernel_rfl⟩
theorem zMK:Ok Try.prog 33 zy2:=zaF zMJ zKb fun args K h=>by
  unfold zy2 at h
  split at h
  · rename_i a0_n a0_s a0_g
    obtain ⟨⟨⟨rfl,a0_f,rfl⟩,hs⟩,hk⟩:=h
    try rw [zac a0_f] at hs
    try rw [zac a0_f] at hk
    exact ⟨(fun _ _=>[]),(fun _=>false),zGu,q33 (⟨a0_n,a0_f⟩:(Sl Gate)) K hs hk⟩
  · exact h.elim
abbrev T71:Tabs:=Tabs.nil
theorem zML:TabsOk Try.prog T71:=TabsOk.nil
abbrev G71:Ctrs:=csm T71 (fun _ _=>[]) (fun _=>false)
def zGA:Ann:=⟨41,[(0,zK [0] []),(1,zK [0,5,6] []),(2,zK [0,5,6,7] []),(3,zK [0,5,6,7,19] []),(4,zK [0,5,6,7] []),(5,zK [0,5,6,7] []),(6,zK [2,3,4] [])],
 [(3,zK [0,5,6,7] [])],
 [],
 [],[]⟩
abbrev R71:=(Int×Int×Bool)
abbrev e71 (r:R71):List PA:=[.one (.int .i64 r.1),.one (.int .i64 r.2.1),.one (.bool r.2.2)]
@[irreducible] def z71:=ptF Try.prog G71 zGA Try.f71
def zCE (zaa:(Sl Gate)) (av0:Int) (bv0:Int) (iv0:Int):St:=⟨[(0,zS enc_55 3 zaa),(5,zI av0),(6,zI bv0),(7,zI iv0)],[],[]⟩
abbrev zKc (K:List PA→Prop) (zaa:(Sl Gate)) (X:St→Prop) (P:Int→Int→Int→Bool) (S:Int→Int→Int→(Int×Int×Bool)):Prop:=∀ ⦃av0:Int⦄ ⦃bv0:Int⦄ ⦃iv0:Int⦄,P av0 bv0 iv0=true→K (e71 (S av0 bv0 iv0))→X (zCE zaa av0 bv0 iv0)
section
variable {K:List PA→Prop} {zaa:(Sl Gate)} {av0:Int} {bv0:Int} {iv0:Int} {X0:St→Prop} {P0:Int→Int→Int→Bool} {S0:Int→Int→Int→(Int×Int×Bool)}
def zh4 (zaa:(Sl Gate)) (S0:Int→Int→Int→(Int×Int×Bool)) (av0:Int) (bv0:Int) (iv0:Int):(Int×Int×Bool) :=
  (cond (decide (iv0 < (zaa.len : Int)))
 (S0 (if (zaa.get iv0.toNat).Low > av0 then (zaa.get iv0.toNat).Low else av0) (if (zaa.get iv0.toNat).High < bv0 then (zaa.get iv0.toNat).High else bv0) (w64 (iv0+(1:Int))))
 (av0,bv0,(decide (av0≤bv0))))
def zh5 (zaa:(Sl Gate)) (P0:Int→Int→Int→Bool) (av0:Int) (bv0:Int) (iv0:Int):Bool :=
  (cond (decide (iv0 < (zaa.len : Int)))
 (decide ((0≤iv0∧iv0 < (zaa.len:Int))) &&
 (decide ((0≤iv0∧iv0 < (zaa.len:Int))) &&
 (P0 (if (zaa.get iv0.toNat).Low > av0 then (zaa.get iv0.toNat).Low else av0) (if (zaa.get iv0.toNat).High < bv0 then (zaa.get iv0.toNat).High else bv0) (w64 (iv0+(1:Int))))))
 true)
def zh6 (zaa:(Sl Gate)):Nat→Int→Int→Int→(Int×Int×Bool):=lpO (fun _ _ _=>default) (zh4 zaa)
def zh7 (zaa:(Sl Gate)):Nat→Int→Int→Int→Bool:=lpO (fun _ _ _=>false) (zh5 zaa)
def zy3 (zaa:(Sl Gate)) (av0:Int) (bv0:Int) (iv0:Int):(Int×Int×Bool):=zh6 zaa Fuel av0 bv0 iv0
def zy4 (zaa:(Sl Gate)) (av0:Int) (bv0:Int) (iv0:Int):Bool:=zh7 zaa Fuel av0 bv0 iv0
theorem zGB (hs:zy4 zaa av0 bv0 iv0=true) (hk:K (e71 (zy3 zaa av0 bv0 iv0))):z71 K [1,1,0,1,0] [] (zCE zaa av0 bv0 iv0) :=
  zl (fun X=>z71 K [1,1,0,1,0,0] [X]) (by kernel_rfl) fun X0 hX =>
  (show ∀ k, zKc K zaa X0 (zh7 zaa k) (zh6 zaa k) from zer _ _ (zh5 zaa) (zh4 zaa) (zKc K zaa X0)
 (by intro _ _ _ hs;exact absurd hs Bool.false_ne_true)
 (by intro P0 S0 hX0 av0 bv0 iv0 hs hk;exact hX _ (zaD (by kernel_rfl) (zc hs hk (fun hs hk=>(zay hs fun hc hs=>And.intro hc (zay hs fun hc hs=>And.intro hc (hX0 hs hk)))) (fun hs hk=>hk))))) _ hs hk
def s71 (zaa:(Sl Gate)):(Int×Int×Bool) :=
  (zy3 zaa ((zaa.get 0).Low) ((zaa.get 0).High) (1:Int))
def p71 (zaa:(Sl Gate)):Bool :=
  (decide ((0≤(0:Int)∧(0:Int) < (zaa.len:Int))) &&
 (decide ((0≤(0:Int)∧(0:Int) < (zaa.len:Int))) &&
 (zy4 zaa ((zaa.get 0).Low) ((zaa.get 0).High) (1:Int))))
end
theorem q71 (zaa:(Sl Gate)) (K:List PA→Prop) (hs:p71 zaa=true) (hk:K (e71 (s71 zaa))):vcFun Try.prog G71 zGA 71 [.one (.sl zaa.len 3 (fun i=>enc_55 (zaa.get i)))] K :=
  zaD (by kernel_rfl) (zay hs fun hc hs=>And.intro hc (zay hs fun hc hs=>And.intro hc (zGB hs hk)))
def zBp : List PA → COut
  | [.one (.sl a0_n a0_s a0_g)]=>.det (IsE enc_55 3 a0_s a0_g∧p71 (⟨a0_n,zae a0_g⟩:(Sl Gate))=true) [.one (.int .i64 ((s71 (⟨a0_n,zae a0_g⟩:(Sl Gate))).1)),.one (.int .i64 ((s71 (⟨a0_n,zae a0_g⟩:(Sl Gate))).2.1)),.one (.bool ((s71 (⟨a0_n,zae a0_g⟩:(Sl Gate))).2.2))]
  | _=>.no
theorem zKd:zaf Try.prog 71:=⟨_,rfl,rfl,by kernel_rfl⟩
theorem zNF:Ok Try.prog 71 zBp:=zaF zML zKd fun args K h=>by
  unfold zBp at h
  split at h
  · rename_i a0_n a0_s a0_g
    obtain ⟨⟨⟨rfl,a0_f,rfl⟩,hs⟩,hk⟩:=h
    try rw [zac a0_f] at hs
    try rw [zac a0_f] at hk
    exact ⟨(fun _ _=>[]),(fun _=>false),zGA,q71 (⟨a0_n,a0_f⟩:(Sl Gate)) K hs hk⟩
  · exact h.elim
abbrev T21:Tabs:=(((Tabs.nil.addF 22 zyH).addF 33 zy2).addF 71 zBp)
theorem zMM:TabsOk Try.prog T21:=(((TabsOk.nil.addF zMz).addF zMK).addF zNF)
abbrev G21:Ctrs:=csm T21 (fun _ _=>[]) (fun _=>false)
def zKe:Ann:=⟨19,[(0,zK [0] []),(1,zK [0,7] []),(2,zK [5] []),(3,zK [2] []),(4,zK [2] [])],
 [],
 [],
 [],[]⟩
abbrev R21:=Bool
abbrev e21 (r:R21):List PA:=[.one (.bool r)]
section
variable {K:List PA→Prop} {zaa:(Sl Gate)}
def s21 (zaa:(Sl Gate)):Bool :=
  (cond (s22 zaa)
 ((s71 zaa).2.2)
 (decide (((s33 zaa).len:Int) > (0:Int))))
def p21 (zaa:(Sl Gate)):Bool :=
  (decide ((p22 zaa=true)) &&
 (cond (s22 zaa)
 (decide ((p71 zaa=true)) &&
 true)
 (decide ((p33 zaa=true)) &&
 true)))
end
theorem q21 (zaa:(Sl Gate)) (K:List PA→Prop) (hs:p21 zaa=true) (hk:K (e21 (s21 zaa))):vcFun Try.prog G21 zKe 21 [.one (.sl zaa.len 3 (fun i=>enc_55 (zaa.get i)))] K :=
  zaD (by kernel_rfl) (zay hs fun hc hs=>And.intro (And.intro (zE enc_55 3 zaa.get) hc) (zc hs hk (fun hs hk=>(zay hs fun hc hs=>And.intro (And.intro (zE enc_55 3 zaa.get) hc) hk)) (fun hs hk=>(zay hs fun hc hs=>And.intro (And.intro (zE enc_55 3 zaa.get) hc) hk))))
def zGC : List PA → COut
  | [.one (.sl a0_n a0_s a0_g)]=>.det (IsE enc_55 3 a0_s a0_g∧p21 (⟨a0_n,zae a0_g⟩:(Sl Gate))=true) [.one (.bool (s21 (⟨a0_n,zae a0_g⟩:(Sl Gate))))]
  | _=>.no
theorem zKf:zaf Try.prog 21:=⟨_,rfl,rfl,by kernel_rfl⟩
theorem zPs:Ok Try.prog 21 zGC:=zaF zMM zKf fun args K h=>by
  unfold zGC at h
  split at h
  · rename_i a0_n a0_s a0_g
    obtain ⟨⟨⟨rfl,a0_f,rfl⟩,hs⟩,hk⟩:=h
    try rw [zac a0_f] at hs
    try rw [zac a0_f] at hk
    exact ⟨(fun _ _=>[]),(fun _=>false),zKe,q21 (⟨a0_n,a0_f⟩:(Sl Gate)) K hs hk⟩
  · exact h.elim
abbrev T28:Tabs:=((Tabs.nil.addF 40 ztF).addF 73 zBg)
theorem zMN:TabsOk Try.prog T28:=((TabsOk.nil.addF zK3).addF zNx)
abbrev G28:Ctrs:=csm T28 (fun _ _=>[]) (fun _=>false)
def zGD:Ann:=⟨44,[(0,zK [1,2,4] [2,4]),(1,zK [1,2,4,5] [2,4]),(2,zK [4] [4])],
 [],
 [(2,zK [1,2,4,5] [2,4])],
 [],[]⟩
abbrev R28:=Frac
abbrev e28 (r:R28):List PA:=[.agg [.int .i64 r.Num,.int .i64 r.Den]]
@[irreducible] def z28:=ptF Try.prog G28 zGD Try.f28
section
variable {K:List PA→Prop} {l_a0:Line} {z:Int} {dv0:Int}
def zqA (l_a0:Line) (z:Int) (dv0:Int):Frac :=
  (s40 (w64 ((w64 (l_a0.Start.Num * (w64 (dv0.tdiv l_a0.Start.Den))))+(w64 ((w64 (l_a0.Slope.Num * (w64 (dv0.tdiv l_a0.Slope.Den)))) * z)))) dv0)
def zqB (l_a0:Line) (z:Int) (dv0:Int):Bool :=
  (decide ((l_a0.Start.Den ≠ 0)) &&
 (decide ((l_a0.Slope.Den ≠ 0)) &&
 (decide ((p40 (w64 ((w64 (l_a0.Start.Num * (w64 (dv0.tdiv l_a0.Start.Den))))+(w64 ((w64 (l_a0.Slope.Num * (w64 (dv0.tdiv l_a0.Slope.Den)))) * z)))) dv0=true)) &&
 true)))
theorem zGE (hs:zqB l_a0 z dv0=true) (hk:K (e28 (zqA l_a0 z dv0))):z28 K [1,1] [] ⟨[(1,zI z),(2,zp 2 0),(4,zp 4 0),(5,zI dv0)],[(2,.box 37 (zm (zaC l_a0))),(4,.box 25 (zm (zad (⟨(0:Int),(0:Int)⟩:Frac))))],[]⟩:=zaD (by kernel_rfl) (zay hs fun hc hs=>And.intro hc (zay hs fun hc hs=>And.intro hc (zay hs fun hc hs=>And.intro hc hk)))
def s28 (l_a0:Line) (z:Int):Frac :=
  (zqA l_a0 z (w64 ((w64 (l_a0.Start.Den.tdiv (s73 l_a0.Start.Den l_a0.Slope.Den))) * l_a0.Slope.Den)))
def p28 (l_a0:Line) (z:Int):Bool :=
  (decide ((p73 l_a0.Start.Den l_a0.Slope.Den=true)) &&
 (decide (((s73 l_a0.Start.Den l_a0.Slope.Den) ≠ 0)) &&
 (zqB l_a0 z (w64 ((w64 (l_a0.Start.Den.tdiv (s73 l_a0.Start.Den l_a0.Slope.Den))) * l_a0.Slope.Den)))))
end
theorem q28 (l_a0:Line) (z:Int) (K:List PA→Prop) (hs:p28 l_a0 z=true) (hk:K (e28 (s28 l_a0 z))):vcFun Try.prog G28 zGD 28 [.agg (zaC l_a0),.one (.int .i64 z)] K :=
  zaD (by kernel_rfl) (zay hs fun hc hs=>And.intro hc (zay hs fun hc hs=>And.intro hc (zGE hs hk)))
def zGF : List PA → COut
  | [.agg [.int .i64 a0_Slope_Num,.int .i64 a0_Slope_Den,.int .i64 a0_Start_Num,.int .i64 a0_Start_Den],.one (.int .i64 a1)]=>.det (p28 (⟨(⟨a0_Slope_Num,a0_Slope_Den⟩:Frac),(⟨a0_Start_Num,a0_Start_Den⟩:Frac)⟩:Line) a1=true) [.agg [.int .i64 ((s28 (⟨(⟨a0_Slope_Num,a0_Slope_Den⟩:Frac),(⟨a0_Start_Num,a0_Start_Den⟩:Frac)⟩:Line) a1).Num),.int .i64 ((s28 (⟨(⟨a0_Slope_Num,a0_Slope_Den⟩:Frac),(⟨a0_Start_Num,a0_Start_Den⟩:Frac)⟩:Line) a1).Den)]]
  | _=>.no
theorem call28:zaf Try.prog 28:=⟨_,rfl,rfl,by kernel_rfl⟩
theorem zPt:Ok Try.prog 28 zGF:=zaF zMN call28 fun args K h=>by
  unfold zGF at h
  split at h
  · rename_i a0_Slope_Num a0_Slope_Den a0_Start_Num a0_Start_Den a1
    obtain ⟨hs,hk⟩:=h
    exact ⟨(fun _ _=>[]),(fun _=>false),zGD,q28 (⟨(⟨a0_Slope_Num,a0_Slope_Den⟩:Frac),(⟨a0_Start_Num,a0_Start_Den⟩:Frac)⟩:Line) a1 K hs hk⟩
  · exact h.elim
abbrev T36:Tabs:=((((((Tabs.nil.addF 22 zyH).addF 28 zGF).addF 29 zyP).addF 33 zy2).addF 40 ztF).addF 71 zBp)
theorem zMO:TabsOk Try.prog T36:=((((((TabsOk.nil.addF zMz).addF zPt).addF zMG).addF zMK).addF zK3).addF zNF)
abbrev G36:Ctrs:=csm T36 (fun _ _=>[]) (fun _=>false)
def zGG:Ann:=⟨60,[(0,zK [0,1,4,5] [4,5]),(1,zK [0,1,4,5,15] [4,5]),(2,zK [4,5,6,7] [4,5]),(3,zK [4,5] [4,5]),(4,zK [1,4,5,9] [4,5]),(5,zK [1,4,5,9,10,11] [4,5,10,11]),(6,zK [1,4,5,9,10,11,12] [4,5,10,11]),(7,zK [1,4,5,9,10,11,12,41] [4,5,10,11]),(8,zK [1,4,5,9,10,11,12] [4,5,10,11]),(9,zK [1,4,5,9,10,11,12,13] [4,5,10,11,13]),(10,zK [1,4,5,9,10,11,12,13,52] [4,5,10,11,13]),(11,zK [1,4,5,9,10,11,12,13] [4,5,10,11,13]),(12,zK [1,4,5,9,10,11,12,13,56] [4,5,10,11,13]),(13,zK [1,4,5,9,10,11,12] [4,5,10,11]),(14,zK [4,5] [4,5])],
 [(7,zK [1,4,5,9,10,11,12] [4,5,10,11])],
 [(2,zK [0,1,4,5,15] [4,5]),(3,zK [4,5,6,7] [4,5]),(4,zK [0,1,4,5] [4,5]),(5,zK [1,4,5,9] [4,5]),(6,zK [1,4,5,9,10,11] [4,5,10,11]),(10,zK [1,4,5,9,10,11,12,13] [4,5,10,11,13]),(11,zK [1,4,5,9,10,11,12,13,52] [4,5,10,11,13]),(13,zK [1,4,5,9,10,11,12,13,56] [4,5,10,11,13])],
 [],[]⟩
abbrev R36:=(Frac×Frac)
abbrev e36 (r:R36):List PA:=[.agg [.int .i64 r.1.Num,.int .i64 r.1.Den],.agg [.int .i64 r.2.Num,.int .i64 r.2.Den]]
@[irreducible] def z36:=ptF Try.prog G36 zGG Try.f36
def zCF (z:Int) (lv3:(Sl Line)) (iv5:Int) (zeH:Int) (zeI:Int) (zeJ:Int) (zeK:Int):St:=⟨[(1,zI z),(4,zp 4 0),(5,zp 5 0),(9,zS zaC 4 lv3),(10,zp 10 0),(11,zp 11 0),(12,zI iv5)],[(4,.box 25 (zm (zad (⟨(0:Int),(0:Int)⟩:Frac)))),(5,.box 25 (zm (zad (⟨(0:Int),(0:Int)⟩:Frac)))),(10,.box 25 (zm (zad (⟨zeH,zeI⟩:Frac)))),(11,.box 25 (zm (zad (⟨zeJ,zeK⟩:Frac))))],[]⟩
abbrev zy5 (K:List PA→Prop) (z:Int) (lv3:(Sl Line)) (X:St→Prop) (P:Int→Int→Int→Int→Int→Bool) (S:Int→Int→Int→Int→Int→(Frac×Frac)):Prop:=∀ ⦃iv5:Int⦄ ⦃zeH:Int⦄ ⦃zeI:Int⦄ ⦃zeJ:Int⦄ ⦃zeK:Int⦄,P iv5 zeH zeI zeJ zeK=true→K (e36 (S iv5 zeH zeI zeJ zeK))→X (zCF z lv3 iv5 zeH zeI zeJ zeK)
section
variable {K:List PA→Prop} {zaa:(Sl Gate)} {z:Int} {zqC:Bool} {av1:Int} {bv1:Int} {lv3:(Sl Line)} {zKg:Nat→List PV} {zqD:Int} {zqE:Int} {zgw:Int} {zgx:Int} {iv5:Int} {zeH:Int} {zeI:Int} {zeJ:Int} {zeK:Int} {X5:St→Prop} {P5:Int→Int→Int→Int→Int→Bool} {S5:Int→Int→Int→Int→Int→(Frac×Frac)} {iv6:Int} {zmF:Int} {zmG:Int} {zqF:Int} {zqG:Int} {zcw:Int} {zcx:Int} {iv7:Int} {zqH:Bool} {zqI:Int} {zqJ:Int} {zh8:Int} {zh9:Int} {iv8:Int} {zqK:Bool} {zmH:Int} {zmI:Int} {zqL:Int} {zqM:Int}
def zmJ (S5:Int→Int→Int→Int→Int→(Frac×Frac)) (z:Int) (lv3:(Sl Line)) (zcw:Int) (zcx:Int) (iv8:Int) (zqK:Bool) (zmH:Int) (zmI:Int) (zqL:Int) (zqM:Int):(Frac×Frac) :=
  (cond zqK
 (S5 (w64 (iv8+(1:Int))) zmH zmI zcw zcx)
 (S5 (w64 (iv8+(1:Int))) zmH zmI zqL zqM))
def zmK (P5:Int→Int→Int→Int→Int→Bool) (z:Int) (lv3:(Sl Line)) (zcw:Int) (zcx:Int) (iv8:Int) (zqK:Bool) (zmH:Int) (zmI:Int) (zqL:Int) (zqM:Int):Bool :=
  (cond zqK
 (P5 (w64 (iv8+(1:Int))) zmH zmI zcw zcx)
 (P5 (w64 (iv8+(1:Int))) zmH zmI zqL zqM))
theorem zy6 (hX5:zy5 K z lv3 X5 P5 S5) (hs:zmK P5 z lv3 zcw zcx iv8 zqK zmH zmI zqL zqM=true) (hk:K (e36 (zmJ S5 z lv3 zcw zcx iv8 zqK zmH zmI zqL zqM))):z36 K [1,1,1,1,0,1,0,0,1,0,0,1,1,1] [X5] ⟨[(1,zI z),(4,zp 4 0),(5,zp 5 0),(9,zS zaC 4 lv3),(10,zp 10 0),(11,zp 11 0),(12,zI iv8),(13,zp 13 0),(56,zB zqK)],[(4,.box 25 (zm (zad (⟨(0:Int),(0:Int)⟩:Frac)))),(5,.box 25 (zm (zad (⟨(0:Int),(0:Int)⟩:Frac)))),(10,.box 25 (zm (zad (⟨zmH,zmI⟩:Frac)))),(11,.box 25 (zm (zad (⟨zqL,zqM⟩:Frac)))),(13,.box 25 (zm (zad (⟨zcw,zcx⟩:Frac))))],[]⟩:=zaD (by kernel_rfl) (zc hs hk (fun hs hk=>(hX5 hs hk)) (fun hs hk=>(hX5 hs hk)))
def zqN (S5:Int→Int→Int→Int→Int→(Frac×Frac)) (z:Int) (lv3:(Sl Line)) (zcw:Int) (zcx:Int) (iv7:Int) (zqH:Bool) (zqI:Int) (zqJ:Int) (zh8:Int) (zh9:Int):(Frac×Frac) :=
  (cond zqH
 (zmJ S5 z lv3 zcw zcx iv7 (s29 (⟨zh8,zh9⟩:Frac) (⟨zcw,zcx⟩:Frac)) zcw zcx zh8 zh9)
 (zmJ S5 z lv3 zcw zcx iv7 (s29 (⟨zh8,zh9⟩:Frac) (⟨zcw,zcx⟩:Frac)) zqI zqJ zh8 zh9))
def zqO (P5:Int→Int→Int→Int→Int→Bool) (z:Int) (lv3:(Sl Line)) (zcw:Int) (zcx:Int) (iv7:Int) (zqH:Bool) (zqI:Int) (zqJ:Int) (zh8:Int) (zh9:Int):Bool :=
  (cond zqH
 (zmK P5 z lv3 zcw zcx iv7 (s29 (⟨zh8,zh9⟩:Frac) (⟨zcw,zcx⟩:Frac)) zcw zcx zh8 zh9)
 (zmK P5 z lv3 zcw zcx iv7 (s29 (⟨zh8,zh9⟩:Frac) (⟨zcw,zcx⟩:Frac)) zqI zqJ zh8 zh9))
theorem zGH (hX5:zy5 K z lv3 X5 P5 S5) (hs:zqO P5 z lv3 zcw zcx iv7 zqH zqI zqJ zh8 zh9=true) (hk:K (e36 (zqN S5 z lv3 zcw zcx iv7 zqH zqI zqJ zh8 zh9))):z36 K [1,1,1,1,0,1,0,0,1,0,0,1,0,1] [X5] ⟨[(1,zI z),(4,zp 4 0),(5,zp 5 0),(9,zS zaC 4 lv3),(10,zp 10 0),(11,zp 11 0),(12,zI iv7),(13,zp 13 0),(52,zB zqH)],[(4,.box 25 (zm (zad (⟨(0:Int),(0:Int)⟩:Frac)))),(5,.box 25 (zm (zad (⟨(0:Int),(0:Int)⟩:Frac)))),(10,.box 25 (zm (zad (⟨zqI,zqJ⟩:Frac)))),(11,.box 25 (zm (zad (⟨zh8,zh9⟩:Frac)))),(13,.box 25 (zm (zad (⟨zcw,zcx⟩:Frac))))],[]⟩:=zaD (by kernel_rfl) (zc hs hk (fun hs hk=>(zy6 hX5 hs hk)) (fun hs hk=>(zy6 hX5 hs hk)))
def zqP (S5:Int→Int→Int→Int→Int→(Frac×Frac)) (z:Int) (lv3:(Sl Line)) (iv6:Int) (zmF:Int) (zmG:Int) (zqF:Int) (zqG:Int) (zcw:Int) (zcx:Int):(Frac×Frac) :=
  (zqN S5 z lv3 zcw zcx iv6 (s29 (⟨zcw,zcx⟩:Frac) (⟨zmF,zmG⟩:Frac)) zmF zmG zqF zqG)
def zqQ (P5:Int→Int→Int→Int→Int→Bool) (z:Int) (lv3:(Sl Line)) (iv6:Int) (zmF:Int) (zmG:Int) (zqF:Int) (zqG:Int) (zcw:Int) (zcx:Int):Bool :=
  (zqO P5 z lv3 zcw zcx iv6 (s29 (⟨zcw,zcx⟩:Frac) (⟨zmF,zmG⟩:Frac)) zmF zmG zqF zqG)
theorem zGI (hX5:zy5 K z lv3 X5 P5 S5) (hs:zqQ P5 z lv3 iv6 zmF zmG zqF zqG zcw zcx=true) (hk:K (e36 (zqP S5 z lv3 iv6 zmF zmG zqF zqG zcw zcx))):z36 K [1,1,1,1,0,1,0,0,1,0,0,1] [X5] ⟨[(1,zI z),(4,zp 4 0),(5,zp 5 0),(9,zS zaC 4 lv3),(10,zp 10 0),(11,zp 11 0),(12,zI iv6),(13,zp 13 0)],[(4,.box 25 (zm (zad (⟨(0:Int),(0:Int)⟩:Frac)))),(5,.box 25 (zm (zad (⟨(0:Int),(0:Int)⟩:Frac)))),(10,.box 25 (zm (zad (⟨zmF,zmG⟩:Frac)))),(11,.box 25 (zm (zad (⟨zqF,zqG⟩:Frac)))),(13,.box 25 (zm (zad (⟨zcw,zcx⟩:Frac))))],[]⟩:=zaD (by kernel_rfl) (zGH hX5 hs hk)
def zia (z:Int) (lv3:(Sl Line)) (S5:Int→Int→Int→Int→Int→(Frac×Frac)) (iv5:Int) (zeH:Int) (zeI:Int) (zeJ:Int) (zeK:Int):(Frac×Frac) :=
  (cond (decide (iv5 < (lv3.len : Int)))
 (zqP S5 z lv3 iv5 zeH zeI zeJ zeK ((s28 (lv3.get iv5.toNat) z).Num) ((s28 (lv3.get iv5.toNat) z).Den))
 ((⟨zeH,zeI⟩:Frac),(⟨zeJ,zeK⟩:Frac)))
def zib (z:Int) (lv3:(Sl Line)) (P5:Int→Int→Int→Int→Int→Bool) (iv5:Int) (zeH:Int) (zeI:Int) (zeJ:Int) (zeK:Int):Bool :=
  (cond (decide (iv5 < (lv3.len : Int)))
 (decide ((0≤iv5∧iv5 < (lv3.len:Int))) &&
 (decide ((p28 (lv3.get iv5.toNat) z=true)) &&
 (zqQ P5 z lv3 iv5 zeH zeI zeJ zeK ((s28 (lv3.get iv5.toNat) z).Num) ((s28 (lv3.get iv5.toNat) z).Den))))
 true)
def zic (z:Int) (lv3:(Sl Line)):Nat→Int→Int→Int→Int→Int→(Frac×Frac):=lpO (fun _ _ _ _ _=>default) (zia z lv3)
def zid (z:Int) (lv3:(Sl Line)):Nat→Int→Int→Int→Int→Int→Bool:=lpO (fun _ _ _ _ _=>false) (zib z lv3)
def zy7 (z:Int) (lv3:(Sl Line)) (iv5:Int) (zeH:Int) (zeI:Int) (zeJ:Int) (zeK:Int):(Frac×Frac):=zic z lv3 Fuel iv5 zeH zeI zeJ zeK
def zy8 (z:Int) (lv3:(Sl Line)) (iv5:Int) (zeH:Int) (zeI:Int) (zeJ:Int) (zeK:Int):Bool:=zid z lv3 Fuel iv5 zeH zeI zeJ zeK
theorem zGJ (hs:zy8 z lv3 iv5 zeH zeI zeJ zeK=true) (hk:K (e36 (zy7 z lv3 iv5 zeH zeI zeJ zeK))):z36 K [1,1,1,1,0,1,0] [] (zCF z lv3 iv5 zeH zeI zeJ zeK) :=
  zl (fun X=>z36 K [1,1,1,1,0,1,0,0] [X]) (by kernel_rfl) fun X5 hX =>
  (show ∀ k, zy5 K z lv3 X5 (zid z lv3 k) (zic z lv3 k) from zer _ _ (zib z lv3) (zia z lv3) (zy5 K z lv3 X5)
 (by intro _ _ _ _ _ hs;exact absurd hs Bool.false_ne_true)
 (by intro P5 S5 hX5 iv5 zeH zeI zeJ zeK hs hk;exact hX _ (zaD (by kernel_rfl) (zc hs hk (fun hs hk=>(zay hs fun hc hs=>And.intro hc (zay hs fun hc hs=>And.intro hc (zGI hX5 hs hk)))) (fun hs hk=>hk))))) _ hs hk
def zy9 (z:Int) (lv3:(Sl Line)) (zqD:Int) (zqE:Int) (zgw:Int) (zgx:Int):(Frac×Frac) :=
  (zy7 z lv3 (1:Int) zqD zqE zgw zgx)
def zqR (z:Int) (lv3:(Sl Line)) (zqD:Int) (zqE:Int) (zgw:Int) (zgx:Int):Bool :=
  (zy8 z lv3 (1:Int) zqD zqE zgw zgx)
theorem zGK (hs:zqR z lv3 zqD zqE zgw zgx=true) (hk:K (e36 (zy9 z lv3 zqD zqE zgw zgx))):z36 K [1,1,1,1] [] ⟨[(1,zI z),(4,zp 4 0),(5,zp 5 0),(9,zS zaC 4 lv3),(10,zp 10 0),(11,zp 11 0)],[(4,.box 25 (zm (zad (⟨(0:Int),(0:Int)⟩:Frac)))),(5,.box 25 (zm (zad (⟨(0:Int),(0:Int)⟩:Frac)))),(10,.box 25 (zm (zad (⟨zqD,zqE⟩:Frac)))),(11,.box 25 (zm (zad (⟨zgw,zgx⟩:Frac))))],[]⟩:=zaD (by kernel_rfl) (zGJ hs hk)
def zza (z:Int) (lv3:(Sl Line)):(Frac×Frac) :=
  (zy9 z lv3 ((s28 (lv3.get 0) z).Num) ((s28 (lv3.get 0) z).Den) ((s28 (lv3.get 0) z).Num) ((s28 (lv3.get 0) z).Den))
def zqS (z:Int) (lv3:(Sl Line)):Bool :=
  (decide ((0≤(0:Int)∧(0:Int) < (lv3.len:Int))) &&
 (decide ((p28 (lv3.get 0) z=true)) &&
 (decide ((0≤(0:Int)∧(0:Int) < (lv3.len:Int))) &&
 (decide ((p28 (lv3.get 0) z=true)) &&
 (zqR z lv3 ((s28 (lv3.get 0) z).Num) ((s28 (lv3.get 0) z).Den) ((s28 (lv3.get 0) z).Num) ((s28 (lv3.get 0) z).Den))))))
theorem zGL (hs:zqS z lv3=true) (hk:K (e36 (zza z lv3))) (zMP:zKg=zg zaC lv3):z36 K [1,1,1] [] ⟨[(1,zI z),(4,zp 4 0),(5,zp 5 0),(9,zP (.sl lv3.len 4 zKg))],[(4,.box 25 (zm (zad (⟨(0:Int),(0:Int)⟩:Frac)))),(5,.box 25 (zm (zad (⟨(0:Int),(0:Int)⟩:Frac))))],[]⟩:=by subst zMP;exact zaD (by kernel_rfl) (zay hs fun hc hs=>And.intro hc (zay hs fun hc hs=>And.intro hc (zay hs fun hc hs=>And.intro hc (zay hs fun hc hs=>And.intro hc (zGK hs hk)))))
def zmL (zaa:(Sl Gate)) (z:Int):(Frac×Frac) :=
  (zza z (s33 zaa))
def zmM (zaa:(Sl Gate)) (z:Int):Bool :=
  (decide ((p33 zaa=true)) &&
 (zqS z (s33 zaa)))
theorem zGM (hs:zmM zaa z=true) (hk:K (e36 (zmL zaa z))):z36 K [1,1] [] ⟨[(0,zS enc_55 3 zaa),(1,zI z),(4,zp 4 0),(5,zp 5 0)],[(4,.box 25 (zm (zad (⟨(0:Int),(0:Int)⟩:Frac)))),(5,.box 25 (zm (zad (⟨(0:Int),(0:Int)⟩:Frac))))],[]⟩:=zaD (by kernel_rfl) (zay hs fun hc hs=>And.intro (And.intro (zE enc_55 3 zaa.get) hc) (zGL hs hk rfl))
def zqT (av1:Int) (bv1:Int):(Frac×Frac) :=
  ((s40 av1 (1:Int)),(s40 bv1 (1:Int)))
def zqU (av1:Int) (bv1:Int):Bool :=
  (decide ((p40 av1 (1:Int)=true)) &&
 (decide ((p40 bv1 (1:Int)=true)) &&
 true))
theorem zGN (hs:zqU av1 bv1=true) (hk:K (e36 (zqT av1 bv1))):z36 K [1,0,1,0,1] [] ⟨[(4,zp 4 0),(5,zp 5 0),(6,zI av1),(7,zI bv1)],[(4,.box 25 (zm (zad (⟨(0:Int),(0:Int)⟩:Frac)))),(5,.box 25 (zm (zad (⟨(0:Int),(0:Int)⟩:Frac))))],[]⟩:=zaD (by kernel_rfl) (zay hs fun hc hs=>And.intro hc (zay hs fun hc hs=>And.intro hc hk))
def zqV (zaa:(Sl Gate)) (z:Int) (zqC:Bool):(Frac×Frac) :=
  (cond zqC
 (zqT ((s71 zaa).1) ((s71 zaa).2.1))
 (zmL zaa z))
def zqW (zaa:(Sl Gate)) (z:Int) (zqC:Bool):Bool :=
  (cond zqC
 (decide ((p71 zaa=true)) &&
 (zqU ((s71 zaa).1) ((s71 zaa).2.1)))
 (zmM zaa z))
theorem zGO (hs:zqW zaa z zqC=true) (hk:K (e36 (zqV zaa z zqC))):z36 K [1,0,1] [] ⟨[(0,zS enc_55 3 zaa),(1,zI z),(4,zp 4 0),(5,zp 5 0),(15,zB zqC)],[(4,.box 25 (zm (zad (⟨(0:Int),(0:Int)⟩:Frac)))),(5,.box 25 (zm (zad (⟨(0:Int),(0:Int)⟩:Frac))))],[]⟩:=zaD (by kernel_rfl) (zc hs hk (fun hs hk=>(zay hs fun hc hs=>And.intro (And.intro (zE enc_55 3 zaa.get) hc) (zGN hs hk))) (fun hs hk=>(zGM hs hk)))
def s36 (zaa:(Sl Gate)) (z:Int):(Frac×Frac) :=
  (zqV zaa z (s22 zaa))
def p36 (zaa:(Sl Gate)) (z:Int):Bool :=
  (decide ((p22 zaa=true)) &&
 (zqW zaa z (s22 zaa)))
end
theorem q36 (zaa:(Sl Gate)) (z:Int) (K:List PA→Prop) (hs:p36 zaa z=true) (hk:K (e36 (s36 zaa z))):vcFun Try.prog G36 zGG 36 [.one (.sl zaa.len 3 (fun i=>enc_55 (zaa.get i))),.one (.int .i64 z)] K :=
  zaD (by kernel_rfl) (zay hs fun hc hs=>And.intro (And.intro (zE enc_55 3 zaa.get) hc) (zGO hs hk))
def zGP : List PA → COut
  | [.one (.sl a0_n a0_s a0_g),.one (.int .i64 a1)]=>.det (IsE enc_55 3 a0_s a0_g∧p36 (⟨a0_n,zae a0_g⟩:(Sl Gate)) a1=true) [.agg [.int .i64 (((s36 (⟨a0_n,zae a0_g⟩:(Sl Gate)) a1).1).Num),.int .i64 (((s36 (⟨a0_n,zae a0_g⟩:(Sl Gate)) a1).1).Den)],.agg [.int .i64 (((s36 (⟨a0_n,zae a0_g⟩:(Sl Gate)) a1).2).Num),.int .i64 (((s36 (⟨a0_n,zae a0_g⟩:(Sl Gate)) a1).2).Den)]]
  | _=>.no
theorem zKh:zaf Try.prog 36:=⟨_,rfl,rfl,by kernel_rfl⟩
theorem zPu:Ok Try.prog 36 zGP:=zaF zMO zKh fun args K h=>by
  unfold zGP at h
  split at h
  · rename_i a0_n a0_s a0_g a1
    obtain ⟨⟨⟨rfl,a0_f,rfl⟩,hs⟩,hk⟩:=h
    try rw [zac a0_f] at hs
    try rw [zac a0_f] at hk
    exact ⟨(fun _ _=>[]),(fun _=>false),zGG,q36 (⟨a0_n,a0_f⟩:(Sl Gate)) a1 K hs hk⟩
  · exact h.elim
abbrev T24:Tabs:=Tabs.nil
theorem zMQ:TabsOk Try.prog T24:=TabsOk.nil
abbrev G24:Ctrs:=csm T24 (fun _ _=>[]) (fun _=>false)
def zKi:Ann:=⟨6,[(0,zK [1] [1]),(1,zK [2] [])],
 [],
 [],
 [],[]⟩
abbrev R24:=Bool
abbrev e24 (r:R24):List PA:=[.one (.bool r)]
section
variable {K:List PA→Prop} {f:Frac}
def s24 (f:Frac):Bool :=
  (match (f.Num == (0:Int)) with | true=>(match (f.Den == (0:Int)) with | true=>true | false=>false) | false=>false)
end
theorem q24 (f:Frac) (K:List PA→Prop) (hk:K (e24 (s24 f))):vcFun Try.prog G24 zKi 24 [.agg (zad f)] K :=
  zaD (by kernel_rfl) hk
def zGQ : List PA → COut
  | [.agg [.int .i64 a0_Num,.int .i64 a0_Den]]=>.tot [.one (.bool (s24 (⟨a0_Num,a0_Den⟩:Frac)))]
  | _=>.no
theorem zKj:zaf Try.prog 24:=⟨_,rfl,rfl,by kernel_rfl⟩
theorem zPv:Ok Try.prog 24 zGQ:=zaF zMQ zKj fun args K h=>by
  unfold zGQ at h
  split at h
  · rename_i a0_Num a0_Den
    have hk:=h
    exact ⟨(fun _ _=>[]),(fun _=>false),zKi,q24 (⟨a0_Num,a0_Den⟩:Frac) K hk⟩
  · exact h.elim
abbrev T35:Tabs:=((Tabs.nil.addF 75 zvM).addF 82 zAZ)
theorem zMR:TabsOk Try.prog T35:=((TabsOk.nil.addF zL2).addF zNi)
abbrev G35:Ctrs:=csm T35 (fun _ _=>[]) (fun _=>false)
def zGR:Ann:=⟨26,[(0,zK [0,2,3] [2,3]),(1,zK [2,3,5,6] [2,3,5]),(2,zK [2,3,5,6,15] [2,3,5]),(3,zK [2,3,4] [2,3]),(4,zK [2,3,7,8] [2,3,7,8]),(5,zK [2,3,4] [2,3])],
 [],
 [(4,zK [2,3,5] [2,3,5])],
 [],[]⟩
abbrev R35:=(Frac×Frac×Int)
abbrev e35 (r:R35):List PA:=[.agg [.int .i64 r.1.Num,.int .i64 r.1.Den],.agg [.int .i64 r.2.1.Num,.int .i64 r.2.1.Den],.one (.int .i64 r.2.2)]
@[irreducible] def z35:=ptF Try.prog G35 zGR Try.f35
section
variable {K:List PA→Prop} {zaa:(Sl Gate)} {zeB:(Sl Gate)} {zeC:(Sl straight)} {zj3:Nat→List PV} {zj4:Nat→List PV}
def zqX (zeB:(Sl Gate)) (zeC:(Sl straight)):(Frac×Frac×Int) :=
  (((ztB (⟨(⟨zeB⟩:list),zeC⟩:set)).1),((ztB (⟨(⟨zeB⟩:list),zeC⟩:set)).2),(0:Int))
def zqY (zeB:(Sl Gate)) (zeC:(Sl straight)):Bool :=
  (decide ((zHr (⟨(⟨zeB⟩:list),zeC⟩:set)=true)) &&
 true)
theorem zGS (hs:zqY zeB zeC=true) (hk:K (e35 (zqX zeB zeC))) (zpG:zj3=zg enc_55 zeB) (zpH:zj4=zg zah zeC):z35 K [1,1,1] [] ⟨[(2,zp 2 0),(3,zp 3 0),(5,zp 5 0)],[(2,.box 25 (zm (zad (⟨(0:Int),(0:Int)⟩:Frac)))),(3,.box 25 (zm (zad (⟨(0:Int),(0:Int)⟩:Frac)))),(5,.box 104 [.p (.sl zeB.len 3 zj3),.p (.sl zeC.len 3 zj4)])],[]⟩:=by subst zpG;subst zpH;exact zaD (by kernel_rfl) (zay hs fun hc hs=>And.intro (And.intro (zE enc_55 3 zeB.get) (And.intro (zE zah 3 zeC.get) hc)) hk)
def s35 (zaa:(Sl Gate)):(Frac×Frac×Int) :=
  (cond (((s75 zaa).2) != (0:Int))
 ((⟨(0:Int),(0:Int)⟩:Frac),(⟨(0:Int),(0:Int)⟩:Frac),((s75 zaa).2))
 (zqX (((s75 zaa).1).list.Gates) (((s75 zaa).1).corners)))
def p35 (zaa:(Sl Gate)):Bool :=
  (decide ((p75 zaa=true)) &&
 (cond (((s75 zaa).2) != (0:Int))
 true
 (zqY (((s75 zaa).1).list.Gates) (((s75 zaa).1).corners))))
end
theorem q35 (zaa:(Sl Gate)) (K:List PA→Prop) (hs:p35 zaa=true) (hk:K (e35 (s35 zaa))):vcFun Try.prog G35 zGR 35 [.one (.sl zaa.len 3 (fun i=>enc_55 (zaa.get i)))] K :=
  zaD (by kernel_rfl) (zay hs fun hc hs=>And.intro (And.intro (zE enc_55 3 zaa.get) hc) (zc hs hk (fun hs hk=>hk) (fun hs hk=>(zGS hs hk rfl rfl))))
def zGT : List PA → COut
  | [.one (.sl a0_n a0_s a0_g)]=>.det (IsE enc_55 3 a0_s a0_g∧p35 (⟨a0_n,zae a0_g⟩:(Sl Gate))=true) [.agg [.int .i64 (((s35 (⟨a0_n,zae a0_g⟩:(Sl Gate))).1).Num),.int .i64 (((s35 (⟨a0_n,zae a0_g⟩:(Sl Gate))).1).Den)],.agg [.int .i64 (((s35 (⟨a0_n,zae a0_g⟩:(Sl Gate))).2.1).Num),.int .i64 (((s35 (⟨a0_n,zae a0_g⟩:(Sl Gate))).2.1).Den)],.one (.int .i64 ((s35 (⟨a0_n,zae a0_g⟩:(Sl Gate))).2.2))]
  | _=>.no
theorem zKk:zaf Try.prog 35:=⟨_,rfl,rfl,by kernel_rfl⟩
theorem zPw:Ok Try.prog 35 zGT:=zaF zMR zKk fun args K h=>by
  unfold zGT at h
  split at h
  · rename_i a0_n a0_s a0_g
    obtain ⟨⟨⟨rfl,a0_f,rfl⟩,hs⟩,hk⟩:=h
    try rw [zac a0_f] at hs
    try rw [zac a0_f] at hk
    exact ⟨(fun _ _=>[]),(fun _=>false),zGR,q35 (⟨a0_n,a0_f⟩:(Sl Gate)) K hs hk⟩
  · exact h.elim
abbrev T37:Tabs:=((Tabs.nil.addF 29 zyP).addF 33 zy2)
theorem zMS:TabsOk Try.prog T37:=((TabsOk.nil.addF zMG).addF zMK)
abbrev G37:Ctrs:=csm T37 (fun _ _=>[]) (fun _=>false)
def zGU:Ann:=⟨50,[(0,zK [0,2,3] [2,3]),(1,zK [2,3,4] [2,3]),(2,zK [2,3,4,5,6] [2,3,5,6]),(3,zK [2,3,4,5,6,7] [2,3,5,6]),(4,zK [2,3,4,5,6,7,21] [2,3,5,6]),(5,zK [2,3,4,5,6,7] [2,3,5,6]),(6,zK [2,3,4,5,6,7,30] [2,3,5,6]),(7,zK [2,3,4,5,6,7] [2,3,5,6]),(8,zK [2,3,4,5,6,7,42] [2,3,5,6]),(9,zK [2,3,4,5,6,7] [2,3,5,6]),(10,zK [2,3] [2,3])],
 [(4,zK [2,3,4,5,6,7] [2,3,5,6])],
 [(2,zK [2,3,4] [2,3]),(7,zK [2,3,4,5,6,7,30] [2,3,5,6]),(8,zK [2,3,4,5,6,7] [2,3,5,6]),(9,zK [2,3,4,5,6,7,42] [2,3,5,6])],
 [],[]⟩
abbrev R37:=(Frac×Frac)
abbrev e37 (r:R37):List PA:=[.agg [.int .i64 r.1.Num,.int .i64 r.1.Den],.agg [.int .i64 r.2.Num,.int .i64 r.2.Den]]
@[irreducible] def z37:=ptF Try.prog G37 zGU Try.f37
def zCG (lv0:(Sl Line)) (iv1:Int) (zam:Int) (zax:Int) (zaW:Int) (zaX:Int):St:=⟨[(2,zp 2 0),(3,zp 3 0),(4,zS zaC 4 lv0),(5,zp 5 0),(6,zp 6 0),(7,zI iv1)],[(2,.box 25 (zm (zad (⟨(0:Int),(0:Int)⟩:Frac)))),(3,.box 25 (zm (zad (⟨(0:Int),(0:Int)⟩:Frac)))),(5,.box 25 (zm (zad (⟨zam,zax⟩:Frac)))),(6,.box 25 (zm (zad (⟨zaW,zaX⟩:Frac))))],[]⟩
abbrev zzb (K:List PA→Prop) (lv0:(Sl Line)) (X:St→Prop) (P:Int→Int→Int→Int→Int→Bool) (S:Int→Int→Int→Int→Int→(Frac×Frac)):Prop:=∀ ⦃iv1:Int⦄ ⦃zam:Int⦄ ⦃zax:Int⦄ ⦃zaW:Int⦄ ⦃zaX:Int⦄,P iv1 zam zax zaW zaX=true→K (e37 (S iv1 zam zax zaW zaX))→X (zCG lv0 iv1 zam zax zaW zaX)
section
variable {K:List PA→Prop} {zaa:(Sl Gate)} {lv0:(Sl Line)} {zyV:Nat→List PV} {iv1:Int} {zam:Int} {zax:Int} {zaW:Int} {zaX:Int} {X1:St→Prop} {P1:Int→Int→Int→Int→Int→Bool} {S1:Int→Int→Int→Int→Int→(Frac×Frac)} {iv2:Int} {zqZ:Bool} {zq0:Int} {zq1:Int} {zmN:Int} {zmO:Int} {iv3:Int} {zfT:Int} {zfU:Int} {zmP:Int} {zmQ:Int} {iv4:Int} {zq2:Bool} {zgw:Int} {zgx:Int}
def zq3 (S1:Int→Int→Int→Int→Int→(Frac×Frac)) (lv0:(Sl Line)) (zfT:Int) (zfU:Int) (iv4:Int) (zq2:Bool) (zgw:Int) (zgx:Int):(Frac×Frac) :=
  (cond zq2
 (S1 (w64 (iv4+(1:Int))) zfT zfU ((lv0.get iv4.toNat).Slope.Num) ((lv0.get iv4.toNat).Slope.Den))
 (S1 (w64 (iv4+(1:Int))) zfT zfU zgw zgx))
def zq4 (P1:Int→Int→Int→Int→Int→Bool) (lv0:(Sl Line)) (zfT:Int) (zfU:Int) (iv4:Int) (zq2:Bool) (zgw:Int) (zgx:Int):Bool :=
  (cond zq2
 (decide ((0≤iv4∧iv4 < (lv0.len:Int))) &&
 (P1 (w64 (iv4+(1:Int))) zfT zfU ((lv0.get iv4.toNat).Slope.Num) ((lv0.get iv4.toNat).Slope.Den)))
 (P1 (w64 (iv4+(1:Int))) zfT zfU zgw zgx))
theorem zGV (hX1:zzb K lv0 X1 P1 S1) (hs:zq4 P1 lv0 zfT zfU iv4 zq2 zgw zgx=true) (hk:K (e37 (zq3 S1 lv0 zfT zfU iv4 zq2 zgw zgx))):z37 K [1,1,1,0,1,0,0,1,0,0,1,1] [X1] ⟨[(2,zp 2 0),(3,zp 3 0),(4,zS zaC 4 lv0),(5,zp 5 0),(6,zp 6 0),(7,zI iv4),(42,zB zq2)],[(2,.box 25 (zm (zad (⟨(0:Int),(0:Int)⟩:Frac)))),(3,.box 25 (zm (zad (⟨(0:Int),(0:Int)⟩:Frac)))),(5,.box 25 (zm (zad (⟨zfT,zfU⟩:Frac)))),(6,.box 25 (zm (zad (⟨zgw,zgx⟩:Frac))))],[]⟩:=zaD (by kernel_rfl) (zc hs hk (fun hs hk=>(zay hs fun hc hs=>And.intro hc (hX1 hs hk))) (fun hs hk=>(hX1 hs hk)))
def zmR (S1:Int→Int→Int→Int→Int→(Frac×Frac)) (lv0:(Sl Line)) (iv3:Int) (zfT:Int) (zfU:Int) (zmP:Int) (zmQ:Int):(Frac×Frac) :=
  (zq3 S1 lv0 zfT zfU iv3 (s29 (⟨zmP,zmQ⟩:Frac) ((lv0.get iv3.toNat).Slope)) zmP zmQ)
def zmS (P1:Int→Int→Int→Int→Int→Bool) (lv0:(Sl Line)) (iv3:Int) (zfT:Int) (zfU:Int) (zmP:Int) (zmQ:Int):Bool :=
  (decide ((0≤iv3∧iv3 < (lv0.len:Int))) &&
 (zq4 P1 lv0 zfT zfU iv3 (s29 (⟨zmP,zmQ⟩:Frac) ((lv0.get iv3.toNat).Slope)) zmP zmQ))
theorem zzc (hX1:zzb K lv0 X1 P1 S1) (hs:zmS P1 lv0 iv3 zfT zfU zmP zmQ=true) (hk:K (e37 (zmR S1 lv0 iv3 zfT zfU zmP zmQ))):z37 K [1,1,1,0,1,0,0,1,0,0,1] [X1] ⟨[(2,zp 2 0),(3,zp 3 0),(4,zS zaC 4 lv0),(5,zp 5 0),(6,zp 6 0),(7,zI iv3)],[(2,.box 25 (zm (zad (⟨(0:Int),(0:Int)⟩:Frac)))),(3,.box 25 (zm (zad (⟨(0:Int),(0:Int)⟩:Frac)))),(5,.box 25 (zm (zad (⟨zfT,zfU⟩:Frac)))),(6,.box 25 (zm (zad (⟨zmP,zmQ⟩:Frac))))],[]⟩:=zaD (by kernel_rfl) (zay hs fun hc hs=>And.intro hc (zGV hX1 hs hk))
def zq5 (S1:Int→Int→Int→Int→Int→(Frac×Frac)) (lv0:(Sl Line)) (iv2:Int) (zqZ:Bool) (zq0:Int) (zq1:Int) (zmN:Int) (zmO:Int):(Frac×Frac) :=
  (cond zqZ
 (zmR S1 lv0 iv2 ((lv0.get iv2.toNat).Slope.Num) ((lv0.get iv2.toNat).Slope.Den) zmN zmO)
 (zmR S1 lv0 iv2 zq0 zq1 zmN zmO))
def zq6 (P1:Int→Int→Int→Int→Int→Bool) (lv0:(Sl Line)) (iv2:Int) (zqZ:Bool) (zq0:Int) (zq1:Int) (zmN:Int) (zmO:Int):Bool :=
  (cond zqZ
 (decide ((0≤iv2∧iv2 < (lv0.len:Int))) &&
 (zmS P1 lv0 iv2 ((lv0.get iv2.toNat).Slope.Num) ((lv0.get iv2.toNat).Slope.Den) zmN zmO))
 (zmS P1 lv0 iv2 zq0 zq1 zmN zmO))
theorem zGW (hX1:zzb K lv0 X1 P1 S1) (hs:zq6 P1 lv0 iv2 zqZ zq0 zq1 zmN zmO=true) (hk:K (e37 (zq5 S1 lv0 iv2 zqZ zq0 zq1 zmN zmO))):z37 K [1,1,1,0,1,0,0,1,0,0,0,1] [X1] ⟨[(2,zp 2 0),(3,zp 3 0),(4,zS zaC 4 lv0),(5,zp 5 0),(6,zp 6 0),(7,zI iv2),(30,zB zqZ)],[(2,.box 25 (zm (zad (⟨(0:Int),(0:Int)⟩:Frac)))),(3,.box 25 (zm (zad (⟨(0:Int),(0:Int)⟩:Frac)))),(5,.box 25 (zm (zad (⟨zq0,zq1⟩:Frac)))),(6,.box 25 (zm (zad (⟨zmN,zmO⟩:Frac))))],[]⟩:=zaD (by kernel_rfl) (zc hs hk (fun hs hk=>(zay hs fun hc hs=>And.intro hc (zzc hX1 hs hk))) (fun hs hk=>(zzc hX1 hs hk)))
def zie (lv0:(Sl Line)) (S1:Int→Int→Int→Int→Int→(Frac×Frac)) (iv1:Int) (zam:Int) (zax:Int) (zaW:Int) (zaX:Int):(Frac×Frac) :=
  (cond (decide (iv1 < (lv0.len : Int)))
 (zq5 S1 lv0 iv1 (s29 ((lv0.get iv1.toNat).Slope) (⟨zam,zax⟩:Frac)) zam zax zaW zaX)
 ((⟨zam,zax⟩:Frac),(⟨zaW,zaX⟩:Frac)))
def zif (lv0:(Sl Line)) (P1:Int→Int→Int→Int→Int→Bool) (iv1:Int) (zam:Int) (zax:Int) (zaW:Int) (zaX:Int):Bool :=
  (cond (decide (iv1 < (lv0.len : Int)))
 (decide ((0≤iv1∧iv1 < (lv0.len:Int))) &&
 (zq6 P1 lv0 iv1 (s29 ((lv0.get iv1.toNat).Slope) (⟨zam,zax⟩:Frac)) zam zax zaW zaX))
 true)
def zih (lv0:(Sl Line)):Nat→Int→Int→Int→Int→Int→(Frac×Frac):=lpO (fun _ _ _ _ _=>default) (zie lv0)
def zii (lv0:(Sl Line)):Nat→Int→Int→Int→Int→Int→Bool:=lpO (fun _ _ _ _ _=>false) (zif lv0)
def zzd (lv0:(Sl Line)) (iv1:Int) (zam:Int) (zax:Int) (zaW:Int) (zaX:Int):(Frac×Frac):=zih lv0 Fuel iv1 zam zax zaW zaX
def zze (lv0:(Sl Line)) (iv1:Int) (zam:Int) (zax:Int) (zaW:Int) (zaX:Int):Bool:=zii lv0 Fuel iv1 zam zax zaW zaX
theorem zGX (hs:zze lv0 iv1 zam zax zaW zaX=true) (hk:K (e37 (zzd lv0 iv1 zam zax zaW zaX))):z37 K [1,1,1,0,1,0] [] (zCG lv0 iv1 zam zax zaW zaX) :=
  zl (fun X=>z37 K [1,1,1,0,1,0,0] [X]) (by kernel_rfl) fun X1 hX =>
  (show ∀ k, zzb K lv0 X1 (zii lv0 k) (zih lv0 k) from zer _ _ (zif lv0) (zie lv0) (zzb K lv0 X1)
 (by intro _ _ _ _ _ hs;exact absurd hs Bool.false_ne_true)
 (by intro P1 S1 hX1 iv1 zam zax zaW zaX hs hk;exact hX _ (zaD (by kernel_rfl) (zc hs hk (fun hs hk=>(zay hs fun hc hs=>And.intro hc (zGW hX1 hs hk))) (fun hs hk=>hk))))) _ hs hk
def zzf (lv0:(Sl Line)):(Frac×Frac) :=
  (zzd lv0 (1:Int) ((lv0.get 0).Slope.Num) ((lv0.get 0).Slope.Den) ((lv0.get 0).Slope.Num) ((lv0.get 0).Slope.Den))
def zq7 (lv0:(Sl Line)):Bool :=
  (decide ((0≤(0:Int)∧(0:Int) < (lv0.len:Int))) &&
 (decide ((0≤(0:Int)∧(0:Int) < (lv0.len:Int))) &&
 (zze lv0 (1:Int) ((lv0.get 0).Slope.Num) ((lv0.get 0).Slope.Den) ((lv0.get 0).Slope.Num) ((lv0.get 0).Slope.Den))))
theorem zGY (hs:zq7 lv0=true) (hk:K (e37 (zzf lv0))) (zGz:zyV=zg zaC lv0):z37 K [1,1] [] ⟨[(2,zp 2 0),(3,zp 3 0),(4,zP (.sl lv0.len 4 zyV))],[(2,.box 25 (zm (zad (⟨(0:Int),(0:Int)⟩:Frac)))),(3,.box 25 (zm (zad (⟨(0:Int),(0:Int)⟩:Frac))))],[]⟩:=by subst zGz;exact zaD (by kernel_rfl) (zay hs fun hc hs=>And.intro hc (zay hs fun hc hs=>And.intro hc (zGX hs hk)))
def s37 (zaa:(Sl Gate)):(Frac×Frac) :=
  (zzf (s33 zaa))
def p37 (zaa:(Sl Gate)):Bool :=
  (decide ((p33 zaa=true)) &&
 (zq7 (s33 zaa)))
end
theorem q37 (zaa:(Sl Gate)) (K:List PA→Prop) (hs:p37 zaa=true) (hk:K (e37 (s37 zaa))):vcFun Try.prog G37 zGU 37 [.one (.sl zaa.len 3 (fun i=>enc_55 (zaa.get i)))] K :=
  zaD (by kernel_rfl) (zay hs fun hc hs=>And.intro (And.intro (zE enc_55 3 zaa.get) hc) (zGY hs hk rfl))
def zGZ : List PA → COut
  | [.one (.sl a0_n a0_s a0_g)]=>.det (IsE enc_55 3 a0_s a0_g∧p37 (⟨a0_n,zae a0_g⟩:(Sl Gate))=true) [.agg [.int .i64 (((s37 (⟨a0_n,zae a0_g⟩:(Sl Gate))).1).Num),.int .i64 (((s37 (⟨a0_n,zae a0_g⟩:(Sl Gate))).1).Den)],.agg [.int .i64 (((s37 (⟨a0_n,zae a0_g⟩:(Sl Gate))).2).Num),.int .i64 (((s37 (⟨a0_n,zae a0_g⟩:(Sl Gate))).2).Den)]]
  | _=>.no
theorem zKl:zaf Try.prog 37:=⟨_,rfl,rfl,by kernel_rfl⟩
theorem zPx:Ok Try.prog 37 zGZ:=zaF zMS zKl fun args K h=>by
  unfold zGZ at h
  split at h
  · rename_i a0_n a0_s a0_g
    obtain ⟨⟨⟨rfl,a0_f,rfl⟩,hs⟩,hk⟩:=h
    try rw [zac a0_f] at hs
    try rw [zac a0_f] at hk
    exact ⟨(fun _ _=>[]),(fun _=>false),zGU,q37 (⟨a0_n,a0_f⟩:(Sl Gate)) K hs hk⟩
  · exact h.elim
abbrev T6:Tabs:=(((((((((Tabs.nil.addF 18 zFZ).addF 20 zF5).addF 21 zGC).addF 22 zyH).addF 24 zGQ).addF 30 zA7).addF 35 zGT).addF 36 zGP).addF 37 zGZ)
theorem zPy:TabsOk Try.prog T6:=(((((((((TabsOk.nil.addF zPb).addF zPd).addF zPs).addF zMz).addF zPv).addF zNs).addF zPw).addF zPu).addF zPx)
abbrev G6:Ctrs:=csm T6 (fun _ _=>[]) (fun _=>false)
def zMT:Ann:=⟨156,[(0,zK [0,1] []),(1,zK [0,1,19] []),(2,zK [4] []),(3,zK [0,1,5,6,7] [5,6]),(4,zK [0,1,5,6,7,8,9,10] [5,6,8,9]),(5,zK [0,1,5,6,7,8,9,10,11] [5,6,8,9]),(6,zK [0,1,5,6,7,8,9,10,11,45] [5,6,8,9]),(7,zK [0,8,9,10,11,57] [8,9]),(8,zK [4] []),(9,zK [0,1,5,6,7,8,9,10,11,60] [5,6,8,9]),(10,zK [0,8,9,10,11,72] [8,9]),(11,zK [4] []),(12,zK [0,1,5,6,7,8,9,10,11,82] [5,6,8,9]),(13,zK [0,8,9,10,11,94] [8,9]),(14,zK [4] []),(15,zK [0,5,6,7,8,9,10,11,12,13] [5,6,8,9,12,13]),(16,zK [0,8,9,10,11,112] [8,9]),(17,zK [4] []),(18,zK [0,8,9,10,11,14] [8,9]),(19,zK [0,8,9,10,14,114] [8,9]),(20,zK [0,8,9,10,14] [8,9]),(21,zK [0,8,9,10,14,117] [8,9]),(22,zK [0,8,9,10,14] [8,9]),(23,zK [0,8,9,10,14,119] [8,9]),(24,zK [0,8,9,10,14] [8,9]),(25,zK [0,8,9,10,14,121] [8,9]),(26,zK [4] []),(27,zK [8,9,10,15,16] [8,9,15,16]),(28,zK [4] [])],
 [],
 [(3,zK [0,1] []),(4,zK [0,1,5,6,7] [5,6]),(5,zK [0,1,5,6,7,8,9,10] [5,6,8,9]),(6,zK [0,1,5,6,7,8,9,10,11] [5,6,8,9]),(8,zK [0,8,9,10,11,57] [8,9]),(10,zK [0,1,5,6,7,8,9,10,11,60] [5,6,8,9]),(18,zK [0,8,9,10,11] [8,9]),(11,zK [0,8,9,10,11,72] [8,9]),(13,zK [0,1,5,6,7,8,9,10,11,82] [5,6,8,9]),(25,zK [0,8,9,10,14] [8,9]),(22,zK [0,8,9,10,14,117] [8,9]),(14,zK [0,8,9,10,11,94] [8,9]),(16,zK [0,5,6,7,8,9,10,11,12,13] [5,6,8,9,12,13]),(27,zK [0,8,9,10] [8,9]),(24,zK [0,8,9,10,14,119] [8,9]),(28,zK [8,9,10,15,16] [8,9,15,16])],
 [],[]⟩
abbrev R6:=Bool
abbrev e6 (r:R6):List PA:=[.one (.bool r)]
@[irreducible] def z6:=ptF Try.prog G6 zMT Try.f6
section
variable {K:List PA→Prop} {zaa:(Sl Gate)} {z:Int} {ev1:Int} {zam:Int} {zax:Int} {zaW:Int} {zaX:Int} {fv2:Int} {zan:Int} {zao:Int} {zat:Int} {zau:Int} {zaj:Bool} {zq8:Bool} {zq9:Bool} {zra:Bool} {zrb:Bool} {zix:Int} {zgy:Bool} {zkp:Bool} {zkq:Int} {zkr:Int} {zks:Int} {zkt:Int} {zgz:Bool} {zsz:Int} {zsA:Int} {zsB:Int} {zsC:Int}
def zrd (fv2:Int) (zan:Int) (zao:Int) (zat:Int) (zau:Int) (zsz:Int) (zsA:Int) (zsB:Int) (zsC:Int):Bool :=
  (cond (fv2 == (0:Int))
 (cond (match (zan == zsz) with | true => (match (zao == zsA) with | true => true | false => false) | false => false)
 (cond (match (zat == zsB) with | true => (match (zau == zsC) with | true => true | false => false) | false => false)
 true
 false)
 false)
 false)
theorem zG0 (hk:K (e6 (zrd fv2 zan zao zat zau zsz zsA zsB zsC))):z6 K [1,1,1,1,1,1,1,1,1,1] [] ⟨[(8,zp 8 0),(9,zp 9 0),(10,zI fv2),(15,zp 15 0),(16,zp 16 0)],[(8,.box 25 (zm (zad (⟨zan,zao⟩:Frac)))),(9,.box 25 (zm (zad (⟨zat,zau⟩:Frac)))),(15,.box 25 (zm (zad (⟨zsz,zsA⟩:Frac)))),(16,.box 25 (zm (zad (⟨zsB,zsC⟩:Frac))))],[]⟩:=zaD (by kernel_rfl) (zt hk (fun hk=>(zt hk (fun hk=>(zt hk (fun hk=>hk) (fun hk=>hk))) (fun hk=>hk))) (fun hk=>hk))
def zre (zaa:(Sl Gate)) (fv2:Int) (zan:Int) (zao:Int) (zat:Int) (zau:Int):Bool :=
  (zrd fv2 zan zao zat zau (((s37 zaa).1).Num) (((s37 zaa).1).Den) (((s37 zaa).2).Num) (((s37 zaa).2).Den))
def zrf (zaa:(Sl Gate)) (fv2:Int) (zan:Int) (zao:Int) (zat:Int) (zau:Int):Bool :=
  (decide ((p37 zaa=true)) &&
 true)
theorem zG1 (hs:zrf zaa fv2 zan zao zat zau=true) (hk:K (e6 (zre zaa fv2 zan zao zat zau))):z6 K [1,1,1,1,1,1,1,1,1] [] ⟨[(0,zS enc_55 3 zaa),(8,zp 8 0),(9,zp 9 0),(10,zI fv2)],[(8,.box 25 (zm (zad (⟨zan,zao⟩:Frac)))),(9,.box 25 (zm (zad (⟨zat,zau⟩:Frac))))],[]⟩:=zaD (by kernel_rfl) (zay hs fun hc hs=>And.intro (And.intro (zE enc_55 3 zaa.get) hc) (zG0 hk))
def zlj (zaa:(Sl Gate)) (fv2:Int) (zan:Int) (zao:Int) (zat:Int) (zau:Int) (zix:Int):Bool :=
  (cond (zix != (0:Int))
 (cond (fv2 == zix)
 (cond (s24 (⟨zan, zao⟩ : Frac))
 (cond (s24 (⟨zat, zau⟩ : Frac))
 true
 false)
 false)
 false)
 (zre zaa fv2 zan zao zat zau))
def zlk (zaa:(Sl Gate)) (fv2:Int) (zan:Int) (zao:Int) (zat:Int) (zau:Int) (zix:Int):Bool :=
  (cond (zix != (0:Int))
 true
 (zrf zaa fv2 zan zao zat zau))
theorem zsD (hs:zlk zaa fv2 zan zao zat zau zix=true) (hk:K (e6 (zlj zaa fv2 zan zao zat zau zix))):z6 K [1,1,1,1,1,1,1,1] [] ⟨[(0,zS enc_55 3 zaa),(8,zp 8 0),(9,zp 9 0),(10,zI fv2),(14,zI zix)],[(8,.box 25 (zm (zad (⟨zan,zao⟩:Frac)))),(9,.box 25 (zm (zad (⟨zat,zau⟩:Frac))))],[]⟩:=zaD (by kernel_rfl) (zc hs hk (fun hs hk=>(zt hk (fun hk=>(zt hk (fun hk=>(zt hk (fun hk=>hk) (fun hk=>hk))) (fun hk=>hk))) (fun hk=>hk))) (fun hs hk=>(zG1 hs hk)))
def zrg (zaa:(Sl Gate)) (fv2:Int) (zan:Int) (zao:Int) (zat:Int) (zau:Int) (zgz:Bool):Bool :=
  (cond zgz
 (zlj zaa fv2 zan zao zat zau (6:Int))
 (zlj zaa fv2 zan zao zat zau (0:Int)))
def zrh (zaa:(Sl Gate)) (fv2:Int) (zan:Int) (zao:Int) (zat:Int) (zau:Int) (zgz:Bool):Bool :=
  (cond zgz
 (zlk zaa fv2 zan zao zat zau (6:Int))
 (zlk zaa fv2 zan zao zat zau (0:Int)))
theorem zG2 (hs:zrh zaa fv2 zan zao zat zau zgz=true) (hk:K (e6 (zrg zaa fv2 zan zao zat zau zgz))):z6 K [1,1,1,1,1,1,1,0,1,1,1,1,1] [] ⟨[(0,zS enc_55 3 zaa),(8,zp 8 0),(9,zp 9 0),(10,zI fv2),(14,zI (0:Int)),(119,zB zgz)],[(8,.box 25 (zm (zad (⟨zan,zao⟩:Frac)))),(9,.box 25 (zm (zad (⟨zat,zau⟩:Frac))))],[]⟩:=zaD (by kernel_rfl) (zc hs hk (fun hs hk=>(zsD hs hk)) (fun hs hk=>(zsD hs hk)))
def zri (zaa:(Sl Gate)) (fv2:Int) (zan:Int) (zao:Int) (zat:Int) (zau:Int) (zgy:Bool):Bool :=
  (cond zgy
 (zlj zaa fv2 zan zao zat zau (5:Int))
 (zrg zaa fv2 zan zao zat zau (s22 zaa)))
def zrj (zaa:(Sl Gate)) (fv2:Int) (zan:Int) (zao:Int) (zat:Int) (zau:Int) (zgy:Bool):Bool :=
  (cond zgy
 (zlk zaa fv2 zan zao zat zau (5:Int))
 (decide ((p22 zaa=true)) &&
 (zrh zaa fv2 zan zao zat zau (s22 zaa))))
theorem zG3 (hs:zrj zaa fv2 zan zao zat zau zgy=true) (hk:K (e6 (zri zaa fv2 zan zao zat zau zgy))):z6 K [1,1,1,1,1,1,1,0,1,1,1] [] ⟨[(0,zS enc_55 3 zaa),(8,zp 8 0),(9,zp 9 0),(10,zI fv2),(14,zI (0:Int)),(117,zB zgy)],[(8,.box 25 (zm (zad (⟨zan,zao⟩:Frac)))),(9,.box 25 (zm (zad (⟨zat,zau⟩:Frac))))],[]⟩:=zaD (by kernel_rfl) (zc hs hk (fun hs hk=>(zsD hs hk)) (fun hs hk=>(zay hs fun hc hs=>And.intro (And.intro (zE enc_55 3 zaa.get) hc) (zG2 hs hk))))
def zfr (zaa:(Sl Gate)) (fv2:Int) (zan:Int) (zao:Int) (zat:Int) (zau:Int) (zaj:Bool):Bool :=
  (cond (!zaj)
 (zlj zaa fv2 zan zao zat zau (2:Int))
 (zri zaa fv2 zan zao zat zau (!(s21 zaa))))
def zfs (zaa:(Sl Gate)) (fv2:Int) (zan:Int) (zao:Int) (zat:Int) (zau:Int) (zaj:Bool):Bool :=
  (cond (!zaj)
 (zlk zaa fv2 zan zao zat zau (2:Int))
 (decide ((p21 zaa=true)) &&
 (zrj zaa fv2 zan zao zat zau (!(s21 zaa)))))
theorem zsE (hs:zfs zaa fv2 zan zao zat zau zaj=true) (hk:K (e6 (zfr zaa fv2 zan zao zat zau zaj))):z6 K [1,1,1,1,1,1] [] ⟨[(0,zS enc_55 3 zaa),(8,zp 8 0),(9,zp 9 0),(10,zI fv2),(11,zB zaj)],[(8,.box 25 (zm (zad (⟨zan,zao⟩:Frac)))),(9,.box 25 (zm (zad (⟨zat,zau⟩:Frac))))],[]⟩:=zaD (by kernel_rfl) (zc hs hk (fun hs hk=>(zsD hs hk)) (fun hs hk=>(zay hs fun hc hs=>And.intro (And.intro (zE enc_55 3 zaa.get) hc) (zG3 hs hk))))
def zrk (zaa:(Sl Gate)) (ev1:Int) (zam:Int) (zax:Int) (zaW:Int) (zaX:Int) (fv2:Int) (zan:Int) (zao:Int) (zat:Int) (zau:Int) (zaj:Bool) (zkq:Int) (zkr:Int) (zks:Int) (zkt:Int):Bool :=
  (cond (ev1 != (0:Int))
 false
 (cond (!(match (zam == zkq) with | true => (match (zax == zkr) with | true => true | false => false) | false => false))
 false
 (cond (!(match (zaW == zks) with | true => (match (zaX == zkt) with | true => true | false => false) | false => false))
 false
 (zfr zaa fv2 zan zao zat zau zaj))))
def zrl (zaa:(Sl Gate)) (ev1:Int) (zam:Int) (zax:Int) (zaW:Int) (zaX:Int) (fv2:Int) (zan:Int) (zao:Int) (zat:Int) (zau:Int) (zaj:Bool) (zkq:Int) (zkr:Int) (zks:Int) (zkt:Int):Bool :=
  (cond (ev1 != (0:Int))
 true
 (cond (!(match (zam == zkq) with | true => (match (zax == zkr) with | true => true | false => false) | false => false))
 true
 (cond (!(match (zaW == zks) with | true => (match (zaX == zkt) with | true => true | false => false) | false => false))
 true
 (zfs zaa fv2 zan zao zat zau zaj))))
theorem zG4 (hs:zrl zaa ev1 zam zax zaW zaX fv2 zan zao zat zau zaj zkq zkr zks zkt=true) (hk:K (e6 (zrk zaa ev1 zam zax zaW zaX fv2 zan zao zat zau zaj zkq zkr zks zkt))):z6 K [1,1,1,1,1,0,1,1,1,1,1,1,1] [] ⟨[(0,zS enc_55 3 zaa),(5,zp 5 0),(6,zp 6 0),(7,zI ev1),(8,zp 8 0),(9,zp 9 0),(10,zI fv2),(11,zB zaj),(12,zp 12 0),(13,zp 13 0)],[(5,.box 25 (zm (zad (⟨zam,zax⟩:Frac)))),(6,.box 25 (zm (zad (⟨zaW,zaX⟩:Frac)))),(8,.box 25 (zm (zad (⟨zan,zao⟩:Frac)))),(9,.box 25 (zm (zad (⟨zat,zau⟩:Frac)))),(12,.box 25 (zm (zad (⟨zkq,zkr⟩:Frac)))),(13,.box 25 (zm (zad (⟨zks,zkt⟩:Frac))))],[]⟩:=zaD (by kernel_rfl) (zc hs hk (fun hs hk=>hk) (fun hs hk=>(zc hs hk (fun hs hk=>hk) (fun hs hk=>(zc hs hk (fun hs hk=>hk) (fun hs hk=>(zsE hs hk)))))))
def zku (zaa:(Sl Gate)) (fv2:Int) (zan:Int) (zao:Int) (zat:Int) (zau:Int) (zaj:Bool) (zkp:Bool):Bool :=
  (cond zkp
 false
 (zfr zaa fv2 zan zao zat zau zaj))
def zkv (zaa:(Sl Gate)) (fv2:Int) (zan:Int) (zao:Int) (zat:Int) (zau:Int) (zaj:Bool) (zkp:Bool):Bool :=
  (cond zkp
 true
 (zfs zaa fv2 zan zao zat zau zaj))
theorem zrm (hs:zkv zaa fv2 zan zao zat zau zaj zkp=true) (hk:K (e6 (zku zaa fv2 zan zao zat zau zaj zkp))):z6 K [1,1,1,1,1,0,1,1,1,1,1,0,1] [] ⟨[(0,zS enc_55 3 zaa),(8,zp 8 0),(9,zp 9 0),(10,zI fv2),(11,zB zaj),(94,zB zkp)],[(8,.box 25 (zm (zad (⟨zan,zao⟩:Frac)))),(9,.box 25 (zm (zad (⟨zat,zau⟩:Frac))))],[]⟩:=zaD (by kernel_rfl) (zc hs hk (fun hs hk=>hk) (fun hs hk=>(zsE hs hk)))
def zsF (zaa:(Sl Gate)) (z:Int) (ev1:Int) (zam:Int) (zax:Int) (zaW:Int) (zaX:Int) (fv2:Int) (zan:Int) (zao:Int) (zat:Int) (zau:Int) (zaj:Bool) (zrb:Bool):Bool :=
  (cond zrb
 (cond (ev1 != (6:Int))
 (zku zaa fv2 zan zao zat zau zaj true)
 (cond (!(s24 (⟨zam, zax⟩ : Frac)))
 (zku zaa fv2 zan zao zat zau zaj true)
 (zku zaa fv2 zan zao zat zau zaj (!(s24 (⟨zaW,zaX⟩:Frac))))))
 (zrk zaa ev1 zam zax zaW zaX fv2 zan zao zat zau zaj (((s36 zaa z).1).Num) (((s36 zaa z).1).Den) (((s36 zaa z).2).Num) (((s36 zaa z).2).Den)))
def zsG (zaa:(Sl Gate)) (z:Int) (ev1:Int) (zam:Int) (zax:Int) (zaW:Int) (zaX:Int) (fv2:Int) (zan:Int) (zao:Int) (zat:Int) (zau:Int) (zaj:Bool) (zrb:Bool):Bool :=
  (cond zrb
 (cond (ev1 != (6:Int))
 (zkv zaa fv2 zan zao zat zau zaj true)
 (cond (!(s24 (⟨zam, zax⟩ : Frac)))
 (zkv zaa fv2 zan zao zat zau zaj true)
 (zkv zaa fv2 zan zao zat zau zaj (!(s24 (⟨zaW,zaX⟩:Frac))))))
 (decide ((p36 zaa z=true)) &&
 (zrl zaa ev1 zam zax zaW zaX fv2 zan zao zat zau zaj (((s36 zaa z).1).Num) (((s36 zaa z).1).Den) (((s36 zaa z).2).Num) (((s36 zaa z).2).Den))))
theorem zCH (hs:zsG zaa z ev1 zam zax zaW zaX fv2 zan zao zat zau zaj zrb=true) (hk:K (e6 (zsF zaa z ev1 zam zax zaW zaX fv2 zan zao zat zau zaj zrb))):z6 K [1,1,1,1,1,0,1,1,1,1,1] [] ⟨[(0,zS enc_55 3 zaa),(1,zI z),(5,zp 5 0),(6,zp 6 0),(7,zI ev1),(8,zp 8 0),(9,zp 9 0),(10,zI fv2),(11,zB zaj),(82,zB zrb)],[(5,.box 25 (zm (zad (⟨zam,zax⟩:Frac)))),(6,.box 25 (zm (zad (⟨zaW,zaX⟩:Frac)))),(8,.box 25 (zm (zad (⟨zan,zao⟩:Frac)))),(9,.box 25 (zm (zad (⟨zat,zau⟩:Frac))))],[]⟩:=zaD (by kernel_rfl) (zc hs hk (fun hs hk=>(zc hs hk (fun hs hk=>(zrm hs hk)) (fun hs hk=>(zc hs hk (fun hs hk=>(zrm hs hk)) (fun hs hk=>(zrm hs hk)))))) (fun hs hk=>(zay hs fun hc hs=>And.intro (And.intro (zE enc_55 3 zaa.get) hc) (zG4 hs hk))))
def zn7 (zaa:(Sl Gate)) (fv2:Int) (zan:Int) (zao:Int) (zat:Int) (zau:Int) (zaj:Bool) (zra:Bool):Bool :=
  (cond zra
 false
 (zfr zaa fv2 zan zao zat zau zaj))
def zn8 (zaa:(Sl Gate)) (fv2:Int) (zan:Int) (zao:Int) (zat:Int) (zau:Int) (zaj:Bool) (zra:Bool):Bool :=
  (cond zra
 true
 (zfs zaa fv2 zan zao zat zau zaj))
theorem zzg (hs:zn8 zaa fv2 zan zao zat zau zaj zra=true) (hk:K (e6 (zn7 zaa fv2 zan zao zat zau zaj zra))):z6 K [1,1,1,1,1,0,1,1,1,0,1] [] ⟨[(0,zS enc_55 3 zaa),(8,zp 8 0),(9,zp 9 0),(10,zI fv2),(11,zB zaj),(72,zB zra)],[(8,.box 25 (zm (zad (⟨zan,zao⟩:Frac)))),(9,.box 25 (zm (zad (⟨zat,zau⟩:Frac))))],[]⟩:=zaD (by kernel_rfl) (zc hs hk (fun hs hk=>hk) (fun hs hk=>(zsE hs hk)))
def zzh (zaa:(Sl Gate)) (z:Int) (ev1:Int) (zam:Int) (zax:Int) (zaW:Int) (zaX:Int) (fv2:Int) (zan:Int) (zao:Int) (zat:Int) (zau:Int) (zaj:Bool) (zq9:Bool):Bool :=
  (cond zq9
 (cond (ev1 != (5:Int))
 (zn7 zaa fv2 zan zao zat zau zaj true)
 (cond (!(s24 (⟨zam, zax⟩ : Frac)))
 (zn7 zaa fv2 zan zao zat zau zaj true)
 (zn7 zaa fv2 zan zao zat zau zaj (!(s24 (⟨zaW,zaX⟩:Frac))))))
 (cond (s22 zaa)
 (zsF zaa z ev1 zam zax zaW zaX fv2 zan zao zat zau zaj (z != (zaa.get 0).Z))
 (zsF zaa z ev1 zam zax zaW zaX fv2 zan zao zat zau zaj false)))
def zzi (zaa:(Sl Gate)) (z:Int) (ev1:Int) (zam:Int) (zax:Int) (zaW:Int) (zaX:Int) (fv2:Int) (zan:Int) (zao:Int) (zat:Int) (zau:Int) (zaj:Bool) (zq9:Bool):Bool :=
  (cond zq9
 (cond (ev1 != (5:Int))
 (zn8 zaa fv2 zan zao zat zau zaj true)
 (cond (!(s24 (⟨zam, zax⟩ : Frac)))
 (zn8 zaa fv2 zan zao zat zau zaj true)
 (zn8 zaa fv2 zan zao zat zau zaj (!(s24 (⟨zaW,zaX⟩:Frac))))))
 (decide ((p22 zaa=true)) &&
 (cond (s22 zaa)
 (decide ((0≤(0:Int)∧(0:Int) < (zaa.len:Int))) &&
 (zsG zaa z ev1 zam zax zaW zaX fv2 zan zao zat zau zaj (z != (zaa.get 0).Z)))
 (zsG zaa z ev1 zam zax zaW zaX fv2 zan zao zat zau zaj false))))
theorem zKm (hs:zzi zaa z ev1 zam zax zaW zaX fv2 zan zao zat zau zaj zq9=true) (hk:K (e6 (zzh zaa z ev1 zam zax zaW zaX fv2 zan zao zat zau zaj zq9))):z6 K [1,1,1,1,1,0,1,1,1] [] ⟨[(0,zS enc_55 3 zaa),(1,zI z),(5,zp 5 0),(6,zp 6 0),(7,zI ev1),(8,zp 8 0),(9,zp 9 0),(10,zI fv2),(11,zB zaj),(60,zB zq9)],[(5,.box 25 (zm (zad (⟨zam,zax⟩:Frac)))),(6,.box 25 (zm (zad (⟨zaW,zaX⟩:Frac)))),(8,.box 25 (zm (zad (⟨zan,zao⟩:Frac)))),(9,.box 25 (zm (zad (⟨zat,zau⟩:Frac))))],[]⟩:=zaD (by kernel_rfl) (zc hs hk (fun hs hk=>(zc hs hk (fun hs hk=>(zzg hs hk)) (fun hs hk=>(zc hs hk (fun hs hk=>(zzg hs hk)) (fun hs hk=>(zzg hs hk)))))) (fun hs hk=>(zay hs fun hc hs=>And.intro (And.intro (zE enc_55 3 zaa.get) hc) (zc hs hk (fun hs hk=>(zay hs fun hc hs=>And.intro hc (zCH hs hk))) (fun hs hk=>(zCH hs hk))))))
def zft (zaa:(Sl Gate)) (fv2:Int) (zan:Int) (zao:Int) (zat:Int) (zau:Int) (zaj:Bool) (zq8:Bool):Bool :=
  (cond zq8
 false
 (zfr zaa fv2 zan zao zat zau zaj))
def zfu (zaa:(Sl Gate)) (fv2:Int) (zan:Int) (zao:Int) (zat:Int) (zau:Int) (zaj:Bool) (zq8:Bool):Bool :=
  (cond zq8
 true
 (zfs zaa fv2 zan zao zat zau zaj))
theorem zg9 (hs:zfu zaa fv2 zan zao zat zau zaj zq8=true) (hk:K (e6 (zft zaa fv2 zan zao zat zau zaj zq8))):z6 K [1,1,1,1,1,0,1,0,1] [] ⟨[(0,zS enc_55 3 zaa),(8,zp 8 0),(9,zp 9 0),(10,zI fv2),(11,zB zaj),(57,zB zq8)],[(8,.box 25 (zm (zad (⟨zan,zao⟩:Frac)))),(9,.box 25 (zm (zad (⟨zat,zau⟩:Frac))))],[]⟩:=zaD (by kernel_rfl) (zc hs hk (fun hs hk=>hk) (fun hs hk=>(zsE hs hk)))
def zzj (zaa:(Sl Gate)) (z:Int) (ev1:Int) (zam:Int) (zax:Int) (zaW:Int) (zaX:Int) (fv2:Int) (zan:Int) (zao:Int) (zat:Int) (zau:Int) (zaj:Bool):Bool :=
  (cond (!zaj)
 (cond (ev1 != (2:Int))
 (zft zaa fv2 zan zao zat zau zaj true)
 (cond (!(s24 (⟨zam, zax⟩ : Frac)))
 (zft zaa fv2 zan zao zat zau zaj true)
 (zft zaa fv2 zan zao zat zau zaj (!(s24 (⟨zaW,zaX⟩:Frac))))))
 (cond (decide (z < (-100000:Int)))
 (cond (ev1 != (2:Int))
 (zft zaa fv2 zan zao zat zau zaj true)
 (cond (!(s24 (⟨zam, zax⟩ : Frac)))
 (zft zaa fv2 zan zao zat zau zaj true)
 (zft zaa fv2 zan zao zat zau zaj (!(s24 (⟨zaW,zaX⟩:Frac))))))
 (cond (decide (z > (200000:Int)))
 (cond (ev1 != (2:Int))
 (zft zaa fv2 zan zao zat zau zaj true)
 (cond (!(s24 (⟨zam, zax⟩ : Frac)))
 (zft zaa fv2 zan zao zat zau zaj true)
 (zft zaa fv2 zan zao zat zau zaj (!(s24 (⟨zaW,zaX⟩:Frac))))))
 (zzh zaa z ev1 zam zax zaW zaX fv2 zan zao zat zau zaj (!(s21 zaa))))))
def zzk (zaa:(Sl Gate)) (z:Int) (ev1:Int) (zam:Int) (zax:Int) (zaW:Int) (zaX:Int) (fv2:Int) (zan:Int) (zao:Int) (zat:Int) (zau:Int) (zaj:Bool):Bool :=
  (cond (!zaj)
 (cond (ev1 != (2:Int))
 (zfu zaa fv2 zan zao zat zau zaj true)
 (cond (!(s24 (⟨zam, zax⟩ : Frac)))
 (zfu zaa fv2 zan zao zat zau zaj true)
 (zfu zaa fv2 zan zao zat zau zaj (!(s24 (⟨zaW,zaX⟩:Frac))))))
 (cond (decide (z < (-100000:Int)))
 (cond (ev1 != (2:Int))
 (zfu zaa fv2 zan zao zat zau zaj true)
 (cond (!(s24 (⟨zam, zax⟩ : Frac)))
 (zfu zaa fv2 zan zao zat zau zaj true)
 (zfu zaa fv2 zan zao zat zau zaj (!(s24 (⟨zaW,zaX⟩:Frac))))))
 (cond (decide (z > (200000:Int)))
 (cond (ev1 != (2:Int))
 (zfu zaa fv2 zan zao zat zau zaj true)
 (cond (!(s24 (⟨zam, zax⟩ : Frac)))
 (zfu zaa fv2 zan zao zat zau zaj true)
 (zfu zaa fv2 zan zao zat zau zaj (!(s24 (⟨zaW,zaX⟩:Frac))))))
 (decide ((p21 zaa=true)) &&
 (zzi zaa z ev1 zam zax zaW zaX fv2 zan zao zat zau zaj (!(s21 zaa)))))))
theorem zKn (hs:zzk zaa z ev1 zam zax zaW zaX fv2 zan zao zat zau zaj=true) (hk:K (e6 (zzj zaa z ev1 zam zax zaW zaX fv2 zan zao zat zau zaj))):z6 K [1,1,1,1,1] [] ⟨[(0,zS enc_55 3 zaa),(1,zI z),(5,zp 5 0),(6,zp 6 0),(7,zI ev1),(8,zp 8 0),(9,zp 9 0),(10,zI fv2),(11,zB zaj)],[(5,.box 25 (zm (zad (⟨zam,zax⟩:Frac)))),(6,.box 25 (zm (zad (⟨zaW,zaX⟩:Frac)))),(8,.box 25 (zm (zad (⟨zan,zao⟩:Frac)))),(9,.box 25 (zm (zad (⟨zat,zau⟩:Frac))))],[]⟩:=zaD (by kernel_rfl) (zc hs hk (fun hs hk=>(zc hs hk (fun hs hk=>(zg9 hs hk)) (fun hs hk=>(zc hs hk (fun hs hk=>(zg9 hs hk)) (fun hs hk=>(zg9 hs hk)))))) (fun hs hk=>(zc hs hk (fun hs hk=>(zc hs hk (fun hs hk=>(zg9 hs hk)) (fun hs hk=>(zc hs hk (fun hs hk=>(zg9 hs hk)) (fun hs hk=>(zg9 hs hk)))))) (fun hs hk=>(zc hs hk (fun hs hk=>(zc hs hk (fun hs hk=>(zg9 hs hk)) (fun hs hk=>(zc hs hk (fun hs hk=>(zg9 hs hk)) (fun hs hk=>(zg9 hs hk)))))) (fun hs hk=>(zay hs fun hc hs=>And.intro (And.intro (zE enc_55 3 zaa.get) hc) (zKm hs hk))))))))
def zzl (zaa:(Sl Gate)) (z:Int) (ev1:Int) (zam:Int) (zax:Int) (zaW:Int) (zaX:Int) (fv2:Int) (zan:Int) (zao:Int) (zat:Int) (zau:Int):Bool :=
  (zzj zaa z ev1 zam zax zaW zaX fv2 zan zao zat zau (s20 zaa))
def zzm (zaa:(Sl Gate)) (z:Int) (ev1:Int) (zam:Int) (zax:Int) (zaW:Int) (zaX:Int) (fv2:Int) (zan:Int) (zao:Int) (zat:Int) (zau:Int):Bool :=
  (decide ((p20 zaa=true)) &&
 (zzk zaa z ev1 zam zax zaW zaX fv2 zan zao zat zau (s20 zaa)))
theorem zKo (hs:zzm zaa z ev1 zam zax zaW zaX fv2 zan zao zat zau=true) (hk:K (e6 (zzl zaa z ev1 zam zax zaW zaX fv2 zan zao zat zau))):z6 K [1,1,1,1] [] ⟨[(0,zS enc_55 3 zaa),(1,zI z),(5,zp 5 0),(6,zp 6 0),(7,zI ev1),(8,zp 8 0),(9,zp 9 0),(10,zI fv2)],[(5,.box 25 (zm (zad (⟨zam,zax⟩:Frac)))),(6,.box 25 (zm (zad (⟨zaW,zaX⟩:Frac)))),(8,.box 25 (zm (zad (⟨zan,zao⟩:Frac)))),(9,.box 25 (zm (zad (⟨zat,zau⟩:Frac))))],[]⟩:=zaD (by kernel_rfl) (zay hs fun hc hs=>And.intro (And.intro (zE enc_55 3 zaa.get) hc) (zKn hs hk))
def zzn (zaa:(Sl Gate)) (z:Int) (ev1:Int) (zam:Int) (zax:Int) (zaW:Int) (zaX:Int):Bool :=
  (zzl zaa z ev1 zam zax zaW zaX ((s35 zaa).2.2) (((s35 zaa).1).Num) (((s35 zaa).1).Den) (((s35 zaa).2.1).Num) (((s35 zaa).2.1).Den))
def zzo (zaa:(Sl Gate)) (z:Int) (ev1:Int) (zam:Int) (zax:Int) (zaW:Int) (zaX:Int):Bool :=
  (decide ((p35 zaa=true)) &&
 (zzm zaa z ev1 zam zax zaW zaX ((s35 zaa).2.2) (((s35 zaa).1).Num) (((s35 zaa).1).Den) (((s35 zaa).2.1).Num) (((s35 zaa).2.1).Den)))
theorem zKp (hs:zzo zaa z ev1 zam zax zaW zaX=true) (hk:K (e6 (zzn zaa z ev1 zam zax zaW zaX))):z6 K [1,1,1] [] ⟨[(0,zS enc_55 3 zaa),(1,zI z),(5,zp 5 0),(6,zp 6 0),(7,zI ev1)],[(5,.box 25 (zm (zad (⟨zam,zax⟩:Frac)))),(6,.box 25 (zm (zad (⟨zaW,zaX⟩:Frac))))],[]⟩:=zaD (by kernel_rfl) (zay hs fun hc hs=>And.intro (And.intro (zE enc_55 3 zaa.get) hc) (zKo hs hk))
def zzp (zaa:(Sl Gate)) (z:Int):Bool :=
  (zzn zaa z ((s30 zaa z).2.2) (((s30 zaa z).1).Num) (((s30 zaa z).1).Den) (((s30 zaa z).2.1).Num) (((s30 zaa z).2.1).Den))
def zzq (zaa:(Sl Gate)) (z:Int):Bool :=
  (decide ((p30 zaa z=true)) &&
 (zzo zaa z ((s30 zaa z).2.2) (((s30 zaa z).1).Num) (((s30 zaa z).1).Den) (((s30 zaa z).2.1).Num) (((s30 zaa z).2.1).Den)))
theorem zKq (hs:zzq zaa z=true) (hk:K (e6 (zzp zaa z))):z6 K [1,1] [] ⟨[(0,zS enc_55 3 zaa),(1,zI z)],[],[]⟩:=zaD (by kernel_rfl) (zay hs fun hc hs=>And.intro (And.intro (zE enc_55 3 zaa.get) hc) (zKp hs hk))
def s6 (zaa:(Sl Gate)) (z:Int):Bool :=
  (cond (decide ((zaa.len : Int) > (40:Int)))
 true
 (zzp zaa z))
def p6 (zaa:(Sl Gate)) (z:Int):Bool :=
  (cond (decide ((zaa.len : Int) > (40:Int)))
 true
 (zzq zaa z))
end
theorem q6 (zaa:(Sl Gate)) (z:Int) (K:List PA→Prop) (hs:p6 zaa z=true) (hk:K (e6 (s6 zaa z))):vcFun Try.prog G6 zMT 6 [.one (.sl zaa.len 3 (fun i=>enc_55 (zaa.get i))),.one (.int .i64 z)] K :=
  zaD (by kernel_rfl) (zc hs hk (fun hs hk=>hk) (fun hs hk=>(zKq hs hk)))
def zNG : List PA → COut
  | [.one (.sl a0_n a0_s a0_g),.one (.int .i64 a1)]=>.det (IsE enc_55 3 a0_s a0_g∧p6 (⟨a0_n,zae a0_g⟩:(Sl Gate)) a1=true) [.one (.bool (s6 (⟨a0_n,zae a0_g⟩:(Sl Gate)) a1))]
  | _=>.no
theorem call6:zaf Try.prog 6:=⟨_,rfl,rfl,by kernel_rfl⟩
theorem ok6:Ok Try.prog 6 zNG:=zaF zPy call6 fun args K h=>by
  unfold zNG at h
  split at h
  · rename_i a0_n a0_s a0_g a1
    obtain ⟨⟨⟨rfl,a0_f,rfl⟩,hs⟩,hk⟩:=h
    try rw [zac a0_f] at hs
    try rw [zac a0_f] at hk
    exact ⟨(fun _ _=>[]),(fun _=>false),zMT,q6 (⟨a0_n,a0_f⟩:(Sl Gate)) a1 K hs hk⟩
  · exact h.elim
end Go.Proofs
namespace Go.Proofs
open Go Go.Pm
set_option maxRecDepth 100000
set_option linter.unusedVariables false
attribute [local irreducible] Go.Pm.vcFun Go.Pm.vc Go.Pm.vcIter
theorem C_3:Try.prog.cellsOf 3=1:=by kernel_rfl
theorem zNH:Try.prog.cellsOf 55=3:=by kernel_rfl
abbrev wf_3 (x:Int):Prop:=wfI x
theorem rd_3 {H:Type} {en:TypeId×Value→H} {w:World} {sp:Nat→Bool} {held:Bool} : Rd H en Try.prog w sp held 3 zaq wf_3:=zH3 Try.underlying3
def zKr (x:Gate):Prop:=wf_3 x.Z∧wf_3 x.Low∧wf_3 x.High
theorem zMU {H:Type} {en:TypeId×Value→H} {w:World} {sp:Nat→Bool} {held:Bool} : Rd H en Try.prog w sp held 55 enc_55 zKr:=by
  intro fuel cs x h
  obtain ⟨hl,hf⟩:=zuV Try.underlying55 h
  rw [zNH] at hl
  obtain ⟨n0,y0,g0⟩:=hf 0 _ rfl
  have g0:DataW.trod en Try.prog w 0 sp held n0 3 ((cs.drop 0).take (Try.prog.cellsOf 3))=some y0:=g0
  rw [C_3] at g0
  obtain ⟨a0,r0,w0⟩:=rd_3 _ _ _ g0
  obtain ⟨n1,y1,g1⟩:=hf 1 _ rfl
  have g1:DataW.trod en Try.prog w 0 sp held n1 3 ((cs.drop 1).take (Try.prog.cellsOf 3))=some y1:=g1
  rw [C_3] at g1
  obtain ⟨a1,r1,w1⟩:=rd_3 _ _ _ g1
  obtain ⟨n2,y2,g2⟩:=hf 2 _ rfl
  have g2:DataW.trod en Try.prog w 0 sp held n2 3 ((cs.drop 2).take (Try.prog.cellsOf 3))=some y2:=g2
  rw [C_3] at g2
  obtain ⟨a2,r2,w2⟩:=rd_3 _ _ _ g2
  have z:cs.drop 3=[]:=List.drop_eq_nil_of_le (by omega)
  have R:=(r0.append (r1.append (r2.append (show RL (Rep (H0 w)) [] (cs.drop 3) by rw [z];exact zhm))))
  rw [← (show cs.drop 2=(cs.drop 2).take 1 ++ cs.drop 3 from zho cs 2 1)] at R
  rw [← (show cs.drop 1=(cs.drop 1).take 1 ++ cs.drop 2 from zho cs 1 1)] at R
  rw [← (show cs.drop 0=(cs.drop 0).take 1 ++ cs.drop 1 from zho cs 0 1)] at R
  exact ⟨⟨a0,a1,a2⟩,R,⟨w0,w1,w2⟩⟩
def wf_22 (x:(Sl Gate)):Prop:=x.len≤9223372036854775807∧∀ i,i < x.len→zKr (x.get i)
theorem rd_22 {H:Type} {en:TypeId×Value→H} {w:World} {sp:Nat→Bool} {held:Bool} : Rd H en Try.prog w sp held 22 zH5 wf_22:=zAH Try.underlying22 zNH (by decide) (fun _=>rfl) zMU
end Go.Proofs
namespace Go.Pm
open Go
theorem zbG {i n:Nat} (h:i < n) (hn:n≤9223372036854775807):w64 ((i:Int)+(1:Int))=((i+1:Nat):Int):=by
 rw [zaV (by omega) (by omega)];omega
theorem zG5 {β : Type} {good : Nat → Bool} {bad fin : β} {finP : Bool} {n : Nat} {lpS : Nat → Int → β} {lpP : Nat → Int → Bool}
    (hS:∀ (k i:Nat),i < n→lpS (k+1) (i:Int)=cond (good i) (lpS k (w64 ((i:Int)+(1:Int)))) bad)
    (hE:∀ k,lpS (k+1) (n:Int)=fin)
    (hP:∀ (k i:Nat),i < n→lpP (k+1) (i:Int)=cond (good i) (lpP k (w64 ((i:Int)+(1:Int)))) true)
    (hPE:∀ k,lpP (k+1) (n:Int)=finP) (hn:n≤9223372036854775807) :
    ((∀ i,i < n→good i=true)→lpP Fuel 0=finP∧lpS Fuel 0=fin)∧((¬ ∀ i,i < n→good i=true)→lpP Fuel 0=true∧lpS Fuel 0=bad):=by
  have key:∀ (m k i:Nat),i+m=n→m < k→((∀ j,i≤j→j < n→good j=true)→lpP k (i:Int)=finP∧lpS k (i:Int)=fin)∧((¬ ∀ j,i≤j→j < n→good j=true)→lpP k (i:Int)=true∧lpS k (i:Int)=bad):=by
    intro m
    induction m with
    | zero =>
      intro k i hi hk
      obtain ⟨k,rfl⟩:∃ k',k=k'+1:=⟨k - 1,by omega⟩
      have:i=n:=by omega
      subst this
      rw [hE,hPE]
      exact ⟨fun _=>⟨rfl,rfl⟩,fun h=>absurd (fun j h1 h2=>absurd h2 (by omega)) h⟩
    | succ m ih =>
      intro k i hi hk
      obtain ⟨k,rfl⟩:∃ k',k=k'+1:=⟨k - 1,by omega⟩
      rw [hS k i (by omega),hP k i (by omega),zbG (n:=n) (by omega) hn]
      obtain ⟨h1,h2⟩:=ih k (i+1) (by omega) (by omega)
      cases hg:good i
      · refine ⟨fun h => ?_, fun _ => ⟨rfl, rfl⟩⟩
        have:=h i (Nat.le_refl _) (by omega)
        rw [hg] at this;cases this
      · refine ⟨fun h => h1 fun j a b => h j (by omega) b, fun h => h2 fun h' => h fun j a b => ?_⟩
        by_cases hji:j=i
        · rw [hji];exact hg
        · exact h' j (by omega) b
  have:=key n Fuel 0 (by omega) (by simp only [Fuel];omega)
  simpa using this
def zij {σ : Type} (step : Nat → σ → σ) : Nat → Nat → σ → σ
  | 0,_,s=>s
  | m+1,i,s=>zij step m (i+1) (step i s)
theorem zkw {σ β : Type} {step : Nat → σ → σ} {E : σ → β} {EP : σ → Bool} {Inv : Nat → σ → Prop} {a n : Nat} {lpS : Nat → σ → Int → β} {lpP : Nat → σ → Int → Bool}
    (hS:∀ (k i:Nat) (s:σ),a≤i→i < n→Inv i s→lpS (k+1) s (i:Int)=lpS k (step i s) (w64 ((i:Int)+(1:Int))))
    (hE:∀ k s,lpS (k+1) s (n:Int)=E s)
    (hP:∀ (k i:Nat) (s:σ),a≤i→i < n→Inv i s→lpP (k+1) s (i:Int)=lpP k (step i s) (w64 ((i:Int)+(1:Int))))
    (hPE:∀ k s,lpP (k+1) s (n:Int)=EP s)
    (hI:∀ i s,a≤i→i < n→Inv i s→Inv (i+1) (step i s)) (ha:a≤n) (hn:n≤9223372036854775807) (s:σ) (h0:Inv a s) :
    lpP Fuel s (a:Int)=EP (zij step (n - a) a s)∧lpS Fuel s (a:Int)=E (zij step (n - a) a s):=by
  have key:∀ (m k i:Nat) (s:σ),a≤i→i+m=n→m < k→Inv i s→lpP k s (i:Int)=EP (zij step m i s)∧lpS k s (i:Int)=E (zij step m i s):=by
    intro m
    induction m with
    | zero =>
      intro k i s h1 hi hk _
      obtain ⟨k,rfl⟩:∃ k',k=k'+1:=⟨k - 1,by omega⟩
      have:i=n:=by omega
      subst this
      rw [hE,hPE]
      exact ⟨rfl,rfl⟩
    | succ m ih =>
      intro k i s h1 hi hk hs
      obtain ⟨k,rfl⟩:∃ k',k=k'+1:=⟨k - 1,by omega⟩
      rw [hS k i s h1 (by omega) hs,hP k i s h1 (by omega) hs,zbG (n:=n) (by omega) hn]
      exact ih k (i+1) (step i s) (by omega) (by omega) (by omega) (hI i s h1 (by omega) hs)
  exact key (n - a) Fuel a s (Nat.le_refl _) (by omega) (by simp only [Fuel];omega) h0
end Go.Pm
namespace Go.Proofs
open Go Go.Pm
set_option maxRecDepth 100000
theorem zsH (n a b:Int):s70 n a b=decide (a≤n∧n≤b):=by
 unfold s70;by_cases h:n ≥ a
 ·rw [decide_eq_true h,cond_true];exact decide_eq_decide.2 ⟨fun k=>⟨h,k⟩,fun k=>k.2⟩
 ·rw [decide_eq_false h,cond_false];exact (decide_eq_false fun k=>h k.1).symm
theorem zn9 (n a b:Int):s74 n a b=decide (a≤n∧n≤b):=zsH n a b
def zf2 (g:Gate):Prop:=(0≤g.Z∧g.Z≤100000)∧-1000000≤g.Low∧g.Low≤g.High∧g.High≤1000000
def zaN (l:Sl Gate):Prop:=(∀ i,i < l.len→zf2 (l.get i))∧1≤l.len∧l.len≤24
theorem zfO (a b:Bool):cond a b false=(a && b):=by cases a <;> rfl
theorem zCI (g:Gate):s87 g=true↔zf2 g:=by
 unfold s87 zf2
 rw [zn9,zfO,zfO,zfO,Bool.and_eq_true,Bool.and_eq_true,Bool.and_eq_true,decide_eq_true_eq,decide_eq_true_eq,decide_eq_true_eq,decide_eq_true_eq]
theorem zCJ (g:Gate):s49 g=true↔zf2 g:=by
 unfold s49 zf2
 rw [zsH,zsH,zfO,zfO,Bool.and_eq_true,Bool.and_eq_true,decide_eq_true_eq,decide_eq_true_eq,decide_eq_true_eq]
 omega
theorem zzr (l:Sl Gate) (hn:l.len≤9223372036854775807):p64 l=true∧(s64 l=true↔zaN l):=by
  have := zrY (good := fun i => s87 (l.get i)) (fin := s74 (l.len : Int) 1 24) (n := l.len) (lpS := zhz l) (lpP := zhA l)
    (fun k i hi=>by
      show zhx l (zhz l k) (i:Int)=_
      generalize zhz l k=S
      unfold zhx zpf
      rw [decide_eq_true (show (i:Int) < (l.len:Int) by omega),cond_true,Int.toNat_natCast]
      cases s87 (l.get i) <;> rfl)
    (fun k=>by
      show zhx l (zhz l k) (l.len:Int)=_
      unfold zhx
      rw [decide_eq_false (show ¬ (l.len:Int) < (l.len:Int) by omega),cond_false])
    (fun k i hi=>by
      show zhy l (zhA l k) (i:Int)=_
      generalize zhA l k=S
      unfold zhy zpg
      rw [decide_eq_true (show (i:Int) < (l.len:Int) by omega),cond_true,Int.toNat_natCast,decide_eq_true (show 0≤(i:Int)∧(i:Int) < (l.len:Int) by omega),Bool.true_and]
      cases s87 (l.get i) <;> rfl)
    (fun k=>by
      show zhy l (zhA l k) (l.len:Int)=_
      unfold zhy
      rw [decide_eq_false (show ¬ (l.len:Int) < (l.len:Int) by omega),cond_false])
    hn
  refine ⟨this.1,this.2.trans ?_⟩
  rw [zn9,decide_eq_true_eq]
  exact ⟨fun k=>⟨fun i hi=>(zCI _).1 (k.1 i hi),by omega,by omega⟩,fun k=>⟨fun i hi=>(zCI _).2 (k.1 i hi),by have:=k.2;omega⟩⟩
theorem zzs (l:Sl Gate) (hn:l.len≤9223372036854775807):p20 l=true∧(s20 l=true↔zaN l):=by
  have := zrY (good := fun i => s49 (l.get i)) (fin := s70 (l.len : Int) 1 24) (n := l.len) (lpS := zhI l) (lpP := zhJ l)
    (fun k i hi=>by
      show zhG l (zhI l k) (i:Int)=_
      generalize zhI l k=S
      unfold zhG zqg
      rw [decide_eq_true (show (i:Int) < (l.len:Int) by omega),cond_true,Int.toNat_natCast]
      cases s49 (l.get i) <;> rfl)
    (fun k=>by
      show zhG l (zhI l k) (l.len:Int)=_
      unfold zhG
      rw [decide_eq_false (show ¬ (l.len:Int) < (l.len:Int) by omega),cond_false])
    (fun k i hi=>by
      show zhH l (zhJ l k) (i:Int)=_
      generalize zhJ l k=S
      unfold zhH zqh
      rw [decide_eq_true (show (i:Int) < (l.len:Int) by omega),cond_true,Int.toNat_natCast,decide_eq_true (show 0≤(i:Int)∧(i:Int) < (l.len:Int) by omega),Bool.true_and]
      cases s49 (l.get i) <;> rfl)
    (fun k=>by
      show zhH l (zhJ l k) (l.len:Int)=_
      unfold zhH
      rw [decide_eq_false (show ¬ (l.len:Int) < (l.len:Int) by omega),cond_false])
    hn
  refine ⟨this.1,this.2.trans ?_⟩
  rw [zsH,decide_eq_true_eq]
  exact ⟨fun k=>⟨fun i hi=>(zCJ _).1 (k.1 i hi),by omega,by omega⟩,fun k=>⟨fun i hi=>(zCJ _).2 (k.1 i hi),by have:=k.2;omega⟩⟩
theorem zKs (l:Sl Gate) (hn:l.len≤9223372036854775807):s64 l=s20 l :=
 Bool.eq_iff_iff.2 ((zzr l hn).2.trans (zzs l hn).2.symm)
-- the greatest common divisor
theorem zzt:∀ (k:Nat) (a b:Int),0≤a→0≤b→b < (k:Int) →
  (ziT k a b=true∧ziS k a b=(Int.gcd a b:Int))∧(zmr k a b=true∧zmq k a b=(Int.gcd a b:Int)):=by
 intro k
 induction k with
 | zero=>intro a b _ h1 h2;omega
 | succ k ih =>
  intro a b ha hb hk
  show (ziR (ziT k) a b=true∧ziQ (ziS k) a b=_)∧(zmp (zmr k) a b=true∧zmo (zmq k) a b=_)
  unfold ziR ziQ zmp zmo
  by_cases h0:b=0
  ·subst h0
   simp [Int.natAbs_of_nonneg ha]
  ·have hb0 : b > 0 := by omega
   have e1:(b != (0:Int))=true:=by simpa using h0
   have m0:0≤a.tmod b:=Int.tmod_nonneg b ha
   have m1:a.tmod b < b:=Int.tmod_lt_of_pos a hb0
   have g:Int.gcd b (a.tmod b)=Int.gcd a b:=by
    obtain ⟨m,rfl⟩:=Int.eq_ofNat_of_zero_le ha
    obtain ⟨n,rfl⟩:=Int.eq_ofNat_of_zero_le hb
    show Nat.gcd n (m % n)=Nat.gcd m n
    rw [Nat.gcd_comm m n,Nat.gcd_rec n m,Nat.gcd_comm]
   obtain ⟨⟨i1,i2⟩,i3,i4⟩:=ih b (a.tmod b) hb m0 (by omega)
   rw [decide_eq_true hb0,e1,decide_eq_true (show b ≠ 0 from h0),cond_true,cond_true,cond_true,cond_true,Bool.true_and,Bool.true_and,i1,i2,i3,i4,g]
   exact ⟨⟨rfl,rfl⟩,rfl,rfl⟩
theorem zG6 (a b:Int) (ha:0≤a) (hb:0≤b) (hk:b≤9223372036854775807):zKU a b=true∧zDz a b=(Int.gcd a b:Int) :=
 (zzt Fuel a b ha hb (by simp only [Fuel];omega)).1
theorem zCK (a b:Int) (ha:0≤a) (hb:0≤b) (hk:b≤9223372036854775807):p73 a b=true∧s73 a b=(Int.gcd a b:Int) :=
 (zzt Fuel a b ha hb (by simp only [Fuel];omega)).2
-- the order of equal lists
end Go.Proofs
namespace Go.Proofs
open Go Go.Pm
set_option maxRecDepth 100000
theorem zzu {σ : Type} {step : Nat → σ → σ} {Inv : Nat → σ → Prop} {n : Nat} (hI : ∀ i s, i < n → Inv i s → Inv (i + 1) (step i s)) :
    ∀ (m i:Nat) (s:σ),i+m=n→Inv i s→Inv n (zij step m i s):=by
  intro m
  induction m with
  | zero => intro i s h hs; have : i = n := by omega
            subst this;exact hs
  | succ m ih=>intro i s h hs;exact ih (i+1) (step i s) (by omega) (hI i s (by omega) hs)
def addI (l:Line) (zaa:Sl Gate) (i:Nat) (v:Sl Int):Sl Int:=cond (s72 l (zaa.get i)) (⟨v.len+1,zdT v.len v.get (fun _=>(i:Int))⟩:Sl Int) v
def zK5 (l:Line) (zaa:Sl Gate):Sl Int:=zij (addI l zaa) zaa.len 0 (⟨0,fun _=>default⟩:Sl Int)
theorem zsI (l:Line) (zaa:Sl Gate) (i:Nat) (v:Sl Int) (h:v.len≤i):(addI l zaa i v).len≤i+1:=by
 unfold addI;cases s72 l (zaa.get i)
 ·exact Nat.le_succ_of_le h
 ·exact Nat.succ_le_succ h
theorem zKt (l:Line) (zaa:Sl Gate) (hn:zaa.len≤40):p27 l zaa=true∧s27 l zaa=zK5 l zaa:=by
  have := zkw (σ := Sl Int) (step := addI l zaa) (E := id) (EP := fun _ => true) (Inv := fun i v => v.len ≤ i) (a := 0) (n := zaa.len) (lpS := fun k v i => zhQ l zaa k i v) (lpP := fun k v i => zhR l zaa k i v)
    (fun k i v _ hi _=>by
      show zhO l zaa (zhQ l zaa k) (i:Int) v=_
      generalize zhQ l zaa k=S
      unfold zhO zqk addI
      rw [decide_eq_true (show (i:Int) < (zaa.len:Int) by omega),cond_true,Int.toNat_natCast]
      cases s72 l (zaa.get i) <;> rfl)
    (fun k v=>by
      show zhO l zaa (zhQ l zaa k) (zaa.len:Int) v=_
      unfold zhO
      rw [decide_eq_false (show ¬ (zaa.len:Int) < (zaa.len:Int) by omega),cond_false];rfl)
    (fun k i v _ hi hv=>by
      show zhP l zaa (zhR l zaa k) (i:Int) v=_
      generalize zhR l zaa k=S
      unfold zhP zql addI
      rw [decide_eq_true (show (i:Int) < (zaa.len:Int) by omega),cond_true,Int.toNat_natCast,decide_eq_true (show 0≤(i:Int)∧(i:Int) < (zaa.len:Int) by omega),decide_eq_true (show (v.len+1) * 8≤140737488355328∧v.len+1≤9223372036854775807 by omega)]
      cases s72 l (zaa.get i) <;> rfl)
    (fun k v=>by
      show zhP l zaa (zhR l zaa k) (zaa.len:Int) v=_
      unfold zhP
      rw [decide_eq_false (show ¬ (zaa.len:Int) < (zaa.len:Int) by omega),cond_false])
    (fun i v _ _ h=>zsI l zaa i v h) (Nat.zero_le _) (by omega) (⟨0,fun _=>default⟩:Sl Int) (Nat.le_refl _)
  exact this
end Go.Proofs
