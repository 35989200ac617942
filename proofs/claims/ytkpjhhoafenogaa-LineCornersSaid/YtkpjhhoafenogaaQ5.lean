/- Part 5 of what the proof rests on: a machine that runs functions of the program on pure values, proved sound; the functions that the law reaches, and what they compute. -/
import Derived.Test.YtkpjhhoafenogaaQ4
set_option linter.all false
namespace Go.Proofs
open Go Go.Pm
set_option maxRecDepth 100000
set_option linter.unusedVariables false
attribute [local irreducible] Go.Pm.vcFun Go.Pm.vc Go.Pm.vcIter
abbrev T38:Tabs:=((Tabs.nil.addF 64 zsA).addF 84 zEy)
theorem zLz:TabsOk Try.prog T38:=((TabsOk.nil.addF zKg).addF zOn)
abbrev G38:Ctrs:=csm T38 (fun _ _=>[]) (fun _=>false)
def zEz:Ann:=⟨66,[(0,zK [0] []),(1,zK [0,12] []),(2,zK [2,3] []),(3,zK [0,4] []),(4,zK [0,4,15,16] []),(5,zK [0,4,15,16,17] []),(6,zK [0,4,5,15,16] []),(7,zK [0,4,5,6,15,16] []),(8,zK [0,4,5,6,15,16,23] []),(9,zK [0,4,5,6,15,16] []),(10,zK [0,4,5,6,15,16,31] []),(11,zK [2,3] [34]),(12,zK [0,4,15,16] []),(13,zK [0,4,36,37] []),(14,zK [0,4,36,37,38] []),(15,zK [0,4,7,36,37] []),(16,zK [0,4,7,8,36,37] []),(17,zK [0,4,7,8,36,37,44] []),(18,zK [0,4,7,8,36,37] []),(19,zK [0,4,7,8,9,36,37] []),(20,zK [0,4,7,8,9,36,37,51] []),(21,zK [0,4,7,8,9,36,37] []),(22,zK [0,4,7,8,9,36,37,60] []),(23,zK [2,3] [64]),(24,zK [0,4,36,37] []),(25,zK [2,3] [])],
 [(5,zK [0,4,15,16] []),(8,zK [0,4,5,6,15,16] []),(14,zK [0,4,36,37] []),(17,zK [0,4,7,8,36,37] []),(20,zK [0,4,7,8,9,36,37] [])],
 [(2,zK [0,12] []),(3,zK [0] []),(13,zK [0,4] []),(11,zK [0,4,5,6,15,16,31] []),(23,zK [0,4,7,8,9,36,37,60] [])],
 [],[]⟩
abbrev R38:=((Sl Int)×Int)
abbrev e38 (r:R38):List PA:=[.one (.sl r.1.len 1 (fun i=>zal (r.1.get i))),.one (.int .i64 r.2)]
@[irreducible] def z38:=ptF Try.prog G38 zEz Try.f38
def zBY (zaa:(Sl Gate)) (zdn:Int):St:=⟨[(0,zS enc_55 3 zaa),(4,zI (zaa.len:Int)),(15,zI (zaa.len:Int)),(16,zI zdn)],[],[]⟩
abbrev zAz (K:List PA→Prop) (zaa:(Sl Gate)) (X:St→Prop) (P:Int→Bool) (S:Int→((Sl Int)×Int)):Prop:=∀ ⦃zdn:Int⦄,P zdn=true→K (e38 (S zdn))→X (zBY zaa zdn)
def zBZ (zaa:(Sl Gate)) (iv3:Int) (jv3:Int) (zd9:Int):St:=⟨[(0,zS enc_55 3 zaa),(4,zI (zaa.len:Int)),(5,zI iv3),(6,zI jv3),(15,zI (zaa.len:Int)),(16,zI zd9)],[],[]⟩
abbrev zEA (K:List PA→Prop) (zaa:(Sl Gate)) (X:St→Prop) (P:Int→Int→Int→Bool) (S:Int→Int→Int→((Sl Int)×Int)):Prop:=∀ ⦃iv3:Int⦄ ⦃jv3:Int⦄ ⦃zd9:Int⦄,P iv3 jv3 zd9=true→K (e38 (S iv3 jv3 zd9))→X (zBZ zaa iv3 jv3 zd9)
def zB0 (zaa:(Sl Gate)) (zdo:Int):St:=⟨[(0,zS enc_55 3 zaa),(4,zI (zaa.len:Int)),(36,zI (zaa.len:Int)),(37,zI zdo)],[],[]⟩
abbrev zvQ (K:List PA→Prop) (zaa:(Sl Gate)) (X:St→Prop) (P:Int→Bool) (S:Int→((Sl Int)×Int)):Prop:=∀ ⦃zdo:Int⦄,P zdo=true→K (e38 (S zdo))→X (zB0 zaa zdo)
def zB1 (zaa:(Sl Gate)) (iv7:Int) (jv7:Int) (zea:Int):St:=⟨[(0,zS enc_55 3 zaa),(4,zI (zaa.len:Int)),(7,zI iv7),(8,zI jv7),(36,zI (zaa.len:Int)),(37,zI zea)],[],[]⟩
abbrev zAA (K:List PA→Prop) (zaa:(Sl Gate)) (X:St→Prop) (P:Int→Int→Int→Bool) (S:Int→Int→Int→((Sl Int)×Int)):Prop:=∀ ⦃iv7:Int⦄ ⦃jv7:Int⦄ ⦃zea:Int⦄,P iv7 jv7 zea=true→K (e38 (S iv7 jv7 zea))→X (zB1 zaa iv7 jv7 zea)
def zB2 (zaa:(Sl Gate)) (iv8:Int) (jv8:Int) (kv8:Int) (zeb:Int):St:=⟨[(0,zS enc_55 3 zaa),(4,zI (zaa.len:Int)),(7,zI iv8),(8,zI jv8),(9,zI kv8),(36,zI (zaa.len:Int)),(37,zI zeb)],[],[]⟩
abbrev zEB (K:List PA→Prop) (zaa:(Sl Gate)) (X:St→Prop) (P:Int→Int→Int→Int→Bool) (S:Int→Int→Int→Int→((Sl Int)×Int)):Prop:=∀ ⦃iv8:Int⦄ ⦃jv8:Int⦄ ⦃kv8:Int⦄ ⦃zeb:Int⦄,P iv8 jv8 kv8 zeb=true→K (e38 (S iv8 jv8 kv8 zeb))→X (zB2 zaa iv8 jv8 kv8 zeb)
section
variable {K:List PA→Prop} {zaa:(Sl Gate)} {zaJ:Bool} {zdn:Int} {X2:St→Prop} {P2:Int→Bool} {S2:Int→((Sl Int)×Int)} {iv3:Int} {jv3:Int} {zd9:Int} {X3:St→Prop} {P3:Int→Int→Int→Bool} {S3:Int→Int→Int→((Sl Int)×Int)} {iv5:Int} {jv5:Int} {zpw:Int} {zpx:Bool} {zdo:Int} {X6:St→Prop} {P6:Int→Bool} {S6:Int→((Sl Int)×Int)} {iv7:Int} {jv7:Int} {zea:Int} {X7:St→Prop} {P7:Int→Int→Int→Bool} {S7:Int→Int→Int→((Sl Int)×Int)} {iv8:Int} {jv8:Int} {kv8:Int} {zeb:Int} {X8:St→Prop} {P8:Int→Int→Int→Int→Bool} {S8:Int→Int→Int→Int→((Sl Int)×Int)} {iv9:Int} {jv9:Int} {kv9:Int} {zpy:Int} {zpz:Bool}
def zvR (S6:Int→((Sl Int)×Int)) (S7:Int→Int→Int→((Sl Int)×Int)) (S8:Int→Int→Int→Int→((Sl Int)×Int)) (zaa:(Sl Gate)) (iv9:Int) (jv9:Int) (kv9:Int) (zpy:Int) (zpz:Bool):((Sl Int)×Int) :=
  (cond zpz
 ((⟨3,(ziZ iv9 [iv9,jv9,kv9])⟩:(Sl Int)),(0:Int))
 (S8 iv9 jv9 (w64 (kv9+(1:Int))) zpy))
def zvS (P6:Int→Bool) (P7:Int→Int→Int→Bool) (P8:Int→Int→Int→Int→Bool) (zaa:(Sl Gate)) (iv9:Int) (jv9:Int) (kv9:Int) (zpy:Int) (zpz:Bool):Bool :=
  (cond zpz
 true
 (P8 iv9 jv9 (w64 (kv9+(1:Int))) zpy))
theorem zEC (hX6:zvQ K zaa X6 P6 S6) (hX7:zAA K zaa X7 P7 S7) (hX8:zEB K zaa X8 P8 S8) (hs:zvS P6 P7 P8 zaa iv9 jv9 kv9 zpy zpz=true) (hk:K (e38 (zvR S6 S7 S8 zaa iv9 jv9 kv9 zpy zpz))):z38 (Wk K) [1,1,1,1,0,1,0,0,1,1,0,0,1,1,0,0,1,0,0,1,0,0,1,0,0,1] [X6,X7,X8] ⟨[(0,zS enc_55 3 zaa),(4,zI (zaa.len:Int)),(7,zI iv9),(8,zI jv9),(9,zI kv9),(36,zI (zaa.len:Int)),(37,zI zpy),(60,zB zpz)],[],[]⟩:=zay (by kernel_rfl) (zc hs hk (fun hs hk=>((zd4 (Eq.mpr (congrArg K (congrArg (fun (g_:Nat→List PV)=>([.one (.sl 3 1 g_),.one (.int .i64 (0:Int))]:List PA)) (zep (enc:=zal) (x:=iv9) (y:=jv9) (r:=[kv9])))) hk)):Wk K [.one (.sl 3 1 (zdf [(zal iv9),(zal jv9),(zal kv9)])),.one (.int .i64 (0:Int))])) (fun hs hk=>(hX8 hs hk)))
def zvT (S6:Int→((Sl Int)×Int)) (S7:Int→Int→Int→((Sl Int)×Int)) (zaa:(Sl Gate)) (S8:Int→Int→Int→Int→((Sl Int)×Int)) (iv8:Int) (jv8:Int) (kv8:Int) (zeb:Int):((Sl Int)×Int) :=
  (cond (decide (kv8 < (zaa.len : Int)))
 (zvR S6 S7 S8 zaa iv8 jv8 kv8 zeb (!(s84 zaa (⟨3,zcQ (zdf [(zal iv8),(zal jv8),(zal kv8)])⟩:(Sl Int)))))
 (S7 iv8 (w64 (jv8+(1:Int))) zeb))
def zvU (P6:Int→Bool) (P7:Int→Int→Int→Bool) (zaa:(Sl Gate)) (P8:Int→Int→Int→Int→Bool) (iv8:Int) (jv8:Int) (kv8:Int) (zeb:Int):Bool :=
  (cond (decide (kv8 < (zaa.len : Int)))
 (decide ((p84 zaa (⟨3,zcQ (zdf [(zal iv8),(zal jv8),(zal kv8)])⟩:(Sl Int))=true)) &&
 (zvS P6 P7 P8 zaa iv8 jv8 kv8 zeb (!(s84 zaa (⟨3,zcQ (zdf [(zal iv8),(zal jv8),(zal kv8)])⟩:(Sl Int))))))
 (P7 iv8 (w64 (jv8+(1:Int))) zeb))
def zvV (S6:Int→((Sl Int)×Int)) (S7:Int→Int→Int→((Sl Int)×Int)) (zaa:(Sl Gate)):Nat→Int→Int→Int→Int→((Sl Int)×Int):=lpO (fun _ _ _ _=>default) (zvT S6 S7 zaa)
def zvW (P6:Int→Bool) (P7:Int→Int→Int→Bool) (zaa:(Sl Gate)):Nat→Int→Int→Int→Int→Bool:=lpO (fun _ _ _ _=>false) (zvU P6 P7 zaa)
def zvX (S6:Int→((Sl Int)×Int)) (S7:Int→Int→Int→((Sl Int)×Int)) (zaa:(Sl Gate)) (iv8:Int) (jv8:Int) (kv8:Int) (zeb:Int):((Sl Int)×Int):=zvV S6 S7 zaa Fuel iv8 jv8 kv8 zeb
def zvY (P6:Int→Bool) (P7:Int→Int→Int→Bool) (zaa:(Sl Gate)) (iv8:Int) (jv8:Int) (kv8:Int) (zeb:Int):Bool:=zvW P6 P7 zaa Fuel iv8 jv8 kv8 zeb
theorem zED (hX6:zvQ K zaa X6 P6 S6) (hX7:zAA K zaa X7 P7 S7) (hs:zvY P6 P7 zaa iv8 jv8 kv8 zeb=true) (hk:K (e38 (zvX S6 S7 zaa iv8 jv8 kv8 zeb))):z38 (Wk K) [1,1,1,1,0,1,0,0,1,1,0,0,1,1,0,0,1,0,0,1,0] [X6,X7] (zB2 zaa iv8 jv8 kv8 zeb) :=
  zl (fun X=>z38 (Wk K) [1,1,1,1,0,1,0,0,1,1,0,0,1,1,0,0,1,0,0,1,0,0] [X6,X7,X]) (by kernel_rfl) fun X8 hX =>
  (show ∀ k, zEB K zaa X8 (zvW P6 P7 zaa k) (zvV S6 S7 zaa k) from zeK _ _ (zvU P6 P7 zaa) (zvT S6 S7 zaa) (zEB K zaa X8)
 (by intro _ _ _ _ hs;exact absurd hs Bool.false_ne_true)
 (by intro P8 S8 hX8 iv8 jv8 kv8 zeb hs hk;exact hX _ (zay (by kernel_rfl) (zc hs hk (fun hs hk=>(zav hs fun hc hs=>And.intro (And.intro (zE enc_55 3 zaa.get) (And.intro ((zfu [kv8]):IsE zal 1 1 (zdf [(zal iv8),(zal jv8),(zal kv8)])) hc)) (zEC hX6 hX7 hX8 hs hk))) (fun hs hk=>(hX7 hs hk)))))) _ hs hk
def zvZ (S6:Int→((Sl Int)×Int)) (zaa:(Sl Gate)) (S7:Int→Int→Int→((Sl Int)×Int)) (iv7:Int) (jv7:Int) (zea:Int):((Sl Int)×Int) :=
  (cond (decide (jv7 < (zaa.len : Int)))
 (zvX S6 S7 zaa iv7 jv7 (w64 (jv7+(1:Int))) zea)
 (S6 (w64 (zea+(1:Int)))))
def zv1 (P6:Int→Bool) (zaa:(Sl Gate)) (P7:Int→Int→Int→Bool) (iv7:Int) (jv7:Int) (zea:Int):Bool :=
  (cond (decide (jv7 < (zaa.len : Int)))
 (zvY P6 P7 zaa iv7 jv7 (w64 (jv7+(1:Int))) zea)
 (P6 (w64 (zea+(1:Int)))))
def zv2 (S6:Int→((Sl Int)×Int)) (zaa:(Sl Gate)):Nat→Int→Int→Int→((Sl Int)×Int):=lpO (fun _ _ _=>default) (zvZ S6 zaa)
def zv4 (P6:Int→Bool) (zaa:(Sl Gate)):Nat→Int→Int→Int→Bool:=lpO (fun _ _ _=>false) (zv1 P6 zaa)
def zv5 (S6:Int→((Sl Int)×Int)) (zaa:(Sl Gate)) (iv7:Int) (jv7:Int) (zea:Int):((Sl Int)×Int):=zv2 S6 zaa Fuel iv7 jv7 zea
def zv6 (P6:Int→Bool) (zaa:(Sl Gate)) (iv7:Int) (jv7:Int) (zea:Int):Bool:=zv4 P6 zaa Fuel iv7 jv7 zea
theorem zEE (hX6:zvQ K zaa X6 P6 S6) (hs:zv6 P6 zaa iv7 jv7 zea=true) (hk:K (e38 (zv5 S6 zaa iv7 jv7 zea))):z38 (Wk K) [1,1,1,1,0,1,0,0,1,1,0,0,1,1,0] [X6] (zB1 zaa iv7 jv7 zea) :=
  zl (fun X=>z38 (Wk K) [1,1,1,1,0,1,0,0,1,1,0,0,1,1,0,0] [X6,X]) (by kernel_rfl) fun X7 hX =>
  (show ∀ k, zAA K zaa X7 (zv4 P6 zaa k) (zv2 S6 zaa k) from zeK _ _ (zv1 P6 zaa) (zvZ S6 zaa) (zAA K zaa X7)
 (by intro _ _ _ hs;exact absurd hs Bool.false_ne_true)
 (by intro P7 S7 hX7 iv7 jv7 zea hs hk;exact hX _ (zay (by kernel_rfl) (zc hs hk (fun hs hk=>(zED hX6 hX7 hs hk)) (fun hs hk=>(hX6 hs hk)))))) _ hs hk
def zv7 (zaa:(Sl Gate)) (S6:Int→((Sl Int)×Int)) (zdo:Int):((Sl Int)×Int) :=
  (cond (decide (zdo < (zaa.len : Int)))
 (zv5 S6 zaa zdo (w64 (zdo+(1:Int))) zdo)
 ((⟨0,fun _=>default⟩:(Sl Int)),(7:Int)))
def zv8 (zaa:(Sl Gate)) (P6:Int→Bool) (zdo:Int):Bool :=
  (cond (decide (zdo < (zaa.len : Int)))
 (zv6 P6 zaa zdo (w64 (zdo+(1:Int))) zdo)
 true)
def zv9 (zaa:(Sl Gate)):Nat→Int→((Sl Int)×Int):=lpO (fun _=>default) (zv7 zaa)
def zwa (zaa:(Sl Gate)):Nat→Int→Bool:=lpO (fun _=>false) (zv8 zaa)
def zwb (zaa:(Sl Gate)) (zdo:Int):((Sl Int)×Int):=zv9 zaa Fuel zdo
def zwc (zaa:(Sl Gate)) (zdo:Int):Bool:=zwa zaa Fuel zdo
theorem zEF (hs:zwc zaa zdo=true) (hk:K (e38 (zwb zaa zdo))):z38 (Wk K) [1,1,1,1,0,1,0] [] (zB0 zaa zdo) :=
  zl (fun X=>z38 (Wk K) [1,1,1,1,0,1,0,0] [X]) (by kernel_rfl) fun X6 hX =>
  (show ∀ k, zvQ K zaa X6 (zwa zaa k) (zv9 zaa k) from zeK _ _ (zv8 zaa) (zv7 zaa) (zvQ K zaa X6)
 (by intro _ hs;exact absurd hs Bool.false_ne_true)
 (by intro P6 S6 hX6 zdo hs hk;exact hX _ (zay (by kernel_rfl) (zc hs hk (fun hs hk=>(zEE hX6 hs hk)) (fun hs hk=>((wk hk (zc4 (.one (.nil _ _)) (zc4 (.one (.rfl _)) zhk))):Wk K [.one (.nils),.one (.int .i64 (7:Int))])))))) _ hs hk
def zwd (S2:Int→((Sl Int)×Int)) (S3:Int→Int→Int→((Sl Int)×Int)) (zaa:(Sl Gate)) (iv5:Int) (jv5:Int) (zpw:Int) (zpx:Bool):((Sl Int)×Int) :=
  (cond zpx
 ((⟨2,(ziZ iv5 [iv5,jv5])⟩:(Sl Int)),(0:Int))
 (S3 iv5 (w64 (jv5+(1:Int))) zpw))
def zwe (P2:Int→Bool) (P3:Int→Int→Int→Bool) (zaa:(Sl Gate)) (iv5:Int) (jv5:Int) (zpw:Int) (zpx:Bool):Bool :=
  (cond zpx
 true
 (P3 iv5 (w64 (jv5+(1:Int))) zpw))
theorem zEG (hX2:zAz K zaa X2 P2 S2) (hX3:zEA K zaa X3 P3 S3) (hs:zwe P2 P3 zaa iv5 jv5 zpw zpx=true) (hk:K (e38 (zwd S2 S3 zaa iv5 jv5 zpw zpx))):z38 (Wk K) [1,1,1,0,1,0,0,1,1,0,0,1,1,0,0,1,0,0,1] [X2,X3] ⟨[(0,zS enc_55 3 zaa),(4,zI (zaa.len:Int)),(5,zI iv5),(6,zI jv5),(15,zI (zaa.len:Int)),(16,zI zpw),(31,zB zpx)],[],[]⟩:=zay (by kernel_rfl) (zc hs hk (fun hs hk=>((zd4 (Eq.mpr (congrArg K (congrArg (fun (g_:Nat→List PV)=>([.one (.sl 2 1 g_),.one (.int .i64 (0:Int))]:List PA)) (zep (enc:=zal) (x:=iv5) (y:=jv5) (r:=[])))) hk)):Wk K [.one (.sl 2 1 (zdf [(zal iv5),(zal jv5)])),.one (.int .i64 (0:Int))])) (fun hs hk=>(hX3 hs hk)))
def zwf (zaa:(Sl Gate)):((Sl Int)×Int) :=
  (zwb zaa (0:Int))
def zwg (zaa:(Sl Gate)):Bool :=
  (zwc zaa (0:Int))
theorem zEH (hs:zwg zaa=true) (hk:K (e38 (zwf zaa))):z38 (Wk K) [1,1,1,1] [] ⟨[(0,zS enc_55 3 zaa),(4,zI (zaa.len:Int))],[],[]⟩:=zay (by kernel_rfl) (zEF hs hk)
def zwh (S2:Int→((Sl Int)×Int)) (zaa:(Sl Gate)) (S3:Int→Int→Int→((Sl Int)×Int)) (iv3:Int) (jv3:Int) (zd9:Int):((Sl Int)×Int) :=
  (cond (decide (jv3 < (zaa.len : Int)))
 (zwd S2 S3 zaa iv3 jv3 zd9 (!(s84 zaa (⟨2,zcQ (zdf [(zal iv3),(zal jv3)])⟩:(Sl Int)))))
 (S2 (w64 (zd9+(1:Int)))))
def zwi (P2:Int→Bool) (zaa:(Sl Gate)) (P3:Int→Int→Int→Bool) (iv3:Int) (jv3:Int) (zd9:Int):Bool :=
  (cond (decide (jv3 < (zaa.len : Int)))
 (decide ((p84 zaa (⟨2,zcQ (zdf [(zal iv3),(zal jv3)])⟩:(Sl Int))=true)) &&
 (zwe P2 P3 zaa iv3 jv3 zd9 (!(s84 zaa (⟨2,zcQ (zdf [(zal iv3),(zal jv3)])⟩:(Sl Int))))))
 (P2 (w64 (zd9+(1:Int)))))
def zwj (S2:Int→((Sl Int)×Int)) (zaa:(Sl Gate)):Nat→Int→Int→Int→((Sl Int)×Int):=lpO (fun _ _ _=>default) (zwh S2 zaa)
def zwk (P2:Int→Bool) (zaa:(Sl Gate)):Nat→Int→Int→Int→Bool:=lpO (fun _ _ _=>false) (zwi P2 zaa)
def zwl (S2:Int→((Sl Int)×Int)) (zaa:(Sl Gate)) (iv3:Int) (jv3:Int) (zd9:Int):((Sl Int)×Int):=zwj S2 zaa Fuel iv3 jv3 zd9
def zwm (P2:Int→Bool) (zaa:(Sl Gate)) (iv3:Int) (jv3:Int) (zd9:Int):Bool:=zwk P2 zaa Fuel iv3 jv3 zd9
theorem zEI (hX2:zAz K zaa X2 P2 S2) (hs:zwm P2 zaa iv3 jv3 zd9=true) (hk:K (e38 (zwl S2 zaa iv3 jv3 zd9))):z38 (Wk K) [1,1,1,0,1,0,0,1,1,0,0,1,1,0] [X2] (zBZ zaa iv3 jv3 zd9) :=
  zl (fun X=>z38 (Wk K) [1,1,1,0,1,0,0,1,1,0,0,1,1,0,0] [X2,X]) (by kernel_rfl) fun X3 hX =>
  (show ∀ k, zEA K zaa X3 (zwk P2 zaa k) (zwj S2 zaa k) from zeK _ _ (zwi P2 zaa) (zwh S2 zaa) (zEA K zaa X3)
 (by intro _ _ _ hs;exact absurd hs Bool.false_ne_true)
 (by intro P3 S3 hX3 iv3 jv3 zd9 hs hk;exact hX _ (zay (by kernel_rfl) (zc hs hk (fun hs hk=>(zav hs fun hc hs=>And.intro (And.intro (zE enc_55 3 zaa.get) (And.intro ((zfu []):IsE zal 1 1 (zdf [(zal iv3),(zal jv3)])) hc)) (zEG hX2 hX3 hs hk))) (fun hs hk=>(hX2 hs hk)))))) _ hs hk
def zwn (zaa:(Sl Gate)) (S2:Int→((Sl Int)×Int)) (zdn:Int):((Sl Int)×Int) :=
  (cond (decide (zdn < (zaa.len : Int)))
 (zwl S2 zaa zdn (w64 (zdn+(1:Int))) zdn)
 (zwf zaa))
def zwo (zaa:(Sl Gate)) (P2:Int→Bool) (zdn:Int):Bool :=
  (cond (decide (zdn < (zaa.len : Int)))
 (zwm P2 zaa zdn (w64 (zdn+(1:Int))) zdn)
 (zwg zaa))
def zwp (zaa:(Sl Gate)):Nat→Int→((Sl Int)×Int):=lpO (fun _=>default) (zwn zaa)
def zwq (zaa:(Sl Gate)):Nat→Int→Bool:=lpO (fun _=>false) (zwo zaa)
def zwr (zaa:(Sl Gate)) (zdn:Int):((Sl Int)×Int):=zwp zaa Fuel zdn
def zwt (zaa:(Sl Gate)) (zdn:Int):Bool:=zwq zaa Fuel zdn
theorem zEJ (hs:zwt zaa zdn=true) (hk:K (e38 (zwr zaa zdn))):z38 (Wk K) [1,1,1,0,1,0] [] (zBY zaa zdn) :=
  zl (fun X=>z38 (Wk K) [1,1,1,0,1,0,0] [X]) (by kernel_rfl) fun X2 hX =>
  (show ∀ k, zAz K zaa X2 (zwq zaa k) (zwp zaa k) from zeK _ _ (zwo zaa) (zwn zaa) (zAz K zaa X2)
 (by intro _ hs;exact absurd hs Bool.false_ne_true)
 (by intro P2 S2 hX2 zdn hs hk;exact hX _ (zay (by kernel_rfl) (zc hs hk (fun hs hk=>(zEI hX2 hs hk)) (fun hs hk=>(zEH hs hk)))))) _ hs hk
def zwu (zaa:(Sl Gate)):((Sl Int)×Int) :=
  (zwr zaa (0:Int))
def zwv (zaa:(Sl Gate)):Bool :=
  (zwt zaa (0:Int))
theorem zEK (hs:zwv zaa=true) (hk:K (e38 (zwu zaa))):z38 (Wk K) [1,1] [] ⟨[(0,zS enc_55 3 zaa)],[],[]⟩:=zay (by kernel_rfl) (zEJ hs hk)
def zww (zaa:(Sl Gate)) (zaJ:Bool):((Sl Int)×Int) :=
  (cond zaJ
 ((⟨0,fun _=>default⟩:(Sl Int)),(2:Int))
 (zwu zaa))
def zwx (zaa:(Sl Gate)) (zaJ:Bool):Bool :=
  (cond zaJ
 true
 (zwv zaa))
theorem zEL (hs:zwx zaa zaJ=true) (hk:K (e38 (zww zaa zaJ))):z38 (Wk K) [1,0,1] [] ⟨[(0,zS enc_55 3 zaa),(12,zB zaJ)],[],[]⟩:=zay (by kernel_rfl) (zc hs hk (fun hs hk=>((wk hk (zc4 (.one (.nil _ _)) (zc4 (.one (.rfl _)) zhk))):Wk K [.one (.nils),.one (.int .i64 (2:Int))])) (fun hs hk=>(zEK hs hk)))
def s38 (zaa:(Sl Gate)):((Sl Int)×Int) :=
  (zww zaa (!(s64 zaa)))
def p38 (zaa:(Sl Gate)):Bool :=
  (decide ((p64 zaa=true)) &&
 (zwx zaa (!(s64 zaa))))
end
theorem q38 (zaa:(Sl Gate)) (K:List PA→Prop) (hs:p38 zaa=true) (hk:K (e38 (s38 zaa))):vcFun Try.prog G38 zEz 38 [.one (.sl zaa.len 3 (fun i=>enc_55 (zaa.get i)))] (Wk K) :=
  zay (by kernel_rfl) (zav hs fun hc hs=>And.intro (And.intro (zE enc_55 3 zaa.get) hc) (zEL hs hk))
def zEM : List PA → COut
  | [.one (.sl a0_n a0_s a0_g)]=>.det (IsE enc_55 3 a0_s a0_g∧p38 (⟨a0_n,zad a0_g⟩:(Sl Gate))=true) [.one (.sl (((s38 (⟨a0_n,zad a0_g⟩:(Sl Gate))).1).len) 1 (fun i=>zal (((s38 (⟨a0_n,zad a0_g⟩:(Sl Gate))).1).get i))),.one (.int .i64 ((s38 (⟨a0_n,zad a0_g⟩:(Sl Gate))).2))]
  | _=>.no
theorem zID:zaf Try.prog 38:=⟨_,rfl,rfl,by kernel_rfl⟩
theorem zOo:Ok Try.prog 38 zEM:=zhl zLz zID fun args K h=>by
  unfold zEM at h
  split at h
  · rename_i a0_n a0_s a0_g
    obtain ⟨⟨⟨rfl,a0_f,rfl⟩,hs⟩,hk⟩:=h
    try rw [zac a0_f] at hs
    try rw [zac a0_f] at hk
    exact ⟨_,zeS zfS _,(fun _ _=>[]),(fun _=>false),zEz,q38 (⟨a0_n,a0_f⟩:(Sl Gate)) K hs hk⟩
  · exact h.elim
abbrev T39:Tabs:=Tabs.nil
theorem zLA:TabsOk Try.prog T39:=TabsOk.nil
abbrev G39:Ctrs:=csm T39 (fun _ _=>[]) (fun _=>false)
def zEN:Ann:=⟨46,[(0,zK [0,1] []),(1,zK [0,1,5] []),(2,zK [0,1,5,15] []),(3,zK [0,1,5] []),(4,zK [0,1,5,26] []),(5,zK [4] []),(6,zK [0,1,5,35] []),(7,zK [4] []),(8,zK [0,1,40] []),(9,zK [4] []),(10,zK [45] []),(11,zK [4] []),(12,zK [4] [])],
 [(2,zK [0,1,5] [])],
 [(8,zK [0,1] [])],
 [],[]⟩
abbrev R39:=Int
abbrev e39 (r:R39):List PA:=[.one (.int .i64 r)]
@[irreducible] def z39:=ptF Try.prog G39 zEN Try.f39
def zB3 (a:(Sl Int)) (b:(Sl Int)) (iv0:Int):St:=⟨[(0,zS zal 1 a),(1,zS zal 1 b),(5,zI iv0)],[],[]⟩
abbrev zIE (K:List PA→Prop) (a:(Sl Int)) (b:(Sl Int)) (X:St→Prop) (P:Int→Bool) (S:Int→Int):Prop:=∀ ⦃iv0:Int⦄,P iv0=true→K (e39 (S iv0))→X (zB3 a b iv0)
section
variable {K:List PA→Prop} {a:(Sl Int)} {b:(Sl Int)} {iv0:Int} {X0:St→Prop} {P0:Int→Bool} {S0:Int→Int}
def zpA (a:(Sl Int)) (b:(Sl Int)):Int :=
  (cond (decide ((a.len : Int) < (b.len : Int)))
 (-1:Int)
 (cond (decide ((a.len : Int) > (b.len : Int)))
 (1:Int)
 (0:Int)))
theorem zwy (hk:K (e39 (zpA a b))):z39 K [1,1] [] ⟨[(0,zS zal 1 a),(1,zS zal 1 b)],[],[]⟩:=zay (by kernel_rfl) (zt hk (fun hk=>hk) (fun hk=>(zt hk (fun hk=>hk) (fun hk=>hk))))
def zwz (a:(Sl Int)) (b:(Sl Int)) (S0:Int→Int) (iv0:Int):Int :=
  (cond (decide (iv0 < (a.len : Int)))
 (cond (decide (iv0 < (b.len : Int)))
 (cond (decide ((a.get iv0.toNat) < (b.get iv0.toNat)))
 (-1:Int)
 (cond (decide ((a.get iv0.toNat) > (b.get iv0.toNat)))
 (1:Int)
 (S0 (w64 (iv0+(1:Int))))))
 (zpA a b))
 (zpA a b))
def zwA (a:(Sl Int)) (b:(Sl Int)) (P0:Int→Bool) (iv0:Int):Bool :=
  (cond (decide (iv0 < (a.len : Int)))
 (cond (decide (iv0 < (b.len : Int)))
 (decide ((0≤iv0∧iv0 < (a.len:Int))) &&
 (decide ((0≤iv0∧iv0 < (b.len:Int))) &&
 (cond (decide ((a.get iv0.toNat) < (b.get iv0.toNat)))
 true
 (decide ((0≤iv0∧iv0 < (a.len:Int))) &&
 (decide ((0≤iv0∧iv0 < (b.len:Int))) &&
 (cond (decide ((a.get iv0.toNat) > (b.get iv0.toNat)))
 true
 (P0 (w64 (iv0+(1:Int))))))))))
 true)
 true)
def zwB (a:(Sl Int)) (b:(Sl Int)):Nat→Int→Int:=lpO (fun _=>default) (zwz a b)
def zwC (a:(Sl Int)) (b:(Sl Int)):Nat→Int→Bool:=lpO (fun _=>false) (zwA a b)
def zwD (a:(Sl Int)) (b:(Sl Int)) (iv0:Int):Int:=zwB a b Fuel iv0
def zwE (a:(Sl Int)) (b:(Sl Int)) (iv0:Int):Bool:=zwC a b Fuel iv0
theorem zEO (hs:zwE a b iv0=true) (hk:K (e39 (zwD a b iv0))):z39 K [1,0,1,0] [] (zB3 a b iv0) :=
  zl (fun X=>z39 K [1,0,1,0,0] [X]) (by kernel_rfl) fun X0 hX =>
  (show ∀ k, zIE K a b X0 (zwC a b k) (zwB a b k) from zeK _ _ (zwA a b) (zwz a b) (zIE K a b X0)
 (by intro _ hs;exact absurd hs Bool.false_ne_true)
 (by intro P0 S0 hX0 iv0 hs hk;exact hX _ (zay (by kernel_rfl) (zc hs hk (fun hs hk=>(zc hs hk (fun hs hk=>(zav hs fun hc hs=>And.intro hc (zav hs fun hc hs=>And.intro hc (zc hs hk (fun hs hk=>hk) (fun hs hk=>(zav hs fun hc hs=>And.intro hc (zav hs fun hc hs=>And.intro hc (zc hs hk (fun hs hk=>hk) (fun hs hk=>(hX0 hs hk)))))))))) (fun hs hk=>(zwy hk)))) (fun hs hk=>(zwy hk)))))) _ hs hk
def s39 (a:(Sl Int)) (b:(Sl Int)):Int :=
  (zwD a b (0:Int))
def p39 (a:(Sl Int)) (b:(Sl Int)):Bool :=
  (zwE a b (0:Int))
end
theorem q39 (a:(Sl Int)) (b:(Sl Int)) (K:List PA→Prop) (hs:p39 a b=true) (hk:K (e39 (s39 a b))):vcFun Try.prog G39 zEN 39 [.one (.sl a.len 1 (fun i=>zal (a.get i))),.one (.sl b.len 1 (fun i=>zal (b.get i)))] K :=
  zay (by kernel_rfl) (zEO hs hk)
def zEP : List PA → COut
  | [.one (.sl a0_n a0_s a0_g),.one (.sl a1_n a1_s a1_g)]=>.det (IsE zal 1 a0_s a0_g∧IsE zal 1 a1_s a1_g∧p39 (⟨a0_n,zcQ a0_g⟩:(Sl Int)) (⟨a1_n,zcQ a1_g⟩:(Sl Int))=true) [.one (.int .i64 (s39 (⟨a0_n,zcQ a0_g⟩:(Sl Int)) (⟨a1_n,zcQ a1_g⟩:(Sl Int))))]
  | _=>.no
theorem zIF:zaf Try.prog 39:=⟨_,rfl,rfl,by kernel_rfl⟩
theorem zOp:Ok Try.prog 39 zEP:=zaz zLA zIF fun args K h=>by
  unfold zEP at h
  split at h
  · rename_i a0_n a0_s a0_g a1_n a1_s a1_g
    obtain ⟨⟨⟨rfl,a0_f,rfl⟩,⟨rfl,a1_f,rfl⟩,hs⟩,hk⟩:=h
    try rw [zdr a0_f] at hs
    try rw [zdr a0_f] at hk
    try rw [zdr a1_f] at hs
    try rw [zdr a1_f] at hk
    exact ⟨(fun _ _=>[]),(fun _=>false),zEN,q39 (⟨a0_n,a0_f⟩:(Sl Int)) (⟨a1_n,a1_f⟩:(Sl Int)) K hs hk⟩
  · exact h.elim
abbrev T73:Tabs:=Tabs.nil
theorem zLB:TabsOk Try.prog T73:=TabsOk.nil
abbrev G73:Ctrs:=csm T73 (fun _ _=>[]) (fun _=>false)
def zEQ:Ann:=⟨12,[(0,zK [0,1] []),(1,zK [0,1,6] []),(2,zK [0,1] []),(3,zK [4] [])],
 [(1,zK [0,1] [])],
 [],
 [],[]⟩
abbrev R73:=Int
abbrev e73 (r:R73):List PA:=[.one (.int .i64 r)]
@[irreducible] def z73:=ptF Try.prog G73 zEQ Try.f73
def zB4 (av0:Int) (bv0:Int):St:=⟨[(0,zI av0),(1,zI bv0)],[],[]⟩
abbrev zIG (K:List PA→Prop) (X:St→Prop) (P:Int→Int→Bool) (S:Int→Int→Int):Prop:=∀ ⦃av0:Int⦄ ⦃bv0:Int⦄,P av0 bv0=true→K (e73 (S av0 bv0))→X (zB4 av0 bv0)
section
variable {K:List PA→Prop} {a:Int} {b:Int} {av0:Int} {bv0:Int} {X0:St→Prop} {P0:Int→Int→Bool} {S0:Int→Int→Int}
def zmp (S0:Int→Int→Int) (av0:Int) (bv0:Int):Int :=
  (cond (bv0 != (0:Int))
 (S0 bv0 (av0.tmod bv0))
 av0)
def zmq (P0:Int→Int→Bool) (av0:Int) (bv0:Int):Bool :=
  (cond (bv0 != (0:Int))
 (decide ((bv0 ≠ 0)) &&
 (P0 bv0 (av0.tmod bv0)))
 true)
def zmr:Nat→Int→Int→Int:=lpO (fun _ _=>default) (zmp)
def zms:Nat→Int→Int→Bool:=lpO (fun _ _=>false) (zmq)
def zwF (av0:Int) (bv0:Int):Int:=zmr Fuel av0 bv0
def zwG (av0:Int) (bv0:Int):Bool:=zms Fuel av0 bv0
theorem zER (hs:zwG av0 bv0=true) (hk:K (e73 (zwF av0 bv0))):z73 K [1,0,0] [] (zB4 av0 bv0) :=
  zl (fun X=>z73 K [1,0,0,0] [X]) (by kernel_rfl) fun X0 hX =>
  (show ∀ k, zIG K X0 (zms k) (zmr k) from zeK _ _ (zmq) (zmp) (zIG K X0)
 (by intro _ _ hs;exact absurd hs Bool.false_ne_true)
 (by intro P0 S0 hX0 av0 bv0 hs hk;exact hX _ (zay (by kernel_rfl) (zc hs hk (fun hs hk=>(zav hs fun hc hs=>And.intro hc (hX0 hs hk))) (fun hs hk=>hk))))) _ hs hk
def s73 (a:Int) (b:Int):Int :=
  (zwF a b)
def p73 (a:Int) (b:Int):Bool :=
  (zwG a b)
end
theorem q73 (a:Int) (b:Int) (K:List PA→Prop) (hs:p73 a b=true) (hk:K (e73 (s73 a b))):vcFun Try.prog G73 zEQ 73 [.one (.int .i64 a),.one (.int .i64 b)] K :=
  zay (by kernel_rfl) (zER hs hk)
def zAB : List PA → COut
  | [.one (.int .i64 a0),.one (.int .i64 a1)]=>.det (p73 a0 a1=true) [.one (.int .i64 (s73 a0 a1))]
  | _=>.no
theorem zIH:zaf Try.prog 73:=⟨_,rfl,rfl,by kernel_rfl⟩
theorem zOq:Ok Try.prog 73 zAB:=zaz zLB zIH fun args K h=>by
  unfold zAB at h
  split at h
  · rename_i a0 a1
    obtain ⟨hs,hk⟩:=h
    exact ⟨(fun _ _=>[]),(fun _=>false),zEQ,q73 a0 a1 K hs hk⟩
  · exact h.elim
abbrev T40:Tabs:=(Tabs.nil.addF 73 zAB)
theorem zLC:TabsOk Try.prog T40:=(TabsOk.nil.addF zOq)
abbrev G40:Ctrs:=csm T40 (fun _ _=>[]) (fun _=>false)
def zII:Ann:=⟨19,[(0,zK [0,1,4] [4]),(1,zK [0,1,4,5] [4]),(2,zK [4] [4])],
 [],
 [],
 [],[]⟩
abbrev R40:=Frac
abbrev e40 (r:R40):List PA:=[.agg [.int .i64 r.Num,.int .i64 r.Den]]
section
variable {K:List PA→Prop} {num:Int} {den:Int}
def s40 (num:Int) (den:Int):Frac :=
  (⟨(w64 (num.tdiv (s73 (if (w64 (0 - num)) > num then (w64 (0 - num)) else num) den))),(w64 (den.tdiv (s73 (if (w64 (0 - num)) > num then (w64 (0 - num)) else num) den)))⟩:Frac)
def p40 (num:Int) (den:Int):Bool :=
  (decide ((p73 (if (w64 (0 - num)) > num then (w64 (0 - num)) else num) den=true)) &&
 (decide (((s73 (if (w64 (0 - num)) > num then (w64 (0 - num)) else num) den) ≠ 0)) &&
 (decide (((s73 (if (w64 (0 - num)) > num then (w64 (0 - num)) else num) den) ≠ 0)) &&
 true)))
end
theorem q40 (num:Int) (den:Int) (K:List PA→Prop) (hs:p40 num den=true) (hk:K (e40 (s40 num den))):vcFun Try.prog G40 zII 40 [.one (.int .i64 num),.one (.int .i64 den)] K :=
  zay (by kernel_rfl) (zav hs fun hc hs=>And.intro hc (zav hs fun hc hs=>And.intro hc (zav hs fun hc hs=>And.intro hc hk)))
def zwH : List PA → COut
  | [.one (.int .i64 a0),.one (.int .i64 a1)]=>.det (p40 a0 a1=true) [.agg [.int .i64 ((s40 a0 a1).Num),.int .i64 ((s40 a0 a1).Den)]]
  | _=>.no
theorem zIJ:zaf Try.prog 40:=⟨_,rfl,rfl,by kernel_rfl⟩
theorem zMQ:Ok Try.prog 40 zwH:=zaz zLC zIJ fun args K h=>by
  unfold zwH at h
  split at h
  · rename_i a0 a1
    obtain ⟨hs,hk⟩:=h
    exact ⟨(fun _ _=>[]),(fun _=>false),zII,q40 a0 a1 K hs hk⟩
  · exact h.elim
abbrev T85:Tabs:=Tabs.nil
theorem zLD:TabsOk Try.prog T85:=TabsOk.nil
abbrev G85:Ctrs:=csm T85 (fun _ _=>[]) (fun _=>false)
def zIK:Ann:=⟨47,[(0,zK [0,1,2,3,4,5] []),(1,zK [0,1,2,13] []),(2,zK [13,14] []),(3,zK [12] [])],
 [],
 [],
 [],[]⟩
abbrev R85:=Int
abbrev e85 (r:R85):List PA:=[.one (.int .i64 r)]
section
variable {K:List PA→Prop} {u:Int} {v:Int} {w:Int} {p:Int} {q:Int} {r_a5:Int}
def s85 (u:Int) (v:Int) (w:Int) (p:Int) (q:Int) (r_a5:Int):Int :=
  (w64 ((w64 ((w64 ((w64 ((1000:Int) * (if (w64 (0 - (w64 ((w64 ((w64 (r_a5 - q)) * (w64 (v - u)))) - (w64 ((w64 (q - p)) * (w64 (w - v)))))))) > (w64 ((w64 ((w64 (r_a5 - q)) * (w64 (v - u)))) - (w64 ((w64 (q - p)) * (w64 (w - v)))))) then (w64 (0 - (w64 ((w64 ((w64 (r_a5 - q)) * (w64 (v - u)))) - (w64 ((w64 (q - p)) * (w64 (w - v)))))))) else (w64 ((w64 ((w64 (r_a5 - q)) * (w64 (v - u)))) - (w64 ((w64 (q - p)) * (w64 (w - v)))))))))+(w64 ((w64 (v - u)) * (w64 (w - v)))))) - (1:Int))).tdiv (w64 ((w64 (v - u)) * (w64 (w - v))))))
def p85 (u:Int) (v:Int) (w:Int) (p:Int) (q:Int) (r_a5:Int):Bool :=
  (decide (((w64 ((w64 (v - u)) * (w64 (w - v)))) ≠ 0)) &&
 true)
end
theorem q85 (u:Int) (v:Int) (w:Int) (p:Int) (q:Int) (r_a5:Int) (K:List PA→Prop) (hs:p85 u v w p q r_a5=true) (hk:K (e85 (s85 u v w p q r_a5))):vcFun Try.prog G85 zIK 85 [.one (.int .i64 u),.one (.int .i64 v),.one (.int .i64 w),.one (.int .i64 p),.one (.int .i64 q),.one (.int .i64 r_a5)] K :=
  zay (by kernel_rfl) (zav hs fun hc hs=>And.intro hc hk)
def zAC : List PA → COut
  | [.one (.int .i64 a0),.one (.int .i64 a1),.one (.int .i64 a2),.one (.int .i64 a3),.one (.int .i64 a4),.one (.int .i64 a5)]=>.det (p85 a0 a1 a2 a3 a4 a5=true) [.one (.int .i64 (s85 a0 a1 a2 a3 a4 a5))]
  | _=>.no
theorem zIL:zaf Try.prog 85:=⟨_,rfl,rfl,by kernel_rfl⟩
theorem zMR:Ok Try.prog 85 zAC:=zaz zLD zIL fun args K h=>by
  unfold zAC at h
  split at h
  · rename_i a0 a1 a2 a3 a4 a5
    obtain ⟨hs,hk⟩:=h
    exact ⟨(fun _ _=>[]),(fun _=>false),zIK,q85 a0 a1 a2 a3 a4 a5 K hs hk⟩
  · exact h.elim
abbrev T92:Tabs:=((Tabs.nil.addF 64 zsA).addF 74 zoN)
theorem zLE:TabsOk Try.prog T92:=((TabsOk.nil.addF zKg).addF zHy)
abbrev G92:Ctrs:=csm T92 (fun _ _=>[]) (fun _=>false)
def zES:Ann:=⟨41,[(0,zK [0] []),(1,zK [0,5,6,7] []),(2,zK [0,5,6,7,8] []),(3,zK [0,3,4,5,6,7] [4]),(4,zK [0,5,6,7,32] []),(5,zK [2] []),(6,zK [0,5,6,7] []),(7,zK [2] [])],
 [(2,zK [0,5,6,7] [])],
 [],
 [],[]⟩
abbrev R92:=Bool
abbrev e92 (r:R92):List PA:=[.one (.bool r)]
@[irreducible] def z92:=ptF Try.prog G92 zES Try.f92
def zB5 (zaa:(Sl Gate)) (zaW:Int):St:=⟨[(0,zS enc_55 3 zaa),(5,zS enc_55 3 zaa),(6,zI (zaa.len:Int)),(7,zI zaW)],[],[]⟩
abbrev zIM (K:List PA→Prop) (zaa:(Sl Gate)) (X:St→Prop) (P:Int→Bool) (S:Int→Bool):Prop:=∀ ⦃zaW:Int⦄,P zaW=true→K (e92 (S zaW))→X (zB5 zaa zaW)
section
variable {K:List PA→Prop} {zaa:(Sl Gate)} {zaW:Int} {X0:St→Prop} {P0:Int→Bool} {S0:Int→Bool}
def zwI (zaa:(Sl Gate)) (S0:Int→Bool) (zaW:Int):Bool :=
  (cond (decide (zaW < (zaa.len : Int)))
 (cond (decide ((w64 ((zaa.get zaW.toNat).High - (zaa.get zaW.toNat).Low)) > (60:Int)))
 false
 (cond (decide (zaW > (0:Int)))
 (cond (decide ((zaa.get zaW.toNat).Z ≤ (zaa.get ((w64 (zaW - (1:Int))).toNat)).Z))
 false
 (S0 (w64 (zaW+(1:Int)))))
 (S0 (w64 (zaW+(1:Int))))))
 (cond (s74 (zaa.len : Int) (2:Int) (8:Int))
 (s64 zaa)
 false))
def zwJ (zaa:(Sl Gate)) (P0:Int→Bool) (zaW:Int):Bool :=
  (cond (decide (zaW < (zaa.len : Int)))
 (decide ((0≤zaW∧zaW < (zaa.len:Int))) &&
 (cond (decide ((w64 ((zaa.get zaW.toNat).High - (zaa.get zaW.toNat).Low)) > (60:Int)))
 true
 (cond (decide (zaW > (0:Int)))
 (decide ((0≤(w64 (zaW - (1:Int)))∧(w64 (zaW - (1:Int))) < (zaa.len:Int))) &&
 (cond (decide ((zaa.get zaW.toNat).Z ≤ (zaa.get ((w64 (zaW - (1:Int))).toNat)).Z))
 true
 (P0 (w64 (zaW+(1:Int))))))
 (P0 (w64 (zaW+(1:Int)))))))
 (cond (s74 (zaa.len : Int) (2:Int) (8:Int))
 (decide ((p64 zaa=true)) &&
 true)
 true))
def zwK (zaa:(Sl Gate)):Nat→Int→Bool:=lpO (fun _=>default) (zwI zaa)
def zwL (zaa:(Sl Gate)):Nat→Int→Bool:=lpO (fun _=>false) (zwJ zaa)
def zwM (zaa:(Sl Gate)) (zaW:Int):Bool:=zwK zaa Fuel zaW
def zwN (zaa:(Sl Gate)) (zaW:Int):Bool:=zwL zaa Fuel zaW
theorem zET (hs:zwN zaa zaW=true) (hk:K (e92 (zwM zaa zaW))):z92 K [1,0,1,0] [] (zB5 zaa zaW) :=
  zl (fun X=>z92 K [1,0,1,0,0] [X]) (by kernel_rfl) fun X0 hX =>
  (show ∀ k, zIM K zaa X0 (zwL zaa k) (zwK zaa k) from zeK _ _ (zwJ zaa) (zwI zaa) (zIM K zaa X0)
 (by intro _ hs;exact absurd hs Bool.false_ne_true)
 (by intro P0 S0 hX0 zaW hs hk;exact hX _ (zay (by kernel_rfl) (zc hs hk (fun hs hk=>(zav hs fun hc hs=>And.intro hc (zc hs hk (fun hs hk=>hk) (fun hs hk=>(zc hs hk (fun hs hk=>(zav hs fun hc hs=>And.intro hc (zc hs hk (fun hs hk=>hk) (fun hs hk=>(hX0 hs hk))))) (fun hs hk=>(hX0 hs hk))))))) (fun hs hk=>(zc hs hk (fun hs hk=>(zav hs fun hc hs=>And.intro (And.intro (zE enc_55 3 zaa.get) hc) hk)) (fun hs hk=>hk))))))) _ hs hk
def s92 (zaa:(Sl Gate)):Bool :=
  (zwM zaa (0:Int))
def p92 (zaa:(Sl Gate)):Bool :=
  (zwN zaa (0:Int))
end
theorem q92 (zaa:(Sl Gate)) (K:List PA→Prop) (hs:p92 zaa=true) (hk:K (e92 (s92 zaa))):vcFun Try.prog G92 zES 92 [.one (.sl zaa.len 3 (fun i=>enc_55 (zaa.get i)))] K :=
  zay (by kernel_rfl) (zET hs hk)
def zEU : List PA → COut
  | [.one (.sl a0_n a0_s a0_g)]=>.det (IsE enc_55 3 a0_s a0_g∧p92 (⟨a0_n,zad a0_g⟩:(Sl Gate))=true) [.one (.bool (s92 (⟨a0_n,zad a0_g⟩:(Sl Gate))))]
  | _=>.no
theorem zIN:zaf Try.prog 92:=⟨_,rfl,rfl,by kernel_rfl⟩
theorem zOr:Ok Try.prog 92 zEU:=zaz zLE zIN fun args K h=>by
  unfold zEU at h
  split at h
  · rename_i a0_n a0_s a0_g
    obtain ⟨⟨⟨rfl,a0_f,rfl⟩,hs⟩,hk⟩:=h
    try rw [zac a0_f] at hs
    try rw [zac a0_f] at hk
    exact ⟨(fun _ _=>[]),(fun _=>false),zES,q92 (⟨a0_n,a0_f⟩:(Sl Gate)) K hs hk⟩
  · exact h.elim
abbrev T93:Tabs:=(Tabs.nil.addF 85 zAC)
theorem zLF:TabsOk Try.prog T93:=(TabsOk.nil.addF zMR)
abbrev G93:Ctrs:=csm T93 (fun _ _=>[]) (fun l=>Nat.beq l 15 || Nat.beq l 24)
def zEV:Ann:=⟨131,[(0,zK [0] []),(1,zK [0,3] []),(2,zK [0,3,4] [15]),(3,zK [0,3,4,5] [15]),(4,zK [0,3,4,5,19] [15]),(5,zK [0,3,4,5] [15]),(6,zK [0,3,4,5] [15]),(7,zK [0,3,4,5,6] [15]),(8,zK [0,3,4,5,6,37] [15]),(9,zK [0,3,4,5,6] [15]),(10,zK [0,3,4,5,6,7] [15]),(11,zK [0,3,4,5,6,7,53] [15]),(12,zK [0,3,4,5,6,7] [15]),(13,zK [0,3,4,5,6,7,59] [15]),(14,zK [0,3,4,5,6,7] [15]),(15,zK [0,3,4,5,6,7,8] [15]),(16,zK [0,3,4,5,6,7,8,9] [15]),(17,zK [0,3,4,5,6,7,8,9,80] [15]),(18,zK [0,3,4,5,6,7,8,9] [15]),(19,zK [0,3,4,5,6,7,8,9,10] [15]),(20,zK [0,3,4,5,6,7,8,9,10,120] [15]),(21,zK [0,3,4,5,6,7,8,9] [15]),(22,zK [0,3,4,5,6,7] [15]),(23,zK [2] [15])],
 [(4,zK [0,3,4,5] [15]),(8,zK [0,3,4,5,6] [15]),(11,zK [0,3,4,5,6,7] [15]),(17,zK [0,3,4,5,6,7,8,9] [15])],
 [(15,zK [0,3,4,5,6,7] [15]),(20,zK [0,3,4,5,6,7,8,9,10] [15])],
 [],[]⟩
abbrev R93:=(Sl Mp)
abbrev e93 (r:R93):List PA:=[.one (.sl r.len 1 (fun i=>zcD (r.get i)))]
@[irreducible] def z93:=ptF Try.prog G93 zEV Try.f93
def zB6 (zaa:(Sl Gate)) (iv0:Int) (zbH:Nat) (zbx:(Nat→Bool)) (zby:(Nat→Nat)) (zbW:(Nat→List Int→Option (List Int))):St:=⟨[(0,zS enc_55 3 zaa),(3,zI (zaa.len:Int)),(4,zv 15),(5,zI iv0)],[(15,.vm 129 8 131 3 (true,2,false,[some .i64]) zbH zbx zby zbW)],[]⟩
abbrev zpB (K:List PA→Prop) (zaa:(Sl Gate)) (X:St→Prop) (P:Int→Nat→(Nat→Bool)→(Nat→Nat)→(Nat→List Int→Option (List Int))→Bool) (S:Int→Nat→(Nat→Bool)→(Nat→Nat)→(Nat→List Int→Option (List Int))→(Sl Mp)):Prop:=∀ ⦃iv0:Int⦄ ⦃zbH:Nat⦄ ⦃zbx:(Nat→Bool)⦄ ⦃zby:(Nat→Nat)⦄ ⦃zbW:(Nat→List Int→Option (List Int))⦄,P iv0 zbH zbx zby zbW=true→K (e93 (S iv0 zbH zbx zby zbW))→X (zB6 zaa iv0 zbH zbx zby zbW)
def zB7 (zaa:(Sl Gate)) (iv1:Int) (pv1:Int) (zbO:Nat) (zbq:(Nat→Bool)) (zbr:(Nat→Nat)) (zbP:(Nat→List Int→Option (List Int))):St:=⟨[(0,zS enc_55 3 zaa),(3,zI (zaa.len:Int)),(4,zv 15),(5,zI iv1),(6,zI pv1)],[(15,.vm 129 8 131 3 (true,2,false,[some .i64]) zbO zbq zbr zbP)],[]⟩
abbrev zsF (K:List PA→Prop) (zaa:(Sl Gate)) (X:St→Prop) (P:Int→Int→Nat→(Nat→Bool)→(Nat→Nat)→(Nat→List Int→Option (List Int))→Bool) (S:Int→Int→Nat→(Nat→Bool)→(Nat→Nat)→(Nat→List Int→Option (List Int))→(Sl Mp)):Prop:=∀ ⦃iv1:Int⦄ ⦃pv1:Int⦄ ⦃zbO:Nat⦄ ⦃zbq:(Nat→Bool)⦄ ⦃zbr:(Nat→Nat)⦄ ⦃zbP:(Nat→List Int→Option (List Int))⦄,P iv1 pv1 zbO zbq zbr zbP=true→K (e93 (S iv1 pv1 zbO zbq zbr zbP))→X (zB7 zaa iv1 pv1 zbO zbq zbr zbP)
def zB8 (zaa:(Sl Gate)) (iv2:Int) (pv2:Int) (qv2:Int) (zbs:Nat) (za4:(Nat→Bool)) (zaX:(Nat→Nat)) (zbk:(Nat→List Int→Option (List Int))):St:=⟨[(0,zS enc_55 3 zaa),(3,zI (zaa.len:Int)),(4,zv 15),(5,zI iv2),(6,zI pv2),(7,zI qv2)],[(15,.vm 129 8 131 3 (true,2,false,[some .i64]) zbs za4 zaX zbk)],[]⟩
abbrev zwO (K:List PA→Prop) (zaa:(Sl Gate)) (X:St→Prop) (P:Int→Int→Int→Nat→(Nat→Bool)→(Nat→Nat)→(Nat→List Int→Option (List Int))→Bool) (S:Int→Int→Int→Nat→(Nat→Bool)→(Nat→Nat)→(Nat→List Int→Option (List Int))→(Sl Mp)):Prop:=∀ ⦃iv2:Int⦄ ⦃pv2:Int⦄ ⦃qv2:Int⦄ ⦃zbs:Nat⦄ ⦃za4:(Nat→Bool)⦄ ⦃zaX:(Nat→Nat)⦄ ⦃zbk:(Nat→List Int→Option (List Int))⦄,P iv2 pv2 qv2 zbs za4 zaX zbk=true→K (e93 (S iv2 pv2 qv2 zbs za4 zaX zbk))→X (zB8 zaa iv2 pv2 qv2 zbs za4 zaX zbk)
def zB9 (zaa:(Sl Gate)) (qv3:Int) (iv4:Int) (pv4:Int) (zcx:Int) (rv4:Int) (zbl:Nat) (za8:(Nat→Bool)) (za9:(Nat→Nat)) (za7:(Nat→List Int→Option (List Int))):St:=⟨[(0,zS enc_55 3 zaa),(3,zI (zaa.len:Int)),(4,zv 15),(5,zI iv4),(6,zI pv4),(7,zI qv3),(8,zI zcx),(9,zI rv4)],[(15,.vm 129 8 131 3 (true,2,false,[some .i64]) zbl za8 za9 za7)],[]⟩
abbrev zEW (K:List PA→Prop) (zaa:(Sl Gate)) (qv3:Int) (X:St→Prop) (P:Int→Int→Int→Int→Nat→(Nat→Bool)→(Nat→Nat)→(Nat→List Int→Option (List Int))→Bool) (S:Int→Int→Int→Int→Nat→(Nat→Bool)→(Nat→Nat)→(Nat→List Int→Option (List Int))→(Sl Mp)):Prop:=∀ ⦃iv4:Int⦄ ⦃pv4:Int⦄ ⦃zcx:Int⦄ ⦃rv4:Int⦄ ⦃zbl:Nat⦄ ⦃za8:(Nat→Bool)⦄ ⦃za9:(Nat→Nat)⦄ ⦃za7:(Nat→List Int→Option (List Int))⦄,P iv4 pv4 zcx rv4 zbl za8 za9 za7=true→K (e93 (S iv4 pv4 zcx rv4 zbl za8 za9 za7))→X (zB9 zaa qv3 iv4 pv4 zcx rv4 zbl za8 za9 za7)
section
variable {K:List PA→Prop} {zaa:(Sl Gate)} {iv0:Int} {zbH:Nat} {zbx:(Nat→Bool)} {zby:(Nat→Nat)} {zbW:(Nat→List Int→Option (List Int))} {X0:St→Prop} {P0:Int→Nat→(Nat→Bool)→(Nat→Nat)→(Nat→List Int→Option (List Int))→Bool} {S0:Int→Nat→(Nat→Bool)→(Nat→Nat)→(Nat→List Int→Option (List Int))→(Sl Mp)} {iv1:Int} {pv1:Int} {zbO:Nat} {zbq:(Nat→Bool)} {zbr:(Nat→Nat)} {zbP:(Nat→List Int→Option (List Int))} {X1:St→Prop} {P1:Int→Int→Nat→(Nat→Bool)→(Nat→Nat)→(Nat→List Int→Option (List Int))→Bool} {S1:Int→Int→Nat→(Nat→Bool)→(Nat→Nat)→(Nat→List Int→Option (List Int))→(Sl Mp)} {iv2:Int} {pv2:Int} {qv2:Int} {zbs:Nat} {za4:(Nat→Bool)} {zaX:(Nat→Nat)} {zbk:(Nat→List Int→Option (List Int))} {X2:St→Prop} {P2:Int→Int→Int→Nat→(Nat→Bool)→(Nat→Nat)→(Nat→List Int→Option (List Int))→Bool} {S2:Int→Int→Int→Nat→(Nat→Bool)→(Nat→Nat)→(Nat→List Int→Option (List Int))→(Sl Mp)} {iv3:Int} {pv3:Int} {qv3:Int} {zgf:Nat} {zez:(Nat→Bool)} {zeA:(Nat→Nat)} {zgg:(Nat→List Int→Option (List Int))} {iv4:Int} {pv4:Int} {zcx:Int} {rv4:Int} {zbl:Nat} {za8:(Nat→Bool)} {za9:(Nat→Nat)} {za7:(Nat→List Int→Option (List Int))} {X4:St→Prop} {P4:Int→Int→Int→Int→Nat→(Nat→Bool)→(Nat→Nat)→(Nat→List Int→Option (List Int))→Bool} {S4:Int→Int→Int→Int→Nat→(Nat→Bool)→(Nat→Nat)→(Nat→List Int→Option (List Int))→(Sl Mp)} {iv5:Int} {pv5:Int} {ze6:Int} {rv5:Int} {kv5:Int} {zdE:Nat} {zcH:(Nat→Bool)} {zcI:(Nat→Nat)} {zdF:(Nat→List Int→Option (List Int))}
def zwP (S0:Int→Nat→(Nat→Bool)→(Nat→Nat)→(Nat→List Int→Option (List Int))→(Sl Mp)) (S1:Int→Int→Nat→(Nat→Bool)→(Nat→Nat)→(Nat→List Int→Option (List Int))→(Sl Mp)) (S2:Int→Int→Int→Nat→(Nat→Bool)→(Nat→Nat)→(Nat→List Int→Option (List Int))→(Sl Mp)) (S4:Int→Int→Int→Int→Nat→(Nat→Bool)→(Nat→Nat)→(Nat→List Int→Option (List Int))→(Sl Mp)) (zaa:(Sl Gate)) (qv3:Int) (iv5:Int) (pv5:Int) (ze6:Int) (rv5:Int) (kv5:Int) (zdE:Nat) (zcH:(Nat→Bool)) (zcI:(Nat→Nat)) (zdF:(Nat→List Int→Option (List Int))):(Sl Mp) :=
  (cond (decide (ze6 < (0:Int)))
 (S4 iv5 pv5 kv5 (w64 (rv5+(1:Int))) zdE zcH zcI zdF)
 (cond (decide (kv5 < ze6))
 (S4 iv5 pv5 kv5 (w64 (rv5+(1:Int))) zdE zcH zcI zdF)
 (S4 iv5 pv5 ze6 (w64 (rv5+(1:Int))) zdE zcH zcI zdF)))
def zwQ (P0:Int→Nat→(Nat→Bool)→(Nat→Nat)→(Nat→List Int→Option (List Int))→Bool) (P1:Int→Int→Nat→(Nat→Bool)→(Nat→Nat)→(Nat→List Int→Option (List Int))→Bool) (P2:Int→Int→Int→Nat→(Nat→Bool)→(Nat→Nat)→(Nat→List Int→Option (List Int))→Bool) (P4:Int→Int→Int→Int→Nat→(Nat→Bool)→(Nat→Nat)→(Nat→List Int→Option (List Int))→Bool) (zaa:(Sl Gate)) (qv3:Int) (iv5:Int) (pv5:Int) (ze6:Int) (rv5:Int) (kv5:Int) (zdE:Nat) (zcH:(Nat→Bool)) (zcI:(Nat→Nat)) (zdF:(Nat→List Int→Option (List Int))):Bool :=
  (cond (decide (ze6 < (0:Int)))
 (P4 iv5 pv5 kv5 (w64 (rv5+(1:Int))) zdE zcH zcI zdF)
 (cond (decide (kv5 < ze6))
 (P4 iv5 pv5 kv5 (w64 (rv5+(1:Int))) zdE zcH zcI zdF)
 (P4 iv5 pv5 ze6 (w64 (rv5+(1:Int))) zdE zcH zcI zdF)))
theorem zEX (hX0:zpB K zaa X0 P0 S0) (hX1:zsF K zaa X1 P1 S1) (hX2:zwO K zaa X2 P2 S2) (hX4:zEW K zaa qv3 X4 P4 S4) (hs:zwQ P0 P1 P2 P4 zaa qv3 iv5 pv5 ze6 rv5 kv5 zdE zcH zcI zdF=true) (hk:K (e93 (zwP S0 S1 S2 S4 zaa qv3 iv5 pv5 ze6 rv5 kv5 zdE zcH zcI zdF))):z93 K [1,1,1,0,1,0,0,1,0,0,1,1,0,0,1,0,0,1,0,0,1,0,0,1,1,0,1,0,0,1,0,0,1] [X0,X1,X2,X4] ⟨[(0,zS enc_55 3 zaa),(3,zI (zaa.len:Int)),(4,zv 15),(5,zI iv5),(6,zI pv5),(7,zI qv3),(8,zI ze6),(9,zI rv5),(10,zI kv5)],[(15,.vm 129 8 131 3 (true,2,false,[some .i64]) zdE zcH zcI zdF)],[]⟩:=zay (by kernel_rfl) (zc hs hk (fun hs hk=>(hX4 hs hk)) (fun hs hk=>(zc hs hk (fun hs hk=>(hX4 hs hk)) (fun hs hk=>(hX4 hs hk)))))
def zwR (S0:Int→Nat→(Nat→Bool)→(Nat→Nat)→(Nat→List Int→Option (List Int))→(Sl Mp)) (S1:Int→Int→Nat→(Nat→Bool)→(Nat→Nat)→(Nat→List Int→Option (List Int))→(Sl Mp)) (S2:Int→Int→Int→Nat→(Nat→Bool)→(Nat→Nat)→(Nat→List Int→Option (List Int))→(Sl Mp)) (zaa:(Sl Gate)) (qv3:Int) (S4:Int→Int→Int→Int→Nat→(Nat→Bool)→(Nat→Nat)→(Nat→List Int→Option (List Int))→(Sl Mp)) (iv4:Int) (pv4:Int) (zcx:Int) (rv4:Int) (zbl:Nat) (za8:(Nat→Bool)) (za9:(Nat→Nat)) (za7:(Nat→List Int→Option (List Int))):(Sl Mp) :=
  (cond (decide (rv4 ≤ (zaa.get ((w64 (iv4 + (2:Int))).toNat)).High))
 (zwP S0 S1 S2 S4 zaa qv3 iv4 pv4 zcx rv4 (if (zdM ((za7 ((w64 (iv4+(1:Int))).toNat)) [qv3,rv4]) 0) > (s85 ((zaa.get iv4.toNat).Z) ((zaa.get ((w64 (iv4+(1:Int))).toNat)).Z) ((zaa.get ((w64 (iv4+(2:Int))).toNat)).Z) pv4 qv3 rv4) then (zdM ((za7 ((w64 (iv4+(1:Int))).toNat)) [qv3,rv4]) 0) else (s85 ((zaa.get iv4.toNat).Z) ((zaa.get ((w64 (iv4+(1:Int))).toNat)).Z) ((zaa.get ((w64 (iv4+(2:Int))).toNat)).Z) pv4 qv3 rv4)) zbl za8 za9 za7)
 (S2 iv4 pv4 (w64 (qv3+(1:Int))) zbl za8 (zcP iv4.toNat (addN ((za7 iv4.toNat) [pv4,qv3]) (za9 iv4.toNat)) za9) (zcP iv4.toNat (zkO [pv4,qv3] [zcx] (za7 iv4.toNat)) za7)))
def zwS (P0:Int→Nat→(Nat→Bool)→(Nat→Nat)→(Nat→List Int→Option (List Int))→Bool) (P1:Int→Int→Nat→(Nat→Bool)→(Nat→Nat)→(Nat→List Int→Option (List Int))→Bool) (P2:Int→Int→Int→Nat→(Nat→Bool)→(Nat→Nat)→(Nat→List Int→Option (List Int))→Bool) (zaa:(Sl Gate)) (qv3:Int) (P4:Int→Int→Int→Int→Nat→(Nat→Bool)→(Nat→Nat)→(Nat→List Int→Option (List Int))→Bool) (iv4:Int) (pv4:Int) (zcx:Int) (rv4:Int) (zbl:Nat) (za8:(Nat→Bool)) (za9:(Nat→Nat)) (za7:(Nat→List Int→Option (List Int))):Bool :=
  (decide ((0≤(w64 (iv4+(2:Int)))∧(w64 (iv4+(2:Int))) < (zaa.len:Int))) &&
 (cond (decide (rv4 ≤ (zaa.get ((w64 (iv4 + (2:Int))).toNat)).High))
 (decide ((0≤iv4∧iv4 < (zaa.len:Int))) &&
 (decide ((0≤(w64 (iv4+(1:Int)))∧(w64 (iv4+(1:Int))) < (zaa.len:Int))) &&
 (decide ((0≤(w64 (iv4+(2:Int)))∧(w64 (iv4+(2:Int))) < (zaa.len:Int))) &&
 (decide ((p85 ((zaa.get iv4.toNat).Z) ((zaa.get ((w64 (iv4+(1:Int))).toNat)).Z) ((zaa.get ((w64 (iv4+(2:Int))).toNat)).Z) pv4 qv3 rv4=true)) &&
 (decide ((0≤(w64 (iv4+(1:Int)))∧(w64 (iv4+(1:Int))) < (zbl:Int))) &&
 (decide (((w64 (iv4+(1:Int))).toNat < zbl∧za8 ((w64 (iv4+(1:Int))).toNat)=true)) &&
 (decide (((w64 (iv4+(1:Int))).toNat < zbl)) &&
 (zwQ P0 P1 P2 P4 zaa qv3 iv4 pv4 zcx rv4 (if (zdM ((za7 ((w64 (iv4+(1:Int))).toNat)) [qv3,rv4]) 0) > (s85 ((zaa.get iv4.toNat).Z) ((zaa.get ((w64 (iv4+(1:Int))).toNat)).Z) ((zaa.get ((w64 (iv4+(2:Int))).toNat)).Z) pv4 qv3 rv4) then (zdM ((za7 ((w64 (iv4+(1:Int))).toNat)) [qv3,rv4]) 0) else (s85 ((zaa.get iv4.toNat).Z) ((zaa.get ((w64 (iv4+(1:Int))).toNat)).Z) ((zaa.get ((w64 (iv4+(2:Int))).toNat)).Z) pv4 qv3 rv4)) zbl za8 za9 za7))))))))
 (decide ((0≤iv4∧iv4 < (zbl:Int))) &&
 (decide ((iv4.toNat < zbl∧za8 iv4.toNat=true)) &&
 (decide ((iv4.toNat < zbl)) &&
 (P2 iv4 pv4 (w64 (qv3+(1:Int))) zbl za8 (zcP iv4.toNat (addN ((za7 iv4.toNat) [pv4,qv3]) (za9 iv4.toNat)) za9) (zcP iv4.toNat (zkO [pv4,qv3] [zcx] (za7 iv4.toNat)) za7)))))))
def zwT (S0:Int→Nat→(Nat→Bool)→(Nat→Nat)→(Nat→List Int→Option (List Int))→(Sl Mp)) (S1:Int→Int→Nat→(Nat→Bool)→(Nat→Nat)→(Nat→List Int→Option (List Int))→(Sl Mp)) (S2:Int→Int→Int→Nat→(Nat→Bool)→(Nat→Nat)→(Nat→List Int→Option (List Int))→(Sl Mp)) (zaa:(Sl Gate)) (qv3:Int):Nat→Int→Int→Int→Int→Nat→(Nat→Bool)→(Nat→Nat)→(Nat→List Int→Option (List Int))→(Sl Mp):=lpO (fun _ _ _ _ _ _ _ _=>default) (zwR S0 S1 S2 zaa qv3)
def zwU (P0:Int→Nat→(Nat→Bool)→(Nat→Nat)→(Nat→List Int→Option (List Int))→Bool) (P1:Int→Int→Nat→(Nat→Bool)→(Nat→Nat)→(Nat→List Int→Option (List Int))→Bool) (P2:Int→Int→Int→Nat→(Nat→Bool)→(Nat→Nat)→(Nat→List Int→Option (List Int))→Bool) (zaa:(Sl Gate)) (qv3:Int):Nat→Int→Int→Int→Int→Nat→(Nat→Bool)→(Nat→Nat)→(Nat→List Int→Option (List Int))→Bool:=lpO (fun _ _ _ _ _ _ _ _=>false) (zwS P0 P1 P2 zaa qv3)
def zwV (S0:Int→Nat→(Nat→Bool)→(Nat→Nat)→(Nat→List Int→Option (List Int))→(Sl Mp)) (S1:Int→Int→Nat→(Nat→Bool)→(Nat→Nat)→(Nat→List Int→Option (List Int))→(Sl Mp)) (S2:Int→Int→Int→Nat→(Nat→Bool)→(Nat→Nat)→(Nat→List Int→Option (List Int))→(Sl Mp)) (zaa:(Sl Gate)) (qv3:Int) (iv4:Int) (pv4:Int) (zcx:Int) (rv4:Int) (zbl:Nat) (za8:(Nat→Bool)) (za9:(Nat→Nat)) (za7:(Nat→List Int→Option (List Int))):(Sl Mp):=zwT S0 S1 S2 zaa qv3 Fuel iv4 pv4 zcx rv4 zbl za8 za9 za7
def zwW (P0:Int→Nat→(Nat→Bool)→(Nat→Nat)→(Nat→List Int→Option (List Int))→Bool) (P1:Int→Int→Nat→(Nat→Bool)→(Nat→Nat)→(Nat→List Int→Option (List Int))→Bool) (P2:Int→Int→Int→Nat→(Nat→Bool)→(Nat→Nat)→(Nat→List Int→Option (List Int))→Bool) (zaa:(Sl Gate)) (qv3:Int) (iv4:Int) (pv4:Int) (zcx:Int) (rv4:Int) (zbl:Nat) (za8:(Nat→Bool)) (za9:(Nat→Nat)) (za7:(Nat→List Int→Option (List Int))):Bool:=zwU P0 P1 P2 zaa qv3 Fuel iv4 pv4 zcx rv4 zbl za8 za9 za7
theorem zEY (hX0:zpB K zaa X0 P0 S0) (hX1:zsF K zaa X1 P1 S1) (hX2:zwO K zaa X2 P2 S2) (hs:zwW P0 P1 P2 zaa qv3 iv4 pv4 zcx rv4 zbl za8 za9 za7=true) (hk:K (e93 (zwV S0 S1 S2 zaa qv3 iv4 pv4 zcx rv4 zbl za8 za9 za7))):z93 K [1,1,1,0,1,0,0,1,0,0,1,1,0,0,1,0,0,1,0,0,1,0,0,1,1,0,1,0] [X0,X1,X2] (zB9 zaa qv3 iv4 pv4 zcx rv4 zbl za8 za9 za7) :=
  zl (fun X=>z93 K [1,1,1,0,1,0,0,1,0,0,1,1,0,0,1,0,0,1,0,0,1,0,0,1,1,0,1,0,0] [X0,X1,X2,X]) (by kernel_rfl) fun X4 hX =>
  (show ∀ k, zEW K zaa qv3 X4 (zwU P0 P1 P2 zaa qv3 k) (zwT S0 S1 S2 zaa qv3 k) from zeK _ _ (zwS P0 P1 P2 zaa qv3) (zwR S0 S1 S2 zaa qv3) (zEW K zaa qv3 X4)
 (by intro _ _ _ _ _ _ _ _ hs;exact absurd hs Bool.false_ne_true)
 (by intro P4 S4 hX4 iv4 pv4 zcx rv4 zbl za8 za9 za7 hs hk;exact hX _ (zay (by kernel_rfl) (zav hs fun hc hs=>And.intro hc (zc hs hk (fun hs hk=>(zav hs fun hc hs=>And.intro hc (zav hs fun hc hs=>And.intro hc (zav hs fun hc hs=>And.intro hc (zav hs fun hc hs=>And.intro hc (zav hs fun hc hs=>And.intro hc (zav hs fun hc hs=>And.intro hc (zav hs fun hc hs=>And.intro hc (zEX hX0 hX1 hX2 hX4 hs hk))))))))) (fun hs hk=>(zav hs fun hc hs=>And.intro hc (zav hs fun hc hs=>And.intro hc (zav hs fun hc hs=>And.intro hc (hX2 hs hk)))))))))) _ hs hk
def zwX (S0:Int→Nat→(Nat→Bool)→(Nat→Nat)→(Nat→List Int→Option (List Int))→(Sl Mp)) (S1:Int→Int→Nat→(Nat→Bool)→(Nat→Nat)→(Nat→List Int→Option (List Int))→(Sl Mp)) (S2:Int→Int→Int→Nat→(Nat→Bool)→(Nat→Nat)→(Nat→List Int→Option (List Int))→(Sl Mp)) (zaa:(Sl Gate)) (iv3:Int) (pv3:Int) (qv3:Int) (zgf:Nat) (zez:(Nat→Bool)) (zeA:(Nat→Nat)) (zgg:(Nat→List Int→Option (List Int))):(Sl Mp) :=
  (zwV S0 S1 S2 zaa qv3 iv3 pv3 (-1:Int) ((zaa.get ((w64 (iv3+(2:Int))).toNat)).Low) zgf zez zeA zgg)
def zwY (P0:Int→Nat→(Nat→Bool)→(Nat→Nat)→(Nat→List Int→Option (List Int))→Bool) (P1:Int→Int→Nat→(Nat→Bool)→(Nat→Nat)→(Nat→List Int→Option (List Int))→Bool) (P2:Int→Int→Int→Nat→(Nat→Bool)→(Nat→Nat)→(Nat→List Int→Option (List Int))→Bool) (zaa:(Sl Gate)) (iv3:Int) (pv3:Int) (qv3:Int) (zgf:Nat) (zez:(Nat→Bool)) (zeA:(Nat→Nat)) (zgg:(Nat→List Int→Option (List Int))):Bool :=
  (decide ((0≤(w64 (iv3+(2:Int)))∧(w64 (iv3+(2:Int))) < (zaa.len:Int))) &&
 (zwW P0 P1 P2 zaa qv3 iv3 pv3 (-1:Int) ((zaa.get ((w64 (iv3+(2:Int))).toNat)).Low) zgf zez zeA zgg))
theorem zEZ (hX0:zpB K zaa X0 P0 S0) (hX1:zsF K zaa X1 P1 S1) (hX2:zwO K zaa X2 P2 S2) (hs:zwY P0 P1 P2 zaa iv3 pv3 qv3 zgf zez zeA zgg=true) (hk:K (e93 (zwX S0 S1 S2 zaa iv3 pv3 qv3 zgf zez zeA zgg))):z93 K [1,1,1,0,1,0,0,1,0,0,1,1,0,0,1,0,0,1,0,0,1,0,0,1] [X0,X1,X2] ⟨[(0,zS enc_55 3 zaa),(3,zI (zaa.len:Int)),(4,zv 15),(5,zI iv3),(6,zI pv3),(7,zI qv3)],[(15,.vm 129 8 131 3 (true,2,false,[some .i64]) zgf zez zeA zgg)],[]⟩:=zay (by kernel_rfl) (zav hs fun hc hs=>And.intro hc (zEY hX0 hX1 hX2 hs hk))
def zwZ (S0:Int→Nat→(Nat→Bool)→(Nat→Nat)→(Nat→List Int→Option (List Int))→(Sl Mp)) (S1:Int→Int→Nat→(Nat→Bool)→(Nat→Nat)→(Nat→List Int→Option (List Int))→(Sl Mp)) (zaa:(Sl Gate)) (S2:Int→Int→Int→Nat→(Nat→Bool)→(Nat→Nat)→(Nat→List Int→Option (List Int))→(Sl Mp)) (iv2:Int) (pv2:Int) (qv2:Int) (zbs:Nat) (za4:(Nat→Bool)) (zaX:(Nat→Nat)) (zbk:(Nat→List Int→Option (List Int))):(Sl Mp) :=
  (cond (decide (qv2 ≤ (zaa.get ((w64 (iv2 + (1:Int))).toNat)).High))
 (cond (iv2 == (w64 ((zaa.len : Int) - (2:Int))))
 (S2 iv2 pv2 (w64 (qv2+(1:Int))) zbs za4 (zcP iv2.toNat (addN ((zbk iv2.toNat) [pv2,qv2]) (zaX iv2.toNat)) zaX) (zcP iv2.toNat (zkO [pv2,qv2] [(0:Int)] (zbk iv2.toNat)) zbk))
 (zwX S0 S1 S2 zaa iv2 pv2 qv2 zbs za4 zaX zbk))
 (S1 iv2 (w64 (pv2+(1:Int))) zbs za4 zaX zbk))
def zw0 (P0:Int→Nat→(Nat→Bool)→(Nat→Nat)→(Nat→List Int→Option (List Int))→Bool) (P1:Int→Int→Nat→(Nat→Bool)→(Nat→Nat)→(Nat→List Int→Option (List Int))→Bool) (zaa:(Sl Gate)) (P2:Int→Int→Int→Nat→(Nat→Bool)→(Nat→Nat)→(Nat→List Int→Option (List Int))→Bool) (iv2:Int) (pv2:Int) (qv2:Int) (zbs:Nat) (za4:(Nat→Bool)) (zaX:(Nat→Nat)) (zbk:(Nat→List Int→Option (List Int))):Bool :=
  (decide ((0≤(w64 (iv2+(1:Int)))∧(w64 (iv2+(1:Int))) < (zaa.len:Int))) &&
 (cond (decide (qv2 ≤ (zaa.get ((w64 (iv2 + (1:Int))).toNat)).High))
 (cond (iv2 == (w64 ((zaa.len : Int) - (2:Int))))
 (decide ((0≤iv2∧iv2 < (zbs:Int))) &&
 (decide ((iv2.toNat < zbs∧za4 iv2.toNat=true)) &&
 (decide ((iv2.toNat < zbs)) &&
 (P2 iv2 pv2 (w64 (qv2+(1:Int))) zbs za4 (zcP iv2.toNat (addN ((zbk iv2.toNat) [pv2,qv2]) (zaX iv2.toNat)) zaX) (zcP iv2.toNat (zkO [pv2,qv2] [(0:Int)] (zbk iv2.toNat)) zbk)))))
 (zwY P0 P1 P2 zaa iv2 pv2 qv2 zbs za4 zaX zbk))
 (P1 iv2 (w64 (pv2+(1:Int))) zbs za4 zaX zbk)))
def zw1 (S0:Int→Nat→(Nat→Bool)→(Nat→Nat)→(Nat→List Int→Option (List Int))→(Sl Mp)) (S1:Int→Int→Nat→(Nat→Bool)→(Nat→Nat)→(Nat→List Int→Option (List Int))→(Sl Mp)) (zaa:(Sl Gate)):Nat→Int→Int→Int→Nat→(Nat→Bool)→(Nat→Nat)→(Nat→List Int→Option (List Int))→(Sl Mp):=lpO (fun _ _ _ _ _ _ _=>default) (zwZ S0 S1 zaa)
def zw2 (P0:Int→Nat→(Nat→Bool)→(Nat→Nat)→(Nat→List Int→Option (List Int))→Bool) (P1:Int→Int→Nat→(Nat→Bool)→(Nat→Nat)→(Nat→List Int→Option (List Int))→Bool) (zaa:(Sl Gate)):Nat→Int→Int→Int→Nat→(Nat→Bool)→(Nat→Nat)→(Nat→List Int→Option (List Int))→Bool:=lpO (fun _ _ _ _ _ _ _=>false) (zw0 P0 P1 zaa)
def zw3 (S0:Int→Nat→(Nat→Bool)→(Nat→Nat)→(Nat→List Int→Option (List Int))→(Sl Mp)) (S1:Int→Int→Nat→(Nat→Bool)→(Nat→Nat)→(Nat→List Int→Option (List Int))→(Sl Mp)) (zaa:(Sl Gate)) (iv2:Int) (pv2:Int) (qv2:Int) (zbs:Nat) (za4:(Nat→Bool)) (zaX:(Nat→Nat)) (zbk:(Nat→List Int→Option (List Int))):(Sl Mp):=zw1 S0 S1 zaa Fuel iv2 pv2 qv2 zbs za4 zaX zbk
def zw4 (P0:Int→Nat→(Nat→Bool)→(Nat→Nat)→(Nat→List Int→Option (List Int))→Bool) (P1:Int→Int→Nat→(Nat→Bool)→(Nat→Nat)→(Nat→List Int→Option (List Int))→Bool) (zaa:(Sl Gate)) (iv2:Int) (pv2:Int) (qv2:Int) (zbs:Nat) (za4:(Nat→Bool)) (zaX:(Nat→Nat)) (zbk:(Nat→List Int→Option (List Int))):Bool:=zw2 P0 P1 zaa Fuel iv2 pv2 qv2 zbs za4 zaX zbk
theorem zE0 (hX0:zpB K zaa X0 P0 S0) (hX1:zsF K zaa X1 P1 S1) (hs:zw4 P0 P1 zaa iv2 pv2 qv2 zbs za4 zaX zbk=true) (hk:K (e93 (zw3 S0 S1 zaa iv2 pv2 qv2 zbs za4 zaX zbk))):z93 K [1,1,1,0,1,0,0,1,0,0,1,1,0,0,1,0,0,1,0] [X0,X1] (zB8 zaa iv2 pv2 qv2 zbs za4 zaX zbk) :=
  zl (fun X=>z93 K [1,1,1,0,1,0,0,1,0,0,1,1,0,0,1,0,0,1,0,0] [X0,X1,X]) (by kernel_rfl) fun X2 hX =>
  (show ∀ k, zwO K zaa X2 (zw2 P0 P1 zaa k) (zw1 S0 S1 zaa k) from zeK _ _ (zw0 P0 P1 zaa) (zwZ S0 S1 zaa) (zwO K zaa X2)
 (by intro _ _ _ _ _ _ _ hs;exact absurd hs Bool.false_ne_true)
 (by intro P2 S2 hX2 iv2 pv2 qv2 zbs za4 zaX zbk hs hk;exact hX _ (zay (by kernel_rfl) (zav hs fun hc hs=>And.intro hc (zc hs hk (fun hs hk=>(zc hs hk (fun hs hk=>(zav hs fun hc hs=>And.intro hc (zav hs fun hc hs=>And.intro hc (zav hs fun hc hs=>And.intro hc (hX2 hs hk))))) (fun hs hk=>(zEZ hX0 hX1 hX2 hs hk)))) (fun hs hk=>(hX1 hs hk))))))) _ hs hk
def zw5 (S0:Int→Nat→(Nat→Bool)→(Nat→Nat)→(Nat→List Int→Option (List Int))→(Sl Mp)) (zaa:(Sl Gate)) (S1:Int→Int→Nat→(Nat→Bool)→(Nat→Nat)→(Nat→List Int→Option (List Int))→(Sl Mp)) (iv1:Int) (pv1:Int) (zbO:Nat) (zbq:(Nat→Bool)) (zbr:(Nat→Nat)) (zbP:(Nat→List Int→Option (List Int))):(Sl Mp) :=
  (cond (decide (pv1 ≤ (zaa.get iv1.toNat).High))
 (zw3 S0 S1 zaa iv1 pv1 ((zaa.get ((w64 (iv1+(1:Int))).toNat)).Low) zbO zbq zbr zbP)
 (S0 (w64 (iv1 - (1:Int))) zbO zbq zbr zbP))
def zw6 (P0:Int→Nat→(Nat→Bool)→(Nat→Nat)→(Nat→List Int→Option (List Int))→Bool) (zaa:(Sl Gate)) (P1:Int→Int→Nat→(Nat→Bool)→(Nat→Nat)→(Nat→List Int→Option (List Int))→Bool) (iv1:Int) (pv1:Int) (zbO:Nat) (zbq:(Nat→Bool)) (zbr:(Nat→Nat)) (zbP:(Nat→List Int→Option (List Int))):Bool :=
  (decide ((0≤iv1∧iv1 < (zaa.len:Int))) &&
 (cond (decide (pv1 ≤ (zaa.get iv1.toNat).High))
 (decide ((0≤(w64 (iv1+(1:Int)))∧(w64 (iv1+(1:Int))) < (zaa.len:Int))) &&
 (zw4 P0 P1 zaa iv1 pv1 ((zaa.get ((w64 (iv1+(1:Int))).toNat)).Low) zbO zbq zbr zbP))
 (P0 (w64 (iv1 - (1:Int))) zbO zbq zbr zbP)))
def zw7 (S0:Int→Nat→(Nat→Bool)→(Nat→Nat)→(Nat→List Int→Option (List Int))→(Sl Mp)) (zaa:(Sl Gate)):Nat→Int→Int→Nat→(Nat→Bool)→(Nat→Nat)→(Nat→List Int→Option (List Int))→(Sl Mp):=lpO (fun _ _ _ _ _ _=>default) (zw5 S0 zaa)
def zw8 (P0:Int→Nat→(Nat→Bool)→(Nat→Nat)→(Nat→List Int→Option (List Int))→Bool) (zaa:(Sl Gate)):Nat→Int→Int→Nat→(Nat→Bool)→(Nat→Nat)→(Nat→List Int→Option (List Int))→Bool:=lpO (fun _ _ _ _ _ _=>false) (zw6 P0 zaa)
def zw9 (S0:Int→Nat→(Nat→Bool)→(Nat→Nat)→(Nat→List Int→Option (List Int))→(Sl Mp)) (zaa:(Sl Gate)) (iv1:Int) (pv1:Int) (zbO:Nat) (zbq:(Nat→Bool)) (zbr:(Nat→Nat)) (zbP:(Nat→List Int→Option (List Int))):(Sl Mp):=zw7 S0 zaa Fuel iv1 pv1 zbO zbq zbr zbP
def zxa (P0:Int→Nat→(Nat→Bool)→(Nat→Nat)→(Nat→List Int→Option (List Int))→Bool) (zaa:(Sl Gate)) (iv1:Int) (pv1:Int) (zbO:Nat) (zbq:(Nat→Bool)) (zbr:(Nat→Nat)) (zbP:(Nat→List Int→Option (List Int))):Bool:=zw8 P0 zaa Fuel iv1 pv1 zbO zbq zbr zbP
theorem zE1 (hX0:zpB K zaa X0 P0 S0) (hs:zxa P0 zaa iv1 pv1 zbO zbq zbr zbP=true) (hk:K (e93 (zw9 S0 zaa iv1 pv1 zbO zbq zbr zbP))):z93 K [1,1,1,0,1,0,0,1,0,0,1,1,0] [X0] (zB7 zaa iv1 pv1 zbO zbq zbr zbP) :=
  zl (fun X=>z93 K [1,1,1,0,1,0,0,1,0,0,1,1,0,0] [X0,X]) (by kernel_rfl) fun X1 hX =>
  (show ∀ k, zsF K zaa X1 (zw8 P0 zaa k) (zw7 S0 zaa k) from zeK _ _ (zw6 P0 zaa) (zw5 S0 zaa) (zsF K zaa X1)
 (by intro _ _ _ _ _ _ hs;exact absurd hs Bool.false_ne_true)
 (by intro P1 S1 hX1 iv1 pv1 zbO zbq zbr zbP hs hk;exact hX _ (zay (by kernel_rfl) (zav hs fun hc hs=>And.intro hc (zc hs hk (fun hs hk=>(zav hs fun hc hs=>And.intro hc (zE0 hX0 hX1 hs hk))) (fun hs hk=>(hX0 hs hk))))))) _ hs hk
def zxb (zaa:(Sl Gate)) (S0:Int→Nat→(Nat→Bool)→(Nat→Nat)→(Nat→List Int→Option (List Int))→(Sl Mp)) (iv0:Int) (zbH:Nat) (zbx:(Nat→Bool)) (zby:(Nat→Nat)) (zbW:(Nat→List Int→Option (List Int))):(Sl Mp) :=
  (cond (decide (iv0 ≥ (0:Int)))
 (zw9 S0 zaa iv0 ((zaa.get iv0.toNat).Low) zbH (zcP iv0.toNat true zbx) (zcP iv0.toNat 0 zby) (zcP iv0.toNat (fun _=>none) zbW))
 (⟨zbH,(fun i=>(⟨zby i,zbW i⟩:Mp))⟩:(Sl Mp)))
def zxc (zaa:(Sl Gate)) (P0:Int→Nat→(Nat→Bool)→(Nat→Nat)→(Nat→List Int→Option (List Int))→Bool) (iv0:Int) (zbH:Nat) (zbx:(Nat→Bool)) (zby:(Nat→Nat)) (zbW:(Nat→List Int→Option (List Int))):Bool :=
  (cond (decide (iv0 ≥ (0:Int)))
 (decide ((0≤iv0∧iv0 < (zbH:Int))) &&
 (decide ((iv0.toNat < zbH∧zbx iv0.toNat=false)) &&
 (decide ((0≤iv0∧iv0 < (zaa.len:Int))) &&
 (zxa P0 zaa iv0 ((zaa.get iv0.toNat).Low) zbH (zcP iv0.toNat true zbx) (zcP iv0.toNat 0 zby) (zcP iv0.toNat (fun _=>none) zbW)))))
 true)
def zxd (zaa:(Sl Gate)):Nat→Int→Nat→(Nat→Bool)→(Nat→Nat)→(Nat→List Int→Option (List Int))→(Sl Mp):=lpO (fun _ _ _ _ _=>default) (zxb zaa)
def zxe (zaa:(Sl Gate)):Nat→Int→Nat→(Nat→Bool)→(Nat→Nat)→(Nat→List Int→Option (List Int))→Bool:=lpO (fun _ _ _ _ _=>false) (zxc zaa)
def zxf (zaa:(Sl Gate)) (iv0:Int) (zbH:Nat) (zbx:(Nat→Bool)) (zby:(Nat→Nat)) (zbW:(Nat→List Int→Option (List Int))):(Sl Mp):=zxd zaa Fuel iv0 zbH zbx zby zbW
def zxg (zaa:(Sl Gate)) (iv0:Int) (zbH:Nat) (zbx:(Nat→Bool)) (zby:(Nat→Nat)) (zbW:(Nat→List Int→Option (List Int))):Bool:=zxe zaa Fuel iv0 zbH zbx zby zbW
theorem zE2 (hs:zxg zaa iv0 zbH zbx zby zbW=true) (hk:K (e93 (zxf zaa iv0 zbH zbx zby zbW))):z93 K [1,1,1,0,1,0] [] (zB6 zaa iv0 zbH zbx zby zbW) :=
  zl (fun X=>z93 K [1,1,1,0,1,0,0] [X]) (by kernel_rfl) fun X0 hX =>
  (show ∀ k, zpB K zaa X0 (zxe zaa k) (zxd zaa k) from zeK _ _ (zxc zaa) (zxb zaa) (zpB K zaa X0)
 (by intro _ _ _ _ _ hs;exact absurd hs Bool.false_ne_true)
 (by intro P0 S0 hX0 iv0 zbH zbx zby zbW hs hk;exact hX _ (zay (by kernel_rfl) (zc hs hk (fun hs hk=>(zav hs fun hc hs=>And.intro hc (zav hs fun hc hs=>And.intro hc (zav hs fun hc hs=>And.intro hc (zE1 hX0 hs hk))))) (fun hs hk=>hk))))) _ hs hk
def s93 (zaa:(Sl Gate)):(Sl Mp) :=
  (zxf zaa (w64 ((zaa.len:Int) - (2:Int))) ((w64 ((zaa.len:Int) - (1:Int))).toNat) (fun _=>false) (fun _=>0) (fun _ _=>none))
def p93 (zaa:(Sl Gate)):Bool :=
  (decide ((0≤(w64 ((zaa.len:Int) - (1:Int)))∧(w64 ((zaa.len:Int) - (1:Int)))=(w64 ((zaa.len:Int) - (1:Int)))∧(w64 ((zaa.len:Int) - (1:Int)))≤1000000)) &&
 (zxg zaa (w64 ((zaa.len:Int) - (2:Int))) ((w64 ((zaa.len:Int) - (1:Int))).toNat) (fun _=>false) (fun _=>0) (fun _ _=>none)))
end
theorem q93 (zaa:(Sl Gate)) (K:List PA→Prop) (hs:p93 zaa=true) (hk:K (e93 (s93 zaa))):vcFun Try.prog G93 zEV 93 [.one (.sl zaa.len 3 (fun i=>enc_55 (zaa.get i)))] K :=
  zay (by kernel_rfl) (zav hs fun hc hs=>And.intro hc (zE2 hs hk))
def zE3 : List PA → COut
  | [.one (.sl a0_n a0_s a0_g)]=>.det (IsE enc_55 3 a0_s a0_g∧p93 (⟨a0_n,zad a0_g⟩:(Sl Gate))=true) [.one (.sl ((s93 (⟨a0_n,zad a0_g⟩:(Sl Gate))).len) 1 (fun i=>zcD ((s93 (⟨a0_n,zad a0_g⟩:(Sl Gate))).get i)))]
  | _=>.no
theorem zIO:zaf Try.prog 93:=⟨_,rfl,rfl,by kernel_rfl⟩
theorem zOs:Ok Try.prog 93 zE3:=zaz zLF zIO fun args K h=>by
  unfold zE3 at h
  split at h
  · rename_i a0_n a0_s a0_g
    obtain ⟨⟨⟨rfl,a0_f,rfl⟩,hs⟩,hk⟩:=h
    try rw [zac a0_f] at hs
    try rw [zac a0_f] at hk
    exact ⟨(fun _ _=>[]),(fun l=>Nat.beq l 15 || Nat.beq l 24),zEV,q93 (⟨a0_n,a0_f⟩:(Sl Gate)) K hs hk⟩
  · exact h.elim
def zMS (a b:Int):List Int:=(List.range (b - a+1).toNat).map fun (i:Nat)=>a+i
def znS (zaa:Sl Gate):List (List Int):=(zMS (zaa.get 0).Low (zaa.get 0).High).flatMap fun p=>(zMS (zaa.get 1).Low (zaa.get 1).High).map fun q=>[p,q]
abbrev T55:Tabs:=(((Tabs.nil.addF 85 zAC).addF 92 zEU).addF 93 zE3)
theorem zLG:TabsOk Try.prog T55:=(((TabsOk.nil.addF zMR).addF zOr).addF zOs)
abbrev G55:Ctrs:=csm T55 (fun _ _=>[]) (fun _=>false)
def zaT:Ann:=⟨145,[(0,⟨[0],[],[],[],[],[],[]⟩),(1,⟨[0,18],[],[],[],[],[],[]⟩),(2,⟨[2,3,4],[],[],[],[],[],[]⟩),(3,⟨[0,5],[],[],[],[],[],[]⟩),(4,⟨[0,5,6],[],[],[],[],[],[]⟩),(5,⟨[0,5,6,24],[24],[],[],[],[],[]⟩),(6,⟨[0,5,6,24,26],[24],[],[],[],[],[]⟩),(7,⟨[0,5,6,8,24],[24],[],[],[],[],[]⟩),(8,⟨[0,5,6,8,24,35],[24],[],[],[],[],[]⟩),(9,⟨[0,5,6,24],[24],[],[],[],[],[]⟩),(10,⟨[0,5,6,9],[],[],[],[],[],[]⟩),(11,⟨[0,5,6,9,10],[],[],[],[],[],[]⟩),(12,⟨[0,5,6,9,10,46],[],[],[],[],[],[]⟩),(13,⟨[0,5,6,9,10],[],[],[],[],[],[]⟩),(14,⟨[0,5,6,9,10,11],[],[],[],[],[],[]⟩),(15,⟨[0,5,6,9,10,11,58],[],[],[],[],[],[]⟩),(16,⟨[0,5,6,9,10,11],[],[],[],[],[],[]⟩),(17,⟨[0,5,6,9,10,11,69],[],[],[],[],[],[]⟩),(18,⟨[0,5,6,9],[72],[],[],[],[],[]⟩),(19,⟨[0,5,6,9,12],[72],[],[],[],[],[]⟩),(20,⟨[0,5,6,9,12,76],[72],[],[],[],[],[]⟩),(21,⟨[0,5,6,9,12],[72],[],[],[],[],[]⟩),(22,⟨[0,5,6,9,12,13,14],[72],[],[],[],[],[]⟩),(23,⟨[0,5,6,9,12,13,14,15],[72],[],[],[],[],[]⟩),(24,⟨[0,5,6,9,12,13,14,15,100],[72],[],[],[],[],[]⟩),(25,⟨[0,5,6,9,12,13,14,15],[72],[],[],[],[],[]⟩),(26,⟨[0,5,6,9,12,13,14,15,138],[72],[],[],[],[],[]⟩),(27,⟨[0,5,6,9,12],[72],[],[],[],[],[]⟩),(28,⟨[2,3,4],[72],[],[],[],[],[]⟩)],
 [(6,⟨[0,5,6,24],[24],[],[],[],[],[]⟩),(12,⟨[0,5,6,9,10],[],[],[],[],[],[]⟩),(15,⟨[0,5,6,9,10,11],[],[],[],[],[],[]⟩),(20,⟨[0,5,6,9,12],[72],[],[],[],[],[]⟩),(24,⟨[0,5,6,9,12,13,14,15],[72],[],[],[],[],[]⟩)],
 [(2,⟨[0,18],[],[],[],[],[],[]⟩),(3,⟨[0],[],[],[],[],[],[]⟩),(4,⟨[0,5],[],[],[],[],[],[]⟩),(10,⟨[0,5,6],[],[],[],[],[],[]⟩),(19,⟨[0,5,6,9],[72],[(9,72,3,fun _=>zal default)],[],[],[],[]⟩),(27,⟨[0,5,6,9,12,13,14,15,138],[72],[],[],[],[],[]⟩)],
 [],[]⟩
def zIP (zaa:(Sl Gate)) (zgh:Bool):St:=⟨[(0,.one (.c (.p (.sl zaa.len 3 (fun i=>enc_55 (zaa.get i)))))),(18,.one (.c (.p (.bool zgh))))],[],[]⟩
def zmt (K:List PA→Prop) (zaa:(Sl Gate)) (zgh:Bool):Prop:=vc Try.prog G55 zaT (cdF Try.f55 [1,0,0,1]) (sqK Try.prog G55 zaT (cdF Try.f55 [1,0,1]) (zb9 (zco Try.prog Try.f55 K))) (zIP zaa zgh)
def zIQ (zaa:(Sl Gate)):St:=⟨[(0,.one (.c (.p (.sl zaa.len 3 (fun i=>enc_55 (zaa.get i))))))],[],[]⟩
def zmu (K:List PA→Prop) (zaa:(Sl Gate)):Prop:=vc Try.prog G55 zaT (cdF Try.f55 [1,0,1]) (zb9 (zco Try.prog Try.f55 K)) (zIQ zaa)
def zIR (zaa:(Sl Gate)) (zj3:Nat) (zec:Nat→List PV):St:=⟨[(0,.one (.c (.p (.sl zaa.len 3 (fun i=>enc_55 (zaa.get i)))))),(5,.one (.c (.p (.sl zj3 1 zec))))],[],[]⟩
def zmv (K:List PA→Prop) (zaa:(Sl Gate)) (zj3:Nat) (zec:Nat→List PV):Prop:=vc Try.prog G55 zaT (cdF Try.f55 [1,0,1,1]) (zb9 (zco Try.prog Try.f55 K)) (zIR zaa zj3 zec)
def zgZ (zaa:(Sl Gate)) (zab:(Sl Mp)) (zba:(List (List Int))) (zaC:Int):St:=⟨[(0,.one (.c (.p (.sl zaa.len 3 (fun i=>enc_55 (zaa.get i)))))),(5,.one (.c (.p (.sl zab.len 1 (fun i=>zcD (zab.get i)))))),(6,.one (.c (.p (.int .i64 zaC)))),(24,.one (.c (.ptr 24 0)))],[(24,.mit (true,2,false,[some .i64]) ((zab.get 0).n) ((zab.get 0).F) zba)],[]⟩
def zj4 (K:List PA→Prop) (zaa:(Sl Gate)) (zab:(Sl Mp)) (zba:(List (List Int))) (zaC:Int):Prop:=vc Try.prog G55 zaT (cdF Try.f55 [1,0,1,1,1,0,1,0]) (zaY 0 (sqK Try.prog G55 zaT (cdF Try.f55 [1,0,1,1,1,1]) (zb9 (zco Try.prog Try.f55 K)))) (zgZ zaa zab zba zaC)
def zIS (zaa:(Sl Gate)) (zab:(Sl Mp)) (zdd:Int):St:=⟨[(0,.one (.c (.p (.sl zaa.len 3 (fun i=>enc_55 (zaa.get i)))))),(5,.one (.c (.p (.sl zab.len 1 (fun i=>zcD (zab.get i)))))),(6,.one (.c (.p (.int .i64 zdd))))],[],[]⟩
def zmw (K:List PA→Prop) (zaa:(Sl Gate)) (zab:(Sl Mp)) (zdd:Int):Prop:=vc Try.prog G55 zaT (cdF Try.f55 [1,0,1,1,1,1]) (zb9 (zco Try.prog Try.f55 K)) (zIS zaa zab zdd)
def zis (zaa:(Sl Gate)) (zab:(Sl Mp)) (zaO:Int) (pv5:Int):St:=⟨[(0,.one (.c (.p (.sl zaa.len 3 (fun i=>enc_55 (zaa.get i)))))),(5,.one (.c (.p (.sl zab.len 1 (fun i=>zcD (zab.get i)))))),(6,.one (.c (.p (.int .i64 zaO)))),(9,.one (.c (.p (.nils)))),(10,.one (.c (.p (.int .i64 pv5))))],[],[]⟩
def zj5 (K:List PA→Prop) (zaa:(Sl Gate)) (zab:(Sl Mp)) (zaO:Int) (pv5:Int):Prop:=vc Try.prog G55 zaT (cdF Try.f55 [1,0,1,1,1,1,1,1,0,1,0]) (zaY 2 (sqK Try.prog G55 zaT (cdF Try.f55 [1,0,1,1,1,1,1,1,1]) (zb9 (zco Try.prog Try.f55 K)))) (zis zaa zab zaO pv5)
def zj6 (zaa:(Sl Gate)) (zab:(Sl Mp)) (zaI:Int) (pv6:Int) (qv6:Int):St:=⟨[(0,.one (.c (.p (.sl zaa.len 3 (fun i=>enc_55 (zaa.get i)))))),(5,.one (.c (.p (.sl zab.len 1 (fun i=>zcD (zab.get i)))))),(6,.one (.c (.p (.int .i64 zaI)))),(9,.one (.c (.p (.nils)))),(10,.one (.c (.p (.int .i64 pv6)))),(11,.one (.c (.p (.int .i64 qv6))))],[],[]⟩
def zj7 (K:List PA→Prop) (X5:St→Prop) (zaa:(Sl Gate)) (zab:(Sl Mp)) (zaI:Int) (pv6:Int) (qv6:Int):Prop:=vc Try.prog G55 zaT (cdF Try.f55 [1,0,1,1,1,1,1,1,0,1,0,0,1,0,0,1,0]) (zaY 4 (zaY 3 (sqK Try.prog G55 zaT (cdF Try.f55 [1,0,1,1,1,1,1,1,0,1,0,0,1,1]) (zdR Try.prog zaT 12 X5 (zaY 2 (sqK Try.prog G55 zaT (cdF Try.f55 [1,0,1,1,1,1,1,1,1]) (zb9 (zco Try.prog Try.f55 K)))))))) (zj6 zaa zab zaI pv6 qv6)
def zIT (zaa:(Sl Gate)) (zab:(Sl Mp)) (zde:Int) (zpC:Nat) (zhL:Nat→List PV):St:=⟨[(0,.one (.c (.p (.sl zaa.len 3 (fun i=>enc_55 (zaa.get i)))))),(5,.one (.c (.p (.sl zab.len 1 (fun i=>zcD (zab.get i)))))),(6,.one (.c (.p (.int .i64 zde)))),(9,.one (.c (.vec 72)))],[(72,.vec 3 1 8 zpC zhL)],[]⟩
def zj8 (K:List PA→Prop) (zaa:(Sl Gate)) (zab:(Sl Mp)) (zde:Int) (zpC:Nat) (zhL:Nat→List PV):Prop:=vc Try.prog G55 zaT (cdF Try.f55 [1,0,1,1,1,1,1,1,1]) (zb9 (zco Try.prog Try.f55 K)) (zIT zaa zab zde zpC zhL)
def zfT (zaa:(Sl Gate)) (zab:(Sl Mp)) (zaL:Int) (iv8:Int) (ze7:Nat) (zbz:Nat→List PV):St:=⟨[(0,.one (.c (.p (.sl zaa.len 3 (fun i=>enc_55 (zaa.get i)))))),(5,.one (.c (.p (.sl zab.len 1 (fun i=>zcD (zab.get i)))))),(6,.one (.c (.p (.int .i64 zaL)))),(9,.one (.c (.vec 72))),(12,.one (.c (.p (.int .i64 iv8))))],[(72,.vec 3 1 8 ze7 zbz)],[]⟩
def zj9 (K:List PA→Prop) (zaa:(Sl Gate)) (zab:(Sl Mp)) (zaL:Int) (iv8:Int) (ze7:Nat) (zbz:Nat→List PV):Prop:=vc Try.prog G55 zaT (cdF Try.f55 [1,0,1,1,1,1,1,1,1,0,1,0]) (zaY 6 (sqK Try.prog G55 zaT (cdF Try.f55 [1,0,1,1,1,1,1,1,1,1]) (zb9 (zco Try.prog Try.f55 K)))) (zfT zaa zab zaL iv8 ze7 zbz)
def zit (zaa:(Sl Gate)) (zab:(Sl Mp)) (zaA:Int) (iv9:Int) (pv9:Int) (qv9:Int) (rv9:Int) (ze8:Nat) (zbI:Nat→List PV):St:=⟨[(0,.one (.c (.p (.sl zaa.len 3 (fun i=>enc_55 (zaa.get i)))))),(5,.one (.c (.p (.sl zab.len 1 (fun i=>zcD (zab.get i)))))),(6,.one (.c (.p (.int .i64 zaA)))),(9,.one (.c (.vec 72))),(12,.one (.c (.p (.int .i64 iv9)))),(13,.one (.c (.p (.int .i64 pv9)))),(14,.one (.c (.p (.int .i64 qv9)))),(15,.one (.c (.p (.int .i64 rv9))))],[(72,.vec 3 1 8 ze8 zbI)],[]⟩
def zka (K:List PA→Prop) (X8:St→Prop) (zaa:(Sl Gate)) (zab:(Sl Mp)) (zaA:Int) (iv9:Int) (pv9:Int) (qv9:Int) (rv9:Int) (ze8:Nat) (zbI:Nat→List PV):Prop:=vc Try.prog G55 zaT (cdF Try.f55 [1,0,1,1,1,1,1,1,1,0,1,0,0,1,0,0,1,1,0]) (zaY 8 (zaY 7 (sqK Try.prog G55 zaT (cdF Try.f55 [1,0,1,1,1,1,1,1,1,0,1,0,0,1,1]) (zdR Try.prog zaT 20 X8 (zaY 6 (sqK Try.prog G55 zaT (cdF Try.f55 [1,0,1,1,1,1,1,1,1,1]) (zb9 (zco Try.prog Try.f55 K)))))))) (zit zaa zab zaA iv9 pv9 qv9 rv9 ze8 zbI)
def zE4 (zaa:(Sl Gate)) (zab:(Sl Mp)) (zbQ:Int) (zha:Int) (zn8:Int) (zn9:Int) (zkC:Int) (zct:Bool) (zmx:Nat) (zfD:Nat→List PV):St:=⟨[(0,.one (.c (.p (.sl zaa.len 3 (fun i=>enc_55 (zaa.get i)))))),(5,.one (.c (.p (.sl zab.len 1 (fun i=>zcD (zab.get i)))))),(6,.one (.c (.p (.int .i64 zbQ)))),(9,.one (.c (.vec 72))),(12,.one (.c (.p (.int .i64 zha)))),(13,.one (.c (.p (.int .i64 zn8)))),(14,.one (.c (.p (.int .i64 zn9)))),(15,.one (.c (.p (.int .i64 zkC)))),(138,.one (.c (.p (.bool zct))))],[(72,.vec 3 1 8 zmx zfD)],[]⟩
def zg0 (K:List PA→Prop) (X8:St→Prop) (X9:St→Prop) (zaa:(Sl Gate)) (zab:(Sl Mp)) (zbQ:Int) (zha:Int) (zn8:Int) (zn9:Int) (zkC:Int) (zct:Bool) (zmx:Nat) (zfD:Nat→List PV):Prop:=vc Try.prog G55 zaT (cdF Try.f55 [1,0,1,1,1,1,1,1,1,0,1,0,0,1,0,0,1,1,0,0,1,0,0,1]) (zaY 9 (sqK Try.prog G55 zaT (cdF Try.f55 [1,0,1,1,1,1,1,1,1,0,1,0,0,1,0,0,1,1,0,0,1,1]) (zdR Try.prog zaT 24 X9 (zaY 8 (zaY 7 (sqK Try.prog G55 zaT (cdF Try.f55 [1,0,1,1,1,1,1,1,1,0,1,0,0,1,1]) (zdR Try.prog zaT 20 X8 (zaY 6 (sqK Try.prog G55 zaT (cdF Try.f55 [1,0,1,1,1,1,1,1,1,1]) (zb9 (zco Try.prog Try.f55 K))))))))))) (zE4 zaa zab zbQ zha zn8 zn9 zkC zct zmx zfD)
theorem zE5 (zaa : (Sl Gate)) (K : List PA → Prop) :
  vcFun Try.prog G55 zaT 55 [.one (.sl zaa.len 3 (fun i=>enc_55 (zaa.get i)))] K =
  ((IsE enc_55 3 3 (fun i=>enc_55 (zaa.get i))∧(p92 zaa=true)) ∧
 (zmt K zaa (!(s92 zaa)))):=by kernel_rfl
theorem zE6 (K : List PA → Prop) (zaa : (Sl Gate)) (zgh : Bool) :
  zmt K zaa zgh =
  (zcX zgh
 (K [.one (.nils),.one (.int .i64 (0:Int)),.one (.int .i64 (2:Int))])
 (zmu K zaa)):=by kernel_rfl
theorem zE7 (K : List PA → Prop) (zaa : (Sl Gate)) :
  zmu K zaa =
  ((IsE enc_55 3 3 (fun i=>enc_55 (zaa.get i))∧(p93 zaa=true)) ∧
 (zmv K zaa ((s93 zaa).len) (fun i=>zcD ((s93 zaa).get i)))):=by kernel_rfl
theorem zE8 (K : List PA → Prop) (zaa : (Sl Gate)) (zab : (Sl Mp)) :
  zmv K zaa zab.len (fun i=>zcD (zab.get i)) =
  (((0≤(0:Int)∧(0:Int) < (zab.len:Int))) ∧
 (zj4 K zaa zab ([]) (-1:Int))):=by kernel_rfl
def znT (K:List PA→Prop) (X3:St→Prop) (zaa:(Sl Gate)) (zab:(Sl Mp)) (zba:(List (List Int))) (zaC:Int):Prop :=
  (zGU 2 ((zab.get 0).n) ((zab.get 0).F) →
 ((∀ c:List Int,c.length=2→((zab.get 0).F) c ≠ none→c∈zba) →
 (zmw K zaa zab zaC))∧∀ k24_0 k24_1:Int,((zab.get 0).F) [k24_0,k24_1] ≠ none→[k24_0,k24_1] ∉ zba →
 (zcX (decide (zaC < (0:Int)))
 (X3 (zgZ zaa zab ([k24_0,k24_1] :: zba) (zdM (((zab.get 0).F) [k24_0,k24_1]) 0)))
 (zcX (decide ((zdM (((zab.get 0).F) [k24_0, k24_1]) 0) < zaC))
 (X3 (zgZ zaa zab ([k24_0,k24_1] :: zba) (zdM (((zab.get 0).F) [k24_0,k24_1]) 0)))
 (X3 (zgZ zaa zab ([k24_0,k24_1] :: zba) zaC)))))
theorem zpD (K : List PA → Prop) (X3 : St → Prop) (zaa : (Sl Gate)) (zab : (Sl Mp)) (zba : (List (List Int))) (zaC : Int) :
  vc Try.prog G55 zaT (cd (cdF Try.f55 [1,0,1,1,1,0,1,0]) [0]) (zdR Try.prog zaT 6 X3 (zaY 0 (sqK Try.prog G55 zaT (cdF Try.f55 [1,0,1,1,1,1]) (zb9 (zco Try.prog Try.f55 K))))) (zgZ zaa zab zba zaC) =
  znT K X3 zaa zab zba zaC:=by kernel_rfl
theorem zxh (K : List PA → Prop) (zaa : (Sl Gate)) (zab : (Sl Mp)) (zba : (List (List Int))) (zaC : Int)
  (h:∀ X3:St→Prop,(∀ (zba:(List (List Int))) (zaC:Int),znT K X3 zaa zab zba zaC→X3 (zgZ zaa zab zba zaC))→X3 (zgZ zaa zab zba zaC)) :
  zj4 K zaa zab zba zaC:=by
  have e:zj4 K zaa zab zba zaC=(∀ X:St→Prop,(∀ s,vc Try.prog G55 zaT (cd (cdF Try.f55 [1,0,1,1,1,0,1,0]) [0]) (zdR Try.prog zaT 6 X (zaY 0 (sqK Try.prog G55 zaT (cdF Try.f55 [1,0,1,1,1,1]) (zb9 (zco Try.prog Try.f55 K))))) s→X s)→X (zgZ zaa zab zba zaC)):=by kernel_rfl
  refine zay e ?_
  intro X hX
  refine h X ?_
  intro zba zaC hs
  refine hX _ ?_
  have e2:=zpD K X zaa zab zba zaC
  rw [e2]
  exact hs
theorem zE9 (K : List PA → Prop) (zaa : (Sl Gate)) (zab : (Sl Mp)) (zdd : Int) :
  zmw K zaa zab zdd =
  (((0≤(0:Int)∧(0:Int) < (zaa.len:Int))) ∧
 (zj5 K zaa zab zdd ((zaa.get 0).Low))):=by kernel_rfl
def znU (K:List PA→Prop) (X5:St→Prop) (zaa:(Sl Gate)) (zab:(Sl Mp)) (zaO:Int) (pv5:Int):Prop :=
  (((0≤(0:Int)∧(0:Int) < (zaa.len:Int))) ∧
 (zcX (decide (pv5 ≤ (zaa.get 0).High))
 (((0≤(1:Int)∧(1:Int) < (zaa.len:Int))) ∧
 (zj7 K X5 zaa zab zaO pv5 ((zaa.get 1).Low)))
 (zj8 K zaa zab zaO 0 (fun i=>zal ((fun _=>default) i)))))
theorem zpE (K : List PA → Prop) (X5 : St → Prop) (zaa : (Sl Gate)) (zab : (Sl Mp)) (zaO : Int) (pv5 : Int) :
  vc Try.prog G55 zaT (cd (cdF Try.f55 [1,0,1,1,1,1,1,1,0,1,0]) [0]) (zdR Try.prog zaT 12 X5 (zaY 2 (sqK Try.prog G55 zaT (cdF Try.f55 [1,0,1,1,1,1,1,1,1]) (zb9 (zco Try.prog Try.f55 K))))) (zis zaa zab zaO pv5) =
  znU K X5 zaa zab zaO pv5:=by kernel_rfl
theorem zxi (K : List PA → Prop) (zaa : (Sl Gate)) (zab : (Sl Mp)) (zaO : Int) (pv5 : Int)
  (h:∀ X5:St→Prop,(∀ (zaO:Int) (pv5:Int),znU K X5 zaa zab zaO pv5→X5 (zis zaa zab zaO pv5))→X5 (zis zaa zab zaO pv5)) :
  zj5 K zaa zab zaO pv5:=by
  have e:zj5 K zaa zab zaO pv5=(∀ X:St→Prop,(∀ s,vc Try.prog G55 zaT (cd (cdF Try.f55 [1,0,1,1,1,1,1,1,0,1,0]) [0]) (zdR Try.prog zaT 12 X (zaY 2 (sqK Try.prog G55 zaT (cdF Try.f55 [1,0,1,1,1,1,1,1,1]) (zb9 (zco Try.prog Try.f55 K))))) s→X s)→X (zis zaa zab zaO pv5)):=by kernel_rfl
  refine zay e ?_
  intro X hX
  refine h X ?_
  intro zaO pv5 hs
  refine hX _ ?_
  have e2:=zpE K X zaa zab zaO pv5
  rw [e2]
  exact hs
def znV (K:List PA→Prop) (X5:St→Prop) (X6:St→Prop) (zaa:(Sl Gate)) (zab:(Sl Mp)) (zaI:Int) (pv6:Int) (qv6:Int):Prop :=
  (((0≤(1:Int)∧(1:Int) < (zaa.len:Int))) ∧
 (zcX (decide (qv6 ≤ (zaa.get 1).High))
 (((0≤(0:Int)∧(0:Int) < (zab.len:Int))) ∧
 (zcX ((zdM (((zab.get 0).F) [pv6, qv6]) 0) == zaI)
 (zj8 K zaa zab zaI 2 (zdf [(zal pv6),(zal qv6)]))
 (X6 (zj6 zaa zab zaI pv6 (w64 (qv6+(1:Int)))))))
 (X5 (zis zaa zab zaI (w64 (pv6+(1:Int)))))))
theorem zpF (K : List PA → Prop) (X5 : St → Prop) (X6 : St → Prop) (zaa : (Sl Gate)) (zab : (Sl Mp)) (zaI : Int) (pv6 : Int) (qv6 : Int) :
  vc Try.prog G55 zaT (cd (cdF Try.f55 [1,0,1,1,1,1,1,1,0,1,0,0,1,0,0,1,0]) [0]) (zdR Try.prog zaT 15 X6 (zaY 4 (zaY 3 (sqK Try.prog G55 zaT (cdF Try.f55 [1,0,1,1,1,1,1,1,0,1,0,0,1,1]) (zdR Try.prog zaT 12 X5 (zaY 2 (sqK Try.prog G55 zaT (cdF Try.f55 [1,0,1,1,1,1,1,1,1]) (zb9 (zco Try.prog Try.f55 K))))))))) (zj6 zaa zab zaI pv6 qv6) =
  znV K X5 X6 zaa zab zaI pv6 qv6:=by kernel_rfl
theorem zxj (K : List PA → Prop) (X5 : St → Prop) (zaa : (Sl Gate)) (zab : (Sl Mp)) (zaI : Int) (pv6 : Int) (qv6 : Int)
  (h:∀ X6:St→Prop,(∀ (zaI:Int) (pv6:Int) (qv6:Int),znV K X5 X6 zaa zab zaI pv6 qv6→X6 (zj6 zaa zab zaI pv6 qv6))→X6 (zj6 zaa zab zaI pv6 qv6)) :
  zj7 K X5 zaa zab zaI pv6 qv6:=by
  have e:zj7 K X5 zaa zab zaI pv6 qv6=(∀ X:St→Prop,(∀ s,vc Try.prog G55 zaT (cd (cdF Try.f55 [1,0,1,1,1,1,1,1,0,1,0,0,1,0,0,1,0]) [0]) (zdR Try.prog zaT 15 X (zaY 4 (zaY 3 (sqK Try.prog G55 zaT (cdF Try.f55 [1,0,1,1,1,1,1,1,0,1,0,0,1,1]) (zdR Try.prog zaT 12 X5 (zaY 2 (sqK Try.prog G55 zaT (cdF Try.f55 [1,0,1,1,1,1,1,1,1]) (zb9 (zco Try.prog Try.f55 K))))))))) s→X s)→X (zj6 zaa zab zaI pv6 qv6)):=by kernel_rfl
  refine zay e ?_
  intro X hX
  refine h X ?_
  intro zaI pv6 qv6 hs
  refine hX _ ?_
  have e2:=zpF K X5 X zaa zab zaI pv6 qv6
  rw [e2]
  exact hs
theorem zFa (K : List PA → Prop) (zaa : (Sl Gate)) (zab : (Sl Mp)) (zde : Int) (zfM : (Sl Int)) :
  zj8 K zaa zab zde zfM.len (fun i=>zal (zfM.get i)) =
  (zj9 K zaa zab zde (2:Int) zfM.len (fun i=>zal (zfM.get i))):=by kernel_rfl
def znW (K:List PA→Prop) (X8:St→Prop) (zaa:(Sl Gate)) (zab:(Sl Mp)) (zaL:Int) (iv8:Int) (zaS:(Sl Int)):Prop :=
  (zcX (decide (iv8 < (zaa.len : Int)))
 (((0≤(w64 (iv8 - (2:Int)))∧(w64 (iv8 - (2:Int))) < (zaS.len:Int))) ∧
 ((((w64 (iv8 - (2:Int))).toNat < zaS.len)) ∧
 (((0≤(w64 (iv8 - (1:Int)))∧(w64 (iv8 - (1:Int))) < (zaS.len:Int))) ∧
 ((((w64 (iv8 - (1:Int))).toNat < zaS.len)) ∧
 (((0≤iv8∧iv8 < (zaa.len:Int))) ∧
 (zka K X8 zaa zab zaL iv8 (zaS.get ((w64 (iv8 - (2:Int))).toNat)) (zaS.get ((w64 (iv8 - (1:Int))).toNat)) ((zaa.get iv8.toNat).Low) zaS.len (fun i=>zal (zaS.get i))))))))
 (K [.one (.sl zaS.len 1 (fun i=>zal (zaS.get i))),.one (.int .i64 zaL),.one (.int .i64 (0:Int))]))
theorem zpG (K : List PA → Prop) (X8 : St → Prop) (zaa : (Sl Gate)) (zab : (Sl Mp)) (zaL : Int) (iv8 : Int) (zaS : (Sl Int)) :
  vc Try.prog G55 zaT (cd (cdF Try.f55 [1,0,1,1,1,1,1,1,1,0,1,0]) [0]) (zdR Try.prog zaT 20 X8 (zaY 6 (sqK Try.prog G55 zaT (cdF Try.f55 [1,0,1,1,1,1,1,1,1,1]) (zb9 (zco Try.prog Try.f55 K))))) (zfT zaa zab zaL iv8 zaS.len (fun i=>zal (zaS.get i))) =
  znW K X8 zaa zab zaL iv8 zaS:=by kernel_rfl
theorem zxk (K : List PA → Prop) (zaa : (Sl Gate)) (zab : (Sl Mp)) (zaL : Int) (iv8 : Int) (ze7 : Nat) (zbz : Nat → List PV)
  (h:∀ X8:St→Prop,(∀ (zaL:Int) (iv8:Int) (zaS:(Sl Int)),znW K X8 zaa zab zaL iv8 zaS→X8 (zfT zaa zab zaL iv8 zaS.len (fun i=>zal (zaS.get i))))→X8 (zfT zaa zab zaL iv8 ze7 zbz)) :
  zj9 K zaa zab zaL iv8 ze7 zbz:=by
  have e:zj9 K zaa zab zaL iv8 ze7 zbz=(∀ X:St→Prop,(∀ s,vc Try.prog G55 zaT (cd (cdF Try.f55 [1,0,1,1,1,1,1,1,1,0,1,0]) [0]) (zdR Try.prog zaT 20 X (zaY 6 (sqK Try.prog G55 zaT (cdF Try.f55 [1,0,1,1,1,1,1,1,1,1]) (zb9 (zco Try.prog Try.f55 K))))) s→X s)→X (zfT zaa zab zaL iv8 ze7 zbz)):=by kernel_rfl
  refine zay e ?_
  intro X hX
  refine h X ?_
  intro zaL iv8 zaS hs
  refine hX _ ?_
  have e2:=zpG K X zaa zab zaL iv8 zaS
  rw [e2]
  exact hs
def znX (K:List PA→Prop) (X8:St→Prop) (X9:St→Prop) (zaa:(Sl Gate)) (zab:(Sl Mp)) (zaA:Int) (iv9:Int) (pv9:Int) (qv9:Int) (rv9:Int) (zbc:(Sl Int)):Prop :=
  (((0≤iv9∧iv9 < (zaa.len:Int))) ∧
 (zcX (decide (rv9 ≤ (zaa.get iv9.toNat).High))
 (((0≤(w64 (iv9 - (2:Int)))∧(w64 (iv9 - (2:Int))) < (zaa.len:Int))) ∧
 (((0≤(w64 (iv9 - (1:Int)))∧(w64 (iv9 - (1:Int))) < (zaa.len:Int))) ∧
 (((0≤iv9∧iv9 < (zaa.len:Int))) ∧
 (((p85 ((zaa.get ((w64 (iv9 - (2:Int))).toNat)).Z) ((zaa.get ((w64 (iv9 - (1:Int))).toNat)).Z) ((zaa.get iv9.toNat).Z) pv9 qv9 rv9=true)) ∧
 (zcX (decide ((s85 ((zaa.get ((w64 (iv9 - (2:Int))).toNat)).Z) ((zaa.get ((w64 (iv9 - (1:Int))).toNat)).Z) ((zaa.get iv9.toNat).Z) pv9 qv9 rv9) ≤ zaA))
 (((0≤(w64 (iv9 - (1:Int)))∧(w64 (iv9 - (1:Int))) < (zab.len:Int))) ∧
 (zg0 K X8 X9 zaa zab zaA iv9 pv9 qv9 rv9 (decide ((zdM (((zab.get ((w64 (iv9 - (1:Int))).toNat)).F) [qv9,rv9]) 0)≤zaA)) zbc.len (fun i=>zal (zbc.get i))))
 (zg0 K X8 X9 zaa zab zaA iv9 pv9 qv9 rv9 false zbc.len (fun i=>zal (zbc.get i))))))))
 (X8 (zfT zaa zab zaA (w64 (iv9+(1:Int))) zbc.len (fun i=>zal (zbc.get i))))))
theorem zpH (K : List PA → Prop) (X8 : St → Prop) (X9 : St → Prop) (zaa : (Sl Gate)) (zab : (Sl Mp)) (zaA : Int) (iv9 : Int) (pv9 : Int) (qv9 : Int) (rv9 : Int) (zbc : (Sl Int)) :
  vc Try.prog G55 zaT (cd (cdF Try.f55 [1,0,1,1,1,1,1,1,1,0,1,0,0,1,0,0,1,1,0]) [0]) (zdR Try.prog zaT 24 X9 (zaY 8 (zaY 7 (sqK Try.prog G55 zaT (cdF Try.f55 [1,0,1,1,1,1,1,1,1,0,1,0,0,1,1]) (zdR Try.prog zaT 20 X8 (zaY 6 (sqK Try.prog G55 zaT (cdF Try.f55 [1,0,1,1,1,1,1,1,1,1]) (zb9 (zco Try.prog Try.f55 K))))))))) (zit zaa zab zaA iv9 pv9 qv9 rv9 zbc.len (fun i=>zal (zbc.get i))) =
  znX K X8 X9 zaa zab zaA iv9 pv9 qv9 rv9 zbc:=by kernel_rfl
theorem zxl (K : List PA → Prop) (X8 : St → Prop) (zaa : (Sl Gate)) (zab : (Sl Mp)) (zaA : Int) (iv9 : Int) (pv9 : Int) (qv9 : Int) (rv9 : Int) (ze8 : Nat) (zbI : Nat → List PV)
  (h:∀ X9:St→Prop,(∀ (zaA:Int) (iv9:Int) (pv9:Int) (qv9:Int) (rv9:Int) (zbc:(Sl Int)),znX K X8 X9 zaa zab zaA iv9 pv9 qv9 rv9 zbc→X9 (zit zaa zab zaA iv9 pv9 qv9 rv9 zbc.len (fun i=>zal (zbc.get i))))→X9 (zit zaa zab zaA iv9 pv9 qv9 rv9 ze8 zbI)) :
  zka K X8 zaa zab zaA iv9 pv9 qv9 rv9 ze8 zbI:=by
  have e:zka K X8 zaa zab zaA iv9 pv9 qv9 rv9 ze8 zbI=(∀ X:St→Prop,(∀ s,vc Try.prog G55 zaT (cd (cdF Try.f55 [1,0,1,1,1,1,1,1,1,0,1,0,0,1,0,0,1,1,0]) [0]) (zdR Try.prog zaT 24 X (zaY 8 (zaY 7 (sqK Try.prog G55 zaT (cdF Try.f55 [1,0,1,1,1,1,1,1,1,0,1,0,0,1,1]) (zdR Try.prog zaT 20 X8 (zaY 6 (sqK Try.prog G55 zaT (cdF Try.f55 [1,0,1,1,1,1,1,1,1,1]) (zb9 (zco Try.prog Try.f55 K))))))))) s→X s)→X (zit zaa zab zaA iv9 pv9 qv9 rv9 ze8 zbI)):=by kernel_rfl
  refine zay e ?_
  intro X hX
  refine h X ?_
  intro zaA iv9 pv9 qv9 rv9 zbc hs
  refine hX _ ?_
  have e2:=zpH K X8 X zaa zab zaA iv9 pv9 qv9 rv9 zbc
  rw [e2]
  exact hs
theorem zAD (K : List PA → Prop) (X8 : St → Prop) (X9 : St → Prop) (zaa : (Sl Gate)) (zab : (Sl Mp)) (zbQ : Int) (zha : Int) (zn8 : Int) (zn9 : Int) (zkC : Int) (zct : Bool) (zbm : (Sl Int)) :
  zg0 K X8 X9 zaa zab zbQ zha zn8 zn9 zkC zct zbm.len (fun i=>zal (zbm.get i)) =
  (zcX zct
 ((((zbm.len+1) * 8≤140737488355328∧zbm.len+1≤9223372036854775807)) ∧
 (X8 (zfT zaa zab zbQ (w64 (zha+(1:Int))) (zbm.len+1) (appG zbm.len (fun i=>zal (zbm.get i)) (fun _=>(zal zkC))))))
 (X9 (zit zaa zab zbQ zha zn8 zn9 (w64 (zkC+(1:Int))) zbm.len (fun i=>zal (zbm.get i))))):=by kernel_rfl
abbrev e55 (r:((Sl Int)×Int×Int)):List PA:=[.one (.sl r.1.len 1 (fun i=>zal (r.1.get i))),.one (.int .i64 r.2.1),.one (.int .i64 r.2.2)]
attribute [irreducible] zmt zmu zmv zj4 zmw zj5 zj7 zj8 zj9 zka zg0
def ziW (S8:Int→Int→(Sl Int)→((Sl Int)×Int×Int)) (S9:Int→Int→Int→Int→Int→(Sl Int)→((Sl Int)×Int×Int)) (zaa:(Sl Gate)) (zab:(Sl Mp)) (zbQ:Int) (zha:Int) (zn8:Int) (zn9:Int) (zkC:Int) (zct:Bool) (zbm:(Sl Int)):((Sl Int)×Int×Int) :=
  (cond zct
 (S8 zbQ (w64 (zha+(1:Int))) (⟨(zbm.len+1),(zdA zbm.len zbm.get (fun _=>zkC))⟩:Sl Int))
 (S9 zbQ zha zn8 zn9 (w64 (zkC+(1:Int))) zbm))
def ziX (P8:Int→Int→(Sl Int)→Bool) (P9:Int→Int→Int→Int→Int→(Sl Int)→Bool) (zaa:(Sl Gate)) (zab:(Sl Mp)) (zbQ:Int) (zha:Int) (zn8:Int) (zn9:Int) (zkC:Int) (zct:Bool) (zbm:(Sl Int)):Bool :=
  (cond zct
 (decide (((zbm.len+1) * 8≤140737488355328∧zbm.len+1≤9223372036854775807)) &&
 (P8 zbQ (w64 (zha+(1:Int))) (⟨(zbm.len+1),(zdA zbm.len zbm.get (fun _=>zkC))⟩:Sl Int)))
 (P9 zbQ zha zn8 zn9 (w64 (zkC+(1:Int))) zbm))
theorem zrI (K : List PA → Prop) (zaa : (Sl Gate)) (zab : (Sl Mp))
  (X8:St→Prop) (P8:Int→Int→(Sl Int)→Bool) (S8:Int→Int→(Sl Int)→((Sl Int)×Int×Int))
  (hX8:∀ (zaL:Int) (iv8:Int) (zaS:(Sl Int)) (zbz:Nat→List PV) (zgi:zbz=fun i=>zal (zaS.get i)),P8 zaL iv8 zaS=true→K (e55 (S8 zaL iv8 zaS))→X8 (zfT zaa zab zaL iv8 zaS.len zbz))
  (X9:St→Prop) (P9:Int→Int→Int→Int→Int→(Sl Int)→Bool) (S9:Int→Int→Int→Int→Int→(Sl Int)→((Sl Int)×Int×Int))
  (hX9:∀ (zaA:Int) (iv9:Int) (pv9:Int) (qv9:Int) (rv9:Int) (zbc:(Sl Int)) (zbI:Nat→List PV) (zhM:zbI=fun i=>zal (zbc.get i)),P9 zaA iv9 pv9 qv9 rv9 zbc=true→K (e55 (S9 zaA iv9 pv9 qv9 rv9 zbc))→X9 (zit zaa zab zaA iv9 pv9 qv9 rv9 zbc.len zbI)) (zbQ:Int) (zha:Int) (zn8:Int) (zn9:Int) (zkC:Int) (zct:Bool) (zbm:(Sl Int)) (zfD:Nat→List PV) (zAE:zfD=fun i=>zal (zbm.get i)) (hs:ziX P8 P9 zaa zab zbQ zha zn8 zn9 zkC zct zbm=true) (hk:K (e55 (ziW S8 S9 zaa zab zbQ zha zn8 zn9 zkC zct zbm))):zg0 (Wk K) X8 X9 zaa zab zbQ zha zn8 zn9 zkC zct zbm.len zfD:=by
  subst zAE
  refine zay (zAD (Wk K) X8 X9 zaa zab zbQ zha zn8 zn9 zkC zct zbm) ?_
  unfold ziX at hs
  unfold ziW at hk
  exact (zch (K := fun r => K (e55 r))
 (fun hs hk=>(zav hs fun hc hs=>⟨hc,(hX8 zbQ (w64 (zha+(1:Int))) (⟨(zbm.len+1),(zdA zbm.len zbm.get (fun _=>zkC))⟩:Sl Int) (appG zbm.len (fun i=>zal (zbm.get i)) (fun _=>(zal zkC))) (zeH (enc:=zal) (f:=zbm.get) (h:=(fun _=>zkC)) rfl rfl) hs hk)⟩))
 (fun hs hk=>(hX9 zbQ zha zn8 zn9 (w64 (zkC+(1:Int))) zbm (fun i=>zal (zbm.get i)) rfl hs hk)) hs hk)
def zpI (S8:Int→Int→(Sl Int)→((Sl Int)×Int×Int)) (zaa:(Sl Gate)) (zab:(Sl Mp)) (S9:Int→Int→Int→Int→Int→(Sl Int)→((Sl Int)×Int×Int)) (zaA:Int) (iv9:Int) (pv9:Int) (qv9:Int) (rv9:Int) (zbc:(Sl Int)):((Sl Int)×Int×Int) :=
  (cond (decide (rv9 ≤ (zaa.get iv9.toNat).High))
 (cond (decide ((s85 ((zaa.get ((w64 (iv9 - (2:Int))).toNat)).Z) ((zaa.get ((w64 (iv9 - (1:Int))).toNat)).Z) ((zaa.get iv9.toNat).Z) pv9 qv9 rv9) ≤ zaA))
 (ziW S8 S9 zaa zab zaA iv9 pv9 qv9 rv9 (decide ((zdM (((zab.get ((w64 (iv9 - (1:Int))).toNat)).F) [qv9,rv9]) 0)≤zaA)) zbc)
 (ziW S8 S9 zaa zab zaA iv9 pv9 qv9 rv9 false zbc))
 (S8 zaA (w64 (iv9+(1:Int))) zbc))
def zpJ (P8:Int→Int→(Sl Int)→Bool) (zaa:(Sl Gate)) (zab:(Sl Mp)) (P9:Int→Int→Int→Int→Int→(Sl Int)→Bool) (zaA:Int) (iv9:Int) (pv9:Int) (qv9:Int) (rv9:Int) (zbc:(Sl Int)):Bool :=
  (decide ((0≤iv9∧iv9 < (zaa.len:Int))) &&
 (cond (decide (rv9 ≤ (zaa.get iv9.toNat).High))
 (decide ((0≤(w64 (iv9 - (2:Int)))∧(w64 (iv9 - (2:Int))) < (zaa.len:Int))) &&
 (decide ((0≤(w64 (iv9 - (1:Int)))∧(w64 (iv9 - (1:Int))) < (zaa.len:Int))) &&
 (decide ((0≤iv9∧iv9 < (zaa.len:Int))) &&
 (decide ((p85 ((zaa.get ((w64 (iv9 - (2:Int))).toNat)).Z) ((zaa.get ((w64 (iv9 - (1:Int))).toNat)).Z) ((zaa.get iv9.toNat).Z) pv9 qv9 rv9=true)) &&
 (cond (decide ((s85 ((zaa.get ((w64 (iv9 - (2:Int))).toNat)).Z) ((zaa.get ((w64 (iv9 - (1:Int))).toNat)).Z) ((zaa.get iv9.toNat).Z) pv9 qv9 rv9) ≤ zaA))
 (decide ((0≤(w64 (iv9 - (1:Int)))∧(w64 (iv9 - (1:Int))) < (zab.len:Int))) &&
 (ziX P8 P9 zaa zab zaA iv9 pv9 qv9 rv9 (decide ((zdM (((zab.get ((w64 (iv9 - (1:Int))).toNat)).F) [qv9,rv9]) 0)≤zaA)) zbc))
 (ziX P8 P9 zaa zab zaA iv9 pv9 qv9 rv9 false zbc))))))
 (P8 zaA (w64 (iv9+(1:Int))) zbc)))
def zkb (S8 : Int → Int → (Sl Int) → ((Sl Int) × Int × Int)) (zaa : (Sl Gate)) (zab : (Sl Mp)) : Nat → Int → Int → Int → Int → Int → (Sl Int) → ((Sl Int) × Int × Int)
  | 0=>fun _ _ _ _ _ _=>default
  | k+1=>zpI S8 zaa zab (zkb S8 zaa zab k)
def zkc (P8 : Int → Int → (Sl Int) → Bool) (zaa : (Sl Gate)) (zab : (Sl Mp)) : Nat → Int → Int → Int → Int → Int → (Sl Int) → Bool
  | 0=>fun _ _ _ _ _ _=>false
  | k+1=>zpJ P8 zaa zab (zkc P8 zaa zab k)
def zxm (S8:Int→Int→(Sl Int)→((Sl Int)×Int×Int)) (zaa:(Sl Gate)) (zab:(Sl Mp)) (zaA:Int) (iv9:Int) (pv9:Int) (qv9:Int) (rv9:Int) (zbc:(Sl Int)):((Sl Int)×Int×Int):=zkb S8 zaa zab Fuel zaA iv9 pv9 qv9 rv9 zbc
def zxn (P8:Int→Int→(Sl Int)→Bool) (zaa:(Sl Gate)) (zab:(Sl Mp)) (zaA:Int) (iv9:Int) (pv9:Int) (qv9:Int) (rv9:Int) (zbc:(Sl Int)):Bool:=zkc P8 zaa zab Fuel zaA iv9 pv9 qv9 rv9 zbc
theorem zFb (K : List PA → Prop) (zaa : (Sl Gate)) (zab : (Sl Mp))
  (X8:St→Prop) (P8:Int→Int→(Sl Int)→Bool) (S8:Int→Int→(Sl Int)→((Sl Int)×Int×Int))
  (hX8:∀ (zaL:Int) (iv8:Int) (zaS:(Sl Int)) (zbz:Nat→List PV) (zgi:zbz=fun i=>zal (zaS.get i)),P8 zaL iv8 zaS=true→K (e55 (S8 zaL iv8 zaS))→X8 (zfT zaa zab zaL iv8 zaS.len zbz)) (zaA:Int) (iv9:Int) (pv9:Int) (qv9:Int) (rv9:Int) (zbc:(Sl Int)) (zbI:Nat→List PV) (zhM:zbI=fun i=>zal (zbc.get i)) (hs:zxn P8 zaa zab zaA iv9 pv9 qv9 rv9 zbc=true) (hk:K (e55 (zxm S8 zaa zab zaA iv9 pv9 qv9 rv9 zbc))):zka (Wk K) X8 zaa zab zaA iv9 pv9 qv9 rv9 zbc.len zbI:=by
  refine zxl (Wk K) X8 zaa zab zaA iv9 pv9 qv9 rv9 zbc.len zbI ?_
  intro X9 hstep
  have key:∀ (k:Nat) (zaA:Int) (iv9:Int) (pv9:Int) (qv9:Int) (rv9:Int) (zbc:(Sl Int)) (zbI:Nat→List PV) (zhM:zbI=fun i=>zal (zbc.get i)),zkc P8 zaa zab k zaA iv9 pv9 qv9 rv9 zbc=true→K (e55 (zkb S8 zaa zab k zaA iv9 pv9 qv9 rv9 zbc))→X9 (zit zaa zab zaA iv9 pv9 qv9 rv9 zbc.len zbI):=by
    intro k
    induction k with
    | zero=>intro zaA iv9 pv9 qv9 rv9 zbc zbI zhM hs;exact absurd hs Bool.false_ne_true
    | succ k ih =>
      intro zaA iv9 pv9 qv9 rv9 zbc zbI zhM hs hk
      subst zhM
      refine hstep zaA iv9 pv9 qv9 rv9 zbc ?_
      have hs:zpJ P8 zaa zab (zkc P8 zaa zab k) zaA iv9 pv9 qv9 rv9 zbc=true:=hs
      have hk:K (e55 (zpI S8 zaa zab (zkb S8 zaa zab k) zaA iv9 pv9 qv9 rv9 zbc)):=hk
      unfold zpJ at hs
      unfold zpI at hk
      generalize zkb S8 zaa zab k=S9 at hk ih
      generalize zkc P8 zaa zab k=P9 at hs ih
      have hX9:=ih
      exact (zav hs fun hc hs => ⟨hc, (zch (K := fun r => K (e55 r))
 (fun hs hk => (zav hs fun hc hs => ⟨hc, (zav hs fun hc hs => ⟨hc, (zav hs fun hc hs => ⟨hc, (zav hs fun hc hs => ⟨hc, (zch (K := fun r => K (e55 r))
 (fun hs hk=>(zav hs fun hc hs=>⟨hc,(zrI K zaa zab X8 P8 S8 hX8 X9 P9 S9 hX9 zaA iv9 pv9 qv9 rv9 (decide ((zdM (((zab.get ((w64 (iv9 - (1:Int))).toNat)).F) [qv9,rv9]) 0)≤zaA)) zbc (fun i=>zal (zbc.get i)) rfl hs hk)⟩))
 (fun hs hk=>(zrI K zaa zab X8 P8 S8 hX8 X9 P9 S9 hX9 zaA iv9 pv9 qv9 rv9 false zbc (fun i=>zal (zbc.get i)) rfl hs hk)) hs hk)⟩)⟩)⟩)⟩))
 (fun hs hk=>(hX8 zaA (w64 (iv9+(1:Int))) zbc (fun i=>zal (zbc.get i)) rfl hs hk)) hs hk)⟩)
  exact key _ zaA iv9 pv9 qv9 rv9 zbc zbI zhM hs hk
def zpK (zaa:(Sl Gate)) (zab:(Sl Mp)) (S8:Int→Int→(Sl Int)→((Sl Int)×Int×Int)) (zaL:Int) (iv8:Int) (zaS:(Sl Int)):((Sl Int)×Int×Int) :=
  (cond (decide (iv8 < (zaa.len : Int)))
 (zxm S8 zaa zab zaL iv8 (zaS.get ((w64 (iv8 - (2:Int))).toNat)) (zaS.get ((w64 (iv8 - (1:Int))).toNat)) ((zaa.get iv8.toNat).Low) zaS)
 (zaS,zaL,(0:Int)))
def zpL (zaa:(Sl Gate)) (zab:(Sl Mp)) (P8:Int→Int→(Sl Int)→Bool) (zaL:Int) (iv8:Int) (zaS:(Sl Int)):Bool :=
  (cond (decide (iv8 < (zaa.len : Int)))
 (decide ((0≤(w64 (iv8 - (2:Int)))∧(w64 (iv8 - (2:Int))) < (zaS.len:Int))) &&
 (decide (((w64 (iv8 - (2:Int))).toNat < zaS.len)) &&
 (decide ((0≤(w64 (iv8 - (1:Int)))∧(w64 (iv8 - (1:Int))) < (zaS.len:Int))) &&
 (decide (((w64 (iv8 - (1:Int))).toNat < zaS.len)) &&
 (decide ((0≤iv8∧iv8 < (zaa.len:Int))) &&
 (zxn P8 zaa zab zaL iv8 (zaS.get ((w64 (iv8 - (2:Int))).toNat)) (zaS.get ((w64 (iv8 - (1:Int))).toNat)) ((zaa.get iv8.toNat).Low) zaS))))))
 true)
def zkd (zaa : (Sl Gate)) (zab : (Sl Mp)) : Nat → Int → Int → (Sl Int) → ((Sl Int) × Int × Int)
  | 0=>fun _ _ _=>default
  | k+1=>zpK zaa zab (zkd zaa zab k)
def zke (zaa : (Sl Gate)) (zab : (Sl Mp)) : Nat → Int → Int → (Sl Int) → Bool
  | 0=>fun _ _ _=>false
  | k+1=>zpL zaa zab (zke zaa zab k)
def zxo (zaa:(Sl Gate)) (zab:(Sl Mp)) (zaL:Int) (iv8:Int) (zaS:(Sl Int)):((Sl Int)×Int×Int):=zkd zaa zab Fuel zaL iv8 zaS
def zxp (zaa:(Sl Gate)) (zab:(Sl Mp)) (zaL:Int) (iv8:Int) (zaS:(Sl Int)):Bool:=zke zaa zab Fuel zaL iv8 zaS
theorem zFc (K:List PA→Prop) (zaa:(Sl Gate)) (zab:(Sl Mp)) (zaL:Int) (iv8:Int) (zaS:(Sl Int)) (zbz:Nat→List PV) (zgi:zbz=fun i=>zal (zaS.get i)) (hs:zxp zaa zab zaL iv8 zaS=true) (hk:K (e55 (zxo zaa zab zaL iv8 zaS))):zj9 (Wk K) zaa zab zaL iv8 zaS.len zbz:=by
  refine zxk (Wk K) zaa zab zaL iv8 zaS.len zbz ?_
  intro X8 hstep
  have key:∀ (k:Nat) (zaL:Int) (iv8:Int) (zaS:(Sl Int)) (zbz:Nat→List PV) (zgi:zbz=fun i=>zal (zaS.get i)),zke zaa zab k zaL iv8 zaS=true→K (e55 (zkd zaa zab k zaL iv8 zaS))→X8 (zfT zaa zab zaL iv8 zaS.len zbz):=by
    intro k
    induction k with
    | zero=>intro zaL iv8 zaS zbz zgi hs;exact absurd hs Bool.false_ne_true
    | succ k ih =>
      intro zaL iv8 zaS zbz zgi hs hk
      subst zgi
      refine hstep zaL iv8 zaS ?_
      have hs:zpL zaa zab (zke zaa zab k) zaL iv8 zaS=true:=hs
      have hk:K (e55 (zpK zaa zab (zkd zaa zab k) zaL iv8 zaS)):=hk
      unfold zpL at hs
      unfold zpK at hk
      generalize zkd zaa zab k=S8 at hk ih
      generalize zke zaa zab k=P8 at hs ih
      have hX8:=ih
      exact (zch (K := fun r => K (e55 r))
 (fun hs hk=>(zav hs fun hc hs=>⟨hc,(zav hs fun hc hs=>⟨hc,(zav hs fun hc hs=>⟨hc,(zav hs fun hc hs=>⟨hc,(zav hs fun hc hs=>⟨hc,(zFb K zaa zab X8 P8 S8 hX8 zaL iv8 (zaS.get ((w64 (iv8 - (2:Int))).toNat)) (zaS.get ((w64 (iv8 - (1:Int))).toNat)) ((zaa.get iv8.toNat).Low) zaS (fun i=>zal (zaS.get i)) rfl hs hk)⟩)⟩)⟩)⟩)⟩))
 (fun hs hk=>(zd4 hk)) hs hk)
  exact key _ zaL iv8 zaS zbz zgi hs hk
def zmy (zaa:(Sl Gate)) (zab:(Sl Mp)) (zde:Int) (zfM:(Sl Int)):((Sl Int)×Int×Int) :=
  (zxo zaa zab zde (2:Int) zfM)
def zmz (zaa:(Sl Gate)) (zab:(Sl Mp)) (zde:Int) (zfM:(Sl Int)):Bool :=
  (zxp zaa zab zde (2:Int) zfM)
theorem zxq (K:List PA→Prop) (zaa:(Sl Gate)) (zab:(Sl Mp)) (zde:Int) (zfM:(Sl Int)) (zhL:Nat→List PV) (zFd:zhL=fun i=>zal (zfM.get i)) (hs:zmz zaa zab zde zfM=true) (hk:K (e55 (zmy zaa zab zde zfM))):zj8 (Wk K) zaa zab zde zfM.len zhL:=by
  subst zFd
  refine zay (zFa (Wk K) zaa zab zde zfM) ?_
  unfold zmz at hs
  unfold zmy at hk
  exact (zFc K zaa zab zde (2:Int) zfM (fun i=>zal (zfM.get i)) rfl hs hk)
def zpM (S5:Int→Int→((Sl Int)×Int×Int)) (zaa:(Sl Gate)) (zab:(Sl Mp)) (S6:Int→Int→Int→((Sl Int)×Int×Int)) (zaI:Int) (pv6:Int) (qv6:Int):((Sl Int)×Int×Int) :=
  (cond (decide (qv6 ≤ (zaa.get 1).High))
 (cond ((zdM (((zab.get 0).F) [pv6, qv6]) 0) == zaI)
 (zmy zaa zab zaI (⟨2,(ziZ pv6 [pv6,qv6])⟩:Sl Int))
 (S6 zaI pv6 (w64 (qv6+(1:Int)))))
 (S5 zaI (w64 (pv6+(1:Int)))))
def zpN (P5:Int→Int→Bool) (zaa:(Sl Gate)) (zab:(Sl Mp)) (P6:Int→Int→Int→Bool) (zaI:Int) (pv6:Int) (qv6:Int):Bool :=
  (decide ((0≤(1:Int)∧(1:Int) < (zaa.len:Int))) &&
 (cond (decide (qv6 ≤ (zaa.get 1).High))
 (decide ((0≤(0:Int)∧(0:Int) < (zab.len:Int))) &&
 (cond ((zdM (((zab.get 0).F) [pv6, qv6]) 0) == zaI)
 (zmz zaa zab zaI (⟨2,(ziZ pv6 [pv6,qv6])⟩:Sl Int))
 (P6 zaI pv6 (w64 (qv6+(1:Int))))))
 (P5 zaI (w64 (pv6+(1:Int))))))
def zkf (S5 : Int → Int → ((Sl Int) × Int × Int)) (zaa : (Sl Gate)) (zab : (Sl Mp)) : Nat → Int → Int → Int → ((Sl Int) × Int × Int)
  | 0=>fun _ _ _=>default
  | k+1=>zpM S5 zaa zab (zkf S5 zaa zab k)
def zkg (P5 : Int → Int → Bool) (zaa : (Sl Gate)) (zab : (Sl Mp)) : Nat → Int → Int → Int → Bool
  | 0=>fun _ _ _=>false
  | k+1=>zpN P5 zaa zab (zkg P5 zaa zab k)
def zxr (S5:Int→Int→((Sl Int)×Int×Int)) (zaa:(Sl Gate)) (zab:(Sl Mp)) (zaI:Int) (pv6:Int) (qv6:Int):((Sl Int)×Int×Int):=zkf S5 zaa zab Fuel zaI pv6 qv6
def zxs (P5:Int→Int→Bool) (zaa:(Sl Gate)) (zab:(Sl Mp)) (zaI:Int) (pv6:Int) (qv6:Int):Bool:=zkg P5 zaa zab Fuel zaI pv6 qv6
theorem zFe (K : List PA → Prop) (zaa : (Sl Gate)) (zab : (Sl Mp))
  (X5:St→Prop) (P5:Int→Int→Bool) (S5:Int→Int→((Sl Int)×Int×Int))
  (hX5:∀ (zaO:Int) (pv5:Int),P5 zaO pv5=true→K (e55 (S5 zaO pv5))→X5 (zis zaa zab zaO pv5)) (zaI:Int) (pv6:Int) (qv6:Int) (hs:zxs P5 zaa zab zaI pv6 qv6=true) (hk:K (e55 (zxr S5 zaa zab zaI pv6 qv6))):zj7 (Wk K) X5 zaa zab zaI pv6 qv6:=by
  refine zxj (Wk K) X5 zaa zab zaI pv6 qv6 ?_
  intro X6 hstep
  have key:∀ (k:Nat) (zaI:Int) (pv6:Int) (qv6:Int),zkg P5 zaa zab k zaI pv6 qv6=true→K (e55 (zkf S5 zaa zab k zaI pv6 qv6))→X6 (zj6 zaa zab zaI pv6 qv6):=by
    intro k
    induction k with
    | zero=>intro zaI pv6 qv6 hs;exact absurd hs Bool.false_ne_true
    | succ k ih =>
      intro zaI pv6 qv6 hs hk
      refine hstep zaI pv6 qv6 ?_
      have hs:zpN P5 zaa zab (zkg P5 zaa zab k) zaI pv6 qv6=true:=hs
      have hk:K (e55 (zpM S5 zaa zab (zkf S5 zaa zab k) zaI pv6 qv6)):=hk
      unfold zpN at hs
      unfold zpM at hk
      generalize zkf S5 zaa zab k=S6 at hk ih
      generalize zkg P5 zaa zab k=P6 at hs ih
      have hX6:=ih
      exact (zav hs fun hc hs => ⟨hc, (zch (K := fun r => K (e55 r))
 (fun hs hk => (zav hs fun hc hs => ⟨hc, (zch (K := fun r => K (e55 r))
 (fun hs hk=>(zxq K zaa zab zaI (⟨2,(ziZ pv6 [pv6,qv6])⟩:Sl Int) (zdf [(zal pv6),(zal qv6)]) (zep (enc:=zal) (x:=pv6) (y:=qv6) (r:=[])) hs hk))
 (fun hs hk=>(hX6 zaI pv6 (w64 (qv6+(1:Int))) hs hk)) hs hk)⟩))
 (fun hs hk=>(hX5 zaI (w64 (pv6+(1:Int))) hs hk)) hs hk)⟩)
  exact key _ zaI pv6 qv6 hs hk
def zpO (zaa:(Sl Gate)) (zab:(Sl Mp)) (S5:Int→Int→((Sl Int)×Int×Int)) (zaO:Int) (pv5:Int):((Sl Int)×Int×Int) :=
  (cond (decide (pv5 ≤ (zaa.get 0).High))
 (zxr S5 zaa zab zaO pv5 ((zaa.get 1).Low))
 (zmy zaa zab zaO (⟨0,(fun _=>default)⟩:Sl Int)))
def zpP (zaa:(Sl Gate)) (zab:(Sl Mp)) (P5:Int→Int→Bool) (zaO:Int) (pv5:Int):Bool :=
  (decide ((0≤(0:Int)∧(0:Int) < (zaa.len:Int))) &&
 (cond (decide (pv5 ≤ (zaa.get 0).High))
 (decide ((0≤(1:Int)∧(1:Int) < (zaa.len:Int))) &&
 (zxs P5 zaa zab zaO pv5 ((zaa.get 1).Low)))
 (zmz zaa zab zaO (⟨0,(fun _=>default)⟩:Sl Int))))
def zkh (zaa : (Sl Gate)) (zab : (Sl Mp)) : Nat → Int → Int → ((Sl Int) × Int × Int)
  | 0=>fun _ _=>default
  | k+1=>zpO zaa zab (zkh zaa zab k)
def zki (zaa : (Sl Gate)) (zab : (Sl Mp)) : Nat → Int → Int → Bool
  | 0=>fun _ _=>false
  | k+1=>zpP zaa zab (zki zaa zab k)
def zxt (zaa:(Sl Gate)) (zab:(Sl Mp)) (zaO:Int) (pv5:Int):((Sl Int)×Int×Int):=zkh zaa zab Fuel zaO pv5
def zxu (zaa:(Sl Gate)) (zab:(Sl Mp)) (zaO:Int) (pv5:Int):Bool:=zki zaa zab Fuel zaO pv5
theorem zFf (K:List PA→Prop) (zaa:(Sl Gate)) (zab:(Sl Mp)) (zaO:Int) (pv5:Int) (hs:zxu zaa zab zaO pv5=true) (hk:K (e55 (zxt zaa zab zaO pv5))):zj5 (Wk K) zaa zab zaO pv5:=by
  refine zxi (Wk K) zaa zab zaO pv5 ?_
  intro X5 hstep
  have key:∀ (k:Nat) (zaO:Int) (pv5:Int),zki zaa zab k zaO pv5=true→K (e55 (zkh zaa zab k zaO pv5))→X5 (zis zaa zab zaO pv5):=by
    intro k
    induction k with
    | zero=>intro zaO pv5 hs;exact absurd hs Bool.false_ne_true
    | succ k ih =>
      intro zaO pv5 hs hk
      refine hstep zaO pv5 ?_
      have hs:zpP zaa zab (zki zaa zab k) zaO pv5=true:=hs
      have hk:K (e55 (zpO zaa zab (zkh zaa zab k) zaO pv5)):=hk
      unfold zpP at hs
      unfold zpO at hk
      generalize zkh zaa zab k=S5 at hk ih
      generalize zki zaa zab k=P5 at hs ih
      have hX5:=ih
      exact (zav hs fun hc hs => ⟨hc, (zch (K := fun r => K (e55 r))
 (fun hs hk=>(zav hs fun hc hs=>⟨hc,(zFe K zaa zab X5 P5 S5 hX5 zaO pv5 ((zaa.get 1).Low) hs hk)⟩))
 (fun hs hk=>(zxq K zaa zab zaO (⟨0,(fun _=>default)⟩:Sl Int) (fun i=>zal ((fun _=>default) i)) rfl hs hk)) hs hk)⟩)
  exact key _ zaO pv5 hs hk
def zpQ (zaa:(Sl Gate)) (zab:(Sl Mp)) (zdd:Int):((Sl Int)×Int×Int) :=
  (zxt zaa zab zdd ((zaa.get 0).Low))
def zpR (zaa:(Sl Gate)) (zab:(Sl Mp)) (zdd:Int):Bool :=
  (decide ((0≤(0:Int)∧(0:Int) < (zaa.len:Int))) &&
 (zxu zaa zab zdd ((zaa.get 0).Low)))
theorem zFg (K:List PA→Prop) (zaa:(Sl Gate)) (zab:(Sl Mp)) (zdd:Int) (hs:zpR zaa zab zdd=true) (hk:K (e55 (zpQ zaa zab zdd))):zmw (Wk K) zaa zab zdd:=by
  refine zay (zE9 (Wk K) zaa zab zdd) ?_
  unfold zpR at hs
  unfold zpQ at hk
  exact (zav hs fun hc hs=>⟨hc,(zFf K zaa zab zdd ((zaa.get 0).Low) hs hk)⟩)
def zmA (zaa:(Sl Gate)) (zab:(Sl Mp)) (zaC:Int):((Sl Int)×Int×Int) :=
  (zpQ zaa zab zaC)
def zmB (zaa:(Sl Gate)) (zab:(Sl Mp)) (zaC:Int):Bool :=
  (zpR zaa zab zaC)
def zkj (zaa:(Sl Gate)) (zab:(Sl Mp)) (k24_0:Int) (k24_1:Int) (S3:Int→((Sl Int)×Int×Int)) (zaC:Int):((Sl Int)×Int×Int) :=
  (cond (decide (zaC < (0:Int)))
 (S3 (zdM (((zab.get 0).F) [k24_0,k24_1]) 0))
 (cond (decide ((zdM (((zab.get 0).F) [k24_0, k24_1]) 0) < zaC))
 (S3 (zdM (((zab.get 0).F) [k24_0,k24_1]) 0))
 (S3 zaC)))
def zkk (zaa:(Sl Gate)) (zab:(Sl Mp)) (k24_0:Int) (k24_1:Int) (P3:Int→Bool) (zaC:Int):Bool :=
  (cond (decide (zaC < (0:Int)))
 (P3 (zdM (((zab.get 0).F) [k24_0,k24_1]) 0))
 (cond (decide ((zdM (((zab.get 0).F) [k24_0, k24_1]) 0) < zaC))
 (P3 (zdM (((zab.get 0).F) [k24_0,k24_1]) 0))
 (P3 zaC)))
def zeB (zaa : (Sl Gate)) (zab : (Sl Mp)) : List (List Int) → Int → ((Sl Int) × Int × Int)
  | []=>zmA zaa zab
  | y :: r=>zkj zaa zab (y.getD 0 0) (y.getD 1 0) (zeB zaa zab r)
def zeC (zaa : (Sl Gate)) (zab : (Sl Mp)) : List (List Int) → Int → Bool
  | []=>zmB zaa zab
  | y :: r=>zkk zaa zab (y.getD 0 0) (y.getD 1 0) (zeC zaa zab r)
def ze9 (_gates:Sl Gate) (t:Sl Mp) (ys:List (List Int)):Bool:=ys.all fun y=>decide (0≤zdM ((t.get 0).F y) 0)
theorem zFh (zaa:Sl Gate) (t:Sl Mp):∀ (y:List Int) (r:List (List Int)),ze9 zaa t (y :: r)=true→ze9 zaa t r=true:=fun y r h=>by
  simp only [ze9,List.all_cons,Bool.and_eq_true] at h ⊢;exact h.2
def kst (F:List Int→Option (List Int)) (k:Int) (y:List Int):Int:=if k < 0 then zdM (F y) 0 else if zdM (F y) 0 < k then zdM (F y) 0 else k
theorem zrJ (F:List Int→Option (List Int)) {ys zs:List (List Int)} (h:∀ y∈ys,0≤zdM (F y) 0) (hp:ys.Perm zs) (k:Int):ys.foldl (kst F) k=zs.foldl (kst F) k:=by
  refine hp.foldl_eq' (fun x hx y hy z=>?_) k
  have h1:=h x hx
  have h2:=h y hy
  unfold kst
  repeat' split
  all_goals omega
theorem zpS (zaa : Sl Gate) (t : Sl Mp) : ∀ (ys : List (List Int)) (k : Int), (∀ y ∈ ys, y.length = 2) → zeB zaa t ys k = zmA zaa t (ys.foldl (kst (t.get 0).F) k)
  | [],k,_=>rfl
  | y :: r,k,h=>by
    have hy:=h y List.mem_cons_self
    match y,hy with
    | [a,b],_ =>
    have ih:=fun k=>zpS zaa t r k (fun z hz=>h z (List.mem_cons_of_mem _ hz))
    show zkj zaa t a b (zeB zaa t r) k=_
    rw [List.foldl_cons]
    unfold zkj
    by_cases h1:k < 0
    · rw [decide_eq_true h1,cond_true,ih,show kst (t.get 0).F k [a,b]=zdM ((t.get 0).F [a,b]) 0 from if_pos h1]
    · rw [decide_eq_false h1, cond_false]
      by_cases h2:zdM ((t.get 0).F [a,b]) 0 < k
      · rw [decide_eq_true h2,cond_true,ih,show kst (t.get 0).F k [a,b]=zdM ((t.get 0).F [a,b]) 0 from (if_neg h1).trans (if_pos h2)]
      · rw [decide_eq_false h2,cond_false,ih,show kst (t.get 0).F k [a,b]=k from (if_neg h1).trans (if_neg h2)]
theorem zpT (zaa : Sl Gate) (t : Sl Mp) : ∀ (ys : List (List Int)) (k : Int), (∀ y ∈ ys, y.length = 2) → zeC zaa t ys k = zmB zaa t (ys.foldl (kst (t.get 0).F) k)
  | [],k,_=>rfl
  | y :: r,k,h=>by
    have hy:=h y List.mem_cons_self
    match y,hy with
    | [a,b],_ =>
    have ih:=fun k=>zpT zaa t r k (fun z hz=>h z (List.mem_cons_of_mem _ hz))
    show zkk zaa t a b (zeC zaa t r) k=_
    rw [List.foldl_cons]
    unfold zkk
    by_cases h1:k < 0
    · rw [decide_eq_true h1,cond_true,ih,show kst (t.get 0).F k [a,b]=zdM ((t.get 0).F [a,b]) 0 from if_pos h1]
    · rw [decide_eq_false h1, cond_false]
      by_cases h2:zdM ((t.get 0).F [a,b]) 0 < k
      · rw [decide_eq_true h2,cond_true,ih,show kst (t.get 0).F k [a,b]=zdM ((t.get 0).F [a,b]) 0 from (if_neg h1).trans (if_pos h2)]
      · rw [decide_eq_false h2,cond_false,ih,show kst (t.get 0).F k [a,b]=k from (if_neg h1).trans (if_neg h2)]
theorem zFi (zaa : Sl Gate) (t : Sl Mp) (ys zs : List (List Int)) (hl : ∀ y ∈ ys, y.length = 2) (h : ze9 zaa t ys = true) (hp : ys.Perm zs) :
    ze9 zaa t zs=true∧zeB zaa t ys=zeB zaa t zs∧zeC zaa t ys=zeC zaa t zs:=by
  simp only [ze9,List.all_eq_true,decide_eq_true_eq] at h ⊢
  have hl2:∀ y∈zs,y.length=2:=fun y hy=>hl y (hp.mem_iff.2 hy)
  refine ⟨fun y hy=>h y (hp.mem_iff.2 hy),funext fun k=>?_,funext fun k=>?_⟩
  · rw [zpS zaa t ys k hl,zpS zaa t zs k hl2,zrJ _ h hp]
  · rw [zpT zaa t ys k hl,zpT zaa t zs k hl2,zrJ _ h hp]
def zpU (zaa:(Sl Gate)) (zab:(Sl Mp)) (zaC:Int):((Sl Int)×Int×Int):=zeB zaa zab (znS zaa) zaC
def zpV (zaa:(Sl Gate)) (zab:(Sl Mp)) (zaC:Int):Bool:=keysB 2 ((zab.get 0).n) ((zab.get 0).F) (znS zaa) && ze9 zaa zab (znS zaa) && zeC zaa zab (znS zaa) zaC
theorem zFj (K:List PA→Prop) (zaa:(Sl Gate)) (zab:(Sl Mp)) (zaC:Int) (hs:zpV zaa zab zaC=true) (hk:K (e55 (zpU zaa zab zaC))):zj4 (Wk K) zaa zab [] zaC:=by
  unfold zpV at hs
  rw [Bool.and_eq_true,Bool.and_eq_true] at hs
  obtain ⟨⟨hkeys,hI⟩,hs⟩:=hs
  unfold zpU at hk
  generalize hys:znS zaa=ys0 at hkeys hI hs hk
  refine zxh (Wk K) zaa zab [] zaC ?_
  intro X3 hstep
  have key:∀ (N:Nat) (ys:List (List Int)) (seen:List (List Int)) (zaC:Int),ys.length=N→(zGU 2 ((zab.get 0).n) ((zab.get 0).F)→zHl 2 ((zab.get 0).F) seen ys)→ze9 zaa zab ys=true→zeC zaa zab ys zaC=true→K (e55 (zeB zaa zab ys zaC))→X3 (zgZ zaa zab seen zaC):=by
    intro N
    induction N with
    | zero =>
      intro ys seen zaC hN hrem hI hs hk
      obtain rfl:=List.eq_nil_of_length_eq_zero hN
      refine hstep seen zaC ?_
      intro hfin
      have hrem:=hrem hfin
      refine ⟨fun _=>?_,fun k24_0 k24_1 hF hns=>absurd (hrem.2.2 [k24_0,k24_1] rfl hF hns) (by simp)⟩
      have hs:zmB zaa zab zaC=true:=hs
      have hk:K (e55 (zmA zaa zab zaC)):=hk
      unfold zmB at hs
      unfold zmA at hk
      exact (zFg K zaa zab zaC hs hk)
    | succ N ih =>
      intro ys seen zaC hN hrem hI hs hk
      refine hstep seen zaC ?_
      intro hfin
      have hrem:=hrem hfin
      refine ⟨fun hend=>?_,fun k24_0 k24_1 hF hns=>?_⟩
      · exact absurd (zCZ hrem hend) (fun e=>by rw [e] at hN;simp at hN)
      · obtain ⟨hperm, hrem2, hlen⟩ := zz0 hrem (c := [k24_0, k24_1]) rfl hF hns
        obtain ⟨hI2,e1,e2⟩:=zFi zaa zab ys _ (fun y hy=>(hrem.2.1 y hy).1) hI hperm
        have hI3:=zFh zaa zab _ _ hI2
        rw [e2] at hs
        rw [e1] at hk
        have hs:zkk zaa zab k24_0 k24_1 (zeC zaa zab (ys.erase [k24_0,k24_1])) zaC=true:=hs
        have hk:K (e55 (zkj zaa zab k24_0 k24_1 (zeB zaa zab (ys.erase [k24_0,k24_1])) zaC)):=hk
        have ih:=fun (zaC:Int)=>ih (ys.erase [k24_0,k24_1]) ([k24_0,k24_1] :: seen) zaC (by omega) (fun _=>hrem2) hI3
        unfold zkk at hs
        unfold zkj at hk
        generalize zeB zaa zab (ys.erase [k24_0,k24_1])=S3 at hk ih
        generalize zeC zaa zab (ys.erase [k24_0,k24_1])=P3 at hs ih
        have hX3:=ih
        exact (zch (K := fun r => K (e55 r))
 (fun hs hk=>(hX3 (zdM (((zab.get 0).F) [k24_0,k24_1]) 0) hs hk))
 (fun hs hk => (zch (K := fun r => K (e55 r))
 (fun hs hk=>(hX3 (zdM (((zab.get 0).F) [k24_0,k24_1]) 0) hs hk))
 (fun hs hk=>(hX3 zaC hs hk)) hs hk)) hs hk)
  exact key _ ys0 [] zaC rfl (fun hf=>zt0 hkeys hf) hI hs hk
def zpW (zaa:(Sl Gate)) (zab:(Sl Mp)):((Sl Int)×Int×Int) :=
  (zpU zaa zab (-1:Int))
def zpX (zaa:(Sl Gate)) (zab:(Sl Mp)):Bool :=
  (decide ((0≤(0:Int)∧(0:Int) < (zab.len:Int))) &&
 (zpV zaa zab (-1:Int)))
theorem zFk (K:List PA→Prop) (zaa:(Sl Gate)) (zab:(Sl Mp)) (zec:Nat→List PV) (zxv:zec=fun i=>zcD (zab.get i)) (hs:zpX zaa zab=true) (hk:K (e55 (zpW zaa zab))):zmv (Wk K) zaa zab.len zec:=by
  subst zxv
  refine zay (zE8 (Wk K) zaa zab) ?_
  unfold zpX at hs
  unfold zpW at hk
  exact (zav hs fun hc hs=>⟨hc,(zFj K zaa zab (-1:Int) hs hk)⟩)
def zpY (zaa:(Sl Gate)):((Sl Int)×Int×Int) :=
  (zpW zaa (s93 zaa))
def zpZ (zaa:(Sl Gate)):Bool :=
  (decide ((p93 zaa=true)) &&
 (zpX zaa (s93 zaa)))
theorem zFl (K:List PA→Prop) (zaa:(Sl Gate)) (hs:zpZ zaa=true) (hk:K (e55 (zpY zaa))):zmu (Wk K) zaa:=by
  refine zay (zE7 (Wk K) zaa) ?_
  unfold zpZ at hs
  unfold zpY at hk
  exact (zav hs fun hc hs=>⟨⟨isE,hc⟩,(zFk K zaa (s93 zaa) (fun i=>zcD ((s93 zaa).get i)) rfl hs hk)⟩)
def zp0 (zaa:(Sl Gate)) (zgh:Bool):((Sl Int)×Int×Int) :=
  (cond zgh
 ((⟨0,fun _=>default⟩:(Sl Int)),(0:Int),(2:Int))
 (zpY zaa))
def zp1 (zaa:(Sl Gate)) (zgh:Bool):Bool :=
  (cond zgh
 true
 (zpZ zaa))
theorem zFm (K:List PA→Prop) (zaa:(Sl Gate)) (zgh:Bool) (hs:zp1 zaa zgh=true) (hk:K (e55 (zp0 zaa zgh))):zmt (Wk K) zaa zgh:=by
  refine zay (zE6 (Wk K) zaa zgh) ?_
  unfold zp1 at hs
  unfold zp0 at hk
  exact (zch (K := fun r => K (e55 r))
 (fun hs hk=>(wk hk (zc4 (.one (.nil _ _)) (zc4 (.one (.rfl _)) (zc4 (.one (.rfl _)) zhk)))))
 (fun hs hk=>(zFl K zaa hs hk)) hs hk)
def s55 (zaa:(Sl Gate)):((Sl Int)×Int×Int) :=
  (zp0 zaa (!(s92 zaa)))
def p55 (zaa:(Sl Gate)):Bool :=
  (decide ((p92 zaa=true)) &&
 (zp1 zaa (!(s92 zaa))))
theorem q55 (zaa:(Sl Gate)) (K:List PA→Prop) (hs:p55 zaa=true) (hk:K (e55 (s55 zaa))):vcFun Try.prog G55 zaT 55 [.one (.sl zaa.len 3 (fun i=>enc_55 (zaa.get i)))] (Wk K):=by
  refine zay (zE5 zaa (Wk K)) ?_
  unfold p55 at hs
  unfold s55 at hk
  exact (zav hs fun hc hs=>⟨⟨isE,hc⟩,(zFm K zaa (!(s92 zaa)) hs hk)⟩)
def zFn : List PA → COut
  | [.one (.sl a0_n a0_s a0_g)]=>.det (IsE enc_55 3 a0_s a0_g∧p55 (⟨a0_n,zad a0_g⟩:(Sl Gate))=true) [.one (.sl (((s55 (⟨a0_n,zad a0_g⟩:(Sl Gate))).1).len) 1 (fun i=>zal (((s55 (⟨a0_n,zad a0_g⟩:(Sl Gate))).1).get i))),.one (.int .i64 ((s55 (⟨a0_n,zad a0_g⟩:(Sl Gate))).2.1)),.one (.int .i64 ((s55 (⟨a0_n,zad a0_g⟩:(Sl Gate))).2.2))]
  | _=>.no
theorem zIU:zaf Try.prog 55:=⟨_,rfl,rfl,by kernel_rfl⟩
theorem zOt:Ok Try.prog 55 zFn:=zhl zLG zIU fun args K h=>by
  unfold zFn at h
  split at h
  · rename_i a0_n a0_s a0_g
    obtain ⟨⟨⟨rfl,a0_f,rfl⟩,hs⟩,hk⟩:=h
    try rw [zac a0_f] at hs
    try rw [zac a0_f] at hk
    exact ⟨_,zeS zfS _,(fun _ _=>[]),(fun _=>false),zaT,q55 (⟨a0_n,a0_f⟩:(Sl Gate)) K hs hk⟩
  · exact h.elim
abbrev T62:Tabs:=Tabs.nil
theorem zLH:TabsOk Try.prog T62:=TabsOk.nil
abbrev G62:Ctrs:=csm T62 (fun _ _=>[]) (fun _=>false)
def zIV:Ann:=⟨5,[(0,zK [] []),(1,zK [0] [4])],
 [],
 [],
 [],[]⟩
abbrev R62:=(Sl Gate)
abbrev e62 (r:R62):List PA:=[.one (.sl r.len 3 (fun i=>enc_55 (r.get i)))]
section
variable {K:List PA→Prop}
def s62:(Sl Gate) :=
  (⟨3,(ziZ (⟨(0:Int),(0:Int),(10:Int)⟩:Gate) [(⟨(0:Int),(0:Int),(10:Int)⟩:Gate),(⟨(100:Int),(20:Int),(30:Int)⟩:Gate),(⟨(200:Int),(30:Int),(60:Int)⟩:Gate)])⟩:(Sl Gate))
end
theorem q62 (K:List PA→Prop) (hk:K (e62 (s62))):vcFun Try.prog G62 zIV 62 [] K :=
  zay (by kernel_rfl) (Eq.mpr (congrArg K (congrArg (fun (g_:Nat→List PV)=>([.one (.sl 3 3 g_)]:List PA)) (zep (enc:=enc_55) (x:=(⟨(0:Int),(0:Int),(10:Int)⟩:Gate)) (y:=(⟨(100:Int),(20:Int),(30:Int)⟩:Gate)) (r:=[(⟨(200:Int),(30:Int),(60:Int)⟩:Gate)])))) hk)
def zFo : List PA → COut
  | []=>.tot [.one (.sl ((s62).len) 3 (fun i=>enc_55 ((s62).get i)))]
  | _=>.no
theorem zIW:zaf Try.prog 62:=⟨_,rfl,rfl,by kernel_rfl⟩
theorem zOu:Ok Try.prog 62 zFo:=zaz zLH zIW fun args K h=>by
  unfold zFo at h
  split at h
  · have hk := h
    exact ⟨(fun _ _=>[]),(fun _=>false),zIV,q62 K hk⟩
  · exact h.elim
abbrev T63:Tabs:=Tabs.nil
theorem zLI:TabsOk Try.prog T63:=TabsOk.nil
abbrev G63:Ctrs:=csm T63 (fun _ _=>[]) (fun _=>false)
def zIX:Ann:=⟨5,[(0,zK [] []),(1,zK [0] [4])],
 [],
 [],
 [],[]⟩
abbrev R63:=(Sl Gate)
abbrev e63 (r:R63):List PA:=[.one (.sl r.len 3 (fun i=>enc_55 (r.get i)))]
section
variable {K:List PA→Prop}
def s63:(Sl Gate) :=
  (⟨3,(ziZ (⟨(0:Int),(0:Int),(10:Int)⟩:Gate) [(⟨(0:Int),(0:Int),(10:Int)⟩:Gate),(⟨(100:Int),(20:Int),(30:Int)⟩:Gate),(⟨(200:Int),(0:Int),(9:Int)⟩:Gate)])⟩:(Sl Gate))
end
theorem q63 (K:List PA→Prop) (hk:K (e63 (s63))):vcFun Try.prog G63 zIX 63 [] K :=
  zay (by kernel_rfl) (Eq.mpr (congrArg K (congrArg (fun (g_:Nat→List PV)=>([.one (.sl 3 3 g_)]:List PA)) (zep (enc:=enc_55) (x:=(⟨(0:Int),(0:Int),(10:Int)⟩:Gate)) (y:=(⟨(100:Int),(20:Int),(30:Int)⟩:Gate)) (r:=[(⟨(200:Int),(0:Int),(9:Int)⟩:Gate)])))) hk)
def zFp : List PA → COut
  | []=>.tot [.one (.sl ((s63).len) 3 (fun i=>enc_55 ((s63).get i)))]
  | _=>.no
theorem zIY:zaf Try.prog 63:=⟨_,rfl,rfl,by kernel_rfl⟩
theorem zOv:Ok Try.prog 63 zFp:=zaz zLI zIY fun args K h=>by
  unfold zFp at h
  split at h
  · have hk := h
    exact ⟨(fun _ _=>[]),(fun _=>false),zIX,q63 K hk⟩
  · exact h.elim
abbrev T18:Tabs:=((((((((((Tabs.nil.addF 19 zEk).addF 30 zEv).addF 31 zuP).addF 34 zAh).addF 38 zEM).addF 39 zEP).addF 40 zwH).addF 55 zFn).addF 62 zFo).addF 63 zFp)
theorem zLJ:TabsOk Try.prog T18:=((((((((((TabsOk.nil.addF zOl).addF zOm).addF zLj).addF zMI).addF zOo).addF zOp).addF zMQ).addF zOt).addF zOu).addF zOv)
abbrev G18:Ctrs:=csm T18 (fun _ _=>[]) (fun _=>false)
def zFq:Ann:=⟨125,[(0,zK [] []),(1,zK [1,2] []),(2,zK [1,2,3,4,5] [3,4]),(3,zK [1,2,3,4,5,6,7] [3,4]),(4,zK [1,2,3,4,5,6,7,8,9,10,11] [3,4,9,10]),(5,zK [1,2,3,4,5,6,7,8,9,10,11,12,13,14] [3,4,9,10]),(6,zK [1,3,4,6,9,10,12,76] [3,4,9,10]),(7,zK [0] []),(8,zK [1,3,4,6,9,10,12,15] [3,4,9,10,89]),(9,zK [0] [])],
 [],
 [(2,zK [1,2] []),(3,zK [1,2,3,4,5] [3,4]),(4,zK [1,2,3,4,5,6,7] [3,4]),(5,zK [1,2,3,4,5,6,7,8,9,10,11] [3,4,9,10]),(6,zK [1,2,3,4,5,6,7,8,9,10,11,12,13,14] [3,4,9,10]),(8,zK [1,3,4,6,9,10,12] [3,4,9,10]),(9,zK [1,3,4,6,9,10,12,15] [3,4,9,10,89])],
 [],[]⟩
abbrev R18:=Bool
abbrev e18 (r:R18):List PA:=[.one (.bool r)]
@[irreducible] def z18:=ptF Try.prog G18 zFq Try.f18
section
variable {K:List PA→Prop} {cv0:(Sl Line)} {ev0:Int} {zIZ:Nat→List PV} {fv1:Int} {zbK:Int} {zbL:Int} {zbM:Int} {zbN:Int} {sv2:(Sl Int)} {gv2:Int} {zI0:Nat→List PV} {sv3:(Sl Int)} {zv3:Int} {hv3:Int} {zcL:Int} {zcM:Int} {zcN:Int} {zcO:Int} {zI1:Nat→List PV} {sv4:(Sl Int)} {lv4:(Sl Int)} {kv4:Int} {iv4:Int} {zI2:Nat→List PV} {zI3:Nat→List PV} {sv5:(Sl Int)} {zI4:Nat→List PV} {sv6:(Sl Int)} {zkJ:(Sl Line)} {zI5:Nat→List PV} {zxw:Nat→List PV}
def zxx (cv0:(Sl Line)) (zbK:Int) (zbL:Int) (zbM:Int) (zbN:Int) (zcL:Int) (zcM:Int) (zcN:Int) (zcO:Int) (lv4:(Sl Int)) (sv6:(Sl Int)) (zkJ:(Sl Line)):Bool :=
  (cond (s34 cv0 zkJ)
 (cond (match (zbK == (s40 (40:Int) (1:Int)).Num) with | true => (match (zbL == (s40 (40:Int) (1:Int)).Den) with | true => true | false => false) | false => false)
 (cond (match (zbM == (s40 (90:Int) (1:Int)).Num) with | true => (match (zbN == (s40 (90:Int) (1:Int)).Den) with | true => true | false => false) | false => false)
 (cond ((s39 sv6 (⟨3, zcQ (zdf [(zal (0:Int)), (zal (1:Int)), (zal (2:Int))])⟩ : (Sl Int))) == (0:Int))
 (cond (match (zcL == (s40 (499:Int) (10:Int)).Num) with | true => (match (zcM == (s40 (499:Int) (10:Int)).Den) with | true => true | false => false) | false => false)
 (cond (match (zcN == (s40 (501:Int) (10:Int)).Num) with | true => (match (zcO == (s40 (501:Int) (10:Int)).Den) with | true => true | false => false) | false => false)
 ((s39 lv4 (⟨3,zcQ (zdf [(zal (2:Int)),(zal (5:Int)),(zal (2:Int))])⟩:(Sl Int))) == (0:Int))
 false)
 false)
 false)
 false)
 false)
 false)
def zxy (cv0:(Sl Line)) (zbK:Int) (zbL:Int) (zbM:Int) (zbN:Int) (zcL:Int) (zcM:Int) (zcN:Int) (zcO:Int) (lv4:(Sl Int)) (sv6:(Sl Int)) (zkJ:(Sl Line)):Bool :=
  (decide ((p34 cv0 zkJ=true)) &&
 (cond (s34 cv0 zkJ)
 (decide ((p40 (40:Int) (1:Int)=true)) &&
 (cond (match (zbK == (s40 (40:Int) (1:Int)).Num) with | true => (match (zbL == (s40 (40:Int) (1:Int)).Den) with | true => true | false => false) | false => false)
 (decide ((p40 (90:Int) (1:Int)=true)) &&
 (cond (match (zbM == (s40 (90:Int) (1:Int)).Num) with | true => (match (zbN == (s40 (90:Int) (1:Int)).Den) with | true => true | false => false) | false => false)
 (decide ((p39 sv6 (⟨3,zcQ (zdf [(zal (0:Int)),(zal (1:Int)),(zal (2:Int))])⟩:(Sl Int))=true)) &&
 (cond ((s39 sv6 (⟨3, zcQ (zdf [(zal (0:Int)), (zal (1:Int)), (zal (2:Int))])⟩ : (Sl Int))) == (0:Int))
 (decide ((p40 (499:Int) (10:Int)=true)) &&
 (cond (match (zcL == (s40 (499:Int) (10:Int)).Num) with | true => (match (zcM == (s40 (499:Int) (10:Int)).Den) with | true => true | false => false) | false => false)
 (decide ((p40 (501:Int) (10:Int)=true)) &&
 (cond (match (zcN == (s40 (501:Int) (10:Int)).Num) with | true => (match (zcO == (s40 (501:Int) (10:Int)).Den) with | true => true | false => false) | false => false)
 (decide ((p39 lv4 (⟨3,zcQ (zdf [(zal (2:Int)),(zal (5:Int)),(zal (2:Int))])⟩:(Sl Int))=true)) &&
 true)
 true))
 true))
 true))
 true))
 true))
 true))
theorem zFr (hs:zxy cv0 zbK zbL zbM zbN zcL zcM zcN zcO lv4 sv6 zkJ=true) (hk:K (e18 (zxx cv0 zbK zbL zbM zbN zcL zcM zcN zcO lv4 sv6 zkJ))) (zLK:zI5=zg zal sv6) (zFs:zxw=zg zar zkJ):z18 K [1,1,1,1,1,1,1,1] [] ⟨[(1,zS zar 4 cv0),(3,zp 3 0),(4,zp 4 0),(6,zP (.sl sv6.len 1 zI5)),(9,zp 9 0),(10,zp 10 0),(12,zS zal 1 lv4),(15,zv 89)],[(3,.box 25 (zm (zae (⟨zbK,zbL⟩:Frac)))),(4,.box 25 (zm (zae (⟨zbM,zbN⟩:Frac)))),(9,.box 25 (zm (zae (⟨zcL,zcM⟩:Frac)))),(10,.box 25 (zm (zae (⟨zcN,zcO⟩:Frac)))),(89,.vec 37 4 32 zkJ.len zxw)],[]⟩:=by subst zLK;subst zFs;exact zay (by kernel_rfl) (zav hs fun hc hs=>And.intro (And.intro (zE zar 4 cv0.get) (And.intro (zE zar 4 zkJ.get) hc)) (zc hs hk (fun hs hk=>(zav hs fun hc hs=>And.intro hc (zc hs hk (fun hs hk=>(zav hs fun hc hs=>And.intro hc (zc hs hk (fun hs hk=>(zav hs fun hc hs=>And.intro (And.intro (zE zal 1 sv6.get) (And.intro ((zfu [(2:Int)]):IsE zal 1 1 (zdf [(zal (0:Int)),(zal (1:Int)),(zal (2:Int))])) hc)) (zc hs hk (fun hs hk=>(zav hs fun hc hs=>And.intro hc (zc hs hk (fun hs hk=>(zav hs fun hc hs=>And.intro hc (zc hs hk (fun hs hk=>(zav hs fun hc hs=>And.intro (And.intro (zE zal 1 lv4.get) (And.intro ((zfu [(2:Int)]):IsE zal 1 1 (zdf [(zal (2:Int)),(zal (5:Int)),(zal (2:Int))])) hc)) hk)) (fun hs hk=>hk)))) (fun hs hk=>hk)))) (fun hs hk=>hk)))) (fun hs hk=>hk)))) (fun hs hk=>hk)))) (fun hs hk=>hk)))
def zxz (cv0:(Sl Line)) (zbK:Int) (zbL:Int) (zbM:Int) (zbN:Int) (zcL:Int) (zcM:Int) (zcN:Int) (zcO:Int) (lv4:(Sl Int)) (sv5:(Sl Int)):Bool :=
  (zxx cv0 zbK zbL zbM zbN zcL zcM zcN zcO lv4 sv5 (⟨4,(ziZ (⟨(s40 (1:Int) (10:Int)),(s40 (10:Int) (1:Int))⟩:Line) [(⟨(s40 (1:Int) (10:Int)),(s40 (10:Int) (1:Int))⟩:Line),(⟨(s40 (1:Int) (5:Int)),(s40 (0:Int) (1:Int))⟩:Line),(⟨(s40 (3:Int) (10:Int)),(s40 (0:Int) (1:Int))⟩:Line),(⟨(s40 (1:Int) (5:Int)),(s40 (10:Int) (1:Int))⟩:Line)])⟩:Sl Line))
def zxA (cv0:(Sl Line)) (zbK:Int) (zbL:Int) (zbM:Int) (zbN:Int) (zcL:Int) (zcM:Int) (zcN:Int) (zcO:Int) (lv4:(Sl Int)) (sv5:(Sl Int)):Bool :=
  (decide ((p40 (1:Int) (10:Int)=true)) &&
 (decide ((p40 (10:Int) (1:Int)=true)) &&
 (decide ((p40 (1:Int) (5:Int)=true)) &&
 (decide ((p40 (0:Int) (1:Int)=true)) &&
 (decide ((p40 (3:Int) (10:Int)=true)) &&
 (decide ((p40 (0:Int) (1:Int)=true)) &&
 (decide ((p40 (1:Int) (5:Int)=true)) &&
 (decide ((p40 (10:Int) (1:Int)=true)) &&
 (zxy cv0 zbK zbL zbM zbN zcL zcM zcN zcO lv4 sv5 (⟨4,(ziZ (⟨(s40 (1:Int) (10:Int)),(s40 (10:Int) (1:Int))⟩:Line) [(⟨(s40 (1:Int) (10:Int)),(s40 (10:Int) (1:Int))⟩:Line),(⟨(s40 (1:Int) (5:Int)),(s40 (0:Int) (1:Int))⟩:Line),(⟨(s40 (3:Int) (10:Int)),(s40 (0:Int) (1:Int))⟩:Line),(⟨(s40 (1:Int) (5:Int)),(s40 (10:Int) (1:Int))⟩:Line)])⟩:Sl Line))))))))))
theorem zFt (hs:zxA cv0 zbK zbL zbM zbN zcL zcM zcN zcO lv4 sv5=true) (hk:K (e18 (zxz cv0 zbK zbL zbM zbN zcL zcM zcN zcO lv4 sv5))) (zLL:zI4=zg zal sv5):z18 K [1,1,1,1,1,1,1] [] ⟨[(1,zS zar 4 cv0),(3,zp 3 0),(4,zp 4 0),(6,zP (.sl sv5.len 1 zI4)),(9,zp 9 0),(10,zp 10 0),(12,zS zal 1 lv4)],[(3,.box 25 (zm (zae (⟨zbK,zbL⟩:Frac)))),(4,.box 25 (zm (zae (⟨zbM,zbN⟩:Frac)))),(9,.box 25 (zm (zae (⟨zcL,zcM⟩:Frac)))),(10,.box 25 (zm (zae (⟨zcN,zcO⟩:Frac))))],[]⟩:=by subst zLL;exact zay (by kernel_rfl) (zav hs fun hc hs=>And.intro hc (zav hs fun hc hs=>And.intro hc (zav hs fun hc hs=>And.intro hc (zav hs fun hc hs=>And.intro hc (zav hs fun hc hs=>And.intro hc (zav hs fun hc hs=>And.intro hc (zav hs fun hc hs=>And.intro hc (zav hs fun hc hs=>And.intro hc (zFr hs hk rfl (zep (enc:=zar) (x:=(⟨(s40 (1:Int) (10:Int)),(s40 (10:Int) (1:Int))⟩:Line)) (y:=(⟨(s40 (1:Int) (5:Int)),(s40 (0:Int) (1:Int))⟩:Line)) (r:=[(⟨(s40 (3:Int) (10:Int)),(s40 (0:Int) (1:Int))⟩:Line),(⟨(s40 (1:Int) (5:Int)),(s40 (10:Int) (1:Int))⟩:Line)])))))))))))
def zxB (cv0:(Sl Line)) (ev0:Int) (fv1:Int) (zbK:Int) (zbL:Int) (zbM:Int) (zbN:Int) (gv2:Int) (zv3:Int) (hv3:Int) (zcL:Int) (zcM:Int) (zcN:Int) (zcO:Int) (sv4:(Sl Int)) (lv4:(Sl Int)) (kv4:Int) (iv4:Int):Bool :=
  (cond (ev0 != (0:Int))
 false
 (cond (fv1 != (0:Int))
 false
 (cond (gv2 != (0:Int))
 false
 (cond (hv3 != (0:Int))
 false
 (cond (iv4 != (0:Int))
 false
 (cond (kv4 != (600:Int))
 false
 (cond (zv3 != (167:Int))
 false
 (zxz cv0 zbK zbL zbM zbN zcL zcM zcN zcO lv4 sv4))))))))
def zxC (cv0:(Sl Line)) (ev0:Int) (fv1:Int) (zbK:Int) (zbL:Int) (zbM:Int) (zbN:Int) (gv2:Int) (zv3:Int) (hv3:Int) (zcL:Int) (zcM:Int) (zcN:Int) (zcO:Int) (sv4:(Sl Int)) (lv4:(Sl Int)) (kv4:Int) (iv4:Int):Bool :=
  (cond (ev0 != (0:Int))
 true
 (cond (fv1 != (0:Int))
 true
 (cond (gv2 != (0:Int))
 true
 (cond (hv3 != (0:Int))
 true
 (cond (iv4 != (0:Int))
 true
 (cond (kv4 != (600:Int))
 true
 (cond (zv3 != (167:Int))
 true
 (zxA cv0 zbK zbL zbM zbN zcL zcM zcN zcO lv4 sv4))))))))
theorem zFu (hs:zxC cv0 ev0 fv1 zbK zbL zbM zbN gv2 zv3 hv3 zcL zcM zcN zcO sv4 lv4 kv4 iv4=true) (hk:K (e18 (zxB cv0 ev0 fv1 zbK zbL zbM zbN gv2 zv3 hv3 zcL zcM zcN zcO sv4 lv4 kv4 iv4))) (zLM:zI2=zg zal sv4) (zLN:zI3=zg zal lv4):z18 K [1,1,1,1,1,1] [] ⟨[(1,zS zar 4 cv0),(2,zI ev0),(3,zp 3 0),(4,zp 4 0),(5,zI fv1),(6,zP (.sl sv4.len 1 zI2)),(7,zI gv2),(8,zI zv3),(9,zp 9 0),(10,zp 10 0),(11,zI hv3),(12,zP (.sl lv4.len 1 zI3)),(13,zI kv4),(14,zI iv4)],[(3,.box 25 (zm (zae (⟨zbK,zbL⟩:Frac)))),(4,.box 25 (zm (zae (⟨zbM,zbN⟩:Frac)))),(9,.box 25 (zm (zae (⟨zcL,zcM⟩:Frac)))),(10,.box 25 (zm (zae (⟨zcN,zcO⟩:Frac))))],[]⟩:=by subst zLM;subst zLN;exact zay (by kernel_rfl) (zc hs hk (fun hs hk=>hk) (fun hs hk=>(zc hs hk (fun hs hk=>hk) (fun hs hk=>(zc hs hk (fun hs hk=>hk) (fun hs hk=>(zc hs hk (fun hs hk=>hk) (fun hs hk=>(zc hs hk (fun hs hk=>hk) (fun hs hk=>(zc hs hk (fun hs hk=>hk) (fun hs hk=>(zc hs hk (fun hs hk=>hk) (fun hs hk=>(zFt hs hk rfl)))))))))))))))
def zxD (cv0:(Sl Line)) (ev0:Int) (fv1:Int) (zbK:Int) (zbL:Int) (zbM:Int) (zbN:Int) (gv2:Int) (sv3:(Sl Int)) (zv3:Int) (hv3:Int) (zcL:Int) (zcM:Int) (zcN:Int) (zcO:Int):Bool :=
  (zxB cv0 ev0 fv1 zbK zbL zbM zbN gv2 zv3 hv3 zcL zcM zcN zcO sv3 ((s55 (⟨3,zad (zdf [(enc_55 (⟨(0:Int),(0:Int),(2:Int)⟩:Gate)),(enc_55 (⟨(10:Int),(5:Int),(6:Int)⟩:Gate)),(enc_55 (⟨(20:Int),(0:Int),(2:Int)⟩:Gate))])⟩:(Sl Gate))).1) ((s55 (⟨3,zad (zdf [(enc_55 (⟨(0:Int),(0:Int),(2:Int)⟩:Gate)),(enc_55 (⟨(10:Int),(5:Int),(6:Int)⟩:Gate)),(enc_55 (⟨(20:Int),(0:Int),(2:Int)⟩:Gate))])⟩:(Sl Gate))).2.1) ((s55 (⟨3,zad (zdf [(enc_55 (⟨(0:Int),(0:Int),(2:Int)⟩:Gate)),(enc_55 (⟨(10:Int),(5:Int),(6:Int)⟩:Gate)),(enc_55 (⟨(20:Int),(0:Int),(2:Int)⟩:Gate))])⟩:(Sl Gate))).2.2))
def zxE (cv0:(Sl Line)) (ev0:Int) (fv1:Int) (zbK:Int) (zbL:Int) (zbM:Int) (zbN:Int) (gv2:Int) (sv3:(Sl Int)) (zv3:Int) (hv3:Int) (zcL:Int) (zcM:Int) (zcN:Int) (zcO:Int):Bool :=
  (decide ((p55 (⟨3,zad (zdf [(enc_55 (⟨(0:Int),(0:Int),(2:Int)⟩:Gate)),(enc_55 (⟨(10:Int),(5:Int),(6:Int)⟩:Gate)),(enc_55 (⟨(20:Int),(0:Int),(2:Int)⟩:Gate))])⟩:(Sl Gate))=true)) &&
 (zxC cv0 ev0 fv1 zbK zbL zbM zbN gv2 zv3 hv3 zcL zcM zcN zcO sv3 ((s55 (⟨3,zad (zdf [(enc_55 (⟨(0:Int),(0:Int),(2:Int)⟩:Gate)),(enc_55 (⟨(10:Int),(5:Int),(6:Int)⟩:Gate)),(enc_55 (⟨(20:Int),(0:Int),(2:Int)⟩:Gate))])⟩:(Sl Gate))).1) ((s55 (⟨3,zad (zdf [(enc_55 (⟨(0:Int),(0:Int),(2:Int)⟩:Gate)),(enc_55 (⟨(10:Int),(5:Int),(6:Int)⟩:Gate)),(enc_55 (⟨(20:Int),(0:Int),(2:Int)⟩:Gate))])⟩:(Sl Gate))).2.1) ((s55 (⟨3,zad (zdf [(enc_55 (⟨(0:Int),(0:Int),(2:Int)⟩:Gate)),(enc_55 (⟨(10:Int),(5:Int),(6:Int)⟩:Gate)),(enc_55 (⟨(20:Int),(0:Int),(2:Int)⟩:Gate))])⟩:(Sl Gate))).2.2)))
theorem zFv (hs:zxE cv0 ev0 fv1 zbK zbL zbM zbN gv2 sv3 zv3 hv3 zcL zcM zcN zcO=true) (hk:K (e18 (zxD cv0 ev0 fv1 zbK zbL zbM zbN gv2 sv3 zv3 hv3 zcL zcM zcN zcO))) (zLO:zI1=zg zal sv3):z18 K [1,1,1,1,1] [] ⟨[(1,zS zar 4 cv0),(2,zI ev0),(3,zp 3 0),(4,zp 4 0),(5,zI fv1),(6,zP (.sl sv3.len 1 zI1)),(7,zI gv2),(8,zI zv3),(9,zp 9 0),(10,zp 10 0),(11,zI hv3)],[(3,.box 25 (zm (zae (⟨zbK,zbL⟩:Frac)))),(4,.box 25 (zm (zae (⟨zbM,zbN⟩:Frac)))),(9,.box 25 (zm (zae (⟨zcL,zcM⟩:Frac)))),(10,.box 25 (zm (zae (⟨zcN,zcO⟩:Frac))))],[]⟩:=by subst zLO;exact zay (by kernel_rfl) (zav hs fun hc hs=>And.intro (And.intro ((zfu [(⟨(20:Int),(0:Int),(2:Int)⟩:Gate)]):IsE enc_55 3 3 (zdf [(enc_55 (⟨(0:Int),(0:Int),(2:Int)⟩:Gate)),(enc_55 (⟨(10:Int),(5:Int),(6:Int)⟩:Gate)),(enc_55 (⟨(20:Int),(0:Int),(2:Int)⟩:Gate))])) hc) (zFu hs hk rfl rfl))
def zxF (cv0:(Sl Line)) (ev0:Int) (fv1:Int) (zbK:Int) (zbL:Int) (zbM:Int) (zbN:Int) (sv2:(Sl Int)) (gv2:Int):Bool :=
  (zxD cv0 ev0 fv1 zbK zbL zbM zbN gv2 sv2 ((s19 s62 (⟨2,zad (zdf [(enc_55 (⟨(0:Int),(100:Int),(110:Int)⟩:Gate)),(enc_55 (⟨(200:Int),(40:Int),(50:Int)⟩:Gate))])⟩:(Sl Gate)) (0:Int) (300:Int)).1) ((s19 s62 (⟨2,zad (zdf [(enc_55 (⟨(0:Int),(100:Int),(110:Int)⟩:Gate)),(enc_55 (⟨(200:Int),(40:Int),(50:Int)⟩:Gate))])⟩:(Sl Gate)) (0:Int) (300:Int)).2.2.2) (((s19 s62 (⟨2,zad (zdf [(enc_55 (⟨(0:Int),(100:Int),(110:Int)⟩:Gate)),(enc_55 (⟨(200:Int),(40:Int),(50:Int)⟩:Gate))])⟩:(Sl Gate)) (0:Int) (300:Int)).2.1).Num) (((s19 s62 (⟨2,zad (zdf [(enc_55 (⟨(0:Int),(100:Int),(110:Int)⟩:Gate)),(enc_55 (⟨(200:Int),(40:Int),(50:Int)⟩:Gate))])⟩:(Sl Gate)) (0:Int) (300:Int)).2.1).Den) (((s19 s62 (⟨2,zad (zdf [(enc_55 (⟨(0:Int),(100:Int),(110:Int)⟩:Gate)),(enc_55 (⟨(200:Int),(40:Int),(50:Int)⟩:Gate))])⟩:(Sl Gate)) (0:Int) (300:Int)).2.2.1).Num) (((s19 s62 (⟨2,zad (zdf [(enc_55 (⟨(0:Int),(100:Int),(110:Int)⟩:Gate)),(enc_55 (⟨(200:Int),(40:Int),(50:Int)⟩:Gate))])⟩:(Sl Gate)) (0:Int) (300:Int)).2.2.1).Den))
def zxG (cv0:(Sl Line)) (ev0:Int) (fv1:Int) (zbK:Int) (zbL:Int) (zbM:Int) (zbN:Int) (sv2:(Sl Int)) (gv2:Int):Bool :=
  (decide ((p19 s62 (⟨2,zad (zdf [(enc_55 (⟨(0:Int),(100:Int),(110:Int)⟩:Gate)),(enc_55 (⟨(200:Int),(40:Int),(50:Int)⟩:Gate))])⟩:(Sl Gate)) (0:Int) (300:Int)=true)) &&
 (zxE cv0 ev0 fv1 zbK zbL zbM zbN gv2 sv2 ((s19 s62 (⟨2,zad (zdf [(enc_55 (⟨(0:Int),(100:Int),(110:Int)⟩:Gate)),(enc_55 (⟨(200:Int),(40:Int),(50:Int)⟩:Gate))])⟩:(Sl Gate)) (0:Int) (300:Int)).1) ((s19 s62 (⟨2,zad (zdf [(enc_55 (⟨(0:Int),(100:Int),(110:Int)⟩:Gate)),(enc_55 (⟨(200:Int),(40:Int),(50:Int)⟩:Gate))])⟩:(Sl Gate)) (0:Int) (300:Int)).2.2.2) (((s19 s62 (⟨2,zad (zdf [(enc_55 (⟨(0:Int),(100:Int),(110:Int)⟩:Gate)),(enc_55 (⟨(200:Int),(40:Int),(50:Int)⟩:Gate))])⟩:(Sl Gate)) (0:Int) (300:Int)).2.1).Num) (((s19 s62 (⟨2,zad (zdf [(enc_55 (⟨(0:Int),(100:Int),(110:Int)⟩:Gate)),(enc_55 (⟨(200:Int),(40:Int),(50:Int)⟩:Gate))])⟩:(Sl Gate)) (0:Int) (300:Int)).2.1).Den) (((s19 s62 (⟨2,zad (zdf [(enc_55 (⟨(0:Int),(100:Int),(110:Int)⟩:Gate)),(enc_55 (⟨(200:Int),(40:Int),(50:Int)⟩:Gate))])⟩:(Sl Gate)) (0:Int) (300:Int)).2.2.1).Num) (((s19 s62 (⟨2,zad (zdf [(enc_55 (⟨(0:Int),(100:Int),(110:Int)⟩:Gate)),(enc_55 (⟨(200:Int),(40:Int),(50:Int)⟩:Gate))])⟩:(Sl Gate)) (0:Int) (300:Int)).2.2.1).Den)))
theorem zFw (hs:zxG cv0 ev0 fv1 zbK zbL zbM zbN sv2 gv2=true) (hk:K (e18 (zxF cv0 ev0 fv1 zbK zbL zbM zbN sv2 gv2))) (zLP:zI0=zg zal sv2):z18 K [1,1,1,1] [] ⟨[(1,zS zar 4 cv0),(2,zI ev0),(3,zp 3 0),(4,zp 4 0),(5,zI fv1),(6,zP (.sl sv2.len 1 zI0)),(7,zI gv2)],[(3,.box 25 (zm (zae (⟨zbK,zbL⟩:Frac)))),(4,.box 25 (zm (zae (⟨zbM,zbN⟩:Frac))))],[]⟩:=by subst zLP;exact zay (by kernel_rfl) (zav hs fun hc hs=>And.intro (And.intro (zE enc_55 3 s62.get) (And.intro ((zfu []):IsE enc_55 3 3 (zdf [(enc_55 (⟨(0:Int),(100:Int),(110:Int)⟩:Gate)),(enc_55 (⟨(200:Int),(40:Int),(50:Int)⟩:Gate))])) hc)) (zFv hs hk rfl))
def zxH (cv0:(Sl Line)) (ev0:Int) (fv1:Int) (zbK:Int) (zbL:Int) (zbM:Int) (zbN:Int):Bool :=
  (zxF cv0 ev0 fv1 zbK zbL zbM zbN ((s38 s63).1) ((s38 s63).2))
def zxI (cv0:(Sl Line)) (ev0:Int) (fv1:Int) (zbK:Int) (zbL:Int) (zbM:Int) (zbN:Int):Bool :=
  (decide ((p38 s63=true)) &&
 (zxG cv0 ev0 fv1 zbK zbL zbM zbN ((s38 s63).1) ((s38 s63).2)))
theorem zFx (hs:zxI cv0 ev0 fv1 zbK zbL zbM zbN=true) (hk:K (e18 (zxH cv0 ev0 fv1 zbK zbL zbM zbN))):z18 K [1,1,1] [] ⟨[(1,zS zar 4 cv0),(2,zI ev0),(3,zp 3 0),(4,zp 4 0),(5,zI fv1)],[(3,.box 25 (zm (zae (⟨zbK,zbL⟩:Frac)))),(4,.box 25 (zm (zae (⟨zbM,zbN⟩:Frac))))],[]⟩:=zay (by kernel_rfl) (zav hs fun hc hs=>And.intro (And.intro (zE enc_55 3 s63.get) hc) (zFw hs hk rfl))
def zxJ (cv0:(Sl Line)) (ev0:Int):Bool :=
  (zxH cv0 ev0 ((s30 s62 (300:Int)).2.2) (((s30 s62 (300:Int)).1).Num) (((s30 s62 (300:Int)).1).Den) (((s30 s62 (300:Int)).2.1).Num) (((s30 s62 (300:Int)).2.1).Den))
def zxK (cv0:(Sl Line)) (ev0:Int):Bool :=
  (decide ((p30 s62 (300:Int)=true)) &&
 (zxI cv0 ev0 ((s30 s62 (300:Int)).2.2) (((s30 s62 (300:Int)).1).Num) (((s30 s62 (300:Int)).1).Den) (((s30 s62 (300:Int)).2.1).Num) (((s30 s62 (300:Int)).2.1).Den)))
theorem zFy (hs:zxK cv0 ev0=true) (hk:K (e18 (zxJ cv0 ev0))) (zLQ:zIZ=zg zar cv0):z18 K [1,1] [] ⟨[(1,zP (.sl cv0.len 4 zIZ)),(2,zI ev0)],[],[]⟩:=by subst zLQ;exact zay (by kernel_rfl) (zav hs fun hc hs=>And.intro (And.intro (zE enc_55 3 s62.get) hc) (zFx hs hk))
def s18:Bool :=
  (zxJ ((s31 s62).1) ((s31 s62).2))
def p18:Bool :=
  (decide ((p31 s62=true)) &&
 (zxK ((s31 s62).1) ((s31 s62).2)))
end
theorem q18 (K:List PA→Prop) (hs:p18=true) (hk:K (e18 (s18))):vcFun Try.prog G18 zFq 18 [] K :=
  zay (by kernel_rfl) (zav hs fun hc hs=>And.intro (And.intro (zE enc_55 3 s62.get) hc) (zFy hs hk rfl))
theorem zI6:p18=true:=by kernel_rfl
theorem zI7:s18=true:=by kernel_rfl
def zFz : List PA → COut
  | []=>.tot [.one (.bool true)]
  | _=>.no
theorem zI8:zaf Try.prog 18:=⟨_,rfl,rfl,by kernel_rfl⟩
theorem zOw:Ok Try.prog 18 zFz:=zaz zLJ zI8 fun args K h=>by
  unfold zFz at h
  split at h
  · refine ⟨fun _ _ => [], fun _ => false, zFq, q18 K zI6 ?_⟩
    show K [.one (.bool s18)]
    rw [zI7];exact h
  · exact h.elim
abbrev T70:Tabs:=Tabs.nil
theorem zLR:TabsOk Try.prog T70:=TabsOk.nil
abbrev G70:Ctrs:=csm T70 (fun _ _=>[]) (fun _=>false)
def zI9:Ann:=⟨15,[(0,zK [0,1,2] []),(1,zK [6] [])],
 [],
 [],
 [],[]⟩
abbrev R70:=Bool
abbrev e70 (r:R70):List PA:=[.one (.bool r)]
section
variable {K:List PA→Prop} {n:Int} {low:Int} {high:Int}
def s70 (n:Int) (low:Int) (high:Int):Bool :=
  (cond (decide (n ≥ low))
 (decide (n≤high))
 false)
end
theorem q70 (n:Int) (low:Int) (high:Int) (K:List PA→Prop) (hk:K (e70 (s70 n low high))):vcFun Try.prog G70 zI9 70 [.one (.int .i64 n),.one (.int .i64 low),.one (.int .i64 high)] K :=
  zay (by kernel_rfl) (zt hk (fun hk=>hk) (fun hk=>hk))
def zAF : List PA → COut
  | [.one (.int .i64 a0),.one (.int .i64 a1),.one (.int .i64 a2)]=>.tot [.one (.bool (s70 a0 a1 a2))]
  | _=>.no
theorem zJa:zaf Try.prog 70:=⟨_,rfl,rfl,by kernel_rfl⟩
theorem zMT:Ok Try.prog 70 zAF:=zaz zLR zJa fun args K h=>by
  unfold zAF at h
  split at h
  · rename_i a0 a1 a2
    have hk:=h
    exact ⟨(fun _ _=>[]),(fun _=>false),zI9,q70 a0 a1 a2 K hk⟩
  · exact h.elim
abbrev T49:Tabs:=(Tabs.nil.addF 70 zAF)
theorem zLS:TabsOk Try.prog T49:=(TabsOk.nil.addF zMT)
abbrev G49:Ctrs:=csm T49 (fun _ _=>[]) (fun _=>false)
def zJb:Ann:=⟨18,[(0,zK [1] [1]),(1,zK [2] [])],
 [],
 [],
 [],[]⟩
abbrev R49:=Bool
abbrev e49 (r:R49):List PA:=[.one (.bool r)]
section
variable {K:List PA→Prop} {g:Gate}
def s49 (g:Gate):Bool :=
  (cond (s70 g.Z (0:Int) (100000:Int))
 (cond (s70 g.Low (-1000000:Int) g.High)
 (decide (g.High≤(1000000:Int)))
 false)
 false)
end
theorem q49 (g:Gate) (K:List PA→Prop) (hk:K (e49 (s49 g))):vcFun Try.prog G49 zJb 49 [.agg (enc_55 g)] K :=
  zay (by kernel_rfl) (zt hk (fun hk=>(zt hk (fun hk=>hk) (fun hk=>hk))) (fun hk=>hk))
def zFA : List PA → COut
  | [.agg [.int .i64 a0_Z,.int .i64 a0_Low,.int .i64 a0_High]]=>.tot [.one (.bool (s49 (⟨a0_Z,a0_Low,a0_High⟩:Gate)))]
  | _=>.no
theorem zJc:zaf Try.prog 49:=⟨_,rfl,rfl,by kernel_rfl⟩
theorem zOx:Ok Try.prog 49 zFA:=zaz zLS zJc fun args K h=>by
  unfold zFA at h
  split at h
  · rename_i a0_Z a0_Low a0_High
    have hk:=h
    exact ⟨(fun _ _=>[]),(fun _=>false),zJb,q49 (⟨a0_Z,a0_Low,a0_High⟩:Gate) K hk⟩
  · exact h.elim
abbrev T20:Tabs:=((Tabs.nil.addF 49 zFA).addF 70 zAF)
theorem zLT:TabsOk Try.prog T20:=((TabsOk.nil.addF zOx).addF zMT)
abbrev G20:Ctrs:=csm T20 (fun _ _=>[]) (fun _=>false)
def zFB:Ann:=⟨19,[(0,zK [0] []),(1,zK [0,3] []),(2,zK [0,3,7] []),(3,zK [0,3] []),(4,zK [0,3,15] []),(5,zK [2] []),(6,zK [2] [])],
 [(2,zK [0,3] [])],
 [(5,zK [0,3,15] [])],
 [],[]⟩
abbrev R20:=Bool
abbrev e20 (r:R20):List PA:=[.one (.bool r)]
@[irreducible] def z20:=ptF Try.prog G20 zFB Try.f20
def zCa (l_a0:(Sl Gate)) (iv0:Int):St:=⟨[(0,zS enc_55 3 l_a0),(3,zI iv0)],[],[]⟩
abbrev zFC (K:List PA→Prop) (l_a0:(Sl Gate)) (X:St→Prop) (P:Int→Bool) (S:Int→Bool):Prop:=∀ ⦃iv0:Int⦄,P iv0=true→K (e20 (S iv0))→X (zCa l_a0 iv0)
section
variable {K:List PA→Prop} {l_a0:(Sl Gate)} {iv0:Int} {X0:St→Prop} {P0:Int→Bool} {S0:Int→Bool} {iv1:Int} {zp2:Bool}
def zp3 (S0:Int→Bool) (l_a0:(Sl Gate)) (iv1:Int) (zp2:Bool):Bool :=
  (cond zp2
 false
 (S0 (w64 (iv1+(1:Int)))))
def zp4 (P0:Int→Bool) (l_a0:(Sl Gate)) (iv1:Int) (zp2:Bool):Bool :=
  (cond zp2
 true
 (P0 (w64 (iv1+(1:Int)))))
theorem zFD (hX0:zFC K l_a0 X0 P0 S0) (hs:zp4 P0 l_a0 iv1 zp2=true) (hk:K (e20 (zp3 S0 l_a0 iv1 zp2))):z20 K [1,0,1,0,0,1,0,0,1] [X0] ⟨[(0,zS enc_55 3 l_a0),(3,zI iv1),(15,zB zp2)],[],[]⟩:=zay (by kernel_rfl) (zc hs hk (fun hs hk=>hk) (fun hs hk=>(hX0 hs hk)))
def zhN (l_a0:(Sl Gate)) (S0:Int→Bool) (iv0:Int):Bool :=
  (cond (decide (iv0 < (l_a0.len : Int)))
 (zp3 S0 l_a0 iv0 (!(s49 (l_a0.get iv0.toNat))))
 (s70 (l_a0.len:Int) (1:Int) (24:Int)))
def zhO (l_a0:(Sl Gate)) (P0:Int→Bool) (iv0:Int):Bool :=
  (cond (decide (iv0 < (l_a0.len : Int)))
 (decide ((0≤iv0∧iv0 < (l_a0.len:Int))) &&
 (zp4 P0 l_a0 iv0 (!(s49 (l_a0.get iv0.toNat)))))
 true)
def zhP (l_a0:(Sl Gate)):Nat→Int→Bool:=lpO (fun _=>default) (zhN l_a0)
def zhQ (l_a0:(Sl Gate)):Nat→Int→Bool:=lpO (fun _=>false) (zhO l_a0)
def zxL (l_a0:(Sl Gate)) (iv0:Int):Bool:=zhP l_a0 Fuel iv0
def zxM (l_a0:(Sl Gate)) (iv0:Int):Bool:=zhQ l_a0 Fuel iv0
theorem zFE (hs:zxM l_a0 iv0=true) (hk:K (e20 (zxL l_a0 iv0))):z20 K [1,0,1,0] [] (zCa l_a0 iv0) :=
  zl (fun X=>z20 K [1,0,1,0,0] [X]) (by kernel_rfl) fun X0 hX =>
  (show ∀ k, zFC K l_a0 X0 (zhQ l_a0 k) (zhP l_a0 k) from zeK _ _ (zhO l_a0) (zhN l_a0) (zFC K l_a0 X0)
 (by intro _ hs;exact absurd hs Bool.false_ne_true)
 (by intro P0 S0 hX0 iv0 hs hk;exact hX _ (zay (by kernel_rfl) (zc hs hk (fun hs hk=>(zav hs fun hc hs=>And.intro hc (zFD hX0 hs hk))) (fun hs hk=>hk))))) _ hs hk
def s20 (l_a0:(Sl Gate)):Bool :=
  (zxL l_a0 (0:Int))
def p20 (l_a0:(Sl Gate)):Bool :=
  (zxM l_a0 (0:Int))
end
theorem q20 (l_a0:(Sl Gate)) (K:List PA→Prop) (hs:p20 l_a0=true) (hk:K (e20 (s20 l_a0))):vcFun Try.prog G20 zFB 20 [.one (.sl l_a0.len 3 (fun i=>enc_55 (l_a0.get i)))] K :=
  zay (by kernel_rfl) (zFE hs hk)
def zFF : List PA → COut
  | [.one (.sl a0_n a0_s a0_g)]=>.det (IsE enc_55 3 a0_s a0_g∧p20 (⟨a0_n,zad a0_g⟩:(Sl Gate))=true) [.one (.bool (s20 (⟨a0_n,zad a0_g⟩:(Sl Gate))))]
  | _=>.no
theorem zJd:zaf Try.prog 20:=⟨_,rfl,rfl,by kernel_rfl⟩
theorem zOy:Ok Try.prog 20 zFF:=zaz zLT zJd fun args K h=>by
  unfold zFF at h
  split at h
  · rename_i a0_n a0_s a0_g
    obtain ⟨⟨⟨rfl,a0_f,rfl⟩,hs⟩,hk⟩:=h
    try rw [zac a0_f] at hs
    try rw [zac a0_f] at hk
    exact ⟨(fun _ _=>[]),(fun _=>false),zFB,q20 (⟨a0_n,a0_f⟩:(Sl Gate)) K hs hk⟩
  · exact h.elim
abbrev T22:Tabs:=Tabs.nil
theorem zLU:TabsOk Try.prog T22:=TabsOk.nil
abbrev G22:Ctrs:=csm T22 (fun _ _=>[]) (fun _=>false)
def zFG:Ann:=⟨20,[(0,zK [0] []),(1,zK [0,3] []),(2,zK [0,3,7] []),(3,zK [0,3] []),(4,zK [0,3,19] []),(5,zK [2] []),(6,zK [2] [])],
 [(2,zK [0,3] [])],
 [],
 [],[]⟩
abbrev R22:=Bool
abbrev e22 (r:R22):List PA:=[.one (.bool r)]
@[irreducible] def z22:=ptF Try.prog G22 zFG Try.f22
def zCb (zaa:(Sl Gate)) (iv0:Int):St:=⟨[(0,zS enc_55 3 zaa),(3,zI iv0)],[],[]⟩
abbrev zJe (K:List PA→Prop) (zaa:(Sl Gate)) (X:St→Prop) (P:Int→Bool) (S:Int→Bool):Prop:=∀ ⦃iv0:Int⦄,P iv0=true→K (e22 (S iv0))→X (zCb zaa iv0)
section
variable {K:List PA→Prop} {zaa:(Sl Gate)} {iv0:Int} {X0:St→Prop} {P0:Int→Bool} {S0:Int→Bool}
def zhR (zaa:(Sl Gate)) (S0:Int→Bool) (iv0:Int):Bool :=
  (cond (decide (iv0 < (zaa.len : Int)))
 (cond ((zaa.get iv0.toNat).Z != (zaa.get 0).Z)
 false
 (S0 (w64 (iv0+(1:Int)))))
 true)
def zhS (zaa:(Sl Gate)) (P0:Int→Bool) (iv0:Int):Bool :=
  (cond (decide (iv0 < (zaa.len : Int)))
 (decide ((0≤iv0∧iv0 < (zaa.len:Int))) &&
 (decide ((0≤(0:Int)∧(0:Int) < (zaa.len:Int))) &&
 (cond ((zaa.get iv0.toNat).Z != (zaa.get 0).Z)
 true
 (P0 (w64 (iv0+(1:Int)))))))
 true)
def zhT (zaa:(Sl Gate)):Nat→Int→Bool:=lpO (fun _=>default) (zhR zaa)
def zhU (zaa:(Sl Gate)):Nat→Int→Bool:=lpO (fun _=>false) (zhS zaa)
def zxN (zaa:(Sl Gate)) (iv0:Int):Bool:=zhT zaa Fuel iv0
def zxO (zaa:(Sl Gate)) (iv0:Int):Bool:=zhU zaa Fuel iv0
theorem zFH (hs:zxO zaa iv0=true) (hk:K (e22 (zxN zaa iv0))):z22 K [1,0,1,0] [] (zCb zaa iv0) :=
  zl (fun X=>z22 K [1,0,1,0,0] [X]) (by kernel_rfl) fun X0 hX =>
  (show ∀ k, zJe K zaa X0 (zhU zaa k) (zhT zaa k) from zeK _ _ (zhS zaa) (zhR zaa) (zJe K zaa X0)
 (by intro _ hs;exact absurd hs Bool.false_ne_true)
 (by intro P0 S0 hX0 iv0 hs hk;exact hX _ (zay (by kernel_rfl) (zc hs hk (fun hs hk=>(zav hs fun hc hs=>And.intro hc (zav hs fun hc hs=>And.intro hc (zc hs hk (fun hs hk=>hk) (fun hs hk=>(hX0 hs hk)))))) (fun hs hk=>hk))))) _ hs hk
def s22 (zaa:(Sl Gate)):Bool :=
  (zxN zaa (1:Int))
def p22 (zaa:(Sl Gate)):Bool :=
  (zxO zaa (1:Int))
end
theorem q22 (zaa:(Sl Gate)) (K:List PA→Prop) (hs:p22 zaa=true) (hk:K (e22 (s22 zaa))):vcFun Try.prog G22 zFG 22 [.one (.sl zaa.len 3 (fun i=>enc_55 (zaa.get i)))] K :=
  zay (by kernel_rfl) (zFH hs hk)
def zAG : List PA → COut
  | [.one (.sl a0_n a0_s a0_g)]=>.det (IsE enc_55 3 a0_s a0_g∧p22 (⟨a0_n,zad a0_g⟩:(Sl Gate))=true) [.one (.bool (s22 (⟨a0_n,zad a0_g⟩:(Sl Gate))))]
  | _=>.no
theorem zJf:zaf Try.prog 22:=⟨_,rfl,rfl,by kernel_rfl⟩
theorem zMU:Ok Try.prog 22 zAG:=zaz zLU zJf fun args K h=>by
  unfold zAG at h
  split at h
  · rename_i a0_n a0_s a0_g
    obtain ⟨⟨⟨rfl,a0_f,rfl⟩,hs⟩,hk⟩:=h
    try rw [zac a0_f] at hs
    try rw [zac a0_f] at hk
    exact ⟨(fun _ _=>[]),(fun _=>false),zFG,q22 (⟨a0_n,a0_f⟩:(Sl Gate)) K hs hk⟩
  · exact h.elim
abbrev zMV:Tabs:=Tabs.nil
theorem zJg:TabsOk Try.prog zMV:=TabsOk.nil
abbrev zOz:Ctrs:=csm zMV (fun _ _=>[]) (fun _=>false)
def zCc:Ann:=⟨30,[(0,zK [1,2] [2]),(1,zK [4,5] [])],
 [],
 [],
 [],[]⟩
abbrev zOA:=(Int×Int)
abbrev zOB (r:zOA):List PA:=[.one (.int .i64 r.1),.one (.int .i64 r.2)]
section
variable {K:List PA→Prop} {l_a0:Line} {z:Int}
def zp5 (l_a0:Line) (z:Int):(Int×Int) :=
  ((w64 ((w64 (l_a0.Start.Num * l_a0.Slope.Den))+(w64 ((w64 (l_a0.Slope.Num * z)) * l_a0.Start.Den)))),(w64 (l_a0.Start.Den * l_a0.Slope.Den)))
end
theorem zOC (l_a0:Line) (z:Int) (K:List PA→Prop) (hk:K (zOB (zp5 l_a0 z))):vcFun Try.prog zOz zCc 104 [.agg (zar l_a0),.one (.int .i64 z)] K :=
  zay (by kernel_rfl) hk
def zrK : List PA → COut
  | [.agg [.int .i64 a0_Slope_Num,.int .i64 a0_Slope_Den,.int .i64 a0_Start_Num,.int .i64 a0_Start_Den],.one (.int .i64 a1)]=>.tot [.one (.int .i64 ((zp5 (⟨(⟨a0_Slope_Num,a0_Slope_Den⟩:Frac),(⟨a0_Start_Num,a0_Start_Den⟩:Frac)⟩:Line) a1).1)),.one (.int .i64 ((zp5 (⟨(⟨a0_Slope_Num,a0_Slope_Den⟩:Frac),(⟨a0_Start_Num,a0_Start_Den⟩:Frac)⟩:Line) a1).2))]
  | _=>.no
theorem zFI:zaf Try.prog 104:=⟨_,rfl,rfl,by kernel_rfl⟩
theorem zJh:Ok Try.prog 104 zrK:=zaz zJg zFI fun args K h=>by
  unfold zrK at h
  split at h
  · rename_i a0_Slope_Num a0_Slope_Den a0_Start_Num a0_Start_Den a1
    have hk:=h
    exact ⟨(fun _ _=>[]),(fun _=>false),zCc,zOC (⟨(⟨a0_Slope_Num,a0_Slope_Den⟩:Frac),(⟨a0_Start_Num,a0_Start_Den⟩:Frac)⟩:Line) a1 K hk⟩
  · exact h.elim
abbrev T72:Tabs:=(Tabs.nil.addF 104 zrK)
theorem zLV:TabsOk Try.prog T72:=(TabsOk.nil.addF zJh)
abbrev G72:Ctrs:=csm T72 (fun _ _=>[]) (fun _=>false)
def zJi:Ann:=⟨28,[(0,zK [2,3] [2,3]),(1,zK [3,5,6] [3]),(2,zK [4] [])],
 [],
 [],
 [],[]⟩
abbrev R72:=Bool
abbrev e72 (r:R72):List PA:=[.one (.bool r)]
section
variable {K:List PA→Prop} {l_a0:Line} {g:Gate}
def s72 (l_a0:Line) (g:Gate):Bool :=
  (cond (decide ((w64 (g.Low * ((zp5 l_a0 g.Z).2))) ≤ ((zp5 l_a0 g.Z).1)))
 (decide (((zp5 l_a0 g.Z).1)≤(w64 (g.High * ((zp5 l_a0 g.Z).2)))))
 false)
end
theorem q72 (l_a0:Line) (g:Gate) (K:List PA→Prop) (hk:K (e72 (s72 l_a0 g))):vcFun Try.prog G72 zJi 72 [.agg (zar l_a0),.agg (enc_55 g)] K :=
  zay (by kernel_rfl) (zt hk (fun hk=>hk) (fun hk=>hk))
def zFJ : List PA → COut
  | [.agg [.int .i64 a0_Slope_Num,.int .i64 a0_Slope_Den,.int .i64 a0_Start_Num,.int .i64 a0_Start_Den],.agg [.int .i64 a1_Z,.int .i64 a1_Low,.int .i64 a1_High]]=>.tot [.one (.bool (s72 (⟨(⟨a0_Slope_Num,a0_Slope_Den⟩:Frac),(⟨a0_Start_Num,a0_Start_Den⟩:Frac)⟩:Line) (⟨a1_Z,a1_Low,a1_High⟩:Gate)))]
  | _=>.no
theorem zJj:zaf Try.prog 72:=⟨_,rfl,rfl,by kernel_rfl⟩
theorem zOD:Ok Try.prog 72 zFJ:=zaz zLV zJj fun args K h=>by
  unfold zFJ at h
  split at h
  · rename_i a0_Slope_Num a0_Slope_Den a0_Start_Num a0_Start_Den a1_Z a1_Low a1_High
    have hk:=h
    exact ⟨(fun _ _=>[]),(fun _=>false),zJi,q72 (⟨(⟨a0_Slope_Num,a0_Slope_Den⟩:Frac),(⟨a0_Start_Num,a0_Start_Den⟩:Frac)⟩:Line) (⟨a1_Z,a1_Low,a1_High⟩:Gate) K hk⟩
  · exact h.elim
abbrev T27:Tabs:=(Tabs.nil.addF 72 zFJ)
theorem zLW:TabsOk Try.prog T27:=(TabsOk.nil.addF zOD)
abbrev G27:Ctrs:=csm T27 (fun _ _=>[]) (fun _=>false)
def zFK:Ann:=⟨24,[(0,zK [1,2] [2]),(1,zK [1,2,5] [2]),(2,zK [1,2,5,6] [2]),(3,zK [1,2,5,6,10] [2,22]),(4,zK [1,2,5,6] [2,22]),(5,zK [1,2,5,6,18] [2,22]),(6,zK [1,2,5,6] [2,22]),(7,zK [4] [22])],
 [(3,⟨[1,2,5,6],[2,22],[(5,22,3,fun _=>zal default)],[],[],[],[]⟩)],
 [(6,zK [1,2,5,6,18] [2,22])],
 [],[]⟩
abbrev R27:=(Sl Int)
abbrev e27 (r:R27):List PA:=[.one (.sl r.len 1 (fun i=>zal (r.get i)))]
@[irreducible] def z27:=ptF Try.prog G27 zFK Try.f27
def zCd (l_a0:Line) (zaa:(Sl Gate)) (iv0:Int) (zdU:(Sl Int)) (zfa:Nat→List PV):St:=⟨[(1,zS enc_55 3 zaa),(2,zp 2 0),(5,zv 22),(6,zI iv0)],[(2,.box 37 (zm (zar l_a0))),(22,.vec 3 1 8 zdU.len zfa)],[]⟩
abbrev zFL (K:List PA→Prop) (l_a0:Line) (zaa:(Sl Gate)) (X:St→Prop) (P:Int→(Sl Int)→Bool) (S:Int→(Sl Int)→(Sl Int)):Prop:=∀ ⦃iv0:Int⦄ ⦃zdU:(Sl Int)⦄ ⦃zfa:Nat→List PV⦄,P iv0 zdU=true→K (e27 (S iv0 zdU))→zfa=zg zal zdU→X (zCd l_a0 zaa iv0 zdU zfa)
section
variable {K:List PA→Prop} {l_a0:Line} {zaa:(Sl Gate)} {iv0:Int} {zdU:(Sl Int)} {zfa:Nat→List PV} {X0:St→Prop} {P0:Int→(Sl Int)→Bool} {S0:Int→(Sl Int)→(Sl Int)} {iv1:Int} {zp6:Bool} {zfb:(Sl Int)} {zxP:Nat→List PV}
def zp7 (S0:Int→(Sl Int)→(Sl Int)) (l_a0:Line) (zaa:(Sl Gate)) (iv1:Int) (zp6:Bool) (zfb:(Sl Int)):(Sl Int) :=
  (cond zp6
 (S0 (w64 (iv1+(1:Int))) (⟨(zfb.len+1),(zdA zfb.len zfb.get (fun _=>iv1))⟩:Sl Int))
 (S0 (w64 (iv1+(1:Int))) zfb))
def zp8 (P0:Int→(Sl Int)→Bool) (l_a0:Line) (zaa:(Sl Gate)) (iv1:Int) (zp6:Bool) (zfb:(Sl Int)):Bool :=
  (cond zp6
 (decide (((zfb.len+1) * 8≤140737488355328∧zfb.len+1≤9223372036854775807)) &&
 (P0 (w64 (iv1+(1:Int))) (⟨(zfb.len+1),(zdA zfb.len zfb.get (fun _=>iv1))⟩:Sl Int)))
 (P0 (w64 (iv1+(1:Int))) zfb))
theorem zFM (hX0:zFL K l_a0 zaa X0 P0 S0) (hs:zp8 P0 l_a0 zaa iv1 zp6 zfb=true) (hk:K (e27 (zp7 S0 l_a0 zaa iv1 zp6 zfb))) (zFN:zxP=zg zal zfb):z27 K [1,1,0,1,0,0,1,0,0,1] [X0] ⟨[(1,zS enc_55 3 zaa),(2,zp 2 0),(5,zv 22),(6,zI iv1),(18,zB zp6)],[(2,.box 37 (zm (zar l_a0))),(22,.vec 3 1 8 zfb.len zxP)],[]⟩:=by subst zFN;exact zay (by kernel_rfl) (zc hs hk (fun hs hk=>(zav hs fun hc hs=>And.intro hc (hX0 hs hk (zeH (enc:=zal) (f:=zfb.get) (h:=(fun _=>iv1)) rfl rfl)))) (fun hs hk=>(hX0 hs hk rfl)))
def zhV (l_a0:Line) (zaa:(Sl Gate)) (S0:Int→(Sl Int)→(Sl Int)) (iv0:Int) (zdU:(Sl Int)):(Sl Int) :=
  (cond (decide (iv0 < (zaa.len : Int)))
 (zp7 S0 l_a0 zaa iv0 (s72 l_a0 (zaa.get iv0.toNat)) zdU)
 zdU)
def zhW (l_a0:Line) (zaa:(Sl Gate)) (P0:Int→(Sl Int)→Bool) (iv0:Int) (zdU:(Sl Int)):Bool :=
  (cond (decide (iv0 < (zaa.len : Int)))
 (decide ((0≤iv0∧iv0 < (zaa.len:Int))) &&
 (zp8 P0 l_a0 zaa iv0 (s72 l_a0 (zaa.get iv0.toNat)) zdU))
 true)
def zhX (l_a0:Line) (zaa:(Sl Gate)):Nat→Int→(Sl Int)→(Sl Int):=lpO (fun _ _=>default) (zhV l_a0 zaa)
def zhY (l_a0:Line) (zaa:(Sl Gate)):Nat→Int→(Sl Int)→Bool:=lpO (fun _ _=>false) (zhW l_a0 zaa)
def zxQ (l_a0:Line) (zaa:(Sl Gate)) (iv0:Int) (zdU:(Sl Int)):(Sl Int):=zhX l_a0 zaa Fuel iv0 zdU
def zxR (l_a0:Line) (zaa:(Sl Gate)) (iv0:Int) (zdU:(Sl Int)):Bool:=zhY l_a0 zaa Fuel iv0 zdU
theorem zFO (hs:zxR l_a0 zaa iv0 zdU=true) (hk:K (e27 (zxQ l_a0 zaa iv0 zdU))) (zp9:zfa=zg zal zdU):z27 K [1,1,0,1,0] [] (zCd l_a0 zaa iv0 zdU zfa) :=
  zl (fun X=>z27 K [1,1,0,1,0,0] [X]) (by kernel_rfl) fun X0 hX =>
  (show ∀ k, zFL K l_a0 zaa X0 (zhY l_a0 zaa k) (zhX l_a0 zaa k) from zeK _ _ (zhW l_a0 zaa) (zhV l_a0 zaa) (zFL K l_a0 zaa X0)
 (by intro _ _ _ hs;exact absurd hs Bool.false_ne_true)
 (by intro P0 S0 hX0 iv0 zdU zfa hs hk zp9;subst zp9;exact hX _ (zay (by kernel_rfl) (zc hs hk (fun hs hk=>(zav hs fun hc hs=>And.intro hc (zFM hX0 hs hk rfl))) (fun hs hk=>hk))))) _ hs hk zp9
def s27 (l_a0:Line) (zaa:(Sl Gate)):(Sl Int) :=
  (zxQ l_a0 zaa (0:Int) (⟨0,(fun _=>default)⟩:Sl Int))
def p27 (l_a0:Line) (zaa:(Sl Gate)):Bool :=
  (zxR l_a0 zaa (0:Int) (⟨0,(fun _=>default)⟩:Sl Int))
end
theorem q27 (l_a0:Line) (zaa:(Sl Gate)) (K:List PA→Prop) (hs:p27 l_a0 zaa=true) (hk:K (e27 (s27 l_a0 zaa))):vcFun Try.prog G27 zFK 27 [.agg (zar l_a0),.one (.sl zaa.len 3 (fun i=>enc_55 (zaa.get i)))] K :=
  zay (by kernel_rfl) (zFO hs hk rfl)
def zFP : List PA → COut
  | [.agg [.int .i64 a0_Slope_Num,.int .i64 a0_Slope_Den,.int .i64 a0_Start_Num,.int .i64 a0_Start_Den],.one (.sl a1_n a1_s a1_g)]=>.det (IsE enc_55 3 a1_s a1_g∧p27 (⟨(⟨a0_Slope_Num,a0_Slope_Den⟩:Frac),(⟨a0_Start_Num,a0_Start_Den⟩:Frac)⟩:Line) (⟨a1_n,zad a1_g⟩:(Sl Gate))=true) [.one (.sl ((s27 (⟨(⟨a0_Slope_Num,a0_Slope_Den⟩:Frac),(⟨a0_Start_Num,a0_Start_Den⟩:Frac)⟩:Line) (⟨a1_n,zad a1_g⟩:(Sl Gate))).len) 1 (fun i=>zal ((s27 (⟨(⟨a0_Slope_Num,a0_Slope_Den⟩:Frac),(⟨a0_Start_Num,a0_Start_Den⟩:Frac)⟩:Line) (⟨a1_n,zad a1_g⟩:(Sl Gate))).get i)))]
  | _=>.no
theorem zJk:zaf Try.prog 27:=⟨_,rfl,rfl,by kernel_rfl⟩
theorem zOE:Ok Try.prog 27 zFP:=zaz zLW zJk fun args K h=>by
  unfold zFP at h
  split at h
  · rename_i a0_Slope_Num a0_Slope_Den a0_Start_Num a0_Start_Den a1_n a1_s a1_g
    obtain ⟨⟨⟨rfl,a1_f,rfl⟩,hs⟩,hk⟩:=h
    try rw [zac a1_f] at hs
    try rw [zac a1_f] at hk
    exact ⟨(fun _ _=>[]),(fun _=>false),zFK,q27 (⟨(⟨a0_Slope_Num,a0_Slope_Den⟩:Frac),(⟨a0_Start_Num,a0_Start_Den⟩:Frac)⟩:Line) (⟨a1_n,a1_f⟩:(Sl Gate)) K hs hk⟩
  · exact h.elim
abbrev T26:Tabs:=(Tabs.nil.addF 40 zwH)
theorem zLX:TabsOk Try.prog T26:=(TabsOk.nil.addF zMQ)
abbrev G26:Ctrs:=csm T26 (fun _ _=>[]) (fun _=>false)
def zFQ:Ann:=⟨35,[(0,zK [0,1,2,3,8] [8]),(1,zK [0,1,2,3,8,11] [8]),(2,zK [0,1,2,3,8] [8]),(3,zK [8] [8])],
 [],
 [(3,zK [0,1,2,3,8] [8])],
 [],[]⟩
abbrev R26:=Line
abbrev e26 (r:R26):List PA:=[.agg [.int .i64 r.Slope.Num,.int .i64 r.Slope.Den,.int .i64 r.Start.Num,.int .i64 r.Start.Den]]
@[irreducible] def z26:=ptF Try.prog G26 zFQ Try.f26
section
variable {K:List PA→Prop} {z:Int} {x:Int} {w:Int} {y_a3:Int} {zv0:Int} {xv0:Int} {wv0:Int} {yv0:Int}
def zmC (zv0:Int) (xv0:Int) (wv0:Int) (yv0:Int):Line :=
  (⟨(s40 (w64 (yv0 - xv0)) (w64 (wv0 - zv0))),(s40 (w64 ((w64 (xv0 * wv0)) - (w64 (yv0 * zv0)))) (w64 (wv0 - zv0)))⟩:Line)
def zmD (zv0:Int) (xv0:Int) (wv0:Int) (yv0:Int):Bool :=
  (decide ((p40 (w64 (yv0 - xv0)) (w64 (wv0 - zv0))=true)) &&
 (decide ((p40 (w64 ((w64 (xv0 * wv0)) - (w64 (yv0 * zv0)))) (w64 (wv0 - zv0))=true)) &&
 true))
theorem zxS (hs:zmD zv0 xv0 wv0 yv0=true) (hk:K (e26 (zmC zv0 xv0 wv0 yv0))):z26 K [1,1] [] ⟨[(0,zI zv0),(1,zI xv0),(2,zI wv0),(3,zI yv0),(8,zp 8 0)],[(8,.box 37 (zm (zar (⟨(⟨(0:Int),(0:Int)⟩:Frac),(⟨(0:Int),(0:Int)⟩:Frac)⟩:Line))))],[]⟩:=zay (by kernel_rfl) (zav hs fun hc hs=>And.intro hc (zav hs fun hc hs=>And.intro hc hk))
def s26 (z:Int) (x:Int) (w:Int) (y_a3:Int):Line :=
  (cond (decide (w < z))
 (zmC w y_a3 z x)
 (zmC z x w y_a3))
def p26 (z:Int) (x:Int) (w:Int) (y_a3:Int):Bool :=
  (cond (decide (w < z))
 (zmD w y_a3 z x)
 (zmD z x w y_a3))
end
theorem q26 (z:Int) (x:Int) (w:Int) (y_a3:Int) (K:List PA→Prop) (hs:p26 z x w y_a3=true) (hk:K (e26 (s26 z x w y_a3))):vcFun Try.prog G26 zFQ 26 [.one (.int .i64 z),.one (.int .i64 x),.one (.int .i64 w),.one (.int .i64 y_a3)] K :=
  zay (by kernel_rfl) (zc hs hk (fun hs hk=>(zxS hs hk)) (fun hs hk=>(zxS hs hk)))
def zFR : List PA → COut
  | [.one (.int .i64 a0),.one (.int .i64 a1),.one (.int .i64 a2),.one (.int .i64 a3)]=>.det (p26 a0 a1 a2 a3=true) [.agg [.int .i64 ((s26 a0 a1 a2 a3).Slope.Num),.int .i64 ((s26 a0 a1 a2 a3).Slope.Den),.int .i64 ((s26 a0 a1 a2 a3).Start.Num),.int .i64 ((s26 a0 a1 a2 a3).Start.Den)]]
  | _=>.no
theorem zJl:zaf Try.prog 26:=⟨_,rfl,rfl,by kernel_rfl⟩
theorem zOF:Ok Try.prog 26 zFR:=zaz zLX zJl fun args K h=>by
  unfold zFR at h
  split at h
  · rename_i a0 a1 a2 a3
    obtain ⟨hs,hk⟩:=h
    exact ⟨(fun _ _=>[]),(fun _=>false),zFQ,q26 a0 a1 a2 a3 K hs hk⟩
  · exact h.elim
abbrev zMW:Tabs:=Tabs.nil
theorem zJm:TabsOk Try.prog zMW:=TabsOk.nil
abbrev zOG:Ctrs:=csm zMW (fun _ _=>[]) (fun _=>false)
def zCe:Ann:=⟨11,[(0,zK [1,2] [2]),(1,zK [2,6] [2]),(2,zK [4] []),(3,zK [4] [])],
 [],
 [],
 [],[]⟩
abbrev zOH:=Int
abbrev e109 (r:zOH):List PA:=[.one (.int .i64 r)]
section
variable {K:List PA→Prop} {g:Gate} {which:Int}
def zrL (g:Gate) (which:Int):Int :=
  (cond (which == (0:Int))
 g.Low
 g.High)
end
theorem zOI (g:Gate) (which:Int) (K:List PA→Prop) (hk:K (e109 (zrL g which))):vcFun Try.prog zOG zCe 109 [.agg (enc_55 g),.one (.int .i64 which)] K :=
  zay (by kernel_rfl) (zt hk (fun hk=>hk) (fun hk=>hk))
def zxT : List PA → COut
  | [.agg [.int .i64 a0_Z,.int .i64 a0_Low,.int .i64 a0_High],.one (.int .i64 a1)]=>.tot [.one (.int .i64 (zrL (⟨a0_Z,a0_Low,a0_High⟩:Gate) a1))]
  | _=>.no
theorem zFS:zaf Try.prog 109:=⟨_,rfl,rfl,by kernel_rfl⟩
theorem zLY:Ok Try.prog 109 zxT:=zaz zJm zFS fun args K h=>by
  unfold zxT at h
  split at h
  · rename_i a0_Z a0_Low a0_High a1
    have hk:=h
    exact ⟨(fun _ _=>[]),(fun _=>false),zCe,zOI (⟨a0_Z,a0_Low,a0_High⟩:Gate) a1 K hk⟩
  · exact h.elim
abbrev T80:Tabs:=((Tabs.nil.addF 26 zFR).addF 109 zxT)
theorem zLZ:TabsOk Try.prog T80:=((TabsOk.nil.addF zOF).addF zLY)
abbrev G80:Ctrs:=csm T80 (fun _ _=>[]) (fun _=>false)
def zFT:Ann:=⟨67,[(0,zK [0] []),(1,zK [0,3] []),(2,zK [0,3,4] []),(3,zK [0,3,4,10] [65]),(4,zK [0,3,4] [65]),(5,zK [0,3,4,5] [65]),(6,zK [0,3,4,5,18] [65]),(7,zK [0,3,4,5] [65]),(8,zK [0,3,4,5,6] [65]),(9,zK [0,3,4,5,6,35] [65]),(10,zK [0,3,4,5,6] [65]),(11,zK [0,3,4,5,6] [65]),(12,zK [2] [65])],
 [(3,⟨[0,3,4],[65],[(3,65,37,fun _=>zar default)],[],[],[],[]⟩),(6,⟨[0,3,4,5],[65],[(3,65,37,fun _=>zar default)],[],[],[],[]⟩),(9,⟨[0,3,4,5,6],[65],[(3,65,37,fun _=>zar default)],[],[],[],[]⟩)],
 [],
 [],[]⟩
abbrev R80:=(Sl Line)
abbrev e80 (r:R80):List PA:=[.one (.sl r.len 4 (fun i=>zar (r.get i)))]
@[irreducible] def z80:=ptF Try.prog G80 zFT Try.f80
def zCf (zaa:(Sl Gate)) (iv0:Int) (zdV:(Sl Line)) (zfc:Nat→List PV):St:=⟨[(0,zS enc_55 3 zaa),(3,zv 65),(4,zI iv0)],[(65,.vec 37 4 32 zdV.len zfc)],[]⟩
abbrev zAH (K:List PA→Prop) (zaa:(Sl Gate)) (X:St→Prop) (P:Int→(Sl Line)→Bool) (S:Int→(Sl Line)→(Sl Line)):Prop:=∀ ⦃iv0:Int⦄ ⦃zdV:(Sl Line)⦄ ⦃zfc:Nat→List PV⦄,P iv0 zdV=true→K (e80 (S iv0 zdV))→zfc=zg zar zdV→X (zCf zaa iv0 zdV zfc)
def zCg (zaa:(Sl Gate)) (iv1:Int) (kv1:Int) (zdJ:(Sl Line)) (zfd:Nat→List PV):St:=⟨[(0,zS enc_55 3 zaa),(3,zv 65),(4,zI iv1),(5,zI kv1)],[(65,.vec 37 4 32 zdJ.len zfd)],[]⟩
abbrev zFU (K:List PA→Prop) (zaa:(Sl Gate)) (X:St→Prop) (P:Int→Int→(Sl Line)→Bool) (S:Int→Int→(Sl Line)→(Sl Line)):Prop:=∀ ⦃iv1:Int⦄ ⦃kv1:Int⦄ ⦃zdJ:(Sl Line)⦄ ⦃zfd:Nat→List PV⦄,P iv1 kv1 zdJ=true→K (e80 (S iv1 kv1 zdJ))→zfd=zg zar zdJ→X (zCg zaa iv1 kv1 zdJ zfd)
def zCh (zaa:(Sl Gate)) (iv2:Int) (kv2:Int) (ev2:Int) (zcu:(Sl Line)) (zfe:Nat→List PV):St:=⟨[(0,zS enc_55 3 zaa),(3,zv 65),(4,zI iv2),(5,zI kv2),(6,zI ev2)],[(65,.vec 37 4 32 zcu.len zfe)],[]⟩
abbrev zJn (K:List PA→Prop) (zaa:(Sl Gate)) (X:St→Prop) (P:Int→Int→Int→(Sl Line)→Bool) (S:Int→Int→Int→(Sl Line)→(Sl Line)):Prop:=∀ ⦃iv2:Int⦄ ⦃kv2:Int⦄ ⦃ev2:Int⦄ ⦃zcu:(Sl Line)⦄ ⦃zfe:Nat→List PV⦄,P iv2 kv2 ev2 zcu=true→K (e80 (S iv2 kv2 ev2 zcu))→zfe=zg zar zcu→X (zCh zaa iv2 kv2 ev2 zcu zfe)
section
variable {K:List PA→Prop} {zaa:(Sl Gate)} {iv0:Int} {zdV:(Sl Line)} {zfc:Nat→List PV} {X0:St→Prop} {P0:Int→(Sl Line)→Bool} {S0:Int→(Sl Line)→(Sl Line)} {iv1:Int} {kv1:Int} {zdJ:(Sl Line)} {zfd:Nat→List PV} {X1:St→Prop} {P1:Int→Int→(Sl Line)→Bool} {S1:Int→Int→(Sl Line)→(Sl Line)} {iv2:Int} {kv2:Int} {ev2:Int} {zcu:(Sl Line)} {zfe:Nat→List PV} {X2:St→Prop} {P2:Int→Int→Int→(Sl Line)→Bool} {S2:Int→Int→Int→(Sl Line)→(Sl Line)}
def zff (S0:Int→(Sl Line)→(Sl Line)) (S1:Int→Int→(Sl Line)→(Sl Line)) (zaa:(Sl Gate)) (S2:Int→Int→Int→(Sl Line)→(Sl Line)) (iv2:Int) (kv2:Int) (ev2:Int) (zcu:(Sl Line)):(Sl Line) :=
  (cond (decide (ev2 < (4:Int)))
 (cond ((zaa.get iv2.toNat).Z != (zaa.get kv2.toNat).Z)
 (S2 iv2 kv2 (w64 (ev2+(1:Int))) (⟨(zcu.len+1),(zdA zcu.len zcu.get (fun _=>(s26 ((zaa.get iv2.toNat).Z) (zrL (zaa.get iv2.toNat) (w64 (ev2.tdiv (2:Int)))) ((zaa.get kv2.toNat).Z) (zrL (zaa.get kv2.toNat) (ev2.tmod (2:Int))))))⟩:Sl Line))
 (S1 iv2 (w64 (kv2+(1:Int))) zcu))
 (S1 iv2 (w64 (kv2+(1:Int))) zcu))
def zfg (P0:Int→(Sl Line)→Bool) (P1:Int→Int→(Sl Line)→Bool) (zaa:(Sl Gate)) (P2:Int→Int→Int→(Sl Line)→Bool) (iv2:Int) (kv2:Int) (ev2:Int) (zcu:(Sl Line)):Bool :=
  (cond (decide (ev2 < (4:Int)))
 (decide ((0≤iv2∧iv2 < (zaa.len:Int))) &&
 (decide ((0≤kv2∧kv2 < (zaa.len:Int))) &&
 (cond ((zaa.get iv2.toNat).Z != (zaa.get kv2.toNat).Z)
 (decide ((0≤iv2∧iv2 < (zaa.len:Int))) &&
 (decide ((0≤iv2∧iv2 < (zaa.len:Int))) &&
 (decide (((2:Int) ≠ 0)) &&
 (decide ((0≤kv2∧kv2 < (zaa.len:Int))) &&
 (decide ((0≤kv2∧kv2 < (zaa.len:Int))) &&
 (decide (((2:Int) ≠ 0)) &&
 (decide ((p26 ((zaa.get iv2.toNat).Z) (zrL (zaa.get iv2.toNat) (w64 (ev2.tdiv (2:Int)))) ((zaa.get kv2.toNat).Z) (zrL (zaa.get kv2.toNat) (ev2.tmod (2:Int)))=true)) &&
 (decide (((zcu.len+1) * 32≤140737488355328∧zcu.len+1≤9223372036854775807)) &&
 (P2 iv2 kv2 (w64 (ev2+(1:Int))) (⟨(zcu.len+1),(zdA zcu.len zcu.get (fun _=>(s26 ((zaa.get iv2.toNat).Z) (zrL (zaa.get iv2.toNat) (w64 (ev2.tdiv (2:Int)))) ((zaa.get kv2.toNat).Z) (zrL (zaa.get kv2.toNat) (ev2.tmod (2:Int))))))⟩:Sl Line))))))))))
 (P1 iv2 (w64 (kv2+(1:Int))) zcu))))
 (P1 iv2 (w64 (kv2+(1:Int))) zcu))
def zc8 (S0:Int→(Sl Line)→(Sl Line)) (S1:Int→Int→(Sl Line)→(Sl Line)) (zaa:(Sl Gate)):Nat→Int→Int→Int→(Sl Line)→(Sl Line):=lpO (fun _ _ _ _=>default) (zff S0 S1 zaa)
def zc9 (P0:Int→(Sl Line)→Bool) (P1:Int→Int→(Sl Line)→Bool) (zaa:(Sl Gate)):Nat→Int→Int→Int→(Sl Line)→Bool:=lpO (fun _ _ _ _=>false) (zfg P0 P1 zaa)
def zqa (S0:Int→(Sl Line)→(Sl Line)) (S1:Int→Int→(Sl Line)→(Sl Line)) (zaa:(Sl Gate)) (iv2:Int) (kv2:Int) (ev2:Int) (zcu:(Sl Line)):(Sl Line):=zc8 S0 S1 zaa Fuel iv2 kv2 ev2 zcu
def zqb (P0:Int→(Sl Line)→Bool) (P1:Int→Int→(Sl Line)→Bool) (zaa:(Sl Gate)) (iv2:Int) (kv2:Int) (ev2:Int) (zcu:(Sl Line)):Bool:=zc9 P0 P1 zaa Fuel iv2 kv2 ev2 zcu
theorem zFV (hX0:zAH K zaa X0 P0 S0) (hX1:zFU K zaa X1 P1 S1) (hs:zqb P0 P1 zaa iv2 kv2 ev2 zcu=true) (hk:K (e80 (zqa S0 S1 zaa iv2 kv2 ev2 zcu))) (zqc:zfe=zg zar zcu):z80 K [1,1,0,1,0,0,1,0,0,1,0,0,1,0,0,1,0] [X0,X1] (zCh zaa iv2 kv2 ev2 zcu zfe) :=
  zl (fun X=>z80 K [1,1,0,1,0,0,1,0,0,1,0,0,1,0,0,1,0,0] [X0,X1,X]) (by kernel_rfl) fun X2 hX =>
  (show ∀ k, zJn K zaa X2 (zc9 P0 P1 zaa k) (zc8 S0 S1 zaa k) from zeK _ _ (zfg P0 P1 zaa) (zff S0 S1 zaa) (zJn K zaa X2)
 (by intro _ _ _ _ _ hs;exact absurd hs Bool.false_ne_true)
 (by intro P2 S2 hX2 iv2 kv2 ev2 zcu zfe hs hk zqc;subst zqc;exact hX _ (zay (by kernel_rfl) (zc hs hk (fun hs hk=>(zav hs fun hc hs=>And.intro hc (zav hs fun hc hs=>And.intro hc (zc hs hk (fun hs hk=>(zav hs fun hc hs=>And.intro hc (zav hs fun hc hs=>And.intro hc (zav hs fun hc hs=>And.intro hc (zav hs fun hc hs=>And.intro hc (zav hs fun hc hs=>And.intro hc (zav hs fun hc hs=>And.intro hc (zav hs fun hc hs=>And.intro hc (zav hs fun hc hs=>And.intro hc (hX2 hs hk (zeH (enc:=zar) (f:=zcu.get) (h:=(fun _=>(s26 ((zaa.get iv2.toNat).Z) (zrL (zaa.get iv2.toNat) (w64 (ev2.tdiv (2:Int)))) ((zaa.get kv2.toNat).Z) (zrL (zaa.get kv2.toNat) (ev2.tmod (2:Int)))))) rfl rfl))))))))))) (fun hs hk=>(hX1 hs hk rfl)))))) (fun hs hk=>(hX1 hs hk rfl)))))) _ hs hk zqc
def zhZ (S0:Int→(Sl Line)→(Sl Line)) (zaa:(Sl Gate)) (S1:Int→Int→(Sl Line)→(Sl Line)) (iv1:Int) (kv1:Int) (zdJ:(Sl Line)):(Sl Line) :=
  (cond (decide (kv1 < (zaa.len : Int)))
 (zqa S0 S1 zaa iv1 kv1 (0:Int) zdJ)
 (S0 (w64 (iv1+(1:Int))) zdJ))
def zh0 (P0:Int→(Sl Line)→Bool) (zaa:(Sl Gate)) (P1:Int→Int→(Sl Line)→Bool) (iv1:Int) (kv1:Int) (zdJ:(Sl Line)):Bool :=
  (cond (decide (kv1 < (zaa.len : Int)))
 (zqb P0 P1 zaa iv1 kv1 (0:Int) zdJ)
 (P0 (w64 (iv1+(1:Int))) zdJ))
def zgj (S0:Int→(Sl Line)→(Sl Line)) (zaa:(Sl Gate)):Nat→Int→Int→(Sl Line)→(Sl Line):=lpO (fun _ _ _=>default) (zhZ S0 zaa)
def zgk (P0:Int→(Sl Line)→Bool) (zaa:(Sl Gate)):Nat→Int→Int→(Sl Line)→Bool:=lpO (fun _ _ _=>false) (zh0 P0 zaa)
def zqd (S0:Int→(Sl Line)→(Sl Line)) (zaa:(Sl Gate)) (iv1:Int) (kv1:Int) (zdJ:(Sl Line)):(Sl Line):=zgj S0 zaa Fuel iv1 kv1 zdJ
def zqe (P0:Int→(Sl Line)→Bool) (zaa:(Sl Gate)) (iv1:Int) (kv1:Int) (zdJ:(Sl Line)):Bool:=zgk P0 zaa Fuel iv1 kv1 zdJ
theorem zFW (hX0:zAH K zaa X0 P0 S0) (hs:zqe P0 zaa iv1 kv1 zdJ=true) (hk:K (e80 (zqd S0 zaa iv1 kv1 zdJ))) (zqf:zfd=zg zar zdJ):z80 K [1,1,0,1,0,0,1,0,0,1,0] [X0] (zCg zaa iv1 kv1 zdJ zfd) :=
  zl (fun X=>z80 K [1,1,0,1,0,0,1,0,0,1,0,0] [X0,X]) (by kernel_rfl) fun X1 hX =>
  (show ∀ k, zFU K zaa X1 (zgk P0 zaa k) (zgj S0 zaa k) from zeK _ _ (zh0 P0 zaa) (zhZ S0 zaa) (zFU K zaa X1)
 (by intro _ _ _ _ hs;exact absurd hs Bool.false_ne_true)
 (by intro P1 S1 hX1 iv1 kv1 zdJ zfd hs hk zqf;subst zqf;exact hX _ (zay (by kernel_rfl) (zc hs hk (fun hs hk=>(zFV hX0 hX1 hs hk rfl)) (fun hs hk=>(hX0 hs hk rfl)))))) _ hs hk zqf
def zh1 (zaa:(Sl Gate)) (S0:Int→(Sl Line)→(Sl Line)) (iv0:Int) (zdV:(Sl Line)):(Sl Line) :=
  (cond (decide (iv0 < (zaa.len : Int)))
 (zqd S0 zaa iv0 (w64 (iv0+(1:Int))) zdV)
 zdV)
def zh2 (zaa:(Sl Gate)) (P0:Int→(Sl Line)→Bool) (iv0:Int) (zdV:(Sl Line)):Bool :=
  (cond (decide (iv0 < (zaa.len : Int)))
 (zqe P0 zaa iv0 (w64 (iv0+(1:Int))) zdV)
 true)
def zh3 (zaa:(Sl Gate)):Nat→Int→(Sl Line)→(Sl Line):=lpO (fun _ _=>default) (zh1 zaa)
def zh4 (zaa:(Sl Gate)):Nat→Int→(Sl Line)→Bool:=lpO (fun _ _=>false) (zh2 zaa)
def zxU (zaa:(Sl Gate)) (iv0:Int) (zdV:(Sl Line)):(Sl Line):=zh3 zaa Fuel iv0 zdV
def zxV (zaa:(Sl Gate)) (iv0:Int) (zdV:(Sl Line)):Bool:=zh4 zaa Fuel iv0 zdV
theorem zFX (hs:zxV zaa iv0 zdV=true) (hk:K (e80 (zxU zaa iv0 zdV))) (zqg:zfc=zg zar zdV):z80 K [1,1,0,1,0] [] (zCf zaa iv0 zdV zfc) :=
  zl (fun X=>z80 K [1,1,0,1,0,0] [X]) (by kernel_rfl) fun X0 hX =>
  (show ∀ k, zAH K zaa X0 (zh4 zaa k) (zh3 zaa k) from zeK _ _ (zh2 zaa) (zh1 zaa) (zAH K zaa X0)
 (by intro _ _ _ hs;exact absurd hs Bool.false_ne_true)
 (by intro P0 S0 hX0 iv0 zdV zfc hs hk zqg;subst zqg;exact hX _ (zay (by kernel_rfl) (zc hs hk (fun hs hk=>(zFW hX0 hs hk rfl)) (fun hs hk=>hk))))) _ hs hk zqg
def s80 (zaa:(Sl Gate)):(Sl Line) :=
  (zxU zaa (0:Int) (⟨0,(fun _=>default)⟩:Sl Line))
def p80 (zaa:(Sl Gate)):Bool :=
  (zxV zaa (0:Int) (⟨0,(fun _=>default)⟩:Sl Line))
end
theorem q80 (zaa:(Sl Gate)) (K:List PA→Prop) (hs:p80 zaa=true) (hk:K (e80 (s80 zaa))):vcFun Try.prog G80 zFT 80 [.one (.sl zaa.len 3 (fun i=>enc_55 (zaa.get i)))] K :=
  zay (by kernel_rfl) (zFX hs hk rfl)
def zFY : List PA → COut
  | [.one (.sl a0_n a0_s a0_g)]=>.det (IsE enc_55 3 a0_s a0_g∧p80 (⟨a0_n,zad a0_g⟩:(Sl Gate))=true) [.one (.sl ((s80 (⟨a0_n,zad a0_g⟩:(Sl Gate))).len) 4 (fun i=>zar ((s80 (⟨a0_n,zad a0_g⟩:(Sl Gate))).get i)))]
  | _=>.no
theorem zJo:zaf Try.prog 80:=⟨_,rfl,rfl,by kernel_rfl⟩
theorem zOJ:Ok Try.prog 80 zFY:=zaz zLZ zJo fun args K h=>by
  unfold zFY at h
  split at h
  · rename_i a0_n a0_s a0_g
    obtain ⟨⟨⟨rfl,a0_f,rfl⟩,hs⟩,hk⟩:=h
    try rw [zac a0_f] at hs
    try rw [zac a0_f] at hk
    exact ⟨(fun _ _=>[]),(fun _=>false),zFT,q80 (⟨a0_n,a0_f⟩:(Sl Gate)) K hs hk⟩
  · exact h.elim
abbrev T29:Tabs:=Tabs.nil
theorem zL0:TabsOk Try.prog T29:=TabsOk.nil
abbrev G29:Ctrs:=csm T29 (fun _ _=>[]) (fun _=>false)
def zJp:Ann:=⟨16,[(0,zK [2,3] [2,3]),(1,zK [4] [])],
 [],
 [],
 [],[]⟩
abbrev R29:=Bool
abbrev e29 (r:R29):List PA:=[.one (.bool r)]
section
variable {K:List PA→Prop} {a:Frac} {b:Frac}
def s29 (a:Frac) (b:Frac):Bool :=
  (decide ((w64 (a.Num * b.Den)) < (w64 (b.Num * a.Den))))
end
theorem q29 (a:Frac) (b:Frac) (K:List PA→Prop) (hk:K (e29 (s29 a b))):vcFun Try.prog G29 zJp 29 [.agg (zae a),.agg (zae b)] K :=
  zay (by kernel_rfl) hk
def zFZ : List PA → COut
  | [.agg [.int .i64 a0_Num,.int .i64 a0_Den],.agg [.int .i64 a1_Num,.int .i64 a1_Den]]=>.tot [.one (.bool (s29 (⟨a0_Num,a0_Den⟩:Frac) (⟨a1_Num,a1_Den⟩:Frac)))]
  | _=>.no
theorem zJq:zaf Try.prog 29:=⟨_,rfl,rfl,by kernel_rfl⟩
theorem zOK:Ok Try.prog 29 zFZ:=zaz zL0 zJq fun args K h=>by
  unfold zFZ at h
  split at h
  · rename_i a0_Num a0_Den a1_Num a1_Den
    have hk:=h
    exact ⟨(fun _ _=>[]),(fun _=>false),zJp,q29 (⟨a0_Num,a0_Den⟩:Frac) (⟨a1_Num,a1_Den⟩:Frac) K hk⟩
  · exact h.elim
abbrev zMX:Tabs:=(Tabs.nil.addF 104 zrK)
theorem zJr:TabsOk Try.prog zMX:=(TabsOk.nil.addF zJh)
abbrev zMY:Ctrs:=csm zMX (fun _ _=>[]) (fun _=>false)
def zxW:Ann:=⟨33,[(0,zK [1,2] [2]),(1,zK [1,2,5] [2]),(2,zK [1,2,5,11] [2]),(3,zK [1,2,5] [2]),(4,zK [1,2,5,6,7] [2]),(5,zK [1,2,5,32] [2]),(6,zK [4] []),(7,zK [4] [])],
 [(2,zK [1,2,5] [2])],
 [(5,zK [1,2,5,6,7] [2])],
 [],[]⟩
abbrev zOL:=Bool
abbrev zKp (r:zOL):List PA:=[.one (.bool r)]
@[irreducible] def z110:=ptF Try.prog zMY zxW Try.f110
def zxX (l_a0:Line) (zaa:(Sl Gate)) (iv0:Int):St:=⟨[(1,zS enc_55 3 zaa),(2,zp 2 0),(5,zI iv0)],[(2,.box 37 (zm (zar l_a0)))],[]⟩
abbrev zxY (K:List PA→Prop) (l_a0:Line) (zaa:(Sl Gate)) (X:St→Prop) (P:Int→Bool) (S:Int→Bool):Prop:=∀ ⦃iv0:Int⦄,P iv0=true→K (zKp (S iv0))→X (zxX l_a0 zaa iv0)
section
variable {K:List PA→Prop} {l_a0:Line} {zaa:(Sl Gate)} {iv0:Int} {X0:St→Prop} {P0:Int→Bool} {S0:Int→Bool} {iv1:Int} {nv1:Int} {dv1:Int}
def zmE (S0:Int→Bool) (l_a0:Line) (zaa:(Sl Gate)) (iv1:Int) (nv1:Int) (dv1:Int):Bool :=
  (cond (nv1 == (w64 ((zaa.get iv1.toNat).Low * dv1)))
 true
 (S0 (w64 (iv1+(1:Int)))))
def zmF (P0:Int→Bool) (l_a0:Line) (zaa:(Sl Gate)) (iv1:Int) (nv1:Int) (dv1:Int):Bool :=
  (decide ((0≤iv1∧iv1 < (zaa.len:Int))) &&
 (cond (nv1 == (w64 ((zaa.get iv1.toNat).Low * dv1)))
 true
 (P0 (w64 (iv1+(1:Int))))))
theorem zAI (hX0:zxY K l_a0 zaa X0 P0 S0) (hs:zmF P0 l_a0 zaa iv1 nv1 dv1=true) (hk:K (zKp (zmE S0 l_a0 zaa iv1 nv1 dv1))):z110 K [1,0,1,0,0,1,0,0,1] [X0] ⟨[(1,zS enc_55 3 zaa),(2,zp 2 0),(5,zI iv1),(6,zI nv1),(7,zI dv1)],[(2,.box 37 (zm (zar l_a0)))],[]⟩:=zay (by kernel_rfl) (zav hs fun hc hs=>And.intro hc (zc hs hk (fun hs hk=>hk) (fun hs hk=>(hX0 hs hk))))
def zfE (l_a0:Line) (zaa:(Sl Gate)) (S0:Int→Bool) (iv0:Int):Bool :=
  (cond (decide (iv0 < (zaa.len : Int)))
 (zmE S0 l_a0 zaa iv0 ((zp5 l_a0 ((zaa.get iv0.toNat).Z)).1) ((zp5 l_a0 ((zaa.get iv0.toNat).Z)).2))
 false)
def zfF (l_a0:Line) (zaa:(Sl Gate)) (P0:Int→Bool) (iv0:Int):Bool :=
  (cond (decide (iv0 < (zaa.len : Int)))
 (decide ((0≤iv0∧iv0 < (zaa.len:Int))) &&
 (zmF P0 l_a0 zaa iv0 ((zp5 l_a0 ((zaa.get iv0.toNat).Z)).1) ((zp5 l_a0 ((zaa.get iv0.toNat).Z)).2)))
 true)
def zfG (l_a0:Line) (zaa:(Sl Gate)):Nat→Int→Bool:=lpO (fun _=>default) (zfE l_a0 zaa)
def zfH (l_a0:Line) (zaa:(Sl Gate)):Nat→Int→Bool:=lpO (fun _=>false) (zfF l_a0 zaa)
def zrM (l_a0:Line) (zaa:(Sl Gate)) (iv0:Int):Bool:=zfG l_a0 zaa Fuel iv0
def zrN (l_a0:Line) (zaa:(Sl Gate)) (iv0:Int):Bool:=zfH l_a0 zaa Fuel iv0
theorem zAJ (hs:zrN l_a0 zaa iv0=true) (hk:K (zKp (zrM l_a0 zaa iv0))):z110 K [1,0,1,0] [] (zxX l_a0 zaa iv0) :=
  zl (fun X=>z110 K [1,0,1,0,0] [X]) (by kernel_rfl) fun X0 hX =>
  (show ∀ k, zxY K l_a0 zaa X0 (zfH l_a0 zaa k) (zfG l_a0 zaa k) from zeK _ _ (zfF l_a0 zaa) (zfE l_a0 zaa) (zxY K l_a0 zaa X0)
 (by intro _ hs;exact absurd hs Bool.false_ne_true)
 (by intro P0 S0 hX0 iv0 hs hk;exact hX _ (zay (by kernel_rfl) (zc hs hk (fun hs hk=>(zav hs fun hc hs=>And.intro hc (zAI hX0 hs hk))) (fun hs hk=>hk))))) _ hs hk
def zqh (l_a0:Line) (zaa:(Sl Gate)):Bool :=
  (zrM l_a0 zaa (0:Int))
def zF0 (l_a0:Line) (zaa:(Sl Gate)):Bool :=
  (zrN l_a0 zaa (0:Int))
end
theorem zOM (l_a0:Line) (zaa:(Sl Gate)) (K:List PA→Prop) (hs:zF0 l_a0 zaa=true) (hk:K (zKp (zqh l_a0 zaa))):vcFun Try.prog zMY zxW 110 [.agg (zar l_a0),.one (.sl zaa.len 3 (fun i=>enc_55 (zaa.get i)))] K :=
  zay (by kernel_rfl) (zAJ hs hk)
def zxZ : List PA → COut
  | [.agg [.int .i64 a0_Slope_Num,.int .i64 a0_Slope_Den,.int .i64 a0_Start_Num,.int .i64 a0_Start_Den],.one (.sl a1_n a1_s a1_g)]=>.det (IsE enc_55 3 a1_s a1_g∧zF0 (⟨(⟨a0_Slope_Num,a0_Slope_Den⟩:Frac),(⟨a0_Start_Num,a0_Start_Den⟩:Frac)⟩:Line) (⟨a1_n,zad a1_g⟩:(Sl Gate))=true) [.one (.bool (zqh (⟨(⟨a0_Slope_Num,a0_Slope_Den⟩:Frac),(⟨a0_Start_Num,a0_Start_Den⟩:Frac)⟩:Line) (⟨a1_n,zad a1_g⟩:(Sl Gate))))]
  | _=>.no
theorem zF1:zaf Try.prog 110:=⟨_,rfl,rfl,by kernel_rfl⟩
theorem zL1:Ok Try.prog 110 zxZ:=zaz zJr zF1 fun args K h=>by
  unfold zxZ at h
  split at h
  · rename_i a0_Slope_Num a0_Slope_Den a0_Start_Num a0_Start_Den a1_n a1_s a1_g
    obtain ⟨⟨⟨rfl,a1_f,rfl⟩,hs⟩,hk⟩:=h
    try rw [zac a1_f] at hs
    try rw [zac a1_f] at hk
    exact ⟨(fun _ _=>[]),(fun _=>false),zxW,zOM (⟨(⟨a0_Slope_Num,a0_Slope_Den⟩:Frac),(⟨a0_Start_Num,a0_Start_Den⟩:Frac)⟩:Line) (⟨a1_n,a1_f⟩:(Sl Gate)) K hs hk⟩
  · exact h.elim
abbrev T81:Tabs:=((Tabs.nil.addF 29 zFZ).addF 110 zxZ)
theorem zL2:TabsOk Try.prog T81:=((TabsOk.nil.addF zOK).addF zL1)
abbrev G81:Ctrs:=csm T81 (fun _ _=>[]) (fun _=>false)
def zF2:Ann:=⟨30,[(0,zK [2,3,4] [3,4]),(1,zK [2,3,4,13] [3,4]),(2,zK [6] []),(3,zK [3,4,19] [3,4]),(4,zK [6] []),(5,zK [6] [])],
 [],
 [(3,zK [2,3,4] [3,4])],
 [],[]⟩
abbrev R81:=Bool
abbrev e81 (r:R81):List PA:=[.one (.bool r)]
@[irreducible] def z81:=ptF Try.prog G81 zF2 Try.f81
section
variable {K:List PA→Prop} {a:Line} {b:Line} {zaa:(Sl Gate)}
def zqi (a:Line) (b:Line) (zaa:(Sl Gate)):Bool :=
  (cond (zqh a zaa)
 (s29 a.Slope b.Slope)
 (s29 b.Slope a.Slope))
def zqj (a:Line) (b:Line) (zaa:(Sl Gate)):Bool :=
  (decide ((zF0 a zaa=true)) &&
 true)
theorem zF3 (hs:zqj a b zaa=true) (hk:K (e81 (zqi a b zaa))):z81 K [1,1] [] ⟨[(2,zS enc_55 3 zaa),(3,zp 3 0),(4,zp 4 0)],[(3,.box 37 (zm (zar a))),(4,.box 37 (zm (zar b)))],[]⟩:=zay (by kernel_rfl) (zav hs fun hc hs=>And.intro (And.intro (zE enc_55 3 zaa.get) hc) (zt hk (fun hk=>hk) (fun hk=>hk)))
def s81 (a:Line) (b:Line) (zaa:(Sl Gate)):Bool :=
  (cond ((zqh a zaa) != (zqh b zaa))
 (zqh a zaa)
 (zqi a b zaa))
def p81 (a:Line) (b:Line) (zaa:(Sl Gate)):Bool :=
  (decide ((zF0 a zaa=true)) &&
 (decide ((zF0 b zaa=true)) &&
 (cond ((zqh a zaa) != (zqh b zaa))
 (decide ((zF0 a zaa=true)) &&
 true)
 (zqj a b zaa))))
end
theorem q81 (a:Line) (b:Line) (zaa:(Sl Gate)) (K:List PA→Prop) (hs:p81 a b zaa=true) (hk:K (e81 (s81 a b zaa))):vcFun Try.prog G81 zF2 81 [.agg (zar a),.agg (zar b),.one (.sl zaa.len 3 (fun i=>enc_55 (zaa.get i)))] K :=
  zay (by kernel_rfl) (zav hs fun hc hs=>And.intro (And.intro (zE enc_55 3 zaa.get) hc) (zav hs fun hc hs=>And.intro (And.intro (zE enc_55 3 zaa.get) hc) (zc hs hk (fun hs hk=>(zav hs fun hc hs=>And.intro (And.intro (zE enc_55 3 zaa.get) hc) hk)) (fun hs hk=>(zF3 hs hk)))))
def zF4 : List PA → COut
  | [.agg [.int .i64 a0_Slope_Num,.int .i64 a0_Slope_Den,.int .i64 a0_Start_Num,.int .i64 a0_Start_Den],.agg [.int .i64 a1_Slope_Num,.int .i64 a1_Slope_Den,.int .i64 a1_Start_Num,.int .i64 a1_Start_Den],.one (.sl a2_n a2_s a2_g)]=>.det (IsE enc_55 3 a2_s a2_g∧p81 (⟨(⟨a0_Slope_Num,a0_Slope_Den⟩:Frac),(⟨a0_Start_Num,a0_Start_Den⟩:Frac)⟩:Line) (⟨(⟨a1_Slope_Num,a1_Slope_Den⟩:Frac),(⟨a1_Start_Num,a1_Start_Den⟩:Frac)⟩:Line) (⟨a2_n,zad a2_g⟩:(Sl Gate))=true) [.one (.bool (s81 (⟨(⟨a0_Slope_Num,a0_Slope_Den⟩:Frac),(⟨a0_Start_Num,a0_Start_Den⟩:Frac)⟩:Line) (⟨(⟨a1_Slope_Num,a1_Slope_Den⟩:Frac),(⟨a1_Start_Num,a1_Start_Den⟩:Frac)⟩:Line) (⟨a2_n,zad a2_g⟩:(Sl Gate))))]
  | _=>.no
theorem zJs:zaf Try.prog 81:=⟨_,rfl,rfl,by kernel_rfl⟩
theorem zON:Ok Try.prog 81 zF4:=zaz zL2 zJs fun args K h=>by
  unfold zF4 at h
  split at h
  · rename_i a0_Slope_Num a0_Slope_Den a0_Start_Num a0_Start_Den a1_Slope_Num a1_Slope_Den a1_Start_Num a1_Start_Den a2_n a2_s a2_g
    obtain ⟨⟨⟨rfl,a2_f,rfl⟩,hs⟩,hk⟩:=h
    try rw [zac a2_f] at hs
    try rw [zac a2_f] at hk
    exact ⟨(fun _ _=>[]),(fun _=>false),zF2,q81 (⟨(⟨a0_Slope_Num,a0_Slope_Den⟩:Frac),(⟨a0_Start_Num,a0_Start_Den⟩:Frac)⟩:Line) (⟨(⟨a1_Slope_Num,a1_Slope_Den⟩:Frac),(⟨a1_Start_Num,a1_Start_Den⟩:Frac)⟩:Line) (⟨a2_n,a2_f⟩:(Sl Gate)) K hs hk⟩
  · exact h.elim
abbrev T33:Tabs:=(((Tabs.nil.addF 27 zFP).addF 80 zFY).addF 81 zF4)
theorem zL3:TabsOk Try.prog T33:=(((TabsOk.nil.addF zOE).addF zOJ).addF zON)
abbrev G33:Ctrs:=csm T33 (fun _ _=>[]) (fun _=>false)
def zF5:Ann:=⟨73,[(0,zK [0] []),(1,zK [0,3] []),(2,zK [0,3,4] []),(3,zK [0,3,4,5] []),(4,zK [0,3,4,5,12] []),(5,zK [0,3,4,5] [61]),(6,zK [0,3,4,5,24] []),(7,zK [0,3,4,5,6] []),(8,zK [0,3,4,5,6,40] []),(9,zK [0,3,4,5,6] []),(10,zK [0,3,4,5,6,57] []),(11,zK [0,3,4,5] [61]),(12,zK [2] [])],
 [(4,⟨[0,3,4,5],[],[],[],[],[],[(3,4,fun _=>zar default)]⟩),(8,zK [0,3,4,5,6] [])],
 [(3,zK [0,3,4] []),(10,zK [0,3,4,5,6] [])],
 [],[]⟩
abbrev R33:=(Sl Line)
abbrev e33 (r:R33):List PA:=[.one (.sl r.len 4 (fun i=>zar (r.get i)))]
@[irreducible] def z33:=ptF Try.prog G33 zF5 Try.f33
def zCi (zaa:(Sl Gate)) (lv0:(Sl Line)) (zdG:(Sl Line)) (iv1:Int) (zfh:Nat→List PV):St:=⟨[(0,zS enc_55 3 zaa),(3,zP (.sl zdG.len 4 zfh)),(4,zS zar 4 lv0),(5,zI iv1)],[],[]⟩
abbrev zAK (K:List PA→Prop) (zaa:(Sl Gate)) (lv0:(Sl Line)) (X:St→Prop) (P:(Sl Line)→Int→Bool) (S:(Sl Line)→Int→(Sl Line)):Prop:=∀ ⦃zdG:(Sl Line)⦄ ⦃iv1:Int⦄ ⦃zfh:Nat→List PV⦄,P zdG iv1=true→K (e33 (S zdG iv1))→zfh=zg zar zdG→X (zCi zaa lv0 zdG iv1 zfh)
def zCj (zaa:(Sl Gate)) (lv0:(Sl Line)) (zcA:(Sl Line)) (iv2:Int) (zg1:Int) (zfi:Nat→List PV):St:=⟨[(0,zS enc_55 3 zaa),(3,zP (.sl zcA.len 4 zfi)),(4,zS zar 4 lv0),(5,zI iv2),(6,zI zg1)],[],[]⟩
abbrev zJt (K:List PA→Prop) (zaa:(Sl Gate)) (lv0:(Sl Line)) (X:St→Prop) (P:(Sl Line)→Int→Int→Bool) (S:(Sl Line)→Int→Int→(Sl Line)):Prop:=∀ ⦃zcA:(Sl Line)⦄ ⦃iv2:Int⦄ ⦃zg1:Int⦄ ⦃zfi:Nat→List PV⦄,P zcA iv2 zg1=true→K (e33 (S zcA iv2 zg1))→zfi=zg zar zcA→X (zCj zaa lv0 zcA iv2 zg1 zfi)
section
variable {K:List PA→Prop} {zaa:(Sl Gate)} {lv0:(Sl Line)} {zF6:Nat→List PV} {zdG:(Sl Line)} {iv1:Int} {zfh:Nat→List PV} {X1:St→Prop} {P1:(Sl Line)→Int→Bool} {S1:(Sl Line)→Int→(Sl Line)} {zcA:(Sl Line)} {iv2:Int} {zg1:Int} {zfi:Nat→List PV} {X2:St→Prop} {P2:(Sl Line)→Int→Int→Bool} {S2:(Sl Line)→Int→Int→(Sl Line)} {zbA:(Sl Line)} {iv3:Int} {zcn:Int} {zx0:Nat→List PV}
def zkl (S1:(Sl Line)→Int→(Sl Line)) (zaa:(Sl Gate)) (lv0:(Sl Line)) (zbA:(Sl Line)) (iv3:Int) (zcn:Int):(Sl Line) :=
  (cond (decide (zcn < (zbA.len : Int)))
 (cond (match (match ((zbA.get zcn.toNat).Slope.Num == (lv0.get iv3.toNat).Slope.Num) with | true => (match ((zbA.get zcn.toNat).Slope.Den == (lv0.get iv3.toNat).Slope.Den) with | true => true | false => false) | false => false) with | true => (match (match ((zbA.get zcn.toNat).Start.Num == (lv0.get iv3.toNat).Start.Num) with | true => (match ((zbA.get zcn.toNat).Start.Den == (lv0.get iv3.toNat).Start.Den) with | true => true | false => false) | false => false) with | true => true | false => false) | false => false)
 (S1 zbA (w64 (iv3+(1:Int))))
 (S1 (⟨(((zcn - (0:Int)).toNat+1)+((zbA.len:Int) - zcn).toNat),(zdA ((zcn - (0:Int)).toNat+1) (zdA ((zcn - (0:Int)).toNat) (fun i=>zbA.get (i+((0:Int).toNat))) (fun _=>(lv0.get iv3.toNat))) (fun i=>zbA.get (i+zcn.toNat)))⟩:Sl Line) (w64 (iv3+(1:Int)))))
 (S1 (⟨(((zcn - (0:Int)).toNat+1)+((zbA.len:Int) - zcn).toNat),(zdA ((zcn - (0:Int)).toNat+1) (zdA ((zcn - (0:Int)).toNat) (fun i=>zbA.get (i+((0:Int).toNat))) (fun _=>(lv0.get iv3.toNat))) (fun i=>zbA.get (i+zcn.toNat)))⟩:Sl Line) (w64 (iv3+(1:Int)))))
def zkm (P1:(Sl Line)→Int→Bool) (zaa:(Sl Gate)) (lv0:(Sl Line)) (zbA:(Sl Line)) (iv3:Int) (zcn:Int):Bool :=
  (cond (decide (zcn < (zbA.len : Int)))
 (decide ((0≤zcn∧zcn < (zbA.len:Int))) &&
 (decide ((0≤iv3∧iv3 < (lv0.len:Int))) &&
 (cond (match (match ((zbA.get zcn.toNat).Slope.Num == (lv0.get iv3.toNat).Slope.Num) with | true => (match ((zbA.get zcn.toNat).Slope.Den == (lv0.get iv3.toNat).Slope.Den) with | true => true | false => false) | false => false) with | true => (match (match ((zbA.get zcn.toNat).Start.Num == (lv0.get iv3.toNat).Start.Num) with | true => (match ((zbA.get zcn.toNat).Start.Den == (lv0.get iv3.toNat).Start.Den) with | true => true | false => false) | false => false) with | true => true | false => false) | false => false)
 (P1 zbA (w64 (iv3+(1:Int))))
 (decide ((0≤(0:Int)∧(0:Int)≤zcn∧zcn≤(zbA.len:Int))) &&
 (decide (((zcn - (0:Int)).toNat * 32≤140737488355328∧(zcn - (0:Int)).toNat≤9223372036854775807)) &&
 (decide ((0≤iv3∧iv3 < (lv0.len:Int))) &&
 (decide ((((zcn - (0:Int)).toNat+1) * 32≤140737488355328∧(zcn - (0:Int)).toNat+1≤9223372036854775807)) &&
 (decide ((0≤zcn∧zcn≤(zbA.len:Int)∧(zbA.len:Int)≤(zbA.len:Int))) &&
 (decide (((((zcn - (0:Int)).toNat+1)+((zbA.len:Int) - zcn).toNat) * 32≤140737488355328∧((zcn - (0:Int)).toNat+1)+((zbA.len:Int) - zcn).toNat≤9223372036854775807)) &&
 (P1 (⟨(((zcn - (0:Int)).toNat+1)+((zbA.len:Int) - zcn).toNat),(zdA ((zcn - (0:Int)).toNat+1) (zdA ((zcn - (0:Int)).toNat) (fun i=>zbA.get (i+((0:Int).toNat))) (fun _=>(lv0.get iv3.toNat))) (fun i=>zbA.get (i+zcn.toNat)))⟩:Sl Line) (w64 (iv3+(1:Int)))))))))))))
 (decide ((0≤(0:Int)∧(0:Int)≤zcn∧zcn≤(zbA.len:Int))) &&
 (decide (((zcn - (0:Int)).toNat * 32≤140737488355328∧(zcn - (0:Int)).toNat≤9223372036854775807)) &&
 (decide ((0≤iv3∧iv3 < (lv0.len:Int))) &&
 (decide ((((zcn - (0:Int)).toNat+1) * 32≤140737488355328∧(zcn - (0:Int)).toNat+1≤9223372036854775807)) &&
 (decide ((0≤zcn∧zcn≤(zbA.len:Int)∧(zbA.len:Int)≤(zbA.len:Int))) &&
 (decide (((((zcn - (0:Int)).toNat+1)+((zbA.len:Int) - zcn).toNat) * 32≤140737488355328∧((zcn - (0:Int)).toNat+1)+((zbA.len:Int) - zcn).toNat≤9223372036854775807)) &&
 (P1 (⟨(((zcn - (0:Int)).toNat+1)+((zbA.len:Int) - zcn).toNat),(zdA ((zcn - (0:Int)).toNat+1) (zdA ((zcn - (0:Int)).toNat) (fun i=>zbA.get (i+((0:Int).toNat))) (fun _=>(lv0.get iv3.toNat))) (fun i=>zbA.get (i+zcn.toNat)))⟩:Sl Line) (w64 (iv3+(1:Int)))))))))))
theorem zx1 (hX1:zAK K zaa lv0 X1 P1 S1) (hs:zkm P1 zaa lv0 zbA iv3 zcn=true) (hk:K (e33 (zkl S1 zaa lv0 zbA iv3 zcn))) (zF7:zx0=zg zar zbA):z33 K [1,1,1,0,1,0,0,1,0,0,1,1,1] [X1] ⟨[(0,zS enc_55 3 zaa),(3,zP (.sl zbA.len 4 zx0)),(4,zS zar 4 lv0),(5,zI iv3),(6,zI zcn)],[],[]⟩:=by subst zF7;exact zay (by kernel_rfl) (zc hs hk (fun hs hk=>(zav hs fun hc hs=>And.intro hc (zav hs fun hc hs=>And.intro hc (zc hs hk (fun hs hk=>(hX1 hs hk rfl)) (fun hs hk=>(zav hs fun hc hs=>And.intro hc (zav hs fun hc hs=>And.intro hc (zav hs fun hc hs=>And.intro hc (zav hs fun hc hs=>And.intro hc (zav hs fun hc hs=>And.intro hc (zav hs fun hc hs=>And.intro hc (hX1 hs hk (zeH (enc:=zar) (f:=(zdA ((zcn - (0:Int)).toNat) (fun i=>zbA.get (i+((0:Int).toNat))) (fun _=>(lv0.get iv3.toNat)))) (h:=(fun i=>zbA.get (i+zcn.toNat))) (zeH (enc:=zar) (f:=(fun i=>zbA.get (i+((0:Int).toNat)))) (h:=(fun _=>(lv0.get iv3.toNat))) rfl rfl) rfl))))))))))))) (fun hs hk=>(zav hs fun hc hs=>And.intro hc (zav hs fun hc hs=>And.intro hc (zav hs fun hc hs=>And.intro hc (zav hs fun hc hs=>And.intro hc (zav hs fun hc hs=>And.intro hc (zav hs fun hc hs=>And.intro hc (hX1 hs hk (zeH (enc:=zar) (f:=(zdA ((zcn - (0:Int)).toNat) (fun i=>zbA.get (i+((0:Int).toNat))) (fun _=>(lv0.get iv3.toNat)))) (h:=(fun i=>zbA.get (i+zcn.toNat))) (zeH (enc:=zar) (f:=(fun i=>zbA.get (i+((0:Int).toNat)))) (h:=(fun _=>(lv0.get iv3.toNat))) rfl rfl) rfl))))))))))
def zh5 (S1:(Sl Line)→Int→(Sl Line)) (zaa:(Sl Gate)) (lv0:(Sl Line)) (S2:(Sl Line)→Int→Int→(Sl Line)) (zcA:(Sl Line)) (iv2:Int) (zg1:Int):(Sl Line) :=
  (cond (decide (zg1 < (zcA.len : Int)))
 (cond (s81 (zcA.get zg1.toNat) (lv0.get iv2.toNat) zaa)
 (S2 zcA iv2 (w64 (zg1+(1:Int))))
 (zkl S1 zaa lv0 zcA iv2 zg1))
 (zkl S1 zaa lv0 zcA iv2 zg1))
def zh6 (P1:(Sl Line)→Int→Bool) (zaa:(Sl Gate)) (lv0:(Sl Line)) (P2:(Sl Line)→Int→Int→Bool) (zcA:(Sl Line)) (iv2:Int) (zg1:Int):Bool :=
  (cond (decide (zg1 < (zcA.len : Int)))
 (decide ((0≤zg1∧zg1 < (zcA.len:Int))) &&
 (decide ((0≤iv2∧iv2 < (lv0.len:Int))) &&
 (decide ((p81 (zcA.get zg1.toNat) (lv0.get iv2.toNat) zaa=true)) &&
 (cond (s81 (zcA.get zg1.toNat) (lv0.get iv2.toNat) zaa)
 (P2 zcA iv2 (w64 (zg1+(1:Int))))
 (zkm P1 zaa lv0 zcA iv2 zg1)))))
 (zkm P1 zaa lv0 zcA iv2 zg1))
def zgl (S1:(Sl Line)→Int→(Sl Line)) (zaa:(Sl Gate)) (lv0:(Sl Line)):Nat→(Sl Line)→Int→Int→(Sl Line):=lpO (fun _ _ _=>default) (zh5 S1 zaa lv0)
def zh7 (P1:(Sl Line)→Int→Bool) (zaa:(Sl Gate)) (lv0:(Sl Line)):Nat→(Sl Line)→Int→Int→Bool:=lpO (fun _ _ _=>false) (zh6 P1 zaa lv0)
def zqk (S1:(Sl Line)→Int→(Sl Line)) (zaa:(Sl Gate)) (lv0:(Sl Line)) (zcA:(Sl Line)) (iv2:Int) (zg1:Int):(Sl Line):=zgl S1 zaa lv0 Fuel zcA iv2 zg1
def zql (P1:(Sl Line)→Int→Bool) (zaa:(Sl Gate)) (lv0:(Sl Line)) (zcA:(Sl Line)) (iv2:Int) (zg1:Int):Bool:=zh7 P1 zaa lv0 Fuel zcA iv2 zg1
theorem zF8 (hX1:zAK K zaa lv0 X1 P1 S1) (hs:zql P1 zaa lv0 zcA iv2 zg1=true) (hk:K (e33 (zqk S1 zaa lv0 zcA iv2 zg1))) (zqm:zfi=zg zar zcA):z33 K [1,1,1,0,1,0,0,1,0,0,1,1,0,0] [X1] (zCj zaa lv0 zcA iv2 zg1 zfi) :=
  zl (fun X=>z33 K [1,1,1,0,1,0,0,1,0,0,1,1,0,0,0] [X1,X]) (by kernel_rfl) fun X2 hX =>
  (show ∀ k, zJt K zaa lv0 X2 (zh7 P1 zaa lv0 k) (zgl S1 zaa lv0 k) from zeK _ _ (zh6 P1 zaa lv0) (zh5 S1 zaa lv0) (zJt K zaa lv0 X2)
 (by intro _ _ _ _ hs;exact absurd hs Bool.false_ne_true)
 (by intro P2 S2 hX2 zcA iv2 zg1 zfi hs hk zqm;subst zqm;exact hX _ (zay (by kernel_rfl) (zc hs hk (fun hs hk=>(zav hs fun hc hs=>And.intro hc (zav hs fun hc hs=>And.intro hc (zav hs fun hc hs=>And.intro (And.intro (zE enc_55 3 zaa.get) hc) (zc hs hk (fun hs hk=>(hX2 hs hk rfl)) (fun hs hk=>(zx1 hX1 hs hk rfl))))))) (fun hs hk=>(zx1 hX1 hs hk rfl)))))) _ hs hk zqm
def zh8 (zaa:(Sl Gate)) (lv0:(Sl Line)) (S1:(Sl Line)→Int→(Sl Line)) (zdG:(Sl Line)) (iv1:Int):(Sl Line) :=
  (cond (decide (iv1 < (lv0.len : Int)))
 (cond (decide (((s27 (lv0.get iv1.toNat) zaa).len : Int) < (zaa.len : Int)))
 (S1 zdG (w64 (iv1+(1:Int))))
 (zqk S1 zaa lv0 zdG iv1 (0:Int)))
 zdG)
def zh9 (zaa:(Sl Gate)) (lv0:(Sl Line)) (P1:(Sl Line)→Int→Bool) (zdG:(Sl Line)) (iv1:Int):Bool :=
  (cond (decide (iv1 < (lv0.len : Int)))
 (decide ((0≤iv1∧iv1 < (lv0.len:Int))) &&
 (decide ((p27 (lv0.get iv1.toNat) zaa=true)) &&
 (cond (decide (((s27 (lv0.get iv1.toNat) zaa).len : Int) < (zaa.len : Int)))
 (P1 zdG (w64 (iv1+(1:Int))))
 (zql P1 zaa lv0 zdG iv1 (0:Int)))))
 true)
def zgm (zaa:(Sl Gate)) (lv0:(Sl Line)):Nat→(Sl Line)→Int→(Sl Line):=lpO (fun _ _=>default) (zh8 zaa lv0)
def zia (zaa:(Sl Gate)) (lv0:(Sl Line)):Nat→(Sl Line)→Int→Bool:=lpO (fun _ _=>false) (zh9 zaa lv0)
def zx2 (zaa:(Sl Gate)) (lv0:(Sl Line)) (zdG:(Sl Line)) (iv1:Int):(Sl Line):=zgm zaa lv0 Fuel zdG iv1
def zx3 (zaa:(Sl Gate)) (lv0:(Sl Line)) (zdG:(Sl Line)) (iv1:Int):Bool:=zia zaa lv0 Fuel zdG iv1
theorem zF9 (hs:zx3 zaa lv0 zdG iv1=true) (hk:K (e33 (zx2 zaa lv0 zdG iv1))) (zqn:zfh=zg zar zdG):z33 K [1,1,1,0,1,0] [] (zCi zaa lv0 zdG iv1 zfh) :=
  zl (fun X=>z33 K [1,1,1,0,1,0,0] [X]) (by kernel_rfl) fun X1 hX =>
  (show ∀ k, zAK K zaa lv0 X1 (zia zaa lv0 k) (zgm zaa lv0 k) from zeK _ _ (zh9 zaa lv0) (zh8 zaa lv0) (zAK K zaa lv0 X1)
 (by intro _ _ _ hs;exact absurd hs Bool.false_ne_true)
 (by intro P1 S1 hX1 zdG iv1 zfh hs hk zqn;subst zqn;exact hX _ (zay (by kernel_rfl) (zc hs hk (fun hs hk=>(zav hs fun hc hs=>And.intro hc (zav hs fun hc hs=>And.intro (And.intro (zE enc_55 3 zaa.get) hc) (zc hs hk (fun hs hk=>(hX1 hs hk rfl)) (fun hs hk=>(zF8 hX1 hs hk rfl)))))) (fun hs hk=>hk))))) _ hs hk zqn
def zx4 (zaa:(Sl Gate)) (lv0:(Sl Line)):(Sl Line) :=
  (zx2 zaa lv0 (⟨0,(fun _=>default)⟩:Sl Line) (0:Int))
def zx5 (zaa:(Sl Gate)) (lv0:(Sl Line)):Bool :=
  (zx3 zaa lv0 (⟨0,(fun _=>default)⟩:Sl Line) (0:Int))
theorem zGa (hs:zx5 zaa lv0=true) (hk:K (e33 (zx4 zaa lv0))) (zL4:zF6=zg zar lv0):z33 K [1,1,1] [] ⟨[(0,zS enc_55 3 zaa),(3,zP (.nils)),(4,zP (.sl lv0.len 4 zF6))],[],[]⟩:=by subst zL4;exact zay (by kernel_rfl) (zF9 hs hk rfl)
def s33 (zaa:(Sl Gate)):(Sl Line) :=
  (zx4 zaa (s80 zaa))
def p33 (zaa:(Sl Gate)):Bool :=
  (decide ((p80 zaa=true)) &&
 (zx5 zaa (s80 zaa)))
end
theorem q33 (zaa:(Sl Gate)) (K:List PA→Prop) (hs:p33 zaa=true) (hk:K (e33 (s33 zaa))):vcFun Try.prog G33 zF5 33 [.one (.sl zaa.len 3 (fun i=>enc_55 (zaa.get i)))] K :=
  zay (by kernel_rfl) (zav hs fun hc hs=>And.intro (And.intro (zE enc_55 3 zaa.get) hc) (zGa hs hk rfl))
def zAL : List PA → COut
  | [.one (.sl a0_n a0_s a0_g)]=>.det (IsE enc_55 3 a0_s a0_g∧p33 (⟨a0_n,zad a0_g⟩:(Sl Gate))=true) [.one (.sl ((s33 (⟨a0_n,zad a0_g⟩:(Sl Gate))).len) 4 (fun i=>zar ((s33 (⟨a0_n,zad a0_g⟩:(Sl Gate))).get i)))]
  | _=>.no
theorem zJu:zaf Try.prog 33:=⟨_,rfl,rfl,by kernel_rfl⟩
theorem zMZ:Ok Try.prog 33 zAL:=zaz zL3 zJu fun args K h=>by
  unfold zAL at h
  split at h
  · rename_i a0_n a0_s a0_g
    obtain ⟨⟨⟨rfl,a0_f,rfl⟩,hs⟩,hk⟩:=h
    try rw [zac a0_f] at hs
    try rw [zac a0_f] at hk
    exact ⟨(fun _ _=>[]),(fun _=>false),zF5,q33 (⟨a0_n,a0_f⟩:(Sl Gate)) K hs hk⟩
  · exact h.elim
abbrev T71:Tabs:=Tabs.nil
theorem zL5:TabsOk Try.prog T71:=TabsOk.nil
abbrev G71:Ctrs:=csm T71 (fun _ _=>[]) (fun _=>false)
def zGb:Ann:=⟨41,[(0,zK [0] []),(1,zK [0,5,6] []),(2,zK [0,5,6,7] []),(3,zK [0,5,6,7,19] []),(4,zK [0,5,6,7] []),(5,zK [0,5,6,7] []),(6,zK [2,3,4] [])],
 [(3,zK [0,5,6,7] [])],
 [],
 [],[]⟩
abbrev R71:=(Int×Int×Bool)
abbrev e71 (r:R71):List PA:=[.one (.int .i64 r.1),.one (.int .i64 r.2.1),.one (.bool r.2.2)]
@[irreducible] def z71:=ptF Try.prog G71 zGb Try.f71
def zCk (zaa:(Sl Gate)) (av0:Int) (bv0:Int) (iv0:Int):St:=⟨[(0,zS enc_55 3 zaa),(5,zI av0),(6,zI bv0),(7,zI iv0)],[],[]⟩
abbrev zJv (K:List PA→Prop) (zaa:(Sl Gate)) (X:St→Prop) (P:Int→Int→Int→Bool) (S:Int→Int→Int→(Int×Int×Bool)):Prop:=∀ ⦃av0:Int⦄ ⦃bv0:Int⦄ ⦃iv0:Int⦄,P av0 bv0 iv0=true→K (e71 (S av0 bv0 iv0))→X (zCk zaa av0 bv0 iv0)
section
variable {K:List PA→Prop} {zaa:(Sl Gate)} {av0:Int} {bv0:Int} {iv0:Int} {X0:St→Prop} {P0:Int→Int→Int→Bool} {S0:Int→Int→Int→(Int×Int×Bool)}
def zib (zaa:(Sl Gate)) (S0:Int→Int→Int→(Int×Int×Bool)) (av0:Int) (bv0:Int) (iv0:Int):(Int×Int×Bool) :=
  (cond (decide (iv0 < (zaa.len : Int)))
 (S0 (if (zaa.get iv0.toNat).Low > av0 then (zaa.get iv0.toNat).Low else av0) (if (zaa.get iv0.toNat).High < bv0 then (zaa.get iv0.toNat).High else bv0) (w64 (iv0+(1:Int))))
 (av0,bv0,(decide (av0≤bv0))))
def zic (zaa:(Sl Gate)) (P0:Int→Int→Int→Bool) (av0:Int) (bv0:Int) (iv0:Int):Bool :=
  (cond (decide (iv0 < (zaa.len : Int)))
 (decide ((0≤iv0∧iv0 < (zaa.len:Int))) &&
 (decide ((0≤iv0∧iv0 < (zaa.len:Int))) &&
 (P0 (if (zaa.get iv0.toNat).Low > av0 then (zaa.get iv0.toNat).Low else av0) (if (zaa.get iv0.toNat).High < bv0 then (zaa.get iv0.toNat).High else bv0) (w64 (iv0+(1:Int))))))
 true)
def zid (zaa:(Sl Gate)):Nat→Int→Int→Int→(Int×Int×Bool):=lpO (fun _ _ _=>default) (zib zaa)
def zie (zaa:(Sl Gate)):Nat→Int→Int→Int→Bool:=lpO (fun _ _ _=>false) (zic zaa)
def zx6 (zaa:(Sl Gate)) (av0:Int) (bv0:Int) (iv0:Int):(Int×Int×Bool):=zid zaa Fuel av0 bv0 iv0
def zx7 (zaa:(Sl Gate)) (av0:Int) (bv0:Int) (iv0:Int):Bool:=zie zaa Fuel av0 bv0 iv0
theorem zGc (hs:zx7 zaa av0 bv0 iv0=true) (hk:K (e71 (zx6 zaa av0 bv0 iv0))):z71 K [1,1,0,1,0] [] (zCk zaa av0 bv0 iv0) :=
  zl (fun X=>z71 K [1,1,0,1,0,0] [X]) (by kernel_rfl) fun X0 hX =>
  (show ∀ k, zJv K zaa X0 (zie zaa k) (zid zaa k) from zeK _ _ (zic zaa) (zib zaa) (zJv K zaa X0)
 (by intro _ _ _ hs;exact absurd hs Bool.false_ne_true)
 (by intro P0 S0 hX0 av0 bv0 iv0 hs hk;exact hX _ (zay (by kernel_rfl) (zc hs hk (fun hs hk=>(zav hs fun hc hs=>And.intro hc (zav hs fun hc hs=>And.intro hc (hX0 hs hk)))) (fun hs hk=>hk))))) _ hs hk
def s71 (zaa:(Sl Gate)):(Int×Int×Bool) :=
  (zx6 zaa ((zaa.get 0).Low) ((zaa.get 0).High) (1:Int))
def p71 (zaa:(Sl Gate)):Bool :=
  (decide ((0≤(0:Int)∧(0:Int) < (zaa.len:Int))) &&
 (decide ((0≤(0:Int)∧(0:Int) < (zaa.len:Int))) &&
 (zx7 zaa ((zaa.get 0).Low) ((zaa.get 0).High) (1:Int))))
end
theorem q71 (zaa:(Sl Gate)) (K:List PA→Prop) (hs:p71 zaa=true) (hk:K (e71 (s71 zaa))):vcFun Try.prog G71 zGb 71 [.one (.sl zaa.len 3 (fun i=>enc_55 (zaa.get i)))] K :=
  zay (by kernel_rfl) (zav hs fun hc hs=>And.intro hc (zav hs fun hc hs=>And.intro hc (zGc hs hk)))
def zGd : List PA → COut
  | [.one (.sl a0_n a0_s a0_g)]=>.det (IsE enc_55 3 a0_s a0_g∧p71 (⟨a0_n,zad a0_g⟩:(Sl Gate))=true) [.one (.int .i64 ((s71 (⟨a0_n,zad a0_g⟩:(Sl Gate))).1)),.one (.int .i64 ((s71 (⟨a0_n,zad a0_g⟩:(Sl Gate))).2.1)),.one (.bool ((s71 (⟨a0_n,zad a0_g⟩:(Sl Gate))).2.2))]
  | _=>.no
theorem zJw:zaf Try.prog 71:=⟨_,rfl,rfl,by kernel_rfl⟩
theorem zOO:Ok Try.prog 71 zGd:=zaz zL5 zJw fun args K h=>by
  unfold zGd at h
  split at h
  · rename_i a0_n a0_s a0_g
    obtain ⟨⟨⟨rfl,a0_f,rfl⟩,hs⟩,hk⟩:=h
    try rw [zac a0_f] at hs
    try rw [zac a0_f] at hk
    exact ⟨(fun _ _=>[]),(fun _=>false),zGb,q71 (⟨a0_n,a0_f⟩:(Sl Gate)) K hs hk⟩
  · exact h.elim
abbrev T21:Tabs:=(((Tabs.nil.addF 22 zAG).addF 33 zAL).addF 71 zGd)
theorem zL6:TabsOk Try.prog T21:=(((TabsOk.nil.addF zMU).addF zMZ).addF zOO)
abbrev G21:Ctrs:=csm T21 (fun _ _=>[]) (fun _=>false)
def zJx:Ann:=⟨19,[(0,zK [0] []),(1,zK [0,7] []),(2,zK [5] []),(3,zK [2] []),(4,zK [2] [])],
 [],
 [],
 [],[]⟩
abbrev R21:=Bool
abbrev e21 (r:R21):List PA:=[.one (.bool r)]
section
variable {K:List PA→Prop} {zaa:(Sl Gate)}
def s21 (zaa:(Sl Gate)):Bool :=
  (cond (s22 zaa)
 ((s71 zaa).2.2)
 (decide (((s33 zaa).len:Int) > (0:Int))))
def p21 (zaa:(Sl Gate)):Bool :=
  (decide ((p22 zaa=true)) &&
 (cond (s22 zaa)
 (decide ((p71 zaa=true)) &&
 true)
 (decide ((p33 zaa=true)) &&
 true)))
end
theorem q21 (zaa:(Sl Gate)) (K:List PA→Prop) (hs:p21 zaa=true) (hk:K (e21 (s21 zaa))):vcFun Try.prog G21 zJx 21 [.one (.sl zaa.len 3 (fun i=>enc_55 (zaa.get i)))] K :=
  zay (by kernel_rfl) (zav hs fun hc hs=>And.intro (And.intro (zE enc_55 3 zaa.get) hc) (zc hs hk (fun hs hk=>(zav hs fun hc hs=>And.intro (And.intro (zE enc_55 3 zaa.get) hc) hk)) (fun hs hk=>(zav hs fun hc hs=>And.intro (And.intro (zE enc_55 3 zaa.get) hc) hk))))
def zGe : List PA → COut
  | [.one (.sl a0_n a0_s a0_g)]=>.det (IsE enc_55 3 a0_s a0_g∧p21 (⟨a0_n,zad a0_g⟩:(Sl Gate))=true) [.one (.bool (s21 (⟨a0_n,zad a0_g⟩:(Sl Gate))))]
  | _=>.no
theorem zJy:zaf Try.prog 21:=⟨_,rfl,rfl,by kernel_rfl⟩
theorem zOP:Ok Try.prog 21 zGe:=zaz zL6 zJy fun args K h=>by
  unfold zGe at h
  split at h
  · rename_i a0_n a0_s a0_g
    obtain ⟨⟨⟨rfl,a0_f,rfl⟩,hs⟩,hk⟩:=h
    try rw [zac a0_f] at hs
    try rw [zac a0_f] at hk
    exact ⟨(fun _ _=>[]),(fun _=>false),zJx,q21 (⟨a0_n,a0_f⟩:(Sl Gate)) K hs hk⟩
  · exact h.elim
abbrev T32:Tabs:=(Tabs.nil.addF 31 zuP)
theorem zL7:TabsOk Try.prog T32:=(TabsOk.nil.addF zLj)
abbrev G32:Ctrs:=csm T32 (fun _ _=>[]) (fun _=>false)
def zJz:Ann:=⟨18,[(0,zK [0,2] [2]),(1,zK [2,4,5] [2]),(2,zK [2,4,5,12] [2]),(3,zK [2,3] [2]),(4,zK [2,3] [2])],
 [],
 [],
 [],[]⟩
abbrev R32:=(Line×Int)
abbrev e32 (r:R32):List PA:=[.agg [.int .i64 r.1.Slope.Num,.int .i64 r.1.Slope.Den,.int .i64 r.1.Start.Num,.int .i64 r.1.Start.Den],.one (.int .i64 r.2)]
section
variable {K:List PA→Prop} {zaa:(Sl Gate)}
def s32 (zaa:(Sl Gate)):(Line×Int) :=
  (cond (((s31 zaa).2) != (0:Int))
 ((⟨(⟨(0:Int),(0:Int)⟩:Frac),(⟨(0:Int),(0:Int)⟩:Frac)⟩:Line),((s31 zaa).2))
 ((((s31 zaa).1).get 0),(0:Int)))
def p32 (zaa:(Sl Gate)):Bool :=
  (decide ((p31 zaa=true)) &&
 (cond (((s31 zaa).2) != (0:Int))
 true
 (decide ((0≤(0:Int)∧(0:Int) < (((s31 zaa).1).len:Int))) &&
 true)))
end
theorem q32 (zaa:(Sl Gate)) (K:List PA→Prop) (hs:p32 zaa=true) (hk:K (e32 (s32 zaa))):vcFun Try.prog G32 zJz 32 [.one (.sl zaa.len 3 (fun i=>enc_55 (zaa.get i)))] K :=
  zay (by kernel_rfl) (zav hs fun hc hs=>And.intro (And.intro (zE enc_55 3 zaa.get) hc) (zc hs hk (fun hs hk=>hk) (fun hs hk=>(zav hs fun hc hs=>And.intro hc hk))))
def zGf : List PA → COut
  | [.one (.sl a0_n a0_s a0_g)]=>.det (IsE enc_55 3 a0_s a0_g∧p32 (⟨a0_n,zad a0_g⟩:(Sl Gate))=true) [.agg [.int .i64 (((s32 (⟨a0_n,zad a0_g⟩:(Sl Gate))).1).Slope.Num),.int .i64 (((s32 (⟨a0_n,zad a0_g⟩:(Sl Gate))).1).Slope.Den),.int .i64 (((s32 (⟨a0_n,zad a0_g⟩:(Sl Gate))).1).Start.Num),.int .i64 (((s32 (⟨a0_n,zad a0_g⟩:(Sl Gate))).1).Start.Den)],.one (.int .i64 ((s32 (⟨a0_n,zad a0_g⟩:(Sl Gate))).2))]
  | _=>.no
theorem zJA:zaf Try.prog 32:=⟨_,rfl,rfl,by kernel_rfl⟩
theorem ok32:Ok Try.prog 32 zGf:=zaz zL7 zJA fun args K h=>by
  unfold zGf at h
  split at h
  · rename_i a0_n a0_s a0_g
    obtain ⟨⟨⟨rfl,a0_f,rfl⟩,hs⟩,hk⟩:=h
    try rw [zac a0_f] at hs
    try rw [zac a0_f] at hk
    exact ⟨(fun _ _=>[]),(fun _=>false),zJz,q32 (⟨a0_n,a0_f⟩:(Sl Gate)) K hs hk⟩
  · exact h.elim
abbrev T5:Tabs:=((((((((Tabs.nil.addF 18 zFz).addF 20 zFF).addF 21 zGe).addF 22 zAG).addF 31 zuP).addF 32 zGf).addF 33 zAL).addF 34 zAh)
theorem zOQ:TabsOk Try.prog T5:=((((((((TabsOk.nil.addF zOw).addF zOy).addF zOP).addF zMU).addF zLj).addF ok32).addF zMZ).addF zMI)
abbrev G5:Ctrs:=csm T5 (fun _ _=>[]) (fun _=>false)
def zL8:Ann:=⟨77,[(0,zK [0] []),(1,zK [0,11] []),(2,zK [2] []),(3,zK [0,3,4] []),(4,zK [0,3,4,5,6] [5]),(5,zK [0,3,4,5,6,7] [5]),(6,zK [0,3,4,5,6,7,25] [5]),(7,zK [0,3,4,5,6,7] [5]),(8,zK [0,3,4,5,6,7,28] [5]),(9,zK [0,3,4,5,6,7] [5]),(10,zK [0,3,4,5,6,7,30] [5]),(11,zK [0,3,4,5,6,7] [5]),(12,zK [0,3,4,5,6,7,32] [5]),(13,zK [2] []),(14,zK [3,4,5,6,8] [5]),(15,zK [2] [])],
 [],
 [(3,zK [0] []),(4,zK [0,3,4] []),(5,zK [0,3,4,5,6] [5]),(7,zK [0,3,4,5,6,7,25] [5]),(12,zK [0,3,4,5,6,7] [5]),(9,zK [0,3,4,5,6,7,28] [5]),(14,zK [0,3,4,5,6] [5]),(11,zK [0,3,4,5,6,7,30] [5]),(15,zK [3,4,5,6,8] [5])],
 [],[]⟩
abbrev R5:=Bool
abbrev e5 (r:R5):List PA:=[.one (.bool r)]
@[irreducible] def z5:=ptF Try.prog G5 zL8 Try.f5
section
variable {K:List PA→Prop} {zaa:(Sl Gate)} {cv1:(Sl Line)} {ev1:Int} {zJB:Nat→List PV} {gv2:Int} {zbd:Int} {zbe:Int} {zbf:Int} {zbg:Int} {zqo:Bool} {zg2:Int} {zqp:Bool} {zqq:Bool} {xv8:(Sl Line)} {zJC:Nat→List PV}
def zx8 (cv1:(Sl Line)) (ev1:Int) (gv2:Int) (zbd:Int) (zbe:Int) (zbf:Int) (zbg:Int) (xv8:(Sl Line)):Bool :=
  (cond (ev1 == (0:Int))
 (cond (gv2 == (0:Int))
 (cond (s34 cv1 xv8)
 (cond (match (match (zbd == (xv8.get 0).Slope.Num) with | true => (match (zbe == (xv8.get 0).Slope.Den) with | true => true | false => false) | false => false) with | true => (match (match (zbf == (xv8.get 0).Start.Num) with | true => (match (zbg == (xv8.get 0).Start.Den) with | true => true | false => false) | false => false) with | true => true | false => false) | false => false)
 true
 false)
 false)
 false)
 false)
def zx9 (cv1:(Sl Line)) (ev1:Int) (gv2:Int) (zbd:Int) (zbe:Int) (zbf:Int) (zbg:Int) (xv8:(Sl Line)):Bool :=
  (cond (ev1 == (0:Int))
 (cond (gv2 == (0:Int))
 (decide ((p34 cv1 xv8=true)) &&
 (cond (s34 cv1 xv8)
 (decide ((0≤(0:Int)∧(0:Int) < (xv8.len:Int))) &&
 true)
 true))
 true)
 true)
theorem zJD (hs:zx9 cv1 ev1 gv2 zbd zbe zbf zbg xv8=true) (hk:K (e5 (zx8 cv1 ev1 gv2 zbd zbe zbf zbg xv8))) (zL9:zJC=zg zar xv8):z5 K [1,1,1,1,1,1,1,1] [] ⟨[(3,zS zar 4 cv1),(4,zI ev1),(5,zp 5 0),(6,zI gv2),(8,zP (.sl xv8.len 4 zJC))],[(5,.box 37 (zm (zar (⟨(⟨zbd,zbe⟩:Frac),(⟨zbf,zbg⟩:Frac)⟩:Line))))],[]⟩:=by subst zL9;exact zay (by kernel_rfl) (zc hs hk (fun hs hk=>(zc hs hk (fun hs hk=>(zav hs fun hc hs=>And.intro (And.intro (zE zar 4 cv1.get) (And.intro (zE zar 4 xv8.get) hc)) (zc hs hk (fun hs hk=>(zav hs fun hc hs=>And.intro hc (zt hk (fun hk=>hk) (fun hk=>hk)))) (fun hs hk=>hk)))) (fun hs hk=>hk))) (fun hs hk=>hk))
def zya (zaa:(Sl Gate)) (cv1:(Sl Line)) (ev1:Int) (gv2:Int) (zbd:Int) (zbe:Int) (zbf:Int) (zbg:Int):Bool :=
  (zx8 cv1 ev1 gv2 zbd zbe zbf zbg (s33 zaa))
def zyb (zaa:(Sl Gate)) (cv1:(Sl Line)) (ev1:Int) (gv2:Int) (zbd:Int) (zbe:Int) (zbf:Int) (zbg:Int):Bool :=
  (decide ((p33 zaa=true)) &&
 (zx9 cv1 ev1 gv2 zbd zbe zbf zbg (s33 zaa)))
theorem zJE (hs:zyb zaa cv1 ev1 gv2 zbd zbe zbf zbg=true) (hk:K (e5 (zya zaa cv1 ev1 gv2 zbd zbe zbf zbg))):z5 K [1,1,1,1,1,1,1] [] ⟨[(0,zS enc_55 3 zaa),(3,zS zar 4 cv1),(4,zI ev1),(5,zp 5 0),(6,zI gv2)],[(5,.box 37 (zm (zar (⟨(⟨zbd,zbe⟩:Frac),(⟨zbf,zbg⟩:Frac)⟩:Line))))],[]⟩:=zay (by kernel_rfl) (zav hs fun hc hs=>And.intro (And.intro (zE enc_55 3 zaa.get) hc) (zJD hs hk rfl))
def zg3 (zaa:(Sl Gate)) (cv1:(Sl Line)) (ev1:Int) (gv2:Int) (zbd:Int) (zbe:Int) (zbf:Int) (zbg:Int) (zg2:Int):Bool :=
  (cond (zg2 != (0:Int))
 (cond (ev1 == zg2)
 (cond (gv2 == zg2)
 (cond ((cv1.len : Int) == (0:Int))
 (cond (match (match (zbd == (0:Int)) with | true => (match (zbe == (0:Int)) with | true => true | false => false) | false => false) with | true => (match (match (zbf == (0:Int)) with | true => (match (zbg == (0:Int)) with | true => true | false => false) | false => false) with | true => true | false => false) | false => false)
 true
 false)
 false)
 false)
 false)
 (zya zaa cv1 ev1 gv2 zbd zbe zbf zbg))
def zg4 (zaa:(Sl Gate)) (cv1:(Sl Line)) (ev1:Int) (gv2:Int) (zbd:Int) (zbe:Int) (zbf:Int) (zbg:Int) (zg2:Int):Bool :=
  (cond (zg2 != (0:Int))
 true
 (zyb zaa cv1 ev1 gv2 zbd zbe zbf zbg))
theorem zrO (hs:zg4 zaa cv1 ev1 gv2 zbd zbe zbf zbg zg2=true) (hk:K (e5 (zg3 zaa cv1 ev1 gv2 zbd zbe zbf zbg zg2))):z5 K [1,1,1,1,1,1] [] ⟨[(0,zS enc_55 3 zaa),(3,zS zar 4 cv1),(4,zI ev1),(5,zp 5 0),(6,zI gv2),(7,zI zg2)],[(5,.box 37 (zm (zar (⟨(⟨zbd,zbe⟩:Frac),(⟨zbf,zbg⟩:Frac)⟩:Line))))],[]⟩:=zay (by kernel_rfl) (zc hs hk (fun hs hk=>(zt hk (fun hk=>(zt hk (fun hk=>(zt hk (fun hk=>(zt hk (fun hk=>hk) (fun hk=>hk))) (fun hk=>hk))) (fun hk=>hk))) (fun hk=>hk))) (fun hs hk=>(zJE hs hk)))
def zyc (zaa:(Sl Gate)) (cv1:(Sl Line)) (ev1:Int) (gv2:Int) (zbd:Int) (zbe:Int) (zbf:Int) (zbg:Int) (zqq:Bool):Bool :=
  (cond zqq
 (zg3 zaa cv1 ev1 gv2 zbd zbe zbf zbg (6:Int))
 (zg3 zaa cv1 ev1 gv2 zbd zbe zbf zbg (0:Int)))
def zyd (zaa:(Sl Gate)) (cv1:(Sl Line)) (ev1:Int) (gv2:Int) (zbd:Int) (zbe:Int) (zbf:Int) (zbg:Int) (zqq:Bool):Bool :=
  (cond zqq
 (zg4 zaa cv1 ev1 gv2 zbd zbe zbf zbg (6:Int))
 (zg4 zaa cv1 ev1 gv2 zbd zbe zbf zbg (0:Int)))
theorem zJF (hs:zyd zaa cv1 ev1 gv2 zbd zbe zbf zbg zqq=true) (hk:K (e5 (zyc zaa cv1 ev1 gv2 zbd zbe zbf zbg zqq))):z5 K [1,1,1,1,1,0,1,1,1,1,1] [] ⟨[(0,zS enc_55 3 zaa),(3,zS zar 4 cv1),(4,zI ev1),(5,zp 5 0),(6,zI gv2),(7,zI (0:Int)),(30,zB zqq)],[(5,.box 37 (zm (zar (⟨(⟨zbd,zbe⟩:Frac),(⟨zbf,zbg⟩:Frac)⟩:Line))))],[]⟩:=zay (by kernel_rfl) (zc hs hk (fun hs hk=>(zrO hs hk)) (fun hs hk=>(zrO hs hk)))
def zye (zaa:(Sl Gate)) (cv1:(Sl Line)) (ev1:Int) (gv2:Int) (zbd:Int) (zbe:Int) (zbf:Int) (zbg:Int) (zqp:Bool):Bool :=
  (cond zqp
 (zg3 zaa cv1 ev1 gv2 zbd zbe zbf zbg (5:Int))
 (zyc zaa cv1 ev1 gv2 zbd zbe zbf zbg (s22 zaa)))
def zyf (zaa:(Sl Gate)) (cv1:(Sl Line)) (ev1:Int) (gv2:Int) (zbd:Int) (zbe:Int) (zbf:Int) (zbg:Int) (zqp:Bool):Bool :=
  (cond zqp
 (zg4 zaa cv1 ev1 gv2 zbd zbe zbf zbg (5:Int))
 (decide ((p22 zaa=true)) &&
 (zyd zaa cv1 ev1 gv2 zbd zbe zbf zbg (s22 zaa))))
theorem zJG (hs:zyf zaa cv1 ev1 gv2 zbd zbe zbf zbg zqp=true) (hk:K (e5 (zye zaa cv1 ev1 gv2 zbd zbe zbf zbg zqp))):z5 K [1,1,1,1,1,0,1,1,1] [] ⟨[(0,zS enc_55 3 zaa),(3,zS zar 4 cv1),(4,zI ev1),(5,zp 5 0),(6,zI gv2),(7,zI (0:Int)),(28,zB zqp)],[(5,.box 37 (zm (zar (⟨(⟨zbd,zbe⟩:Frac),(⟨zbf,zbg⟩:Frac)⟩:Line))))],[]⟩:=zay (by kernel_rfl) (zc hs hk (fun hs hk=>(zrO hs hk)) (fun hs hk=>(zav hs fun hc hs=>And.intro (And.intro (zE enc_55 3 zaa.get) hc) (zJF hs hk))))
def zyg (zaa:(Sl Gate)) (cv1:(Sl Line)) (ev1:Int) (gv2:Int) (zbd:Int) (zbe:Int) (zbf:Int) (zbg:Int) (zqo:Bool):Bool :=
  (cond zqo
 (zg3 zaa cv1 ev1 gv2 zbd zbe zbf zbg (2:Int))
 (zye zaa cv1 ev1 gv2 zbd zbe zbf zbg (!(s21 zaa))))
def zyh (zaa:(Sl Gate)) (cv1:(Sl Line)) (ev1:Int) (gv2:Int) (zbd:Int) (zbe:Int) (zbf:Int) (zbg:Int) (zqo:Bool):Bool :=
  (cond zqo
 (zg4 zaa cv1 ev1 gv2 zbd zbe zbf zbg (2:Int))
 (decide ((p21 zaa=true)) &&
 (zyf zaa cv1 ev1 gv2 zbd zbe zbf zbg (!(s21 zaa)))))
theorem zJH (hs:zyh zaa cv1 ev1 gv2 zbd zbe zbf zbg zqo=true) (hk:K (e5 (zyg zaa cv1 ev1 gv2 zbd zbe zbf zbg zqo))):z5 K [1,1,1,1,1,0,1] [] ⟨[(0,zS enc_55 3 zaa),(3,zS zar 4 cv1),(4,zI ev1),(5,zp 5 0),(6,zI gv2),(7,zI (0:Int)),(25,zB zqo)],[(5,.box 37 (zm (zar (⟨(⟨zbd,zbe⟩:Frac),(⟨zbf,zbg⟩:Frac)⟩:Line))))],[]⟩:=zay (by kernel_rfl) (zc hs hk (fun hs hk=>(zrO hs hk)) (fun hs hk=>(zav hs fun hc hs=>And.intro (And.intro (zE enc_55 3 zaa.get) hc) (zJG hs hk))))
def zyi (zaa:(Sl Gate)) (cv1:(Sl Line)) (ev1:Int) (gv2:Int) (zbd:Int) (zbe:Int) (zbf:Int) (zbg:Int):Bool :=
  (zyg zaa cv1 ev1 gv2 zbd zbe zbf zbg (!(s20 zaa)))
def zyj (zaa:(Sl Gate)) (cv1:(Sl Line)) (ev1:Int) (gv2:Int) (zbd:Int) (zbe:Int) (zbf:Int) (zbg:Int):Bool :=
  (decide ((p20 zaa=true)) &&
 (zyh zaa cv1 ev1 gv2 zbd zbe zbf zbg (!(s20 zaa))))
theorem zJI (hs:zyj zaa cv1 ev1 gv2 zbd zbe zbf zbg=true) (hk:K (e5 (zyi zaa cv1 ev1 gv2 zbd zbe zbf zbg))):z5 K [1,1,1,1] [] ⟨[(0,zS enc_55 3 zaa),(3,zS zar 4 cv1),(4,zI ev1),(5,zp 5 0),(6,zI gv2)],[(5,.box 37 (zm (zar (⟨(⟨zbd,zbe⟩:Frac),(⟨zbf,zbg⟩:Frac)⟩:Line))))],[]⟩:=zay (by kernel_rfl) (zav hs fun hc hs=>And.intro (And.intro (zE enc_55 3 zaa.get) hc) (zJH hs hk))
def zyk (zaa:(Sl Gate)) (cv1:(Sl Line)) (ev1:Int):Bool :=
  (zyi zaa cv1 ev1 ((s32 zaa).2) (((s32 zaa).1).Slope.Num) (((s32 zaa).1).Slope.Den) (((s32 zaa).1).Start.Num) (((s32 zaa).1).Start.Den))
def zyl (zaa:(Sl Gate)) (cv1:(Sl Line)) (ev1:Int):Bool :=
  (decide ((p32 zaa=true)) &&
 (zyj zaa cv1 ev1 ((s32 zaa).2) (((s32 zaa).1).Slope.Num) (((s32 zaa).1).Slope.Den) (((s32 zaa).1).Start.Num) (((s32 zaa).1).Start.Den)))
theorem zJJ (hs:zyl zaa cv1 ev1=true) (hk:K (e5 (zyk zaa cv1 ev1))) (zMa:zJB=zg zar cv1):z5 K [1,1,1] [] ⟨[(0,zS enc_55 3 zaa),(3,zP (.sl cv1.len 4 zJB)),(4,zI ev1)],[],[]⟩:=by subst zMa;exact zay (by kernel_rfl) (zav hs fun hc hs=>And.intro (And.intro (zE enc_55 3 zaa.get) hc) (zJI hs hk))
def zym (zaa:(Sl Gate)):Bool :=
  (zyk zaa ((s31 zaa).1) ((s31 zaa).2))
def zyn (zaa:(Sl Gate)):Bool :=
  (decide ((p31 zaa=true)) &&
 (zyl zaa ((s31 zaa).1) ((s31 zaa).2)))
theorem zJK (hs:zyn zaa=true) (hk:K (e5 (zym zaa))):z5 K [1,1] [] ⟨[(0,zS enc_55 3 zaa)],[],[]⟩:=zay (by kernel_rfl) (zav hs fun hc hs=>And.intro (And.intro (zE enc_55 3 zaa.get) hc) (zJJ hs hk rfl))
def s5 (zaa:(Sl Gate)):Bool :=
  (cond (decide ((zaa.len : Int) > (40:Int)))
 true
 (zym zaa))
def p5 (zaa:(Sl Gate)):Bool :=
  (cond (decide ((zaa.len : Int) > (40:Int)))
 true
 (zyn zaa))
end
theorem q5 (zaa:(Sl Gate)) (K:List PA→Prop) (hs:p5 zaa=true) (hk:K (e5 (s5 zaa))):vcFun Try.prog G5 zL8 5 [.one (.sl zaa.len 3 (fun i=>enc_55 (zaa.get i)))] K :=
  zay (by kernel_rfl) (zc hs hk (fun hs hk=>hk) (fun hs hk=>(zJK hs hk)))
def zM0 : List PA → COut
  | [.one (.sl a0_n a0_s a0_g)]=>.det (IsE enc_55 3 a0_s a0_g∧p5 (⟨a0_n,zad a0_g⟩:(Sl Gate))=true) [.one (.bool (s5 (⟨a0_n,zad a0_g⟩:(Sl Gate))))]
  | _=>.no
theorem call5:zaf Try.prog 5:=⟨_,rfl,rfl,by kernel_rfl⟩
theorem ok5:Ok Try.prog 5 zM0:=zaz zOQ call5 fun args K h=>by
  unfold zM0 at h
  split at h
  · rename_i a0_n a0_s a0_g
    obtain ⟨⟨⟨rfl,a0_f,rfl⟩,hs⟩,hk⟩:=h
    try rw [zac a0_f] at hs
    try rw [zac a0_f] at hk
    exact ⟨(fun _ _=>[]),(fun _=>false),zL8,q5 (⟨a0_n,a0_f⟩:(Sl Gate)) K hs hk⟩
  · exact h.elim
end Go.Proofs
namespace Go.Proofs
open Go Go.Pm
set_option maxRecDepth 100000
set_option linter.unusedVariables false
attribute [local irreducible] Go.Pm.vcFun Go.Pm.vc Go.Pm.vcIter
theorem C_3:Try.prog.cellsOf 3=1:=by kernel_rfl
theorem zM1:Try.prog.cellsOf 55=3:=by kernel_rfl
abbrev zKq (x:Int):Prop:=wfI x
theorem zMb {H:Type} {en:TypeId×Value→H} {w:World} {sp:Nat→Bool} {held:Bool} : Rd H en Try.prog w sp held 3 zal zKq:=zHm Try.underlying3
def zJL (x:Gate):Prop:=zKq x.Z∧zKq x.Low∧zKq x.High
theorem zMc {H:Type} {en:TypeId×Value→H} {w:World} {sp:Nat→Bool} {held:Bool} : Rd H en Try.prog w sp held 55 enc_55 zJL:=by
  intro fuel cs x h
  obtain ⟨hl,hf⟩:=zt3 Try.underlying55 h
  rw [zM1] at hl
  obtain ⟨n0,y0,g0⟩:=hf 0 _ rfl
  have g0:DataW.trod en Try.prog w 0 sp held n0 3 ((cs.drop 0).take (Try.prog.cellsOf 3))=some y0:=g0
  rw [C_3] at g0
  obtain ⟨a0,r0,w0⟩:=zMb _ _ _ g0
  obtain ⟨n1,y1,g1⟩:=hf 1 _ rfl
  have g1:DataW.trod en Try.prog w 0 sp held n1 3 ((cs.drop 1).take (Try.prog.cellsOf 3))=some y1:=g1
  rw [C_3] at g1
  obtain ⟨a1,r1,w1⟩:=zMb _ _ _ g1
  obtain ⟨n2,y2,g2⟩:=hf 2 _ rfl
  have g2:DataW.trod en Try.prog w 0 sp held n2 3 ((cs.drop 2).take (Try.prog.cellsOf 3))=some y2:=g2
  rw [C_3] at g2
  obtain ⟨a2,r2,w2⟩:=zMb _ _ _ g2
  have z:cs.drop 3=[]:=List.drop_eq_nil_of_le (by omega)
  have R:=(r0.append (r1.append (r2.append (show RL (Rep (H0 w)) [] (cs.drop 3) by rw [z];exact zhk))))
  rw [← (show cs.drop 2=(cs.drop 2).take 1 ++ cs.drop 3 from zhm cs 2 1)] at R
  rw [← (show cs.drop 1=(cs.drop 1).take 1 ++ cs.drop 2 from zhm cs 1 1)] at R
  rw [← (show cs.drop 0=(cs.drop 0).take 1 ++ cs.drop 1 from zhm cs 0 1)] at R
  exact ⟨⟨a0,a1,a2⟩,R,⟨w0,w1,w2⟩⟩
def wf_22 (x:(Sl Gate)):Prop:=x.len≤9223372036854775807∧∀ i,i < x.len→zJL (x.get i)
theorem rd_22 {H:Type} {en:TypeId×Value→H} {w:World} {sp:Nat→Bool} {held:Bool} : Rd H en Try.prog w sp held 22 zHo wf_22:=zz2 Try.underlying22 zM1 (by decide) (fun _=>rfl) zMc
end Go.Proofs
namespace Go.Proofs
open Go Go.Pm
set_option maxRecDepth 100000
set_option linter.unusedVariables false
attribute [local irreducible] Go.Pm.vcFun Go.Pm.vc Go.Pm.vcIter
abbrev T28:Tabs:=((Tabs.nil.addF 40 zwH).addF 73 zAB)
abbrev G28:Ctrs:=csm T28 (fun _ _=>[]) (fun _=>false)
def zMd:Ann:=⟨44,[(0,zK [1,2,4] [2,4]),(1,zK [1,2,4,5] [2,4]),(2,zK [4] [4])],
 [],
 [(2,zK [1,2,4,5] [2,4])],
 [],[]⟩
@[irreducible] def z28:=ptF Try.prog G28 zMd Try.f28
section
variable {K:List PA→Prop} {l_a0:Line} {z:Int} {dv0:Int}
def zyo (l_a0:Line) (z:Int) (dv0:Int):Frac :=
  (s40 (w64 ((w64 (l_a0.Start.Num * (w64 (dv0.tdiv l_a0.Start.Den))))+(w64 ((w64 (l_a0.Slope.Num * (w64 (dv0.tdiv l_a0.Slope.Den)))) * z)))) dv0)
def zyp (l_a0:Line) (z:Int) (dv0:Int):Bool :=
  (decide ((l_a0.Start.Den ≠ 0)) &&
 (decide ((l_a0.Slope.Den ≠ 0)) &&
 (decide ((p40 (w64 ((w64 (l_a0.Start.Num * (w64 (dv0.tdiv l_a0.Start.Den))))+(w64 ((w64 (l_a0.Slope.Num * (w64 (dv0.tdiv l_a0.Slope.Den)))) * z)))) dv0=true)) &&
 true)))
def s28 (l_a0:Line) (z:Int):Frac :=
  (zyo l_a0 z (w64 ((w64 (l_a0.Start.Den.tdiv (s73 l_a0.Start.Den l_a0.Slope.Den))) * l_a0.Slope.Den)))
def p28 (l_a0:Line) (z:Int):Bool :=
  (decide ((p73 l_a0.Start.Den l_a0.Slope.Den=true)) &&
 (decide (((s73 l_a0.Start.Den l_a0.Slope.Den) ≠ 0)) &&
 (zyp l_a0 z (w64 ((w64 (l_a0.Start.Den.tdiv (s73 l_a0.Start.Den l_a0.Slope.Den))) * l_a0.Slope.Den)))))
end
section
variable {K:List PA→Prop} {zaa:(Sl Gate)} {z:Int} {zAM:Bool} {av1:Int} {bv1:Int} {lv3:(Sl Line)} {zOR:Nat→List PV} {zAN:Int} {zAO:Int} {zmG:Int} {zmH:Int} {iv5:Int} {zmI:Int} {zmJ:Int} {zmK:Int} {zmL:Int} {X5:St→Prop} {P5:Int→Int→Int→Int→Int→Bool} {S5:Int→Int→Int→Int→Int→(Frac×Frac)} {iv6:Int} {zsG:Int} {zsH:Int} {zAP:Int} {zAQ:Int} {zdK:Int} {zdL:Int} {iv7:Int} {zAR:Bool} {zAS:Int} {zAT:Int} {zkK:Int} {zkL:Int} {iv8:Int} {zAU:Bool} {zsI:Int} {zsJ:Int} {zAV:Int} {zAW:Int}
def zqr (S5:Int→Int→Int→Int→Int→(Frac×Frac)) (z:Int) (lv3:(Sl Line)) (zdK:Int) (zdL:Int) (iv8:Int) (zAU:Bool) (zsI:Int) (zsJ:Int) (zAV:Int) (zAW:Int):(Frac×Frac) :=
  (cond zAU
 (S5 (w64 (iv8+(1:Int))) zsI zsJ zdK zdL)
 (S5 (w64 (iv8+(1:Int))) zsI zsJ zAV zAW))
def zqs (P5:Int→Int→Int→Int→Int→Bool) (z:Int) (lv3:(Sl Line)) (zdK:Int) (zdL:Int) (iv8:Int) (zAU:Bool) (zsI:Int) (zsJ:Int) (zAV:Int) (zAW:Int):Bool :=
  (cond zAU
 (P5 (w64 (iv8+(1:Int))) zsI zsJ zdK zdL)
 (P5 (w64 (iv8+(1:Int))) zsI zsJ zAV zAW))
def zyq (S5:Int→Int→Int→Int→Int→(Frac×Frac)) (z:Int) (lv3:(Sl Line)) (zdK:Int) (zdL:Int) (iv7:Int) (zAR:Bool) (zAS:Int) (zAT:Int) (zkK:Int) (zkL:Int):(Frac×Frac) :=
  (cond zAR
 (zqr S5 z lv3 zdK zdL iv7 (s29 (⟨zkK,zkL⟩:Frac) (⟨zdK,zdL⟩:Frac)) zdK zdL zkK zkL)
 (zqr S5 z lv3 zdK zdL iv7 (s29 (⟨zkK,zkL⟩:Frac) (⟨zdK,zdL⟩:Frac)) zAS zAT zkK zkL))
def zyr (P5:Int→Int→Int→Int→Int→Bool) (z:Int) (lv3:(Sl Line)) (zdK:Int) (zdL:Int) (iv7:Int) (zAR:Bool) (zAS:Int) (zAT:Int) (zkK:Int) (zkL:Int):Bool :=
  (cond zAR
 (zqs P5 z lv3 zdK zdL iv7 (s29 (⟨zkK,zkL⟩:Frac) (⟨zdK,zdL⟩:Frac)) zdK zdL zkK zkL)
 (zqs P5 z lv3 zdK zdL iv7 (s29 (⟨zkK,zkL⟩:Frac) (⟨zdK,zdL⟩:Frac)) zAS zAT zkK zkL))
def zys (S5:Int→Int→Int→Int→Int→(Frac×Frac)) (z:Int) (lv3:(Sl Line)) (iv6:Int) (zsG:Int) (zsH:Int) (zAP:Int) (zAQ:Int) (zdK:Int) (zdL:Int):(Frac×Frac) :=
  (zyq S5 z lv3 zdK zdL iv6 (s29 (⟨zdK,zdL⟩:Frac) (⟨zsG,zsH⟩:Frac)) zsG zsH zAP zAQ)
def zyt (P5:Int→Int→Int→Int→Int→Bool) (z:Int) (lv3:(Sl Line)) (iv6:Int) (zsG:Int) (zsH:Int) (zAP:Int) (zAQ:Int) (zdK:Int) (zdL:Int):Bool :=
  (zyr P5 z lv3 zdK zdL iv6 (s29 (⟨zdK,zdL⟩:Frac) (⟨zsG,zsH⟩:Frac)) zsG zsH zAP zAQ)
def zkn (z:Int) (lv3:(Sl Line)) (S5:Int→Int→Int→Int→Int→(Frac×Frac)) (iv5:Int) (zmI:Int) (zmJ:Int) (zmK:Int) (zmL:Int):(Frac×Frac) :=
  (cond (decide (iv5 < (lv3.len : Int)))
 (zys S5 z lv3 iv5 zmI zmJ zmK zmL ((s28 (lv3.get iv5.toNat) z).Num) ((s28 (lv3.get iv5.toNat) z).Den))
 ((⟨zmI,zmJ⟩:Frac),(⟨zmK,zmL⟩:Frac)))
def zko (z:Int) (lv3:(Sl Line)) (P5:Int→Int→Int→Int→Int→Bool) (iv5:Int) (zmI:Int) (zmJ:Int) (zmK:Int) (zmL:Int):Bool :=
  (cond (decide (iv5 < (lv3.len : Int)))
 (decide ((0≤iv5∧iv5 < (lv3.len:Int))) &&
 (decide ((p28 (lv3.get iv5.toNat) z=true)) &&
 (zyt P5 z lv3 iv5 zmI zmJ zmK zmL ((s28 (lv3.get iv5.toNat) z).Num) ((s28 (lv3.get iv5.toNat) z).Den))))
 true)
def zkp (z:Int) (lv3:(Sl Line)):Nat→Int→Int→Int→Int→Int→(Frac×Frac):=lpO (fun _ _ _ _ _=>default) (zkn z lv3)
def zkq (z:Int) (lv3:(Sl Line)):Nat→Int→Int→Int→Int→Int→Bool:=lpO (fun _ _ _ _ _=>false) (zko z lv3)
def zGg (z:Int) (lv3:(Sl Line)) (iv5:Int) (zmI:Int) (zmJ:Int) (zmK:Int) (zmL:Int):(Frac×Frac):=zkp z lv3 Fuel iv5 zmI zmJ zmK zmL
def zGh (z:Int) (lv3:(Sl Line)) (iv5:Int) (zmI:Int) (zmJ:Int) (zmK:Int) (zmL:Int):Bool:=zkq z lv3 Fuel iv5 zmI zmJ zmK zmL
def zGi (z:Int) (lv3:(Sl Line)) (zAN:Int) (zAO:Int) (zmG:Int) (zmH:Int):(Frac×Frac) :=
  (zGg z lv3 (1:Int) zAN zAO zmG zmH)
def zyu (z:Int) (lv3:(Sl Line)) (zAN:Int) (zAO:Int) (zmG:Int) (zmH:Int):Bool :=
  (zGh z lv3 (1:Int) zAN zAO zmG zmH)
def zGj (z:Int) (lv3:(Sl Line)):(Frac×Frac) :=
  (zGi z lv3 ((s28 (lv3.get 0) z).Num) ((s28 (lv3.get 0) z).Den) ((s28 (lv3.get 0) z).Num) ((s28 (lv3.get 0) z).Den))
def zyv (z:Int) (lv3:(Sl Line)):Bool :=
  (decide ((0≤(0:Int)∧(0:Int) < (lv3.len:Int))) &&
 (decide ((p28 (lv3.get 0) z=true)) &&
 (decide ((0≤(0:Int)∧(0:Int) < (lv3.len:Int))) &&
 (decide ((p28 (lv3.get 0) z=true)) &&
 (zyu z lv3 ((s28 (lv3.get 0) z).Num) ((s28 (lv3.get 0) z).Den) ((s28 (lv3.get 0) z).Num) ((s28 (lv3.get 0) z).Den))))))
def zqu (zaa:(Sl Gate)) (z:Int):(Frac×Frac) :=
  (zGj z (s33 zaa))
def zqv (zaa:(Sl Gate)) (z:Int):Bool :=
  (decide ((p33 zaa=true)) &&
 (zyv z (s33 zaa)))
def zyw (av1:Int) (bv1:Int):(Frac×Frac) :=
  ((s40 av1 (1:Int)),(s40 bv1 (1:Int)))
def zyx (av1:Int) (bv1:Int):Bool :=
  (decide ((p40 av1 (1:Int)=true)) &&
 (decide ((p40 bv1 (1:Int)=true)) &&
 true))
def zyy (zaa:(Sl Gate)) (z:Int) (zAM:Bool):(Frac×Frac) :=
  (cond zAM
 (zyw ((s71 zaa).1) ((s71 zaa).2.1))
 (zqu zaa z))
def zyz (zaa:(Sl Gate)) (z:Int) (zAM:Bool):Bool :=
  (cond zAM
 (decide ((p71 zaa=true)) &&
 (zyx ((s71 zaa).1) ((s71 zaa).2.1)))
 (zqv zaa z))
def s36 (zaa:(Sl Gate)) (z:Int):(Frac×Frac) :=
  (zyy zaa z (s22 zaa))
def p36 (zaa:(Sl Gate)) (z:Int):Bool :=
  (decide ((p22 zaa=true)) &&
 (zyz zaa z (s22 zaa)))
end
section
variable {K:List PA→Prop} {zaa:(Sl Gate)} {lv0:(Sl Line)} {zF6:Nat→List PV} {iv1:Int} {zaM:Int} {zaU:Int} {zmM:Int} {zmN:Int} {X1:St→Prop} {P1:Int→Int→Int→Int→Int→Bool} {S1:Int→Int→Int→Int→Int→(Frac×Frac)} {iv2:Int} {zAX:Bool} {zAY:Int} {zAZ:Int} {zsK:Int} {zsL:Int} {iv3:Int} {zkM:Int} {zkN:Int} {zsM:Int} {zsN:Int} {iv4:Int} {zA0:Bool} {zmG:Int} {zmH:Int}
def zyA (S1:Int→Int→Int→Int→Int→(Frac×Frac)) (lv0:(Sl Line)) (zkM:Int) (zkN:Int) (iv4:Int) (zA0:Bool) (zmG:Int) (zmH:Int):(Frac×Frac) :=
  (cond zA0
 (S1 (w64 (iv4+(1:Int))) zkM zkN ((lv0.get iv4.toNat).Slope.Num) ((lv0.get iv4.toNat).Slope.Den))
 (S1 (w64 (iv4+(1:Int))) zkM zkN zmG zmH))
def zyB (P1:Int→Int→Int→Int→Int→Bool) (lv0:(Sl Line)) (zkM:Int) (zkN:Int) (iv4:Int) (zA0:Bool) (zmG:Int) (zmH:Int):Bool :=
  (cond zA0
 (decide ((0≤iv4∧iv4 < (lv0.len:Int))) &&
 (P1 (w64 (iv4+(1:Int))) zkM zkN ((lv0.get iv4.toNat).Slope.Num) ((lv0.get iv4.toNat).Slope.Den)))
 (P1 (w64 (iv4+(1:Int))) zkM zkN zmG zmH))
def zqw (S1:Int→Int→Int→Int→Int→(Frac×Frac)) (lv0:(Sl Line)) (iv3:Int) (zkM:Int) (zkN:Int) (zsM:Int) (zsN:Int):(Frac×Frac) :=
  (zyA S1 lv0 zkM zkN iv3 (s29 (⟨zsM,zsN⟩:Frac) ((lv0.get iv3.toNat).Slope)) zsM zsN)
def zqx (P1:Int→Int→Int→Int→Int→Bool) (lv0:(Sl Line)) (iv3:Int) (zkM:Int) (zkN:Int) (zsM:Int) (zsN:Int):Bool :=
  (decide ((0≤iv3∧iv3 < (lv0.len:Int))) &&
 (zyB P1 lv0 zkM zkN iv3 (s29 (⟨zsM,zsN⟩:Frac) ((lv0.get iv3.toNat).Slope)) zsM zsN))
def zyC (S1:Int→Int→Int→Int→Int→(Frac×Frac)) (lv0:(Sl Line)) (iv2:Int) (zAX:Bool) (zAY:Int) (zAZ:Int) (zsK:Int) (zsL:Int):(Frac×Frac) :=
  (cond zAX
 (zqw S1 lv0 iv2 ((lv0.get iv2.toNat).Slope.Num) ((lv0.get iv2.toNat).Slope.Den) zsK zsL)
 (zqw S1 lv0 iv2 zAY zAZ zsK zsL))
def zyD (P1:Int→Int→Int→Int→Int→Bool) (lv0:(Sl Line)) (iv2:Int) (zAX:Bool) (zAY:Int) (zAZ:Int) (zsK:Int) (zsL:Int):Bool :=
  (cond zAX
 (decide ((0≤iv2∧iv2 < (lv0.len:Int))) &&
 (zqx P1 lv0 iv2 ((lv0.get iv2.toNat).Slope.Num) ((lv0.get iv2.toNat).Slope.Den) zsK zsL))
 (zqx P1 lv0 iv2 zAY zAZ zsK zsL))
def zkr (lv0:(Sl Line)) (S1:Int→Int→Int→Int→Int→(Frac×Frac)) (iv1:Int) (zaM:Int) (zaU:Int) (zmM:Int) (zmN:Int):(Frac×Frac) :=
  (cond (decide (iv1 < (lv0.len : Int)))
 (zyC S1 lv0 iv1 (s29 ((lv0.get iv1.toNat).Slope) (⟨zaM,zaU⟩:Frac)) zaM zaU zmM zmN)
 ((⟨zaM,zaU⟩:Frac),(⟨zmM,zmN⟩:Frac)))
def zks (lv0:(Sl Line)) (P1:Int→Int→Int→Int→Int→Bool) (iv1:Int) (zaM:Int) (zaU:Int) (zmM:Int) (zmN:Int):Bool :=
  (cond (decide (iv1 < (lv0.len : Int)))
 (decide ((0≤iv1∧iv1 < (lv0.len:Int))) &&
 (zyD P1 lv0 iv1 (s29 ((lv0.get iv1.toNat).Slope) (⟨zaM,zaU⟩:Frac)) zaM zaU zmM zmN))
 true)
def zkt (lv0:(Sl Line)):Nat→Int→Int→Int→Int→Int→(Frac×Frac):=lpO (fun _ _ _ _ _=>default) (zkr lv0)
def zku (lv0:(Sl Line)):Nat→Int→Int→Int→Int→Int→Bool:=lpO (fun _ _ _ _ _=>false) (zks lv0)
def zGk (lv0:(Sl Line)) (iv1:Int) (zaM:Int) (zaU:Int) (zmM:Int) (zmN:Int):(Frac×Frac):=zkt lv0 Fuel iv1 zaM zaU zmM zmN
def zGl (lv0:(Sl Line)) (iv1:Int) (zaM:Int) (zaU:Int) (zmM:Int) (zmN:Int):Bool:=zku lv0 Fuel iv1 zaM zaU zmM zmN
def zGm (lv0:(Sl Line)):(Frac×Frac) :=
  (zGk lv0 (1:Int) ((lv0.get 0).Slope.Num) ((lv0.get 0).Slope.Den) ((lv0.get 0).Slope.Num) ((lv0.get 0).Slope.Den))
def zyE (lv0:(Sl Line)):Bool :=
  (decide ((0≤(0:Int)∧(0:Int) < (lv0.len:Int))) &&
 (decide ((0≤(0:Int)∧(0:Int) < (lv0.len:Int))) &&
 (zGl lv0 (1:Int) ((lv0.get 0).Slope.Num) ((lv0.get 0).Slope.Den) ((lv0.get 0).Slope.Num) ((lv0.get 0).Slope.Den))))
def s37 (zaa:(Sl Gate)):(Frac×Frac) :=
  (zGm (s33 zaa))
def p37 (zaa:(Sl Gate)):Bool :=
  (decide ((p33 zaa=true)) &&
 (zyE (s33 zaa)))
end
section
variable {K:List PA→Prop} {f:Frac}
end
abbrev T35:Tabs:=((Tabs.nil.addF 75 zuH).addF 82 zAs)
abbrev G35:Ctrs:=csm T35 (fun _ _=>[]) (fun _=>false)
def zMe:Ann:=⟨26,[(0,zK [0,2,3] [2,3]),(1,zK [2,3,5,6] [2,3,5]),(2,zK [2,3,5,6,15] [2,3,5]),(3,zK [2,3,4] [2,3]),(4,zK [2,3,7,8] [2,3,7,8]),(5,zK [2,3,4] [2,3])],
 [],
 [(4,zK [2,3,5] [2,3,5])],
 [],[]⟩
@[irreducible] def z35:=ptF Try.prog G35 zMe Try.f35
section
variable {K:List PA→Prop} {zaa:(Sl Gate)} {zmb:(Sl Gate)} {zmc:(Sl straight)} {zo3:Nat→List PV} {zo4:Nat→List PV}
end
end Go.Proofs
namespace Go.Pm
open Go
theorem zbC {i n:Nat} (h:i < n) (hn:n≤9223372036854775807):w64 ((i:Int)+(1:Int))=((i+1:Nat):Int):=by
 rw [zaK (by omega) (by omega)];omega
theorem zGn {β : Type} {good : Nat → Bool} {bad fin : β} {finP : Bool} {n : Nat} {lpS : Nat → Int → β} {lpP : Nat → Int → Bool}
    (hS:∀ (k i:Nat),i < n→lpS (k+1) (i:Int)=cond (good i) (lpS k (w64 ((i:Int)+(1:Int)))) bad)
    (hE:∀ k,lpS (k+1) (n:Int)=fin)
    (hP:∀ (k i:Nat),i < n→lpP (k+1) (i:Int)=cond (good i) (lpP k (w64 ((i:Int)+(1:Int)))) true)
    (hPE:∀ k,lpP (k+1) (n:Int)=finP) (hn:n≤9223372036854775807) :
    ((∀ i,i < n→good i=true)→lpP Fuel 0=finP∧lpS Fuel 0=fin)∧((¬ ∀ i,i < n→good i=true)→lpP Fuel 0=true∧lpS Fuel 0=bad):=by
  have key:∀ (m k i:Nat),i+m=n→m < k→((∀ j,i≤j→j < n→good j=true)→lpP k (i:Int)=finP∧lpS k (i:Int)=fin)∧((¬ ∀ j,i≤j→j < n→good j=true)→lpP k (i:Int)=true∧lpS k (i:Int)=bad):=by
    intro m
    induction m with
    | zero =>
      intro k i hi hk
      obtain ⟨k,rfl⟩:∃ k',k=k'+1:=⟨k - 1,by omega⟩
      have:i=n:=by omega
      subst this
      rw [hE,hPE]
      exact ⟨fun _=>⟨rfl,rfl⟩,fun h=>absurd (fun j h1 h2=>absurd h2 (by omega)) h⟩
    | succ m ih =>
      intro k i hi hk
      obtain ⟨k,rfl⟩:∃ k',k=k'+1:=⟨k - 1,by omega⟩
      rw [hS k i (by omega),hP k i (by omega),zbC (n:=n) (by omega) hn]
      obtain ⟨h1,h2⟩:=ih k (i+1) (by omega) (by omega)
      cases hg:good i
      · refine ⟨fun h => ?_, fun _ => ⟨rfl, rfl⟩⟩
        have:=h i (Nat.le_refl _) (by omega)
        rw [hg] at this;cases this
      · refine ⟨fun h => h1 fun j a b => h j (by omega) b, fun h => h2 fun h' => h fun j a b => ?_⟩
        by_cases hji:j=i
        · rw [hji];exact hg
        · exact h' j (by omega) b
  have:=key n Fuel 0 (by omega) (by simp only [Fuel];omega)
  simpa using this
def zg5 {σ : Type} (step : Nat → σ → σ) : Nat → Nat → σ → σ
  | 0,_,s=>s
  | m+1,i,s=>zg5 step m (i+1) (step i s)
theorem zg6 {σ β : Type} {step : Nat → σ → σ} {E : σ → β} {EP : σ → Bool} {Inv : Nat → σ → Prop} {a n : Nat} {lpS : Nat → σ → Int → β} {lpP : Nat → σ → Int → Bool}
    (hS:∀ (k i:Nat) (s:σ),a≤i→i < n→Inv i s→lpS (k+1) s (i:Int)=lpS k (step i s) (w64 ((i:Int)+(1:Int))))
    (hE:∀ k s,lpS (k+1) s (n:Int)=E s)
    (hP:∀ (k i:Nat) (s:σ),a≤i→i < n→Inv i s→lpP (k+1) s (i:Int)=lpP k (step i s) (w64 ((i:Int)+(1:Int))))
    (hPE:∀ k s,lpP (k+1) s (n:Int)=EP s)
    (hI:∀ i s,a≤i→i < n→Inv i s→Inv (i+1) (step i s)) (ha:a≤n) (hn:n≤9223372036854775807) (s:σ) (h0:Inv a s) :
    lpP Fuel s (a:Int)=EP (zg5 step (n - a) a s)∧lpS Fuel s (a:Int)=E (zg5 step (n - a) a s):=by
  have key:∀ (m k i:Nat) (s:σ),a≤i→i+m=n→m < k→Inv i s→lpP k s (i:Int)=EP (zg5 step m i s)∧lpS k s (i:Int)=E (zg5 step m i s):=by
    intro m
    induction m with
    | zero =>
      intro k i s h1 hi hk _
      obtain ⟨k,rfl⟩:∃ k',k=k'+1:=⟨k - 1,by omega⟩
      have:i=n:=by omega
      subst this
      rw [hE,hPE]
      exact ⟨rfl,rfl⟩
    | succ m ih =>
      intro k i s h1 hi hk hs
      obtain ⟨k,rfl⟩:∃ k',k=k'+1:=⟨k - 1,by omega⟩
      rw [hS k i s h1 (by omega) hs,hP k i s h1 (by omega) hs,zbC (n:=n) (by omega) hn]
      exact ih k (i+1) (step i s) (by omega) (by omega) (by omega) (hI i s h1 (by omega) hs)
  exact key (n - a) Fuel a s (Nat.le_refl _) (by omega) (by simp only [Fuel];omega) h0
end Go.Pm
namespace Go.Proofs
open Go Go.Pm
set_option maxRecDepth 100000
theorem zrP (n a b:Int):s70 n a b=decide (a≤n∧n≤b):=by
 unfold s70;by_cases h:n ≥ a
 ·rw [decide_eq_true h,cond_true];exact decide_eq_decide.2 ⟨fun k=>⟨h,k⟩,fun k=>k.2⟩
 ·rw [decide_eq_false h,cond_false];exact (decide_eq_false fun k=>h k.1).symm
theorem zyF (n a b:Int):s74 n a b=decide (a≤n∧n≤b):=zrP n a b
def zfj (g:Gate):Prop:=(0≤g.Z∧g.Z≤100000)∧-1000000≤g.Low∧g.Low≤g.High∧g.High≤1000000
def zaw (l:Sl Gate):Prop:=(∀ i,i < l.len→zfj (l.get i))∧1≤l.len∧l.len≤24
theorem zfI (a b:Bool):cond a b false=(a && b):=by cases a <;> rfl
theorem zCl (g:Gate):s87 g=true↔zfj g:=by
 unfold s87 zfj
 rw [zyF,zfI,zfI,zfI,Bool.and_eq_true,Bool.and_eq_true,Bool.and_eq_true,decide_eq_true_eq,decide_eq_true_eq,decide_eq_true_eq,decide_eq_true_eq]
theorem zCm (g:Gate):s49 g=true↔zfj g:=by
 unfold s49 zfj
 rw [zrP,zrP,zfI,zfI,Bool.and_eq_true,Bool.and_eq_true,decide_eq_true_eq,decide_eq_true_eq,decide_eq_true_eq]
 omega
theorem zyG (l:Sl Gate) (hn:l.len≤9223372036854775807):p64 l=true∧(s64 l=true↔zaw l):=by
  have := zq9 (good := fun i => s87 (l.get i)) (fin := s74 (l.len : Int) 1 24) (n := l.len) (lpS := zhq l) (lpP := zhr l)
    (fun k i hi=>by
      show zho l (zhq l k) (i:Int)=_
      generalize zhq l k=S
      unfold zho zoP
      rw [decide_eq_true (show (i:Int) < (l.len:Int) by omega),cond_true,Int.toNat_natCast]
      cases s87 (l.get i) <;> rfl)
    (fun k=>by
      show zho l (zhq l k) (l.len:Int)=_
      unfold zho
      rw [decide_eq_false (show ¬ (l.len:Int) < (l.len:Int) by omega),cond_false])
    (fun k i hi=>by
      show zhp l (zhr l k) (i:Int)=_
      generalize zhr l k=S
      unfold zhp zoQ
      rw [decide_eq_true (show (i:Int) < (l.len:Int) by omega),cond_true,Int.toNat_natCast,decide_eq_true (show 0≤(i:Int)∧(i:Int) < (l.len:Int) by omega),Bool.true_and]
      cases s87 (l.get i) <;> rfl)
    (fun k=>by
      show zhp l (zhr l k) (l.len:Int)=_
      unfold zhp
      rw [decide_eq_false (show ¬ (l.len:Int) < (l.len:Int) by omega),cond_false])
    hn
  refine ⟨this.1,this.2.trans ?_⟩
  rw [zyF,decide_eq_true_eq]
  exact ⟨fun k=>⟨fun i hi=>(zCl _).1 (k.1 i hi),by omega,by omega⟩,fun k=>⟨fun i hi=>(zCl _).2 (k.1 i hi),by have:=k.2;omega⟩⟩
theorem zyH (l:Sl Gate) (hn:l.len≤9223372036854775807):p20 l=true∧(s20 l=true↔zaw l):=by
  have := zq9 (good := fun i => s49 (l.get i)) (fin := s70 (l.len : Int) 1 24) (n := l.len) (lpS := zhP l) (lpP := zhQ l)
    (fun k i hi=>by
      show zhN l (zhP l k) (i:Int)=_
      generalize zhP l k=S
      unfold zhN zp3
      rw [decide_eq_true (show (i:Int) < (l.len:Int) by omega),cond_true,Int.toNat_natCast]
      cases s49 (l.get i) <;> rfl)
    (fun k=>by
      show zhN l (zhP l k) (l.len:Int)=_
      unfold zhN
      rw [decide_eq_false (show ¬ (l.len:Int) < (l.len:Int) by omega),cond_false])
    (fun k i hi=>by
      show zhO l (zhQ l k) (i:Int)=_
      generalize zhQ l k=S
      unfold zhO zp4
      rw [decide_eq_true (show (i:Int) < (l.len:Int) by omega),cond_true,Int.toNat_natCast,decide_eq_true (show 0≤(i:Int)∧(i:Int) < (l.len:Int) by omega),Bool.true_and]
      cases s49 (l.get i) <;> rfl)
    (fun k=>by
      show zhO l (zhQ l k) (l.len:Int)=_
      unfold zhO
      rw [decide_eq_false (show ¬ (l.len:Int) < (l.len:Int) by omega),cond_false])
    hn
  refine ⟨this.1,this.2.trans ?_⟩
  rw [zrP,decide_eq_true_eq]
  exact ⟨fun k=>⟨fun i hi=>(zCm _).1 (k.1 i hi),by omega,by omega⟩,fun k=>⟨fun i hi=>(zCm _).2 (k.1 i hi),by have:=k.2;omega⟩⟩
theorem zJM (l:Sl Gate) (hn:l.len≤9223372036854775807):s64 l=s20 l :=
 Bool.eq_iff_iff.2 ((zyG l hn).2.trans (zyH l hn).2.symm)
-- the greatest common divisor
theorem zyI:∀ (k:Nat) (a b:Int),0≤a→0≤b→b < (k:Int) →
  (ziM k a b=true∧ziL k a b=(Int.gcd a b:Int))∧(zms k a b=true∧zmr k a b=(Int.gcd a b:Int)):=by
 intro k
 induction k with
 | zero=>intro a b _ h1 h2;omega
 | succ k ih =>
  intro a b ha hb hk
  show (ziK (ziM k) a b=true∧ziJ (ziL k) a b=_)∧(zmq (zms k) a b=true∧zmp (zmr k) a b=_)
  unfold ziK ziJ zmq zmp
  by_cases h0:b=0
  ·subst h0
   simp [Int.natAbs_of_nonneg ha]
  ·have hb0 : b > 0 := by omega
   have e1:(b != (0:Int))=true:=by simpa using h0
   have m0:0≤a.tmod b:=Int.tmod_nonneg b ha
   have m1:a.tmod b < b:=Int.tmod_lt_of_pos a hb0
   have g:Int.gcd b (a.tmod b)=Int.gcd a b:=by
    obtain ⟨m,rfl⟩:=Int.eq_ofNat_of_zero_le ha
    obtain ⟨n,rfl⟩:=Int.eq_ofNat_of_zero_le hb
    show Nat.gcd n (m % n)=Nat.gcd m n
    rw [Nat.gcd_comm m n,Nat.gcd_rec n m,Nat.gcd_comm]
   obtain ⟨⟨i1,i2⟩,i3,i4⟩:=ih b (a.tmod b) hb m0 (by omega)
   rw [decide_eq_true hb0,e1,decide_eq_true (show b ≠ 0 from h0),cond_true,cond_true,cond_true,cond_true,Bool.true_and,Bool.true_and,i1,i2,i3,i4,g]
   exact ⟨⟨rfl,rfl⟩,rfl,rfl⟩
theorem zGo (a b:Int) (ha:0≤a) (hb:0≤b) (hk:b≤9223372036854775807):zKe a b=true∧zC1 a b=(Int.gcd a b:Int) :=
 (zyI Fuel a b ha hb (by simp only [Fuel];omega)).1
theorem zCn (a b:Int) (ha:0≤a) (hb:0≤b) (hk:b≤9223372036854775807):p73 a b=true∧s73 a b=(Int.gcd a b:Int) :=
 (zyI Fuel a b ha hb (by simp only [Fuel];omega)).2
-- the order of equal lists
def SEq {α:Type} (a b:Sl α):Prop:=a.len=b.len∧∀ i,i < a.len→a.get i=b.get i
end Go.Proofs
namespace Go.Proofs
open Go Go.Pm
set_option maxRecDepth 100000
theorem znY {σ : Type} {step : Nat → σ → σ} {Inv : Nat → σ → Prop} {n : Nat} (hI : ∀ i s, i < n → Inv i s → Inv (i + 1) (step i s)) :
    ∀ (m i:Nat) (s:σ),i+m=n→Inv i s→Inv n (zg5 step m i s):=by
  intro m
  induction m with
  | zero => intro i s h hs; have : i = n := by omega
            subst this;exact hs
  | succ m ih=>intro i s h hs;exact ih (i+1) (step i s) (by omega) (hI i s (by omega) hs)
def addI (l:Line) (zaa:Sl Gate) (i:Nat) (v:Sl Int):Sl Int:=cond (s72 l (zaa.get i)) (⟨v.len+1,zdA v.len v.get (fun _=>(i:Int))⟩:Sl Int) v
def zKr (l:Line) (zaa:Sl Gate):Sl Int:=zg5 (addI l zaa) zaa.len 0 (⟨0,fun _=>default⟩:Sl Int)
theorem zrQ (l:Line) (zaa:Sl Gate) (i:Nat) (v:Sl Int) (h:v.len≤i):(addI l zaa i v).len≤i+1:=by
 unfold addI;cases s72 l (zaa.get i)
 ·exact Nat.le_succ_of_le h
 ·exact Nat.succ_le_succ h
theorem zJN (l:Line) (zaa:Sl Gate) (hn:zaa.len≤40):p27 l zaa=true∧s27 l zaa=zKr l zaa:=by
  have := zg6 (σ := Sl Int) (step := addI l zaa) (E := id) (EP := fun _ => true) (Inv := fun i v => v.len ≤ i) (a := 0) (n := zaa.len) (lpS := fun k v i => zhX l zaa k i v) (lpP := fun k v i => zhY l zaa k i v)
    (fun k i v _ hi _=>by
      show zhV l zaa (zhX l zaa k) (i:Int) v=_
      generalize zhX l zaa k=S
      unfold zhV zp7 addI
      rw [decide_eq_true (show (i:Int) < (zaa.len:Int) by omega),cond_true,Int.toNat_natCast]
      cases s72 l (zaa.get i) <;> rfl)
    (fun k v=>by
      show zhV l zaa (zhX l zaa k) (zaa.len:Int) v=_
      unfold zhV
      rw [decide_eq_false (show ¬ (zaa.len:Int) < (zaa.len:Int) by omega),cond_false];rfl)
    (fun k i v _ hi hv=>by
      show zhW l zaa (zhY l zaa k) (i:Int) v=_
      generalize zhY l zaa k=S
      unfold zhW zp8 addI
      rw [decide_eq_true (show (i:Int) < (zaa.len:Int) by omega),cond_true,Int.toNat_natCast,decide_eq_true (show 0≤(i:Int)∧(i:Int) < (zaa.len:Int) by omega),decide_eq_true (show (v.len+1) * 8≤140737488355328∧v.len+1≤9223372036854775807 by omega)]
      cases s72 l (zaa.get i) <;> rfl)
    (fun k v=>by
      show zhW l zaa (zhY l zaa k) (zaa.len:Int) v=_
      unfold zhW
      rw [decide_eq_false (show ¬ (zaa.len:Int) < (zaa.len:Int) by omega),cond_false])
    (fun i v _ _ h=>zrQ l zaa i v h) (Nat.zero_le _) (by omega) (⟨0,fun _=>default⟩:Sl Int) (Nat.le_refl _)
  exact this
end Go.Proofs
namespace Go.Proofs
open Go Go.Pm
set_option maxRecDepth 100000
def red (num den:Int):Frac:=⟨num.tdiv (Int.gcd num den:Int),den.tdiv (Int.gcd num den:Int)⟩
theorem zCo (num:Int):(if -num > num then -num else num)=(num.natAbs:Int):=by split <;> omega
theorem zyJ (num den:Int):Int.gcd (num.natAbs:Int) den=Int.gcd num den:=by
 unfold Int.gcd;rw [Int.natAbs_natCast]
theorem zcf {num den:Int} (hd:0 < den):0 < (Int.gcd num den:Int):=by
 have:Int.gcd num den ≠ 0:=fun h=>by have:=(Int.gcd_eq_zero_iff.1 h).2;omega
 omega
theorem zM2 (num den:Int):∃ a,num=(Int.gcd num den:Int) * a:=Int.gcd_dvd_left num den
theorem zM3 (num den:Int):∃ a,den=(Int.gcd num den:Int) * a:=Int.gcd_dvd_right num den
theorem zdH {num den:Int} (hd:0 < den):(Int.gcd num den:Int) * (red num den).Num=num:=by
 have hg:=zcf (num:=num) hd
 obtain ⟨a,ha⟩:=zM2 num den
 show (Int.gcd num den:Int) * num.tdiv (Int.gcd num den:Int)=num
 generalize (Int.gcd num den:Int)=g at ha hg ⊢
 rw [ha,Int.mul_tdiv_cancel_left _ (by omega)]
theorem zda {num den:Int} (hd:0 < den):(Int.gcd num den:Int) * (red num den).Den=den:=by
 have hg:=zcf (num:=num) hd
 obtain ⟨a,ha⟩:=zM3 num den
 show (Int.gcd num den:Int) * den.tdiv (Int.gcd num den:Int)=den
 generalize (Int.gcd num den:Int)=g at ha hg ⊢
 rw [ha,Int.mul_tdiv_cancel_left _ (by omega)]
theorem zcJ {num den:Int} (hd:0 < den):0 < (red num den).Den:=by
 have h1:=zda (num:=num) hd
 have hg:=zcf (num:=num) hd
 rcases Int.lt_or_le 0 (red num den).Den with h | h
 ·exact h
 ·have := Int.mul_le_mul_of_nonneg_left h (Int.le_of_lt hg)
  rw [h1,Int.mul_zero] at this
  omega
theorem zkv {num den:Int} (hd:0 < den):(red num den).Den≤den:=by
 have h1:=zda (num:=num) hd
 have hg:=zcf (num:=num) hd
 have:=Int.mul_le_mul_of_nonneg_right (show (1:Int)≤(Int.gcd num den:Int) by omega) (Int.le_of_lt (zcJ (num:=num) hd))
 omega
theorem zgn {num den:Int} (hd:0 < den) : -(num.natAbs:Int)≤(red num den).Num∧(red num den).Num≤(num.natAbs:Int):=by
 have h1:=zdH (num:=num) hd
 have hg:=zcf (num:=num) hd
 have h2:num.natAbs=(Int.gcd num den) * (red num den).Num.natAbs:=by
  have:=congrArg Int.natAbs h1
  rw [Int.natAbs_mul] at this
  simpa using this.symm
 have h3:(red num den).Num.natAbs≤num.natAbs:=by
  rw [h2];exact Nat.le_mul_of_pos_left _ (by omega)
 omega
theorem zyK {num den:Int} (hd:0 < den):Int.gcd (red num den).Num (red num den).Den=1:=by
 have h1:=zdH (num:=num) hd
 have h2:=zda (num:=num) hd
 have hg:=zcf (num:=num) hd
 have h3:Int.gcd ((Int.gcd num den:Int) * (red num den).Num) ((Int.gcd num den:Int) * (red num den).Den)=Int.gcd num den * Int.gcd (red num den).Num (red num den).Den:=by
  rw [Int.gcd_mul_left];simp
 rw [h1,h2] at h3
 have h4:Int.gcd num den * 1=Int.gcd num den * Int.gcd (red num den).Num (red num den).Den:=by rw [Nat.mul_one];exact h3
 exact (Nat.eq_of_mul_eq_mul_left (by omega) h4).symm
theorem znZ {a b c d:Int} (hb:0 < b) (hd:0 < d):red a b=red c d↔a * d=c * b:=by
 have a1:=zdH (num:=a) hb
 have a2:=zda (num:=a) hb
 have c1:=zdH (num:=c) hd
 have c2:=zda (num:=c) hd
 constructor
 ·intro h
  rw [h] at a1 a2
  generalize hG:(Int.gcd a b:Int)=G at a1 a2
  generalize hK:(Int.gcd c d:Int)=K at c1 c2
  generalize (red c d).Num=x at a1 c1
  generalize (red c d).Den=y at a2 c2
  subst a1;subst a2;subst c1;subst c2
  ac_rfl
 ·intro h
  have ga:=zyK (num:=a) hb
  have gc:=zyK (num:=c) hd
  have pa:=zcJ (num:=a) hb
  have pc:=zcJ (num:=c) hd
  have hG:=zcf (num:=a) hb
  have hK:=zcf (num:=c) hd
  -- cross products of the lowest forms
  have hx:(red a b).Num * (red c d).Den=(red c d).Num * (red a b).Den:=by
   have e:((Int.gcd a b:Int) * (Int.gcd c d:Int)) * ((red a b).Num * (red c d).Den)=((Int.gcd a b:Int) * (Int.gcd c d:Int)) * ((red c d).Num * (red a b).Den):=by
    have l1:((Int.gcd a b:Int) * (Int.gcd c d:Int)) * ((red a b).Num * (red c d).Den)=((Int.gcd a b:Int) * (red a b).Num) * ((Int.gcd c d:Int) * (red c d).Den):=by
     generalize (Int.gcd a b:Int)=G;generalize (Int.gcd c d:Int)=K
     ac_rfl
    have l2:((Int.gcd a b:Int) * (Int.gcd c d:Int)) * ((red c d).Num * (red a b).Den)=((Int.gcd c d:Int) * (red c d).Num) * ((Int.gcd a b:Int) * (red a b).Den):=by
     generalize (Int.gcd a b:Int)=G;generalize (Int.gcd c d:Int)=K
     ac_rfl
    rw [l1,l2,a1,a2,c1,c2];exact h
   exact Int.eq_of_mul_eq_mul_left (by have:=Int.mul_pos hG hK;omega) e
  have hx':=congrArg Int.natAbs hx
  rw [Int.natAbs_mul,Int.natAbs_mul] at hx'
  have ga':Nat.Coprime (red a b).Den.natAbs (red a b).Num.natAbs:=(Nat.gcd_comm _ _).trans ga
  have gc':Nat.Coprime (red c d).Den.natAbs (red c d).Num.natAbs:=(Nat.gcd_comm _ _).trans gc
  have d1:(red a b).Den ∣ (red c d).Den:=Int.natAbs_dvd_natAbs.1 (ga'.dvd_of_dvd_mul_left ⟨(red c d).Num.natAbs,by rw [hx',Nat.mul_comm]⟩)
  have d2:(red c d).Den ∣ (red a b).Den:=Int.natAbs_dvd_natAbs.1 (gc'.dvd_of_dvd_mul_left ⟨(red a b).Num.natAbs,by rw [← hx',Nat.mul_comm]⟩)
  have hden:(red a b).Den=(red c d).Den:=Int.le_antisymm (Int.le_of_dvd pc d1) (Int.le_of_dvd pa d2)
  rw [← hden] at hx
  have hnum:=Int.eq_of_mul_eq_mul_right (by omega) hx
  cases h1:red a b;cases h2:red c d
  rw [h1,h2] at hden hnum
  simp only at hden hnum
  rw [hden,hnum]
theorem ziu {num den:Int} (h1 : -4611686018427387904≤num) (h2:num≤4611686018427387904) (hd:0 < den) (hd2:den≤4611686018427387904):p89 num den=true∧s89 num den=red num den:=by
 have e:w64 (0 - num) = -num:=by rw [zaK (by omega) (by omega)];omega
 obtain ⟨g1,g2⟩:=zGo (num.natAbs:Int) den (by omega) (by omega) (by omega)
 have hg:=zcf (num:=num) hd
 have r1:=zgn (num:=num) hd
 have r2:=zkv (num:=num) hd
 have r3:=zcJ (num:=num) hd
 unfold p89 s89
 rw [e,zCo,g1,g2,zyJ]
 have w1:w64 (num.tdiv (Int.gcd num den:Int))=(red num den).Num:=zaK (by show _≤(red num den).Num;omega) (by show (red num den).Num≤_;omega)
 have w2:w64 (den.tdiv (Int.gcd num den:Int))=(red num den).Den:=zaK (by show _≤(red num den).Den;omega) (by show (red num den).Den≤_;omega)
 rw [w1,w2,decide_eq_true (show (Int.gcd num den:Int) ≠ 0 by omega)]
 exact ⟨by simp only [decide_true,Bool.and_self],by cases red num den;simp only⟩
theorem zkw {num den:Int} (h1 : -4611686018427387904≤num) (h2:num≤4611686018427387904) (hd:0 < den) (hd2:den≤4611686018427387904):p40 num den=true∧s40 num den=red num den:=by
 have e:w64 (0 - num) = -num:=by rw [zaK (by omega) (by omega)];omega
 obtain ⟨g1,g2⟩:=zCn (num.natAbs:Int) den (by omega) (by omega) (by omega)
 have hg:=zcf (num:=num) hd
 have r1:=zgn (num:=num) hd
 have r2:=zkv (num:=num) hd
 have r3:=zcJ (num:=num) hd
 unfold p40 s40
 rw [e,zCo,g1,g2,zyJ]
 have w1:w64 (num.tdiv (Int.gcd num den:Int))=(red num den).Num:=zaK (by show _≤(red num den).Num;omega) (by show (red num den).Num≤_;omega)
 have w2:w64 (den.tdiv (Int.gcd num den:Int))=(red num den).Den:=zaK (by show _≤(red num den).Den;omega) (by show (red num den).Den≤_;omega)
 rw [w1,w2,decide_eq_true (show (Int.gcd num den:Int) ≠ 0 by omega)]
 exact ⟨by simp only [decide_true,Bool.and_self],by cases red num den;simp only⟩
end Go.Proofs
namespace Go.Proofs
open Go Go.Pm
set_option maxRecDepth 100000
theorem ziY {x y X Y:Int} (h1 : -X≤x) (h2:x≤X) (h3:0≤y) (h4:y≤Y) : -(X * Y)≤x * y∧x * y≤X * Y:=by
 have hX:0≤X:=by omega
 have a:=Int.mul_le_mul_of_nonneg_right h2 h3
 have b:=Int.mul_le_mul_of_nonneg_left h4 hX
 have c:=Int.mul_le_mul_of_nonneg_right h1 h3
 rw [Int.neg_mul] at c
 omega
def thr (z p y q:Int):straight:=if z > y then ⟨p - q,q * z - p * y,z - y⟩ else ⟨q - p,p * y - q * z,y - z⟩
def toL (s:straight):Line:=⟨red s.slope s.den,red s.start s.den⟩
theorem zmO {z p y q:Int} (hz:0≤z∧z≤100000) (hy:0≤y∧y≤100000) (hp : -1000000≤p∧p≤1000000) (hq : -1000000≤q∧q≤1000000):zkB z p y q=thr z p y q:=by
 have b1:=ziY hp.1 hp.2 hy.1 hy.2
 have b2:=ziY hq.1 hq.2 hz.1 hz.2
 unfold zkB ziR thr
 rw [zaK (x:=p * y) (by omega) (by omega),zaK (x:=q * z) (by omega) (by omega)]
 by_cases h:z > y
 ·rw [decide_eq_true h,cond_true,if_pos h,zaK (by omega) (by omega),zaK (by omega) (by omega),zaK (by omega) (by omega)]
 ·rw [decide_eq_false h,cond_false,if_neg h,zaK (by omega) (by omega),zaK (by omega) (by omega),zaK (by omega) (by omega)]
theorem zJO {z p y q:Int} (hz:0≤z∧z≤100000) (hy:0≤y∧y≤100000) (hp : -1000000≤p∧p≤1000000) (hq : -1000000≤q∧q≤1000000) (hn:z ≠ y):p26 z p y q=true∧s26 z p y q=toL (thr z p y q):=by
 have b1:=ziY hp.1 hp.2 hy.1 hy.2
 have b2:=ziY hq.1 hq.2 hz.1 hz.2
 unfold p26 s26 zmD zmC thr toL
 rw [zaK (x:=p * y) (by omega) (by omega),zaK (x:=q * z) (by omega) (by omega)]
 by_cases h:z > y
 ·rw [decide_eq_true (show y < z from h), cond_true, cond_true, if_pos h, zaK (x := p - q) (by omega) (by omega), zaK (x := z - y) (by omega) (by omega), zaK (x := q * z - p * y) (by omega) (by omega)]
  obtain ⟨c1,c2⟩:=zkw (num:=p - q) (den:=z - y) (by omega) (by omega) (by omega) (by omega)
  obtain ⟨d1,d2⟩:=zkw (num:=q * z - p * y) (den:=z - y) (by omega) (by omega) (by omega) (by omega)
  rw [c1,c2,d1,d2]
  exact ⟨by simp only [decide_true,Bool.and_self],rfl⟩
 ·rw [decide_eq_false (show ¬ y < z from h), cond_false, cond_false, if_neg h, zaK (x := q - p) (by omega) (by omega), zaK (x := y - z) (by omega) (by omega), zaK (x := p * y - q * z) (by omega) (by omega)]
  obtain ⟨c1,c2⟩:=zkw (num:=q - p) (den:=y - z) (by omega) (by omega) (by omega) (by omega)
  obtain ⟨d1,d2⟩:=zkw (num:=p * y - q * z) (den:=y - z) (by omega) (by omega) (by omega) (by omega)
  rw [c1,c2,d1,d2]
  exact ⟨by simp only [decide_true,Bool.and_self],rfl⟩
def zrR (a b:Gate):List straight:=if a.Z=b.Z then [] else [thr a.Z a.Low b.Z b.Low,thr a.Z a.Low b.Z b.High,thr a.Z a.High b.Z b.Low,thr a.Z a.High b.Z b.High]
def zsO (g : Sl Gate) (i : Nat) : Nat → Nat → List straight
  | 0,_=>[]
  | m+1,k=>zrR (g.get i) (g.get k) ++ zsO g i m (k+1)
def zCp (g : Sl Gate) : Nat → Nat → List straight
  | 0,_=>[]
  | m+1,i=>zsO g i (g.len - (i+1)) (i+1) ++ zCp g m (i+1)
def cst (g:Sl Gate):List straight:=zCp g g.len 0
theorem zed {g:Gate} (h:zfj g) : -1000000≤g.Low∧g.Low≤1000000:=⟨h.2.1,by have:=h.2;omega⟩
theorem zfN {g:Gate} (h:zfj g) : -1000000≤g.High∧g.High≤1000000:=⟨by have:=h.2;omega,h.2.2.2⟩
theorem zMf (g : Sl Gate) (G : zaw g) (i : Nat) (hi : i < g.len) (sl : Sl Gate) (hs : sl.len = g.len - (i + 1)) (hg : ∀ x, sl.get x = g.get (x + (i + 1)))
    (S0:Int→List straight) (P0:Int→Bool):∀ (m k j:Nat),j+m=sl.len→m < k →
    zdk P0 ⟨g⟩ k (i:Int) sl (sl.len:Int) (j:Int) (g.get i).Z (g.get i).Low (g.get i).High=P0 ((i+1:Nat):Int) ∧
    zdj S0 ⟨g⟩ k (i:Int) sl (sl.len:Int) (j:Int) (g.get i).Z (g.get i).Low (g.get i).High=zsO g i m (j+(i+1)) ++ S0 ((i+1:Nat):Int):=by
  have hl:=G.2.2
  intro m
  induction m with
  | zero =>
    intro k j hj hk
    obtain ⟨k,rfl⟩:∃ k',k=k'+1:=⟨k - 1,by omega⟩
    show zet P0 ⟨g⟩ (zdk P0 ⟨g⟩ k) _ _ _ _ _ _ _=_∧zes S0 ⟨g⟩ (zdj S0 ⟨g⟩ k) _ _ _ _ _ _ _=_
    unfold zet zes
    rw [decide_eq_false (show ¬ (j:Int) < (sl.len:Int) by omega),cond_false,cond_false,zbC (n:=g.len) hi (by omega)]
    exact ⟨rfl,rfl⟩
  | succ m ih =>
    intro k j hj hk
    obtain ⟨k,rfl⟩:∃ k',k=k'+1:=⟨k - 1,by omega⟩
    obtain ⟨i1,i2⟩:=ih k (j+1) (by omega) (by omega)
    show zet P0 ⟨g⟩ (zdk P0 ⟨g⟩ k) _ _ _ _ _ _ _=_∧zes S0 ⟨g⟩ (zdj S0 ⟨g⟩ k) _ _ _ _ _ _ _=zsO g i (m+1) (j+(i+1)) ++ _
    generalize zdk P0 ⟨g⟩ k=P at i1
    generalize zdj S0 ⟨g⟩ k=S at i2
    unfold zet zes
    have gi:=G.1 i hi
    have gk:=G.1 (j+(i+1)) (by omega)
    rw [decide_eq_true (show (j:Int) < (sl.len:Int) by omega),decide_eq_true (show 0≤(j:Int)∧(j:Int) < (sl.len:Int) by omega),cond_true,cond_true,Bool.true_and,Int.toNat_natCast,hg,
      zbC (n:=sl.len) (by omega) (by omega),i1,i2,zmO gi.1 gk.1 (zed gi) (zed gk),zmO gi.1 gk.1 (zed gi) (zfN gk),zmO gi.1 gk.1 (zfN gi) (zed gk),zmO gi.1 gk.1 (zfN gi) (zfN gk)]
    show _∧_=(zrR (g.get i) (g.get (j+(i+1))) ++ zsO g i m (j+(i+1)+1)) ++ _
    rw [show j+1+(i+1)=j+(i+1)+1 by omega]
    unfold zrR
    by_cases hz:(g.get i).Z=(g.get (j+(i+1))).Z
    · rw [if_pos hz, show ((g.get i).Z == (g.get (j + (i + 1))).Z) = true by simpa using hz]
      exact ⟨rfl,rfl⟩
    · rw [if_neg hz, show ((g.get i).Z == (g.get (j + (i + 1))).Z) = false by simpa using hz]
      exact ⟨rfl,rfl⟩
theorem zGp (g:Sl Gate) (G:zaw g):zDn ⟨g⟩=true∧zBC ⟨g⟩=cst g:=by
 have hl:=G.2.2
 have key:∀ (m k i:Nat),i+m=g.len→m < k→zdm ⟨g⟩ k (i:Int)=true∧zdl ⟨g⟩ k (i:Int)=zCp g m i:=by
  intro m
  induction m with
  | zero =>
   intro k i hi hk
   obtain ⟨k,rfl⟩:∃ k',k=k'+1:=⟨k - 1,by omega⟩
   show zev ⟨g⟩ (zdm ⟨g⟩ k) _=_∧zeu ⟨g⟩ (zdl ⟨g⟩ k) _=_
   unfold zev zeu
   rw [decide_eq_false (show ¬ (i:Int) < (g.len:Int) by omega),cond_false,cond_false]
   exact ⟨rfl,rfl⟩
  | succ m ih =>
   intro k i hi hk
   obtain ⟨k,rfl⟩:∃ k',k=k'+1:=⟨k - 1,by omega⟩
   obtain ⟨i1,i2⟩:=ih k (i+1) (by omega) (by omega)
   show zev ⟨g⟩ (zdm ⟨g⟩ k) _=_∧zeu ⟨g⟩ (zdl ⟨g⟩ k) _=zsO g i (g.len - (i+1)) (i+1) ++ zCp g m (i+1)
   generalize zdm ⟨g⟩ k=P at i1
   generalize zdl ⟨g⟩ k=S at i2
   unfold zev zeu zlZ zlY
   rw [zbC (n:=g.len) (by omega) (by omega)]
   rw [decide_eq_true (show (i:Int) < (g.len:Int) by omega),decide_eq_true (show 0≤(i:Int)∧(i:Int) < (g.len:Int) by omega),decide_eq_true (show 0≤((i+1:Nat):Int)∧((i+1:Nat):Int)≤(g.len:Int)∧(g.len:Int)≤(g.len:Int) by omega),
    cond_true,cond_true,Bool.true_and,Bool.true_and,Int.toNat_natCast,Int.toNat_natCast]
   have hs:((g.len:Int) - ((i+1:Nat):Int)).toNat=g.len - (i+1):=by omega
   have:=zMf g G i (by omega) (⟨((g.len:Int) - ((i+1:Nat):Int)).toNat,fun x=>g.get (x+(i+1))⟩:Sl Gate) hs (fun _=>rfl) S P (g.len - (i+1)) Fuel 0 (by show 0+(g.len - (i+1))=((g.len:Int) - ((i+1:Nat):Int)).toNat;omega) (by simp only [Fuel];omega)
   rw [i1,i2,Nat.zero_add] at this
   exact this
 exact key g.len Fuel 0 (by omega) (by simp only [Fuel];omega)
end Go.Proofs
namespace Go.Proofs
open Go Go.Pm
set_option maxRecDepth 100000
def apL {α:Type} (v:Sl α) (x:α):Sl α:=⟨v.len+1,zdA v.len v.get (fun _=>x)⟩
theorem zmP (g:Gate):zrL g 0=g.Low:=rfl
theorem zmQ (g:Gate):zrL g 1=g.High:=rfl
theorem zMg (g : Sl Gate) (G : zaw g) (i k : Nat) (hi : i < g.len) (hk : k < g.len) (S0 : Int → Sl Line → Sl Line) (S1 : Int → Int → Sl Line → Sl Line) (P0 : Int → Sl Line → Bool) (P1 : Int → Int → Sl Line → Bool) (v : Sl Line) (hv : v.len ≤ 100000) (F : Nat) (hF : 5 ≤ F) :
  zc9 P0 P1 g F (i:Int) (k:Int) 0 v=P1 (i:Int) ((k+1:Nat):Int) (((zrR (g.get i) (g.get k)).map toL).foldl apL v) ∧
  zc8 S0 S1 g F (i:Int) (k:Int) 0 v=S1 (i:Int) ((k+1:Nat):Int) (((zrR (g.get i) (g.get k)).map toL).foldl apL v):=by
 have hl:=G.2.2
 obtain ⟨f,rfl⟩:∃ f,F=f+5:=⟨F - 5,by omega⟩
 have gi:=G.1 i hi
 have gk:=G.1 k hk
 have ei:decide (0≤(i:Int)∧(i:Int) < (g.len:Int))=true:=decide_eq_true (by omega)
 have ek:decide (0≤(k:Int)∧(k:Int) < (g.len:Int))=true:=decide_eq_true (by omega)
 have e2:decide ((2:Int) ≠ 0)=true:=by decide
 have sk:w64 ((k:Int)+(1:Int))=((k+1:Nat):Int):=zbC (n:=g.len) hk (by omega)
 -- one round
 have step:∀ (m:Nat) (e:Int) (v:Sl Line) (p q:Int),(0≤e∧e < 4)→v.len≤200000→zrL (g.get i) (w64 (e.tdiv (2:Int)))=p→zrL (g.get k) (e.tmod (2:Int))=q →
   (-1000000≤p∧p≤1000000)→(-1000000≤q∧q≤1000000)→(g.get i).Z ≠ (g.get k).Z →
   zc9 P0 P1 g (m+1) (i:Int) (k:Int) e v=zc9 P0 P1 g m (i:Int) (k:Int) (e+1) (apL v (toL (thr (g.get i).Z p (g.get k).Z q))) ∧
   zc8 S0 S1 g (m+1) (i:Int) (k:Int) e v=zc8 S0 S1 g m (i:Int) (k:Int) (e+1) (apL v (toL (thr (g.get i).Z p (g.get k).Z q))):=by
  intro m e v p q he hv hp hq bp bq hz
  show zfg P0 P1 g (zc9 P0 P1 g m) _ _ _ _=_∧zff S0 S1 g (zc8 S0 S1 g m) _ _ _ _=_
  generalize zc9 P0 P1 g m=P
  generalize zc8 S0 S1 g m=S
  obtain ⟨t1,t2⟩:=zJO gi.1 gk.1 bp bq hz
  unfold zfg zff
  rw [Int.toNat_natCast,Int.toNat_natCast,hp,hq,t1,t2,decide_eq_true (show e < 4 from he.2),ei,ek,e2,zaK (x:=e+1) (by omega) (by omega),
   show ((g.get i).Z != (g.get k).Z)=true by simpa using hz,decide_eq_true (show (v.len+1) * 32≤140737488355328∧v.len+1≤9223372036854775807 by omega)]
  exact ⟨rfl,rfl⟩
 unfold zrR
 by_cases hz:(g.get i).Z=(g.get k).Z
 ·rw [if_pos hz]
  show zfg P0 P1 g (zc9 P0 P1 g (f+4)) _ _ _ _=_∧zff S0 S1 g (zc8 S0 S1 g (f+4)) _ _ _ _=_
  generalize zc9 P0 P1 g (f+4)=P
  generalize zc8 S0 S1 g (f+4)=S
  unfold zfg zff
  rw [Int.toNat_natCast,Int.toNat_natCast,ei,ek,sk,decide_eq_true (show (0:Int) < 4 by omega),show ((g.get i).Z != (g.get k).Z)=false by simpa using hz]
  exact ⟨rfl,rfl⟩
 ·rw [if_neg hz]
  have a0:=step (f+4) 0 v _ _ (by omega) (by omega) (zmP _) (zmP _) (zed gi) (zed gk) hz
  generalize hv1:apL v (toL (thr (g.get i).Z (g.get i).Low (g.get k).Z (g.get k).Low))=v1 at a0
  have l1:v1.len=v.len+1:=by rw [← hv1];rfl
  have a1:=step (f+3) 1 v1 _ _ (by omega) (by omega) (zmP _) (zmQ _) (zed gi) (zfN gk) hz
  generalize hv2:apL v1 (toL (thr (g.get i).Z (g.get i).Low (g.get k).Z (g.get k).High))=v2 at a1
  have l2:v2.len=v1.len+1:=by rw [← hv2];rfl
  have a2:=step (f+2) 2 v2 _ _ (by omega) (by omega) (zmQ _) (zmP _) (zfN gi) (zed gk) hz
  generalize hv3:apL v2 (toL (thr (g.get i).Z (g.get i).High (g.get k).Z (g.get k).Low))=v3 at a2
  have l3:v3.len=v2.len+1:=by rw [← hv3];rfl
  have a3:=step (f+1) 3 v3 _ _ (by omega) (by omega) (zmQ _) (zmQ _) (zfN gi) (zfN gk) hz
  generalize hv4:apL v3 (toL (thr (g.get i).Z (g.get i).High (g.get k).Z (g.get k).High))=v4 at a3
  have b4:zc9 P0 P1 g (f+1) (i:Int) (k:Int) 4 v4=P1 (i:Int) ((k+1:Nat):Int) v4∧zc8 S0 S1 g (f+1) (i:Int) (k:Int) 4 v4=S1 (i:Int) ((k+1:Nat):Int) v4:=by
   show zfg P0 P1 g (zc9 P0 P1 g f) _ _ _ _=_∧zff S0 S1 g (zc8 S0 S1 g f) _ _ _ _=_
   generalize zc9 P0 P1 g f=P
   generalize zc8 S0 S1 g f=S
   unfold zfg zff
   rw [sk,decide_eq_false (show ¬ (4:Int) < 4 by omega)]
   exact ⟨rfl,rfl⟩
  have fin:(([thr (g.get i).Z (g.get i).Low (g.get k).Z (g.get k).Low,thr (g.get i).Z (g.get i).Low (g.get k).Z (g.get k).High,thr (g.get i).Z (g.get i).High (g.get k).Z (g.get k).Low,thr (g.get i).Z (g.get i).High (g.get k).Z (g.get k).High]:List straight).map toL).foldl apL v=v4:=by
   simp only [List.map_cons,List.map_nil,List.foldl_cons,List.foldl_nil,hv1,hv2,hv3,hv4]
  rw [fin]
  exact ⟨(a0.1.trans (a1.1.trans (a2.1.trans a3.1))).trans b4.1,(a0.2.trans (a1.2.trans (a2.2.trans a3.2))).trans b4.2⟩
theorem zci {α:Type} (l:List α):∀ v:Sl α,(l.foldl apL v).len=v.len+l.length:=by
 induction l with
 | nil=>intro v;rfl
 | cons x l ih=>intro v;rw [List.foldl_cons,ih];show v.len+1+l.length=v.len+(l.length+1);omega
theorem zrS (a b:Gate):(zrR a b).length≤4:=by unfold zrR;split <;> simp
theorem zrT (g:Sl Gate) (i m k:Nat):(zsO g i m k).length≤4 * m:=by
 induction m generalizing k with
 | zero=>exact Nat.le_refl _
 | succ m ih=>show (zrR _ _ ++ zsO g i m (k+1)).length≤_;rw [List.length_append];have:=ih (k+1);have:=zrS (g.get i) (g.get k);omega
theorem zOS (g:Sl Gate) (G:zaw g) (i:Nat) (hi:i < g.len) (S0:Int→Sl Line→Sl Line) (P0:Int→Sl Line→Bool):∀ (m F k:Nat) (v:Sl Line),k+m=g.len→m < F→v.len+4 * m≤100000 →
  zgk P0 g F (i:Int) (k:Int) v=P0 ((i+1:Nat):Int) (((zsO g i m k).map toL).foldl apL v) ∧
  zgj S0 g F (i:Int) (k:Int) v=S0 ((i+1:Nat):Int) (((zsO g i m k).map toL).foldl apL v):=by
 have hl:=G.2.2
 intro m
 induction m with
 | zero =>
  intro F k v hk hF hv
  obtain ⟨f,rfl⟩:∃ f,F=f+1:=⟨F - 1,by omega⟩
  show zh0 P0 g (zgk P0 g f) _ _ _=_∧zhZ S0 g (zgj S0 g f) _ _ _=_
  generalize zgk P0 g f=P
  generalize zgj S0 g f=S
  unfold zh0 zhZ
  rw [decide_eq_false (show ¬ (k:Int) < (g.len:Int) by omega),cond_false,cond_false,zbC (n:=g.len) hi (by omega)]
  exact ⟨rfl,rfl⟩
 | succ m ih =>
  intro F k v hk hF hv
  obtain ⟨f,rfl⟩:∃ f,F=f+1:=⟨F - 1,by omega⟩
  have ih:=fun v h=>ih f (k+1) v (by omega) (by omega) h
  show zh0 P0 g (zgk P0 g f) _ _ _=_∧zhZ S0 g (zgj S0 g f) _ _ _=_
  generalize zgk P0 g f=P at ih
  generalize zgj S0 g f=S at ih
  unfold zh0 zhZ zqb zqa
  rw [decide_eq_true (show (k:Int) < (g.len:Int) by omega),cond_true,cond_true]
  obtain ⟨b1,b2⟩:=zMg g G i k hi (by omega) S0 S P0 P v (by omega) Fuel (by simp only [Fuel];omega)
  rw [b1,b2]
  have q4:=zrS (g.get i) (g.get k)
  have:=ih (((zrR (g.get i) (g.get k)).map toL).foldl apL v) (by rw [zci,List.length_map];omega)
  rw [← List.foldl_append,← List.map_append] at this
  exact this
theorem zJP (g:Sl Gate) (G:zaw g):p80 g=true∧s80 g=((cst g).map toL).foldl apL ⟨0,fun _=>default⟩:=by
 have hl:=G.2.2
 have key:∀ (m F i:Nat) (v:Sl Line),i+m=g.len→m < F→v.len+100 * m≤50000→zh4 g F (i:Int) v=true∧zh3 g F (i:Int) v=((zCp g m i).map toL).foldl apL v:=by
  intro m
  induction m with
  | zero =>
   intro F i v hi hF hv
   obtain ⟨f,rfl⟩:∃ f,F=f+1:=⟨F - 1,by omega⟩
   show zh2 g (zh4 g f) _ _=_∧zh1 g (zh3 g f) _ _=_
   unfold zh2 zh1
   rw [decide_eq_false (show ¬ (i:Int) < (g.len:Int) by omega),cond_false,cond_false]
   exact ⟨rfl,rfl⟩
  | succ m ih =>
   intro F i v hi hF hv
   obtain ⟨f,rfl⟩:∃ f,F=f+1:=⟨F - 1,by omega⟩
   have ih:=fun v h=>ih f (i+1) v (by omega) (by omega) h
   show zh2 g (zh4 g f) _ _=_∧zh1 g (zh3 g f) _ _=_
   generalize zh4 g f=P at ih
   generalize zh3 g f=S at ih
   unfold zh2 zh1 zqe zqd
   rw [decide_eq_true (show (i:Int) < (g.len:Int) by omega),cond_true,cond_true,zbC (n:=g.len) (by omega) (by omega)]
   obtain ⟨b1,b2⟩:=zOS g G i (by omega) S P (g.len - (i+1)) Fuel (i+1) v (by omega) (by simp only [Fuel];omega) (by omega)
   rw [b1,b2]
   have c4:=zrT g i (g.len - (i+1)) (i+1)
   have:=ih (((zsO g i (g.len - (i+1)) (i+1)).map toL).foldl apL v) (by rw [zci,List.length_map];omega)
   rw [← List.foldl_append,← List.map_append] at this
   exact this
 exact key g.len Fuel 0 _ (by omega) (by simp only [Fuel];omega) (by show 0+_≤_;omega)
end Go.Proofs
namespace Go.Proofs
open Go Go.Pm
set_option maxRecDepth 100000
def SOK (s:straight):Prop:=(-2000000≤s.slope∧s.slope≤2000000)∧(-200000000000≤s.start∧s.start≤200000000000)∧1≤s.den∧s.den≤100000
theorem zJQ {z p y q:Int} (hz:0≤z∧z≤100000) (hy:0≤y∧y≤100000) (hp : -1000000≤p∧p≤1000000) (hq : -1000000≤q∧q≤1000000) (hn:z ≠ y):SOK (thr z p y q):=by
 have b1:=ziY hp.1 hp.2 hy.1 hy.2
 have b2:=ziY hq.1 hq.2 hz.1 hz.2
 unfold thr SOK
 by_cases h:z > y
 ·rw [if_pos h];exact ⟨⟨by show _≤p - q;omega,by show p - q≤_;omega⟩,⟨by show _≤q * z - p * y;omega,by show q * z - p * y≤_;omega⟩,by show _≤z - y;omega,by show z - y≤_;omega⟩
 ·rw [if_neg h];exact ⟨⟨by show _≤q - p;omega,by show q - p≤_;omega⟩,⟨by show _≤p * y - q * z;omega,by show p * y - q * z≤_;omega⟩,by show _≤y - z;omega,by show y - z≤_;omega⟩
theorem zA1 {a b:Gate} {s:straight} (h:s∈zrR a b):a.Z ≠ b.Z∧∃ p q,(p=a.Low∨p=a.High)∧(q=b.Low∨q=b.High)∧s=thr a.Z p b.Z q:=by
 unfold zrR at h
 by_cases hz:a.Z=b.Z
 ·rw [if_pos hz] at h;cases h
 ·rw [if_neg hz] at h
  refine ⟨hz,?_⟩
  simp only [List.mem_cons,List.not_mem_nil,or_false] at h
  rcases h with h | h | h | h
  ·exact ⟨_,_,.inl rfl,.inl rfl,h⟩
  ·exact ⟨_,_,.inl rfl,.inr rfl,h⟩
  ·exact ⟨_,_,.inr rfl,.inl rfl,h⟩
  ·exact ⟨_,_,.inr rfl,.inr rfl,h⟩
theorem zrU {g : Sl Gate} {i : Nat} {s : straight} : ∀ {m k : Nat}, s ∈ zsO g i m k → ∃ j, k ≤ j ∧ j < k + m ∧ s ∈ zrR (g.get i) (g.get j)
  | 0,_,h=>by cases h
  | m+1,k,h=>by
    rcases List.mem_append.1 h with h | h
    · exact ⟨k,Nat.le_refl _,by omega,h⟩
    · obtain ⟨j, a, b, c⟩ := zrU h
      exact ⟨j,by omega,by omega,c⟩
theorem zrV {g : Sl Gate} {s : straight} : ∀ {m i : Nat}, s ∈ zCp g m i → ∃ a b, i ≤ a ∧ a < i + m ∧ a < b ∧ b < g.len ∧ s ∈ zrR (g.get a) (g.get b)
  | 0,_,h=>by cases h
  | m+1,i,h=>by
    rcases List.mem_append.1 h with h | h
    · obtain ⟨j, a, b, c⟩ := zrU h
      exact ⟨i,j,Nat.le_refl _,by omega,by omega,by omega,c⟩
    · obtain ⟨a, b, h1, h2, h3, h4, h5⟩ := zrV h
      exact ⟨a,b,by omega,by omega,h3,h4,h5⟩
theorem zqy {g:Sl Gate} {s:straight} (h:s∈cst g):∃ a b,a < b∧b < g.len∧(g.get a).Z ≠ (g.get b).Z∧∃ p q,(p=(g.get a).Low∨p=(g.get a).High)∧(q=(g.get b).Low∨q=(g.get b).High)∧s=thr (g.get a).Z p (g.get b).Z q:=by
 obtain ⟨a,b,_,_,h3,h4,h5⟩:=zrV h
 obtain ⟨hz,r⟩:=zA1 h5
 exact ⟨a,b,h3,h4,hz,r⟩
theorem zkx {g:Sl Gate} (G:zaw g) {s:straight} (h:s∈cst g):SOK s:=by
 obtain ⟨a,b,h1,h2,hz,p,q,hp,hq,rfl⟩:=zqy h
 have ga:=G.1 a (by omega)
 have gb:=G.1 b h2
 refine zJQ ga.1 gb.1 ?_ ?_ hz
 ·rcases hp with rfl | rfl;exact zed ga;exact zfN ga
 ·rcases hq with rfl | rfl;exact zed gb;exact zfN gb
def plc (s:straight) (z:Int):Int:=s.start+s.slope * z
def zyL (s:straight) (g:Gate):Bool:=decide (g.Low * s.den≤plc s g.Z∧plc s g.Z≤g.High * s.den)
def zzf (s:straight) (g:Gate):Bool:=decide (plc s g.Z=g.Low * s.den)
theorem zyM {s:straight} (S:SOK s) {g:Gate} (G:zfj g):zDb s g=zyL s g:=by
 obtain ⟨S1,S2,S3⟩:=S
 have b1:=ziY S1.1 S1.2 G.1.1 G.1.2
 have b2:=ziY (zed G).1 (zed G).2 (show 0≤s.den by omega) S3.2
 have b3:=ziY (zfN G).1 (zfN G).2 (show 0≤s.den by omega) S3.2
 unfold zDb zyL plc
 rw [zyF,zaK (x:=s.slope * g.Z) (by omega) (by omega),zaK (x:=s.start+s.slope * g.Z) (by omega) (by omega),zaK (x:=g.Low * s.den) (by omega) (by omega),zaK (x:=g.High * s.den) (by omega) (by omega)]
theorem zyN {s:straight} (S:SOK s) {g:Gate} (G:zfj g):zzd s g=zzf s g:=by
 obtain ⟨S1,S2,S3⟩:=S
 have b1:=ziY S1.1 S1.2 G.1.1 G.1.2
 have b2:=ziY (zed G).1 (zed G).2 (show 0≤s.den by omega) S3.2
 unfold zzd zzf plc
 rw [zaK (x:=s.slope * g.Z) (by omega) (by omega),zaK (x:=s.start+s.slope * g.Z) (by omega) (by omega),zaK (x:=g.Low * s.den) (by omega) (by omega)]
 exact Bool.eq_iff_iff.2 (by rw [beq_iff_eq,decide_eq_true_eq])
theorem zg7 {a x y:Int} (h:0 < a):a * x≤a * y↔x≤y:=⟨fun k=>Int.le_of_mul_le_mul_left k h,fun k=>Int.mul_le_mul_of_nonneg_left k (Int.le_of_lt h)⟩
theorem zrW {a x y:Int} (h:0 < a):a * x=a * y↔x=y:=⟨fun k=>Int.eq_of_mul_eq_mul_left (by omega) k,fun k=>by rw [k]⟩
theorem zyO {s:straight} (S:SOK s) {z:Int} (hz:0≤z∧z≤100000):∃ n d k,zp5 (toL s) z=(n,d)∧0 < k∧k * n=s.den * plc s z∧k * d=s.den * s.den∧0 < d∧d≤10000000000:=by
  obtain ⟨S1,S2,S3⟩:=S
  have hd:0 < s.den:=by omega
  have g1:=zcf (num:=s.slope) hd
  have g2:=zcf (num:=s.start) hd
  have r1:=zgn (num:=s.slope) hd
  have r2:=zgn (num:=s.start) hd
  have e1:=zdH (num:=s.slope) hd
  have e2:=zda (num:=s.slope) hd
  have e3:=zdH (num:=s.start) hd
  have e4:=zda (num:=s.start) hd
  have p1:=zcJ (num:=s.slope) hd
  have p2:=zcJ (num:=s.start) hd
  have q1:=zkv (num:=s.slope) hd
  have q2:=zkv (num:=s.start) hd
  unfold zp5 toL
  simp only
  generalize (red s.slope s.den).Num=a at *
  generalize (red s.slope s.den).Den=b at *
  generalize (red s.start s.den).Num=c at *
  generalize (red s.start s.den).Den=d at *
  generalize (Int.gcd s.slope s.den:Int)=G1 at *
  generalize (Int.gcd s.start s.den:Int)=G2 at *
  have m1:=ziY (x:=c) (X:=200000000000) (y:=b) (Y:=100000) (by omega) (by omega) (by omega) (by omega)
  have m2:=ziY (x:=a) (X:=2000000) (y:=z) (Y:=100000) (by omega) (by omega) hz.1 hz.2
  have m3:=ziY (x:=a * z) (X:=2000000 * 100000) (y:=d) (Y:=100000) (by omega) (by omega) (by omega) (by omega)
  have m4:=ziY (x:=d) (X:=100000) (y:=b) (Y:=100000) (by omega) (by omega) (by omega) (by omega)
  have m5:=Int.mul_pos p2 p1
  rw [zaK (x:=c * b) (by omega) (by omega),zaK (x:=a * z) (by omega) (by omega),zaK (x:=a * z * d) (by omega) (by omega),zaK (x:=c * b+a * z * d) (by omega) (by omega),zaK (x:=d * b) (by omega) (by omega)]
  refine ⟨_,_,G1 * G2,rfl,Int.mul_pos g1 g2,?_,?_,m5,by omega⟩
  · unfold plc
    have t1:G1 * G2 * (c * b)=s.den * s.start:=by
      calc G1 * G2 * (c * b) = (G1 * b) * (G2 * c) := by ac_rfl
        _=_:=by rw [e2,e3]
    have t2:G1 * G2 * (a * z * d)=s.den * (s.slope * z):=by
      calc G1 * G2 * (a * z * d) = (G2 * d) * ((G1 * a) * z) := by ac_rfl
        _=_:=by rw [e4,e1]
    rw [Int.mul_add,t1,t2,Int.mul_add]
  · calc G1 * G2 * (d * b) = (G1 * b) * (G2 * d) := by ac_rfl
      _=_:=by rw [e2,e4]
theorem zrX {s:straight} (S:SOK s) {g:Gate} (G:zfj g):s72 (toL s) g=zyL s g:=by
  obtain ⟨n,d,k,e,hk,kn,kd,d1,d2⟩:=zyO S G.1
  have hd:0 < s.den:=by have:=S.2.2;omega
  have b2:=ziY (zed G).1 (zed G).2 (show 0≤d by omega) d2
  have b3:=ziY (zfN G).1 (zfN G).2 (show 0≤d by omega) d2
  have key:∀ x:Int,k * (x * d)=s.den * (x * s.den):=fun x=>by
    calc k * (x * d) = x * (k * d) := by ac_rfl
      _=s.den * (x * s.den):=by rw [kd];ac_rfl
  unfold s72 zyL
  rw [e,zfI]
  simp only
  rw [zaK (x:=g.Low * d) (by omega) (by omega),zaK (x:=g.High * d) (by omega) (by omega),Bool.decide_and]
  congr 1
  · refine decide_eq_decide.2 ?_
    rw [← zg7 hk,key,kn,zg7 hd]
  · refine decide_eq_decide.2 ?_
    rw [← zg7 hk,key,kn,zg7 hd]
theorem zyP {s:straight} (S:SOK s) {g:Gate} (G:zfj g):((zp5 (toL s) g.Z).1 == w64 (g.Low * (zp5 (toL s) g.Z).2))=zzf s g:=by
  obtain ⟨n,d,k,e,hk,kn,kd,d1,d2⟩:=zyO S G.1
  have hd:0 < s.den:=by have:=S.2.2;omega
  have b2:=ziY (zed G).1 (zed G).2 (show 0≤d by omega) d2
  have key:∀ x:Int,k * (x * d)=s.den * (x * s.den):=fun x=>by
    calc k * (x * d) = x * (k * d) := by ac_rfl
      _=s.den * (x * s.den):=by rw [kd];ac_rfl
  unfold zzf
  rw [e]
  simp only
  rw [zaK (x:=g.Low * d) (by omega) (by omega)]
  refine Bool.eq_iff_iff.2 ?_
  rw [beq_iff_eq,decide_eq_true_eq,← zrW hk,key,kn,zrW hd]
end Go.Proofs
