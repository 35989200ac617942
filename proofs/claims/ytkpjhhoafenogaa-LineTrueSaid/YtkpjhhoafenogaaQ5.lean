/- Part 5 of what the proof rests on: a machine that runs functions of the program on pure values, proved sound; the functions that the law reaches, and what they compute. -/
import Derived.Test.YtkpjhhoafenogaaQ4
set_option linter.all false
namespace Go.Proofs
open Go Go.Pm
set_option maxRecDepth 100000
set_option linter.unusedVariables false
attribute [local irreducible] Go.Pm.vcFun Go.Pm.vc Go.Pm.vcIter
abbrev T38:Tabs:=((Tabs.nil.addF 64 zqr).addF 84 zFP)
theorem zML:TabsOk Try.prog T38:=((TabsOk.nil.addF zJx).addF zPK)
abbrev G38:Ctrs:=csm T38 (fun _ _=>[]) (fun _=>false)
def zFQ:Ann:=⟨66,[(0,zK [0] []),(1,zK [0,12] []),(2,zK [2,3] []),(3,zK [0,4] []),(4,zK [0,4,15,16] []),(5,zK [0,4,15,16,17] []),(6,zK [0,4,5,15,16] []),(7,zK [0,4,5,6,15,16] []),(8,zK [0,4,5,6,15,16,23] []),(9,zK [0,4,5,6,15,16] []),(10,zK [0,4,5,6,15,16,31] []),(11,zK [2,3] [34]),(12,zK [0,4,15,16] []),(13,zK [0,4,36,37] []),(14,zK [0,4,36,37,38] []),(15,zK [0,4,7,36,37] []),(16,zK [0,4,7,8,36,37] []),(17,zK [0,4,7,8,36,37,44] []),(18,zK [0,4,7,8,36,37] []),(19,zK [0,4,7,8,9,36,37] []),(20,zK [0,4,7,8,9,36,37,51] []),(21,zK [0,4,7,8,9,36,37] []),(22,zK [0,4,7,8,9,36,37,60] []),(23,zK [2,3] [64]),(24,zK [0,4,36,37] []),(25,zK [2,3] [])],
 [(5,zK [0,4,15,16] []),(8,zK [0,4,5,6,15,16] []),(14,zK [0,4,36,37] []),(17,zK [0,4,7,8,36,37] []),(20,zK [0,4,7,8,9,36,37] [])],
 [(2,zK [0,12] []),(3,zK [0] []),(13,zK [0,4] []),(11,zK [0,4,5,6,15,16,31] []),(23,zK [0,4,7,8,9,36,37,60] [])],
 [],[]⟩
abbrev R38:=((Sl Int)×Int)
abbrev e38 (r:R38):List PA:=[.one (.sl r.1.len 1 (fun i=>zak (r.1.get i))),.one (.int .i64 r.2)]
@[irreducible] def z38:=ptF Try.prog G38 zFQ Try.f38
def zDm (zaa:(Sl Gate)) (zdB:Int):St:=⟨[(0,zS enc_55 3 zaa),(4,zI (zaa.len:Int)),(15,zI (zaa.len:Int)),(16,zI zdB)],[],[]⟩
abbrev zBV (K:List PA→Prop) (zaa:(Sl Gate)) (X:St→Prop) (P:Int→Bool) (S:Int→((Sl Int)×Int)):Prop:=∀ ⦃zdB:Int⦄,P zdB=true→K (e38 (S zdB))→X (zDm zaa zdB)
def zDn (zaa:(Sl Gate)) (iv3:Int) (jv3:Int) (zep:Int):St:=⟨[(0,zS enc_55 3 zaa),(4,zI (zaa.len:Int)),(5,zI iv3),(6,zI jv3),(15,zI (zaa.len:Int)),(16,zI zep)],[],[]⟩
abbrev zFR (K:List PA→Prop) (zaa:(Sl Gate)) (X:St→Prop) (P:Int→Int→Int→Bool) (S:Int→Int→Int→((Sl Int)×Int)):Prop:=∀ ⦃iv3:Int⦄ ⦃jv3:Int⦄ ⦃zep:Int⦄,P iv3 jv3 zep=true→K (e38 (S iv3 jv3 zep))→X (zDn zaa iv3 jv3 zep)
def zDo (zaa:(Sl Gate)) (zdC:Int):St:=⟨[(0,zS enc_55 3 zaa),(4,zI (zaa.len:Int)),(36,zI (zaa.len:Int)),(37,zI zdC)],[],[]⟩
abbrev zxq (K:List PA→Prop) (zaa:(Sl Gate)) (X:St→Prop) (P:Int→Bool) (S:Int→((Sl Int)×Int)):Prop:=∀ ⦃zdC:Int⦄,P zdC=true→K (e38 (S zdC))→X (zDo zaa zdC)
def zDp (zaa:(Sl Gate)) (iv7:Int) (jv7:Int) (zeq:Int):St:=⟨[(0,zS enc_55 3 zaa),(4,zI (zaa.len:Int)),(7,zI iv7),(8,zI jv7),(36,zI (zaa.len:Int)),(37,zI zeq)],[],[]⟩
abbrev zBW (K:List PA→Prop) (zaa:(Sl Gate)) (X:St→Prop) (P:Int→Int→Int→Bool) (S:Int→Int→Int→((Sl Int)×Int)):Prop:=∀ ⦃iv7:Int⦄ ⦃jv7:Int⦄ ⦃zeq:Int⦄,P iv7 jv7 zeq=true→K (e38 (S iv7 jv7 zeq))→X (zDp zaa iv7 jv7 zeq)
def zDq (zaa:(Sl Gate)) (iv8:Int) (jv8:Int) (kv8:Int) (zer:Int):St:=⟨[(0,zS enc_55 3 zaa),(4,zI (zaa.len:Int)),(7,zI iv8),(8,zI jv8),(9,zI kv8),(36,zI (zaa.len:Int)),(37,zI zer)],[],[]⟩
abbrev zFS (K:List PA→Prop) (zaa:(Sl Gate)) (X:St→Prop) (P:Int→Int→Int→Int→Bool) (S:Int→Int→Int→Int→((Sl Int)×Int)):Prop:=∀ ⦃iv8:Int⦄ ⦃jv8:Int⦄ ⦃kv8:Int⦄ ⦃zer:Int⦄,P iv8 jv8 kv8 zer=true→K (e38 (S iv8 jv8 kv8 zer))→X (zDq zaa iv8 jv8 kv8 zer)
section
variable {K:List PA→Prop} {zaa:(Sl Gate)} {zaX:Bool} {zdB:Int} {X2:St→Prop} {P2:Int→Bool} {S2:Int→((Sl Int)×Int)} {iv3:Int} {jv3:Int} {zep:Int} {X3:St→Prop} {P3:Int→Int→Int→Bool} {S3:Int→Int→Int→((Sl Int)×Int)} {iv5:Int} {jv5:Int} {zq4:Int} {zq5:Bool} {zdC:Int} {X6:St→Prop} {P6:Int→Bool} {S6:Int→((Sl Int)×Int)} {iv7:Int} {jv7:Int} {zeq:Int} {X7:St→Prop} {P7:Int→Int→Int→Bool} {S7:Int→Int→Int→((Sl Int)×Int)} {iv8:Int} {jv8:Int} {kv8:Int} {zer:Int} {X8:St→Prop} {P8:Int→Int→Int→Int→Bool} {S8:Int→Int→Int→Int→((Sl Int)×Int)} {iv9:Int} {jv9:Int} {kv9:Int} {zq6:Int} {zq7:Bool}
def zxr (S6:Int→((Sl Int)×Int)) (S7:Int→Int→Int→((Sl Int)×Int)) (S8:Int→Int→Int→Int→((Sl Int)×Int)) (zaa:(Sl Gate)) (iv9:Int) (jv9:Int) (kv9:Int) (zq6:Int) (zq7:Bool):((Sl Int)×Int) :=
  (cond zq7
 ((⟨3,(zjh iv9 [iv9,jv9,kv9])⟩:(Sl Int)),(0:Int))
 (S8 iv9 jv9 (w64 (kv9+(1:Int))) zq6))
def zxs (P6:Int→Bool) (P7:Int→Int→Int→Bool) (P8:Int→Int→Int→Int→Bool) (zaa:(Sl Gate)) (iv9:Int) (jv9:Int) (kv9:Int) (zq6:Int) (zq7:Bool):Bool :=
  (cond zq7
 true
 (P8 iv9 jv9 (w64 (kv9+(1:Int))) zq6))
theorem zFT (hX6:zxq K zaa X6 P6 S6) (hX7:zBW K zaa X7 P7 S7) (hX8:zFS K zaa X8 P8 S8) (hs:zxs P6 P7 P8 zaa iv9 jv9 kv9 zq6 zq7=true) (hk:K (e38 (zxr S6 S7 S8 zaa iv9 jv9 kv9 zq6 zq7))):z38 (Wk K) [1,1,1,1,0,1,0,0,1,1,0,0,1,1,0,0,1,0,0,1,0,0,1,0,0,1] [X6,X7,X8] ⟨[(0,zS enc_55 3 zaa),(4,zI (zaa.len:Int)),(7,zI iv9),(8,zI jv9),(9,zI kv9),(36,zI (zaa.len:Int)),(37,zI zq6),(60,zB zq7)],[],[]⟩:=zaK (by kernel_rfl) (zc hs hk (fun hs hk=>((zd7 (Eq.mpr (congrArg K (congrArg (fun (g_:Nat→List PV)=>([.one (.sl 3 1 g_),.one (.int .i64 (0:Int))]:List PA)) (zeH (enc:=zak) (x:=iv9) (y:=jv9) (r:=[kv9])))) hk)):Wk K [.one (.sl 3 1 (zdt [(zak iv9),(zak jv9),(zak kv9)])),.one (.int .i64 (0:Int))])) (fun hs hk=>(hX8 hs hk)))
def zxt (S6:Int→((Sl Int)×Int)) (S7:Int→Int→Int→((Sl Int)×Int)) (zaa:(Sl Gate)) (S8:Int→Int→Int→Int→((Sl Int)×Int)) (iv8:Int) (jv8:Int) (kv8:Int) (zer:Int):((Sl Int)×Int) :=
  (cond (decide (kv8 < (zaa.len : Int)))
 (zxr S6 S7 S8 zaa iv8 jv8 kv8 zer (!(s84 zaa (⟨3,zc4 (zdt [(zak iv8),(zak jv8),(zak kv8)])⟩:(Sl Int)))))
 (S7 iv8 (w64 (jv8+(1:Int))) zer))
def zxu (P6:Int→Bool) (P7:Int→Int→Int→Bool) (zaa:(Sl Gate)) (P8:Int→Int→Int→Int→Bool) (iv8:Int) (jv8:Int) (kv8:Int) (zer:Int):Bool :=
  (cond (decide (kv8 < (zaa.len : Int)))
 (decide ((p84 zaa (⟨3,zc4 (zdt [(zak iv8),(zak jv8),(zak kv8)])⟩:(Sl Int))=true)) &&
 (zxs P6 P7 P8 zaa iv8 jv8 kv8 zer (!(s84 zaa (⟨3,zc4 (zdt [(zak iv8),(zak jv8),(zak kv8)])⟩:(Sl Int))))))
 (P7 iv8 (w64 (jv8+(1:Int))) zer))
def zxv (S6:Int→((Sl Int)×Int)) (S7:Int→Int→Int→((Sl Int)×Int)) (zaa:(Sl Gate)):Nat→Int→Int→Int→Int→((Sl Int)×Int):=lpO (fun _ _ _ _=>default) (zxt S6 S7 zaa)
def zxw (P6:Int→Bool) (P7:Int→Int→Int→Bool) (zaa:(Sl Gate)):Nat→Int→Int→Int→Int→Bool:=lpO (fun _ _ _ _=>false) (zxu P6 P7 zaa)
def zxx (S6:Int→((Sl Int)×Int)) (S7:Int→Int→Int→((Sl Int)×Int)) (zaa:(Sl Gate)) (iv8:Int) (jv8:Int) (kv8:Int) (zer:Int):((Sl Int)×Int):=zxv S6 S7 zaa Fuel iv8 jv8 kv8 zer
def zxy (P6:Int→Bool) (P7:Int→Int→Int→Bool) (zaa:(Sl Gate)) (iv8:Int) (jv8:Int) (kv8:Int) (zer:Int):Bool:=zxw P6 P7 zaa Fuel iv8 jv8 kv8 zer
theorem zFU (hX6:zxq K zaa X6 P6 S6) (hX7:zBW K zaa X7 P7 S7) (hs:zxy P6 P7 zaa iv8 jv8 kv8 zer=true) (hk:K (e38 (zxx S6 S7 zaa iv8 jv8 kv8 zer))):z38 (Wk K) [1,1,1,1,0,1,0,0,1,1,0,0,1,1,0,0,1,0,0,1,0] [X6,X7] (zDq zaa iv8 jv8 kv8 zer) :=
  zl (fun X=>z38 (Wk K) [1,1,1,1,0,1,0,0,1,1,0,0,1,1,0,0,1,0,0,1,0,0] [X6,X7,X]) (by kernel_rfl) fun X8 hX =>
  (show ∀ k, zFS K zaa X8 (zxw P6 P7 zaa k) (zxv S6 S7 zaa k) from zgj _ _ (zxu P6 P7 zaa) (zxt S6 S7 zaa) (zFS K zaa X8)
 (by intro _ _ _ _ hs;exact absurd hs Bool.false_ne_true)
 (by intro P8 S8 hX8 iv8 jv8 kv8 zer hs hk;exact hX _ (zaK (by kernel_rfl) (zc hs hk (fun hs hk=>(zaD hs fun hc hs=>And.intro (And.intro (zE enc_55 3 zaa.get) (And.intro ((zfM [kv8]):IsE zak 1 1 (zdt [(zak iv8),(zak jv8),(zak kv8)])) hc)) (zFT hX6 hX7 hX8 hs hk))) (fun hs hk=>(hX7 hs hk)))))) _ hs hk
def zxz (S6:Int→((Sl Int)×Int)) (zaa:(Sl Gate)) (S7:Int→Int→Int→((Sl Int)×Int)) (iv7:Int) (jv7:Int) (zeq:Int):((Sl Int)×Int) :=
  (cond (decide (jv7 < (zaa.len : Int)))
 (zxx S6 S7 zaa iv7 jv7 (w64 (jv7+(1:Int))) zeq)
 (S6 (w64 (zeq+(1:Int)))))
def zxA (P6:Int→Bool) (zaa:(Sl Gate)) (P7:Int→Int→Int→Bool) (iv7:Int) (jv7:Int) (zeq:Int):Bool :=
  (cond (decide (jv7 < (zaa.len : Int)))
 (zxy P6 P7 zaa iv7 jv7 (w64 (jv7+(1:Int))) zeq)
 (P6 (w64 (zeq+(1:Int)))))
def zxB (S6:Int→((Sl Int)×Int)) (zaa:(Sl Gate)):Nat→Int→Int→Int→((Sl Int)×Int):=lpO (fun _ _ _=>default) (zxz S6 zaa)
def zxC (P6:Int→Bool) (zaa:(Sl Gate)):Nat→Int→Int→Int→Bool:=lpO (fun _ _ _=>false) (zxA P6 zaa)
def zxD (S6:Int→((Sl Int)×Int)) (zaa:(Sl Gate)) (iv7:Int) (jv7:Int) (zeq:Int):((Sl Int)×Int):=zxB S6 zaa Fuel iv7 jv7 zeq
def zxE (P6:Int→Bool) (zaa:(Sl Gate)) (iv7:Int) (jv7:Int) (zeq:Int):Bool:=zxC P6 zaa Fuel iv7 jv7 zeq
theorem zFV (hX6:zxq K zaa X6 P6 S6) (hs:zxE P6 zaa iv7 jv7 zeq=true) (hk:K (e38 (zxD S6 zaa iv7 jv7 zeq))):z38 (Wk K) [1,1,1,1,0,1,0,0,1,1,0,0,1,1,0] [X6] (zDp zaa iv7 jv7 zeq) :=
  zl (fun X=>z38 (Wk K) [1,1,1,1,0,1,0,0,1,1,0,0,1,1,0,0] [X6,X]) (by kernel_rfl) fun X7 hX =>
  (show ∀ k, zBW K zaa X7 (zxC P6 zaa k) (zxB S6 zaa k) from zgj _ _ (zxA P6 zaa) (zxz S6 zaa) (zBW K zaa X7)
 (by intro _ _ _ hs;exact absurd hs Bool.false_ne_true)
 (by intro P7 S7 hX7 iv7 jv7 zeq hs hk;exact hX _ (zaK (by kernel_rfl) (zc hs hk (fun hs hk=>(zFU hX6 hX7 hs hk)) (fun hs hk=>(hX6 hs hk)))))) _ hs hk
def zxF (zaa:(Sl Gate)) (S6:Int→((Sl Int)×Int)) (zdC:Int):((Sl Int)×Int) :=
  (cond (decide (zdC < (zaa.len : Int)))
 (zxD S6 zaa zdC (w64 (zdC+(1:Int))) zdC)
 ((⟨0,fun _=>default⟩:(Sl Int)),(7:Int)))
def zxG (zaa:(Sl Gate)) (P6:Int→Bool) (zdC:Int):Bool :=
  (cond (decide (zdC < (zaa.len : Int)))
 (zxE P6 zaa zdC (w64 (zdC+(1:Int))) zdC)
 true)
def zxH (zaa:(Sl Gate)):Nat→Int→((Sl Int)×Int):=lpO (fun _=>default) (zxF zaa)
def zxI (zaa:(Sl Gate)):Nat→Int→Bool:=lpO (fun _=>false) (zxG zaa)
def zxJ (zaa:(Sl Gate)) (zdC:Int):((Sl Int)×Int):=zxH zaa Fuel zdC
def zxK (zaa:(Sl Gate)) (zdC:Int):Bool:=zxI zaa Fuel zdC
theorem zFW (hs:zxK zaa zdC=true) (hk:K (e38 (zxJ zaa zdC))):z38 (Wk K) [1,1,1,1,0,1,0] [] (zDo zaa zdC) :=
  zl (fun X=>z38 (Wk K) [1,1,1,1,0,1,0,0] [X]) (by kernel_rfl) fun X6 hX =>
  (show ∀ k, zxq K zaa X6 (zxI zaa k) (zxH zaa k) from zgj _ _ (zxG zaa) (zxF zaa) (zxq K zaa X6)
 (by intro _ hs;exact absurd hs Bool.false_ne_true)
 (by intro P6 S6 hX6 zdC hs hk;exact hX _ (zaK (by kernel_rfl) (zc hs hk (fun hs hk=>(zFV hX6 hs hk)) (fun hs hk=>((wk hk (zc9 (.one (.nil _ _)) (zc9 (.one (.rfl _)) zhD))):Wk K [.one (.nils),.one (.int .i64 (7:Int))])))))) _ hs hk
def zxL (S2:Int→((Sl Int)×Int)) (S3:Int→Int→Int→((Sl Int)×Int)) (zaa:(Sl Gate)) (iv5:Int) (jv5:Int) (zq4:Int) (zq5:Bool):((Sl Int)×Int) :=
  (cond zq5
 ((⟨2,(zjh iv5 [iv5,jv5])⟩:(Sl Int)),(0:Int))
 (S3 iv5 (w64 (jv5+(1:Int))) zq4))
def zxM (P2:Int→Bool) (P3:Int→Int→Int→Bool) (zaa:(Sl Gate)) (iv5:Int) (jv5:Int) (zq4:Int) (zq5:Bool):Bool :=
  (cond zq5
 true
 (P3 iv5 (w64 (jv5+(1:Int))) zq4))
theorem zFX (hX2:zBV K zaa X2 P2 S2) (hX3:zFR K zaa X3 P3 S3) (hs:zxM P2 P3 zaa iv5 jv5 zq4 zq5=true) (hk:K (e38 (zxL S2 S3 zaa iv5 jv5 zq4 zq5))):z38 (Wk K) [1,1,1,0,1,0,0,1,1,0,0,1,1,0,0,1,0,0,1] [X2,X3] ⟨[(0,zS enc_55 3 zaa),(4,zI (zaa.len:Int)),(5,zI iv5),(6,zI jv5),(15,zI (zaa.len:Int)),(16,zI zq4),(31,zB zq5)],[],[]⟩:=zaK (by kernel_rfl) (zc hs hk (fun hs hk=>((zd7 (Eq.mpr (congrArg K (congrArg (fun (g_:Nat→List PV)=>([.one (.sl 2 1 g_),.one (.int .i64 (0:Int))]:List PA)) (zeH (enc:=zak) (x:=iv5) (y:=jv5) (r:=[])))) hk)):Wk K [.one (.sl 2 1 (zdt [(zak iv5),(zak jv5)])),.one (.int .i64 (0:Int))])) (fun hs hk=>(hX3 hs hk)))
def zxN (zaa:(Sl Gate)):((Sl Int)×Int) :=
  (zxJ zaa (0:Int))
def zxO (zaa:(Sl Gate)):Bool :=
  (zxK zaa (0:Int))
theorem zFY (hs:zxO zaa=true) (hk:K (e38 (zxN zaa))):z38 (Wk K) [1,1,1,1] [] ⟨[(0,zS enc_55 3 zaa),(4,zI (zaa.len:Int))],[],[]⟩:=zaK (by kernel_rfl) (zFW hs hk)
def zxP (S2:Int→((Sl Int)×Int)) (zaa:(Sl Gate)) (S3:Int→Int→Int→((Sl Int)×Int)) (iv3:Int) (jv3:Int) (zep:Int):((Sl Int)×Int) :=
  (cond (decide (jv3 < (zaa.len : Int)))
 (zxL S2 S3 zaa iv3 jv3 zep (!(s84 zaa (⟨2,zc4 (zdt [(zak iv3),(zak jv3)])⟩:(Sl Int)))))
 (S2 (w64 (zep+(1:Int)))))
def zxQ (P2:Int→Bool) (zaa:(Sl Gate)) (P3:Int→Int→Int→Bool) (iv3:Int) (jv3:Int) (zep:Int):Bool :=
  (cond (decide (jv3 < (zaa.len : Int)))
 (decide ((p84 zaa (⟨2,zc4 (zdt [(zak iv3),(zak jv3)])⟩:(Sl Int))=true)) &&
 (zxM P2 P3 zaa iv3 jv3 zep (!(s84 zaa (⟨2,zc4 (zdt [(zak iv3),(zak jv3)])⟩:(Sl Int))))))
 (P2 (w64 (zep+(1:Int)))))
def zxR (S2:Int→((Sl Int)×Int)) (zaa:(Sl Gate)):Nat→Int→Int→Int→((Sl Int)×Int):=lpO (fun _ _ _=>default) (zxP S2 zaa)
def zxS (P2:Int→Bool) (zaa:(Sl Gate)):Nat→Int→Int→Int→Bool:=lpO (fun _ _ _=>false) (zxQ P2 zaa)
def zxT (S2:Int→((Sl Int)×Int)) (zaa:(Sl Gate)) (iv3:Int) (jv3:Int) (zep:Int):((Sl Int)×Int):=zxR S2 zaa Fuel iv3 jv3 zep
def zxU (P2:Int→Bool) (zaa:(Sl Gate)) (iv3:Int) (jv3:Int) (zep:Int):Bool:=zxS P2 zaa Fuel iv3 jv3 zep
theorem zFZ (hX2:zBV K zaa X2 P2 S2) (hs:zxU P2 zaa iv3 jv3 zep=true) (hk:K (e38 (zxT S2 zaa iv3 jv3 zep))):z38 (Wk K) [1,1,1,0,1,0,0,1,1,0,0,1,1,0] [X2] (zDn zaa iv3 jv3 zep) :=
  zl (fun X=>z38 (Wk K) [1,1,1,0,1,0,0,1,1,0,0,1,1,0,0] [X2,X]) (by kernel_rfl) fun X3 hX =>
  (show ∀ k, zFR K zaa X3 (zxS P2 zaa k) (zxR S2 zaa k) from zgj _ _ (zxQ P2 zaa) (zxP S2 zaa) (zFR K zaa X3)
 (by intro _ _ _ hs;exact absurd hs Bool.false_ne_true)
 (by intro P3 S3 hX3 iv3 jv3 zep hs hk;exact hX _ (zaK (by kernel_rfl) (zc hs hk (fun hs hk=>(zaD hs fun hc hs=>And.intro (And.intro (zE enc_55 3 zaa.get) (And.intro ((zfM []):IsE zak 1 1 (zdt [(zak iv3),(zak jv3)])) hc)) (zFX hX2 hX3 hs hk))) (fun hs hk=>(hX2 hs hk)))))) _ hs hk
def zxV (zaa:(Sl Gate)) (S2:Int→((Sl Int)×Int)) (zdB:Int):((Sl Int)×Int) :=
  (cond (decide (zdB < (zaa.len : Int)))
 (zxT S2 zaa zdB (w64 (zdB+(1:Int))) zdB)
 (zxN zaa))
def zxW (zaa:(Sl Gate)) (P2:Int→Bool) (zdB:Int):Bool :=
  (cond (decide (zdB < (zaa.len : Int)))
 (zxU P2 zaa zdB (w64 (zdB+(1:Int))) zdB)
 (zxO zaa))
def zxX (zaa:(Sl Gate)):Nat→Int→((Sl Int)×Int):=lpO (fun _=>default) (zxV zaa)
def zxY (zaa:(Sl Gate)):Nat→Int→Bool:=lpO (fun _=>false) (zxW zaa)
def zxZ (zaa:(Sl Gate)) (zdB:Int):((Sl Int)×Int):=zxX zaa Fuel zdB
def zx0 (zaa:(Sl Gate)) (zdB:Int):Bool:=zxY zaa Fuel zdB
theorem zF0 (hs:zx0 zaa zdB=true) (hk:K (e38 (zxZ zaa zdB))):z38 (Wk K) [1,1,1,0,1,0] [] (zDm zaa zdB) :=
  zl (fun X=>z38 (Wk K) [1,1,1,0,1,0,0] [X]) (by kernel_rfl) fun X2 hX =>
  (show ∀ k, zBV K zaa X2 (zxY zaa k) (zxX zaa k) from zgj _ _ (zxW zaa) (zxV zaa) (zBV K zaa X2)
 (by intro _ hs;exact absurd hs Bool.false_ne_true)
 (by intro P2 S2 hX2 zdB hs hk;exact hX _ (zaK (by kernel_rfl) (zc hs hk (fun hs hk=>(zFZ hX2 hs hk)) (fun hs hk=>(zFY hs hk)))))) _ hs hk
def zx1 (zaa:(Sl Gate)):((Sl Int)×Int) :=
  (zxZ zaa (0:Int))
def zx2 (zaa:(Sl Gate)):Bool :=
  (zx0 zaa (0:Int))
theorem zF1 (hs:zx2 zaa=true) (hk:K (e38 (zx1 zaa))):z38 (Wk K) [1,1] [] ⟨[(0,zS enc_55 3 zaa)],[],[]⟩:=zaK (by kernel_rfl) (zF0 hs hk)
def zx3 (zaa:(Sl Gate)) (zaX:Bool):((Sl Int)×Int) :=
  (cond zaX
 ((⟨0,fun _=>default⟩:(Sl Int)),(2:Int))
 (zx1 zaa))
def zx4 (zaa:(Sl Gate)) (zaX:Bool):Bool :=
  (cond zaX
 true
 (zx2 zaa))
theorem zF2 (hs:zx4 zaa zaX=true) (hk:K (e38 (zx3 zaa zaX))):z38 (Wk K) [1,0,1] [] ⟨[(0,zS enc_55 3 zaa),(12,zB zaX)],[],[]⟩:=zaK (by kernel_rfl) (zc hs hk (fun hs hk=>((wk hk (zc9 (.one (.nil _ _)) (zc9 (.one (.rfl _)) zhD))):Wk K [.one (.nils),.one (.int .i64 (2:Int))])) (fun hs hk=>(zF1 hs hk)))
def s38 (zaa:(Sl Gate)):((Sl Int)×Int) :=
  (zx3 zaa (!(s64 zaa)))
def p38 (zaa:(Sl Gate)):Bool :=
  (decide ((p64 zaa=true)) &&
 (zx4 zaa (!(s64 zaa))))
end
theorem q38 (zaa:(Sl Gate)) (K:List PA→Prop) (hs:p38 zaa=true) (hk:K (e38 (s38 zaa))):vcFun Try.prog G38 zFQ 38 [.one (.sl zaa.len 3 (fun i=>enc_55 (zaa.get i)))] (Wk K) :=
  zaK (by kernel_rfl) (zaD hs fun hc hs=>And.intro (And.intro (zE enc_55 3 zaa.get) hc) (zF2 hs hk))
def zF3 : List PA → COut
  | [.one (.sl a0_n a0_s a0_g)]=>.det (IsE enc_55 3 a0_s a0_g∧p38 (⟨a0_n,zae a0_g⟩:(Sl Gate))=true) [.one (.sl (((s38 (⟨a0_n,zae a0_g⟩:(Sl Gate))).1).len) 1 (fun i=>zak (((s38 (⟨a0_n,zae a0_g⟩:(Sl Gate))).1).get i))),.one (.int .i64 ((s38 (⟨a0_n,zae a0_g⟩:(Sl Gate))).2))]
  | _=>.no
theorem zJ4:zah Try.prog 38:=⟨_,rfl,rfl,by kernel_rfl⟩
theorem zPL:Ok Try.prog 38 zF3:=zgi zML zJ4 fun args K h=>by
  unfold zF3 at h
  split at h
  · rename_i a0_n a0_s a0_g
    obtain ⟨⟨⟨rfl,a0_f,rfl⟩,hs⟩,hk⟩:=h
    try rw [zac a0_f] at hs
    try rw [zac a0_f] at hk
    exact ⟨_,ze6 zfi _,(fun _ _=>[]),(fun _=>false),zFQ,q38 (⟨a0_n,a0_f⟩:(Sl Gate)) K hs hk⟩
  · exact h.elim
abbrev T39:Tabs:=Tabs.nil
theorem zMM:TabsOk Try.prog T39:=TabsOk.nil
abbrev G39:Ctrs:=csm T39 (fun _ _=>[]) (fun _=>false)
def zF4:Ann:=⟨46,[(0,zK [0,1] []),(1,zK [0,1,5] []),(2,zK [0,1,5,15] []),(3,zK [0,1,5] []),(4,zK [0,1,5,26] []),(5,zK [4] []),(6,zK [0,1,5,35] []),(7,zK [4] []),(8,zK [0,1,40] []),(9,zK [4] []),(10,zK [45] []),(11,zK [4] []),(12,zK [4] [])],
 [(2,zK [0,1,5] [])],
 [(8,zK [0,1] [])],
 [],[]⟩
abbrev R39:=Int
abbrev e39 (r:R39):List PA:=[.one (.int .i64 r)]
@[irreducible] def z39:=ptF Try.prog G39 zF4 Try.f39
def zDr (a:(Sl Int)) (b:(Sl Int)) (iv0:Int):St:=⟨[(0,zS zak 1 a),(1,zS zak 1 b),(5,zI iv0)],[],[]⟩
abbrev zJ5 (K:List PA→Prop) (a:(Sl Int)) (b:(Sl Int)) (X:St→Prop) (P:Int→Bool) (S:Int→Int):Prop:=∀ ⦃iv0:Int⦄,P iv0=true→K (e39 (S iv0))→X (zDr a b iv0)
section
variable {K:List PA→Prop} {a:(Sl Int)} {b:(Sl Int)} {iv0:Int} {X0:St→Prop} {P0:Int→Bool} {S0:Int→Int}
def zq8 (a:(Sl Int)) (b:(Sl Int)):Int :=
  (cond (decide ((a.len : Int) < (b.len : Int)))
 (-1:Int)
 (cond (decide ((a.len : Int) > (b.len : Int)))
 (1:Int)
 (0:Int)))
theorem zx5 (hk:K (e39 (zq8 a b))):z39 K [1,1] [] ⟨[(0,zS zak 1 a),(1,zS zak 1 b)],[],[]⟩:=zaK (by kernel_rfl) (zt hk (fun hk=>hk) (fun hk=>(zt hk (fun hk=>hk) (fun hk=>hk))))
def zx6 (a:(Sl Int)) (b:(Sl Int)) (S0:Int→Int) (iv0:Int):Int :=
  (cond (decide (iv0 < (a.len : Int)))
 (cond (decide (iv0 < (b.len : Int)))
 (cond (decide ((a.get iv0.toNat) < (b.get iv0.toNat)))
 (-1:Int)
 (cond (decide ((a.get iv0.toNat) > (b.get iv0.toNat)))
 (1:Int)
 (S0 (w64 (iv0+(1:Int))))))
 (zq8 a b))
 (zq8 a b))
def zx7 (a:(Sl Int)) (b:(Sl Int)) (P0:Int→Bool) (iv0:Int):Bool :=
  (cond (decide (iv0 < (a.len : Int)))
 (cond (decide (iv0 < (b.len : Int)))
 (decide ((0≤iv0∧iv0 < (a.len:Int))) &&
 (decide ((0≤iv0∧iv0 < (b.len:Int))) &&
 (cond (decide ((a.get iv0.toNat) < (b.get iv0.toNat)))
 true
 (decide ((0≤iv0∧iv0 < (a.len:Int))) &&
 (decide ((0≤iv0∧iv0 < (b.len:Int))) &&
 (cond (decide ((a.get iv0.toNat) > (b.get iv0.toNat)))
 true
 (P0 (w64 (iv0+(1:Int))))))))))
 true)
 true)
def zx8 (a:(Sl Int)) (b:(Sl Int)):Nat→Int→Int:=lpO (fun _=>default) (zx6 a b)
def zx9 (a:(Sl Int)) (b:(Sl Int)):Nat→Int→Bool:=lpO (fun _=>false) (zx7 a b)
def zya (a:(Sl Int)) (b:(Sl Int)) (iv0:Int):Int:=zx8 a b Fuel iv0
def zyb (a:(Sl Int)) (b:(Sl Int)) (iv0:Int):Bool:=zx9 a b Fuel iv0
theorem zF5 (hs:zyb a b iv0=true) (hk:K (e39 (zya a b iv0))):z39 K [1,0,1,0] [] (zDr a b iv0) :=
  zl (fun X=>z39 K [1,0,1,0,0] [X]) (by kernel_rfl) fun X0 hX =>
  (show ∀ k, zJ5 K a b X0 (zx9 a b k) (zx8 a b k) from zgj _ _ (zx7 a b) (zx6 a b) (zJ5 K a b X0)
 (by intro _ hs;exact absurd hs Bool.false_ne_true)
 (by intro P0 S0 hX0 iv0 hs hk;exact hX _ (zaK (by kernel_rfl) (zc hs hk (fun hs hk=>(zc hs hk (fun hs hk=>(zaD hs fun hc hs=>And.intro hc (zaD hs fun hc hs=>And.intro hc (zc hs hk (fun hs hk=>hk) (fun hs hk=>(zaD hs fun hc hs=>And.intro hc (zaD hs fun hc hs=>And.intro hc (zc hs hk (fun hs hk=>hk) (fun hs hk=>(hX0 hs hk)))))))))) (fun hs hk=>(zx5 hk)))) (fun hs hk=>(zx5 hk)))))) _ hs hk
def s39 (a:(Sl Int)) (b:(Sl Int)):Int :=
  (zya a b (0:Int))
def p39 (a:(Sl Int)) (b:(Sl Int)):Bool :=
  (zyb a b (0:Int))
end
theorem q39 (a:(Sl Int)) (b:(Sl Int)) (K:List PA→Prop) (hs:p39 a b=true) (hk:K (e39 (s39 a b))):vcFun Try.prog G39 zF4 39 [.one (.sl a.len 1 (fun i=>zak (a.get i))),.one (.sl b.len 1 (fun i=>zak (b.get i)))] K :=
  zaK (by kernel_rfl) (zF5 hs hk)
def zF6 : List PA → COut
  | [.one (.sl a0_n a0_s a0_g),.one (.sl a1_n a1_s a1_g)]=>.det (IsE zak 1 a0_s a0_g∧IsE zak 1 a1_s a1_g∧p39 (⟨a0_n,zc4 a0_g⟩:(Sl Int)) (⟨a1_n,zc4 a1_g⟩:(Sl Int))=true) [.one (.int .i64 (s39 (⟨a0_n,zc4 a0_g⟩:(Sl Int)) (⟨a1_n,zc4 a1_g⟩:(Sl Int))))]
  | _=>.no
theorem zJ6:zah Try.prog 39:=⟨_,rfl,rfl,by kernel_rfl⟩
theorem zPM:Ok Try.prog 39 zF6:=zaN zMM zJ6 fun args K h=>by
  unfold zF6 at h
  split at h
  · rename_i a0_n a0_s a0_g a1_n a1_s a1_g
    obtain ⟨⟨⟨rfl,a0_f,rfl⟩,⟨rfl,a1_f,rfl⟩,hs⟩,hk⟩:=h
    try rw [zdG a0_f] at hs
    try rw [zdG a0_f] at hk
    try rw [zdG a1_f] at hs
    try rw [zdG a1_f] at hk
    exact ⟨(fun _ _=>[]),(fun _=>false),zF4,q39 (⟨a0_n,a0_f⟩:(Sl Int)) (⟨a1_n,a1_f⟩:(Sl Int)) K hs hk⟩
  · exact h.elim
abbrev T73:Tabs:=Tabs.nil
theorem zMN:TabsOk Try.prog T73:=TabsOk.nil
abbrev G73:Ctrs:=csm T73 (fun _ _=>[]) (fun _=>false)
def zF7:Ann:=⟨12,[(0,zK [0,1] []),(1,zK [0,1,6] []),(2,zK [0,1] []),(3,zK [4] [])],
 [(1,zK [0,1] [])],
 [],
 [],[]⟩
abbrev R73:=Int
abbrev e73 (r:R73):List PA:=[.one (.int .i64 r)]
@[irreducible] def z73:=ptF Try.prog G73 zF7 Try.f73
def zDs (av0:Int) (bv0:Int):St:=⟨[(0,zI av0),(1,zI bv0)],[],[]⟩
abbrev zJ7 (K:List PA→Prop) (X:St→Prop) (P:Int→Int→Bool) (S:Int→Int→Int):Prop:=∀ ⦃av0:Int⦄ ⦃bv0:Int⦄,P av0 bv0=true→K (e73 (S av0 bv0))→X (zDs av0 bv0)
section
variable {K:List PA→Prop} {a:Int} {b:Int} {av0:Int} {bv0:Int} {X0:St→Prop} {P0:Int→Int→Bool} {S0:Int→Int→Int}
def znm (S0:Int→Int→Int) (av0:Int) (bv0:Int):Int :=
  (cond (bv0 != (0:Int))
 (S0 bv0 (av0.tmod bv0))
 av0)
def znn (P0:Int→Int→Bool) (av0:Int) (bv0:Int):Bool :=
  (cond (bv0 != (0:Int))
 (decide ((bv0 ≠ 0)) &&
 (P0 bv0 (av0.tmod bv0)))
 true)
def zno:Nat→Int→Int→Int:=lpO (fun _ _=>default) (znm)
def znp:Nat→Int→Int→Bool:=lpO (fun _ _=>false) (znn)
def zyc (av0:Int) (bv0:Int):Int:=zno Fuel av0 bv0
def zyd (av0:Int) (bv0:Int):Bool:=znp Fuel av0 bv0
theorem zF8 (hs:zyd av0 bv0=true) (hk:K (e73 (zyc av0 bv0))):z73 K [1,0,0] [] (zDs av0 bv0) :=
  zl (fun X=>z73 K [1,0,0,0] [X]) (by kernel_rfl) fun X0 hX =>
  (show ∀ k, zJ7 K X0 (znp k) (zno k) from zgj _ _ (znn) (znm) (zJ7 K X0)
 (by intro _ _ hs;exact absurd hs Bool.false_ne_true)
 (by intro P0 S0 hX0 av0 bv0 hs hk;exact hX _ (zaK (by kernel_rfl) (zc hs hk (fun hs hk=>(zaD hs fun hc hs=>And.intro hc (hX0 hs hk))) (fun hs hk=>hk))))) _ hs hk
def s73 (a:Int) (b:Int):Int :=
  (zyc a b)
def p73 (a:Int) (b:Int):Bool :=
  (zyd a b)
end
theorem q73 (a:Int) (b:Int) (K:List PA→Prop) (hs:p73 a b=true) (hk:K (e73 (s73 a b))):vcFun Try.prog G73 zF7 73 [.one (.int .i64 a),.one (.int .i64 b)] K :=
  zaK (by kernel_rfl) (zF8 hs hk)
def zye : List PA → COut
  | [.one (.int .i64 a0),.one (.int .i64 a1)]=>.det (p73 a0 a1=true) [.one (.int .i64 (s73 a0 a1))]
  | _=>.no
theorem zJ8:zah Try.prog 73:=⟨_,rfl,rfl,by kernel_rfl⟩
theorem zMO:Ok Try.prog 73 zye:=zaN zMN zJ8 fun args K h=>by
  unfold zye at h
  split at h
  · rename_i a0 a1
    obtain ⟨hs,hk⟩:=h
    exact ⟨(fun _ _=>[]),(fun _=>false),zF7,q73 a0 a1 K hs hk⟩
  · exact h.elim
abbrev T40:Tabs:=(Tabs.nil.addF 73 zye)
theorem zMP:TabsOk Try.prog T40:=(TabsOk.nil.addF zMO)
abbrev G40:Ctrs:=csm T40 (fun _ _=>[]) (fun _=>false)
def zJ9:Ann:=⟨19,[(0,zK [0,1,4] [4]),(1,zK [0,1,4,5] [4]),(2,zK [4] [4])],
 [],
 [],
 [],[]⟩
abbrev R40:=Frac
abbrev e40 (r:R40):List PA:=[.agg [.int .i64 r.Num,.int .i64 r.Den]]
section
variable {K:List PA→Prop} {num:Int} {den:Int}
def s40 (num:Int) (den:Int):Frac :=
  (⟨(w64 (num.tdiv (s73 (if (w64 (0 - num)) > num then (w64 (0 - num)) else num) den))),(w64 (den.tdiv (s73 (if (w64 (0 - num)) > num then (w64 (0 - num)) else num) den)))⟩:Frac)
def p40 (num:Int) (den:Int):Bool :=
  (decide ((p73 (if (w64 (0 - num)) > num then (w64 (0 - num)) else num) den=true)) &&
 (decide (((s73 (if (w64 (0 - num)) > num then (w64 (0 - num)) else num) den) ≠ 0)) &&
 (decide (((s73 (if (w64 (0 - num)) > num then (w64 (0 - num)) else num) den) ≠ 0)) &&
 true)))
end
theorem q40 (num:Int) (den:Int) (K:List PA→Prop) (hs:p40 num den=true) (hk:K (e40 (s40 num den))):vcFun Try.prog G40 zJ9 40 [.one (.int .i64 num),.one (.int .i64 den)] K :=
  zaK (by kernel_rfl) (zaD hs fun hc hs=>And.intro hc (zaD hs fun hc hs=>And.intro hc (zaD hs fun hc hs=>And.intro hc hk)))
def zuy : List PA → COut
  | [.one (.int .i64 a0),.one (.int .i64 a1)]=>.det (p40 a0 a1=true) [.agg [.int .i64 ((s40 a0 a1).Num),.int .i64 ((s40 a0 a1).Den)]]
  | _=>.no
theorem zKa:zah Try.prog 40:=⟨_,rfl,rfl,by kernel_rfl⟩
theorem zMQ:Ok Try.prog 40 zuy:=zaN zMP zKa fun args K h=>by
  unfold zuy at h
  split at h
  · rename_i a0 a1
    obtain ⟨hs,hk⟩:=h
    exact ⟨(fun _ _=>[]),(fun _=>false),zJ9,q40 a0 a1 K hs hk⟩
  · exact h.elim
abbrev T85:Tabs:=Tabs.nil
theorem zMR:TabsOk Try.prog T85:=TabsOk.nil
abbrev G85:Ctrs:=csm T85 (fun _ _=>[]) (fun _=>false)
def zKb:Ann:=⟨47,[(0,zK [0,1,2,3,4,5] []),(1,zK [0,1,2,13] []),(2,zK [13,14] []),(3,zK [12] [])],
 [],
 [],
 [],[]⟩
abbrev R85:=Int
abbrev e85 (r:R85):List PA:=[.one (.int .i64 r)]
section
variable {K:List PA→Prop} {u:Int} {v:Int} {w:Int} {p:Int} {q:Int} {r_a5:Int}
def s85 (u:Int) (v:Int) (w:Int) (p:Int) (q:Int) (r_a5:Int):Int :=
  (w64 ((w64 ((w64 ((w64 ((1000:Int) * (if (w64 (0 - (w64 ((w64 ((w64 (r_a5 - q)) * (w64 (v - u)))) - (w64 ((w64 (q - p)) * (w64 (w - v)))))))) > (w64 ((w64 ((w64 (r_a5 - q)) * (w64 (v - u)))) - (w64 ((w64 (q - p)) * (w64 (w - v)))))) then (w64 (0 - (w64 ((w64 ((w64 (r_a5 - q)) * (w64 (v - u)))) - (w64 ((w64 (q - p)) * (w64 (w - v)))))))) else (w64 ((w64 ((w64 (r_a5 - q)) * (w64 (v - u)))) - (w64 ((w64 (q - p)) * (w64 (w - v)))))))))+(w64 ((w64 (v - u)) * (w64 (w - v)))))) - (1:Int))).tdiv (w64 ((w64 (v - u)) * (w64 (w - v))))))
def p85 (u:Int) (v:Int) (w:Int) (p:Int) (q:Int) (r_a5:Int):Bool :=
  (decide (((w64 ((w64 (v - u)) * (w64 (w - v)))) ≠ 0)) &&
 true)
end
theorem q85 (u:Int) (v:Int) (w:Int) (p:Int) (q:Int) (r_a5:Int) (K:List PA→Prop) (hs:p85 u v w p q r_a5=true) (hk:K (e85 (s85 u v w p q r_a5))):vcFun Try.prog G85 zKb 85 [.one (.int .i64 u),.one (.int .i64 v),.one (.int .i64 w),.one (.int .i64 p),.one (.int .i64 q),.one (.int .i64 r_a5)] K :=
  zaK (by kernel_rfl) (zaD hs fun hc hs=>And.intro hc hk)
def zBX : List PA → COut
  | [.one (.int .i64 a0),.one (.int .i64 a1),.one (.int .i64 a2),.one (.int .i64 a3),.one (.int .i64 a4),.one (.int .i64 a5)]=>.det (p85 a0 a1 a2 a3 a4 a5=true) [.one (.int .i64 (s85 a0 a1 a2 a3 a4 a5))]
  | _=>.no
theorem zKc:zah Try.prog 85:=⟨_,rfl,rfl,by kernel_rfl⟩
theorem zOi:Ok Try.prog 85 zBX:=zaN zMR zKc fun args K h=>by
  unfold zBX at h
  split at h
  · rename_i a0 a1 a2 a3 a4 a5
    obtain ⟨hs,hk⟩:=h
    exact ⟨(fun _ _=>[]),(fun _=>false),zKb,q85 a0 a1 a2 a3 a4 a5 K hs hk⟩
  · exact h.elim
abbrev T92:Tabs:=((Tabs.nil.addF 64 zqr).addF 74 zmQ)
theorem zMS:TabsOk Try.prog T92:=((TabsOk.nil.addF zJx).addF zEl)
abbrev G92:Ctrs:=csm T92 (fun _ _=>[]) (fun _=>false)
def zF9:Ann:=⟨41,[(0,zK [0] []),(1,zK [0,5,6,7] []),(2,zK [0,5,6,7,8] []),(3,zK [0,3,4,5,6,7] [4]),(4,zK [0,5,6,7,32] []),(5,zK [2] []),(6,zK [0,5,6,7] []),(7,zK [2] [])],
 [(2,zK [0,5,6,7] [])],
 [],
 [],[]⟩
abbrev R92:=Bool
abbrev e92 (r:R92):List PA:=[.one (.bool r)]
@[irreducible] def z92:=ptF Try.prog G92 zF9 Try.f92
def zDt (zaa:(Sl Gate)) (za9:Int):St:=⟨[(0,zS enc_55 3 zaa),(5,zS enc_55 3 zaa),(6,zI (zaa.len:Int)),(7,zI za9)],[],[]⟩
abbrev zKd (K:List PA→Prop) (zaa:(Sl Gate)) (X:St→Prop) (P:Int→Bool) (S:Int→Bool):Prop:=∀ ⦃za9:Int⦄,P za9=true→K (e92 (S za9))→X (zDt zaa za9)
section
variable {K:List PA→Prop} {zaa:(Sl Gate)} {za9:Int} {X0:St→Prop} {P0:Int→Bool} {S0:Int→Bool}
def zyf (zaa:(Sl Gate)) (S0:Int→Bool) (za9:Int):Bool :=
  (cond (decide (za9 < (zaa.len : Int)))
 (cond (decide ((w64 ((zaa.get za9.toNat).High - (zaa.get za9.toNat).Low)) > (60:Int)))
 false
 (cond (decide (za9 > (0:Int)))
 (cond (decide ((zaa.get za9.toNat).Z ≤ (zaa.get ((w64 (za9 - (1:Int))).toNat)).Z))
 false
 (S0 (w64 (za9+(1:Int)))))
 (S0 (w64 (za9+(1:Int))))))
 (cond (s74 (zaa.len : Int) (2:Int) (8:Int))
 (s64 zaa)
 false))
def zyg (zaa:(Sl Gate)) (P0:Int→Bool) (za9:Int):Bool :=
  (cond (decide (za9 < (zaa.len : Int)))
 (decide ((0≤za9∧za9 < (zaa.len:Int))) &&
 (cond (decide ((w64 ((zaa.get za9.toNat).High - (zaa.get za9.toNat).Low)) > (60:Int)))
 true
 (cond (decide (za9 > (0:Int)))
 (decide ((0≤(w64 (za9 - (1:Int)))∧(w64 (za9 - (1:Int))) < (zaa.len:Int))) &&
 (cond (decide ((zaa.get za9.toNat).Z ≤ (zaa.get ((w64 (za9 - (1:Int))).toNat)).Z))
 true
 (P0 (w64 (za9+(1:Int))))))
 (P0 (w64 (za9+(1:Int)))))))
 (cond (s74 (zaa.len : Int) (2:Int) (8:Int))
 (decide ((p64 zaa=true)) &&
 true)
 true))
def zyh (zaa:(Sl Gate)):Nat→Int→Bool:=lpO (fun _=>default) (zyf zaa)
def zyi (zaa:(Sl Gate)):Nat→Int→Bool:=lpO (fun _=>false) (zyg zaa)
def zyj (zaa:(Sl Gate)) (za9:Int):Bool:=zyh zaa Fuel za9
def zyk (zaa:(Sl Gate)) (za9:Int):Bool:=zyi zaa Fuel za9
theorem zGa (hs:zyk zaa za9=true) (hk:K (e92 (zyj zaa za9))):z92 K [1,0,1,0] [] (zDt zaa za9) :=
  zl (fun X=>z92 K [1,0,1,0,0] [X]) (by kernel_rfl) fun X0 hX =>
  (show ∀ k, zKd K zaa X0 (zyi zaa k) (zyh zaa k) from zgj _ _ (zyg zaa) (zyf zaa) (zKd K zaa X0)
 (by intro _ hs;exact absurd hs Bool.false_ne_true)
 (by intro P0 S0 hX0 za9 hs hk;exact hX _ (zaK (by kernel_rfl) (zc hs hk (fun hs hk=>(zaD hs fun hc hs=>And.intro hc (zc hs hk (fun hs hk=>hk) (fun hs hk=>(zc hs hk (fun hs hk=>(zaD hs fun hc hs=>And.intro hc (zc hs hk (fun hs hk=>hk) (fun hs hk=>(hX0 hs hk))))) (fun hs hk=>(hX0 hs hk))))))) (fun hs hk=>(zc hs hk (fun hs hk=>(zaD hs fun hc hs=>And.intro (And.intro (zE enc_55 3 zaa.get) hc) hk)) (fun hs hk=>hk))))))) _ hs hk
def s92 (zaa:(Sl Gate)):Bool :=
  (zyj zaa (0:Int))
def p92 (zaa:(Sl Gate)):Bool :=
  (zyk zaa (0:Int))
end
theorem q92 (zaa:(Sl Gate)) (K:List PA→Prop) (hs:p92 zaa=true) (hk:K (e92 (s92 zaa))):vcFun Try.prog G92 zF9 92 [.one (.sl zaa.len 3 (fun i=>enc_55 (zaa.get i)))] K :=
  zaK (by kernel_rfl) (zGa hs hk)
def zGb : List PA → COut
  | [.one (.sl a0_n a0_s a0_g)]=>.det (IsE enc_55 3 a0_s a0_g∧p92 (⟨a0_n,zae a0_g⟩:(Sl Gate))=true) [.one (.bool (s92 (⟨a0_n,zae a0_g⟩:(Sl Gate))))]
  | _=>.no
theorem zKe:zah Try.prog 92:=⟨_,rfl,rfl,by kernel_rfl⟩
theorem zPN:Ok Try.prog 92 zGb:=zaN zMS zKe fun args K h=>by
  unfold zGb at h
  split at h
  · rename_i a0_n a0_s a0_g
    obtain ⟨⟨⟨rfl,a0_f,rfl⟩,hs⟩,hk⟩:=h
    try rw [zac a0_f] at hs
    try rw [zac a0_f] at hk
    exact ⟨(fun _ _=>[]),(fun _=>false),zF9,q92 (⟨a0_n,a0_f⟩:(Sl Gate)) K hs hk⟩
  · exact h.elim
abbrev T93:Tabs:=(Tabs.nil.addF 85 zBX)
theorem zMT:TabsOk Try.prog T93:=(TabsOk.nil.addF zOi)
abbrev G93:Ctrs:=csm T93 (fun _ _=>[]) (fun l=>Nat.beq l 15 || Nat.beq l 24)
def zGc:Ann:=⟨131,[(0,zK [0] []),(1,zK [0,3] []),(2,zK [0,3,4] [15]),(3,zK [0,3,4,5] [15]),(4,zK [0,3,4,5,19] [15]),(5,zK [0,3,4,5] [15]),(6,zK [0,3,4,5] [15]),(7,zK [0,3,4,5,6] [15]),(8,zK [0,3,4,5,6,37] [15]),(9,zK [0,3,4,5,6] [15]),(10,zK [0,3,4,5,6,7] [15]),(11,zK [0,3,4,5,6,7,53] [15]),(12,zK [0,3,4,5,6,7] [15]),(13,zK [0,3,4,5,6,7,59] [15]),(14,zK [0,3,4,5,6,7] [15]),(15,zK [0,3,4,5,6,7,8] [15]),(16,zK [0,3,4,5,6,7,8,9] [15]),(17,zK [0,3,4,5,6,7,8,9,80] [15]),(18,zK [0,3,4,5,6,7,8,9] [15]),(19,zK [0,3,4,5,6,7,8,9,10] [15]),(20,zK [0,3,4,5,6,7,8,9,10,120] [15]),(21,zK [0,3,4,5,6,7,8,9] [15]),(22,zK [0,3,4,5,6,7] [15]),(23,zK [2] [15])],
 [(4,zK [0,3,4,5] [15]),(8,zK [0,3,4,5,6] [15]),(11,zK [0,3,4,5,6,7] [15]),(17,zK [0,3,4,5,6,7,8,9] [15])],
 [(15,zK [0,3,4,5,6,7] [15]),(20,zK [0,3,4,5,6,7,8,9,10] [15])],
 [],[]⟩
abbrev R93:=(Sl Mp)
abbrev e93 (r:R93):List PA:=[.one (.sl r.len 1 (fun i=>zcR (r.get i)))]
@[irreducible] def z93:=ptF Try.prog G93 zGc Try.f93
def zDu (zaa:(Sl Gate)) (iv0:Int) (zbR:Nat) (zbJ:(Nat→Bool)) (zbK:(Nat→Nat)) (zb9:(Nat→List Int→Option (List Int))):St:=⟨[(0,zS enc_55 3 zaa),(3,zI (zaa.len:Int)),(4,zv 15),(5,zI iv0)],[(15,.vm 129 8 131 3 (true,2,false,[some .i64]) zbR zbJ zbK zb9)],[]⟩
abbrev zq9 (K:List PA→Prop) (zaa:(Sl Gate)) (X:St→Prop) (P:Int→Nat→(Nat→Bool)→(Nat→Nat)→(Nat→List Int→Option (List Int))→Bool) (S:Int→Nat→(Nat→Bool)→(Nat→Nat)→(Nat→List Int→Option (List Int))→(Sl Mp)):Prop:=∀ ⦃iv0:Int⦄ ⦃zbR:Nat⦄ ⦃zbJ:(Nat→Bool)⦄ ⦃zbK:(Nat→Nat)⦄ ⦃zb9:(Nat→List Int→Option (List Int))⦄,P iv0 zbR zbJ zbK zb9=true→K (e93 (S iv0 zbR zbJ zbK zb9))→X (zDu zaa iv0 zbR zbJ zbK zb9)
def zDv (zaa:(Sl Gate)) (iv1:Int) (pv1:Int) (zbZ:Nat) (zbA:(Nat→Bool)) (zbB:(Nat→Nat)) (zb0:(Nat→List Int→Option (List Int))):St:=⟨[(0,zS enc_55 3 zaa),(3,zI (zaa.len:Int)),(4,zv 15),(5,zI iv1),(6,zI pv1)],[(15,.vm 129 8 131 3 (true,2,false,[some .i64]) zbZ zbA zbB zb0)],[]⟩
abbrev zuz (K:List PA→Prop) (zaa:(Sl Gate)) (X:St→Prop) (P:Int→Int→Nat→(Nat→Bool)→(Nat→Nat)→(Nat→List Int→Option (List Int))→Bool) (S:Int→Int→Nat→(Nat→Bool)→(Nat→Nat)→(Nat→List Int→Option (List Int))→(Sl Mp)):Prop:=∀ ⦃iv1:Int⦄ ⦃pv1:Int⦄ ⦃zbZ:Nat⦄ ⦃zbA:(Nat→Bool)⦄ ⦃zbB:(Nat→Nat)⦄ ⦃zb0:(Nat→List Int→Option (List Int))⦄,P iv1 pv1 zbZ zbA zbB zb0=true→K (e93 (S iv1 pv1 zbZ zbA zbB zb0))→X (zDv zaa iv1 pv1 zbZ zbA zbB zb0)
def zDw (zaa:(Sl Gate)) (iv2:Int) (pv2:Int) (qv2:Int) (zbE:Nat) (zbh:(Nat→Bool)) (zba:(Nat→Nat)) (zbu:(Nat→List Int→Option (List Int))):St:=⟨[(0,zS enc_55 3 zaa),(3,zI (zaa.len:Int)),(4,zv 15),(5,zI iv2),(6,zI pv2),(7,zI qv2)],[(15,.vm 129 8 131 3 (true,2,false,[some .i64]) zbE zbh zba zbu)],[]⟩
abbrev zyl (K:List PA→Prop) (zaa:(Sl Gate)) (X:St→Prop) (P:Int→Int→Int→Nat→(Nat→Bool)→(Nat→Nat)→(Nat→List Int→Option (List Int))→Bool) (S:Int→Int→Int→Nat→(Nat→Bool)→(Nat→Nat)→(Nat→List Int→Option (List Int))→(Sl Mp)):Prop:=∀ ⦃iv2:Int⦄ ⦃pv2:Int⦄ ⦃qv2:Int⦄ ⦃zbE:Nat⦄ ⦃zbh:(Nat→Bool)⦄ ⦃zba:(Nat→Nat)⦄ ⦃zbu:(Nat→List Int→Option (List Int))⦄,P iv2 pv2 qv2 zbE zbh zba zbu=true→K (e93 (S iv2 pv2 qv2 zbE zbh zba zbu))→X (zDw zaa iv2 pv2 qv2 zbE zbh zba zbu)
def zDx (zaa:(Sl Gate)) (qv3:Int) (iv4:Int) (pv4:Int) (zcJ:Int) (rv4:Int) (zbv:Nat) (zbl:(Nat→Bool)) (zbm:(Nat→Nat)) (zbk:(Nat→List Int→Option (List Int))):St:=⟨[(0,zS enc_55 3 zaa),(3,zI (zaa.len:Int)),(4,zv 15),(5,zI iv4),(6,zI pv4),(7,zI qv3),(8,zI zcJ),(9,zI rv4)],[(15,.vm 129 8 131 3 (true,2,false,[some .i64]) zbv zbl zbm zbk)],[]⟩
abbrev zGd (K:List PA→Prop) (zaa:(Sl Gate)) (qv3:Int) (X:St→Prop) (P:Int→Int→Int→Int→Nat→(Nat→Bool)→(Nat→Nat)→(Nat→List Int→Option (List Int))→Bool) (S:Int→Int→Int→Int→Nat→(Nat→Bool)→(Nat→Nat)→(Nat→List Int→Option (List Int))→(Sl Mp)):Prop:=∀ ⦃iv4:Int⦄ ⦃pv4:Int⦄ ⦃zcJ:Int⦄ ⦃rv4:Int⦄ ⦃zbv:Nat⦄ ⦃zbl:(Nat→Bool)⦄ ⦃zbm:(Nat→Nat)⦄ ⦃zbk:(Nat→List Int→Option (List Int))⦄,P iv4 pv4 zcJ rv4 zbv zbl zbm zbk=true→K (e93 (S iv4 pv4 zcJ rv4 zbv zbl zbm zbk))→X (zDx zaa qv3 iv4 pv4 zcJ rv4 zbv zbl zbm zbk)
section
variable {K:List PA→Prop} {zaa:(Sl Gate)} {iv0:Int} {zbR:Nat} {zbJ:(Nat→Bool)} {zbK:(Nat→Nat)} {zb9:(Nat→List Int→Option (List Int))} {X0:St→Prop} {P0:Int→Nat→(Nat→Bool)→(Nat→Nat)→(Nat→List Int→Option (List Int))→Bool} {S0:Int→Nat→(Nat→Bool)→(Nat→Nat)→(Nat→List Int→Option (List Int))→(Sl Mp)} {iv1:Int} {pv1:Int} {zbZ:Nat} {zbA:(Nat→Bool)} {zbB:(Nat→Nat)} {zb0:(Nat→List Int→Option (List Int))} {X1:St→Prop} {P1:Int→Int→Nat→(Nat→Bool)→(Nat→Nat)→(Nat→List Int→Option (List Int))→Bool} {S1:Int→Int→Nat→(Nat→Bool)→(Nat→Nat)→(Nat→List Int→Option (List Int))→(Sl Mp)} {iv2:Int} {pv2:Int} {qv2:Int} {zbE:Nat} {zbh:(Nat→Bool)} {zba:(Nat→Nat)} {zbu:(Nat→List Int→Option (List Int))} {X2:St→Prop} {P2:Int→Int→Int→Nat→(Nat→Bool)→(Nat→Nat)→(Nat→List Int→Option (List Int))→Bool} {S2:Int→Int→Int→Nat→(Nat→Bool)→(Nat→Nat)→(Nat→List Int→Option (List Int))→(Sl Mp)} {iv3:Int} {pv3:Int} {qv3:Int} {zgu:Nat} {zeT:(Nat→Bool)} {zeU:(Nat→Nat)} {zgv:(Nat→List Int→Option (List Int))} {iv4:Int} {pv4:Int} {zcJ:Int} {rv4:Int} {zbv:Nat} {zbl:(Nat→Bool)} {zbm:(Nat→Nat)} {zbk:(Nat→List Int→Option (List Int))} {X4:St→Prop} {P4:Int→Int→Int→Int→Nat→(Nat→Bool)→(Nat→Nat)→(Nat→List Int→Option (List Int))→Bool} {S4:Int→Int→Int→Int→Nat→(Nat→Bool)→(Nat→Nat)→(Nat→List Int→Option (List Int))→(Sl Mp)} {iv5:Int} {pv5:Int} {zfw:Int} {rv5:Int} {kv5:Int} {zdU:Nat} {zcV:(Nat→Bool)} {zcW:(Nat→Nat)} {zdV:(Nat→List Int→Option (List Int))}
def zym (S0:Int→Nat→(Nat→Bool)→(Nat→Nat)→(Nat→List Int→Option (List Int))→(Sl Mp)) (S1:Int→Int→Nat→(Nat→Bool)→(Nat→Nat)→(Nat→List Int→Option (List Int))→(Sl Mp)) (S2:Int→Int→Int→Nat→(Nat→Bool)→(Nat→Nat)→(Nat→List Int→Option (List Int))→(Sl Mp)) (S4:Int→Int→Int→Int→Nat→(Nat→Bool)→(Nat→Nat)→(Nat→List Int→Option (List Int))→(Sl Mp)) (zaa:(Sl Gate)) (qv3:Int) (iv5:Int) (pv5:Int) (zfw:Int) (rv5:Int) (kv5:Int) (zdU:Nat) (zcV:(Nat→Bool)) (zcW:(Nat→Nat)) (zdV:(Nat→List Int→Option (List Int))):(Sl Mp) :=
  (cond (decide (zfw < (0:Int)))
 (S4 iv5 pv5 kv5 (w64 (rv5+(1:Int))) zdU zcV zcW zdV)
 (cond (decide (kv5 < zfw))
 (S4 iv5 pv5 kv5 (w64 (rv5+(1:Int))) zdU zcV zcW zdV)
 (S4 iv5 pv5 zfw (w64 (rv5+(1:Int))) zdU zcV zcW zdV)))
def zyn (P0:Int→Nat→(Nat→Bool)→(Nat→Nat)→(Nat→List Int→Option (List Int))→Bool) (P1:Int→Int→Nat→(Nat→Bool)→(Nat→Nat)→(Nat→List Int→Option (List Int))→Bool) (P2:Int→Int→Int→Nat→(Nat→Bool)→(Nat→Nat)→(Nat→List Int→Option (List Int))→Bool) (P4:Int→Int→Int→Int→Nat→(Nat→Bool)→(Nat→Nat)→(Nat→List Int→Option (List Int))→Bool) (zaa:(Sl Gate)) (qv3:Int) (iv5:Int) (pv5:Int) (zfw:Int) (rv5:Int) (kv5:Int) (zdU:Nat) (zcV:(Nat→Bool)) (zcW:(Nat→Nat)) (zdV:(Nat→List Int→Option (List Int))):Bool :=
  (cond (decide (zfw < (0:Int)))
 (P4 iv5 pv5 kv5 (w64 (rv5+(1:Int))) zdU zcV zcW zdV)
 (cond (decide (kv5 < zfw))
 (P4 iv5 pv5 kv5 (w64 (rv5+(1:Int))) zdU zcV zcW zdV)
 (P4 iv5 pv5 zfw (w64 (rv5+(1:Int))) zdU zcV zcW zdV)))
theorem zGe (hX0:zq9 K zaa X0 P0 S0) (hX1:zuz K zaa X1 P1 S1) (hX2:zyl K zaa X2 P2 S2) (hX4:zGd K zaa qv3 X4 P4 S4) (hs:zyn P0 P1 P2 P4 zaa qv3 iv5 pv5 zfw rv5 kv5 zdU zcV zcW zdV=true) (hk:K (e93 (zym S0 S1 S2 S4 zaa qv3 iv5 pv5 zfw rv5 kv5 zdU zcV zcW zdV))):z93 K [1,1,1,0,1,0,0,1,0,0,1,1,0,0,1,0,0,1,0,0,1,0,0,1,1,0,1,0,0,1,0,0,1] [X0,X1,X2,X4] ⟨[(0,zS enc_55 3 zaa),(3,zI (zaa.len:Int)),(4,zv 15),(5,zI iv5),(6,zI pv5),(7,zI qv3),(8,zI zfw),(9,zI rv5),(10,zI kv5)],[(15,.vm 129 8 131 3 (true,2,false,[some .i64]) zdU zcV zcW zdV)],[]⟩:=zaK (by kernel_rfl) (zc hs hk (fun hs hk=>(hX4 hs hk)) (fun hs hk=>(zc hs hk (fun hs hk=>(hX4 hs hk)) (fun hs hk=>(hX4 hs hk)))))
def zyo (S0:Int→Nat→(Nat→Bool)→(Nat→Nat)→(Nat→List Int→Option (List Int))→(Sl Mp)) (S1:Int→Int→Nat→(Nat→Bool)→(Nat→Nat)→(Nat→List Int→Option (List Int))→(Sl Mp)) (S2:Int→Int→Int→Nat→(Nat→Bool)→(Nat→Nat)→(Nat→List Int→Option (List Int))→(Sl Mp)) (zaa:(Sl Gate)) (qv3:Int) (S4:Int→Int→Int→Int→Nat→(Nat→Bool)→(Nat→Nat)→(Nat→List Int→Option (List Int))→(Sl Mp)) (iv4:Int) (pv4:Int) (zcJ:Int) (rv4:Int) (zbv:Nat) (zbl:(Nat→Bool)) (zbm:(Nat→Nat)) (zbk:(Nat→List Int→Option (List Int))):(Sl Mp) :=
  (cond (decide (rv4 ≤ (zaa.get ((w64 (iv4 + (2:Int))).toNat)).High))
 (zym S0 S1 S2 S4 zaa qv3 iv4 pv4 zcJ rv4 (if (zd3 ((zbk ((w64 (iv4+(1:Int))).toNat)) [qv3,rv4]) 0) > (s85 ((zaa.get iv4.toNat).Z) ((zaa.get ((w64 (iv4+(1:Int))).toNat)).Z) ((zaa.get ((w64 (iv4+(2:Int))).toNat)).Z) pv4 qv3 rv4) then (zd3 ((zbk ((w64 (iv4+(1:Int))).toNat)) [qv3,rv4]) 0) else (s85 ((zaa.get iv4.toNat).Z) ((zaa.get ((w64 (iv4+(1:Int))).toNat)).Z) ((zaa.get ((w64 (iv4+(2:Int))).toNat)).Z) pv4 qv3 rv4)) zbv zbl zbm zbk)
 (S2 iv4 pv4 (w64 (qv3+(1:Int))) zbv zbl (zc3 iv4.toNat (addN ((zbk iv4.toNat) [pv4,qv3]) (zbm iv4.toNat)) zbm) (zc3 iv4.toNat (zlF [pv4,qv3] [zcJ] (zbk iv4.toNat)) zbk)))
def zyp (P0:Int→Nat→(Nat→Bool)→(Nat→Nat)→(Nat→List Int→Option (List Int))→Bool) (P1:Int→Int→Nat→(Nat→Bool)→(Nat→Nat)→(Nat→List Int→Option (List Int))→Bool) (P2:Int→Int→Int→Nat→(Nat→Bool)→(Nat→Nat)→(Nat→List Int→Option (List Int))→Bool) (zaa:(Sl Gate)) (qv3:Int) (P4:Int→Int→Int→Int→Nat→(Nat→Bool)→(Nat→Nat)→(Nat→List Int→Option (List Int))→Bool) (iv4:Int) (pv4:Int) (zcJ:Int) (rv4:Int) (zbv:Nat) (zbl:(Nat→Bool)) (zbm:(Nat→Nat)) (zbk:(Nat→List Int→Option (List Int))):Bool :=
  (decide ((0≤(w64 (iv4+(2:Int)))∧(w64 (iv4+(2:Int))) < (zaa.len:Int))) &&
 (cond (decide (rv4 ≤ (zaa.get ((w64 (iv4 + (2:Int))).toNat)).High))
 (decide ((0≤iv4∧iv4 < (zaa.len:Int))) &&
 (decide ((0≤(w64 (iv4+(1:Int)))∧(w64 (iv4+(1:Int))) < (zaa.len:Int))) &&
 (decide ((0≤(w64 (iv4+(2:Int)))∧(w64 (iv4+(2:Int))) < (zaa.len:Int))) &&
 (decide ((p85 ((zaa.get iv4.toNat).Z) ((zaa.get ((w64 (iv4+(1:Int))).toNat)).Z) ((zaa.get ((w64 (iv4+(2:Int))).toNat)).Z) pv4 qv3 rv4=true)) &&
 (decide ((0≤(w64 (iv4+(1:Int)))∧(w64 (iv4+(1:Int))) < (zbv:Int))) &&
 (decide (((w64 (iv4+(1:Int))).toNat < zbv∧zbl ((w64 (iv4+(1:Int))).toNat)=true)) &&
 (decide (((w64 (iv4+(1:Int))).toNat < zbv)) &&
 (zyn P0 P1 P2 P4 zaa qv3 iv4 pv4 zcJ rv4 (if (zd3 ((zbk ((w64 (iv4+(1:Int))).toNat)) [qv3,rv4]) 0) > (s85 ((zaa.get iv4.toNat).Z) ((zaa.get ((w64 (iv4+(1:Int))).toNat)).Z) ((zaa.get ((w64 (iv4+(2:Int))).toNat)).Z) pv4 qv3 rv4) then (zd3 ((zbk ((w64 (iv4+(1:Int))).toNat)) [qv3,rv4]) 0) else (s85 ((zaa.get iv4.toNat).Z) ((zaa.get ((w64 (iv4+(1:Int))).toNat)).Z) ((zaa.get ((w64 (iv4+(2:Int))).toNat)).Z) pv4 qv3 rv4)) zbv zbl zbm zbk))))))))
 (decide ((0≤iv4∧iv4 < (zbv:Int))) &&
 (decide ((iv4.toNat < zbv∧zbl iv4.toNat=true)) &&
 (decide ((iv4.toNat < zbv)) &&
 (P2 iv4 pv4 (w64 (qv3+(1:Int))) zbv zbl (zc3 iv4.toNat (addN ((zbk iv4.toNat) [pv4,qv3]) (zbm iv4.toNat)) zbm) (zc3 iv4.toNat (zlF [pv4,qv3] [zcJ] (zbk iv4.toNat)) zbk)))))))
def zyq (S0:Int→Nat→(Nat→Bool)→(Nat→Nat)→(Nat→List Int→Option (List Int))→(Sl Mp)) (S1:Int→Int→Nat→(Nat→Bool)→(Nat→Nat)→(Nat→List Int→Option (List Int))→(Sl Mp)) (S2:Int→Int→Int→Nat→(Nat→Bool)→(Nat→Nat)→(Nat→List Int→Option (List Int))→(Sl Mp)) (zaa:(Sl Gate)) (qv3:Int):Nat→Int→Int→Int→Int→Nat→(Nat→Bool)→(Nat→Nat)→(Nat→List Int→Option (List Int))→(Sl Mp):=lpO (fun _ _ _ _ _ _ _ _=>default) (zyo S0 S1 S2 zaa qv3)
def zyr (P0:Int→Nat→(Nat→Bool)→(Nat→Nat)→(Nat→List Int→Option (List Int))→Bool) (P1:Int→Int→Nat→(Nat→Bool)→(Nat→Nat)→(Nat→List Int→Option (List Int))→Bool) (P2:Int→Int→Int→Nat→(Nat→Bool)→(Nat→Nat)→(Nat→List Int→Option (List Int))→Bool) (zaa:(Sl Gate)) (qv3:Int):Nat→Int→Int→Int→Int→Nat→(Nat→Bool)→(Nat→Nat)→(Nat→List Int→Option (List Int))→Bool:=lpO (fun _ _ _ _ _ _ _ _=>false) (zyp P0 P1 P2 zaa qv3)
def zys (S0:Int→Nat→(Nat→Bool)→(Nat→Nat)→(Nat→List Int→Option (List Int))→(Sl Mp)) (S1:Int→Int→Nat→(Nat→Bool)→(Nat→Nat)→(Nat→List Int→Option (List Int))→(Sl Mp)) (S2:Int→Int→Int→Nat→(Nat→Bool)→(Nat→Nat)→(Nat→List Int→Option (List Int))→(Sl Mp)) (zaa:(Sl Gate)) (qv3:Int) (iv4:Int) (pv4:Int) (zcJ:Int) (rv4:Int) (zbv:Nat) (zbl:(Nat→Bool)) (zbm:(Nat→Nat)) (zbk:(Nat→List Int→Option (List Int))):(Sl Mp):=zyq S0 S1 S2 zaa qv3 Fuel iv4 pv4 zcJ rv4 zbv zbl zbm zbk
def zyt (P0:Int→Nat→(Nat→Bool)→(Nat→Nat)→(Nat→List Int→Option (List Int))→Bool) (P1:Int→Int→Nat→(Nat→Bool)→(Nat→Nat)→(Nat→List Int→Option (List Int))→Bool) (P2:Int→Int→Int→Nat→(Nat→Bool)→(Nat→Nat)→(Nat→List Int→Option (List Int))→Bool) (zaa:(Sl Gate)) (qv3:Int) (iv4:Int) (pv4:Int) (zcJ:Int) (rv4:Int) (zbv:Nat) (zbl:(Nat→Bool)) (zbm:(Nat→Nat)) (zbk:(Nat→List Int→Option (List Int))):Bool:=zyr P0 P1 P2 zaa qv3 Fuel iv4 pv4 zcJ rv4 zbv zbl zbm zbk
theorem zGf (hX0:zq9 K zaa X0 P0 S0) (hX1:zuz K zaa X1 P1 S1) (hX2:zyl K zaa X2 P2 S2) (hs:zyt P0 P1 P2 zaa qv3 iv4 pv4 zcJ rv4 zbv zbl zbm zbk=true) (hk:K (e93 (zys S0 S1 S2 zaa qv3 iv4 pv4 zcJ rv4 zbv zbl zbm zbk))):z93 K [1,1,1,0,1,0,0,1,0,0,1,1,0,0,1,0,0,1,0,0,1,0,0,1,1,0,1,0] [X0,X1,X2] (zDx zaa qv3 iv4 pv4 zcJ rv4 zbv zbl zbm zbk) :=
  zl (fun X=>z93 K [1,1,1,0,1,0,0,1,0,0,1,1,0,0,1,0,0,1,0,0,1,0,0,1,1,0,1,0,0] [X0,X1,X2,X]) (by kernel_rfl) fun X4 hX =>
  (show ∀ k, zGd K zaa qv3 X4 (zyr P0 P1 P2 zaa qv3 k) (zyq S0 S1 S2 zaa qv3 k) from zgj _ _ (zyp P0 P1 P2 zaa qv3) (zyo S0 S1 S2 zaa qv3) (zGd K zaa qv3 X4)
 (by intro _ _ _ _ _ _ _ _ hs;exact absurd hs Bool.false_ne_true)
 (by intro P4 S4 hX4 iv4 pv4 zcJ rv4 zbv zbl zbm zbk hs hk;exact hX _ (zaK (by kernel_rfl) (zaD hs fun hc hs=>And.intro hc (zc hs hk (fun hs hk=>(zaD hs fun hc hs=>And.intro hc (zaD hs fun hc hs=>And.intro hc (zaD hs fun hc hs=>And.intro hc (zaD hs fun hc hs=>And.intro hc (zaD hs fun hc hs=>And.intro hc (zaD hs fun hc hs=>And.intro hc (zaD hs fun hc hs=>And.intro hc (zGe hX0 hX1 hX2 hX4 hs hk))))))))) (fun hs hk=>(zaD hs fun hc hs=>And.intro hc (zaD hs fun hc hs=>And.intro hc (zaD hs fun hc hs=>And.intro hc (hX2 hs hk)))))))))) _ hs hk
def zyu (S0:Int→Nat→(Nat→Bool)→(Nat→Nat)→(Nat→List Int→Option (List Int))→(Sl Mp)) (S1:Int→Int→Nat→(Nat→Bool)→(Nat→Nat)→(Nat→List Int→Option (List Int))→(Sl Mp)) (S2:Int→Int→Int→Nat→(Nat→Bool)→(Nat→Nat)→(Nat→List Int→Option (List Int))→(Sl Mp)) (zaa:(Sl Gate)) (iv3:Int) (pv3:Int) (qv3:Int) (zgu:Nat) (zeT:(Nat→Bool)) (zeU:(Nat→Nat)) (zgv:(Nat→List Int→Option (List Int))):(Sl Mp) :=
  (zys S0 S1 S2 zaa qv3 iv3 pv3 (-1:Int) ((zaa.get ((w64 (iv3+(2:Int))).toNat)).Low) zgu zeT zeU zgv)
def zyv (P0:Int→Nat→(Nat→Bool)→(Nat→Nat)→(Nat→List Int→Option (List Int))→Bool) (P1:Int→Int→Nat→(Nat→Bool)→(Nat→Nat)→(Nat→List Int→Option (List Int))→Bool) (P2:Int→Int→Int→Nat→(Nat→Bool)→(Nat→Nat)→(Nat→List Int→Option (List Int))→Bool) (zaa:(Sl Gate)) (iv3:Int) (pv3:Int) (qv3:Int) (zgu:Nat) (zeT:(Nat→Bool)) (zeU:(Nat→Nat)) (zgv:(Nat→List Int→Option (List Int))):Bool :=
  (decide ((0≤(w64 (iv3+(2:Int)))∧(w64 (iv3+(2:Int))) < (zaa.len:Int))) &&
 (zyt P0 P1 P2 zaa qv3 iv3 pv3 (-1:Int) ((zaa.get ((w64 (iv3+(2:Int))).toNat)).Low) zgu zeT zeU zgv))
theorem zGg (hX0:zq9 K zaa X0 P0 S0) (hX1:zuz K zaa X1 P1 S1) (hX2:zyl K zaa X2 P2 S2) (hs:zyv P0 P1 P2 zaa iv3 pv3 qv3 zgu zeT zeU zgv=true) (hk:K (e93 (zyu S0 S1 S2 zaa iv3 pv3 qv3 zgu zeT zeU zgv))):z93 K [1,1,1,0,1,0,0,1,0,0,1,1,0,0,1,0,0,1,0,0,1,0,0,1] [X0,X1,X2] ⟨[(0,zS enc_55 3 zaa),(3,zI (zaa.len:Int)),(4,zv 15),(5,zI iv3),(6,zI pv3),(7,zI qv3)],[(15,.vm 129 8 131 3 (true,2,false,[some .i64]) zgu zeT zeU zgv)],[]⟩:=zaK (by kernel_rfl) (zaD hs fun hc hs=>And.intro hc (zGf hX0 hX1 hX2 hs hk))
def zyw (S0:Int→Nat→(Nat→Bool)→(Nat→Nat)→(Nat→List Int→Option (List Int))→(Sl Mp)) (S1:Int→Int→Nat→(Nat→Bool)→(Nat→Nat)→(Nat→List Int→Option (List Int))→(Sl Mp)) (zaa:(Sl Gate)) (S2:Int→Int→Int→Nat→(Nat→Bool)→(Nat→Nat)→(Nat→List Int→Option (List Int))→(Sl Mp)) (iv2:Int) (pv2:Int) (qv2:Int) (zbE:Nat) (zbh:(Nat→Bool)) (zba:(Nat→Nat)) (zbu:(Nat→List Int→Option (List Int))):(Sl Mp) :=
  (cond (decide (qv2 ≤ (zaa.get ((w64 (iv2 + (1:Int))).toNat)).High))
 (cond (iv2 == (w64 ((zaa.len : Int) - (2:Int))))
 (S2 iv2 pv2 (w64 (qv2+(1:Int))) zbE zbh (zc3 iv2.toNat (addN ((zbu iv2.toNat) [pv2,qv2]) (zba iv2.toNat)) zba) (zc3 iv2.toNat (zlF [pv2,qv2] [(0:Int)] (zbu iv2.toNat)) zbu))
 (zyu S0 S1 S2 zaa iv2 pv2 qv2 zbE zbh zba zbu))
 (S1 iv2 (w64 (pv2+(1:Int))) zbE zbh zba zbu))
def zyx (P0:Int→Nat→(Nat→Bool)→(Nat→Nat)→(Nat→List Int→Option (List Int))→Bool) (P1:Int→Int→Nat→(Nat→Bool)→(Nat→Nat)→(Nat→List Int→Option (List Int))→Bool) (zaa:(Sl Gate)) (P2:Int→Int→Int→Nat→(Nat→Bool)→(Nat→Nat)→(Nat→List Int→Option (List Int))→Bool) (iv2:Int) (pv2:Int) (qv2:Int) (zbE:Nat) (zbh:(Nat→Bool)) (zba:(Nat→Nat)) (zbu:(Nat→List Int→Option (List Int))):Bool :=
  (decide ((0≤(w64 (iv2+(1:Int)))∧(w64 (iv2+(1:Int))) < (zaa.len:Int))) &&
 (cond (decide (qv2 ≤ (zaa.get ((w64 (iv2 + (1:Int))).toNat)).High))
 (cond (iv2 == (w64 ((zaa.len : Int) - (2:Int))))
 (decide ((0≤iv2∧iv2 < (zbE:Int))) &&
 (decide ((iv2.toNat < zbE∧zbh iv2.toNat=true)) &&
 (decide ((iv2.toNat < zbE)) &&
 (P2 iv2 pv2 (w64 (qv2+(1:Int))) zbE zbh (zc3 iv2.toNat (addN ((zbu iv2.toNat) [pv2,qv2]) (zba iv2.toNat)) zba) (zc3 iv2.toNat (zlF [pv2,qv2] [(0:Int)] (zbu iv2.toNat)) zbu)))))
 (zyv P0 P1 P2 zaa iv2 pv2 qv2 zbE zbh zba zbu))
 (P1 iv2 (w64 (pv2+(1:Int))) zbE zbh zba zbu)))
def zyy (S0:Int→Nat→(Nat→Bool)→(Nat→Nat)→(Nat→List Int→Option (List Int))→(Sl Mp)) (S1:Int→Int→Nat→(Nat→Bool)→(Nat→Nat)→(Nat→List Int→Option (List Int))→(Sl Mp)) (zaa:(Sl Gate)):Nat→Int→Int→Int→Nat→(Nat→Bool)→(Nat→Nat)→(Nat→List Int→Option (List Int))→(Sl Mp):=lpO (fun _ _ _ _ _ _ _=>default) (zyw S0 S1 zaa)
def zyz (P0:Int→Nat→(Nat→Bool)→(Nat→Nat)→(Nat→List Int→Option (List Int))→Bool) (P1:Int→Int→Nat→(Nat→Bool)→(Nat→Nat)→(Nat→List Int→Option (List Int))→Bool) (zaa:(Sl Gate)):Nat→Int→Int→Int→Nat→(Nat→Bool)→(Nat→Nat)→(Nat→List Int→Option (List Int))→Bool:=lpO (fun _ _ _ _ _ _ _=>false) (zyx P0 P1 zaa)
def zyA (S0:Int→Nat→(Nat→Bool)→(Nat→Nat)→(Nat→List Int→Option (List Int))→(Sl Mp)) (S1:Int→Int→Nat→(Nat→Bool)→(Nat→Nat)→(Nat→List Int→Option (List Int))→(Sl Mp)) (zaa:(Sl Gate)) (iv2:Int) (pv2:Int) (qv2:Int) (zbE:Nat) (zbh:(Nat→Bool)) (zba:(Nat→Nat)) (zbu:(Nat→List Int→Option (List Int))):(Sl Mp):=zyy S0 S1 zaa Fuel iv2 pv2 qv2 zbE zbh zba zbu
def zyB (P0:Int→Nat→(Nat→Bool)→(Nat→Nat)→(Nat→List Int→Option (List Int))→Bool) (P1:Int→Int→Nat→(Nat→Bool)→(Nat→Nat)→(Nat→List Int→Option (List Int))→Bool) (zaa:(Sl Gate)) (iv2:Int) (pv2:Int) (qv2:Int) (zbE:Nat) (zbh:(Nat→Bool)) (zba:(Nat→Nat)) (zbu:(Nat→List Int→Option (List Int))):Bool:=zyz P0 P1 zaa Fuel iv2 pv2 qv2 zbE zbh zba zbu
theorem zGh (hX0:zq9 K zaa X0 P0 S0) (hX1:zuz K zaa X1 P1 S1) (hs:zyB P0 P1 zaa iv2 pv2 qv2 zbE zbh zba zbu=true) (hk:K (e93 (zyA S0 S1 zaa iv2 pv2 qv2 zbE zbh zba zbu))):z93 K [1,1,1,0,1,0,0,1,0,0,1,1,0,0,1,0,0,1,0] [X0,X1] (zDw zaa iv2 pv2 qv2 zbE zbh zba zbu) :=
  zl (fun X=>z93 K [1,1,1,0,1,0,0,1,0,0,1,1,0,0,1,0,0,1,0,0] [X0,X1,X]) (by kernel_rfl) fun X2 hX =>
  (show ∀ k, zyl K zaa X2 (zyz P0 P1 zaa k) (zyy S0 S1 zaa k) from zgj _ _ (zyx P0 P1 zaa) (zyw S0 S1 zaa) (zyl K zaa X2)
 (by intro _ _ _ _ _ _ _ hs;exact absurd hs Bool.false_ne_true)
 (by intro P2 S2 hX2 iv2 pv2 qv2 zbE zbh zba zbu hs hk;exact hX _ (zaK (by kernel_rfl) (zaD hs fun hc hs=>And.intro hc (zc hs hk (fun hs hk=>(zc hs hk (fun hs hk=>(zaD hs fun hc hs=>And.intro hc (zaD hs fun hc hs=>And.intro hc (zaD hs fun hc hs=>And.intro hc (hX2 hs hk))))) (fun hs hk=>(zGg hX0 hX1 hX2 hs hk)))) (fun hs hk=>(hX1 hs hk))))))) _ hs hk
def zyC (S0:Int→Nat→(Nat→Bool)→(Nat→Nat)→(Nat→List Int→Option (List Int))→(Sl Mp)) (zaa:(Sl Gate)) (S1:Int→Int→Nat→(Nat→Bool)→(Nat→Nat)→(Nat→List Int→Option (List Int))→(Sl Mp)) (iv1:Int) (pv1:Int) (zbZ:Nat) (zbA:(Nat→Bool)) (zbB:(Nat→Nat)) (zb0:(Nat→List Int→Option (List Int))):(Sl Mp) :=
  (cond (decide (pv1 ≤ (zaa.get iv1.toNat).High))
 (zyA S0 S1 zaa iv1 pv1 ((zaa.get ((w64 (iv1+(1:Int))).toNat)).Low) zbZ zbA zbB zb0)
 (S0 (w64 (iv1 - (1:Int))) zbZ zbA zbB zb0))
def zyD (P0:Int→Nat→(Nat→Bool)→(Nat→Nat)→(Nat→List Int→Option (List Int))→Bool) (zaa:(Sl Gate)) (P1:Int→Int→Nat→(Nat→Bool)→(Nat→Nat)→(Nat→List Int→Option (List Int))→Bool) (iv1:Int) (pv1:Int) (zbZ:Nat) (zbA:(Nat→Bool)) (zbB:(Nat→Nat)) (zb0:(Nat→List Int→Option (List Int))):Bool :=
  (decide ((0≤iv1∧iv1 < (zaa.len:Int))) &&
 (cond (decide (pv1 ≤ (zaa.get iv1.toNat).High))
 (decide ((0≤(w64 (iv1+(1:Int)))∧(w64 (iv1+(1:Int))) < (zaa.len:Int))) &&
 (zyB P0 P1 zaa iv1 pv1 ((zaa.get ((w64 (iv1+(1:Int))).toNat)).Low) zbZ zbA zbB zb0))
 (P0 (w64 (iv1 - (1:Int))) zbZ zbA zbB zb0)))
def zyE (S0:Int→Nat→(Nat→Bool)→(Nat→Nat)→(Nat→List Int→Option (List Int))→(Sl Mp)) (zaa:(Sl Gate)):Nat→Int→Int→Nat→(Nat→Bool)→(Nat→Nat)→(Nat→List Int→Option (List Int))→(Sl Mp):=lpO (fun _ _ _ _ _ _=>default) (zyC S0 zaa)
def zyF (P0:Int→Nat→(Nat→Bool)→(Nat→Nat)→(Nat→List Int→Option (List Int))→Bool) (zaa:(Sl Gate)):Nat→Int→Int→Nat→(Nat→Bool)→(Nat→Nat)→(Nat→List Int→Option (List Int))→Bool:=lpO (fun _ _ _ _ _ _=>false) (zyD P0 zaa)
def zyG (S0:Int→Nat→(Nat→Bool)→(Nat→Nat)→(Nat→List Int→Option (List Int))→(Sl Mp)) (zaa:(Sl Gate)) (iv1:Int) (pv1:Int) (zbZ:Nat) (zbA:(Nat→Bool)) (zbB:(Nat→Nat)) (zb0:(Nat→List Int→Option (List Int))):(Sl Mp):=zyE S0 zaa Fuel iv1 pv1 zbZ zbA zbB zb0
def zyH (P0:Int→Nat→(Nat→Bool)→(Nat→Nat)→(Nat→List Int→Option (List Int))→Bool) (zaa:(Sl Gate)) (iv1:Int) (pv1:Int) (zbZ:Nat) (zbA:(Nat→Bool)) (zbB:(Nat→Nat)) (zb0:(Nat→List Int→Option (List Int))):Bool:=zyF P0 zaa Fuel iv1 pv1 zbZ zbA zbB zb0
theorem zGi (hX0:zq9 K zaa X0 P0 S0) (hs:zyH P0 zaa iv1 pv1 zbZ zbA zbB zb0=true) (hk:K (e93 (zyG S0 zaa iv1 pv1 zbZ zbA zbB zb0))):z93 K [1,1,1,0,1,0,0,1,0,0,1,1,0] [X0] (zDv zaa iv1 pv1 zbZ zbA zbB zb0) :=
  zl (fun X=>z93 K [1,1,1,0,1,0,0,1,0,0,1,1,0,0] [X0,X]) (by kernel_rfl) fun X1 hX =>
  (show ∀ k, zuz K zaa X1 (zyF P0 zaa k) (zyE S0 zaa k) from zgj _ _ (zyD P0 zaa) (zyC S0 zaa) (zuz K zaa X1)
 (by intro _ _ _ _ _ _ hs;exact absurd hs Bool.false_ne_true)
 (by intro P1 S1 hX1 iv1 pv1 zbZ zbA zbB zb0 hs hk;exact hX _ (zaK (by kernel_rfl) (zaD hs fun hc hs=>And.intro hc (zc hs hk (fun hs hk=>(zaD hs fun hc hs=>And.intro hc (zGh hX0 hX1 hs hk))) (fun hs hk=>(hX0 hs hk))))))) _ hs hk
def zyI (zaa:(Sl Gate)) (S0:Int→Nat→(Nat→Bool)→(Nat→Nat)→(Nat→List Int→Option (List Int))→(Sl Mp)) (iv0:Int) (zbR:Nat) (zbJ:(Nat→Bool)) (zbK:(Nat→Nat)) (zb9:(Nat→List Int→Option (List Int))):(Sl Mp) :=
  (cond (decide (iv0 ≥ (0:Int)))
 (zyG S0 zaa iv0 ((zaa.get iv0.toNat).Low) zbR (zc3 iv0.toNat true zbJ) (zc3 iv0.toNat 0 zbK) (zc3 iv0.toNat (fun _=>none) zb9))
 (⟨zbR,(fun i=>(⟨zbK i,zb9 i⟩:Mp))⟩:(Sl Mp)))
def zyJ (zaa:(Sl Gate)) (P0:Int→Nat→(Nat→Bool)→(Nat→Nat)→(Nat→List Int→Option (List Int))→Bool) (iv0:Int) (zbR:Nat) (zbJ:(Nat→Bool)) (zbK:(Nat→Nat)) (zb9:(Nat→List Int→Option (List Int))):Bool :=
  (cond (decide (iv0 ≥ (0:Int)))
 (decide ((0≤iv0∧iv0 < (zbR:Int))) &&
 (decide ((iv0.toNat < zbR∧zbJ iv0.toNat=false)) &&
 (decide ((0≤iv0∧iv0 < (zaa.len:Int))) &&
 (zyH P0 zaa iv0 ((zaa.get iv0.toNat).Low) zbR (zc3 iv0.toNat true zbJ) (zc3 iv0.toNat 0 zbK) (zc3 iv0.toNat (fun _=>none) zb9)))))
 true)
def zyK (zaa:(Sl Gate)):Nat→Int→Nat→(Nat→Bool)→(Nat→Nat)→(Nat→List Int→Option (List Int))→(Sl Mp):=lpO (fun _ _ _ _ _=>default) (zyI zaa)
def zyL (zaa:(Sl Gate)):Nat→Int→Nat→(Nat→Bool)→(Nat→Nat)→(Nat→List Int→Option (List Int))→Bool:=lpO (fun _ _ _ _ _=>false) (zyJ zaa)
def zyM (zaa:(Sl Gate)) (iv0:Int) (zbR:Nat) (zbJ:(Nat→Bool)) (zbK:(Nat→Nat)) (zb9:(Nat→List Int→Option (List Int))):(Sl Mp):=zyK zaa Fuel iv0 zbR zbJ zbK zb9
def zyN (zaa:(Sl Gate)) (iv0:Int) (zbR:Nat) (zbJ:(Nat→Bool)) (zbK:(Nat→Nat)) (zb9:(Nat→List Int→Option (List Int))):Bool:=zyL zaa Fuel iv0 zbR zbJ zbK zb9
theorem zGj (hs:zyN zaa iv0 zbR zbJ zbK zb9=true) (hk:K (e93 (zyM zaa iv0 zbR zbJ zbK zb9))):z93 K [1,1,1,0,1,0] [] (zDu zaa iv0 zbR zbJ zbK zb9) :=
  zl (fun X=>z93 K [1,1,1,0,1,0,0] [X]) (by kernel_rfl) fun X0 hX =>
  (show ∀ k, zq9 K zaa X0 (zyL zaa k) (zyK zaa k) from zgj _ _ (zyJ zaa) (zyI zaa) (zq9 K zaa X0)
 (by intro _ _ _ _ _ hs;exact absurd hs Bool.false_ne_true)
 (by intro P0 S0 hX0 iv0 zbR zbJ zbK zb9 hs hk;exact hX _ (zaK (by kernel_rfl) (zc hs hk (fun hs hk=>(zaD hs fun hc hs=>And.intro hc (zaD hs fun hc hs=>And.intro hc (zaD hs fun hc hs=>And.intro hc (zGi hX0 hs hk))))) (fun hs hk=>hk))))) _ hs hk
def s93 (zaa:(Sl Gate)):(Sl Mp) :=
  (zyM zaa (w64 ((zaa.len:Int) - (2:Int))) ((w64 ((zaa.len:Int) - (1:Int))).toNat) (fun _=>false) (fun _=>0) (fun _ _=>none))
def p93 (zaa:(Sl Gate)):Bool :=
  (decide ((0≤(w64 ((zaa.len:Int) - (1:Int)))∧(w64 ((zaa.len:Int) - (1:Int)))=(w64 ((zaa.len:Int) - (1:Int)))∧(w64 ((zaa.len:Int) - (1:Int)))≤1000000)) &&
 (zyN zaa (w64 ((zaa.len:Int) - (2:Int))) ((w64 ((zaa.len:Int) - (1:Int))).toNat) (fun _=>false) (fun _=>0) (fun _ _=>none)))
end
theorem q93 (zaa:(Sl Gate)) (K:List PA→Prop) (hs:p93 zaa=true) (hk:K (e93 (s93 zaa))):vcFun Try.prog G93 zGc 93 [.one (.sl zaa.len 3 (fun i=>enc_55 (zaa.get i)))] K :=
  zaK (by kernel_rfl) (zaD hs fun hc hs=>And.intro hc (zGj hs hk))
def zGk : List PA → COut
  | [.one (.sl a0_n a0_s a0_g)]=>.det (IsE enc_55 3 a0_s a0_g∧p93 (⟨a0_n,zae a0_g⟩:(Sl Gate))=true) [.one (.sl ((s93 (⟨a0_n,zae a0_g⟩:(Sl Gate))).len) 1 (fun i=>zcR ((s93 (⟨a0_n,zae a0_g⟩:(Sl Gate))).get i)))]
  | _=>.no
theorem zKf:zah Try.prog 93:=⟨_,rfl,rfl,by kernel_rfl⟩
theorem zPO:Ok Try.prog 93 zGk:=zaN zMT zKf fun args K h=>by
  unfold zGk at h
  split at h
  · rename_i a0_n a0_s a0_g
    obtain ⟨⟨⟨rfl,a0_f,rfl⟩,hs⟩,hk⟩:=h
    try rw [zac a0_f] at hs
    try rw [zac a0_f] at hk
    exact ⟨(fun _ _=>[]),(fun l=>Nat.beq l 15 || Nat.beq l 24),zGc,q93 (⟨a0_n,a0_f⟩:(Sl Gate)) K hs hk⟩
  · exact h.elim
def zOj (a b:Int):List Int:=(List.range (b - a+1).toNat).map fun (i:Nat)=>a+i
def zpc (zaa:Sl Gate):List (List Int):=(zOj (zaa.get 0).Low (zaa.get 0).High).flatMap fun p=>(zOj (zaa.get 1).Low (zaa.get 1).High).map fun q=>[p,q]
abbrev T55:Tabs:=(((Tabs.nil.addF 85 zBX).addF 92 zGb).addF 93 zGk)
theorem zMU:TabsOk Try.prog T55:=(((TabsOk.nil.addF zOi).addF zPN).addF zPO)
abbrev G55:Ctrs:=csm T55 (fun _ _=>[]) (fun _=>false)
def za6:Ann:=⟨145,[(0,⟨[0],[],[],[],[],[],[]⟩),(1,⟨[0,18],[],[],[],[],[],[]⟩),(2,⟨[2,3,4],[],[],[],[],[],[]⟩),(3,⟨[0,5],[],[],[],[],[],[]⟩),(4,⟨[0,5,6],[],[],[],[],[],[]⟩),(5,⟨[0,5,6,24],[24],[],[],[],[],[]⟩),(6,⟨[0,5,6,24,26],[24],[],[],[],[],[]⟩),(7,⟨[0,5,6,8,24],[24],[],[],[],[],[]⟩),(8,⟨[0,5,6,8,24,35],[24],[],[],[],[],[]⟩),(9,⟨[0,5,6,24],[24],[],[],[],[],[]⟩),(10,⟨[0,5,6,9],[],[],[],[],[],[]⟩),(11,⟨[0,5,6,9,10],[],[],[],[],[],[]⟩),(12,⟨[0,5,6,9,10,46],[],[],[],[],[],[]⟩),(13,⟨[0,5,6,9,10],[],[],[],[],[],[]⟩),(14,⟨[0,5,6,9,10,11],[],[],[],[],[],[]⟩),(15,⟨[0,5,6,9,10,11,58],[],[],[],[],[],[]⟩),(16,⟨[0,5,6,9,10,11],[],[],[],[],[],[]⟩),(17,⟨[0,5,6,9,10,11,69],[],[],[],[],[],[]⟩),(18,⟨[0,5,6,9],[72],[],[],[],[],[]⟩),(19,⟨[0,5,6,9,12],[72],[],[],[],[],[]⟩),(20,⟨[0,5,6,9,12,76],[72],[],[],[],[],[]⟩),(21,⟨[0,5,6,9,12],[72],[],[],[],[],[]⟩),(22,⟨[0,5,6,9,12,13,14],[72],[],[],[],[],[]⟩),(23,⟨[0,5,6,9,12,13,14,15],[72],[],[],[],[],[]⟩),(24,⟨[0,5,6,9,12,13,14,15,100],[72],[],[],[],[],[]⟩),(25,⟨[0,5,6,9,12,13,14,15],[72],[],[],[],[],[]⟩),(26,⟨[0,5,6,9,12,13,14,15,138],[72],[],[],[],[],[]⟩),(27,⟨[0,5,6,9,12],[72],[],[],[],[],[]⟩),(28,⟨[2,3,4],[72],[],[],[],[],[]⟩)],
 [(6,⟨[0,5,6,24],[24],[],[],[],[],[]⟩),(12,⟨[0,5,6,9,10],[],[],[],[],[],[]⟩),(15,⟨[0,5,6,9,10,11],[],[],[],[],[],[]⟩),(20,⟨[0,5,6,9,12],[72],[],[],[],[],[]⟩),(24,⟨[0,5,6,9,12,13,14,15],[72],[],[],[],[],[]⟩)],
 [(2,⟨[0,18],[],[],[],[],[],[]⟩),(3,⟨[0],[],[],[],[],[],[]⟩),(4,⟨[0,5],[],[],[],[],[],[]⟩),(10,⟨[0,5,6],[],[],[],[],[],[]⟩),(19,⟨[0,5,6,9],[72],[(9,72,3,fun _=>zak default)],[],[],[],[]⟩),(27,⟨[0,5,6,9,12,13,14,15,138],[72],[],[],[],[],[]⟩)],
 [],[]⟩
def zKg (zaa:(Sl Gate)) (zgw:Bool):St:=⟨[(0,.one (.c (.p (.sl zaa.len 3 (fun i=>enc_55 (zaa.get i)))))),(18,.one (.c (.p (.bool zgw))))],[],[]⟩
def znq (K:List PA→Prop) (zaa:(Sl Gate)) (zgw:Bool):Prop:=vc Try.prog G55 za6 (cdF Try.f55 [1,0,0,1]) (sqK Try.prog G55 za6 (cdF Try.f55 [1,0,1]) (zcm (zcA Try.prog Try.f55 K))) (zKg zaa zgw)
def zKh (zaa:(Sl Gate)):St:=⟨[(0,.one (.c (.p (.sl zaa.len 3 (fun i=>enc_55 (zaa.get i))))))],[],[]⟩
def znr (K:List PA→Prop) (zaa:(Sl Gate)):Prop:=vc Try.prog G55 za6 (cdF Try.f55 [1,0,1]) (zcm (zcA Try.prog Try.f55 K)) (zKh zaa)
def zKi (zaa:(Sl Gate)) (zko:Nat) (zes:Nat→List PV):St:=⟨[(0,.one (.c (.p (.sl zaa.len 3 (fun i=>enc_55 (zaa.get i)))))),(5,.one (.c (.p (.sl zko 1 zes))))],[],[]⟩
def zns (K:List PA→Prop) (zaa:(Sl Gate)) (zko:Nat) (zes:Nat→List PV):Prop:=vc Try.prog G55 za6 (cdF Try.f55 [1,0,1,1]) (zcm (zcA Try.prog Try.f55 K)) (zKi zaa zko zes)
def zho (zaa:(Sl Gate)) (zab:(Sl Mp)) (zbn:(List (List Int))) (zaP:Int):St:=⟨[(0,.one (.c (.p (.sl zaa.len 3 (fun i=>enc_55 (zaa.get i)))))),(5,.one (.c (.p (.sl zab.len 1 (fun i=>zcR (zab.get i)))))),(6,.one (.c (.p (.int .i64 zaP)))),(24,.one (.c (.ptr 24 0)))],[(24,.mit (true,2,false,[some .i64]) ((zab.get 0).n) ((zab.get 0).F) zbn)],[]⟩
def zkp (K:List PA→Prop) (zaa:(Sl Gate)) (zab:(Sl Mp)) (zbn:(List (List Int))) (zaP:Int):Prop:=vc Try.prog G55 za6 (cdF Try.f55 [1,0,1,1,1,0,1,0]) (zbb 0 (sqK Try.prog G55 za6 (cdF Try.f55 [1,0,1,1,1,1]) (zcm (zcA Try.prog Try.f55 K)))) (zho zaa zab zbn zaP)
def zKj (zaa:(Sl Gate)) (zab:(Sl Mp)) (zdr:Int):St:=⟨[(0,.one (.c (.p (.sl zaa.len 3 (fun i=>enc_55 (zaa.get i)))))),(5,.one (.c (.p (.sl zab.len 1 (fun i=>zcR (zab.get i)))))),(6,.one (.c (.p (.int .i64 zdr))))],[],[]⟩
def znt (K:List PA→Prop) (zaa:(Sl Gate)) (zab:(Sl Mp)) (zdr:Int):Prop:=vc Try.prog G55 za6 (cdF Try.f55 [1,0,1,1,1,1]) (zcm (zcA Try.prog Try.f55 K)) (zKj zaa zab zdr)
def ziF (zaa:(Sl Gate)) (zab:(Sl Mp)) (za1:Int) (pv5:Int):St:=⟨[(0,.one (.c (.p (.sl zaa.len 3 (fun i=>enc_55 (zaa.get i)))))),(5,.one (.c (.p (.sl zab.len 1 (fun i=>zcR (zab.get i)))))),(6,.one (.c (.p (.int .i64 za1)))),(9,.one (.c (.p (.nils)))),(10,.one (.c (.p (.int .i64 pv5))))],[],[]⟩
def zkq (K:List PA→Prop) (zaa:(Sl Gate)) (zab:(Sl Mp)) (za1:Int) (pv5:Int):Prop:=vc Try.prog G55 za6 (cdF Try.f55 [1,0,1,1,1,1,1,1,0,1,0]) (zbb 2 (sqK Try.prog G55 za6 (cdF Try.f55 [1,0,1,1,1,1,1,1,1]) (zcm (zcA Try.prog Try.f55 K)))) (ziF zaa zab za1 pv5)
def zkr (zaa:(Sl Gate)) (zab:(Sl Mp)) (zaW:Int) (pv6:Int) (qv6:Int):St:=⟨[(0,.one (.c (.p (.sl zaa.len 3 (fun i=>enc_55 (zaa.get i)))))),(5,.one (.c (.p (.sl zab.len 1 (fun i=>zcR (zab.get i)))))),(6,.one (.c (.p (.int .i64 zaW)))),(9,.one (.c (.p (.nils)))),(10,.one (.c (.p (.int .i64 pv6)))),(11,.one (.c (.p (.int .i64 qv6))))],[],[]⟩
def zks (K:List PA→Prop) (X5:St→Prop) (zaa:(Sl Gate)) (zab:(Sl Mp)) (zaW:Int) (pv6:Int) (qv6:Int):Prop:=vc Try.prog G55 za6 (cdF Try.f55 [1,0,1,1,1,1,1,1,0,1,0,0,1,0,0,1,0]) (zbb 4 (zbb 3 (sqK Try.prog G55 za6 (cdF Try.f55 [1,0,1,1,1,1,1,1,0,1,0,0,1,1]) (zea Try.prog za6 12 X5 (zbb 2 (sqK Try.prog G55 za6 (cdF Try.f55 [1,0,1,1,1,1,1,1,1]) (zcm (zcA Try.prog Try.f55 K)))))))) (zkr zaa zab zaW pv6 qv6)
def zKk (zaa:(Sl Gate)) (zab:(Sl Mp)) (zds:Int) (zra:Nat) (zia:Nat→List PV):St:=⟨[(0,.one (.c (.p (.sl zaa.len 3 (fun i=>enc_55 (zaa.get i)))))),(5,.one (.c (.p (.sl zab.len 1 (fun i=>zcR (zab.get i)))))),(6,.one (.c (.p (.int .i64 zds)))),(9,.one (.c (.vec 72)))],[(72,.vec 3 1 8 zra zia)],[]⟩
def zkt (K:List PA→Prop) (zaa:(Sl Gate)) (zab:(Sl Mp)) (zds:Int) (zra:Nat) (zia:Nat→List PV):Prop:=vc Try.prog G55 za6 (cdF Try.f55 [1,0,1,1,1,1,1,1,1]) (zcm (zcA Try.prog Try.f55 K)) (zKk zaa zab zds zra zia)
def zf6 (zaa:(Sl Gate)) (zab:(Sl Mp)) (zaY:Int) (iv8:Int) (zfx:Nat) (zbL:Nat→List PV):St:=⟨[(0,.one (.c (.p (.sl zaa.len 3 (fun i=>enc_55 (zaa.get i)))))),(5,.one (.c (.p (.sl zab.len 1 (fun i=>zcR (zab.get i)))))),(6,.one (.c (.p (.int .i64 zaY)))),(9,.one (.c (.vec 72))),(12,.one (.c (.p (.int .i64 iv8))))],[(72,.vec 3 1 8 zfx zbL)],[]⟩
def zku (K:List PA→Prop) (zaa:(Sl Gate)) (zab:(Sl Mp)) (zaY:Int) (iv8:Int) (zfx:Nat) (zbL:Nat→List PV):Prop:=vc Try.prog G55 za6 (cdF Try.f55 [1,0,1,1,1,1,1,1,1,0,1,0]) (zbb 6 (sqK Try.prog G55 za6 (cdF Try.f55 [1,0,1,1,1,1,1,1,1,1]) (zcm (zcA Try.prog Try.f55 K)))) (zf6 zaa zab zaY iv8 zfx zbL)
def ziG (zaa:(Sl Gate)) (zab:(Sl Mp)) (zaM:Int) (iv9:Int) (pv9:Int) (qv9:Int) (rv9:Int) (zfy:Nat) (zbS:Nat→List PV):St:=⟨[(0,.one (.c (.p (.sl zaa.len 3 (fun i=>enc_55 (zaa.get i)))))),(5,.one (.c (.p (.sl zab.len 1 (fun i=>zcR (zab.get i)))))),(6,.one (.c (.p (.int .i64 zaM)))),(9,.one (.c (.vec 72))),(12,.one (.c (.p (.int .i64 iv9)))),(13,.one (.c (.p (.int .i64 pv9)))),(14,.one (.c (.p (.int .i64 qv9)))),(15,.one (.c (.p (.int .i64 rv9))))],[(72,.vec 3 1 8 zfy zbS)],[]⟩
def zkv (K:List PA→Prop) (X8:St→Prop) (zaa:(Sl Gate)) (zab:(Sl Mp)) (zaM:Int) (iv9:Int) (pv9:Int) (qv9:Int) (rv9:Int) (zfy:Nat) (zbS:Nat→List PV):Prop:=vc Try.prog G55 za6 (cdF Try.f55 [1,0,1,1,1,1,1,1,1,0,1,0,0,1,0,0,1,1,0]) (zbb 8 (zbb 7 (sqK Try.prog G55 za6 (cdF Try.f55 [1,0,1,1,1,1,1,1,1,0,1,0,0,1,1]) (zea Try.prog za6 20 X8 (zbb 6 (sqK Try.prog G55 za6 (cdF Try.f55 [1,0,1,1,1,1,1,1,1,1]) (zcm (zcA Try.prog Try.f55 K)))))))) (ziG zaa zab zaM iv9 pv9 qv9 rv9 zfy zbS)
def zGl (zaa:(Sl Gate)) (zab:(Sl Mp)) (zb1:Int) (zda:Int) (zpt:Int) (zpu:Int) (zlt:Int) (zcF:Bool) (znu:Nat) (zfV:Nat→List PV):St:=⟨[(0,.one (.c (.p (.sl zaa.len 3 (fun i=>enc_55 (zaa.get i)))))),(5,.one (.c (.p (.sl zab.len 1 (fun i=>zcR (zab.get i)))))),(6,.one (.c (.p (.int .i64 zb1)))),(9,.one (.c (.vec 72))),(12,.one (.c (.p (.int .i64 zda)))),(13,.one (.c (.p (.int .i64 zpt)))),(14,.one (.c (.p (.int .i64 zpu)))),(15,.one (.c (.p (.int .i64 zlt)))),(138,.one (.c (.p (.bool zcF))))],[(72,.vec 3 1 8 znu zfV)],[]⟩
def zhp (K:List PA→Prop) (X8:St→Prop) (X9:St→Prop) (zaa:(Sl Gate)) (zab:(Sl Mp)) (zb1:Int) (zda:Int) (zpt:Int) (zpu:Int) (zlt:Int) (zcF:Bool) (znu:Nat) (zfV:Nat→List PV):Prop:=vc Try.prog G55 za6 (cdF Try.f55 [1,0,1,1,1,1,1,1,1,0,1,0,0,1,0,0,1,1,0,0,1,0,0,1]) (zbb 9 (sqK Try.prog G55 za6 (cdF Try.f55 [1,0,1,1,1,1,1,1,1,0,1,0,0,1,0,0,1,1,0,0,1,1]) (zea Try.prog za6 24 X9 (zbb 8 (zbb 7 (sqK Try.prog G55 za6 (cdF Try.f55 [1,0,1,1,1,1,1,1,1,0,1,0,0,1,1]) (zea Try.prog za6 20 X8 (zbb 6 (sqK Try.prog G55 za6 (cdF Try.f55 [1,0,1,1,1,1,1,1,1,1]) (zcm (zcA Try.prog Try.f55 K))))))))))) (zGl zaa zab zb1 zda zpt zpu zlt zcF znu zfV)
theorem zGm (zaa : (Sl Gate)) (K : List PA → Prop) :
  vcFun Try.prog G55 za6 55 [.one (.sl zaa.len 3 (fun i=>enc_55 (zaa.get i)))] K =
  ((IsE enc_55 3 3 (fun i=>enc_55 (zaa.get i))∧(p92 zaa=true)) ∧
 (znq K zaa (!(s92 zaa)))):=by kernel_rfl
theorem zGn (K : List PA → Prop) (zaa : (Sl Gate)) (zgw : Bool) :
  znq K zaa zgw =
  (zdd zgw
 (K [.one (.nils),.one (.int .i64 (0:Int)),.one (.int .i64 (2:Int))])
 (znr K zaa)):=by kernel_rfl
theorem zGo (K : List PA → Prop) (zaa : (Sl Gate)) :
  znr K zaa =
  ((IsE enc_55 3 3 (fun i=>enc_55 (zaa.get i))∧(p93 zaa=true)) ∧
 (zns K zaa ((s93 zaa).len) (fun i=>zcR ((s93 zaa).get i)))):=by kernel_rfl
theorem zGp (K : List PA → Prop) (zaa : (Sl Gate)) (zab : (Sl Mp)) :
  zns K zaa zab.len (fun i=>zcR (zab.get i)) =
  (((0≤(0:Int)∧(0:Int) < (zab.len:Int))) ∧
 (zkp K zaa zab ([]) (-1:Int))):=by kernel_rfl
def zpd (K:List PA→Prop) (X3:St→Prop) (zaa:(Sl Gate)) (zab:(Sl Mp)) (zbn:(List (List Int))) (zaP:Int):Prop :=
  (zIj 2 ((zab.get 0).n) ((zab.get 0).F) →
 ((∀ c:List Int,c.length=2→((zab.get 0).F) c ≠ none→c∈zbn) →
 (znt K zaa zab zaP))∧∀ k24_0 k24_1:Int,((zab.get 0).F) [k24_0,k24_1] ≠ none→[k24_0,k24_1] ∉ zbn →
 (zdd (decide (zaP < (0:Int)))
 (X3 (zho zaa zab ([k24_0,k24_1] :: zbn) (zd3 (((zab.get 0).F) [k24_0,k24_1]) 0)))
 (zdd (decide ((zd3 (((zab.get 0).F) [k24_0, k24_1]) 0) < zaP))
 (X3 (zho zaa zab ([k24_0,k24_1] :: zbn) (zd3 (((zab.get 0).F) [k24_0,k24_1]) 0)))
 (X3 (zho zaa zab ([k24_0,k24_1] :: zbn) zaP)))))
theorem zrb (K : List PA → Prop) (X3 : St → Prop) (zaa : (Sl Gate)) (zab : (Sl Mp)) (zbn : (List (List Int))) (zaP : Int) :
  vc Try.prog G55 za6 (cd (cdF Try.f55 [1,0,1,1,1,0,1,0]) [0]) (zea Try.prog za6 6 X3 (zbb 0 (sqK Try.prog G55 za6 (cdF Try.f55 [1,0,1,1,1,1]) (zcm (zcA Try.prog Try.f55 K))))) (zho zaa zab zbn zaP) =
  zpd K X3 zaa zab zbn zaP:=by kernel_rfl
theorem zyO (K : List PA → Prop) (zaa : (Sl Gate)) (zab : (Sl Mp)) (zbn : (List (List Int))) (zaP : Int)
  (h:∀ X3:St→Prop,(∀ (zbn:(List (List Int))) (zaP:Int),zpd K X3 zaa zab zbn zaP→X3 (zho zaa zab zbn zaP))→X3 (zho zaa zab zbn zaP)) :
  zkp K zaa zab zbn zaP:=by
  have e:zkp K zaa zab zbn zaP=(∀ X:St→Prop,(∀ s,vc Try.prog G55 za6 (cd (cdF Try.f55 [1,0,1,1,1,0,1,0]) [0]) (zea Try.prog za6 6 X (zbb 0 (sqK Try.prog G55 za6 (cdF Try.f55 [1,0,1,1,1,1]) (zcm (zcA Try.prog Try.f55 K))))) s→X s)→X (zho zaa zab zbn zaP)):=by kernel_rfl
  refine zaK e ?_
  intro X hX
  refine h X ?_
  intro zbn zaP hs
  refine hX _ ?_
  have e2:=zrb K X zaa zab zbn zaP
  rw [e2]
  exact hs
theorem zGq (K : List PA → Prop) (zaa : (Sl Gate)) (zab : (Sl Mp)) (zdr : Int) :
  znt K zaa zab zdr =
  (((0≤(0:Int)∧(0:Int) < (zaa.len:Int))) ∧
 (zkq K zaa zab zdr ((zaa.get 0).Low))):=by kernel_rfl
def zpe (K:List PA→Prop) (X5:St→Prop) (zaa:(Sl Gate)) (zab:(Sl Mp)) (za1:Int) (pv5:Int):Prop :=
  (((0≤(0:Int)∧(0:Int) < (zaa.len:Int))) ∧
 (zdd (decide (pv5 ≤ (zaa.get 0).High))
 (((0≤(1:Int)∧(1:Int) < (zaa.len:Int))) ∧
 (zks K X5 zaa zab za1 pv5 ((zaa.get 1).Low)))
 (zkt K zaa zab za1 0 (fun i=>zak ((fun _=>default) i)))))
theorem zrd (K : List PA → Prop) (X5 : St → Prop) (zaa : (Sl Gate)) (zab : (Sl Mp)) (za1 : Int) (pv5 : Int) :
  vc Try.prog G55 za6 (cd (cdF Try.f55 [1,0,1,1,1,1,1,1,0,1,0]) [0]) (zea Try.prog za6 12 X5 (zbb 2 (sqK Try.prog G55 za6 (cdF Try.f55 [1,0,1,1,1,1,1,1,1]) (zcm (zcA Try.prog Try.f55 K))))) (ziF zaa zab za1 pv5) =
  zpe K X5 zaa zab za1 pv5:=by kernel_rfl
theorem zyP (K : List PA → Prop) (zaa : (Sl Gate)) (zab : (Sl Mp)) (za1 : Int) (pv5 : Int)
  (h:∀ X5:St→Prop,(∀ (za1:Int) (pv5:Int),zpe K X5 zaa zab za1 pv5→X5 (ziF zaa zab za1 pv5))→X5 (ziF zaa zab za1 pv5)) :
  zkq K zaa zab za1 pv5:=by
  have e:zkq K zaa zab za1 pv5=(∀ X:St→Prop,(∀ s,vc Try.prog G55 za6 (cd (cdF Try.f55 [1,0,1,1,1,1,1,1,0,1,0]) [0]) (zea Try.prog za6 12 X (zbb 2 (sqK Try.prog G55 za6 (cdF Try.f55 [1,0,1,1,1,1,1,1,1]) (zcm (zcA Try.prog Try.f55 K))))) s→X s)→X (ziF zaa zab za1 pv5)):=by kernel_rfl
  refine zaK e ?_
  intro X hX
  refine h X ?_
  intro za1 pv5 hs
  refine hX _ ?_
  have e2:=zrd K X zaa zab za1 pv5
  rw [e2]
  exact hs
def zpf (K:List PA→Prop) (X5:St→Prop) (X6:St→Prop) (zaa:(Sl Gate)) (zab:(Sl Mp)) (zaW:Int) (pv6:Int) (qv6:Int):Prop :=
  (((0≤(1:Int)∧(1:Int) < (zaa.len:Int))) ∧
 (zdd (decide (qv6 ≤ (zaa.get 1).High))
 (((0≤(0:Int)∧(0:Int) < (zab.len:Int))) ∧
 (zdd ((zd3 (((zab.get 0).F) [pv6, qv6]) 0) == zaW)
 (zkt K zaa zab zaW 2 (zdt [(zak pv6),(zak qv6)]))
 (X6 (zkr zaa zab zaW pv6 (w64 (qv6+(1:Int)))))))
 (X5 (ziF zaa zab zaW (w64 (pv6+(1:Int)))))))
theorem zre (K : List PA → Prop) (X5 : St → Prop) (X6 : St → Prop) (zaa : (Sl Gate)) (zab : (Sl Mp)) (zaW : Int) (pv6 : Int) (qv6 : Int) :
  vc Try.prog G55 za6 (cd (cdF Try.f55 [1,0,1,1,1,1,1,1,0,1,0,0,1,0,0,1,0]) [0]) (zea Try.prog za6 15 X6 (zbb 4 (zbb 3 (sqK Try.prog G55 za6 (cdF Try.f55 [1,0,1,1,1,1,1,1,0,1,0,0,1,1]) (zea Try.prog za6 12 X5 (zbb 2 (sqK Try.prog G55 za6 (cdF Try.f55 [1,0,1,1,1,1,1,1,1]) (zcm (zcA Try.prog Try.f55 K))))))))) (zkr zaa zab zaW pv6 qv6) =
  zpf K X5 X6 zaa zab zaW pv6 qv6:=by kernel_rfl
theorem zyQ (K : List PA → Prop) (X5 : St → Prop) (zaa : (Sl Gate)) (zab : (Sl Mp)) (zaW : Int) (pv6 : Int) (qv6 : Int)
  (h:∀ X6:St→Prop,(∀ (zaW:Int) (pv6:Int) (qv6:Int),zpf K X5 X6 zaa zab zaW pv6 qv6→X6 (zkr zaa zab zaW pv6 qv6))→X6 (zkr zaa zab zaW pv6 qv6)) :
  zks K X5 zaa zab zaW pv6 qv6:=by
  have e:zks K X5 zaa zab zaW pv6 qv6=(∀ X:St→Prop,(∀ s,vc Try.prog G55 za6 (cd (cdF Try.f55 [1,0,1,1,1,1,1,1,0,1,0,0,1,0,0,1,0]) [0]) (zea Try.prog za6 15 X (zbb 4 (zbb 3 (sqK Try.prog G55 za6 (cdF Try.f55 [1,0,1,1,1,1,1,1,0,1,0,0,1,1]) (zea Try.prog za6 12 X5 (zbb 2 (sqK Try.prog G55 za6 (cdF Try.f55 [1,0,1,1,1,1,1,1,1]) (zcm (zcA Try.prog Try.f55 K))))))))) s→X s)→X (zkr zaa zab zaW pv6 qv6)):=by kernel_rfl
  refine zaK e ?_
  intro X hX
  refine h X ?_
  intro zaW pv6 qv6 hs
  refine hX _ ?_
  have e2:=zre K X5 X zaa zab zaW pv6 qv6
  rw [e2]
  exact hs
theorem zGr (K : List PA → Prop) (zaa : (Sl Gate)) (zab : (Sl Mp)) (zds : Int) (zf0 : (Sl Int)) :
  zkt K zaa zab zds zf0.len (fun i=>zak (zf0.get i)) =
  (zku K zaa zab zds (2:Int) zf0.len (fun i=>zak (zf0.get i))):=by kernel_rfl
def zpg (K:List PA→Prop) (X8:St→Prop) (zaa:(Sl Gate)) (zab:(Sl Mp)) (zaY:Int) (iv8:Int) (za5:(Sl Int)):Prop :=
  (zdd (decide (iv8 < (zaa.len : Int)))
 (((0≤(w64 (iv8 - (2:Int)))∧(w64 (iv8 - (2:Int))) < (za5.len:Int))) ∧
 ((((w64 (iv8 - (2:Int))).toNat < za5.len)) ∧
 (((0≤(w64 (iv8 - (1:Int)))∧(w64 (iv8 - (1:Int))) < (za5.len:Int))) ∧
 ((((w64 (iv8 - (1:Int))).toNat < za5.len)) ∧
 (((0≤iv8∧iv8 < (zaa.len:Int))) ∧
 (zkv K X8 zaa zab zaY iv8 (za5.get ((w64 (iv8 - (2:Int))).toNat)) (za5.get ((w64 (iv8 - (1:Int))).toNat)) ((zaa.get iv8.toNat).Low) za5.len (fun i=>zak (za5.get i))))))))
 (K [.one (.sl za5.len 1 (fun i=>zak (za5.get i))),.one (.int .i64 zaY),.one (.int .i64 (0:Int))]))
theorem zrf (K : List PA → Prop) (X8 : St → Prop) (zaa : (Sl Gate)) (zab : (Sl Mp)) (zaY : Int) (iv8 : Int) (za5 : (Sl Int)) :
  vc Try.prog G55 za6 (cd (cdF Try.f55 [1,0,1,1,1,1,1,1,1,0,1,0]) [0]) (zea Try.prog za6 20 X8 (zbb 6 (sqK Try.prog G55 za6 (cdF Try.f55 [1,0,1,1,1,1,1,1,1,1]) (zcm (zcA Try.prog Try.f55 K))))) (zf6 zaa zab zaY iv8 za5.len (fun i=>zak (za5.get i))) =
  zpg K X8 zaa zab zaY iv8 za5:=by kernel_rfl
theorem zyR (K : List PA → Prop) (zaa : (Sl Gate)) (zab : (Sl Mp)) (zaY : Int) (iv8 : Int) (zfx : Nat) (zbL : Nat → List PV)
  (h:∀ X8:St→Prop,(∀ (zaY:Int) (iv8:Int) (za5:(Sl Int)),zpg K X8 zaa zab zaY iv8 za5→X8 (zf6 zaa zab zaY iv8 za5.len (fun i=>zak (za5.get i))))→X8 (zf6 zaa zab zaY iv8 zfx zbL)) :
  zku K zaa zab zaY iv8 zfx zbL:=by
  have e:zku K zaa zab zaY iv8 zfx zbL=(∀ X:St→Prop,(∀ s,vc Try.prog G55 za6 (cd (cdF Try.f55 [1,0,1,1,1,1,1,1,1,0,1,0]) [0]) (zea Try.prog za6 20 X (zbb 6 (sqK Try.prog G55 za6 (cdF Try.f55 [1,0,1,1,1,1,1,1,1,1]) (zcm (zcA Try.prog Try.f55 K))))) s→X s)→X (zf6 zaa zab zaY iv8 zfx zbL)):=by kernel_rfl
  refine zaK e ?_
  intro X hX
  refine h X ?_
  intro zaY iv8 za5 hs
  refine hX _ ?_
  have e2:=zrf K X zaa zab zaY iv8 za5
  rw [e2]
  exact hs
def zph (K:List PA→Prop) (X8:St→Prop) (X9:St→Prop) (zaa:(Sl Gate)) (zab:(Sl Mp)) (zaM:Int) (iv9:Int) (pv9:Int) (qv9:Int) (rv9:Int) (zbp:(Sl Int)):Prop :=
  (((0≤iv9∧iv9 < (zaa.len:Int))) ∧
 (zdd (decide (rv9 ≤ (zaa.get iv9.toNat).High))
 (((0≤(w64 (iv9 - (2:Int)))∧(w64 (iv9 - (2:Int))) < (zaa.len:Int))) ∧
 (((0≤(w64 (iv9 - (1:Int)))∧(w64 (iv9 - (1:Int))) < (zaa.len:Int))) ∧
 (((0≤iv9∧iv9 < (zaa.len:Int))) ∧
 (((p85 ((zaa.get ((w64 (iv9 - (2:Int))).toNat)).Z) ((zaa.get ((w64 (iv9 - (1:Int))).toNat)).Z) ((zaa.get iv9.toNat).Z) pv9 qv9 rv9=true)) ∧
 (zdd (decide ((s85 ((zaa.get ((w64 (iv9 - (2:Int))).toNat)).Z) ((zaa.get ((w64 (iv9 - (1:Int))).toNat)).Z) ((zaa.get iv9.toNat).Z) pv9 qv9 rv9) ≤ zaM))
 (((0≤(w64 (iv9 - (1:Int)))∧(w64 (iv9 - (1:Int))) < (zab.len:Int))) ∧
 (zhp K X8 X9 zaa zab zaM iv9 pv9 qv9 rv9 (decide ((zd3 (((zab.get ((w64 (iv9 - (1:Int))).toNat)).F) [qv9,rv9]) 0)≤zaM)) zbp.len (fun i=>zak (zbp.get i))))
 (zhp K X8 X9 zaa zab zaM iv9 pv9 qv9 rv9 false zbp.len (fun i=>zak (zbp.get i))))))))
 (X8 (zf6 zaa zab zaM (w64 (iv9+(1:Int))) zbp.len (fun i=>zak (zbp.get i))))))
theorem zrg (K : List PA → Prop) (X8 : St → Prop) (X9 : St → Prop) (zaa : (Sl Gate)) (zab : (Sl Mp)) (zaM : Int) (iv9 : Int) (pv9 : Int) (qv9 : Int) (rv9 : Int) (zbp : (Sl Int)) :
  vc Try.prog G55 za6 (cd (cdF Try.f55 [1,0,1,1,1,1,1,1,1,0,1,0,0,1,0,0,1,1,0]) [0]) (zea Try.prog za6 24 X9 (zbb 8 (zbb 7 (sqK Try.prog G55 za6 (cdF Try.f55 [1,0,1,1,1,1,1,1,1,0,1,0,0,1,1]) (zea Try.prog za6 20 X8 (zbb 6 (sqK Try.prog G55 za6 (cdF Try.f55 [1,0,1,1,1,1,1,1,1,1]) (zcm (zcA Try.prog Try.f55 K))))))))) (ziG zaa zab zaM iv9 pv9 qv9 rv9 zbp.len (fun i=>zak (zbp.get i))) =
  zph K X8 X9 zaa zab zaM iv9 pv9 qv9 rv9 zbp:=by kernel_rfl
theorem zyS (K : List PA → Prop) (X8 : St → Prop) (zaa : (Sl Gate)) (zab : (Sl Mp)) (zaM : Int) (iv9 : Int) (pv9 : Int) (qv9 : Int) (rv9 : Int) (zfy : Nat) (zbS : Nat → List PV)
  (h:∀ X9:St→Prop,(∀ (zaM:Int) (iv9:Int) (pv9:Int) (qv9:Int) (rv9:Int) (zbp:(Sl Int)),zph K X8 X9 zaa zab zaM iv9 pv9 qv9 rv9 zbp→X9 (ziG zaa zab zaM iv9 pv9 qv9 rv9 zbp.len (fun i=>zak (zbp.get i))))→X9 (ziG zaa zab zaM iv9 pv9 qv9 rv9 zfy zbS)) :
  zkv K X8 zaa zab zaM iv9 pv9 qv9 rv9 zfy zbS:=by
  have e:zkv K X8 zaa zab zaM iv9 pv9 qv9 rv9 zfy zbS=(∀ X:St→Prop,(∀ s,vc Try.prog G55 za6 (cd (cdF Try.f55 [1,0,1,1,1,1,1,1,1,0,1,0,0,1,0,0,1,1,0]) [0]) (zea Try.prog za6 24 X (zbb 8 (zbb 7 (sqK Try.prog G55 za6 (cdF Try.f55 [1,0,1,1,1,1,1,1,1,0,1,0,0,1,1]) (zea Try.prog za6 20 X8 (zbb 6 (sqK Try.prog G55 za6 (cdF Try.f55 [1,0,1,1,1,1,1,1,1,1]) (zcm (zcA Try.prog Try.f55 K))))))))) s→X s)→X (ziG zaa zab zaM iv9 pv9 qv9 rv9 zfy zbS)):=by kernel_rfl
  refine zaK e ?_
  intro X hX
  refine h X ?_
  intro zaM iv9 pv9 qv9 rv9 zbp hs
  refine hX _ ?_
  have e2:=zrg K X8 X zaa zab zaM iv9 pv9 qv9 rv9 zbp
  rw [e2]
  exact hs
theorem zBY (K : List PA → Prop) (X8 : St → Prop) (X9 : St → Prop) (zaa : (Sl Gate)) (zab : (Sl Mp)) (zb1 : Int) (zda : Int) (zpt : Int) (zpu : Int) (zlt : Int) (zcF : Bool) (zbw : (Sl Int)) :
  zhp K X8 X9 zaa zab zb1 zda zpt zpu zlt zcF zbw.len (fun i=>zak (zbw.get i)) =
  (zdd zcF
 ((((zbw.len+1) * 8≤140737488355328∧zbw.len+1≤9223372036854775807)) ∧
 (X8 (zf6 zaa zab zb1 (w64 (zda+(1:Int))) (zbw.len+1) (appG zbw.len (fun i=>zak (zbw.get i)) (fun _=>(zak zlt))))))
 (X9 (ziG zaa zab zb1 zda zpt zpu (w64 (zlt+(1:Int))) zbw.len (fun i=>zak (zbw.get i))))):=by kernel_rfl
abbrev e55 (r:((Sl Int)×Int×Int)):List PA:=[.one (.sl r.1.len 1 (fun i=>zak (r.1.get i))),.one (.int .i64 r.2.1),.one (.int .i64 r.2.2)]
attribute [irreducible] znq znr zns zkp znt zkq zks zkt zku zkv zhp
def zjd (S8:Int→Int→(Sl Int)→((Sl Int)×Int×Int)) (S9:Int→Int→Int→Int→Int→(Sl Int)→((Sl Int)×Int×Int)) (zaa:(Sl Gate)) (zab:(Sl Mp)) (zb1:Int) (zda:Int) (zpt:Int) (zpu:Int) (zlt:Int) (zcF:Bool) (zbw:(Sl Int)):((Sl Int)×Int×Int) :=
  (cond zcF
 (S8 zb1 (w64 (zda+(1:Int))) (⟨(zbw.len+1),(zdQ zbw.len zbw.get (fun _=>zlt))⟩:Sl Int))
 (S9 zb1 zda zpt zpu (w64 (zlt+(1:Int))) zbw))
def zje (P8:Int→Int→(Sl Int)→Bool) (P9:Int→Int→Int→Int→Int→(Sl Int)→Bool) (zaa:(Sl Gate)) (zab:(Sl Mp)) (zb1:Int) (zda:Int) (zpt:Int) (zpu:Int) (zlt:Int) (zcF:Bool) (zbw:(Sl Int)):Bool :=
  (cond zcF
 (decide (((zbw.len+1) * 8≤140737488355328∧zbw.len+1≤9223372036854775807)) &&
 (P8 zb1 (w64 (zda+(1:Int))) (⟨(zbw.len+1),(zdQ zbw.len zbw.get (fun _=>zlt))⟩:Sl Int)))
 (P9 zb1 zda zpt zpu (w64 (zlt+(1:Int))) zbw))
theorem ztA (K : List PA → Prop) (zaa : (Sl Gate)) (zab : (Sl Mp))
  (X8:St→Prop) (P8:Int→Int→(Sl Int)→Bool) (S8:Int→Int→(Sl Int)→((Sl Int)×Int×Int))
  (hX8:∀ (zaY:Int) (iv8:Int) (za5:(Sl Int)) (zbL:Nat→List PV) (zgx:zbL=fun i=>zak (za5.get i)),P8 zaY iv8 za5=true→K (e55 (S8 zaY iv8 za5))→X8 (zf6 zaa zab zaY iv8 za5.len zbL))
  (X9:St→Prop) (P9:Int→Int→Int→Int→Int→(Sl Int)→Bool) (S9:Int→Int→Int→Int→Int→(Sl Int)→((Sl Int)×Int×Int))
  (hX9:∀ (zaM:Int) (iv9:Int) (pv9:Int) (qv9:Int) (rv9:Int) (zbp:(Sl Int)) (zbS:Nat→List PV) (zib:zbS=fun i=>zak (zbp.get i)),P9 zaM iv9 pv9 qv9 rv9 zbp=true→K (e55 (S9 zaM iv9 pv9 qv9 rv9 zbp))→X9 (ziG zaa zab zaM iv9 pv9 qv9 rv9 zbp.len zbS)) (zb1:Int) (zda:Int) (zpt:Int) (zpu:Int) (zlt:Int) (zcF:Bool) (zbw:(Sl Int)) (zfV:Nat→List PV) (zBZ:zfV=fun i=>zak (zbw.get i)) (hs:zje P8 P9 zaa zab zb1 zda zpt zpu zlt zcF zbw=true) (hk:K (e55 (zjd S8 S9 zaa zab zb1 zda zpt zpu zlt zcF zbw))):zhp (Wk K) X8 X9 zaa zab zb1 zda zpt zpu zlt zcF zbw.len zfV:=by
  subst zBZ
  refine zaK (zBY (Wk K) X8 X9 zaa zab zb1 zda zpt zpu zlt zcF zbw) ?_
  unfold zje at hs
  unfold zjd at hk
  exact (zcu (K := fun r => K (e55 r))
 (fun hs hk=>(zaD hs fun hc hs=>⟨hc,(hX8 zb1 (w64 (zda+(1:Int))) (⟨(zbw.len+1),(zdQ zbw.len zbw.get (fun _=>zlt))⟩:Sl Int) (appG zbw.len (fun i=>zak (zbw.get i)) (fun _=>(zak zlt))) (zjV (enc:=zak) (f:=zbw.get) (h:=(fun _=>zlt)) rfl rfl) hs hk)⟩))
 (fun hs hk=>(hX9 zb1 zda zpt zpu (w64 (zlt+(1:Int))) zbw (fun i=>zak (zbw.get i)) rfl hs hk)) hs hk)
def zrh (S8:Int→Int→(Sl Int)→((Sl Int)×Int×Int)) (zaa:(Sl Gate)) (zab:(Sl Mp)) (S9:Int→Int→Int→Int→Int→(Sl Int)→((Sl Int)×Int×Int)) (zaM:Int) (iv9:Int) (pv9:Int) (qv9:Int) (rv9:Int) (zbp:(Sl Int)):((Sl Int)×Int×Int) :=
  (cond (decide (rv9 ≤ (zaa.get iv9.toNat).High))
 (cond (decide ((s85 ((zaa.get ((w64 (iv9 - (2:Int))).toNat)).Z) ((zaa.get ((w64 (iv9 - (1:Int))).toNat)).Z) ((zaa.get iv9.toNat).Z) pv9 qv9 rv9) ≤ zaM))
 (zjd S8 S9 zaa zab zaM iv9 pv9 qv9 rv9 (decide ((zd3 (((zab.get ((w64 (iv9 - (1:Int))).toNat)).F) [qv9,rv9]) 0)≤zaM)) zbp)
 (zjd S8 S9 zaa zab zaM iv9 pv9 qv9 rv9 false zbp))
 (S8 zaM (w64 (iv9+(1:Int))) zbp))
def zri (P8:Int→Int→(Sl Int)→Bool) (zaa:(Sl Gate)) (zab:(Sl Mp)) (P9:Int→Int→Int→Int→Int→(Sl Int)→Bool) (zaM:Int) (iv9:Int) (pv9:Int) (qv9:Int) (rv9:Int) (zbp:(Sl Int)):Bool :=
  (decide ((0≤iv9∧iv9 < (zaa.len:Int))) &&
 (cond (decide (rv9 ≤ (zaa.get iv9.toNat).High))
 (decide ((0≤(w64 (iv9 - (2:Int)))∧(w64 (iv9 - (2:Int))) < (zaa.len:Int))) &&
 (decide ((0≤(w64 (iv9 - (1:Int)))∧(w64 (iv9 - (1:Int))) < (zaa.len:Int))) &&
 (decide ((0≤iv9∧iv9 < (zaa.len:Int))) &&
 (decide ((p85 ((zaa.get ((w64 (iv9 - (2:Int))).toNat)).Z) ((zaa.get ((w64 (iv9 - (1:Int))).toNat)).Z) ((zaa.get iv9.toNat).Z) pv9 qv9 rv9=true)) &&
 (cond (decide ((s85 ((zaa.get ((w64 (iv9 - (2:Int))).toNat)).Z) ((zaa.get ((w64 (iv9 - (1:Int))).toNat)).Z) ((zaa.get iv9.toNat).Z) pv9 qv9 rv9) ≤ zaM))
 (decide ((0≤(w64 (iv9 - (1:Int)))∧(w64 (iv9 - (1:Int))) < (zab.len:Int))) &&
 (zje P8 P9 zaa zab zaM iv9 pv9 qv9 rv9 (decide ((zd3 (((zab.get ((w64 (iv9 - (1:Int))).toNat)).F) [qv9,rv9]) 0)≤zaM)) zbp))
 (zje P8 P9 zaa zab zaM iv9 pv9 qv9 rv9 false zbp))))))
 (P8 zaM (w64 (iv9+(1:Int))) zbp)))
def zkw (S8 : Int → Int → (Sl Int) → ((Sl Int) × Int × Int)) (zaa : (Sl Gate)) (zab : (Sl Mp)) : Nat → Int → Int → Int → Int → Int → (Sl Int) → ((Sl Int) × Int × Int)
  | 0=>fun _ _ _ _ _ _=>default
  | k+1=>zrh S8 zaa zab (zkw S8 zaa zab k)
def zkx (P8 : Int → Int → (Sl Int) → Bool) (zaa : (Sl Gate)) (zab : (Sl Mp)) : Nat → Int → Int → Int → Int → Int → (Sl Int) → Bool
  | 0=>fun _ _ _ _ _ _=>false
  | k+1=>zri P8 zaa zab (zkx P8 zaa zab k)
def zyT (S8:Int→Int→(Sl Int)→((Sl Int)×Int×Int)) (zaa:(Sl Gate)) (zab:(Sl Mp)) (zaM:Int) (iv9:Int) (pv9:Int) (qv9:Int) (rv9:Int) (zbp:(Sl Int)):((Sl Int)×Int×Int):=zkw S8 zaa zab Fuel zaM iv9 pv9 qv9 rv9 zbp
def zyU (P8:Int→Int→(Sl Int)→Bool) (zaa:(Sl Gate)) (zab:(Sl Mp)) (zaM:Int) (iv9:Int) (pv9:Int) (qv9:Int) (rv9:Int) (zbp:(Sl Int)):Bool:=zkx P8 zaa zab Fuel zaM iv9 pv9 qv9 rv9 zbp
theorem zGs (K : List PA → Prop) (zaa : (Sl Gate)) (zab : (Sl Mp))
  (X8:St→Prop) (P8:Int→Int→(Sl Int)→Bool) (S8:Int→Int→(Sl Int)→((Sl Int)×Int×Int))
  (hX8:∀ (zaY:Int) (iv8:Int) (za5:(Sl Int)) (zbL:Nat→List PV) (zgx:zbL=fun i=>zak (za5.get i)),P8 zaY iv8 za5=true→K (e55 (S8 zaY iv8 za5))→X8 (zf6 zaa zab zaY iv8 za5.len zbL)) (zaM:Int) (iv9:Int) (pv9:Int) (qv9:Int) (rv9:Int) (zbp:(Sl Int)) (zbS:Nat→List PV) (zib:zbS=fun i=>zak (zbp.get i)) (hs:zyU P8 zaa zab zaM iv9 pv9 qv9 rv9 zbp=true) (hk:K (e55 (zyT S8 zaa zab zaM iv9 pv9 qv9 rv9 zbp))):zkv (Wk K) X8 zaa zab zaM iv9 pv9 qv9 rv9 zbp.len zbS:=by
  refine zyS (Wk K) X8 zaa zab zaM iv9 pv9 qv9 rv9 zbp.len zbS ?_
  intro X9 hstep
  have key:∀ (k:Nat) (zaM:Int) (iv9:Int) (pv9:Int) (qv9:Int) (rv9:Int) (zbp:(Sl Int)) (zbS:Nat→List PV) (zib:zbS=fun i=>zak (zbp.get i)),zkx P8 zaa zab k zaM iv9 pv9 qv9 rv9 zbp=true→K (e55 (zkw S8 zaa zab k zaM iv9 pv9 qv9 rv9 zbp))→X9 (ziG zaa zab zaM iv9 pv9 qv9 rv9 zbp.len zbS):=by
    intro k
    induction k with
    | zero=>intro zaM iv9 pv9 qv9 rv9 zbp zbS zib hs;exact absurd hs Bool.false_ne_true
    | succ k ih =>
      intro zaM iv9 pv9 qv9 rv9 zbp zbS zib hs hk
      subst zib
      refine hstep zaM iv9 pv9 qv9 rv9 zbp ?_
      have hs:zri P8 zaa zab (zkx P8 zaa zab k) zaM iv9 pv9 qv9 rv9 zbp=true:=hs
      have hk:K (e55 (zrh S8 zaa zab (zkw S8 zaa zab k) zaM iv9 pv9 qv9 rv9 zbp)):=hk
      unfold zri at hs
      unfold zrh at hk
      generalize zkw S8 zaa zab k=S9 at hk ih
      generalize zkx P8 zaa zab k=P9 at hs ih
      have hX9:=ih
      exact (zaD hs fun hc hs => ⟨hc, (zcu (K := fun r => K (e55 r))
 (fun hs hk => (zaD hs fun hc hs => ⟨hc, (zaD hs fun hc hs => ⟨hc, (zaD hs fun hc hs => ⟨hc, (zaD hs fun hc hs => ⟨hc, (zcu (K := fun r => K (e55 r))
 (fun hs hk=>(zaD hs fun hc hs=>⟨hc,(ztA K zaa zab X8 P8 S8 hX8 X9 P9 S9 hX9 zaM iv9 pv9 qv9 rv9 (decide ((zd3 (((zab.get ((w64 (iv9 - (1:Int))).toNat)).F) [qv9,rv9]) 0)≤zaM)) zbp (fun i=>zak (zbp.get i)) rfl hs hk)⟩))
 (fun hs hk=>(ztA K zaa zab X8 P8 S8 hX8 X9 P9 S9 hX9 zaM iv9 pv9 qv9 rv9 false zbp (fun i=>zak (zbp.get i)) rfl hs hk)) hs hk)⟩)⟩)⟩)⟩))
 (fun hs hk=>(hX8 zaM (w64 (iv9+(1:Int))) zbp (fun i=>zak (zbp.get i)) rfl hs hk)) hs hk)⟩)
  exact key _ zaM iv9 pv9 qv9 rv9 zbp zbS zib hs hk
def zrj (zaa:(Sl Gate)) (zab:(Sl Mp)) (S8:Int→Int→(Sl Int)→((Sl Int)×Int×Int)) (zaY:Int) (iv8:Int) (za5:(Sl Int)):((Sl Int)×Int×Int) :=
  (cond (decide (iv8 < (zaa.len : Int)))
 (zyT S8 zaa zab zaY iv8 (za5.get ((w64 (iv8 - (2:Int))).toNat)) (za5.get ((w64 (iv8 - (1:Int))).toNat)) ((zaa.get iv8.toNat).Low) za5)
 (za5,zaY,(0:Int)))
def zrk (zaa:(Sl Gate)) (zab:(Sl Mp)) (P8:Int→Int→(Sl Int)→Bool) (zaY:Int) (iv8:Int) (za5:(Sl Int)):Bool :=
  (cond (decide (iv8 < (zaa.len : Int)))
 (decide ((0≤(w64 (iv8 - (2:Int)))∧(w64 (iv8 - (2:Int))) < (za5.len:Int))) &&
 (decide (((w64 (iv8 - (2:Int))).toNat < za5.len)) &&
 (decide ((0≤(w64 (iv8 - (1:Int)))∧(w64 (iv8 - (1:Int))) < (za5.len:Int))) &&
 (decide (((w64 (iv8 - (1:Int))).toNat < za5.len)) &&
 (decide ((0≤iv8∧iv8 < (zaa.len:Int))) &&
 (zyU P8 zaa zab zaY iv8 (za5.get ((w64 (iv8 - (2:Int))).toNat)) (za5.get ((w64 (iv8 - (1:Int))).toNat)) ((zaa.get iv8.toNat).Low) za5))))))
 true)
def zky (zaa : (Sl Gate)) (zab : (Sl Mp)) : Nat → Int → Int → (Sl Int) → ((Sl Int) × Int × Int)
  | 0=>fun _ _ _=>default
  | k+1=>zrj zaa zab (zky zaa zab k)
def zkz (zaa : (Sl Gate)) (zab : (Sl Mp)) : Nat → Int → Int → (Sl Int) → Bool
  | 0=>fun _ _ _=>false
  | k+1=>zrk zaa zab (zkz zaa zab k)
def zyV (zaa:(Sl Gate)) (zab:(Sl Mp)) (zaY:Int) (iv8:Int) (za5:(Sl Int)):((Sl Int)×Int×Int):=zky zaa zab Fuel zaY iv8 za5
def zyW (zaa:(Sl Gate)) (zab:(Sl Mp)) (zaY:Int) (iv8:Int) (za5:(Sl Int)):Bool:=zkz zaa zab Fuel zaY iv8 za5
theorem zGt (K:List PA→Prop) (zaa:(Sl Gate)) (zab:(Sl Mp)) (zaY:Int) (iv8:Int) (za5:(Sl Int)) (zbL:Nat→List PV) (zgx:zbL=fun i=>zak (za5.get i)) (hs:zyW zaa zab zaY iv8 za5=true) (hk:K (e55 (zyV zaa zab zaY iv8 za5))):zku (Wk K) zaa zab zaY iv8 za5.len zbL:=by
  refine zyR (Wk K) zaa zab zaY iv8 za5.len zbL ?_
  intro X8 hstep
  have key:∀ (k:Nat) (zaY:Int) (iv8:Int) (za5:(Sl Int)) (zbL:Nat→List PV) (zgx:zbL=fun i=>zak (za5.get i)),zkz zaa zab k zaY iv8 za5=true→K (e55 (zky zaa zab k zaY iv8 za5))→X8 (zf6 zaa zab zaY iv8 za5.len zbL):=by
    intro k
    induction k with
    | zero=>intro zaY iv8 za5 zbL zgx hs;exact absurd hs Bool.false_ne_true
    | succ k ih =>
      intro zaY iv8 za5 zbL zgx hs hk
      subst zgx
      refine hstep zaY iv8 za5 ?_
      have hs:zrk zaa zab (zkz zaa zab k) zaY iv8 za5=true:=hs
      have hk:K (e55 (zrj zaa zab (zky zaa zab k) zaY iv8 za5)):=hk
      unfold zrk at hs
      unfold zrj at hk
      generalize zky zaa zab k=S8 at hk ih
      generalize zkz zaa zab k=P8 at hs ih
      have hX8:=ih
      exact (zcu (K := fun r => K (e55 r))
 (fun hs hk=>(zaD hs fun hc hs=>⟨hc,(zaD hs fun hc hs=>⟨hc,(zaD hs fun hc hs=>⟨hc,(zaD hs fun hc hs=>⟨hc,(zaD hs fun hc hs=>⟨hc,(zGs K zaa zab X8 P8 S8 hX8 zaY iv8 (za5.get ((w64 (iv8 - (2:Int))).toNat)) (za5.get ((w64 (iv8 - (1:Int))).toNat)) ((zaa.get iv8.toNat).Low) za5 (fun i=>zak (za5.get i)) rfl hs hk)⟩)⟩)⟩)⟩)⟩))
 (fun hs hk=>(zd7 hk)) hs hk)
  exact key _ zaY iv8 za5 zbL zgx hs hk
def znv (zaa:(Sl Gate)) (zab:(Sl Mp)) (zds:Int) (zf0:(Sl Int)):((Sl Int)×Int×Int) :=
  (zyV zaa zab zds (2:Int) zf0)
def znw (zaa:(Sl Gate)) (zab:(Sl Mp)) (zds:Int) (zf0:(Sl Int)):Bool :=
  (zyW zaa zab zds (2:Int) zf0)
theorem zyX (K:List PA→Prop) (zaa:(Sl Gate)) (zab:(Sl Mp)) (zds:Int) (zf0:(Sl Int)) (zia:Nat→List PV) (zGu:zia=fun i=>zak (zf0.get i)) (hs:znw zaa zab zds zf0=true) (hk:K (e55 (znv zaa zab zds zf0))):zkt (Wk K) zaa zab zds zf0.len zia:=by
  subst zGu
  refine zaK (zGr (Wk K) zaa zab zds zf0) ?_
  unfold znw at hs
  unfold znv at hk
  exact (zGt K zaa zab zds (2:Int) zf0 (fun i=>zak (zf0.get i)) rfl hs hk)
def zrl (S5:Int→Int→((Sl Int)×Int×Int)) (zaa:(Sl Gate)) (zab:(Sl Mp)) (S6:Int→Int→Int→((Sl Int)×Int×Int)) (zaW:Int) (pv6:Int) (qv6:Int):((Sl Int)×Int×Int) :=
  (cond (decide (qv6 ≤ (zaa.get 1).High))
 (cond ((zd3 (((zab.get 0).F) [pv6, qv6]) 0) == zaW)
 (znv zaa zab zaW (⟨2,(zjh pv6 [pv6,qv6])⟩:Sl Int))
 (S6 zaW pv6 (w64 (qv6+(1:Int)))))
 (S5 zaW (w64 (pv6+(1:Int)))))
def zrm (P5:Int→Int→Bool) (zaa:(Sl Gate)) (zab:(Sl Mp)) (P6:Int→Int→Int→Bool) (zaW:Int) (pv6:Int) (qv6:Int):Bool :=
  (decide ((0≤(1:Int)∧(1:Int) < (zaa.len:Int))) &&
 (cond (decide (qv6 ≤ (zaa.get 1).High))
 (decide ((0≤(0:Int)∧(0:Int) < (zab.len:Int))) &&
 (cond ((zd3 (((zab.get 0).F) [pv6, qv6]) 0) == zaW)
 (znw zaa zab zaW (⟨2,(zjh pv6 [pv6,qv6])⟩:Sl Int))
 (P6 zaW pv6 (w64 (qv6+(1:Int))))))
 (P5 zaW (w64 (pv6+(1:Int))))))
def zkA (S5 : Int → Int → ((Sl Int) × Int × Int)) (zaa : (Sl Gate)) (zab : (Sl Mp)) : Nat → Int → Int → Int → ((Sl Int) × Int × Int)
  | 0=>fun _ _ _=>default
  | k+1=>zrl S5 zaa zab (zkA S5 zaa zab k)
def zkB (P5 : Int → Int → Bool) (zaa : (Sl Gate)) (zab : (Sl Mp)) : Nat → Int → Int → Int → Bool
  | 0=>fun _ _ _=>false
  | k+1=>zrm P5 zaa zab (zkB P5 zaa zab k)
def zyY (S5:Int→Int→((Sl Int)×Int×Int)) (zaa:(Sl Gate)) (zab:(Sl Mp)) (zaW:Int) (pv6:Int) (qv6:Int):((Sl Int)×Int×Int):=zkA S5 zaa zab Fuel zaW pv6 qv6
def zyZ (P5:Int→Int→Bool) (zaa:(Sl Gate)) (zab:(Sl Mp)) (zaW:Int) (pv6:Int) (qv6:Int):Bool:=zkB P5 zaa zab Fuel zaW pv6 qv6
theorem zGv (K : List PA → Prop) (zaa : (Sl Gate)) (zab : (Sl Mp))
  (X5:St→Prop) (P5:Int→Int→Bool) (S5:Int→Int→((Sl Int)×Int×Int))
  (hX5:∀ (za1:Int) (pv5:Int),P5 za1 pv5=true→K (e55 (S5 za1 pv5))→X5 (ziF zaa zab za1 pv5)) (zaW:Int) (pv6:Int) (qv6:Int) (hs:zyZ P5 zaa zab zaW pv6 qv6=true) (hk:K (e55 (zyY S5 zaa zab zaW pv6 qv6))):zks (Wk K) X5 zaa zab zaW pv6 qv6:=by
  refine zyQ (Wk K) X5 zaa zab zaW pv6 qv6 ?_
  intro X6 hstep
  have key:∀ (k:Nat) (zaW:Int) (pv6:Int) (qv6:Int),zkB P5 zaa zab k zaW pv6 qv6=true→K (e55 (zkA S5 zaa zab k zaW pv6 qv6))→X6 (zkr zaa zab zaW pv6 qv6):=by
    intro k
    induction k with
    | zero=>intro zaW pv6 qv6 hs;exact absurd hs Bool.false_ne_true
    | succ k ih =>
      intro zaW pv6 qv6 hs hk
      refine hstep zaW pv6 qv6 ?_
      have hs:zrm P5 zaa zab (zkB P5 zaa zab k) zaW pv6 qv6=true:=hs
      have hk:K (e55 (zrl S5 zaa zab (zkA S5 zaa zab k) zaW pv6 qv6)):=hk
      unfold zrm at hs
      unfold zrl at hk
      generalize zkA S5 zaa zab k=S6 at hk ih
      generalize zkB P5 zaa zab k=P6 at hs ih
      have hX6:=ih
      exact (zaD hs fun hc hs => ⟨hc, (zcu (K := fun r => K (e55 r))
 (fun hs hk => (zaD hs fun hc hs => ⟨hc, (zcu (K := fun r => K (e55 r))
 (fun hs hk=>(zyX K zaa zab zaW (⟨2,(zjh pv6 [pv6,qv6])⟩:Sl Int) (zdt [(zak pv6),(zak qv6)]) (zeH (enc:=zak) (x:=pv6) (y:=qv6) (r:=[])) hs hk))
 (fun hs hk=>(hX6 zaW pv6 (w64 (qv6+(1:Int))) hs hk)) hs hk)⟩))
 (fun hs hk=>(hX5 zaW (w64 (pv6+(1:Int))) hs hk)) hs hk)⟩)
  exact key _ zaW pv6 qv6 hs hk
def zrn (zaa:(Sl Gate)) (zab:(Sl Mp)) (S5:Int→Int→((Sl Int)×Int×Int)) (za1:Int) (pv5:Int):((Sl Int)×Int×Int) :=
  (cond (decide (pv5 ≤ (zaa.get 0).High))
 (zyY S5 zaa zab za1 pv5 ((zaa.get 1).Low))
 (znv zaa zab za1 (⟨0,(fun _=>default)⟩:Sl Int)))
def zro (zaa:(Sl Gate)) (zab:(Sl Mp)) (P5:Int→Int→Bool) (za1:Int) (pv5:Int):Bool :=
  (decide ((0≤(0:Int)∧(0:Int) < (zaa.len:Int))) &&
 (cond (decide (pv5 ≤ (zaa.get 0).High))
 (decide ((0≤(1:Int)∧(1:Int) < (zaa.len:Int))) &&
 (zyZ P5 zaa zab za1 pv5 ((zaa.get 1).Low)))
 (znw zaa zab za1 (⟨0,(fun _=>default)⟩:Sl Int))))
def zkC (zaa : (Sl Gate)) (zab : (Sl Mp)) : Nat → Int → Int → ((Sl Int) × Int × Int)
  | 0=>fun _ _=>default
  | k+1=>zrn zaa zab (zkC zaa zab k)
def zkD (zaa : (Sl Gate)) (zab : (Sl Mp)) : Nat → Int → Int → Bool
  | 0=>fun _ _=>false
  | k+1=>zro zaa zab (zkD zaa zab k)
def zy0 (zaa:(Sl Gate)) (zab:(Sl Mp)) (za1:Int) (pv5:Int):((Sl Int)×Int×Int):=zkC zaa zab Fuel za1 pv5
def zy1 (zaa:(Sl Gate)) (zab:(Sl Mp)) (za1:Int) (pv5:Int):Bool:=zkD zaa zab Fuel za1 pv5
theorem zGw (K:List PA→Prop) (zaa:(Sl Gate)) (zab:(Sl Mp)) (za1:Int) (pv5:Int) (hs:zy1 zaa zab za1 pv5=true) (hk:K (e55 (zy0 zaa zab za1 pv5))):zkq (Wk K) zaa zab za1 pv5:=by
  refine zyP (Wk K) zaa zab za1 pv5 ?_
  intro X5 hstep
  have key:∀ (k:Nat) (za1:Int) (pv5:Int),zkD zaa zab k za1 pv5=true→K (e55 (zkC zaa zab k za1 pv5))→X5 (ziF zaa zab za1 pv5):=by
    intro k
    induction k with
    | zero=>intro za1 pv5 hs;exact absurd hs Bool.false_ne_true
    | succ k ih =>
      intro za1 pv5 hs hk
      refine hstep za1 pv5 ?_
      have hs:zro zaa zab (zkD zaa zab k) za1 pv5=true:=hs
      have hk:K (e55 (zrn zaa zab (zkC zaa zab k) za1 pv5)):=hk
      unfold zro at hs
      unfold zrn at hk
      generalize zkC zaa zab k=S5 at hk ih
      generalize zkD zaa zab k=P5 at hs ih
      have hX5:=ih
      exact (zaD hs fun hc hs => ⟨hc, (zcu (K := fun r => K (e55 r))
 (fun hs hk=>(zaD hs fun hc hs=>⟨hc,(zGv K zaa zab X5 P5 S5 hX5 za1 pv5 ((zaa.get 1).Low) hs hk)⟩))
 (fun hs hk=>(zyX K zaa zab za1 (⟨0,(fun _=>default)⟩:Sl Int) (fun i=>zak ((fun _=>default) i)) rfl hs hk)) hs hk)⟩)
  exact key _ za1 pv5 hs hk
def zrp (zaa:(Sl Gate)) (zab:(Sl Mp)) (zdr:Int):((Sl Int)×Int×Int) :=
  (zy0 zaa zab zdr ((zaa.get 0).Low))
def zrq (zaa:(Sl Gate)) (zab:(Sl Mp)) (zdr:Int):Bool :=
  (decide ((0≤(0:Int)∧(0:Int) < (zaa.len:Int))) &&
 (zy1 zaa zab zdr ((zaa.get 0).Low)))
theorem zGx (K:List PA→Prop) (zaa:(Sl Gate)) (zab:(Sl Mp)) (zdr:Int) (hs:zrq zaa zab zdr=true) (hk:K (e55 (zrp zaa zab zdr))):znt (Wk K) zaa zab zdr:=by
  refine zaK (zGq (Wk K) zaa zab zdr) ?_
  unfold zrq at hs
  unfold zrp at hk
  exact (zaD hs fun hc hs=>⟨hc,(zGw K zaa zab zdr ((zaa.get 0).Low) hs hk)⟩)
def znx (zaa:(Sl Gate)) (zab:(Sl Mp)) (zaP:Int):((Sl Int)×Int×Int) :=
  (zrp zaa zab zaP)
def zny (zaa:(Sl Gate)) (zab:(Sl Mp)) (zaP:Int):Bool :=
  (zrq zaa zab zaP)
def zkE (zaa:(Sl Gate)) (zab:(Sl Mp)) (k24_0:Int) (k24_1:Int) (S3:Int→((Sl Int)×Int×Int)) (zaP:Int):((Sl Int)×Int×Int) :=
  (cond (decide (zaP < (0:Int)))
 (S3 (zd3 (((zab.get 0).F) [k24_0,k24_1]) 0))
 (cond (decide ((zd3 (((zab.get 0).F) [k24_0, k24_1]) 0) < zaP))
 (S3 (zd3 (((zab.get 0).F) [k24_0,k24_1]) 0))
 (S3 zaP)))
def zkF (zaa:(Sl Gate)) (zab:(Sl Mp)) (k24_0:Int) (k24_1:Int) (P3:Int→Bool) (zaP:Int):Bool :=
  (cond (decide (zaP < (0:Int)))
 (P3 (zd3 (((zab.get 0).F) [k24_0,k24_1]) 0))
 (cond (decide ((zd3 (((zab.get 0).F) [k24_0, k24_1]) 0) < zaP))
 (P3 (zd3 (((zab.get 0).F) [k24_0,k24_1]) 0))
 (P3 zaP)))
def zeV (zaa : (Sl Gate)) (zab : (Sl Mp)) : List (List Int) → Int → ((Sl Int) × Int × Int)
  | []=>znx zaa zab
  | y :: r=>zkE zaa zab (y.getD 0 0) (y.getD 1 0) (zeV zaa zab r)
def zeW (zaa : (Sl Gate)) (zab : (Sl Mp)) : List (List Int) → Int → Bool
  | []=>zny zaa zab
  | y :: r=>zkF zaa zab (y.getD 0 0) (y.getD 1 0) (zeW zaa zab r)
def zfz (_gates:Sl Gate) (t:Sl Mp) (ys:List (List Int)):Bool:=ys.all fun y=>decide (0≤zd3 ((t.get 0).F y) 0)
theorem zGy (zaa:Sl Gate) (t:Sl Mp):∀ (y:List Int) (r:List (List Int)),zfz zaa t (y :: r)=true→zfz zaa t r=true:=fun y r h=>by
  simp only [zfz,List.all_cons,Bool.and_eq_true] at h ⊢;exact h.2
def kst (F:List Int→Option (List Int)) (k:Int) (y:List Int):Int:=if k < 0 then zd3 (F y) 0 else if zd3 (F y) 0 < k then zd3 (F y) 0 else k
theorem ztB (F:List Int→Option (List Int)) {ys zs:List (List Int)} (h:∀ y∈ys,0≤zd3 (F y) 0) (hp:ys.Perm zs) (k:Int):ys.foldl (kst F) k=zs.foldl (kst F) k:=by
  refine hp.foldl_eq' (fun x hx y hy z=>?_) k
  have h1:=h x hx
  have h2:=h y hy
  unfold kst
  repeat' split
  all_goals omega
theorem zrr (zaa : Sl Gate) (t : Sl Mp) : ∀ (ys : List (List Int)) (k : Int), (∀ y ∈ ys, y.length = 2) → zeV zaa t ys k = znx zaa t (ys.foldl (kst (t.get 0).F) k)
  | [],k,_=>rfl
  | y :: r,k,h=>by
    have hy:=h y List.mem_cons_self
    match y,hy with
    | [a,b],_ =>
    have ih:=fun k=>zrr zaa t r k (fun z hz=>h z (List.mem_cons_of_mem _ hz))
    show zkE zaa t a b (zeV zaa t r) k=_
    rw [List.foldl_cons]
    unfold zkE
    by_cases h1:k < 0
    · rw [decide_eq_true h1,cond_true,ih,show kst (t.get 0).F k [a,b]=zd3 ((t.get 0).F [a,b]) 0 from if_pos h1]
    · rw [decide_eq_false h1, cond_false]
      by_cases h2:zd3 ((t.get 0).F [a,b]) 0 < k
      · rw [decide_eq_true h2,cond_true,ih,show kst (t.get 0).F k [a,b]=zd3 ((t.get 0).F [a,b]) 0 from (if_neg h1).trans (if_pos h2)]
      · rw [decide_eq_false h2,cond_false,ih,show kst (t.get 0).F k [a,b]=k from (if_neg h1).trans (if_neg h2)]
theorem zrt (zaa : Sl Gate) (t : Sl Mp) : ∀ (ys : List (List Int)) (k : Int), (∀ y ∈ ys, y.length = 2) → zeW zaa t ys k = zny zaa t (ys.foldl (kst (t.get 0).F) k)
  | [],k,_=>rfl
  | y :: r,k,h=>by
    have hy:=h y List.mem_cons_self
    match y,hy with
    | [a,b],_ =>
    have ih:=fun k=>zrt zaa t r k (fun z hz=>h z (List.mem_cons_of_mem _ hz))
    show zkF zaa t a b (zeW zaa t r) k=_
    rw [List.foldl_cons]
    unfold zkF
    by_cases h1:k < 0
    · rw [decide_eq_true h1,cond_true,ih,show kst (t.get 0).F k [a,b]=zd3 ((t.get 0).F [a,b]) 0 from if_pos h1]
    · rw [decide_eq_false h1, cond_false]
      by_cases h2:zd3 ((t.get 0).F [a,b]) 0 < k
      · rw [decide_eq_true h2,cond_true,ih,show kst (t.get 0).F k [a,b]=zd3 ((t.get 0).F [a,b]) 0 from (if_neg h1).trans (if_pos h2)]
      · rw [decide_eq_false h2,cond_false,ih,show kst (t.get 0).F k [a,b]=k from (if_neg h1).trans (if_neg h2)]
theorem zGz (zaa : Sl Gate) (t : Sl Mp) (ys zs : List (List Int)) (hl : ∀ y ∈ ys, y.length = 2) (h : zfz zaa t ys = true) (hp : ys.Perm zs) :
    zfz zaa t zs=true∧zeV zaa t ys=zeV zaa t zs∧zeW zaa t ys=zeW zaa t zs:=by
  simp only [zfz,List.all_eq_true,decide_eq_true_eq] at h ⊢
  have hl2:∀ y∈zs,y.length=2:=fun y hy=>hl y (hp.mem_iff.2 hy)
  refine ⟨fun y hy=>h y (hp.mem_iff.2 hy),funext fun k=>?_,funext fun k=>?_⟩
  · rw [zrr zaa t ys k hl,zrr zaa t zs k hl2,ztB _ h hp]
  · rw [zrt zaa t ys k hl,zrt zaa t zs k hl2,ztB _ h hp]
def zru (zaa:(Sl Gate)) (zab:(Sl Mp)) (zaP:Int):((Sl Int)×Int×Int):=zeV zaa zab (zpc zaa) zaP
def zrv (zaa:(Sl Gate)) (zab:(Sl Mp)) (zaP:Int):Bool:=keysB 2 ((zab.get 0).n) ((zab.get 0).F) (zpc zaa) && zfz zaa zab (zpc zaa) && zeW zaa zab (zpc zaa) zaP
theorem zGA (K:List PA→Prop) (zaa:(Sl Gate)) (zab:(Sl Mp)) (zaP:Int) (hs:zrv zaa zab zaP=true) (hk:K (e55 (zru zaa zab zaP))):zkp (Wk K) zaa zab [] zaP:=by
  unfold zrv at hs
  rw [Bool.and_eq_true,Bool.and_eq_true] at hs
  obtain ⟨⟨hkeys,hI⟩,hs⟩:=hs
  unfold zru at hk
  generalize hys:zpc zaa=ys0 at hkeys hI hs hk
  refine zyO (Wk K) zaa zab [] zaP ?_
  intro X3 hstep
  have key:∀ (N:Nat) (ys:List (List Int)) (seen:List (List Int)) (zaP:Int),ys.length=N→(zIj 2 ((zab.get 0).n) ((zab.get 0).F)→zIK 2 ((zab.get 0).F) seen ys)→zfz zaa zab ys=true→zeW zaa zab ys zaP=true→K (e55 (zeV zaa zab ys zaP))→X3 (zho zaa zab seen zaP):=by
    intro N
    induction N with
    | zero =>
      intro ys seen zaP hN hrem hI hs hk
      obtain rfl:=List.eq_nil_of_length_eq_zero hN
      refine hstep seen zaP ?_
      intro hfin
      have hrem:=hrem hfin
      refine ⟨fun _=>?_,fun k24_0 k24_1 hF hns=>absurd (hrem.2.2 [k24_0,k24_1] rfl hF hns) (by simp)⟩
      have hs:zny zaa zab zaP=true:=hs
      have hk:K (e55 (znx zaa zab zaP)):=hk
      unfold zny at hs
      unfold znx at hk
      exact (zGx K zaa zab zaP hs hk)
    | succ N ih =>
      intro ys seen zaP hN hrem hI hs hk
      refine hstep seen zaP ?_
      intro hfin
      have hrem:=hrem hfin
      refine ⟨fun hend=>?_,fun k24_0 k24_1 hF hns=>?_⟩
      · exact absurd (zEj hrem hend) (fun e=>by rw [e] at hN;simp at hN)
      · obtain ⟨hperm, hrem2, hlen⟩ := zBo hrem (c := [k24_0, k24_1]) rfl hF hns
        obtain ⟨hI2,e1,e2⟩:=zGz zaa zab ys _ (fun y hy=>(hrem.2.1 y hy).1) hI hperm
        have hI3:=zGy zaa zab _ _ hI2
        rw [e2] at hs
        rw [e1] at hk
        have hs:zkF zaa zab k24_0 k24_1 (zeW zaa zab (ys.erase [k24_0,k24_1])) zaP=true:=hs
        have hk:K (e55 (zkE zaa zab k24_0 k24_1 (zeV zaa zab (ys.erase [k24_0,k24_1])) zaP)):=hk
        have ih:=fun (zaP:Int)=>ih (ys.erase [k24_0,k24_1]) ([k24_0,k24_1] :: seen) zaP (by omega) (fun _=>hrem2) hI3
        unfold zkF at hs
        unfold zkE at hk
        generalize zeV zaa zab (ys.erase [k24_0,k24_1])=S3 at hk ih
        generalize zeW zaa zab (ys.erase [k24_0,k24_1])=P3 at hs ih
        have hX3:=ih
        exact (zcu (K := fun r => K (e55 r))
 (fun hs hk=>(hX3 (zd3 (((zab.get 0).F) [k24_0,k24_1]) 0) hs hk))
 (fun hs hk => (zcu (K := fun r => K (e55 r))
 (fun hs hk=>(hX3 (zd3 (((zab.get 0).F) [k24_0,k24_1]) 0) hs hk))
 (fun hs hk=>(hX3 zaP hs hk)) hs hk)) hs hk)
  exact key _ ys0 [] zaP rfl (fun hf=>zvM hkeys hf) hI hs hk
def zrx (zaa:(Sl Gate)) (zab:(Sl Mp)):((Sl Int)×Int×Int) :=
  (zru zaa zab (-1:Int))
def zry (zaa:(Sl Gate)) (zab:(Sl Mp)):Bool :=
  (decide ((0≤(0:Int)∧(0:Int) < (zab.len:Int))) &&
 (zrv zaa zab (-1:Int)))
theorem zGB (K:List PA→Prop) (zaa:(Sl Gate)) (zab:(Sl Mp)) (zes:Nat→List PV) (zy2:zes=fun i=>zcR (zab.get i)) (hs:zry zaa zab=true) (hk:K (e55 (zrx zaa zab))):zns (Wk K) zaa zab.len zes:=by
  subst zy2
  refine zaK (zGp (Wk K) zaa zab) ?_
  unfold zry at hs
  unfold zrx at hk
  exact (zaD hs fun hc hs=>⟨hc,(zGA K zaa zab (-1:Int) hs hk)⟩)
def zrz (zaa:(Sl Gate)):((Sl Int)×Int×Int) :=
  (zrx zaa (s93 zaa))
def zrA (zaa:(Sl Gate)):Bool :=
  (decide ((p93 zaa=true)) &&
 (zry zaa (s93 zaa)))
theorem zGC (K:List PA→Prop) (zaa:(Sl Gate)) (hs:zrA zaa=true) (hk:K (e55 (zrz zaa))):znr (Wk K) zaa:=by
  refine zaK (zGo (Wk K) zaa) ?_
  unfold zrA at hs
  unfold zrz at hk
  exact (zaD hs fun hc hs=>⟨⟨isE,hc⟩,(zGB K zaa (s93 zaa) (fun i=>zcR ((s93 zaa).get i)) rfl hs hk)⟩)
def zrB (zaa:(Sl Gate)) (zgw:Bool):((Sl Int)×Int×Int) :=
  (cond zgw
 ((⟨0,fun _=>default⟩:(Sl Int)),(0:Int),(2:Int))
 (zrz zaa))
def zrC (zaa:(Sl Gate)) (zgw:Bool):Bool :=
  (cond zgw
 true
 (zrA zaa))
theorem zGD (K:List PA→Prop) (zaa:(Sl Gate)) (zgw:Bool) (hs:zrC zaa zgw=true) (hk:K (e55 (zrB zaa zgw))):znq (Wk K) zaa zgw:=by
  refine zaK (zGn (Wk K) zaa zgw) ?_
  unfold zrC at hs
  unfold zrB at hk
  exact (zcu (K := fun r => K (e55 r))
 (fun hs hk=>(wk hk (zc9 (.one (.nil _ _)) (zc9 (.one (.rfl _)) (zc9 (.one (.rfl _)) zhD)))))
 (fun hs hk=>(zGC K zaa hs hk)) hs hk)
def s55 (zaa:(Sl Gate)):((Sl Int)×Int×Int) :=
  (zrB zaa (!(s92 zaa)))
def p55 (zaa:(Sl Gate)):Bool :=
  (decide ((p92 zaa=true)) &&
 (zrC zaa (!(s92 zaa))))
theorem q55 (zaa:(Sl Gate)) (K:List PA→Prop) (hs:p55 zaa=true) (hk:K (e55 (s55 zaa))):vcFun Try.prog G55 za6 55 [.one (.sl zaa.len 3 (fun i=>enc_55 (zaa.get i)))] (Wk K):=by
  refine zaK (zGm zaa (Wk K)) ?_
  unfold p55 at hs
  unfold s55 at hk
  exact (zaD hs fun hc hs=>⟨⟨isE,hc⟩,(zGD K zaa (!(s92 zaa)) hs hk)⟩)
def zGE : List PA → COut
  | [.one (.sl a0_n a0_s a0_g)]=>.det (IsE enc_55 3 a0_s a0_g∧p55 (⟨a0_n,zae a0_g⟩:(Sl Gate))=true) [.one (.sl (((s55 (⟨a0_n,zae a0_g⟩:(Sl Gate))).1).len) 1 (fun i=>zak (((s55 (⟨a0_n,zae a0_g⟩:(Sl Gate))).1).get i))),.one (.int .i64 ((s55 (⟨a0_n,zae a0_g⟩:(Sl Gate))).2.1)),.one (.int .i64 ((s55 (⟨a0_n,zae a0_g⟩:(Sl Gate))).2.2))]
  | _=>.no
theorem zKl:zah Try.prog 55:=⟨_,rfl,rfl,by kernel_rfl⟩
theorem zPP:Ok Try.prog 55 zGE:=zgi zMU zKl fun args K h=>by
  unfold zGE at h
  split at h
  · rename_i a0_n a0_s a0_g
    obtain ⟨⟨⟨rfl,a0_f,rfl⟩,hs⟩,hk⟩:=h
    try rw [zac a0_f] at hs
    try rw [zac a0_f] at hk
    exact ⟨_,ze6 zfi _,(fun _ _=>[]),(fun _=>false),za6,q55 (⟨a0_n,a0_f⟩:(Sl Gate)) K hs hk⟩
  · exact h.elim
abbrev T62:Tabs:=Tabs.nil
theorem zMV:TabsOk Try.prog T62:=TabsOk.nil
abbrev G62:Ctrs:=csm T62 (fun _ _=>[]) (fun _=>false)
def zKm:Ann:=⟨5,[(0,zK [] []),(1,zK [0] [4])],
 [],
 [],
 [],[]⟩
abbrev R62:=(Sl Gate)
abbrev e62 (r:R62):List PA:=[.one (.sl r.len 3 (fun i=>enc_55 (r.get i)))]
section
variable {K:List PA→Prop}
def s62:(Sl Gate) :=
  (⟨3,(zjh (⟨(0:Int),(0:Int),(10:Int)⟩:Gate) [(⟨(0:Int),(0:Int),(10:Int)⟩:Gate),(⟨(100:Int),(20:Int),(30:Int)⟩:Gate),(⟨(200:Int),(30:Int),(60:Int)⟩:Gate)])⟩:(Sl Gate))
end
theorem q62 (K:List PA→Prop) (hk:K (e62 (s62))):vcFun Try.prog G62 zKm 62 [] K :=
  zaK (by kernel_rfl) (Eq.mpr (congrArg K (congrArg (fun (g_:Nat→List PV)=>([.one (.sl 3 3 g_)]:List PA)) (zeH (enc:=enc_55) (x:=(⟨(0:Int),(0:Int),(10:Int)⟩:Gate)) (y:=(⟨(100:Int),(20:Int),(30:Int)⟩:Gate)) (r:=[(⟨(200:Int),(30:Int),(60:Int)⟩:Gate)])))) hk)
def zGF : List PA → COut
  | []=>.tot [.one (.sl ((s62).len) 3 (fun i=>enc_55 ((s62).get i)))]
  | _=>.no
theorem zKn:zah Try.prog 62:=⟨_,rfl,rfl,by kernel_rfl⟩
theorem zPQ:Ok Try.prog 62 zGF:=zaN zMV zKn fun args K h=>by
  unfold zGF at h
  split at h
  · have hk := h
    exact ⟨(fun _ _=>[]),(fun _=>false),zKm,q62 K hk⟩
  · exact h.elim
abbrev T63:Tabs:=Tabs.nil
theorem zMW:TabsOk Try.prog T63:=TabsOk.nil
abbrev G63:Ctrs:=csm T63 (fun _ _=>[]) (fun _=>false)
def zKo:Ann:=⟨5,[(0,zK [] []),(1,zK [0] [4])],
 [],
 [],
 [],[]⟩
abbrev R63:=(Sl Gate)
abbrev e63 (r:R63):List PA:=[.one (.sl r.len 3 (fun i=>enc_55 (r.get i)))]
section
variable {K:List PA→Prop}
def s63:(Sl Gate) :=
  (⟨3,(zjh (⟨(0:Int),(0:Int),(10:Int)⟩:Gate) [(⟨(0:Int),(0:Int),(10:Int)⟩:Gate),(⟨(100:Int),(20:Int),(30:Int)⟩:Gate),(⟨(200:Int),(0:Int),(9:Int)⟩:Gate)])⟩:(Sl Gate))
end
theorem q63 (K:List PA→Prop) (hk:K (e63 (s63))):vcFun Try.prog G63 zKo 63 [] K :=
  zaK (by kernel_rfl) (Eq.mpr (congrArg K (congrArg (fun (g_:Nat→List PV)=>([.one (.sl 3 3 g_)]:List PA)) (zeH (enc:=enc_55) (x:=(⟨(0:Int),(0:Int),(10:Int)⟩:Gate)) (y:=(⟨(100:Int),(20:Int),(30:Int)⟩:Gate)) (r:=[(⟨(200:Int),(0:Int),(9:Int)⟩:Gate)])))) hk)
def zGG : List PA → COut
  | []=>.tot [.one (.sl ((s63).len) 3 (fun i=>enc_55 ((s63).get i)))]
  | _=>.no
theorem zKp:zah Try.prog 63:=⟨_,rfl,rfl,by kernel_rfl⟩
theorem zPR:Ok Try.prog 63 zGG:=zaN zMW zKp fun args K h=>by
  unfold zGG at h
  split at h
  · have hk := h
    exact ⟨(fun _ _=>[]),(fun _=>false),zKo,q63 K hk⟩
  · exact h.elim
abbrev T18:Tabs:=((((((((((Tabs.nil.addF 19 zFI).addF 30 zBP).addF 31 zBR).addF 34 zFM).addF 38 zF3).addF 39 zF6).addF 40 zuy).addF 55 zGE).addF 62 zGF).addF 63 zGG)
theorem zMX:TabsOk Try.prog T18:=((((((((((TabsOk.nil.addF zPI).addF zOc).addF zOh).addF zPJ).addF zPL).addF zPM).addF zMQ).addF zPP).addF zPQ).addF zPR)
abbrev G18:Ctrs:=csm T18 (fun _ _=>[]) (fun _=>false)
def zGH:Ann:=⟨125,[(0,zK [] []),(1,zK [1,2] []),(2,zK [1,2,3,4,5] [3,4]),(3,zK [1,2,3,4,5,6,7] [3,4]),(4,zK [1,2,3,4,5,6,7,8,9,10,11] [3,4,9,10]),(5,zK [1,2,3,4,5,6,7,8,9,10,11,12,13,14] [3,4,9,10]),(6,zK [1,3,4,6,9,10,12,76] [3,4,9,10]),(7,zK [0] []),(8,zK [1,3,4,6,9,10,12,15] [3,4,9,10,89]),(9,zK [0] [])],
 [],
 [(2,zK [1,2] []),(3,zK [1,2,3,4,5] [3,4]),(4,zK [1,2,3,4,5,6,7] [3,4]),(5,zK [1,2,3,4,5,6,7,8,9,10,11] [3,4,9,10]),(6,zK [1,2,3,4,5,6,7,8,9,10,11,12,13,14] [3,4,9,10]),(8,zK [1,3,4,6,9,10,12] [3,4,9,10]),(9,zK [1,3,4,6,9,10,12,15] [3,4,9,10,89])],
 [],[]⟩
abbrev R18:=Bool
abbrev e18 (r:R18):List PA:=[.one (.bool r)]
@[irreducible] def z18:=ptF Try.prog G18 zGH Try.f18
section
variable {K:List PA→Prop} {cv0:(Sl Line)} {ev0:Int} {zKq:Nat→List PV} {fv1:Int} {zbV:Int} {zbW:Int} {zbX:Int} {zbY:Int} {sv2:(Sl Int)} {gv2:Int} {zKr:Nat→List PV} {sv3:(Sl Int)} {zv3:Int} {hv3:Int} {zcZ:Int} {zc0:Int} {zc1:Int} {zc2:Int} {zKs:Nat→List PV} {sv4:(Sl Int)} {lv4:(Sl Int)} {kv4:Int} {iv4:Int} {zKt:Nat→List PV} {zKu:Nat→List PV} {sv5:(Sl Int)} {zKv:Nat→List PV} {sv6:(Sl Int)} {zlA:(Sl Line)} {zKw:Nat→List PV} {zy3:Nat→List PV}
def zy4 (cv0:(Sl Line)) (zbV:Int) (zbW:Int) (zbX:Int) (zbY:Int) (zcZ:Int) (zc0:Int) (zc1:Int) (zc2:Int) (lv4:(Sl Int)) (sv6:(Sl Int)) (zlA:(Sl Line)):Bool :=
  (cond (s34 cv0 zlA)
 (cond (match (zbV == (s40 (40:Int) (1:Int)).Num) with | true => (match (zbW == (s40 (40:Int) (1:Int)).Den) with | true => true | false => false) | false => false)
 (cond (match (zbX == (s40 (90:Int) (1:Int)).Num) with | true => (match (zbY == (s40 (90:Int) (1:Int)).Den) with | true => true | false => false) | false => false)
 (cond ((s39 sv6 (⟨3, zc4 (zdt [(zak (0:Int)), (zak (1:Int)), (zak (2:Int))])⟩ : (Sl Int))) == (0:Int))
 (cond (match (zcZ == (s40 (499:Int) (10:Int)).Num) with | true => (match (zc0 == (s40 (499:Int) (10:Int)).Den) with | true => true | false => false) | false => false)
 (cond (match (zc1 == (s40 (501:Int) (10:Int)).Num) with | true => (match (zc2 == (s40 (501:Int) (10:Int)).Den) with | true => true | false => false) | false => false)
 ((s39 lv4 (⟨3,zc4 (zdt [(zak (2:Int)),(zak (5:Int)),(zak (2:Int))])⟩:(Sl Int))) == (0:Int))
 false)
 false)
 false)
 false)
 false)
 false)
def zy5 (cv0:(Sl Line)) (zbV:Int) (zbW:Int) (zbX:Int) (zbY:Int) (zcZ:Int) (zc0:Int) (zc1:Int) (zc2:Int) (lv4:(Sl Int)) (sv6:(Sl Int)) (zlA:(Sl Line)):Bool :=
  (decide ((p34 cv0 zlA=true)) &&
 (cond (s34 cv0 zlA)
 (decide ((p40 (40:Int) (1:Int)=true)) &&
 (cond (match (zbV == (s40 (40:Int) (1:Int)).Num) with | true => (match (zbW == (s40 (40:Int) (1:Int)).Den) with | true => true | false => false) | false => false)
 (decide ((p40 (90:Int) (1:Int)=true)) &&
 (cond (match (zbX == (s40 (90:Int) (1:Int)).Num) with | true => (match (zbY == (s40 (90:Int) (1:Int)).Den) with | true => true | false => false) | false => false)
 (decide ((p39 sv6 (⟨3,zc4 (zdt [(zak (0:Int)),(zak (1:Int)),(zak (2:Int))])⟩:(Sl Int))=true)) &&
 (cond ((s39 sv6 (⟨3, zc4 (zdt [(zak (0:Int)), (zak (1:Int)), (zak (2:Int))])⟩ : (Sl Int))) == (0:Int))
 (decide ((p40 (499:Int) (10:Int)=true)) &&
 (cond (match (zcZ == (s40 (499:Int) (10:Int)).Num) with | true => (match (zc0 == (s40 (499:Int) (10:Int)).Den) with | true => true | false => false) | false => false)
 (decide ((p40 (501:Int) (10:Int)=true)) &&
 (cond (match (zc1 == (s40 (501:Int) (10:Int)).Num) with | true => (match (zc2 == (s40 (501:Int) (10:Int)).Den) with | true => true | false => false) | false => false)
 (decide ((p39 lv4 (⟨3,zc4 (zdt [(zak (2:Int)),(zak (5:Int)),(zak (2:Int))])⟩:(Sl Int))=true)) &&
 true)
 true))
 true))
 true))
 true))
 true))
 true))
theorem zGI (hs:zy5 cv0 zbV zbW zbX zbY zcZ zc0 zc1 zc2 lv4 sv6 zlA=true) (hk:K (e18 (zy4 cv0 zbV zbW zbX zbY zcZ zc0 zc1 zc2 lv4 sv6 zlA))) (zMY:zKw=zg zak sv6) (zGJ:zy3=zg zaL zlA):z18 K [1,1,1,1,1,1,1,1] [] ⟨[(1,zS zaL 4 cv0),(3,zp 3 0),(4,zp 4 0),(6,zP (.sl sv6.len 1 zKw)),(9,zp 9 0),(10,zp 10 0),(12,zS zak 1 lv4),(15,zv 89)],[(3,.box 25 (zm (zad (⟨zbV,zbW⟩:Frac)))),(4,.box 25 (zm (zad (⟨zbX,zbY⟩:Frac)))),(9,.box 25 (zm (zad (⟨zcZ,zc0⟩:Frac)))),(10,.box 25 (zm (zad (⟨zc1,zc2⟩:Frac)))),(89,.vec 37 4 32 zlA.len zy3)],[]⟩:=by subst zMY;subst zGJ;exact zaK (by kernel_rfl) (zaD hs fun hc hs=>And.intro (And.intro (zE zaL 4 cv0.get) (And.intro (zE zaL 4 zlA.get) hc)) (zc hs hk (fun hs hk=>(zaD hs fun hc hs=>And.intro hc (zc hs hk (fun hs hk=>(zaD hs fun hc hs=>And.intro hc (zc hs hk (fun hs hk=>(zaD hs fun hc hs=>And.intro (And.intro (zE zak 1 sv6.get) (And.intro ((zfM [(2:Int)]):IsE zak 1 1 (zdt [(zak (0:Int)),(zak (1:Int)),(zak (2:Int))])) hc)) (zc hs hk (fun hs hk=>(zaD hs fun hc hs=>And.intro hc (zc hs hk (fun hs hk=>(zaD hs fun hc hs=>And.intro hc (zc hs hk (fun hs hk=>(zaD hs fun hc hs=>And.intro (And.intro (zE zak 1 lv4.get) (And.intro ((zfM [(2:Int)]):IsE zak 1 1 (zdt [(zak (2:Int)),(zak (5:Int)),(zak (2:Int))])) hc)) hk)) (fun hs hk=>hk)))) (fun hs hk=>hk)))) (fun hs hk=>hk)))) (fun hs hk=>hk)))) (fun hs hk=>hk)))) (fun hs hk=>hk)))
def zy6 (cv0:(Sl Line)) (zbV:Int) (zbW:Int) (zbX:Int) (zbY:Int) (zcZ:Int) (zc0:Int) (zc1:Int) (zc2:Int) (lv4:(Sl Int)) (sv5:(Sl Int)):Bool :=
  (zy4 cv0 zbV zbW zbX zbY zcZ zc0 zc1 zc2 lv4 sv5 (⟨4,(zjh (⟨(s40 (1:Int) (10:Int)),(s40 (10:Int) (1:Int))⟩:Line) [(⟨(s40 (1:Int) (10:Int)),(s40 (10:Int) (1:Int))⟩:Line),(⟨(s40 (1:Int) (5:Int)),(s40 (0:Int) (1:Int))⟩:Line),(⟨(s40 (3:Int) (10:Int)),(s40 (0:Int) (1:Int))⟩:Line),(⟨(s40 (1:Int) (5:Int)),(s40 (10:Int) (1:Int))⟩:Line)])⟩:Sl Line))
def zy7 (cv0:(Sl Line)) (zbV:Int) (zbW:Int) (zbX:Int) (zbY:Int) (zcZ:Int) (zc0:Int) (zc1:Int) (zc2:Int) (lv4:(Sl Int)) (sv5:(Sl Int)):Bool :=
  (decide ((p40 (1:Int) (10:Int)=true)) &&
 (decide ((p40 (10:Int) (1:Int)=true)) &&
 (decide ((p40 (1:Int) (5:Int)=true)) &&
 (decide ((p40 (0:Int) (1:Int)=true)) &&
 (decide ((p40 (3:Int) (10:Int)=true)) &&
 (decide ((p40 (0:Int) (1:Int)=true)) &&
 (decide ((p40 (1:Int) (5:Int)=true)) &&
 (decide ((p40 (10:Int) (1:Int)=true)) &&
 (zy5 cv0 zbV zbW zbX zbY zcZ zc0 zc1 zc2 lv4 sv5 (⟨4,(zjh (⟨(s40 (1:Int) (10:Int)),(s40 (10:Int) (1:Int))⟩:Line) [(⟨(s40 (1:Int) (10:Int)),(s40 (10:Int) (1:Int))⟩:Line),(⟨(s40 (1:Int) (5:Int)),(s40 (0:Int) (1:Int))⟩:Line),(⟨(s40 (3:Int) (10:Int)),(s40 (0:Int) (1:Int))⟩:Line),(⟨(s40 (1:Int) (5:Int)),(s40 (10:Int) (1:Int))⟩:Line)])⟩:Sl Line))))))))))
theorem zGK (hs:zy7 cv0 zbV zbW zbX zbY zcZ zc0 zc1 zc2 lv4 sv5=true) (hk:K (e18 (zy6 cv0 zbV zbW zbX zbY zcZ zc0 zc1 zc2 lv4 sv5))) (zMZ:zKv=zg zak sv5):z18 K [1,1,1,1,1,1,1] [] ⟨[(1,zS zaL 4 cv0),(3,zp 3 0),(4,zp 4 0),(6,zP (.sl sv5.len 1 zKv)),(9,zp 9 0),(10,zp 10 0),(12,zS zak 1 lv4)],[(3,.box 25 (zm (zad (⟨zbV,zbW⟩:Frac)))),(4,.box 25 (zm (zad (⟨zbX,zbY⟩:Frac)))),(9,.box 25 (zm (zad (⟨zcZ,zc0⟩:Frac)))),(10,.box 25 (zm (zad (⟨zc1,zc2⟩:Frac))))],[]⟩:=by subst zMZ;exact zaK (by kernel_rfl) (zaD hs fun hc hs=>And.intro hc (zaD hs fun hc hs=>And.intro hc (zaD hs fun hc hs=>And.intro hc (zaD hs fun hc hs=>And.intro hc (zaD hs fun hc hs=>And.intro hc (zaD hs fun hc hs=>And.intro hc (zaD hs fun hc hs=>And.intro hc (zaD hs fun hc hs=>And.intro hc (zGI hs hk rfl (zeH (enc:=zaL) (x:=(⟨(s40 (1:Int) (10:Int)),(s40 (10:Int) (1:Int))⟩:Line)) (y:=(⟨(s40 (1:Int) (5:Int)),(s40 (0:Int) (1:Int))⟩:Line)) (r:=[(⟨(s40 (3:Int) (10:Int)),(s40 (0:Int) (1:Int))⟩:Line),(⟨(s40 (1:Int) (5:Int)),(s40 (10:Int) (1:Int))⟩:Line)])))))))))))
def zy8 (cv0:(Sl Line)) (ev0:Int) (fv1:Int) (zbV:Int) (zbW:Int) (zbX:Int) (zbY:Int) (gv2:Int) (zv3:Int) (hv3:Int) (zcZ:Int) (zc0:Int) (zc1:Int) (zc2:Int) (sv4:(Sl Int)) (lv4:(Sl Int)) (kv4:Int) (iv4:Int):Bool :=
  (cond (ev0 != (0:Int))
 false
 (cond (fv1 != (0:Int))
 false
 (cond (gv2 != (0:Int))
 false
 (cond (hv3 != (0:Int))
 false
 (cond (iv4 != (0:Int))
 false
 (cond (kv4 != (600:Int))
 false
 (cond (zv3 != (167:Int))
 false
 (zy6 cv0 zbV zbW zbX zbY zcZ zc0 zc1 zc2 lv4 sv4))))))))
def zy9 (cv0:(Sl Line)) (ev0:Int) (fv1:Int) (zbV:Int) (zbW:Int) (zbX:Int) (zbY:Int) (gv2:Int) (zv3:Int) (hv3:Int) (zcZ:Int) (zc0:Int) (zc1:Int) (zc2:Int) (sv4:(Sl Int)) (lv4:(Sl Int)) (kv4:Int) (iv4:Int):Bool :=
  (cond (ev0 != (0:Int))
 true
 (cond (fv1 != (0:Int))
 true
 (cond (gv2 != (0:Int))
 true
 (cond (hv3 != (0:Int))
 true
 (cond (iv4 != (0:Int))
 true
 (cond (kv4 != (600:Int))
 true
 (cond (zv3 != (167:Int))
 true
 (zy7 cv0 zbV zbW zbX zbY zcZ zc0 zc1 zc2 lv4 sv4))))))))
theorem zGL (hs:zy9 cv0 ev0 fv1 zbV zbW zbX zbY gv2 zv3 hv3 zcZ zc0 zc1 zc2 sv4 lv4 kv4 iv4=true) (hk:K (e18 (zy8 cv0 ev0 fv1 zbV zbW zbX zbY gv2 zv3 hv3 zcZ zc0 zc1 zc2 sv4 lv4 kv4 iv4))) (zM0:zKt=zg zak sv4) (zM1:zKu=zg zak lv4):z18 K [1,1,1,1,1,1] [] ⟨[(1,zS zaL 4 cv0),(2,zI ev0),(3,zp 3 0),(4,zp 4 0),(5,zI fv1),(6,zP (.sl sv4.len 1 zKt)),(7,zI gv2),(8,zI zv3),(9,zp 9 0),(10,zp 10 0),(11,zI hv3),(12,zP (.sl lv4.len 1 zKu)),(13,zI kv4),(14,zI iv4)],[(3,.box 25 (zm (zad (⟨zbV,zbW⟩:Frac)))),(4,.box 25 (zm (zad (⟨zbX,zbY⟩:Frac)))),(9,.box 25 (zm (zad (⟨zcZ,zc0⟩:Frac)))),(10,.box 25 (zm (zad (⟨zc1,zc2⟩:Frac))))],[]⟩:=by subst zM0;subst zM1;exact zaK (by kernel_rfl) (zc hs hk (fun hs hk=>hk) (fun hs hk=>(zc hs hk (fun hs hk=>hk) (fun hs hk=>(zc hs hk (fun hs hk=>hk) (fun hs hk=>(zc hs hk (fun hs hk=>hk) (fun hs hk=>(zc hs hk (fun hs hk=>hk) (fun hs hk=>(zc hs hk (fun hs hk=>hk) (fun hs hk=>(zc hs hk (fun hs hk=>hk) (fun hs hk=>(zGK hs hk rfl)))))))))))))))
def zza (cv0:(Sl Line)) (ev0:Int) (fv1:Int) (zbV:Int) (zbW:Int) (zbX:Int) (zbY:Int) (gv2:Int) (sv3:(Sl Int)) (zv3:Int) (hv3:Int) (zcZ:Int) (zc0:Int) (zc1:Int) (zc2:Int):Bool :=
  (zy8 cv0 ev0 fv1 zbV zbW zbX zbY gv2 zv3 hv3 zcZ zc0 zc1 zc2 sv3 ((s55 (⟨3,zae (zdt [(enc_55 (⟨(0:Int),(0:Int),(2:Int)⟩:Gate)),(enc_55 (⟨(10:Int),(5:Int),(6:Int)⟩:Gate)),(enc_55 (⟨(20:Int),(0:Int),(2:Int)⟩:Gate))])⟩:(Sl Gate))).1) ((s55 (⟨3,zae (zdt [(enc_55 (⟨(0:Int),(0:Int),(2:Int)⟩:Gate)),(enc_55 (⟨(10:Int),(5:Int),(6:Int)⟩:Gate)),(enc_55 (⟨(20:Int),(0:Int),(2:Int)⟩:Gate))])⟩:(Sl Gate))).2.1) ((s55 (⟨3,zae (zdt [(enc_55 (⟨(0:Int),(0:Int),(2:Int)⟩:Gate)),(enc_55 (⟨(10:Int),(5:Int),(6:Int)⟩:Gate)),(enc_55 (⟨(20:Int),(0:Int),(2:Int)⟩:Gate))])⟩:(Sl Gate))).2.2))
def zzb (cv0:(Sl Line)) (ev0:Int) (fv1:Int) (zbV:Int) (zbW:Int) (zbX:Int) (zbY:Int) (gv2:Int) (sv3:(Sl Int)) (zv3:Int) (hv3:Int) (zcZ:Int) (zc0:Int) (zc1:Int) (zc2:Int):Bool :=
  (decide ((p55 (⟨3,zae (zdt [(enc_55 (⟨(0:Int),(0:Int),(2:Int)⟩:Gate)),(enc_55 (⟨(10:Int),(5:Int),(6:Int)⟩:Gate)),(enc_55 (⟨(20:Int),(0:Int),(2:Int)⟩:Gate))])⟩:(Sl Gate))=true)) &&
 (zy9 cv0 ev0 fv1 zbV zbW zbX zbY gv2 zv3 hv3 zcZ zc0 zc1 zc2 sv3 ((s55 (⟨3,zae (zdt [(enc_55 (⟨(0:Int),(0:Int),(2:Int)⟩:Gate)),(enc_55 (⟨(10:Int),(5:Int),(6:Int)⟩:Gate)),(enc_55 (⟨(20:Int),(0:Int),(2:Int)⟩:Gate))])⟩:(Sl Gate))).1) ((s55 (⟨3,zae (zdt [(enc_55 (⟨(0:Int),(0:Int),(2:Int)⟩:Gate)),(enc_55 (⟨(10:Int),(5:Int),(6:Int)⟩:Gate)),(enc_55 (⟨(20:Int),(0:Int),(2:Int)⟩:Gate))])⟩:(Sl Gate))).2.1) ((s55 (⟨3,zae (zdt [(enc_55 (⟨(0:Int),(0:Int),(2:Int)⟩:Gate)),(enc_55 (⟨(10:Int),(5:Int),(6:Int)⟩:Gate)),(enc_55 (⟨(20:Int),(0:Int),(2:Int)⟩:Gate))])⟩:(Sl Gate))).2.2)))
theorem zGM (hs:zzb cv0 ev0 fv1 zbV zbW zbX zbY gv2 sv3 zv3 hv3 zcZ zc0 zc1 zc2=true) (hk:K (e18 (zza cv0 ev0 fv1 zbV zbW zbX zbY gv2 sv3 zv3 hv3 zcZ zc0 zc1 zc2))) (zM2:zKs=zg zak sv3):z18 K [1,1,1,1,1] [] ⟨[(1,zS zaL 4 cv0),(2,zI ev0),(3,zp 3 0),(4,zp 4 0),(5,zI fv1),(6,zP (.sl sv3.len 1 zKs)),(7,zI gv2),(8,zI zv3),(9,zp 9 0),(10,zp 10 0),(11,zI hv3)],[(3,.box 25 (zm (zad (⟨zbV,zbW⟩:Frac)))),(4,.box 25 (zm (zad (⟨zbX,zbY⟩:Frac)))),(9,.box 25 (zm (zad (⟨zcZ,zc0⟩:Frac)))),(10,.box 25 (zm (zad (⟨zc1,zc2⟩:Frac))))],[]⟩:=by subst zM2;exact zaK (by kernel_rfl) (zaD hs fun hc hs=>And.intro (And.intro ((zfM [(⟨(20:Int),(0:Int),(2:Int)⟩:Gate)]):IsE enc_55 3 3 (zdt [(enc_55 (⟨(0:Int),(0:Int),(2:Int)⟩:Gate)),(enc_55 (⟨(10:Int),(5:Int),(6:Int)⟩:Gate)),(enc_55 (⟨(20:Int),(0:Int),(2:Int)⟩:Gate))])) hc) (zGL hs hk rfl rfl))
def zzc (cv0:(Sl Line)) (ev0:Int) (fv1:Int) (zbV:Int) (zbW:Int) (zbX:Int) (zbY:Int) (sv2:(Sl Int)) (gv2:Int):Bool :=
  (zza cv0 ev0 fv1 zbV zbW zbX zbY gv2 sv2 ((s19 s62 (⟨2,zae (zdt [(enc_55 (⟨(0:Int),(100:Int),(110:Int)⟩:Gate)),(enc_55 (⟨(200:Int),(40:Int),(50:Int)⟩:Gate))])⟩:(Sl Gate)) (0:Int) (300:Int)).1) ((s19 s62 (⟨2,zae (zdt [(enc_55 (⟨(0:Int),(100:Int),(110:Int)⟩:Gate)),(enc_55 (⟨(200:Int),(40:Int),(50:Int)⟩:Gate))])⟩:(Sl Gate)) (0:Int) (300:Int)).2.2.2) (((s19 s62 (⟨2,zae (zdt [(enc_55 (⟨(0:Int),(100:Int),(110:Int)⟩:Gate)),(enc_55 (⟨(200:Int),(40:Int),(50:Int)⟩:Gate))])⟩:(Sl Gate)) (0:Int) (300:Int)).2.1).Num) (((s19 s62 (⟨2,zae (zdt [(enc_55 (⟨(0:Int),(100:Int),(110:Int)⟩:Gate)),(enc_55 (⟨(200:Int),(40:Int),(50:Int)⟩:Gate))])⟩:(Sl Gate)) (0:Int) (300:Int)).2.1).Den) (((s19 s62 (⟨2,zae (zdt [(enc_55 (⟨(0:Int),(100:Int),(110:Int)⟩:Gate)),(enc_55 (⟨(200:Int),(40:Int),(50:Int)⟩:Gate))])⟩:(Sl Gate)) (0:Int) (300:Int)).2.2.1).Num) (((s19 s62 (⟨2,zae (zdt [(enc_55 (⟨(0:Int),(100:Int),(110:Int)⟩:Gate)),(enc_55 (⟨(200:Int),(40:Int),(50:Int)⟩:Gate))])⟩:(Sl Gate)) (0:Int) (300:Int)).2.2.1).Den))
def zzd (cv0:(Sl Line)) (ev0:Int) (fv1:Int) (zbV:Int) (zbW:Int) (zbX:Int) (zbY:Int) (sv2:(Sl Int)) (gv2:Int):Bool :=
  (decide ((p19 s62 (⟨2,zae (zdt [(enc_55 (⟨(0:Int),(100:Int),(110:Int)⟩:Gate)),(enc_55 (⟨(200:Int),(40:Int),(50:Int)⟩:Gate))])⟩:(Sl Gate)) (0:Int) (300:Int)=true)) &&
 (zzb cv0 ev0 fv1 zbV zbW zbX zbY gv2 sv2 ((s19 s62 (⟨2,zae (zdt [(enc_55 (⟨(0:Int),(100:Int),(110:Int)⟩:Gate)),(enc_55 (⟨(200:Int),(40:Int),(50:Int)⟩:Gate))])⟩:(Sl Gate)) (0:Int) (300:Int)).1) ((s19 s62 (⟨2,zae (zdt [(enc_55 (⟨(0:Int),(100:Int),(110:Int)⟩:Gate)),(enc_55 (⟨(200:Int),(40:Int),(50:Int)⟩:Gate))])⟩:(Sl Gate)) (0:Int) (300:Int)).2.2.2) (((s19 s62 (⟨2,zae (zdt [(enc_55 (⟨(0:Int),(100:Int),(110:Int)⟩:Gate)),(enc_55 (⟨(200:Int),(40:Int),(50:Int)⟩:Gate))])⟩:(Sl Gate)) (0:Int) (300:Int)).2.1).Num) (((s19 s62 (⟨2,zae (zdt [(enc_55 (⟨(0:Int),(100:Int),(110:Int)⟩:Gate)),(enc_55 (⟨(200:Int),(40:Int),(50:Int)⟩:Gate))])⟩:(Sl Gate)) (0:Int) (300:Int)).2.1).Den) (((s19 s62 (⟨2,zae (zdt [(enc_55 (⟨(0:Int),(100:Int),(110:Int)⟩:Gate)),(enc_55 (⟨(200:Int),(40:Int),(50:Int)⟩:Gate))])⟩:(Sl Gate)) (0:Int) (300:Int)).2.2.1).Num) (((s19 s62 (⟨2,zae (zdt [(enc_55 (⟨(0:Int),(100:Int),(110:Int)⟩:Gate)),(enc_55 (⟨(200:Int),(40:Int),(50:Int)⟩:Gate))])⟩:(Sl Gate)) (0:Int) (300:Int)).2.2.1).Den)))
theorem zGN (hs:zzd cv0 ev0 fv1 zbV zbW zbX zbY sv2 gv2=true) (hk:K (e18 (zzc cv0 ev0 fv1 zbV zbW zbX zbY sv2 gv2))) (zM3:zKr=zg zak sv2):z18 K [1,1,1,1] [] ⟨[(1,zS zaL 4 cv0),(2,zI ev0),(3,zp 3 0),(4,zp 4 0),(5,zI fv1),(6,zP (.sl sv2.len 1 zKr)),(7,zI gv2)],[(3,.box 25 (zm (zad (⟨zbV,zbW⟩:Frac)))),(4,.box 25 (zm (zad (⟨zbX,zbY⟩:Frac))))],[]⟩:=by subst zM3;exact zaK (by kernel_rfl) (zaD hs fun hc hs=>And.intro (And.intro (zE enc_55 3 s62.get) (And.intro ((zfM []):IsE enc_55 3 3 (zdt [(enc_55 (⟨(0:Int),(100:Int),(110:Int)⟩:Gate)),(enc_55 (⟨(200:Int),(40:Int),(50:Int)⟩:Gate))])) hc)) (zGM hs hk rfl))
def zze (cv0:(Sl Line)) (ev0:Int) (fv1:Int) (zbV:Int) (zbW:Int) (zbX:Int) (zbY:Int):Bool :=
  (zzc cv0 ev0 fv1 zbV zbW zbX zbY ((s38 s63).1) ((s38 s63).2))
def zzf (cv0:(Sl Line)) (ev0:Int) (fv1:Int) (zbV:Int) (zbW:Int) (zbX:Int) (zbY:Int):Bool :=
  (decide ((p38 s63=true)) &&
 (zzd cv0 ev0 fv1 zbV zbW zbX zbY ((s38 s63).1) ((s38 s63).2)))
theorem zGO (hs:zzf cv0 ev0 fv1 zbV zbW zbX zbY=true) (hk:K (e18 (zze cv0 ev0 fv1 zbV zbW zbX zbY))):z18 K [1,1,1] [] ⟨[(1,zS zaL 4 cv0),(2,zI ev0),(3,zp 3 0),(4,zp 4 0),(5,zI fv1)],[(3,.box 25 (zm (zad (⟨zbV,zbW⟩:Frac)))),(4,.box 25 (zm (zad (⟨zbX,zbY⟩:Frac))))],[]⟩:=zaK (by kernel_rfl) (zaD hs fun hc hs=>And.intro (And.intro (zE enc_55 3 s63.get) hc) (zGN hs hk rfl))
def zzg (cv0:(Sl Line)) (ev0:Int):Bool :=
  (zze cv0 ev0 ((s30 s62 (300:Int)).2.2) (((s30 s62 (300:Int)).1).Num) (((s30 s62 (300:Int)).1).Den) (((s30 s62 (300:Int)).2.1).Num) (((s30 s62 (300:Int)).2.1).Den))
def zzh (cv0:(Sl Line)) (ev0:Int):Bool :=
  (decide ((p30 s62 (300:Int)=true)) &&
 (zzf cv0 ev0 ((s30 s62 (300:Int)).2.2) (((s30 s62 (300:Int)).1).Num) (((s30 s62 (300:Int)).1).Den) (((s30 s62 (300:Int)).2.1).Num) (((s30 s62 (300:Int)).2.1).Den)))
theorem zGP (hs:zzh cv0 ev0=true) (hk:K (e18 (zzg cv0 ev0))) (zM4:zKq=zg zaL cv0):z18 K [1,1] [] ⟨[(1,zP (.sl cv0.len 4 zKq)),(2,zI ev0)],[],[]⟩:=by subst zM4;exact zaK (by kernel_rfl) (zaD hs fun hc hs=>And.intro (And.intro (zE enc_55 3 s62.get) hc) (zGO hs hk))
def s18:Bool :=
  (zzg ((s31 s62).1) ((s31 s62).2))
def p18:Bool :=
  (decide ((p31 s62=true)) &&
 (zzh ((s31 s62).1) ((s31 s62).2)))
end
theorem q18 (K:List PA→Prop) (hs:p18=true) (hk:K (e18 (s18))):vcFun Try.prog G18 zGH 18 [] K :=
  zaK (by kernel_rfl) (zaD hs fun hc hs=>And.intro (And.intro (zE enc_55 3 s62.get) hc) (zGP hs hk rfl))
theorem zKx:p18=true:=by kernel_rfl
theorem zKz:s18=true:=by kernel_rfl
def zGQ : List PA → COut
  | []=>.tot [.one (.bool true)]
  | _=>.no
theorem zKA:zah Try.prog 18:=⟨_,rfl,rfl,by kernel_rfl⟩
theorem zPS:Ok Try.prog 18 zGQ:=zaN zMX zKA fun args K h=>by
  unfold zGQ at h
  split at h
  · refine ⟨fun _ _ => [], fun _ => false, zGH, q18 K zKx ?_⟩
    show K [.one (.bool s18)]
    rw [zKz];exact h
  · exact h.elim
abbrev T70:Tabs:=Tabs.nil
theorem zM5:TabsOk Try.prog T70:=TabsOk.nil
abbrev G70:Ctrs:=csm T70 (fun _ _=>[]) (fun _=>false)
def zKB:Ann:=⟨15,[(0,zK [0,1,2] []),(1,zK [6] [])],
 [],
 [],
 [],[]⟩
abbrev R70:=Bool
abbrev e70 (r:R70):List PA:=[.one (.bool r)]
section
variable {K:List PA→Prop} {n:Int} {low:Int} {high:Int}
def s70 (n:Int) (low:Int) (high:Int):Bool :=
  (cond (decide (n ≥ low))
 (decide (n≤high))
 false)
end
theorem q70 (n:Int) (low:Int) (high:Int) (K:List PA→Prop) (hk:K (e70 (s70 n low high))):vcFun Try.prog G70 zKB 70 [.one (.int .i64 n),.one (.int .i64 low),.one (.int .i64 high)] K :=
  zaK (by kernel_rfl) (zt hk (fun hk=>hk) (fun hk=>hk))
def zzi : List PA → COut
  | [.one (.int .i64 a0),.one (.int .i64 a1),.one (.int .i64 a2)]=>.tot [.one (.bool (s70 a0 a1 a2))]
  | _=>.no
theorem zKC:zah Try.prog 70:=⟨_,rfl,rfl,by kernel_rfl⟩
theorem zM6:Ok Try.prog 70 zzi:=zaN zM5 zKC fun args K h=>by
  unfold zzi at h
  split at h
  · rename_i a0 a1 a2
    have hk:=h
    exact ⟨(fun _ _=>[]),(fun _=>false),zKB,q70 a0 a1 a2 K hk⟩
  · exact h.elim
abbrev T49:Tabs:=(Tabs.nil.addF 70 zzi)
theorem zM7:TabsOk Try.prog T49:=(TabsOk.nil.addF zM6)
abbrev G49:Ctrs:=csm T49 (fun _ _=>[]) (fun _=>false)
def zKD:Ann:=⟨18,[(0,zK [1] [1]),(1,zK [2] [])],
 [],
 [],
 [],[]⟩
abbrev R49:=Bool
abbrev e49 (r:R49):List PA:=[.one (.bool r)]
section
variable {K:List PA→Prop} {g:Gate}
def s49 (g:Gate):Bool :=
  (cond (s70 g.Z (0:Int) (100000:Int))
 (cond (s70 g.Low (-1000000:Int) g.High)
 (decide (g.High≤(1000000:Int)))
 false)
 false)
end
theorem q49 (g:Gate) (K:List PA→Prop) (hk:K (e49 (s49 g))):vcFun Try.prog G49 zKD 49 [.agg (enc_55 g)] K :=
  zaK (by kernel_rfl) (zt hk (fun hk=>(zt hk (fun hk=>hk) (fun hk=>hk))) (fun hk=>hk))
def zGR : List PA → COut
  | [.agg [.int .i64 a0_Z,.int .i64 a0_Low,.int .i64 a0_High]]=>.tot [.one (.bool (s49 (⟨a0_Z,a0_Low,a0_High⟩:Gate)))]
  | _=>.no
theorem zKE:zah Try.prog 49:=⟨_,rfl,rfl,by kernel_rfl⟩
theorem zPT:Ok Try.prog 49 zGR:=zaN zM7 zKE fun args K h=>by
  unfold zGR at h
  split at h
  · rename_i a0_Z a0_Low a0_High
    have hk:=h
    exact ⟨(fun _ _=>[]),(fun _=>false),zKD,q49 (⟨a0_Z,a0_Low,a0_High⟩:Gate) K hk⟩
  · exact h.elim
abbrev T20:Tabs:=((Tabs.nil.addF 49 zGR).addF 70 zzi)
theorem zM8:TabsOk Try.prog T20:=((TabsOk.nil.addF zPT).addF zM6)
abbrev G20:Ctrs:=csm T20 (fun _ _=>[]) (fun _=>false)
def zGS:Ann:=⟨19,[(0,zK [0] []),(1,zK [0,3] []),(2,zK [0,3,7] []),(3,zK [0,3] []),(4,zK [0,3,15] []),(5,zK [2] []),(6,zK [2] [])],
 [(2,zK [0,3] [])],
 [(5,zK [0,3,15] [])],
 [],[]⟩
abbrev R20:=Bool
abbrev e20 (r:R20):List PA:=[.one (.bool r)]
@[irreducible] def z20:=ptF Try.prog G20 zGS Try.f20
def zDy (l_a0:(Sl Gate)) (iv0:Int):St:=⟨[(0,zS enc_55 3 l_a0),(3,zI iv0)],[],[]⟩
abbrev zGT (K:List PA→Prop) (l_a0:(Sl Gate)) (X:St→Prop) (P:Int→Bool) (S:Int→Bool):Prop:=∀ ⦃iv0:Int⦄,P iv0=true→K (e20 (S iv0))→X (zDy l_a0 iv0)
section
variable {K:List PA→Prop} {l_a0:(Sl Gate)} {iv0:Int} {X0:St→Prop} {P0:Int→Bool} {S0:Int→Bool} {iv1:Int} {zrD:Bool}
def zrE (S0:Int→Bool) (l_a0:(Sl Gate)) (iv1:Int) (zrD:Bool):Bool :=
  (cond zrD
 false
 (S0 (w64 (iv1+(1:Int)))))
def zrF (P0:Int→Bool) (l_a0:(Sl Gate)) (iv1:Int) (zrD:Bool):Bool :=
  (cond zrD
 true
 (P0 (w64 (iv1+(1:Int)))))
theorem zGU (hX0:zGT K l_a0 X0 P0 S0) (hs:zrF P0 l_a0 iv1 zrD=true) (hk:K (e20 (zrE S0 l_a0 iv1 zrD))):z20 K [1,0,1,0,0,1,0,0,1] [X0] ⟨[(0,zS enc_55 3 l_a0),(3,zI iv1),(15,zB zrD)],[],[]⟩:=zaK (by kernel_rfl) (zc hs hk (fun hs hk=>hk) (fun hs hk=>(hX0 hs hk)))
def zic (l_a0:(Sl Gate)) (S0:Int→Bool) (iv0:Int):Bool :=
  (cond (decide (iv0 < (l_a0.len : Int)))
 (zrE S0 l_a0 iv0 (!(s49 (l_a0.get iv0.toNat))))
 (s70 (l_a0.len:Int) (1:Int) (24:Int)))
def zid (l_a0:(Sl Gate)) (P0:Int→Bool) (iv0:Int):Bool :=
  (cond (decide (iv0 < (l_a0.len : Int)))
 (decide ((0≤iv0∧iv0 < (l_a0.len:Int))) &&
 (zrF P0 l_a0 iv0 (!(s49 (l_a0.get iv0.toNat)))))
 true)
def zie (l_a0:(Sl Gate)):Nat→Int→Bool:=lpO (fun _=>default) (zic l_a0)
def zif (l_a0:(Sl Gate)):Nat→Int→Bool:=lpO (fun _=>false) (zid l_a0)
def zzj (l_a0:(Sl Gate)) (iv0:Int):Bool:=zie l_a0 Fuel iv0
def zzk (l_a0:(Sl Gate)) (iv0:Int):Bool:=zif l_a0 Fuel iv0
theorem zGV (hs:zzk l_a0 iv0=true) (hk:K (e20 (zzj l_a0 iv0))):z20 K [1,0,1,0] [] (zDy l_a0 iv0) :=
  zl (fun X=>z20 K [1,0,1,0,0] [X]) (by kernel_rfl) fun X0 hX =>
  (show ∀ k, zGT K l_a0 X0 (zif l_a0 k) (zie l_a0 k) from zgj _ _ (zid l_a0) (zic l_a0) (zGT K l_a0 X0)
 (by intro _ hs;exact absurd hs Bool.false_ne_true)
 (by intro P0 S0 hX0 iv0 hs hk;exact hX _ (zaK (by kernel_rfl) (zc hs hk (fun hs hk=>(zaD hs fun hc hs=>And.intro hc (zGU hX0 hs hk))) (fun hs hk=>hk))))) _ hs hk
def s20 (l_a0:(Sl Gate)):Bool :=
  (zzj l_a0 (0:Int))
def p20 (l_a0:(Sl Gate)):Bool :=
  (zzk l_a0 (0:Int))
end
theorem q20 (l_a0:(Sl Gate)) (K:List PA→Prop) (hs:p20 l_a0=true) (hk:K (e20 (s20 l_a0))):vcFun Try.prog G20 zGS 20 [.one (.sl l_a0.len 3 (fun i=>enc_55 (l_a0.get i)))] K :=
  zaK (by kernel_rfl) (zGV hs hk)
def zGW : List PA → COut
  | [.one (.sl a0_n a0_s a0_g)]=>.det (IsE enc_55 3 a0_s a0_g∧p20 (⟨a0_n,zae a0_g⟩:(Sl Gate))=true) [.one (.bool (s20 (⟨a0_n,zae a0_g⟩:(Sl Gate))))]
  | _=>.no
theorem zKF:zah Try.prog 20:=⟨_,rfl,rfl,by kernel_rfl⟩
theorem zPU:Ok Try.prog 20 zGW:=zaN zM8 zKF fun args K h=>by
  unfold zGW at h
  split at h
  · rename_i a0_n a0_s a0_g
    obtain ⟨⟨⟨rfl,a0_f,rfl⟩,hs⟩,hk⟩:=h
    try rw [zac a0_f] at hs
    try rw [zac a0_f] at hk
    exact ⟨(fun _ _=>[]),(fun _=>false),zGS,q20 (⟨a0_n,a0_f⟩:(Sl Gate)) K hs hk⟩
  · exact h.elim
abbrev T22:Tabs:=Tabs.nil
theorem zM9:TabsOk Try.prog T22:=TabsOk.nil
abbrev G22:Ctrs:=csm T22 (fun _ _=>[]) (fun _=>false)
def zGX:Ann:=⟨20,[(0,zK [0] []),(1,zK [0,3] []),(2,zK [0,3,7] []),(3,zK [0,3] []),(4,zK [0,3,19] []),(5,zK [2] []),(6,zK [2] [])],
 [(2,zK [0,3] [])],
 [],
 [],[]⟩
abbrev R22:=Bool
abbrev e22 (r:R22):List PA:=[.one (.bool r)]
@[irreducible] def z22:=ptF Try.prog G22 zGX Try.f22
def zDz (zaa:(Sl Gate)) (iv0:Int):St:=⟨[(0,zS enc_55 3 zaa),(3,zI iv0)],[],[]⟩
abbrev zKG (K:List PA→Prop) (zaa:(Sl Gate)) (X:St→Prop) (P:Int→Bool) (S:Int→Bool):Prop:=∀ ⦃iv0:Int⦄,P iv0=true→K (e22 (S iv0))→X (zDz zaa iv0)
section
variable {K:List PA→Prop} {zaa:(Sl Gate)} {iv0:Int} {X0:St→Prop} {P0:Int→Bool} {S0:Int→Bool}
def zih (zaa:(Sl Gate)) (S0:Int→Bool) (iv0:Int):Bool :=
  (cond (decide (iv0 < (zaa.len : Int)))
 (cond ((zaa.get iv0.toNat).Z != (zaa.get 0).Z)
 false
 (S0 (w64 (iv0+(1:Int)))))
 true)
def zii (zaa:(Sl Gate)) (P0:Int→Bool) (iv0:Int):Bool :=
  (cond (decide (iv0 < (zaa.len : Int)))
 (decide ((0≤iv0∧iv0 < (zaa.len:Int))) &&
 (decide ((0≤(0:Int)∧(0:Int) < (zaa.len:Int))) &&
 (cond ((zaa.get iv0.toNat).Z != (zaa.get 0).Z)
 true
 (P0 (w64 (iv0+(1:Int)))))))
 true)
def zij (zaa:(Sl Gate)):Nat→Int→Bool:=lpO (fun _=>default) (zih zaa)
def zik (zaa:(Sl Gate)):Nat→Int→Bool:=lpO (fun _=>false) (zii zaa)
def zzl (zaa:(Sl Gate)) (iv0:Int):Bool:=zij zaa Fuel iv0
def zzm (zaa:(Sl Gate)) (iv0:Int):Bool:=zik zaa Fuel iv0
theorem zGY (hs:zzm zaa iv0=true) (hk:K (e22 (zzl zaa iv0))):z22 K [1,0,1,0] [] (zDz zaa iv0) :=
  zl (fun X=>z22 K [1,0,1,0,0] [X]) (by kernel_rfl) fun X0 hX =>
  (show ∀ k, zKG K zaa X0 (zik zaa k) (zij zaa k) from zgj _ _ (zii zaa) (zih zaa) (zKG K zaa X0)
 (by intro _ hs;exact absurd hs Bool.false_ne_true)
 (by intro P0 S0 hX0 iv0 hs hk;exact hX _ (zaK (by kernel_rfl) (zc hs hk (fun hs hk=>(zaD hs fun hc hs=>And.intro hc (zaD hs fun hc hs=>And.intro hc (zc hs hk (fun hs hk=>hk) (fun hs hk=>(hX0 hs hk)))))) (fun hs hk=>hk))))) _ hs hk
def s22 (zaa:(Sl Gate)):Bool :=
  (zzl zaa (1:Int))
def p22 (zaa:(Sl Gate)):Bool :=
  (zzm zaa (1:Int))
end
theorem q22 (zaa:(Sl Gate)) (K:List PA→Prop) (hs:p22 zaa=true) (hk:K (e22 (s22 zaa))):vcFun Try.prog G22 zGX 22 [.one (.sl zaa.len 3 (fun i=>enc_55 (zaa.get i)))] K :=
  zaK (by kernel_rfl) (zGY hs hk)
def zB0 : List PA → COut
  | [.one (.sl a0_n a0_s a0_g)]=>.det (IsE enc_55 3 a0_s a0_g∧p22 (⟨a0_n,zae a0_g⟩:(Sl Gate))=true) [.one (.bool (s22 (⟨a0_n,zae a0_g⟩:(Sl Gate))))]
  | _=>.no
theorem zKH:zah Try.prog 22:=⟨_,rfl,rfl,by kernel_rfl⟩
theorem zPV:Ok Try.prog 22 zB0:=zaN zM9 zKH fun args K h=>by
  unfold zB0 at h
  split at h
  · rename_i a0_n a0_s a0_g
    obtain ⟨⟨⟨rfl,a0_f,rfl⟩,hs⟩,hk⟩:=h
    try rw [zac a0_f] at hs
    try rw [zac a0_f] at hk
    exact ⟨(fun _ _=>[]),(fun _=>false),zGX,q22 (⟨a0_n,a0_f⟩:(Sl Gate)) K hs hk⟩
  · exact h.elim
abbrev T26:Tabs:=(Tabs.nil.addF 40 zuy)
theorem zNa:TabsOk Try.prog T26:=(TabsOk.nil.addF zMQ)
abbrev G26:Ctrs:=csm T26 (fun _ _=>[]) (fun _=>false)
def zGZ:Ann:=⟨35,[(0,zK [0,1,2,3,8] [8]),(1,zK [0,1,2,3,8,11] [8]),(2,zK [0,1,2,3,8] [8]),(3,zK [8] [8])],
 [],
 [(3,zK [0,1,2,3,8] [8])],
 [],[]⟩
abbrev R26:=Line
abbrev e26 (r:R26):List PA:=[.agg [.int .i64 r.Slope.Num,.int .i64 r.Slope.Den,.int .i64 r.Start.Num,.int .i64 r.Start.Den]]
@[irreducible] def z26:=ptF Try.prog G26 zGZ Try.f26
section
variable {K:List PA→Prop} {z:Int} {x:Int} {w:Int} {y_a3:Int} {zv0:Int} {xv0:Int} {wv0:Int} {yv0:Int}
def znz (zv0:Int) (xv0:Int) (wv0:Int) (yv0:Int):Line :=
  (⟨(s40 (w64 (yv0 - xv0)) (w64 (wv0 - zv0))),(s40 (w64 ((w64 (xv0 * wv0)) - (w64 (yv0 * zv0)))) (w64 (wv0 - zv0)))⟩:Line)
def znA (zv0:Int) (xv0:Int) (wv0:Int) (yv0:Int):Bool :=
  (decide ((p40 (w64 (yv0 - xv0)) (w64 (wv0 - zv0))=true)) &&
 (decide ((p40 (w64 ((w64 (xv0 * wv0)) - (w64 (yv0 * zv0)))) (w64 (wv0 - zv0))=true)) &&
 true))
theorem zzn (hs:znA zv0 xv0 wv0 yv0=true) (hk:K (e26 (znz zv0 xv0 wv0 yv0))):z26 K [1,1] [] ⟨[(0,zI zv0),(1,zI xv0),(2,zI wv0),(3,zI yv0),(8,zp 8 0)],[(8,.box 37 (zm (zaL (⟨(⟨(0:Int),(0:Int)⟩:Frac),(⟨(0:Int),(0:Int)⟩:Frac)⟩:Line))))],[]⟩:=zaK (by kernel_rfl) (zaD hs fun hc hs=>And.intro hc (zaD hs fun hc hs=>And.intro hc hk))
def s26 (z:Int) (x:Int) (w:Int) (y_a3:Int):Line :=
  (cond (decide (w < z))
 (znz w y_a3 z x)
 (znz z x w y_a3))
def p26 (z:Int) (x:Int) (w:Int) (y_a3:Int):Bool :=
  (cond (decide (w < z))
 (znA w y_a3 z x)
 (znA z x w y_a3))
end
theorem q26 (z:Int) (x:Int) (w:Int) (y_a3:Int) (K:List PA→Prop) (hs:p26 z x w y_a3=true) (hk:K (e26 (s26 z x w y_a3))):vcFun Try.prog G26 zGZ 26 [.one (.int .i64 z),.one (.int .i64 x),.one (.int .i64 w),.one (.int .i64 y_a3)] K :=
  zaK (by kernel_rfl) (zc hs hk (fun hs hk=>(zzn hs hk)) (fun hs hk=>(zzn hs hk)))
def zG0 : List PA → COut
  | [.one (.int .i64 a0),.one (.int .i64 a1),.one (.int .i64 a2),.one (.int .i64 a3)]=>.det (p26 a0 a1 a2 a3=true) [.agg [.int .i64 ((s26 a0 a1 a2 a3).Slope.Num),.int .i64 ((s26 a0 a1 a2 a3).Slope.Den),.int .i64 ((s26 a0 a1 a2 a3).Start.Num),.int .i64 ((s26 a0 a1 a2 a3).Start.Den)]]
  | _=>.no
theorem zKI:zah Try.prog 26:=⟨_,rfl,rfl,by kernel_rfl⟩
theorem zPW:Ok Try.prog 26 zG0:=zaN zNa zKI fun args K h=>by
  unfold zG0 at h
  split at h
  · rename_i a0 a1 a2 a3
    obtain ⟨hs,hk⟩:=h
    exact ⟨(fun _ _=>[]),(fun _=>false),zGZ,q26 a0 a1 a2 a3 K hs hk⟩
  · exact h.elim
abbrev T29:Tabs:=Tabs.nil
theorem zNb:TabsOk Try.prog T29:=TabsOk.nil
abbrev G29:Ctrs:=csm T29 (fun _ _=>[]) (fun _=>false)
def zKJ:Ann:=⟨16,[(0,zK [2,3] [2,3]),(1,zK [4] [])],
 [],
 [],
 [],[]⟩
abbrev R29:=Bool
abbrev e29 (r:R29):List PA:=[.one (.bool r)]
section
variable {K:List PA→Prop} {a:Frac} {b:Frac}
def s29 (a:Frac) (b:Frac):Bool :=
  (decide ((w64 (a.Num * b.Den)) < (w64 (b.Num * a.Den))))
end
theorem q29 (a:Frac) (b:Frac) (K:List PA→Prop) (hk:K (e29 (s29 a b))):vcFun Try.prog G29 zKJ 29 [.agg (zad a),.agg (zad b)] K :=
  zaK (by kernel_rfl) hk
def zzo : List PA → COut
  | [.agg [.int .i64 a0_Num,.int .i64 a0_Den],.agg [.int .i64 a1_Num,.int .i64 a1_Den]]=>.tot [.one (.bool (s29 (⟨a0_Num,a0_Den⟩:Frac) (⟨a1_Num,a1_Den⟩:Frac)))]
  | _=>.no
theorem zKK:zah Try.prog 29:=⟨_,rfl,rfl,by kernel_rfl⟩
theorem zPX:Ok Try.prog 29 zzo:=zaN zNb zKK fun args K h=>by
  unfold zzo at h
  split at h
  · rename_i a0_Num a0_Den a1_Num a1_Den
    have hk:=h
    exact ⟨(fun _ _=>[]),(fun _=>false),zKJ,q29 (⟨a0_Num,a0_Den⟩:Frac) (⟨a1_Num,a1_Den⟩:Frac) K hk⟩
  · exact h.elim
abbrev T28:Tabs:=((Tabs.nil.addF 40 zuy).addF 73 zye)
theorem zNc:TabsOk Try.prog T28:=((TabsOk.nil.addF zMQ).addF zMO)
abbrev G28:Ctrs:=csm T28 (fun _ _=>[]) (fun _=>false)
def zG1:Ann:=⟨44,[(0,zK [1,2,4] [2,4]),(1,zK [1,2,4,5] [2,4]),(2,zK [4] [4])],
 [],
 [(2,zK [1,2,4,5] [2,4])],
 [],[]⟩
abbrev R28:=Frac
abbrev e28 (r:R28):List PA:=[.agg [.int .i64 r.Num,.int .i64 r.Den]]
@[irreducible] def z28:=ptF Try.prog G28 zG1 Try.f28
section
variable {K:List PA→Prop} {l_a0:Line} {z:Int} {dv0:Int}
def zrG (l_a0:Line) (z:Int) (dv0:Int):Frac :=
  (s40 (w64 ((w64 (l_a0.Start.Num * (w64 (dv0.tdiv l_a0.Start.Den))))+(w64 ((w64 (l_a0.Slope.Num * (w64 (dv0.tdiv l_a0.Slope.Den)))) * z)))) dv0)
def zrH (l_a0:Line) (z:Int) (dv0:Int):Bool :=
  (decide ((l_a0.Start.Den ≠ 0)) &&
 (decide ((l_a0.Slope.Den ≠ 0)) &&
 (decide ((p40 (w64 ((w64 (l_a0.Start.Num * (w64 (dv0.tdiv l_a0.Start.Den))))+(w64 ((w64 (l_a0.Slope.Num * (w64 (dv0.tdiv l_a0.Slope.Den)))) * z)))) dv0=true)) &&
 true)))
theorem zG2 (hs:zrH l_a0 z dv0=true) (hk:K (e28 (zrG l_a0 z dv0))):z28 K [1,1] [] ⟨[(1,zI z),(2,zp 2 0),(4,zp 4 0),(5,zI dv0)],[(2,.box 37 (zm (zaL l_a0))),(4,.box 25 (zm (zad (⟨(0:Int),(0:Int)⟩:Frac))))],[]⟩:=zaK (by kernel_rfl) (zaD hs fun hc hs=>And.intro hc (zaD hs fun hc hs=>And.intro hc (zaD hs fun hc hs=>And.intro hc hk)))
def s28 (l_a0:Line) (z:Int):Frac :=
  (zrG l_a0 z (w64 ((w64 (l_a0.Start.Den.tdiv (s73 l_a0.Start.Den l_a0.Slope.Den))) * l_a0.Slope.Den)))
def p28 (l_a0:Line) (z:Int):Bool :=
  (decide ((p73 l_a0.Start.Den l_a0.Slope.Den=true)) &&
 (decide (((s73 l_a0.Start.Den l_a0.Slope.Den) ≠ 0)) &&
 (zrH l_a0 z (w64 ((w64 (l_a0.Start.Den.tdiv (s73 l_a0.Start.Den l_a0.Slope.Den))) * l_a0.Slope.Den)))))
end
theorem q28 (l_a0:Line) (z:Int) (K:List PA→Prop) (hs:p28 l_a0 z=true) (hk:K (e28 (s28 l_a0 z))):vcFun Try.prog G28 zG1 28 [.agg (zaL l_a0),.one (.int .i64 z)] K :=
  zaK (by kernel_rfl) (zaD hs fun hc hs=>And.intro hc (zaD hs fun hc hs=>And.intro hc (zG2 hs hk)))
def zG3 : List PA → COut
  | [.agg [.int .i64 a0_Slope_Num,.int .i64 a0_Slope_Den,.int .i64 a0_Start_Num,.int .i64 a0_Start_Den],.one (.int .i64 a1)]=>.det (p28 (⟨(⟨a0_Slope_Num,a0_Slope_Den⟩:Frac),(⟨a0_Start_Num,a0_Start_Den⟩:Frac)⟩:Line) a1=true) [.agg [.int .i64 ((s28 (⟨(⟨a0_Slope_Num,a0_Slope_Den⟩:Frac),(⟨a0_Start_Num,a0_Start_Den⟩:Frac)⟩:Line) a1).Num),.int .i64 ((s28 (⟨(⟨a0_Slope_Num,a0_Slope_Den⟩:Frac),(⟨a0_Start_Num,a0_Start_Den⟩:Frac)⟩:Line) a1).Den)]]
  | _=>.no
theorem call28:zah Try.prog 28:=⟨_,rfl,rfl,by kernel_rfl⟩
theorem zPY:Ok Try.prog 28 zG3:=zaN zNc call28 fun args K h=>by
  unfold zG3 at h
  split at h
  · rename_i a0_Slope_Num a0_Slope_Den a0_Start_Num a0_Start_Den a1
    obtain ⟨hs,hk⟩:=h
    exact ⟨(fun _ _=>[]),(fun _=>false),zG1,q28 (⟨(⟨a0_Slope_Num,a0_Slope_Den⟩:Frac),(⟨a0_Start_Num,a0_Start_Den⟩:Frac)⟩:Line) a1 K hs hk⟩
  · exact h.elim
abbrev T25:Tabs:=Tabs.nil
theorem zNd:TabsOk Try.prog T25:=TabsOk.nil
abbrev G25:Ctrs:=csm T25 (fun _ _=>[]) (fun _=>false)
def zKL:Ann:=⟨44,[(0,zK [0,1,2,3] []),(1,zK [8] [])],
 [],
 [],
 [],[]⟩
abbrev R25:=Bool
abbrev e25 (r:R25):List PA:=[.one (.bool r)]
section
variable {K:List PA→Prop} {z:Int} {x:Int} {w:Int} {y_a3:Int}
def s25 (z:Int) (x:Int) (w:Int) (y_a3:Int):Bool :=
  (cond (decide (z ≥ (0:Int)))
 (cond (decide (z ≤ (100000:Int)))
 (cond (decide (w ≥ (0:Int)))
 (cond (decide (w ≤ (100000:Int)))
 (cond (z != w)
 (cond (decide (x ≥ (-1000000:Int)))
 (cond (decide (x ≤ (1000000:Int)))
 (cond (decide (y_a3 ≥ (-1000000:Int)))
 (decide (y_a3≤(1000000:Int)))
 false)
 false)
 false)
 false)
 false)
 false)
 false)
 false)
end
theorem q25 (z:Int) (x:Int) (w:Int) (y_a3:Int) (K:List PA→Prop) (hk:K (e25 (s25 z x w y_a3))):vcFun Try.prog G25 zKL 25 [.one (.int .i64 z),.one (.int .i64 x),.one (.int .i64 w),.one (.int .i64 y_a3)] K :=
  zaK (by kernel_rfl) (zt hk (fun hk=>(zt hk (fun hk=>(zt hk (fun hk=>(zt hk (fun hk=>(zt hk (fun hk=>(zt hk (fun hk=>(zt hk (fun hk=>(zt hk (fun hk=>hk) (fun hk=>hk))) (fun hk=>hk))) (fun hk=>hk))) (fun hk=>hk))) (fun hk=>hk))) (fun hk=>hk))) (fun hk=>hk))) (fun hk=>hk))
def zG4 : List PA → COut
  | [.one (.int .i64 a0),.one (.int .i64 a1),.one (.int .i64 a2),.one (.int .i64 a3)]=>.tot [.one (.bool (s25 a0 a1 a2 a3))]
  | _=>.no
theorem zKM:zah Try.prog 25:=⟨_,rfl,rfl,by kernel_rfl⟩
theorem zPZ:Ok Try.prog 25 zG4:=zaN zNd zKM fun args K h=>by
  unfold zG4 at h
  split at h
  · rename_i a0 a1 a2 a3
    have hk:=h
    exact ⟨(fun _ _=>[]),(fun _=>false),zKL,q25 a0 a1 a2 a3 K hk⟩
  · exact h.elim
abbrev T35:Tabs:=((Tabs.nil.addF 75 zux).addF 82 zBH)
theorem zNe:TabsOk Try.prog T35:=((TabsOk.nil.addF zMA).addF zN2)
abbrev G35:Ctrs:=csm T35 (fun _ _=>[]) (fun _=>false)
def zG5:Ann:=⟨26,[(0,zK [0,2,3] [2,3]),(1,zK [2,3,5,6] [2,3,5]),(2,zK [2,3,5,6,15] [2,3,5]),(3,zK [2,3,4] [2,3]),(4,zK [2,3,7,8] [2,3,7,8]),(5,zK [2,3,4] [2,3])],
 [],
 [(4,zK [2,3,5] [2,3,5])],
 [],[]⟩
abbrev R35:=(Frac×Frac×Int)
abbrev e35 (r:R35):List PA:=[.agg [.int .i64 r.1.Num,.int .i64 r.1.Den],.agg [.int .i64 r.2.1.Num,.int .i64 r.2.1.Den],.one (.int .i64 r.2.2)]
@[irreducible] def z35:=ptF Try.prog G35 zG5 Try.f35
section
variable {K:List PA→Prop} {zaa:(Sl Gate)} {zeP:(Sl Gate)} {zeQ:(Sl straight)} {zke:Nat→List PV} {zkf:Nat→List PV}
def zrI (zeP:(Sl Gate)) (zeQ:(Sl straight)):(Frac×Frac×Int) :=
  (((zuu (⟨(⟨zeP⟩:list),zeQ⟩:set)).1),((zuu (⟨(⟨zeP⟩:list),zeQ⟩:set)).2),(0:Int))
def zrJ (zeP:(Sl Gate)) (zeQ:(Sl straight)):Bool :=
  (decide ((zH8 (⟨(⟨zeP⟩:list),zeQ⟩:set)=true)) &&
 true)
theorem zG6 (hs:zrJ zeP zeQ=true) (hk:K (e35 (zrI zeP zeQ))) (zqS:zke=zg enc_55 zeP) (zqT:zkf=zg zaf zeQ):z35 K [1,1,1] [] ⟨[(2,zp 2 0),(3,zp 3 0),(5,zp 5 0)],[(2,.box 25 (zm (zad (⟨(0:Int),(0:Int)⟩:Frac)))),(3,.box 25 (zm (zad (⟨(0:Int),(0:Int)⟩:Frac)))),(5,.box 104 [.p (.sl zeP.len 3 zke),.p (.sl zeQ.len 3 zkf)])],[]⟩:=by subst zqS;subst zqT;exact zaK (by kernel_rfl) (zaD hs fun hc hs=>And.intro (And.intro (zE enc_55 3 zeP.get) (And.intro (zE zaf 3 zeQ.get) hc)) hk)
def s35 (zaa:(Sl Gate)):(Frac×Frac×Int) :=
  (cond (((s75 zaa).2) != (0:Int))
 ((⟨(0:Int),(0:Int)⟩:Frac),(⟨(0:Int),(0:Int)⟩:Frac),((s75 zaa).2))
 (zrI (((s75 zaa).1).list.Gates) (((s75 zaa).1).corners)))
def p35 (zaa:(Sl Gate)):Bool :=
  (decide ((p75 zaa=true)) &&
 (cond (((s75 zaa).2) != (0:Int))
 true
 (zrJ (((s75 zaa).1).list.Gates) (((s75 zaa).1).corners))))
end
theorem q35 (zaa:(Sl Gate)) (K:List PA→Prop) (hs:p35 zaa=true) (hk:K (e35 (s35 zaa))):vcFun Try.prog G35 zG5 35 [.one (.sl zaa.len 3 (fun i=>enc_55 (zaa.get i)))] K :=
  zaK (by kernel_rfl) (zaD hs fun hc hs=>And.intro (And.intro (zE enc_55 3 zaa.get) hc) (zc hs hk (fun hs hk=>hk) (fun hs hk=>(zG6 hs hk rfl rfl))))
def zG7 : List PA → COut
  | [.one (.sl a0_n a0_s a0_g)]=>.det (IsE enc_55 3 a0_s a0_g∧p35 (⟨a0_n,zae a0_g⟩:(Sl Gate))=true) [.agg [.int .i64 (((s35 (⟨a0_n,zae a0_g⟩:(Sl Gate))).1).Num),.int .i64 (((s35 (⟨a0_n,zae a0_g⟩:(Sl Gate))).1).Den)],.agg [.int .i64 (((s35 (⟨a0_n,zae a0_g⟩:(Sl Gate))).2.1).Num),.int .i64 (((s35 (⟨a0_n,zae a0_g⟩:(Sl Gate))).2.1).Den)],.one (.int .i64 ((s35 (⟨a0_n,zae a0_g⟩:(Sl Gate))).2.2))]
  | _=>.no
theorem zKN:zah Try.prog 35:=⟨_,rfl,rfl,by kernel_rfl⟩
theorem zP0:Ok Try.prog 35 zG7:=zaN zNe zKN fun args K h=>by
  unfold zG7 at h
  split at h
  · rename_i a0_n a0_s a0_g
    obtain ⟨⟨⟨rfl,a0_f,rfl⟩,hs⟩,hk⟩:=h
    try rw [zac a0_f] at hs
    try rw [zac a0_f] at hk
    exact ⟨(fun _ _=>[]),(fun _=>false),zG5,q35 (⟨a0_n,a0_f⟩:(Sl Gate)) K hs hk⟩
  · exact h.elim
abbrev T90:Tabs:=((Tabs.nil.addF 74 zmQ).addF 114 zta)
theorem zNf:TabsOk Try.prog T90:=((TabsOk.nil.addF zEl).addF zI8)
abbrev G90:Ctrs:=csm T90 (fun _ _=>[]) (fun _=>false)
def zKO:Ann:=⟨31,[(0,zK [1,2,3] [3]),(1,zK [6] [])],
 [],
 [],
 [],[]⟩
abbrev R90:=Bool
abbrev e90 (r:R90):List PA:=[.one (.bool r)]
section
variable {K:List PA→Prop} {f:Frac} {den:Int} {num:Int}
def s90 (f:Frac) (den:Int) (num:Int):Bool :=
  (cond (s74 f.Den (1:Int) den)
 (cond (s74 f.Num (w64 (0 - num)) num)
 ((zCY (if (w64 (0 - f.Num)) > f.Num then (w64 (0 - f.Num)) else f.Num) f.Den) == (1:Int))
 false)
 false)
def p90 (f:Frac) (den:Int) (num:Int):Bool :=
  (cond (s74 f.Den (1:Int) den)
 (cond (s74 f.Num (w64 (0 - num)) num)
 (decide ((zI7 (if (w64 (0 - f.Num)) > f.Num then (w64 (0 - f.Num)) else f.Num) f.Den=true)) &&
 true)
 true)
 true)
end
theorem q90 (f:Frac) (den:Int) (num:Int) (K:List PA→Prop) (hs:p90 f den num=true) (hk:K (e90 (s90 f den num))):vcFun Try.prog G90 zKO 90 [.agg (zad f),.one (.int .i64 den),.one (.int .i64 num)] K :=
  zaK (by kernel_rfl) (zc hs hk (fun hs hk=>(zc hs hk (fun hs hk=>(zaD hs fun hc hs=>And.intro hc hk)) (fun hs hk=>hk))) (fun hs hk=>hk))
def zG8 : List PA → COut
  | [.agg [.int .i64 a0_Num,.int .i64 a0_Den],.one (.int .i64 a1),.one (.int .i64 a2)]=>.det (p90 (⟨a0_Num,a0_Den⟩:Frac) a1 a2=true) [.one (.bool (s90 (⟨a0_Num,a0_Den⟩:Frac) a1 a2))]
  | _=>.no
theorem zKP:zah Try.prog 90:=⟨_,rfl,rfl,by kernel_rfl⟩
theorem zP1:Ok Try.prog 90 zG8:=zaN zNf zKP fun args K h=>by
  unfold zG8 at h
  split at h
  · rename_i a0_Num a0_Den a1 a2
    obtain ⟨hs,hk⟩:=h
    exact ⟨(fun _ _=>[]),(fun _=>false),zKO,q90 (⟨a0_Num,a0_Den⟩:Frac) a1 a2 K hs hk⟩
  · exact h.elim
abbrev T52:Tabs:=(((Tabs.nil.addF 64 zqr).addF 74 zmQ).addF 90 zG8)
theorem zNg:TabsOk Try.prog T52:=(((TabsOk.nil.addF zJx).addF zEl).addF zP1)
abbrev G52:Ctrs:=csm T52 (fun _ _=>[]) (fun _=>false)
def zG9:Ann:=⟨72,[(0,zK [1,2] [2]),(1,zK [1,2,24] [2]),(2,zK [4,5] []),(3,zK [1,2,6] [2]),(4,zK [2,6,25,26,27] [2]),(5,zK [2,6,25,26,27,28] [2,69]),(6,zK [2,6,7,8,25,26,27] [2,8,69]),(7,zK [2,6,7,8,9,25,26,27] [2,8,69]),(8,zK [2,6,7,25,26,27,65] [2,69]),(9,zK [2,6,25,26,27] [2,69]),(10,zK [2,6,25,26,27] [2,69]),(11,zK [4,5] [69])],
 [(5,⟨[2,6,25,26,27],[2,69],[(6,69,3,fun _=>zak default)],[],[],[],[]⟩)],
 [(2,zK [1,2,24] [2]),(3,zK [1,2] [2]),(9,zK [2,6,7,25,26,27,65] [2,69])],
 [],[]⟩
abbrev R52:=((Sl Int)×Int)
abbrev e52 (r:R52):List PA:=[.one (.sl r.1.len 1 (fun i=>zak (r.1.get i))),.one (.int .i64 r.2)]
@[irreducible] def z52:=ptF Try.prog G52 zG9 Try.f52
def zDA (l_a0:Line) (zaa:(Sl Gate)) (zcO:Int) (zdW:(Sl Int)) (zfA:Nat→List PV):St:=⟨[(2,zp 2 0),(6,zv 69),(25,zS enc_55 3 zaa),(26,zI (zaa.len:Int)),(27,zI zcO)],[(2,.box 37 (zm (zaL l_a0))),(69,.vec 3 1 8 zdW.len zfA)],[]⟩
abbrev zHa (K:List PA→Prop) (l_a0:Line) (zaa:(Sl Gate)) (X:St→Prop) (P:Int→(Sl Int)→Bool) (S:Int→(Sl Int)→((Sl Int)×Int)):Prop:=∀ ⦃zcO:Int⦄ ⦃zdW:(Sl Int)⦄ ⦃zfA:Nat→List PV⦄,P zcO zdW=true→K (e52 (S zcO zdW))→zfA=zg zak zdW→X (zDA l_a0 zaa zcO zdW zfA)
section
variable {K:List PA→Prop} {l_a0:Line} {zaa:(Sl Gate)} {zrK:Bool} {zcO:Int} {zdW:(Sl Int)} {zfA:Nat→List PV} {X2:St→Prop} {P2:Int→(Sl Int)→Bool} {S2:Int→(Sl Int)→((Sl Int)×Int)} {iv3:Int} {znB:Int} {zrL:Bool} {zfB:(Sl Int)} {zzp:Nat→List PV}
def zrM (S2:Int→(Sl Int)→((Sl Int)×Int)) (l_a0:Line) (zaa:(Sl Gate)) (iv3:Int) (znB:Int) (zrL:Bool) (zfB:(Sl Int)):((Sl Int)×Int) :=
  (cond zrL
 (S2 (w64 (znB+(1:Int))) (⟨(zfB.len+1),(zdQ zfB.len zfB.get (fun _=>iv3))⟩:Sl Int))
 (S2 (w64 (znB+(1:Int))) zfB))
def zrN (P2:Int→(Sl Int)→Bool) (l_a0:Line) (zaa:(Sl Gate)) (iv3:Int) (znB:Int) (zrL:Bool) (zfB:(Sl Int)):Bool :=
  (cond zrL
 (decide (((zfB.len+1) * 8≤140737488355328∧zfB.len+1≤9223372036854775807)) &&
 (P2 (w64 (znB+(1:Int))) (⟨(zfB.len+1),(zdQ zfB.len zfB.get (fun _=>iv3))⟩:Sl Int)))
 (P2 (w64 (znB+(1:Int))) zfB))
theorem zHb (hX2:zHa K l_a0 zaa X2 P2 S2) (hs:zrN P2 l_a0 zaa iv3 znB zrL zfB=true) (hk:K (e52 (zrM S2 l_a0 zaa iv3 znB zrL zfB))) (zHc:zzp=zg zak zfB):z52 (Wk K) [1,1,1,0,1,0,0,1,1,0,0,1,1,1] [X2] ⟨[(2,zp 2 0),(6,zv 69),(7,zI iv3),(25,zS enc_55 3 zaa),(26,zI (zaa.len:Int)),(27,zI znB),(65,zB zrL)],[(2,.box 37 (zm (zaL l_a0))),(69,.vec 3 1 8 zfB.len zzp)],[]⟩:=by subst zHc;exact zaK (by kernel_rfl) (zc hs hk (fun hs hk=>(zaD hs fun hc hs=>And.intro hc (hX2 hs hk (zjV (enc:=zak) (f:=zfB.get) (h:=(fun _=>iv3)) rfl rfl)))) (fun hs hk=>(hX2 hs hk rfl)))
def zil (l_a0:Line) (zaa:(Sl Gate)) (S2:Int→(Sl Int)→((Sl Int)×Int)) (zcO:Int) (zdW:(Sl Int)):((Sl Int)×Int) :=
  (cond (decide (zcO < (zaa.len : Int)))
 (zrM S2 l_a0 zaa zcO zcO (s74 (w64 ((w64 (l_a0.Start.Num * l_a0.Slope.Den))+(w64 ((w64 (l_a0.Slope.Num * (zaa.get zcO.toNat).Z)) * l_a0.Start.Den)))) (w64 ((zaa.get zcO.toNat).Low * (w64 (l_a0.Slope.Den * l_a0.Start.Den)))) (w64 ((zaa.get zcO.toNat).High * (w64 (l_a0.Slope.Den * l_a0.Start.Den))))) zdW)
 (zdW,(0:Int)))
def zim (l_a0:Line) (zaa:(Sl Gate)) (P2:Int→(Sl Int)→Bool) (zcO:Int) (zdW:(Sl Int)):Bool :=
  (cond (decide (zcO < (zaa.len : Int)))
 (decide ((0≤zcO∧zcO < (zaa.len:Int))) &&
 (zrN P2 l_a0 zaa zcO zcO (s74 (w64 ((w64 (l_a0.Start.Num * l_a0.Slope.Den))+(w64 ((w64 (l_a0.Slope.Num * (zaa.get zcO.toNat).Z)) * l_a0.Start.Den)))) (w64 ((zaa.get zcO.toNat).Low * (w64 (l_a0.Slope.Den * l_a0.Start.Den)))) (w64 ((zaa.get zcO.toNat).High * (w64 (l_a0.Slope.Den * l_a0.Start.Den))))) zdW))
 true)
def zin (l_a0:Line) (zaa:(Sl Gate)):Nat→Int→(Sl Int)→((Sl Int)×Int):=lpO (fun _ _=>default) (zil l_a0 zaa)
def zio (l_a0:Line) (zaa:(Sl Gate)):Nat→Int→(Sl Int)→Bool:=lpO (fun _ _=>false) (zim l_a0 zaa)
def zzq (l_a0:Line) (zaa:(Sl Gate)) (zcO:Int) (zdW:(Sl Int)):((Sl Int)×Int):=zin l_a0 zaa Fuel zcO zdW
def zzr (l_a0:Line) (zaa:(Sl Gate)) (zcO:Int) (zdW:(Sl Int)):Bool:=zio l_a0 zaa Fuel zcO zdW
theorem zHd (hs:zzr l_a0 zaa zcO zdW=true) (hk:K (e52 (zzq l_a0 zaa zcO zdW))) (zrO:zfA=zg zak zdW):z52 (Wk K) [1,1,1,0,1,0] [] (zDA l_a0 zaa zcO zdW zfA) :=
  zl (fun X=>z52 (Wk K) [1,1,1,0,1,0,0] [X]) (by kernel_rfl) fun X2 hX =>
  (show ∀ k, zHa K l_a0 zaa X2 (zio l_a0 zaa k) (zin l_a0 zaa k) from zgj _ _ (zim l_a0 zaa) (zil l_a0 zaa) (zHa K l_a0 zaa X2)
 (by intro _ _ _ hs;exact absurd hs Bool.false_ne_true)
 (by intro P2 S2 hX2 zcO zdW zfA hs hk zrO;subst zrO;exact hX _ (zaK (by kernel_rfl) (zc hs hk (fun hs hk=>(zaD hs fun hc hs=>And.intro hc (zHb hX2 hs hk rfl))) (fun hs hk=>((zd7 hk):Wk K [.one (.sl zdW.len 1 (fun i=>zak (zdW.get i))),.one (.int .i64 (0:Int))])))))) _ hs hk zrO
def zrP (l_a0:Line) (zaa:(Sl Gate)):((Sl Int)×Int) :=
  (zzq l_a0 zaa (0:Int) (⟨0,(fun _=>default)⟩:Sl Int))
def zrQ (l_a0:Line) (zaa:(Sl Gate)):Bool :=
  (zzr l_a0 zaa (0:Int) (⟨0,(fun _=>default)⟩:Sl Int))
theorem zHe (hs:zrQ l_a0 zaa=true) (hk:K (e52 (zrP l_a0 zaa))):z52 (Wk K) [1,1] [] ⟨[(1,zS enc_55 3 zaa),(2,zp 2 0)],[(2,.box 37 (zm (zaL l_a0)))],[]⟩:=zaK (by kernel_rfl) (zHd hs hk rfl)
def zkG (l_a0:Line) (zaa:(Sl Gate)) (zrK:Bool):((Sl Int)×Int) :=
  (cond zrK
 ((⟨0,fun _=>default⟩:(Sl Int)),(2:Int))
 (zrP l_a0 zaa))
def zkH (l_a0:Line) (zaa:(Sl Gate)) (zrK:Bool):Bool :=
  (cond zrK
 true
 (zrQ l_a0 zaa))
theorem zrR (hs:zkH l_a0 zaa zrK=true) (hk:K (e52 (zkG l_a0 zaa zrK))):z52 (Wk K) [1,0,1] [] ⟨[(1,zS enc_55 3 zaa),(2,zp 2 0),(24,zB zrK)],[(2,.box 37 (zm (zaL l_a0)))],[]⟩:=zaK (by kernel_rfl) (zc hs hk (fun hs hk=>((wk hk (zc9 (.one (.nil _ _)) (zc9 (.one (.rfl _)) zhD))):Wk K [.one (.nils),.one (.int .i64 (2:Int))])) (fun hs hk=>(zHe hs hk)))
def s52 (l_a0:Line) (zaa:(Sl Gate)):((Sl Int)×Int) :=
  (cond (!(s90 l_a0.Slope (100000:Int) (2000000:Int)))
 (zkG l_a0 zaa true)
 (cond (!(s90 l_a0.Start (100000:Int) (1000000000000:Int)))
 (zkG l_a0 zaa true)
 (zkG l_a0 zaa (!(s64 zaa)))))
def p52 (l_a0:Line) (zaa:(Sl Gate)):Bool :=
  (decide ((p90 l_a0.Slope (100000:Int) (2000000:Int)=true)) &&
 (cond (!(s90 l_a0.Slope (100000:Int) (2000000:Int)))
 (zkH l_a0 zaa true)
 (decide ((p90 l_a0.Start (100000:Int) (1000000000000:Int)=true)) &&
 (cond (!(s90 l_a0.Start (100000:Int) (1000000000000:Int)))
 (zkH l_a0 zaa true)
 (decide ((p64 zaa=true)) &&
 (zkH l_a0 zaa (!(s64 zaa))))))))
end
theorem q52 (l_a0:Line) (zaa:(Sl Gate)) (K:List PA→Prop) (hs:p52 l_a0 zaa=true) (hk:K (e52 (s52 l_a0 zaa))):vcFun Try.prog G52 zG9 52 [.agg (zaL l_a0),.one (.sl zaa.len 3 (fun i=>enc_55 (zaa.get i)))] (Wk K) :=
  zaK (by kernel_rfl) (zaD hs fun hc hs=>And.intro hc (zc hs hk (fun hs hk=>(zrR hs hk)) (fun hs hk=>(zaD hs fun hc hs=>And.intro hc (zc hs hk (fun hs hk=>(zrR hs hk)) (fun hs hk=>(zaD hs fun hc hs=>And.intro (And.intro (zE enc_55 3 zaa.get) hc) (zrR hs hk))))))))
def zHf : List PA → COut
  | [.agg [.int .i64 a0_Slope_Num,.int .i64 a0_Slope_Den,.int .i64 a0_Start_Num,.int .i64 a0_Start_Den],.one (.sl a1_n a1_s a1_g)]=>.det (IsE enc_55 3 a1_s a1_g∧p52 (⟨(⟨a0_Slope_Num,a0_Slope_Den⟩:Frac),(⟨a0_Start_Num,a0_Start_Den⟩:Frac)⟩:Line) (⟨a1_n,zae a1_g⟩:(Sl Gate))=true) [.one (.sl (((s52 (⟨(⟨a0_Slope_Num,a0_Slope_Den⟩:Frac),(⟨a0_Start_Num,a0_Start_Den⟩:Frac)⟩:Line) (⟨a1_n,zae a1_g⟩:(Sl Gate))).1).len) 1 (fun i=>zak (((s52 (⟨(⟨a0_Slope_Num,a0_Slope_Den⟩:Frac),(⟨a0_Start_Num,a0_Start_Den⟩:Frac)⟩:Line) (⟨a1_n,zae a1_g⟩:(Sl Gate))).1).get i))),.one (.int .i64 ((s52 (⟨(⟨a0_Slope_Num,a0_Slope_Den⟩:Frac),(⟨a0_Start_Num,a0_Start_Den⟩:Frac)⟩:Line) (⟨a1_n,zae a1_g⟩:(Sl Gate))).2))]
  | _=>.no
theorem zKQ:zah Try.prog 52:=⟨_,rfl,rfl,by kernel_rfl⟩
theorem zP2:Ok Try.prog 52 zHf:=zgi zNg zKQ fun args K h=>by
  unfold zHf at h
  split at h
  · rename_i a0_Slope_Num a0_Slope_Den a0_Start_Num a0_Start_Den a1_n a1_s a1_g
    obtain ⟨⟨⟨rfl,a1_f,rfl⟩,hs⟩,hk⟩:=h
    try rw [zac a1_f] at hs
    try rw [zac a1_f] at hk
    exact ⟨_,ze6 zfi _,(fun _ _=>[]),(fun _=>false),zG9,q52 (⟨(⟨a0_Slope_Num,a0_Slope_Den⟩:Frac),(⟨a0_Start_Num,a0_Start_Den⟩:Frac)⟩:Line) (⟨a1_n,a1_f⟩:(Sl Gate)) K hs hk⟩
  · exact h.elim
abbrev T91:Tabs:=((Tabs.nil.addF 70 zzi).addF 73 zye)
theorem zNh:TabsOk Try.prog T91:=((TabsOk.nil.addF zM6).addF zMO)
abbrev G91:Ctrs:=csm T91 (fun _ _=>[]) (fun _=>false)
def zKR:Ann:=⟨28,[(0,zK [1,2] [2]),(1,zK [4] [])],
 [],
 [],
 [],[]⟩
abbrev R91:=Bool
abbrev e91 (r:R91):List PA:=[.one (.bool r)]
section
variable {K:List PA→Prop} {f:Frac} {most:Int}
def s91 (f:Frac) (most:Int):Bool :=
  (cond (s70 f.Den (1:Int) (100000:Int))
 (cond (s70 f.Num (w64 (0 - most)) most)
 ((s73 (if (w64 (0 - f.Num)) > f.Num then (w64 (0 - f.Num)) else f.Num) f.Den) == (1:Int))
 false)
 false)
def p91 (f:Frac) (most:Int):Bool :=
  (cond (s70 f.Den (1:Int) (100000:Int))
 (cond (s70 f.Num (w64 (0 - most)) most)
 (decide ((p73 (if (w64 (0 - f.Num)) > f.Num then (w64 (0 - f.Num)) else f.Num) f.Den=true)) &&
 true)
 true)
 true)
end
theorem q91 (f:Frac) (most:Int) (K:List PA→Prop) (hs:p91 f most=true) (hk:K (e91 (s91 f most))):vcFun Try.prog G91 zKR 91 [.agg (zad f),.one (.int .i64 most)] K :=
  zaK (by kernel_rfl) (zc hs hk (fun hs hk=>(zc hs hk (fun hs hk=>(zaD hs fun hc hs=>And.intro hc hk)) (fun hs hk=>hk))) (fun hs hk=>hk))
def zHg : List PA → COut
  | [.agg [.int .i64 a0_Num,.int .i64 a0_Den],.one (.int .i64 a1)]=>.det (p91 (⟨a0_Num,a0_Den⟩:Frac) a1=true) [.one (.bool (s91 (⟨a0_Num,a0_Den⟩:Frac) a1))]
  | _=>.no
theorem zKS:zah Try.prog 91:=⟨_,rfl,rfl,by kernel_rfl⟩
theorem zP3:Ok Try.prog 91 zHg:=zaN zNh zKS fun args K h=>by
  unfold zHg at h
  split at h
  · rename_i a0_Num a0_Den a1
    obtain ⟨hs,hk⟩:=h
    exact ⟨(fun _ _=>[]),(fun _=>false),zKR,q91 (⟨a0_Num,a0_Den⟩:Frac) a1 K hs hk⟩
  · exact h.elim
abbrev T53:Tabs:=(Tabs.nil.addF 91 zHg)
theorem zNi:TabsOk Try.prog T53:=(TabsOk.nil.addF zP3)
abbrev G53:Ctrs:=csm T53 (fun _ _=>[]) (fun _=>false)
def zKT:Ann:=⟨11,[(0,zK [1] [1]),(1,zK [2] [])],
 [],
 [],
 [],[]⟩
abbrev R53:=Bool
abbrev e53 (r:R53):List PA:=[.one (.bool r)]
section
variable {K:List PA→Prop} {l_a0:Line}
def s53 (l_a0:Line):Bool :=
  (cond (s91 l_a0.Slope (2000000:Int))
 (s91 l_a0.Start (1000000000000:Int))
 false)
def p53 (l_a0:Line):Bool :=
  (decide ((p91 l_a0.Slope (2000000:Int)=true)) &&
 (cond (s91 l_a0.Slope (2000000:Int))
 (decide ((p91 l_a0.Start (1000000000000:Int)=true)) &&
 true)
 true))
end
theorem q53 (l_a0:Line) (K:List PA→Prop) (hs:p53 l_a0=true) (hk:K (e53 (s53 l_a0))):vcFun Try.prog G53 zKT 53 [.agg (zaL l_a0)] K :=
  zaK (by kernel_rfl) (zaD hs fun hc hs=>And.intro hc (zc hs hk (fun hs hk=>(zaD hs fun hc hs=>And.intro hc hk)) (fun hs hk=>hk)))
def zHh : List PA → COut
  | [.agg [.int .i64 a0_Slope_Num,.int .i64 a0_Slope_Den,.int .i64 a0_Start_Num,.int .i64 a0_Start_Den]]=>.det (p53 (⟨(⟨a0_Slope_Num,a0_Slope_Den⟩:Frac),(⟨a0_Start_Num,a0_Start_Den⟩:Frac)⟩:Line)=true) [.one (.bool (s53 (⟨(⟨a0_Slope_Num,a0_Slope_Den⟩:Frac),(⟨a0_Start_Num,a0_Start_Den⟩:Frac)⟩:Line)))]
  | _=>.no
theorem zKU:zah Try.prog 53:=⟨_,rfl,rfl,by kernel_rfl⟩
theorem zP4:Ok Try.prog 53 zHh:=zaN zNi zKU fun args K h=>by
  unfold zHh at h
  split at h
  · rename_i a0_Slope_Num a0_Slope_Den a0_Start_Num a0_Start_Den
    obtain ⟨hs,hk⟩:=h
    exact ⟨(fun _ _=>[]),(fun _=>false),zKT,q53 (⟨(⟨a0_Slope_Num,a0_Slope_Den⟩:Frac),(⟨a0_Start_Num,a0_Start_Den⟩:Frac)⟩:Line) K hs hk⟩
  · exact h.elim
abbrev T14:Tabs:=((((((((((((Tabs.nil.addF 18 zGQ).addF 20 zGW).addF 22 zB0).addF 25 zG4).addF 26 zG0).addF 28 zG3).addF 29 zzo).addF 30 zBP).addF 31 zBR).addF 35 zG7).addF 52 zHf).addF 53 zHh)
theorem zNj:TabsOk Try.prog T14:=((((((((((((TabsOk.nil.addF zPS).addF zPU).addF zPV).addF zPZ).addF zPW).addF zPY).addF zPX).addF zOc).addF zOh).addF zP0).addF zP2).addF zP4)
abbrev G14:Ctrs:=csm T14 (fun _ _=>[]) (fun _=>false)
def zHi:Ann:=⟨234,[(0,zK [0,1,2,3,4,5] []),(1,zK [0,1,2,3,4,5,54] []),(2,zK [12] []),(3,zK [0,5,13] [13]),(4,zK [0,5,13,14,15] [13]),(5,zK [0,5,13,14,68] [13]),(6,zK [12] []),(7,zK [0,5,13,14,16,17] [13]),(8,zK [0,5,13,14,16,17,75] [13]),(9,zK [12] []),(10,zK [0,5,13,14,16,18,19,20] [13,18,19]),(11,zK [0,5,13,14,16,18,19,20,21,22,23] [13,18,19,21,22]),(12,zK [0,5,13,14,16,18,19,21,22,111] [13,18,19,21,22]),(13,zK [12] []),(14,zK [0,5,13,14,16,18,19,21,22,24,25,26,27] [13,18,19,21,22]),(15,zK [0,5,13,14,16,18,19,21,22,24,25,26,27,28] [13,18,19,21,22]),(16,zK [0,5,13,14,16,18,19,21,22,24,25,26,27,28,115] [13,18,19,21,22]),(17,zK [0,5,13,14,16,18,19,21,22,24,25,26,27,28] [13,18,19,21,22]),(18,zK [0,5,13,14,16,18,19,21,22,24,25,26,27,28,123] [13,18,19,21,22]),(19,zK [12] []),(20,zK [0,5,13,14,16,18,19,21,22,24,25,26,27,28,29,30] [13,18,19,21,22]),(21,zK [0,5,13,14,16,18,19,21,22,24,25,26,27,28,141] [13,18,19,21,22]),(22,zK [12] []),(23,zK [0,5,13,14,16,18,19,21,22,24,25,26,27,28] [13,18,19,21,22]),(24,zK [0,5,13,14,16,18,19,21,22,24,25,26,27,28] [13,18,19,21,22]),(25,zK [0,5,13,14,18,19,21,22,197] [13,18,19,21,22]),(26,zK [12] []),(27,zK [5,13,18,19,21,22,202] [13,18,19,21,22]),(28,zK [12] []),(29,zK [13,18,19,21,22,31] [13,18,19,21,22,31]),(30,zK [12] [])],
 [(16,zK [0,5,13,14,16,18,19,21,22,24,25,26,27,28] [13,18,19,21,22])],
 [(2,zK [0,1,2,3,4,5,54] []),(3,zK [0,1,2,3,4,5] []),(4,zK [0,5,13] [13]),(5,zK [0,5,13,14,15] [13]),(7,zK [0,5,13,14] [13]),(8,zK [0,5,13,14,16,17] [13]),(10,zK [0,5,13,14,16] [13]),(11,zK [0,5,13,14,16,18,19,20] [13,18,19]),(12,zK [0,5,13,14,16,18,19,20,21,22,23] [13,18,19,21,22]),(14,zK [0,5,13,14,16,18,19,21,22] [13,18,19,21,22]),(19,zK [0,5,13,14,16,18,19,21,22,24,25,26,27,28,123] [13,18,19,21,22]),(25,zK [0,5,13,14,18,19,21,22,24,25,26,27] [13,18,19,21,22]),(20,zK [0,5,13,14,16,18,19,21,22,24,25,26,27,28] [13,18,19,21,22]),(21,zK [0,5,13,14,16,18,19,21,22,24,25,26,27,28,29,30] [13,18,19,21,22]),(23,zK [0,5,13,14,16,18,19,21,22,24,25,26,27,28] [13,18,19,21,22]),(27,zK [0,5,13,14,18,19,21,22] [13,18,19,21,22]),(29,zK [5,13,18,19,21,22] [13,18,19,21,22]),(30,zK [13,18,19,21,22,31] [13,18,19,21,22,31])],
 [],[]⟩
abbrev R14:=Bool
abbrev e14 (r:R14):List PA:=[.one (.bool r)]
@[irreducible] def z14:=ptF Try.prog G14 zHi Try.f14
def zzs (zaa:(Sl Gate)) (at_a5:Int) (zal:Int) (zam:Int) (zan:Int) (zao:Int) (pv3:(Sl Int)) (cv5:(Sl Line)) (zaA:Int) (zaB:Int) (zay:Int) (zaz:Int) (zaE:Int) (zaF:Int) (zaG:Int) (zaH:Int) (zb2:Bool) (zbC:Bool) (zcK:Bool) (zb3:Bool) (zda:Int):St:=⟨[(0,zS enc_55 3 zaa),(5,zI at_a5),(13,zp 13 0),(14,zS zak 1 pv3),(16,zS zaL 4 cv5),(18,zp 18 0),(19,zp 19 0),(21,zp 21 0),(22,zp 22 0),(24,zB zb2),(25,zB zbC),(26,zB zcK),(27,zB zb3),(28,zI zda)],[(13,.box 37 (zm (zaL (⟨(⟨zal,zam⟩:Frac),(⟨zan,zao⟩:Frac)⟩:Line)))),(18,.box 25 (zm (zad (⟨zaA,zaB⟩:Frac)))),(19,.box 25 (zm (zad (⟨zay,zaz⟩:Frac)))),(21,.box 25 (zm (zad (⟨zaE,zaF⟩:Frac)))),(22,.box 25 (zm (zad (⟨zaG,zaH⟩:Frac))))],[]⟩
abbrev zl9 (K:List PA→Prop) (zaa:(Sl Gate)) (at_a5:Int) (zal:Int) (zam:Int) (zan:Int) (zao:Int) (pv3:(Sl Int)) (cv5:(Sl Line)) (zaA:Int) (zaB:Int) (zay:Int) (zaz:Int) (zaE:Int) (zaF:Int) (zaG:Int) (zaH:Int) (X:St→Prop) (P:Bool→Bool→Bool→Bool→Int→Bool) (S:Bool→Bool→Bool→Bool→Int→Bool):Prop:=∀ ⦃zb2:Bool⦄ ⦃zbC:Bool⦄ ⦃zcK:Bool⦄ ⦃zb3:Bool⦄ ⦃zda:Int⦄,P zb2 zbC zcK zb3 zda=true→K (e14 (S zb2 zbC zcK zb3 zda))→X (zzs zaa at_a5 zal zam zan zao pv3 cv5 zaA zaB zay zaz zaE zaF zaG zaH zb2 zbC zcK zb3 zda)
section
variable {K:List PA→Prop} {zaa:(Sl Gate)} {z:Int} {x:Int} {w:Int} {y_a4:Int} {at_a5:Int} {zrS:Bool} {zal:Int} {zam:Int} {zan:Int} {zao:Int} {pv3:(Sl Int)} {ev3:Int} {zKV:Nat→List PV} {cv5:(Sl Line)} {fv5:Int} {zKW:Nat→List PV} {gv7:Int} {zaA:Int} {zaB:Int} {zay:Int} {zaz:Int} {hv8:Int} {zaE:Int} {zaF:Int} {zaG:Int} {zaH:Int} {zb2:Bool} {zbC:Bool} {zcK:Bool} {zb3:Bool} {zda:Int} {X10:St→Prop} {P10:Bool→Bool→Bool→Bool→Int→Bool} {S10:Bool→Bool→Bool→Bool→Int→Bool} {zgy:Bool} {zeX:Bool} {zkI:Bool} {zgz:Bool} {zpb:Int} {zgA:Bool} {zgB:Bool} {zeY:Bool} {zkJ:Bool} {zgC:Bool} {zgD:Bool} {zeZ:Bool} {zkK:Bool} {zgE:Bool} {zjc:Int} {zgF:Bool} {ze0:Bool} {zkL:Bool} {zgG:Bool} {ztr:Int} {zDB:(Sl Int)} {zHj:Int} {zDC:Nat→List PV} {zgH:Bool} {zdD:Bool} {zet:Bool} {zbT:Bool} {zaJ:Int} {zpi:Int} {zpj:Int}
def znC (zal:Int) (zam:Int) (zan:Int) (zao:Int) (zaA:Int) (zaB:Int) (zay:Int) (zaz:Int) (zaE:Int) (zaF:Int) (zaG:Int) (zaH:Int) (zpi:Int) (zpj:Int):Bool :=
  (cond (!(s29 (⟨zpi, zpj⟩ : Frac) (⟨zaA, zaB⟩ : Frac)))
 (cond (!(s29 (⟨zay, zaz⟩ : Frac) (⟨zpi, zpj⟩ : Frac)))
 (cond (!(s29 (⟨zal, zam⟩ : Frac) (⟨zaE, zaF⟩ : Frac)))
 (cond (!(s29 (⟨zaG, zaH⟩ : Frac) (⟨zal, zam⟩ : Frac)))
 true
 false)
 false)
 false)
 false)
theorem zB1 (hk:K (e14 (znC zal zam zan zao zaA zaB zay zaz zaE zaF zaG zaH zpi zpj))):z14 K [1,1,1,1,1,1,1,1,1,1,1,1,1,1,1] [] ⟨[(13,zp 13 0),(18,zp 18 0),(19,zp 19 0),(21,zp 21 0),(22,zp 22 0),(31,zp 31 0)],[(13,.box 37 (zm (zaL (⟨(⟨zal,zam⟩:Frac),(⟨zan,zao⟩:Frac)⟩:Line)))),(18,.box 25 (zm (zad (⟨zaA,zaB⟩:Frac)))),(19,.box 25 (zm (zad (⟨zay,zaz⟩:Frac)))),(21,.box 25 (zm (zad (⟨zaE,zaF⟩:Frac)))),(22,.box 25 (zm (zad (⟨zaG,zaH⟩:Frac)))),(31,.box 25 (zm (zad (⟨zpi,zpj⟩:Frac))))],[]⟩:=zaK (by kernel_rfl) (zt hk (fun hk=>(zt hk (fun hk=>(zt hk (fun hk=>(zt hk (fun hk=>hk) (fun hk=>hk))) (fun hk=>hk))) (fun hk=>hk))) (fun hk=>hk))
def znD (at_a5:Int) (zal:Int) (zam:Int) (zan:Int) (zao:Int) (zaA:Int) (zaB:Int) (zay:Int) (zaz:Int) (zaE:Int) (zaF:Int) (zaG:Int) (zaH:Int):Bool :=
  (znC zal zam zan zao zaA zaB zay zaz zaE zaF zaG zaH ((s28 (⟨(⟨zal,zam⟩:Frac),(⟨zan,zao⟩:Frac)⟩:Line) at_a5).Num) ((s28 (⟨(⟨zal,zam⟩:Frac),(⟨zan,zao⟩:Frac)⟩:Line) at_a5).Den))
def znE (at_a5:Int) (zal:Int) (zam:Int) (zan:Int) (zao:Int) (zaA:Int) (zaB:Int) (zay:Int) (zaz:Int) (zaE:Int) (zaF:Int) (zaG:Int) (zaH:Int):Bool :=
  (decide ((p28 (⟨(⟨zal,zam⟩:Frac),(⟨zan,zao⟩:Frac)⟩:Line) at_a5=true)) &&
 true)
theorem zB2 (hs:znE at_a5 zal zam zan zao zaA zaB zay zaz zaE zaF zaG zaH=true) (hk:K (e14 (znD at_a5 zal zam zan zao zaA zaB zay zaz zaE zaF zaG zaH))):z14 K [1,1,1,1,1,1,1,1,1,1,1,1,1,1] [] ⟨[(5,zI at_a5),(13,zp 13 0),(18,zp 18 0),(19,zp 19 0),(21,zp 21 0),(22,zp 22 0)],[(13,.box 37 (zm (zaL (⟨(⟨zal,zam⟩:Frac),(⟨zan,zao⟩:Frac)⟩:Line)))),(18,.box 25 (zm (zad (⟨zaA,zaB⟩:Frac)))),(19,.box 25 (zm (zad (⟨zay,zaz⟩:Frac)))),(21,.box 25 (zm (zad (⟨zaE,zaF⟩:Frac)))),(22,.box 25 (zm (zad (⟨zaG,zaH⟩:Frac))))],[]⟩:=zaK (by kernel_rfl) (zaD hs fun hc hs=>And.intro hc (zB1 hk))
def znF (zaa:(Sl Gate)) (at_a5:Int) (zal:Int) (zam:Int) (zan:Int) (zao:Int) (pv3:(Sl Int)) (zaA:Int) (zaB:Int) (zay:Int) (zaz:Int) (zaE:Int) (zaF:Int) (zaG:Int) (zaH:Int):Bool :=
  (cond (decide ((pv3.len : Int) < (zaa.len : Int)))
 true
 (znD at_a5 zal zam zan zao zaA zaB zay zaz zaE zaF zaG zaH))
def znG (zaa:(Sl Gate)) (at_a5:Int) (zal:Int) (zam:Int) (zan:Int) (zao:Int) (pv3:(Sl Int)) (zaA:Int) (zaB:Int) (zay:Int) (zaz:Int) (zaE:Int) (zaF:Int) (zaG:Int) (zaH:Int):Bool :=
  (cond (decide ((pv3.len : Int) < (zaa.len : Int)))
 true
 (znE at_a5 zal zam zan zao zaA zaB zay zaz zaE zaF zaG zaH))
theorem zB3 (hs:znG zaa at_a5 zal zam zan zao pv3 zaA zaB zay zaz zaE zaF zaG zaH=true) (hk:K (e14 (znF zaa at_a5 zal zam zan zao pv3 zaA zaB zay zaz zaE zaF zaG zaH))):z14 K [1,1,1,1,1,1,1,1,1,1,1,1,1] [] ⟨[(0,zS enc_55 3 zaa),(5,zI at_a5),(13,zp 13 0),(14,zS zak 1 pv3),(18,zp 18 0),(19,zp 19 0),(21,zp 21 0),(22,zp 22 0)],[(13,.box 37 (zm (zaL (⟨(⟨zal,zam⟩:Frac),(⟨zan,zao⟩:Frac)⟩:Line)))),(18,.box 25 (zm (zad (⟨zaA,zaB⟩:Frac)))),(19,.box 25 (zm (zad (⟨zay,zaz⟩:Frac)))),(21,.box 25 (zm (zad (⟨zaE,zaF⟩:Frac)))),(22,.box 25 (zm (zad (⟨zaG,zaH⟩:Frac))))],[]⟩:=zaK (by kernel_rfl) (zc hs hk (fun hs hk=>hk) (fun hs hk=>(zB2 hs hk)))
def znH (S10:Bool→Bool→Bool→Bool→Int→Bool) (zaa:(Sl Gate)) (at_a5:Int) (zal:Int) (zam:Int) (zan:Int) (zao:Int) (pv3:(Sl Int)) (cv5:(Sl Line)) (zaA:Int) (zaB:Int) (zay:Int) (zaz:Int) (zaE:Int) (zaF:Int) (zaG:Int) (zaH:Int) (zgH:Bool) (zdD:Bool) (zet:Bool) (zbT:Bool) (zaJ:Int):Bool :=
  (cond zgH
 (cond zdD
 (cond zet
 (cond zbT
 (S10 true true true true (w64 (zaJ+(1:Int))))
 (S10 true true true (match ((s28 (cv5.get zaJ.toNat) at_a5).Num == zay) with | true=>(match ((s28 (cv5.get zaJ.toNat) at_a5).Den == zaz) with | true=>true | false=>false) | false=>false) (w64 (zaJ+(1:Int)))))
 (cond zbT
 (S10 true true (match ((s28 (cv5.get zaJ.toNat) at_a5).Num == zaA) with | true=>(match ((s28 (cv5.get zaJ.toNat) at_a5).Den == zaB) with | true=>true | false=>false) | false=>false) true (w64 (zaJ+(1:Int))))
 (S10 true true (match ((s28 (cv5.get zaJ.toNat) at_a5).Num == zaA) with | true=>(match ((s28 (cv5.get zaJ.toNat) at_a5).Den == zaB) with | true=>true | false=>false) | false=>false) (match ((s28 (cv5.get zaJ.toNat) at_a5).Num == zay) with | true=>(match ((s28 (cv5.get zaJ.toNat) at_a5).Den == zaz) with | true=>true | false=>false) | false=>false) (w64 (zaJ+(1:Int))))))
 (cond zet
 (cond zbT
 (S10 true (match ((cv5.get zaJ.toNat).Slope.Num == zaG) with | true=>(match ((cv5.get zaJ.toNat).Slope.Den == zaH) with | true=>true | false=>false) | false=>false) true true (w64 (zaJ+(1:Int))))
 (S10 true (match ((cv5.get zaJ.toNat).Slope.Num == zaG) with | true=>(match ((cv5.get zaJ.toNat).Slope.Den == zaH) with | true=>true | false=>false) | false=>false) true (match ((s28 (cv5.get zaJ.toNat) at_a5).Num == zay) with | true=>(match ((s28 (cv5.get zaJ.toNat) at_a5).Den == zaz) with | true=>true | false=>false) | false=>false) (w64 (zaJ+(1:Int)))))
 (cond zbT
 (S10 true (match ((cv5.get zaJ.toNat).Slope.Num == zaG) with | true=>(match ((cv5.get zaJ.toNat).Slope.Den == zaH) with | true=>true | false=>false) | false=>false) (match ((s28 (cv5.get zaJ.toNat) at_a5).Num == zaA) with | true=>(match ((s28 (cv5.get zaJ.toNat) at_a5).Den == zaB) with | true=>true | false=>false) | false=>false) true (w64 (zaJ+(1:Int))))
 (S10 true (match ((cv5.get zaJ.toNat).Slope.Num == zaG) with | true=>(match ((cv5.get zaJ.toNat).Slope.Den == zaH) with | true=>true | false=>false) | false=>false) (match ((s28 (cv5.get zaJ.toNat) at_a5).Num == zaA) with | true=>(match ((s28 (cv5.get zaJ.toNat) at_a5).Den == zaB) with | true=>true | false=>false) | false=>false) (match ((s28 (cv5.get zaJ.toNat) at_a5).Num == zay) with | true=>(match ((s28 (cv5.get zaJ.toNat) at_a5).Den == zaz) with | true=>true | false=>false) | false=>false) (w64 (zaJ+(1:Int)))))))
 (cond zdD
 (cond zet
 (cond zbT
 (S10 (match ((cv5.get zaJ.toNat).Slope.Num == zaE) with | true=>(match ((cv5.get zaJ.toNat).Slope.Den == zaF) with | true=>true | false=>false) | false=>false) true true true (w64 (zaJ+(1:Int))))
 (S10 (match ((cv5.get zaJ.toNat).Slope.Num == zaE) with | true=>(match ((cv5.get zaJ.toNat).Slope.Den == zaF) with | true=>true | false=>false) | false=>false) true true (match ((s28 (cv5.get zaJ.toNat) at_a5).Num == zay) with | true=>(match ((s28 (cv5.get zaJ.toNat) at_a5).Den == zaz) with | true=>true | false=>false) | false=>false) (w64 (zaJ+(1:Int)))))
 (cond zbT
 (S10 (match ((cv5.get zaJ.toNat).Slope.Num == zaE) with | true=>(match ((cv5.get zaJ.toNat).Slope.Den == zaF) with | true=>true | false=>false) | false=>false) true (match ((s28 (cv5.get zaJ.toNat) at_a5).Num == zaA) with | true=>(match ((s28 (cv5.get zaJ.toNat) at_a5).Den == zaB) with | true=>true | false=>false) | false=>false) true (w64 (zaJ+(1:Int))))
 (S10 (match ((cv5.get zaJ.toNat).Slope.Num == zaE) with | true=>(match ((cv5.get zaJ.toNat).Slope.Den == zaF) with | true=>true | false=>false) | false=>false) true (match ((s28 (cv5.get zaJ.toNat) at_a5).Num == zaA) with | true=>(match ((s28 (cv5.get zaJ.toNat) at_a5).Den == zaB) with | true=>true | false=>false) | false=>false) (match ((s28 (cv5.get zaJ.toNat) at_a5).Num == zay) with | true=>(match ((s28 (cv5.get zaJ.toNat) at_a5).Den == zaz) with | true=>true | false=>false) | false=>false) (w64 (zaJ+(1:Int))))))
 (cond zet
 (cond zbT
 (S10 (match ((cv5.get zaJ.toNat).Slope.Num == zaE) with | true=>(match ((cv5.get zaJ.toNat).Slope.Den == zaF) with | true=>true | false=>false) | false=>false) (match ((cv5.get zaJ.toNat).Slope.Num == zaG) with | true=>(match ((cv5.get zaJ.toNat).Slope.Den == zaH) with | true=>true | false=>false) | false=>false) true true (w64 (zaJ+(1:Int))))
 (S10 (match ((cv5.get zaJ.toNat).Slope.Num == zaE) with | true=>(match ((cv5.get zaJ.toNat).Slope.Den == zaF) with | true=>true | false=>false) | false=>false) (match ((cv5.get zaJ.toNat).Slope.Num == zaG) with | true=>(match ((cv5.get zaJ.toNat).Slope.Den == zaH) with | true=>true | false=>false) | false=>false) true (match ((s28 (cv5.get zaJ.toNat) at_a5).Num == zay) with | true=>(match ((s28 (cv5.get zaJ.toNat) at_a5).Den == zaz) with | true=>true | false=>false) | false=>false) (w64 (zaJ+(1:Int)))))
 (cond zbT
 (S10 (match ((cv5.get zaJ.toNat).Slope.Num == zaE) with | true=>(match ((cv5.get zaJ.toNat).Slope.Den == zaF) with | true=>true | false=>false) | false=>false) (match ((cv5.get zaJ.toNat).Slope.Num == zaG) with | true=>(match ((cv5.get zaJ.toNat).Slope.Den == zaH) with | true=>true | false=>false) | false=>false) (match ((s28 (cv5.get zaJ.toNat) at_a5).Num == zaA) with | true=>(match ((s28 (cv5.get zaJ.toNat) at_a5).Den == zaB) with | true=>true | false=>false) | false=>false) true (w64 (zaJ+(1:Int))))
 (S10 (match ((cv5.get zaJ.toNat).Slope.Num == zaE) with | true=>(match ((cv5.get zaJ.toNat).Slope.Den == zaF) with | true=>true | false=>false) | false=>false) (match ((cv5.get zaJ.toNat).Slope.Num == zaG) with | true=>(match ((cv5.get zaJ.toNat).Slope.Den == zaH) with | true=>true | false=>false) | false=>false) (match ((s28 (cv5.get zaJ.toNat) at_a5).Num == zaA) with | true=>(match ((s28 (cv5.get zaJ.toNat) at_a5).Den == zaB) with | true=>true | false=>false) | false=>false) (match ((s28 (cv5.get zaJ.toNat) at_a5).Num == zay) with | true=>(match ((s28 (cv5.get zaJ.toNat) at_a5).Den == zaz) with | true=>true | false=>false) | false=>false) (w64 (zaJ+(1:Int))))))))
def znI (P10:Bool→Bool→Bool→Bool→Int→Bool) (zaa:(Sl Gate)) (at_a5:Int) (zal:Int) (zam:Int) (zan:Int) (zao:Int) (pv3:(Sl Int)) (cv5:(Sl Line)) (zaA:Int) (zaB:Int) (zay:Int) (zaz:Int) (zaE:Int) (zaF:Int) (zaG:Int) (zaH:Int) (zgH:Bool) (zdD:Bool) (zet:Bool) (zbT:Bool) (zaJ:Int):Bool :=
  (cond zgH
 (cond zdD
 (cond zet
 (cond zbT
 (P10 true true true true (w64 (zaJ+(1:Int))))
 (decide ((0≤zaJ∧zaJ < (cv5.len:Int))) &&
 (decide ((p28 (cv5.get zaJ.toNat) at_a5=true)) &&
 (P10 true true true (match ((s28 (cv5.get zaJ.toNat) at_a5).Num == zay) with | true=>(match ((s28 (cv5.get zaJ.toNat) at_a5).Den == zaz) with | true=>true | false=>false) | false=>false) (w64 (zaJ+(1:Int)))))))
 (decide ((0≤zaJ∧zaJ < (cv5.len:Int))) &&
 (decide ((p28 (cv5.get zaJ.toNat) at_a5=true)) &&
 (cond zbT
 (P10 true true (match ((s28 (cv5.get zaJ.toNat) at_a5).Num == zaA) with | true=>(match ((s28 (cv5.get zaJ.toNat) at_a5).Den == zaB) with | true=>true | false=>false) | false=>false) true (w64 (zaJ+(1:Int))))
 (decide ((0≤zaJ∧zaJ < (cv5.len:Int))) &&
 (decide ((p28 (cv5.get zaJ.toNat) at_a5=true)) &&
 (P10 true true (match ((s28 (cv5.get zaJ.toNat) at_a5).Num == zaA) with | true=>(match ((s28 (cv5.get zaJ.toNat) at_a5).Den == zaB) with | true=>true | false=>false) | false=>false) (match ((s28 (cv5.get zaJ.toNat) at_a5).Num == zay) with | true=>(match ((s28 (cv5.get zaJ.toNat) at_a5).Den == zaz) with | true=>true | false=>false) | false=>false) (w64 (zaJ+(1:Int))))))))))
 (decide ((0≤zaJ∧zaJ < (cv5.len:Int))) &&
 (cond zet
 (cond zbT
 (P10 true (match ((cv5.get zaJ.toNat).Slope.Num == zaG) with | true=>(match ((cv5.get zaJ.toNat).Slope.Den == zaH) with | true=>true | false=>false) | false=>false) true true (w64 (zaJ+(1:Int))))
 (decide ((0≤zaJ∧zaJ < (cv5.len:Int))) &&
 (decide ((p28 (cv5.get zaJ.toNat) at_a5=true)) &&
 (P10 true (match ((cv5.get zaJ.toNat).Slope.Num == zaG) with | true=>(match ((cv5.get zaJ.toNat).Slope.Den == zaH) with | true=>true | false=>false) | false=>false) true (match ((s28 (cv5.get zaJ.toNat) at_a5).Num == zay) with | true=>(match ((s28 (cv5.get zaJ.toNat) at_a5).Den == zaz) with | true=>true | false=>false) | false=>false) (w64 (zaJ+(1:Int)))))))
 (decide ((0≤zaJ∧zaJ < (cv5.len:Int))) &&
 (decide ((p28 (cv5.get zaJ.toNat) at_a5=true)) &&
 (cond zbT
 (P10 true (match ((cv5.get zaJ.toNat).Slope.Num == zaG) with | true=>(match ((cv5.get zaJ.toNat).Slope.Den == zaH) with | true=>true | false=>false) | false=>false) (match ((s28 (cv5.get zaJ.toNat) at_a5).Num == zaA) with | true=>(match ((s28 (cv5.get zaJ.toNat) at_a5).Den == zaB) with | true=>true | false=>false) | false=>false) true (w64 (zaJ+(1:Int))))
 (decide ((0≤zaJ∧zaJ < (cv5.len:Int))) &&
 (decide ((p28 (cv5.get zaJ.toNat) at_a5=true)) &&
 (P10 true (match ((cv5.get zaJ.toNat).Slope.Num == zaG) with | true=>(match ((cv5.get zaJ.toNat).Slope.Den == zaH) with | true=>true | false=>false) | false=>false) (match ((s28 (cv5.get zaJ.toNat) at_a5).Num == zaA) with | true=>(match ((s28 (cv5.get zaJ.toNat) at_a5).Den == zaB) with | true=>true | false=>false) | false=>false) (match ((s28 (cv5.get zaJ.toNat) at_a5).Num == zay) with | true=>(match ((s28 (cv5.get zaJ.toNat) at_a5).Den == zaz) with | true=>true | false=>false) | false=>false) (w64 (zaJ+(1:Int))))))))))))
 (decide ((0≤zaJ∧zaJ < (cv5.len:Int))) &&
 (cond zdD
 (cond zet
 (cond zbT
 (P10 (match ((cv5.get zaJ.toNat).Slope.Num == zaE) with | true=>(match ((cv5.get zaJ.toNat).Slope.Den == zaF) with | true=>true | false=>false) | false=>false) true true true (w64 (zaJ+(1:Int))))
 (decide ((0≤zaJ∧zaJ < (cv5.len:Int))) &&
 (decide ((p28 (cv5.get zaJ.toNat) at_a5=true)) &&
 (P10 (match ((cv5.get zaJ.toNat).Slope.Num == zaE) with | true=>(match ((cv5.get zaJ.toNat).Slope.Den == zaF) with | true=>true | false=>false) | false=>false) true true (match ((s28 (cv5.get zaJ.toNat) at_a5).Num == zay) with | true=>(match ((s28 (cv5.get zaJ.toNat) at_a5).Den == zaz) with | true=>true | false=>false) | false=>false) (w64 (zaJ+(1:Int)))))))
 (decide ((0≤zaJ∧zaJ < (cv5.len:Int))) &&
 (decide ((p28 (cv5.get zaJ.toNat) at_a5=true)) &&
 (cond zbT
 (P10 (match ((cv5.get zaJ.toNat).Slope.Num == zaE) with | true=>(match ((cv5.get zaJ.toNat).Slope.Den == zaF) with | true=>true | false=>false) | false=>false) true (match ((s28 (cv5.get zaJ.toNat) at_a5).Num == zaA) with | true=>(match ((s28 (cv5.get zaJ.toNat) at_a5).Den == zaB) with | true=>true | false=>false) | false=>false) true (w64 (zaJ+(1:Int))))
 (decide ((0≤zaJ∧zaJ < (cv5.len:Int))) &&
 (decide ((p28 (cv5.get zaJ.toNat) at_a5=true)) &&
 (P10 (match ((cv5.get zaJ.toNat).Slope.Num == zaE) with | true=>(match ((cv5.get zaJ.toNat).Slope.Den == zaF) with | true=>true | false=>false) | false=>false) true (match ((s28 (cv5.get zaJ.toNat) at_a5).Num == zaA) with | true=>(match ((s28 (cv5.get zaJ.toNat) at_a5).Den == zaB) with | true=>true | false=>false) | false=>false) (match ((s28 (cv5.get zaJ.toNat) at_a5).Num == zay) with | true=>(match ((s28 (cv5.get zaJ.toNat) at_a5).Den == zaz) with | true=>true | false=>false) | false=>false) (w64 (zaJ+(1:Int))))))))))
 (decide ((0≤zaJ∧zaJ < (cv5.len:Int))) &&
 (cond zet
 (cond zbT
 (P10 (match ((cv5.get zaJ.toNat).Slope.Num == zaE) with | true=>(match ((cv5.get zaJ.toNat).Slope.Den == zaF) with | true=>true | false=>false) | false=>false) (match ((cv5.get zaJ.toNat).Slope.Num == zaG) with | true=>(match ((cv5.get zaJ.toNat).Slope.Den == zaH) with | true=>true | false=>false) | false=>false) true true (w64 (zaJ+(1:Int))))
 (decide ((0≤zaJ∧zaJ < (cv5.len:Int))) &&
 (decide ((p28 (cv5.get zaJ.toNat) at_a5=true)) &&
 (P10 (match ((cv5.get zaJ.toNat).Slope.Num == zaE) with | true=>(match ((cv5.get zaJ.toNat).Slope.Den == zaF) with | true=>true | false=>false) | false=>false) (match ((cv5.get zaJ.toNat).Slope.Num == zaG) with | true=>(match ((cv5.get zaJ.toNat).Slope.Den == zaH) with | true=>true | false=>false) | false=>false) true (match ((s28 (cv5.get zaJ.toNat) at_a5).Num == zay) with | true=>(match ((s28 (cv5.get zaJ.toNat) at_a5).Den == zaz) with | true=>true | false=>false) | false=>false) (w64 (zaJ+(1:Int)))))))
 (decide ((0≤zaJ∧zaJ < (cv5.len:Int))) &&
 (decide ((p28 (cv5.get zaJ.toNat) at_a5=true)) &&
 (cond zbT
 (P10 (match ((cv5.get zaJ.toNat).Slope.Num == zaE) with | true=>(match ((cv5.get zaJ.toNat).Slope.Den == zaF) with | true=>true | false=>false) | false=>false) (match ((cv5.get zaJ.toNat).Slope.Num == zaG) with | true=>(match ((cv5.get zaJ.toNat).Slope.Den == zaH) with | true=>true | false=>false) | false=>false) (match ((s28 (cv5.get zaJ.toNat) at_a5).Num == zaA) with | true=>(match ((s28 (cv5.get zaJ.toNat) at_a5).Den == zaB) with | true=>true | false=>false) | false=>false) true (w64 (zaJ+(1:Int))))
 (decide ((0≤zaJ∧zaJ < (cv5.len:Int))) &&
 (decide ((p28 (cv5.get zaJ.toNat) at_a5=true)) &&
 (P10 (match ((cv5.get zaJ.toNat).Slope.Num == zaE) with | true=>(match ((cv5.get zaJ.toNat).Slope.Den == zaF) with | true=>true | false=>false) | false=>false) (match ((cv5.get zaJ.toNat).Slope.Num == zaG) with | true=>(match ((cv5.get zaJ.toNat).Slope.Den == zaH) with | true=>true | false=>false) | false=>false) (match ((s28 (cv5.get zaJ.toNat) at_a5).Num == zaA) with | true=>(match ((s28 (cv5.get zaJ.toNat) at_a5).Den == zaB) with | true=>true | false=>false) | false=>false) (match ((s28 (cv5.get zaJ.toNat) at_a5).Num == zay) with | true=>(match ((s28 (cv5.get zaJ.toNat) at_a5).Den == zaz) with | true=>true | false=>false) | false=>false) (w64 (zaJ+(1:Int))))))))))))))
theorem zB4 (hX10:zl9 K zaa at_a5 zal zam zan zao pv3 cv5 zaA zaB zay zaz zaE zaF zaG zaH X10 P10 S10) (hs:znI P10 zaa at_a5 zal zam zan zao pv3 cv5 zaA zaB zay zaz zaE zaF zaG zaH zgH zdD zet zbT zaJ=true) (hk:K (e14 (znH S10 zaa at_a5 zal zam zan zao pv3 cv5 zaA zaB zay zaz zaE zaF zaG zaH zgH zdD zet zbT zaJ))):z14 K [1,1,1,1,1,1,1,1,1,1,1,0,1,0,0,1,0,0,1,1,1] [X10] ⟨[(0,zS enc_55 3 zaa),(5,zI at_a5),(13,zp 13 0),(14,zS zak 1 pv3),(16,zS zaL 4 cv5),(18,zp 18 0),(19,zp 19 0),(21,zp 21 0),(22,zp 22 0),(24,zB zgH),(25,zB zdD),(26,zB zet),(27,zB zbT),(28,zI zaJ)],[(13,.box 37 (zm (zaL (⟨(⟨zal,zam⟩:Frac),(⟨zan,zao⟩:Frac)⟩:Line)))),(18,.box 25 (zm (zad (⟨zaA,zaB⟩:Frac)))),(19,.box 25 (zm (zad (⟨zay,zaz⟩:Frac)))),(21,.box 25 (zm (zad (⟨zaE,zaF⟩:Frac)))),(22,.box 25 (zm (zad (⟨zaG,zaH⟩:Frac))))],[]⟩:=zaK (by kernel_rfl) (zc hs hk (fun hs hk=>(zc hs hk (fun hs hk=>(zc hs hk (fun hs hk=>(zc hs hk (fun hs hk=>(hX10 hs hk)) (fun hs hk=>(zaD hs fun hc hs=>And.intro hc (zaD hs fun hc hs=>And.intro hc (hX10 hs hk)))))) (fun hs hk=>(zaD hs fun hc hs=>And.intro hc (zaD hs fun hc hs=>And.intro hc (zc hs hk (fun hs hk=>(hX10 hs hk)) (fun hs hk=>(zaD hs fun hc hs=>And.intro hc (zaD hs fun hc hs=>And.intro hc (hX10 hs hk)))))))))) (fun hs hk=>(zaD hs fun hc hs=>And.intro hc (zc hs hk (fun hs hk=>(zc hs hk (fun hs hk=>(hX10 hs hk)) (fun hs hk=>(zaD hs fun hc hs=>And.intro hc (zaD hs fun hc hs=>And.intro hc (hX10 hs hk)))))) (fun hs hk=>(zaD hs fun hc hs=>And.intro hc (zaD hs fun hc hs=>And.intro hc (zc hs hk (fun hs hk=>(hX10 hs hk)) (fun hs hk=>(zaD hs fun hc hs=>And.intro hc (zaD hs fun hc hs=>And.intro hc (hX10 hs hk))))))))))))) (fun hs hk=>(zaD hs fun hc hs=>And.intro hc (zc hs hk (fun hs hk=>(zc hs hk (fun hs hk=>(zc hs hk (fun hs hk=>(hX10 hs hk)) (fun hs hk=>(zaD hs fun hc hs=>And.intro hc (zaD hs fun hc hs=>And.intro hc (hX10 hs hk)))))) (fun hs hk=>(zaD hs fun hc hs=>And.intro hc (zaD hs fun hc hs=>And.intro hc (zc hs hk (fun hs hk=>(hX10 hs hk)) (fun hs hk=>(zaD hs fun hc hs=>And.intro hc (zaD hs fun hc hs=>And.intro hc (hX10 hs hk)))))))))) (fun hs hk=>(zaD hs fun hc hs=>And.intro hc (zc hs hk (fun hs hk=>(zc hs hk (fun hs hk=>(hX10 hs hk)) (fun hs hk=>(zaD hs fun hc hs=>And.intro hc (zaD hs fun hc hs=>And.intro hc (hX10 hs hk)))))) (fun hs hk=>(zaD hs fun hc hs=>And.intro hc (zaD hs fun hc hs=>And.intro hc (zc hs hk (fun hs hk=>(hX10 hs hk)) (fun hs hk=>(zaD hs fun hc hs=>And.intro hc (zaD hs fun hc hs=>And.intro hc (hX10 hs hk)))))))))))))))
def znJ (S10:Bool→Bool→Bool→Bool→Int→Bool) (zaa:(Sl Gate)) (at_a5:Int) (zal:Int) (zam:Int) (zan:Int) (zao:Int) (pv3:(Sl Int)) (cv5:(Sl Line)) (zaA:Int) (zaB:Int) (zay:Int) (zaz:Int) (zaE:Int) (zaF:Int) (zaG:Int) (zaH:Int) (zgF:Bool) (ze0:Bool) (zkL:Bool) (zgG:Bool) (ztr:Int) (zDB:(Sl Int)) (zHj:Int):Bool :=
  (cond (zHj != (0:Int))
 false
 (cond ((zDB.len : Int) != (zaa.len : Int))
 false
 (znH S10 zaa at_a5 zal zam zan zao pv3 cv5 zaA zaB zay zaz zaE zaF zaG zaH zgF ze0 zkL zgG ztr)))
def znK (P10:Bool→Bool→Bool→Bool→Int→Bool) (zaa:(Sl Gate)) (at_a5:Int) (zal:Int) (zam:Int) (zan:Int) (zao:Int) (pv3:(Sl Int)) (cv5:(Sl Line)) (zaA:Int) (zaB:Int) (zay:Int) (zaz:Int) (zaE:Int) (zaF:Int) (zaG:Int) (zaH:Int) (zgF:Bool) (ze0:Bool) (zkL:Bool) (zgG:Bool) (ztr:Int) (zDB:(Sl Int)) (zHj:Int):Bool :=
  (cond (zHj != (0:Int))
 true
 (cond ((zDB.len : Int) != (zaa.len : Int))
 true
 (znI P10 zaa at_a5 zal zam zan zao pv3 cv5 zaA zaB zay zaz zaE zaF zaG zaH zgF ze0 zkL zgG ztr)))
theorem zB5 (hX10:zl9 K zaa at_a5 zal zam zan zao pv3 cv5 zaA zaB zay zaz zaE zaF zaG zaH X10 P10 S10) (hs:znK P10 zaa at_a5 zal zam zan zao pv3 cv5 zaA zaB zay zaz zaE zaF zaG zaH zgF ze0 zkL zgG ztr zDB zHj=true) (hk:K (e14 (znJ S10 zaa at_a5 zal zam zan zao pv3 cv5 zaA zaB zay zaz zaE zaF zaG zaH zgF ze0 zkL zgG ztr zDB zHj))) (zKX:zDC=zg zak zDB):z14 K [1,1,1,1,1,1,1,1,1,1,1,0,1,0,0,1,0,0,1,1] [X10] ⟨[(0,zS enc_55 3 zaa),(5,zI at_a5),(13,zp 13 0),(14,zS zak 1 pv3),(16,zS zaL 4 cv5),(18,zp 18 0),(19,zp 19 0),(21,zp 21 0),(22,zp 22 0),(24,zB zgF),(25,zB ze0),(26,zB zkL),(27,zB zgG),(28,zI ztr),(29,zP (.sl zDB.len 1 zDC)),(30,zI zHj)],[(13,.box 37 (zm (zaL (⟨(⟨zal,zam⟩:Frac),(⟨zan,zao⟩:Frac)⟩:Line)))),(18,.box 25 (zm (zad (⟨zaA,zaB⟩:Frac)))),(19,.box 25 (zm (zad (⟨zay,zaz⟩:Frac)))),(21,.box 25 (zm (zad (⟨zaE,zaF⟩:Frac)))),(22,.box 25 (zm (zad (⟨zaG,zaH⟩:Frac))))],[]⟩:=by subst zKX;exact zaK (by kernel_rfl) (zc hs hk (fun hs hk=>hk) (fun hs hk=>(zc hs hk (fun hs hk=>hk) (fun hs hk=>(zB4 hX10 hs hk)))))
def znL (S10:Bool→Bool→Bool→Bool→Int→Bool) (zaa:(Sl Gate)) (at_a5:Int) (zal:Int) (zam:Int) (zan:Int) (zao:Int) (pv3:(Sl Int)) (cv5:(Sl Line)) (zaA:Int) (zaB:Int) (zay:Int) (zaz:Int) (zaE:Int) (zaF:Int) (zaG:Int) (zaH:Int) (zgD:Bool) (zeZ:Bool) (zkK:Bool) (zgE:Bool) (zjc:Int):Bool :=
  (znJ S10 zaa at_a5 zal zam zan zao pv3 cv5 zaA zaB zay zaz zaE zaF zaG zaH zgD zeZ zkK zgE zjc ((s52 (cv5.get zjc.toNat) zaa).1) ((s52 (cv5.get zjc.toNat) zaa).2))
def znM (P10:Bool→Bool→Bool→Bool→Int→Bool) (zaa:(Sl Gate)) (at_a5:Int) (zal:Int) (zam:Int) (zan:Int) (zao:Int) (pv3:(Sl Int)) (cv5:(Sl Line)) (zaA:Int) (zaB:Int) (zay:Int) (zaz:Int) (zaE:Int) (zaF:Int) (zaG:Int) (zaH:Int) (zgD:Bool) (zeZ:Bool) (zkK:Bool) (zgE:Bool) (zjc:Int):Bool :=
  (decide ((0≤zjc∧zjc < (cv5.len:Int))) &&
 (decide ((p52 (cv5.get zjc.toNat) zaa=true)) &&
 (znK P10 zaa at_a5 zal zam zan zao pv3 cv5 zaA zaB zay zaz zaE zaF zaG zaH zgD zeZ zkK zgE zjc ((s52 (cv5.get zjc.toNat) zaa).1) ((s52 (cv5.get zjc.toNat) zaa).2))))
theorem zB6 (hX10:zl9 K zaa at_a5 zal zam zan zao pv3 cv5 zaA zaB zay zaz zaE zaF zaG zaH X10 P10 S10) (hs:znM P10 zaa at_a5 zal zam zan zao pv3 cv5 zaA zaB zay zaz zaE zaF zaG zaH zgD zeZ zkK zgE zjc=true) (hk:K (e14 (znL S10 zaa at_a5 zal zam zan zao pv3 cv5 zaA zaB zay zaz zaE zaF zaG zaH zgD zeZ zkK zgE zjc))):z14 K [1,1,1,1,1,1,1,1,1,1,1,0,1,0,0,1,0,0,1] [X10] ⟨[(0,zS enc_55 3 zaa),(5,zI at_a5),(13,zp 13 0),(14,zS zak 1 pv3),(16,zS zaL 4 cv5),(18,zp 18 0),(19,zp 19 0),(21,zp 21 0),(22,zp 22 0),(24,zB zgD),(25,zB zeZ),(26,zB zkK),(27,zB zgE),(28,zI zjc)],[(13,.box 37 (zm (zaL (⟨(⟨zal,zam⟩:Frac),(⟨zan,zao⟩:Frac)⟩:Line)))),(18,.box 25 (zm (zad (⟨zaA,zaB⟩:Frac)))),(19,.box 25 (zm (zad (⟨zay,zaz⟩:Frac)))),(21,.box 25 (zm (zad (⟨zaE,zaF⟩:Frac)))),(22,.box 25 (zm (zad (⟨zaG,zaH⟩:Frac))))],[]⟩:=zaK (by kernel_rfl) (zaD hs fun hc hs=>And.intro hc (zaD hs fun hc hs=>And.intro (And.intro (zE enc_55 3 zaa.get) hc) (zB5 hX10 hs hk rfl)))
def zhq (zaa:(Sl Gate)) (at_a5:Int) (zal:Int) (zam:Int) (zan:Int) (zao:Int) (pv3:(Sl Int)) (zaA:Int) (zaB:Int) (zay:Int) (zaz:Int) (zaE:Int) (zaF:Int) (zaG:Int) (zaH:Int) (zgB:Bool) (zeY:Bool) (zkJ:Bool) (zgC:Bool):Bool :=
  (cond (!zgB)
 false
 (cond (!zeY)
 false
 (cond (!zkJ)
 false
 (cond (!zgC)
 false
 (znF zaa at_a5 zal zam zan zao pv3 zaA zaB zay zaz zaE zaF zaG zaH)))))
def zhr (zaa:(Sl Gate)) (at_a5:Int) (zal:Int) (zam:Int) (zan:Int) (zao:Int) (pv3:(Sl Int)) (zaA:Int) (zaB:Int) (zay:Int) (zaz:Int) (zaE:Int) (zaF:Int) (zaG:Int) (zaH:Int) (zgB:Bool) (zeY:Bool) (zkJ:Bool) (zgC:Bool):Bool :=
  (cond (!zgB)
 true
 (cond (!zeY)
 true
 (cond (!zkJ)
 true
 (cond (!zgC)
 true
 (znG zaa at_a5 zal zam zan zao pv3 zaA zaB zay zaz zaE zaF zaG zaH)))))
theorem zB7 (hs:zhr zaa at_a5 zal zam zan zao pv3 zaA zaB zay zaz zaE zaF zaG zaH zgB zeY zkJ zgC=true) (hk:K (e14 (zhq zaa at_a5 zal zam zan zao pv3 zaA zaB zay zaz zaE zaF zaG zaH zgB zeY zkJ zgC))):z14 K [1,1,1,1,1,1,1,1,1,1,1,1] [] ⟨[(0,zS enc_55 3 zaa),(5,zI at_a5),(13,zp 13 0),(14,zS zak 1 pv3),(18,zp 18 0),(19,zp 19 0),(21,zp 21 0),(22,zp 22 0),(24,zB zgB),(25,zB zeY),(26,zB zkJ),(27,zB zgC)],[(13,.box 37 (zm (zaL (⟨(⟨zal,zam⟩:Frac),(⟨zan,zao⟩:Frac)⟩:Line)))),(18,.box 25 (zm (zad (⟨zaA,zaB⟩:Frac)))),(19,.box 25 (zm (zad (⟨zay,zaz⟩:Frac)))),(21,.box 25 (zm (zad (⟨zaE,zaF⟩:Frac)))),(22,.box 25 (zm (zad (⟨zaG,zaH⟩:Frac))))],[]⟩:=zaK (by kernel_rfl) (zc hs hk (fun hs hk=>hk) (fun hs hk=>(zc hs hk (fun hs hk=>hk) (fun hs hk=>(zc hs hk (fun hs hk=>hk) (fun hs hk=>(zc hs hk (fun hs hk=>hk) (fun hs hk=>(zB3 hs hk)))))))))
def znN (S10:Bool→Bool→Bool→Bool→Int→Bool) (zaa:(Sl Gate)) (at_a5:Int) (zal:Int) (zam:Int) (zan:Int) (zao:Int) (pv3:(Sl Int)) (cv5:(Sl Line)) (zaA:Int) (zaB:Int) (zay:Int) (zaz:Int) (zaE:Int) (zaF:Int) (zaG:Int) (zaH:Int) (zgy:Bool) (zeX:Bool) (zkI:Bool) (zgz:Bool) (zpb:Int) (zgA:Bool):Bool :=
  (cond zgA
 false
 (znL S10 zaa at_a5 zal zam zan zao pv3 cv5 zaA zaB zay zaz zaE zaF zaG zaH zgy zeX zkI zgz zpb))
def znO (P10:Bool→Bool→Bool→Bool→Int→Bool) (zaa:(Sl Gate)) (at_a5:Int) (zal:Int) (zam:Int) (zan:Int) (zao:Int) (pv3:(Sl Int)) (cv5:(Sl Line)) (zaA:Int) (zaB:Int) (zay:Int) (zaz:Int) (zaE:Int) (zaF:Int) (zaG:Int) (zaH:Int) (zgy:Bool) (zeX:Bool) (zkI:Bool) (zgz:Bool) (zpb:Int) (zgA:Bool):Bool :=
  (cond zgA
 true
 (znM P10 zaa at_a5 zal zam zan zao pv3 cv5 zaA zaB zay zaz zaE zaF zaG zaH zgy zeX zkI zgz zpb))
theorem zB8 (hX10:zl9 K zaa at_a5 zal zam zan zao pv3 cv5 zaA zaB zay zaz zaE zaF zaG zaH X10 P10 S10) (hs:znO P10 zaa at_a5 zal zam zan zao pv3 cv5 zaA zaB zay zaz zaE zaF zaG zaH zgy zeX zkI zgz zpb zgA=true) (hk:K (e14 (znN S10 zaa at_a5 zal zam zan zao pv3 cv5 zaA zaB zay zaz zaE zaF zaG zaH zgy zeX zkI zgz zpb zgA))):z14 K [1,1,1,1,1,1,1,1,1,1,1,0,1,0,0,1,0,0,0,1] [X10] ⟨[(0,zS enc_55 3 zaa),(5,zI at_a5),(13,zp 13 0),(14,zS zak 1 pv3),(16,zS zaL 4 cv5),(18,zp 18 0),(19,zp 19 0),(21,zp 21 0),(22,zp 22 0),(24,zB zgy),(25,zB zeX),(26,zB zkI),(27,zB zgz),(28,zI zpb),(123,zB zgA)],[(13,.box 37 (zm (zaL (⟨(⟨zal,zam⟩:Frac),(⟨zan,zao⟩:Frac)⟩:Line)))),(18,.box 25 (zm (zad (⟨zaA,zaB⟩:Frac)))),(19,.box 25 (zm (zad (⟨zay,zaz⟩:Frac)))),(21,.box 25 (zm (zad (⟨zaE,zaF⟩:Frac)))),(22,.box 25 (zm (zad (⟨zaG,zaH⟩:Frac))))],[]⟩:=zaK (by kernel_rfl) (zc hs hk (fun hs hk=>hk) (fun hs hk=>(zB6 hX10 hs hk)))
def zfW (zaa:(Sl Gate)) (at_a5:Int) (zal:Int) (zam:Int) (zan:Int) (zao:Int) (pv3:(Sl Int)) (cv5:(Sl Line)) (zaA:Int) (zaB:Int) (zay:Int) (zaz:Int) (zaE:Int) (zaF:Int) (zaG:Int) (zaH:Int) (S10:Bool→Bool→Bool→Bool→Int→Bool) (zb2:Bool) (zbC:Bool) (zcK:Bool) (zb3:Bool) (zda:Int):Bool :=
  (cond (decide (zda < (cv5.len : Int)))
 (znN S10 zaa at_a5 zal zam zan zao pv3 cv5 zaA zaB zay zaz zaE zaF zaG zaH zb2 zbC zcK zb3 zda (!(s53 (cv5.get zda.toNat))))
 (zhq zaa at_a5 zal zam zan zao pv3 zaA zaB zay zaz zaE zaF zaG zaH zb2 zbC zcK zb3))
def zfX (zaa:(Sl Gate)) (at_a5:Int) (zal:Int) (zam:Int) (zan:Int) (zao:Int) (pv3:(Sl Int)) (cv5:(Sl Line)) (zaA:Int) (zaB:Int) (zay:Int) (zaz:Int) (zaE:Int) (zaF:Int) (zaG:Int) (zaH:Int) (P10:Bool→Bool→Bool→Bool→Int→Bool) (zb2:Bool) (zbC:Bool) (zcK:Bool) (zb3:Bool) (zda:Int):Bool :=
  (cond (decide (zda < (cv5.len : Int)))
 (decide ((0≤zda∧zda < (cv5.len:Int))) &&
 (decide ((p53 (cv5.get zda.toNat)=true)) &&
 (znO P10 zaa at_a5 zal zam zan zao pv3 cv5 zaA zaB zay zaz zaE zaF zaG zaH zb2 zbC zcK zb3 zda (!(s53 (cv5.get zda.toNat))))))
 (zhr zaa at_a5 zal zam zan zao pv3 zaA zaB zay zaz zaE zaF zaG zaH zb2 zbC zcK zb3))
def zhs (zaa:(Sl Gate)) (at_a5:Int) (zal:Int) (zam:Int) (zan:Int) (zao:Int) (pv3:(Sl Int)) (cv5:(Sl Line)) (zaA:Int) (zaB:Int) (zay:Int) (zaz:Int) (zaE:Int) (zaF:Int) (zaG:Int) (zaH:Int):Nat→Bool→Bool→Bool→Bool→Int→Bool:=lpO (fun _ _ _ _ _=>default) (zfW zaa at_a5 zal zam zan zao pv3 cv5 zaA zaB zay zaz zaE zaF zaG zaH)
def zht (zaa:(Sl Gate)) (at_a5:Int) (zal:Int) (zam:Int) (zan:Int) (zao:Int) (pv3:(Sl Int)) (cv5:(Sl Line)) (zaA:Int) (zaB:Int) (zay:Int) (zaz:Int) (zaE:Int) (zaF:Int) (zaG:Int) (zaH:Int):Nat→Bool→Bool→Bool→Bool→Int→Bool:=lpO (fun _ _ _ _ _=>false) (zfX zaa at_a5 zal zam zan zao pv3 cv5 zaA zaB zay zaz zaE zaF zaG zaH)
def ztC (zaa:(Sl Gate)) (at_a5:Int) (zal:Int) (zam:Int) (zan:Int) (zao:Int) (pv3:(Sl Int)) (cv5:(Sl Line)) (zaA:Int) (zaB:Int) (zay:Int) (zaz:Int) (zaE:Int) (zaF:Int) (zaG:Int) (zaH:Int) (zb2:Bool) (zbC:Bool) (zcK:Bool) (zb3:Bool) (zda:Int):Bool:=zhs zaa at_a5 zal zam zan zao pv3 cv5 zaA zaB zay zaz zaE zaF zaG zaH Fuel zb2 zbC zcK zb3 zda
def ztD (zaa:(Sl Gate)) (at_a5:Int) (zal:Int) (zam:Int) (zan:Int) (zao:Int) (pv3:(Sl Int)) (cv5:(Sl Line)) (zaA:Int) (zaB:Int) (zay:Int) (zaz:Int) (zaE:Int) (zaF:Int) (zaG:Int) (zaH:Int) (zb2:Bool) (zbC:Bool) (zcK:Bool) (zb3:Bool) (zda:Int):Bool:=zht zaa at_a5 zal zam zan zao pv3 cv5 zaA zaB zay zaz zaE zaF zaG zaH Fuel zb2 zbC zcK zb3 zda
theorem zB9 (hs:ztD zaa at_a5 zal zam zan zao pv3 cv5 zaA zaB zay zaz zaE zaF zaG zaH zb2 zbC zcK zb3 zda=true) (hk:K (e14 (ztC zaa at_a5 zal zam zan zao pv3 cv5 zaA zaB zay zaz zaE zaF zaG zaH zb2 zbC zcK zb3 zda))):z14 K [1,1,1,1,1,1,1,1,1,1,1,0,1,0] [] (zzs zaa at_a5 zal zam zan zao pv3 cv5 zaA zaB zay zaz zaE zaF zaG zaH zb2 zbC zcK zb3 zda) :=
  zl (fun X=>z14 K [1,1,1,1,1,1,1,1,1,1,1,0,1,0,0] [X]) (by kernel_rfl) fun X10 hX =>
  (show ∀ k, zl9 K zaa at_a5 zal zam zan zao pv3 cv5 zaA zaB zay zaz zaE zaF zaG zaH X10 (zht zaa at_a5 zal zam zan zao pv3 cv5 zaA zaB zay zaz zaE zaF zaG zaH k) (zhs zaa at_a5 zal zam zan zao pv3 cv5 zaA zaB zay zaz zaE zaF zaG zaH k) from zgj _ _ (zfX zaa at_a5 zal zam zan zao pv3 cv5 zaA zaB zay zaz zaE zaF zaG zaH) (zfW zaa at_a5 zal zam zan zao pv3 cv5 zaA zaB zay zaz zaE zaF zaG zaH) (zl9 K zaa at_a5 zal zam zan zao pv3 cv5 zaA zaB zay zaz zaE zaF zaG zaH X10)
 (by intro _ _ _ _ _ hs;exact absurd hs Bool.false_ne_true)
 (by intro P10 S10 hX10 zb2 zbC zcK zb3 zda hs hk;exact hX _ (zaK (by kernel_rfl) (zc hs hk (fun hs hk=>(zaD hs fun hc hs=>And.intro hc (zaD hs fun hc hs=>And.intro hc (zB8 hX10 hs hk)))) (fun hs hk=>(zB7 hs hk)))))) _ hs hk
def zrT (zaa:(Sl Gate)) (at_a5:Int) (zal:Int) (zam:Int) (zan:Int) (zao:Int) (pv3:(Sl Int)) (cv5:(Sl Line)) (zaA:Int) (zaB:Int) (zay:Int) (zaz:Int) (zaE:Int) (zaF:Int) (zaG:Int) (zaH:Int):Bool :=
  (ztC zaa at_a5 zal zam zan zao pv3 cv5 zaA zaB zay zaz zaE zaF zaG zaH false false false false (0:Int))
def zrU (zaa:(Sl Gate)) (at_a5:Int) (zal:Int) (zam:Int) (zan:Int) (zao:Int) (pv3:(Sl Int)) (cv5:(Sl Line)) (zaA:Int) (zaB:Int) (zay:Int) (zaz:Int) (zaE:Int) (zaF:Int) (zaG:Int) (zaH:Int):Bool :=
  (ztD zaa at_a5 zal zam zan zao pv3 cv5 zaA zaB zay zaz zaE zaF zaG zaH false false false false (0:Int))
theorem zHk (hs:zrU zaa at_a5 zal zam zan zao pv3 cv5 zaA zaB zay zaz zaE zaF zaG zaH=true) (hk:K (e14 (zrT zaa at_a5 zal zam zan zao pv3 cv5 zaA zaB zay zaz zaE zaF zaG zaH))):z14 K [1,1,1,1,1,1,1,1,1,1] [] ⟨[(0,zS enc_55 3 zaa),(5,zI at_a5),(13,zp 13 0),(14,zS zak 1 pv3),(16,zS zaL 4 cv5),(18,zp 18 0),(19,zp 19 0),(21,zp 21 0),(22,zp 22 0)],[(13,.box 37 (zm (zaL (⟨(⟨zal,zam⟩:Frac),(⟨zan,zao⟩:Frac)⟩:Line)))),(18,.box 25 (zm (zad (⟨zaA,zaB⟩:Frac)))),(19,.box 25 (zm (zad (⟨zay,zaz⟩:Frac)))),(21,.box 25 (zm (zad (⟨zaE,zaF⟩:Frac)))),(22,.box 25 (zm (zad (⟨zaG,zaH⟩:Frac))))],[]⟩:=zaK (by kernel_rfl) (zB9 hs hk)
def zrV (zaa:(Sl Gate)) (at_a5:Int) (zal:Int) (zam:Int) (zan:Int) (zao:Int) (pv3:(Sl Int)) (cv5:(Sl Line)) (gv7:Int) (zaA:Int) (zaB:Int) (zay:Int) (zaz:Int) (hv8:Int) (zaE:Int) (zaF:Int) (zaG:Int) (zaH:Int):Bool :=
  (cond (gv7 != (0:Int))
 false
 (cond (hv8 != (0:Int))
 false
 (cond ((cv5.len : Int) == (0:Int))
 false
 (zrT zaa at_a5 zal zam zan zao pv3 cv5 zaA zaB zay zaz zaE zaF zaG zaH))))
def zrW (zaa:(Sl Gate)) (at_a5:Int) (zal:Int) (zam:Int) (zan:Int) (zao:Int) (pv3:(Sl Int)) (cv5:(Sl Line)) (gv7:Int) (zaA:Int) (zaB:Int) (zay:Int) (zaz:Int) (hv8:Int) (zaE:Int) (zaF:Int) (zaG:Int) (zaH:Int):Bool :=
  (cond (gv7 != (0:Int))
 true
 (cond (hv8 != (0:Int))
 true
 (cond ((cv5.len : Int) == (0:Int))
 true
 (zrU zaa at_a5 zal zam zan zao pv3 cv5 zaA zaB zay zaz zaE zaF zaG zaH))))
theorem zHl (hs:zrW zaa at_a5 zal zam zan zao pv3 cv5 gv7 zaA zaB zay zaz hv8 zaE zaF zaG zaH=true) (hk:K (e14 (zrV zaa at_a5 zal zam zan zao pv3 cv5 gv7 zaA zaB zay zaz hv8 zaE zaF zaG zaH))):z14 K [1,1,1,1,1,1,1,1,1] [] ⟨[(0,zS enc_55 3 zaa),(5,zI at_a5),(13,zp 13 0),(14,zS zak 1 pv3),(16,zS zaL 4 cv5),(18,zp 18 0),(19,zp 19 0),(20,zI gv7),(21,zp 21 0),(22,zp 22 0),(23,zI hv8)],[(13,.box 37 (zm (zaL (⟨(⟨zal,zam⟩:Frac),(⟨zan,zao⟩:Frac)⟩:Line)))),(18,.box 25 (zm (zad (⟨zaA,zaB⟩:Frac)))),(19,.box 25 (zm (zad (⟨zay,zaz⟩:Frac)))),(21,.box 25 (zm (zad (⟨zaE,zaF⟩:Frac)))),(22,.box 25 (zm (zad (⟨zaG,zaH⟩:Frac))))],[]⟩:=zaK (by kernel_rfl) (zc hs hk (fun hs hk=>hk) (fun hs hk=>(zc hs hk (fun hs hk=>hk) (fun hs hk=>(zc hs hk (fun hs hk=>hk) (fun hs hk=>(zHk hs hk)))))))
def zrX (zaa:(Sl Gate)) (at_a5:Int) (zal:Int) (zam:Int) (zan:Int) (zao:Int) (pv3:(Sl Int)) (cv5:(Sl Line)) (gv7:Int) (zaA:Int) (zaB:Int) (zay:Int) (zaz:Int):Bool :=
  (zrV zaa at_a5 zal zam zan zao pv3 cv5 gv7 zaA zaB zay zaz ((s35 zaa).2.2) (((s35 zaa).1).Num) (((s35 zaa).1).Den) (((s35 zaa).2.1).Num) (((s35 zaa).2.1).Den))
def zrY (zaa:(Sl Gate)) (at_a5:Int) (zal:Int) (zam:Int) (zan:Int) (zao:Int) (pv3:(Sl Int)) (cv5:(Sl Line)) (gv7:Int) (zaA:Int) (zaB:Int) (zay:Int) (zaz:Int):Bool :=
  (decide ((p35 zaa=true)) &&
 (zrW zaa at_a5 zal zam zan zao pv3 cv5 gv7 zaA zaB zay zaz ((s35 zaa).2.2) (((s35 zaa).1).Num) (((s35 zaa).1).Den) (((s35 zaa).2.1).Num) (((s35 zaa).2.1).Den)))
theorem zHm (hs:zrY zaa at_a5 zal zam zan zao pv3 cv5 gv7 zaA zaB zay zaz=true) (hk:K (e14 (zrX zaa at_a5 zal zam zan zao pv3 cv5 gv7 zaA zaB zay zaz))):z14 K [1,1,1,1,1,1,1,1] [] ⟨[(0,zS enc_55 3 zaa),(5,zI at_a5),(13,zp 13 0),(14,zS zak 1 pv3),(16,zS zaL 4 cv5),(18,zp 18 0),(19,zp 19 0),(20,zI gv7)],[(13,.box 37 (zm (zaL (⟨(⟨zal,zam⟩:Frac),(⟨zan,zao⟩:Frac)⟩:Line)))),(18,.box 25 (zm (zad (⟨zaA,zaB⟩:Frac)))),(19,.box 25 (zm (zad (⟨zay,zaz⟩:Frac))))],[]⟩:=zaK (by kernel_rfl) (zaD hs fun hc hs=>And.intro (And.intro (zE enc_55 3 zaa.get) hc) (zHl hs hk))
def zrZ (zaa:(Sl Gate)) (at_a5:Int) (zal:Int) (zam:Int) (zan:Int) (zao:Int) (pv3:(Sl Int)) (cv5:(Sl Line)):Bool :=
  (zrX zaa at_a5 zal zam zan zao pv3 cv5 ((s30 zaa at_a5).2.2) (((s30 zaa at_a5).1).Num) (((s30 zaa at_a5).1).Den) (((s30 zaa at_a5).2.1).Num) (((s30 zaa at_a5).2.1).Den))
def zr0 (zaa:(Sl Gate)) (at_a5:Int) (zal:Int) (zam:Int) (zan:Int) (zao:Int) (pv3:(Sl Int)) (cv5:(Sl Line)):Bool :=
  (decide ((p30 zaa at_a5=true)) &&
 (zrY zaa at_a5 zal zam zan zao pv3 cv5 ((s30 zaa at_a5).2.2) (((s30 zaa at_a5).1).Num) (((s30 zaa at_a5).1).Den) (((s30 zaa at_a5).2.1).Num) (((s30 zaa at_a5).2.1).Den)))
theorem zHn (hs:zr0 zaa at_a5 zal zam zan zao pv3 cv5=true) (hk:K (e14 (zrZ zaa at_a5 zal zam zan zao pv3 cv5))):z14 K [1,1,1,1,1,1,1] [] ⟨[(0,zS enc_55 3 zaa),(5,zI at_a5),(13,zp 13 0),(14,zS zak 1 pv3),(16,zS zaL 4 cv5)],[(13,.box 37 (zm (zaL (⟨(⟨zal,zam⟩:Frac),(⟨zan,zao⟩:Frac)⟩:Line))))],[]⟩:=zaK (by kernel_rfl) (zaD hs fun hc hs=>And.intro (And.intro (zE enc_55 3 zaa.get) hc) (zHm hs hk))
def zr1 (zaa:(Sl Gate)) (at_a5:Int) (zal:Int) (zam:Int) (zan:Int) (zao:Int) (pv3:(Sl Int)) (cv5:(Sl Line)) (fv5:Int):Bool :=
  (cond (fv5 != (0:Int))
 (cond (fv5 == (5:Int))
 (cond (decide ((pv3.len : Int) < (zaa.len : Int)))
 true
 false)
 false)
 (zrZ zaa at_a5 zal zam zan zao pv3 cv5))
def zr2 (zaa:(Sl Gate)) (at_a5:Int) (zal:Int) (zam:Int) (zan:Int) (zao:Int) (pv3:(Sl Int)) (cv5:(Sl Line)) (fv5:Int):Bool :=
  (cond (fv5 != (0:Int))
 true
 (zr0 zaa at_a5 zal zam zan zao pv3 cv5))
theorem zHo (hs:zr2 zaa at_a5 zal zam zan zao pv3 cv5 fv5=true) (hk:K (e14 (zr1 zaa at_a5 zal zam zan zao pv3 cv5 fv5))) (zNk:zKW=zg zaL cv5):z14 K [1,1,1,1,1,1] [] ⟨[(0,zS enc_55 3 zaa),(5,zI at_a5),(13,zp 13 0),(14,zS zak 1 pv3),(16,zP (.sl cv5.len 4 zKW)),(17,zI fv5)],[(13,.box 37 (zm (zaL (⟨(⟨zal,zam⟩:Frac),(⟨zan,zao⟩:Frac)⟩:Line))))],[]⟩:=by subst zNk;exact zaK (by kernel_rfl) (zc hs hk (fun hs hk=>(zt hk (fun hk=>(zt hk (fun hk=>hk) (fun hk=>hk))) (fun hk=>hk))) (fun hs hk=>(zHn hs hk)))
def znP (zaa:(Sl Gate)) (at_a5:Int) (zal:Int) (zam:Int) (zan:Int) (zao:Int) (pv3:(Sl Int)):Bool :=
  (zr1 zaa at_a5 zal zam zan zao pv3 ((s31 zaa).1) ((s31 zaa).2))
def znQ (zaa:(Sl Gate)) (at_a5:Int) (zal:Int) (zam:Int) (zan:Int) (zao:Int) (pv3:(Sl Int)):Bool :=
  (decide ((p31 zaa=true)) &&
 (zr2 zaa at_a5 zal zam zan zao pv3 ((s31 zaa).1) ((s31 zaa).2)))
theorem zHp (hs:znQ zaa at_a5 zal zam zan zao pv3=true) (hk:K (e14 (znP zaa at_a5 zal zam zan zao pv3))):z14 K [1,1,1,1,1] [] ⟨[(0,zS enc_55 3 zaa),(5,zI at_a5),(13,zp 13 0),(14,zS zak 1 pv3)],[(13,.box 37 (zm (zaL (⟨(⟨zal,zam⟩:Frac),(⟨zan,zao⟩:Frac)⟩:Line))))],[]⟩:=zaK (by kernel_rfl) (zaD hs fun hc hs=>And.intro (And.intro (zE enc_55 3 zaa.get) hc) (zHo hs hk rfl))
def zr3 (zaa:(Sl Gate)) (at_a5:Int) (zal:Int) (zam:Int) (zan:Int) (zao:Int) (pv3:(Sl Int)) (ev3:Int):Bool :=
  (cond (ev3 != (0:Int))
 false
 (znP zaa at_a5 zal zam zan zao pv3))
def zr4 (zaa:(Sl Gate)) (at_a5:Int) (zal:Int) (zam:Int) (zan:Int) (zao:Int) (pv3:(Sl Int)) (ev3:Int):Bool :=
  (cond (ev3 != (0:Int))
 true
 (znQ zaa at_a5 zal zam zan zao pv3))
theorem zHq (hs:zr4 zaa at_a5 zal zam zan zao pv3 ev3=true) (hk:K (e14 (zr3 zaa at_a5 zal zam zan zao pv3 ev3))) (zNl:zKV=zg zak pv3):z14 K [1,1,1,1] [] ⟨[(0,zS enc_55 3 zaa),(5,zI at_a5),(13,zp 13 0),(14,zP (.sl pv3.len 1 zKV)),(15,zI ev3)],[(13,.box 37 (zm (zaL (⟨(⟨zal,zam⟩:Frac),(⟨zan,zao⟩:Frac)⟩:Line))))],[]⟩:=by subst zNl;exact zaK (by kernel_rfl) (zc hs hk (fun hs hk=>hk) (fun hs hk=>(zHp hs hk)))
def zr5 (zaa:(Sl Gate)) (at_a5:Int) (zal:Int) (zam:Int) (zan:Int) (zao:Int):Bool :=
  (zr3 zaa at_a5 zal zam zan zao ((s52 (⟨(⟨zal,zam⟩:Frac),(⟨zan,zao⟩:Frac)⟩:Line) zaa).1) ((s52 (⟨(⟨zal,zam⟩:Frac),(⟨zan,zao⟩:Frac)⟩:Line) zaa).2))
def zr6 (zaa:(Sl Gate)) (at_a5:Int) (zal:Int) (zam:Int) (zan:Int) (zao:Int):Bool :=
  (decide ((p52 (⟨(⟨zal,zam⟩:Frac),(⟨zan,zao⟩:Frac)⟩:Line) zaa=true)) &&
 (zr4 zaa at_a5 zal zam zan zao ((s52 (⟨(⟨zal,zam⟩:Frac),(⟨zan,zao⟩:Frac)⟩:Line) zaa).1) ((s52 (⟨(⟨zal,zam⟩:Frac),(⟨zan,zao⟩:Frac)⟩:Line) zaa).2)))
theorem zHr (hs:zr6 zaa at_a5 zal zam zan zao=true) (hk:K (e14 (zr5 zaa at_a5 zal zam zan zao))):z14 K [1,1,1] [] ⟨[(0,zS enc_55 3 zaa),(5,zI at_a5),(13,zp 13 0)],[(13,.box 37 (zm (zaL (⟨(⟨zal,zam⟩:Frac),(⟨zan,zao⟩:Frac)⟩:Line))))],[]⟩:=zaK (by kernel_rfl) (zaD hs fun hc hs=>And.intro (And.intro (zE enc_55 3 zaa.get) hc) (zHq hs hk rfl))
def zr7 (zaa:(Sl Gate)) (z:Int) (x:Int) (w:Int) (y_a4:Int) (at_a5:Int):Bool :=
  (zr5 zaa at_a5 ((s26 z x w y_a4).Slope.Num) ((s26 z x w y_a4).Slope.Den) ((s26 z x w y_a4).Start.Num) ((s26 z x w y_a4).Start.Den))
def zr8 (zaa:(Sl Gate)) (z:Int) (x:Int) (w:Int) (y_a4:Int) (at_a5:Int):Bool :=
  (decide ((p26 z x w y_a4=true)) &&
 (zr6 zaa at_a5 ((s26 z x w y_a4).Slope.Num) ((s26 z x w y_a4).Slope.Den) ((s26 z x w y_a4).Start.Num) ((s26 z x w y_a4).Start.Den)))
theorem zHs (hs:zr8 zaa z x w y_a4 at_a5=true) (hk:K (e14 (zr7 zaa z x w y_a4 at_a5))):z14 K [1,1] [] ⟨[(0,zS enc_55 3 zaa),(1,zI z),(2,zI x),(3,zI w),(4,zI y_a4),(5,zI at_a5)],[],[]⟩:=zaK (by kernel_rfl) (zaD hs fun hc hs=>And.intro hc (zHr hs hk))
def zgI (zaa:(Sl Gate)) (z:Int) (x:Int) (w:Int) (y_a4:Int) (at_a5:Int) (zrS:Bool):Bool :=
  (cond zrS
 true
 (zr7 zaa z x w y_a4 at_a5))
def zgJ (zaa:(Sl Gate)) (z:Int) (x:Int) (w:Int) (y_a4:Int) (at_a5:Int) (zrS:Bool):Bool :=
  (cond zrS
 true
 (zr8 zaa z x w y_a4 at_a5))
theorem zkM (hs:zgJ zaa z x w y_a4 at_a5 zrS=true) (hk:K (e14 (zgI zaa z x w y_a4 at_a5 zrS))):z14 K [1,0,1] [] ⟨[(0,zS enc_55 3 zaa),(1,zI z),(2,zI x),(3,zI w),(4,zI y_a4),(5,zI at_a5),(54,zB zrS)],[],[]⟩:=zaK (by kernel_rfl) (zc hs hk (fun hs hk=>hk) (fun hs hk=>(zHs hs hk)))
def s14 (zaa:(Sl Gate)) (z:Int) (x:Int) (w:Int) (y_a4:Int) (at_a5:Int):Bool :=
  (cond (!(s20 zaa))
 (zgI zaa z x w y_a4 at_a5 true)
 (cond (!(s25 z x w y_a4))
 (zgI zaa z x w y_a4 at_a5 true)
 (cond (decide (at_a5 < (-100000:Int)))
 (zgI zaa z x w y_a4 at_a5 true)
 (cond (decide (at_a5 > (200000:Int)))
 (zgI zaa z x w y_a4 at_a5 true)
 (zgI zaa z x w y_a4 at_a5 (s22 zaa))))))
def p14 (zaa:(Sl Gate)) (z:Int) (x:Int) (w:Int) (y_a4:Int) (at_a5:Int):Bool :=
  (decide ((p20 zaa=true)) &&
 (cond (!(s20 zaa))
 (zgJ zaa z x w y_a4 at_a5 true)
 (cond (!(s25 z x w y_a4))
 (zgJ zaa z x w y_a4 at_a5 true)
 (cond (decide (at_a5 < (-100000:Int)))
 (zgJ zaa z x w y_a4 at_a5 true)
 (cond (decide (at_a5 > (200000:Int)))
 (zgJ zaa z x w y_a4 at_a5 true)
 (decide ((p22 zaa=true)) &&
 (zgJ zaa z x w y_a4 at_a5 (s22 zaa))))))))
end
theorem q14 (zaa:(Sl Gate)) (z:Int) (x:Int) (w:Int) (y_a4:Int) (at_a5:Int) (K:List PA→Prop) (hs:p14 zaa z x w y_a4 at_a5=true) (hk:K (e14 (s14 zaa z x w y_a4 at_a5))):vcFun Try.prog G14 zHi 14 [.one (.sl zaa.len 3 (fun i=>enc_55 (zaa.get i))),.one (.int .i64 z),.one (.int .i64 x),.one (.int .i64 w),.one (.int .i64 y_a4),.one (.int .i64 at_a5)] K :=
  zaK (by kernel_rfl) (zaD hs fun hc hs=>And.intro (And.intro (zE enc_55 3 zaa.get) hc) (zc hs hk (fun hs hk=>(zkM hs hk)) (fun hs hk=>(zc hs hk (fun hs hk=>(zkM hs hk)) (fun hs hk=>(zc hs hk (fun hs hk=>(zkM hs hk)) (fun hs hk=>(zc hs hk (fun hs hk=>(zkM hs hk)) (fun hs hk=>(zaD hs fun hc hs=>And.intro (And.intro (zE enc_55 3 zaa.get) hc) (zkM hs hk)))))))))))
def zKY : List PA → COut
  | [.one (.sl a0_n a0_s a0_g),.one (.int .i64 a1),.one (.int .i64 a2),.one (.int .i64 a3),.one (.int .i64 a4),.one (.int .i64 a5)]=>.det (IsE enc_55 3 a0_s a0_g∧p14 (⟨a0_n,zae a0_g⟩:(Sl Gate)) a1 a2 a3 a4 a5=true) [.one (.bool (s14 (⟨a0_n,zae a0_g⟩:(Sl Gate)) a1 a2 a3 a4 a5))]
  | _=>.no
theorem call14:zah Try.prog 14:=⟨_,rfl,rfl,by kernel_rfl⟩
theorem ok14:Ok Try.prog 14 zKY:=zaN zNj call14 fun args K h=>by
  unfold zKY at h
  split at h
  · rename_i a0_n a0_s a0_g a1 a2 a3 a4 a5
    obtain ⟨⟨⟨rfl,a0_f,rfl⟩,hs⟩,hk⟩:=h
    try rw [zac a0_f] at hs
    try rw [zac a0_f] at hk
    exact ⟨(fun _ _=>[]),(fun _=>false),zHi,q14 (⟨a0_n,a0_f⟩:(Sl Gate)) a1 a2 a3 a4 a5 K hs hk⟩
  · exact h.elim
end Go.Proofs
namespace Go.Proofs
open Go Go.Pm
set_option maxRecDepth 100000
set_option linter.unusedVariables false
attribute [local irreducible] Go.Pm.vcFun Go.Pm.vc Go.Pm.vcIter
theorem C_3:Try.prog.cellsOf 3=1:=by kernel_rfl
theorem zOk:Try.prog.cellsOf 55=3:=by kernel_rfl
abbrev wf_3 (x:Int):Prop:=wfI x
theorem rd_3 {H:Type} {en:TypeId×Value→H} {w:World} {sp:Nat→Bool} {held:Bool} : Rd H en Try.prog w sp held 3 zak wf_3:=zIL Try.underlying3
def zKZ (x:Gate):Prop:=wf_3 x.Z∧wf_3 x.Low∧wf_3 x.High
theorem zNm {H:Type} {en:TypeId×Value→H} {w:World} {sp:Nat→Bool} {held:Bool} : Rd H en Try.prog w sp held 55 enc_55 zKZ:=by
  intro fuel cs x h
  obtain ⟨hl,hf⟩:=zvP Try.underlying55 h
  rw [zOk] at hl
  obtain ⟨n0,y0,g0⟩:=hf 0 _ rfl
  have g0:DataW.trod en Try.prog w 0 sp held n0 3 ((cs.drop 0).take (Try.prog.cellsOf 3))=some y0:=g0
  rw [C_3] at g0
  obtain ⟨a0,r0,w0⟩:=rd_3 _ _ _ g0
  obtain ⟨n1,y1,g1⟩:=hf 1 _ rfl
  have g1:DataW.trod en Try.prog w 0 sp held n1 3 ((cs.drop 1).take (Try.prog.cellsOf 3))=some y1:=g1
  rw [C_3] at g1
  obtain ⟨a1,r1,w1⟩:=rd_3 _ _ _ g1
  obtain ⟨n2,y2,g2⟩:=hf 2 _ rfl
  have g2:DataW.trod en Try.prog w 0 sp held n2 3 ((cs.drop 2).take (Try.prog.cellsOf 3))=some y2:=g2
  rw [C_3] at g2
  obtain ⟨a2,r2,w2⟩:=rd_3 _ _ _ g2
  have z:cs.drop 3=[]:=List.drop_eq_nil_of_le (by omega)
  have R:=(r0.append (r1.append (r2.append (show RL (Rep (H0 w)) [] (cs.drop 3) by rw [z];exact zhD))))
  rw [← (show cs.drop 2=(cs.drop 2).take 1 ++ cs.drop 3 from zhN cs 2 1)] at R
  rw [← (show cs.drop 1=(cs.drop 1).take 1 ++ cs.drop 2 from zhN cs 1 1)] at R
  rw [← (show cs.drop 0=(cs.drop 0).take 1 ++ cs.drop 1 from zhN cs 0 1)] at R
  exact ⟨⟨a0,a1,a2⟩,R,⟨w0,w1,w2⟩⟩
def wf_22 (x:(Sl Gate)):Prop:=x.len≤9223372036854775807∧∀ i,i < x.len→zKZ (x.get i)
theorem rd_22 {H:Type} {en:TypeId×Value→H} {w:World} {sp:Nat→Bool} {held:Bool} : Rd H en Try.prog w sp held 22 zIN wf_22:=zBq Try.underlying22 zOk (by decide) (fun _=>rfl) zNm
end Go.Proofs
namespace Go.Proofs
open Go Go.Pm
set_option maxRecDepth 100000
set_option linter.unusedVariables false
attribute [local irreducible] Go.Pm.vcFun Go.Pm.vc Go.Pm.vcIter
section
variable {K:List PA→Prop} {l_a0:Line} {z:Int}
def zuA (l_a0:Line) (z:Int):(Int×Int) :=
  ((w64 ((w64 (l_a0.Start.Num * l_a0.Slope.Den))+(w64 ((w64 (l_a0.Slope.Num * z)) * l_a0.Start.Den)))),(w64 (l_a0.Start.Den * l_a0.Slope.Den)))
end
section
variable {K:List PA→Prop} {l_a0:Line} {g:Gate}
def s72 (l_a0:Line) (g:Gate):Bool :=
  (cond (decide ((w64 (g.Low * ((zuA l_a0 g.Z).2))) ≤ ((zuA l_a0 g.Z).1)))
 (decide (((zuA l_a0 g.Z).1)≤(w64 (g.High * ((zuA l_a0 g.Z).2)))))
 false)
end
section
variable {K:List PA→Prop} {l_a0:Line} {zaa:(Sl Gate)} {iv0:Int} {znR:(Sl Int)} {zNn:Nat→List PV} {X0:St→Prop} {P0:Int→(Sl Int)→Bool} {S0:Int→(Sl Int)→(Sl Int)} {iv1:Int} {zCa:Bool} {ziS:(Sl Int)} {zNo:Nat→List PV}
def zzt (S0:Int→(Sl Int)→(Sl Int)) (l_a0:Line) (zaa:(Sl Gate)) (iv1:Int) (zCa:Bool) (ziS:(Sl Int)):(Sl Int) :=
  (cond zCa
 (S0 (w64 (iv1+(1:Int))) (⟨(ziS.len+1),(zdQ ziS.len ziS.get (fun _=>iv1))⟩:Sl Int))
 (S0 (w64 (iv1+(1:Int))) ziS))
def zzu (P0:Int→(Sl Int)→Bool) (l_a0:Line) (zaa:(Sl Gate)) (iv1:Int) (zCa:Bool) (ziS:(Sl Int)):Bool :=
  (cond zCa
 (decide (((ziS.len+1) * 8≤140737488355328∧ziS.len+1≤9223372036854775807)) &&
 (P0 (w64 (iv1+(1:Int))) (⟨(ziS.len+1),(zdQ ziS.len ziS.get (fun _=>iv1))⟩:Sl Int)))
 (P0 (w64 (iv1+(1:Int))) ziS))
def zkN (l_a0:Line) (zaa:(Sl Gate)) (S0:Int→(Sl Int)→(Sl Int)) (iv0:Int) (znR:(Sl Int)):(Sl Int) :=
  (cond (decide (iv0 < (zaa.len : Int)))
 (zzt S0 l_a0 zaa iv0 (s72 l_a0 (zaa.get iv0.toNat)) znR)
 znR)
def zkO (l_a0:Line) (zaa:(Sl Gate)) (P0:Int→(Sl Int)→Bool) (iv0:Int) (znR:(Sl Int)):Bool :=
  (cond (decide (iv0 < (zaa.len : Int)))
 (decide ((0≤iv0∧iv0 < (zaa.len:Int))) &&
 (zzu P0 l_a0 zaa iv0 (s72 l_a0 (zaa.get iv0.toNat)) znR))
 true)
def zkP (l_a0:Line) (zaa:(Sl Gate)):Nat→Int→(Sl Int)→(Sl Int):=lpO (fun _ _=>default) (zkN l_a0 zaa)
def zkQ (l_a0:Line) (zaa:(Sl Gate)):Nat→Int→(Sl Int)→Bool:=lpO (fun _ _=>false) (zkO l_a0 zaa)
def zHt (l_a0:Line) (zaa:(Sl Gate)) (iv0:Int) (znR:(Sl Int)):(Sl Int):=zkP l_a0 zaa Fuel iv0 znR
def zHu (l_a0:Line) (zaa:(Sl Gate)) (iv0:Int) (znR:(Sl Int)):Bool:=zkQ l_a0 zaa Fuel iv0 znR
def s27 (l_a0:Line) (zaa:(Sl Gate)):(Sl Int) :=
  (zHt l_a0 zaa (0:Int) (⟨0,(fun _=>default)⟩:Sl Int))
def p27 (l_a0:Line) (zaa:(Sl Gate)):Bool :=
  (zHu l_a0 zaa (0:Int) (⟨0,(fun _=>default)⟩:Sl Int))
end
section
variable {K:List PA→Prop} {zaa:(Sl Gate)}
end
section
variable {K:List PA→Prop} {g:Gate} {which:Int}
def zAB (g:Gate) (which:Int):Int :=
  (cond (which == (0:Int))
 g.Low
 g.High)
end
section
variable {K:List PA→Prop} {zaa:(Sl Gate)} {iv0:Int} {znS:(Sl Line)} {zNp:Nat→List PV} {X0:St→Prop} {P0:Int→(Sl Line)→Bool} {S0:Int→(Sl Line)→(Sl Line)} {iv1:Int} {kv1:Int} {zlB:(Sl Line)} {zNq:Nat→List PV} {X1:St→Prop} {P1:Int→Int→(Sl Line)→Bool} {S1:Int→Int→(Sl Line)→(Sl Line)} {iv2:Int} {kv2:Int} {ev2:Int} {ze9:(Sl Line)} {zNr:Nat→List PV} {X2:St→Prop} {P2:Int→Int→Int→(Sl Line)→Bool} {S2:Int→Int→Int→(Sl Line)→(Sl Line)}
def zgK (S0:Int→(Sl Line)→(Sl Line)) (S1:Int→Int→(Sl Line)→(Sl Line)) (zaa:(Sl Gate)) (S2:Int→Int→Int→(Sl Line)→(Sl Line)) (iv2:Int) (kv2:Int) (ev2:Int) (ze9:(Sl Line)):(Sl Line) :=
  (cond (decide (ev2 < (4:Int)))
 (cond ((zaa.get iv2.toNat).Z != (zaa.get kv2.toNat).Z)
 (S2 iv2 kv2 (w64 (ev2+(1:Int))) (⟨(ze9.len+1),(zdQ ze9.len ze9.get (fun _=>(s26 ((zaa.get iv2.toNat).Z) (zAB (zaa.get iv2.toNat) (w64 (ev2.tdiv (2:Int)))) ((zaa.get kv2.toNat).Z) (zAB (zaa.get kv2.toNat) (ev2.tmod (2:Int))))))⟩:Sl Line))
 (S1 iv2 (w64 (kv2+(1:Int))) ze9))
 (S1 iv2 (w64 (kv2+(1:Int))) ze9))
def zgL (P0:Int→(Sl Line)→Bool) (P1:Int→Int→(Sl Line)→Bool) (zaa:(Sl Gate)) (P2:Int→Int→Int→(Sl Line)→Bool) (iv2:Int) (kv2:Int) (ev2:Int) (ze9:(Sl Line)):Bool :=
  (cond (decide (ev2 < (4:Int)))
 (decide ((0≤iv2∧iv2 < (zaa.len:Int))) &&
 (decide ((0≤kv2∧kv2 < (zaa.len:Int))) &&
 (cond ((zaa.get iv2.toNat).Z != (zaa.get kv2.toNat).Z)
 (decide ((0≤iv2∧iv2 < (zaa.len:Int))) &&
 (decide ((0≤iv2∧iv2 < (zaa.len:Int))) &&
 (decide (((2:Int) ≠ 0)) &&
 (decide ((0≤kv2∧kv2 < (zaa.len:Int))) &&
 (decide ((0≤kv2∧kv2 < (zaa.len:Int))) &&
 (decide (((2:Int) ≠ 0)) &&
 (decide ((p26 ((zaa.get iv2.toNat).Z) (zAB (zaa.get iv2.toNat) (w64 (ev2.tdiv (2:Int)))) ((zaa.get kv2.toNat).Z) (zAB (zaa.get kv2.toNat) (ev2.tmod (2:Int)))=true)) &&
 (decide (((ze9.len+1) * 32≤140737488355328∧ze9.len+1≤9223372036854775807)) &&
 (P2 iv2 kv2 (w64 (ev2+(1:Int))) (⟨(ze9.len+1),(zdQ ze9.len ze9.get (fun _=>(s26 ((zaa.get iv2.toNat).Z) (zAB (zaa.get iv2.toNat) (w64 (ev2.tdiv (2:Int)))) ((zaa.get kv2.toNat).Z) (zAB (zaa.get kv2.toNat) (ev2.tmod (2:Int))))))⟩:Sl Line))))))))))
 (P1 iv2 (w64 (kv2+(1:Int))) ze9))))
 (P1 iv2 (w64 (kv2+(1:Int))) ze9))
def zdX (S0:Int→(Sl Line)→(Sl Line)) (S1:Int→Int→(Sl Line)→(Sl Line)) (zaa:(Sl Gate)):Nat→Int→Int→Int→(Sl Line)→(Sl Line):=lpO (fun _ _ _ _=>default) (zgK S0 S1 zaa)
def zdY (P0:Int→(Sl Line)→Bool) (P1:Int→Int→(Sl Line)→Bool) (zaa:(Sl Gate)):Nat→Int→Int→Int→(Sl Line)→Bool:=lpO (fun _ _ _ _=>false) (zgL P0 P1 zaa)
def zzv (S0:Int→(Sl Line)→(Sl Line)) (S1:Int→Int→(Sl Line)→(Sl Line)) (zaa:(Sl Gate)) (iv2:Int) (kv2:Int) (ev2:Int) (ze9:(Sl Line)):(Sl Line):=zdX S0 S1 zaa Fuel iv2 kv2 ev2 ze9
def zzw (P0:Int→(Sl Line)→Bool) (P1:Int→Int→(Sl Line)→Bool) (zaa:(Sl Gate)) (iv2:Int) (kv2:Int) (ev2:Int) (ze9:(Sl Line)):Bool:=zdY P0 P1 zaa Fuel iv2 kv2 ev2 ze9
def zkR (S0:Int→(Sl Line)→(Sl Line)) (zaa:(Sl Gate)) (S1:Int→Int→(Sl Line)→(Sl Line)) (iv1:Int) (kv1:Int) (zlB:(Sl Line)):(Sl Line) :=
  (cond (decide (kv1 < (zaa.len : Int)))
 (zzv S0 S1 zaa iv1 kv1 (0:Int) zlB)
 (S0 (w64 (iv1+(1:Int))) zlB))
def zkS (P0:Int→(Sl Line)→Bool) (zaa:(Sl Gate)) (P1:Int→Int→(Sl Line)→Bool) (iv1:Int) (kv1:Int) (zlB:(Sl Line)):Bool :=
  (cond (decide (kv1 < (zaa.len : Int)))
 (zzw P0 P1 zaa iv1 kv1 (0:Int) zlB)
 (P0 (w64 (iv1+(1:Int))) zlB))
def ziq (S0:Int→(Sl Line)→(Sl Line)) (zaa:(Sl Gate)):Nat→Int→Int→(Sl Line)→(Sl Line):=lpO (fun _ _ _=>default) (zkR S0 zaa)
def zir (P0:Int→(Sl Line)→Bool) (zaa:(Sl Gate)):Nat→Int→Int→(Sl Line)→Bool:=lpO (fun _ _ _=>false) (zkS P0 zaa)
def zzx (S0:Int→(Sl Line)→(Sl Line)) (zaa:(Sl Gate)) (iv1:Int) (kv1:Int) (zlB:(Sl Line)):(Sl Line):=ziq S0 zaa Fuel iv1 kv1 zlB
def zzy (P0:Int→(Sl Line)→Bool) (zaa:(Sl Gate)) (iv1:Int) (kv1:Int) (zlB:(Sl Line)):Bool:=zir P0 zaa Fuel iv1 kv1 zlB
def zkT (zaa:(Sl Gate)) (S0:Int→(Sl Line)→(Sl Line)) (iv0:Int) (znS:(Sl Line)):(Sl Line) :=
  (cond (decide (iv0 < (zaa.len : Int)))
 (zzx S0 zaa iv0 (w64 (iv0+(1:Int))) znS)
 znS)
def zkU (zaa:(Sl Gate)) (P0:Int→(Sl Line)→Bool) (iv0:Int) (znS:(Sl Line)):Bool :=
  (cond (decide (iv0 < (zaa.len : Int)))
 (zzy P0 zaa iv0 (w64 (iv0+(1:Int))) znS)
 true)
def zkV (zaa:(Sl Gate)):Nat→Int→(Sl Line)→(Sl Line):=lpO (fun _ _=>default) (zkT zaa)
def zkW (zaa:(Sl Gate)):Nat→Int→(Sl Line)→Bool:=lpO (fun _ _=>false) (zkU zaa)
def zHv (zaa:(Sl Gate)) (iv0:Int) (znS:(Sl Line)):(Sl Line):=zkV zaa Fuel iv0 znS
def zHw (zaa:(Sl Gate)) (iv0:Int) (znS:(Sl Line)):Bool:=zkW zaa Fuel iv0 znS
def s80 (zaa:(Sl Gate)):(Sl Line) :=
  (zHv zaa (0:Int) (⟨0,(fun _=>default)⟩:Sl Line))
def p80 (zaa:(Sl Gate)):Bool :=
  (zHw zaa (0:Int) (⟨0,(fun _=>default)⟩:Sl Line))
end
section
variable {K:List PA→Prop} {l_a0:Line} {zaa:(Sl Gate)} {iv0:Int} {X0:St→Prop} {P0:Int→Bool} {S0:Int→Bool} {iv1:Int} {nv1:Int} {dv1:Int}
def ztE (S0:Int→Bool) (l_a0:Line) (zaa:(Sl Gate)) (iv1:Int) (nv1:Int) (dv1:Int):Bool :=
  (cond (nv1 == (w64 ((zaa.get iv1.toNat).Low * dv1)))
 true
 (S0 (w64 (iv1+(1:Int)))))
def ztF (P0:Int→Bool) (l_a0:Line) (zaa:(Sl Gate)) (iv1:Int) (nv1:Int) (dv1:Int):Bool :=
  (decide ((0≤iv1∧iv1 < (zaa.len:Int))) &&
 (cond (nv1 == (w64 ((zaa.get iv1.toNat).Low * dv1)))
 true
 (P0 (w64 (iv1+(1:Int))))))
def zhu (l_a0:Line) (zaa:(Sl Gate)) (S0:Int→Bool) (iv0:Int):Bool :=
  (cond (decide (iv0 < (zaa.len : Int)))
 (ztE S0 l_a0 zaa iv0 ((zuA l_a0 ((zaa.get iv0.toNat).Z)).1) ((zuA l_a0 ((zaa.get iv0.toNat).Z)).2))
 false)
def zhv (l_a0:Line) (zaa:(Sl Gate)) (P0:Int→Bool) (iv0:Int):Bool :=
  (cond (decide (iv0 < (zaa.len : Int)))
 (decide ((0≤iv0∧iv0 < (zaa.len:Int))) &&
 (ztF P0 l_a0 zaa iv0 ((zuA l_a0 ((zaa.get iv0.toNat).Z)).1) ((zuA l_a0 ((zaa.get iv0.toNat).Z)).2)))
 true)
def zhw (l_a0:Line) (zaa:(Sl Gate)):Nat→Int→Bool:=lpO (fun _=>default) (zhu l_a0 zaa)
def zhx (l_a0:Line) (zaa:(Sl Gate)):Nat→Int→Bool:=lpO (fun _=>false) (zhv l_a0 zaa)
def zCb (l_a0:Line) (zaa:(Sl Gate)) (iv0:Int):Bool:=zhw l_a0 zaa Fuel iv0
def zCc (l_a0:Line) (zaa:(Sl Gate)) (iv0:Int):Bool:=zhx l_a0 zaa Fuel iv0
def ztG (l_a0:Line) (zaa:(Sl Gate)):Bool :=
  (zCb l_a0 zaa (0:Int))
def zIb (l_a0:Line) (zaa:(Sl Gate)):Bool :=
  (zCc l_a0 zaa (0:Int))
end
def zK1 : List PA → COut
  | [.agg [.int .i64 a0_Slope_Num,.int .i64 a0_Slope_Den,.int .i64 a0_Start_Num,.int .i64 a0_Start_Den],.one (.sl a1_n a1_s a1_g)]=>.det (IsE enc_55 3 a1_s a1_g∧zIb (⟨(⟨a0_Slope_Num,a0_Slope_Den⟩:Frac),(⟨a0_Start_Num,a0_Start_Den⟩:Frac)⟩:Line) (⟨a1_n,zae a1_g⟩:(Sl Gate))=true) [.one (.bool (ztG (⟨(⟨a0_Slope_Num,a0_Slope_Den⟩:Frac),(⟨a0_Start_Num,a0_Start_Den⟩:Frac)⟩:Line) (⟨a1_n,zae a1_g⟩:(Sl Gate))))]
  | _=>.no
abbrev T81:Tabs:=((Tabs.nil.addF 29 zzo).addF 110 zK1)
abbrev G81:Ctrs:=csm T81 (fun _ _=>[]) (fun _=>false)
def zNs:Ann:=⟨30,[(0,zK [2,3,4] [3,4]),(1,zK [2,3,4,13] [3,4]),(2,zK [6] []),(3,zK [3,4,19] [3,4]),(4,zK [6] []),(5,zK [6] [])],
 [],
 [(3,zK [2,3,4] [3,4])],
 [],[]⟩
@[irreducible] def z81:=ptF Try.prog G81 zNs Try.f81
section
variable {K:List PA→Prop} {a:Line} {b:Line} {zaa:(Sl Gate)}
def zzz (a:Line) (b:Line) (zaa:(Sl Gate)):Bool :=
  (cond (ztG a zaa)
 (s29 a.Slope b.Slope)
 (s29 b.Slope a.Slope))
def zzA (a:Line) (b:Line) (zaa:(Sl Gate)):Bool :=
  (decide ((zIb a zaa=true)) &&
 true)
def s81 (a:Line) (b:Line) (zaa:(Sl Gate)):Bool :=
  (cond ((ztG a zaa) != (ztG b zaa))
 (ztG a zaa)
 (zzz a b zaa))
def p81 (a:Line) (b:Line) (zaa:(Sl Gate)):Bool :=
  (decide ((zIb a zaa=true)) &&
 (decide ((zIb b zaa=true)) &&
 (cond ((ztG a zaa) != (ztG b zaa))
 (decide ((zIb a zaa=true)) &&
 true)
 (zzA a b zaa))))
end
section
variable {K:List PA→Prop} {zaa:(Sl Gate)} {lv0:(Sl Line)} {zNt:Nat→List PV} {zkX:(Sl Line)} {iv1:Int} {zNu:Nat→List PV} {X1:St→Prop} {P1:(Sl Line)→Int→Bool} {S1:(Sl Line)→Int→(Sl Line)} {zfa:(Sl Line)} {iv2:Int} {znT:Int} {zNv:Nat→List PV} {X2:St→Prop} {P2:(Sl Line)→Int→Int→Bool} {S2:(Sl Line)→Int→Int→(Sl Line)} {zca:(Sl Line)} {iv3:Int} {zcX:Int} {zNw:Nat→List PV}
def znU (S1:(Sl Line)→Int→(Sl Line)) (zaa:(Sl Gate)) (lv0:(Sl Line)) (zca:(Sl Line)) (iv3:Int) (zcX:Int):(Sl Line) :=
  (cond (decide (zcX < (zca.len : Int)))
 (cond (match (match ((zca.get zcX.toNat).Slope.Num == (lv0.get iv3.toNat).Slope.Num) with | true => (match ((zca.get zcX.toNat).Slope.Den == (lv0.get iv3.toNat).Slope.Den) with | true => true | false => false) | false => false) with | true => (match (match ((zca.get zcX.toNat).Start.Num == (lv0.get iv3.toNat).Start.Num) with | true => (match ((zca.get zcX.toNat).Start.Den == (lv0.get iv3.toNat).Start.Den) with | true => true | false => false) | false => false) with | true => true | false => false) | false => false)
 (S1 zca (w64 (iv3+(1:Int))))
 (S1 (⟨(((zcX - (0:Int)).toNat+1)+((zca.len:Int) - zcX).toNat),(zdQ ((zcX - (0:Int)).toNat+1) (zdQ ((zcX - (0:Int)).toNat) (fun i=>zca.get (i+((0:Int).toNat))) (fun _=>(lv0.get iv3.toNat))) (fun i=>zca.get (i+zcX.toNat)))⟩:Sl Line) (w64 (iv3+(1:Int)))))
 (S1 (⟨(((zcX - (0:Int)).toNat+1)+((zca.len:Int) - zcX).toNat),(zdQ ((zcX - (0:Int)).toNat+1) (zdQ ((zcX - (0:Int)).toNat) (fun i=>zca.get (i+((0:Int).toNat))) (fun _=>(lv0.get iv3.toNat))) (fun i=>zca.get (i+zcX.toNat)))⟩:Sl Line) (w64 (iv3+(1:Int)))))
def znV (P1:(Sl Line)→Int→Bool) (zaa:(Sl Gate)) (lv0:(Sl Line)) (zca:(Sl Line)) (iv3:Int) (zcX:Int):Bool :=
  (cond (decide (zcX < (zca.len : Int)))
 (decide ((0≤zcX∧zcX < (zca.len:Int))) &&
 (decide ((0≤iv3∧iv3 < (lv0.len:Int))) &&
 (cond (match (match ((zca.get zcX.toNat).Slope.Num == (lv0.get iv3.toNat).Slope.Num) with | true => (match ((zca.get zcX.toNat).Slope.Den == (lv0.get iv3.toNat).Slope.Den) with | true => true | false => false) | false => false) with | true => (match (match ((zca.get zcX.toNat).Start.Num == (lv0.get iv3.toNat).Start.Num) with | true => (match ((zca.get zcX.toNat).Start.Den == (lv0.get iv3.toNat).Start.Den) with | true => true | false => false) | false => false) with | true => true | false => false) | false => false)
 (P1 zca (w64 (iv3+(1:Int))))
 (decide ((0≤(0:Int)∧(0:Int)≤zcX∧zcX≤(zca.len:Int))) &&
 (decide (((zcX - (0:Int)).toNat * 32≤140737488355328∧(zcX - (0:Int)).toNat≤9223372036854775807)) &&
 (decide ((0≤iv3∧iv3 < (lv0.len:Int))) &&
 (decide ((((zcX - (0:Int)).toNat+1) * 32≤140737488355328∧(zcX - (0:Int)).toNat+1≤9223372036854775807)) &&
 (decide ((0≤zcX∧zcX≤(zca.len:Int)∧(zca.len:Int)≤(zca.len:Int))) &&
 (decide (((((zcX - (0:Int)).toNat+1)+((zca.len:Int) - zcX).toNat) * 32≤140737488355328∧((zcX - (0:Int)).toNat+1)+((zca.len:Int) - zcX).toNat≤9223372036854775807)) &&
 (P1 (⟨(((zcX - (0:Int)).toNat+1)+((zca.len:Int) - zcX).toNat),(zdQ ((zcX - (0:Int)).toNat+1) (zdQ ((zcX - (0:Int)).toNat) (fun i=>zca.get (i+((0:Int).toNat))) (fun _=>(lv0.get iv3.toNat))) (fun i=>zca.get (i+zcX.toNat)))⟩:Sl Line) (w64 (iv3+(1:Int)))))))))))))
 (decide ((0≤(0:Int)∧(0:Int)≤zcX∧zcX≤(zca.len:Int))) &&
 (decide (((zcX - (0:Int)).toNat * 32≤140737488355328∧(zcX - (0:Int)).toNat≤9223372036854775807)) &&
 (decide ((0≤iv3∧iv3 < (lv0.len:Int))) &&
 (decide ((((zcX - (0:Int)).toNat+1) * 32≤140737488355328∧(zcX - (0:Int)).toNat+1≤9223372036854775807)) &&
 (decide ((0≤zcX∧zcX≤(zca.len:Int)∧(zca.len:Int)≤(zca.len:Int))) &&
 (decide (((((zcX - (0:Int)).toNat+1)+((zca.len:Int) - zcX).toNat) * 32≤140737488355328∧((zcX - (0:Int)).toNat+1)+((zca.len:Int) - zcX).toNat≤9223372036854775807)) &&
 (P1 (⟨(((zcX - (0:Int)).toNat+1)+((zca.len:Int) - zcX).toNat),(zdQ ((zcX - (0:Int)).toNat+1) (zdQ ((zcX - (0:Int)).toNat) (fun i=>zca.get (i+((0:Int).toNat))) (fun _=>(lv0.get iv3.toNat))) (fun i=>zca.get (i+zcX.toNat)))⟩:Sl Line) (w64 (iv3+(1:Int)))))))))))
def zkY (S1:(Sl Line)→Int→(Sl Line)) (zaa:(Sl Gate)) (lv0:(Sl Line)) (S2:(Sl Line)→Int→Int→(Sl Line)) (zfa:(Sl Line)) (iv2:Int) (znT:Int):(Sl Line) :=
  (cond (decide (znT < (zfa.len : Int)))
 (cond (s81 (zfa.get znT.toNat) (lv0.get iv2.toNat) zaa)
 (S2 zfa iv2 (w64 (znT+(1:Int))))
 (znU S1 zaa lv0 zfa iv2 znT))
 (znU S1 zaa lv0 zfa iv2 znT))
def zkZ (P1:(Sl Line)→Int→Bool) (zaa:(Sl Gate)) (lv0:(Sl Line)) (P2:(Sl Line)→Int→Int→Bool) (zfa:(Sl Line)) (iv2:Int) (znT:Int):Bool :=
  (cond (decide (znT < (zfa.len : Int)))
 (decide ((0≤znT∧znT < (zfa.len:Int))) &&
 (decide ((0≤iv2∧iv2 < (lv0.len:Int))) &&
 (decide ((p81 (zfa.get znT.toNat) (lv0.get iv2.toNat) zaa=true)) &&
 (cond (s81 (zfa.get znT.toNat) (lv0.get iv2.toNat) zaa)
 (P2 zfa iv2 (w64 (znT+(1:Int))))
 (znV P1 zaa lv0 zfa iv2 znT)))))
 (znV P1 zaa lv0 zfa iv2 znT))
def zis (S1:(Sl Line)→Int→(Sl Line)) (zaa:(Sl Gate)) (lv0:(Sl Line)):Nat→(Sl Line)→Int→Int→(Sl Line):=lpO (fun _ _ _=>default) (zkY S1 zaa lv0)
def zk0 (P1:(Sl Line)→Int→Bool) (zaa:(Sl Gate)) (lv0:(Sl Line)):Nat→(Sl Line)→Int→Int→Bool:=lpO (fun _ _ _=>false) (zkZ P1 zaa lv0)
def zzB (S1:(Sl Line)→Int→(Sl Line)) (zaa:(Sl Gate)) (lv0:(Sl Line)) (zfa:(Sl Line)) (iv2:Int) (znT:Int):(Sl Line):=zis S1 zaa lv0 Fuel zfa iv2 znT
def zzC (P1:(Sl Line)→Int→Bool) (zaa:(Sl Gate)) (lv0:(Sl Line)) (zfa:(Sl Line)) (iv2:Int) (znT:Int):Bool:=zk0 P1 zaa lv0 Fuel zfa iv2 znT
def zk1 (zaa:(Sl Gate)) (lv0:(Sl Line)) (S1:(Sl Line)→Int→(Sl Line)) (zkX:(Sl Line)) (iv1:Int):(Sl Line) :=
  (cond (decide (iv1 < (lv0.len : Int)))
 (cond (decide (((s27 (lv0.get iv1.toNat) zaa).len : Int) < (zaa.len : Int)))
 (S1 zkX (w64 (iv1+(1:Int))))
 (zzB S1 zaa lv0 zkX iv1 (0:Int)))
 zkX)
def zk2 (zaa:(Sl Gate)) (lv0:(Sl Line)) (P1:(Sl Line)→Int→Bool) (zkX:(Sl Line)) (iv1:Int):Bool :=
  (cond (decide (iv1 < (lv0.len : Int)))
 (decide ((0≤iv1∧iv1 < (lv0.len:Int))) &&
 (decide ((p27 (lv0.get iv1.toNat) zaa=true)) &&
 (cond (decide (((s27 (lv0.get iv1.toNat) zaa).len : Int) < (zaa.len : Int)))
 (P1 zkX (w64 (iv1+(1:Int))))
 (zzC P1 zaa lv0 zkX iv1 (0:Int)))))
 true)
def zit (zaa:(Sl Gate)) (lv0:(Sl Line)):Nat→(Sl Line)→Int→(Sl Line):=lpO (fun _ _=>default) (zk1 zaa lv0)
def zk3 (zaa:(Sl Gate)) (lv0:(Sl Line)):Nat→(Sl Line)→Int→Bool:=lpO (fun _ _=>false) (zk2 zaa lv0)
def zHx (zaa:(Sl Gate)) (lv0:(Sl Line)) (zkX:(Sl Line)) (iv1:Int):(Sl Line):=zit zaa lv0 Fuel zkX iv1
def zHy (zaa:(Sl Gate)) (lv0:(Sl Line)) (zkX:(Sl Line)) (iv1:Int):Bool:=zk3 zaa lv0 Fuel zkX iv1
def zHz (zaa:(Sl Gate)) (lv0:(Sl Line)):(Sl Line) :=
  (zHx zaa lv0 (⟨0,(fun _=>default)⟩:Sl Line) (0:Int))
def zHA (zaa:(Sl Gate)) (lv0:(Sl Line)):Bool :=
  (zHy zaa lv0 (⟨0,(fun _=>default)⟩:Sl Line) (0:Int))
def s33 (zaa:(Sl Gate)):(Sl Line) :=
  (zHz zaa (s80 zaa))
def p33 (zaa:(Sl Gate)):Bool :=
  (decide ((p80 zaa=true)) &&
 (zHA zaa (s80 zaa)))
end
section
variable {K:List PA→Prop} {zaa:(Sl Gate)} {av0:Int} {bv0:Int} {iv0:Int} {X0:St→Prop} {P0:Int→Int→Int→Bool} {S0:Int→Int→Int→(Int×Int×Bool)}
def zk4 (zaa:(Sl Gate)) (S0:Int→Int→Int→(Int×Int×Bool)) (av0:Int) (bv0:Int) (iv0:Int):(Int×Int×Bool) :=
  (cond (decide (iv0 < (zaa.len : Int)))
 (S0 (if (zaa.get iv0.toNat).Low > av0 then (zaa.get iv0.toNat).Low else av0) (if (zaa.get iv0.toNat).High < bv0 then (zaa.get iv0.toNat).High else bv0) (w64 (iv0+(1:Int))))
 (av0,bv0,(decide (av0≤bv0))))
def zk5 (zaa:(Sl Gate)) (P0:Int→Int→Int→Bool) (av0:Int) (bv0:Int) (iv0:Int):Bool :=
  (cond (decide (iv0 < (zaa.len : Int)))
 (decide ((0≤iv0∧iv0 < (zaa.len:Int))) &&
 (decide ((0≤iv0∧iv0 < (zaa.len:Int))) &&
 (P0 (if (zaa.get iv0.toNat).Low > av0 then (zaa.get iv0.toNat).Low else av0) (if (zaa.get iv0.toNat).High < bv0 then (zaa.get iv0.toNat).High else bv0) (w64 (iv0+(1:Int))))))
 true)
def zk6 (zaa:(Sl Gate)):Nat→Int→Int→Int→(Int×Int×Bool):=lpO (fun _ _ _=>default) (zk4 zaa)
def zk7 (zaa:(Sl Gate)):Nat→Int→Int→Int→Bool:=lpO (fun _ _ _=>false) (zk5 zaa)
def zHB (zaa:(Sl Gate)) (av0:Int) (bv0:Int) (iv0:Int):(Int×Int×Bool):=zk6 zaa Fuel av0 bv0 iv0
def zHC (zaa:(Sl Gate)) (av0:Int) (bv0:Int) (iv0:Int):Bool:=zk7 zaa Fuel av0 bv0 iv0
def s71 (zaa:(Sl Gate)):(Int×Int×Bool) :=
  (zHB zaa ((zaa.get 0).Low) ((zaa.get 0).High) (1:Int))
def p71 (zaa:(Sl Gate)):Bool :=
  (decide ((0≤(0:Int)∧(0:Int) < (zaa.len:Int))) &&
 (decide ((0≤(0:Int)∧(0:Int) < (zaa.len:Int))) &&
 (zHC zaa ((zaa.get 0).Low) ((zaa.get 0).High) (1:Int))))
end
section
variable {K:List PA→Prop} {zaa:(Sl Gate)}
def s21 (zaa:(Sl Gate)):Bool :=
  (cond (s22 zaa)
 ((s71 zaa).2.2)
 (decide (((s33 zaa).len:Int) > (0:Int))))
def p21 (zaa:(Sl Gate)):Bool :=
  (decide ((p22 zaa=true)) &&
 (cond (s22 zaa)
 (decide ((p71 zaa=true)) &&
 true)
 (decide ((p33 zaa=true)) &&
 true)))
end
section
variable {K:List PA→Prop} {zaa:(Sl Gate)} {z:Int} {zCd:Bool} {av1:Int} {bv1:Int} {lv3:(Sl Line)} {zP5:Nat→List PV} {zCe:Int} {zCf:Int} {znW:Int} {znX:Int} {iv5:Int} {znY:Int} {znZ:Int} {zn0:Int} {zn1:Int} {X5:St→Prop} {P5:Int→Int→Int→Int→Int→Bool} {S5:Int→Int→Int→Int→Int→(Frac×Frac)} {iv6:Int} {zr9:Int} {zsa:Int} {zzD:Int} {zzE:Int} {zd1:Int} {zd2:Int} {iv7:Int} {zCg:Bool} {zaA:Int} {zaB:Int} {zay:Int} {zaz:Int} {iv8:Int} {zCh:Bool} {zuB:Int} {zuC:Int} {zCi:Int} {zCj:Int}
def zsb (S5:Int→Int→Int→Int→Int→(Frac×Frac)) (z:Int) (lv3:(Sl Line)) (zd1:Int) (zd2:Int) (iv8:Int) (zCh:Bool) (zuB:Int) (zuC:Int) (zCi:Int) (zCj:Int):(Frac×Frac) :=
  (cond zCh
 (S5 (w64 (iv8+(1:Int))) zuB zuC zd1 zd2)
 (S5 (w64 (iv8+(1:Int))) zuB zuC zCi zCj))
def zsc (P5:Int→Int→Int→Int→Int→Bool) (z:Int) (lv3:(Sl Line)) (zd1:Int) (zd2:Int) (iv8:Int) (zCh:Bool) (zuB:Int) (zuC:Int) (zCi:Int) (zCj:Int):Bool :=
  (cond zCh
 (P5 (w64 (iv8+(1:Int))) zuB zuC zd1 zd2)
 (P5 (w64 (iv8+(1:Int))) zuB zuC zCi zCj))
def zzF (S5:Int→Int→Int→Int→Int→(Frac×Frac)) (z:Int) (lv3:(Sl Line)) (zd1:Int) (zd2:Int) (iv7:Int) (zCg:Bool) (zaA:Int) (zaB:Int) (zay:Int) (zaz:Int):(Frac×Frac) :=
  (cond zCg
 (zsb S5 z lv3 zd1 zd2 iv7 (s29 (⟨zay,zaz⟩:Frac) (⟨zd1,zd2⟩:Frac)) zd1 zd2 zay zaz)
 (zsb S5 z lv3 zd1 zd2 iv7 (s29 (⟨zay,zaz⟩:Frac) (⟨zd1,zd2⟩:Frac)) zaA zaB zay zaz))
def zzG (P5:Int→Int→Int→Int→Int→Bool) (z:Int) (lv3:(Sl Line)) (zd1:Int) (zd2:Int) (iv7:Int) (zCg:Bool) (zaA:Int) (zaB:Int) (zay:Int) (zaz:Int):Bool :=
  (cond zCg
 (zsc P5 z lv3 zd1 zd2 iv7 (s29 (⟨zay,zaz⟩:Frac) (⟨zd1,zd2⟩:Frac)) zd1 zd2 zay zaz)
 (zsc P5 z lv3 zd1 zd2 iv7 (s29 (⟨zay,zaz⟩:Frac) (⟨zd1,zd2⟩:Frac)) zaA zaB zay zaz))
def zzH (S5:Int→Int→Int→Int→Int→(Frac×Frac)) (z:Int) (lv3:(Sl Line)) (iv6:Int) (zr9:Int) (zsa:Int) (zzD:Int) (zzE:Int) (zd1:Int) (zd2:Int):(Frac×Frac) :=
  (zzF S5 z lv3 zd1 zd2 iv6 (s29 (⟨zd1,zd2⟩:Frac) (⟨zr9,zsa⟩:Frac)) zr9 zsa zzD zzE)
def zzI (P5:Int→Int→Int→Int→Int→Bool) (z:Int) (lv3:(Sl Line)) (iv6:Int) (zr9:Int) (zsa:Int) (zzD:Int) (zzE:Int) (zd1:Int) (zd2:Int):Bool :=
  (zzG P5 z lv3 zd1 zd2 iv6 (s29 (⟨zd1,zd2⟩:Frac) (⟨zr9,zsa⟩:Frac)) zr9 zsa zzD zzE)
def zk8 (z:Int) (lv3:(Sl Line)) (S5:Int→Int→Int→Int→Int→(Frac×Frac)) (iv5:Int) (znY:Int) (znZ:Int) (zn0:Int) (zn1:Int):(Frac×Frac) :=
  (cond (decide (iv5 < (lv3.len : Int)))
 (zzH S5 z lv3 iv5 znY znZ zn0 zn1 ((s28 (lv3.get iv5.toNat) z).Num) ((s28 (lv3.get iv5.toNat) z).Den))
 ((⟨znY,znZ⟩:Frac),(⟨zn0,zn1⟩:Frac)))
def zk9 (z:Int) (lv3:(Sl Line)) (P5:Int→Int→Int→Int→Int→Bool) (iv5:Int) (znY:Int) (znZ:Int) (zn0:Int) (zn1:Int):Bool :=
  (cond (decide (iv5 < (lv3.len : Int)))
 (decide ((0≤iv5∧iv5 < (lv3.len:Int))) &&
 (decide ((p28 (lv3.get iv5.toNat) z=true)) &&
 (zzI P5 z lv3 iv5 znY znZ zn0 zn1 ((s28 (lv3.get iv5.toNat) z).Num) ((s28 (lv3.get iv5.toNat) z).Den))))
 true)
def zla (z:Int) (lv3:(Sl Line)):Nat→Int→Int→Int→Int→Int→(Frac×Frac):=lpO (fun _ _ _ _ _=>default) (zk8 z lv3)
def zlb (z:Int) (lv3:(Sl Line)):Nat→Int→Int→Int→Int→Int→Bool:=lpO (fun _ _ _ _ _=>false) (zk9 z lv3)
def zHD (z:Int) (lv3:(Sl Line)) (iv5:Int) (znY:Int) (znZ:Int) (zn0:Int) (zn1:Int):(Frac×Frac):=zla z lv3 Fuel iv5 znY znZ zn0 zn1
def zHE (z:Int) (lv3:(Sl Line)) (iv5:Int) (znY:Int) (znZ:Int) (zn0:Int) (zn1:Int):Bool:=zlb z lv3 Fuel iv5 znY znZ zn0 zn1
def zHF (z:Int) (lv3:(Sl Line)) (zCe:Int) (zCf:Int) (znW:Int) (znX:Int):(Frac×Frac) :=
  (zHD z lv3 (1:Int) zCe zCf znW znX)
def zzJ (z:Int) (lv3:(Sl Line)) (zCe:Int) (zCf:Int) (znW:Int) (znX:Int):Bool :=
  (zHE z lv3 (1:Int) zCe zCf znW znX)
def zHG (z:Int) (lv3:(Sl Line)):(Frac×Frac) :=
  (zHF z lv3 ((s28 (lv3.get 0) z).Num) ((s28 (lv3.get 0) z).Den) ((s28 (lv3.get 0) z).Num) ((s28 (lv3.get 0) z).Den))
def zzK (z:Int) (lv3:(Sl Line)):Bool :=
  (decide ((0≤(0:Int)∧(0:Int) < (lv3.len:Int))) &&
 (decide ((p28 (lv3.get 0) z=true)) &&
 (decide ((0≤(0:Int)∧(0:Int) < (lv3.len:Int))) &&
 (decide ((p28 (lv3.get 0) z=true)) &&
 (zzJ z lv3 ((s28 (lv3.get 0) z).Num) ((s28 (lv3.get 0) z).Den) ((s28 (lv3.get 0) z).Num) ((s28 (lv3.get 0) z).Den))))))
def zsd (zaa:(Sl Gate)) (z:Int):(Frac×Frac) :=
  (zHG z (s33 zaa))
def zse (zaa:(Sl Gate)) (z:Int):Bool :=
  (decide ((p33 zaa=true)) &&
 (zzK z (s33 zaa)))
def zzL (av1:Int) (bv1:Int):(Frac×Frac) :=
  ((s40 av1 (1:Int)),(s40 bv1 (1:Int)))
def zzM (av1:Int) (bv1:Int):Bool :=
  (decide ((p40 av1 (1:Int)=true)) &&
 (decide ((p40 bv1 (1:Int)=true)) &&
 true))
def zsf (zaa:(Sl Gate)) (z:Int) (zCd:Bool):(Frac×Frac) :=
  (cond zCd
 (zzL ((s71 zaa).1) ((s71 zaa).2.1))
 (zsd zaa z))
def zzN (zaa:(Sl Gate)) (z:Int) (zCd:Bool):Bool :=
  (cond zCd
 (decide ((p71 zaa=true)) &&
 (zzM ((s71 zaa).1) ((s71 zaa).2.1)))
 (zse zaa z))
def s36 (zaa:(Sl Gate)) (z:Int):(Frac×Frac) :=
  (zsf zaa z (s22 zaa))
def p36 (zaa:(Sl Gate)) (z:Int):Bool :=
  (decide ((p22 zaa=true)) &&
 (zzN zaa z (s22 zaa)))
end
def zNx : List PA → COut
  | [.one (.sl a0_n a0_s a0_g),.one (.int .i64 a1)]=>.det (IsE enc_55 3 a0_s a0_g∧p36 (⟨a0_n,zae a0_g⟩:(Sl Gate)) a1=true) [.agg [.int .i64 (((s36 (⟨a0_n,zae a0_g⟩:(Sl Gate)) a1).1).Num),.int .i64 (((s36 (⟨a0_n,zae a0_g⟩:(Sl Gate)) a1).1).Den)],.agg [.int .i64 (((s36 (⟨a0_n,zae a0_g⟩:(Sl Gate)) a1).2).Num),.int .i64 (((s36 (⟨a0_n,zae a0_g⟩:(Sl Gate)) a1).2).Den)]]
  | _=>.no
section
variable {K:List PA→Prop} {zaa:(Sl Gate)} {lv0:(Sl Line)} {zNt:Nat→List PV} {iv1:Int} {zaZ:Int} {za7:Int} {zn2:Int} {zn3:Int} {X1:St→Prop} {P1:Int→Int→Int→Int→Int→Bool} {S1:Int→Int→Int→Int→Int→(Frac×Frac)} {iv2:Int} {zCk:Bool} {zzO:Int} {zzP:Int} {zsg:Int} {zsh:Int} {iv3:Int} {zlC:Int} {zlD:Int} {zuD:Int} {zuE:Int} {iv4:Int} {zzQ:Bool} {znW:Int} {znX:Int}
def zzR (S1:Int→Int→Int→Int→Int→(Frac×Frac)) (lv0:(Sl Line)) (zlC:Int) (zlD:Int) (iv4:Int) (zzQ:Bool) (znW:Int) (znX:Int):(Frac×Frac) :=
  (cond zzQ
 (S1 (w64 (iv4+(1:Int))) zlC zlD ((lv0.get iv4.toNat).Slope.Num) ((lv0.get iv4.toNat).Slope.Den))
 (S1 (w64 (iv4+(1:Int))) zlC zlD znW znX))
def zzS (P1:Int→Int→Int→Int→Int→Bool) (lv0:(Sl Line)) (zlC:Int) (zlD:Int) (iv4:Int) (zzQ:Bool) (znW:Int) (znX:Int):Bool :=
  (cond zzQ
 (decide ((0≤iv4∧iv4 < (lv0.len:Int))) &&
 (P1 (w64 (iv4+(1:Int))) zlC zlD ((lv0.get iv4.toNat).Slope.Num) ((lv0.get iv4.toNat).Slope.Den)))
 (P1 (w64 (iv4+(1:Int))) zlC zlD znW znX))
def zsi (S1:Int→Int→Int→Int→Int→(Frac×Frac)) (lv0:(Sl Line)) (iv3:Int) (zlC:Int) (zlD:Int) (zuD:Int) (zuE:Int):(Frac×Frac) :=
  (zzR S1 lv0 zlC zlD iv3 (s29 (⟨zuD,zuE⟩:Frac) ((lv0.get iv3.toNat).Slope)) zuD zuE)
def zsj (P1:Int→Int→Int→Int→Int→Bool) (lv0:(Sl Line)) (iv3:Int) (zlC:Int) (zlD:Int) (zuD:Int) (zuE:Int):Bool :=
  (decide ((0≤iv3∧iv3 < (lv0.len:Int))) &&
 (zzS P1 lv0 zlC zlD iv3 (s29 (⟨zuD,zuE⟩:Frac) ((lv0.get iv3.toNat).Slope)) zuD zuE))
def zzT (S1:Int→Int→Int→Int→Int→(Frac×Frac)) (lv0:(Sl Line)) (iv2:Int) (zCk:Bool) (zzO:Int) (zzP:Int) (zsg:Int) (zsh:Int):(Frac×Frac) :=
  (cond zCk
 (zsi S1 lv0 iv2 ((lv0.get iv2.toNat).Slope.Num) ((lv0.get iv2.toNat).Slope.Den) zsg zsh)
 (zsi S1 lv0 iv2 zzO zzP zsg zsh))
def zzU (P1:Int→Int→Int→Int→Int→Bool) (lv0:(Sl Line)) (iv2:Int) (zCk:Bool) (zzO:Int) (zzP:Int) (zsg:Int) (zsh:Int):Bool :=
  (cond zCk
 (decide ((0≤iv2∧iv2 < (lv0.len:Int))) &&
 (zsj P1 lv0 iv2 ((lv0.get iv2.toNat).Slope.Num) ((lv0.get iv2.toNat).Slope.Den) zsg zsh))
 (zsj P1 lv0 iv2 zzO zzP zsg zsh))
def zlc (lv0:(Sl Line)) (S1:Int→Int→Int→Int→Int→(Frac×Frac)) (iv1:Int) (zaZ:Int) (za7:Int) (zn2:Int) (zn3:Int):(Frac×Frac) :=
  (cond (decide (iv1 < (lv0.len : Int)))
 (zzT S1 lv0 iv1 (s29 ((lv0.get iv1.toNat).Slope) (⟨zaZ,za7⟩:Frac)) zaZ za7 zn2 zn3)
 ((⟨zaZ,za7⟩:Frac),(⟨zn2,zn3⟩:Frac)))
def zld (lv0:(Sl Line)) (P1:Int→Int→Int→Int→Int→Bool) (iv1:Int) (zaZ:Int) (za7:Int) (zn2:Int) (zn3:Int):Bool :=
  (cond (decide (iv1 < (lv0.len : Int)))
 (decide ((0≤iv1∧iv1 < (lv0.len:Int))) &&
 (zzU P1 lv0 iv1 (s29 ((lv0.get iv1.toNat).Slope) (⟨zaZ,za7⟩:Frac)) zaZ za7 zn2 zn3))
 true)
def zle (lv0:(Sl Line)):Nat→Int→Int→Int→Int→Int→(Frac×Frac):=lpO (fun _ _ _ _ _=>default) (zlc lv0)
def zlf (lv0:(Sl Line)):Nat→Int→Int→Int→Int→Int→Bool:=lpO (fun _ _ _ _ _=>false) (zld lv0)
def zHH (lv0:(Sl Line)) (iv1:Int) (zaZ:Int) (za7:Int) (zn2:Int) (zn3:Int):(Frac×Frac):=zle lv0 Fuel iv1 zaZ za7 zn2 zn3
def zHI (lv0:(Sl Line)) (iv1:Int) (zaZ:Int) (za7:Int) (zn2:Int) (zn3:Int):Bool:=zlf lv0 Fuel iv1 zaZ za7 zn2 zn3
def zHJ (lv0:(Sl Line)):(Frac×Frac) :=
  (zHH lv0 (1:Int) ((lv0.get 0).Slope.Num) ((lv0.get 0).Slope.Den) ((lv0.get 0).Slope.Num) ((lv0.get 0).Slope.Den))
def zzV (lv0:(Sl Line)):Bool :=
  (decide ((0≤(0:Int)∧(0:Int) < (lv0.len:Int))) &&
 (decide ((0≤(0:Int)∧(0:Int) < (lv0.len:Int))) &&
 (zHI lv0 (1:Int) ((lv0.get 0).Slope.Num) ((lv0.get 0).Slope.Den) ((lv0.get 0).Slope.Num) ((lv0.get 0).Slope.Den))))
def s37 (zaa:(Sl Gate)):(Frac×Frac) :=
  (zHJ (s33 zaa))
def p37 (zaa:(Sl Gate)):Bool :=
  (decide ((p33 zaa=true)) &&
 (zzV (s33 zaa)))
end
section
variable {K:List PA→Prop} {f:Frac}
end
abbrev T48:Tabs:=((((((Tabs.nil.addF 67 zo2).addF 68 zwz).addF 69 zqd).addF 75 zux).addF 87 zBI).addF 89 zqc)
abbrev G48:Ctrs:=csm T48 (fun _ _=>[]) (fun _=>false)
def zNy:Ann:=⟨72,[(0,zK [0,3] [3]),(1,zK [0,3,14] [3]),(2,zK [4,5] []),(3,zK [3,6,7] [3,6]),(4,zK [3,6,7,21] [3,6]),(5,zK [4,5] []),(6,zK [3,6,36] [3,6]),(7,zK [4,5] []),(8,zK [3,8,9] [3,8,9]),(9,zK [8,9,10,11] [8,9,10,11]),(10,zK [8,9,10,11,50] [8,9,10,11]),(11,zK [4,5] []),(12,zK [61] []),(13,zK [4,5] []),(14,zK [4,5] [])],
 [],
 [(2,zK [0,3,14] [3]),(3,zK [0,3] [3]),(4,zK [3,6,7] [3,6]),(6,zK [3,6] [3,6]),(7,zK [3,6,36] [3,6]),(8,zK [3,6] [3,6]),(9,zK [3,8,9] [3,8,9]),(10,zK [8,9,10,11] [8,9,10,11]),(11,zK [8,9,10,11,50] [8,9,10,11]),(13,zK [61] [])],
 [],[]⟩
@[irreducible] def z48:=ptF Try.prog G48 zNy Try.f48
section
variable {K:List PA→Prop} {zaa:(Sl Gate)} {g:Gate} {zai:Bool} {ev2:Int} {zm9:(Sl Gate)} {zna:(Sl straight)} {zqB:Nat→List PV} {zqC:Nat→List PV} {zh2:(Sl Gate)} {zh3:(Sl straight)} {zqD:Nat→List PV} {zqE:Nat→List PV} {zP6:Bool} {zP7:(Sl Gate)} {zP8:(Sl straight)} {zNz:Nat→List PV} {zNA:Nat→List PV} {zP9:(Sl Gate)} {zQa:(Sl straight)} {zNB:Nat→List PV} {zNC:Nat→List PV} {zr9:Int} {zsa:Int} {zzD:Int} {zzE:Int} {zND:Int} {zNE:Int} {zLF:Int} {zLG:Int} {zQb:Bool} {zQc:Bool}
end
abbrev T50:Tabs:=((((Tabs.nil.addF 22 zB0).addF 29 zzo).addF 36 zNx).addF 40 zuy)
abbrev G50:Ctrs:=csm T50 (fun _ _=>[]) (fun _=>false)
def zNF:Ann:=⟨51,[(0,zK [0,3] [3]),(1,zK [0,3,19] [3]),(2,zK [4] []),(3,zK [3,5,6] [3,5,6]),(4,zK [5,6,7,8] [5,6,7,8]),(5,zK [5,6,7,8,42] [5,6,7,8]),(6,zK [4] []),(7,zK [50] []),(8,zK [4] []),(9,zK [4] [])],
 [],
 [(2,zK [0,3,19] [3]),(3,zK [0,3] [3]),(4,zK [3,5,6] [3,5,6]),(5,zK [5,6,7,8] [5,6,7,8]),(6,zK [5,6,7,8,42] [5,6,7,8]),(8,zK [50] [])],
 [],[]⟩
@[irreducible] def z50:=ptF Try.prog G50 zNF Try.f50
section
variable {K:List PA→Prop} {zaa:(Sl Gate)} {g:Gate} {zQd:Bool} {zzO:Int} {zzP:Int} {zsg:Int} {zsh:Int} {zOl:Int} {zOm:Int} {zOn:Int} {zOo:Int} {zzQ:Bool} {zQe:Bool}
end
section
variable {K:List PA→Prop} {zaa:(Sl Gate)}
end
end Go.Proofs
namespace Go.Pm
open Go
theorem zbD {i n:Nat} (h:i < n) (hn:n≤9223372036854775807):w64 ((i:Int)+(1:Int))=((i+1:Nat):Int):=by
 rw [zaU (by omega) (by omega)];omega
theorem zHK {β : Type} {good : Nat → Bool} {bad fin : β} {finP : Bool} {n : Nat} {lpS : Nat → Int → β} {lpP : Nat → Int → Bool}
    (hS:∀ (k i:Nat),i < n→lpS (k+1) (i:Int)=cond (good i) (lpS k (w64 ((i:Int)+(1:Int)))) bad)
    (hE:∀ k,lpS (k+1) (n:Int)=fin)
    (hP:∀ (k i:Nat),i < n→lpP (k+1) (i:Int)=cond (good i) (lpP k (w64 ((i:Int)+(1:Int)))) true)
    (hPE:∀ k,lpP (k+1) (n:Int)=finP) (hn:n≤9223372036854775807) :
    ((∀ i,i < n→good i=true)→lpP Fuel 0=finP∧lpS Fuel 0=fin)∧((¬ ∀ i,i < n→good i=true)→lpP Fuel 0=true∧lpS Fuel 0=bad):=by
  have key:∀ (m k i:Nat),i+m=n→m < k→((∀ j,i≤j→j < n→good j=true)→lpP k (i:Int)=finP∧lpS k (i:Int)=fin)∧((¬ ∀ j,i≤j→j < n→good j=true)→lpP k (i:Int)=true∧lpS k (i:Int)=bad):=by
    intro m
    induction m with
    | zero =>
      intro k i hi hk
      obtain ⟨k,rfl⟩:∃ k',k=k'+1:=⟨k - 1,by omega⟩
      have:i=n:=by omega
      subst this
      rw [hE,hPE]
      exact ⟨fun _=>⟨rfl,rfl⟩,fun h=>absurd (fun j h1 h2=>absurd h2 (by omega)) h⟩
    | succ m ih =>
      intro k i hi hk
      obtain ⟨k,rfl⟩:∃ k',k=k'+1:=⟨k - 1,by omega⟩
      rw [hS k i (by omega),hP k i (by omega),zbD (n:=n) (by omega) hn]
      obtain ⟨h1,h2⟩:=ih k (i+1) (by omega) (by omega)
      cases hg:good i
      · refine ⟨fun h => ?_, fun _ => ⟨rfl, rfl⟩⟩
        have:=h i (Nat.le_refl _) (by omega)
        rw [hg] at this;cases this
      · refine ⟨fun h => h1 fun j a b => h j (by omega) b, fun h => h2 fun h' => h fun j a b => ?_⟩
        by_cases hji:j=i
        · rw [hji];exact hg
        · exact h' j (by omega) b
  have:=key n Fuel 0 (by omega) (by simp only [Fuel];omega)
  simpa using this
def zgM {σ : Type} (step : Nat → σ → σ) : Nat → Nat → σ → σ
  | 0,_,s=>s
  | m+1,i,s=>zgM step m (i+1) (step i s)
theorem zeu {σ β : Type} {step : Nat → σ → σ} {E : σ → β} {EP : σ → Bool} {Inv : Nat → σ → Prop} {a n : Nat} {lpS : Nat → σ → Int → β} {lpP : Nat → σ → Int → Bool}
    (hS:∀ (k i:Nat) (s:σ),a≤i→i < n→Inv i s→lpS (k+1) s (i:Int)=lpS k (step i s) (w64 ((i:Int)+(1:Int))))
    (hE:∀ k s,lpS (k+1) s (n:Int)=E s)
    (hP:∀ (k i:Nat) (s:σ),a≤i→i < n→Inv i s→lpP (k+1) s (i:Int)=lpP k (step i s) (w64 ((i:Int)+(1:Int))))
    (hPE:∀ k s,lpP (k+1) s (n:Int)=EP s)
    (hI:∀ i s,a≤i→i < n→Inv i s→Inv (i+1) (step i s)) (ha:a≤n) (hn:n≤9223372036854775807) (s:σ) (h0:Inv a s) :
    lpP Fuel s (a:Int)=EP (zgM step (n - a) a s)∧lpS Fuel s (a:Int)=E (zgM step (n - a) a s):=by
  have key:∀ (m k i:Nat) (s:σ),a≤i→i+m=n→m < k→Inv i s→lpP k s (i:Int)=EP (zgM step m i s)∧lpS k s (i:Int)=E (zgM step m i s):=by
    intro m
    induction m with
    | zero =>
      intro k i s h1 hi hk _
      obtain ⟨k,rfl⟩:∃ k',k=k'+1:=⟨k - 1,by omega⟩
      have:i=n:=by omega
      subst this
      rw [hE,hPE]
      exact ⟨rfl,rfl⟩
    | succ m ih =>
      intro k i s h1 hi hk hs
      obtain ⟨k,rfl⟩:∃ k',k=k'+1:=⟨k - 1,by omega⟩
      rw [hS k i s h1 (by omega) hs,hP k i s h1 (by omega) hs,zbD (n:=n) (by omega) hn]
      exact ih k (i+1) (step i s) (by omega) (by omega) (by omega) (hI i s h1 (by omega) hs)
  exact key (n - a) Fuel a s (Nat.le_refl _) (by omega) (by simp only [Fuel];omega) h0
end Go.Pm
