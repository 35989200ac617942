/- Part 6 of what the proof rests on: a machine that runs functions of the program on pure values, proved sound; the functions that the law reaches, and what they compute. -/
import Derived.Test.YtkpjhhoafenogaaQ5
import Derived.SizedLaws
set_option linter.all false
namespace Go.Proofs
open Go Go.Pm
set_option maxRecDepth 100000
set_option linter.unusedVariables false
attribute [local irreducible] Go.Pm.vcFun Go.Pm.vc Go.Pm.vcIter
abbrev T16:Tabs:=(((((((Tabs.nil.addF 18 zHn).addF 39 zBR).addF 44 zHu).addF 55 zBW).addF 56 zH1).addF 57 zIa).addF 61 zId)
theorem zN5:TabsOk Try.prog T16:=(((((((TabsOk.nil.addF zQo).addF zOm).addF zQp).addF zOp).addF zQs).addF zQv).addF zQw)
abbrev G16:Ctrs:=csm T16 (fun _ _=>[]) (fun _=>false)
def zIe:Ann:=⟨200,[(0,zK [0,1,2] []),(1,zK [0,1,2,35] []),(2,zK [6] []),(3,zK [0,1,2,7,8,9] []),(4,zK [0,1,2,7,8,51] []),(5,zK [6] []),(6,zK [0,1,2,7,8,10,11] []),(7,zK [0,1,2,7,8,65] []),(8,zK [6] []),(9,zK [0,1,2,7,8,12,13] []),(10,zK [0,1,2,7,8,12,85] []),(11,zK [6] []),(12,zK [0,1,2,7,8,12,14] []),(13,zK [0,1,2,7,8,12,14,89] []),(14,zK [0,1,2,7,8,12,14] []),(15,zK [0,1,2,7,8,12,14,113] []),(16,zK [6] []),(17,zK [0,1,2,7,8,12,14,135] []),(18,zK [6] []),(19,zK [0,1,2,7,8,12,15,16] []),(20,zK [0,1,2,12,15,161] []),(21,zK [6] []),(22,zK [0,1,12,164] []),(23,zK [6] []),(24,zK [0,1,12,170] []),(25,zK [6] []),(26,zK [0,1,12,17] []),(27,zK [0,1,12,17,174] []),(28,zK [0,1,12,17] []),(29,zK [0,1,12,17,198] []),(30,zK [6] []),(31,zK [6] [])],
 [(13,zK [0,1,2,7,8,12,14] []),(27,zK [0,1,12,17] [])],
 [(2,zK [0,1,2,35] []),(3,zK [0,1,2] []),(4,zK [0,1,2,7,8,9] []),(6,zK [0,1,2,7,8] []),(7,zK [0,1,2,7,8,10,11] []),(9,zK [0,1,2,7,8] []),(10,zK [0,1,2,7,8,12,13] []),(12,zK [0,1,2,7,8,12] []),(17,zK [0,1,2,7,8,12,14] []),(19,zK [0,1,2,7,8,12] []),(20,zK [0,1,2,7,8,12,15,16] []),(21,zK [0,1,2,12,15,161] []),(22,zK [0,1,2,12,15] []),(24,zK [0,1,12] []),(26,zK [0,1,12] [])],
 [],[]⟩
abbrev R16:=Bool
abbrev e16 (r:R16):List PA:=[.one (.bool r)]
@[irreducible] def z16:=ptF Try.prog G16 zIe Try.f16
def zDO (zaa:(Sl Gate)) (places:(Sl Int)) (less:Int) (lv2:(Sl Int)) (kv2:Int) (sv8:(Sl Span)) (iv8:Int) (zqz:Nat→List PV):St:=⟨[(0,zS enc_55 3 zaa),(1,zS enc_3 1 places),(2,zI less),(7,zS enc_3 1 lv2),(8,zI kv2),(12,zP (.sl sv8.len 2 zqz)),(14,zI iv8)],[],[]⟩
abbrev zIf (K:List PA→Prop) (zaa:(Sl Gate)) (places:(Sl Int)) (less:Int) (lv2:(Sl Int)) (kv2:Int) (X:St→Prop) (P:(Sl Span)→Int→Bool) (S:(Sl Span)→Int→Bool):Prop:=∀ ⦃sv8:(Sl Span)⦄ ⦃iv8:Int⦄ ⦃zqz:Nat→List PV⦄,P sv8 iv8=true→K (e16 (S sv8 iv8))→zqz=zg zam sv8→X (zDO zaa places less lv2 kv2 sv8 iv8 zqz)
def zAI (zaa:(Sl Gate)) (places:(Sl Int)) (zfI:(Sl Span)) (zfJ:Int):St:=⟨[(0,zS enc_55 3 zaa),(1,zS enc_3 1 places),(12,zS zam 2 zfI),(17,zI zfJ)],[],[]⟩
abbrev zDP (K:List PA→Prop) (zaa:(Sl Gate)) (places:(Sl Int)) (zfI:(Sl Span)) (X:St→Prop) (P:Int→Bool) (S:Int→Bool):Prop:=∀ ⦃zfJ:Int⦄,P zfJ=true→K (e16 (S zfJ))→X (zAI zaa places zfI zfJ)
section
variable {K:List PA→Prop} {zaa:(Sl Gate)} {places:(Sl Int)} {less:Int} {zsL:Bool} {lv2:(Sl Int)} {kv2:Int} {ev2:Int} {zLv:Nat→List PV} {zsM:Int} {fv4:Int} {sv6:(Sl Span)} {gv6:Int} {zz4:Nat→List PV} {sv7:(Sl Span)} {zLw:Nat→List PV} {sv8:(Sl Span)} {iv8:Int} {zqz:Nat→List PV} {X8:St→Prop} {P8:(Sl Span)→Int→Bool} {S8:(Sl Span)→Int→Bool} {sv9:(Sl Span)} {iv9:Int} {zLx:Nat→List PV} {zAZ:(Sl Span)} {zDQ:Nat→List PV} {zuE:(Sl Span)} {zhy:Int} {zIg:Int} {zDR:Nat→List PV} {zDS:(Sl Span)} {zhz:Bool} {zDT:Nat→List PV} {zDU:(Sl Span)} {zDV:Nat→List PV} {zA0:(Sl Span)} {zDW:Nat→List PV} {zfI:(Sl Span)} {zDX:Nat→List PV} {zfJ:Int} {X16:St→Prop} {P16:Int→Bool} {S16:Int→Bool}
def zgy (zaa:(Sl Gate)) (places:(Sl Int)) (zfI:(Sl Span)) (S16:Int→Bool) (zfJ:Int):Bool :=
  (cond (decide (zfJ < (zaa.len : Int)))
 (cond (decide ((places.get zfJ.toNat) < (zfI.get zfJ.toNat).Low))
 false
 (cond (decide ((places.get zfJ.toNat) > (zfI.get zfJ.toNat).High))
 false
 (S16 (w64 (zfJ+(1:Int))))))
 true)
def zgz (zaa:(Sl Gate)) (places:(Sl Int)) (zfI:(Sl Span)) (P16:Int→Bool) (zfJ:Int):Bool :=
  (cond (decide (zfJ < (zaa.len : Int)))
 (decide ((0≤zfJ∧zfJ < (places.len:Int))) &&
 (decide ((0≤zfJ∧zfJ < (zfI.len:Int))) &&
 (cond (decide ((places.get zfJ.toNat) < (zfI.get zfJ.toNat).Low))
 true
 (decide ((0≤zfJ∧zfJ < (places.len:Int))) &&
 (decide ((0≤zfJ∧zfJ < (zfI.len:Int))) &&
 (cond (decide ((places.get zfJ.toNat) > (zfI.get zfJ.toNat).High))
 true
 (P16 (w64 (zfJ+(1:Int))))))))))
 true)
def zio (zaa:(Sl Gate)) (places:(Sl Int)) (zfI:(Sl Span)):Nat→Int→Bool:=lpO (fun _=>default) (zgy zaa places zfI)
def ziq (zaa:(Sl Gate)) (places:(Sl Int)) (zfI:(Sl Span)):Nat→Int→Bool:=lpO (fun _=>false) (zgz zaa places zfI)
def zoE (zaa:(Sl Gate)) (places:(Sl Int)) (zfI:(Sl Span)) (zfJ:Int):Bool:=zio zaa places zfI Fuel zfJ
def zoF (zaa:(Sl Gate)) (places:(Sl Int)) (zfI:(Sl Span)) (zfJ:Int):Bool:=ziq zaa places zfI Fuel zfJ
theorem zCB (hs:zoF zaa places zfI zfJ=true) (hk:K (e16 (zoE zaa places zfI zfJ))):z16 K [1,1,1,1,1,1,1,1,1,1,1,1,1,0,1,0] [] (zAI zaa places zfI zfJ) :=
  zl (fun X=>z16 K [1,1,1,1,1,1,1,1,1,1,1,1,1,0,1,0,0] [X]) (by kernel_rfl) fun X16 hX =>
  (show ∀ k, zDP K zaa places zfI X16 (ziq zaa places zfI k) (zio zaa places zfI k) from zgs _ _ (zgz zaa places zfI) (zgy zaa places zfI) (zDP K zaa places zfI X16)
 (by intro _ hs;exact absurd hs Bool.false_ne_true)
 (by intro P16 S16 hX16 zfJ hs hk;exact hX _ (zaH (by kernel_rfl) (zc hs hk (fun hs hk=>(zaE hs fun hc hs=>And.intro hc (zaE hs fun hc hs=>And.intro hc (zc hs hk (fun hs hk=>hk) (fun hs hk=>(zaE hs fun hc hs=>And.intro hc (zaE hs fun hc hs=>And.intro hc (zc hs hk (fun hs hk=>hk) (fun hs hk=>(hX16 hs hk)))))))))) (fun hs hk=>hk))))) _ hs hk
def zoG (zaa:(Sl Gate)) (places:(Sl Int)) (zfI:(Sl Span)):Bool :=
  (zoE zaa places zfI (0:Int))
def zoH (zaa:(Sl Gate)) (places:(Sl Int)) (zfI:(Sl Span)):Bool :=
  (zoF zaa places zfI (0:Int))
theorem zCC (hs:zoH zaa places zfI=true) (hk:K (e16 (zoG zaa places zfI))) (zLy:zDX=zg zam zfI):z16 K [1,1,1,1,1,1,1,1,1,1,1,1,1] [] ⟨[(0,zS enc_55 3 zaa),(1,zS enc_3 1 places),(12,zP (.sl zfI.len 2 zDX))],[],[]⟩:=by subst zLy;exact zaH (by kernel_rfl) (zCB hs hk)
def zoI (zaa:(Sl Gate)) (places:(Sl Int)) (zA0:(Sl Span)):Bool :=
  (cond ((zA0.len : Int) != (zaa.len : Int))
 false
 (zoG zaa places zA0))
def zoJ (zaa:(Sl Gate)) (places:(Sl Int)) (zA0:(Sl Span)):Bool :=
  (cond ((zA0.len : Int) != (zaa.len : Int))
 true
 (zoH zaa places zA0))
theorem zCD (hs:zoJ zaa places zA0=true) (hk:K (e16 (zoI zaa places zA0))) (zLz:zDW=zg zam zA0):z16 K [1,1,1,1,1,1,1,1,1,1,1,1] [] ⟨[(0,zS enc_55 3 zaa),(1,zS enc_3 1 places),(12,zP (.sl zA0.len 2 zDW))],[],[]⟩:=by subst zLz;exact zaH (by kernel_rfl) (zc hs hk (fun hs hk=>hk) (fun hs hk=>(zCC hs hk rfl)))
def zkd (zaa:(Sl Gate)) (places:(Sl Int)) (less:Int) (zhy:Int) (zDU:(Sl Span)):Bool :=
  (cond (decide (zhy > less))
 true
 (zoI zaa places zDU))
def zke (zaa:(Sl Gate)) (places:(Sl Int)) (less:Int) (zhy:Int) (zDU:(Sl Span)):Bool :=
  (cond (decide (zhy > less))
 true
 (zoJ zaa places zDU))
theorem zCE (hs:zke zaa places less zhy zDU=true) (hk:K (e16 (zkd zaa places less zhy zDU))) (zLA:zDV=zg zam zDU):z16 K [1,1,1,1,1,1,1,1,1,1,1] [] ⟨[(0,zS enc_55 3 zaa),(1,zS enc_3 1 places),(2,zI less),(12,zP (.sl zDU.len 2 zDV)),(15,zI zhy)],[],[]⟩:=by subst zLA;exact zaH (by kernel_rfl) (zc hs hk (fun hs hk=>hk) (fun hs hk=>(zCD hs hk rfl)))
def zfw (zaa:(Sl Gate)) (places:(Sl Int)) (less:Int) (zhy:Int) (zDS:(Sl Span)) (zhz:Bool):Bool :=
  (cond zhz
 false
 (zkd zaa places less zhy zDS))
def zfx (zaa:(Sl Gate)) (places:(Sl Int)) (less:Int) (zhy:Int) (zDS:(Sl Span)) (zhz:Bool):Bool :=
  (cond zhz
 true
 (zke zaa places less zhy zDS))
theorem zkf (hs:zfx zaa places less zhy zDS zhz=true) (hk:K (e16 (zfw zaa places less zhy zDS zhz))) (zLB:zDT=zg zam zDS):z16 K [1,1,1,1,1,1,1,1,1,1,0,1] [] ⟨[(0,zS enc_55 3 zaa),(1,zS enc_3 1 places),(2,zI less),(12,zP (.sl zDS.len 2 zDT)),(15,zI zhy),(161,zB zhz)],[],[]⟩:=by subst zLB;exact zaH (by kernel_rfl) (zc hs hk (fun hs hk=>hk) (fun hs hk=>(zCE hs hk rfl)))
def zoK (zaa:(Sl Gate)) (places:(Sl Int)) (less:Int) (lv2:(Sl Int)) (kv2:Int) (zuE:(Sl Span)) (zhy:Int) (zIg:Int):Bool :=
  (cond (zIg != (0:Int))
 (zfw zaa places less zhy zuE true)
 (cond (decide (zhy < kv2))
 (zfw zaa places less zhy zuE true)
 (cond (zhy == kv2)
 (zfw zaa places less zhy zuE (decide ((s39 places lv2) < (0:Int))))
 (zfw zaa places less zhy zuE false))))
def zoL (zaa:(Sl Gate)) (places:(Sl Int)) (less:Int) (lv2:(Sl Int)) (kv2:Int) (zuE:(Sl Span)) (zhy:Int) (zIg:Int):Bool :=
  (cond (zIg != (0:Int))
 (zfx zaa places less zhy zuE true)
 (cond (decide (zhy < kv2))
 (zfx zaa places less zhy zuE true)
 (cond (zhy == kv2)
 (decide ((p39 places lv2=true)) &&
 (zfx zaa places less zhy zuE (decide ((s39 places lv2) < (0:Int)))))
 (zfx zaa places less zhy zuE false))))
theorem zCF (hs:zoL zaa places less lv2 kv2 zuE zhy zIg=true) (hk:K (e16 (zoK zaa places less lv2 kv2 zuE zhy zIg))) (zLC:zDR=zg zam zuE):z16 K [1,1,1,1,1,1,1,1,1,1] [] ⟨[(0,zS enc_55 3 zaa),(1,zS enc_3 1 places),(2,zI less),(7,zS enc_3 1 lv2),(8,zI kv2),(12,zP (.sl zuE.len 2 zDR)),(15,zI zhy),(16,zI zIg)],[],[]⟩:=by subst zLC;exact zaH (by kernel_rfl) (zc hs hk (fun hs hk=>(zkf hs hk rfl)) (fun hs hk=>(zc hs hk (fun hs hk=>(zkf hs hk rfl)) (fun hs hk=>(zc hs hk (fun hs hk=>(zaE hs fun hc hs=>And.intro (And.intro (zE enc_3 1 places.get) (And.intro (zE enc_3 1 lv2.get) hc)) (zkf hs hk rfl))) (fun hs hk=>(zkf hs hk rfl)))))))
def zkg (zaa:(Sl Gate)) (places:(Sl Int)) (less:Int) (lv2:(Sl Int)) (kv2:Int) (zAZ:(Sl Span)):Bool :=
  (zoK zaa places less lv2 kv2 zAZ ((s44 (s61 zaa) places).1) ((s44 (s61 zaa) places).2))
def zkh (zaa:(Sl Gate)) (places:(Sl Int)) (less:Int) (lv2:(Sl Int)) (kv2:Int) (zAZ:(Sl Span)):Bool :=
  (decide ((p61 zaa=true)) &&
 (decide ((p44 (s61 zaa) places=true)) &&
 (zoL zaa places less lv2 kv2 zAZ ((s44 (s61 zaa) places).1) ((s44 (s61 zaa) places).2))))
theorem zCG (hs:zkh zaa places less lv2 kv2 zAZ=true) (hk:K (e16 (zkg zaa places less lv2 kv2 zAZ))) (zLD:zDQ=zg zam zAZ):z16 K [1,1,1,1,1,1,1,1,1] [] ⟨[(0,zS enc_55 3 zaa),(1,zS enc_3 1 places),(2,zI less),(7,zS enc_3 1 lv2),(8,zI kv2),(12,zP (.sl zAZ.len 2 zDQ))],[],[]⟩:=by subst zLD;exact zaH (by kernel_rfl) (zaE hs fun hc hs=>And.intro (And.intro (zE enc_55 3 zaa.get) hc) (zaE hs fun hc hs=>And.intro (And.intro (zE enc_3 1 ((s61 zaa).get)) (And.intro (zE enc_3 1 places.get) (zy (y:=s61 zaa) (P:=fun y=>p44 y places=true) hc))) (zy (y:=s61 zaa) (P:=fun y=>z16 K [1,1,1,1,1,1,1,1,1,1] [] ⟨[(0,zS enc_55 3 zaa),(1,zS enc_3 1 places),(2,zI less),(7,zS enc_3 1 lv2),(8,zI kv2),(12,zP (.sl zAZ.len 2 (fun i=>zam (zAZ.get i)))),(15,zI ((s44 y places).1)),(16,zI ((s44 y places).2))],[],[]⟩) (zCF hs hk rfl))))
def zsN (S8:(Sl Span)→Int→Bool) (zaa:(Sl Gate)) (places:(Sl Int)) (less:Int) (lv2:(Sl Int)) (kv2:Int) (sv9:(Sl Span)) (iv9:Int):Bool :=
  (cond (decide ((places.get iv9.toNat) < (zaa.get iv9.toNat).Low))
 true
 (cond (decide ((places.get iv9.toNat) > (zaa.get iv9.toNat).High))
 true
 (S8 sv9 (w64 (iv9+(1:Int))))))
def zsO (P8:(Sl Span)→Int→Bool) (zaa:(Sl Gate)) (places:(Sl Int)) (less:Int) (lv2:(Sl Int)) (kv2:Int) (sv9:(Sl Span)) (iv9:Int):Bool :=
  (decide ((0≤iv9∧iv9 < (places.len:Int))) &&
 (decide ((0≤iv9∧iv9 < (zaa.len:Int))) &&
 (cond (decide ((places.get iv9.toNat) < (zaa.get iv9.toNat).Low))
 true
 (decide ((0≤iv9∧iv9 < (places.len:Int))) &&
 (decide ((0≤iv9∧iv9 < (zaa.len:Int))) &&
 (cond (decide ((places.get iv9.toNat) > (zaa.get iv9.toNat).High))
 true
 (P8 sv9 (w64 (iv9+(1:Int))))))))))
theorem zIh (hX8:zIf K zaa places less lv2 kv2 X8 P8 S8) (hs:zsO P8 zaa places less lv2 kv2 sv9 iv9=true) (hk:K (e16 (zsN S8 zaa places less lv2 kv2 sv9 iv9))) (zN6:zLx=zg zam sv9):z16 K [1,1,1,1,1,1,1,1,0,1,0,0,1,0,0,1] [X8] ⟨[(0,zS enc_55 3 zaa),(1,zS enc_3 1 places),(2,zI less),(7,zS enc_3 1 lv2),(8,zI kv2),(12,zP (.sl sv9.len 2 zLx)),(14,zI iv9)],[],[]⟩:=by subst zN6;exact zaH (by kernel_rfl) (zaE hs fun hc hs=>And.intro hc (zaE hs fun hc hs=>And.intro hc (zc hs hk (fun hs hk=>hk) (fun hs hk=>(zaE hs fun hc hs=>And.intro hc (zaE hs fun hc hs=>And.intro hc (zc hs hk (fun hs hk=>hk) (fun hs hk=>(hX8 hs hk rfl)))))))))
def zju (zaa:(Sl Gate)) (places:(Sl Int)) (less:Int) (lv2:(Sl Int)) (kv2:Int) (S8:(Sl Span)→Int→Bool) (sv8:(Sl Span)) (iv8:Int):Bool :=
  (cond (decide (iv8 < (zaa.len : Int)))
 (cond (decide ((lv2.get iv8.toNat) < (zaa.get iv8.toNat).Low))
 false
 (cond (decide ((lv2.get iv8.toNat) > (zaa.get iv8.toNat).High))
 false
 (zsN S8 zaa places less lv2 kv2 sv8 iv8)))
 (zkg zaa places less lv2 kv2 sv8))
def zjv (zaa:(Sl Gate)) (places:(Sl Int)) (less:Int) (lv2:(Sl Int)) (kv2:Int) (P8:(Sl Span)→Int→Bool) (sv8:(Sl Span)) (iv8:Int):Bool :=
  (cond (decide (iv8 < (zaa.len : Int)))
 (decide ((0≤iv8∧iv8 < (lv2.len:Int))) &&
 (decide ((0≤iv8∧iv8 < (zaa.len:Int))) &&
 (cond (decide ((lv2.get iv8.toNat) < (zaa.get iv8.toNat).Low))
 true
 (decide ((0≤iv8∧iv8 < (lv2.len:Int))) &&
 (decide ((0≤iv8∧iv8 < (zaa.len:Int))) &&
 (cond (decide ((lv2.get iv8.toNat) > (zaa.get iv8.toNat).High))
 true
 (zsO P8 zaa places less lv2 kv2 sv8 iv8)))))))
 (zkh zaa places less lv2 kv2 sv8))
def zhA (zaa:(Sl Gate)) (places:(Sl Int)) (less:Int) (lv2:(Sl Int)) (kv2:Int):Nat→(Sl Span)→Int→Bool:=lpO (fun _ _=>default) (zju zaa places less lv2 kv2)
def zhB (zaa:(Sl Gate)) (places:(Sl Int)) (less:Int) (lv2:(Sl Int)) (kv2:Int):Nat→(Sl Span)→Int→Bool:=lpO (fun _ _=>false) (zjv zaa places less lv2 kv2)
def zAJ (zaa:(Sl Gate)) (places:(Sl Int)) (less:Int) (lv2:(Sl Int)) (kv2:Int) (sv8:(Sl Span)) (iv8:Int):Bool:=zhA zaa places less lv2 kv2 Fuel sv8 iv8
def zAK (zaa:(Sl Gate)) (places:(Sl Int)) (less:Int) (lv2:(Sl Int)) (kv2:Int) (sv8:(Sl Span)) (iv8:Int):Bool:=zhB zaa places less lv2 kv2 Fuel sv8 iv8
theorem zIi (hs:zAK zaa places less lv2 kv2 sv8 iv8=true) (hk:K (e16 (zAJ zaa places less lv2 kv2 sv8 iv8))) (zIj:zqz=zg zam sv8):z16 K [1,1,1,1,1,1,1,1,0,1,0] [] (zDO zaa places less lv2 kv2 sv8 iv8 zqz) :=
  zl (fun X=>z16 K [1,1,1,1,1,1,1,1,0,1,0,0] [X]) (by kernel_rfl) fun X8 hX =>
  (show ∀ k, zIf K zaa places less lv2 kv2 X8 (zhB zaa places less lv2 kv2 k) (zhA zaa places less lv2 kv2 k) from zgs _ _ (zjv zaa places less lv2 kv2) (zju zaa places less lv2 kv2) (zIf K zaa places less lv2 kv2 X8)
 (by intro _ _ _ hs;exact absurd hs Bool.false_ne_true)
 (by intro P8 S8 hX8 sv8 iv8 zqz hs hk zIj;subst zIj;exact hX _ (zaH (by kernel_rfl) (zc hs hk (fun hs hk=>(zaE hs fun hc hs=>And.intro hc (zaE hs fun hc hs=>And.intro hc (zc hs hk (fun hs hk=>hk) (fun hs hk=>(zaE hs fun hc hs=>And.intro hc (zaE hs fun hc hs=>And.intro hc (zc hs hk (fun hs hk=>hk) (fun hs hk=>(zIh hX8 hs hk rfl)))))))))) (fun hs hk=>(zCG hs hk rfl)))))) _ hs hk zIj
def zoM (zaa:(Sl Gate)) (places:(Sl Int)) (less:Int) (lv2:(Sl Int)) (kv2:Int) (sv7:(Sl Span)):Bool :=
  (zAJ zaa places less lv2 kv2 sv7 (0:Int))
def zoN (zaa:(Sl Gate)) (places:(Sl Int)) (less:Int) (lv2:(Sl Int)) (kv2:Int) (sv7:(Sl Span)):Bool :=
  (zAK zaa places less lv2 kv2 sv7 (0:Int))
theorem zAL (hs:zoN zaa places less lv2 kv2 sv7=true) (hk:K (e16 (zoM zaa places less lv2 kv2 sv7))) (zN7:zLw=zg zam sv7):z16 K [1,1,1,1,1,1,1,1] [] ⟨[(0,zS enc_55 3 zaa),(1,zS enc_3 1 places),(2,zI less),(7,zS enc_3 1 lv2),(8,zI kv2),(12,zP (.sl sv7.len 2 zLw))],[],[]⟩:=by subst zN7;exact zaH (by kernel_rfl) (zIi hs hk rfl)
def zoO (zaa:(Sl Gate)) (places:(Sl Int)) (less:Int) (lv2:(Sl Int)) (kv2:Int) (sv6:(Sl Span)) (gv6:Int):Bool :=
  (cond ((gv6 == (0:Int)) != (decide (kv2 ≤ less)))
 false
 (cond (gv6 != (0:Int))
 (cond (gv6 != (5:Int))
 false
 (zoM zaa places less lv2 kv2 sv6))
 (zoM zaa places less lv2 kv2 sv6)))
def zoP (zaa:(Sl Gate)) (places:(Sl Int)) (less:Int) (lv2:(Sl Int)) (kv2:Int) (sv6:(Sl Span)) (gv6:Int):Bool :=
  (cond ((gv6 == (0:Int)) != (decide (kv2 ≤ less)))
 true
 (cond (gv6 != (0:Int))
 (cond (gv6 != (5:Int))
 true
 (zoN zaa places less lv2 kv2 sv6))
 (zoN zaa places less lv2 kv2 sv6)))
theorem zIk (hs:zoP zaa places less lv2 kv2 sv6 gv6=true) (hk:K (e16 (zoO zaa places less lv2 kv2 sv6 gv6))) (zHf:zz4=zg zam sv6):z16 K [1,1,1,1,1,1,1] [] ⟨[(0,zS enc_55 3 zaa),(1,zS enc_3 1 places),(2,zI less),(7,zS enc_3 1 lv2),(8,zI kv2),(12,zP (.sl sv6.len 2 zz4)),(13,zI gv6)],[],[]⟩:=by subst zHf;exact zaH (by kernel_rfl) (zc hs hk (fun hs hk=>hk) (fun hs hk=>(zc hs hk (fun hs hk=>(zc hs hk (fun hs hk=>hk) (fun hs hk=>(zAL hs hk rfl)))) (fun hs hk=>(zAL hs hk rfl)))))
def zsP (zaa:(Sl Gate)) (places:(Sl Int)) (less:Int) (lv2:(Sl Int)) (kv2:Int):Bool :=
  (zoO zaa places less lv2 kv2 ((s56 zaa less).1) ((s56 zaa less).2))
def zsQ (zaa:(Sl Gate)) (places:(Sl Int)) (less:Int) (lv2:(Sl Int)) (kv2:Int):Bool :=
  (decide ((p56 zaa less=true)) &&
 (zoP zaa places less lv2 kv2 ((s56 zaa less).1) ((s56 zaa less).2)))
theorem zIl (hs:zsQ zaa places less lv2 kv2=true) (hk:K (e16 (zsP zaa places less lv2 kv2))):z16 K [1,1,1,1,1,1] [] ⟨[(0,zS enc_55 3 zaa),(1,zS enc_3 1 places),(2,zI less),(7,zS enc_3 1 lv2),(8,zI kv2)],[],[]⟩:=zaH (by kernel_rfl) (zaE hs fun hc hs=>And.intro (And.intro (zE enc_55 3 zaa.get) hc) (zIk hs hk rfl))
def zsR (zaa:(Sl Gate)) (places:(Sl Int)) (less:Int) (lv2:(Sl Int)) (kv2:Int) (zsM:Int) (fv4:Int):Bool :=
  (cond (fv4 != (0:Int))
 false
 (cond (zsM != kv2)
 false
 (zsP zaa places less lv2 kv2)))
def zsU (zaa:(Sl Gate)) (places:(Sl Int)) (less:Int) (lv2:(Sl Int)) (kv2:Int) (zsM:Int) (fv4:Int):Bool :=
  (cond (fv4 != (0:Int))
 true
 (cond (zsM != kv2)
 true
 (zsQ zaa places less lv2 kv2)))
theorem zIm (hs:zsU zaa places less lv2 kv2 zsM fv4=true) (hk:K (e16 (zsR zaa places less lv2 kv2 zsM fv4))):z16 K [1,1,1,1,1] [] ⟨[(0,zS enc_55 3 zaa),(1,zS enc_3 1 places),(2,zI less),(7,zS enc_3 1 lv2),(8,zI kv2),(10,zI zsM),(11,zI fv4)],[],[]⟩:=zaH (by kernel_rfl) (zc hs hk (fun hs hk=>hk) (fun hs hk=>(zc hs hk (fun hs hk=>hk) (fun hs hk=>(zIl hs hk)))))
def zsV (zaa:(Sl Gate)) (places:(Sl Int)) (less:Int) (lv2:(Sl Int)) (kv2:Int):Bool :=
  (zsR zaa places less lv2 kv2 ((s44 (s61 zaa) lv2).1) ((s44 (s61 zaa) lv2).2))
def zsW (zaa:(Sl Gate)) (places:(Sl Int)) (less:Int) (lv2:(Sl Int)) (kv2:Int):Bool :=
  (decide ((p61 zaa=true)) &&
 (decide ((p44 (s61 zaa) lv2=true)) &&
 (zsU zaa places less lv2 kv2 ((s44 (s61 zaa) lv2).1) ((s44 (s61 zaa) lv2).2))))
theorem zIn (hs:zsW zaa places less lv2 kv2=true) (hk:K (e16 (zsV zaa places less lv2 kv2))):z16 K [1,1,1,1] [] ⟨[(0,zS enc_55 3 zaa),(1,zS enc_3 1 places),(2,zI less),(7,zS enc_3 1 lv2),(8,zI kv2)],[],[]⟩:=zaH (by kernel_rfl) (zaE hs fun hc hs=>And.intro (And.intro (zE enc_55 3 zaa.get) hc) (zaE hs fun hc hs=>And.intro (And.intro (zE enc_3 1 ((s61 zaa).get)) (And.intro (zE enc_3 1 lv2.get) (zy (y:=s61 zaa) (P:=fun y=>p44 y lv2=true) hc))) (zy (y:=s61 zaa) (P:=fun y=>z16 K [1,1,1,1,1] [] ⟨[(0,zS enc_55 3 zaa),(1,zS enc_3 1 places),(2,zI less),(7,zS enc_3 1 lv2),(8,zI kv2),(10,zI ((s44 y lv2).1)),(11,zI ((s44 y lv2).2))],[],[]⟩) (zIm hs hk))))
def zsX (zaa:(Sl Gate)) (places:(Sl Int)) (less:Int) (lv2:(Sl Int)) (kv2:Int) (ev2:Int):Bool :=
  (cond (ev2 != (0:Int))
 false
 (cond ((lv2.len : Int) != (zaa.len : Int))
 false
 (zsV zaa places less lv2 kv2)))
def zsY (zaa:(Sl Gate)) (places:(Sl Int)) (less:Int) (lv2:(Sl Int)) (kv2:Int) (ev2:Int):Bool :=
  (cond (ev2 != (0:Int))
 true
 (cond ((lv2.len : Int) != (zaa.len : Int))
 true
 (zsW zaa places less lv2 kv2)))
theorem zIo (hs:zsY zaa places less lv2 kv2 ev2=true) (hk:K (e16 (zsX zaa places less lv2 kv2 ev2))) (zN8:zLv=zg enc_3 lv2):z16 K [1,1,1] [] ⟨[(0,zS enc_55 3 zaa),(1,zS enc_3 1 places),(2,zI less),(7,zP (.sl lv2.len 1 zLv)),(8,zI kv2),(9,zI ev2)],[],[]⟩:=by subst zN8;exact zaH (by kernel_rfl) (zc hs hk (fun hs hk=>hk) (fun hs hk=>(zc hs hk (fun hs hk=>hk) (fun hs hk=>(zIn hs hk)))))
def zoQ (zaa:(Sl Gate)) (places:(Sl Int)) (less:Int):Bool :=
  (zsX zaa places less ((s55 zaa).1) ((s55 zaa).2.1) ((s55 zaa).2.2))
def zoR (zaa:(Sl Gate)) (places:(Sl Int)) (less:Int):Bool :=
  (decide ((p55 zaa=true)) &&
 (zsY zaa places less ((s55 zaa).1) ((s55 zaa).2.1) ((s55 zaa).2.2)))
theorem zIp (hs:zoR zaa places less=true) (hk:K (e16 (zoQ zaa places less))):z16 K [1,1] [] ⟨[(0,zS enc_55 3 zaa),(1,zS enc_3 1 places),(2,zI less)],[],[]⟩:=zaH (by kernel_rfl) (zaE hs fun hc hs=>And.intro (And.intro (zE enc_55 3 zaa.get) hc) (zIo hs hk rfl))
def zhC (zaa:(Sl Gate)) (places:(Sl Int)) (less:Int) (zsL:Bool):Bool :=
  (cond zsL
 true
 (zoQ zaa places less))
def zhD (zaa:(Sl Gate)) (places:(Sl Int)) (less:Int) (zsL:Bool):Bool :=
  (cond zsL
 true
 (zoR zaa places less))
theorem zoS (hs:zhD zaa places less zsL=true) (hk:K (e16 (zhC zaa places less zsL))):z16 K [1,0,1] [] ⟨[(0,zS enc_55 3 zaa),(1,zS enc_3 1 places),(2,zI less),(35,zB zsL)],[],[]⟩:=zaH (by kernel_rfl) (zc hs hk (fun hs hk=>hk) (fun hs hk=>(zIp hs hk)))
def s16 (zaa:(Sl Gate)) (places:(Sl Int)) (less:Int):Bool :=
  (cond (!(s57 zaa))
 (zhC zaa places less true)
 (cond ((places.len : Int) != (zaa.len : Int))
 (zhC zaa places less true)
 (cond (decide (less < (0:Int)))
 (zhC zaa places less true)
 (zhC zaa places less (decide (less > (1000000:Int)))))))
def p16 (zaa:(Sl Gate)) (places:(Sl Int)) (less:Int):Bool :=
  (decide ((p57 zaa=true)) &&
 (cond (!(s57 zaa))
 (zhD zaa places less true)
 (cond ((places.len : Int) != (zaa.len : Int))
 (zhD zaa places less true)
 (cond (decide (less < (0:Int)))
 (zhD zaa places less true)
 (zhD zaa places less (decide (less > (1000000:Int))))))))
end
theorem q16 (zaa:(Sl Gate)) (places:(Sl Int)) (less:Int) (K:List PA→Prop) (hs:p16 zaa places less=true) (hk:K (e16 (s16 zaa places less))):vcFun Try.prog G16 zIe 16 [.one (.sl zaa.len 3 (fun i=>enc_55 (zaa.get i))),.one (.sl places.len 1 (fun i=>enc_3 (places.get i))),.one (.int .i64 less)] K :=
  zaH (by kernel_rfl) (zaE hs fun hc hs=>And.intro (And.intro (zE enc_55 3 zaa.get) hc) (zc hs hk (fun hs hk=>(zoS hs hk)) (fun hs hk=>(zc hs hk (fun hs hk=>(zoS hs hk)) (fun hs hk=>(zc hs hk (fun hs hk=>(zoS hs hk)) (fun hs hk=>(zoS hs hk))))))))
def zLE : List PA → COut
  | [.one (.sl a0_n a0_s a0_g),.one (.sl a1_n a1_s a1_g),.one (.int .i64 a2)]=>.det (IsE enc_55 3 a0_s a0_g∧IsE enc_3 1 a1_s a1_g∧p16 (⟨a0_n,zaf a0_g⟩:(Sl Gate)) (⟨a1_n,zce a1_g⟩:(Sl Int)) a2=true) [.one (.bool (s16 (⟨a0_n,zaf a0_g⟩:(Sl Gate)) (⟨a1_n,zce a1_g⟩:(Sl Int)) a2))]
  | _=>.no
theorem call16:zak Try.prog 16:=⟨_,rfl,rfl,by kernel_rfl⟩
theorem ok16:Ok Try.prog 16 zLE:=zaU zN5 call16 fun args K h=>by
  unfold zLE at h
  split at h
  · rename_i a0_n a0_s a0_g a1_n a1_s a1_g a2
    obtain ⟨⟨⟨rfl,a0_f,rfl⟩,⟨rfl,a1_f,rfl⟩,hs⟩,hk⟩:=h
    try rw [zae a0_f] at hs
    try rw [zae a0_f] at hk
    try rw [zbO a1_f] at hs
    try rw [zbO a1_f] at hk
    exact ⟨(fun _ _=>[]),(fun _=>false),zIe,q16 (⟨a0_n,a0_f⟩:(Sl Gate)) (⟨a1_n,a1_f⟩:(Sl Int)) a2 K hs hk⟩
  · exact h.elim
end Go.Proofs
namespace Go.Proofs
open Go Go.Pm
set_option maxRecDepth 100000
set_option linter.unusedVariables false
attribute [local irreducible] Go.Pm.vcFun Go.Pm.vc Go.Pm.vcIter
theorem C_3:Try.prog.cellsOf 3=1:=by kernel_rfl
theorem zOX:Try.prog.cellsOf 55=3:=by kernel_rfl
abbrev wf_3 (x:Int):Prop:=wfI x
theorem rd_3 {H:Type} {en:TypeId×Value→H} {w:World} {sp:Nat→Bool} {held:Bool} : Rd H en Try.prog w sp held 3 enc_3 wf_3:=zJn Try.underlying3
def zLF (x:Gate):Prop:=wf_3 x.Z∧wf_3 x.Low∧wf_3 x.High
theorem zN9 {H:Type} {en:TypeId×Value→H} {w:World} {sp:Nat→Bool} {held:Bool} : Rd H en Try.prog w sp held 55 enc_55 zLF:=by
  intro fuel cs x h
  obtain ⟨hl,hf⟩:=zwS Try.underlying55 h
  rw [zOX] at hl
  obtain ⟨n0,y0,g0⟩:=hf 0 _ rfl
  have g0:DataW.trod en Try.prog w 0 sp held n0 3 ((cs.drop 0).take (Try.prog.cellsOf 3))=some y0:=g0
  rw [C_3] at g0
  obtain ⟨a0,r0,w0⟩:=rd_3 _ _ _ g0
  obtain ⟨n1,y1,g1⟩:=hf 1 _ rfl
  have g1:DataW.trod en Try.prog w 0 sp held n1 3 ((cs.drop 1).take (Try.prog.cellsOf 3))=some y1:=g1
  rw [C_3] at g1
  obtain ⟨a1,r1,w1⟩:=rd_3 _ _ _ g1
  obtain ⟨n2,y2,g2⟩:=hf 2 _ rfl
  have g2:DataW.trod en Try.prog w 0 sp held n2 3 ((cs.drop 2).take (Try.prog.cellsOf 3))=some y2:=g2
  rw [C_3] at g2
  obtain ⟨a2,r2,w2⟩:=rd_3 _ _ _ g2
  have z:cs.drop 3=[]:=List.drop_eq_nil_of_le (by omega)
  have R:=(r0.append (r1.append (r2.append (show RL (Rep (H0 w)) [] (cs.drop 3) by rw [z];exact zhG))))
  rw [← (show cs.drop 2=(cs.drop 2).take 1 ++ cs.drop 3 from ziH cs 2 1)] at R
  rw [← (show cs.drop 1=(cs.drop 1).take 1 ++ cs.drop 2 from ziH cs 1 1)] at R
  rw [← (show cs.drop 0=(cs.drop 0).take 1 ++ cs.drop 1 from ziH cs 0 1)] at R
  exact ⟨⟨a0,a1,a2⟩,R,⟨w0,w1,w2⟩⟩
def wf_22 (x:(Sl Gate)):Prop:=x.len≤9223372036854775807∧∀ i,i < x.len→zLF (x.get i)
theorem rd_22 {H:Type} {en:TypeId×Value→H} {w:World} {sp:Nat→Bool} {held:Bool} : Rd H en Try.prog w sp held 22 zJp wf_22:=ztB Try.underlying22 zOX (by decide) (fun _=>rfl) zN9
def wf_39 (x:(Sl Int)):Prop:=x.len≤9223372036854775807∧∀ i,i < x.len→wf_3 (x.get i)
theorem rd_39 {H:Type} {en:TypeId×Value→H} {w:World} {sp:Nat→Bool} {held:Bool} : Rd H en Try.prog w sp held 39 zJs wf_39:=ztB Try.underlying39 C_3 (by decide) (fun _=>rfl) rd_3
end Go.Proofs
namespace Go.Proofs
open Go Go.Pm
set_option maxRecDepth 100000
set_option linter.unusedVariables false
attribute [local irreducible] Go.Pm.vcFun Go.Pm.vc Go.Pm.vcIter
section
variable {K:List PA→Prop} {l_a0:(Sl Gate)} {iv0:Int} {X0:St→Prop} {P0:Int→Bool} {S0:Int→Bool} {iv1:Int} {zQx:Bool}
end
section
variable {K:List PA→Prop} {u:Int} {v:Int} {w:Int} {p:Int} {q:Int} {r_a5:Int}
def s86 (u:Int) (v:Int) (w:Int) (p:Int) (q:Int) (r_a5:Int):Int :=
  (w64 ((w64 ((w64 ((w64 ((1000:Int) * (if (w64 (0 - (w64 ((w64 ((w64 (r_a5 - q)) * (w64 (v - u)))) - (w64 ((w64 (q - p)) * (w64 (w - v)))))))) > (w64 ((w64 ((w64 (r_a5 - q)) * (w64 (v - u)))) - (w64 ((w64 (q - p)) * (w64 (w - v)))))) then (w64 (0 - (w64 ((w64 ((w64 (r_a5 - q)) * (w64 (v - u)))) - (w64 ((w64 (q - p)) * (w64 (w - v)))))))) else (w64 ((w64 ((w64 (r_a5 - q)) * (w64 (v - u)))) - (w64 ((w64 (q - p)) * (w64 (w - v)))))))))+(w64 ((w64 (v - u)) * (w64 (w - v)))))) - (1:Int))).tdiv (w64 ((w64 (v - u)) * (w64 (w - v))))))
def p86 (u:Int) (v:Int) (w:Int) (p:Int) (q:Int) (r_a5:Int):Bool :=
  (decide (((w64 ((w64 (v - u)) * (w64 (w - v)))) ≠ 0)) &&
 true)
end
section
variable {K:List PA→Prop} {z:(Sl Int)} {p:(Sl Int)} {kv0:Int} {iv0:Int} {X0:St→Prop} {P0:Int→Int→Bool} {S0:Int→Int→Int}
def zlX (z:(Sl Int)) (p:(Sl Int)) (S0:Int→Int→Int) (kv0:Int) (iv0:Int):Int :=
  (cond (decide (iv0 < (z.len : Int)))
 (S0 (if (s86 (z.get ((w64 (iv0 - (2:Int))).toNat)) (z.get ((w64 (iv0 - (1:Int))).toNat)) (z.get iv0.toNat) (p.get ((w64 (iv0 - (2:Int))).toNat)) (p.get ((w64 (iv0 - (1:Int))).toNat)) (p.get iv0.toNat)) > kv0 then (s86 (z.get ((w64 (iv0 - (2:Int))).toNat)) (z.get ((w64 (iv0 - (1:Int))).toNat)) (z.get iv0.toNat) (p.get ((w64 (iv0 - (2:Int))).toNat)) (p.get ((w64 (iv0 - (1:Int))).toNat)) (p.get iv0.toNat)) else kv0) (w64 (iv0+(1:Int))))
 kv0)
def zlY (z:(Sl Int)) (p:(Sl Int)) (P0:Int→Int→Bool) (kv0:Int) (iv0:Int):Bool :=
  (cond (decide (iv0 < (z.len : Int)))
 (decide ((0≤(w64 (iv0 - (2:Int)))∧(w64 (iv0 - (2:Int))) < (z.len:Int))) &&
 (decide ((0≤(w64 (iv0 - (1:Int)))∧(w64 (iv0 - (1:Int))) < (z.len:Int))) &&
 (decide ((0≤iv0∧iv0 < (z.len:Int))) &&
 (decide ((0≤(w64 (iv0 - (2:Int)))∧(w64 (iv0 - (2:Int))) < (p.len:Int))) &&
 (decide ((0≤(w64 (iv0 - (1:Int)))∧(w64 (iv0 - (1:Int))) < (p.len:Int))) &&
 (decide ((0≤iv0∧iv0 < (p.len:Int))) &&
 (decide ((p86 (z.get ((w64 (iv0 - (2:Int))).toNat)) (z.get ((w64 (iv0 - (1:Int))).toNat)) (z.get iv0.toNat) (p.get ((w64 (iv0 - (2:Int))).toNat)) (p.get ((w64 (iv0 - (1:Int))).toNat)) (p.get iv0.toNat)=true)) &&
 (P0 (if (s86 (z.get ((w64 (iv0 - (2:Int))).toNat)) (z.get ((w64 (iv0 - (1:Int))).toNat)) (z.get iv0.toNat) (p.get ((w64 (iv0 - (2:Int))).toNat)) (p.get ((w64 (iv0 - (1:Int))).toNat)) (p.get iv0.toNat)) > kv0 then (s86 (z.get ((w64 (iv0 - (2:Int))).toNat)) (z.get ((w64 (iv0 - (1:Int))).toNat)) (z.get iv0.toNat) (p.get ((w64 (iv0 - (2:Int))).toNat)) (p.get ((w64 (iv0 - (1:Int))).toNat)) (p.get iv0.toNat)) else kv0) (w64 (iv0+(1:Int)))))))))))
 true)
def zlZ (z:(Sl Int)) (p:(Sl Int)):Nat→Int→Int→Int:=lpO (fun _ _=>default) (zlX z p)
def zl0 (z:(Sl Int)) (p:(Sl Int)):Nat→Int→Int→Bool:=lpO (fun _ _=>false) (zlY z p)
def zIq (z:(Sl Int)) (p:(Sl Int)) (kv0:Int) (iv0:Int):Int:=zlZ z p Fuel kv0 iv0
def zIr (z:(Sl Int)) (p:(Sl Int)) (kv0:Int) (iv0:Int):Bool:=zl0 z p Fuel kv0 iv0
def s46 (z:(Sl Int)) (p:(Sl Int)):Int :=
  (zIq z p (0:Int) (2:Int))
def p46 (z:(Sl Int)) (p:(Sl Int)):Bool :=
  (zIr z p (0:Int) (2:Int))
end
end Go.Proofs
namespace Go.Pm
open Go Go.Deep
section
variable {H:Type} {en:TypeId×Value→H} {P:Program} {w:World} {sp:Nat→Bool} {held:Bool}
theorem zmP {h:Fz} {n s len cap:Nat} {g:Nat→List PV} {a:Option Addr} (r:Rep h (.sl n s g) (.slice a len cap)):n=len:=by
 cases r <;> rfl
theorem sized_len {t e : TypeId} {n s : Nat} {g : Nat → List PV} {fuel : Nat} {cs : List Value} {d : DataW H} {p : List MemPlace} (ht : P.underlying t = some (.slice e))
    (h:DataW.trod en P w 0 sp held fuel t cs=some (d,p)) (r:RL (Rep (H0 w)) [.sl n s g] cs) (hz:∀ k∈d.weights P t,k≤reachBytes):n * P.bytesOf e≤reachBytes:=by
  rcases open_slice ht h with ⟨rfl,_⟩ | ⟨a,len,cap,m,k,D,Pl,rfl,_,_,_,_,hx,_⟩
  · have := zmP r.1
    subst this;simp
  · have e1 := zmP r.1
    cases hx
    have h2:=hz ((((List.range len).map D).length+((List.range (m - len)).map fun j=>D (len+j)).length) * P.bytesOf e) (by simp [DataW.weights,ht])
    simp only [List.length_map,List.length_range] at h2
    rw [e1]
    exact Nat.le_trans (Nat.mul_le_mul_right _ (Nat.le_add_right _ _)) h2
end
end Go.Pm
namespace Go.Pm
open Go
theorem zcL {i n:Nat} (h:i < n) (hn:n≤9223372036854775807):w64 ((i:Int)+(1:Int))=((i+1:Nat):Int):=by
 rw [za8 (by omega) (by omega)];omega
theorem zIs {β : Type} {good : Nat → Bool} {bad fin : β} {finP : Bool} {n : Nat} {lpS : Nat → Int → β} {lpP : Nat → Int → Bool}
    (hS:∀ (k i:Nat),i < n→lpS (k+1) (i:Int)=cond (good i) (lpS k (w64 ((i:Int)+(1:Int)))) bad)
    (hE:∀ k,lpS (k+1) (n:Int)=fin)
    (hP:∀ (k i:Nat),i < n→lpP (k+1) (i:Int)=cond (good i) (lpP k (w64 ((i:Int)+(1:Int)))) true)
    (hPE:∀ k,lpP (k+1) (n:Int)=finP) (hn:n≤9223372036854775807) :
    ((∀ i,i < n→good i=true)→lpP Fuel 0=finP∧lpS Fuel 0=fin)∧((¬ ∀ i,i < n→good i=true)→lpP Fuel 0=true∧lpS Fuel 0=bad):=by
  have key:∀ (m k i:Nat),i+m=n→m < k→((∀ j,i≤j→j < n→good j=true)→lpP k (i:Int)=finP∧lpS k (i:Int)=fin)∧((¬ ∀ j,i≤j→j < n→good j=true)→lpP k (i:Int)=true∧lpS k (i:Int)=bad):=by
    intro m
    induction m with
    | zero =>
      intro k i hi hk
      obtain ⟨k,rfl⟩:∃ k',k=k'+1:=⟨k - 1,by omega⟩
      have:i=n:=by omega
      subst this
      rw [hE,hPE]
      exact ⟨fun _=>⟨rfl,rfl⟩,fun h=>absurd (fun j h1 h2=>absurd h2 (by omega)) h⟩
    | succ m ih =>
      intro k i hi hk
      obtain ⟨k,rfl⟩:∃ k',k=k'+1:=⟨k - 1,by omega⟩
      rw [hS k i (by omega),hP k i (by omega),zcL (n:=n) (by omega) hn]
      obtain ⟨h1,h2⟩:=ih k (i+1) (by omega) (by omega)
      cases hg:good i
      · refine ⟨fun h => ?_, fun _ => ⟨rfl, rfl⟩⟩
        have:=h i (Nat.le_refl _) (by omega)
        rw [hg] at this;cases this
      · refine ⟨fun h => h1 fun j a b => h j (by omega) b, fun h => h2 fun h' => h fun j a b => ?_⟩
        by_cases hji:j=i
        · rw [hji];exact hg
        · exact h' j (by omega) b
  have:=key n Fuel 0 (by omega) (by simp only [Fuel];omega)
  simpa using this
def zdU {σ : Type} (step : Nat → σ → σ) : Nat → Nat → σ → σ
  | 0,_,s=>s
  | m+1,i,s=>zdU step m (i+1) (step i s)
theorem zqA {σ β : Type} {step : Nat → σ → σ} {E : σ → β} {EP : σ → Bool} {Inv : Nat → σ → Prop} {a n : Nat} {lpS : Nat → σ → Int → β} {lpP : Nat → σ → Int → Bool}
    (hS:∀ (k i:Nat) (s:σ),a≤i→i < n→Inv i s→lpS (k+1) s (i:Int)=lpS k (step i s) (w64 ((i:Int)+(1:Int))))
    (hE:∀ k s,lpS (k+1) s (n:Int)=E s)
    (hP:∀ (k i:Nat) (s:σ),a≤i→i < n→Inv i s→lpP (k+1) s (i:Int)=lpP k (step i s) (w64 ((i:Int)+(1:Int))))
    (hPE:∀ k s,lpP (k+1) s (n:Int)=EP s)
    (hI:∀ i s,a≤i→i < n→Inv i s→Inv (i+1) (step i s)) (ha:a≤n) (hn:n≤9223372036854775807) (s:σ) (h0:Inv a s) :
    lpP Fuel s (a:Int)=EP (zdU step (n - a) a s)∧lpS Fuel s (a:Int)=E (zdU step (n - a) a s):=by
  have key:∀ (m k i:Nat) (s:σ),a≤i→i+m=n→m < k→Inv i s→lpP k s (i:Int)=EP (zdU step m i s)∧lpS k s (i:Int)=E (zdU step m i s):=by
    intro m
    induction m with
    | zero =>
      intro k i s h1 hi hk _
      obtain ⟨k,rfl⟩:∃ k',k=k'+1:=⟨k - 1,by omega⟩
      have:i=n:=by omega
      subst this
      rw [hE,hPE]
      exact ⟨rfl,rfl⟩
    | succ m ih =>
      intro k i s h1 hi hk hs
      obtain ⟨k,rfl⟩:∃ k',k=k'+1:=⟨k - 1,by omega⟩
      rw [hS k i s h1 (by omega) hs,hP k i s h1 (by omega) hs,zcL (n:=n) (by omega) hn]
      exact ih k (i+1) (step i s) (by omega) (by omega) (by omega) (hI i s h1 (by omega) hs)
  exact key (n - a) Fuel a s (Nat.le_refl _) (by omega) (by simp only [Fuel];omega) h0
theorem zfy {σ:Type} {f g:Nat→σ→σ} {d:Nat} (h:∀ i s,f i s=g (i+d) s) (m i:Nat) (s:σ):zdU f m i s=zdU g m (i+d) s:=by
 induction m generalizing i s with
 | zero=>rfl
 | succ m ih=>show zdU f m (i+1) (f i s)=zdU g m (i+d+1) (g (i+d) s);rw [h,ih,Nat.add_right_comm]
end Go.Pm
namespace Go.Proofs
open Go Go.Pm
set_option maxRecDepth 100000
theorem zl1 (n a b:Int):s70 n a b=decide (a≤n∧n≤b):=by
 unfold s70;by_cases h:n ≥ a
 ·rw [decide_eq_true h,cond_true];exact decide_eq_decide.2 ⟨fun k=>⟨h,k⟩,fun k=>k.2⟩
 ·rw [decide_eq_false h,cond_false];exact (decide_eq_false fun k=>h k.1).symm
theorem zir (n a b:Int):s74 n a b=decide (a≤n∧n≤b):=zl1 n a b
def zeY (g:Gate):Prop:=(0≤g.Z∧g.Z≤100000)∧-1000000≤g.Low∧g.Low≤g.High∧g.High≤1000000
def zIt (l:Sl Gate):Prop:=(∀ i,i < l.len→zeY (l.get i))∧1≤l.len∧l.len≤24
theorem zgA (a b:Bool):cond a b false=(a && b):=by cases a <;> rfl
theorem zDY (g:Gate):s87 g=true↔zeY g:=by
 unfold s87 zeY
 rw [zir,zgA,zgA,zgA,Bool.and_eq_true,Bool.and_eq_true,Bool.and_eq_true,decide_eq_true_eq,decide_eq_true_eq,decide_eq_true_eq,decide_eq_true_eq]
theorem zDZ (g:Gate):s49 g=true↔zeY g:=by
 unfold s49 zeY
 rw [zl1,zl1,zgA,zgA,Bool.and_eq_true,Bool.and_eq_true,decide_eq_true_eq,decide_eq_true_eq,decide_eq_true_eq]
 omega
theorem zD0 (l:Sl Gate) (hn:l.len≤9223372036854775807):p64 l=true∧(s64 l=true↔zIt l):=by
  have := zj1 (good := fun i => s87 (l.get i)) (fin := s74 (l.len : Int) 1 24) (n := l.len) (lpS := ziM l) (lpP := ziN l)
    (fun k i hi=>by
      show ziK l (ziM l k) (i:Int)=_
      generalize ziM l k=S
      unfold ziK zrz
      rw [decide_eq_true (show (i:Int) < (l.len:Int) by omega),cond_true,Int.toNat_natCast]
      cases s87 (l.get i) <;> rfl)
    (fun k=>by
      show ziK l (ziM l k) (l.len:Int)=_
      unfold ziK
      rw [decide_eq_false (show ¬ (l.len:Int) < (l.len:Int) by omega),cond_false])
    (fun k i hi=>by
      show ziL l (ziN l k) (i:Int)=_
      generalize ziN l k=S
      unfold ziL zrA
      rw [decide_eq_true (show (i:Int) < (l.len:Int) by omega),cond_true,Int.toNat_natCast,decide_eq_true (show 0≤(i:Int)∧(i:Int) < (l.len:Int) by omega),Bool.true_and]
      cases s87 (l.get i) <;> rfl)
    (fun k=>by
      show ziL l (ziN l k) (l.len:Int)=_
      unfold ziL
      rw [decide_eq_false (show ¬ (l.len:Int) < (l.len:Int) by omega),cond_false])
    hn
  refine ⟨this.1,this.2.trans ?_⟩
  rw [zir,decide_eq_true_eq]
  exact ⟨fun k=>⟨fun i hi=>(zDY _).1 (k.1 i hi),by omega,by omega⟩,fun k=>⟨fun i hi=>(zDY _).2 (k.1 i hi),by have:=k.2;omega⟩⟩
end Go.Proofs
namespace Go.Proofs
open Go Go.Pm
set_option maxRecDepth 100000
def inc (h:Sl Int) (i:Nat):Bool:=decide ((0≤h.get i∧h.get i≤100000)∧(0 < i→h.get (i - 1) < h.get i))
def inw (p:Sl Int) (i:Nat):Bool:=decide (-1000000≤p.get i∧p.get i≤1000000)
def HOK (h:Sl Int):Prop:=(∀ i,i < h.len→inc h i=true)∧2≤h.len∧h.len≤8
theorem zjw {i:Nat} (h:0 < i) (hn:i≤9223372036854775807):w64 ((i:Int) - (1:Int))=((i - 1:Nat):Int):=by
 rw [za8 (by omega) (by omega)];omega
theorem zki {α : Type} (h : Sl Int) (i : Nat) (hi : i < h.len) (hn : h.len ≤ 9223372036854775807) (a b : α) :
  (cond (!(s70 (h.get i) (0:Int) (100000:Int))) b (cond (decide ((i:Int) > (0:Int))) (cond (decide ((h.get i)≤(h.get ((w64 ((i:Int) - (1:Int))).toNat)))) b a) a))=cond (inc h i) a b:=by
 rw [zl1]
 by_cases h1:0≤h.get i∧h.get i≤100000
 ·rw [decide_eq_true h1]
  by_cases h2:0 < i
  ·rw [decide_eq_true (show (i : Int) > 0 by omega), zjw h2 (by omega), Int.toNat_natCast]
   by_cases h3:h.get i≤h.get (i - 1)
   ·rw [decide_eq_true h3,show inc h i=false from decide_eq_false fun k=>absurd (k.2 h2) (by omega)];rfl
   ·rw [decide_eq_false h3,show inc h i=true from decide_eq_true ⟨h1,fun _=>by omega⟩];rfl
  ·rw [decide_eq_false (show ¬ (i:Int) > 0 by omega),show inc h i=true from decide_eq_true ⟨h1,fun k=>absurd k h2⟩];rfl
 ·rw [decide_eq_false h1,show inc h i=false from decide_eq_false fun k=>h1 k.1];rfl
theorem zLG (h:Sl Int) (w:wf_39 h):p45 h=true∧(s45 h=true↔HOK h):=by
  have := zj1 (good := inc h) (fin := s70 (h.len : Int) 2 8) (n := h.len) (lpS := zjl h) (lpP := zjm h)
    (fun k i hi=>by
      show zjj h (zjl h k) (i:Int)=_
      generalize zjl h k=S
      unfold zjj zlT
      rw [decide_eq_true (show (i:Int) < (h.len:Int) by omega),cond_true,Int.toNat_natCast,← zki h i hi w.1]
      cases s70 (h.get i) 0 100000 <;> cases decide ((i:Int) > 0) <;> rfl)
    (fun k=>by
      show zjj h (zjl h k) (h.len:Int)=_
      unfold zjj
      rw [decide_eq_false (show ¬ (h.len:Int) < (h.len:Int) by omega),cond_false])
    (fun k i hi=>by
      show zjk h (zjm h k) (i:Int)=_
      generalize zjm h k=S
      unfold zjk zlU
      have w1:=w.1
      rw [decide_eq_true (show (i:Int) < (h.len:Int) by omega),cond_true,Int.toNat_natCast,← zki h i hi w.1,decide_eq_true (show 0≤(i:Int)∧(i:Int) < (h.len:Int) by omega),Bool.true_and,Bool.true_and]
      by_cases h0:0 < i
      · rw [zjw h0 (by omega), Int.toNat_natCast, decide_eq_true (show 0 ≤ ((i - 1 : Nat) : Int) ∧ ((i - 1 : Nat) : Int) < (h.len : Int) by omega), Bool.true_and]
        cases s70 (h.get i) 0 100000 <;> cases decide ((i:Int) > 0) <;> rfl
      · rw [decide_eq_false (show ¬ (i : Int) > 0 by omega)]
        cases s70 (h.get i) 0 100000 <;> rfl)
    (fun k=>by
      show zjk h (zjm h k) (h.len:Int)=_
      unfold zjk
      rw [decide_eq_false (show ¬ (h.len:Int) < (h.len:Int) by omega),cond_false])
    w.1
  refine ⟨this.1,this.2.trans ?_⟩
  rw [zl1,decide_eq_true_eq]
  exact ⟨fun k=>⟨k.1,by omega,by omega⟩,fun k=>⟨k.1,by have:=k.2;omega⟩⟩
theorem zD1 {u v w p q r:Int} (hu:0≤u) (huv:u < v) (hvw:v < w) (hw:w≤100000):p85 u v w p q r=true:=by
 unfold p85
 have h1:w64 (v - u)=v - u:=za8 (by omega) (by omega)
 have h2:w64 (w - v)=w - v:=za8 (by omega) (by omega)
 have h3:0 < (v - u) * (w - v):=Int.mul_pos (by omega) (by omega)
 have h4:(v - u) * (w - v)≤100000 * 100000:=Int.mul_le_mul (by omega) (by omega) (by omega) (by omega)
 rw [h1,h2,za8 (by omega) (by omega),decide_eq_true (by omega)];rfl
def kk (h p:Sl Int) (i:Nat) (k:Int):Int :=
 let t:=s85 (h.get i) (h.get (i+1)) (h.get (i+2)) (p.get i) (p.get (i+1)) (p.get (i+2))
 if t > k then t else k
theorem zD2 {h:Sl Int} {i:Nat} (H:HOK h) (hi:i+1 < h.len):h.get i < h.get (i+1):=by
 have:=of_decide_eq_true (H.1 (i+1) hi)
 exact this.2 (by omega)
theorem zAM {h:Sl Int} {i:Nat} (H:HOK h) (hi:i < h.len):0≤h.get i∧h.get i≤100000:=(of_decide_eq_true (H.1 i hi)).1
theorem zD3 {h:Sl Int} {i:Nat} (H:HOK h) (hi:i+2 < h.len) (p q r:Int):p85 (h.get i) (h.get (i+1)) (h.get (i+2)) p q r=true :=
 zD1 (zAM H (by omega)).1 (zD2 H (by omega)) (zD2 H (by omega)) (zAM H hi).2
theorem zLH (h p:Sl Int) (H:HOK h) (hp:p.len=h.len):p46 h p=true∧s46 h p=zdU (kk h p) (h.len - 2) 0 0:=by
  have H3:=H.2
  have := zqA (σ := Int) (step := fun i k => kk h p (i - 2) k) (E := id) (EP := fun _ => true) (Inv := fun _ _ => True) (a := 2) (n := h.len) (lpS := zlZ h p) (lpP := zl0 h p)
    (fun k i s h1 hi _=>by
      show zlX h p (zlZ h p k) s (i:Int)=_
      generalize zlZ h p k=S
      unfold zlX
      obtain ⟨i,rfl⟩:∃ j,i=j+2:=⟨i - 2,by omega⟩
      have e2:w64 (((i+2:Nat):Int) - 2)=(i:Int):=by rw [za8 (by omega) (by omega)];omega
      have e1:w64 (((i+2:Nat):Int) - 1)=((i+1:Nat):Int):=by rw [za8 (by omega) (by omega)];omega
      rw [decide_eq_true (show ((i+2:Nat):Int) < (h.len:Int) by omega),cond_true,e2,e1,Int.toNat_natCast,Int.toNat_natCast,Int.toNat_natCast]
      rfl)
    (fun k s=>by
      show zlX h p (zlZ h p k) s (h.len:Int)=_
      unfold zlX
      rw [decide_eq_false (show ¬ (h.len:Int) < (h.len:Int) by omega),cond_false];rfl)
    (fun k i s h1 hi _=>by
      show zlY h p (zl0 h p k) s (i:Int)=_
      generalize zl0 h p k=S
      unfold zlY
      obtain ⟨i,rfl⟩:∃ j,i=j+2:=⟨i - 2,by omega⟩
      have e2:w64 (((i+2:Nat):Int) - 2)=(i:Int):=by rw [za8 (by omega) (by omega)];omega
      have e1:w64 (((i+2:Nat):Int) - 1)=((i+1:Nat):Int):=by rw [za8 (by omega) (by omega)];omega
      have p86:p86 (h.get i) (h.get (i+1)) (h.get (i+2)) (p.get i) (p.get (i+1)) (p.get (i+2))=true:=zD3 H hi (p.get i) (p.get (i+1)) (p.get (i+2))
      rw [decide_eq_true (show ((i+2:Nat):Int) < (h.len:Int) by omega),cond_true,e2,e1,Int.toNat_natCast,Int.toNat_natCast,Int.toNat_natCast,hp,p86,
        decide_eq_true (show 0≤(i:Int)∧(i:Int) < (h.len:Int) by omega),decide_eq_true (show 0≤((i+1:Nat):Int)∧((i+1:Nat):Int) < (h.len:Int) by omega),
        decide_eq_true (show 0≤((i+2:Nat):Int)∧((i+2:Nat):Int) < (h.len:Int) by omega)]
      rfl)
    (fun k s=>by
      show zlY h p (zl0 h p k) s (h.len:Int)=_
      unfold zlY
      rw [decide_eq_false (show ¬ (h.len:Int) < (h.len:Int) by omega),cond_false])
    (fun _ _ _ _ _=>trivial) H3.1 (by omega) 0 trivial
  refine ⟨this.1,this.2.trans ?_⟩
  exact (zfy (f:=kk h p) (g:=fun i k=>kk h p (i - 2) k) (d:=2) (fun i s=>by show _=kk h p (i+2 - 2) s;rw [Nat.add_sub_cancel]) (h.len - 2) 0 0).symm
theorem zLI (h p:Sl Int) (H:HOK h) (hp:p.len=h.len):zoa h p=true∧zn9 h p=(zdU (kk h p) (h.len - 2) 0 0,0):=by
  have H3:=H.2
  have e0:w64 ((h.len:Int) - 2)=((h.len - 2:Nat):Int):=by rw [za8 (by omega) (by omega)];omega
  have := zqA (σ := Int) (step := kk h p) (E := fun k => (k, (0 : Int))) (EP := fun _ => true) (Inv := fun _ _ => True) (a := 0) (n := h.len - 2) (lpS := zi7 h p) (lpP := zi8 h p)
    (fun k i s h1 hi _=>by
      show zi5 h p (zi7 h p k) s (i:Int)=_
      generalize zi7 h p k=S
      unfold zi5
      have e2:w64 ((i:Int)+2)=((i+2:Nat):Int):=by rw [za8 (by omega) (by omega)];omega
      have e1:w64 ((i:Int)+1)=((i+1:Nat):Int):=by rw [za8 (by omega) (by omega)];omega
      rw [e0,decide_eq_true (show (i:Int) < ((h.len - 2:Nat):Int) by omega),cond_true,e2,e1,Int.toNat_natCast,Int.toNat_natCast,Int.toNat_natCast]
      rfl)
    (fun k s=>by
      show zi5 h p (zi7 h p k) s ((h.len - 2:Nat):Int)=_
      unfold zi5
      rw [e0,decide_eq_false (show ¬ ((h.len - 2:Nat):Int) < ((h.len - 2:Nat):Int) by omega),cond_false])
    (fun k i s h1 hi _=>by
      show zi6 h p (zi8 h p k) s (i:Int)=_
      generalize zi8 h p k=S
      unfold zi6
      have e2:w64 ((i:Int)+2)=((i+2:Nat):Int):=by rw [za8 (by omega) (by omega)];omega
      have e1:w64 ((i:Int)+1)=((i+1:Nat):Int):=by rw [za8 (by omega) (by omega)];omega
      have p85:=zD3 H (show i+2 < h.len by omega) (p.get i) (p.get (i+1)) (p.get (i+2))
      rw [e0,decide_eq_true (show (i:Int) < ((h.len - 2:Nat):Int) by omega),cond_true,e2,e1,Int.toNat_natCast,Int.toNat_natCast,Int.toNat_natCast,hp,p85,
        decide_eq_true (show 0≤(i:Int)∧(i:Int) < (h.len:Int) by omega),decide_eq_true (show 0≤((i+1:Nat):Int)∧((i+1:Nat):Int) < (h.len:Int) by omega),
        decide_eq_true (show 0≤((i+2:Nat):Int)∧((i+2:Nat):Int) < (h.len:Int) by omega)]
      rfl)
    (fun k s=>by
      show zi6 h p (zi8 h p k) s ((h.len - 2:Nat):Int)=_
      unfold zi6
      rw [e0,decide_eq_false (show ¬ ((h.len - 2:Nat):Int) < ((h.len - 2:Nat):Int) by omega),cond_false])
    (fun _ _ _ _ _=>trivial) (Nat.zero_le _) (by omega) 0 trivial
  exact this
def VOK (h p:Sl Int):Prop:=HOK h∧p.len=h.len∧∀ i,i < p.len→inw p i=true
theorem zLJ (h p : Sl Int) (w : wf_39 h) :
    (VOK h p→p44 h p=true∧s44 h p=(zdU (kk h p) (h.len - 2) 0 0,0))∧(¬ VOK h p→p44 h p=true∧s44 h p=(0,2)):=by
  unfold p44 s44
  rw [zir]
  by_cases h1:(2:Int)≤(h.len:Int)∧(h.len:Int)≤8
  · rw [decide_eq_true h1, Bool.not_true, cond_false, cond_false]
    unfold zod zoc
    by_cases h2:p.len=h.len
    · rw [h2, show ((h.len : Int) != (h.len : Int)) = false by simp, cond_false, cond_false]
      have e := zIs (good := fun i => inc h i && inw p i) (bad := ((0:Int), (2:Int))) (fin := zn9 h p) (finP := zoa h p) (n := h.len) (lpS := zjd h p) (lpP := zje h p)
        (fun k i hi=>by
          show zjb h p (zjd h p k) (i:Int)=_
          generalize zjd h p k=S
          have ic:=zki h i hi w.1 (cond (inw p i) (S (w64 ((i:Int)+(1:Int)))) ((0:Int),(2:Int))) ((0:Int),(2:Int))
          unfold zjb zi9
          rw [decide_eq_true (show (i:Int) < (h.len:Int) by omega),cond_true,Int.toNat_natCast,zir,zir,show decide (-1000000≤p.get i∧p.get i≤1000000)=inw p i from rfl,← zl1]
          refine Eq.trans ?_ (ic.trans ?_)
          · cases inw p i <;> rfl
          · cases inc h i <;> cases inw p i <;> rfl)
        (fun k=>by
          show zjb h p (zjd h p k) (h.len:Int)=_
          unfold zjb
          rw [decide_eq_false (show ¬ (h.len:Int) < (h.len:Int) by omega),cond_false])
        (fun k i hi=>by
          show zjc h p (zje h p k) (i:Int)=_
          generalize zje h p k=S
          have w1:=w.1
          have ic:=zki h i hi w.1 (cond (inw p i) (S (w64 ((i:Int)+(1:Int)))) true) true
          unfold zjc zja
          rw [decide_eq_true (show (i:Int) < (h.len:Int) by omega),cond_true,Int.toNat_natCast,zir,zir,show decide (-1000000≤p.get i∧p.get i≤1000000)=inw p i from rfl,← zl1,h2,
            decide_eq_true (show 0≤(i:Int)∧(i:Int) < (h.len:Int) by omega),Bool.true_and,Bool.true_and]
          refine Eq.trans ?_ (ic.trans ?_)
          · by_cases h0 : 0 < i
            · rw [zjw h0 (by omega), Int.toNat_natCast, decide_eq_true (show 0 ≤ ((i - 1 : Nat) : Int) ∧ ((i - 1 : Nat) : Int) < (h.len : Int) by omega), Bool.true_and]
              cases inw p i <;> rfl
            · rw [decide_eq_false (show ¬ (i : Int) > 0 by omega)]
              cases inw p i <;> rfl
          · cases inc h i <;> cases inw p i <;> rfl)
        (fun k=>by
          show zjc h p (zje h p k) (h.len:Int)=_
          unfold zjc
          rw [decide_eq_false (show ¬ (h.len:Int) < (h.len:Int) by omega),cond_false])
        w.1
      refine ⟨fun V=>?_,fun V=>?_⟩
      · obtain ⟨a, b⟩ := e.1 fun i hi => by rw [V.1.1 i hi, V.2.2 i (by omega)]; rfl
        obtain ⟨c,d⟩:=zLI h p V.1 h2
        exact ⟨Eq.trans a c,Eq.trans b d⟩
      · refine e.2 fun hh => V ⟨⟨fun i hi => ?_, by omega, by omega⟩, h2, fun i hi => ?_⟩
        · exact (Bool.and_eq_true _ _ ▸ hh i hi).1
        · exact (Bool.and_eq_true _ _ ▸ hh i (by omega)).2
    · rw [show ((p.len : Int) != (h.len : Int)) = true by simp; omega, cond_true, cond_true]
      exact ⟨fun V=>absurd V.2.1 h2,fun _=>⟨rfl,rfl⟩⟩
  · rw [decide_eq_false h1, Bool.not_false, cond_true, cond_true]
    exact ⟨fun V=>absurd V.1.2 (by omega),fun _=>⟨rfl,rfl⟩⟩
end Go.Proofs
namespace Go.Pm
open Go
def zvv : Nat → Int → List Int
  | 0,_=>[]
  | n+1,a=>a :: zvv n (a+1)
def zjT (a b:Int):List Int:=zvv (b - a+1).toNat a
theorem zoT : ∀ {n : Nat} {a x : Int}, x ∈ zvv n a ↔ a ≤ x ∧ x < a + n
  | 0,a,x=>by simp only [zvv,List.not_mem_nil,false_iff];omega
  | n+1,a,x=>by
    rw [zvv,List.mem_cons,zoT];omega
theorem zc8 {a b x:Int} : x∈zjT a b↔a≤x∧x≤b:=by rw [zjT,zoT];omega
theorem zmQ : ∀ {n : Nat} {a : Int}, (zvv n a).Nodup
  | 0,a=>List.nodup_nil
  | n+1,a=>List.nodup_cons.2 ⟨fun h=>by have:=zoT.1 h;omega,zmQ⟩
theorem zmR {a b:Int} : (zjT a b).Nodup:=zmQ
theorem zuF:∀ (n:Nat) (a:Int),(List.range n).map (fun (i:Nat)=>a+i)=zvv n a:=by
 intro n
 induction n with
 | zero=>intro a;rfl
 | succ n ih =>
  intro a
  rw [List.range_succ_eq_map,List.map_cons,List.map_map,zvv,← ih (a+1)]
  congr 1
  ·simp
  ·refine List.map_congr_left fun i _ => ?_
   simp only [Function.comp];omega
theorem zAN {a b:Int} (h:a≤b):zjT a b ≠ []:=fun e=>by have:a∈zjT a b:=zc8.2 ⟨by omega,h⟩;rw [e] at this;simp at this

theorem zAO {σ β : Type} {step : Int → σ → σ} {E : σ → β} {EP : σ → Bool} {Inv : σ → Prop} {lo hi : Int} {lpS : Nat → Int → σ → β} {lpP : Nat → Int → σ → Bool}
    (hS:∀ k r s,lo≤r→r≤hi→Inv s→lpS (k+1) r s=lpS k (w64 (r+(1:Int))) (step r s)) (hE:∀ k r s,lo≤r→hi < r→Inv s→lpS (k+1) r s=E s)
    (hP:∀ k r s,lo≤r→r≤hi→Inv s→lpP (k+1) r s=lpP k (w64 (r+(1:Int))) (step r s)) (hPE:∀ k r s,lo≤r→hi < r→Inv s→lpP (k+1) r s=EP s)
    (hI:∀ r s,lo≤r→r≤hi→Inv s→Inv (step r s)) (h1 : -9223372036854775808≤lo) (h2:hi < 9223372036854775807) (h3:hi - lo < 9223372036854775800) (s:σ) (h0:Inv s) :
    lpP Fuel lo s=EP ((zjT lo hi).foldl (fun s r=>step r s) s)∧lpS Fuel lo s=E ((zjT lo hi).foldl (fun s r=>step r s) s)∧Inv ((zjT lo hi).foldl (fun s r=>step r s) s):=by
  have key:∀ (n k:Nat) (r:Int) (s:σ),lo≤r→(r+n=hi+1∨n=0∧hi < r)→n < k→Inv s→lpP k r s=EP ((zvv n r).foldl (fun s r=>step r s) s)∧lpS k r s=E ((zvv n r).foldl (fun s r=>step r s) s)∧Inv ((zvv n r).foldl (fun s r=>step r s) s):=by
    intro n
    induction n with
    | zero =>
      intro k r s hl hr hk hs
      obtain ⟨k,rfl⟩:∃ k',k=k'+1:=⟨k - 1,by omega⟩
      have:hi < r:=by omega
      exact ⟨hPE k r s hl this hs,hE k r s hl this hs,hs⟩
    | succ n ih =>
      intro k r s hl hr hk hs
      obtain ⟨k,rfl⟩:∃ k',k=k'+1:=⟨k - 1,by omega⟩
      have hrh:r≤hi:=by omega
      rw [hS k r s hl hrh hs,hP k r s hl hrh hs,za8 (by omega) (by omega)]
      exact ih k (r+1) (step r s) (by omega) (by omega) (by omega) (hI r s hl hrh hs)
  unfold zjT
  exact key (hi - lo+1).toNat Fuel lo s (Int.le_refl _) (by omega) (by simp only [Fuel];omega) h0

def mnS (b k:Int):Int:=if b < 0 then k else if k < b then k else b
def mnL (l:List Int):Int:=l.foldl mnS (-1)
theorem zuG : ∀ (l : List Int) (b : Int), 0 ≤ b → (∀ x ∈ l, 0 ≤ x) → (l.foldl mnS b = b ∨ l.foldl mnS b ∈ l) ∧ l.foldl mnS b ≤ b ∧ ∀ x ∈ l, l.foldl mnS b ≤ x
  | [],b,_,_=>⟨.inl rfl,Int.le_refl _,fun x hx=>by simp at hx⟩
  | y :: l,b,hb,hl=>by
    have hy:=hl y List.mem_cons_self
    have e:mnS b y=if y < b then y else b:=by unfold mnS;rw [if_neg (by omega)]
    rw [List.foldl_cons,e]
    have hm:(if y < b then y else b)≤b∧(if y < b then y else b)≤y∧((if y < b then y else b)=y∨(if y < b then y else b)=b):=by split <;> omega
    generalize (if y < b then y else b)=m at hm
    obtain ⟨h1,h2,h3⟩:=zuG l m (by omega) (fun x hx=>hl x (List.mem_cons_of_mem _ hx))
    refine ⟨?_,by omega,fun x hx=>?_⟩
    · rcases h1 with h1 | h1
      · rcases hm.2.2 with h | h
        · exact .inr (by rw [h1,h];exact List.mem_cons_self)
        · exact .inl (by rw [h1,h])
      · exact .inr (List.mem_cons_of_mem _ h1)
    · rcases List.mem_cons.1 hx with e | hx
      · rw [e];omega
      · exact h3 x hx
theorem zoU {l:List Int} (hl:∀ x∈l,0≤x) (hne:l ≠ []):mnL l∈l∧∀ x∈l,mnL l≤x:=by
 cases l with
 | nil=>exact absurd rfl hne
 | cons y l =>
  have hy:=hl y List.mem_cons_self
  have e:mnL (y :: l)=l.foldl mnS y:=by unfold mnL;rw [List.foldl_cons];rfl
  obtain ⟨h1,h2,h3⟩:=zuG l y hy (fun x hx=>hl x (List.mem_cons_of_mem _ hx))
  rw [e]
  refine ⟨?_,fun x hx=>?_⟩
  ·rcases h1 with h1 | h1
   ·rw [h1];exact List.mem_cons_self
   ·exact List.mem_cons_of_mem _ h1
  ·rcases List.mem_cons.1 hx with e | hx
   ·rw [e];exact h2
   ·exact h3 x hx

abbrev MpT:=Nat×(List Int→Option (List Int))
def zA1 (v:List Int) (c:List Int) (a:MpT):MpT:=(addN (a.2 c) a.1,ze0 c v a.2)
def mp0:MpT:=(0,fun _=>none)
theorem zl2 {v c:List Int} {a:MpT} {x:List Int} : (zA1 v c a).2 x=if x=c then some v else a.2 x:=by
 show (match decide (x=c) with | true=>some v | false=>a.2 x)=_
 by_cases h:x=c
 ·rw [decide_eq_true h,if_pos h]
 ·rw [decide_eq_false h,if_neg h]
theorem zD4 {v c:List Int} {a:MpT} : (zA1 v c a).1=if a.2 c=none then a.1+1 else a.1:=by
 show addN (a.2 c) a.1=_
 cases a.2 c <;> simp [addN]
theorem zoV (val : List Int → List Int) : ∀ (l : List (List Int)) (a : MpT) (x : List Int), (l.foldl (fun a c => zA1 (val c) c a) a).2 x = if x ∈ l then some (val x) else a.2 x
  | [],a,x=>by simp
  | c :: l,a,x=>by
    rw [List.foldl_cons,zoV val l,zl2]
    by_cases h1:x∈l
    · rw [if_pos h1,if_pos (List.mem_cons_of_mem _ h1)]
    · rw [if_neg h1]
      by_cases h2:x=c
      · rw [if_pos h2,if_pos (by rw [h2];exact List.mem_cons_self),h2]
      · rw [if_neg h2,if_neg (fun h=>(List.mem_cons.1 h).elim h2 h1)]
def Cnt (a:MpT):Prop:=∃ K:List (List Int),K.Nodup∧K.length=a.1∧∀ x,a.2 x ≠ none↔x∈K
theorem zOa:Cnt mp0:=⟨[],List.nodup_nil,rfl,fun x=>by simp [mp0]⟩
theorem zIu {a:MpT} (v c:List Int) (h:Cnt a):Cnt (zA1 v c a):=by
 obtain ⟨K,h1,h2,h3⟩:=h
 by_cases hc:a.2 c=none
 ·refine ⟨c :: K, List.nodup_cons.2 ⟨fun h => (h3 c).2 h hc, h1⟩, ?_, fun x => ?_⟩
  ·rw [zD4,if_pos hc,List.length_cons,h2]
  ·rw [zl2, List.mem_cons]
   by_cases hx:x=c
   ·simp [hx]
   ·rw [if_neg hx,h3 x];simp [hx]
 ·refine ⟨K, h1, ?_, fun x => ?_⟩
  ·rw [zD4,if_neg hc,h2]
  ·rw [zl2]
   by_cases hx:x=c
   ·rw [if_pos hx,hx];exact ⟨fun _=>(h3 c).1 hc,fun _=>by simp⟩
   ·rw [if_neg hx];exact h3 x
theorem zoW (val : List Int → List Int) : ∀ (l : List (List Int)) (a : MpT), Cnt a → Cnt (l.foldl (fun a c => zA1 (val c) c a) a)
  | [],_,h=>h
  | c :: l,a,h=>zoW val l _ (zIu _ c h)
theorem zAP {a:MpT} (h:Cnt a) {L:List (List Int)} (hL:L.Nodup) (he:∀ x,a.2 x ≠ none↔x∈L):a.1=L.length:=by
 obtain ⟨K,h1,h2,h3⟩:=h
 rw [← h2]
 exact ((List.perm_ext_iff_of_nodup h1 hL).2 fun x=>(h3 x).symm.trans (he x)).length_eq
end Go.Pm
namespace Go.Proofs
open Go Go.Pm
set_option maxRecDepth 100000
structure BG (l : Sl Gate) : Prop where
  ok:∀ i,i < l.len→zeY (l.get i)
  lo:2≤l.len
  hi:l.len≤8
  wide:∀ i,i < l.len→(l.get i).High - (l.get i).Low≤60
  inc:∀ i,i+1 < l.len→(l.get i).Z < (l.get (i+1)).Z
def zOb (l:Sl Gate) (i:Nat):Bool:=decide (¬ w64 ((l.get i).High - (l.get i).Low) > 60∧(0 < i→(l.get (i - 1)).Z < (l.get i).Z))
theorem zD5 (l:Sl Gate) (hn:l.len≤9223372036854775807):p92 l=true∧(s92 l=true↔BG l):=by
  have cc:∀ {α:Type} (i:Nat) (_:i < l.len) (a b:α),(cond (decide ((w64 ((l.get i).High - (l.get i).Low)) > (60:Int))) b (cond (decide ((i:Int) > (0:Int))) (cond (decide ((l.get i).Z≤(l.get ((w64 ((i:Int) - (1:Int))).toNat)).Z)) b a) a))=cond (zOb l i) a b:=by
    intro α i hi a b
    unfold zOb
    by_cases h1:w64 ((l.get i).High - (l.get i).Low) > 60
    · rw [decide_eq_true h1,cond_true,decide_eq_false (fun h=>h.1 h1),cond_false]
    · rw [decide_eq_false h1, cond_false]
      by_cases h0:0 < i
      · rw [decide_eq_true (show (i : Int) > 0 by omega), cond_true, zjw h0 (by omega), Int.toNat_natCast]
        by_cases h2:(l.get i).Z≤(l.get (i - 1)).Z
        · rw [decide_eq_true h2,cond_true,decide_eq_false (fun h=>by have:=h.2 h0;omega),cond_false]
        · rw [decide_eq_false h2,cond_false,decide_eq_true (show ¬ w64 ((l.get i).High - (l.get i).Low) > 60∧(0 < i→(l.get (i - 1)).Z < (l.get i).Z) from ⟨h1,fun _=>by omega⟩),cond_true]
      · rw [decide_eq_false (show ¬ (i:Int) > 0 by omega),cond_false,decide_eq_true (show ¬ w64 ((l.get i).High - (l.get i).Low) > 60∧(0 < i→(l.get (i - 1)).Z < (l.get i).Z) from ⟨h1,fun h=>absurd h h0⟩),cond_true]
  have := zj1 (good := zOb l) (fin := s74 (l.len : Int) 2 8 && s64 l) (n := l.len) (lpS := ziQ l) (lpP := ziR l)
    (fun k i hi=>by
      show ziO l (ziQ l k) (i:Int)=_
      generalize ziQ l k=S
      unfold ziO
      rw [decide_eq_true (show (i:Int) < (l.len:Int) by omega),cond_true,Int.toNat_natCast]
      exact cc i hi _ _)
    (fun k=>by
      show ziO l (ziQ l k) (l.len:Int)=_
      unfold ziO
      rw [decide_eq_false (show ¬ (l.len:Int) < (l.len:Int) by omega),cond_false,zgA])
    (fun k i hi=>by
      show ziP l (ziR l k) (i:Int)=_
      generalize ziR l k=S
      unfold ziP
      rw [decide_eq_true (show (i:Int) < (l.len:Int) by omega),cond_true,Int.toNat_natCast,decide_eq_true (show 0≤(i:Int)∧(i:Int) < (l.len:Int) by omega),Bool.true_and,← cc i hi]
      by_cases h0:0 < i
      · rw [decide_eq_true (show (i:Int) > 0 by omega),cond_true,cond_true,zjw h0 (by omega),decide_eq_true (show 0≤((i - 1:Nat):Int)∧((i - 1:Nat):Int) < (l.len:Int) by omega),Bool.true_and]
      · rw [decide_eq_false (show ¬ (i:Int) > 0 by omega),cond_false,cond_false])
    (fun k=>by
      show ziP l (ziR l k) (l.len:Int)=_
      unfold ziP
      rw [decide_eq_false (show ¬ (l.len:Int) < (l.len:Int) by omega),cond_false,(zD0 l hn).1]
      cases s74 (l.len:Int) 2 8 <;> rfl)
    hn
  refine ⟨this.1,this.2.trans ?_⟩
  rw [Bool.and_eq_true,(zD0 l hn).2,zir,decide_eq_true_eq]
  constructor
  · rintro ⟨h1, h2, h3⟩
    have hg:∀ i,i < l.len→¬ w64 ((l.get i).High - (l.get i).Low) > 60∧(0 < i→(l.get (i - 1)).Z < (l.get i).Z):=fun i hi=>of_decide_eq_true (h1 i hi)
    refine ⟨h3.1,by omega,by omega,fun i hi=>?_,fun i hi=>?_⟩
    · obtain ⟨_, a, b, c⟩ := h3.1 i hi
      have:=(hg i hi).1
      rw [za8 (by omega) (by omega)] at this
      omega
    · have := (hg (i + 1) hi).2 (by omega)
      rw [Nat.add_sub_cancel] at this;exact this
  · intro H
    have h1:=H.lo;have h2:=H.hi
    refine ⟨fun i hi=>decide_eq_true ⟨?_,fun h0=>?_⟩,by omega,H.ok,by omega,by omega⟩
    · obtain ⟨_, a, b, c⟩ := H.ok i hi
      have:=H.wide i hi
      rw [za8 (by omega) (by omega)];omega
    · have := H.inc (i - 1) (by omega)
      rwa [Nat.sub_add_cancel h0] at this
def zsS (l : Sl Gate) : Nat → Sl Int
  | 0=>⟨0,fun _=>default⟩
  | n+1=>⟨n+1,zeD n (zsS l n).get (fun _=>(l.get n).Z)⟩
theorem zeJ (l : Sl Gate) : ∀ n, (zsS l n).len = n
  | 0=>rfl
  | _+1=>rfl
theorem zhE (l : Sl Gate) : ∀ n j, j < n → (zsS l n).get j = (l.get j).Z
  | 0,j,h=>by omega
  | n+1,j,h=>by
    show zeD n (zsS l n).get (fun _=>(l.get n).Z) j=_
    unfold zeD
    by_cases hj:j < n
    · rw [show Nat.ble n j = false from by cases e : Nat.ble n j with | true => have := Nat.le_of_ble_eq_true e; omega | false => rfl]
      exact zhE l n j hj
    · have : j = n := by omega
      subst this
      rw [show Nat.ble j j=true from by simp]
theorem zLK (l:Sl Gate) (hn:l.len≤1048576):p61 l=true∧s61 l=zsS l l.len:=by
 have key:∀ (m k i:Nat),i+m=l.len→m < k→zlW l k (i:Int) (zsS l i)=true∧zlV l k (i:Int) (zsS l i)=zsS l l.len:=by
  intro m
  induction m with
  | zero =>
   intro k i hi hk
   obtain ⟨k,rfl⟩:∃ k',k=k'+1:=⟨k - 1,by omega⟩
   have:i=l.len:=by omega
   subst this
   show zjt l (zlW l k) (l.len:Int) (zsS l l.len)=true∧zjs l (zlV l k) (l.len:Int) (zsS l l.len)=_
   unfold zjt zjs
   rw [decide_eq_false (show ¬ (l.len:Int) < (l.len:Int) by omega),cond_false,cond_false]
   exact ⟨rfl,rfl⟩
  | succ m ih =>
   intro k i hi hk
   obtain ⟨k,rfl⟩:∃ k',k=k'+1:=⟨k - 1,by omega⟩
   show zjt l (zlW l k) (i:Int) (zsS l i)=true∧zjs l (zlV l k) (i:Int) (zsS l i)=_
   unfold zjt zjs
   rw [decide_eq_true (show (i:Int) < (l.len:Int) by omega),cond_true,cond_true,zeJ,decide_eq_true (show 0≤(i:Int)∧(i:Int) < (l.len:Int) by omega),decide_eq_true (show (i+1) * 8≤140737488355328∧i+1≤9223372036854775807 by omega),Bool.true_and,Bool.true_and,Int.toNat_natCast,zcL (n:=l.len) (by omega) (by omega)]
   exact ih k (i+1) (by omega) (by omega)
 exact key l.len Fuel 0 (by omega) (by simp only [Fuel];omega)
instance (g:Gate):Decidable (zeY g):=by unfold zeY;exact inferInstance
def zLL (l:Sl Gate) (i:Nat):Bool:=decide (zeY (l.get i)∧(l.get i).High - (l.get i).Low≤60)
theorem zLM (l:Sl Gate) (hn:l.len≤17592186044416):p57 l=true∧(s57 l=true↔BG l):=by
 have wz:∀ n,n≤l.len→(∀ i,i < n→zeY (l.get i))→wf_39 (zsS l n):=fun n hl h=>by
  refine ⟨by rw [zeJ];omega,fun i hi=>?_⟩
  rw [zeJ] at hi
  rw [zhE l n i hi]
  have:=(h i hi).1
  show wfI _
  unfold wfI
  omega
 have cc:∀ {α:Type} (i:Nat) (a b:α),(cond (!(s49 (l.get i))) b (cond (decide ((w64 ((l.get i).High - (l.get i).Low)) > (60:Int))) b a))=cond (zLL l i) a b:=by
  intro α i a b
  unfold zLL
  by_cases h1:zeY (l.get i)
  ·rw [(zDZ _).2 h1, Bool.not_true, cond_false]
   have h1':=h1
   obtain ⟨_,x,y,z⟩:=h1'
   rw [za8 (by omega) (by omega)]
   by_cases h2:(l.get i).High - (l.get i).Low≤60
   ·rw [decide_eq_false (by omega),cond_false,decide_eq_true (show zeY (l.get i)∧(l.get i).High - (l.get i).Low≤60 from ⟨h1,h2⟩),cond_true]
   ·rw [decide_eq_true (by omega),cond_true,decide_eq_false (fun h=>h2 h.2),cond_false]
  ·rw [show s49 (l.get i)=false from by cases h:s49 (l.get i) with | true=>exact absurd ((zDZ _).1 h) h1 | false=>rfl,Bool.not_false,cond_true,decide_eq_false (fun h=>h1 h.1),cond_false]
 have key:∀ (m k i:Nat),i+m=l.len→m < k→(∀ j,j < i→zLL l j=true)→zjr l k (i:Int) (zsS l i)=true∧(zjq l k (i:Int) (zsS l i)=true↔(∀ j,j < l.len→zLL l j=true)∧HOK (zsS l l.len)):=by
  intro m
  induction m with
  | zero =>
   intro k i hi hk hg
   obtain ⟨k,rfl⟩:∃ k',k=k'+1:=⟨k - 1,by omega⟩
   have:i=l.len:=by omega
   subst this
   show zjo l (zjr l k) (l.len:Int) (zsS l l.len)=true∧(zjn l (zjq l k) (l.len:Int) (zsS l l.len)=true↔_)
   obtain ⟨h1,h2⟩:=zLG (zsS l l.len) (wz _ (Nat.le_refl _) fun i hi=>(of_decide_eq_true (hg i hi)).1)
   unfold zjo zjn
   rw [decide_eq_false (show ¬ (l.len:Int) < (l.len:Int) by omega),cond_false,cond_false,h1,h2]
   exact ⟨rfl,fun h=>⟨hg,h⟩,fun h=>h.2⟩
  | succ m ih =>
   intro k i hi hk hg
   obtain ⟨k,rfl⟩:∃ k',k=k'+1:=⟨k - 1,by omega⟩
   show zjo l (zjr l k) (i:Int) (zsS l i)=true∧(zjn l (zjq l k) (i:Int) (zsS l i)=true↔_)
   unfold zjo zjn zoD zoC
   rw [decide_eq_true (show (i:Int) < (l.len:Int) by omega),cond_true,cond_true,zeJ,decide_eq_true (show 0≤(i:Int)∧(i:Int) < (l.len:Int) by omega),decide_eq_true (show (i+1) * 8≤140737488355328∧i+1≤9223372036854775807 by omega),Bool.true_and,Bool.true_and,Bool.true_and,Bool.true_and,Bool.true_and,Int.toNat_natCast,zcL (n:=l.len) (by omega) (by omega)]
   have ih:=ih k (i+1) (by omega) (by omega)
   have ez:(⟨(i+1),(zeD i (zsS l i).get (fun _=>(l.get i).Z))⟩:Sl Int)=zsS l (i+1):=rfl
   rw [ez,cond_true,cond_true]
   generalize zjr l k ((i+1:Nat):Int) (zsS l (i+1))=PP at ih ⊢
   generalize zjq l k ((i+1:Nat):Int) (zsS l (i+1))=SS at ih ⊢
   have e1:=cc i PP true
   have e2:=cc i SS false
   rw [e1,e2]
   cases hgi:zLL l i with
   | true =>
    rw [cond_true,cond_true]
    refine ih fun j hj=>?_
    by_cases e:j=i
    ·rw [e];exact hgi
    ·exact hg j (by omega)
   | false =>
    rw [cond_false,cond_false]
    exact ⟨rfl,fun h=>absurd h Bool.false_ne_true,fun h=>by rw [h.1 i (by omega)] at hgi;cases hgi⟩
 obtain ⟨h1,h2⟩:=key l.len Fuel 0 (by omega) (by simp only [Fuel];omega) (fun j hj=>absurd hj (by omega))
 refine ⟨h1,h2.trans ?_⟩
 constructor
 ·rintro ⟨hg, hh⟩
  have hg:∀ i,i < l.len→zeY (l.get i)∧(l.get i).High - (l.get i).Low≤60:=fun i hi=>of_decide_eq_true (hg i hi)
  have hl:=hh.2
  rw [zeJ] at hl
  refine ⟨fun i hi=>(hg i hi).1,hl.1,hl.2,fun i hi=>(hg i hi).2,fun i hi=>?_⟩
  have:=(of_decide_eq_true (hh.1 (i+1) (by rw [zeJ];exact hi))).2 (by omega)
  rw [Nat.add_sub_cancel,zhE l _ i (by omega),zhE l _ (i+1) hi] at this
  exact this
 ·intro H
  refine ⟨fun i hi=>decide_eq_true ⟨H.ok i hi,H.wide i hi⟩,fun i hi=>?_,by rw [zeJ];exact H.lo,by rw [zeJ];exact H.hi⟩
  rw [zeJ] at hi
  unfold inc
  rw [zhE l _ i hi]
  refine decide_eq_true ⟨(H.ok i hi).1,fun h0=>?_⟩
  rw [zhE l _ (i - 1) (by omega)]
  have:=H.inc (i - 1) (by omega)
  rwa [Nat.sub_add_cancel h0] at this
end Go.Proofs
namespace Go.Proofs
open Go Go.Pm
set_option maxRecDepth 100000
def tvl (l:Sl Gate) (i:Nat) (p q r:Int):Int:=s85 (l.get i).Z (l.get (i+1)).Z (l.get (i+2)).Z p q r
def mxl (l:Sl Gate) (i:Nat) (T:List Int→Option (List Int)) (p q r:Int):Int:=if zdg (T [q,r]) 0 > tvl l i p q r then zdg (T [q,r]) 0 else tvl l i p q r
def zoX (l:Sl Gate) (i:Nat) (T:List Int→Option (List Int)) (p q:Int):Int :=
 if i+2=l.len then 0 else mnL ((zjT (l.get (i+2)).Low (l.get (i+2)).High).map (mxl l i T p q))
def zD6 (l:Sl Gate) (i:Nat) (T:List Int→Option (List Int)) (p:Int) (a:MpT):MpT :=
 (zjT (l.get (i+1)).Low (l.get (i+1)).High).foldl (fun a q=>zA1 [zoX l i T p q] [p,q] a) a
def zqB (l:Sl Gate) (i:Nat) (T:List Int→Option (List Int)):MpT :=
 (zjT (l.get i).Low (l.get i).High).foldl (fun a p=>zD6 l i T p a) mp0
def tbS (l : Sl Gate) : Nat → Nat → MpT
  | 0,i=>zqB l i (fun _=>none)
  | d+1,i=>zqB l i (tbS l d (i+1)).2
def tbl (l:Sl Gate) (i:Nat):MpT:=tbS l (l.len - 2 - i) i
theorem zqC {α:Type} (i:Nat) (x y:α) (f:Nat→α):zba i x (zba i y f)=zba i x f:=by
 funext j;unfold zba;cases Nat.beq j i <;> rfl
theorem zeZ {α:Type} (i:Nat) (x:α) (f:Nat→α):zba i x f i=x:=by
 unfold zba;rw [show Nat.beq i i=true from by simp]
theorem zhF {α:Type} {i j:Nat} (h:j ≠ i) (x:α) (f:Nat→α):zba i x f j=f j:=by
 unfold zba;rw [show Nat.beq j i=false from by cases e:Nat.beq j i with | true=>exact absurd (Nat.eq_of_beq_eq_true e) h | false=>rfl]
section
variable {l:Sl Gate} (H:BG l)
include H
theorem zdK (i:Nat) (hi:i < l.len) : -1000000≤(l.get i).Low∧(l.get i).High≤1000000∧(l.get i).Low≤(l.get i).High∧0≤(l.get i).Z∧(l.get i).Z≤100000:=by
 obtain ⟨⟨a,b⟩,c,d,e⟩:=H.ok i hi
 exact ⟨c,e,d,a,b⟩
theorem zAQ (i:Nat) (hi:i+2 < l.len) (p q r:Int):p85 (l.get i).Z (l.get (i+1)).Z (l.get (i+2)).Z p q r=true :=
 zD1 (zdK H i (by omega)).2.2.2.1 (H.inc i (by omega)) (H.inc (i+1) hi) (zdK H (i+2) hi).2.2.2.2
theorem r93 (i : Nat) (hi : i + 2 < l.len) (p q : Int) (n : Nat) (hn : n + 1 = l.len) (mk : Nat → Bool) (nn : Nat → Nat) (F : Nat → List Int → Option (List Int)) (hmk : mk i = true) (hmk1 : mk (i + 1) = true)
    (S0:Int→Nat→(Nat→Bool)→(Nat→Nat)→(Nat→List Int→Option (List Int))→(Sl Mp)) (S1:Int→Int→Nat→(Nat→Bool)→(Nat→Nat)→(Nat→List Int→Option (List Int))→(Sl Mp)) (S2:Int→Int→Int→Nat→(Nat→Bool)→(Nat→Nat)→(Nat→List Int→Option (List Int))→(Sl Mp))
    (P0:Int→Nat→(Nat→Bool)→(Nat→Nat)→(Nat→List Int→Option (List Int))→Bool) (P1:Int→Int→Nat→(Nat→Bool)→(Nat→Nat)→(Nat→List Int→Option (List Int))→Bool) (P2:Int→Int→Int→Nat→(Nat→Bool)→(Nat→Nat)→(Nat→List Int→Option (List Int))→Bool) :
    zrD P0 P1 P2 l q (i:Int) p (-1) (l.get (i+2)).Low n mk nn F=P2 (i:Int) p (w64 (q+1)) n mk (zba i (addN ((F i) [p,q]) (nn i)) nn) (zba i (ze0 [p,q] [zoX l i (F (i+1)) p q] (F i)) F) ∧
    zrC S0 S1 S2 l q (i:Int) p (-1) (l.get (i+2)).Low n mk nn F=S2 (i:Int) p (w64 (q+1)) n mk (zba i (addN ((F i) [p,q]) (nn i)) nn) (zba i (ze0 [p,q] [zoX l i (F (i+1)) p q] (F i)) F):=by
  have hl:=H.hi
  have e1:w64 ((i:Int)+(1:Int))=((i+1:Nat):Int):=zcL (n:=l.len) (by omega) (by omega)
  have e2:w64 ((i:Int)+(2:Int))=((i+2:Nat):Int):=by rw [za8 (by omega) (by omega)];omega
  obtain ⟨b1,b2,b3,_,_⟩:=zdK H (i+2) hi
  have mk5:∀ (S4:Int→Int→Int→Int→Nat→(Nat→Bool)→(Nat→Nat)→(Nat→List Int→Option (List Int))→(Sl Mp)) (best r kv:Int),znz S0 S1 S2 S4 l q (i:Int) p best r kv n mk nn F=S4 (i:Int) p (mnS best kv) (w64 (r+(1:Int))) n mk nn F:=by
    intro S4 best r kv
    unfold znz mnS
    by_cases h1:best < 0
    · rw [decide_eq_true h1,cond_true,if_pos h1]
    · rw [decide_eq_false h1, cond_false, if_neg h1]
      by_cases h2:kv < best
      · rw [decide_eq_true h2,cond_true,if_pos h2]
      · rw [decide_eq_false h2,cond_false,if_neg h2]
  have pk5:∀ (P4:Int→Int→Int→Int→Nat→(Nat→Bool)→(Nat→Nat)→(Nat→List Int→Option (List Int))→Bool) (best r kv:Int),znA P0 P1 P2 P4 l q (i:Int) p best r kv n mk nn F=P4 (i:Int) p (mnS best kv) (w64 (r+(1:Int))) n mk nn F:=by
    intro P4 best r kv
    unfold znA mnS
    by_cases h1:best < 0
    · rw [decide_eq_true h1,cond_true,if_pos h1]
    · rw [decide_eq_false h1, cond_false, if_neg h1]
      by_cases h2:kv < best
      · rw [decide_eq_true h2,cond_true,if_pos h2]
      · rw [decide_eq_false h2,cond_false,if_neg h2]
  have := zAO (σ := Int) (lo := (l.get (i + 2)).Low) (hi := (l.get (i + 2)).High) (step := fun r b => mnS b (mxl l i (F (i + 1)) p q r)) (Inv := fun _ => True)
    (E:=fun b=>S2 (i:Int) p (w64 (q+1)) n mk (zba i (addN ((F i) [p,q]) (nn i)) nn) (zba i (ze0 [p,q] [b] (F i)) F))
    (EP:=fun b=>P2 (i:Int) p (w64 (q+1)) n mk (zba i (addN ((F i) [p,q]) (nn i)) nn) (zba i (ze0 [p,q] [b] (F i)) F))
    (lpS:=fun k r b=>zg4 S0 S1 S2 l q k (i:Int) p b r n mk nn F) (lpP:=fun k r b=>zg5 P0 P1 P2 l q k (i:Int) p b r n mk nn F)
    (fun k r b _ hr _=>by
      show ziS S0 S1 S2 l q (zg4 S0 S1 S2 l q k) (i:Int) p b r n mk nn F=_
      generalize zg4 S0 S1 S2 l q k=S
      unfold ziS
      rw [mk5,e2,e1,Int.toNat_natCast,Int.toNat_natCast,Int.toNat_natCast,decide_eq_true hr,cond_true]
      rfl)
    (fun k r b _ hr _=>by
      show ziS S0 S1 S2 l q (zg4 S0 S1 S2 l q k) (i:Int) p b r n mk nn F=_
      generalize zg4 S0 S1 S2 l q k=S
      unfold ziS
      rw [e2,Int.toNat_natCast,Int.toNat_natCast,decide_eq_false (by omega),cond_false])
    (fun k r b _ hr _=>by
      show ziT P0 P1 P2 l q (zg5 P0 P1 P2 l q k) (i:Int) p b r n mk nn F=_
      generalize zg5 P0 P1 P2 l q k=S
      unfold ziT
      rw [pk5,e2,e1,Int.toNat_natCast,Int.toNat_natCast,Int.toNat_natCast,decide_eq_true hr,cond_true,zAQ H i hi,hmk1,
        decide_eq_true (show 0≤((i+2:Nat):Int)∧((i+2:Nat):Int) < (l.len:Int) by omega),decide_eq_true (show 0≤(i:Int)∧(i:Int) < (l.len:Int) by omega),decide_eq_true (show 0≤((i+1:Nat):Int)∧((i+1:Nat):Int) < (l.len:Int) by omega),
        decide_eq_true (show 0≤((i+1:Nat):Int)∧((i+1:Nat):Int) < (n:Int) by omega),decide_eq_true (show i+1 < n∧true=true from ⟨by omega,rfl⟩),decide_eq_true (show i+1 < n by omega)]
      simp only [decide_true,Bool.true_and]
      rfl)
    (fun k r b _ hr _=>by
      show ziT P0 P1 P2 l q (zg5 P0 P1 P2 l q k) (i:Int) p b r n mk nn F=_
      generalize zg5 P0 P1 P2 l q k=S
      unfold ziT
      rw [e2,Int.toNat_natCast,Int.toNat_natCast,decide_eq_false (show ¬ r≤(l.get (i+2)).High by omega),cond_false,hmk,
        decide_eq_true (show 0≤((i+2:Nat):Int)∧((i+2:Nat):Int) < (l.len:Int) by omega),decide_eq_true (show 0≤(i:Int)∧(i:Int) < (n:Int) by omega),decide_eq_true (show i < n∧true=true from ⟨by omega,rfl⟩),decide_eq_true (show i < n by omega)]
      simp only [Bool.true_and])
    (fun _ _ _ _ _=>trivial) (by omega) (by omega) (by omega) (-1) trivial
  have ev:zoX l i (F (i+1)) p q=(zjT (l.get (i+2)).Low (l.get (i+2)).High).foldl (fun b r=>mnS b (mxl l i (F (i+1)) p q r)) (-1):=by
    unfold zoX mnL
    rw [if_neg (by omega),List.foldl_map]
  rw [ev]
  exact ⟨this.1,this.2.1⟩
theorem zOY (i : Nat) (hi : i + 1 < l.len) (p : Int) (n : Nat) (hn : n + 1 = l.len) (mk : Nat → Bool) (nn : Nat → Nat) (F : Nat → List Int → Option (List Int)) (hmk : mk i = true) (hmk1 : i + 2 < l.len → mk (i + 1) = true) (a : MpT)
    (S0:Int→Nat→(Nat→Bool)→(Nat→Nat)→(Nat→List Int→Option (List Int))→(Sl Mp)) (S1:Int→Int→Nat→(Nat→Bool)→(Nat→Nat)→(Nat→List Int→Option (List Int))→(Sl Mp)) (P0:Int→Nat→(Nat→Bool)→(Nat→Nat)→(Nat→List Int→Option (List Int))→Bool) (P1:Int→Int→Nat→(Nat→Bool)→(Nat→Nat)→(Nat→List Int→Option (List Int))→Bool) :
    zrH P0 P1 l (i:Int) p (l.get (i+1)).Low n mk (zba i a.1 nn) (zba i a.2 F)=P1 (i:Int) (w64 (p+1)) n mk (zba i (zD6 l i (F (i+1)) p a).1 nn) (zba i (zD6 l i (F (i+1)) p a).2 F) ∧
    zrG S0 S1 l (i:Int) p (l.get (i+1)).Low n mk (zba i a.1 nn) (zba i a.2 F)=S1 (i:Int) (w64 (p+1)) n mk (zba i (zD6 l i (F (i+1)) p a).1 nn) (zba i (zD6 l i (F (i+1)) p a).2 F):=by
  have hl:=H.hi
  have e1:w64 ((i:Int)+(1:Int))=((i+1:Nat):Int):=zcL (n:=l.len) (by omega) (by omega)
  have e2:w64 ((i:Int)+(2:Int))=((i+2:Nat):Int):=by rw [za8 (by omega) (by omega)];omega
  have em:w64 ((l.len:Int) - (2:Int))=((l.len - 2:Nat):Int):=by rw [za8 (by omega) (by omega)];omega
  obtain ⟨b1,b2,b3,_,_⟩:=zdK H (i+1) hi
  have ins:∀ (b:MpT) (v q:Int),zba i (addN ((zba i b.2 F) i [p,q]) ((zba i b.1 nn) i)) (zba i b.1 nn)=zba i (zA1 [v] [p,q] b).1 nn∧zba i (ze0 [p,q] [v] ((zba i b.2 F) i)) (zba i b.2 F)=zba i (zA1 [v] [p,q] b).2 F:=by
    intro b v q
    rw [zeZ,zeZ,zqC,zqC]
    exact ⟨rfl,rfl⟩
  have := zAO (σ := MpT) (lo := (l.get (i + 1)).Low) (hi := (l.get (i + 1)).High) (step := fun q a => zA1 [zoX l i (F (i + 1)) p q] [p, q] a) (Inv := fun _ => True)
    (E:=fun a=>S1 (i:Int) (w64 (p+1)) n mk (zba i a.1 nn) (zba i a.2 F)) (EP:=fun a=>P1 (i:Int) (w64 (p+1)) n mk (zba i a.1 nn) (zba i a.2 F))
    (lpS:=fun k q a=>zg6 S0 S1 l k (i:Int) p q n mk (zba i a.1 nn) (zba i a.2 F)) (lpP:=fun k q a=>zg7 P0 P1 l k (i:Int) p q n mk (zba i a.1 nn) (zba i a.2 F))
    (fun k q b _ hr _=>by
      show ziU S0 S1 l (zg6 S0 S1 l k) (i:Int) p q n mk (zba i b.1 nn) (zba i b.2 F)=_
      generalize zg6 S0 S1 l k=S
      unfold ziU zrE
      rw [e1,e2,em,Int.toNat_natCast,Int.toNat_natCast,Int.toNat_natCast,decide_eq_true hr,cond_true]
      by_cases h:i+2=l.len
      · rw [show ((i : Int) == ((l.len - 2 : Nat) : Int)) = true from by simp; omega, cond_true, (ins b 0 q).1, (ins b 0 q).2]
        unfold zoX
        rw [if_pos h]
      · rw [show ((i : Int) == ((l.len - 2 : Nat) : Int)) = false from by simp; omega, cond_false]
        rw [(r93 H i (by omega) p q n hn mk _ _ hmk (hmk1 (by omega)) S0 S1 S P0 P1 (fun _ _ _ _ _ _ _=>true)).2,zhF (show i+1 ≠ i by omega),(ins b _ q).1,(ins b _ q).2])
    (fun k q b _ hr _=>by
      show ziU S0 S1 l (zg6 S0 S1 l k) (i:Int) p q n mk (zba i b.1 nn) (zba i b.2 F)=_
      generalize zg6 S0 S1 l k=S
      unfold ziU
      rw [e1,Int.toNat_natCast,decide_eq_false (show ¬ q≤(l.get (i+1)).High by omega),cond_false])
    (fun k q b _ hr _=>by
      show ziV P0 P1 l (zg7 P0 P1 l k) (i:Int) p q n mk (zba i b.1 nn) (zba i b.2 F)=_
      generalize zg7 P0 P1 l k=S
      unfold ziV zrF
      rw [e1,e2,em,Int.toNat_natCast,Int.toNat_natCast,Int.toNat_natCast,decide_eq_true hr,cond_true,hmk,decide_eq_true (show 0≤((i+1:Nat):Int)∧((i+1:Nat):Int) < (l.len:Int) by omega),Bool.true_and]
      by_cases h:i+2=l.len
      · rw [show ((i : Int) == ((l.len - 2 : Nat) : Int)) = true from by simp; omega, cond_true, (ins b 0 q).1, (ins b 0 q).2, decide_eq_true (show 0 ≤ (i : Int) ∧ (i : Int) < (n : Int) by omega), decide_eq_true (show i < n ∧ true = true from ⟨by omega, rfl⟩), decide_eq_true (show i < n by omega), Bool.true_and, Bool.true_and, Bool.true_and]
        unfold zoX
        rw [if_pos h]
      · rw [show ((i : Int) == ((l.len - 2 : Nat) : Int)) = false from by simp; omega, cond_false, decide_eq_true (show 0 ≤ ((i + 2 : Nat) : Int) ∧ ((i + 2 : Nat) : Int) < (l.len : Int) by omega), Bool.true_and]
        rw [(r93 H i (by omega) p q n hn mk _ _ hmk (hmk1 (by omega)) S0 S1 (fun _ _ _ _ _ _ _=>default) P0 P1 S).1,zhF (show i+1 ≠ i by omega),(ins b _ q).1,(ins b _ q).2])
    (fun k q b _ hr _=>by
      show ziV P0 P1 l (zg7 P0 P1 l k) (i:Int) p q n mk (zba i b.1 nn) (zba i b.2 F)=_
      generalize zg7 P0 P1 l k=S
      unfold ziV
      rw [e1,Int.toNat_natCast,decide_eq_false (show ¬ q≤(l.get (i+1)).High by omega),cond_false,decide_eq_true (show 0≤((i+1:Nat):Int)∧((i+1:Nat):Int) < (l.len:Int) by omega),Bool.true_and])
    (fun _ _ _ _ _=>trivial) (by omega) (by omega) (by omega) a trivial
  exact ⟨this.1,this.2.1⟩
theorem zQy (i : Nat) (hi : i + 1 < l.len) (n : Nat) (hn : n + 1 = l.len) (mk : Nat → Bool) (nn : Nat → Nat) (F : Nat → List Int → Option (List Int)) (hmk : mk i = true) (hmk1 : i + 2 < l.len → mk (i + 1) = true)
    (S0:Int→Nat→(Nat→Bool)→(Nat→Nat)→(Nat→List Int→Option (List Int))→(Sl Mp)) (P0:Int→Nat→(Nat→Bool)→(Nat→Nat)→(Nat→List Int→Option (List Int))→Bool) :
    znC P0 l (i:Int) (l.get i).Low n mk (zba i mp0.1 nn) (zba i mp0.2 F)=P0 (w64 ((i:Int) - 1)) n mk (zba i (zqB l i (F (i+1))).1 nn) (zba i (zqB l i (F (i+1))).2 F) ∧
    znB S0 l (i:Int) (l.get i).Low n mk (zba i mp0.1 nn) (zba i mp0.2 F)=S0 (w64 ((i:Int) - 1)) n mk (zba i (zqB l i (F (i+1))).1 nn) (zba i (zqB l i (F (i+1))).2 F):=by
  have hl:=H.hi
  have e1:w64 ((i:Int)+(1:Int))=((i+1:Nat):Int):=zcL (n:=l.len) (by omega) (by omega)
  obtain ⟨b1,b2,b3,_,_⟩:=zdK H i (by omega)
  have := zAO (σ := MpT) (lo := (l.get i).Low) (hi := (l.get i).High) (step := fun p a => zD6 l i (F (i + 1)) p a) (Inv := fun _ => True)
    (E:=fun a=>S0 (w64 ((i:Int) - 1)) n mk (zba i a.1 nn) (zba i a.2 F)) (EP:=fun a=>P0 (w64 ((i:Int) - 1)) n mk (zba i a.1 nn) (zba i a.2 F))
    (lpS:=fun k p a=>zg8 S0 l k (i:Int) p n mk (zba i a.1 nn) (zba i a.2 F)) (lpP:=fun k p a=>zg9 P0 l k (i:Int) p n mk (zba i a.1 nn) (zba i a.2 F))
    (fun k p b _ hr _=>by
      show ziW S0 l (zg8 S0 l k) (i:Int) p n mk (zba i b.1 nn) (zba i b.2 F)=_
      generalize zg8 S0 l k=S
      unfold ziW
      rw [e1,Int.toNat_natCast,Int.toNat_natCast,decide_eq_true hr,cond_true]
      exact (zOY H i hi p n hn mk nn F hmk hmk1 b S0 S P0 (fun _ _ _ _ _ _=>true)).2)
    (fun k p b _ hr _=>by
      show ziW S0 l (zg8 S0 l k) (i:Int) p n mk (zba i b.1 nn) (zba i b.2 F)=_
      generalize zg8 S0 l k=S
      unfold ziW
      rw [Int.toNat_natCast,decide_eq_false (show ¬ p≤(l.get i).High by omega),cond_false])
    (fun k p b _ hr _=>by
      show ziX P0 l (zg9 P0 l k) (i:Int) p n mk (zba i b.1 nn) (zba i b.2 F)=_
      generalize zg9 P0 l k=S
      unfold ziX
      rw [e1,Int.toNat_natCast,Int.toNat_natCast,decide_eq_true hr,cond_true,decide_eq_true (show 0≤(i:Int)∧(i:Int) < (l.len:Int) by omega),decide_eq_true (show 0≤((i+1:Nat):Int)∧((i+1:Nat):Int) < (l.len:Int) by omega),Bool.true_and,Bool.true_and]
      exact (zOY H i hi p n hn mk nn F hmk hmk1 b S0 (fun _ _ _ _ _ _=>default) P0 S).1)
    (fun k p b _ hr _=>by
      show ziX P0 l (zg9 P0 l k) (i:Int) p n mk (zba i b.1 nn) (zba i b.2 F)=_
      generalize zg9 P0 l k=S
      unfold ziX
      rw [Int.toNat_natCast,decide_eq_false (show ¬ p≤(l.get i).High by omega),cond_false,decide_eq_true (show 0≤(i:Int)∧(i:Int) < (l.len:Int) by omega),Bool.true_and])
    (fun _ _ _ _ _=>trivial) (by omega) (by omega) (by omega) mp0 trivial
  exact ⟨this.1,this.2.1⟩
end
section
variable {l:Sl Gate} (H:BG l)
theorem zuH (i:Nat) (hi:i+1 < l.len):(∀ T,i+2=l.len→tbl l i=zqB l i T)∧(i+2 < l.len→tbl l i=zqB l i (tbl l (i+1)).2):=by
 constructor
 ·intro T h
  unfold tbl
  rw [show l.len - 2 - i=0 by omega]
  have ev:∀ T T' p q,zoX l i T p q=zoX l i T' p q:=fun T T' p q=>by unfold zoX;rw [if_pos h,if_pos h]
  show zqB l i _=zqB l i T
  unfold zqB zD6
  simp only [ev _ T]
 ·intro h
  unfold tbl
  rw [show l.len - 2 - i=(l.len - 2 - (i+1))+1 by omega]
  rfl
end
section
variable {l:Sl Gate} (H:BG l)
include H
theorem zjL:p93 l=true∧(s93 l).len=l.len - 1∧∀ j,j+1 < l.len→((s93 l).get j).n=(tbl l j).1∧((s93 l).get j).F=(tbl l j).2:=by
 have hl:=H.hi;have hlo:=H.lo
 have key:∀ (i k n:Nat) (mk:Nat→Bool) (nn:Nat→Nat) (F:Nat→List Int→Option (List Int)),n+1=l.len→i < l.len→i < k→(∀ j,i≤j→j+1 < l.len→mk j=true∧nn j=(tbl l j).1∧F j=(tbl l j).2)→(∀ j,j < i→mk j=false) →
   zfi l k ((i:Int) - 1) n mk nn F=true∧(zel l k ((i:Int) - 1) n mk nn F).len=n∧∀ j,j+1 < l.len→((zel l k ((i:Int) - 1) n mk nn F).get j).n=(tbl l j).1∧((zel l k ((i:Int) - 1) n mk nn F).get j).F=(tbl l j).2:=by
  intro i
  induction i with
  | zero =>
   intro k n mk nn F hn _ hk h1 h2
   obtain ⟨k,rfl⟩:∃ k',k=k'+1:=⟨k - 1,by omega⟩
   have ep:zfi l (k+1) (((0:Nat):Int) - 1) n mk nn F=ziZ l (zfi l k) (((0:Nat):Int) - 1) n mk nn F:=rfl
   have es:zel l (k+1) (((0:Nat):Int) - 1) n mk nn F=ziY l (zel l k) (((0:Nat):Int) - 1) n mk nn F:=rfl
   rw [ep,es]
   unfold ziZ ziY
   rw [decide_eq_false (show ¬ (((0:Nat):Int) - 1 ≥ 0) by omega),cond_false,cond_false]
   exact ⟨rfl,rfl,fun j hj=>(h1 j (Nat.zero_le _) hj).2⟩
  | succ i ih =>
   intro k n mk nn F hn hil hk h1 h2
   obtain ⟨k,rfl⟩:∃ k',k=k'+1:=⟨k - 1,by omega⟩
   rw [show (((i+1:Nat):Int) - 1)=(i:Int) by omega]
   have ep:zfi l (k+1) (i:Int) n mk nn F=ziZ l (zfi l k) (i:Int) n mk nn F:=rfl
   have es:zel l (k+1) (i:Int) n mk nn F=ziY l (zel l k) (i:Int) n mk nn F:=rfl
   rw [ep,es]
   unfold ziZ ziY
   rw [decide_eq_true (show (i:Int) ≥ 0 by omega),cond_true,cond_true,Int.toNat_natCast,h2 i (by omega),decide_eq_true (show 0≤(i:Int)∧(i:Int) < (n:Int) by omega),decide_eq_true (show i < n∧false=false from ⟨by omega,rfl⟩),decide_eq_true (show 0≤(i:Int)∧(i:Int) < (l.len:Int) by omega),Bool.true_and,Bool.true_and,Bool.true_and]
   obtain ⟨r1,r2⟩:=zQy H i hil n hn (zba i true mk) nn F (zeZ i true mk) (fun h=>by rw [zhF (by omega)];exact (h1 (i+1) (Nat.le_refl _) (by omega)).1) (zel l k) (zfi l k)
   have r1:znC (zfi l k) l (i:Int) (l.get i).Low n (zba i true mk) (zba i 0 nn) (zba i (fun _=>none) F)=_:=r1
   have r2:znB (zel l k) l (i:Int) (l.get i).Low n (zba i true mk) (zba i 0 nn) (zba i (fun _=>none) F)=_:=r2
   have et:zqB l i (F (i+1))=tbl l i:=by
    by_cases h:i+2=l.len
    ·exact ((zuH i hil).1 _ h).symm
    ·rw [(h1 (i+1) (Nat.le_refl _) (by omega)).2.2];exact ((zuH i hil).2 (by omega)).symm
   rw [r1,r2,et,show w64 ((i:Int) - 1)=(i:Int) - 1 from za8 (by omega) (by omega)]
   refine ih k n _ _ _ hn (by omega) (by omega) (fun j hj hjl=>?_) (fun j hj=>?_)
   ·by_cases e : j = i
    ·subst e;exact ⟨zeZ _ _ _,zeZ _ _ _,zeZ _ _ _⟩
    ·rw [zhF e,zhF e,zhF e];exact h1 j (by omega) hjl
   ·rw [zhF (by omega)];exact h2 j (by omega)
 have e1:w64 ((l.len:Int) - (1:Int))=((l.len - 1:Nat):Int):=by rw [za8 (by omega) (by omega)];omega
 have e2:w64 ((l.len:Int) - (2:Int))=((l.len - 1:Nat):Int) - 1:=by rw [za8 (by omega) (by omega)];omega
 have:=key (l.len - 1) Fuel (l.len - 1) (fun _=>false) (fun _=>0) (fun _ _=>none) (by omega) (by omega) (by simp only [Fuel];omega) (fun j h1 h2=>by omega) (fun _ _=>rfl)
 unfold p93 s93 zrJ zrI
 rw [e1,e2,Int.toNat_natCast,decide_eq_true (show 0≤((l.len - 1:Nat):Int)∧((l.len - 1:Nat):Int)=((l.len - 1:Nat):Int)∧((l.len - 1:Nat):Int)≤1000000 by omega),Bool.true_and]
 exact this
end
end Go.Proofs
namespace Go.Proofs
open Go Go.Pm
set_option maxRecDepth 100000
def zmS (a b:Gate):List (List Int):=(zjT a.Low a.High).flatMap fun p=>(zjT b.Low b.High).map fun q=>[p,q]
theorem zd8 {a b:Gate} {c:List Int} : c∈zmS a b↔∃ p q,c=[p,q]∧(a.Low≤p∧p≤a.High)∧b.Low≤q∧q≤b.High:=by
 unfold zmS
 simp only [List.mem_flatMap,List.mem_map,zc8]
 exact ⟨fun ⟨p,hp,q,hq,e⟩=>⟨p,q,e.symm,hp,hq⟩,fun ⟨p,q,e,hp,hq⟩=>⟨p,hp,q,hq,e.symm⟩⟩
theorem zgj {a b:Gate} {p q:Int} : [p,q]∈zmS a b↔(a.Low≤p∧p≤a.High)∧b.Low≤q∧q≤b.High:=by
 rw [zd8]
 exact ⟨fun ⟨p',q',e,h⟩=>by simp only [List.cons.injEq,and_true] at e;rw [e.1,e.2];exact h,fun h=>⟨p,q,rfl,h⟩⟩
theorem zqD {α β : Type} {f : α → β} (hf : ∀ x y, f x = f y → x = y) : ∀ {l : List α}, l.Nodup → (l.map f).Nodup
  | [],_=>List.nodup_nil
  | x :: l,h=>by
    rw [List.map_cons]
    rw [List.nodup_cons] at h ⊢
    refine ⟨fun hm=>?_,zqD hf h.2⟩
    obtain ⟨y,hy,e⟩:=List.mem_map.1 hm
    exact h.1 (by rw [← hf y x e];exact hy)
theorem zgB (a b:Gate):(zmS a b).Nodup:=by
 unfold zmS List.Nodup
 rw [List.pairwise_flatMap]
 refine ⟨fun p _=>zqD (fun x y e=>by simpa using e) zmR,?_⟩
 refine List.Pairwise.imp ?_ zmR
 intro p p' hne x hx y hy e
 obtain ⟨q,_,rfl⟩:=List.mem_map.1 hx
 obtain ⟨q',_,e2⟩:=List.mem_map.1 hy
 rw [← e2] at e
 simp only [List.cons.injEq] at e
 exact hne e.1
theorem zAR (l:Sl Gate) (i:Nat) (T:List Int→Option (List Int)):zqB l i T=(zmS (l.get i) (l.get (i+1))).foldl (fun a c=>zA1 [zoX l i T (c.getD 0 0) (c.getD 1 0)] c a) mp0:=by
 unfold zqB zD6 zmS
 rw [List.foldl_flatMap]
 congr 1
 funext a p
 rw [List.foldl_map]
 rfl
theorem zis (l:Sl Gate) (i:Nat) (T:List Int→Option (List Int)) (c:List Int):(zqB l i T).2 c=if c∈zmS (l.get i) (l.get (i+1)) then some [zoX l i T (c.getD 0 0) (c.getD 1 0)] else none:=by
 rw [zAR,zoV (fun c=>[zoX l i T (c.getD 0 0) (c.getD 1 0)])]
 rfl
theorem zLN (l:Sl Gate) (i:Nat) (T:List Int→Option (List Int)):(zqB l i T).1=(zmS (l.get i) (l.get (i+1))).length:=by
 refine zAP ?_ (zgB _ _) fun x=>?_
 ·rw [zAR];exact zoW (fun c=>[zoX l i T (c.getD 0 0) (c.getD 1 0)]) _ _ zOa
 ·rw [zis];split <;> simp [*]
theorem zLO (l:Sl Gate) (i:Nat):(tbl l i).1=(zmS (l.get i) (l.get (i+1))).length:=by
 unfold tbl
 cases l.len - 2 - i <;> exact zLN _ _ _
theorem zuI (l:Sl Gate) (i:Nat) (c:List Int):(tbl l i).2 c ≠ none↔c∈zmS (l.get i) (l.get (i+1)):=by
  unfold tbl
  cases l.len - 2 - i
  all_goals
    show (zqB l i _).2 c ≠ none↔_
    rw [zis];split <;> simp [*]
def Lk (l:Sl Gate) (i:Nat) (p q:Int):Int:=zdg ((tbl l i).2 [p,q]) 0
def inG (g:Gate) (p:Int):Prop:=g.Low≤p∧p≤g.High
theorem zOc {x y X Y:Int} (h1 : -X≤x) (h2:x≤X) (h3:0≤y) (h4:y≤Y) : -(X * Y)≤x * y∧x * y≤X * Y:=by
 have hX:0≤X:=by omega
 have a1:=Int.mul_le_mul_of_nonneg_right h2 h3
 have a2:=Int.mul_le_mul_of_nonneg_left h4 hX
 have a3:=Int.mul_le_mul_of_nonneg_right h1 h3
 rw [Int.neg_mul] at a3
 omega
theorem zLP {u v w p q r : Int} (hu : 0 ≤ u) (huv : u < v) (hvw : v < w) (hw : w ≤ 100000) (hp : -1000000 ≤ p ∧ p ≤ 1000000) (hq : -1000000 ≤ q ∧ q ≤ 1000000) (hr : -1000000 ≤ r ∧ r ≤ 1000000) :
  s85 u v w p q r=(1000 * (if -((r - q) * (v - u) - (q - p) * (w - v)) > (r - q) * (v - u) - (q - p) * (w - v) then -((r - q) * (v - u) - (q - p) * (w - v)) else (r - q) * (v - u) - (q - p) * (w - v))+(v - u) * (w - v) - 1) / ((v - u) * (w - v))∧0 < (v - u) * (w - v):=by
 have b1:=zOc (x:=r - q) (y:=v - u) (X:=2000000) (Y:=100000) (by omega) (by omega) (by omega) (by omega)
 have b2:=zOc (x:=q - p) (y:=w - v) (X:=2000000) (Y:=100000) (by omega) (by omega) (by omega) (by omega)
 have b3:=zOc (x:=v - u) (y:=w - v) (X:=100000) (Y:=100000) (by omega) (by omega) (by omega) (by omega)
 have b4:0 < (v - u) * (w - v):=Int.mul_pos (by omega) (by omega)
 unfold s85
 rw [za8 (x:=r - q) (by omega) (by omega),za8 (x:=v - u) (by omega) (by omega),za8 (x:=q - p) (by omega) (by omega),za8 (x:=w - v) (by omega) (by omega),
  za8 (x:=(r - q) * (v - u)) (by omega) (by omega),za8 (x:=(q - p) * (w - v)) (by omega) (by omega),za8 (x:=(v - u) * (w - v)) (by omega) (by omega)]
 generalize (r - q) * (v - u)=A at *
 generalize (q - p) * (w - v)=B at *
 generalize (v - u) * (w - v)=D at *
 rw [za8 (x:=A - B) (by omega) (by omega),za8 (x:=0 - (A - B)) (by omega) (by omega),show (0 - (A - B):Int) = -(A - B) by omega]
 have hm:0≤(if -(A - B) > A - B then -(A - B) else A - B)∧(if -(A - B) > A - B then -(A - B) else A - B)≤400000000000:=by split <;> omega
 generalize (if -(A - B) > A - B then -(A - B) else A - B)=M at *
 rw [za8 (x:=1000 * M) (by omega) (by omega),za8 (x:=1000 * M+D) (by omega) (by omega),za8 (x:=1000 * M+D - 1) (by omega) (by omega),Int.tdiv_eq_ediv_of_nonneg (by omega)]
 have d1:0≤(1000 * M+D - 1) / D:=Int.ediv_nonneg (by omega) (by omega)
 have d2:(1000 * M+D - 1) / D≤1000 * M+D - 1:=Int.ediv_le_self _ (by omega)
 rw [za8 (by omega) (by omega)]
 exact ⟨rfl,b4⟩
section
variable {l:Sl Gate} (H:BG l)
include H
theorem zLQ (i : Nat) (hi : i + 2 < l.len) (p q r : Int) (hp : inG (l.get i) p) (hq : inG (l.get (i + 1)) q) (hr : inG (l.get (i + 2)) r) :
  tvl l i p q r=(1000 * (if -((r - q) * ((l.get (i+1)).Z - (l.get i).Z) - (q - p) * ((l.get (i+2)).Z - (l.get (i+1)).Z)) > (r - q) * ((l.get (i+1)).Z - (l.get i).Z) - (q - p) * ((l.get (i+2)).Z - (l.get (i+1)).Z) then -((r - q) * ((l.get (i+1)).Z - (l.get i).Z) - (q - p) * ((l.get (i+2)).Z - (l.get (i+1)).Z)) else (r - q) * ((l.get (i+1)).Z - (l.get i).Z) - (q - p) * ((l.get (i+2)).Z - (l.get (i+1)).Z))+((l.get (i+1)).Z - (l.get i).Z) * ((l.get (i+2)).Z - (l.get (i+1)).Z) - 1) / (((l.get (i+1)).Z - (l.get i).Z) * ((l.get (i+2)).Z - (l.get (i+1)).Z))∧0 < ((l.get (i+1)).Z - (l.get i).Z) * ((l.get (i+2)).Z - (l.get (i+1)).Z):=by
 have b0:=zdK H i (by omega)
 have b1:=zdK H (i+1) (by omega)
 have b2:=zdK H (i+2) hi
 have h1:=H.inc i (by omega)
 have h2:=H.inc (i+1) hi
 unfold inG at hp hq hr
 exact zLP b0.2.2.2.1 h1 h2 b2.2.2.2.2 (by omega) (by omega) (by omega)
theorem zjx (i:Nat) (hi:i+2 < l.len) (p q r:Int) (hp:inG (l.get i) p) (hq:inG (l.get (i+1)) q) (hr:inG (l.get (i+2)) r):0≤tvl l i p q r:=by
 obtain ⟨e,hd⟩:=zLQ H i hi p q r hp hq hr
 rw [e]
 refine Int.ediv_nonneg ?_ (by omega)
 split <;> omega
theorem zAS (i:Nat) (hi:i+2=l.len) (p q:Int) (hp:inG (l.get i) p) (hq:inG (l.get (i+1)) q):Lk l i p q=0:=by
 unfold Lk
 rw [(zuH i (by omega)).1 (fun _=>none) hi,zis,if_pos (zgj.2 ⟨hp,hq⟩)]
 show zoX l i _ p q=0
 unfold zoX
 rw [if_pos hi]
theorem zAT (i : Nat) (hi : i + 2 < l.len) (p q : Int) (hp : inG (l.get i) p) (hq : inG (l.get (i + 1)) q) :
  Lk l i p q=mnL ((zjT (l.get (i+2)).Low (l.get (i+2)).High).map fun r=>if Lk l (i+1) q r > tvl l i p q r then Lk l (i+1) q r else tvl l i p q r):=by
 have e:Lk l i p q=zoX l i (tbl l (i+1)).2 p q:=by
  unfold Lk
  rw [(zuH i (by omega)).2 hi,zis,if_pos (zgj.2 ⟨hp,hq⟩)]
  rfl
 rw [e]
 unfold zoX
 rw [if_neg (by omega)]
 rfl
theorem zqE : ∀ (d i : Nat), i + 2 + d = l.len → ∀ (p q : Int), inG (l.get i) p → inG (l.get (i + 1)) q → 0 ≤ Lk l i p q
  | 0,i,hd,p,q,hp,hq=>by rw [zAS H i (by omega) p q hp hq];exact Int.le_refl _
  | d+1,i,hd,p,q,hp,hq=>by
    rw [zAT H i (by omega) p q hp hq]
    obtain ⟨h1,_⟩:=zoU (l:=(zjT (l.get (i+2)).Low (l.get (i+2)).High).map fun r=>if Lk l (i+1) q r > tvl l i p q r then Lk l (i+1) q r else tvl l i p q r) (fun x hx=>by
      obtain ⟨r,hr,rfl⟩:=List.mem_map.1 hx
      have:=zjx H i (by omega) p q r hp hq (zc8.1 hr)
      split <;> omega) (fun e=>zAN (zdK H (i+2) (by omega)).2.2.1 (List.map_eq_nil_iff.1 e))
    obtain ⟨r,hr,e⟩:=List.mem_map.1 h1
    rw [← e]
    have:=zjx H i (by omega) p q r hp hq (zc8.1 hr)
    split <;> omega
theorem zAU (i : Nat) (hi : i + 2 < l.len) (p q : Int) (hp : inG (l.get i) p) (hq : inG (l.get (i + 1)) q) :
  (∃ r,inG (l.get (i+2)) r∧Lk l (i+1) q r≤Lk l i p q∧tvl l i p q r≤Lk l i p q)∧∀ r,inG (l.get (i+2)) r→Lk l i p q≤Lk l (i+1) q r∨Lk l i p q≤tvl l i p q r:=by
 obtain ⟨h1,h2⟩:=zoU (l:=(zjT (l.get (i+2)).Low (l.get (i+2)).High).map fun r=>if Lk l (i+1) q r > tvl l i p q r then Lk l (i+1) q r else tvl l i p q r) (fun x hx=>by
   obtain ⟨r,hr,rfl⟩:=List.mem_map.1 hx
   have:=zjx H i (by omega) p q r hp hq (zc8.1 hr)
   split <;> omega) (fun e=>zAN (zdK H (i+2) (by omega)).2.2.1 (List.map_eq_nil_iff.1 e))
 rw [← zAT H i hi p q hp hq] at h1 h2
 constructor
 ·obtain ⟨r, hr, e⟩ := List.mem_map.1 h1
  refine ⟨r,zc8.1 hr,?_⟩
  rw [← e]
  split <;> omega
 ·intro r hr
  have:=h2 _ (List.mem_map.2 ⟨r,zc8.2 hr,rfl⟩)
  split at this
  ·exact .inl this
  ·exact .inr this
def Lin (l:Sl Gate) (f:Nat→Int):Prop:=∀ j,j < l.len→inG (l.get j) (f j)
end
section
variable {l:Sl Gate} (H:BG l)
theorem Lin.at {f:Nat→Int} (h:Lin l f) {j:Nat} (hj:j < l.len):inG (l.get j) (f j):=h j hj
end
section
variable {l:Sl Gate} (H:BG l)
include H
theorem zsZ (f : Nat → Int) (hf : Lin l f) (k : Int) (hk : 0 ≤ k) : ∀ (d i : Nat), i + 2 + d = l.len → (∀ j, i ≤ j → j + 2 < l.len → tvl l j (f j) (f (j + 1)) (f (j + 2)) ≤ k) → Lk l i (f i) (f (i + 1)) ≤ k
  | 0,i,hd,_=>by rw [zAS H i (by omega) _ _ (hf i (by omega)) (hf (i+1) (by omega))];exact hk
  | d+1,i,hd,h=>by
    have ih:=zsZ f hf k hk d (i+1) (by omega) (fun j hj=>h j (by omega))
    rcases (zAU H i (by omega) _ _ (hf i (by omega)) (hf (i+1) (by omega))).2 (f (i+2)) (hf (i+2) (by omega)) with h1 | h1
    · exact Int.le_trans h1 ih
    · exact Int.le_trans h1 (h i (Nat.le_refl _) (by omega))
end
end Go.Proofs
namespace Go.Proofs
open Go Go.Pm
set_option maxRecDepth 100000
theorem zCH (a b:Int):zHy a b=zjT a b:=zuF _ _
theorem zit (a b:Gate):zes a b=zmS a b:=by unfold zes zmS;simp only [zCH]
section
variable {l:Sl Gate} (H:BG l) (kink:Int)
include H
theorem zLR (i:Nat) (hi:i+1 < l.len) (p q:Int):zdg (((s93 l).get i).F [p,q]) 0=Lk l i p q:=by
 rw [((zjL H).2.2 i hi).2];rfl
theorem w1 (i:Nat) (hi:i+1 < l.len):w64 ((i:Int)+(1:Int))=((i+1:Nat):Int):=by
 have:=H.hi
 exact zcL (n:=l.len) (by omega) (by omega)
theorem w2 (i:Nat) (hi:i < l.len):w64 ((i:Int)+(2:Int))=((i+2:Nat):Int):=by
 have:=H.hi
 rw [za8 (by omega) (by omega)];omega
def nxt (l:Sl Gate) (kink:Int) (i:Nat) (p q:Int):List (List Int):=((zjT (l.get (i+2)).Low (l.get (i+2)).High).filter fun r=>decide (Lk l (i+1) q r≤kink) && decide (tvl l i p q r≤kink)).map fun r=>[q,r]
theorem zIv (i:Nat) (hi:i+2 < l.len) (p q:Int):zuD l kink (s93 l) p q (i:Int) Fuel (l.get (i+2)).Low=true∧zlL l kink (s93 l) p q (i:Int) Fuel (l.get (i+2)).Low=nxt l kink i p q:=by
 obtain ⟨b1,b2,b3,_,_⟩:=zdK H (i+2) hi
 have hl:=H.hi
 have ha:∀ r,a56 kink (s93 l) q (i:Int) r=decide (Lk l (i+1) q r≤kink):=fun r=>by
  unfold a56
  rw [w1 H i (by omega),Int.toNat_natCast,zLR H (i+1) (by omega)]
 have hb:∀ r,b56 l kink p q (i:Int) r=decide (tvl l i p q r≤kink):=fun r=>by
  unfold b56
  rw [w1 H i (by omega),w2 H i (by omega),Int.toNat_natCast,Int.toNat_natCast,Int.toNat_natCast]
  rfl
 have hg:g56 l (i:Int)=true:=by
  unfold g56
  rw [w2 H i (by omega)]
  exact decide_eq_true (by omega)
 have hh:zuC l (i:Int)=(l.get (i+2)).High:=by
  unfold zuC
  rw [w2 H i (by omega),Int.toNat_natCast]
 have ho:∀ r,o56 l kink (s93 l) p q (i:Int) r=true:=fun r=>by
  unfold o56
  rw [hg,w1 H i (by omega),w2 H i (by omega),Int.toNat_natCast,Int.toNat_natCast,Int.toNat_natCast,zAQ H i hi,(zjL H).2.1,
   decide_eq_true (show 0≤((i+1:Nat):Int)∧((i+1:Nat):Int) < ((l.len - 1:Nat):Int) by omega),decide_eq_true (show 0≤(i:Int)∧(i:Int) < (l.len:Int) by omega),decide_eq_true (show 0≤((i+1:Nat):Int)∧((i+1:Nat):Int) < (l.len:Int) by omega)]
  cases a56 kink (s93 l) q (i:Int) r <;> rfl
 have key:∀ (n k:Nat) (r:Int),(l.get (i+2)).Low≤r→r+n=(l.get (i+2)).High+1→n < k→zuD l kink (s93 l) p q (i:Int) k r=true ∧
   zlL l kink (s93 l) p q (i:Int) k r=((zvv n r).filter fun r=>decide (Lk l (i+1) q r≤kink) && decide (tvl l i p q r≤kink)).map fun r=>[q,r]:=by
  intro n
  induction n with
  | zero =>
   intro k r h1 h2 hk
   obtain ⟨k,rfl⟩:∃ k',k=k'+1:=⟨k - 1,by omega⟩
   unfold zuD zlL
   rw [hg,hh,decide_eq_false (show ¬ r≤(l.get (i+2)).High by omega),cond_false,cond_false]
   exact ⟨rfl,rfl⟩
  | succ n ih =>
   intro k r h1 h2 hk
   obtain ⟨k,rfl⟩:∃ k',k=k'+1:=⟨k - 1,by omega⟩
   obtain ⟨i1,i2⟩:=ih k (r+1) (by omega) (by omega) (by omega)
   unfold zuD zlL
   rw [hg,hh,decide_eq_true (show r≤(l.get (i+2)).High by omega),cond_true,cond_true,ho,ha,hb,za8 (by omega) (by omega),i1,i2]
   refine ⟨rfl,?_⟩
   rw [zvv,List.filter_cons]
   cases decide (Lk l (i+1) q r≤kink) && decide (tvl l i p q r≤kink) <;> rfl
 unfold nxt zjT
 exact key _ Fuel _ (Int.le_refl _) (by omega) (by simp only [Fuel];omega)
def zCI (l:Sl Gate) (kink:Int) (i:Nat) (y:List Int):List (List Int):=if i+2=l.len then [] else nxt l kink i (y.getD 0 0) (y.getD 1 0)
theorem zD7 (i:Nat) (hi:i+1 < l.len) (y:List Int):ok9 l kink (s93 l) Fuel (i:Int) l.len y=true∧ks9 l kink (s93 l) Fuel (i:Int) y=zCI l kink i y:=by
 unfold ok9 ks9 zCI
 have h1:p94 (i:Int) l.len=true:=decide_eq_true (by omega)
 have h2:p94 (w64 ((i:Int)+(1:Int))) l.len=true:=by rw [w1 H i hi];exact decide_eq_true (by omega)
 have hg:i+2 < l.len→g56 l (i:Int)=true:=fun h=>by
  unfold g56
  rw [w2 H i (by omega)]
  exact decide_eq_true (by omega)
 rw [h1,h2,w2 H i (by omega)]
 by_cases h:i+2=l.len
 ·rw [if_pos h, show (((i + 2 : Nat) : Int) == (l.len : Int)) = true from by simp; omega]
  exact ⟨rfl,rfl⟩
 ·rw [if_neg h, show (((i + 2 : Nat) : Int) == (l.len : Int)) = false from by simp; omega, cond_false, cond_false, Int.toNat_natCast, hg (by omega)]
  obtain ⟨e1,e2⟩:=zIv H kink i (by omega) (y.getD 0 0) (y.getD 1 0)
  rw [e1,e2]
  exact ⟨rfl,rfl⟩
def rnd (l:Sl Gate) (kink:Int) (i:Nat) (z:Sl Span×MpS) (y:List Int):Sl Span×MpS:=(⟨z.1.len,s94 ((i+1:Nat):Int) (y.getD 1 0) (s94 (i:Int) (y.getD 0 0) z.1.get)⟩,insL z.2 (zCI l kink i y))
theorem zOd (i:Nat) (hi:i+1 < l.len):zet l kink (s93 l) Fuel (i:Int)=rnd l kink i:=by
 funext z y
 unfold zet rnd
 rw [(zD7 H kink i hi y).2,w1 H i hi]
end
end Go.Proofs
namespace Go.Proofs
open Go Go.Pm
set_option maxRecDepth 100000
theorem zAV (i p:Int) (f:Nat→Span) (z:Nat):s94 i p f z=if z=i.toNat then ⟨if p < (f z).Low then p else (f z).Low,if p > (f z).High then p else (f z).High⟩ else f z:=by
 unfold s94
 cases h:Nat.beq z i.toNat with
 | true=>have:=Nat.eq_of_beq_eq_true h;subst this;rw [if_pos rfl]
 | false=>rw [if_neg (Nat.ne_of_beq_eq_false h)]
theorem met (i : Nat) (y0 y1 : Int) (f : Nat → Span) (j : Nat) :
  let g:=s94 ((i+1:Nat):Int) y1 (s94 (i:Int) y0 f)
  ((g j).Low≤(f j).Low∧(f j).High≤(g j).High)∧(j=i→(g j).Low≤y0∧y0≤(g j).High)∧(j=i+1→(g j).Low≤y1∧y1≤(g j).High) ∧
   ((g j).Low=(f j).Low∨(j=i∧(g j).Low=y0)∨(j=i+1∧(g j).Low=y1))∧((g j).High=(f j).High∨(j=i∧(g j).High=y0)∨(j=i+1∧(g j).High=y1)):=by
 intro g
 have e:g j=if j=i+1 then ⟨if y1 < (f j).Low then y1 else (f j).Low,if y1 > (f j).High then y1 else (f j).High⟩ else if j=i then ⟨if y0 < (f j).Low then y0 else (f j).Low,if y0 > (f j).High then y0 else (f j).High⟩ else f j:=by
  show s94 ((i+1:Nat):Int) y1 (s94 (i:Int) y0 f) j=_
  rw [zAV,zAV,Int.toNat_natCast,Int.toNat_natCast]
  by_cases h1:j=i+1
  ·have hji : ¬ j = i := by omega
   simp only [if_pos h1,if_neg hji]
  ·rw [if_neg h1,if_neg h1]
 rw [e]
 by_cases h1:j=i+1
 ·rw [if_pos h1]
  dsimp only
  refine ⟨⟨by split <;> omega,by split <;> omega⟩,fun h=>by omega,fun _=>⟨by split <;> omega,by split <;> omega⟩,?_,?_⟩
  ·split
   ·exact .inr (.inr ⟨h1,rfl⟩)
   ·exact .inl rfl
  ·split
   ·exact .inr (.inr ⟨h1,rfl⟩)
   ·exact .inl rfl
 ·rw [if_neg h1]
  by_cases h2:j=i
  ·rw [if_pos h2]
   dsimp only
   refine ⟨⟨by split <;> omega,by split <;> omega⟩,fun _=>⟨by split <;> omega,by split <;> omega⟩,fun h=>by omega,?_,?_⟩
   ·split
    ·exact .inr (.inl ⟨h2,rfl⟩)
    ·exact .inl rfl
   ·split
    ·exact .inr (.inl ⟨h2,rfl⟩)
    ·exact .inl rfl
  ·rw [if_neg h2]
   exact ⟨⟨Int.le_refl _,Int.le_refl _⟩,fun h=>absurd h h2,fun h=>absurd h h1,.inl rfl,.inl rfl⟩
theorem zCJ (s:MpS) (a b:List (List Int)):insL (insL s a) b=insL s (a ++ b):=by unfold insL;rw [List.foldl_append]
theorem zqF (s:MpS) (a:List (List Int)) (c:List Int):(insL s a).2 c=if c∈a then some [1] else s.2 c:=zoV (fun _=>[1]) a s c
theorem zuJ (s:MpS) (a:List (List Int)) (h:Cnt s):Cnt (insL s a):=zoW (fun _=>[1]) a s h
section
variable {l:Sl Gate} {kink:Int}
theorem zuK (i:Nat):∀ (ys:List (List Int)) (z:Sl Span×MpS),
  (ys.foldl (rnd l kink i) z).1.len=z.1.len∧(ys.foldl (rnd l kink i) z).2=insL z.2 (ys.flatMap (zCI l kink i)) ∧
  ∀ j,(((ys.foldl (rnd l kink i) z).1.get j).Low≤(z.1.get j).Low∧(z.1.get j).High≤((ys.foldl (rnd l kink i) z).1.get j).High) ∧
   (∀ y∈ys,(j=i→((ys.foldl (rnd l kink i) z).1.get j).Low≤y.getD 0 0∧y.getD 0 0≤((ys.foldl (rnd l kink i) z).1.get j).High)∧(j=i+1→((ys.foldl (rnd l kink i) z).1.get j).Low≤y.getD 1 0∧y.getD 1 0≤((ys.foldl (rnd l kink i) z).1.get j).High)) ∧
   (((ys.foldl (rnd l kink i) z).1.get j).Low=(z.1.get j).Low∨∃ y∈ys,(j=i∧((ys.foldl (rnd l kink i) z).1.get j).Low=y.getD 0 0)∨(j=i+1∧((ys.foldl (rnd l kink i) z).1.get j).Low=y.getD 1 0)) ∧
   (((ys.foldl (rnd l kink i) z).1.get j).High=(z.1.get j).High∨∃ y∈ys,(j=i∧((ys.foldl (rnd l kink i) z).1.get j).High=y.getD 0 0)∨(j=i+1∧((ys.foldl (rnd l kink i) z).1.get j).High=y.getD 1 0))
 | [],z=>⟨rfl,rfl,fun j=>⟨⟨Int.le_refl _,Int.le_refl _⟩,fun y hy=>by simp at hy,.inl rfl,.inl rfl⟩⟩
 | y :: ys,z=>by
  rw [List.foldl_cons]
  obtain ⟨h1,h2,h3⟩:=zuK i ys (rnd l kink i z y)
  refine ⟨h1,?_,fun j=>?_⟩
  ·rw [h2,List.flatMap_cons,← zCJ];rfl
  ·obtain ⟨a1, a2, a3, a4⟩ := h3 j
   obtain ⟨m1,m2,m3,m4,m5⟩:=met i (y.getD 0 0) (y.getD 1 0) z.1.get j
   have eg:(rnd l kink i z y).1.get=s94 ((i+1:Nat):Int) (y.getD 1 0) (s94 (i:Int) (y.getD 0 0) z.1.get):=rfl
   rw [← eg] at m1 m2 m3 m4 m5
   generalize (ys.foldl (rnd l kink i) (rnd l kink i z y)).1.get j=g at *
   generalize (rnd l kink i z y).1.get j=g1 at *
   refine ⟨by omega,fun y' hy'=>?_,?_,?_⟩
   ·rcases List.mem_cons.1 hy' with e | hy'
    ·rw [e]
     exact ⟨fun h=>by have:=m2 h;omega,fun h=>by have:=m3 h;omega⟩
    ·exact a2 y' hy'
   ·rcases a3 with a3 | ⟨y', hy', a3⟩
    ·rcases m4 with m4 | m4 | m4
     ·exact .inl (a3.trans m4)
     ·exact .inr ⟨y,List.mem_cons_self,.inl ⟨m4.1,a3.trans m4.2⟩⟩
     ·exact .inr ⟨y,List.mem_cons_self,.inr ⟨m4.1,a3.trans m4.2⟩⟩
    ·exact .inr ⟨y',List.mem_cons_of_mem _ hy',a3⟩
   ·rcases a4 with a4 | ⟨y', hy', a4⟩
    ·rcases m5 with m5 | m5 | m5
     ·exact .inl (a4.trans m5)
     ·exact .inr ⟨y,List.mem_cons_self,.inl ⟨m5.1,a4.trans m5.2⟩⟩
     ·exact .inr ⟨y,List.mem_cons_self,.inr ⟨m5.1,a4.trans m5.2⟩⟩
    ·exact .inr ⟨y',List.mem_cons_of_mem _ hy',a4⟩
end
def Gd (l : Sl Gate) (kink : Int) : Nat → Int → Int → Prop
  | 0,p,q=>inG (l.get 0) p∧inG (l.get 1) q∧Lk l 0 p q≤kink
  | i+1,q,r=>inG (l.get (i+2)) r∧∃ p,Gd l kink i p q∧tvl l i p q r≤kink∧Lk l (i+1) q r≤kink
theorem zIw {l : Sl Gate} {kink : Int} : ∀ {i : Nat} {p q : Int}, Gd l kink i p q → inG (l.get i) p ∧ inG (l.get (i + 1)) q ∧ Lk l i p q ≤ kink
  | 0,p,q,h=>h
  | i+1,q,r,h=>by
    obtain ⟨h1,p,h2,h3,h4⟩:=h
    exact ⟨(zIw h2).2.1,h1,h4⟩
def Nw (l:Sl Gate) (kink:Int) (i:Nat) (F:List Int→Option (List Int)):Prop:=∀ c,F c ≠ none↔∃ p q,c=[p,q]∧Gd l kink i p q
section
variable {l:Sl Gate} (H:BG l) (kink:Int)
include H
end
section
variable {l:Sl Gate} (H:BG l) (kink:Int)
theorem zLS {i:Nat} {F:List Int→Option (List Int)} (hF:Nw l kink i F) (c:List Int):c∈(zes (l.get i) (l.get (i+1))).filter (fun c=>(F c).isSome)↔∃ p q,c=[p,q]∧Gd l kink i p q:=by
 rw [List.mem_filter,zit,← hF c,Option.isSome_iff_ne_none]
 constructor
 ·exact fun h=>h.2
 ·intro h
  obtain ⟨p,q,rfl,hg⟩:=(hF c).1 h
  exact ⟨zgj.2 ⟨(zIw hg).1,(zIw hg).2.1⟩,h⟩
end
section
variable {l:Sl Gate} (H:BG l) (kink:Int)
include H
end
section
variable {l:Sl Gate} (H:BG l) (kink:Int)
theorem zIx {i:Nat} (hi:i+2 < l.len) {ys:List (List Int)} (hy:∀ c,c∈ys↔∃ p q,c=[p,q]∧Gd l kink i p q):Nw l kink (i+1) (insL (0,fun _=>none) (ys.flatMap (zCI l kink i))).2:=by
 intro c
 rw [zqF]
 have e:c∈ys.flatMap (zCI l kink i)↔∃ q r,c=[q,r]∧Gd l kink (i+1) q r:=by
  rw [List.mem_flatMap]
  constructor
  ·rintro ⟨y, hy1, hc⟩
   obtain ⟨p,q,rfl,hg⟩:=(hy y).1 hy1
   unfold zCI at hc
   rw [if_neg (by omega)] at hc
   unfold nxt at hc
   obtain ⟨r,hr,rfl⟩:=List.mem_map.1 hc
   obtain ⟨hr1,hr2⟩:=List.mem_filter.1 hr
   rw [Bool.and_eq_true,decide_eq_true_eq,decide_eq_true_eq] at hr2
   exact ⟨q,r,rfl,zc8.1 hr1,p,hg,hr2.2,hr2.1⟩
  ·rintro ⟨q, r, rfl, hr, p, hg, h1, h2⟩
   refine ⟨[p,q],(hy _).2 ⟨p,q,rfl,hg⟩,?_⟩
   unfold zCI
   rw [if_neg (by omega)]
   unfold nxt
   exact List.mem_map.2 ⟨r,List.mem_filter.2 ⟨zc8.2 hr,by rw [Bool.and_eq_true,decide_eq_true_eq,decide_eq_true_eq];exact ⟨h2,h1⟩⟩,rfl⟩
 by_cases hc:c∈ys.flatMap (zCI l kink i)
 ·rw [if_pos hc];exact ⟨fun _=>e.1 hc,fun _=>by simp⟩
 ·rw [if_neg hc];exact ⟨fun h=>absurd rfl h,fun h=>absurd (e.2 h) hc⟩
end
section
variable {l:Sl Gate} (H:BG l) (kink:Int)
include H
end
end Go.Proofs
namespace Go.Proofs
open Go Go.Pm
set_option maxRecDepth 100000
def inS (s:Span) (p:Int):Prop:=s.Low≤p∧p≤s.High
def Att (l:Sl Gate) (kink:Int) (i:Nat) (j:Nat) (x:Int):Prop:=∃ j' p q,i≤j'∧j'+1 < l.len∧Gd l kink j' p q∧((j=j'∧x=p)∨(j=j'+1∧x=q))
theorem zuL {n:Nat} {F:List Int→Option (List Int)} {ys:List (List Int)} (h1:ys.length=n) (h2:∀ y∈ys,y.length=2∧F y ≠ none) (h3:ys.Nodup):keysB 2 n F ys=true:=by
 unfold keysB
 rw [Bool.and_eq_true,Bool.and_eq_true,zgr,List.all_eq_true]
 refine ⟨⟨by rw [h1];simp,fun y hy=>?_⟩,h3⟩
 rw [Bool.and_eq_true]
 exact ⟨by rw [(h2 y hy).1];rfl,Option.isSome_iff_ne_none.2 (h2 y hy).2⟩
section
variable {l:Sl Gate} (H:BG l) (kink:Int)
include H
theorem lp8:∀ (m k i n:Nat) (F:List Int→Option (List Int)) (out:Sl Span),i+m+1=l.len→m < k→(i+1 < l.len→Nw l kink i F∧Cnt (n,F))→out.len=l.len →
  zeI l kink (s93 l) k n F (i:Int) out=true∧∃ o,zeH l kink (s93 l) k n F (i:Int) out=(o,0)∧o.len=l.len∧(∀ j,(o.get j).Low≤(out.get j).Low∧(out.get j).High≤(o.get j).High) ∧
   (∀ j p q,i≤j→j+1 < l.len→Gd l kink j p q→inS (o.get j) p∧inS (o.get (j+1)) q) ∧
   ∀ j,((o.get j).Low=(out.get j).Low∨Att l kink i j (o.get j).Low)∧((o.get j).High=(out.get j).High∨Att l kink i j (o.get j).High):=by
 have hl:=H.hi;have hlo:=H.lo
 have e1:w64 ((l.len:Int) - (1:Int))=((l.len - 1:Nat):Int):=by rw [za8 (by omega) (by omega)];omega
 intro m
 induction m with
 | zero =>
  intro k i n F out hi hk _ ho
  obtain ⟨k,rfl⟩:∃ k',k=k'+1:=⟨k - 1,by omega⟩
  have ep:zeI l kink (s93 l) (k+1) n F (i:Int) out=zhs l kink (s93 l) (zeI l kink (s93 l) k) n F (i:Int) out:=rfl
  have es:zeH l kink (s93 l) (k+1) n F (i:Int) out=zhr l kink (s93 l) (zeH l kink (s93 l) k) n F (i:Int) out:=rfl
  rw [ep,es]
  unfold zhs zhr
  rw [e1,decide_eq_false (show ¬ (i:Int) < ((l.len - 1:Nat):Int) by omega),cond_false,cond_false]
  exact ⟨rfl,out,rfl,ho,fun j=>⟨Int.le_refl _,Int.le_refl _⟩,fun j p q h1 h2=>by omega,fun j=>⟨.inl rfl,.inl rfl⟩⟩
 | succ m ih =>
  intro k i n F out hi hk hF ho
  obtain ⟨k,rfl⟩:∃ k',k=k'+1:=⟨k - 1,by omega⟩
  obtain ⟨hN,hC⟩:=hF (by omega)
  have ep:zeI l kink (s93 l) (k+1) n F (i:Int) out=zhs l kink (s93 l) (zeI l kink (s93 l) k) n F (i:Int) out:=rfl
  have es:zeH l kink (s93 l) (k+1) n F (i:Int) out=zhr l kink (s93 l) (zeH l kink (s93 l) k) n F (i:Int) out:=rfl
  rw [ep,es]
  unfold zhs zhr zop zoo
  rw [e1,decide_eq_true (show (i:Int) < ((l.len - 1:Nat):Int) by omega),cond_true,cond_true,Int.toNat_natCast]
  have hy:=zLS kink hN
  have hyn:((zes (l.get i) (l.get (i+1))).filter (fun c=>(F c).isSome)).Nodup:=List.Pairwise.filter _ (by rw [zit];exact zgB _ _)
  have hkb:keysB 2 n F ((zes (l.get i) (l.get (i+1))).filter (fun c=>(F c).isSome))=true:=by
   refine zuL (zAP hC hyn fun x=>?_).symm (fun y hy'=>?_) hyn
   ·exact (hN x).trans (hy x).symm
   ·obtain ⟨p, q, rfl, hg⟩ := (hy y).1 hy'
    exact ⟨rfl,(hN _).2 ⟨p,q,rfl,hg⟩⟩
  generalize (zes (l.get i) (l.get (i+1))).filter (fun c=>(F c).isSome)=ys at hy hyn hkb
  have hok:ys.all (ok9 l kink (s93 l) Fuel (i:Int) out.len)=true:=by
   rw [List.all_eq_true,ho]
   exact fun y _=>(zD7 H kink i (by omega) y).1
  rw [hkb,zMn,zMo l kink (s93 l) _ n F (i:Int) (i:Int) ys out 0 _ hok,hok,zOd H kink i (by omega)]
  obtain ⟨r1,r2,r3⟩:=zuK (l:=l) (kink:=kink) i ys (out,(0,fun _=>none))
  generalize ys.foldl (rnd l kink i) (out,(0,fun _=>none))=z at r1 r2 r3
  unfold zlI zlH
  rw [show w64 ((i:Int)+(1:Int))=((i+1:Nat):Int) from zcL (n:=l.len) (by omega) (by omega)]
  have hz:z.1.len=l.len:=r1.trans ho
  obtain ⟨q1,o,q2,q3,q4,q5,q6⟩:=ih k (i+1) z.2.1 z.2.2 z.1 (by omega) (by omega) (fun h=>by
   rw [r2]
   exact ⟨zIx kink (by omega) hy,zuJ _ _ zOa⟩) hz
  refine ⟨by rw [q1];rfl,o,q2,q3,fun j=>?_,fun j p q h1 h2 hg=>?_,fun j=>?_⟩
  ·have a := (r3 j).1
   have b:=q4 j
   have a:(z.1.get j).Low≤(out.get j).Low∧(out.get j).High≤(z.1.get j).High:=a
   omega
  ·by_cases e : j = i
   ·subst e
    have hm:=(hy [p,q]).2 ⟨p,q,rfl,hg⟩
    have a:=((r3 j).2.1 _ hm).1 rfl
    have b:=((r3 (j+1)).2.1 _ hm).2 rfl
    have a:(z.1.get j).Low≤p∧p≤(z.1.get j).High:=a
    have b:(z.1.get (j+1)).Low≤q∧q≤(z.1.get (j+1)).High:=b
    have c:=q4 j
    have d:=q4 (j+1)
    unfold inS
    omega
   ·exact q5 j p q (by omega) h2 hg
  ·have up : ∀ x, Att l kink (i + 1) j x → Att l kink i j x := fun x ⟨j', p, q, a, b, c, d⟩ => ⟨j', p, q, by omega, b, c, d⟩
   have here:∀ x,(∃ y∈ys,(j=i∧x=y.getD 0 0)∨(j=i+1∧x=y.getD 1 0))→Att l kink i j x:=fun x ⟨y,hy',h⟩=>by
    obtain ⟨p,q,rfl,hg⟩:=(hy y).1 hy'
    exact ⟨i,p,q,Nat.le_refl _,by omega,hg,h⟩
   obtain ⟨_,_,a3,a4⟩:=r3 j
   have a3:(z.1.get j).Low=(out.get j).Low∨_:=a3
   have a4:(z.1.get j).High=(out.get j).High∨_:=a4
   constructor
   ·rcases (q6 j).1 with h | h
    ·rcases a3 with h3 | h3
     ·exact .inl (h.trans h3)
     ·exact .inr (by rw [h];exact here _ h3)
    ·exact .inr (up _ h)
   ·rcases (q6 j).2 with h | h
    ·rcases a4 with h3 | h3
     ·exact .inl (h.trans h3)
     ·exact .inr (by rw [h];exact here _ h3)
    ·exact .inr (up _ h)
theorem zIy (hl2:1 < l.len):Nw l kink 0 ((zes (l.get 0) (l.get 1)).foldl (zfH kink (s93 l)) (0,fun _=>none)).2∧Cnt ((zes (l.get 0) (l.get 1)).foldl (zfH kink (s93 l)) (0,fun _=>none)):=by
 have e:∀ (ys:List (List Int)) (s:MpS),(∀ y∈ys,∃ p q,y=[p,q])→ys.foldl (zfH kink (s93 l)) s=insL s (ys.filter fun y=>decide (Lk l 0 (y.getD 0 0) (y.getD 1 0)≤kink)):=by
  intro ys
  induction ys with
  | nil=>intro s _;rfl
  | cons y ys ih =>
   intro s h
   obtain ⟨p,q,rfl⟩:=h y List.mem_cons_self
   rw [List.foldl_cons,ih _ (fun y hy=>h y (List.mem_cons_of_mem _ hy)),List.filter_cons]
   unfold zfH
   rw [zLR H 0 (by omega)]
   show insL (cond (decide (Lk l 0 p q≤kink)) (zDK s [p,q]) s) _=insL s (if decide (Lk l 0 p q≤kink)=true then _ else _)
   cases decide (Lk l 0 p q≤kink) <;> rfl
 rw [e _ _ fun y hy=>by rw [zit] at hy;obtain ⟨p,q,h,_⟩:=zd8.1 hy;exact ⟨p,q,h⟩]
 refine ⟨fun c=>?_,zuJ _ _ zOa⟩
 rw [zqF]
 have em:c∈(zes (l.get 0) (l.get 1)).filter (fun y=>decide (Lk l 0 (y.getD 0 0) (y.getD 1 0)≤kink))↔∃ p q,c=[p,q]∧Gd l kink 0 p q:=by
  rw [List.mem_filter,zit,zd8,decide_eq_true_eq]
  constructor
  ·rintro ⟨⟨p, q, rfl, h1, h2⟩, h3⟩
   exact ⟨p,q,rfl,h1,h2,h3⟩
  ·rintro ⟨p, q, rfl, h1, h2, h3⟩
   exact ⟨⟨p,q,rfl,h1,h2⟩,h3⟩
 by_cases hc:c∈(zes (l.get 0) (l.get 1)).filter (fun y=>decide (Lk l 0 (y.getD 0 0) (y.getD 1 0)≤kink))
 ·rw [if_pos hc];exact ⟨fun _=>em.1 hc,fun _=>by simp⟩
 ·rw [if_neg hc];exact ⟨fun h=>absurd rfl h,fun h=>absurd (em.2 h) hc⟩
end
end Go.Proofs
namespace Go.Proofs
open Go Go.Pm
set_option maxRecDepth 100000
def zOe:Sl Span:=⟨0,fun _=>default⟩
theorem zCK {α:Type} (i:Nat) (x:α) (f:Nat→α) (j:Nat):setT i x f j=if j=i then x else f j:=by
 unfold setT
 cases h:Nat.beq j i with
 | true=>rw [if_pos (Nat.eq_of_beq_eq_true h)]
 | false=>rw [if_neg (Nat.ne_of_beq_eq_false h)]
section
variable {l:Sl Gate} (H:BG l) (kink:Int)
include H
theorem zLT (out:Sl Span) (ho:out.len=l.len):zji l kink (s93 l) out=true ∧
  ((∀ p q,¬ Gd l kink 0 p q)→zhu l kink (s93 l) out=(zOe,5)) ∧
  ((∃ p q,Gd l kink 0 p q)→∃ o,zhu l kink (s93 l) out=(o,0)∧o.len=l.len∧(∀ j p q,j+1 < l.len→Gd l kink j p q→inS (o.get j) p∧inS (o.get (j+1)) q) ∧
   ∀ j,((o.get j).Low=(out.get j).Low∨Att l kink 0 j (o.get j).Low)∧((o.get j).High=(out.get j).High∨Att l kink 0 j (o.get j).High)):=by
 have hl:=H.hi;have hlo:=H.lo
 obtain ⟨t1,t2,t3⟩:=zjL H
 obtain ⟨f1,f2⟩:=zIy H kink (by omega)
 unfold zji zhu zox zow
 rw [t2,decide_eq_true (show 0≤(0:Int)∧(0:Int) < ((l.len - 1:Nat):Int) by omega),Bool.true_and,(t3 0 (by omega)).1,(t3 0 (by omega)).2,zLO]
 have hkb:keysB 2 (zmS (l.get 0) (l.get (0+1))).length (tbl l 0).2 (zes (l.get 0) (l.get 1))=true:=by
  rw [zit]
  refine zuL rfl (fun y hy=>?_) (zgB _ _)
  obtain ⟨p,q,rfl,_⟩:=zd8.1 hy
  exact ⟨rfl,(zuI l 0 _).2 hy⟩
 rw [hkb,zov,zou]
 generalize (zes (l.get 0) (l.get 1)).foldl (zfH kink (s93 l)) (0,fun _=>none)=z at f1 f2
 unfold zlN zlM zot zos zor zoq zsF zsE
 have hz:z.1=0↔∀ p q,¬ Gd l kink 0 p q:=by
  obtain ⟨K,k1,k2,k3⟩:=f2
  constructor
  ·intro h p q hg
   have:[p,q]∈K:=(k3 _).1 ((f1 _).2 ⟨p,q,rfl,hg⟩)
   rw [h] at k2
   rw [List.eq_nil_of_length_eq_zero k2] at this;simp at this
  ·intro h
   have:K=[]:=by
    cases K with
    | nil=>rfl
    | cons c K =>
     obtain ⟨p,q,_,hg⟩:=(f1 c).1 ((k3 c).2 List.mem_cons_self)
     exact absurd hg (h p q)
   rw [← k2,this];rfl
 by_cases h0:z.1=0
 ·rw [show ((z.1 : Int) == (0:Int)) = true from by simp; omega, cond_true, cond_true]
  exact ⟨rfl,fun _=>rfl,fun ⟨p,q,hg⟩=>absurd hg (hz.1 h0 p q)⟩
 ·rw [show ((z.1 : Int) == (0:Int)) = false from by simp; omega, cond_false, cond_false]
  obtain ⟨q1,o,q2,q3,q4,q5,q6⟩:=lp8 H kink (l.len - 1) Fuel 0 z.1 z.2 out (by omega) (by simp only [Fuel];omega) (fun _=>⟨f1,f2⟩) ho
  refine ⟨by rw [show zht l kink (s93 l) out (zes (l.get 0) (l.get 1))=true from rfl];exact q1,fun h=>absurd (hz.2 h) h0,fun _=>⟨o,q2,q3,fun j p q h hg=>q5 j p q (Nat.zero_le _) h hg,q6⟩⟩
theorem zLU (hk:0≤kink∧kink≤1000000):p56 l kink=true∧((∀ p q,¬ Gd l kink 0 p q)→s56 l kink=(zOe,5)) ∧
  ((∃ p q,Gd l kink 0 p q)→∃ o,s56 l kink=(o,0)∧o.len=l.len∧(∀ j p q,j+1 < l.len→Gd l kink j p q→inS (o.get j) p∧inS (o.get (j+1)) q) ∧
   ∀ j,j < l.len→((o.get j).Low=1000001∨Att l kink 0 j (o.get j).Low)∧((o.get j).High = -1000001∨Att l kink 0 j (o.get j).High)):=by
 have hl:=H.hi;have hlo:=H.lo
 have init:∀ (m k i:Nat) (out:Sl Span),i+m=l.len→m < k→out.len=l.len→(∀ j,j < i→out.get j=⟨1000001,-1000001⟩) →
   ∃ o:Sl Span,o.len=l.len∧(∀ j,j < l.len→o.get j=⟨1000001,-1000001⟩)∧zfv l kink (s93 l) k (i:Int) out=zji l kink (s93 l) o∧zfu l kink (s93 l) k (i:Int) out=zhu l kink (s93 l) o:=by
  intro m
  induction m with
  | zero =>
   intro k i out hi hk ho hj
   obtain ⟨k,rfl⟩:∃ k',k=k'+1:=⟨k - 1,by omega⟩
   refine ⟨out,ho,fun j h=>hj j (by omega),?_,?_⟩
   ·show zhw l kink (s93 l) (zfv l kink (s93 l) k) (i : Int) out = _
    unfold zhw
    rw [decide_eq_false (by omega),cond_false]
   ·show zhv l kink (s93 l) (zfu l kink (s93 l) k) (i : Int) out = _
    unfold zhv
    rw [decide_eq_false (by omega),cond_false]
  | succ m ih =>
   intro k i out hi hk ho hj
   obtain ⟨k,rfl⟩:∃ k',k=k'+1:=⟨k - 1,by omega⟩
   obtain ⟨o,o1,o2,o3,o4⟩:=ih k (i+1) ⟨out.len,setT i ⟨1000001,-1000001⟩ out.get⟩ (by omega) (by omega) ho (fun j hj'=>by
    show setT i _ out.get j=_
    rw [zCK]
    split
    ·rfl
    ·exact hj j (by omega))
   refine ⟨o,o1,o2,?_,?_⟩
   ·show zhw l kink (s93 l) (zfv l kink (s93 l) k) (i : Int) out = _
    unfold zhw
    rw [decide_eq_true (show (i:Int) < ((l.len:Int).toNat:Int) by omega),cond_true,decide_eq_true (show 0≤(i:Int)∧(i:Int) < (out.len:Int) by omega),decide_eq_true (show (i:Int).toNat < out.len by omega),Bool.true_and,Bool.true_and,Int.toNat_natCast,zcL (n:=l.len) (by omega) (by omega)]
    exact o3
   ·show zhv l kink (s93 l) (zfu l kink (s93 l) k) (i : Int) out = _
    unfold zhv
    rw [decide_eq_true (show (i:Int) < ((l.len:Int).toNat:Int) by omega),cond_true,Int.toNat_natCast,zcL (n:=l.len) (by omega) (by omega)]
    exact o4
 obtain ⟨b1,b2⟩:=zD5 l (by omega)
 unfold p56 s56 zlS zlR zoB zoA zoz zoy zsH zsG
 rw [b1,b2.2 H,zir,decide_eq_true hk,(zjL H).1,decide_eq_true (show 0≤(l.len:Int)∧(l.len:Int)=(l.len:Int)∧(l.len:Int)≤1000000 by omega)]
 simp only [Bool.not_true,cond_false,decide_true,Bool.true_and]
 obtain ⟨o,o1,o2,o3,o4⟩:=init l.len Fuel 0 ⟨(l.len:Int).toNat,fun _=>⟨0,0⟩⟩ (by omega) (by simp only [Fuel];omega) (by simp) (fun j h=>by omega)
 have o3:zfv l kink (s93 l) Fuel 0 ⟨(l.len:Int).toNat,fun _=>⟨0,0⟩⟩=_:=o3
 have o4:zfu l kink (s93 l) Fuel 0 ⟨(l.len:Int).toNat,fun _=>⟨0,0⟩⟩=_:=o4
 rw [o3,o4]
 obtain ⟨a1,a2,a3⟩:=zLT H kink o o1
 refine ⟨a1,a2,fun h=>?_⟩
 obtain ⟨o',c1,c2,c3,c4⟩:=a3 h
 refine ⟨o',c1,c2,c3,fun j hj=>?_⟩
 have:=c4 j
 rw [o2 j hj] at this
 exact this
end
end Go.Proofs
namespace Go.Pm
theorem zD8 {β : Type} {c : Int → Bool} {fd : Int → β} {E : β} {EP : Bool} {fdP : Int → Bool} {lo hi : Int} {lpS : Nat → Int → β} {lpP : Nat → Int → Bool}
    (hS:∀ k r,lo≤r→r≤hi→lpS (k+1) r=cond (c r) (fd r) (lpS k (w64 (r+(1:Int))))) (hE:∀ k r,lo≤r→hi < r→lpS (k+1) r=E)
    (hP:∀ k r,lo≤r→r≤hi→lpP (k+1) r=cond (c r) (fdP r) (lpP k (w64 (r+(1:Int)))))
    (hPE:∀ k r,lo≤r→hi < r→lpP (k+1) r=EP)
    (h1 : -9223372036854775808≤lo) (h2:hi < 9223372036854775807) (h3:hi - lo < 9223372036854775800) :
    (∀ r0,lo≤r0→r0≤hi→c r0=true→(∀ r,lo≤r→r < r0→c r=false)→lpP Fuel lo=fdP r0∧lpS Fuel lo=fd r0) ∧
    ((∀ r,lo≤r→r≤hi→c r=false)→lpP Fuel lo=EP∧lpS Fuel lo=E):=by
  constructor
  · intro r0 a b hc hf
    have key:∀ (n k:Nat) (r:Int),lo≤r→r+n=r0→n < k→lpP k r=fdP r0∧lpS k r=fd r0:=by
      intro n
      induction n with
      | zero =>
        intro k r hl hr hk
        obtain ⟨k,rfl⟩:∃ k',k=k'+1:=⟨k - 1,by omega⟩
        have:r=r0:=by omega
        subst this
        rw [hS k r hl b,hP k r hl b,hc]
        exact ⟨rfl,rfl⟩
      | succ n ih =>
        intro k r hl hr hk
        obtain ⟨k,rfl⟩:∃ k',k=k'+1:=⟨k - 1,by omega⟩
        rw [hS k r hl (by omega),hP k r hl (by omega),hf r hl (by omega),za8 (by omega) (by omega)]
        exact ih k (r+1) (by omega) (by omega) (by omega)
    exact key (r0 - lo).toNat Fuel lo (Int.le_refl _) (by omega) (by simp only [Fuel];omega)
  · intro hf
    have key:∀ (n k:Nat) (r:Int),lo≤r→(r+n=hi+1∨n=0∧hi < r)→n < k→lpP k r=EP∧lpS k r=E:=by
      intro n
      induction n with
      | zero =>
        intro k r hl hr hk
        obtain ⟨k,rfl⟩:∃ k',k=k'+1:=⟨k - 1,by omega⟩
        exact ⟨hPE k r hl (by omega),hE k r hl (by omega)⟩
      | succ n ih =>
        intro k r hl hr hk
        obtain ⟨k,rfl⟩:∃ k',k=k'+1:=⟨k - 1,by omega⟩
        rw [hS k r hl (by omega),hP k r hl (by omega),hf r hl (by omega),za8 (by omega) (by omega)]
        exact ih k (r+1) (by omega) (by omega) (by omega)
    exact key (hi - lo+1).toNat Fuel lo (Int.le_refl _) (by omega) (by simp only [Fuel];omega)
theorem zoY {c:Int→Bool} {lo hi x:Int} (hx:lo≤x∧x≤hi) (hc:c x=true):∃ r0,lo≤r0∧r0≤hi∧r0≤x∧c r0=true∧∀ r,lo≤r→r < r0→c r=false:=by
 have key:∀ (n:Nat) (x:Int),lo+n=x→x≤hi→c x=true→∃ r0,lo≤r0∧r0≤hi∧r0≤x∧c r0=true∧∀ r,lo≤r→r < r0→c r=false:=by
  intro n
  induction n using Nat.strongRecOn with
  | ind n ih =>
   intro x hx hh hc
   by_cases h:∃ y,lo≤y∧y < x∧c y=true
   ·obtain ⟨y, y1, y2, y3⟩ := h
    obtain ⟨r0,a1,a2,a3,a4,a5⟩:=ih (y - lo).toNat (by omega) y (by omega) (by omega) y3
    exact ⟨r0,a1,a2,by omega,a4,a5⟩
   ·refine ⟨x, by omega, hh, Int.le_refl _, hc, fun r h1 h2 => ?_⟩
    cases e:c r with
    | false=>rfl
    | true=>exact absurd ⟨r,h1,h2,e⟩ h
 exact key (x - lo).toNat x (by omega) hx.2 hc
end Go.Pm
namespace Go.Proofs
open Go Go.Pm
set_option maxRecDepth 100000
theorem ziu (l:Sl Gate):zfV l=zmS (l.get 0) (l.get 1):=by
 have e:∀ a b,zMH a b=zjT a b:=fun a b=>zuF _ _
 unfold zfV zmS
 simp only [e]
def zd9 (l:Sl Gate):Int:=mnL ((zmS (l.get 0) (l.get 1)).map fun y=>zdg ((tbl l 0).2 y) 0)
section
variable {l:Sl Gate} (H:BG l)
include H
theorem zl3:(∃ p q,inG (l.get 0) p∧inG (l.get 1) q∧Lk l 0 p q=zd9 l)∧(∀ p q,inG (l.get 0) p→inG (l.get 1) q→zd9 l≤Lk l 0 p q)∧0≤zd9 l:=by
 have hl:=H.hi;have hlo:=H.lo
 have hnn:∀ x∈(zmS (l.get 0) (l.get 1)).map (fun y=>zdg ((tbl l 0).2 y) 0),0≤x:=fun x hx=>by
  obtain ⟨y,hy,rfl⟩:=List.mem_map.1 hx
  obtain ⟨p,q,rfl,hp,hq⟩:=zd8.1 hy
  exact zqE H (l.len - 2) 0 (by omega) p q hp hq
 have hne:(zmS (l.get 0) (l.get 1)).map (fun y=>zdg ((tbl l 0).2 y) 0) ≠ []:=fun e=>by
  have b0:=zdK H 0 (by omega)
  have b1:=zdK H 1 (by omega)
  have:[(l.get 0).Low,(l.get 1).Low]∈zmS (l.get 0) (l.get 1):=zgj.2 ⟨⟨Int.le_refl _,b0.2.2.1⟩,Int.le_refl _,b1.2.2.1⟩
  rw [List.map_eq_nil_iff.1 e] at this;simp at this
 obtain ⟨h1,h2⟩:=zoU hnn hne
 refine ⟨?_,fun p q hp hq=>h2 _ (List.mem_map.2 ⟨[p,q],zgj.2 ⟨hp,hq⟩,rfl⟩),hnn _ h1⟩
 obtain ⟨y,hy,e⟩:=List.mem_map.1 h1
 obtain ⟨p,q,rfl,hp,hq⟩:=zd8.1 hy
 exact ⟨p,q,hp,hq,e⟩
end
end Go.Proofs
namespace Go.Proofs
open Go Go.Pm
set_option maxRecDepth 100000
def zQz (l:Sl Gate) (K:Int) (f:Nat→Int):Prop:=Lin l f∧∀ j,j+2 < l.len→tvl l j (f j) (f (j+1)) (f (j+2))≤K
structure Ch (l : Sl Gate) (K : Int) (i : Nat) (v : Nat → Int) : Prop where
  ing:∀ j,j < i→inG (l.get j) (v j)
  kin:∀ j,j+2 < i→tvl l j (v j) (v (j+1)) (v (j+2))≤K
  rest:Lk l (i - 2) (v (i - 2)) (v (i - 1))≤K
  lex:∀ f,zQz l K f→∀ j,j < i→(∀ j',j' < j→f j'=v j')→v j≤f j
theorem zCL {α:Type} (n:Nat) (f:Nat→α) (x:α) (j:Nat) (hj:j≤n):zeD n f (fun _=>x) j=if j=n then x else f j:=by
 unfold zeD
 by_cases h:j=n
 ·subst h;rw [if_pos rfl,show Nat.ble j j=true from by simp]
 ·rw [if_neg h,show Nat.ble n j=false from by cases e:Nat.ble n j with | true=>have:=Nat.le_of_ble_eq_true e;omega | false=>rfl]
section
variable {l:Sl Gate} (H:BG l)
include H
theorem zuM (i:Nat) (hi:i+1 < l.len) (p q:Int):zdg (((s93 l).get i).F [p,q]) 0=Lk l i p q:=by
 rw [((zjL H).2.2 i hi).2];rfl
theorem zLV (K : Int) (hK : 0 ≤ K) (i : Nat) (h2 : 2 ≤ i) (hi : i < l.len) (v : Sl Int) (hv : v.len = i) (C : Ch l K i v.get) (S8 : Int → Int → (Sl Int) → ((Sl Int) × Int × Int)) (P8 : Int → Int → (Sl Int) → Bool) :
    ∃ o:Sl Int,o.len=i+1∧Ch l K (i+1) o.get∧zf1 l (s93 l) P8 K (i:Int) v=P8 K (w64 ((i:Int)+1)) o∧zf0 l (s93 l) S8 K (i:Int) v=S8 K (w64 ((i:Int)+1)) o:=by
  have hl:=H.hi;have hlo:=H.lo
  have e1:w64 ((i:Int) - (1:Int))=((i - 1:Nat):Int):=zjw (by omega) (by omega)
  have e2:w64 ((i:Int) - (2:Int))=((i - 2:Nat):Int):=by rw [za8 (by omega) (by omega)];omega
  obtain ⟨b1,b2,b3,_,_⟩:=zdK H i hi
  have hp:=C.ing (i - 2) (by omega)
  have hq:=C.ing (i - 1) (by omega)
  have ei:i - 2+1=i - 1:=by omega
  have ei2:i - 2+2=i:=by omega
  let c:Int→Bool:=fun r=>decide (tvl l (i - 2) (v.get (i - 2)) (v.get (i - 1)) r≤K) && decide (Lk l (i - 1) (v.get (i - 1)) r≤K)
  obtain ⟨⟨r1,x1,x2,x3⟩,_⟩:=zAU H (i - 2) (by omega) (v.get (i - 2)) (v.get (i - 1)) hp (by rw [ei];exact hq)
  rw [ei2] at x1
  rw [ei] at x2
  have hc1:c r1=true:=by
    show (decide _ && decide _)=true
    rw [Bool.and_eq_true,decide_eq_true_eq,decide_eq_true_eq]
    exact ⟨Int.le_trans x3 C.rest,Int.le_trans x2 C.rest⟩
  obtain ⟨r0,y1,y2,_,y4,y5⟩:=zoY (c:=c) x1 hc1
  have t9 : ∀ (S9 : Int → Int → Int → Int → Int → (Sl Int) → ((Sl Int) × Int × Int)) (r : Int), r ≤ (l.get i).High → zhc S8 l (s93 l) S9 K (i : Int) (v.get (i - 2)) (v.get (i - 1)) r v =
      cond (c r) (S8 K (w64 ((i:Int)+1)) ⟨v.len+1,zeD v.len v.get (fun _=>r)⟩) (S9 K (i:Int) (v.get (i - 2)) (v.get (i - 1)) (w64 (r+1)) v):=by
    intro S9 r hr
    unfold zhc zh6
    rw [e1,e2,Int.toNat_natCast,Int.toNat_natCast,Int.toNat_natCast,decide_eq_true hr,cond_true,zuM H (i - 1) (by omega)]
    show cond (decide (s85 _ _ _ _ _ _≤K)) _ _=cond (decide _ && decide _) _ _
    have et:s85 (l.get (i - 2)).Z (l.get (i - 1)).Z (l.get i).Z (v.get (i - 2)) (v.get (i - 1)) r=tvl l (i - 2) (v.get (i - 2)) (v.get (i - 1)) r:=by unfold tvl;rw [ei,ei2]
    rw [et]
    cases decide (tvl l (i - 2) (v.get (i - 2)) (v.get (i - 1)) r≤K) <;> rfl
  have p9 : ∀ (P9 : Int → Int → Int → Int → Int → (Sl Int) → Bool) (r : Int), r ≤ (l.get i).High → zhd P8 l (s93 l) P9 K (i : Int) (v.get (i - 2)) (v.get (i - 1)) r v =
      cond (c r) (P8 K (w64 ((i:Int)+1)) ⟨v.len+1,zeD v.len v.get (fun _=>r)⟩) (P9 K (i:Int) (v.get (i - 2)) (v.get (i - 1)) (w64 (r+1)) v):=by
    intro P9 r hr
    have hp85:p85 (l.get (i - 2)).Z (l.get (i - 1)).Z (l.get i).Z (v.get (i - 2)) (v.get (i - 1)) r=true:=by
      have:=zAQ H (i - 2) (by omega) (v.get (i - 2)) (v.get (i - 1)) r
      rwa [ei,ei2] at this
    unfold zhd zh7
    rw [e1,e2,Int.toNat_natCast,Int.toNat_natCast,Int.toNat_natCast,decide_eq_true hr,cond_true,zuM H (i - 1) (by omega),hp85,(zjL H).2.1,hv,
      decide_eq_true (show 0≤(i:Int)∧(i:Int) < (l.len:Int) by omega),decide_eq_true (show 0≤((i - 2:Nat):Int)∧((i - 2:Nat):Int) < (l.len:Int) by omega),decide_eq_true (show 0≤((i - 1:Nat):Int)∧((i - 1:Nat):Int) < (l.len:Int) by omega),
      decide_eq_true (show 0≤((i - 1:Nat):Int)∧((i - 1:Nat):Int) < ((l.len - 1:Nat):Int) by omega),decide_eq_true (show (i+1) * 8≤140737488355328∧i+1≤9223372036854775807 by omega)]
    simp only [decide_true,Bool.true_and]
    have et:s85 (l.get (i - 2)).Z (l.get (i - 1)).Z (l.get i).Z (v.get (i - 2)) (v.get (i - 1)) r=tvl l (i - 2) (v.get (i - 2)) (v.get (i - 1)) r:=by unfold tvl;rw [ei,ei2]
    rw [et]
    show cond (decide _) (cond (decide _) _ _) _=cond (decide _ && decide _) _ _
    cases decide (tvl l (i - 2) (v.get (i - 2)) (v.get (i - 1)) r≤K) <;> rfl
  obtain ⟨L, _⟩ := zD8 (c := c) (lo := (l.get i).Low) (hi := (l.get i).High) (fd := fun r => S8 K (w64 ((i : Int) + 1)) ⟨v.len + 1, zeD v.len v.get (fun _ => r)⟩) (E := S8 K (w64 ((i : Int) + 1)) v)
    (fdP:=fun r=>P8 K (w64 ((i:Int)+1)) ⟨v.len+1,zeD v.len v.get (fun _=>r)⟩) (EP:=P8 K (w64 ((i:Int)+1)) v)
    (lpS:=fun k r=>zfY S8 l (s93 l) k K (i:Int) (v.get (i - 2)) (v.get (i - 1)) r v) (lpP:=fun k r=>zfZ P8 l (s93 l) k K (i:Int) (v.get (i - 2)) (v.get (i - 1)) r v)
    (fun k r _ hr=>t9 (zfY S8 l (s93 l) k) r hr)
    (fun k r _ hr=>by
      show zhc S8 l (s93 l) (zfY S8 l (s93 l) k) K (i:Int) (v.get (i - 2)) (v.get (i - 1)) r v=_
      unfold zhc
      rw [Int.toNat_natCast,decide_eq_false (show ¬ r≤(l.get i).High by omega),cond_false])
    (fun k r _ hr=>p9 (zfZ P8 l (s93 l) k) r hr)
    (fun k r _ hr=>by
      show zhd P8 l (s93 l) (zfZ P8 l (s93 l) k) K (i:Int) (v.get (i - 2)) (v.get (i - 1)) r v=_
      unfold zhd
      rw [Int.toNat_natCast,decide_eq_false (show ¬ r≤(l.get i).High by omega),cond_false,decide_eq_true (show 0≤(i:Int)∧(i:Int) < (l.len:Int) by omega),Bool.true_and])
    (by omega) (by omega) (by omega)
  obtain ⟨L1,L2⟩:=L r0 y1 y2 y4 y5
  have hc0:tvl l (i - 2) (v.get (i - 2)) (v.get (i - 1)) r0≤K∧Lk l (i - 1) (v.get (i - 1)) r0≤K:=by
    have y4:(decide (tvl l (i - 2) (v.get (i - 2)) (v.get (i - 1)) r0≤K) && decide (Lk l (i - 1) (v.get (i - 1)) r0≤K))=true:=y4
    rwa [Bool.and_eq_true,decide_eq_true_eq,decide_eq_true_eq] at y4
  have og:∀ j,j≤i→zeD i v.get (fun _=>r0) j=if j=i then r0 else v.get j:=fun j hj=>zCL i v.get r0 j hj
  refine ⟨⟨v.len+1,zeD v.len v.get (fun _=>r0)⟩,by show v.len+1=i+1;rw [hv],?_,?_,?_⟩
  · rw [hv]
    refine ⟨fun j hj=>?_,fun j hj=>?_,?_,fun f hf j hj hb=>?_⟩
    · show inG _ (zeD i v.get (fun _ => r0) j)
      rw [og j (by omega)]
      split
      · rename_i e;rw [e];exact ⟨y1,y2⟩
      · exact C.ing j (by omega)
    · show tvl l j (zeD i v.get (fun _ => r0) j) (zeD i v.get (fun _ => r0) (j + 1)) (zeD i v.get (fun _ => r0) (j + 2)) ≤ K
      rw [og j (by omega),og (j+1) (by omega),og (j+2) (by omega),if_neg (by omega),if_neg (by omega)]
      split
      · rename_i e
        rw [show j=i - 2 by omega,ei];exact hc0.1
      · exact C.kin j (by omega)
    · show Lk l (i + 1 - 2) (zeD i v.get (fun _ => r0) (i + 1 - 2)) (zeD i v.get (fun _ => r0) (i + 1 - 1)) ≤ K
      rw [show i+1 - 2=i - 1 by omega,show i+1 - 1=i by omega,og (i - 1) (by omega),og i (by omega),if_neg (by omega),if_pos rfl]
      exact hc0.2
    · have hb : ∀ j', j' < j → f j' = zeD i v.get (fun _ => r0) j' := hb
      show zeD i v.get (fun _=>r0) j≤f j
      have hb':∀ j',j' < j→f j'=v.get j':=fun j' h=>by rw [hb j' h,og j' (by omega),if_neg (by omega)]
      rw [og j (by omega)]
      split
      · rename_i e
        subst e
        have g1:=hf.2 (j - 2) (by omega)
        rw [ei,ei2,hb' (j - 2) (by omega),hb' (j - 1) (by omega)] at g1
        have g2:=zsZ H f hf.1 K hK (l.len - (j - 1) - 2) (j - 1) (by omega) (fun j' _ h=>hf.2 j' h)
        rw [show j - 1+1=j by omega,hb' (j - 1) (by omega)] at g2
        have hcf:c (f j)=true:=by
          show (decide _ && decide _)=true
          rw [Bool.and_eq_true,decide_eq_true_eq,decide_eq_true_eq]
          exact ⟨g1,g2⟩
        have hin:=hf.1 j (by omega)
        by_cases hlt:f j < r0
        · rw [y5 (f j) hin.1 hlt] at hcf;cases hcf
        · omega
      · exact C.lex f hf j (by omega) hb'
  · unfold zf1 zrR
    rw [decide_eq_true (show (i:Int) < (l.len:Int) by omega),cond_true,e1,e2,Int.toNat_natCast,Int.toNat_natCast,Int.toNat_natCast,
      decide_eq_true (show 0≤((i - 2:Nat):Int)∧((i - 2:Nat):Int) < (v.len:Int) by omega),decide_eq_true (show i - 2 < v.len by omega),decide_eq_true (show 0≤((i - 1:Nat):Int)∧((i - 1:Nat):Int) < (v.len:Int) by omega),decide_eq_true (show i - 1 < v.len by omega),decide_eq_true (show 0≤(i:Int)∧(i:Int) < (l.len:Int) by omega)]
    simp only [Bool.true_and]
    exact L1
  · unfold zf0 zrQ
    rw [decide_eq_true (show (i:Int) < (l.len:Int) by omega),cond_true,e1,e2,Int.toNat_natCast,Int.toNat_natCast,Int.toNat_natCast]
    exact L2
end
end Go.Proofs
namespace Go.Proofs
open Go Go.Pm
set_option maxRecDepth 100000
section
variable {l:Sl Gate} (H:BG l)
include H
theorem zLW (K:Int) (hK:0≤K) (v:Sl Int) (hv:v.len=2) (C:Ch l K 2 v.get):zfk l (s93 l) K v=true∧∃ o:Sl Int,zfj l (s93 l) K v=(o,K,0)∧o.len=l.len∧Ch l K l.len o.get:=by
 have hl:=H.hi;have hlo:=H.lo
 have key:∀ (m k i:Nat) (v:Sl Int),i+m=l.len→m < k→2≤i→v.len=i→Ch l K i v.get→zeo l (s93 l) k K (i:Int) v=true∧∃ o:Sl Int,zen l (s93 l) k K (i:Int) v=(o,K,0)∧o.len=l.len∧Ch l K l.len o.get:=by
  intro m
  induction m with
  | zero =>
   intro k i v hi hk _ hv C
   obtain ⟨k,rfl⟩:∃ k',k=k'+1:=⟨k - 1,by omega⟩
   have:i=l.len:=by omega
   subst this
   have ep:zeo l (s93 l) (k+1) K (l.len:Int) v=zf1 l (s93 l) (zeo l (s93 l) k) K (l.len:Int) v:=rfl
   have es:zen l (s93 l) (k+1) K (l.len:Int) v=zf0 l (s93 l) (zen l (s93 l) k) K (l.len:Int) v:=rfl
   rw [ep,es]
   unfold zf1 zf0
   rw [decide_eq_false (show ¬ (l.len:Int) < (l.len:Int) by omega),cond_false,cond_false]
   exact ⟨rfl,v,rfl,hv,C⟩
  | succ m ih =>
   intro k i v hi hk h2 hv C
   obtain ⟨k,rfl⟩:∃ k',k=k'+1:=⟨k - 1,by omega⟩
   obtain ⟨o,o1,o2,o3,o4⟩:=zLV H K hK i h2 (by omega) v hv C (zen l (s93 l) k) (zeo l (s93 l) k)
   have ep:zeo l (s93 l) (k+1) K (i:Int) v=zf1 l (s93 l) (zeo l (s93 l) k) K (i:Int) v:=rfl
   have es:zen l (s93 l) (k+1) K (i:Int) v=zf0 l (s93 l) (zen l (s93 l) k) K (i:Int) v:=rfl
   rw [ep,es,o3,o4,zcL (n:=l.len) (by omega) (by omega)]
   exact ih k (i+1) o (by omega) (by omega) (by omega) o1 o2
 exact key (l.len - 2) Fuel 2 v (by omega) (by simp only [Fuel];omega) (Nat.le_refl _) hv C
theorem zD9 (K p : Int) (S5 : Int → Int → ((Sl Int) × Int × Int)) (P5 : Int → Int → Bool) :
    (∀ q0,inG (l.get 1) q0→Lk l 0 p q0=K→(∀ q,inG (l.get 1) q→q < q0→Lk l 0 p q ≠ K)→znJ P5 l (s93 l) K p (l.get 1).Low=zfk l (s93 l) K ⟨2,zfN p [p,q0]⟩∧znI S5 l (s93 l) K p (l.get 1).Low=zfj l (s93 l) K ⟨2,zfN p [p,q0]⟩) ∧
    ((∀ q,inG (l.get 1) q→Lk l 0 p q ≠ K)→znJ P5 l (s93 l) K p (l.get 1).Low=P5 K (w64 (p+1))∧znI S5 l (s93 l) K p (l.get 1).Low=S5 K (w64 (p+1))):=by
  have hl:=H.hi;have hlo:=H.lo
  obtain ⟨b1,b2,b3,_,_⟩:=zdK H 1 (by omega)
  obtain ⟨F1, F2⟩ := zD8 (c := fun q => Lk l 0 p q == K) (lo := (l.get 1).Low) (hi := (l.get 1).High) (fd := fun q => zfj l (s93 l) K ⟨2, zfN p [p, q]⟩) (E := S5 K (w64 (p + 1))) (fdP := fun q => zfk l (s93 l) K ⟨2, zfN p [p, q]⟩) (EP := P5 K (w64 (p + 1)))
    (lpS:=fun k q=>zf2 S5 l (s93 l) k K p q) (lpP:=fun k q=>zf3 P5 l (s93 l) k K p q)
    (fun k q _ hr=>by
      show zhe S5 l (s93 l) (zf2 S5 l (s93 l) k) K p q=_
      unfold zhe
      rw [decide_eq_true hr,cond_true,zuM H 0 (by omega)])
    (fun k q _ hr=>by
      show zhe S5 l (s93 l) (zf2 S5 l (s93 l) k) K p q=_
      unfold zhe
      rw [decide_eq_false (show ¬ q≤(l.get 1).High by omega),cond_false])
    (fun k q _ hr=>by
      show zhf P5 l (s93 l) (zf3 P5 l (s93 l) k) K p q=_
      unfold zhf
      rw [decide_eq_true hr,cond_true,zuM H 0 (by omega),(zjL H).2.1,decide_eq_true (show 0≤(1:Int)∧(1:Int) < (l.len:Int) by omega),decide_eq_true (show 0≤(0:Int)∧(0:Int) < ((l.len - 1:Nat):Int) by omega),Bool.true_and,Bool.true_and])
    (fun k q _ hr=>by
      show zhf P5 l (s93 l) (zf3 P5 l (s93 l) k) K p q=_
      unfold zhf
      rw [decide_eq_false (show ¬ q≤(l.get 1).High by omega),cond_false,decide_eq_true (show 0≤(1:Int)∧(1:Int) < (l.len:Int) by omega),Bool.true_and])
    (by omega) (by omega) (by omega)
  constructor
  · intro q0 hq he hf
    exact F1 q0 hq.1 hq.2 (by simp [he]) fun q h1 h2=>by
      have:=hf q ⟨h1,by have:=hq.2;omega⟩ h2
      simpa using this
  · intro hf
    exact F2 fun q h1 h2=>by simpa using hf q ⟨h1,h2⟩
open Classical in
theorem zLX (K p0 q0 : Int) (hp : inG (l.get 0) p0) (hq : inG (l.get 1) q0) (he : Lk l 0 p0 q0 = K) (h1 : ∀ q, inG (l.get 1) q → q < q0 → Lk l 0 p0 q ≠ K) (h2 : ∀ p q, inG (l.get 0) p → inG (l.get 1) q → p < p0 → Lk l 0 p q ≠ K) :
  zrT l (s93 l) K (l.get 0).Low=zfk l (s93 l) K ⟨2,zfN p0 [p0,q0]⟩∧zrS l (s93 l) K (l.get 0).Low=zfj l (s93 l) K ⟨2,zfN p0 [p0,q0]⟩:=by
 have hl:=H.hi;have hlo:=H.lo
 obtain ⟨b1,b2,b3,_,_⟩:=zdK H 0 (by omega)
 have key:∀ (n k:Nat) (p:Int),(l.get 0).Low≤p→p+n=p0→n < k→zdP l (s93 l) k K p=zfk l (s93 l) K ⟨2,zfN p0 [p0,q0]⟩∧zdO l (s93 l) k K p=zfj l (s93 l) K ⟨2,zfN p0 [p0,q0]⟩:=by
  intro n
  induction n with
  | zero =>
   intro k p hl' hr hk
   obtain ⟨k,rfl⟩:∃ k',k=k'+1:=⟨k - 1,by omega⟩
   have:p=p0:=by omega
   subst this
   obtain ⟨a1,_⟩:=zD9 H K p (zdO l (s93 l) k) (zdP l (s93 l) k)
   obtain ⟨a2,a3⟩:=a1 q0 hq he h1
   have ep:zdP l (s93 l) (k+1) K p=zhh l (s93 l) (zdP l (s93 l) k) K p:=rfl
   have es:zdO l (s93 l) (k+1) K p=zhg l (s93 l) (zdO l (s93 l) k) K p:=rfl
   rw [ep,es]
   unfold zhh zhg
   rw [decide_eq_true (show p≤(l.get 0).High from hp.2),cond_true,cond_true,decide_eq_true (show 0≤(0:Int)∧(0:Int) < (l.len:Int) by omega),decide_eq_true (show 0≤(1:Int)∧(1:Int) < (l.len:Int) by omega),Bool.true_and,Bool.true_and]
   exact ⟨a2,a3⟩
  | succ n ih =>
   intro k p hl' hr hk
   obtain ⟨k,rfl⟩:∃ k',k=k'+1:=⟨k - 1,by omega⟩
   obtain ⟨_,a1⟩:=zD9 H K p (zdO l (s93 l) k) (zdP l (s93 l) k)
   have hpin:inG (l.get 0) p:=⟨hl',by have:=hp.2;omega⟩
   obtain ⟨a2,a3⟩:=a1 fun q hq'=>h2 p q hpin hq' (by omega)
   have ep:zdP l (s93 l) (k+1) K p=zhh l (s93 l) (zdP l (s93 l) k) K p:=rfl
   have es:zdO l (s93 l) (k+1) K p=zhg l (s93 l) (zdO l (s93 l) k) K p:=rfl
   have hph:=hp.2
   rw [ep,es]
   unfold zhh zhg
   rw [decide_eq_true (show p≤(l.get 0).High by omega),cond_true,cond_true,decide_eq_true (show 0≤(0:Int)∧(0:Int) < (l.len:Int) by omega),decide_eq_true (show 0≤(1:Int)∧(1:Int) < (l.len:Int) by omega),Bool.true_and,Bool.true_and,a2,a3,za8 (by omega) (by omega)]
   exact ih k (p+1) (by omega) (by omega) (by omega)
 have hph:=hp.1;have hp2:=hp.2
 exact key (p0 - (l.get 0).Low).toNat Fuel _ (Int.le_refl _) (by omega) (by simp only [Fuel];omega)
theorem zLY:p55 l=true∧∃ o:Sl Int,s55 l=(o,zd9 l,0)∧o.len=l.len∧Ch l (zd9 l) l.len o.get:=by
 have hl:=H.hi;have hlo:=H.lo
 obtain ⟨⟨p1,q1,hp1,hq1,e1⟩,kmin,knn⟩:=zl3 H
 obtain ⟨p0,a1,a2,_,a4,a5⟩:=zoY (c:=fun p=>(zjT (l.get 1).Low (l.get 1).High).any fun q=>Lk l 0 p q == zd9 l) hp1 (by
  rw [List.any_eq_true];exact ⟨q1,zc8.2 hq1,by simp [e1]⟩)
 have a4:((zjT (l.get 1).Low (l.get 1).High).any fun q=>Lk l 0 p0 q == zd9 l)=true:=a4
 rw [List.any_eq_true] at a4
 obtain ⟨q2,c1,c2⟩:=a4
 obtain ⟨q0,d1,d2,_,d4,d5⟩:=zoY (c:=fun q=>Lk l 0 p0 q == zd9 l) (zc8.1 c1) c2
 have he:Lk l 0 p0 q0=zd9 l:=by simpa using d4
 have hf2:∀ p q,inG (l.get 0) p→inG (l.get 1) q→p < p0→Lk l 0 p q ≠ zd9 l:=fun p q hp hq hlt e=>by
  have:=a5 p hp.1 hlt
  have h:((zjT (l.get 1).Low (l.get 1).High).any fun q=>Lk l 0 p q == zd9 l)=true:=List.any_eq_true.2 ⟨q,zc8.2 hq,by simp [e]⟩
  rw [h] at this;cases this
 have hf1:∀ q,inG (l.get 1) q→q < q0→Lk l 0 p0 q ≠ zd9 l:=fun q hq hlt e=>by
  have:=d5 q hq.1 hlt
  simp [e] at this
 have C:Ch l (zd9 l) 2 (zfN p0 [p0,q0]):=by
  have g0:zfN p0 [p0,q0] 0=p0:=rfl
  have g1:zfN p0 [p0,q0] 1=q0:=rfl
  refine ⟨fun j hj=>?_,fun j hj=>by omega,by rw [show (2 - 2:Nat)=0 from rfl,show (2 - 1:Nat)=1 from rfl,g0,g1,he];exact Int.le_refl _,fun f hf j hj hb=>?_⟩
  ·match j,hj with
   | 0,_=>exact ⟨a1,a2⟩
   | 1,_=>exact ⟨d1,d2⟩
  ·have f0 := hf.1 0 (by omega)
   have f1:=hf.1 1 (by omega)
   have hle:=zsZ H f hf.1 (zd9 l) knn (l.len - 2) 0 (by omega) (fun j _ h=>hf.2 j h)
   have hge:=kmin _ _ f0 f1
   have hle:Lk l 0 (f 0) (f 1)≤zd9 l:=hle
   have heq:Lk l 0 (f 0) (f 1)=zd9 l:=by omega
   match j,hj,hb with
   | 0,_,_ =>
    show p0≤f 0
    by_cases h:f 0 < p0
    ·exact absurd heq (hf2 _ _ f0 f1 h)
    ·omega
   | 1,_,hb =>
    show q0≤f 1
    have e0:f 0=p0:=hb 0 (by omega)
    rw [e0] at heq
    by_cases h:f 1 < q0
    ·exact absurd heq (hf1 _ f1 h)
    ·omega
 obtain ⟨z1,z2⟩:=zLW H (zd9 l) knn ⟨2,zfN p0 [p0,q0]⟩ rfl C
 obtain ⟨y1,y2⟩:=zLX H (zd9 l) p0 q0 ⟨a1,a2⟩ ⟨d1,d2⟩ he hf1 hf2
 obtain ⟨b1,b2⟩:=zD5 l (by omega)
 obtain ⟨t1,t2,t3⟩:=zjL H
 have hF:((s93 l).get 0).F=(tbl l 0).2:=(t3 0 (by omega)).2
 have hn:((s93 l).get 0).n=(tbl l 0).1:=(t3 0 (by omega)).1
 have hkeys:∀ y∈zfV l,y.length=2:=fun y hy=>by
  rw [ziu] at hy
  obtain ⟨p,q,rfl,_⟩:=zd8.1 hy
  rfl
 have hfold:(zfV l).foldl (kst ((s93 l).get 0).F) (-1)=zd9 l:=by
  rw [hF,ziu]
  unfold zd9 mnL
  rw [List.foldl_map]
  rfl
 unfold p55 s55 znV znU znT znS znR znQ znP znO
 rw [b1,b2.2 H,t1,t2,decide_eq_true (show 0≤(0:Int)∧(0:Int) < ((l.len - 1:Nat):Int) by omega),znM _ _ _ _ hkeys,znN _ _ _ _ hkeys,hfold]
 unfold zlg zlf znL znK
 rw [y1,y2,z1]
 have hkb:keysB 2 ((s93 l).get 0).n ((s93 l).get 0).F (zfV l)=true:=by
  unfold keysB
  rw [hn,hF,zLO,ziu,Bool.and_eq_true,Bool.and_eq_true,zgr,List.all_eq_true]
  refine ⟨⟨by simp,fun y hy=>?_⟩,zgB _ _⟩
  have hy':=(zuI l 0 y).2 hy
  obtain ⟨p,q,rfl,_⟩:=zd8.1 hy
  rw [Bool.and_eq_true]
  exact ⟨rfl,Option.isSome_iff_ne_none.2 hy'⟩
 have hI:zeE l (s93 l) (zfV l)=true:=by
  unfold zeE
  rw [List.all_eq_true]
  intro y hy
  rw [ziu] at hy
  obtain ⟨p,q,rfl,hp,hq⟩:=zd8.1 hy
  rw [hF]
  exact decide_eq_true (zqE H (l.len - 2) 0 (by omega) p q hp hq)
 rw [hkb,hI,decide_eq_true (show 0≤(0:Int)∧(0:Int) < (l.len:Int) by omega)]
 exact ⟨rfl,z2⟩
end
end Go.Proofs
namespace Go.Proofs
open Go Go.Pm
set_option maxRecDepth 100000
theorem zLZ (a b:Sl Int) (hl:a.len=b.len) (hn:a.len≤9223372036854775807) (h:∀ j,j < a.len→(∀ j',j' < j→a.get j'=b.get j')→b.get j≤a.get j):p39 a b=true∧¬ s39 a b < 0:=by
 have key:∀ (m k i:Nat),i+m=a.len→m < k→(∀ j,j < i→a.get j=b.get j)→zg0 a b k (i:Int)=true∧¬ zgZ a b k (i:Int) < 0:=by
  intro m
  induction m with
  | zero =>
   intro k i hi hk _
   obtain ⟨k,rfl⟩:∃ k',k=k'+1:=⟨k - 1,by omega⟩
   have:i=a.len:=by omega
   subst this
   have ep:zg0 a b (k+1) (a.len:Int)=ziJ a b (zg0 a b k) (a.len:Int):=rfl
   have es:zgZ a b (k+1) (a.len:Int)=ziI a b (zgZ a b k) (a.len:Int):=rfl
   rw [ep,es]
   unfold ziJ ziI znx
   rw [← hl,decide_eq_false (show ¬ (a.len:Int) < (a.len:Int) by omega)]
   simp only [cond_false]
   exact ⟨trivial,by omega⟩
  | succ m ih =>
   intro k i hi hk hb
   obtain ⟨k,rfl⟩:∃ k',k=k'+1:=⟨k - 1,by omega⟩
   have ep:zg0 a b (k+1) (i:Int)=ziJ a b (zg0 a b k) (i:Int):=rfl
   have es:zgZ a b (k+1) (i:Int)=ziI a b (zgZ a b k) (i:Int):=rfl
   have hle:=h i (by omega) hb
   rw [ep,es]
   unfold ziJ ziI
   rw [← hl,decide_eq_true (show (i:Int) < (a.len:Int) by omega),decide_eq_true (show 0≤(i:Int)∧(i:Int) < (a.len:Int) by omega),cond_true,cond_true,cond_true,cond_true,Int.toNat_natCast,decide_eq_false (show ¬ a.get i < b.get i by omega)]
   simp only [Bool.true_and,cond_false]
   by_cases hg:a.get i > b.get i
   ·rw [decide_eq_true hg]
    simp only [cond_true]
    exact ⟨trivial,by omega⟩
   ·rw [decide_eq_false hg, cond_false, cond_false, zcL (n := a.len) (by omega) hn]
    refine ih k (i+1) (by omega) (by omega) fun j hj=>?_
    by_cases e:j=i
    ·subst e;omega
    ·exact hb j (by omega)
 exact key a.len Fuel 0 (by omega) (by simp only [Fuel];omega) (fun j hj=>by omega)
theorem zfy {σ : Type} (f g : Nat → σ → σ) : ∀ (m a : Nat) (s : σ), (∀ i k, a ≤ i → i < a + m → f i k = g i k) → zdU f m a s = zdU g m a s
  | 0,_,_,_=>rfl
  | m+1,a,s,h=>by
    rw [zdU,zdU,h a s (Nat.le_refl _) (by omega)]
    exact zfy f g m (a+1) _ fun i k h1 h2=>h i k (by omega) (by omega)
theorem zIz (t:Nat→Int) (m:Nat):∀ (i:Nat) (k:Int),k≤zdU (fun i k=>if t i > k then t i else k) m i k∧(∀ j,i≤j→j < i+m→t j≤zdU (fun i k=>if t i > k then t i else k) m i k) ∧
  (zdU (fun i k=>if t i > k then t i else k) m i k=k∨∃ j,i≤j∧j < i+m∧zdU (fun i k=>if t i > k then t i else k) m i k=t j):=by
 induction m with
 | zero=>intro i k;exact ⟨Int.le_refl _,fun j h1 h2=>by omega,.inl rfl⟩
 | succ m ih =>
  intro i k
  obtain ⟨h1,h2,h3⟩:=ih (i+1) (if t i > k then t i else k)
  have e:zdU (fun i k=>if t i > k then t i else k) (m+1) i k=zdU (fun i k=>if t i > k then t i else k) m (i+1) (if t i > k then t i else k):=rfl
  rw [e]
  generalize zdU (fun i k=>if t i > k then t i else k) m (i+1) (if t i > k then t i else k)=r at *
  refine ⟨by split at h1 <;> omega,fun j a b=>?_,?_⟩
  ·by_cases hj : j = i
   ·subst hj;split at h1 <;> omega
   ·exact h2 j (by omega) (by omega)
  ·rcases h3 with h3 | ⟨j, a, b, c⟩
   ·split at h3
    ·exact .inr ⟨i,Nat.le_refl _,by omega,h3⟩
    ·exact .inl h3
   ·exact .inr ⟨j,by omega,by omega,c⟩
section
variable {l:Sl Gate} (H:BG l)
include H
theorem zAW (p:Sl Int) (hp:p.len=l.len) (hL:Lin l p.get):∃ n,s44 (s61 l) p=(n,0)∧(p46 (s61 l) p=true∧s46 (s61 l) p=n)∧p61 l=true∧p44 (s61 l) p=true∧0≤n∧(∀ j,j+2 < l.len→tvl l j (p.get j) (p.get (j+1)) (p.get (j+2))≤n) ∧
  (∀ K,0≤K→(∀ j,j+2 < l.len→tvl l j (p.get j) (p.get (j+1)) (p.get (j+2))≤K)→n≤K):=by
 have hl:=H.hi;have hlo:=H.lo
 obtain ⟨e1,e2⟩:=zLK l (by omega)
 rw [e2]
 have zg:∀ j,j < l.len→(zsS l l.len).get j=(l.get j).Z:=fun j hj=>zhE l l.len j hj
 have zl:=zeJ l l.len
 have HH:HOK (zsS l l.len):=⟨fun i hi=>by
  rw [zl] at hi
  unfold inc
  rw [zg i hi]
  refine decide_eq_true ⟨(H.ok i hi).1,fun h0=>?_⟩
  rw [zg (i - 1) (by omega)]
  have:=H.inc (i - 1) (by omega)
  rwa [Nat.sub_add_cancel h0] at this,by rw [zl];exact ⟨hlo,hl⟩⟩
 have wz:wf_39 (zsS l l.len):=⟨by rw [zl];omega,fun i hi=>by have:=zAM HH hi;show wfI _;unfold wfI;omega⟩
 have hV:VOK (zsS l l.len) p:=⟨HH,by rw [zl];exact hp,fun i hi=>by
  have h1:=hL i (by omega)
  have h2:=zdK H i (by omega)
  unfold inG at h1
  exact decide_eq_true (by omega)⟩
 obtain ⟨a,b⟩:=(zLJ _ p wz).1 hV
 have ek:∀ i k,0≤i→i < 0+(l.len - 2)→kk (zsS l l.len) p i k=(fun i k=>if tvl l i (p.get i) (p.get (i+1)) (p.get (i+2)) > k then tvl l i (p.get i) (p.get (i+1)) (p.get (i+2)) else k) i k:=fun i k _ hi=>by
  show (if _ > k then _ else k)=(if _ > k then _ else k)
  unfold tvl
  rw [zg i (by omega),zg (i+1) (by omega),zg (i+2) (by omega)]
 have ef:zdU (kk (zsS l l.len) p) ((zsS l l.len).len - 2) 0 0=zdU (fun i k=>if tvl l i (p.get i) (p.get (i+1)) (p.get (i+2)) > k then tvl l i (p.get i) (p.get (i+1)) (p.get (i+2)) else k) (l.len - 2) 0 0:=by
  rw [zl]
  exact zfy _ _ (l.len - 2) 0 0 ek
 obtain ⟨f1,f2,f3⟩:=zIz (fun i=>tvl l i (p.get i) (p.get (i+1)) (p.get (i+2))) (l.len - 2) 0 0
 rw [ef] at b
 refine ⟨_,b,(by have h46:=zLH _ p HH (by rw [zl];exact hp);rw [ef] at h46;exact h46),e1,a,f1,fun j hj=>f2 j (Nat.zero_le _) (by omega),fun K hK h=>?_⟩
 rcases f3 with f3 | ⟨j,_,j2,f3⟩
 ·rw [f3];exact hK
 ·rw [f3];exact h j (by omega)
end
end Go.Proofs
namespace Go.Proofs
open Go Go.Pm
set_option maxRecDepth 100000
section
variable {l:Sl Gate} (H:BG l)
include H
theorem zEa (f : Nat → Int) (hf : Lin l f) (k : Int) (hk : 0 ≤ k) (ht : ∀ j, j + 2 < l.len → tvl l j (f j) (f (j + 1)) (f (j + 2)) ≤ k) : ∀ j, j + 1 < l.len → Gd l k j (f j) (f (j + 1))
  | 0,hj=>⟨hf 0 (by omega),hf 1 hj,zsZ H f hf k hk (l.len - 2) 0 (by have:=H.lo;omega) (fun j _ h=>ht j h)⟩
  | j+1,hj=>⟨hf (j+2) (by omega),f j,zEa f hf k hk ht j (by omega),ht j (by omega),zsZ H f hf k hk (l.len - 2 - (j+1)) (j+1) (by omega) (fun j' _ h=>ht j' h)⟩
theorem zIA (places o : Sl Int) (sv : Sl Span) (less : Int) (hp : places.len = l.len) (ho : o.len = l.len) (C : Ch l (zd9 l) l.len o.get) (hL : Lin l places.get)
    (Hs:zd9 l≤less→sv.len=l.len∧∀ j p q,j+1 < l.len→Gd l less j p q→inS (sv.get j) p∧inS (sv.get (j+1)) q) (hl0:0≤less) :
    zkh l places less o (zd9 l) sv=true∧zkg l places less o (zd9 l) sv=true:=by
  have hl:=H.hi;have hlo:=H.lo
  obtain ⟨n,k1,_,k2,k3,k4,k5,k6⟩:=zAW H places hp hL
  obtain ⟨_,km,kn⟩:=zl3 H
  have hn:zd9 l≤n:=by
    have h1:=zsZ H places.get hL n k4 (l.len - 2) 0 (by omega) (fun j _ h=>k5 j h)
    exact Int.le_trans (km _ _ (hL 0 (by omega)) (hL 1 (by omega))) h1
  have h13:zke l places less n sv=true∧zkd l places less n sv=true:=by
    unfold zke zkd
    by_cases hless:n > less
    · rw [decide_eq_true hless];exact ⟨rfl,rfl⟩
    · rw [decide_eq_false hless, cond_false, cond_false]
      obtain ⟨e1,e2⟩:=Hs (by omega)
      have hin:∀ j,j < l.len→inS (sv.get j) (places.get j):=by
        intro j hj
        have hg:=fun i hi=>zEa H places.get hL less hl0 (fun j h=>Int.le_trans (k5 j h) (by omega)) i hi
        by_cases e:j+1 < l.len
        · exact (e2 j _ _ e (hg j e)).1
        · have := (e2 (j - 1) _ _ (by omega) (hg (j - 1) (by omega))).2
          rwa [show j - 1+1=j by omega] at this
      unfold zoJ zoI zoH zoG zoF zoE
      rw [e1]
      simp only [bne_self_eq_false,cond_false]
      have := zj1 (good := fun _ => true) (fin := true) (n := l.len) (lpS := zio l places sv) (lpP := ziq l places sv)
        (fun k i hi=>by
          show zgy l places sv (zio l places sv k) (i:Int)=_
          unfold zgy
          have a:=hin i hi
          unfold inS at a
          rw [decide_eq_true (show (i:Int) < (l.len:Int) by omega),cond_true,Int.toNat_natCast,decide_eq_false (by omega),decide_eq_false (by omega)]
          rfl)
        (fun k=>by
          show zgy l places sv (zio l places sv k) (l.len:Int)=_
          unfold zgy
          rw [decide_eq_false (by omega),cond_false])
        (fun k i hi=>by
          show zgz l places sv (ziq l places sv k) (i:Int)=_
          unfold zgz
          have a:=hin i hi
          unfold inS at a
          rw [decide_eq_true (show (i:Int) < (l.len:Int) by omega),cond_true,Int.toNat_natCast,hp,e1,decide_eq_true (show 0≤(i:Int)∧(i:Int) < (l.len:Int) by omega),decide_eq_false (by omega),decide_eq_false (by omega)]
          rfl)
        (fun k=>by
          show zgz l places sv (ziq l places sv k) (l.len:Int)=_
          unfold zgz
          rw [decide_eq_false (by omega),cond_false])
        (by omega)
      exact ⟨this.1,this.2.2 ⟨fun _ _=>rfl,rfl⟩⟩
  unfold zkh zkg
  rw [k2,k3,k1]
  unfold zoL zoK
  simp only [bne_self_eq_false,cond_false,decide_true,Bool.true_and]
  rw [decide_eq_false (show ¬ n < zd9 l by omega),cond_false,cond_false]
  by_cases he:n=zd9 l
  · have hge := zLZ places o (by omega) (by omega) (fun j hj hb => C.lex places.get ⟨hL, fun j h => by rw [← he]; exact k5 j h⟩ j (by omega) hb)
    rw [show (n == zd9 l)=true from by simp [he],cond_true,cond_true,hge.1,decide_eq_false hge.2]
    simp only [decide_true,Bool.true_and]
    unfold zfx zfw
    rw [cond_false,cond_false]
    exact h13
  · rw [show (n == zd9 l) = false from by simp [he], cond_false, cond_false]
    unfold zfx zfw
    rw [cond_false,cond_false]
    exact h13
theorem zL0 (places:Sl Int) (less:Int) (hp:places.len=l.len) (h0:0≤less) (h1:less≤1000000):zoR l places less=true∧zoQ l places less=true:=by
 have hl:=H.hi;have hlo:=H.lo
 obtain ⟨c1,o,c2,c3,C⟩:=zLY H
 have LO:Lin l o.get:=fun j hj=>C.ing j hj
 obtain ⟨n,k1,_,k2,k3,k4,k5,k6⟩:=zAW H o c3 LO
 obtain ⟨kex,km,kn⟩:=zl3 H
 have hn:n=zd9 l:=by
  have h1:=zsZ H o.get LO n k4 (l.len - 2) 0 (by omega) (fun j _ h=>k5 j h)
  have h2:=Int.le_trans (km _ _ (LO 0 (by omega)) (LO 1 (by omega))) h1
  have h3:=k6 (zd9 l) kn (fun j h=>C.kin j h)
  omega
 subst hn
 obtain ⟨d1,d2,d3⟩:=zLU H less ⟨h0,h1⟩
 have key:∀ sv:Sl Span,(zd9 l≤less→sv.len=l.len∧∀ j p q,j+1 < l.len→Gd l less j p q→inS (sv.get j) p∧inS (sv.get (j+1)) q) →
   zoN l places less o (zd9 l) sv=true∧zoM l places less o (zd9 l) sv=true:=by
  intro sv Hs
  have go:∀ (m k i:Nat),i+m=l.len→m < k→(∀ j,j < i→inG (l.get j) (places.get j))→zhB l places less o (zd9 l) k sv (i:Int)=true∧zhA l places less o (zd9 l) k sv (i:Int)=true:=by
   intro m
   induction m with
   | zero =>
    intro k i hi hk hb
    obtain ⟨k,rfl⟩:∃ k',k=k'+1:=⟨k - 1,by omega⟩
    have:i=l.len:=by omega
    subst this
    have ep:zhB l places less o (zd9 l) (k+1) sv (l.len:Int)=zjv l places less o (zd9 l) (zhB l places less o (zd9 l) k) sv (l.len:Int):=rfl
    have es:zhA l places less o (zd9 l) (k+1) sv (l.len:Int)=zju l places less o (zd9 l) (zhA l places less o (zd9 l) k) sv (l.len:Int):=rfl
    rw [ep,es]
    unfold zjv zju
    rw [decide_eq_false (show ¬ (l.len:Int) < (l.len:Int) by omega),cond_false,cond_false]
    exact zIA H places o sv less hp c3 C (fun j hj=>hb j hj) Hs h0
   | succ m ih =>
    intro k i hi hk hb
    obtain ⟨k,rfl⟩:∃ k',k=k'+1:=⟨k - 1,by omega⟩
    have ep:zhB l places less o (zd9 l) (k+1) sv (i:Int)=zjv l places less o (zd9 l) (zhB l places less o (zd9 l) k) sv (i:Int):=rfl
    have es:zhA l places less o (zd9 l) (k+1) sv (i:Int)=zju l places less o (zd9 l) (zhA l places less o (zd9 l) k) sv (i:Int):=rfl
    rw [ep,es]
    have ho:=LO i (by omega)
    unfold inG at ho
    unfold zjv zju zsO zsN
    rw [decide_eq_true (show (i:Int) < (l.len:Int) by omega),cond_true,cond_true,Int.toNat_natCast,c3,hp,decide_eq_true (show 0≤(i:Int)∧(i:Int) < (l.len:Int) by omega),
     decide_eq_false (show ¬ o.get i < (l.get i).Low by omega),decide_eq_false (show ¬ o.get i > (l.get i).High by omega)]
    simp only [Bool.true_and,cond_false]
    by_cases a:places.get i < (l.get i).Low
    ·rw [decide_eq_true a];exact ⟨rfl,rfl⟩
    ·rw [decide_eq_false a, cond_false, cond_false]
     by_cases b:places.get i > (l.get i).High
     ·rw [decide_eq_true b];exact ⟨rfl,rfl⟩
     ·rw [decide_eq_false b, cond_false, cond_false, zcL (n := l.len) (by omega) (by omega)]
      refine ih k (i+1) (by omega) (by omega) fun j hj=>?_
      by_cases e:j=i
      ·subst e;exact ⟨by omega,by omega⟩
      ·exact hb j (by omega)
  exact go l.len Fuel 0 (by omega) (by simp only [Fuel];omega) (fun j hj=>by omega)
 unfold zoR zoQ
 rw [c1,c2]
 unfold zsY zsX
 simp only [bne_self_eq_false,cond_false,decide_true,Bool.true_and]
 rw [c3]
 simp only [bne_self_eq_false,cond_false]
 unfold zsW zsV
 rw [k2,k3,k1]
 unfold zsU zsR
 simp only [bne_self_eq_false,cond_false,decide_true,Bool.true_and]
 unfold zsQ zsP
 rw [d1]
 by_cases hK:zd9 l≤less
 ·obtain ⟨p, q, g1, g2, g3⟩ := kex
  obtain ⟨s,e1,e2,e3,_⟩:=d3 ⟨p,q,g1,g2,by omega⟩
  rw [e1]
  unfold zoP zoO
  simp only [decide_eq_true hK,beq_self_eq_true,bne_self_eq_false,cond_false,decide_true,Bool.true_and]
  exact key s fun _=>⟨e2,e3⟩
 ·have e1 := d2 fun p q hg => hK (Int.le_trans (km p q hg.1 hg.2.1) hg.2.2)
  rw [e1]
  unfold zoP zoO
  simp only [decide_eq_false hK,decide_true,Bool.true_and]
  rw [show (((5:Int) == 0) != false)=false from rfl,show ((5:Int) != 0)=true from rfl,show ((5:Int) != 5)=false from rfl]
  simp only [cond_false,cond_true]
  exact key zOe fun h=>absurd h hK
end
theorem bent_true (a0:Sl Gate) (a1:Sl Int) (a2:Int) (w0:wf_22 a0) (w1:wf_39 a1) (w2:wf_3 a2) (z0:a0.len≤17592186044416):p16 a0 a1 a2=true∧s16 a0 a1 a2=true:=by
 have kt:zhD a0 a1 a2 true=true∧zhC a0 a1 a2 true=true:=⟨rfl,rfl⟩
 obtain ⟨h1,h2⟩:=zLM a0 z0
 unfold p16 s16
 rw [h1]
 simp only [decide_true,Bool.true_and]
 cases hb:s57 a0 with
 | false=>rw [Bool.not_false,cond_true,cond_true];exact kt
 | true =>
 have B:=h2.1 hb
 rw [Bool.not_true,cond_false,cond_false]
 by_cases c0:a1.len=a0.len
 ·rw [c0]
  simp only [bne_self_eq_false,cond_false]
  by_cases c1:a2 < 0
  ·rw [decide_eq_true c1,cond_true,cond_true];exact kt
  rw [decide_eq_false c1,cond_false,cond_false]
  by_cases c2:a2 > 1000000
  ·rw [decide_eq_true c2];exact kt
  rw [decide_eq_false c2]
  unfold zhD zhC
  rw [cond_false,cond_false]
  exact zL0 B a1 a2 c0 (by omega) (by omega)
 ·rw [show ((a1.len:Int) != (a0.len:Int))=true from by simp;omega,cond_true,cond_true];exact kt
end Go.Proofs
