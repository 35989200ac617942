/- Part 6 of what the proof rests on: a machine that runs functions of the program on pure values, proved sound; the functions that the law reaches, and what they compute. -/
import Derived.Test.YtkpjhhoafenogaaQ5
set_option linter.all false
namespace Go.Proofs
open Go Go.Pm
set_option maxRecDepth 100000
set_option linter.unusedVariables false
attribute [local irreducible] Go.Pm.vcFun Go.Pm.vc Go.Pm.vcIter
abbrev T17:Tabs:=((((((Tabs.nil.addF 18 zHl).addF 44 zHs).addF 45 zCx).addF 55 zB2).addF 56 zH1).addF 57 zH7)
theorem zNW:TabsOk Try.prog T17:=((((((TabsOk.nil.addF zQe).addF zQf).addF zOK).addF zOc).addF zQi).addF zQk)
abbrev G17:Ctrs:=csm T17 (fun _ _=>[]) (fun _=>false)
def zH8:Ann:=⟨166,[(0,zK [0,1,2,3] []),(1,zK [0,1,2,3,52] []),(2,zK [8] []),(3,zK [0,1,2,3,9] []),(4,zK [0,1,2,3,9,10] []),(5,zK [0,1,2,3,9,10,11] []),(6,zK [0,1,2,3,9,10,11,57] [71,85]),(7,zK [0,1,2,3,9,10,11] [71,85]),(8,zK [0,1,2,3,9,10,11,12] [71,85]),(9,zK [0,1,2,3,9,10,11,12] [71,85]),(10,zK [0,1,2,3,9,10,11] [71,85]),(11,zK [0,9,10,13,14] [71,85]),(12,zK [0,9,10,97] [71,85]),(13,zK [8] []),(14,zK [0,9,10,100] [71,85]),(15,zK [8] []),(16,zK [0,9,10,15,16,17] [71,85]),(17,zK [0,9,15,16,17,18,19] [71]),(18,zK [9,18,136] [71]),(19,zK [8] []),(20,zK [9,18,20] [71]),(21,zK [9,18,20,140] [71]),(22,zK [9,18,20] [71]),(23,zK [9,18,20,164] [71]),(24,zK [8] []),(25,zK [8] [])],
 [(6,⟨[0,1,2,3,9,10,11],[71,85],[(9,71,3,fun _=>enc_3 default),(10,85,55,fun _=>zac default)],[],[],[],[]⟩),(21,zK [9,18,20] [71])],
 [(2,zK [0,1,2,3,52] []),(3,zK [0,1,2,3] []),(11,zK [0,9,10] [71,85]),(12,zK [0,9,10,13,14] [71,85]),(14,zK [0,9,10] [71,85]),(15,zK [0,9,10,100] [71,85]),(16,zK [0,9,10] [71,85]),(17,zK [0,9,10,15,16,17] [71,85]),(18,zK [0,9,15,16,17,18,19] [71]),(20,zK [9,18] [71])],
 [],[]⟩
abbrev R17:=Bool
abbrev e17 (r:R17):List PA:=[.one (.bool r)]
@[irreducible] def z17:=ptF Try.prog G17 zH8 Try.f17
def zDS (heights:(Sl Int)) (start:Int) (slope:Int) (wide:Int) (iv2:Int) (zdv:(Sl Int)) (zdw:(Sl Gate)) (zgm:Nat→List PV) (zgn:Nat→List PV):St:=⟨[(0,zS enc_3 1 heights),(1,zI start),(2,zI slope),(3,zI wide),(9,zv 71),(10,zv 85),(11,zI iv2)],[(71,.vec 3 1 8 zdv.len zgm),(85,.vec 55 3 24 zdw.len zgn)],[]⟩
abbrev zLt (K:List PA→Prop) (heights:(Sl Int)) (start:Int) (slope:Int) (wide:Int) (X:St→Prop) (P:Int→(Sl Int)→(Sl Gate)→Bool) (S:Int→(Sl Int)→(Sl Gate)→Bool):Prop:=∀ ⦃iv2:Int⦄ ⦃zdv:(Sl Int)⦄ ⦃zdw:(Sl Gate)⦄ ⦃zgm:Nat→List PV⦄ ⦃zgn:Nat→List PV⦄,P iv2 zdv zdw=true→K (e17 (S iv2 zdv zdw))→zgm=zg enc_3 zdv→zgn=zg zac zdw→X (zDS heights start slope wide iv2 zdv zdw zgm zgn)
def zAG (zfM:(Sl Span)) (zbi:(Sl Int)) (zcx:Int):St:=⟨[(9,zv 71),(18,zS zao 2 zfM),(20,zI zcx)],[(71,.vec 3 1 8 zbi.len (fun i=>enc_3 (zbi.get i)))],[]⟩
abbrev zDT (K:List PA→Prop) (zfM:(Sl Span)) (zbi:(Sl Int)) (X:St→Prop) (P:Int→Bool) (S:Int→Bool):Prop:=∀ ⦃zcx:Int⦄,P zcx=true→K (e17 (S zcx))→X (zAG zfM zbi zcx)
section
variable {K:List PA→Prop} {heights:(Sl Int)} {start:Int} {slope:Int} {wide:Int} {zsH:Bool} {iv2:Int} {zdv:(Sl Int)} {zdw:(Sl Gate)} {zgm:Nat→List PV} {zgn:Nat→List PV} {X2:St→Prop} {P2:Int→(Sl Int)→(Sl Gate)→Bool} {S2:Int→(Sl Int)→(Sl Gate)→Bool} {zin:(Sl Int)} {zqk:(Sl Gate)} {zAH:Nat→List PV} {zAI:Nat→List PV} {kv4:Int} {ev4:Int} {zql:(Sl Int)} {zqm:(Sl Gate)} {zAJ:Nat→List PV} {zAK:Nat→List PV} {zqn:(Sl Int)} {zjQ:(Sl Gate)} {zAL:Nat→List PV} {zAM:Nat→List PV} {zlP:Bool} {zqo:(Sl Int)} {zqp:(Sl Gate)} {zAN:Nat→List PV} {zAO:Nat→List PV} {zqq:(Sl Int)} {zdD:(Sl Gate)} {zAP:Nat→List PV} {zAQ:Nat→List PV} {lv8:(Sl Int)} {nv8:Int} {fv8:Int} {zqr:(Sl Int)} {zLu:Nat→List PV} {zAR:Nat→List PV} {sv9:(Sl Span)} {gv9:Int} {zqs:(Sl Int)} {zLv:Nat→List PV} {zAS:Nat→List PV} {zfM:(Sl Span)} {zbi:(Sl Int)} {zDU:Nat→List PV} {zuB:Nat→List PV} {zcx:Int} {X11:St→Prop} {P11:Int→Bool} {S11:Int→Bool}
def zgG (zfM:(Sl Span)) (zbi:(Sl Int)) (S11:Int→Bool) (zcx:Int):Bool :=
  (cond (decide (zcx < (zbi.len : Int)))
 (cond (decide ((zfM.get zcx.toNat).Low > (zbi.get zcx.toNat)))
 false
 (cond (decide ((zfM.get zcx.toNat).High < (zbi.get zcx.toNat)))
 false
 (S11 (w64 (zcx+(1:Int))))))
 true)
def zgH (zfM:(Sl Span)) (zbi:(Sl Int)) (P11:Int→Bool) (zcx:Int):Bool :=
  (cond (decide (zcx < (zbi.len : Int)))
 (decide ((0≤zcx∧zcx < (zfM.len:Int))) &&
 (decide ((0≤zcx∧zcx < (zbi.len:Int))) &&
 (decide ((zcx.toNat < zbi.len)) &&
 (cond (decide ((zfM.get zcx.toNat).Low > (zbi.get zcx.toNat)))
 true
 (decide ((0≤zcx∧zcx < (zfM.len:Int))) &&
 (decide ((0≤zcx∧zcx < (zbi.len:Int))) &&
 (decide ((zcx.toNat < zbi.len)) &&
 (cond (decide ((zfM.get zcx.toNat).High < (zbi.get zcx.toNat)))
 true
 (P11 (w64 (zcx+(1:Int))))))))))))
 true)
def zio (zfM:(Sl Span)) (zbi:(Sl Int)):Nat→Int→Bool:=lpO (fun _=>default) (zgG zfM zbi)
def ziq (zfM:(Sl Span)) (zbi:(Sl Int)):Nat→Int→Bool:=lpO (fun _=>false) (zgH zfM zbi)
def zos (zfM:(Sl Span)) (zbi:(Sl Int)) (zcx:Int):Bool:=zio zfM zbi Fuel zcx
def zot (zfM:(Sl Span)) (zbi:(Sl Int)) (zcx:Int):Bool:=ziq zfM zbi Fuel zcx
theorem zCI (hs:zot zfM zbi zcx=true) (hk:K (e17 (zos zfM zbi zcx))):z17 K [1,1,1,1,1,1,1,1,1,1,1,0,1,0] [] (zAG zfM zbi zcx) :=
  zl (fun X=>z17 K [1,1,1,1,1,1,1,1,1,1,1,0,1,0,0] [X]) (by kernel_rfl) fun X11 hX =>
  (show ∀ k, zDT K zfM zbi X11 (ziq zfM zbi k) (zio zfM zbi k) from zgM _ _ (zgH zfM zbi) (zgG zfM zbi) (zDT K zfM zbi X11)
 (by intro _ hs;exact absurd hs Bool.false_ne_true)
 (by intro P11 S11 hX11 zcx hs hk;exact hX _ (zaI (by kernel_rfl) (zc hs hk (fun hs hk=>(zaG hs fun hc hs=>And.intro hc (zaG hs fun hc hs=>And.intro hc (zaG hs fun hc hs=>And.intro hc (zc hs hk (fun hs hk=>hk) (fun hs hk=>(zaG hs fun hc hs=>And.intro hc (zaG hs fun hc hs=>And.intro hc (zaG hs fun hc hs=>And.intro hc (zc hs hk (fun hs hk=>hk) (fun hs hk=>(hX11 hs hk)))))))))))) (fun hs hk=>hk))))) _ hs hk
def zou (zfM:(Sl Span)) (zbi:(Sl Int)):Bool :=
  (zos zfM zbi (0:Int))
def zov (zfM:(Sl Span)) (zbi:(Sl Int)):Bool :=
  (zot zfM zbi (0:Int))
theorem zCJ (hs:zov zfM zbi=true) (hk:K (e17 (zou zfM zbi))) (zLw:zDU=zg zao zfM) (zCK:zuB=zg enc_3 zbi):z17 K [1,1,1,1,1,1,1,1,1,1,1] [] ⟨[(9,zv 71),(18,zP (.sl zfM.len 2 zDU))],[(71,.vec 3 1 8 zbi.len zuB)],[]⟩:=by subst zLw;subst zCK;exact zaI (by kernel_rfl) (zCI hs hk)
def zsI (heights:(Sl Int)) (lv8:(Sl Int)) (nv8:Int) (fv8:Int) (sv9:(Sl Span)) (gv9:Int) (zqs:(Sl Int)):Bool :=
  (cond (fv8 != (0:Int))
 false
 (cond (gv9 != (0:Int))
 false
 (cond (nv8 != (0:Int))
 false
 (cond ((lv8.len : Int) != (heights.len : Int))
 false
 (cond ((sv9.len : Int) != (heights.len : Int))
 false
 (zou sv9 zqs))))))
def zsJ (heights:(Sl Int)) (lv8:(Sl Int)) (nv8:Int) (fv8:Int) (sv9:(Sl Span)) (gv9:Int) (zqs:(Sl Int)):Bool :=
  (cond (fv8 != (0:Int))
 true
 (cond (gv9 != (0:Int))
 true
 (cond (nv8 != (0:Int))
 true
 (cond ((lv8.len : Int) != (heights.len : Int))
 true
 (cond ((sv9.len : Int) != (heights.len : Int))
 true
 (zov sv9 zqs))))))
theorem zH9 (hs:zsJ heights lv8 nv8 fv8 sv9 gv9 zqs=true) (hk:K (e17 (zsI heights lv8 nv8 fv8 sv9 gv9 zqs))) (zNX:zLv=zg zao sv9) (zIa:zAS=zg enc_3 zqs):z17 K [1,1,1,1,1,1,1,1,1,1] [] ⟨[(0,zS enc_3 1 heights),(9,zv 71),(15,zS enc_3 1 lv8),(16,zI nv8),(17,zI fv8),(18,zP (.sl sv9.len 2 zLv)),(19,zI gv9)],[(71,.vec 3 1 8 zqs.len zAS)],[]⟩:=by subst zNX;subst zIa;exact zaI (by kernel_rfl) (zc hs hk (fun hs hk=>hk) (fun hs hk=>(zc hs hk (fun hs hk=>hk) (fun hs hk=>(zc hs hk (fun hs hk=>hk) (fun hs hk=>(zc hs hk (fun hs hk=>hk) (fun hs hk=>(zc hs hk (fun hs hk=>hk) (fun hs hk=>(zCJ hs hk rfl rfl)))))))))))
def zsK (heights:(Sl Int)) (zdD:(Sl Gate)) (lv8:(Sl Int)) (nv8:Int) (fv8:Int) (zqr:(Sl Int)):Bool :=
  (zsI heights lv8 nv8 fv8 ((s56 zdD (0:Int)).1) ((s56 zdD (0:Int)).2) zqr)
def zsL (heights:(Sl Int)) (zdD:(Sl Gate)) (lv8:(Sl Int)) (nv8:Int) (fv8:Int) (zqr:(Sl Int)):Bool :=
  (decide ((p56 zdD (0:Int)=true)) &&
 (zsJ heights lv8 nv8 fv8 ((s56 zdD (0:Int)).1) ((s56 zdD (0:Int)).2) zqr))
theorem zIb (hs:zsL heights zdD lv8 nv8 fv8 zqr=true) (hk:K (e17 (zsK heights zdD lv8 nv8 fv8 zqr))) (zNY:zLu=zg enc_3 lv8) (zIc:zAR=zg enc_3 zqr):z17 K [1,1,1,1,1,1,1,1,1] [] ⟨[(0,zS enc_3 1 heights),(9,zv 71),(10,zv 85),(15,zP (.sl lv8.len 1 zLu)),(16,zI nv8),(17,zI fv8)],[(71,.vec 3 1 8 zqr.len zAR),(85,.fvec 3 zdD.len (fun i=>zac (zdD.get i)))],[]⟩:=by subst zNY;subst zIc;exact zaI (by kernel_rfl) (zaG hs fun hc hs=>And.intro (And.intro (zE zac 3 zdD.get) hc) (zH9 hs hk rfl rfl))
def zsM (heights:(Sl Int)) (zqq:(Sl Int)) (zdD:(Sl Gate)):Bool :=
  (zsK heights zdD ((s55 zdD).1) ((s55 zdD).2.1) ((s55 zdD).2.2) zqq)
def zsN (heights:(Sl Int)) (zqq:(Sl Int)) (zdD:(Sl Gate)):Bool :=
  (decide ((p55 zdD=true)) &&
 (zsL heights zdD ((s55 zdD).1) ((s55 zdD).2.1) ((s55 zdD).2.2) zqq))
theorem zId (hs:zsN heights zqq zdD=true) (hk:K (e17 (zsM heights zqq zdD))) (zIe:zAP=zg enc_3 zqq) (zIf:zAQ=zg zac zdD):z17 K [1,1,1,1,1,1,1,1] [] ⟨[(0,zS enc_3 1 heights),(9,zv 71),(10,zv 85)],[(71,.vec 3 1 8 zqq.len zAP),(85,.vec 55 3 24 zdD.len zAQ)],[]⟩:=by subst zIe;subst zIf;exact zaI (by kernel_rfl) (zaG hs fun hc hs=>And.intro (And.intro (zE zac 3 zdD.get) hc) (zIb hs hk rfl rfl))
def zsO (heights:(Sl Int)) (zlP:Bool) (zqo:(Sl Int)) (zqp:(Sl Gate)):Bool :=
  (cond zlP
 true
 (zsM heights zqo zqp))
def zsP (heights:(Sl Int)) (zlP:Bool) (zqo:(Sl Int)) (zqp:(Sl Gate)):Bool :=
  (cond zlP
 true
 (zsN heights zqo zqp))
theorem zIg (hs:zsP heights zlP zqo zqp=true) (hk:K (e17 (zsO heights zlP zqo zqp))) (zIh:zAN=zg enc_3 zqo) (zIi:zAO=zg zac zqp):z17 K [1,1,1,1,1,1,1,0,1] [] ⟨[(0,zS enc_3 1 heights),(9,zv 71),(10,zv 85),(100,zB zlP)],[(71,.vec 3 1 8 zqo.len zAN),(85,.vec 55 3 24 zqp.len zAO)],[]⟩:=by subst zIh;subst zIi;exact zaI (by kernel_rfl) (zc hs hk (fun hs hk=>hk) (fun hs hk=>(zId hs hk rfl rfl)))
def zow (heights:(Sl Int)) (zqn:(Sl Int)) (zjQ:(Sl Gate)):Bool :=
  (zsO heights (!(s57 zjQ)) zqn zjQ)
def zox (heights:(Sl Int)) (zqn:(Sl Int)) (zjQ:(Sl Gate)):Bool :=
  (decide ((p57 zjQ=true)) &&
 (zsP heights (!(s57 zjQ)) zqn zjQ))
theorem zIj (hs:zox heights zqn zjQ=true) (hk:K (e17 (zow heights zqn zjQ))) (zIk:zAL=zg enc_3 zqn) (zIl:zAM=zg zac zjQ):z17 K [1,1,1,1,1,1,1] [] ⟨[(0,zS enc_3 1 heights),(9,zv 71),(10,zv 85)],[(71,.vec 3 1 8 zqn.len zAL),(85,.vec 55 3 24 zjQ.len zAM)],[]⟩:=by subst zIk;subst zIl;exact zaI (by kernel_rfl) (zaG hs fun hc hs=>And.intro (And.intro (zE zac 3 zjQ.get) hc) (zIg hs hk rfl rfl))
def zsQ (heights:(Sl Int)) (kv4:Int) (ev4:Int) (zql:(Sl Int)) (zqm:(Sl Gate)):Bool :=
  (cond (ev4 != (0:Int))
 false
 (cond (kv4 != (0:Int))
 false
 (zow heights zql zqm)))
def zsR (heights:(Sl Int)) (kv4:Int) (ev4:Int) (zql:(Sl Int)) (zqm:(Sl Gate)):Bool :=
  (cond (ev4 != (0:Int))
 true
 (cond (kv4 != (0:Int))
 true
 (zox heights zql zqm)))
theorem zIm (hs:zsR heights kv4 ev4 zql zqm=true) (hk:K (e17 (zsQ heights kv4 ev4 zql zqm))) (zIn:zAJ=zg enc_3 zql) (zIo:zAK=zg zac zqm):z17 K [1,1,1,1,1,1] [] ⟨[(0,zS enc_3 1 heights),(9,zv 71),(10,zv 85),(13,zI kv4),(14,zI ev4)],[(71,.vec 3 1 8 zql.len zAJ),(85,.vec 55 3 24 zqm.len zAK)],[]⟩:=by subst zIn;subst zIo;exact zaI (by kernel_rfl) (zc hs hk (fun hs hk=>hk) (fun hs hk=>(zc hs hk (fun hs hk=>hk) (fun hs hk=>(zIj hs hk rfl rfl)))))
def zoy (heights:(Sl Int)) (zin:(Sl Int)) (zqk:(Sl Gate)):Bool :=
  (zsQ heights ((s44 heights zin).1) ((s44 heights zin).2) zin zqk)
def zoz (heights:(Sl Int)) (zin:(Sl Int)) (zqk:(Sl Gate)):Bool :=
  (decide ((p44 heights zin=true)) &&
 (zsR heights ((s44 heights zin).1) ((s44 heights zin).2) zin zqk))
theorem zIp (hs:zoz heights zin zqk=true) (hk:K (e17 (zoy heights zin zqk))) (zIq:zAH=zg enc_3 zin) (zIr:zAI=zg zac zqk):z17 K [1,1,1,1,1] [] ⟨[(0,zS enc_3 1 heights),(9,zv 71),(10,zv 85)],[(71,.vec 3 1 8 zin.len zAH),(85,.vec 55 3 24 zqk.len zAI)],[]⟩:=by subst zIq;subst zIr;exact zaI (by kernel_rfl) (zaG hs fun hc hs=>And.intro (And.intro (zE enc_3 1 heights.get) (And.intro (zE enc_3 1 zin.get) hc)) (zIm hs hk rfl rfl))
def zjo (heights:(Sl Int)) (start:Int) (slope:Int) (wide:Int) (S2:Int→(Sl Int)→(Sl Gate)→Bool) (iv2:Int) (zdv:(Sl Int)) (zdw:(Sl Gate)):Bool :=
  (cond (decide (iv2 < (heights.len : Int)))
 (S2 (w64 (iv2+(1:Int))) (⟨(zdv.len+1),(zeb zdv.len zdv.get (fun _=>(w64 (start+(w64 (slope * (heights.get iv2.toNat)))))))⟩:Sl Int) (⟨(zdw.len+1),(zeb zdw.len zdw.get (fun _=>(⟨(heights.get iv2.toNat),(w64 ((w64 (start+(w64 (slope * (heights.get iv2.toNat))))) - wide)),(w64 ((w64 (start+(w64 (slope * (heights.get iv2.toNat)))))+wide))⟩:Gate)))⟩:Sl Gate))
 (zoy heights zdv zdw))
def zjq (heights:(Sl Int)) (start:Int) (slope:Int) (wide:Int) (P2:Int→(Sl Int)→(Sl Gate)→Bool) (iv2:Int) (zdv:(Sl Int)) (zdw:(Sl Gate)):Bool :=
  (cond (decide (iv2 < (heights.len : Int)))
 (decide ((0≤iv2∧iv2 < (heights.len:Int))) &&
 (decide (((zdv.len+1) * 8≤140737488355328∧zdv.len+1≤9223372036854775807)) &&
 (decide ((0≤iv2∧iv2 < (heights.len:Int))) &&
 (decide (((zdw.len+1) * 24≤140737488355328∧zdw.len+1≤9223372036854775807)) &&
 (P2 (w64 (iv2+(1:Int))) (⟨(zdv.len+1),(zeb zdv.len zdv.get (fun _=>(w64 (start+(w64 (slope * (heights.get iv2.toNat)))))))⟩:Sl Int) (⟨(zdw.len+1),(zeb zdw.len zdw.get (fun _=>(⟨(heights.get iv2.toNat),(w64 ((w64 (start+(w64 (slope * (heights.get iv2.toNat))))) - wide)),(w64 ((w64 (start+(w64 (slope * (heights.get iv2.toNat)))))+wide))⟩:Gate)))⟩:Sl Gate))))))
 (zoz heights zdv zdw))
def zgo (heights:(Sl Int)) (start:Int) (slope:Int) (wide:Int):Nat→Int→(Sl Int)→(Sl Gate)→Bool:=lpO (fun _ _ _=>default) (zjo heights start slope wide)
def zgp (heights:(Sl Int)) (start:Int) (slope:Int) (wide:Int):Nat→Int→(Sl Int)→(Sl Gate)→Bool:=lpO (fun _ _ _=>false) (zjq heights start slope wide)
def zsU (heights:(Sl Int)) (start:Int) (slope:Int) (wide:Int) (iv2:Int) (zdv:(Sl Int)) (zdw:(Sl Gate)):Bool:=zgo heights start slope wide Fuel iv2 zdv zdw
def zsV (heights:(Sl Int)) (start:Int) (slope:Int) (wide:Int) (iv2:Int) (zdv:(Sl Int)) (zdw:(Sl Gate)):Bool:=zgp heights start slope wide Fuel iv2 zdv zdw
theorem zIs (hs:zsV heights start slope wide iv2 zdv zdw=true) (hk:K (e17 (zsU heights start slope wide iv2 zdv zdw))) (zsW:zgm=zg enc_3 zdv) (zsX:zgn=zg zac zdw):z17 K [1,1,1,1,0,1,0] [] (zDS heights start slope wide iv2 zdv zdw zgm zgn) :=
  zl (fun X=>z17 K [1,1,1,1,0,1,0,0] [X]) (by kernel_rfl) fun X2 hX =>
  (show ∀ k, zLt K heights start slope wide X2 (zgp heights start slope wide k) (zgo heights start slope wide k) from zgM _ _ (zjq heights start slope wide) (zjo heights start slope wide) (zLt K heights start slope wide X2)
 (by intro _ _ _ _ _ hs;exact absurd hs Bool.false_ne_true)
 (by intro P2 S2 hX2 iv2 zdv zdw zgm zgn hs hk zsW zsX;subst zsW;subst zsX;exact hX _ (zaI (by kernel_rfl) (zc hs hk (fun hs hk=>(zaG hs fun hc hs=>And.intro hc (zaG hs fun hc hs=>And.intro hc (zaG hs fun hc hs=>And.intro hc (zaG hs fun hc hs=>And.intro hc (hX2 hs hk (zgU (enc:=enc_3) (f:=zdv.get) (h:=(fun _=>(w64 (start+(w64 (slope * (heights.get iv2.toNat))))))) rfl rfl) (zgU (enc:=zac) (f:=zdw.get) (h:=(fun _=>(⟨(heights.get iv2.toNat),(w64 ((w64 (start+(w64 (slope * (heights.get iv2.toNat))))) - wide)),(w64 ((w64 (start+(w64 (slope * (heights.get iv2.toNat)))))+wide))⟩:Gate))) rfl rfl))))))) (fun hs hk=>(zIp hs hk rfl rfl)))))) _ hs hk zsW zsX
def zoA (heights:(Sl Int)) (start:Int) (slope:Int) (wide:Int):Bool :=
  (zsU heights start slope wide (0:Int) (⟨0,(fun _=>default)⟩:Sl Int) (⟨0,(fun _=>default)⟩:Sl Gate))
def zoB (heights:(Sl Int)) (start:Int) (slope:Int) (wide:Int):Bool :=
  (zsV heights start slope wide (0:Int) (⟨0,(fun _=>default)⟩:Sl Int) (⟨0,(fun _=>default)⟩:Sl Gate))
theorem zIt (hs:zoB heights start slope wide=true) (hk:K (e17 (zoA heights start slope wide))):z17 K [1,1] [] ⟨[(0,zS enc_3 1 heights),(1,zI start),(2,zI slope),(3,zI wide)],[],[]⟩:=zaI (by kernel_rfl) (zIs hs hk rfl rfl)
def zez (heights:(Sl Int)) (start:Int) (slope:Int) (wide:Int) (zsH:Bool):Bool :=
  (cond zsH
 true
 (zoA heights start slope wide))
def zeA (heights:(Sl Int)) (start:Int) (slope:Int) (wide:Int) (zsH:Bool):Bool :=
  (cond zsH
 true
 (zoB heights start slope wide))
theorem zgq (hs:zeA heights start slope wide zsH=true) (hk:K (e17 (zez heights start slope wide zsH))):z17 K [1,0,1] [] ⟨[(0,zS enc_3 1 heights),(1,zI start),(2,zI slope),(3,zI wide),(52,zB zsH)],[],[]⟩:=zaI (by kernel_rfl) (zc hs hk (fun hs hk=>hk) (fun hs hk=>(zIt hs hk)))
def s17 (heights:(Sl Int)) (start:Int) (slope:Int) (wide:Int):Bool :=
  (cond (decide ((heights.len : Int) > (8:Int)))
 (zez heights start slope wide true)
 (cond (!(s45 heights))
 (zez heights start slope wide true)
 (cond (decide (start < (-1000:Int)))
 (zez heights start slope wide true)
 (cond (decide (start > (1000:Int)))
 (zez heights start slope wide true)
 (cond (decide (slope < (-9:Int)))
 (zez heights start slope wide true)
 (cond (decide (slope > (9:Int)))
 (zez heights start slope wide true)
 (cond (decide (wide < (0:Int)))
 (zez heights start slope wide true)
 (zez heights start slope wide (decide (wide > (30:Int)))))))))))
def p17 (heights:(Sl Int)) (start:Int) (slope:Int) (wide:Int):Bool :=
  (cond (decide ((heights.len : Int) > (8:Int)))
 (zeA heights start slope wide true)
 (decide ((p45 heights=true)) &&
 (cond (!(s45 heights))
 (zeA heights start slope wide true)
 (cond (decide (start < (-1000:Int)))
 (zeA heights start slope wide true)
 (cond (decide (start > (1000:Int)))
 (zeA heights start slope wide true)
 (cond (decide (slope < (-9:Int)))
 (zeA heights start slope wide true)
 (cond (decide (slope > (9:Int)))
 (zeA heights start slope wide true)
 (cond (decide (wide < (0:Int)))
 (zeA heights start slope wide true)
 (zeA heights start slope wide (decide (wide > (30:Int))))))))))))
end
theorem q17 (heights:(Sl Int)) (start:Int) (slope:Int) (wide:Int) (K:List PA→Prop) (hs:p17 heights start slope wide=true) (hk:K (e17 (s17 heights start slope wide))):vcFun Try.prog G17 zH8 17 [.one (.sl heights.len 1 (fun i=>enc_3 (heights.get i))),.one (.int .i64 start),.one (.int .i64 slope),.one (.int .i64 wide)] K :=
  zaI (by kernel_rfl) (zc hs hk (fun hs hk=>(zgq hs hk)) (fun hs hk=>(zaG hs fun hc hs=>And.intro (And.intro (zE enc_3 1 heights.get) hc) (zc hs hk (fun hs hk=>(zgq hs hk)) (fun hs hk=>(zc hs hk (fun hs hk=>(zgq hs hk)) (fun hs hk=>(zc hs hk (fun hs hk=>(zgq hs hk)) (fun hs hk=>(zc hs hk (fun hs hk=>(zgq hs hk)) (fun hs hk=>(zc hs hk (fun hs hk=>(zgq hs hk)) (fun hs hk=>(zc hs hk (fun hs hk=>(zgq hs hk)) (fun hs hk=>(zgq hs hk))))))))))))))))
def zLx : List PA → COut
  | [.one (.sl a0_n a0_s a0_g),.one (.int .i64 a1),.one (.int .i64 a2),.one (.int .i64 a3)]=>.det (IsE enc_3 1 a0_s a0_g∧p17 (⟨a0_n,zcf a0_g⟩:(Sl Int)) a1 a2 a3=true) [.one (.bool (s17 (⟨a0_n,zcf a0_g⟩:(Sl Int)) a1 a2 a3))]
  | _=>.no
theorem zLy:zal Try.prog 17:=⟨_,rfl,rfl,by kernel_rfl⟩
theorem ok17:Ok Try.prog 17 zLx:=zaY zNW zLy fun args K h=>by
  unfold zLx at h
  split at h
  · rename_i a0_n a0_s a0_g a1 a2 a3
    obtain ⟨⟨⟨rfl,a0_f,rfl⟩,hs⟩,hk⟩:=h
    try rw [zbP a0_f] at hs
    try rw [zbP a0_f] at hk
    exact ⟨(fun _ _=>[]),(fun _=>false),zH8,q17 (⟨a0_n,a0_f⟩:(Sl Int)) a1 a2 a3 K hs hk⟩
  · exact h.elim
end Go.Proofs
namespace Go.Proofs
open Go Go.Pm
set_option maxRecDepth 100000
set_option linter.unusedVariables false
attribute [local irreducible] Go.Pm.vcFun Go.Pm.vc Go.Pm.vcIter
theorem C_3:Try.prog.cellsOf 3=1:=by kernel_rfl
abbrev wf_3 (x:Int):Prop:=wfI x
theorem rd_3 {H:Type} {en:TypeId×Value→H} {w:World} {sp:Nat→Bool} {held:Bool} : Rd H en Try.prog w sp held 3 enc_3 wf_3:=zJn Try.underlying3
def wf_39 (x:(Sl Int)):Prop:=x.len≤9223372036854775807∧∀ i,i < x.len→wf_3 (x.get i)
theorem rd_39 {H:Type} {en:TypeId×Value→H} {w:World} {sp:Nat→Bool} {held:Bool} : Rd H en Try.prog w sp held 39 zJr wf_39:=zBV Try.underlying39 C_3 (by decide) (fun _=>rfl) rd_3
end Go.Proofs
namespace Go.Proofs
open Go Go.Pm
set_option maxRecDepth 100000
set_option linter.unusedVariables false
attribute [local irreducible] Go.Pm.vcFun Go.Pm.vc Go.Pm.vcIter
section
variable {K:List PA→Prop} {l_a0:(Sl Gate)} {iv0:Int} {X0:St→Prop} {P0:Int→Bool} {S0:Int→Bool} {iv1:Int} {zQl:Bool}
end
section
variable {K:List PA→Prop} {u:Int} {v:Int} {w:Int} {p:Int} {q:Int} {r_a5:Int}
end
section
variable {K:List PA→Prop} {z:(Sl Int)} {p:(Sl Int)} {kv0:Int} {iv0:Int} {X0:St→Prop} {P0:Int→Int→Bool} {S0:Int→Int→Int}
end
section
variable {K:List PA→Prop} {zaa:(Sl Gate)} {iv0:Int} {zcK:(Sl Int)} {zfA:Nat→List PV} {X0:St→Prop} {P0:Int→(Sl Int)→Bool} {S0:Int→(Sl Int)→(Sl Int)}
end
end Go.Proofs
namespace Go.Pm
open Go
theorem zda {i n:Nat} (h:i < n) (hn:n≤9223372036854775807):w64 ((i:Int)+(1:Int))=((i+1:Nat):Int):=by
 rw [za9 (by omega) (by omega)];omega
theorem zIu {β : Type} {good : Nat → Bool} {bad fin : β} {finP : Bool} {n : Nat} {lpS : Nat → Int → β} {lpP : Nat → Int → Bool}
    (hS:∀ (k i:Nat),i < n→lpS (k+1) (i:Int)=cond (good i) (lpS k (w64 ((i:Int)+(1:Int)))) bad)
    (hE:∀ k,lpS (k+1) (n:Int)=fin)
    (hP:∀ (k i:Nat),i < n→lpP (k+1) (i:Int)=cond (good i) (lpP k (w64 ((i:Int)+(1:Int)))) true)
    (hPE:∀ k,lpP (k+1) (n:Int)=finP) (hn:n≤9223372036854775807) :
    ((∀ i,i < n→good i=true)→lpP Fuel 0=finP∧lpS Fuel 0=fin)∧((¬ ∀ i,i < n→good i=true)→lpP Fuel 0=true∧lpS Fuel 0=bad):=by
  have key:∀ (m k i:Nat),i+m=n→m < k→((∀ j,i≤j→j < n→good j=true)→lpP k (i:Int)=finP∧lpS k (i:Int)=fin)∧((¬ ∀ j,i≤j→j < n→good j=true)→lpP k (i:Int)=true∧lpS k (i:Int)=bad):=by
    intro m
    induction m with
    | zero =>
      intro k i hi hk
      obtain ⟨k,rfl⟩:∃ k',k=k'+1:=⟨k - 1,by omega⟩
      have:i=n:=by omega
      subst this
      rw [hE,hPE]
      exact ⟨fun _=>⟨rfl,rfl⟩,fun h=>absurd (fun j h1 h2=>absurd h2 (by omega)) h⟩
    | succ m ih =>
      intro k i hi hk
      obtain ⟨k,rfl⟩:∃ k',k=k'+1:=⟨k - 1,by omega⟩
      rw [hS k i (by omega),hP k i (by omega),zda (n:=n) (by omega) hn]
      obtain ⟨h1,h2⟩:=ih k (i+1) (by omega) (by omega)
      cases hg:good i
      · refine ⟨fun h => ?_, fun _ => ⟨rfl, rfl⟩⟩
        have:=h i (Nat.le_refl _) (by omega)
        rw [hg] at this;cases this
      · refine ⟨fun h => h1 fun j a b => h j (by omega) b, fun h => h2 fun h' => h fun j a b => ?_⟩
        by_cases hji:j=i
        · rw [hji];exact hg
        · exact h' j (by omega) b
  have:=key n Fuel 0 (by omega) (by simp only [Fuel];omega)
  simpa using this
def zoC {σ : Type} (step : Nat → σ → σ) : Nat → Nat → σ → σ
  | 0,_,s=>s
  | m+1,i,s=>zoC step m (i+1) (step i s)
theorem zAT {σ β : Type} {step : Nat → σ → σ} {E : σ → β} {EP : σ → Bool} {Inv : Nat → σ → Prop} {a n : Nat} {lpS : Nat → σ → Int → β} {lpP : Nat → σ → Int → Bool}
    (hS:∀ (k i:Nat) (s:σ),a≤i→i < n→Inv i s→lpS (k+1) s (i:Int)=lpS k (step i s) (w64 ((i:Int)+(1:Int))))
    (hE:∀ k s,lpS (k+1) s (n:Int)=E s)
    (hP:∀ (k i:Nat) (s:σ),a≤i→i < n→Inv i s→lpP (k+1) s (i:Int)=lpP k (step i s) (w64 ((i:Int)+(1:Int))))
    (hPE:∀ k s,lpP (k+1) s (n:Int)=EP s)
    (hI:∀ i s,a≤i→i < n→Inv i s→Inv (i+1) (step i s)) (ha:a≤n) (hn:n≤9223372036854775807) (s:σ) (h0:Inv a s) :
    lpP Fuel s (a:Int)=EP (zoC step (n - a) a s)∧lpS Fuel s (a:Int)=E (zoC step (n - a) a s):=by
  have key:∀ (m k i:Nat) (s:σ),a≤i→i+m=n→m < k→Inv i s→lpP k s (i:Int)=EP (zoC step m i s)∧lpS k s (i:Int)=E (zoC step m i s):=by
    intro m
    induction m with
    | zero =>
      intro k i s h1 hi hk _
      obtain ⟨k,rfl⟩:∃ k',k=k'+1:=⟨k - 1,by omega⟩
      have:i=n:=by omega
      subst this
      rw [hE,hPE]
      exact ⟨rfl,rfl⟩
    | succ m ih =>
      intro k i s h1 hi hk hs
      obtain ⟨k,rfl⟩:∃ k',k=k'+1:=⟨k - 1,by omega⟩
      rw [hS k i s h1 (by omega) hs,hP k i s h1 (by omega) hs,zda (n:=n) (by omega) hn]
      exact ih k (i+1) (step i s) (by omega) (by omega) (by omega) (hI i s h1 (by omega) hs)
  exact key (n - a) Fuel a s (Nat.le_refl _) (by omega) (by simp only [Fuel];omega) h0
end Go.Pm
namespace Go.Proofs
open Go Go.Pm
set_option maxRecDepth 100000
theorem zlQ (n a b:Int):s70 n a b=decide (a≤n∧n≤b):=by
 unfold s70;by_cases h:n ≥ a
 ·rw [decide_eq_true h,cond_true];exact decide_eq_decide.2 ⟨fun k=>⟨h,k⟩,fun k=>k.2⟩
 ·rw [decide_eq_false h,cond_false];exact (decide_eq_false fun k=>h k.1).symm
theorem zir (n a b:Int):s74 n a b=decide (a≤n∧n≤b):=zlQ n a b
def ze2 (g:Gate):Prop:=(0≤g.Z∧g.Z≤100000)∧-1000000≤g.Low∧g.Low≤g.High∧g.High≤1000000
def zIv (l:Sl Gate):Prop:=(∀ i,i < l.len→ze2 (l.get i))∧1≤l.len∧l.len≤24
theorem zgI (a b:Bool):cond a b false=(a && b):=by cases a <;> rfl
theorem zDV (g:Gate):s87 g=true↔ze2 g:=by
 unfold s87 ze2
 rw [zir,zgI,zgI,zgI,Bool.and_eq_true,Bool.and_eq_true,Bool.and_eq_true,decide_eq_true_eq,decide_eq_true_eq,decide_eq_true_eq,decide_eq_true_eq]
theorem zDW (g:Gate):s49 g=true↔ze2 g:=by
 unfold s49 ze2
 rw [zlQ,zlQ,zgI,zgI,Bool.and_eq_true,Bool.and_eq_true,decide_eq_true_eq,decide_eq_true_eq,decide_eq_true_eq]
 omega
theorem zDX (l:Sl Gate) (hn:l.len≤9223372036854775807):p64 l=true∧(s64 l=true↔zIv l):=by
  have := zjZ (good := fun i => s87 (l.get i)) (fin := s74 (l.len : Int) 1 24) (n := l.len) (lpS := ziJ l) (lpP := ziK l)
    (fun k i hi=>by
      show ziH l (ziJ l k) (i:Int)=_
      generalize ziJ l k=S
      unfold ziH zrr
      rw [decide_eq_true (show (i:Int) < (l.len:Int) by omega),cond_true,Int.toNat_natCast]
      cases s87 (l.get i) <;> rfl)
    (fun k=>by
      show ziH l (ziJ l k) (l.len:Int)=_
      unfold ziH
      rw [decide_eq_false (show ¬ (l.len:Int) < (l.len:Int) by omega),cond_false])
    (fun k i hi=>by
      show ziI l (ziK l k) (i:Int)=_
      generalize ziK l k=S
      unfold ziI zrt
      rw [decide_eq_true (show (i:Int) < (l.len:Int) by omega),cond_true,Int.toNat_natCast,decide_eq_true (show 0≤(i:Int)∧(i:Int) < (l.len:Int) by omega),Bool.true_and]
      cases s87 (l.get i) <;> rfl)
    (fun k=>by
      show ziI l (ziK l k) (l.len:Int)=_
      unfold ziI
      rw [decide_eq_false (show ¬ (l.len:Int) < (l.len:Int) by omega),cond_false])
    hn
  refine ⟨this.1,this.2.trans ?_⟩
  rw [zir,decide_eq_true_eq]
  exact ⟨fun k=>⟨fun i hi=>(zDV _).1 (k.1 i hi),by omega,by omega⟩,fun k=>⟨fun i hi=>(zDV _).2 (k.1 i hi),by have:=k.2;omega⟩⟩
end Go.Proofs
namespace Go.Proofs
open Go Go.Pm
set_option maxRecDepth 100000
def inc (h:Sl Int) (i:Nat):Bool:=decide ((0≤h.get i∧h.get i≤100000)∧(0 < i→h.get (i - 1) < h.get i))
def inw (p:Sl Int) (i:Nat):Bool:=decide (-1000000≤p.get i∧p.get i≤1000000)
def HOK (h:Sl Int):Prop:=(∀ i,i < h.len→inc h i=true)∧2≤h.len∧h.len≤8
theorem zjr {i:Nat} (h:0 < i) (hn:i≤9223372036854775807):w64 ((i:Int) - (1:Int))=((i - 1:Nat):Int):=by
 rw [za9 (by omega) (by omega)];omega
theorem zkb {α : Type} (h : Sl Int) (i : Nat) (hi : i < h.len) (hn : h.len ≤ 9223372036854775807) (a b : α) :
  (cond (!(s70 (h.get i) (0:Int) (100000:Int))) b (cond (decide ((i:Int) > (0:Int))) (cond (decide ((h.get i)≤(h.get ((w64 ((i:Int) - (1:Int))).toNat)))) b a) a))=cond (inc h i) a b:=by
 rw [zlQ]
 by_cases h1:0≤h.get i∧h.get i≤100000
 ·rw [decide_eq_true h1]
  by_cases h2:0 < i
  ·rw [decide_eq_true (show (i : Int) > 0 by omega), zjr h2 (by omega), Int.toNat_natCast]
   by_cases h3:h.get i≤h.get (i - 1)
   ·rw [decide_eq_true h3,show inc h i=false from decide_eq_false fun k=>absurd (k.2 h2) (by omega)];rfl
   ·rw [decide_eq_false h3,show inc h i=true from decide_eq_true ⟨h1,fun _=>by omega⟩];rfl
  ·rw [decide_eq_false (show ¬ (i:Int) > 0 by omega),show inc h i=true from decide_eq_true ⟨h1,fun k=>absurd k h2⟩];rfl
 ·rw [decide_eq_false h1,show inc h i=false from decide_eq_false fun k=>h1 k.1];rfl
theorem zDY (h:Sl Int) (w:wf_39 h):p45 h=true∧(s45 h=true↔HOK h):=by
  have := zjZ (good := inc h) (fin := s70 (h.len : Int) 2 8) (n := h.len) (lpS := zje h) (lpP := zjf h)
    (fun k i hi=>by
      show zjc h (zje h k) (i:Int)=_
      generalize zje h k=S
      unfold zjc zlv
      rw [decide_eq_true (show (i:Int) < (h.len:Int) by omega),cond_true,Int.toNat_natCast,← zkb h i hi w.1]
      cases s70 (h.get i) 0 100000 <;> cases decide ((i:Int) > 0) <;> rfl)
    (fun k=>by
      show zjc h (zje h k) (h.len:Int)=_
      unfold zjc
      rw [decide_eq_false (show ¬ (h.len:Int) < (h.len:Int) by omega),cond_false])
    (fun k i hi=>by
      show zjd h (zjf h k) (i:Int)=_
      generalize zjf h k=S
      unfold zjd zlw
      have w1:=w.1
      rw [decide_eq_true (show (i:Int) < (h.len:Int) by omega),cond_true,Int.toNat_natCast,← zkb h i hi w.1,decide_eq_true (show 0≤(i:Int)∧(i:Int) < (h.len:Int) by omega),Bool.true_and,Bool.true_and]
      by_cases h0:0 < i
      · rw [zjr h0 (by omega), Int.toNat_natCast, decide_eq_true (show 0 ≤ ((i - 1 : Nat) : Int) ∧ ((i - 1 : Nat) : Int) < (h.len : Int) by omega), Bool.true_and]
        cases s70 (h.get i) 0 100000 <;> cases decide ((i:Int) > 0) <;> rfl
      · rw [decide_eq_false (show ¬ (i : Int) > 0 by omega)]
        cases s70 (h.get i) 0 100000 <;> rfl)
    (fun k=>by
      show zjd h (zjf h k) (h.len:Int)=_
      unfold zjd
      rw [decide_eq_false (show ¬ (h.len:Int) < (h.len:Int) by omega),cond_false])
    w.1
  refine ⟨this.1,this.2.trans ?_⟩
  rw [zlQ,decide_eq_true_eq]
  exact ⟨fun k=>⟨k.1,by omega,by omega⟩,fun k=>⟨k.1,by have:=k.2;omega⟩⟩
theorem zDZ {u v w p q r:Int} (hu:0≤u) (huv:u < v) (hvw:v < w) (hw:w≤100000):p85 u v w p q r=true:=by
 unfold p85
 have h1:w64 (v - u)=v - u:=za9 (by omega) (by omega)
 have h2:w64 (w - v)=w - v:=za9 (by omega) (by omega)
 have h3:0 < (v - u) * (w - v):=Int.mul_pos (by omega) (by omega)
 have h4:(v - u) * (w - v)≤100000 * 100000:=Int.mul_le_mul (by omega) (by omega) (by omega) (by omega)
 rw [h1,h2,za9 (by omega) (by omega),decide_eq_true (by omega)];rfl
def kk (h p:Sl Int) (i:Nat) (k:Int):Int :=
 let t:=s85 (h.get i) (h.get (i+1)) (h.get (i+2)) (p.get i) (p.get (i+1)) (p.get (i+2))
 if t > k then t else k
theorem zuC {h:Sl Int} {i:Nat} (H:HOK h) (hi:i+1 < h.len):h.get i < h.get (i+1):=by
 have:=of_decide_eq_true (H.1 (i+1) hi)
 exact this.2 (by omega)
theorem zlR {h:Sl Int} {i:Nat} (H:HOK h) (hi:i < h.len):0≤h.get i∧h.get i≤100000:=(of_decide_eq_true (H.1 i hi)).1
theorem zLz {h:Sl Int} {i:Nat} (H:HOK h) (hi:i+2 < h.len) (p q r:Int):p85 (h.get i) (h.get (i+1)) (h.get (i+2)) p q r=true :=
 zDZ (zlR H (by omega)).1 (zuC H (by omega)) (zuC H (by omega)) (zlR H hi).2
theorem zLA (h p:Sl Int) (H:HOK h) (hp:p.len=h.len):znY h p=true∧znX h p=(zoC (kk h p) (h.len - 2) 0 0,0):=by
  have H3:=H.2
  have e0:w64 ((h.len:Int) - 2)=((h.len - 2:Nat):Int):=by rw [za9 (by omega) (by omega)];omega
  have := zAT (σ := Int) (step := kk h p) (E := fun k => (k, (0 : Int))) (EP := fun _ => true) (Inv := fun _ _ => True) (a := 0) (n := h.len - 2) (lpS := zi4 h p) (lpP := zi5 h p)
    (fun k i s h1 hi _=>by
      show zi2 h p (zi4 h p k) s (i:Int)=_
      generalize zi4 h p k=S
      unfold zi2
      have e2:w64 ((i:Int)+2)=((i+2:Nat):Int):=by rw [za9 (by omega) (by omega)];omega
      have e1:w64 ((i:Int)+1)=((i+1:Nat):Int):=by rw [za9 (by omega) (by omega)];omega
      rw [e0,decide_eq_true (show (i:Int) < ((h.len - 2:Nat):Int) by omega),cond_true,e2,e1,Int.toNat_natCast,Int.toNat_natCast,Int.toNat_natCast]
      rfl)
    (fun k s=>by
      show zi2 h p (zi4 h p k) s ((h.len - 2:Nat):Int)=_
      unfold zi2
      rw [e0,decide_eq_false (show ¬ ((h.len - 2:Nat):Int) < ((h.len - 2:Nat):Int) by omega),cond_false])
    (fun k i s h1 hi _=>by
      show zi3 h p (zi5 h p k) s (i:Int)=_
      generalize zi5 h p k=S
      unfold zi3
      have e2:w64 ((i:Int)+2)=((i+2:Nat):Int):=by rw [za9 (by omega) (by omega)];omega
      have e1:w64 ((i:Int)+1)=((i+1:Nat):Int):=by rw [za9 (by omega) (by omega)];omega
      have p85:=zLz H (show i+2 < h.len by omega) (p.get i) (p.get (i+1)) (p.get (i+2))
      rw [e0,decide_eq_true (show (i:Int) < ((h.len - 2:Nat):Int) by omega),cond_true,e2,e1,Int.toNat_natCast,Int.toNat_natCast,Int.toNat_natCast,hp,p85,
        decide_eq_true (show 0≤(i:Int)∧(i:Int) < (h.len:Int) by omega),decide_eq_true (show 0≤((i+1:Nat):Int)∧((i+1:Nat):Int) < (h.len:Int) by omega),
        decide_eq_true (show 0≤((i+2:Nat):Int)∧((i+2:Nat):Int) < (h.len:Int) by omega)]
      rfl)
    (fun k s=>by
      show zi3 h p (zi5 h p k) s ((h.len - 2:Nat):Int)=_
      unfold zi3
      rw [e0,decide_eq_false (show ¬ ((h.len - 2:Nat):Int) < ((h.len - 2:Nat):Int) by omega),cond_false])
    (fun _ _ _ _ _=>trivial) (Nat.zero_le _) (by omega) 0 trivial
  exact this
def VOK (h p:Sl Int):Prop:=HOK h∧p.len=h.len∧∀ i,i < p.len→inw p i=true
theorem zLB (h p : Sl Int) (w : wf_39 h) :
    (VOK h p→p44 h p=true∧s44 h p=(zoC (kk h p) (h.len - 2) 0 0,0))∧(¬ VOK h p→p44 h p=true∧s44 h p=(0,2)):=by
  unfold p44 s44
  rw [zir]
  by_cases h1:(2:Int)≤(h.len:Int)∧(h.len:Int)≤8
  · rw [decide_eq_true h1, Bool.not_true, cond_false, cond_false]
    unfold zn1 zn0
    by_cases h2:p.len=h.len
    · rw [h2, show ((h.len : Int) != (h.len : Int)) = false by simp, cond_false, cond_false]
      have e := zIu (good := fun i => inc h i && inw p i) (bad := ((0:Int), (2:Int))) (fin := znX h p) (finP := znY h p) (n := h.len) (lpS := zja h p) (lpP := zjb h p)
        (fun k i hi=>by
          show zi8 h p (zja h p k) (i:Int)=_
          generalize zja h p k=S
          have ic:=zkb h i hi w.1 (cond (inw p i) (S (w64 ((i:Int)+(1:Int)))) ((0:Int),(2:Int))) ((0:Int),(2:Int))
          unfold zi8 zi6
          rw [decide_eq_true (show (i:Int) < (h.len:Int) by omega),cond_true,Int.toNat_natCast,zir,zir,show decide (-1000000≤p.get i∧p.get i≤1000000)=inw p i from rfl,← zlQ]
          refine Eq.trans ?_ (ic.trans ?_)
          · cases inw p i <;> rfl
          · cases inc h i <;> cases inw p i <;> rfl)
        (fun k=>by
          show zi8 h p (zja h p k) (h.len:Int)=_
          unfold zi8
          rw [decide_eq_false (show ¬ (h.len:Int) < (h.len:Int) by omega),cond_false])
        (fun k i hi=>by
          show zi9 h p (zjb h p k) (i:Int)=_
          generalize zjb h p k=S
          have w1:=w.1
          have ic:=zkb h i hi w.1 (cond (inw p i) (S (w64 ((i:Int)+(1:Int)))) true) true
          unfold zi9 zi7
          rw [decide_eq_true (show (i:Int) < (h.len:Int) by omega),cond_true,Int.toNat_natCast,zir,zir,show decide (-1000000≤p.get i∧p.get i≤1000000)=inw p i from rfl,← zlQ,h2,
            decide_eq_true (show 0≤(i:Int)∧(i:Int) < (h.len:Int) by omega),Bool.true_and,Bool.true_and]
          refine Eq.trans ?_ (ic.trans ?_)
          · by_cases h0 : 0 < i
            · rw [zjr h0 (by omega), Int.toNat_natCast, decide_eq_true (show 0 ≤ ((i - 1 : Nat) : Int) ∧ ((i - 1 : Nat) : Int) < (h.len : Int) by omega), Bool.true_and]
              cases inw p i <;> rfl
            · rw [decide_eq_false (show ¬ (i : Int) > 0 by omega)]
              cases inw p i <;> rfl
          · cases inc h i <;> cases inw p i <;> rfl)
        (fun k=>by
          show zi9 h p (zjb h p k) (h.len:Int)=_
          unfold zi9
          rw [decide_eq_false (show ¬ (h.len:Int) < (h.len:Int) by omega),cond_false])
        w.1
      refine ⟨fun V=>?_,fun V=>?_⟩
      · obtain ⟨a, b⟩ := e.1 fun i hi => by rw [V.1.1 i hi, V.2.2 i (by omega)]; rfl
        obtain ⟨c,d⟩:=zLA h p V.1 h2
        exact ⟨Eq.trans a c,Eq.trans b d⟩
      · refine e.2 fun hh => V ⟨⟨fun i hi => ?_, by omega, by omega⟩, h2, fun i hi => ?_⟩
        · exact (Bool.and_eq_true _ _ ▸ hh i hi).1
        · exact (Bool.and_eq_true _ _ ▸ hh i (by omega)).2
    · rw [show ((p.len : Int) != (h.len : Int)) = true by simp; omega, cond_true, cond_true]
      exact ⟨fun V=>absurd V.2.1 h2,fun _=>⟨rfl,rfl⟩⟩
  · rw [decide_eq_false h1, Bool.not_false, cond_true, cond_true]
    exact ⟨fun V=>absurd V.1.2 (by omega),fun _=>⟨rfl,rfl⟩⟩
end Go.Proofs
namespace Go.Pm
open Go
def zvt : Nat → Int → List Int
  | 0,_=>[]
  | n+1,a=>a :: zvt n (a+1)
def zjR (a b:Int):List Int:=zvt (b - a+1).toNat a
theorem zoD : ∀ {n : Nat} {a x : Int}, x ∈ zvt n a ↔ a ≤ x ∧ x < a + n
  | 0,a,x=>by simp only [zvt,List.not_mem_nil,false_iff];omega
  | n+1,a,x=>by
    rw [zvt,List.mem_cons,zoD];omega
theorem zdb {a b x:Int} : x∈zjR a b↔a≤x∧x≤b:=by rw [zjR,zoD];omega
theorem zmF : ∀ {n : Nat} {a : Int}, (zvt n a).Nodup
  | 0,a=>List.nodup_nil
  | n+1,a=>List.nodup_cons.2 ⟨fun h=>by have:=zoD.1 h;omega,zmF⟩
theorem zmG {a b:Int} : (zjR a b).Nodup:=zmF
theorem zuD:∀ (n:Nat) (a:Int),(List.range n).map (fun (i:Nat)=>a+i)=zvt n a:=by
 intro n
 induction n with
 | zero=>intro a;rfl
 | succ n ih =>
  intro a
  rw [List.range_succ_eq_map,List.map_cons,List.map_map,zvt,← ih (a+1)]
  congr 1
  ·simp
  ·refine List.map_congr_left fun i _ => ?_
   simp only [Function.comp];omega
theorem zAU {a b:Int} (h:a≤b):zjR a b ≠ []:=fun e=>by have:a∈zjR a b:=zdb.2 ⟨by omega,h⟩;rw [e] at this;simp at this

theorem zAV {σ β : Type} {step : Int → σ → σ} {E : σ → β} {EP : σ → Bool} {Inv : σ → Prop} {lo hi : Int} {lpS : Nat → Int → σ → β} {lpP : Nat → Int → σ → Bool}
    (hS:∀ k r s,lo≤r→r≤hi→Inv s→lpS (k+1) r s=lpS k (w64 (r+(1:Int))) (step r s)) (hE:∀ k r s,lo≤r→hi < r→Inv s→lpS (k+1) r s=E s)
    (hP:∀ k r s,lo≤r→r≤hi→Inv s→lpP (k+1) r s=lpP k (w64 (r+(1:Int))) (step r s)) (hPE:∀ k r s,lo≤r→hi < r→Inv s→lpP (k+1) r s=EP s)
    (hI:∀ r s,lo≤r→r≤hi→Inv s→Inv (step r s)) (h1 : -9223372036854775808≤lo) (h2:hi < 9223372036854775807) (h3:hi - lo < 9223372036854775800) (s:σ) (h0:Inv s) :
    lpP Fuel lo s=EP ((zjR lo hi).foldl (fun s r=>step r s) s)∧lpS Fuel lo s=E ((zjR lo hi).foldl (fun s r=>step r s) s)∧Inv ((zjR lo hi).foldl (fun s r=>step r s) s):=by
  have key:∀ (n k:Nat) (r:Int) (s:σ),lo≤r→(r+n=hi+1∨n=0∧hi < r)→n < k→Inv s→lpP k r s=EP ((zvt n r).foldl (fun s r=>step r s) s)∧lpS k r s=E ((zvt n r).foldl (fun s r=>step r s) s)∧Inv ((zvt n r).foldl (fun s r=>step r s) s):=by
    intro n
    induction n with
    | zero =>
      intro k r s hl hr hk hs
      obtain ⟨k,rfl⟩:∃ k',k=k'+1:=⟨k - 1,by omega⟩
      have:hi < r:=by omega
      exact ⟨hPE k r s hl this hs,hE k r s hl this hs,hs⟩
    | succ n ih =>
      intro k r s hl hr hk hs
      obtain ⟨k,rfl⟩:∃ k',k=k'+1:=⟨k - 1,by omega⟩
      have hrh:r≤hi:=by omega
      rw [hS k r s hl hrh hs,hP k r s hl hrh hs,za9 (by omega) (by omega)]
      exact ih k (r+1) (step r s) (by omega) (by omega) (by omega) (hI r s hl hrh hs)
  unfold zjR
  exact key (hi - lo+1).toNat Fuel lo s (Int.le_refl _) (by omega) (by simp only [Fuel];omega) h0

def mnS (b k:Int):Int:=if b < 0 then k else if k < b then k else b
def mnL (l:List Int):Int:=l.foldl mnS (-1)
theorem zuE : ∀ (l : List Int) (b : Int), 0 ≤ b → (∀ x ∈ l, 0 ≤ x) → (l.foldl mnS b = b ∨ l.foldl mnS b ∈ l) ∧ l.foldl mnS b ≤ b ∧ ∀ x ∈ l, l.foldl mnS b ≤ x
  | [],b,_,_=>⟨.inl rfl,Int.le_refl _,fun x hx=>by simp at hx⟩
  | y :: l,b,hb,hl=>by
    have hy:=hl y List.mem_cons_self
    have e:mnS b y=if y < b then y else b:=by unfold mnS;rw [if_neg (by omega)]
    rw [List.foldl_cons,e]
    have hm:(if y < b then y else b)≤b∧(if y < b then y else b)≤y∧((if y < b then y else b)=y∨(if y < b then y else b)=b):=by split <;> omega
    generalize (if y < b then y else b)=m at hm
    obtain ⟨h1,h2,h3⟩:=zuE l m (by omega) (fun x hx=>hl x (List.mem_cons_of_mem _ hx))
    refine ⟨?_,by omega,fun x hx=>?_⟩
    · rcases h1 with h1 | h1
      · rcases hm.2.2 with h | h
        · exact .inr (by rw [h1,h];exact List.mem_cons_self)
        · exact .inl (by rw [h1,h])
      · exact .inr (List.mem_cons_of_mem _ h1)
    · rcases List.mem_cons.1 hx with e | hx
      · rw [e];omega
      · exact h3 x hx
theorem zoE {l:List Int} (hl:∀ x∈l,0≤x) (hne:l ≠ []):mnL l∈l∧∀ x∈l,mnL l≤x:=by
 cases l with
 | nil=>exact absurd rfl hne
 | cons y l =>
  have hy:=hl y List.mem_cons_self
  have e:mnL (y :: l)=l.foldl mnS y:=by unfold mnL;rw [List.foldl_cons];rfl
  obtain ⟨h1,h2,h3⟩:=zuE l y hy (fun x hx=>hl x (List.mem_cons_of_mem _ hx))
  rw [e]
  refine ⟨?_,fun x hx=>?_⟩
  ·rcases h1 with h1 | h1
   ·rw [h1];exact List.mem_cons_self
   ·exact List.mem_cons_of_mem _ h1
  ·rcases List.mem_cons.1 hx with e | hx
   ·rw [e];exact h2
   ·exact h3 x hx

abbrev MpT:=Nat×(List Int→Option (List Int))
def zA7 (v:List Int) (c:List Int) (a:MpT):MpT:=(addN (a.2 c) a.1,ze4 c v a.2)
def mp0:MpT:=(0,fun _=>none)
theorem zlS {v c:List Int} {a:MpT} {x:List Int} : (zA7 v c a).2 x=if x=c then some v else a.2 x:=by
 show (match decide (x=c) with | true=>some v | false=>a.2 x)=_
 by_cases h:x=c
 ·rw [decide_eq_true h,if_pos h]
 ·rw [decide_eq_false h,if_neg h]
theorem zD0 {v c:List Int} {a:MpT} : (zA7 v c a).1=if a.2 c=none then a.1+1 else a.1:=by
 show addN (a.2 c) a.1=_
 cases a.2 c <;> simp [addN]
theorem zoF (val : List Int → List Int) : ∀ (l : List (List Int)) (a : MpT) (x : List Int), (l.foldl (fun a c => zA7 (val c) c a) a).2 x = if x ∈ l then some (val x) else a.2 x
  | [],a,x=>by simp
  | c :: l,a,x=>by
    rw [List.foldl_cons,zoF val l,zlS]
    by_cases h1:x∈l
    · rw [if_pos h1,if_pos (List.mem_cons_of_mem _ h1)]
    · rw [if_neg h1]
      by_cases h2:x=c
      · rw [if_pos h2,if_pos (by rw [h2];exact List.mem_cons_self),h2]
      · rw [if_neg h2,if_neg (fun h=>(List.mem_cons.1 h).elim h2 h1)]
def Cnt (a:MpT):Prop:=∃ K:List (List Int),K.Nodup∧K.length=a.1∧∀ x,a.2 x ≠ none↔x∈K
theorem zNZ:Cnt mp0:=⟨[],List.nodup_nil,rfl,fun x=>by simp [mp0]⟩
theorem zIw {a:MpT} (v c:List Int) (h:Cnt a):Cnt (zA7 v c a):=by
 obtain ⟨K,h1,h2,h3⟩:=h
 by_cases hc:a.2 c=none
 ·refine ⟨c :: K, List.nodup_cons.2 ⟨fun h => (h3 c).2 h hc, h1⟩, ?_, fun x => ?_⟩
  ·rw [zD0,if_pos hc,List.length_cons,h2]
  ·rw [zlS, List.mem_cons]
   by_cases hx:x=c
   ·simp [hx]
   ·rw [if_neg hx,h3 x];simp [hx]
 ·refine ⟨K, h1, ?_, fun x => ?_⟩
  ·rw [zD0,if_neg hc,h2]
  ·rw [zlS]
   by_cases hx:x=c
   ·rw [if_pos hx,hx];exact ⟨fun _=>(h3 c).1 hc,fun _=>by simp⟩
   ·rw [if_neg hx];exact h3 x
theorem zoG (val : List Int → List Int) : ∀ (l : List (List Int)) (a : MpT), Cnt a → Cnt (l.foldl (fun a c => zA7 (val c) c a) a)
  | [],_,h=>h
  | c :: l,a,h=>zoG val l _ (zIw _ c h)
theorem zAW {a:MpT} (h:Cnt a) {L:List (List Int)} (hL:L.Nodup) (he:∀ x,a.2 x ≠ none↔x∈L):a.1=L.length:=by
 obtain ⟨K,h1,h2,h3⟩:=h
 rw [← h2]
 exact ((List.perm_ext_iff_of_nodup h1 hL).2 fun x=>(h3 x).symm.trans (he x)).length_eq
end Go.Pm
namespace Go.Proofs
open Go Go.Pm
set_option maxRecDepth 100000
structure BG (l : Sl Gate) : Prop where
  ok:∀ i,i < l.len→ze2 (l.get i)
  lo:2≤l.len
  hi:l.len≤8
  wide:∀ i,i < l.len→(l.get i).High - (l.get i).Low≤60
  inc:∀ i,i+1 < l.len→(l.get i).Z < (l.get (i+1)).Z
def zN0 (l:Sl Gate) (i:Nat):Bool:=decide (¬ w64 ((l.get i).High - (l.get i).Low) > 60∧(0 < i→(l.get (i - 1)).Z < (l.get i).Z))
theorem zD1 (l:Sl Gate) (hn:l.len≤9223372036854775807):p92 l=true∧(s92 l=true↔BG l):=by
  have cc:∀ {α:Type} (i:Nat) (_:i < l.len) (a b:α),(cond (decide ((w64 ((l.get i).High - (l.get i).Low)) > (60:Int))) b (cond (decide ((i:Int) > (0:Int))) (cond (decide ((l.get i).Z≤(l.get ((w64 ((i:Int) - (1:Int))).toNat)).Z)) b a) a))=cond (zN0 l i) a b:=by
    intro α i hi a b
    unfold zN0
    by_cases h1:w64 ((l.get i).High - (l.get i).Low) > 60
    · rw [decide_eq_true h1,cond_true,decide_eq_false (fun h=>h.1 h1),cond_false]
    · rw [decide_eq_false h1, cond_false]
      by_cases h0:0 < i
      · rw [decide_eq_true (show (i : Int) > 0 by omega), cond_true, zjr h0 (by omega), Int.toNat_natCast]
        by_cases h2:(l.get i).Z≤(l.get (i - 1)).Z
        · rw [decide_eq_true h2,cond_true,decide_eq_false (fun h=>by have:=h.2 h0;omega),cond_false]
        · rw [decide_eq_false h2,cond_false,decide_eq_true (show ¬ w64 ((l.get i).High - (l.get i).Low) > 60∧(0 < i→(l.get (i - 1)).Z < (l.get i).Z) from ⟨h1,fun _=>by omega⟩),cond_true]
      · rw [decide_eq_false (show ¬ (i:Int) > 0 by omega),cond_false,decide_eq_true (show ¬ w64 ((l.get i).High - (l.get i).Low) > 60∧(0 < i→(l.get (i - 1)).Z < (l.get i).Z) from ⟨h1,fun h=>absurd h h0⟩),cond_true]
  have := zjZ (good := zN0 l) (fin := s74 (l.len : Int) 2 8 && s64 l) (n := l.len) (lpS := ziN l) (lpP := ziO l)
    (fun k i hi=>by
      show ziL l (ziN l k) (i:Int)=_
      generalize ziN l k=S
      unfold ziL
      rw [decide_eq_true (show (i:Int) < (l.len:Int) by omega),cond_true,Int.toNat_natCast]
      exact cc i hi _ _)
    (fun k=>by
      show ziL l (ziN l k) (l.len:Int)=_
      unfold ziL
      rw [decide_eq_false (show ¬ (l.len:Int) < (l.len:Int) by omega),cond_false,zgI])
    (fun k i hi=>by
      show ziM l (ziO l k) (i:Int)=_
      generalize ziO l k=S
      unfold ziM
      rw [decide_eq_true (show (i:Int) < (l.len:Int) by omega),cond_true,Int.toNat_natCast,decide_eq_true (show 0≤(i:Int)∧(i:Int) < (l.len:Int) by omega),Bool.true_and,← cc i hi]
      by_cases h0:0 < i
      · rw [decide_eq_true (show (i:Int) > 0 by omega),cond_true,cond_true,zjr h0 (by omega),decide_eq_true (show 0≤((i - 1:Nat):Int)∧((i - 1:Nat):Int) < (l.len:Int) by omega),Bool.true_and]
      · rw [decide_eq_false (show ¬ (i:Int) > 0 by omega),cond_false,cond_false])
    (fun k=>by
      show ziM l (ziO l k) (l.len:Int)=_
      unfold ziM
      rw [decide_eq_false (show ¬ (l.len:Int) < (l.len:Int) by omega),cond_false,(zDX l hn).1]
      cases s74 (l.len:Int) 2 8 <;> rfl)
    hn
  refine ⟨this.1,this.2.trans ?_⟩
  rw [Bool.and_eq_true,(zDX l hn).2,zir,decide_eq_true_eq]
  constructor
  · rintro ⟨h1, h2, h3⟩
    have hg:∀ i,i < l.len→¬ w64 ((l.get i).High - (l.get i).Low) > 60∧(0 < i→(l.get (i - 1)).Z < (l.get i).Z):=fun i hi=>of_decide_eq_true (h1 i hi)
    refine ⟨h3.1,by omega,by omega,fun i hi=>?_,fun i hi=>?_⟩
    · obtain ⟨_, a, b, c⟩ := h3.1 i hi
      have:=(hg i hi).1
      rw [za9 (by omega) (by omega)] at this
      omega
    · have := (hg (i + 1) hi).2 (by omega)
      rw [Nat.add_sub_cancel] at this;exact this
  · intro H
    have h1:=H.lo;have h2:=H.hi
    refine ⟨fun i hi=>decide_eq_true ⟨?_,fun h0=>?_⟩,by omega,H.ok,by omega,by omega⟩
    · obtain ⟨_, a, b, c⟩ := H.ok i hi
      have:=H.wide i hi
      rw [za9 (by omega) (by omega)];omega
    · have := H.inc (i - 1) (by omega)
      rwa [Nat.sub_add_cancel h0] at this
def zsS (l : Sl Gate) : Nat → Sl Int
  | 0=>⟨0,fun _=>default⟩
  | n+1=>⟨n+1,zeb n (zsS l n).get (fun _=>(l.get n).Z)⟩
theorem zgr (l : Sl Gate) : ∀ n, (zsS l n).len = n
  | 0=>rfl
  | _+1=>rfl
theorem zjs (l : Sl Gate) : ∀ n j, j < n → (zsS l n).get j = (l.get j).Z
  | 0,j,h=>by omega
  | n+1,j,h=>by
    show zeb n (zsS l n).get (fun _=>(l.get n).Z) j=_
    unfold zeb
    by_cases hj:j < n
    · rw [show Nat.ble n j = false from by cases e : Nat.ble n j with | true => have := Nat.le_of_ble_eq_true e; omega | false => rfl]
      exact zjs l n j hj
    · have : j = n := by omega
      subst this
      rw [show Nat.ble j j=true from by simp]
instance (g:Gate):Decidable (ze2 g):=by unfold ze2;exact inferInstance
def zLC (l:Sl Gate) (i:Nat):Bool:=decide (ze2 (l.get i)∧(l.get i).High - (l.get i).Low≤60)
theorem zLD (l:Sl Gate) (hn:l.len≤1048576):p57 l=true∧(s57 l=true↔BG l):=by
 have wz:∀ n,n≤l.len→(∀ i,i < n→ze2 (l.get i))→wf_39 (zsS l n):=fun n hl h=>by
  refine ⟨by rw [zgr];omega,fun i hi=>?_⟩
  rw [zgr] at hi
  rw [zjs l n i hi]
  have:=(h i hi).1
  show wfI _
  unfold wfI
  omega
 have cc:∀ {α:Type} (i:Nat) (a b:α),(cond (!(s49 (l.get i))) b (cond (decide ((w64 ((l.get i).High - (l.get i).Low)) > (60:Int))) b a))=cond (zLC l i) a b:=by
  intro α i a b
  unfold zLC
  by_cases h1:ze2 (l.get i)
  ·rw [(zDW _).2 h1, Bool.not_true, cond_false]
   have h1':=h1
   obtain ⟨_,x,y,z⟩:=h1'
   rw [za9 (by omega) (by omega)]
   by_cases h2:(l.get i).High - (l.get i).Low≤60
   ·rw [decide_eq_false (by omega),cond_false,decide_eq_true (show ze2 (l.get i)∧(l.get i).High - (l.get i).Low≤60 from ⟨h1,h2⟩),cond_true]
   ·rw [decide_eq_true (by omega),cond_true,decide_eq_false (fun h=>h2 h.2),cond_false]
  ·rw [show s49 (l.get i)=false from by cases h:s49 (l.get i) with | true=>exact absurd ((zDW _).1 h) h1 | false=>rfl,Bool.not_false,cond_true,decide_eq_false (fun h=>h1 h.1),cond_false]
 have key:∀ (m k i:Nat),i+m=l.len→m < k→(∀ j,j < i→zLC l j=true)→zjn l k (i:Int) (zsS l i)=true∧(zjm l k (i:Int) (zsS l i)=true↔(∀ j,j < l.len→zLC l j=true)∧HOK (zsS l l.len)):=by
  intro m
  induction m with
  | zero =>
   intro k i hi hk hg
   obtain ⟨k,rfl⟩:∃ k',k=k'+1:=⟨k - 1,by omega⟩
   have:i=l.len:=by omega
   subst this
   show zjl l (zjn l k) (l.len:Int) (zsS l l.len)=true∧(zjk l (zjm l k) (l.len:Int) (zsS l l.len)=true↔_)
   obtain ⟨h1,h2⟩:=zDY (zsS l l.len) (wz _ (Nat.le_refl _) fun i hi=>(of_decide_eq_true (hg i hi)).1)
   unfold zjl zjk
   rw [decide_eq_false (show ¬ (l.len:Int) < (l.len:Int) by omega),cond_false,cond_false,h1,h2]
   exact ⟨rfl,fun h=>⟨hg,h⟩,fun h=>h.2⟩
  | succ m ih =>
   intro k i hi hk hg
   obtain ⟨k,rfl⟩:∃ k',k=k'+1:=⟨k - 1,by omega⟩
   show zjl l (zjn l k) (i:Int) (zsS l i)=true∧(zjk l (zjm l k) (i:Int) (zsS l i)=true↔_)
   unfold zjl zjk zor zoq
   rw [decide_eq_true (show (i:Int) < (l.len:Int) by omega),cond_true,cond_true,zgr,decide_eq_true (show 0≤(i:Int)∧(i:Int) < (l.len:Int) by omega),decide_eq_true (show (i+1) * 8≤140737488355328∧i+1≤9223372036854775807 by omega),Bool.true_and,Bool.true_and,Bool.true_and,Bool.true_and,Bool.true_and,Int.toNat_natCast,zda (n:=l.len) (by omega) (by omega)]
   have ih:=ih k (i+1) (by omega) (by omega)
   have ez:(⟨(i+1),(zeb i (zsS l i).get (fun _=>(l.get i).Z))⟩:Sl Int)=zsS l (i+1):=rfl
   rw [ez,cond_true,cond_true]
   generalize zjn l k ((i+1:Nat):Int) (zsS l (i+1))=PP at ih ⊢
   generalize zjm l k ((i+1:Nat):Int) (zsS l (i+1))=SS at ih ⊢
   have e1:=cc i PP true
   have e2:=cc i SS false
   rw [e1,e2]
   cases hgi:zLC l i with
   | true =>
    rw [cond_true,cond_true]
    refine ih fun j hj=>?_
    by_cases e:j=i
    ·rw [e];exact hgi
    ·exact hg j (by omega)
   | false =>
    rw [cond_false,cond_false]
    exact ⟨rfl,fun h=>absurd h Bool.false_ne_true,fun h=>by rw [h.1 i (by omega)] at hgi;cases hgi⟩
 obtain ⟨h1,h2⟩:=key l.len Fuel 0 (by omega) (by simp only [Fuel];omega) (fun j hj=>absurd hj (by omega))
 refine ⟨h1,h2.trans ?_⟩
 constructor
 ·rintro ⟨hg, hh⟩
  have hg:∀ i,i < l.len→ze2 (l.get i)∧(l.get i).High - (l.get i).Low≤60:=fun i hi=>of_decide_eq_true (hg i hi)
  have hl:=hh.2
  rw [zgr] at hl
  refine ⟨fun i hi=>(hg i hi).1,hl.1,hl.2,fun i hi=>(hg i hi).2,fun i hi=>?_⟩
  have:=(of_decide_eq_true (hh.1 (i+1) (by rw [zgr];exact hi))).2 (by omega)
  rw [Nat.add_sub_cancel,zjs l _ i (by omega),zjs l _ (i+1) hi] at this
  exact this
 ·intro H
  refine ⟨fun i hi=>decide_eq_true ⟨H.ok i hi,H.wide i hi⟩,fun i hi=>?_,by rw [zgr];exact H.lo,by rw [zgr];exact H.hi⟩
  rw [zgr] at hi
  unfold inc
  rw [zjs l _ i hi]
  refine decide_eq_true ⟨(H.ok i hi).1,fun h0=>?_⟩
  rw [zjs l _ (i - 1) (by omega)]
  have:=H.inc (i - 1) (by omega)
  rwa [Nat.sub_add_cancel h0] at this
end Go.Proofs
namespace Go.Proofs
open Go Go.Pm
set_option maxRecDepth 100000
def tvl (l:Sl Gate) (i:Nat) (p q r:Int):Int:=s85 (l.get i).Z (l.get (i+1)).Z (l.get (i+2)).Z p q r
def mxl (l:Sl Gate) (i:Nat) (T:List Int→Option (List Int)) (p q r:Int):Int:=if zdj (T [q,r]) 0 > tvl l i p q r then zdj (T [q,r]) 0 else tvl l i p q r
def zoH (l:Sl Gate) (i:Nat) (T:List Int→Option (List Int)) (p q:Int):Int :=
 if i+2=l.len then 0 else mnL ((zjR (l.get (i+2)).Low (l.get (i+2)).High).map (mxl l i T p q))
def zD2 (l:Sl Gate) (i:Nat) (T:List Int→Option (List Int)) (p:Int) (a:MpT):MpT :=
 (zjR (l.get (i+1)).Low (l.get (i+1)).High).foldl (fun a q=>zA7 [zoH l i T p q] [p,q] a) a
def zqu (l:Sl Gate) (i:Nat) (T:List Int→Option (List Int)):MpT :=
 (zjR (l.get i).Low (l.get i).High).foldl (fun a p=>zD2 l i T p a) mp0
def tbS (l : Sl Gate) : Nat → Nat → MpT
  | 0,i=>zqu l i (fun _=>none)
  | d+1,i=>zqu l i (tbS l d (i+1)).2
def tbl (l:Sl Gate) (i:Nat):MpT:=tbS l (l.len - 2 - i) i
theorem zqv {α:Type} (i:Nat) (x y:α) (f:Nat→α):zbb i x (zbb i y f)=zbb i x f:=by
 funext j;unfold zbb;cases Nat.beq j i <;> rfl
theorem ze3 {α:Type} (i:Nat) (x:α) (f:Nat→α):zbb i x f i=x:=by
 unfold zbb;rw [show Nat.beq i i=true from by simp]
theorem zhF {α:Type} {i j:Nat} (h:j ≠ i) (x:α) (f:Nat→α):zbb i x f j=f j:=by
 unfold zbb;rw [show Nat.beq j i=false from by cases e:Nat.beq j i with | true=>exact absurd (Nat.eq_of_beq_eq_true e) h | false=>rfl]
section
variable {l:Sl Gate} (H:BG l)
include H
theorem zd6 (i:Nat) (hi:i < l.len) : -1000000≤(l.get i).Low∧(l.get i).High≤1000000∧(l.get i).Low≤(l.get i).High∧0≤(l.get i).Z∧(l.get i).Z≤100000:=by
 obtain ⟨⟨a,b⟩,c,d,e⟩:=H.ok i hi
 exact ⟨c,e,d,a,b⟩
theorem zAX (i:Nat) (hi:i+2 < l.len) (p q r:Int):p85 (l.get i).Z (l.get (i+1)).Z (l.get (i+2)).Z p q r=true :=
 zDZ (zd6 H i (by omega)).2.2.2.1 (H.inc i (by omega)) (H.inc (i+1) hi) (zd6 H (i+2) hi).2.2.2.2
theorem r93 (i : Nat) (hi : i + 2 < l.len) (p q : Int) (n : Nat) (hn : n + 1 = l.len) (mk : Nat → Bool) (nn : Nat → Nat) (F : Nat → List Int → Option (List Int)) (hmk : mk i = true) (hmk1 : mk (i + 1) = true)
    (S0:Int→Nat→(Nat→Bool)→(Nat→Nat)→(Nat→List Int→Option (List Int))→(Sl Mp)) (S1:Int→Int→Nat→(Nat→Bool)→(Nat→Nat)→(Nat→List Int→Option (List Int))→(Sl Mp)) (S2:Int→Int→Int→Nat→(Nat→Bool)→(Nat→Nat)→(Nat→List Int→Option (List Int))→(Sl Mp))
    (P0:Int→Nat→(Nat→Bool)→(Nat→Nat)→(Nat→List Int→Option (List Int))→Bool) (P1:Int→Int→Nat→(Nat→Bool)→(Nat→Nat)→(Nat→List Int→Option (List Int))→Bool) (P2:Int→Int→Int→Nat→(Nat→Bool)→(Nat→Nat)→(Nat→List Int→Option (List Int))→Bool) :
    zrx P0 P1 P2 l q (i:Int) p (-1) (l.get (i+2)).Low n mk nn F=P2 (i:Int) p (w64 (q+1)) n mk (zbb i (addN ((F i) [p,q]) (nn i)) nn) (zbb i (ze4 [p,q] [zoH l i (F (i+1)) p q] (F i)) F) ∧
    zrv S0 S1 S2 l q (i:Int) p (-1) (l.get (i+2)).Low n mk nn F=S2 (i:Int) p (w64 (q+1)) n mk (zbb i (addN ((F i) [p,q]) (nn i)) nn) (zbb i (ze4 [p,q] [zoH l i (F (i+1)) p q] (F i)) F):=by
  have hl:=H.hi
  have e1:w64 ((i:Int)+(1:Int))=((i+1:Nat):Int):=zda (n:=l.len) (by omega) (by omega)
  have e2:w64 ((i:Int)+(2:Int))=((i+2:Nat):Int):=by rw [za9 (by omega) (by omega)];omega
  obtain ⟨b1,b2,b3,_,_⟩:=zd6 H (i+2) hi
  have mk5:∀ (S4:Int→Int→Int→Int→Nat→(Nat→Bool)→(Nat→Nat)→(Nat→List Int→Option (List Int))→(Sl Mp)) (best r kv:Int),znn S0 S1 S2 S4 l q (i:Int) p best r kv n mk nn F=S4 (i:Int) p (mnS best kv) (w64 (r+(1:Int))) n mk nn F:=by
    intro S4 best r kv
    unfold znn mnS
    by_cases h1:best < 0
    · rw [decide_eq_true h1,cond_true,if_pos h1]
    · rw [decide_eq_false h1, cond_false, if_neg h1]
      by_cases h2:kv < best
      · rw [decide_eq_true h2,cond_true,if_pos h2]
      · rw [decide_eq_false h2,cond_false,if_neg h2]
  have pk5:∀ (P4:Int→Int→Int→Int→Nat→(Nat→Bool)→(Nat→Nat)→(Nat→List Int→Option (List Int))→Bool) (best r kv:Int),zno P0 P1 P2 P4 l q (i:Int) p best r kv n mk nn F=P4 (i:Int) p (mnS best kv) (w64 (r+(1:Int))) n mk nn F:=by
    intro P4 best r kv
    unfold zno mnS
    by_cases h1:best < 0
    · rw [decide_eq_true h1,cond_true,if_pos h1]
    · rw [decide_eq_false h1, cond_false, if_neg h1]
      by_cases h2:kv < best
      · rw [decide_eq_true h2,cond_true,if_pos h2]
      · rw [decide_eq_false h2,cond_false,if_neg h2]
  have := zAV (σ := Int) (lo := (l.get (i + 2)).Low) (hi := (l.get (i + 2)).High) (step := fun r b => mnS b (mxl l i (F (i + 1)) p q r)) (Inv := fun _ => True)
    (E:=fun b=>S2 (i:Int) p (w64 (q+1)) n mk (zbb i (addN ((F i) [p,q]) (nn i)) nn) (zbb i (ze4 [p,q] [b] (F i)) F))
    (EP:=fun b=>P2 (i:Int) p (w64 (q+1)) n mk (zbb i (addN ((F i) [p,q]) (nn i)) nn) (zbb i (ze4 [p,q] [b] (F i)) F))
    (lpS:=fun k r b=>zhc S0 S1 S2 l q k (i:Int) p b r n mk nn F) (lpP:=fun k r b=>zhd P0 P1 P2 l q k (i:Int) p b r n mk nn F)
    (fun k r b _ hr _=>by
      show ziP S0 S1 S2 l q (zhc S0 S1 S2 l q k) (i:Int) p b r n mk nn F=_
      generalize zhc S0 S1 S2 l q k=S
      unfold ziP
      rw [mk5,e2,e1,Int.toNat_natCast,Int.toNat_natCast,Int.toNat_natCast,decide_eq_true hr,cond_true]
      rfl)
    (fun k r b _ hr _=>by
      show ziP S0 S1 S2 l q (zhc S0 S1 S2 l q k) (i:Int) p b r n mk nn F=_
      generalize zhc S0 S1 S2 l q k=S
      unfold ziP
      rw [e2,Int.toNat_natCast,Int.toNat_natCast,decide_eq_false (by omega),cond_false])
    (fun k r b _ hr _=>by
      show ziQ P0 P1 P2 l q (zhd P0 P1 P2 l q k) (i:Int) p b r n mk nn F=_
      generalize zhd P0 P1 P2 l q k=S
      unfold ziQ
      rw [pk5,e2,e1,Int.toNat_natCast,Int.toNat_natCast,Int.toNat_natCast,decide_eq_true hr,cond_true,zAX H i hi,hmk1,
        decide_eq_true (show 0≤((i+2:Nat):Int)∧((i+2:Nat):Int) < (l.len:Int) by omega),decide_eq_true (show 0≤(i:Int)∧(i:Int) < (l.len:Int) by omega),decide_eq_true (show 0≤((i+1:Nat):Int)∧((i+1:Nat):Int) < (l.len:Int) by omega),
        decide_eq_true (show 0≤((i+1:Nat):Int)∧((i+1:Nat):Int) < (n:Int) by omega),decide_eq_true (show i+1 < n∧true=true from ⟨by omega,rfl⟩),decide_eq_true (show i+1 < n by omega)]
      simp only [decide_true,Bool.true_and]
      rfl)
    (fun k r b _ hr _=>by
      show ziQ P0 P1 P2 l q (zhd P0 P1 P2 l q k) (i:Int) p b r n mk nn F=_
      generalize zhd P0 P1 P2 l q k=S
      unfold ziQ
      rw [e2,Int.toNat_natCast,Int.toNat_natCast,decide_eq_false (show ¬ r≤(l.get (i+2)).High by omega),cond_false,hmk,
        decide_eq_true (show 0≤((i+2:Nat):Int)∧((i+2:Nat):Int) < (l.len:Int) by omega),decide_eq_true (show 0≤(i:Int)∧(i:Int) < (n:Int) by omega),decide_eq_true (show i < n∧true=true from ⟨by omega,rfl⟩),decide_eq_true (show i < n by omega)]
      simp only [Bool.true_and])
    (fun _ _ _ _ _=>trivial) (by omega) (by omega) (by omega) (-1) trivial
  have ev:zoH l i (F (i+1)) p q=(zjR (l.get (i+2)).Low (l.get (i+2)).High).foldl (fun b r=>mnS b (mxl l i (F (i+1)) p q r)) (-1):=by
    unfold zoH mnL
    rw [if_neg (by omega),List.foldl_map]
  rw [ev]
  exact ⟨this.1,this.2.1⟩
theorem zOL (i : Nat) (hi : i + 1 < l.len) (p : Int) (n : Nat) (hn : n + 1 = l.len) (mk : Nat → Bool) (nn : Nat → Nat) (F : Nat → List Int → Option (List Int)) (hmk : mk i = true) (hmk1 : i + 2 < l.len → mk (i + 1) = true) (a : MpT)
    (S0:Int→Nat→(Nat→Bool)→(Nat→Nat)→(Nat→List Int→Option (List Int))→(Sl Mp)) (S1:Int→Int→Nat→(Nat→Bool)→(Nat→Nat)→(Nat→List Int→Option (List Int))→(Sl Mp)) (P0:Int→Nat→(Nat→Bool)→(Nat→Nat)→(Nat→List Int→Option (List Int))→Bool) (P1:Int→Int→Nat→(Nat→Bool)→(Nat→Nat)→(Nat→List Int→Option (List Int))→Bool) :
    zrB P0 P1 l (i:Int) p (l.get (i+1)).Low n mk (zbb i a.1 nn) (zbb i a.2 F)=P1 (i:Int) (w64 (p+1)) n mk (zbb i (zD2 l i (F (i+1)) p a).1 nn) (zbb i (zD2 l i (F (i+1)) p a).2 F) ∧
    zrA S0 S1 l (i:Int) p (l.get (i+1)).Low n mk (zbb i a.1 nn) (zbb i a.2 F)=S1 (i:Int) (w64 (p+1)) n mk (zbb i (zD2 l i (F (i+1)) p a).1 nn) (zbb i (zD2 l i (F (i+1)) p a).2 F):=by
  have hl:=H.hi
  have e1:w64 ((i:Int)+(1:Int))=((i+1:Nat):Int):=zda (n:=l.len) (by omega) (by omega)
  have e2:w64 ((i:Int)+(2:Int))=((i+2:Nat):Int):=by rw [za9 (by omega) (by omega)];omega
  have em:w64 ((l.len:Int) - (2:Int))=((l.len - 2:Nat):Int):=by rw [za9 (by omega) (by omega)];omega
  obtain ⟨b1,b2,b3,_,_⟩:=zd6 H (i+1) hi
  have ins:∀ (b:MpT) (v q:Int),zbb i (addN ((zbb i b.2 F) i [p,q]) ((zbb i b.1 nn) i)) (zbb i b.1 nn)=zbb i (zA7 [v] [p,q] b).1 nn∧zbb i (ze4 [p,q] [v] ((zbb i b.2 F) i)) (zbb i b.2 F)=zbb i (zA7 [v] [p,q] b).2 F:=by
    intro b v q
    rw [ze3,ze3,zqv,zqv]
    exact ⟨rfl,rfl⟩
  have := zAV (σ := MpT) (lo := (l.get (i + 1)).Low) (hi := (l.get (i + 1)).High) (step := fun q a => zA7 [zoH l i (F (i + 1)) p q] [p, q] a) (Inv := fun _ => True)
    (E:=fun a=>S1 (i:Int) (w64 (p+1)) n mk (zbb i a.1 nn) (zbb i a.2 F)) (EP:=fun a=>P1 (i:Int) (w64 (p+1)) n mk (zbb i a.1 nn) (zbb i a.2 F))
    (lpS:=fun k q a=>zhe S0 S1 l k (i:Int) p q n mk (zbb i a.1 nn) (zbb i a.2 F)) (lpP:=fun k q a=>zhf P0 P1 l k (i:Int) p q n mk (zbb i a.1 nn) (zbb i a.2 F))
    (fun k q b _ hr _=>by
      show ziR S0 S1 l (zhe S0 S1 l k) (i:Int) p q n mk (zbb i b.1 nn) (zbb i b.2 F)=_
      generalize zhe S0 S1 l k=S
      unfold ziR zry
      rw [e1,e2,em,Int.toNat_natCast,Int.toNat_natCast,Int.toNat_natCast,decide_eq_true hr,cond_true]
      by_cases h:i+2=l.len
      · rw [show ((i : Int) == ((l.len - 2 : Nat) : Int)) = true from by simp; omega, cond_true, (ins b 0 q).1, (ins b 0 q).2]
        unfold zoH
        rw [if_pos h]
      · rw [show ((i : Int) == ((l.len - 2 : Nat) : Int)) = false from by simp; omega, cond_false]
        rw [(r93 H i (by omega) p q n hn mk _ _ hmk (hmk1 (by omega)) S0 S1 S P0 P1 (fun _ _ _ _ _ _ _=>true)).2,zhF (show i+1 ≠ i by omega),(ins b _ q).1,(ins b _ q).2])
    (fun k q b _ hr _=>by
      show ziR S0 S1 l (zhe S0 S1 l k) (i:Int) p q n mk (zbb i b.1 nn) (zbb i b.2 F)=_
      generalize zhe S0 S1 l k=S
      unfold ziR
      rw [e1,Int.toNat_natCast,decide_eq_false (show ¬ q≤(l.get (i+1)).High by omega),cond_false])
    (fun k q b _ hr _=>by
      show ziS P0 P1 l (zhf P0 P1 l k) (i:Int) p q n mk (zbb i b.1 nn) (zbb i b.2 F)=_
      generalize zhf P0 P1 l k=S
      unfold ziS zrz
      rw [e1,e2,em,Int.toNat_natCast,Int.toNat_natCast,Int.toNat_natCast,decide_eq_true hr,cond_true,hmk,decide_eq_true (show 0≤((i+1:Nat):Int)∧((i+1:Nat):Int) < (l.len:Int) by omega),Bool.true_and]
      by_cases h:i+2=l.len
      · rw [show ((i : Int) == ((l.len - 2 : Nat) : Int)) = true from by simp; omega, cond_true, (ins b 0 q).1, (ins b 0 q).2, decide_eq_true (show 0 ≤ (i : Int) ∧ (i : Int) < (n : Int) by omega), decide_eq_true (show i < n ∧ true = true from ⟨by omega, rfl⟩), decide_eq_true (show i < n by omega), Bool.true_and, Bool.true_and, Bool.true_and]
        unfold zoH
        rw [if_pos h]
      · rw [show ((i : Int) == ((l.len - 2 : Nat) : Int)) = false from by simp; omega, cond_false, decide_eq_true (show 0 ≤ ((i + 2 : Nat) : Int) ∧ ((i + 2 : Nat) : Int) < (l.len : Int) by omega), Bool.true_and]
        rw [(r93 H i (by omega) p q n hn mk _ _ hmk (hmk1 (by omega)) S0 S1 (fun _ _ _ _ _ _ _=>default) P0 P1 S).1,zhF (show i+1 ≠ i by omega),(ins b _ q).1,(ins b _ q).2])
    (fun k q b _ hr _=>by
      show ziS P0 P1 l (zhf P0 P1 l k) (i:Int) p q n mk (zbb i b.1 nn) (zbb i b.2 F)=_
      generalize zhf P0 P1 l k=S
      unfold ziS
      rw [e1,Int.toNat_natCast,decide_eq_false (show ¬ q≤(l.get (i+1)).High by omega),cond_false,decide_eq_true (show 0≤((i+1:Nat):Int)∧((i+1:Nat):Int) < (l.len:Int) by omega),Bool.true_and])
    (fun _ _ _ _ _=>trivial) (by omega) (by omega) (by omega) a trivial
  exact ⟨this.1,this.2.1⟩
theorem zQm (i : Nat) (hi : i + 1 < l.len) (n : Nat) (hn : n + 1 = l.len) (mk : Nat → Bool) (nn : Nat → Nat) (F : Nat → List Int → Option (List Int)) (hmk : mk i = true) (hmk1 : i + 2 < l.len → mk (i + 1) = true)
    (S0:Int→Nat→(Nat→Bool)→(Nat→Nat)→(Nat→List Int→Option (List Int))→(Sl Mp)) (P0:Int→Nat→(Nat→Bool)→(Nat→Nat)→(Nat→List Int→Option (List Int))→Bool) :
    znq P0 l (i:Int) (l.get i).Low n mk (zbb i mp0.1 nn) (zbb i mp0.2 F)=P0 (w64 ((i:Int) - 1)) n mk (zbb i (zqu l i (F (i+1))).1 nn) (zbb i (zqu l i (F (i+1))).2 F) ∧
    znp S0 l (i:Int) (l.get i).Low n mk (zbb i mp0.1 nn) (zbb i mp0.2 F)=S0 (w64 ((i:Int) - 1)) n mk (zbb i (zqu l i (F (i+1))).1 nn) (zbb i (zqu l i (F (i+1))).2 F):=by
  have hl:=H.hi
  have e1:w64 ((i:Int)+(1:Int))=((i+1:Nat):Int):=zda (n:=l.len) (by omega) (by omega)
  obtain ⟨b1,b2,b3,_,_⟩:=zd6 H i (by omega)
  have := zAV (σ := MpT) (lo := (l.get i).Low) (hi := (l.get i).High) (step := fun p a => zD2 l i (F (i + 1)) p a) (Inv := fun _ => True)
    (E:=fun a=>S0 (w64 ((i:Int) - 1)) n mk (zbb i a.1 nn) (zbb i a.2 F)) (EP:=fun a=>P0 (w64 ((i:Int) - 1)) n mk (zbb i a.1 nn) (zbb i a.2 F))
    (lpS:=fun k p a=>zhg S0 l k (i:Int) p n mk (zbb i a.1 nn) (zbb i a.2 F)) (lpP:=fun k p a=>zhh P0 l k (i:Int) p n mk (zbb i a.1 nn) (zbb i a.2 F))
    (fun k p b _ hr _=>by
      show ziT S0 l (zhg S0 l k) (i:Int) p n mk (zbb i b.1 nn) (zbb i b.2 F)=_
      generalize zhg S0 l k=S
      unfold ziT
      rw [e1,Int.toNat_natCast,Int.toNat_natCast,decide_eq_true hr,cond_true]
      exact (zOL H i hi p n hn mk nn F hmk hmk1 b S0 S P0 (fun _ _ _ _ _ _=>true)).2)
    (fun k p b _ hr _=>by
      show ziT S0 l (zhg S0 l k) (i:Int) p n mk (zbb i b.1 nn) (zbb i b.2 F)=_
      generalize zhg S0 l k=S
      unfold ziT
      rw [Int.toNat_natCast,decide_eq_false (show ¬ p≤(l.get i).High by omega),cond_false])
    (fun k p b _ hr _=>by
      show ziU P0 l (zhh P0 l k) (i:Int) p n mk (zbb i b.1 nn) (zbb i b.2 F)=_
      generalize zhh P0 l k=S
      unfold ziU
      rw [e1,Int.toNat_natCast,Int.toNat_natCast,decide_eq_true hr,cond_true,decide_eq_true (show 0≤(i:Int)∧(i:Int) < (l.len:Int) by omega),decide_eq_true (show 0≤((i+1:Nat):Int)∧((i+1:Nat):Int) < (l.len:Int) by omega),Bool.true_and,Bool.true_and]
      exact (zOL H i hi p n hn mk nn F hmk hmk1 b S0 (fun _ _ _ _ _ _=>default) P0 S).1)
    (fun k p b _ hr _=>by
      show ziU P0 l (zhh P0 l k) (i:Int) p n mk (zbb i b.1 nn) (zbb i b.2 F)=_
      generalize zhh P0 l k=S
      unfold ziU
      rw [Int.toNat_natCast,decide_eq_false (show ¬ p≤(l.get i).High by omega),cond_false,decide_eq_true (show 0≤(i:Int)∧(i:Int) < (l.len:Int) by omega),Bool.true_and])
    (fun _ _ _ _ _=>trivial) (by omega) (by omega) (by omega) mp0 trivial
  exact ⟨this.1,this.2.1⟩
end
section
variable {l:Sl Gate} (H:BG l)
theorem zuF (i:Nat) (hi:i+1 < l.len):(∀ T,i+2=l.len→tbl l i=zqu l i T)∧(i+2 < l.len→tbl l i=zqu l i (tbl l (i+1)).2):=by
 constructor
 ·intro T h
  unfold tbl
  rw [show l.len - 2 - i=0 by omega]
  have ev:∀ T T' p q,zoH l i T p q=zoH l i T' p q:=fun T T' p q=>by unfold zoH;rw [if_pos h,if_pos h]
  show zqu l i _=zqu l i T
  unfold zqu zD2
  simp only [ev _ T]
 ·intro h
  unfold tbl
  rw [show l.len - 2 - i=(l.len - 2 - (i+1))+1 by omega]
  rfl
end
section
variable {l:Sl Gate} (H:BG l)
include H
theorem zjH:p93 l=true∧(s93 l).len=l.len - 1∧∀ j,j+1 < l.len→((s93 l).get j).n=(tbl l j).1∧((s93 l).get j).F=(tbl l j).2:=by
 have hl:=H.hi;have hlo:=H.lo
 have key:∀ (i k n:Nat) (mk:Nat→Bool) (nn:Nat→Nat) (F:Nat→List Int→Option (List Int)),n+1=l.len→i < l.len→i < k→(∀ j,i≤j→j+1 < l.len→mk j=true∧nn j=(tbl l j).1∧F j=(tbl l j).2)→(∀ j,j < i→mk j=false) →
   zfm l k ((i:Int) - 1) n mk nn F=true∧(zeq l k ((i:Int) - 1) n mk nn F).len=n∧∀ j,j+1 < l.len→((zeq l k ((i:Int) - 1) n mk nn F).get j).n=(tbl l j).1∧((zeq l k ((i:Int) - 1) n mk nn F).get j).F=(tbl l j).2:=by
  intro i
  induction i with
  | zero =>
   intro k n mk nn F hn _ hk h1 h2
   obtain ⟨k,rfl⟩:∃ k',k=k'+1:=⟨k - 1,by omega⟩
   have ep:zfm l (k+1) (((0:Nat):Int) - 1) n mk nn F=ziW l (zfm l k) (((0:Nat):Int) - 1) n mk nn F:=rfl
   have es:zeq l (k+1) (((0:Nat):Int) - 1) n mk nn F=ziV l (zeq l k) (((0:Nat):Int) - 1) n mk nn F:=rfl
   rw [ep,es]
   unfold ziW ziV
   rw [decide_eq_false (show ¬ (((0:Nat):Int) - 1 ≥ 0) by omega),cond_false,cond_false]
   exact ⟨rfl,rfl,fun j hj=>(h1 j (Nat.zero_le _) hj).2⟩
  | succ i ih =>
   intro k n mk nn F hn hil hk h1 h2
   obtain ⟨k,rfl⟩:∃ k',k=k'+1:=⟨k - 1,by omega⟩
   rw [show (((i+1:Nat):Int) - 1)=(i:Int) by omega]
   have ep:zfm l (k+1) (i:Int) n mk nn F=ziW l (zfm l k) (i:Int) n mk nn F:=rfl
   have es:zeq l (k+1) (i:Int) n mk nn F=ziV l (zeq l k) (i:Int) n mk nn F:=rfl
   rw [ep,es]
   unfold ziW ziV
   rw [decide_eq_true (show (i:Int) ≥ 0 by omega),cond_true,cond_true,Int.toNat_natCast,h2 i (by omega),decide_eq_true (show 0≤(i:Int)∧(i:Int) < (n:Int) by omega),decide_eq_true (show i < n∧false=false from ⟨by omega,rfl⟩),decide_eq_true (show 0≤(i:Int)∧(i:Int) < (l.len:Int) by omega),Bool.true_and,Bool.true_and,Bool.true_and]
   obtain ⟨r1,r2⟩:=zQm H i hil n hn (zbb i true mk) nn F (ze3 i true mk) (fun h=>by rw [zhF (by omega)];exact (h1 (i+1) (Nat.le_refl _) (by omega)).1) (zeq l k) (zfm l k)
   have r1:znq (zfm l k) l (i:Int) (l.get i).Low n (zbb i true mk) (zbb i 0 nn) (zbb i (fun _=>none) F)=_:=r1
   have r2:znp (zeq l k) l (i:Int) (l.get i).Low n (zbb i true mk) (zbb i 0 nn) (zbb i (fun _=>none) F)=_:=r2
   have et:zqu l i (F (i+1))=tbl l i:=by
    by_cases h:i+2=l.len
    ·exact ((zuF i hil).1 _ h).symm
    ·rw [(h1 (i+1) (Nat.le_refl _) (by omega)).2.2];exact ((zuF i hil).2 (by omega)).symm
   rw [r1,r2,et,show w64 ((i:Int) - 1)=(i:Int) - 1 from za9 (by omega) (by omega)]
   refine ih k n _ _ _ hn (by omega) (by omega) (fun j hj hjl=>?_) (fun j hj=>?_)
   ·by_cases e : j = i
    ·subst e;exact ⟨ze3 _ _ _,ze3 _ _ _,ze3 _ _ _⟩
    ·rw [zhF e,zhF e,zhF e];exact h1 j (by omega) hjl
   ·rw [zhF (by omega)];exact h2 j (by omega)
 have e1:w64 ((l.len:Int) - (1:Int))=((l.len - 1:Nat):Int):=by rw [za9 (by omega) (by omega)];omega
 have e2:w64 ((l.len:Int) - (2:Int))=((l.len - 1:Nat):Int) - 1:=by rw [za9 (by omega) (by omega)];omega
 have:=key (l.len - 1) Fuel (l.len - 1) (fun _=>false) (fun _=>0) (fun _ _=>none) (by omega) (by omega) (by simp only [Fuel];omega) (fun j h1 h2=>by omega) (fun _ _=>rfl)
 unfold p93 s93 zrD zrC
 rw [e1,e2,Int.toNat_natCast,decide_eq_true (show 0≤((l.len - 1:Nat):Int)∧((l.len - 1:Nat):Int)=((l.len - 1:Nat):Int)∧((l.len - 1:Nat):Int)≤1000000 by omega),Bool.true_and]
 exact this
end
end Go.Proofs
namespace Go.Proofs
open Go Go.Pm
set_option maxRecDepth 100000
def zmH (a b:Gate):List (List Int):=(zjR a.Low a.High).flatMap fun p=>(zjR b.Low b.High).map fun q=>[p,q]
theorem zee {a b:Gate} {c:List Int} : c∈zmH a b↔∃ p q,c=[p,q]∧(a.Low≤p∧p≤a.High)∧b.Low≤q∧q≤b.High:=by
 unfold zmH
 simp only [List.mem_flatMap,List.mem_map,zdb]
 exact ⟨fun ⟨p,hp,q,hq,e⟩=>⟨p,q,e.symm,hp,hq⟩,fun ⟨p,q,e,hp,hq⟩=>⟨p,hp,q,hq,e.symm⟩⟩
theorem zgs {a b:Gate} {p q:Int} : [p,q]∈zmH a b↔(a.Low≤p∧p≤a.High)∧b.Low≤q∧q≤b.High:=by
 rw [zee]
 exact ⟨fun ⟨p',q',e,h⟩=>by simp only [List.cons.injEq,and_true] at e;rw [e.1,e.2];exact h,fun h=>⟨p,q,rfl,h⟩⟩
theorem zqw {α β : Type} {f : α → β} (hf : ∀ x y, f x = f y → x = y) : ∀ {l : List α}, l.Nodup → (l.map f).Nodup
  | [],_=>List.nodup_nil
  | x :: l,h=>by
    rw [List.map_cons]
    rw [List.nodup_cons] at h ⊢
    refine ⟨fun hm=>?_,zqw hf h.2⟩
    obtain ⟨y,hy,e⟩:=List.mem_map.1 hm
    exact h.1 (by rw [← hf y x e];exact hy)
theorem zgJ (a b:Gate):(zmH a b).Nodup:=by
 unfold zmH List.Nodup
 rw [List.pairwise_flatMap]
 refine ⟨fun p _=>zqw (fun x y e=>by simpa using e) zmG,?_⟩
 refine List.Pairwise.imp ?_ zmG
 intro p p' hne x hx y hy e
 obtain ⟨q,_,rfl⟩:=List.mem_map.1 hx
 obtain ⟨q',_,e2⟩:=List.mem_map.1 hy
 rw [← e2] at e
 simp only [List.cons.injEq] at e
 exact hne e.1
theorem zAY (l:Sl Gate) (i:Nat) (T:List Int→Option (List Int)):zqu l i T=(zmH (l.get i) (l.get (i+1))).foldl (fun a c=>zA7 [zoH l i T (c.getD 0 0) (c.getD 1 0)] c a) mp0:=by
 unfold zqu zD2 zmH
 rw [List.foldl_flatMap]
 congr 1
 funext a p
 rw [List.foldl_map]
 rfl
theorem zis (l:Sl Gate) (i:Nat) (T:List Int→Option (List Int)) (c:List Int):(zqu l i T).2 c=if c∈zmH (l.get i) (l.get (i+1)) then some [zoH l i T (c.getD 0 0) (c.getD 1 0)] else none:=by
 rw [zAY,zoF (fun c=>[zoH l i T (c.getD 0 0) (c.getD 1 0)])]
 rfl
theorem zLE (l:Sl Gate) (i:Nat) (T:List Int→Option (List Int)):(zqu l i T).1=(zmH (l.get i) (l.get (i+1))).length:=by
 refine zAW ?_ (zgJ _ _) fun x=>?_
 ·rw [zAY];exact zoG (fun c=>[zoH l i T (c.getD 0 0) (c.getD 1 0)]) _ _ zNZ
 ·rw [zis];split <;> simp [*]
theorem zLF (l:Sl Gate) (i:Nat):(tbl l i).1=(zmH (l.get i) (l.get (i+1))).length:=by
 unfold tbl
 cases l.len - 2 - i <;> exact zLE _ _ _
theorem zuG (l:Sl Gate) (i:Nat) (c:List Int):(tbl l i).2 c ≠ none↔c∈zmH (l.get i) (l.get (i+1)):=by
  unfold tbl
  cases l.len - 2 - i
  all_goals
    show (zqu l i _).2 c ≠ none↔_
    rw [zis];split <;> simp [*]
def Lk (l:Sl Gate) (i:Nat) (p q:Int):Int:=zdj ((tbl l i).2 [p,q]) 0
def inG (g:Gate) (p:Int):Prop:=g.Low≤p∧p≤g.High
theorem zMf {x y X Y:Int} (h1 : -X≤x) (h2:x≤X) (h3:0≤y) (h4:y≤Y) : -(X * Y)≤x * y∧x * y≤X * Y:=by
 have hX:0≤X:=by omega
 have a1:=Int.mul_le_mul_of_nonneg_right h2 h3
 have a2:=Int.mul_le_mul_of_nonneg_left h4 hX
 have a3:=Int.mul_le_mul_of_nonneg_right h1 h3
 rw [Int.neg_mul] at a3
 omega
theorem zD3 {u v w p q r : Int} (hu : 0 ≤ u) (huv : u < v) (hvw : v < w) (hw : w ≤ 100000) (hp : -1000000 ≤ p ∧ p ≤ 1000000) (hq : -1000000 ≤ q ∧ q ≤ 1000000) (hr : -1000000 ≤ r ∧ r ≤ 1000000) :
  s85 u v w p q r=(1000 * (if -((r - q) * (v - u) - (q - p) * (w - v)) > (r - q) * (v - u) - (q - p) * (w - v) then -((r - q) * (v - u) - (q - p) * (w - v)) else (r - q) * (v - u) - (q - p) * (w - v))+(v - u) * (w - v) - 1) / ((v - u) * (w - v))∧0 < (v - u) * (w - v):=by
 have b1:=zMf (x:=r - q) (y:=v - u) (X:=2000000) (Y:=100000) (by omega) (by omega) (by omega) (by omega)
 have b2:=zMf (x:=q - p) (y:=w - v) (X:=2000000) (Y:=100000) (by omega) (by omega) (by omega) (by omega)
 have b3:=zMf (x:=v - u) (y:=w - v) (X:=100000) (Y:=100000) (by omega) (by omega) (by omega) (by omega)
 have b4:0 < (v - u) * (w - v):=Int.mul_pos (by omega) (by omega)
 unfold s85
 rw [za9 (x:=r - q) (by omega) (by omega),za9 (x:=v - u) (by omega) (by omega),za9 (x:=q - p) (by omega) (by omega),za9 (x:=w - v) (by omega) (by omega),
  za9 (x:=(r - q) * (v - u)) (by omega) (by omega),za9 (x:=(q - p) * (w - v)) (by omega) (by omega),za9 (x:=(v - u) * (w - v)) (by omega) (by omega)]
 generalize (r - q) * (v - u)=A at *
 generalize (q - p) * (w - v)=B at *
 generalize (v - u) * (w - v)=D at *
 rw [za9 (x:=A - B) (by omega) (by omega),za9 (x:=0 - (A - B)) (by omega) (by omega),show (0 - (A - B):Int) = -(A - B) by omega]
 have hm:0≤(if -(A - B) > A - B then -(A - B) else A - B)∧(if -(A - B) > A - B then -(A - B) else A - B)≤400000000000:=by split <;> omega
 generalize (if -(A - B) > A - B then -(A - B) else A - B)=M at *
 rw [za9 (x:=1000 * M) (by omega) (by omega),za9 (x:=1000 * M+D) (by omega) (by omega),za9 (x:=1000 * M+D - 1) (by omega) (by omega),Int.tdiv_eq_ediv_of_nonneg (by omega)]
 have d1:0≤(1000 * M+D - 1) / D:=Int.ediv_nonneg (by omega) (by omega)
 have d2:(1000 * M+D - 1) / D≤1000 * M+D - 1:=Int.ediv_le_self _ (by omega)
 rw [za9 (by omega) (by omega)]
 exact ⟨rfl,b4⟩
section
variable {l:Sl Gate} (H:BG l)
include H
theorem zD4 (i : Nat) (hi : i + 2 < l.len) (p q r : Int) (hp : inG (l.get i) p) (hq : inG (l.get (i + 1)) q) (hr : inG (l.get (i + 2)) r) :
  tvl l i p q r=(1000 * (if -((r - q) * ((l.get (i+1)).Z - (l.get i).Z) - (q - p) * ((l.get (i+2)).Z - (l.get (i+1)).Z)) > (r - q) * ((l.get (i+1)).Z - (l.get i).Z) - (q - p) * ((l.get (i+2)).Z - (l.get (i+1)).Z) then -((r - q) * ((l.get (i+1)).Z - (l.get i).Z) - (q - p) * ((l.get (i+2)).Z - (l.get (i+1)).Z)) else (r - q) * ((l.get (i+1)).Z - (l.get i).Z) - (q - p) * ((l.get (i+2)).Z - (l.get (i+1)).Z))+((l.get (i+1)).Z - (l.get i).Z) * ((l.get (i+2)).Z - (l.get (i+1)).Z) - 1) / (((l.get (i+1)).Z - (l.get i).Z) * ((l.get (i+2)).Z - (l.get (i+1)).Z))∧0 < ((l.get (i+1)).Z - (l.get i).Z) * ((l.get (i+2)).Z - (l.get (i+1)).Z):=by
 have b0:=zd6 H i (by omega)
 have b1:=zd6 H (i+1) (by omega)
 have b2:=zd6 H (i+2) hi
 have h1:=H.inc i (by omega)
 have h2:=H.inc (i+1) hi
 unfold inG at hp hq hr
 exact zD3 b0.2.2.2.1 h1 h2 b2.2.2.2.2 (by omega) (by omega) (by omega)
theorem zjt (i:Nat) (hi:i+2 < l.len) (p q r:Int) (hp:inG (l.get i) p) (hq:inG (l.get (i+1)) q) (hr:inG (l.get (i+2)) r):0≤tvl l i p q r:=by
 obtain ⟨e,hd⟩:=zD4 H i hi p q r hp hq hr
 rw [e]
 refine Int.ediv_nonneg ?_ (by omega)
 split <;> omega
theorem zCL (i : Nat) (hi : i + 2 < l.len) (p q r : Int) (hp : inG (l.get i) p) (hq : inG (l.get (i + 1)) q) (hr : inG (l.get (i + 2)) r)
    (h:(r - q) * ((l.get (i+1)).Z - (l.get i).Z)=(q - p) * ((l.get (i+2)).Z - (l.get (i+1)).Z)):tvl l i p q r=0:=by
  obtain ⟨e,hd⟩:=zD4 H i hi p q r hp hq hr
  rw [e,h,Int.sub_self,if_neg (by omega)]
  exact Int.ediv_eq_zero_of_lt (by omega) (by omega)
theorem zAZ (i:Nat) (hi:i+2=l.len) (p q:Int) (hp:inG (l.get i) p) (hq:inG (l.get (i+1)) q):Lk l i p q=0:=by
 unfold Lk
 rw [(zuF i (by omega)).1 (fun _=>none) hi,zis,if_pos (zgs.2 ⟨hp,hq⟩)]
 show zoH l i _ p q=0
 unfold zoH
 rw [if_pos hi]
theorem zA0 (i : Nat) (hi : i + 2 < l.len) (p q : Int) (hp : inG (l.get i) p) (hq : inG (l.get (i + 1)) q) :
  Lk l i p q=mnL ((zjR (l.get (i+2)).Low (l.get (i+2)).High).map fun r=>if Lk l (i+1) q r > tvl l i p q r then Lk l (i+1) q r else tvl l i p q r):=by
 have e:Lk l i p q=zoH l i (tbl l (i+1)).2 p q:=by
  unfold Lk
  rw [(zuF i (by omega)).2 hi,zis,if_pos (zgs.2 ⟨hp,hq⟩)]
  rfl
 rw [e]
 unfold zoH
 rw [if_neg (by omega)]
 rfl
theorem zqx : ∀ (d i : Nat), i + 2 + d = l.len → ∀ (p q : Int), inG (l.get i) p → inG (l.get (i + 1)) q → 0 ≤ Lk l i p q
  | 0,i,hd,p,q,hp,hq=>by rw [zAZ H i (by omega) p q hp hq];exact Int.le_refl _
  | d+1,i,hd,p,q,hp,hq=>by
    rw [zA0 H i (by omega) p q hp hq]
    obtain ⟨h1,_⟩:=zoE (l:=(zjR (l.get (i+2)).Low (l.get (i+2)).High).map fun r=>if Lk l (i+1) q r > tvl l i p q r then Lk l (i+1) q r else tvl l i p q r) (fun x hx=>by
      obtain ⟨r,hr,rfl⟩:=List.mem_map.1 hx
      have:=zjt H i (by omega) p q r hp hq (zdb.1 hr)
      split <;> omega) (fun e=>zAU (zd6 H (i+2) (by omega)).2.2.1 (List.map_eq_nil_iff.1 e))
    obtain ⟨r,hr,e⟩:=List.mem_map.1 h1
    rw [← e]
    have:=zjt H i (by omega) p q r hp hq (zdb.1 hr)
    split <;> omega
theorem zA1 (i : Nat) (hi : i + 2 < l.len) (p q : Int) (hp : inG (l.get i) p) (hq : inG (l.get (i + 1)) q) :
  (∃ r,inG (l.get (i+2)) r∧Lk l (i+1) q r≤Lk l i p q∧tvl l i p q r≤Lk l i p q)∧∀ r,inG (l.get (i+2)) r→Lk l i p q≤Lk l (i+1) q r∨Lk l i p q≤tvl l i p q r:=by
 obtain ⟨h1,h2⟩:=zoE (l:=(zjR (l.get (i+2)).Low (l.get (i+2)).High).map fun r=>if Lk l (i+1) q r > tvl l i p q r then Lk l (i+1) q r else tvl l i p q r) (fun x hx=>by
   obtain ⟨r,hr,rfl⟩:=List.mem_map.1 hx
   have:=zjt H i (by omega) p q r hp hq (zdb.1 hr)
   split <;> omega) (fun e=>zAU (zd6 H (i+2) (by omega)).2.2.1 (List.map_eq_nil_iff.1 e))
 rw [← zA0 H i hi p q hp hq] at h1 h2
 constructor
 ·obtain ⟨r, hr, e⟩ := List.mem_map.1 h1
  refine ⟨r,zdb.1 hr,?_⟩
  rw [← e]
  split <;> omega
 ·intro r hr
  have:=h2 _ (List.mem_map.2 ⟨r,zdb.2 hr,rfl⟩)
  split at this
  ·exact .inl this
  ·exact .inr this
def Lin (l:Sl Gate) (f:Nat→Int):Prop:=∀ j,j < l.len→inG (l.get j) (f j)
end
section
variable {l:Sl Gate} (H:BG l)
theorem Lin.at {f:Nat→Int} (h:Lin l f) {j:Nat} (hj:j < l.len):inG (l.get j) (f j):=h j hj
end
section
variable {l:Sl Gate} (H:BG l)
include H
theorem zA2 (f : Nat → Int) (hf : Lin l f) (k : Int) (hk : 0 ≤ k) : ∀ (d i : Nat), i + 2 + d = l.len → (∀ j, i ≤ j → j + 2 < l.len → tvl l j (f j) (f (j + 1)) (f (j + 2)) ≤ k) → Lk l i (f i) (f (i + 1)) ≤ k
  | 0,i,hd,_=>by rw [zAZ H i (by omega) _ _ (hf i (by omega)) (hf (i+1) (by omega))];exact hk
  | d+1,i,hd,h=>by
    have ih:=zA2 f hf k hk d (i+1) (by omega) (fun j hj=>h j (by omega))
    rcases (zA1 H i (by omega) _ _ (hf i (by omega)) (hf (i+1) (by omega))).2 (f (i+2)) (hf (i+2) (by omega)) with h1 | h1
    · exact Int.le_trans h1 ih
    · exact Int.le_trans h1 (h i (Nat.le_refl _) (by omega))
end
end Go.Proofs
namespace Go.Proofs
open Go Go.Pm
set_option maxRecDepth 100000
theorem zCM (a b:Int):zHy a b=zjR a b:=zuD _ _
theorem zit (a b:Gate):zex a b=zmH a b:=by unfold zex zmH;simp only [zCM]
section
variable {l:Sl Gate} (H:BG l) (kink:Int)
include H
theorem zLG (i:Nat) (hi:i+1 < l.len) (p q:Int):zdj (((s93 l).get i).F [p,q]) 0=Lk l i p q:=by
 rw [((zjH H).2.2 i hi).2];rfl
theorem w1 (i:Nat) (hi:i+1 < l.len):w64 ((i:Int)+(1:Int))=((i+1:Nat):Int):=by
 have:=H.hi
 exact zda (n:=l.len) (by omega) (by omega)
theorem w2 (i:Nat) (hi:i < l.len):w64 ((i:Int)+(2:Int))=((i+2:Nat):Int):=by
 have:=H.hi
 rw [za9 (by omega) (by omega)];omega
def nxt (l:Sl Gate) (kink:Int) (i:Nat) (p q:Int):List (List Int):=((zjR (l.get (i+2)).Low (l.get (i+2)).High).filter fun r=>decide (Lk l (i+1) q r≤kink) && decide (tvl l i p q r≤kink)).map fun r=>[q,r]
theorem zIx (i:Nat) (hi:i+2 < l.len) (p q:Int):zuA l kink (s93 l) p q (i:Int) Fuel (l.get (i+2)).Low=true∧zlH l kink (s93 l) p q (i:Int) Fuel (l.get (i+2)).Low=nxt l kink i p q:=by
 obtain ⟨b1,b2,b3,_,_⟩:=zd6 H (i+2) hi
 have hl:=H.hi
 have ha:∀ r,a56 kink (s93 l) q (i:Int) r=decide (Lk l (i+1) q r≤kink):=fun r=>by
  unfold a56
  rw [w1 H i (by omega),Int.toNat_natCast,zLG H (i+1) (by omega)]
 have hb:∀ r,b56 l kink p q (i:Int) r=decide (tvl l i p q r≤kink):=fun r=>by
  unfold b56
  rw [w1 H i (by omega),w2 H i (by omega),Int.toNat_natCast,Int.toNat_natCast,Int.toNat_natCast]
  rfl
 have hg:g56 l (i:Int)=true:=by
  unfold g56
  rw [w2 H i (by omega)]
  exact decide_eq_true (by omega)
 have hh:zuz l (i:Int)=(l.get (i+2)).High:=by
  unfold zuz
  rw [w2 H i (by omega),Int.toNat_natCast]
 have ho:∀ r,o56 l kink (s93 l) p q (i:Int) r=true:=fun r=>by
  unfold o56
  rw [hg,w1 H i (by omega),w2 H i (by omega),Int.toNat_natCast,Int.toNat_natCast,Int.toNat_natCast,zAX H i hi,(zjH H).2.1,
   decide_eq_true (show 0≤((i+1:Nat):Int)∧((i+1:Nat):Int) < ((l.len - 1:Nat):Int) by omega),decide_eq_true (show 0≤(i:Int)∧(i:Int) < (l.len:Int) by omega),decide_eq_true (show 0≤((i+1:Nat):Int)∧((i+1:Nat):Int) < (l.len:Int) by omega)]
  cases a56 kink (s93 l) q (i:Int) r <;> rfl
 have key:∀ (n k:Nat) (r:Int),(l.get (i+2)).Low≤r→r+n=(l.get (i+2)).High+1→n < k→zuA l kink (s93 l) p q (i:Int) k r=true ∧
   zlH l kink (s93 l) p q (i:Int) k r=((zvt n r).filter fun r=>decide (Lk l (i+1) q r≤kink) && decide (tvl l i p q r≤kink)).map fun r=>[q,r]:=by
  intro n
  induction n with
  | zero =>
   intro k r h1 h2 hk
   obtain ⟨k,rfl⟩:∃ k',k=k'+1:=⟨k - 1,by omega⟩
   unfold zuA zlH
   rw [hg,hh,decide_eq_false (show ¬ r≤(l.get (i+2)).High by omega),cond_false,cond_false]
   exact ⟨rfl,rfl⟩
  | succ n ih =>
   intro k r h1 h2 hk
   obtain ⟨k,rfl⟩:∃ k',k=k'+1:=⟨k - 1,by omega⟩
   obtain ⟨i1,i2⟩:=ih k (r+1) (by omega) (by omega) (by omega)
   unfold zuA zlH
   rw [hg,hh,decide_eq_true (show r≤(l.get (i+2)).High by omega),cond_true,cond_true,ho,ha,hb,za9 (by omega) (by omega),i1,i2]
   refine ⟨rfl,?_⟩
   rw [zvt,List.filter_cons]
   cases decide (Lk l (i+1) q r≤kink) && decide (tvl l i p q r≤kink) <;> rfl
 unfold nxt zjR
 exact key _ Fuel _ (Int.le_refl _) (by omega) (by simp only [Fuel];omega)
def zCN (l:Sl Gate) (kink:Int) (i:Nat) (y:List Int):List (List Int):=if i+2=l.len then [] else nxt l kink i (y.getD 0 0) (y.getD 1 0)
theorem zD5 (i:Nat) (hi:i+1 < l.len) (y:List Int):ok9 l kink (s93 l) Fuel (i:Int) l.len y=true∧ks9 l kink (s93 l) Fuel (i:Int) y=zCN l kink i y:=by
 unfold ok9 ks9 zCN
 have h1:p94 (i:Int) l.len=true:=decide_eq_true (by omega)
 have h2:p94 (w64 ((i:Int)+(1:Int))) l.len=true:=by rw [w1 H i hi];exact decide_eq_true (by omega)
 have hg:i+2 < l.len→g56 l (i:Int)=true:=fun h=>by
  unfold g56
  rw [w2 H i (by omega)]
  exact decide_eq_true (by omega)
 rw [h1,h2,w2 H i (by omega)]
 by_cases h:i+2=l.len
 ·rw [if_pos h, show (((i + 2 : Nat) : Int) == (l.len : Int)) = true from by simp; omega]
  exact ⟨rfl,rfl⟩
 ·rw [if_neg h, show (((i + 2 : Nat) : Int) == (l.len : Int)) = false from by simp; omega, cond_false, cond_false, Int.toNat_natCast, hg (by omega)]
  obtain ⟨e1,e2⟩:=zIx H kink i (by omega) (y.getD 0 0) (y.getD 1 0)
  rw [e1,e2]
  exact ⟨rfl,rfl⟩
def rnd (l:Sl Gate) (kink:Int) (i:Nat) (z:Sl Span×MpS) (y:List Int):Sl Span×MpS:=(⟨z.1.len,s94 ((i+1:Nat):Int) (y.getD 1 0) (s94 (i:Int) (y.getD 0 0) z.1.get)⟩,insL z.2 (zCN l kink i y))
theorem zN1 (i:Nat) (hi:i+1 < l.len):zey l kink (s93 l) Fuel (i:Int)=rnd l kink i:=by
 funext z y
 unfold zey rnd
 rw [(zD5 H kink i hi y).2,w1 H i hi]
end
end Go.Proofs
namespace Go.Proofs
open Go Go.Pm
set_option maxRecDepth 100000
theorem zA3 (i p:Int) (f:Nat→Span) (z:Nat):s94 i p f z=if z=i.toNat then ⟨if p < (f z).Low then p else (f z).Low,if p > (f z).High then p else (f z).High⟩ else f z:=by
 unfold s94
 cases h:Nat.beq z i.toNat with
 | true=>have:=Nat.eq_of_beq_eq_true h;subst this;rw [if_pos rfl]
 | false=>rw [if_neg (Nat.ne_of_beq_eq_false h)]
theorem met (i : Nat) (y0 y1 : Int) (f : Nat → Span) (j : Nat) :
  let g:=s94 ((i+1:Nat):Int) y1 (s94 (i:Int) y0 f)
  ((g j).Low≤(f j).Low∧(f j).High≤(g j).High)∧(j=i→(g j).Low≤y0∧y0≤(g j).High)∧(j=i+1→(g j).Low≤y1∧y1≤(g j).High) ∧
   ((g j).Low=(f j).Low∨(j=i∧(g j).Low=y0)∨(j=i+1∧(g j).Low=y1))∧((g j).High=(f j).High∨(j=i∧(g j).High=y0)∨(j=i+1∧(g j).High=y1)):=by
 intro g
 have e:g j=if j=i+1 then ⟨if y1 < (f j).Low then y1 else (f j).Low,if y1 > (f j).High then y1 else (f j).High⟩ else if j=i then ⟨if y0 < (f j).Low then y0 else (f j).Low,if y0 > (f j).High then y0 else (f j).High⟩ else f j:=by
  show s94 ((i+1:Nat):Int) y1 (s94 (i:Int) y0 f) j=_
  rw [zA3,zA3,Int.toNat_natCast,Int.toNat_natCast]
  by_cases h1:j=i+1
  ·have hji : ¬ j = i := by omega
   simp only [if_pos h1,if_neg hji]
  ·rw [if_neg h1,if_neg h1]
 rw [e]
 by_cases h1:j=i+1
 ·rw [if_pos h1]
  dsimp only
  refine ⟨⟨by split <;> omega,by split <;> omega⟩,fun h=>by omega,fun _=>⟨by split <;> omega,by split <;> omega⟩,?_,?_⟩
  ·split
   ·exact .inr (.inr ⟨h1,rfl⟩)
   ·exact .inl rfl
  ·split
   ·exact .inr (.inr ⟨h1,rfl⟩)
   ·exact .inl rfl
 ·rw [if_neg h1]
  by_cases h2:j=i
  ·rw [if_pos h2]
   dsimp only
   refine ⟨⟨by split <;> omega,by split <;> omega⟩,fun _=>⟨by split <;> omega,by split <;> omega⟩,fun h=>by omega,?_,?_⟩
   ·split
    ·exact .inr (.inl ⟨h2,rfl⟩)
    ·exact .inl rfl
   ·split
    ·exact .inr (.inl ⟨h2,rfl⟩)
    ·exact .inl rfl
  ·rw [if_neg h2]
   exact ⟨⟨Int.le_refl _,Int.le_refl _⟩,fun h=>absurd h h2,fun h=>absurd h h1,.inl rfl,.inl rfl⟩
theorem zCO (s:MpS) (a b:List (List Int)):insL (insL s a) b=insL s (a ++ b):=by unfold insL;rw [List.foldl_append]
theorem zqy (s:MpS) (a:List (List Int)) (c:List Int):(insL s a).2 c=if c∈a then some [1] else s.2 c:=zoF (fun _=>[1]) a s c
theorem zuH (s:MpS) (a:List (List Int)) (h:Cnt s):Cnt (insL s a):=zoG (fun _=>[1]) a s h
section
variable {l:Sl Gate} {kink:Int}
theorem zuI (i:Nat):∀ (ys:List (List Int)) (z:Sl Span×MpS),
  (ys.foldl (rnd l kink i) z).1.len=z.1.len∧(ys.foldl (rnd l kink i) z).2=insL z.2 (ys.flatMap (zCN l kink i)) ∧
  ∀ j,(((ys.foldl (rnd l kink i) z).1.get j).Low≤(z.1.get j).Low∧(z.1.get j).High≤((ys.foldl (rnd l kink i) z).1.get j).High) ∧
   (∀ y∈ys,(j=i→((ys.foldl (rnd l kink i) z).1.get j).Low≤y.getD 0 0∧y.getD 0 0≤((ys.foldl (rnd l kink i) z).1.get j).High)∧(j=i+1→((ys.foldl (rnd l kink i) z).1.get j).Low≤y.getD 1 0∧y.getD 1 0≤((ys.foldl (rnd l kink i) z).1.get j).High)) ∧
   (((ys.foldl (rnd l kink i) z).1.get j).Low=(z.1.get j).Low∨∃ y∈ys,(j=i∧((ys.foldl (rnd l kink i) z).1.get j).Low=y.getD 0 0)∨(j=i+1∧((ys.foldl (rnd l kink i) z).1.get j).Low=y.getD 1 0)) ∧
   (((ys.foldl (rnd l kink i) z).1.get j).High=(z.1.get j).High∨∃ y∈ys,(j=i∧((ys.foldl (rnd l kink i) z).1.get j).High=y.getD 0 0)∨(j=i+1∧((ys.foldl (rnd l kink i) z).1.get j).High=y.getD 1 0))
 | [],z=>⟨rfl,rfl,fun j=>⟨⟨Int.le_refl _,Int.le_refl _⟩,fun y hy=>by simp at hy,.inl rfl,.inl rfl⟩⟩
 | y :: ys,z=>by
  rw [List.foldl_cons]
  obtain ⟨h1,h2,h3⟩:=zuI i ys (rnd l kink i z y)
  refine ⟨h1,?_,fun j=>?_⟩
  ·rw [h2,List.flatMap_cons,← zCO];rfl
  ·obtain ⟨a1, a2, a3, a4⟩ := h3 j
   obtain ⟨m1,m2,m3,m4,m5⟩:=met i (y.getD 0 0) (y.getD 1 0) z.1.get j
   have eg:(rnd l kink i z y).1.get=s94 ((i+1:Nat):Int) (y.getD 1 0) (s94 (i:Int) (y.getD 0 0) z.1.get):=rfl
   rw [← eg] at m1 m2 m3 m4 m5
   generalize (ys.foldl (rnd l kink i) (rnd l kink i z y)).1.get j=g at *
   generalize (rnd l kink i z y).1.get j=g1 at *
   refine ⟨by omega,fun y' hy'=>?_,?_,?_⟩
   ·rcases List.mem_cons.1 hy' with e | hy'
    ·rw [e]
     exact ⟨fun h=>by have:=m2 h;omega,fun h=>by have:=m3 h;omega⟩
    ·exact a2 y' hy'
   ·rcases a3 with a3 | ⟨y', hy', a3⟩
    ·rcases m4 with m4 | m4 | m4
     ·exact .inl (a3.trans m4)
     ·exact .inr ⟨y,List.mem_cons_self,.inl ⟨m4.1,a3.trans m4.2⟩⟩
     ·exact .inr ⟨y,List.mem_cons_self,.inr ⟨m4.1,a3.trans m4.2⟩⟩
    ·exact .inr ⟨y',List.mem_cons_of_mem _ hy',a3⟩
   ·rcases a4 with a4 | ⟨y', hy', a4⟩
    ·rcases m5 with m5 | m5 | m5
     ·exact .inl (a4.trans m5)
     ·exact .inr ⟨y,List.mem_cons_self,.inl ⟨m5.1,a4.trans m5.2⟩⟩
     ·exact .inr ⟨y,List.mem_cons_self,.inr ⟨m5.1,a4.trans m5.2⟩⟩
    ·exact .inr ⟨y',List.mem_cons_of_mem _ hy',a4⟩
end
def Gd (l : Sl Gate) (kink : Int) : Nat → Int → Int → Prop
  | 0,p,q=>inG (l.get 0) p∧inG (l.get 1) q∧Lk l 0 p q≤kink
  | i+1,q,r=>inG (l.get (i+2)) r∧∃ p,Gd l kink i p q∧tvl l i p q r≤kink∧Lk l (i+1) q r≤kink
theorem zIy {l : Sl Gate} {kink : Int} : ∀ {i : Nat} {p q : Int}, Gd l kink i p q → inG (l.get i) p ∧ inG (l.get (i + 1)) q ∧ Lk l i p q ≤ kink
  | 0,p,q,h=>h
  | i+1,q,r,h=>by
    obtain ⟨h1,p,h2,h3,h4⟩:=h
    exact ⟨(zIy h2).2.1,h1,h4⟩
def Nw (l:Sl Gate) (kink:Int) (i:Nat) (F:List Int→Option (List Int)):Prop:=∀ c,F c ≠ none↔∃ p q,c=[p,q]∧Gd l kink i p q
section
variable {l:Sl Gate} (H:BG l) (kink:Int)
include H
end
section
variable {l:Sl Gate} (H:BG l) (kink:Int)
theorem zLH {i:Nat} {F:List Int→Option (List Int)} (hF:Nw l kink i F) (c:List Int):c∈(zex (l.get i) (l.get (i+1))).filter (fun c=>(F c).isSome)↔∃ p q,c=[p,q]∧Gd l kink i p q:=by
 rw [List.mem_filter,zit,← hF c,Option.isSome_iff_ne_none]
 constructor
 ·exact fun h=>h.2
 ·intro h
  obtain ⟨p,q,rfl,hg⟩:=(hF c).1 h
  exact ⟨zgs.2 ⟨(zIy hg).1,(zIy hg).2.1⟩,h⟩
end
section
variable {l:Sl Gate} (H:BG l) (kink:Int)
include H
end
section
variable {l:Sl Gate} (H:BG l) (kink:Int)
theorem zIz {i:Nat} (hi:i+2 < l.len) {ys:List (List Int)} (hy:∀ c,c∈ys↔∃ p q,c=[p,q]∧Gd l kink i p q):Nw l kink (i+1) (insL (0,fun _=>none) (ys.flatMap (zCN l kink i))).2:=by
 intro c
 rw [zqy]
 have e:c∈ys.flatMap (zCN l kink i)↔∃ q r,c=[q,r]∧Gd l kink (i+1) q r:=by
  rw [List.mem_flatMap]
  constructor
  ·rintro ⟨y, hy1, hc⟩
   obtain ⟨p,q,rfl,hg⟩:=(hy y).1 hy1
   unfold zCN at hc
   rw [if_neg (by omega)] at hc
   unfold nxt at hc
   obtain ⟨r,hr,rfl⟩:=List.mem_map.1 hc
   obtain ⟨hr1,hr2⟩:=List.mem_filter.1 hr
   rw [Bool.and_eq_true,decide_eq_true_eq,decide_eq_true_eq] at hr2
   exact ⟨q,r,rfl,zdb.1 hr1,p,hg,hr2.2,hr2.1⟩
  ·rintro ⟨q, r, rfl, hr, p, hg, h1, h2⟩
   refine ⟨[p,q],(hy _).2 ⟨p,q,rfl,hg⟩,?_⟩
   unfold zCN
   rw [if_neg (by omega)]
   unfold nxt
   exact List.mem_map.2 ⟨r,List.mem_filter.2 ⟨zdb.2 hr,by rw [Bool.and_eq_true,decide_eq_true_eq,decide_eq_true_eq];exact ⟨h2,h1⟩⟩,rfl⟩
 by_cases hc:c∈ys.flatMap (zCN l kink i)
 ·rw [if_pos hc];exact ⟨fun _=>e.1 hc,fun _=>by simp⟩
 ·rw [if_neg hc];exact ⟨fun h=>absurd rfl h,fun h=>absurd (e.2 h) hc⟩
end
section
variable {l:Sl Gate} (H:BG l) (kink:Int)
include H
end
end Go.Proofs
namespace Go.Proofs
open Go Go.Pm
set_option maxRecDepth 100000
def inS (s:Span) (p:Int):Prop:=s.Low≤p∧p≤s.High
def Att (l:Sl Gate) (kink:Int) (i:Nat) (j:Nat) (x:Int):Prop:=∃ j' p q,i≤j'∧j'+1 < l.len∧Gd l kink j' p q∧((j=j'∧x=p)∨(j=j'+1∧x=q))
theorem zuJ {n:Nat} {F:List Int→Option (List Int)} {ys:List (List Int)} (h1:ys.length=n) (h2:∀ y∈ys,y.length=2∧F y ≠ none) (h3:ys.Nodup):keysB 2 n F ys=true:=by
 unfold keysB
 rw [Bool.and_eq_true,Bool.and_eq_true,zgA,List.all_eq_true]
 refine ⟨⟨by rw [h1];simp,fun y hy=>?_⟩,h3⟩
 rw [Bool.and_eq_true]
 exact ⟨by rw [(h2 y hy).1];rfl,Option.isSome_iff_ne_none.2 (h2 y hy).2⟩
section
variable {l:Sl Gate} (H:BG l) (kink:Int)
include H
theorem lp8:∀ (m k i n:Nat) (F:List Int→Option (List Int)) (out:Sl Span),i+m+1=l.len→m < k→(i+1 < l.len→Nw l kink i F∧Cnt (n,F))→out.len=l.len →
  zeO l kink (s93 l) k n F (i:Int) out=true∧∃ o,zeN l kink (s93 l) k n F (i:Int) out=(o,0)∧o.len=l.len∧(∀ j,(o.get j).Low≤(out.get j).Low∧(out.get j).High≤(o.get j).High) ∧
   (∀ j p q,i≤j→j+1 < l.len→Gd l kink j p q→inS (o.get j) p∧inS (o.get (j+1)) q) ∧
   ∀ j,((o.get j).Low=(out.get j).Low∨Att l kink i j (o.get j).Low)∧((o.get j).High=(out.get j).High∨Att l kink i j (o.get j).High):=by
 have hl:=H.hi;have hlo:=H.lo
 have e1:w64 ((l.len:Int) - (1:Int))=((l.len - 1:Nat):Int):=by rw [za9 (by omega) (by omega)];omega
 intro m
 induction m with
 | zero =>
  intro k i n F out hi hk _ ho
  obtain ⟨k,rfl⟩:∃ k',k=k'+1:=⟨k - 1,by omega⟩
  have ep:zeO l kink (s93 l) (k+1) n F (i:Int) out=zhA l kink (s93 l) (zeO l kink (s93 l) k) n F (i:Int) out:=rfl
  have es:zeN l kink (s93 l) (k+1) n F (i:Int) out=zhz l kink (s93 l) (zeN l kink (s93 l) k) n F (i:Int) out:=rfl
  rw [ep,es]
  unfold zhA zhz
  rw [e1,decide_eq_false (show ¬ (i:Int) < ((l.len - 1:Nat):Int) by omega),cond_false,cond_false]
  exact ⟨rfl,out,rfl,ho,fun j=>⟨Int.le_refl _,Int.le_refl _⟩,fun j p q h1 h2=>by omega,fun j=>⟨.inl rfl,.inl rfl⟩⟩
 | succ m ih =>
  intro k i n F out hi hk hF ho
  obtain ⟨k,rfl⟩:∃ k',k=k'+1:=⟨k - 1,by omega⟩
  obtain ⟨hN,hC⟩:=hF (by omega)
  have ep:zeO l kink (s93 l) (k+1) n F (i:Int) out=zhA l kink (s93 l) (zeO l kink (s93 l) k) n F (i:Int) out:=rfl
  have es:zeN l kink (s93 l) (k+1) n F (i:Int) out=zhz l kink (s93 l) (zeN l kink (s93 l) k) n F (i:Int) out:=rfl
  rw [ep,es]
  unfold zhA zhz zod zoc
  rw [e1,decide_eq_true (show (i:Int) < ((l.len - 1:Nat):Int) by omega),cond_true,cond_true,Int.toNat_natCast]
  have hy:=zLH kink hN
  have hyn:((zex (l.get i) (l.get (i+1))).filter (fun c=>(F c).isSome)).Nodup:=List.Pairwise.filter _ (by rw [zit];exact zgJ _ _)
  have hkb:keysB 2 n F ((zex (l.get i) (l.get (i+1))).filter (fun c=>(F c).isSome))=true:=by
   refine zuJ (zAW hC hyn fun x=>?_).symm (fun y hy'=>?_) hyn
   ·exact (hN x).trans (hy x).symm
   ·obtain ⟨p, q, rfl, hg⟩ := (hy y).1 hy'
    exact ⟨rfl,(hN _).2 ⟨p,q,rfl,hg⟩⟩
  generalize (zex (l.get i) (l.get (i+1))).filter (fun c=>(F c).isSome)=ys at hy hyn hkb
  have hok:ys.all (ok9 l kink (s93 l) Fuel (i:Int) out.len)=true:=by
   rw [List.all_eq_true,ho]
   exact fun y _=>(zD5 H kink i (by omega) y).1
  rw [hkb,zMd,zMe l kink (s93 l) _ n F (i:Int) (i:Int) ys out 0 _ hok,hok,zN1 H kink i (by omega)]
  obtain ⟨r1,r2,r3⟩:=zuI (l:=l) (kink:=kink) i ys (out,(0,fun _=>none))
  generalize ys.foldl (rnd l kink i) (out,(0,fun _=>none))=z at r1 r2 r3
  unfold zlE zlD
  rw [show w64 ((i:Int)+(1:Int))=((i+1:Nat):Int) from zda (n:=l.len) (by omega) (by omega)]
  have hz:z.1.len=l.len:=r1.trans ho
  obtain ⟨q1,o,q2,q3,q4,q5,q6⟩:=ih k (i+1) z.2.1 z.2.2 z.1 (by omega) (by omega) (fun h=>by
   rw [r2]
   exact ⟨zIz kink (by omega) hy,zuH _ _ zNZ⟩) hz
  refine ⟨by rw [q1];rfl,o,q2,q3,fun j=>?_,fun j p q h1 h2 hg=>?_,fun j=>?_⟩
  ·have a := (r3 j).1
   have b:=q4 j
   have a:(z.1.get j).Low≤(out.get j).Low∧(out.get j).High≤(z.1.get j).High:=a
   omega
  ·by_cases e : j = i
   ·subst e
    have hm:=(hy [p,q]).2 ⟨p,q,rfl,hg⟩
    have a:=((r3 j).2.1 _ hm).1 rfl
    have b:=((r3 (j+1)).2.1 _ hm).2 rfl
    have a:(z.1.get j).Low≤p∧p≤(z.1.get j).High:=a
    have b:(z.1.get (j+1)).Low≤q∧q≤(z.1.get (j+1)).High:=b
    have c:=q4 j
    have d:=q4 (j+1)
    unfold inS
    omega
   ·exact q5 j p q (by omega) h2 hg
  ·have up : ∀ x, Att l kink (i + 1) j x → Att l kink i j x := fun x ⟨j', p, q, a, b, c, d⟩ => ⟨j', p, q, by omega, b, c, d⟩
   have here:∀ x,(∃ y∈ys,(j=i∧x=y.getD 0 0)∨(j=i+1∧x=y.getD 1 0))→Att l kink i j x:=fun x ⟨y,hy',h⟩=>by
    obtain ⟨p,q,rfl,hg⟩:=(hy y).1 hy'
    exact ⟨i,p,q,Nat.le_refl _,by omega,hg,h⟩
   obtain ⟨_,_,a3,a4⟩:=r3 j
   have a3:(z.1.get j).Low=(out.get j).Low∨_:=a3
   have a4:(z.1.get j).High=(out.get j).High∨_:=a4
   constructor
   ·rcases (q6 j).1 with h | h
    ·rcases a3 with h3 | h3
     ·exact .inl (h.trans h3)
     ·exact .inr (by rw [h];exact here _ h3)
    ·exact .inr (up _ h)
   ·rcases (q6 j).2 with h | h
    ·rcases a4 with h3 | h3
     ·exact .inl (h.trans h3)
     ·exact .inr (by rw [h];exact here _ h3)
    ·exact .inr (up _ h)
theorem zIA (hl2:1 < l.len):Nw l kink 0 ((zex (l.get 0) (l.get 1)).foldl (zfL kink (s93 l)) (0,fun _=>none)).2∧Cnt ((zex (l.get 0) (l.get 1)).foldl (zfL kink (s93 l)) (0,fun _=>none)):=by
 have e:∀ (ys:List (List Int)) (s:MpS),(∀ y∈ys,∃ p q,y=[p,q])→ys.foldl (zfL kink (s93 l)) s=insL s (ys.filter fun y=>decide (Lk l 0 (y.getD 0 0) (y.getD 1 0)≤kink)):=by
  intro ys
  induction ys with
  | nil=>intro s _;rfl
  | cons y ys ih =>
   intro s h
   obtain ⟨p,q,rfl⟩:=h y List.mem_cons_self
   rw [List.foldl_cons,ih _ (fun y hy=>h y (List.mem_cons_of_mem _ hy)),List.filter_cons]
   unfold zfL
   rw [zLG H 0 (by omega)]
   show insL (cond (decide (Lk l 0 p q≤kink)) (zDQ s [p,q]) s) _=insL s (if decide (Lk l 0 p q≤kink)=true then _ else _)
   cases decide (Lk l 0 p q≤kink) <;> rfl
 rw [e _ _ fun y hy=>by rw [zit] at hy;obtain ⟨p,q,h,_⟩:=zee.1 hy;exact ⟨p,q,h⟩]
 refine ⟨fun c=>?_,zuH _ _ zNZ⟩
 rw [zqy]
 have em:c∈(zex (l.get 0) (l.get 1)).filter (fun y=>decide (Lk l 0 (y.getD 0 0) (y.getD 1 0)≤kink))↔∃ p q,c=[p,q]∧Gd l kink 0 p q:=by
  rw [List.mem_filter,zit,zee,decide_eq_true_eq]
  constructor
  ·rintro ⟨⟨p, q, rfl, h1, h2⟩, h3⟩
   exact ⟨p,q,rfl,h1,h2,h3⟩
  ·rintro ⟨p, q, rfl, h1, h2, h3⟩
   exact ⟨⟨p,q,rfl,h1,h2⟩,h3⟩
 by_cases hc:c∈(zex (l.get 0) (l.get 1)).filter (fun y=>decide (Lk l 0 (y.getD 0 0) (y.getD 1 0)≤kink))
 ·rw [if_pos hc];exact ⟨fun _=>em.1 hc,fun _=>by simp⟩
 ·rw [if_neg hc];exact ⟨fun h=>absurd rfl h,fun h=>absurd (em.2 h) hc⟩
end
end Go.Proofs
namespace Go.Proofs
open Go Go.Pm
set_option maxRecDepth 100000
def zOM:Sl Span:=⟨0,fun _=>default⟩
theorem zCP {α:Type} (i:Nat) (x:α) (f:Nat→α) (j:Nat):setT i x f j=if j=i then x else f j:=by
 unfold setT
 cases h:Nat.beq j i with
 | true=>rw [if_pos (Nat.eq_of_beq_eq_true h)]
 | false=>rw [if_neg (Nat.ne_of_beq_eq_false h)]
section
variable {l:Sl Gate} (H:BG l) (kink:Int)
include H
theorem zLI (out:Sl Span) (ho:out.len=l.len):zjj l kink (s93 l) out=true ∧
  ((∀ p q,¬ Gd l kink 0 p q)→zhC l kink (s93 l) out=(zOM,5)) ∧
  ((∃ p q,Gd l kink 0 p q)→∃ o,zhC l kink (s93 l) out=(o,0)∧o.len=l.len∧(∀ j p q,j+1 < l.len→Gd l kink j p q→inS (o.get j) p∧inS (o.get (j+1)) q) ∧
   ∀ j,((o.get j).Low=(out.get j).Low∨Att l kink 0 j (o.get j).Low)∧((o.get j).High=(out.get j).High∨Att l kink 0 j (o.get j).High)):=by
 have hl:=H.hi;have hlo:=H.lo
 obtain ⟨t1,t2,t3⟩:=zjH H
 obtain ⟨f1,f2⟩:=zIA H kink (by omega)
 unfold zjj zhC zol zok
 rw [t2,decide_eq_true (show 0≤(0:Int)∧(0:Int) < ((l.len - 1:Nat):Int) by omega),Bool.true_and,(t3 0 (by omega)).1,(t3 0 (by omega)).2,zLF]
 have hkb:keysB 2 (zmH (l.get 0) (l.get (0+1))).length (tbl l 0).2 (zex (l.get 0) (l.get 1))=true:=by
  rw [zit]
  refine zuJ rfl (fun y hy=>?_) (zgJ _ _)
  obtain ⟨p,q,rfl,_⟩:=zee.1 hy
  exact ⟨rfl,(zuG l 0 _).2 hy⟩
 rw [hkb,zoj,zoi]
 generalize (zex (l.get 0) (l.get 1)).foldl (zfL kink (s93 l)) (0,fun _=>none)=z at f1 f2
 unfold zlJ zlI zoh zog zof zoe zsC zsB
 have hz:z.1=0↔∀ p q,¬ Gd l kink 0 p q:=by
  obtain ⟨K,k1,k2,k3⟩:=f2
  constructor
  ·intro h p q hg
   have:[p,q]∈K:=(k3 _).1 ((f1 _).2 ⟨p,q,rfl,hg⟩)
   rw [h] at k2
   rw [List.eq_nil_of_length_eq_zero k2] at this;simp at this
  ·intro h
   have:K=[]:=by
    cases K with
    | nil=>rfl
    | cons c K =>
     obtain ⟨p,q,_,hg⟩:=(f1 c).1 ((k3 c).2 List.mem_cons_self)
     exact absurd hg (h p q)
   rw [← k2,this];rfl
 by_cases h0:z.1=0
 ·rw [show ((z.1 : Int) == (0:Int)) = true from by simp; omega, cond_true, cond_true]
  exact ⟨rfl,fun _=>rfl,fun ⟨p,q,hg⟩=>absurd hg (hz.1 h0 p q)⟩
 ·rw [show ((z.1 : Int) == (0:Int)) = false from by simp; omega, cond_false, cond_false]
  obtain ⟨q1,o,q2,q3,q4,q5,q6⟩:=lp8 H kink (l.len - 1) Fuel 0 z.1 z.2 out (by omega) (by simp only [Fuel];omega) (fun _=>⟨f1,f2⟩) ho
  refine ⟨by rw [show zhB l kink (s93 l) out (zex (l.get 0) (l.get 1))=true from rfl];exact q1,fun h=>absurd (hz.2 h) h0,fun _=>⟨o,q2,q3,fun j p q h hg=>q5 j p q (Nat.zero_le _) h hg,q6⟩⟩
theorem zLJ (hk:0≤kink∧kink≤1000000):p56 l kink=true∧((∀ p q,¬ Gd l kink 0 p q)→s56 l kink=(zOM,5)) ∧
  ((∃ p q,Gd l kink 0 p q)→∃ o,s56 l kink=(o,0)∧o.len=l.len∧(∀ j p q,j+1 < l.len→Gd l kink j p q→inS (o.get j) p∧inS (o.get (j+1)) q) ∧
   ∀ j,j < l.len→((o.get j).Low=1000001∨Att l kink 0 j (o.get j).Low)∧((o.get j).High = -1000001∨Att l kink 0 j (o.get j).High)):=by
 have hl:=H.hi;have hlo:=H.lo
 have init:∀ (m k i:Nat) (out:Sl Span),i+m=l.len→m < k→out.len=l.len→(∀ j,j < i→out.get j=⟨1000001,-1000001⟩) →
   ∃ o:Sl Span,o.len=l.len∧(∀ j,j < l.len→o.get j=⟨1000001,-1000001⟩)∧zfz l kink (s93 l) k (i:Int) out=zjj l kink (s93 l) o∧zfy l kink (s93 l) k (i:Int) out=zhC l kink (s93 l) o:=by
  intro m
  induction m with
  | zero =>
   intro k i out hi hk ho hj
   obtain ⟨k,rfl⟩:∃ k',k=k'+1:=⟨k - 1,by omega⟩
   refine ⟨out,ho,fun j h=>hj j (by omega),?_,?_⟩
   ·show zhE l kink (s93 l) (zfz l kink (s93 l) k) (i : Int) out = _
    unfold zhE
    rw [decide_eq_false (by omega),cond_false]
   ·show zhD l kink (s93 l) (zfy l kink (s93 l) k) (i : Int) out = _
    unfold zhD
    rw [decide_eq_false (by omega),cond_false]
  | succ m ih =>
   intro k i out hi hk ho hj
   obtain ⟨k,rfl⟩:∃ k',k=k'+1:=⟨k - 1,by omega⟩
   obtain ⟨o,o1,o2,o3,o4⟩:=ih k (i+1) ⟨out.len,setT i ⟨1000001,-1000001⟩ out.get⟩ (by omega) (by omega) ho (fun j hj'=>by
    show setT i _ out.get j=_
    rw [zCP]
    split
    ·rfl
    ·exact hj j (by omega))
   refine ⟨o,o1,o2,?_,?_⟩
   ·show zhE l kink (s93 l) (zfz l kink (s93 l) k) (i : Int) out = _
    unfold zhE
    rw [decide_eq_true (show (i:Int) < ((l.len:Int).toNat:Int) by omega),cond_true,decide_eq_true (show 0≤(i:Int)∧(i:Int) < (out.len:Int) by omega),decide_eq_true (show (i:Int).toNat < out.len by omega),Bool.true_and,Bool.true_and,Int.toNat_natCast,zda (n:=l.len) (by omega) (by omega)]
    exact o3
   ·show zhD l kink (s93 l) (zfy l kink (s93 l) k) (i : Int) out = _
    unfold zhD
    rw [decide_eq_true (show (i:Int) < ((l.len:Int).toNat:Int) by omega),cond_true,Int.toNat_natCast,zda (n:=l.len) (by omega) (by omega)]
    exact o4
 obtain ⟨b1,b2⟩:=zD1 l (by omega)
 unfold p56 s56 zlO zlN zop zoo zon zom zsE zsD
 rw [b1,b2.2 H,zir,decide_eq_true hk,(zjH H).1,decide_eq_true (show 0≤(l.len:Int)∧(l.len:Int)=(l.len:Int)∧(l.len:Int)≤1000000 by omega)]
 simp only [Bool.not_true,cond_false,decide_true,Bool.true_and]
 obtain ⟨o,o1,o2,o3,o4⟩:=init l.len Fuel 0 ⟨(l.len:Int).toNat,fun _=>⟨0,0⟩⟩ (by omega) (by simp only [Fuel];omega) (by simp) (fun j h=>by omega)
 have o3:zfz l kink (s93 l) Fuel 0 ⟨(l.len:Int).toNat,fun _=>⟨0,0⟩⟩=_:=o3
 have o4:zfy l kink (s93 l) Fuel 0 ⟨(l.len:Int).toNat,fun _=>⟨0,0⟩⟩=_:=o4
 rw [o3,o4]
 obtain ⟨a1,a2,a3⟩:=zLI H kink o o1
 refine ⟨a1,a2,fun h=>?_⟩
 obtain ⟨o',c1,c2,c3,c4⟩:=a3 h
 refine ⟨o',c1,c2,c3,fun j hj=>?_⟩
 have:=c4 j
 rw [o2 j hj] at this
 exact this
end
end Go.Proofs
namespace Go.Pm
theorem zD6 {β : Type} {c : Int → Bool} {fd : Int → β} {E : β} {EP : Bool} {fdP : Int → Bool} {lo hi : Int} {lpS : Nat → Int → β} {lpP : Nat → Int → Bool}
    (hS:∀ k r,lo≤r→r≤hi→lpS (k+1) r=cond (c r) (fd r) (lpS k (w64 (r+(1:Int))))) (hE:∀ k r,lo≤r→hi < r→lpS (k+1) r=E)
    (hP:∀ k r,lo≤r→r≤hi→lpP (k+1) r=cond (c r) (fdP r) (lpP k (w64 (r+(1:Int)))))
    (hPE:∀ k r,lo≤r→hi < r→lpP (k+1) r=EP)
    (h1 : -9223372036854775808≤lo) (h2:hi < 9223372036854775807) (h3:hi - lo < 9223372036854775800) :
    (∀ r0,lo≤r0→r0≤hi→c r0=true→(∀ r,lo≤r→r < r0→c r=false)→lpP Fuel lo=fdP r0∧lpS Fuel lo=fd r0) ∧
    ((∀ r,lo≤r→r≤hi→c r=false)→lpP Fuel lo=EP∧lpS Fuel lo=E):=by
  constructor
  · intro r0 a b hc hf
    have key:∀ (n k:Nat) (r:Int),lo≤r→r+n=r0→n < k→lpP k r=fdP r0∧lpS k r=fd r0:=by
      intro n
      induction n with
      | zero =>
        intro k r hl hr hk
        obtain ⟨k,rfl⟩:∃ k',k=k'+1:=⟨k - 1,by omega⟩
        have:r=r0:=by omega
        subst this
        rw [hS k r hl b,hP k r hl b,hc]
        exact ⟨rfl,rfl⟩
      | succ n ih =>
        intro k r hl hr hk
        obtain ⟨k,rfl⟩:∃ k',k=k'+1:=⟨k - 1,by omega⟩
        rw [hS k r hl (by omega),hP k r hl (by omega),hf r hl (by omega),za9 (by omega) (by omega)]
        exact ih k (r+1) (by omega) (by omega) (by omega)
    exact key (r0 - lo).toNat Fuel lo (Int.le_refl _) (by omega) (by simp only [Fuel];omega)
  · intro hf
    have key:∀ (n k:Nat) (r:Int),lo≤r→(r+n=hi+1∨n=0∧hi < r)→n < k→lpP k r=EP∧lpS k r=E:=by
      intro n
      induction n with
      | zero =>
        intro k r hl hr hk
        obtain ⟨k,rfl⟩:∃ k',k=k'+1:=⟨k - 1,by omega⟩
        exact ⟨hPE k r hl (by omega),hE k r hl (by omega)⟩
      | succ n ih =>
        intro k r hl hr hk
        obtain ⟨k,rfl⟩:∃ k',k=k'+1:=⟨k - 1,by omega⟩
        rw [hS k r hl (by omega),hP k r hl (by omega),hf r hl (by omega),za9 (by omega) (by omega)]
        exact ih k (r+1) (by omega) (by omega) (by omega)
    exact key (hi - lo+1).toNat Fuel lo (Int.le_refl _) (by omega) (by simp only [Fuel];omega)
theorem zoI {c:Int→Bool} {lo hi x:Int} (hx:lo≤x∧x≤hi) (hc:c x=true):∃ r0,lo≤r0∧r0≤hi∧r0≤x∧c r0=true∧∀ r,lo≤r→r < r0→c r=false:=by
 have key:∀ (n:Nat) (x:Int),lo+n=x→x≤hi→c x=true→∃ r0,lo≤r0∧r0≤hi∧r0≤x∧c r0=true∧∀ r,lo≤r→r < r0→c r=false:=by
  intro n
  induction n using Nat.strongRecOn with
  | ind n ih =>
   intro x hx hh hc
   by_cases h:∃ y,lo≤y∧y < x∧c y=true
   ·obtain ⟨y, y1, y2, y3⟩ := h
    obtain ⟨r0,a1,a2,a3,a4,a5⟩:=ih (y - lo).toNat (by omega) y (by omega) (by omega) y3
    exact ⟨r0,a1,a2,by omega,a4,a5⟩
   ·refine ⟨x, by omega, hh, Int.le_refl _, hc, fun r h1 h2 => ?_⟩
    cases e:c r with
    | false=>rfl
    | true=>exact absurd ⟨r,h1,h2,e⟩ h
 exact key (x - lo).toNat x (by omega) hx.2 hc
end Go.Pm
namespace Go.Proofs
open Go Go.Pm
set_option maxRecDepth 100000
theorem ziu (l:Sl Gate):zfY l=zmH (l.get 0) (l.get 1):=by
 have e:∀ a b,zMx a b=zjR a b:=fun a b=>zuD _ _
 unfold zfY zmH
 simp only [e]
def zl1 (l:Sl Gate):Int:=mnL ((zmH (l.get 0) (l.get 1)).map fun y=>zdj ((tbl l 0).2 y) 0)
section
variable {l:Sl Gate} (H:BG l)
include H
theorem zqz:(∃ p q,inG (l.get 0) p∧inG (l.get 1) q∧Lk l 0 p q=zl1 l)∧(∀ p q,inG (l.get 0) p→inG (l.get 1) q→zl1 l≤Lk l 0 p q)∧0≤zl1 l:=by
 have hl:=H.hi;have hlo:=H.lo
 have hnn:∀ x∈(zmH (l.get 0) (l.get 1)).map (fun y=>zdj ((tbl l 0).2 y) 0),0≤x:=fun x hx=>by
  obtain ⟨y,hy,rfl⟩:=List.mem_map.1 hx
  obtain ⟨p,q,rfl,hp,hq⟩:=zee.1 hy
  exact zqx H (l.len - 2) 0 (by omega) p q hp hq
 have hne:(zmH (l.get 0) (l.get 1)).map (fun y=>zdj ((tbl l 0).2 y) 0) ≠ []:=fun e=>by
  have b0:=zd6 H 0 (by omega)
  have b1:=zd6 H 1 (by omega)
  have:[(l.get 0).Low,(l.get 1).Low]∈zmH (l.get 0) (l.get 1):=zgs.2 ⟨⟨Int.le_refl _,b0.2.2.1⟩,Int.le_refl _,b1.2.2.1⟩
  rw [List.map_eq_nil_iff.1 e] at this;simp at this
 obtain ⟨h1,h2⟩:=zoE hnn hne
 refine ⟨?_,fun p q hp hq=>h2 _ (List.mem_map.2 ⟨[p,q],zgs.2 ⟨hp,hq⟩,rfl⟩),hnn _ h1⟩
 obtain ⟨y,hy,e⟩:=List.mem_map.1 h1
 obtain ⟨p,q,rfl,hp,hq⟩:=zee.1 hy
 exact ⟨p,q,hp,hq,e⟩
end
end Go.Proofs
namespace Go.Proofs
open Go Go.Pm
set_option maxRecDepth 100000
def zON (l:Sl Gate) (K:Int) (f:Nat→Int):Prop:=Lin l f∧∀ j,j+2 < l.len→tvl l j (f j) (f (j+1)) (f (j+2))≤K
structure Ch (l : Sl Gate) (K : Int) (i : Nat) (v : Nat → Int) : Prop where
  ing:∀ j,j < i→inG (l.get j) (v j)
  kin:∀ j,j+2 < i→tvl l j (v j) (v (j+1)) (v (j+2))≤K
  rest:Lk l (i - 2) (v (i - 2)) (v (i - 1))≤K
  lex:∀ f,zON l K f→∀ j,j < i→(∀ j',j' < j→f j'=v j')→v j≤f j
theorem zoJ {α:Type} (n:Nat) (f:Nat→α) (x:α) (j:Nat) (hj:j≤n):zeb n f (fun _=>x) j=if j=n then x else f j:=by
 unfold zeb
 by_cases h:j=n
 ·subst h;rw [if_pos rfl,show Nat.ble j j=true from by simp]
 ·rw [if_neg h,show Nat.ble n j=false from by cases e:Nat.ble n j with | true=>have:=Nat.le_of_ble_eq_true e;omega | false=>rfl]
section
variable {l:Sl Gate} (H:BG l)
include H
theorem zuK (i:Nat) (hi:i+1 < l.len) (p q:Int):zdj (((s93 l).get i).F [p,q]) 0=Lk l i p q:=by
 rw [((zjH H).2.2 i hi).2];rfl
theorem zLK (K : Int) (hK : 0 ≤ K) (i : Nat) (h2 : 2 ≤ i) (hi : i < l.len) (v : Sl Int) (hv : v.len = i) (C : Ch l K i v.get) (S8 : Int → Int → (Sl Int) → ((Sl Int) × Int × Int)) (P8 : Int → Int → (Sl Int) → Bool) :
    ∃ o:Sl Int,o.len=i+1∧Ch l K (i+1) o.get∧zf4 l (s93 l) P8 K (i:Int) v=P8 K (w64 ((i:Int)+1)) o∧zf3 l (s93 l) S8 K (i:Int) v=S8 K (w64 ((i:Int)+1)) o:=by
  have hl:=H.hi;have hlo:=H.lo
  have e1:w64 ((i:Int) - (1:Int))=((i - 1:Nat):Int):=zjr (by omega) (by omega)
  have e2:w64 ((i:Int) - (2:Int))=((i - 2:Nat):Int):=by rw [za9 (by omega) (by omega)];omega
  obtain ⟨b1,b2,b3,_,_⟩:=zd6 H i hi
  have hp:=C.ing (i - 2) (by omega)
  have hq:=C.ing (i - 1) (by omega)
  have ei:i - 2+1=i - 1:=by omega
  have ei2:i - 2+2=i:=by omega
  let c:Int→Bool:=fun r=>decide (tvl l (i - 2) (v.get (i - 2)) (v.get (i - 1)) r≤K) && decide (Lk l (i - 1) (v.get (i - 1)) r≤K)
  obtain ⟨⟨r1,x1,x2,x3⟩,_⟩:=zA1 H (i - 2) (by omega) (v.get (i - 2)) (v.get (i - 1)) hp (by rw [ei];exact hq)
  rw [ei2] at x1
  rw [ei] at x2
  have hc1:c r1=true:=by
    show (decide _ && decide _)=true
    rw [Bool.and_eq_true,decide_eq_true_eq,decide_eq_true_eq]
    exact ⟨Int.le_trans x3 C.rest,Int.le_trans x2 C.rest⟩
  obtain ⟨r0,y1,y2,_,y4,y5⟩:=zoI (c:=c) x1 hc1
  have t9 : ∀ (S9 : Int → Int → Int → Int → Int → (Sl Int) → ((Sl Int) × Int × Int)) (r : Int), r ≤ (l.get i).High → zhk S8 l (s93 l) S9 K (i : Int) (v.get (i - 2)) (v.get (i - 1)) r v =
      cond (c r) (S8 K (w64 ((i:Int)+1)) ⟨v.len+1,zeb v.len v.get (fun _=>r)⟩) (S9 K (i:Int) (v.get (i - 2)) (v.get (i - 1)) (w64 (r+1)) v):=by
    intro S9 r hr
    unfold zhk zh5
    rw [e1,e2,Int.toNat_natCast,Int.toNat_natCast,Int.toNat_natCast,decide_eq_true hr,cond_true,zuK H (i - 1) (by omega)]
    show cond (decide (s85 _ _ _ _ _ _≤K)) _ _=cond (decide _ && decide _) _ _
    have et:s85 (l.get (i - 2)).Z (l.get (i - 1)).Z (l.get i).Z (v.get (i - 2)) (v.get (i - 1)) r=tvl l (i - 2) (v.get (i - 2)) (v.get (i - 1)) r:=by unfold tvl;rw [ei,ei2]
    rw [et]
    cases decide (tvl l (i - 2) (v.get (i - 2)) (v.get (i - 1)) r≤K) <;> rfl
  have p9 : ∀ (P9 : Int → Int → Int → Int → Int → (Sl Int) → Bool) (r : Int), r ≤ (l.get i).High → zhl P8 l (s93 l) P9 K (i : Int) (v.get (i - 2)) (v.get (i - 1)) r v =
      cond (c r) (P8 K (w64 ((i:Int)+1)) ⟨v.len+1,zeb v.len v.get (fun _=>r)⟩) (P9 K (i:Int) (v.get (i - 2)) (v.get (i - 1)) (w64 (r+1)) v):=by
    intro P9 r hr
    have hp85:p85 (l.get (i - 2)).Z (l.get (i - 1)).Z (l.get i).Z (v.get (i - 2)) (v.get (i - 1)) r=true:=by
      have:=zAX H (i - 2) (by omega) (v.get (i - 2)) (v.get (i - 1)) r
      rwa [ei,ei2] at this
    unfold zhl zh6
    rw [e1,e2,Int.toNat_natCast,Int.toNat_natCast,Int.toNat_natCast,decide_eq_true hr,cond_true,zuK H (i - 1) (by omega),hp85,(zjH H).2.1,hv,
      decide_eq_true (show 0≤(i:Int)∧(i:Int) < (l.len:Int) by omega),decide_eq_true (show 0≤((i - 2:Nat):Int)∧((i - 2:Nat):Int) < (l.len:Int) by omega),decide_eq_true (show 0≤((i - 1:Nat):Int)∧((i - 1:Nat):Int) < (l.len:Int) by omega),
      decide_eq_true (show 0≤((i - 1:Nat):Int)∧((i - 1:Nat):Int) < ((l.len - 1:Nat):Int) by omega),decide_eq_true (show (i+1) * 8≤140737488355328∧i+1≤9223372036854775807 by omega)]
    simp only [decide_true,Bool.true_and]
    have et:s85 (l.get (i - 2)).Z (l.get (i - 1)).Z (l.get i).Z (v.get (i - 2)) (v.get (i - 1)) r=tvl l (i - 2) (v.get (i - 2)) (v.get (i - 1)) r:=by unfold tvl;rw [ei,ei2]
    rw [et]
    show cond (decide _) (cond (decide _) _ _) _=cond (decide _ && decide _) _ _
    cases decide (tvl l (i - 2) (v.get (i - 2)) (v.get (i - 1)) r≤K) <;> rfl
  obtain ⟨L, _⟩ := zD6 (c := c) (lo := (l.get i).Low) (hi := (l.get i).High) (fd := fun r => S8 K (w64 ((i : Int) + 1)) ⟨v.len + 1, zeb v.len v.get (fun _ => r)⟩) (E := S8 K (w64 ((i : Int) + 1)) v)
    (fdP:=fun r=>P8 K (w64 ((i:Int)+1)) ⟨v.len+1,zeb v.len v.get (fun _=>r)⟩) (EP:=P8 K (w64 ((i:Int)+1)) v)
    (lpS:=fun k r=>zf1 S8 l (s93 l) k K (i:Int) (v.get (i - 2)) (v.get (i - 1)) r v) (lpP:=fun k r=>zf2 P8 l (s93 l) k K (i:Int) (v.get (i - 2)) (v.get (i - 1)) r v)
    (fun k r _ hr=>t9 (zf1 S8 l (s93 l) k) r hr)
    (fun k r _ hr=>by
      show zhk S8 l (s93 l) (zf1 S8 l (s93 l) k) K (i:Int) (v.get (i - 2)) (v.get (i - 1)) r v=_
      unfold zhk
      rw [Int.toNat_natCast,decide_eq_false (show ¬ r≤(l.get i).High by omega),cond_false])
    (fun k r _ hr=>p9 (zf2 P8 l (s93 l) k) r hr)
    (fun k r _ hr=>by
      show zhl P8 l (s93 l) (zf2 P8 l (s93 l) k) K (i:Int) (v.get (i - 2)) (v.get (i - 1)) r v=_
      unfold zhl
      rw [Int.toNat_natCast,decide_eq_false (show ¬ r≤(l.get i).High by omega),cond_false,decide_eq_true (show 0≤(i:Int)∧(i:Int) < (l.len:Int) by omega),Bool.true_and])
    (by omega) (by omega) (by omega)
  obtain ⟨L1,L2⟩:=L r0 y1 y2 y4 y5
  have hc0:tvl l (i - 2) (v.get (i - 2)) (v.get (i - 1)) r0≤K∧Lk l (i - 1) (v.get (i - 1)) r0≤K:=by
    have y4:(decide (tvl l (i - 2) (v.get (i - 2)) (v.get (i - 1)) r0≤K) && decide (Lk l (i - 1) (v.get (i - 1)) r0≤K))=true:=y4
    rwa [Bool.and_eq_true,decide_eq_true_eq,decide_eq_true_eq] at y4
  have og:∀ j,j≤i→zeb i v.get (fun _=>r0) j=if j=i then r0 else v.get j:=fun j hj=>zoJ i v.get r0 j hj
  refine ⟨⟨v.len+1,zeb v.len v.get (fun _=>r0)⟩,by show v.len+1=i+1;rw [hv],?_,?_,?_⟩
  · rw [hv]
    refine ⟨fun j hj=>?_,fun j hj=>?_,?_,fun f hf j hj hb=>?_⟩
    · show inG _ (zeb i v.get (fun _ => r0) j)
      rw [og j (by omega)]
      split
      · rename_i e;rw [e];exact ⟨y1,y2⟩
      · exact C.ing j (by omega)
    · show tvl l j (zeb i v.get (fun _ => r0) j) (zeb i v.get (fun _ => r0) (j + 1)) (zeb i v.get (fun _ => r0) (j + 2)) ≤ K
      rw [og j (by omega),og (j+1) (by omega),og (j+2) (by omega),if_neg (by omega),if_neg (by omega)]
      split
      · rename_i e
        rw [show j=i - 2 by omega,ei];exact hc0.1
      · exact C.kin j (by omega)
    · show Lk l (i + 1 - 2) (zeb i v.get (fun _ => r0) (i + 1 - 2)) (zeb i v.get (fun _ => r0) (i + 1 - 1)) ≤ K
      rw [show i+1 - 2=i - 1 by omega,show i+1 - 1=i by omega,og (i - 1) (by omega),og i (by omega),if_neg (by omega),if_pos rfl]
      exact hc0.2
    · have hb : ∀ j', j' < j → f j' = zeb i v.get (fun _ => r0) j' := hb
      show zeb i v.get (fun _=>r0) j≤f j
      have hb':∀ j',j' < j→f j'=v.get j':=fun j' h=>by rw [hb j' h,og j' (by omega),if_neg (by omega)]
      rw [og j (by omega)]
      split
      · rename_i e
        subst e
        have g1:=hf.2 (j - 2) (by omega)
        rw [ei,ei2,hb' (j - 2) (by omega),hb' (j - 1) (by omega)] at g1
        have g2:=zA2 H f hf.1 K hK (l.len - (j - 1) - 2) (j - 1) (by omega) (fun j' _ h=>hf.2 j' h)
        rw [show j - 1+1=j by omega,hb' (j - 1) (by omega)] at g2
        have hcf:c (f j)=true:=by
          show (decide _ && decide _)=true
          rw [Bool.and_eq_true,decide_eq_true_eq,decide_eq_true_eq]
          exact ⟨g1,g2⟩
        have hin:=hf.1 j (by omega)
        by_cases hlt:f j < r0
        · rw [y5 (f j) hin.1 hlt] at hcf;cases hcf
        · omega
      · exact C.lex f hf j (by omega) hb'
  · unfold zf4 zrL
    rw [decide_eq_true (show (i:Int) < (l.len:Int) by omega),cond_true,e1,e2,Int.toNat_natCast,Int.toNat_natCast,Int.toNat_natCast,
      decide_eq_true (show 0≤((i - 2:Nat):Int)∧((i - 2:Nat):Int) < (v.len:Int) by omega),decide_eq_true (show i - 2 < v.len by omega),decide_eq_true (show 0≤((i - 1:Nat):Int)∧((i - 1:Nat):Int) < (v.len:Int) by omega),decide_eq_true (show i - 1 < v.len by omega),decide_eq_true (show 0≤(i:Int)∧(i:Int) < (l.len:Int) by omega)]
    simp only [Bool.true_and]
    exact L1
  · unfold zf3 zrK
    rw [decide_eq_true (show (i:Int) < (l.len:Int) by omega),cond_true,e1,e2,Int.toNat_natCast,Int.toNat_natCast,Int.toNat_natCast]
    exact L2
end
end Go.Proofs
namespace Go.Proofs
open Go Go.Pm
set_option maxRecDepth 100000
section
variable {l:Sl Gate} (H:BG l)
include H
theorem zLL (K:Int) (hK:0≤K) (v:Sl Int) (hv:v.len=2) (C:Ch l K 2 v.get):zfo l (s93 l) K v=true∧∃ o:Sl Int,zfn l (s93 l) K v=(o,K,0)∧o.len=l.len∧Ch l K l.len o.get:=by
 have hl:=H.hi;have hlo:=H.lo
 have key:∀ (m k i:Nat) (v:Sl Int),i+m=l.len→m < k→2≤i→v.len=i→Ch l K i v.get→zet l (s93 l) k K (i:Int) v=true∧∃ o:Sl Int,zes l (s93 l) k K (i:Int) v=(o,K,0)∧o.len=l.len∧Ch l K l.len o.get:=by
  intro m
  induction m with
  | zero =>
   intro k i v hi hk _ hv C
   obtain ⟨k,rfl⟩:∃ k',k=k'+1:=⟨k - 1,by omega⟩
   have:i=l.len:=by omega
   subst this
   have ep:zet l (s93 l) (k+1) K (l.len:Int) v=zf4 l (s93 l) (zet l (s93 l) k) K (l.len:Int) v:=rfl
   have es:zes l (s93 l) (k+1) K (l.len:Int) v=zf3 l (s93 l) (zes l (s93 l) k) K (l.len:Int) v:=rfl
   rw [ep,es]
   unfold zf4 zf3
   rw [decide_eq_false (show ¬ (l.len:Int) < (l.len:Int) by omega),cond_false,cond_false]
   exact ⟨rfl,v,rfl,hv,C⟩
  | succ m ih =>
   intro k i v hi hk h2 hv C
   obtain ⟨k,rfl⟩:∃ k',k=k'+1:=⟨k - 1,by omega⟩
   obtain ⟨o,o1,o2,o3,o4⟩:=zLK H K hK i h2 (by omega) v hv C (zes l (s93 l) k) (zet l (s93 l) k)
   have ep:zet l (s93 l) (k+1) K (i:Int) v=zf4 l (s93 l) (zet l (s93 l) k) K (i:Int) v:=rfl
   have es:zes l (s93 l) (k+1) K (i:Int) v=zf3 l (s93 l) (zes l (s93 l) k) K (i:Int) v:=rfl
   rw [ep,es,o3,o4,zda (n:=l.len) (by omega) (by omega)]
   exact ih k (i+1) o (by omega) (by omega) (by omega) o1 o2
 exact key (l.len - 2) Fuel 2 v (by omega) (by simp only [Fuel];omega) (Nat.le_refl _) hv C
theorem zD7 (K p : Int) (S5 : Int → Int → ((Sl Int) × Int × Int)) (P5 : Int → Int → Bool) :
    (∀ q0,inG (l.get 1) q0→Lk l 0 p q0=K→(∀ q,inG (l.get 1) q→q < q0→Lk l 0 p q ≠ K)→znx P5 l (s93 l) K p (l.get 1).Low=zfo l (s93 l) K ⟨2,zfQ p [p,q0]⟩∧znw S5 l (s93 l) K p (l.get 1).Low=zfn l (s93 l) K ⟨2,zfQ p [p,q0]⟩) ∧
    ((∀ q,inG (l.get 1) q→Lk l 0 p q ≠ K)→znx P5 l (s93 l) K p (l.get 1).Low=P5 K (w64 (p+1))∧znw S5 l (s93 l) K p (l.get 1).Low=S5 K (w64 (p+1))):=by
  have hl:=H.hi;have hlo:=H.lo
  obtain ⟨b1,b2,b3,_,_⟩:=zd6 H 1 (by omega)
  obtain ⟨F1, F2⟩ := zD6 (c := fun q => Lk l 0 p q == K) (lo := (l.get 1).Low) (hi := (l.get 1).High) (fd := fun q => zfn l (s93 l) K ⟨2, zfQ p [p, q]⟩) (E := S5 K (w64 (p + 1))) (fdP := fun q => zfo l (s93 l) K ⟨2, zfQ p [p, q]⟩) (EP := P5 K (w64 (p + 1)))
    (lpS:=fun k q=>zf5 S5 l (s93 l) k K p q) (lpP:=fun k q=>zf6 P5 l (s93 l) k K p q)
    (fun k q _ hr=>by
      show zhm S5 l (s93 l) (zf5 S5 l (s93 l) k) K p q=_
      unfold zhm
      rw [decide_eq_true hr,cond_true,zuK H 0 (by omega)])
    (fun k q _ hr=>by
      show zhm S5 l (s93 l) (zf5 S5 l (s93 l) k) K p q=_
      unfold zhm
      rw [decide_eq_false (show ¬ q≤(l.get 1).High by omega),cond_false])
    (fun k q _ hr=>by
      show zhn P5 l (s93 l) (zf6 P5 l (s93 l) k) K p q=_
      unfold zhn
      rw [decide_eq_true hr,cond_true,zuK H 0 (by omega),(zjH H).2.1,decide_eq_true (show 0≤(1:Int)∧(1:Int) < (l.len:Int) by omega),decide_eq_true (show 0≤(0:Int)∧(0:Int) < ((l.len - 1:Nat):Int) by omega),Bool.true_and,Bool.true_and])
    (fun k q _ hr=>by
      show zhn P5 l (s93 l) (zf6 P5 l (s93 l) k) K p q=_
      unfold zhn
      rw [decide_eq_false (show ¬ q≤(l.get 1).High by omega),cond_false,decide_eq_true (show 0≤(1:Int)∧(1:Int) < (l.len:Int) by omega),Bool.true_and])
    (by omega) (by omega) (by omega)
  constructor
  · intro q0 hq he hf
    exact F1 q0 hq.1 hq.2 (by simp [he]) fun q h1 h2=>by
      have:=hf q ⟨h1,by have:=hq.2;omega⟩ h2
      simpa using this
  · intro hf
    exact F2 fun q h1 h2=>by simpa using hf q ⟨h1,h2⟩
open Classical in
theorem zLM (K p0 q0 : Int) (hp : inG (l.get 0) p0) (hq : inG (l.get 1) q0) (he : Lk l 0 p0 q0 = K) (h1 : ∀ q, inG (l.get 1) q → q < q0 → Lk l 0 p0 q ≠ K) (h2 : ∀ p q, inG (l.get 0) p → inG (l.get 1) q → p < p0 → Lk l 0 p q ≠ K) :
  zrN l (s93 l) K (l.get 0).Low=zfo l (s93 l) K ⟨2,zfQ p0 [p0,q0]⟩∧zrM l (s93 l) K (l.get 0).Low=zfn l (s93 l) K ⟨2,zfQ p0 [p0,q0]⟩:=by
 have hl:=H.hi;have hlo:=H.lo
 obtain ⟨b1,b2,b3,_,_⟩:=zd6 H 0 (by omega)
 have key:∀ (n k:Nat) (p:Int),(l.get 0).Low≤p→p+n=p0→n < k→zdU l (s93 l) k K p=zfo l (s93 l) K ⟨2,zfQ p0 [p0,q0]⟩∧zdT l (s93 l) k K p=zfn l (s93 l) K ⟨2,zfQ p0 [p0,q0]⟩:=by
  intro n
  induction n with
  | zero =>
   intro k p hl' hr hk
   obtain ⟨k,rfl⟩:∃ k',k=k'+1:=⟨k - 1,by omega⟩
   have:p=p0:=by omega
   subst this
   obtain ⟨a1,_⟩:=zD7 H K p (zdT l (s93 l) k) (zdU l (s93 l) k)
   obtain ⟨a2,a3⟩:=a1 q0 hq he h1
   have ep:zdU l (s93 l) (k+1) K p=zhp l (s93 l) (zdU l (s93 l) k) K p:=rfl
   have es:zdT l (s93 l) (k+1) K p=zho l (s93 l) (zdT l (s93 l) k) K p:=rfl
   rw [ep,es]
   unfold zhp zho
   rw [decide_eq_true (show p≤(l.get 0).High from hp.2),cond_true,cond_true,decide_eq_true (show 0≤(0:Int)∧(0:Int) < (l.len:Int) by omega),decide_eq_true (show 0≤(1:Int)∧(1:Int) < (l.len:Int) by omega),Bool.true_and,Bool.true_and]
   exact ⟨a2,a3⟩
  | succ n ih =>
   intro k p hl' hr hk
   obtain ⟨k,rfl⟩:∃ k',k=k'+1:=⟨k - 1,by omega⟩
   obtain ⟨_,a1⟩:=zD7 H K p (zdT l (s93 l) k) (zdU l (s93 l) k)
   have hpin:inG (l.get 0) p:=⟨hl',by have:=hp.2;omega⟩
   obtain ⟨a2,a3⟩:=a1 fun q hq'=>h2 p q hpin hq' (by omega)
   have ep:zdU l (s93 l) (k+1) K p=zhp l (s93 l) (zdU l (s93 l) k) K p:=rfl
   have es:zdT l (s93 l) (k+1) K p=zho l (s93 l) (zdT l (s93 l) k) K p:=rfl
   have hph:=hp.2
   rw [ep,es]
   unfold zhp zho
   rw [decide_eq_true (show p≤(l.get 0).High by omega),cond_true,cond_true,decide_eq_true (show 0≤(0:Int)∧(0:Int) < (l.len:Int) by omega),decide_eq_true (show 0≤(1:Int)∧(1:Int) < (l.len:Int) by omega),Bool.true_and,Bool.true_and,a2,a3,za9 (by omega) (by omega)]
   exact ih k (p+1) (by omega) (by omega) (by omega)
 have hph:=hp.1;have hp2:=hp.2
 exact key (p0 - (l.get 0).Low).toNat Fuel _ (Int.le_refl _) (by omega) (by simp only [Fuel];omega)
theorem zLN:p55 l=true∧∃ o:Sl Int,s55 l=(o,zl1 l,0)∧o.len=l.len∧Ch l (zl1 l) l.len o.get:=by
 have hl:=H.hi;have hlo:=H.lo
 obtain ⟨⟨p1,q1,hp1,hq1,e1⟩,kmin,knn⟩:=zqz H
 obtain ⟨p0,a1,a2,_,a4,a5⟩:=zoI (c:=fun p=>(zjR (l.get 1).Low (l.get 1).High).any fun q=>Lk l 0 p q == zl1 l) hp1 (by
  rw [List.any_eq_true];exact ⟨q1,zdb.2 hq1,by simp [e1]⟩)
 have a4:((zjR (l.get 1).Low (l.get 1).High).any fun q=>Lk l 0 p0 q == zl1 l)=true:=a4
 rw [List.any_eq_true] at a4
 obtain ⟨q2,c1,c2⟩:=a4
 obtain ⟨q0,d1,d2,_,d4,d5⟩:=zoI (c:=fun q=>Lk l 0 p0 q == zl1 l) (zdb.1 c1) c2
 have he:Lk l 0 p0 q0=zl1 l:=by simpa using d4
 have hf2:∀ p q,inG (l.get 0) p→inG (l.get 1) q→p < p0→Lk l 0 p q ≠ zl1 l:=fun p q hp hq hlt e=>by
  have:=a5 p hp.1 hlt
  have h:((zjR (l.get 1).Low (l.get 1).High).any fun q=>Lk l 0 p q == zl1 l)=true:=List.any_eq_true.2 ⟨q,zdb.2 hq,by simp [e]⟩
  rw [h] at this;cases this
 have hf1:∀ q,inG (l.get 1) q→q < q0→Lk l 0 p0 q ≠ zl1 l:=fun q hq hlt e=>by
  have:=d5 q hq.1 hlt
  simp [e] at this
 have C:Ch l (zl1 l) 2 (zfQ p0 [p0,q0]):=by
  have g0:zfQ p0 [p0,q0] 0=p0:=rfl
  have g1:zfQ p0 [p0,q0] 1=q0:=rfl
  refine ⟨fun j hj=>?_,fun j hj=>by omega,by rw [show (2 - 2:Nat)=0 from rfl,show (2 - 1:Nat)=1 from rfl,g0,g1,he];exact Int.le_refl _,fun f hf j hj hb=>?_⟩
  ·match j,hj with
   | 0,_=>exact ⟨a1,a2⟩
   | 1,_=>exact ⟨d1,d2⟩
  ·have f0 := hf.1 0 (by omega)
   have f1:=hf.1 1 (by omega)
   have hle:=zA2 H f hf.1 (zl1 l) knn (l.len - 2) 0 (by omega) (fun j _ h=>hf.2 j h)
   have hge:=kmin _ _ f0 f1
   have hle:Lk l 0 (f 0) (f 1)≤zl1 l:=hle
   have heq:Lk l 0 (f 0) (f 1)=zl1 l:=by omega
   match j,hj,hb with
   | 0,_,_ =>
    show p0≤f 0
    by_cases h:f 0 < p0
    ·exact absurd heq (hf2 _ _ f0 f1 h)
    ·omega
   | 1,_,hb =>
    show q0≤f 1
    have e0:f 0=p0:=hb 0 (by omega)
    rw [e0] at heq
    by_cases h:f 1 < q0
    ·exact absurd heq (hf1 _ f1 h)
    ·omega
 obtain ⟨z1,z2⟩:=zLL H (zl1 l) knn ⟨2,zfQ p0 [p0,q0]⟩ rfl C
 obtain ⟨y1,y2⟩:=zLM H (zl1 l) p0 q0 ⟨a1,a2⟩ ⟨d1,d2⟩ he hf1 hf2
 obtain ⟨b1,b2⟩:=zD1 l (by omega)
 obtain ⟨t1,t2,t3⟩:=zjH H
 have hF:((s93 l).get 0).F=(tbl l 0).2:=(t3 0 (by omega)).2
 have hn:((s93 l).get 0).n=(tbl l 0).1:=(t3 0 (by omega)).1
 have hkeys:∀ y∈zfY l,y.length=2:=fun y hy=>by
  rw [ziu] at hy
  obtain ⟨p,q,rfl,_⟩:=zee.1 hy
  rfl
 have hfold:(zfY l).foldl (kst ((s93 l).get 0).F) (-1)=zl1 l:=by
  rw [hF,ziu]
  unfold zl1 mnL
  rw [List.foldl_map]
  rfl
 unfold p55 s55 znJ znI znH znG znF znE znD znC
 rw [b1,b2.2 H,t1,t2,decide_eq_true (show 0≤(0:Int)∧(0:Int) < ((l.len - 1:Nat):Int) by omega),znA _ _ _ _ hkeys,znB _ _ _ _ hkeys,hfold]
 unfold zla zk9 znz zny
 rw [y1,y2,z1]
 have hkb:keysB 2 ((s93 l).get 0).n ((s93 l).get 0).F (zfY l)=true:=by
  unfold keysB
  rw [hn,hF,zLF,ziu,Bool.and_eq_true,Bool.and_eq_true,zgA,List.all_eq_true]
  refine ⟨⟨by simp,fun y hy=>?_⟩,zgJ _ _⟩
  have hy':=(zuG l 0 y).2 hy
  obtain ⟨p,q,rfl,_⟩:=zee.1 hy
  rw [Bool.and_eq_true]
  exact ⟨rfl,Option.isSome_iff_ne_none.2 hy'⟩
 have hI:zeK l (s93 l) (zfY l)=true:=by
  unfold zeK
  rw [List.all_eq_true]
  intro y hy
  rw [ziu] at hy
  obtain ⟨p,q,rfl,hp,hq⟩:=zee.1 hy
  rw [hF]
  exact decide_eq_true (zqx H (l.len - 2) 0 (by omega) p q hp hq)
 rw [hkb,hI,decide_eq_true (show 0≤(0:Int)∧(0:Int) < (l.len:Int) by omega)]
 exact ⟨rfl,z2⟩
end
end Go.Proofs
namespace Go.Proofs
open Go Go.Pm
set_option maxRecDepth 100000
def plc (h:Sl Int) (start slope:Int) (i:Nat):Int:=start+slope * h.get i
def zjI (h : Sl Int) (start slope : Int) : Nat → Sl Int
  | 0=>⟨0,fun _=>default⟩
  | n+1=>⟨n+1,zeb n (zjI h start slope n).get (fun _=>plc h start slope n)⟩
def zoK (h : Sl Int) (start slope wide : Int) : Nat → Sl Gate
  | 0=>⟨0,fun _=>default⟩
  | n+1=>⟨n+1,zeb n (zoK h start slope wide n).get (fun _=>⟨h.get n,plc h start slope n - wide,plc h start slope n+wide⟩)⟩
theorem zfB (h : Sl Int) (start slope : Int) : ∀ n, (zjI h start slope n).len = n
  | 0=>rfl
  | _+1=>rfl
theorem zcE (h : Sl Int) (start slope wide : Int) : ∀ n, (zoK h start slope wide n).len = n
  | 0=>rfl
  | _+1=>rfl
theorem zfC (h : Sl Int) (start slope : Int) : ∀ n j, j < n → (zjI h start slope n).get j = plc h start slope j
  | 0,j,hj=>by omega
  | n+1,j,hj=>by
    show zeb n (zjI h start slope n).get (fun _=>plc h start slope n) j=_
    rw [zoJ n _ _ j (by omega)]
    split
    · rename_i e;rw [e]
    · exact zfC h start slope n j (by omega)
theorem zkc (h : Sl Int) (start slope wide : Int) : ∀ n j, j < n → (zoK h start slope wide n).get j = ⟨h.get j, plc h start slope j - wide, plc h start slope j + wide⟩
  | 0,j,hj=>by omega
  | n+1,j,hj=>by
    show zeb n (zoK h start slope wide n).get (fun _=>(⟨h.get n,plc h start slope n - wide,plc h start slope n+wide⟩:Gate)) j=_
    rw [zoJ n _ _ j (by omega)]
    split
    · rename_i e;rw [e]
    · exact zkc h start slope wide n j (by omega)
theorem zD8 {s z:Int} (h1 : -9≤s∧s≤9) (h2:0≤z∧z≤100000) : -900000≤s * z∧s * z≤900000:=by
 have:=zMf (x:=s) (y:=z) (X:=9) (Y:=100000) h1.1 h1.2 h2.1 h2.2
 omega
section
variable {h:Sl Int} {start slope wide:Int} (w:wf_39 h) (HH:HOK h) (hs : -1000≤start∧start≤1000) (hl : -9≤slope∧slope≤9) (hw:0≤wide∧wide≤30)
include HH hs hl hw
end
section
variable {h:Sl Int} {start slope wide:Int} (w:wf_39 h) (HH:HOK h) (hs : -1000≤start∧start≤1000) (hl : -9≤slope∧slope≤9) (hw:0≤wide∧wide≤30)
include HH hs hl
theorem zA4 (j:Nat) (hj:j < h.len) : -901000≤plc h start slope j∧plc h start slope j≤901000:=by
 have:=zD8 hl (zlR HH hj)
 unfold plc;omega
end
section
variable {h:Sl Int} {start slope wide:Int} (w:wf_39 h) (HH:HOK h) (hs : -1000≤start∧start≤1000) (hl : -9≤slope∧slope≤9) (hw:0≤wide∧wide≤30)
include HH hs hl hw
end
section
variable {h:Sl Int} {start slope wide:Int} (w:wf_39 h) (HH:HOK h) (hs : -1000≤start∧start≤1000) (hl : -9≤slope∧slope≤9) (hw:0≤wide∧wide≤30)
include HH
theorem flat3 (j:Nat) (hj:j+2 < h.len):(plc h start slope (j+2) - plc h start slope (j+1)) * (h.get (j+1) - h.get j)=(plc h start slope (j+1) - plc h start slope j) * (h.get (j+2) - h.get (j+1)):=by
 unfold plc
 grind
end
section
variable {h:Sl Int} {start slope wide:Int} (w:wf_39 h) (HH:HOK h) (hs : -1000≤start∧start≤1000) (hl : -9≤slope∧slope≤9) (hw:0≤wide∧wide≤30)
include HH hs hl hw
end
section
variable {h:Sl Int} {start slope wide:Int} (w:wf_39 h) (HH:HOK h) (hs : -1000≤start∧start≤1000) (hl : -9≤slope∧slope≤9) (hw:0≤wide∧wide≤30)
include HH hs hl
theorem zN2 (i:Nat) (hi:i+2 < h.len):kk h (zjI h start slope h.len) i 0=0:=by
 unfold kk
 rw [zfC _ _ _ _ i (by omega),zfC _ _ _ _ (i+1) (by omega),zfC _ _ _ _ (i+2) hi]
 have b0:=zA4 HH hs hl i (by omega)
 have b1:=zA4 HH hs hl (i+1) (by omega)
 have b2:=zA4 HH hs hl (i+2) hi
 have i0:=zlR HH (show i < h.len by omega)
 have i2:=zlR HH hi
 obtain ⟨e,hd⟩:=zD3 (u:=h.get i) (v:=h.get (i+1)) (w:=h.get (i+2)) (p:=plc h start slope i) (q:=plc h start slope (i+1)) (r:=plc h start slope (i+2)) i0.1 (zuC HH (by omega)) (zuC HH hi) i2.2 (by omega) (by omega) (by omega)
 have e0:s85 (h.get i) (h.get (i+1)) (h.get (i+2)) (plc h start slope i) (plc h start slope (i+1)) (plc h start slope (i+2))=0:=by
  rw [e,flat3 HH i hi,Int.sub_self,if_neg (by omega)]
  exact Int.ediv_eq_zero_of_lt (by omega) (by omega)
 rw [e0]
 rfl
end
section
variable {h:Sl Int} {start slope wide:Int} (w:wf_39 h) (HH:HOK h) (hs : -1000≤start∧start≤1000) (hl : -9≤slope∧slope≤9) (hw:0≤wide∧wide≤30)
include HH hs hl hw
end
section
variable {h:Sl Int} {start slope wide:Int} (w:wf_39 h) (HH:HOK h) (hs : -1000≤start∧start≤1000) (hl : -9≤slope∧slope≤9) (hw:0≤wide∧wide≤30)
include HH hs hl
theorem zLO:p44 h (zjI h start slope h.len)=true∧s44 h (zjI h start slope h.len)=(0,0):=by
 have hV:VOK h (zjI h start slope h.len):=⟨HH,zfB _ _ _ _,fun i hi=>by
  rw [zfB] at hi
  unfold inw
  rw [zfC _ _ _ _ i hi]
  have:=zA4 HH hs hl i hi
  exact decide_eq_true (by omega)⟩
 have wz:wf_39 h:=⟨by have:=HH.2;omega,fun i hi=>by have:=zlR HH hi;show wfI _;unfold wfI;omega⟩
 obtain ⟨a,b⟩:=(zLB h _ wz).1 hV
 refine ⟨a,b.trans ?_⟩
 have:∀ (m i:Nat),i+m+2≤h.len→zoC (kk h (zjI h start slope h.len)) m i 0=0:=by
  intro m
  induction m with
  | zero=>intro i _;rfl
  | succ m ih =>
   intro i hi
   show zoC _ m (i+1) (kk h (zjI h start slope h.len) i 0)=0
   rw [zN2 HH hs hl i (by omega)]
   exact ih (i+1) (by omega)
 rw [this (h.len - 2) 0 (by have:=HH.2;omega)]
end
section
variable {h:Sl Int} {start slope wide:Int} (w:wf_39 h) (HH:HOK h) (hs : -1000≤start∧start≤1000) (hl : -9≤slope∧slope≤9) (hw:0≤wide∧wide≤30)
include HH hs hl hw
theorem zCQ (B:BG (zoK h start slope wide h.len)):zON (zoK h start slope wide h.len) 0 (plc h start slope):=by
 refine ⟨fun j hj=>?_,fun j hj=>?_⟩
 ·rw [zcE] at hj
  rw [zkc _ _ _ _ _ j hj]
  constructor
  ·show plc h start slope j - wide≤_;omega
  ·show _≤plc h start slope j+wide;omega
 ·have hj' := hj
  rw [zcE] at hj'
  have hin:∀ k,k < h.len→inG ((zoK h start slope wide h.len).get k) (plc h start slope k):=fun k hk=>by
   rw [zkc _ _ _ _ _ k hk]
   constructor
   ·show plc h start slope k - wide≤_;omega
   ·show _≤plc h start slope k+wide;omega
  have hz:∀ k,k < h.len→((zoK h start slope wide h.len).get k).Z=h.get k:=fun k hk=>by rw [zkc _ _ _ _ _ k hk]
  rw [zCL B j hj _ _ _ (hin j (by omega)) (hin (j+1) (by omega)) (hin (j+2) hj') (by rw [hz j (by omega),hz (j+1) (by omega),hz (j+2) hj'];exact flat3 HH j hj')]
  exact Int.le_refl _
theorem zLP:zox h (zjI h start slope h.len) (zoK h start slope wide h.len)=true∧zow h (zjI h start slope h.len) (zoK h start slope wide h.len)=true:=by
  have h8:=HH.2
  obtain ⟨b1,b2⟩:=zLD (zoK h start slope wide h.len) (by rw [zcE];omega)
  unfold zox zow zsP zsO
  rw [b1]
  cases hb:s57 (zoK h start slope wide h.len) with
  | false=>exact ⟨rfl,rfl⟩
  | true =>
    have B:=b2.1 hb
    have L:=zCQ HH hs hl hw B
    obtain ⟨k1,k2,k3⟩:=zqz B
    have hle:=zA2 B _ L.1 0 (Int.le_refl _) (h.len - 2) 0 (by rw [zcE];omega) (fun j _ hj=>L.2 j hj)
    have hg0:=k2 _ _ (L.1 0 (by rw [zcE];omega)) (L.1 1 (by rw [zcE];omega))
    have hle:Lk (zoK h start slope wide h.len) 0 (plc h start slope 0) (plc h start slope 1)≤0:=hle
    have hK:zl1 (zoK h start slope wide h.len)=0:=by omega
    obtain ⟨s1,o,s2,s3,_⟩:=zLN B
    have hGd:∀ j,j+1 < h.len→Gd (zoK h start slope wide h.len) 0 j (plc h start slope j) (plc h start slope (j+1)):=by
      intro j
      induction j with
      | zero=>intro _;exact ⟨L.1 0 (by rw [zcE];omega),L.1 1 (by rw [zcE];omega),hle⟩
      | succ j ih =>
        intro hj
        refine ⟨L.1 (j+2) (by rw [zcE];omega),plc h start slope j,ih (by omega),L.2 j (by rw [zcE];omega),?_⟩
        exact zA2 B _ L.1 0 (Int.le_refl _) (h.len - 2 - (j+1)) (j+1) (by rw [zcE];omega) (fun j' _ hj'=>L.2 j' hj')
    obtain ⟨c1,_,c3⟩:=zLJ B 0 ⟨Int.le_refl _,by omega⟩
    obtain ⟨o2,d1,d2,d3,_⟩:=c3 ⟨_,_,hGd 0 (by omega)⟩
    have hin:∀ j,j < h.len→inS (o2.get j) (plc h start slope j):=by
      intro j hj
      by_cases e:j+1 < h.len
      · exact (d3 j _ _ (by rw [zcE];exact e) (hGd j e)).1
      · have := (d3 (j - 1) _ _ (by rw [zcE]; omega) (hGd (j - 1) (by omega))).2
        rwa [show j - 1+1=j by omega] at this
    unfold zsN zsM zsL zsK
    rw [s1,s2,c1,d1,hK]
    unfold zsJ zsI zov zou zot zos
    rw [zcE] at s3 d2
    rw [s3,d2]
    simp only [bne_self_eq_false,cond_false,Bool.not_true,decide_true,Bool.true_and]
    have := zjZ (good := fun _ => true) (fin := true) (n := h.len) (lpS := zio o2 (zjI h start slope h.len)) (lpP := ziq o2 (zjI h start slope h.len))
      (fun k i hi=>by
        show zgG o2 (zjI h start slope h.len) (zio o2 (zjI h start slope h.len) k) (i:Int)=_
        unfold zgG
        have a:=hin i hi
        unfold inS at a
        rw [zfB,decide_eq_true (show (i:Int) < (h.len:Int) by omega),cond_true,Int.toNat_natCast,zfC _ _ _ _ i hi,decide_eq_false (by omega),decide_eq_false (by omega)]
        rfl)
      (fun k=>by
        show zgG o2 (zjI h start slope h.len) (zio o2 (zjI h start slope h.len) k) (h.len:Int)=_
        unfold zgG
        rw [zfB,decide_eq_false (by omega),cond_false])
      (fun k i hi=>by
        show zgH o2 (zjI h start slope h.len) (ziq o2 (zjI h start slope h.len) k) (i:Int)=_
        unfold zgH
        have a:=hin i hi
        unfold inS at a
        rw [zfB,decide_eq_true (show (i:Int) < (h.len:Int) by omega),cond_true,Int.toNat_natCast,zfC _ _ _ _ i hi,d2,decide_eq_true (show 0≤(i:Int)∧(i:Int) < (h.len:Int) by omega),decide_eq_true hi,decide_eq_false (by omega),decide_eq_false (by omega)]
        rfl)
      (fun k=>by
        show zgH o2 (zjI h start slope h.len) (ziq o2 (zjI h start slope h.len) k) (h.len:Int)=_
        unfold zgH
        rw [zfB,decide_eq_false (by omega),cond_false])
      (by omega)
    exact ⟨this.1,this.2.2 ⟨fun _ _=>rfl,rfl⟩⟩
theorem zLQ:zoB h start slope wide=true∧zoA h start slope wide=true:=by
 have h8:=HH.2
 have key:∀ (m k i:Nat),i+m=h.len→m < k→zgp h start slope wide k (i:Int) (zjI h start slope i) (zoK h start slope wide i)=zoz h (zjI h start slope h.len) (zoK h start slope wide h.len) ∧
   zgo h start slope wide k (i:Int) (zjI h start slope i) (zoK h start slope wide i)=zoy h (zjI h start slope h.len) (zoK h start slope wide h.len):=by
  intro m
  induction m with
  | zero =>
   intro k i hi hk
   obtain ⟨k,rfl⟩:∃ k',k=k'+1:=⟨k - 1,by omega⟩
   have:i=h.len:=by omega
   subst this
   have ep:∀ v g,zgp h start slope wide (k+1) (h.len:Int) v g=zjq h start slope wide (zgp h start slope wide k) (h.len:Int) v g:=fun _ _=>rfl
   have es:∀ v g,zgo h start slope wide (k+1) (h.len:Int) v g=zjo h start slope wide (zgo h start slope wide k) (h.len:Int) v g:=fun _ _=>rfl
   rw [ep,es]
   unfold zjq zjo
   rw [decide_eq_false (show ¬ (h.len:Int) < (h.len:Int) by omega),cond_false,cond_false]
   exact ⟨rfl,rfl⟩
  | succ m ih =>
   intro k i hi hk
   obtain ⟨k,rfl⟩:∃ k',k=k'+1:=⟨k - 1,by omega⟩
   have ep:∀ v g,zgp h start slope wide (k+1) (i:Int) v g=zjq h start slope wide (zgp h start slope wide k) (i:Int) v g:=fun _ _=>rfl
   have es:∀ v g,zgo h start slope wide (k+1) (i:Int) v g=zjo h start slope wide (zgo h start slope wide k) (i:Int) v g:=fun _ _=>rfl
   rw [ep,es]
   have b:=zD8 hl (zlR HH (show i < h.len by omega))
   have b2:=zA4 HH hs hl i (by omega)
   have e1:w64 (start+w64 (slope * h.get i))=plc h start slope i:=by
    rw [za9 (x:=slope * h.get i) (by omega) (by omega)]
    exact za9 (by unfold plc at b2;omega) (by unfold plc at b2;omega)
   unfold zjq zjo
   rw [decide_eq_true (show (i:Int) < (h.len:Int) by omega),cond_true,cond_true,Int.toNat_natCast,e1,za9 (x:=plc h start slope i - wide) (by omega) (by omega),za9 (x:=plc h start slope i+wide) (by omega) (by omega),zfB,zcE,
    decide_eq_true (show 0≤(i:Int)∧(i:Int) < (h.len:Int) by omega),decide_eq_true (show (i+1) * 8≤140737488355328∧i+1≤9223372036854775807 by omega),decide_eq_true (show (i+1) * 24≤140737488355328∧i+1≤9223372036854775807 by omega),Bool.true_and,Bool.true_and,Bool.true_and,Bool.true_and,zda (n:=h.len) (by omega) (by omega)]
   exact ih k (i+1) (by omega) (by omega)
 obtain ⟨a,b⟩:=key h.len Fuel 0 (by omega) (by simp only [Fuel];omega)
 unfold zoB zoA zsV zsU
 have a:zgp h start slope wide Fuel 0 ⟨0,fun _=>default⟩ ⟨0,fun _=>default⟩=_:=a
 have b:zgo h start slope wide Fuel 0 ⟨0,fun _=>default⟩ ⟨0,fun _=>default⟩=_:=b
 rw [a,b]
 obtain ⟨c1,c2⟩:=zLO HH hs hl
 obtain ⟨d1,d2⟩:=zLP HH hs hl hw
 unfold zoz zoy zsR zsQ
 rw [c1,c2]
 simp only [bne_self_eq_false,cond_false,decide_true,Bool.true_and]
 exact ⟨d1,d2⟩
end
theorem flat_true (a0:Sl Int) (a1 a2 a3:Int) (w0:wf_39 a0):p17 a0 a1 a2 a3=true∧s17 a0 a1 a2 a3=true:=by
 have kt:zeA a0 a1 a2 a3 true=true∧zez a0 a1 a2 a3 true=true:=⟨rfl,rfl⟩
 obtain ⟨h1,h2⟩:=zDY a0 w0
 unfold p17 s17
 rw [h1]
 by_cases c0:(a0.len:Int) > 8
 ·rw [decide_eq_true c0,cond_true,cond_true];exact kt
 rw [decide_eq_false c0,cond_false,cond_false]
 simp only [decide_true,Bool.true_and]
 cases hb:s45 a0 with
 | false=>rw [Bool.not_false,cond_true,cond_true];exact kt
 | true =>
 have HH:=h2.1 hb
 rw [Bool.not_true,cond_false,cond_false]
 by_cases c1:a1 < -1000
 ·rw [decide_eq_true c1,cond_true,cond_true];exact kt
 rw [decide_eq_false c1,cond_false,cond_false]
 by_cases c2:a1 > 1000
 ·rw [decide_eq_true c2,cond_true,cond_true];exact kt
 rw [decide_eq_false c2,cond_false,cond_false]
 by_cases c3:a2 < -9
 ·rw [decide_eq_true c3,cond_true,cond_true];exact kt
 rw [decide_eq_false c3,cond_false,cond_false]
 by_cases c4:a2 > 9
 ·rw [decide_eq_true c4,cond_true,cond_true];exact kt
 rw [decide_eq_false c4,cond_false,cond_false]
 by_cases c5:a3 < 0
 ·rw [decide_eq_true c5,cond_true,cond_true];exact kt
 rw [decide_eq_false c5,cond_false,cond_false]
 by_cases c6:a3 > 30
 ·rw [decide_eq_true c6];exact kt
 rw [decide_eq_false c6]
 unfold zeA zez
 rw [cond_false,cond_false]
 exact zLQ HH (by omega) (by omega) (by omega)
end Go.Proofs
