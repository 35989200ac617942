/- Part 5 of what the proof rests on: a machine that runs functions of the program on pure values, proved sound; the functions that the law reaches, and what they compute. -/
import Derived.Test.YtkpjhhoafenogaaQ4
set_option linter.all false
namespace Go.Proofs
open Go Go.Pm
set_option maxRecDepth 100000
set_option linter.unusedVariables false
attribute [local irreducible] Go.Pm.vcFun Go.Pm.vc Go.Pm.vcIter
abbrev T19:Tabs:=((((((Tabs.nil.addF 64 zwr).addF 65 zyA).addF 66 zyH).addF 67 zst).addF 68 zDx).addF 69 zwx)
theorem zPu:TabsOk Try.prog T19:=((((((TabsOk.nil.addF zN3).addF zPb).addF zPe).addF zLK).addF zQP).addF zN9)
abbrev G19:Ctrs:=csm T19 (fun _ _=>[]) (fun _=>false)
def zHr:Ann:=⟨124,[(0,zK [0,1,2,3,9,10] [9,10]),(1,zK [0,1,2,3,9,10,12] [9,10,12]),(2,zK [0,1,2,3,9,10,12,44] [9,10,12]),(3,zK [8,9,10,11] [9,10]),(4,zK [2,3,9,10,12,13,14] [9,10,12,13,14]),(5,zK [2,3,9,10,12,13,14,58] [9,10,12,13,14]),(6,zK [8,9,10,11] [9,10]),(7,zK [2,3,9,10,12,13,14,68] [9,10,12,13,14]),(8,zK [8,9,10,11] [9,10]),(9,zK [2,3,9,10,12,13,14,15,16] [9,10,12,13,14,15,16]),(10,zK [2,3,9,10,12,13,14,15,16,17] [9,10,12,13,14,15,16]),(11,zK [2,3,9,10,12,13,14,15,16,17,76,77] [9,10,12,13,14,15,16]),(12,zK [2,3,9,10,12,13,14,15,16,17,76,77,78] [9,10,12,13,14,15,16]),(13,zK [2,3,9,10,12,13,14,15,16,17,18,76,77] [9,10,12,13,14,15,16]),(14,zK [2,3,9,10,12,13,14,15,16,17,18,19,20,76,77] [9,10,12,13,14,15,16,19,20]),(15,zK [2,3,9,10,12,13,14,15,16,17,18,19,20,21,22,76,77] [9,10,12,13,14,15,16,19,20,21,22]),(16,zK [2,3,9,10,12,13,14,15,16,17,18,19,20,21,22,76,77] [9,10,12,13,14,15,16,19,20,21,22]),(17,zK [2,3,9,10,12,13,14,15,16,17,18,20,21,22,76,77,101] [9,10,12,13,14,15,16,20,21,22]),(18,zK [2,3,9,10,12,13,14,15,16,17,18,20,22,76,77] [9,10,12,13,14,15,16,20,22]),(19,zK [2,3,9,10,12,13,14,15,16,17,18,22,76,77,106] [9,10,12,13,14,15,16,22]),(20,zK [2,3,9,10,12,13,14,15,16,17,18,76,77] [9,10,12,13,14,15,16]),(21,zK [2,3,9,10,12,13,14,15,16,17,18,76,77,111] [9,10,12,13,14,15,16]),(22,zK [3,9,10,12,15,16,17] [9,10,12,15,16]),(23,zK [2,3,9,10,12,13,14,15,16,17,76,77] [9,10,12,13,14,15,16]),(24,zK [9,10,12,15,16,17,118] [9,10,12,15,16]),(25,zK [8,9,10,11] [9,10]),(26,zK [8,9,10,11] [9,10])],
 [(12,zK [2,3,9,10,12,13,14,15,16,17,76,77] [9,10,12,13,14,15,16])],
 [(3,zK [0,1,2,3,9,10,12,44] [9,10,12]),(4,zK [0,1,2,3,9,10,12] [9,10,12]),(5,zK [2,3,9,10,12,13,14] [9,10,12,13,14]),(6,zK [2,3,9,10,12,13,14,58] [9,10,12,13,14]),(7,zK [2,3,9,10,12,13,14] [9,10,12,13,14]),(8,zK [2,3,9,10,12,13,14,68] [9,10,12,13,14]),(9,zK [2,3,9,10,12,13,14] [9,10,12,13,14]),(15,zK [2,3,9,10,12,13,14,15,16,17,18,19,20,76,77] [9,10,12,13,14,15,16,19,20]),(24,zK [3,9,10,12,15,16,17] [9,10,12,15,16]),(16,zK [2,3,9,10,12,13,14,15,16,17,18,19,20,21,22,76,77] [9,10,12,13,14,15,16,19,20,21,22]),(18,zK [2,3,9,10,12,13,14,15,16,17,18,20,21,22,76,77,101] [9,10,12,13,14,15,16,20,21,22]),(19,zK [2,3,9,10,12,13,14,15,16,17,18,20,22,76,77] [9,10,12,13,14,15,16,20,22]),(20,zK [2,3,9,10,12,13,14,15,16,17,18,22,76,77,106] [9,10,12,13,14,15,16,22]),(22,zK [2,3,9,10,12,13,14,15,16,17,18,76,77,111] [9,10,12,13,14,15,16])],
 [],[]⟩
abbrev R19:=(Int×Frac×Frac×Int)
abbrev e19 (r:R19):List PA:=[.one (.int .i64 r.1),.agg [.int .i64 r.2.1.Num,.int .i64 r.2.1.Den],.agg [.int .i64 r.2.2.1.Num,.int .i64 r.2.2.1.Den],.one (.int .i64 r.2.2.2)]
@[irreducible] def z19:=ptF Try.prog G19 zHr Try.f19
def zES (low:Int) (high:Int) (zaw:(Sl Gate)) (zaC:(Sl straight)) (zax:(Sl Gate)) (zaD:(Sl straight)) (zdk:Int) (zb6:Int) (zb7:Int) (zdA:Int) (zdB:Int):St:=⟨[(2,zI low),(3,zI high),(9,zp 9 0),(10,zp 10 0),(12,zp 12 0),(13,zp 13 0),(14,zp 14 0),(15,zp 15 0),(16,zp 16 0),(17,zI (w64 (high+(1:Int)))),(76,zI (w64 ((w64 (high - low))+(1:Int)))),(77,zI zdk)],[(9,.box 25 (zm (zah (⟨(0:Int),(0:Int)⟩:Frac)))),(10,.box 25 (zm (zah (⟨(0:Int),(0:Int)⟩:Frac)))),(12,.box 25 (zm (zah (⟨(0:Int),(0:Int)⟩:Frac)))),(13,.box 104 (zm (zbj (⟨(⟨zaw⟩:list),zaC⟩:set)))),(14,.box 104 (zm (zbj (⟨(⟨zax⟩:list),zaD⟩:set)))),(15,.box 25 (zm (zah (⟨zb6,zb7⟩:Frac)))),(16,.box 25 (zm (zah (⟨zdA,zdB⟩:Frac))))],[]⟩
abbrev zqS (K:List PA→Prop) (low:Int) (high:Int) (zaw:(Sl Gate)) (zaC:(Sl straight)) (zax:(Sl Gate)) (zaD:(Sl straight)) (X:St→Prop) (P:Int→Int→Int→Int→Int→Bool) (S:Int→Int→Int→Int→Int→(Int×Frac×Frac×Int)):Prop:=∀ ⦃zdk:Int⦄ ⦃zb6:Int⦄ ⦃zb7:Int⦄ ⦃zdA:Int⦄ ⦃zdB:Int⦄,P zdk zb6 zb7 zdA zdB=true→K (e19 (S zdk zb6 zb7 zdA zdB))→X (zES low high zaw zaC zax zaD zdk zb6 zb7 zdA zdB)
section
variable {K:List PA→Prop} {a:(Sl Gate)} {b:(Sl Gate)} {low:Int} {high:Int} {zsK:Bool} {zaw:(Sl Gate)} {zaC:(Sl straight)} {zax:(Sl Gate)} {zaD:(Sl straight)} {zy9:Nat→List PV} {zza:Nat→List PV} {zzb:Nat→List PV} {zzc:Nat→List PV} {zsL:Bool} {zsM:Bool} {zdk:Int} {zb6:Int} {zb7:Int} {zdA:Int} {zdB:Int} {X7:St→Prop} {P7:Int→Int→Int→Int→Int→Bool} {S7:Int→Int→Int→Int→Int→(Int×Frac×Frac×Int)} {iv8:Int} {zsN:Int} {zfz:Int} {zfA:Int} {zlN:Int} {zlO:Int} {zeA:Int} {zeB:Int} {zcg:Int} {zch:Int} {zMj:Int} {zkp:Int} {zkq:Int} {zvl:Int} {zvm:Int} {zdW:Int} {zlP:Int} {zgk:Int} {zgl:Int} {zlQ:Int} {zlR:Int} {zd9:Int} {zea:Int} {zbV:Int} {zbW:Int} {ze4:Int} {ziB:Int} {zhH:Bool} {zbR:Int} {zlS:Int} {zaQ:Int} {zaR:Int} {zh1:Int} {ziC:Int} {zhI:Bool} {zKw:Int} {zlT:Int} {zhJ:Bool} {zgm:Int} {zgn:Int}
def zsO (high:Int) (zMj:Int) (zkp:Int) (zkq:Int) (zvl:Int) (zvm:Int):(Int×Frac×Frac×Int) :=
  (cond (decide (zMj > high))
 ((0:Int),(⟨(0:Int),(0:Int)⟩:Frac),(⟨(0:Int),(0:Int)⟩:Frac),(5:Int))
 (zMj,(⟨zkp,zkq⟩:Frac),(⟨zvl,zvm⟩:Frac),(0:Int)))
theorem zzd (hk:K (e19 (zsO high zMj zkp zkq zvl zvm))):z19 K [1,0,1,1,1,1,1,1,1,1,1] [] ⟨[(3,zI high),(9,zp 9 0),(10,zp 10 0),(12,zp 12 0),(15,zp 15 0),(16,zp 16 0),(17,zI zMj)],[(9,.box 25 (zm (zah (⟨(0:Int),(0:Int)⟩:Frac)))),(10,.box 25 (zm (zah (⟨(0:Int),(0:Int)⟩:Frac)))),(12,.box 25 (zm (zah (⟨(0:Int),(0:Int)⟩:Frac)))),(15,.box 25 (zm (zah (⟨zkp,zkq⟩:Frac)))),(16,.box 25 (zm (zah (⟨zvl,zvm⟩:Frac))))],[]⟩:=zaI (by kernel_rfl) (zt hk (fun hk=>hk) (fun hk=>hk))
def zoC (S7:Int→Int→Int→Int→Int→(Int×Frac×Frac×Int)) (low:Int) (high:Int) (zaw:(Sl Gate)) (zaC:(Sl straight)) (zax:(Sl Gate)) (zaD:(Sl straight)) (zaQ:Int) (zaR:Int) (zKw:Int) (zlT:Int) (zhJ:Bool) (zgm:Int) (zgn:Int):(Int×Frac×Frac×Int) :=
  (cond zhJ
 (zsO high (w64 (low+zKw)) zaQ zaR zgm zgn)
 (S7 (w64 (zlT+(1:Int))) zaQ zaR zgm zgn))
def zoD (P7:Int→Int→Int→Int→Int→Bool) (low:Int) (high:Int) (zaw:(Sl Gate)) (zaC:(Sl straight)) (zax:(Sl Gate)) (zaD:(Sl straight)) (zaQ:Int) (zaR:Int) (zKw:Int) (zlT:Int) (zhJ:Bool) (zgm:Int) (zgn:Int):Bool :=
  (cond zhJ
 true
 (P7 (w64 (zlT+(1:Int))) zaQ zaR zgm zgn))
theorem zvn (hX7:zqS K low high zaw zaC zax zaD X7 P7 S7) (hs:zoD P7 low high zaw zaC zax zaD zaQ zaR zKw zlT zhJ zgm zgn=true) (hk:K (e19 (zoC S7 low high zaw zaC zax zaD zaQ zaR zKw zlT zhJ zgm zgn))):z19 K [1,0,1,1,1,1,1,1,1,1,0,1,0,0,1,1,0,0,1,1,1,1,1,1,1] [X7] ⟨[(2,zI low),(3,zI high),(9,zp 9 0),(10,zp 10 0),(12,zp 12 0),(13,zp 13 0),(14,zp 14 0),(15,zp 15 0),(16,zp 16 0),(17,zI (w64 (high+(1:Int)))),(18,zI zKw),(76,zI (w64 ((w64 (high - low))+(1:Int)))),(77,zI zlT),(111,zB zhJ)],[(9,.box 25 (zm (zah (⟨(0:Int),(0:Int)⟩:Frac)))),(10,.box 25 (zm (zah (⟨(0:Int),(0:Int)⟩:Frac)))),(12,.box 25 (zm (zah (⟨(0:Int),(0:Int)⟩:Frac)))),(13,.box 104 (zm (zbj (⟨(⟨zaw⟩:list),zaC⟩:set)))),(14,.box 104 (zm (zbj (⟨(⟨zax⟩:list),zaD⟩:set)))),(15,.box 25 (zm (zah (⟨zaQ,zaR⟩:Frac)))),(16,.box 25 (zm (zah (⟨zgm,zgn⟩:Frac))))],[]⟩:=zaI (by kernel_rfl) (zc hs hk (fun hs hk=>(zzd hk)) (fun hs hk=>(hX7 hs hk)))
def zvo (S7:Int→Int→Int→Int→Int→(Int×Frac×Frac×Int)) (low:Int) (high:Int) (zaw:(Sl Gate)) (zaC:(Sl straight)) (zax:(Sl Gate)) (zaD:(Sl straight)) (zcg:Int) (zch:Int) (zbV:Int) (zbW:Int) (zaQ:Int) (zaR:Int) (zh1:Int) (ziC:Int) (zhI:Bool):(Int×Frac×Frac×Int) :=
  (cond zhI
 (zoC S7 low high zaw zaC zax zaD zaQ zaR zh1 ziC (decide ((s69 (⟨zaQ,zaR⟩:Frac) (⟨zbV,zbW⟩:Frac))≤(0:Int))) zbV zbW)
 (zoC S7 low high zaw zaC zax zaD zaQ zaR zh1 ziC (decide ((s69 (⟨zaQ,zaR⟩:Frac) (⟨zcg,zch⟩:Frac))≤(0:Int))) zcg zch))
def zvp (P7:Int→Int→Int→Int→Int→Bool) (low:Int) (high:Int) (zaw:(Sl Gate)) (zaC:(Sl straight)) (zax:(Sl Gate)) (zaD:(Sl straight)) (zcg:Int) (zch:Int) (zbV:Int) (zbW:Int) (zaQ:Int) (zaR:Int) (zh1:Int) (ziC:Int) (zhI:Bool):Bool :=
  (cond zhI
 (zoD P7 low high zaw zaC zax zaD zaQ zaR zh1 ziC (decide ((s69 (⟨zaQ,zaR⟩:Frac) (⟨zbV,zbW⟩:Frac))≤(0:Int))) zbV zbW)
 (zoD P7 low high zaw zaC zax zaD zaQ zaR zh1 ziC (decide ((s69 (⟨zaQ,zaR⟩:Frac) (⟨zcg,zch⟩:Frac))≤(0:Int))) zcg zch))
theorem zDy (hX7:zqS K low high zaw zaC zax zaD X7 P7 S7) (hs:zvp P7 low high zaw zaC zax zaD zcg zch zbV zbW zaQ zaR zh1 ziC zhI=true) (hk:K (e19 (zvo S7 low high zaw zaC zax zaD zcg zch zbV zbW zaQ zaR zh1 ziC zhI))):z19 K [1,0,1,1,1,1,1,1,1,1,0,1,0,0,1,1,0,0,1,1,1,1,1,0,1] [X7] ⟨[(2,zI low),(3,zI high),(9,zp 9 0),(10,zp 10 0),(12,zp 12 0),(13,zp 13 0),(14,zp 14 0),(15,zp 15 0),(16,zp 16 0),(17,zI (w64 (high+(1:Int)))),(18,zI zh1),(22,zp 22 0),(76,zI (w64 ((w64 (high - low))+(1:Int)))),(77,zI ziC),(106,zB zhI)],[(9,.box 25 (zm (zah (⟨(0:Int),(0:Int)⟩:Frac)))),(10,.box 25 (zm (zah (⟨(0:Int),(0:Int)⟩:Frac)))),(12,.box 25 (zm (zah (⟨(0:Int),(0:Int)⟩:Frac)))),(13,.box 104 (zm (zbj (⟨(⟨zaw⟩:list),zaC⟩:set)))),(14,.box 104 (zm (zbj (⟨(⟨zax⟩:list),zaD⟩:set)))),(15,.box 25 (zm (zah (⟨zaQ,zaR⟩:Frac)))),(16,.box 25 (zm (zah (⟨zcg,zch⟩:Frac)))),(22,.box 25 (zm (zah (⟨zbV,zbW⟩:Frac))))],[]⟩:=zaI (by kernel_rfl) (zc hs hk (fun hs hk=>(zvn hX7 hs hk)) (fun hs hk=>(zvn hX7 hs hk)))
def zoE (S7:Int→Int→Int→Int→Int→(Int×Frac×Frac×Int)) (low:Int) (high:Int) (zaw:(Sl Gate)) (zaC:(Sl straight)) (zax:(Sl Gate)) (zaD:(Sl straight)) (zcg:Int) (zch:Int) (zbV:Int) (zbW:Int) (zbR:Int) (zlS:Int) (zaQ:Int) (zaR:Int):(Int×Frac×Frac×Int) :=
  (zvo S7 low high zaw zaC zax zaD zcg zch zbV zbW zaQ zaR zbR zlS (decide ((s69 (⟨zbV,zbW⟩:Frac) (⟨zcg,zch⟩:Frac)) < (0:Int))))
def zoF (P7:Int→Int→Int→Int→Int→Bool) (low:Int) (high:Int) (zaw:(Sl Gate)) (zaC:(Sl straight)) (zax:(Sl Gate)) (zaD:(Sl straight)) (zcg:Int) (zch:Int) (zbV:Int) (zbW:Int) (zbR:Int) (zlS:Int) (zaQ:Int) (zaR:Int):Bool :=
  (zvp P7 low high zaw zaC zax zaD zcg zch zbV zbW zaQ zaR zbR zlS (decide ((s69 (⟨zbV,zbW⟩:Frac) (⟨zcg,zch⟩:Frac)) < (0:Int))))
theorem zvq (hX7:zqS K low high zaw zaC zax zaD X7 P7 S7) (hs:zoF P7 low high zaw zaC zax zaD zcg zch zbV zbW zbR zlS zaQ zaR=true) (hk:K (e19 (zoE S7 low high zaw zaC zax zaD zcg zch zbV zbW zbR zlS zaQ zaR))):z19 K [1,0,1,1,1,1,1,1,1,1,0,1,0,0,1,1,0,0,1,1,1,1,1] [X7] ⟨[(2,zI low),(3,zI high),(9,zp 9 0),(10,zp 10 0),(12,zp 12 0),(13,zp 13 0),(14,zp 14 0),(15,zp 15 0),(16,zp 16 0),(17,zI (w64 (high+(1:Int)))),(18,zI zbR),(20,zp 20 0),(22,zp 22 0),(76,zI (w64 ((w64 (high - low))+(1:Int)))),(77,zI zlS)],[(9,.box 25 (zm (zah (⟨(0:Int),(0:Int)⟩:Frac)))),(10,.box 25 (zm (zah (⟨(0:Int),(0:Int)⟩:Frac)))),(12,.box 25 (zm (zah (⟨(0:Int),(0:Int)⟩:Frac)))),(13,.box 104 (zm (zbj (⟨(⟨zaw⟩:list),zaC⟩:set)))),(14,.box 104 (zm (zbj (⟨(⟨zax⟩:list),zaD⟩:set)))),(15,.box 25 (zm (zah (⟨zaQ,zaR⟩:Frac)))),(16,.box 25 (zm (zah (⟨zcg,zch⟩:Frac)))),(20,.box 25 (zm (zah (⟨zcg,zch⟩:Frac)))),(22,.box 25 (zm (zah (⟨zbV,zbW⟩:Frac))))],[]⟩:=zaI (by kernel_rfl) (zDy hX7 hs hk)
def zvr (S7:Int→Int→Int→Int→Int→(Int×Frac×Frac×Int)) (low:Int) (high:Int) (zaw:(Sl Gate)) (zaC:(Sl straight)) (zax:(Sl Gate)) (zaD:(Sl straight)) (zeA:Int) (zeB:Int) (zcg:Int) (zch:Int) (zd9:Int) (zea:Int) (zbV:Int) (zbW:Int) (ze4:Int) (ziB:Int) (zhH:Bool):(Int×Frac×Frac×Int) :=
  (cond zhH
 (zoE S7 low high zaw zaC zax zaD zcg zch zbV zbW ze4 ziB zd9 zea)
 (zoE S7 low high zaw zaC zax zaD zcg zch zbV zbW ze4 ziB zeA zeB))
def zvs (P7:Int→Int→Int→Int→Int→Bool) (low:Int) (high:Int) (zaw:(Sl Gate)) (zaC:(Sl straight)) (zax:(Sl Gate)) (zaD:(Sl straight)) (zeA:Int) (zeB:Int) (zcg:Int) (zch:Int) (zd9:Int) (zea:Int) (zbV:Int) (zbW:Int) (ze4:Int) (ziB:Int) (zhH:Bool):Bool :=
  (cond zhH
 (zoF P7 low high zaw zaC zax zaD zcg zch zbV zbW ze4 ziB zd9 zea)
 (zoF P7 low high zaw zaC zax zaD zcg zch zbV zbW ze4 ziB zeA zeB))
theorem zDz (hX7:zqS K low high zaw zaC zax zaD X7 P7 S7) (hs:zvs P7 low high zaw zaC zax zaD zeA zeB zcg zch zd9 zea zbV zbW ze4 ziB zhH=true) (hk:K (e19 (zvr S7 low high zaw zaC zax zaD zeA zeB zcg zch zd9 zea zbV zbW ze4 ziB zhH))):z19 K [1,0,1,1,1,1,1,1,1,1,0,1,0,0,1,1,0,0,1,1,1,1,0,1] [X7] ⟨[(2,zI low),(3,zI high),(9,zp 9 0),(10,zp 10 0),(12,zp 12 0),(13,zp 13 0),(14,zp 14 0),(15,zp 15 0),(16,zp 16 0),(17,zI (w64 (high+(1:Int)))),(18,zI ze4),(20,zp 20 0),(21,zp 21 0),(22,zp 22 0),(76,zI (w64 ((w64 (high - low))+(1:Int)))),(77,zI ziB),(101,zB zhH)],[(9,.box 25 (zm (zah (⟨(0:Int),(0:Int)⟩:Frac)))),(10,.box 25 (zm (zah (⟨(0:Int),(0:Int)⟩:Frac)))),(12,.box 25 (zm (zah (⟨(0:Int),(0:Int)⟩:Frac)))),(13,.box 104 (zm (zbj (⟨(⟨zaw⟩:list),zaC⟩:set)))),(14,.box 104 (zm (zbj (⟨(⟨zax⟩:list),zaD⟩:set)))),(15,.box 25 (zm (zah (⟨zeA,zeB⟩:Frac)))),(16,.box 25 (zm (zah (⟨zcg,zch⟩:Frac)))),(20,.box 25 (zm (zah (⟨zcg,zch⟩:Frac)))),(21,.box 25 (zm (zah (⟨zd9,zea⟩:Frac)))),(22,.box 25 (zm (zah (⟨zbV,zbW⟩:Frac))))],[]⟩:=zaI (by kernel_rfl) (zc hs hk (fun hs hk=>(zvq hX7 hs hk)) (fun hs hk=>(zvq hX7 hs hk)))
def zvt (S7:Int→Int→Int→Int→Int→(Int×Frac×Frac×Int)) (low:Int) (high:Int) (zaw:(Sl Gate)) (zaC:(Sl straight)) (zax:(Sl Gate)) (zaD:(Sl straight)) (zeA:Int) (zeB:Int) (zcg:Int) (zch:Int) (zdW:Int) (zlP:Int) (zgk:Int) (zgl:Int) (zlQ:Int) (zlR:Int) (zd9:Int) (zea:Int) (zbV:Int) (zbW:Int):(Int×Frac×Frac×Int) :=
  (zvr S7 low high zaw zaC zax zaD zeA zeB zcg zch zd9 zea zbV zbW zdW zlP (decide ((s69 (⟨zd9,zea⟩:Frac) (⟨zeA,zeB⟩:Frac)) > (0:Int))))
def zvu (P7:Int→Int→Int→Int→Int→Bool) (low:Int) (high:Int) (zaw:(Sl Gate)) (zaC:(Sl straight)) (zax:(Sl Gate)) (zaD:(Sl straight)) (zeA:Int) (zeB:Int) (zcg:Int) (zch:Int) (zdW:Int) (zlP:Int) (zgk:Int) (zgl:Int) (zlQ:Int) (zlR:Int) (zd9:Int) (zea:Int) (zbV:Int) (zbW:Int):Bool :=
  (zvs P7 low high zaw zaC zax zaD zeA zeB zcg zch zd9 zea zbV zbW zdW zlP (decide ((s69 (⟨zd9,zea⟩:Frac) (⟨zeA,zeB⟩:Frac)) > (0:Int))))
theorem zDA (hX7:zqS K low high zaw zaC zax zaD X7 P7 S7) (hs:zvu P7 low high zaw zaC zax zaD zeA zeB zcg zch zdW zlP zgk zgl zlQ zlR zd9 zea zbV zbW=true) (hk:K (e19 (zvt S7 low high zaw zaC zax zaD zeA zeB zcg zch zdW zlP zgk zgl zlQ zlR zd9 zea zbV zbW))):z19 K [1,0,1,1,1,1,1,1,1,1,0,1,0,0,1,1,0,0,1,1,1] [X7] ⟨[(2,zI low),(3,zI high),(9,zp 9 0),(10,zp 10 0),(12,zp 12 0),(13,zp 13 0),(14,zp 14 0),(15,zp 15 0),(16,zp 16 0),(17,zI (w64 (high+(1:Int)))),(18,zI zdW),(19,zp 19 0),(20,zp 20 0),(21,zp 21 0),(22,zp 22 0),(76,zI (w64 ((w64 (high - low))+(1:Int)))),(77,zI zlP)],[(9,.box 25 (zm (zah (⟨(0:Int),(0:Int)⟩:Frac)))),(10,.box 25 (zm (zah (⟨(0:Int),(0:Int)⟩:Frac)))),(12,.box 25 (zm (zah (⟨(0:Int),(0:Int)⟩:Frac)))),(13,.box 104 (zm (zbj (⟨(⟨zaw⟩:list),zaC⟩:set)))),(14,.box 104 (zm (zbj (⟨(⟨zax⟩:list),zaD⟩:set)))),(15,.box 25 (zm (zah (⟨zgk,zgl⟩:Frac)))),(16,.box 25 (zm (zah (⟨zlQ,zlR⟩:Frac)))),(19,.box 25 (zm (zah (⟨zeA,zeB⟩:Frac)))),(20,.box 25 (zm (zah (⟨zcg,zch⟩:Frac)))),(21,.box 25 (zm (zah (⟨zd9,zea⟩:Frac)))),(22,.box 25 (zm (zah (⟨zbV,zbW⟩:Frac))))],[]⟩:=zaI (by kernel_rfl) (zDz hX7 hs hk)
def zze (S7:Int→Int→Int→Int→Int→(Int×Frac×Frac×Int)) (low:Int) (high:Int) (zaw:(Sl Gate)) (zaC:(Sl straight)) (zax:(Sl Gate)) (zaD:(Sl straight)) (iv8:Int) (zsN:Int) (zfz:Int) (zfA:Int) (zlN:Int) (zlO:Int) (zeA:Int) (zeB:Int) (zcg:Int) (zch:Int):(Int×Frac×Frac×Int) :=
  (zvt S7 low high zaw zaC zax zaD zeA zeB zcg zch iv8 zsN zfz zfA zlN zlO (((s68 (⟨(⟨zax⟩:list),zaD⟩:set) (w64 (low+iv8))).1).Num) (((s68 (⟨(⟨zax⟩:list),zaD⟩:set) (w64 (low+iv8))).1).Den) (((s68 (⟨(⟨zax⟩:list),zaD⟩:set) (w64 (low+iv8))).2).Num) (((s68 (⟨(⟨zax⟩:list),zaD⟩:set) (w64 (low+iv8))).2).Den))
def zzf (P7:Int→Int→Int→Int→Int→Bool) (low:Int) (high:Int) (zaw:(Sl Gate)) (zaC:(Sl straight)) (zax:(Sl Gate)) (zaD:(Sl straight)) (iv8:Int) (zsN:Int) (zfz:Int) (zfA:Int) (zlN:Int) (zlO:Int) (zeA:Int) (zeB:Int) (zcg:Int) (zch:Int):Bool :=
  (decide ((p68 (⟨(⟨zax⟩:list),zaD⟩:set) (w64 (low+iv8))=true)) &&
 (zvu P7 low high zaw zaC zax zaD zeA zeB zcg zch iv8 zsN zfz zfA zlN zlO (((s68 (⟨(⟨zax⟩:list),zaD⟩:set) (w64 (low+iv8))).1).Num) (((s68 (⟨(⟨zax⟩:list),zaD⟩:set) (w64 (low+iv8))).1).Den) (((s68 (⟨(⟨zax⟩:list),zaD⟩:set) (w64 (low+iv8))).2).Num) (((s68 (⟨(⟨zax⟩:list),zaD⟩:set) (w64 (low+iv8))).2).Den)))
theorem zHs (hX7:zqS K low high zaw zaC zax zaD X7 P7 S7) (hs:zzf P7 low high zaw zaC zax zaD iv8 zsN zfz zfA zlN zlO zeA zeB zcg zch=true) (hk:K (e19 (zze S7 low high zaw zaC zax zaD iv8 zsN zfz zfA zlN zlO zeA zeB zcg zch))):z19 K [1,0,1,1,1,1,1,1,1,1,0,1,0,0,1,1,0,0,1,1] [X7] ⟨[(2,zI low),(3,zI high),(9,zp 9 0),(10,zp 10 0),(12,zp 12 0),(13,zp 13 0),(14,zp 14 0),(15,zp 15 0),(16,zp 16 0),(17,zI (w64 (high+(1:Int)))),(18,zI iv8),(19,zp 19 0),(20,zp 20 0),(76,zI (w64 ((w64 (high - low))+(1:Int)))),(77,zI zsN)],[(9,.box 25 (zm (zah (⟨(0:Int),(0:Int)⟩:Frac)))),(10,.box 25 (zm (zah (⟨(0:Int),(0:Int)⟩:Frac)))),(12,.box 25 (zm (zah (⟨(0:Int),(0:Int)⟩:Frac)))),(13,.box 104 (zm (zbj (⟨(⟨zaw⟩:list),zaC⟩:set)))),(14,.box 104 (zm (zbj (⟨(⟨zax⟩:list),zaD⟩:set)))),(15,.box 25 (zm (zah (⟨zfz,zfA⟩:Frac)))),(16,.box 25 (zm (zah (⟨zlN,zlO⟩:Frac)))),(19,.box 25 (zm (zah (⟨zeA,zeB⟩:Frac)))),(20,.box 25 (zm (zah (⟨zcg,zch⟩:Frac))))],[]⟩:=zaI (by kernel_rfl) (zaE hs fun hc hs=>And.intro (And.intro (zE enc_55 3 zax.get) (And.intro (zE zak 3 zaD.get) hc)) (zDA hX7 hs hk))
def zzg (low:Int) (high:Int) (zaw:(Sl Gate)) (zaC:(Sl straight)) (zax:(Sl Gate)) (zaD:(Sl straight)) (S7:Int→Int→Int→Int→Int→(Int×Frac×Frac×Int)) (zdk:Int) (zb6:Int) (zb7:Int) (zdA:Int) (zdB:Int):(Int×Frac×Frac×Int) :=
  (cond (decide (zdk < (w64 ((w64 (high - low)) + (1:Int)))))
 (zze S7 low high zaw zaC zax zaD zdk zdk zb6 zb7 zdA zdB (((s68 (⟨(⟨zaw⟩:list),zaC⟩:set) (w64 (low+zdk))).1).Num) (((s68 (⟨(⟨zaw⟩:list),zaC⟩:set) (w64 (low+zdk))).1).Den) (((s68 (⟨(⟨zaw⟩:list),zaC⟩:set) (w64 (low+zdk))).2).Num) (((s68 (⟨(⟨zaw⟩:list),zaC⟩:set) (w64 (low+zdk))).2).Den))
 (zsO high (w64 (high+(1:Int))) zb6 zb7 zdA zdB))
def zzh (low:Int) (high:Int) (zaw:(Sl Gate)) (zaC:(Sl straight)) (zax:(Sl Gate)) (zaD:(Sl straight)) (P7:Int→Int→Int→Int→Int→Bool) (zdk:Int) (zb6:Int) (zb7:Int) (zdA:Int) (zdB:Int):Bool :=
  (cond (decide (zdk < (w64 ((w64 (high - low)) + (1:Int)))))
 (decide ((p68 (⟨(⟨zaw⟩:list),zaC⟩:set) (w64 (low+zdk))=true)) &&
 (zzf P7 low high zaw zaC zax zaD zdk zdk zb6 zb7 zdA zdB (((s68 (⟨(⟨zaw⟩:list),zaC⟩:set) (w64 (low+zdk))).1).Num) (((s68 (⟨(⟨zaw⟩:list),zaC⟩:set) (w64 (low+zdk))).1).Den) (((s68 (⟨(⟨zaw⟩:list),zaC⟩:set) (w64 (low+zdk))).2).Num) (((s68 (⟨(⟨zaw⟩:list),zaC⟩:set) (w64 (low+zdk))).2).Den)))
 true)
def zzi (low:Int) (high:Int) (zaw:(Sl Gate)) (zaC:(Sl straight)) (zax:(Sl Gate)) (zaD:(Sl straight)):Nat→Int→Int→Int→Int→Int→(Int×Frac×Frac×Int):=lpO (fun _ _ _ _ _=>default) (zzg low high zaw zaC zax zaD)
def zzj (low:Int) (high:Int) (zaw:(Sl Gate)) (zaC:(Sl straight)) (zax:(Sl Gate)) (zaD:(Sl straight)):Nat→Int→Int→Int→Int→Int→Bool:=lpO (fun _ _ _ _ _=>false) (zzh low high zaw zaC zax zaD)
def zzk (low:Int) (high:Int) (zaw:(Sl Gate)) (zaC:(Sl straight)) (zax:(Sl Gate)) (zaD:(Sl straight)) (zdk:Int) (zb6:Int) (zb7:Int) (zdA:Int) (zdB:Int):(Int×Frac×Frac×Int):=zzi low high zaw zaC zax zaD Fuel zdk zb6 zb7 zdA zdB
def zzl (low:Int) (high:Int) (zaw:(Sl Gate)) (zaC:(Sl straight)) (zax:(Sl Gate)) (zaD:(Sl straight)) (zdk:Int) (zb6:Int) (zb7:Int) (zdA:Int) (zdB:Int):Bool:=zzj low high zaw zaC zax zaD Fuel zdk zb6 zb7 zdA zdB
theorem zHt (hs:zzl low high zaw zaC zax zaD zdk zb6 zb7 zdA zdB=true) (hk:K (e19 (zzk low high zaw zaC zax zaD zdk zb6 zb7 zdA zdB))):z19 K [1,0,1,1,1,1,1,1,1,1,0,1,0] [] (zES low high zaw zaC zax zaD zdk zb6 zb7 zdA zdB) :=
  zl (fun X=>z19 K [1,0,1,1,1,1,1,1,1,1,0,1,0,0] [X]) (by kernel_rfl) fun X7 hX =>
  (show ∀ k, zqS K low high zaw zaC zax zaD X7 (zzj low high zaw zaC zax zaD k) (zzi low high zaw zaC zax zaD k) from zfT _ _ (zzh low high zaw zaC zax zaD) (zzg low high zaw zaC zax zaD) (zqS K low high zaw zaC zax zaD X7)
 (by intro _ _ _ _ _ hs;exact absurd hs Bool.false_ne_true)
 (by intro P7 S7 hX7 zdk zb6 zb7 zdA zdB hs hk;exact hX _ (zaI (by kernel_rfl) (zc hs hk (fun hs hk=>(zaE hs fun hc hs=>And.intro (And.intro (zE enc_55 3 zaw.get) (And.intro (zE zak 3 zaC.get) hc)) (zHs hX7 hs hk))) (fun hs hk=>(zzd hk)))))) _ hs hk
def zzm (low:Int) (high:Int) (zaw:(Sl Gate)) (zaC:(Sl straight)) (zax:(Sl Gate)) (zaD:(Sl straight)):(Int×Frac×Frac×Int) :=
  (zzk low high zaw zaC zax zaD (0:Int) (0:Int) (0:Int) (0:Int) (0:Int))
def zzn (low:Int) (high:Int) (zaw:(Sl Gate)) (zaC:(Sl straight)) (zax:(Sl Gate)) (zaD:(Sl straight)):Bool :=
  (zzl low high zaw zaC zax zaD (0:Int) (0:Int) (0:Int) (0:Int) (0:Int))
theorem zHu (hs:zzn low high zaw zaC zax zaD=true) (hk:K (e19 (zzm low high zaw zaC zax zaD))):z19 K [1,0,1,1,1,1,1] [] ⟨[(2,zI low),(3,zI high),(9,zp 9 0),(10,zp 10 0),(12,zp 12 0),(13,zp 13 0),(14,zp 14 0)],[(9,.box 25 (zm (zah (⟨(0:Int),(0:Int)⟩:Frac)))),(10,.box 25 (zm (zah (⟨(0:Int),(0:Int)⟩:Frac)))),(12,.box 25 (zm (zah (⟨(0:Int),(0:Int)⟩:Frac)))),(13,.box 104 (zm (zbj (⟨(⟨zaw⟩:list),zaC⟩:set)))),(14,.box 104 (zm (zbj (⟨(⟨zax⟩:list),zaD⟩:set))))],[]⟩:=zaI (by kernel_rfl) (zHt hs hk)
def zsP (low:Int) (high:Int) (zaw:(Sl Gate)) (zaC:(Sl straight)) (zax:(Sl Gate)) (zaD:(Sl straight)) (zsM:Bool):(Int×Frac×Frac×Int) :=
  (cond zsM
 ((0:Int),(⟨(0:Int),(0:Int)⟩:Frac),(⟨(0:Int),(0:Int)⟩:Frac),(6:Int))
 (zzm low high zaw zaC zax zaD))
def zsQ (low:Int) (high:Int) (zaw:(Sl Gate)) (zaC:(Sl straight)) (zax:(Sl Gate)) (zaD:(Sl straight)) (zsM:Bool):Bool :=
  (cond zsM
 true
 (zzn low high zaw zaC zax zaD))
theorem zzo (hs:zsQ low high zaw zaC zax zaD zsM=true) (hk:K (e19 (zsP low high zaw zaC zax zaD zsM))):z19 K [1,0,1,1,1,1,0,1] [] ⟨[(2,zI low),(3,zI high),(9,zp 9 0),(10,zp 10 0),(12,zp 12 0),(13,zp 13 0),(14,zp 14 0),(68,zB zsM)],[(9,.box 25 (zm (zah (⟨(0:Int),(0:Int)⟩:Frac)))),(10,.box 25 (zm (zah (⟨(0:Int),(0:Int)⟩:Frac)))),(12,.box 25 (zm (zah (⟨(0:Int),(0:Int)⟩:Frac)))),(13,.box 104 (zm (zbj (⟨(⟨zaw⟩:list),zaC⟩:set)))),(14,.box 104 (zm (zbj (⟨(⟨zax⟩:list),zaD⟩:set))))],[]⟩:=zaI (by kernel_rfl) (zc hs hk (fun hs hk=>hk) (fun hs hk=>(zHu hs hk)))
def zzp (low:Int) (high:Int) (zaw:(Sl Gate)) (zaC:(Sl straight)) (zax:(Sl Gate)) (zaD:(Sl straight)):(Int×Frac×Frac×Int) :=
  (cond (s67 (⟨zaw⟩ : list))
 (zsP low high zaw zaC zax zaD true)
 (zsP low high zaw zaC zax zaD (s67 (⟨zax⟩:list))))
def zzq (low:Int) (high:Int) (zaw:(Sl Gate)) (zaC:(Sl straight)) (zax:(Sl Gate)) (zaD:(Sl straight)):Bool :=
  (decide ((p67 (⟨zaw⟩:list)=true)) &&
 (cond (s67 (⟨zaw⟩ : list))
 (zsQ low high zaw zaC zax zaD true)
 (decide ((p67 (⟨zax⟩:list)=true)) &&
 (zsQ low high zaw zaC zax zaD (s67 (⟨zax⟩:list))))))
theorem zHv (hs:zzq low high zaw zaC zax zaD=true) (hk:K (e19 (zzp low high zaw zaC zax zaD))):z19 K [1,0,1,1,1,1] [] ⟨[(2,zI low),(3,zI high),(9,zp 9 0),(10,zp 10 0),(12,zp 12 0),(13,zp 13 0),(14,zp 14 0)],[(9,.box 25 (zm (zah (⟨(0:Int),(0:Int)⟩:Frac)))),(10,.box 25 (zm (zah (⟨(0:Int),(0:Int)⟩:Frac)))),(12,.box 25 (zm (zah (⟨(0:Int),(0:Int)⟩:Frac)))),(13,.box 104 (zm (zbj (⟨(⟨zaw⟩:list),zaC⟩:set)))),(14,.box 104 (zm (zbj (⟨(⟨zax⟩:list),zaD⟩:set))))],[]⟩:=zaI (by kernel_rfl) (zaE hs fun hc hs=>And.intro (And.intro (zE enc_55 3 zaw.get) hc) (zc hs hk (fun hs hk=>(zzo hs hk)) (fun hs hk=>(zaE hs fun hc hs=>And.intro (And.intro (zE enc_55 3 zax.get) hc) (zzo hs hk)))))
def zsR (low:Int) (high:Int) (zaw:(Sl Gate)) (zaC:(Sl straight)) (zax:(Sl Gate)) (zaD:(Sl straight)) (zsL:Bool):(Int×Frac×Frac×Int) :=
  (cond zsL
 ((0:Int),(⟨(0:Int),(0:Int)⟩:Frac),(⟨(0:Int),(0:Int)⟩:Frac),(5:Int))
 (zzp low high zaw zaC zax zaD))
def zsU (low:Int) (high:Int) (zaw:(Sl Gate)) (zaC:(Sl straight)) (zax:(Sl Gate)) (zaD:(Sl straight)) (zsL:Bool):Bool :=
  (cond zsL
 true
 (zzq low high zaw zaC zax zaD))
theorem zzr (hs:zsU low high zaw zaC zax zaD zsL=true) (hk:K (e19 (zsR low high zaw zaC zax zaD zsL))):z19 K [1,0,1,1,1,0,1] [] ⟨[(2,zI low),(3,zI high),(9,zp 9 0),(10,zp 10 0),(12,zp 12 0),(13,zp 13 0),(14,zp 14 0),(58,zB zsL)],[(9,.box 25 (zm (zah (⟨(0:Int),(0:Int)⟩:Frac)))),(10,.box 25 (zm (zah (⟨(0:Int),(0:Int)⟩:Frac)))),(12,.box 25 (zm (zah (⟨(0:Int),(0:Int)⟩:Frac)))),(13,.box 104 (zm (zbj (⟨(⟨zaw⟩:list),zaC⟩:set)))),(14,.box 104 (zm (zbj (⟨(⟨zax⟩:list),zaD⟩:set))))],[]⟩:=zaI (by kernel_rfl) (zc hs hk (fun hs hk=>hk) (fun hs hk=>(zHv hs hk)))
def zzs (low:Int) (high:Int) (zaw:(Sl Gate)) (zaC:(Sl straight)) (zax:(Sl Gate)) (zaD:(Sl straight)):(Int×Frac×Frac×Int) :=
  (cond (!(s66 (⟨(⟨zaw⟩ : list), zaC⟩ : set)))
 (zsR low high zaw zaC zax zaD true)
 (zsR low high zaw zaC zax zaD (!(s66 (⟨(⟨zax⟩:list),zaD⟩:set)))))
def zzt (low:Int) (high:Int) (zaw:(Sl Gate)) (zaC:(Sl straight)) (zax:(Sl Gate)) (zaD:(Sl straight)):Bool :=
  (decide ((p66 (⟨(⟨zaw⟩:list),zaC⟩:set)=true)) &&
 (cond (!(s66 (⟨(⟨zaw⟩ : list), zaC⟩ : set)))
 (zsU low high zaw zaC zax zaD true)
 (decide ((p66 (⟨(⟨zax⟩:list),zaD⟩:set)=true)) &&
 (zsU low high zaw zaC zax zaD (!(s66 (⟨(⟨zax⟩:list),zaD⟩:set)))))))
theorem zHw (hs:zzt low high zaw zaC zax zaD=true) (hk:K (e19 (zzs low high zaw zaC zax zaD))) (zHx:zy9=zg enc_55 zaw) (zHy:zza=zg zak zaC) (zHz:zzb=zg enc_55 zax) (zHA:zzc=zg zak zaD):z19 K [1,0,1,1,1] [] ⟨[(2,zI low),(3,zI high),(9,zp 9 0),(10,zp 10 0),(12,zp 12 0),(13,zp 13 0),(14,zp 14 0)],[(9,.box 25 (zm (zah (⟨(0:Int),(0:Int)⟩:Frac)))),(10,.box 25 (zm (zah (⟨(0:Int),(0:Int)⟩:Frac)))),(12,.box 25 (zm (zah (⟨(0:Int),(0:Int)⟩:Frac)))),(13,.box 104 [.p (.sl zaw.len 3 zy9),.p (.sl zaC.len 3 zza)]),(14,.box 104 [.p (.sl zax.len 3 zzb),.p (.sl zaD.len 3 zzc)])],[]⟩:=by subst zHx;subst zHy;subst zHz;subst zHA;exact zaI (by kernel_rfl) (zaE hs fun hc hs=>And.intro (And.intro (zE enc_55 3 zaw.get) (And.intro (zE zak 3 zaC.get) hc)) (zc hs hk (fun hs hk=>(zzr hs hk)) (fun hs hk=>(zaE hs fun hc hs=>And.intro (And.intro (zE enc_55 3 zax.get) (And.intro (zE zak 3 zaD.get) hc)) (zzr hs hk)))))
def zzu (a:(Sl Gate)) (b:(Sl Gate)) (low:Int) (high:Int):(Int×Frac×Frac×Int) :=
  (zzs low high ((s65 a).list.Gates) ((s65 a).corners) ((s65 b).list.Gates) ((s65 b).corners))
def zzv (a:(Sl Gate)) (b:(Sl Gate)) (low:Int) (high:Int):Bool :=
  (decide ((p65 a=true)) &&
 (decide ((p65 b=true)) &&
 (zzt low high ((s65 a).list.Gates) ((s65 a).corners) ((s65 b).list.Gates) ((s65 b).corners))))
theorem zHB (hs:zzv a b low high=true) (hk:K (e19 (zzu a b low high))):z19 K [1,0,1,1] [] ⟨[(0,zS enc_55 3 a),(1,zS enc_55 3 b),(2,zI low),(3,zI high),(9,zp 9 0),(10,zp 10 0),(12,zp 12 0)],[(9,.box 25 (zm (zah (⟨(0:Int),(0:Int)⟩:Frac)))),(10,.box 25 (zm (zah (⟨(0:Int),(0:Int)⟩:Frac)))),(12,.box 25 (zm (zah (⟨(0:Int),(0:Int)⟩:Frac))))],[]⟩:=zaI (by kernel_rfl) (zaE hs fun hc hs=>And.intro (And.intro (zE enc_55 3 a.get) hc) (zaE hs fun hc hs=>And.intro (And.intro (zE enc_55 3 b.get) hc) (zHw hs hk rfl rfl rfl rfl)))
def zjr (a:(Sl Gate)) (b:(Sl Gate)) (low:Int) (high:Int) (zsK:Bool):(Int×Frac×Frac×Int) :=
  (cond zsK
 ((0:Int),(⟨(0:Int),(0:Int)⟩:Frac),(⟨(0:Int),(0:Int)⟩:Frac),(2:Int))
 (zzu a b low high))
def zjs (a:(Sl Gate)) (b:(Sl Gate)) (low:Int) (high:Int) (zsK:Bool):Bool :=
  (cond zsK
 true
 (zzv a b low high))
theorem zlU (hs:zjs a b low high zsK=true) (hk:K (e19 (zjr a b low high zsK))):z19 K [1,0,1,0,1] [] ⟨[(0,zS enc_55 3 a),(1,zS enc_55 3 b),(2,zI low),(3,zI high),(9,zp 9 0),(10,zp 10 0),(12,zp 12 0),(44,zB zsK)],[(9,.box 25 (zm (zah (⟨(0:Int),(0:Int)⟩:Frac)))),(10,.box 25 (zm (zah (⟨(0:Int),(0:Int)⟩:Frac)))),(12,.box 25 (zm (zah (⟨(0:Int),(0:Int)⟩:Frac))))],[]⟩:=zaI (by kernel_rfl) (zc hs hk (fun hs hk=>hk) (fun hs hk=>(zHB hs hk)))
def s19 (a:(Sl Gate)) (b:(Sl Gate)) (low:Int) (high:Int):(Int×Frac×Frac×Int) :=
  (cond (decide (low < (-100000:Int)))
 (zjr a b low high true)
 (cond (decide (low > high))
 (zjr a b low high true)
 (cond (decide (high > (200000:Int)))
 (zjr a b low high true)
 (cond (!(s64 a))
 (zjr a b low high true)
 (zjr a b low high (!(s64 b)))))))
def p19 (a:(Sl Gate)) (b:(Sl Gate)) (low:Int) (high:Int):Bool :=
  (cond (decide (low < (-100000:Int)))
 (zjs a b low high true)
 (cond (decide (low > high))
 (zjs a b low high true)
 (cond (decide (high > (200000:Int)))
 (zjs a b low high true)
 (decide ((p64 a=true)) &&
 (cond (!(s64 a))
 (zjs a b low high true)
 (decide ((p64 b=true)) &&
 (zjs a b low high (!(s64 b)))))))))
end
theorem q19 (a:(Sl Gate)) (b:(Sl Gate)) (low:Int) (high:Int) (K:List PA→Prop) (hs:p19 a b low high=true) (hk:K (e19 (s19 a b low high))):vcFun Try.prog G19 zHr 19 [.one (.sl a.len 3 (fun i=>enc_55 (a.get i))),.one (.sl b.len 3 (fun i=>enc_55 (b.get i))),.one (.int .i64 low),.one (.int .i64 high)] K :=
  zaI (by kernel_rfl) (zc hs hk (fun hs hk=>(zlU hs hk)) (fun hs hk=>(zc hs hk (fun hs hk=>(zlU hs hk)) (fun hs hk=>(zc hs hk (fun hs hk=>(zlU hs hk)) (fun hs hk=>(zaE hs fun hc hs=>And.intro (And.intro (zE enc_55 3 a.get) hc) (zc hs hk (fun hs hk=>(zlU hs hk)) (fun hs hk=>(zaE hs fun hc hs=>And.intro (And.intro (zE enc_55 3 b.get) hc) (zlU hs hk)))))))))))
def zHC : List PA → COut
  | [.one (.sl a0_n a0_s a0_g),.one (.sl a1_n a1_s a1_g),.one (.int .i64 a2),.one (.int .i64 a3)]=>.det (IsE enc_55 3 a0_s a0_g∧IsE enc_55 3 a1_s a1_g∧p19 (⟨a0_n,zaf a0_g⟩:(Sl Gate)) (⟨a1_n,zaf a1_g⟩:(Sl Gate)) a2 a3=true) [.one (.int .i64 ((s19 (⟨a0_n,zaf a0_g⟩:(Sl Gate)) (⟨a1_n,zaf a1_g⟩:(Sl Gate)) a2 a3).1)),.agg [.int .i64 (((s19 (⟨a0_n,zaf a0_g⟩:(Sl Gate)) (⟨a1_n,zaf a1_g⟩:(Sl Gate)) a2 a3).2.1).Num),.int .i64 (((s19 (⟨a0_n,zaf a0_g⟩:(Sl Gate)) (⟨a1_n,zaf a1_g⟩:(Sl Gate)) a2 a3).2.1).Den)],.agg [.int .i64 (((s19 (⟨a0_n,zaf a0_g⟩:(Sl Gate)) (⟨a1_n,zaf a1_g⟩:(Sl Gate)) a2 a3).2.2.1).Num),.int .i64 (((s19 (⟨a0_n,zaf a0_g⟩:(Sl Gate)) (⟨a1_n,zaf a1_g⟩:(Sl Gate)) a2 a3).2.2.1).Den)],.one (.int .i64 ((s19 (⟨a0_n,zaf a0_g⟩:(Sl Gate)) (⟨a1_n,zaf a1_g⟩:(Sl Gate)) a2 a3).2.2.2))]
  | _=>.no
theorem zMk:zaj Try.prog 19:=⟨_,rfl,rfl,by kernel_rfl⟩
theorem zR9:Ok Try.prog 19 zHC:=zaP zPu zMk fun args K h=>by
  unfold zHC at h
  split at h
  · rename_i a0_n a0_s a0_g a1_n a1_s a1_g a2 a3
    obtain ⟨⟨⟨rfl,a0_f,rfl⟩,⟨rfl,a1_f,rfl⟩,hs⟩,hk⟩:=h
    try rw [zae a0_f] at hs
    try rw [zae a0_f] at hk
    try rw [zae a1_f] at hs
    try rw [zae a1_f] at hk
    exact ⟨(fun _ _=>[]),(fun _=>false),zHr,q19 (⟨a0_n,a0_f⟩:(Sl Gate)) (⟨a1_n,a1_f⟩:(Sl Gate)) a2 a3 K hs hk⟩
  · exact h.elim
abbrev T76:Tabs:=Tabs.nil
theorem zPv:TabsOk Try.prog T76:=TabsOk.nil
abbrev G76:Ctrs:=csm T76 (fun _ _=>[]) (fun _=>false)
def zMl:Ann:=⟨11,[(0,zK [1,2] [2]),(1,zK [3] [])],
 [],
 [],
 [],[]⟩
abbrev R76:=Bool
abbrev e76 (r:R76):List PA:=[.one (.bool r)]
section
variable {K:List PA→Prop} {c0:Int} {l_a0:list}
def s76 (c0:Int) (l_a0:list):Bool :=
  ((l_a0.Gates.get 0).Z == c0)
def p76 (c0:Int) (l_a0:list):Bool :=
  (decide ((0≤(0:Int)∧(0:Int) < (l_a0.Gates.len:Int))) &&
 true)
end
theorem q76 (c0:Int) (l_a0:list) (K:List PA→Prop) (hs:p76 c0 l_a0=true) (hk:K (e76 (s76 c0 l_a0))):vcFun Try.prog G76 zMl 76 [.agg (zcL l_a0),.one (.fp (zal c0) 0)] K :=
  zaI (by kernel_rfl) (zaE hs fun hc hs=>And.intro hc hk)
def zHD : List PA → COut
  | [.agg [.sl a0_Gates_n a0_Gates_s a0_Gates_g],.one (.fp [.int .i64 c0] 0)]=>.det (IsE enc_55 3 a0_Gates_s a0_Gates_g∧p76 c0 (⟨(⟨a0_Gates_n,zaf a0_Gates_g⟩:(Sl Gate))⟩:list)=true) [.one (.bool (s76 c0 (⟨(⟨a0_Gates_n,zaf a0_Gates_g⟩:(Sl Gate))⟩:list)))]
  | _=>.no
theorem zMm:zaj Try.prog 76:=⟨_,rfl,rfl,by kernel_rfl⟩
theorem zSa:Ok Try.prog 76 zHD:=zaP zPv zMm fun args K h=>by
  unfold zHD at h
  split at h
  · rename_i a0_Gates_n a0_Gates_s a0_Gates_g c0
    obtain ⟨⟨⟨rfl,a0_Gates_f,rfl⟩,hs⟩,hk⟩:=h
    try rw [zae a0_Gates_f] at hs
    try rw [zae a0_Gates_f] at hk
    exact ⟨(fun _ _=>[]),(fun _=>false),zMl,q76 c0 (⟨(⟨a0_Gates_n,a0_Gates_f⟩:(Sl Gate))⟩:list) K hs hk⟩
  · exact h.elim
abbrev T77:Tabs:=Tabs.nil
theorem zPw:TabsOk Try.prog T77:=TabsOk.nil
abbrev G77:Ctrs:=csm T77 (fun _ _=>[]) (fun _=>false)
def zMn:Ann:=⟨3,[(0,zK [] []),(1,zK [2] [])],
 [],
 [],
 [],[]⟩
abbrev R77:=Bool
abbrev e77 (r:R77):List PA:=[.one (.bool r)]
section
variable {K:List PA→Prop} {a0_a0:list}
def s77 (a0_a0:list):Bool :=
  false
end
theorem q77 (a0_a0:list) (K:List PA→Prop) (hk:K (e77 (s77 a0_a0))):vcFun Try.prog G77 zMn 77 [.agg (zcL a0_a0)] K :=
  zaI (by kernel_rfl) hk
def zHE : List PA → COut
  | [.agg [.sl a0_Gates_n a0_Gates_s a0_Gates_g]]=>.det (IsE enc_55 3 a0_Gates_s a0_Gates_g) [.one (.bool (s77 (⟨(⟨a0_Gates_n,zaf a0_Gates_g⟩:(Sl Gate))⟩:list)))]
  | _=>.no
theorem zMo:zaj Try.prog 77:=⟨_,rfl,rfl,by kernel_rfl⟩
theorem zSb:Ok Try.prog 77 zHE:=zaP zPw zMo fun args K h=>by
  unfold zHE at h
  split at h
  · rename_i a0_Gates_n a0_Gates_s a0_Gates_g
    obtain ⟨⟨rfl,a0_Gates_f,rfl⟩,hk⟩:=h
    try rw [zae a0_Gates_f] at hk
    exact ⟨(fun _ _=>[]),(fun _=>false),zMn,q77 (⟨(⟨a0_Gates_n,a0_Gates_f⟩:(Sl Gate))⟩:list) K hk⟩
  · exact h.elim
abbrev T88:Tabs:=Tabs.nil
theorem zPx:TabsOk Try.prog T88:=TabsOk.nil
abbrev G88:Ctrs:=csm T88 (fun _ _=>[]) (fun _=>false)
def zMp:Ann:=⟨3,[(0,zK [] []),(1,zK [2] [])],
 [],
 [],
 [],[]⟩
abbrev R88:=Bool
abbrev e88 (r:R88):List PA:=[.one (.bool r)]
section
variable {K:List PA→Prop} {a0_a0:list}
def s88 (a0_a0:list):Bool :=
  true
end
theorem q88 (a0_a0:list) (K:List PA→Prop) (hk:K (e88 (s88 a0_a0))):vcFun Try.prog G88 zMp 88 [.agg (zcL a0_a0)] K :=
  zaI (by kernel_rfl) hk
def zHF : List PA → COut
  | [.agg [.sl a0_Gates_n a0_Gates_s a0_Gates_g]]=>.det (IsE enc_55 3 a0_Gates_s a0_Gates_g) [.one (.bool (s88 (⟨(⟨a0_Gates_n,zaf a0_Gates_g⟩:(Sl Gate))⟩:list)))]
  | _=>.no
theorem zMq:zaj Try.prog 88:=⟨_,rfl,rfl,by kernel_rfl⟩
theorem zSc:Ok Try.prog 88 zHF:=zaP zPx zMq fun args K h=>by
  unfold zHF at h
  split at h
  · rename_i a0_Gates_n a0_Gates_s a0_Gates_g
    obtain ⟨⟨rfl,a0_Gates_f,rfl⟩,hk⟩:=h
    try rw [zae a0_Gates_f] at hk
    exact ⟨(fun _ _=>[]),(fun _=>false),zMp,q88 (⟨(⟨a0_Gates_n,a0_Gates_f⟩:(Sl Gate))⟩:list) K hk⟩
  · exact h.elim
abbrev T75:Tabs:=(((((((Tabs.nil.addF 64 zwr).addF 65 zyA).addF 66 zyH).addF 67 zst).addF 76 zHD).addF 77 zHE).addF 88 zHF)
theorem zPy:TabsOk Try.prog T75:=(((((((TabsOk.nil.addF zN3).addF zPb).addF zPe).addF zLK).addF zSa).addF zSb).addF zSc)
abbrev G75:Ctrs:=csm T75 (fun _ _=>[]) (fun _=>false)
def zHG:Ann:=⟨31,[(0,zK [0,1,4] [4]),(1,zK [0,1,4,9] [4]),(2,zK [4,5] [4]),(3,zK [1,4,6] [4,6]),(4,zK [1,4,6,13] [4,6]),(5,zK [4,5] [4]),(6,zK [4,6,18] [4,6]),(7,zK [4,5] [4]),(8,zK [4,5] [4])],
 [],
 [(3,zK [0,1,4] [4])],
 [],[]⟩
abbrev R75:=(set×Int)
abbrev e75 (r:R75):List PA:=[.agg [.sl r.1.list.Gates.len 3 (fun i=>enc_55 (r.1.list.Gates.get i)),.sl r.1.corners.len 3 (fun i=>zak (r.1.corners.get i))],.one (.int .i64 r.2)]
@[irreducible] def z75:=ptF Try.prog G75 zHG Try.f75
section
variable {K:List PA→Prop} {zaa:(Sl Gate)}
def zzw (zaa:(Sl Gate)):(set×Int) :=
  (cond (!(s66 (s65 zaa)))
 ((⟨(⟨(⟨0,fun _=>default⟩:(Sl Gate))⟩:list),(⟨0,fun _=>default⟩:(Sl straight))⟩:set),(5:Int))
 (cond (s67 ((s65 zaa).list))
 (cond (!(s77 ((s65 zaa).list)))
 ((⟨(⟨(⟨0,fun _=>default⟩:(Sl Gate))⟩:list),(⟨0,fun _=>default⟩:(Sl straight))⟩:set),(6:Int))
 ((s65 zaa),(0:Int)))
 ((s65 zaa),(0:Int))))
def zzx (zaa:(Sl Gate)):Bool :=
  (decide ((p65 zaa=true)) &&
 (decide ((p66 (s65 zaa)=true)) &&
 (cond (!(s66 (s65 zaa)))
 true
 (decide ((p67 ((s65 zaa).list)=true)) &&
 true))))
theorem zHH (hs:zzx zaa=true) (hk:K (e75 (zzw zaa))):z75 (Wk K) [1,1] [] ⟨[(0,zS enc_55 3 zaa),(1,zP (.fn 77 [] [])),(4,zp 4 0)],[(4,.box 104 [.p (.nils),.p (.nils)])],[]⟩:=zaI (by kernel_rfl) (zaE hs fun hc hs=>And.intro (And.intro (zE enc_55 3 zaa.get) hc) (zaE hs fun hc hs=>And.intro (And.intro (zE enc_55 3 ((s65 zaa).list.Gates.get)) (And.intro (zE zak 3 ((s65 zaa).corners.get)) hc)) (zc hs hk (fun hs hk=>((wk hk (zdv (.agg (zdv (.nil _ _) (zdv (.nil _ _) zhi))) (zdv (.one (.rfl _)) zhi))):Wk K [.agg [.nils,.nils],.one (.int .i64 (5:Int))])) (fun hs hk=>(zaE hs fun hc hs=>And.intro (And.intro (zE enc_55 3 ((s65 zaa).list.Gates.get)) hc) (zt hk (fun hk=>(And.intro (zE enc_55 3 ((s65 zaa).list.Gates.get)) (zt hk (fun hk=>((wk hk (zdv (.agg (zdv (.nil _ _) (zdv (.nil _ _) zhi))) (zdv (.one (.rfl _)) zhi))):Wk K [.agg [.nils,.nils],.one (.int .i64 (6:Int))])) (fun hk=>((zdI hk):Wk K [.agg [.sl ((s65 zaa).list.Gates.len) 3 (fun i=>enc_55 ((s65 zaa).list.Gates.get i)),.sl ((s65 zaa).corners.len) 3 (fun i=>zak ((s65 zaa).corners.get i))],.one (.int .i64 (0:Int))]))))) (fun hk=>((zdI hk):Wk K [.agg [.sl ((s65 zaa).list.Gates.len) 3 (fun i=>enc_55 ((s65 zaa).list.Gates.get i)),.sl ((s65 zaa).corners.len) 3 (fun i=>zak ((s65 zaa).corners.get i))],.one (.int .i64 (0:Int))]))))))))
def s75 (zaa:(Sl Gate)):(set×Int) :=
  (cond (!(s64 zaa))
 ((⟨(⟨(⟨0,fun _=>default⟩:(Sl Gate))⟩:list),(⟨0,fun _=>default⟩:(Sl straight))⟩:set),(2:Int))
 (zzw zaa))
def p75 (zaa:(Sl Gate)):Bool :=
  (decide ((p64 zaa=true)) &&
 (cond (!(s64 zaa))
 true
 (zzx zaa)))
end
theorem q75 (zaa:(Sl Gate)) (K:List PA→Prop) (hs:p75 zaa=true) (hk:K (e75 (s75 zaa))):vcFun Try.prog G75 zHG 75 [.one (.sl zaa.len 3 (fun i=>enc_55 (zaa.get i))),.one (.fn 77 [] [])] (Wk K) :=
  zaI (by kernel_rfl) (zaE hs fun hc hs=>And.intro (And.intro (zE enc_55 3 zaa.get) hc) (zc hs hk (fun hs hk=>((wk hk (zdv (.agg (zdv (.nil _ _) (zdv (.nil _ _) zhi))) (zdv (.one (.rfl _)) zhi))):Wk K [.agg [.nils,.nils],.one (.int .i64 (2:Int))])) (fun hs hk=>(zHH hs hk))))
abbrev zQQ:Ctrs:=csm T75 (fun _ _=>[]) (fun _=>false)
def zzy:Ann:=⟨31,[(0,zK [0,1,4] [4]),(1,zK [0,1,4,9] [4]),(2,zK [4,5] [4]),(3,zK [1,4,6] [4,6]),(4,zK [1,4,6,13] [4,6]),(5,zK [4,5] [4]),(6,zK [4,6,18] [4,6]),(7,zK [4,5] [4]),(8,zK [4,5] [4])],
 [],
 [(3,zK [0,1,4] [4])],
 [],[]⟩
abbrev zSd:=(set×Int)
abbrev zQR (r:zSd):List PA:=[.agg [.sl r.1.list.Gates.len 3 (fun i=>enc_55 (r.1.list.Gates.get i)),.sl r.1.corners.len 3 (fun i=>zak (r.1.corners.get i))],.one (.int .i64 r.2)]
@[irreducible] def z75a:=ptF Try.prog zQQ zzy Try.f75
section
variable {K:List PA→Prop} {c0:Int} {zaa:(Sl Gate)}
def zvv (c0:Int) (zaa:(Sl Gate)):(set×Int) :=
  (cond (!(s66 (s65 zaa)))
 ((⟨(⟨(⟨0,fun _=>default⟩:(Sl Gate))⟩:list),(⟨0,fun _=>default⟩:(Sl straight))⟩:set),(5:Int))
 (cond (s67 ((s65 zaa).list))
 (cond (!(s76 c0 ((s65 zaa).list)))
 ((⟨(⟨(⟨0,fun _=>default⟩:(Sl Gate))⟩:list),(⟨0,fun _=>default⟩:(Sl straight))⟩:set),(6:Int))
 ((s65 zaa),(0:Int)))
 ((s65 zaa),(0:Int))))
def zvw (c0:Int) (zaa:(Sl Gate)):Bool :=
  (decide ((p65 zaa=true)) &&
 (decide ((p66 (s65 zaa)=true)) &&
 (cond (!(s66 (s65 zaa)))
 true
 (decide ((p67 ((s65 zaa).list)=true)) &&
 (cond (s67 ((s65 zaa).list))
 (decide ((p76 c0 ((s65 zaa).list)=true)) &&
 true)
 true)))))
theorem zDB (hs:zvw c0 zaa=true) (hk:K (zQR (zvv c0 zaa))):z75a (Wk K) [1,1] [] ⟨[(0,zS enc_55 3 zaa),(1,zP (.fn 76 [] [.fp (zal c0) 0])),(4,zp 4 0)],[(4,.box 104 [.p (.nils),.p (.nils)])],[]⟩:=zaI (by kernel_rfl) (zaE hs fun hc hs=>And.intro (And.intro (zE enc_55 3 zaa.get) hc) (zaE hs fun hc hs=>And.intro (And.intro (zE enc_55 3 ((s65 zaa).list.Gates.get)) (And.intro (zE zak 3 ((s65 zaa).corners.get)) hc)) (zc hs hk (fun hs hk=>((wk hk (zdv (.agg (zdv (.nil _ _) (zdv (.nil _ _) zhi))) (zdv (.one (.rfl _)) zhi))):Wk K [.agg [.nils,.nils],.one (.int .i64 (5:Int))])) (fun hs hk=>(zaE hs fun hc hs=>And.intro (And.intro (zE enc_55 3 ((s65 zaa).list.Gates.get)) hc) (zc hs hk (fun hs hk=>(zaE hs fun hc hs=>And.intro (And.intro (zE enc_55 3 ((s65 zaa).list.Gates.get)) hc) (zt hk (fun hk=>((wk hk (zdv (.agg (zdv (.nil _ _) (zdv (.nil _ _) zhi))) (zdv (.one (.rfl _)) zhi))):Wk K [.agg [.nils,.nils],.one (.int .i64 (6:Int))])) (fun hk=>((zdI hk):Wk K [.agg [.sl ((s65 zaa).list.Gates.len) 3 (fun i=>enc_55 ((s65 zaa).list.Gates.get i)),.sl ((s65 zaa).corners.len) 3 (fun i=>zak ((s65 zaa).corners.get i))],.one (.int .i64 (0:Int))]))))) (fun hs hk=>((zdI hk):Wk K [.agg [.sl ((s65 zaa).list.Gates.len) 3 (fun i=>enc_55 ((s65 zaa).list.Gates.get i)),.sl ((s65 zaa).corners.len) 3 (fun i=>zak ((s65 zaa).corners.get i))],.one (.int .i64 (0:Int))]))))))))
def zwA (c0:Int) (zaa:(Sl Gate)):(set×Int) :=
  (cond (!(s64 zaa))
 ((⟨(⟨(⟨0,fun _=>default⟩:(Sl Gate))⟩:list),(⟨0,fun _=>default⟩:(Sl straight))⟩:set),(2:Int))
 (zvv c0 zaa))
def zPz (c0:Int) (zaa:(Sl Gate)):Bool :=
  (decide ((p64 zaa=true)) &&
 (cond (!(s64 zaa))
 true
 (zvw c0 zaa)))
end
theorem zSe (c0:Int) (zaa:(Sl Gate)) (K:List PA→Prop) (hs:zPz c0 zaa=true) (hk:K (zQR (zwA c0 zaa))):vcFun Try.prog zQQ zzy 75 [.one (.sl zaa.len 3 (fun i=>enc_55 (zaa.get i))),.one (.fn 76 [] [.fp (zal c0) 0])] (Wk K) :=
  zaI (by kernel_rfl) (zaE hs fun hc hs=>And.intro (And.intro (zE enc_55 3 zaa.get) hc) (zc hs hk (fun hs hk=>((wk hk (zdv (.agg (zdv (.nil _ _) (zdv (.nil _ _) zhi))) (zdv (.one (.rfl _)) zhi))):Wk K [.agg [.nils,.nils],.one (.int .i64 (2:Int))])) (fun hs hk=>(zDB hs hk))))
abbrev zQS:Ctrs:=csm T75 (fun _ _=>[]) (fun _=>false)
def zzz:Ann:=⟨31,[(0,zK [0,1,4] [4]),(1,zK [0,1,4,9] [4]),(2,zK [4,5] [4]),(3,zK [1,4,6] [4,6]),(4,zK [1,4,6,13] [4,6]),(5,zK [4,5] [4]),(6,zK [4,6,18] [4,6]),(7,zK [4,5] [4]),(8,zK [4,5] [4])],
 [],
 [(3,zK [0,1,4] [4])],
 [],[]⟩
abbrev zSf:=(set×Int)
abbrev zQT (r:zSf):List PA:=[.agg [.sl r.1.list.Gates.len 3 (fun i=>enc_55 (r.1.list.Gates.get i)),.sl r.1.corners.len 3 (fun i=>zak (r.1.corners.get i))],.one (.int .i64 r.2)]
@[irreducible] def z75b:=ptF Try.prog zQS zzz Try.f75
section
variable {K:List PA→Prop} {zaa:(Sl Gate)}
def zvx (zaa:(Sl Gate)):(set×Int) :=
  (cond (!(s66 (s65 zaa)))
 ((⟨(⟨(⟨0,fun _=>default⟩:(Sl Gate))⟩:list),(⟨0,fun _=>default⟩:(Sl straight))⟩:set),(5:Int))
 (cond (s67 ((s65 zaa).list))
 (cond (!(s88 ((s65 zaa).list)))
 ((⟨(⟨(⟨0,fun _=>default⟩:(Sl Gate))⟩:list),(⟨0,fun _=>default⟩:(Sl straight))⟩:set),(6:Int))
 ((s65 zaa),(0:Int)))
 ((s65 zaa),(0:Int))))
def zvy (zaa:(Sl Gate)):Bool :=
  (decide ((p65 zaa=true)) &&
 (decide ((p66 (s65 zaa)=true)) &&
 (cond (!(s66 (s65 zaa)))
 true
 (decide ((p67 ((s65 zaa).list)=true)) &&
 true))))
theorem zDC (hs:zvy zaa=true) (hk:K (zQT (zvx zaa))):z75b (Wk K) [1,1] [] ⟨[(0,zS enc_55 3 zaa),(1,zP (.fn 88 [] [])),(4,zp 4 0)],[(4,.box 104 [.p (.nils),.p (.nils)])],[]⟩:=zaI (by kernel_rfl) (zaE hs fun hc hs=>And.intro (And.intro (zE enc_55 3 zaa.get) hc) (zaE hs fun hc hs=>And.intro (And.intro (zE enc_55 3 ((s65 zaa).list.Gates.get)) (And.intro (zE zak 3 ((s65 zaa).corners.get)) hc)) (zc hs hk (fun hs hk=>((wk hk (zdv (.agg (zdv (.nil _ _) (zdv (.nil _ _) zhi))) (zdv (.one (.rfl _)) zhi))):Wk K [.agg [.nils,.nils],.one (.int .i64 (5:Int))])) (fun hs hk=>(zaE hs fun hc hs=>And.intro (And.intro (zE enc_55 3 ((s65 zaa).list.Gates.get)) hc) (zt hk (fun hk=>(And.intro (zE enc_55 3 ((s65 zaa).list.Gates.get)) (zt hk (fun hk=>((wk hk (zdv (.agg (zdv (.nil _ _) (zdv (.nil _ _) zhi))) (zdv (.one (.rfl _)) zhi))):Wk K [.agg [.nils,.nils],.one (.int .i64 (6:Int))])) (fun hk=>((zdI hk):Wk K [.agg [.sl ((s65 zaa).list.Gates.len) 3 (fun i=>enc_55 ((s65 zaa).list.Gates.get i)),.sl ((s65 zaa).corners.len) 3 (fun i=>zak ((s65 zaa).corners.get i))],.one (.int .i64 (0:Int))]))))) (fun hk=>((zdI hk):Wk K [.agg [.sl ((s65 zaa).list.Gates.len) 3 (fun i=>enc_55 ((s65 zaa).list.Gates.get i)),.sl ((s65 zaa).corners.len) 3 (fun i=>zak ((s65 zaa).corners.get i))],.one (.int .i64 (0:Int))]))))))))
def zKx (zaa:(Sl Gate)):(set×Int) :=
  (cond (!(s64 zaa))
 ((⟨(⟨(⟨0,fun _=>default⟩:(Sl Gate))⟩:list),(⟨0,fun _=>default⟩:(Sl straight))⟩:set),(2:Int))
 (zvx zaa))
def zQU (zaa:(Sl Gate)):Bool :=
  (decide ((p64 zaa=true)) &&
 (cond (!(s64 zaa))
 true
 (zvy zaa)))
end
theorem zSg (zaa:(Sl Gate)) (K:List PA→Prop) (hs:zQU zaa=true) (hk:K (zQT (zKx zaa))):vcFun Try.prog zQS zzz 75 [.one (.sl zaa.len 3 (fun i=>enc_55 (zaa.get i))),.one (.fn 88 [] [])] (Wk K) :=
  zaI (by kernel_rfl) (zaE hs fun hc hs=>And.intro (And.intro (zE enc_55 3 zaa.get) hc) (zc hs hk (fun hs hk=>((wk hk (zdv (.agg (zdv (.nil _ _) (zdv (.nil _ _) zhi))) (zdv (.one (.rfl _)) zhi))):Wk K [.agg [.nils,.nils],.one (.int .i64 (2:Int))])) (fun hs hk=>(zDC hs hk))))
def zDD : List PA → COut
  | [.one (.sl a0_n a0_s a0_g),.one (.fn 77 [] [])]=>.det (IsE enc_55 3 a0_s a0_g∧p75 (⟨a0_n,zaf a0_g⟩:(Sl Gate))=true) [.agg [.sl (((s75 (⟨a0_n,zaf a0_g⟩:(Sl Gate))).1).list.Gates.len) 3 (fun i=>enc_55 (((s75 (⟨a0_n,zaf a0_g⟩:(Sl Gate))).1).list.Gates.get i)),.sl (((s75 (⟨a0_n,zaf a0_g⟩:(Sl Gate))).1).corners.len) 3 (fun i=>zak (((s75 (⟨a0_n,zaf a0_g⟩:(Sl Gate))).1).corners.get i))],.one (.int .i64 ((s75 (⟨a0_n,zaf a0_g⟩:(Sl Gate))).2))]
  | [.one (.sl a0_n a0_s a0_g),.one (.fn 76 [] [.fp [.int .i64 c0] 0])]=>.det (IsE enc_55 3 a0_s a0_g∧zPz c0 (⟨a0_n,zaf a0_g⟩:(Sl Gate))=true) [.agg [.sl (((zwA c0 (⟨a0_n,zaf a0_g⟩:(Sl Gate))).1).list.Gates.len) 3 (fun i=>enc_55 (((zwA c0 (⟨a0_n,zaf a0_g⟩:(Sl Gate))).1).list.Gates.get i)),.sl (((zwA c0 (⟨a0_n,zaf a0_g⟩:(Sl Gate))).1).corners.len) 3 (fun i=>zak (((zwA c0 (⟨a0_n,zaf a0_g⟩:(Sl Gate))).1).corners.get i))],.one (.int .i64 ((zwA c0 (⟨a0_n,zaf a0_g⟩:(Sl Gate))).2))]
  | [.one (.sl a0_n a0_s a0_g),.one (.fn 88 [] [])]=>.det (IsE enc_55 3 a0_s a0_g∧zQU (⟨a0_n,zaf a0_g⟩:(Sl Gate))=true) [.agg [.sl (((zKx (⟨a0_n,zaf a0_g⟩:(Sl Gate))).1).list.Gates.len) 3 (fun i=>enc_55 (((zKx (⟨a0_n,zaf a0_g⟩:(Sl Gate))).1).list.Gates.get i)),.sl (((zKx (⟨a0_n,zaf a0_g⟩:(Sl Gate))).1).corners.len) 3 (fun i=>zak (((zKx (⟨a0_n,zaf a0_g⟩:(Sl Gate))).1).corners.get i))],.one (.int .i64 ((zKx (⟨a0_n,zaf a0_g⟩:(Sl Gate))).2))]
  | _=>.no
theorem zMr:zaj Try.prog 75:=⟨_,rfl,rfl,by kernel_rfl⟩
theorem zQV:Ok Try.prog 75 zDD:=zfo zPy zMr fun args K h=>by
  unfold zDD at h
  split at h
  · rename_i a0_n a0_s a0_g
    obtain ⟨⟨⟨rfl,a0_f,rfl⟩,hs⟩,hk⟩:=h
    try rw [zae a0_f] at hs
    try rw [zae a0_f] at hk
    exact ⟨_,zeL zeM _,(fun _ _=>[]),(fun _=>false),zHG,q75 (⟨a0_n,a0_f⟩:(Sl Gate)) K hs hk⟩
  · rename_i a0_n a0_s a0_g c0
    obtain ⟨⟨⟨rfl,a0_f,rfl⟩,hs⟩,hk⟩:=h
    try rw [zae a0_f] at hs
    try rw [zae a0_f] at hk
    exact ⟨_,zeL zeM _,(fun _ _=>[]),(fun _=>false),zzy,zSe c0 (⟨a0_n,a0_f⟩:(Sl Gate)) K hs hk⟩
  · rename_i a0_n a0_s a0_g
    obtain ⟨⟨⟨rfl,a0_f,rfl⟩,hs⟩,hk⟩:=h
    try rw [zae a0_f] at hs
    try rw [zae a0_f] at hk
    exact ⟨_,zeL zeM _,(fun _ _=>[]),(fun _=>false),zzz,zSg (⟨a0_n,a0_f⟩:(Sl Gate)) K hs hk⟩
  · exact h.elim
abbrev T30:Tabs:=(((Tabs.nil.addF 68 zDx).addF 74 zqi).addF 75 zDD)
theorem zPA:TabsOk Try.prog T30:=(((TabsOk.nil.addF zQP).addF zKr).addF zQV)
abbrev G30:Ctrs:=csm T30 (fun _ _=>[]) (fun _=>false)
def zHI:Ann:=⟨35,[(0,zK [0,3,4,5] [3,4,5]),(1,zK [0,3,4,5,13] [3,4,5]),(2,zK [4,5,6] [4,5]),(3,zK [3,4,5,7,8] [3,4,5,7]),(4,zK [3,4,5,7,8,23] [3,4,5,7]),(5,zK [4,5,6] [4,5]),(6,zK [4,5,9,10] [4,5,9,10]),(7,zK [4,5,6] [4,5])],
 [],
 [(2,zK [0,3,4,5,13] [3,4,5]),(3,zK [0,3,4,5] [3,4,5]),(4,zK [3,4,5,7,8] [3,4,5,7]),(6,zK [3,4,5,7] [3,4,5,7]),(7,zK [4,5,9,10] [4,5,9,10])],
 [],[]⟩
abbrev R30:=(Frac×Frac×Int)
abbrev e30 (r:R30):List PA:=[.agg [.int .i64 r.1.Num,.int .i64 r.1.Den],.agg [.int .i64 r.2.1.Num,.int .i64 r.2.1.Den],.one (.int .i64 r.2.2)]
@[irreducible] def z30:=ptF Try.prog G30 zHI Try.f30
section
variable {K:List PA→Prop} {zaa:(Sl Gate)} {z:Int} {zsV:Bool} {ev2:Int} {zqT:(Sl Gate)} {zqU:(Sl straight)} {zzA:Nat→List PV} {zzB:Nat→List PV} {zke:(Sl Gate)} {zkf:(Sl straight)} {zzC:Nat→List PV} {zzD:Nat→List PV} {zoG:Int} {zoH:Int} {zkr:Int} {zks:Int}
def zzE (zoG:Int) (zoH:Int) (zkr:Int) (zks:Int):(Frac×Frac×Int) :=
  ((⟨zoG,zoH⟩:Frac),(⟨zkr,zks⟩:Frac),(0:Int))
theorem zHJ (hk:K (e30 (zzE zoG zoH zkr zks))):z30 K [1,1,1,1,1] [] ⟨[(4,zp 4 0),(5,zp 5 0),(9,zp 9 0),(10,zp 10 0)],[(4,.box 25 (zm (zah (⟨(0:Int),(0:Int)⟩:Frac)))),(5,.box 25 (zm (zah (⟨(0:Int),(0:Int)⟩:Frac)))),(9,.box 25 (zm (zah (⟨zoG,zoH⟩:Frac)))),(10,.box 25 (zm (zah (⟨zkr,zks⟩:Frac))))],[]⟩:=zaI (by kernel_rfl) hk
def zzF (z:Int) (zke:(Sl Gate)) (zkf:(Sl straight)):(Frac×Frac×Int) :=
  (zzE (((s68 (⟨(⟨zke⟩:list),zkf⟩:set) z).1).Num) (((s68 (⟨(⟨zke⟩:list),zkf⟩:set) z).1).Den) (((s68 (⟨(⟨zke⟩:list),zkf⟩:set) z).2).Num) (((s68 (⟨(⟨zke⟩:list),zkf⟩:set) z).2).Den))
def zzG (z:Int) (zke:(Sl Gate)) (zkf:(Sl straight)):Bool :=
  (decide ((p68 (⟨(⟨zke⟩:list),zkf⟩:set) z=true)) &&
 true)
theorem zHK (hs:zzG z zke zkf=true) (hk:K (e30 (zzF z zke zkf))) (zHL:zzC=zg enc_55 zke) (zHM:zzD=zg zak zkf):z30 K [1,1,1,1] [] ⟨[(3,zp 3 0),(4,zp 4 0),(5,zp 5 0),(7,zp 7 0)],[(3,.fbox [.int .i64 z]),(4,.box 25 (zm (zah (⟨(0:Int),(0:Int)⟩:Frac)))),(5,.box 25 (zm (zah (⟨(0:Int),(0:Int)⟩:Frac)))),(7,.box 104 [.p (.sl zke.len 3 zzC),.p (.sl zkf.len 3 zzD)])],[]⟩:=by subst zHL;subst zHM;exact zaI (by kernel_rfl) (zaE hs fun hc hs=>And.intro (And.intro (zE enc_55 3 zke.get) (And.intro (zE zak 3 zkf.get) hc)) (zHJ hk))
def zzH (z:Int) (ev2:Int) (zqT:(Sl Gate)) (zqU:(Sl straight)):(Frac×Frac×Int) :=
  (cond (ev2 != (0:Int))
 ((⟨(0:Int),(0:Int)⟩:Frac),(⟨(0:Int),(0:Int)⟩:Frac),ev2)
 (zzF z zqT zqU))
def zzI (z:Int) (ev2:Int) (zqT:(Sl Gate)) (zqU:(Sl straight)):Bool :=
  (cond (ev2 != (0:Int))
 true
 (zzG z zqT zqU))
theorem zHN (hs:zzI z ev2 zqT zqU=true) (hk:K (e30 (zzH z ev2 zqT zqU))) (zHO:zzA=zg enc_55 zqT) (zHP:zzB=zg zak zqU):z30 K [1,1,1] [] ⟨[(3,zp 3 0),(4,zp 4 0),(5,zp 5 0),(7,zp 7 0),(8,zI ev2)],[(3,.fbox [.int .i64 z]),(4,.box 25 (zm (zah (⟨(0:Int),(0:Int)⟩:Frac)))),(5,.box 25 (zm (zah (⟨(0:Int),(0:Int)⟩:Frac)))),(7,.box 104 [.p (.sl zqT.len 3 zzA),.p (.sl zqU.len 3 zzB)])],[]⟩:=by subst zHO;subst zHP;exact zaI (by kernel_rfl) (zc hs hk (fun hs hk=>hk) (fun hs hk=>(zHK hs hk rfl rfl)))
def zzJ (zaa:(Sl Gate)) (z:Int):(Frac×Frac×Int) :=
  (zzH z ((zwA z zaa).2) (((zwA z zaa).1).list.Gates) (((zwA z zaa).1).corners))
def zzK (zaa:(Sl Gate)) (z:Int):Bool :=
  (decide ((zPz z zaa=true)) &&
 (zzI z ((zwA z zaa).2) (((zwA z zaa).1).list.Gates) (((zwA z zaa).1).corners)))
theorem zHQ (hs:zzK zaa z=true) (hk:K (e30 (zzJ zaa z))):z30 K [1,1] [] ⟨[(0,zS enc_55 3 zaa),(3,zp 3 0),(4,zp 4 0),(5,zp 5 0)],[(3,.box 3 [zi z]),(4,.box 25 (zm (zah (⟨(0:Int),(0:Int)⟩:Frac)))),(5,.box 25 (zm (zah (⟨(0:Int),(0:Int)⟩:Frac))))],[]⟩:=zaI (by kernel_rfl) (zaE hs fun hc hs=>And.intro (And.intro (zE enc_55 3 zaa.get) hc) (zHN hs hk rfl rfl))
def zzL (zaa:(Sl Gate)) (z:Int) (zsV:Bool):(Frac×Frac×Int) :=
  (cond zsV
 ((⟨(0:Int),(0:Int)⟩:Frac),(⟨(0:Int),(0:Int)⟩:Frac),(2:Int))
 (zzJ zaa z))
def zzM (zaa:(Sl Gate)) (z:Int) (zsV:Bool):Bool :=
  (cond zsV
 true
 (zzK zaa z))
theorem zHR (hs:zzM zaa z zsV=true) (hk:K (e30 (zzL zaa z zsV))):z30 K [1,0,1] [] ⟨[(0,zS enc_55 3 zaa),(3,zp 3 0),(4,zp 4 0),(5,zp 5 0),(13,zB zsV)],[(3,.box 3 [zi z]),(4,.box 25 (zm (zah (⟨(0:Int),(0:Int)⟩:Frac)))),(5,.box 25 (zm (zah (⟨(0:Int),(0:Int)⟩:Frac))))],[]⟩:=zaI (by kernel_rfl) (zc hs hk (fun hs hk=>hk) (fun hs hk=>(zHQ hs hk)))
def s30 (zaa:(Sl Gate)) (z:Int):(Frac×Frac×Int) :=
  (zzL zaa z (!(s74 z (-100000:Int) (200000:Int))))
def p30 (zaa:(Sl Gate)) (z:Int):Bool :=
  (zzM zaa z (!(s74 z (-100000:Int) (200000:Int))))
end
theorem q30 (zaa:(Sl Gate)) (z:Int) (K:List PA→Prop) (hs:p30 zaa z=true) (hk:K (e30 (s30 zaa z))):vcFun Try.prog G30 zHI 30 [.one (.sl zaa.len 3 (fun i=>enc_55 (zaa.get i))),.one (.int .i64 z)] K :=
  zaI (by kernel_rfl) (zHR hs hk)
def zHS : List PA → COut
  | [.one (.sl a0_n a0_s a0_g),.one (.int .i64 a1)]=>.det (IsE enc_55 3 a0_s a0_g∧p30 (⟨a0_n,zaf a0_g⟩:(Sl Gate)) a1=true) [.agg [.int .i64 (((s30 (⟨a0_n,zaf a0_g⟩:(Sl Gate)) a1).1).Num),.int .i64 (((s30 (⟨a0_n,zaf a0_g⟩:(Sl Gate)) a1).1).Den)],.agg [.int .i64 (((s30 (⟨a0_n,zaf a0_g⟩:(Sl Gate)) a1).2.1).Num),.int .i64 (((s30 (⟨a0_n,zaf a0_g⟩:(Sl Gate)) a1).2.1).Den)],.one (.int .i64 ((s30 (⟨a0_n,zaf a0_g⟩:(Sl Gate)) a1).2.2))]
  | _=>.no
theorem zMs:zaj Try.prog 30:=⟨_,rfl,rfl,by kernel_rfl⟩
theorem zSh:Ok Try.prog 30 zHS:=zaP zPA zMs fun args K h=>by
  unfold zHS at h
  split at h
  · rename_i a0_n a0_s a0_g a1
    obtain ⟨⟨⟨rfl,a0_f,rfl⟩,hs⟩,hk⟩:=h
    try rw [zae a0_f] at hs
    try rw [zae a0_f] at hk
    exact ⟨(fun _ _=>[]),(fun _=>false),zHI,q30 (⟨a0_n,a0_f⟩:(Sl Gate)) a1 K hs hk⟩
  · exact h.elim
abbrev zQW:Tabs:=Tabs.nil
theorem zMt:TabsOk Try.prog zQW:=TabsOk.nil
abbrev zQX:Ctrs:=csm zQW (fun _ _=>[]) (fun _=>false)
def zzN:Ann:=⟨8,[(0,⟨[0],[],[],[],[],[],[]⟩),(1,⟨[0,4],[],[],[],[],[],[]⟩),(2,⟨[2],[],[],[],[],[],[]⟩),(3,⟨[2],[5],[],[],[],[],[]⟩)],
 [],
 [],
 [],[]⟩
theorem zDE (n : Nat) (get : Nat → List PV) : zxP Try.prog zQX zzN 105 [.one (.sl n 3 get)] 118 3 24 n get =
  ((True)∧(∃ r1:Bool,(n ≠ 0→r1=false))∧∀ r1:Bool,(n ≠ 0→r1=false) →
 (zcP r1
 (True∧n=0)
 ((((0+n) * 24≤140737488355328∧0+n≤9223372036854775807)) ∧
 (True∧118=118∧3=3∧24=24∧(0+n)=n∧∀ i,i < n→(appG 0 (zec []) get) i=get i)))):=by kernel_rfl
abbrev zET:OwnK:=.clone 118 3 24
theorem zHT:zaj Try.prog 105:=⟨_,rfl,rfl,by kernel_rfl⟩
theorem zPB:znz Try.prog 105 zET:=zxS zMt zHT fun n get h1 h2=>by
  refine ⟨fun _ _=>[],fun _=>false,zzN,?_⟩
  show zxP Try.prog zQX zzN 105 _ _ _ _ _ _
  rw [zDE]
  refine ⟨trivial,⟨decide (n=0),fun h=>decide_eq_false h⟩,fun r1 hr=>?_⟩
  cases r1
  · refine ⟨⟨by omega,by omega⟩,trivial,rfl,rfl,rfl,Nat.zero_add n,fun i _=>rfl⟩
  · exact ⟨trivial,Classical.byContradiction fun h=>by simpa using hr h⟩
abbrev zEU:OwnK:=.sort 118 3 24
theorem zPC:znz Try.prog 106 zEU:=zxW Try.laysS106 rfl rfl rfl (fun h=>h) ⟨_,rfl,rfl,by kernel_rfl⟩
abbrev zQY:Tabs:=(Tabs.nil.addF 99 zyr)
theorem zMu:TabsOk Try.prog zQY:=(TabsOk.nil.addF zOZ)
abbrev zSi:Ctrs:=csm zQY (fun _ _=>[]) (fun _=>false)
def zEV:Ann:=⟨10,[(0,zK [2,3] [2,3]),(1,zK [4] [])],
 [],
 [],
 [],[]⟩
abbrev zSj:=Bool
abbrev e108 (r:zSj):List PA:=[.one (.bool r)]
section
variable {K:List PA→Prop} {s:set} {x:straight}
def zEW (s:set) (x:straight):Bool :=
  (zOX x s.list.Gates)
def zOf (s:set) (x:straight):Bool :=
  (decide ((zOY x s.list.Gates=true)) &&
 true)
end
theorem zSk (s:set) (x:straight) (K:List PA→Prop) (hs:zOf s x=true) (hk:K (e108 (zEW s x))):vcFun Try.prog zSi zEV 108 [.agg (zbj s),.agg (zak x)] K :=
  zaI (by kernel_rfl) (zaE hs fun hc hs=>And.intro (And.intro (zE enc_55 3 s.list.Gates.get) hc) hk)
def zzO : List PA → COut
  | [.agg [.sl a0_list_Gates_n a0_list_Gates_s a0_list_Gates_g,.sl a0_corners_n a0_corners_s a0_corners_g],.agg [.int .i64 a1_slope,.int .i64 a1_start,.int .i64 a1_den]]=>.det (IsE enc_55 3 a0_list_Gates_s a0_list_Gates_g∧IsE zak 3 a0_corners_s a0_corners_g∧zOf (⟨(⟨(⟨a0_list_Gates_n,zaf a0_list_Gates_g⟩:(Sl Gate))⟩:list),(⟨a0_corners_n,za9 a0_corners_g⟩:(Sl straight))⟩:set) (⟨a1_slope,a1_start,a1_den⟩:straight)=true) [.one (.bool (zEW (⟨(⟨(⟨a0_list_Gates_n,zaf a0_list_Gates_g⟩:(Sl Gate))⟩:list),(⟨a0_corners_n,za9 a0_corners_g⟩:(Sl straight))⟩:set) (⟨a1_slope,a1_start,a1_den⟩:straight)))]
  | _=>.no
theorem zHU:zaj Try.prog 108:=⟨_,rfl,rfl,by kernel_rfl⟩
theorem zPD:Ok Try.prog 108 zzO:=zaP zMu zHU fun args K h=>by
  unfold zzO at h
  split at h
  · rename_i a0_list_Gates_n a0_list_Gates_s a0_list_Gates_g a0_corners_n a0_corners_s a0_corners_g a1_slope a1_start a1_den
    obtain ⟨⟨⟨rfl,a0_list_Gates_f,rfl⟩,⟨rfl,a0_corners_f,rfl⟩,hs⟩,hk⟩:=h
    try rw [zae a0_list_Gates_f] at hs
    try rw [zae a0_list_Gates_f] at hk
    try rw [za3 a0_corners_f] at hs
    try rw [za3 a0_corners_f] at hk
    exact ⟨(fun _ _=>[]),(fun _=>false),zEV,zSk (⟨(⟨(⟨a0_list_Gates_n,a0_list_Gates_f⟩:(Sl Gate))⟩:list),(⟨a0_corners_n,a0_corners_f⟩:(Sl straight))⟩:set) (⟨a1_slope,a1_start,a1_den⟩:straight) K hs hk⟩
  · exact h.elim
abbrev zQZ:Tabs:=(((Tabs.nil.addF 69 zwx).addF 89 zwu).addF 108 zzO)
theorem zMv:TabsOk Try.prog zQZ:=(((TabsOk.nil.addF zN9).addF zN8).addF zPD)
abbrev zSl:Ctrs:=csm zQZ (fun _ _=>[]) (fun _=>false)
def zEX:Ann:=⟨38,[(0,zK [2,3,4] [3,4]),(1,zK [3,4,6,7] [3,4]),(2,zK [6,7,8] []),(3,zK [6,7,8,26] []),(4,zK [5] []),(5,zK [7,8,32] []),(6,zK [5] []),(7,zK [8,34] []),(8,zK [5] []),(9,zK [5] [])],
 [],
 [],
 [],[]⟩
abbrev zSm:=Int
abbrev zSn (r:zSm):List PA:=[.one (.int .i64 r)]
section
variable {K:List PA→Prop} {c0:set} {a:straight} {b:straight}
def zOg (c0:set) (a:straight) (b:straight):Int :=
  (cond (zEW c0 a)
 (cond (zEW c0 b)
 (s69 (s89 a.slope a.den) (s89 b.slope b.den))
 (cond (zEW c0 a)
 (-1:Int)
 (cond (zEW c0 b)
 (1:Int)
 (w64 (0 - (s69 (s89 a.slope a.den) (s89 b.slope b.den)))))))
 (cond (zEW c0 a)
 (-1:Int)
 (cond (zEW c0 b)
 (1:Int)
 (w64 (0 - (s69 (s89 a.slope a.den) (s89 b.slope b.den)))))))
def zOh (c0:set) (a:straight) (b:straight):Bool :=
  (decide ((zOf c0 a=true)) &&
 (decide ((zOf c0 b=true)) &&
 (decide ((p89 a.slope a.den=true)) &&
 (decide ((p89 b.slope b.den=true)) &&
 true))))
end
theorem zSo (c0:set) (a:straight) (b:straight) (K:List PA→Prop) (hs:zOh c0 a b=true) (hk:K (zSn (zOg c0 a b))):vcFun Try.prog zSl zEX 107 [.agg (zak a),.agg (zak b),.one (.fp (zbj c0) 0)] K :=
  zaI (by kernel_rfl) (zaE hs fun hc hs=>And.intro (And.intro (zE enc_55 3 c0.list.Gates.get) (And.intro (zE zak 3 c0.corners.get) hc)) (zaE hs fun hc hs=>And.intro (And.intro (zE enc_55 3 c0.list.Gates.get) (And.intro (zE zak 3 c0.corners.get) hc)) (zaE hs fun hc hs=>And.intro hc (zaE hs fun hc hs=>And.intro hc (zt hk (fun hk=>(zt hk (fun hk=>hk) (fun hk=>(zt hk (fun hk=>hk) (fun hk=>(zt hk (fun hk=>hk) (fun hk=>hk))))))) (fun hk=>(zt hk (fun hk=>hk) (fun hk=>(zt hk (fun hk=>hk) (fun hk=>hk))))))))))
def zqV : List PA → COut
  | [.agg [.int .i64 a0_slope,.int .i64 a0_start,.int .i64 a0_den],.agg [.int .i64 a1_slope,.int .i64 a1_start,.int .i64 a1_den],.one (.fp [.sl c0_list_Gates_n c0_list_Gates_s c0_list_Gates_g,.sl c0_corners_n c0_corners_s c0_corners_g] 0)]=>.det (IsE enc_55 3 c0_list_Gates_s c0_list_Gates_g∧IsE zak 3 c0_corners_s c0_corners_g∧zOh (⟨(⟨(⟨c0_list_Gates_n,zaf c0_list_Gates_g⟩:(Sl Gate))⟩:list),(⟨c0_corners_n,za9 c0_corners_g⟩:(Sl straight))⟩:set) (⟨a0_slope,a0_start,a0_den⟩:straight) (⟨a1_slope,a1_start,a1_den⟩:straight)=true) [.one (.int .i64 (zOg (⟨(⟨(⟨c0_list_Gates_n,zaf c0_list_Gates_g⟩:(Sl Gate))⟩:list),(⟨c0_corners_n,za9 c0_corners_g⟩:(Sl straight))⟩:set) (⟨a0_slope,a0_start,a0_den⟩:straight) (⟨a1_slope,a1_start,a1_den⟩:straight)))]
  | _=>.no
theorem zHV:zaj Try.prog 107:=⟨_,rfl,rfl,by kernel_rfl⟩
theorem zPE:Ok Try.prog 107 zqV:=zaP zMv zHV fun args K h=>by
  unfold zqV at h
  split at h
  · rename_i a0_slope a0_start a0_den a1_slope a1_start a1_den c0_list_Gates_n c0_list_Gates_s c0_list_Gates_g c0_corners_n c0_corners_s c0_corners_g
    obtain ⟨⟨⟨rfl,c0_list_Gates_f,rfl⟩,⟨rfl,c0_corners_f,rfl⟩,hs⟩,hk⟩:=h
    try rw [zae c0_list_Gates_f] at hs
    try rw [zae c0_list_Gates_f] at hk
    try rw [za3 c0_corners_f] at hs
    try rw [za3 c0_corners_f] at hk
    exact ⟨(fun _ _=>[]),(fun _=>false),zEX,zSo (⟨(⟨(⟨c0_list_Gates_n,c0_list_Gates_f⟩:(Sl Gate))⟩:list),(⟨c0_corners_n,c0_corners_f⟩:(Sl straight))⟩:set) (⟨a0_slope,a0_start,a0_den⟩:straight) (⟨a1_slope,a1_start,a1_den⟩:straight) K hs hk⟩
  · exact h.elim
abbrev T78:Tabs:=(((Tabs.nil.addO 105 zET).addO 106 zEU).addF 107 zqV)
theorem zPF:TabsOk Try.prog T78:=(((TabsOk.nil.addO zPB).addO zPC).addF zPE)
abbrev G78:Ctrs:=csm T78 (fun _ _=>[]) (fun _=>false)
def zMw:Ann:=⟨11,[(0,zK [1] [1]),(1,zK [1,3] [1,6]),(2,zK [3] [6]),(3,zK [2] [6])],
 [],
 [],
 [],[]⟩
abbrev R78:=(Sl straight)
abbrev e78 (r:R78):List PA:=[.one (.sl r.len 3 (fun i=>zak (r.get i)))]
section
variable {K:List PA→Prop} {s:set}
def s78 (s:set):(Sl straight) :=
  (⟨s.corners.len,(zrm s.corners.len (fun i j=>(zOg s (s.corners.get i) (s.corners.get j))) s.corners.get)⟩:(Sl straight))
def p78 (s:set):Bool :=
  (decide ((s.corners.len * 24≤140737488355328∧s.corners.len≤9223372036854775807)) &&
 (decide ((s.corners.len≤4611686018427387)∧(sortB s.corners.len (fun i j=>decide (zOh s (s.corners.get i) (s.corners.get j)=true)) (fun i j=>(zOg s (s.corners.get i) (s.corners.get j)))=true)) &&
 true))
end
theorem q78 (s:set) (K:List PA→Prop) (hs:p78 s=true) (hk:K (e78 (s78 s))):vcFun Try.prog G78 zMw 78 [.agg (zbj s)] K :=
  zaI (by kernel_rfl) (zaE hs fun hc hs=>And.intro hc (zaE hs fun hc hs=>And.intro (And.intro (hc.1) ((zC3 (hc.2) (fun i j h=>(show IsE enc_55 3 3 (fun i=>enc_55 (s.list.Gates.get i))∧IsE zak 3 3 (fun i=>zak (s.corners.get i))∧(zOh s (s.corners.get i) (s.corners.get j)=true) from ⟨isE,isE,(of_decide_eq_true h)⟩)) rfl):(∀ i j,i < s.corners.len→j < s.corners.len→zKo (zqV) [.fp (zbj s) 0] true (fun i=>zak (s.corners.get i)) i j)∧STO s.corners.len (zwC (zqV) [.fp (zbj s) 0] true (fun i=>zak (s.corners.get i))))) hk))
def zHW : List PA → COut
  | [.agg [.sl a0_list_Gates_n a0_list_Gates_s a0_list_Gates_g,.sl a0_corners_n a0_corners_s a0_corners_g]]=>.det (IsE enc_55 3 a0_list_Gates_s a0_list_Gates_g∧IsE zak 3 a0_corners_s a0_corners_g∧p78 (⟨(⟨(⟨a0_list_Gates_n,zaf a0_list_Gates_g⟩:(Sl Gate))⟩:list),(⟨a0_corners_n,za9 a0_corners_g⟩:(Sl straight))⟩:set)=true) [.one (.sl ((s78 (⟨(⟨(⟨a0_list_Gates_n,zaf a0_list_Gates_g⟩:(Sl Gate))⟩:list),(⟨a0_corners_n,za9 a0_corners_g⟩:(Sl straight))⟩:set)).len) 3 (fun i=>zak ((s78 (⟨(⟨(⟨a0_list_Gates_n,zaf a0_list_Gates_g⟩:(Sl Gate))⟩:list),(⟨a0_corners_n,za9 a0_corners_g⟩:(Sl straight))⟩:set)).get i)))]
  | _=>.no
theorem zMx:zaj Try.prog 78:=⟨_,rfl,rfl,by kernel_rfl⟩
theorem zSp:Ok Try.prog 78 zHW:=zaP zPF zMx fun args K h=>by
  unfold zHW at h
  split at h
  · rename_i a0_list_Gates_n a0_list_Gates_s a0_list_Gates_g a0_corners_n a0_corners_s a0_corners_g
    obtain ⟨⟨⟨rfl,a0_list_Gates_f,rfl⟩,⟨rfl,a0_corners_f,rfl⟩,hs⟩,hk⟩:=h
    try rw [zae a0_list_Gates_f] at hs
    try rw [zae a0_list_Gates_f] at hk
    try rw [za3 a0_corners_f] at hs
    try rw [za3 a0_corners_f] at hk
    exact ⟨(fun _ _=>[]),(fun _=>false),zMw,q78 (⟨(⟨(⟨a0_list_Gates_n,a0_list_Gates_f⟩:(Sl Gate))⟩:list),(⟨a0_corners_n,a0_corners_f⟩:(Sl straight))⟩:set) K hs hk⟩
  · exact h.elim
abbrev T31:Tabs:=(((Tabs.nil.addF 75 zDD).addF 78 zHW).addF 79 zDk)
theorem zPG:TabsOk Try.prog T31:=(((TabsOk.nil.addF zQV).addF zSp).addF zQB)
abbrev G31:Ctrs:=csm T31 (fun _ _=>[]) (fun _=>false)
def zHX:Ann:=⟨31,[(0,zK [0] []),(1,zK [4,5] [4]),(2,zK [4,5,15] [4]),(3,zK [2,3] []),(4,zK [4,6] [4]),(5,zK [6,18,19,20] []),(6,zK [6,18,19,20,21] [28]),(7,zK [6,8,18,19,20] [8,28]),(8,zK [6,18,19,20] [28]),(9,zK [6,18,19,20] [28]),(10,zK [2,3] [28])],
 [(6,⟨[6,18,19,20],[28],[(6,28,37,fun _=>zcp default)],[],[],[],[]⟩)],
 [(2,zK [4,5] [4]),(4,zK [4] [4]),(6,zK [6,18,19,20] [])],
 [],[]⟩
abbrev R31:=((Sl Line)×Int)
abbrev e31 (r:R31):List PA:=[.one (.sl r.1.len 4 (fun i=>zcp (r.1.get i))),.one (.int .i64 r.2)]
@[irreducible] def z31:=ptF Try.prog G31 zHX Try.f31
def zEY (zcQ:(Sl straight)) (zde:Int) (zdV:Int) (zdu:(Sl Line)) (zgo:Nat→List PV):St:=⟨[(6,zv 28),(18,zS zak 3 zcQ),(19,zI zde),(20,zI zdV)],[(28,.vec 37 4 32 zdu.len zgo)],[]⟩
abbrev zMy (K:List PA→Prop) (zcQ:(Sl straight)) (zde:Int) (X:St→Prop) (P:Int→(Sl Line)→Bool) (S:Int→(Sl Line)→((Sl Line)×Int)):Prop:=∀ ⦃zdV:Int⦄ ⦃zdu:(Sl Line)⦄ ⦃zgo:Nat→List PV⦄,P zdV zdu=true→K (e31 (S zdV zdu))→zgo=zg zcp zdu→X (zEY zcQ zde zdV zdu zgo)
section
variable {K:List PA→Prop} {zaa:(Sl Gate)} {ev0:Int} {zqW:(Sl Gate)} {zqX:(Sl straight)} {zzP:Nat→List PV} {zzQ:Nat→List PV} {zkg:(Sl Gate)} {zkh:(Sl straight)} {zzR:Nat→List PV} {zzS:Nat→List PV} {zcQ:(Sl straight)} {zde:Int} {zzT:Nat→List PV} {zdV:Int} {zdu:(Sl Line)} {zgo:Nat→List PV} {X3:St→Prop} {P3:Int→(Sl Line)→Bool} {S3:Int→(Sl Line)→((Sl Line)×Int)}
def zzU (zcQ:(Sl straight)) (zde:Int) (S3:Int→(Sl Line)→((Sl Line)×Int)) (zdV:Int) (zdu:(Sl Line)):((Sl Line)×Int) :=
  (cond (decide (zdV < zde))
 (S3 (w64 (zdV+(1:Int))) (⟨(zdu.len+1),(zdN zdu.len zdu.get (fun _=>(s79 (zcQ.get zdV.toNat))))⟩:Sl Line))
 (zdu,(0:Int)))
def zzV (zcQ:(Sl straight)) (zde:Int) (P3:Int→(Sl Line)→Bool) (zdV:Int) (zdu:(Sl Line)):Bool :=
  (cond (decide (zdV < zde))
 (decide ((0≤zdV∧zdV < (zcQ.len:Int))) &&
 (decide ((p79 (zcQ.get zdV.toNat)=true)) &&
 (decide (((zdu.len+1) * 32≤140737488355328∧zdu.len+1≤9223372036854775807)) &&
 (P3 (w64 (zdV+(1:Int))) (⟨(zdu.len+1),(zdN zdu.len zdu.get (fun _=>(s79 (zcQ.get zdV.toNat))))⟩:Sl Line)))))
 true)
def zzW (zcQ:(Sl straight)) (zde:Int):Nat→Int→(Sl Line)→((Sl Line)×Int):=lpO (fun _ _=>default) (zzU zcQ zde)
def zzX (zcQ:(Sl straight)) (zde:Int):Nat→Int→(Sl Line)→Bool:=lpO (fun _ _=>false) (zzV zcQ zde)
def zzY (zcQ:(Sl straight)) (zde:Int) (zdV:Int) (zdu:(Sl Line)):((Sl Line)×Int):=zzW zcQ zde Fuel zdV zdu
def zzZ (zcQ:(Sl straight)) (zde:Int) (zdV:Int) (zdu:(Sl Line)):Bool:=zzX zcQ zde Fuel zdV zdu
theorem zHY (hs:zzZ zcQ zde zdV zdu=true) (hk:K (e31 (zzY zcQ zde zdV zdu))) (zsW:zgo=zg zcp zdu):z31 (Wk K) [1,1,1,1,0,1,0] [] (zEY zcQ zde zdV zdu zgo) :=
  zl (fun X=>z31 (Wk K) [1,1,1,1,0,1,0,0] [X]) (by kernel_rfl) fun X3 hX =>
  (show ∀ k, zMy K zcQ zde X3 (zzX zcQ zde k) (zzW zcQ zde k) from zfT _ _ (zzV zcQ zde) (zzU zcQ zde) (zMy K zcQ zde X3)
 (by intro _ _ _ hs;exact absurd hs Bool.false_ne_true)
 (by intro P3 S3 hX3 zdV zdu zgo hs hk zsW;subst zsW;exact hX _ (zaI (by kernel_rfl) (zc hs hk (fun hs hk=>(zaE hs fun hc hs=>And.intro hc (zaE hs fun hc hs=>And.intro hc (zaE hs fun hc hs=>And.intro hc (hX3 hs hk (zf4 (enc:=zcp) (f:=zdu.get) (h:=(fun _=>(s79 (zcQ.get zdV.toNat)))) rfl rfl)))))) (fun hs hk=>((zdI hk):Wk K [.one (.sl zdu.len 4 (fun i=>zcp (zdu.get i))),.one (.int .i64 (0:Int))])))))) _ hs hk zsW
def zz0 (zcQ:(Sl straight)) (zde:Int):((Sl Line)×Int) :=
  (zzY zcQ zde (0:Int) (⟨0,(fun _=>default)⟩:Sl Line))
def zz1 (zcQ:(Sl straight)) (zde:Int):Bool :=
  (zzZ zcQ zde (0:Int) (⟨0,(fun _=>default)⟩:Sl Line))
theorem zHZ (hs:zz1 zcQ zde=true) (hk:K (e31 (zz0 zcQ zde))) (zH0:zzT=zg zak zcQ):z31 (Wk K) [1,1,1,1,0,1] [] ⟨[(6,zP (.nils)),(18,zP (.sl zcQ.len 3 zzT)),(19,zI zde),(20,zI (0:Int))],[],[]⟩:=by subst zH0;exact zaI (by kernel_rfl) (zHY hs hk rfl)
def zz2 (zkg:(Sl Gate)) (zkh:(Sl straight)):((Sl Line)×Int) :=
  (zz0 (s78 (⟨(⟨zkg⟩:list),zkh⟩:set)) ((s78 (⟨(⟨zkg⟩:list),zkh⟩:set)).len:Int))
def zz3 (zkg:(Sl Gate)) (zkh:(Sl straight)):Bool :=
  (decide ((p78 (⟨(⟨zkg⟩:list),zkh⟩:set)=true)) &&
 (zz1 (s78 (⟨(⟨zkg⟩:list),zkh⟩:set)) ((s78 (⟨(⟨zkg⟩:list),zkh⟩:set)).len:Int)))
theorem zH1 (hs:zz3 zkg zkh=true) (hk:K (e31 (zz2 zkg zkh))) (zH2:zzR=zg enc_55 zkg) (zH3:zzS=zg zak zkh):z31 (Wk K) [1,1,1] [] ⟨[(4,zp 4 0)],[(4,.box 104 [.p (.sl zkg.len 3 zzR),.p (.sl zkh.len 3 zzS)])],[]⟩:=by subst zH2;subst zH3;exact zaI (by kernel_rfl) (zaE hs fun hc hs=>And.intro (And.intro (zE enc_55 3 zkg.get) (And.intro (zE zak 3 zkh.get) hc)) (zHZ hs hk rfl))
def zz4 (ev0:Int) (zqW:(Sl Gate)) (zqX:(Sl straight)):((Sl Line)×Int) :=
  (cond (ev0 != (0:Int))
 ((⟨0,fun _=>default⟩:(Sl Line)),ev0)
 (zz2 zqW zqX))
def zz5 (ev0:Int) (zqW:(Sl Gate)) (zqX:(Sl straight)):Bool :=
  (cond (ev0 != (0:Int))
 true
 (zz3 zqW zqX))
theorem zH4 (hs:zz5 ev0 zqW zqX=true) (hk:K (e31 (zz4 ev0 zqW zqX))) (zH5:zzP=zg enc_55 zqW) (zH6:zzQ=zg zak zqX):z31 (Wk K) [1,1] [] ⟨[(4,zp 4 0),(5,zI ev0)],[(4,.box 104 [.p (.sl zqW.len 3 zzP),.p (.sl zqX.len 3 zzQ)])],[]⟩:=by subst zH5;subst zH6;exact zaI (by kernel_rfl) (zc hs hk (fun hs hk=>((wk hk (zdv (.one (.nil _ _)) (zdv (.one (.rfl _)) zhi))):Wk K [.one (.nils),.one (.int .i64 ev0)])) (fun hs hk=>(zH1 hs hk rfl rfl)))
def s31 (zaa:(Sl Gate)):((Sl Line)×Int) :=
  (zz4 ((s75 zaa).2) (((s75 zaa).1).list.Gates) (((s75 zaa).1).corners))
def p31 (zaa:(Sl Gate)):Bool :=
  (decide ((p75 zaa=true)) &&
 (zz5 ((s75 zaa).2) (((s75 zaa).1).list.Gates) (((s75 zaa).1).corners)))
end
theorem q31 (zaa:(Sl Gate)) (K:List PA→Prop) (hs:p31 zaa=true) (hk:K (e31 (s31 zaa))):vcFun Try.prog G31 zHX 31 [.one (.sl zaa.len 3 (fun i=>enc_55 (zaa.get i)))] (Wk K) :=
  zaI (by kernel_rfl) (zaE hs fun hc hs=>And.intro (And.intro (zE enc_55 3 zaa.get) hc) (zH4 hs hk rfl rfl))
def zH7 : List PA → COut
  | [.one (.sl a0_n a0_s a0_g)]=>.det (IsE enc_55 3 a0_s a0_g∧p31 (⟨a0_n,zaf a0_g⟩:(Sl Gate))=true) [.one (.sl (((s31 (⟨a0_n,zaf a0_g⟩:(Sl Gate))).1).len) 4 (fun i=>zcp (((s31 (⟨a0_n,zaf a0_g⟩:(Sl Gate))).1).get i))),.one (.int .i64 ((s31 (⟨a0_n,zaf a0_g⟩:(Sl Gate))).2))]
  | _=>.no
theorem zMz:zaj Try.prog 31:=⟨_,rfl,rfl,by kernel_rfl⟩
theorem zSq:Ok Try.prog 31 zH7:=zfo zPG zMz fun args K h=>by
  unfold zH7 at h
  split at h
  · rename_i a0_n a0_s a0_g
    obtain ⟨⟨⟨rfl,a0_f,rfl⟩,hs⟩,hk⟩:=h
    try rw [zae a0_f] at hs
    try rw [zae a0_f] at hk
    exact ⟨_,zeL zeM _,(fun _ _=>[]),(fun _=>false),zHX,q31 (⟨a0_n,a0_f⟩:(Sl Gate)) K hs hk⟩
  · exact h.elim
abbrev T34:Tabs:=Tabs.nil
theorem zPH:TabsOk Try.prog T34:=TabsOk.nil
abbrev G34:Ctrs:=csm T34 (fun _ _=>[]) (fun _=>false)
def zH8:Ann:=⟨26,[(0,zK [0,1] []),(1,zK [0,1,10] []),(2,zK [4] []),(3,zK [0,1,5] []),(4,zK [0,1,5,14] []),(5,zK [0,1,5] []),(6,zK [0,1,5,25] []),(7,zK [4] []),(8,zK [4] [])],
 [(4,zK [0,1,5] [])],
 [(3,zK [0,1] [])],
 [],[]⟩
abbrev R34:=Bool
abbrev e34 (r:R34):List PA:=[.one (.bool r)]
@[irreducible] def z34:=ptF Try.prog G34 zH8 Try.f34
def zEZ (a:(Sl Line)) (b:(Sl Line)) (iv1:Int):St:=⟨[(0,zS zcp 4 a),(1,zS zcp 4 b),(5,zI iv1)],[],[]⟩
abbrev zMA (K:List PA→Prop) (a:(Sl Line)) (b:(Sl Line)) (X:St→Prop) (P:Int→Bool) (S:Int→Bool):Prop:=∀ ⦃iv1:Int⦄,P iv1=true→K (e34 (S iv1))→X (zEZ a b iv1)
section
variable {K:List PA→Prop} {a:(Sl Line)} {b:(Sl Line)} {iv1:Int} {X1:St→Prop} {P1:Int→Bool} {S1:Int→Bool}
def zz6 (a:(Sl Line)) (b:(Sl Line)) (S1:Int→Bool) (iv1:Int):Bool :=
  (cond (decide (iv1 < (a.len : Int)))
 (cond (!(match (match ((a.get iv1.toNat).Slope.Num == (b.get iv1.toNat).Slope.Num) with | true => (match ((a.get iv1.toNat).Slope.Den == (b.get iv1.toNat).Slope.Den) with | true => true | false => false) | false => false) with | true => (match (match ((a.get iv1.toNat).Start.Num == (b.get iv1.toNat).Start.Num) with | true => (match ((a.get iv1.toNat).Start.Den == (b.get iv1.toNat).Start.Den) with | true => true | false => false) | false => false) with | true => true | false => false) | false => false))
 false
 (S1 (w64 (iv1+(1:Int)))))
 true)
def zz7 (a:(Sl Line)) (b:(Sl Line)) (P1:Int→Bool) (iv1:Int):Bool :=
  (cond (decide (iv1 < (a.len : Int)))
 (decide ((0≤iv1∧iv1 < (a.len:Int))) &&
 (decide ((0≤iv1∧iv1 < (b.len:Int))) &&
 (cond (!(match (match ((a.get iv1.toNat).Slope.Num == (b.get iv1.toNat).Slope.Num) with | true => (match ((a.get iv1.toNat).Slope.Den == (b.get iv1.toNat).Slope.Den) with | true => true | false => false) | false => false) with | true => (match (match ((a.get iv1.toNat).Start.Num == (b.get iv1.toNat).Start.Num) with | true => (match ((a.get iv1.toNat).Start.Den == (b.get iv1.toNat).Start.Den) with | true => true | false => false) | false => false) with | true => true | false => false) | false => false))
 true
 (P1 (w64 (iv1+(1:Int)))))))
 true)
def zz8 (a:(Sl Line)) (b:(Sl Line)):Nat→Int→Bool:=lpO (fun _=>default) (zz6 a b)
def zz9 (a:(Sl Line)) (b:(Sl Line)):Nat→Int→Bool:=lpO (fun _=>false) (zz7 a b)
def zAa (a:(Sl Line)) (b:(Sl Line)) (iv1:Int):Bool:=zz8 a b Fuel iv1
def zAb (a:(Sl Line)) (b:(Sl Line)) (iv1:Int):Bool:=zz9 a b Fuel iv1
theorem zH9 (hs:zAb a b iv1=true) (hk:K (e34 (zAa a b iv1))):z34 K [1,1,0,1,0] [] (zEZ a b iv1) :=
  zl (fun X=>z34 K [1,1,0,1,0,0] [X]) (by kernel_rfl) fun X1 hX =>
  (show ∀ k, zMA K a b X1 (zz9 a b k) (zz8 a b k) from zfT _ _ (zz7 a b) (zz6 a b) (zMA K a b X1)
 (by intro _ hs;exact absurd hs Bool.false_ne_true)
 (by intro P1 S1 hX1 iv1 hs hk;exact hX _ (zaI (by kernel_rfl) (zc hs hk (fun hs hk=>(zaE hs fun hc hs=>And.intro hc (zaE hs fun hc hs=>And.intro hc (zc hs hk (fun hs hk=>hk) (fun hs hk=>(hX1 hs hk)))))) (fun hs hk=>hk))))) _ hs hk
def zAc (a:(Sl Line)) (b:(Sl Line)):Bool :=
  (zAa a b (0:Int))
def zAd (a:(Sl Line)) (b:(Sl Line)):Bool :=
  (zAb a b (0:Int))
theorem zIa (hs:zAd a b=true) (hk:K (e34 (zAc a b))):z34 K [1,1] [] ⟨[(0,zS zcp 4 a),(1,zS zcp 4 b)],[],[]⟩:=zaI (by kernel_rfl) (zH9 hs hk)
def s34 (a:(Sl Line)) (b:(Sl Line)):Bool :=
  (cond ((a.len : Int) != (b.len : Int))
 false
 (zAc a b))
def p34 (a:(Sl Line)) (b:(Sl Line)):Bool :=
  (cond ((a.len : Int) != (b.len : Int))
 true
 (zAd a b))
end
theorem q34 (a:(Sl Line)) (b:(Sl Line)) (K:List PA→Prop) (hs:p34 a b=true) (hk:K (e34 (s34 a b))):vcFun Try.prog G34 zH8 34 [.one (.sl a.len 4 (fun i=>zcp (a.get i))),.one (.sl b.len 4 (fun i=>zcp (b.get i)))] K :=
  zaI (by kernel_rfl) (zc hs hk (fun hs hk=>hk) (fun hs hk=>(zIa hs hk)))
def zIb : List PA → COut
  | [.one (.sl a0_n a0_s a0_g),.one (.sl a1_n a1_s a1_g)]=>.det (IsE zcp 4 a0_s a0_g∧IsE zcp 4 a1_s a1_g∧p34 (⟨a0_n,zlr a0_g⟩:(Sl Line)) (⟨a1_n,zlr a1_g⟩:(Sl Line))=true) [.one (.bool (s34 (⟨a0_n,zlr a0_g⟩:(Sl Line)) (⟨a1_n,zlr a1_g⟩:(Sl Line))))]
  | _=>.no
theorem zMB:zaj Try.prog 34:=⟨_,rfl,rfl,by kernel_rfl⟩
theorem zSr:Ok Try.prog 34 zIb:=zaP zPH zMB fun args K h=>by
  unfold zIb at h
  split at h
  · rename_i a0_n a0_s a0_g a1_n a1_s a1_g
    obtain ⟨⟨⟨rfl,a0_f,rfl⟩,⟨rfl,a1_f,rfl⟩,hs⟩,hk⟩:=h
    try rw [zfq a0_f] at hs
    try rw [zfq a0_f] at hk
    try rw [zfq a1_f] at hs
    try rw [zfq a1_f] at hk
    exact ⟨(fun _ _=>[]),(fun _=>false),zH8,q34 (⟨a0_n,a0_f⟩:(Sl Line)) (⟨a1_n,a1_f⟩:(Sl Line)) K hs hk⟩
  · exact h.elim
abbrev T84:Tabs:=((Tabs.nil.addF 65 zyA).addF 66 zyH)
theorem zPI:TabsOk Try.prog T84:=((TabsOk.nil.addF zPb).addF zPe)
abbrev G84:Ctrs:=csm T84 (fun _ _=>[]) (fun _=>false)
def zIc:Ann:=⟨25,[(0,zK [0,1] []),(1,zK [0,1,5] []),(2,zK [0,5,8,9,10] []),(3,zK [0,5,8,9,10,11] [20]),(4,zK [0,5,7,8,9,10] [20]),(5,zK [0,5,8,9,10] [20]),(6,zK [0,5,8,9,10] [20]),(7,zK [4] [])],
 [(3,⟨[0,5,8,9,10],[20],[(5,20,55,fun _=>enc_55 default)],[],[],[],[]⟩)],
 [],
 [],[]⟩
abbrev R84:=Bool
abbrev e84 (r:R84):List PA:=[.one (.bool r)]
@[irreducible] def z84:=ptF Try.prog G84 zIc Try.f84
def zE0 (zaa:(Sl Gate)) (l_a1:(Sl Int)) (zdL:Int) (zc9:(Sl Gate)) (zgp:Nat→List PV):St:=⟨[(0,zS enc_55 3 zaa),(5,zv 20),(8,zS zal 1 l_a1),(9,zI (l_a1.len:Int)),(10,zI zdL)],[(20,.vec 55 3 24 zc9.len zgp)],[]⟩
abbrev zMC (K:List PA→Prop) (zaa:(Sl Gate)) (l_a1:(Sl Int)) (X:St→Prop) (P:Int→(Sl Gate)→Bool) (S:Int→(Sl Gate)→Bool):Prop:=∀ ⦃zdL:Int⦄ ⦃zc9:(Sl Gate)⦄ ⦃zgp:Nat→List PV⦄,P zdL zc9=true→K (e84 (S zdL zc9))→zgp=zg enc_55 zc9→X (zE0 zaa l_a1 zdL zc9 zgp)
section
variable {K:List PA→Prop} {zaa:(Sl Gate)} {l_a1:(Sl Int)} {zdL:Int} {zc9:(Sl Gate)} {zgp:Nat→List PV} {X0:St→Prop} {P0:Int→(Sl Gate)→Bool} {S0:Int→(Sl Gate)→Bool}
def zAe (zaa:(Sl Gate)) (l_a1:(Sl Int)) (S0:Int→(Sl Gate)→Bool) (zdL:Int) (zc9:(Sl Gate)):Bool :=
  (cond (decide (zdL < (l_a1.len : Int)))
 (S0 (w64 (zdL+(1:Int))) (⟨(zc9.len+1),(zdN zc9.len zc9.get (fun _=>(zaa.get ((l_a1.get zdL.toNat).toNat))))⟩:Sl Gate))
 (s66 (s65 zc9)))
def zAf (zaa:(Sl Gate)) (l_a1:(Sl Int)) (P0:Int→(Sl Gate)→Bool) (zdL:Int) (zc9:(Sl Gate)):Bool :=
  (cond (decide (zdL < (l_a1.len : Int)))
 (decide ((0≤zdL∧zdL < (l_a1.len:Int))) &&
 (decide ((0≤(l_a1.get zdL.toNat)∧(l_a1.get zdL.toNat) < (zaa.len:Int))) &&
 (decide (((zc9.len+1) * 24≤140737488355328∧zc9.len+1≤9223372036854775807)) &&
 (P0 (w64 (zdL+(1:Int))) (⟨(zc9.len+1),(zdN zc9.len zc9.get (fun _=>(zaa.get ((l_a1.get zdL.toNat).toNat))))⟩:Sl Gate)))))
 (decide ((p65 zc9=true)) &&
 (decide ((p66 (s65 zc9)=true)) &&
 true)))
def zAg (zaa:(Sl Gate)) (l_a1:(Sl Int)):Nat→Int→(Sl Gate)→Bool:=lpO (fun _ _=>default) (zAe zaa l_a1)
def zAh (zaa:(Sl Gate)) (l_a1:(Sl Int)):Nat→Int→(Sl Gate)→Bool:=lpO (fun _ _=>false) (zAf zaa l_a1)
def zAi (zaa:(Sl Gate)) (l_a1:(Sl Int)) (zdL:Int) (zc9:(Sl Gate)):Bool:=zAg zaa l_a1 Fuel zdL zc9
def zAj (zaa:(Sl Gate)) (l_a1:(Sl Int)) (zdL:Int) (zc9:(Sl Gate)):Bool:=zAh zaa l_a1 Fuel zdL zc9
theorem zId (hs:zAj zaa l_a1 zdL zc9=true) (hk:K (e84 (zAi zaa l_a1 zdL zc9))) (zsX:zgp=zg enc_55 zc9):z84 K [1,1,0,1,0] [] (zE0 zaa l_a1 zdL zc9 zgp) :=
  zl (fun X=>z84 K [1,1,0,1,0,0] [X]) (by kernel_rfl) fun X0 hX =>
  (show ∀ k, zMC K zaa l_a1 X0 (zAh zaa l_a1 k) (zAg zaa l_a1 k) from zfT _ _ (zAf zaa l_a1) (zAe zaa l_a1) (zMC K zaa l_a1 X0)
 (by intro _ _ _ hs;exact absurd hs Bool.false_ne_true)
 (by intro P0 S0 hX0 zdL zc9 zgp hs hk zsX;subst zsX;exact hX _ (zaI (by kernel_rfl) (zc hs hk (fun hs hk=>(zaE hs fun hc hs=>And.intro hc (zaE hs fun hc hs=>And.intro hc (zaE hs fun hc hs=>And.intro hc (hX0 hs hk (zf4 (enc:=enc_55) (f:=zc9.get) (h:=(fun _=>(zaa.get ((l_a1.get zdL.toNat).toNat)))) rfl rfl)))))) (fun hs hk=>(zaE hs fun hc hs=>And.intro (And.intro (zE enc_55 3 zc9.get) hc) (zaE hs fun hc hs=>And.intro (And.intro (zE enc_55 3 ((s65 zc9).list.Gates.get)) (And.intro (zE zak 3 ((s65 zc9).corners.get)) hc)) hk))))))) _ hs hk zsX
def s84 (zaa:(Sl Gate)) (l_a1:(Sl Int)):Bool :=
  (zAi zaa l_a1 (0:Int) (⟨0,(fun _=>default)⟩:Sl Gate))
def p84 (zaa:(Sl Gate)) (l_a1:(Sl Int)):Bool :=
  (zAj zaa l_a1 (0:Int) (⟨0,(fun _=>default)⟩:Sl Gate))
end
theorem q84 (zaa:(Sl Gate)) (l_a1:(Sl Int)) (K:List PA→Prop) (hs:p84 zaa l_a1=true) (hk:K (e84 (s84 zaa l_a1))):vcFun Try.prog G84 zIc 84 [.one (.sl zaa.len 3 (fun i=>enc_55 (zaa.get i))),.one (.sl l_a1.len 1 (fun i=>zal (l_a1.get i)))] K :=
  zaI (by kernel_rfl) (zId hs hk rfl)
def zIe : List PA → COut
  | [.one (.sl a0_n a0_s a0_g),.one (.sl a1_n a1_s a1_g)]=>.det (IsE enc_55 3 a0_s a0_g∧IsE zal 1 a1_s a1_g∧p84 (⟨a0_n,zaf a0_g⟩:(Sl Gate)) (⟨a1_n,zbb a1_g⟩:(Sl Int))=true) [.one (.bool (s84 (⟨a0_n,zaf a0_g⟩:(Sl Gate)) (⟨a1_n,zbb a1_g⟩:(Sl Int))))]
  | _=>.no
theorem zMD:zaj Try.prog 84:=⟨_,rfl,rfl,by kernel_rfl⟩
theorem zSs:Ok Try.prog 84 zIe:=zaP zPI zMD fun args K h=>by
  unfold zIe at h
  split at h
  · rename_i a0_n a0_s a0_g a1_n a1_s a1_g
    obtain ⟨⟨⟨rfl,a0_f,rfl⟩,⟨rfl,a1_f,rfl⟩,hs⟩,hk⟩:=h
    try rw [zae a0_f] at hs
    try rw [zae a0_f] at hk
    try rw [zbG a1_f] at hs
    try rw [zbG a1_f] at hk
    exact ⟨(fun _ _=>[]),(fun _=>false),zIc,q84 (⟨a0_n,a0_f⟩:(Sl Gate)) (⟨a1_n,a1_f⟩:(Sl Int)) K hs hk⟩
  · exact h.elim
abbrev T38:Tabs:=((Tabs.nil.addF 64 zwr).addF 84 zIe)
theorem zPJ:TabsOk Try.prog T38:=((TabsOk.nil.addF zN3).addF zSs)
abbrev G38:Ctrs:=csm T38 (fun _ _=>[]) (fun _=>false)
def zIf:Ann:=⟨66,[(0,zK [0] []),(1,zK [0,12] []),(2,zK [2,3] []),(3,zK [0,4] []),(4,zK [0,4,15,16] []),(5,zK [0,4,15,16,17] []),(6,zK [0,4,5,15,16] []),(7,zK [0,4,5,6,15,16] []),(8,zK [0,4,5,6,15,16,23] []),(9,zK [0,4,5,6,15,16] []),(10,zK [0,4,5,6,15,16,31] []),(11,zK [2,3] [34]),(12,zK [0,4,15,16] []),(13,zK [0,4,36,37] []),(14,zK [0,4,36,37,38] []),(15,zK [0,4,7,36,37] []),(16,zK [0,4,7,8,36,37] []),(17,zK [0,4,7,8,36,37,44] []),(18,zK [0,4,7,8,36,37] []),(19,zK [0,4,7,8,9,36,37] []),(20,zK [0,4,7,8,9,36,37,51] []),(21,zK [0,4,7,8,9,36,37] []),(22,zK [0,4,7,8,9,36,37,60] []),(23,zK [2,3] [64]),(24,zK [0,4,36,37] []),(25,zK [2,3] [])],
 [(5,zK [0,4,15,16] []),(8,zK [0,4,5,6,15,16] []),(14,zK [0,4,36,37] []),(17,zK [0,4,7,8,36,37] []),(20,zK [0,4,7,8,9,36,37] [])],
 [(2,zK [0,12] []),(3,zK [0] []),(13,zK [0,4] []),(11,zK [0,4,5,6,15,16,31] []),(23,zK [0,4,7,8,9,36,37,60] [])],
 [],[]⟩
abbrev R38:=((Sl Int)×Int)
abbrev e38 (r:R38):List PA:=[.one (.sl r.1.len 1 (fun i=>zal (r.1.get i))),.one (.int .i64 r.2)]
@[irreducible] def z38:=ptF Try.prog G38 zIf Try.f38
def zE1 (zaa:(Sl Gate)) (zeg:Int):St:=⟨[(0,zS enc_55 3 zaa),(4,zI (zaa.len:Int)),(15,zI (zaa.len:Int)),(16,zI zeg)],[],[]⟩
abbrev zDF (K:List PA→Prop) (zaa:(Sl Gate)) (X:St→Prop) (P:Int→Bool) (S:Int→((Sl Int)×Int)):Prop:=∀ ⦃zeg:Int⦄,P zeg=true→K (e38 (S zeg))→X (zE1 zaa zeg)
def zE2 (zaa:(Sl Gate)) (iv3:Int) (jv3:Int) (ze5:Int):St:=⟨[(0,zS enc_55 3 zaa),(4,zI (zaa.len:Int)),(5,zI iv3),(6,zI jv3),(15,zI (zaa.len:Int)),(16,zI ze5)],[],[]⟩
abbrev zIg (K:List PA→Prop) (zaa:(Sl Gate)) (X:St→Prop) (P:Int→Int→Int→Bool) (S:Int→Int→Int→((Sl Int)×Int)):Prop:=∀ ⦃iv3:Int⦄ ⦃jv3:Int⦄ ⦃ze5:Int⦄,P iv3 jv3 ze5=true→K (e38 (S iv3 jv3 ze5))→X (zE2 zaa iv3 jv3 ze5)
def zE3 (zaa:(Sl Gate)) (zeh:Int):St:=⟨[(0,zS enc_55 3 zaa),(4,zI (zaa.len:Int)),(36,zI (zaa.len:Int)),(37,zI zeh)],[],[]⟩
abbrev zAk (K:List PA→Prop) (zaa:(Sl Gate)) (X:St→Prop) (P:Int→Bool) (S:Int→((Sl Int)×Int)):Prop:=∀ ⦃zeh:Int⦄,P zeh=true→K (e38 (S zeh))→X (zE3 zaa zeh)
def zE4 (zaa:(Sl Gate)) (iv7:Int) (jv7:Int) (ze6:Int):St:=⟨[(0,zS enc_55 3 zaa),(4,zI (zaa.len:Int)),(7,zI iv7),(8,zI jv7),(36,zI (zaa.len:Int)),(37,zI ze6)],[],[]⟩
abbrev zDG (K:List PA→Prop) (zaa:(Sl Gate)) (X:St→Prop) (P:Int→Int→Int→Bool) (S:Int→Int→Int→((Sl Int)×Int)):Prop:=∀ ⦃iv7:Int⦄ ⦃jv7:Int⦄ ⦃ze6:Int⦄,P iv7 jv7 ze6=true→K (e38 (S iv7 jv7 ze6))→X (zE4 zaa iv7 jv7 ze6)
def zE5 (zaa:(Sl Gate)) (iv8:Int) (jv8:Int) (kv8:Int) (ze7:Int):St:=⟨[(0,zS enc_55 3 zaa),(4,zI (zaa.len:Int)),(7,zI iv8),(8,zI jv8),(9,zI kv8),(36,zI (zaa.len:Int)),(37,zI ze7)],[],[]⟩
abbrev zIh (K:List PA→Prop) (zaa:(Sl Gate)) (X:St→Prop) (P:Int→Int→Int→Int→Bool) (S:Int→Int→Int→Int→((Sl Int)×Int)):Prop:=∀ ⦃iv8:Int⦄ ⦃jv8:Int⦄ ⦃kv8:Int⦄ ⦃ze7:Int⦄,P iv8 jv8 kv8 ze7=true→K (e38 (S iv8 jv8 kv8 ze7))→X (zE5 zaa iv8 jv8 kv8 ze7)
section
variable {K:List PA→Prop} {zaa:(Sl Gate)} {zaZ:Bool} {zeg:Int} {X2:St→Prop} {P2:Int→Bool} {S2:Int→((Sl Int)×Int)} {iv3:Int} {jv3:Int} {ze5:Int} {X3:St→Prop} {P3:Int→Int→Int→Bool} {S3:Int→Int→Int→((Sl Int)×Int)} {iv5:Int} {jv5:Int} {zsY:Int} {zsZ:Bool} {zeh:Int} {X6:St→Prop} {P6:Int→Bool} {S6:Int→((Sl Int)×Int)} {iv7:Int} {jv7:Int} {ze6:Int} {X7:St→Prop} {P7:Int→Int→Int→Bool} {S7:Int→Int→Int→((Sl Int)×Int)} {iv8:Int} {jv8:Int} {kv8:Int} {ze7:Int} {X8:St→Prop} {P8:Int→Int→Int→Int→Bool} {S8:Int→Int→Int→Int→((Sl Int)×Int)} {iv9:Int} {jv9:Int} {kv9:Int} {zs3:Int} {zs4:Bool}
def zAl (S6:Int→((Sl Int)×Int)) (S7:Int→Int→Int→((Sl Int)×Int)) (S8:Int→Int→Int→Int→((Sl Int)×Int)) (zaa:(Sl Gate)) (iv9:Int) (jv9:Int) (kv9:Int) (zs3:Int) (zs4:Bool):((Sl Int)×Int) :=
  (cond zs4
 ((⟨3,(zfY iv9 [iv9,jv9,kv9])⟩:(Sl Int)),(0:Int))
 (S8 iv9 jv9 (w64 (kv9+(1:Int))) zs3))
def zAm (P6:Int→Bool) (P7:Int→Int→Int→Bool) (P8:Int→Int→Int→Int→Bool) (zaa:(Sl Gate)) (iv9:Int) (jv9:Int) (kv9:Int) (zs3:Int) (zs4:Bool):Bool :=
  (cond zs4
 true
 (P8 iv9 jv9 (w64 (kv9+(1:Int))) zs3))
theorem zIi (hX6:zAk K zaa X6 P6 S6) (hX7:zDG K zaa X7 P7 S7) (hX8:zIh K zaa X8 P8 S8) (hs:zAm P6 P7 P8 zaa iv9 jv9 kv9 zs3 zs4=true) (hk:K (e38 (zAl S6 S7 S8 zaa iv9 jv9 kv9 zs3 zs4))):z38 (Wk K) [1,1,1,1,0,1,0,0,1,1,0,0,1,1,0,0,1,0,0,1,0,0,1,0,0,1] [X6,X7,X8] ⟨[(0,zS enc_55 3 zaa),(4,zI (zaa.len:Int)),(7,zI iv9),(8,zI jv9),(9,zI kv9),(36,zI (zaa.len:Int)),(37,zI zs3),(60,zB zs4)],[],[]⟩:=zaI (by kernel_rfl) (zc hs hk (fun hs hk=>((zdI (Eq.mpr (congrArg K (congrArg (fun (g_:Nat→List PV)=>([.one (.sl 3 1 g_),.one (.int .i64 (0:Int))]:List PA)) (zfn (enc:=zal) (x:=iv9) (y:=jv9) (r:=[kv9])))) hk)):Wk K [.one (.sl 3 1 (zec [(zal iv9),(zal jv9),(zal kv9)])),.one (.int .i64 (0:Int))])) (fun hs hk=>(hX8 hs hk)))
def zAn (S6:Int→((Sl Int)×Int)) (S7:Int→Int→Int→((Sl Int)×Int)) (zaa:(Sl Gate)) (S8:Int→Int→Int→Int→((Sl Int)×Int)) (iv8:Int) (jv8:Int) (kv8:Int) (ze7:Int):((Sl Int)×Int) :=
  (cond (decide (kv8 < (zaa.len : Int)))
 (zAl S6 S7 S8 zaa iv8 jv8 kv8 ze7 (!(s84 zaa (⟨3,zbb (zec [(zal iv8),(zal jv8),(zal kv8)])⟩:(Sl Int)))))
 (S7 iv8 (w64 (jv8+(1:Int))) ze7))
def zAo (P6:Int→Bool) (P7:Int→Int→Int→Bool) (zaa:(Sl Gate)) (P8:Int→Int→Int→Int→Bool) (iv8:Int) (jv8:Int) (kv8:Int) (ze7:Int):Bool :=
  (cond (decide (kv8 < (zaa.len : Int)))
 (decide ((p84 zaa (⟨3,zbb (zec [(zal iv8),(zal jv8),(zal kv8)])⟩:(Sl Int))=true)) &&
 (zAm P6 P7 P8 zaa iv8 jv8 kv8 ze7 (!(s84 zaa (⟨3,zbb (zec [(zal iv8),(zal jv8),(zal kv8)])⟩:(Sl Int))))))
 (P7 iv8 (w64 (jv8+(1:Int))) ze7))
def zAp (S6:Int→((Sl Int)×Int)) (S7:Int→Int→Int→((Sl Int)×Int)) (zaa:(Sl Gate)):Nat→Int→Int→Int→Int→((Sl Int)×Int):=lpO (fun _ _ _ _=>default) (zAn S6 S7 zaa)
def zAq (P6:Int→Bool) (P7:Int→Int→Int→Bool) (zaa:(Sl Gate)):Nat→Int→Int→Int→Int→Bool:=lpO (fun _ _ _ _=>false) (zAo P6 P7 zaa)
def zAr (S6:Int→((Sl Int)×Int)) (S7:Int→Int→Int→((Sl Int)×Int)) (zaa:(Sl Gate)) (iv8:Int) (jv8:Int) (kv8:Int) (ze7:Int):((Sl Int)×Int):=zAp S6 S7 zaa Fuel iv8 jv8 kv8 ze7
def zAs (P6:Int→Bool) (P7:Int→Int→Int→Bool) (zaa:(Sl Gate)) (iv8:Int) (jv8:Int) (kv8:Int) (ze7:Int):Bool:=zAq P6 P7 zaa Fuel iv8 jv8 kv8 ze7
theorem zIj (hX6:zAk K zaa X6 P6 S6) (hX7:zDG K zaa X7 P7 S7) (hs:zAs P6 P7 zaa iv8 jv8 kv8 ze7=true) (hk:K (e38 (zAr S6 S7 zaa iv8 jv8 kv8 ze7))):z38 (Wk K) [1,1,1,1,0,1,0,0,1,1,0,0,1,1,0,0,1,0,0,1,0] [X6,X7] (zE5 zaa iv8 jv8 kv8 ze7) :=
  zl (fun X=>z38 (Wk K) [1,1,1,1,0,1,0,0,1,1,0,0,1,1,0,0,1,0,0,1,0,0] [X6,X7,X]) (by kernel_rfl) fun X8 hX =>
  (show ∀ k, zIh K zaa X8 (zAq P6 P7 zaa k) (zAp S6 S7 zaa k) from zfT _ _ (zAo P6 P7 zaa) (zAn S6 S7 zaa) (zIh K zaa X8)
 (by intro _ _ _ _ hs;exact absurd hs Bool.false_ne_true)
 (by intro P8 S8 hX8 iv8 jv8 kv8 ze7 hs hk;exact hX _ (zaI (by kernel_rfl) (zc hs hk (fun hs hk=>(zaE hs fun hc hs=>And.intro (And.intro (zE enc_55 3 zaa.get) (And.intro ((zgI [kv8]):IsE zal 1 1 (zec [(zal iv8),(zal jv8),(zal kv8)])) hc)) (zIi hX6 hX7 hX8 hs hk))) (fun hs hk=>(hX7 hs hk)))))) _ hs hk
def zAt (S6:Int→((Sl Int)×Int)) (zaa:(Sl Gate)) (S7:Int→Int→Int→((Sl Int)×Int)) (iv7:Int) (jv7:Int) (ze6:Int):((Sl Int)×Int) :=
  (cond (decide (jv7 < (zaa.len : Int)))
 (zAr S6 S7 zaa iv7 jv7 (w64 (jv7+(1:Int))) ze6)
 (S6 (w64 (ze6+(1:Int)))))
def zAu (P6:Int→Bool) (zaa:(Sl Gate)) (P7:Int→Int→Int→Bool) (iv7:Int) (jv7:Int) (ze6:Int):Bool :=
  (cond (decide (jv7 < (zaa.len : Int)))
 (zAs P6 P7 zaa iv7 jv7 (w64 (jv7+(1:Int))) ze6)
 (P6 (w64 (ze6+(1:Int)))))
def zAv (S6:Int→((Sl Int)×Int)) (zaa:(Sl Gate)):Nat→Int→Int→Int→((Sl Int)×Int):=lpO (fun _ _ _=>default) (zAt S6 zaa)
def zAw (P6:Int→Bool) (zaa:(Sl Gate)):Nat→Int→Int→Int→Bool:=lpO (fun _ _ _=>false) (zAu P6 zaa)
def zAx (S6:Int→((Sl Int)×Int)) (zaa:(Sl Gate)) (iv7:Int) (jv7:Int) (ze6:Int):((Sl Int)×Int):=zAv S6 zaa Fuel iv7 jv7 ze6
def zAy (P6:Int→Bool) (zaa:(Sl Gate)) (iv7:Int) (jv7:Int) (ze6:Int):Bool:=zAw P6 zaa Fuel iv7 jv7 ze6
theorem zIk (hX6:zAk K zaa X6 P6 S6) (hs:zAy P6 zaa iv7 jv7 ze6=true) (hk:K (e38 (zAx S6 zaa iv7 jv7 ze6))):z38 (Wk K) [1,1,1,1,0,1,0,0,1,1,0,0,1,1,0] [X6] (zE4 zaa iv7 jv7 ze6) :=
  zl (fun X=>z38 (Wk K) [1,1,1,1,0,1,0,0,1,1,0,0,1,1,0,0] [X6,X]) (by kernel_rfl) fun X7 hX =>
  (show ∀ k, zDG K zaa X7 (zAw P6 zaa k) (zAv S6 zaa k) from zfT _ _ (zAu P6 zaa) (zAt S6 zaa) (zDG K zaa X7)
 (by intro _ _ _ hs;exact absurd hs Bool.false_ne_true)
 (by intro P7 S7 hX7 iv7 jv7 ze6 hs hk;exact hX _ (zaI (by kernel_rfl) (zc hs hk (fun hs hk=>(zIj hX6 hX7 hs hk)) (fun hs hk=>(hX6 hs hk)))))) _ hs hk
def zAz (zaa:(Sl Gate)) (S6:Int→((Sl Int)×Int)) (zeh:Int):((Sl Int)×Int) :=
  (cond (decide (zeh < (zaa.len : Int)))
 (zAx S6 zaa zeh (w64 (zeh+(1:Int))) zeh)
 ((⟨0,fun _=>default⟩:(Sl Int)),(7:Int)))
def zAA (zaa:(Sl Gate)) (P6:Int→Bool) (zeh:Int):Bool :=
  (cond (decide (zeh < (zaa.len : Int)))
 (zAy P6 zaa zeh (w64 (zeh+(1:Int))) zeh)
 true)
def zAB (zaa:(Sl Gate)):Nat→Int→((Sl Int)×Int):=lpO (fun _=>default) (zAz zaa)
def zAC (zaa:(Sl Gate)):Nat→Int→Bool:=lpO (fun _=>false) (zAA zaa)
def zAD (zaa:(Sl Gate)) (zeh:Int):((Sl Int)×Int):=zAB zaa Fuel zeh
def zAE (zaa:(Sl Gate)) (zeh:Int):Bool:=zAC zaa Fuel zeh
theorem zIl (hs:zAE zaa zeh=true) (hk:K (e38 (zAD zaa zeh))):z38 (Wk K) [1,1,1,1,0,1,0] [] (zE3 zaa zeh) :=
  zl (fun X=>z38 (Wk K) [1,1,1,1,0,1,0,0] [X]) (by kernel_rfl) fun X6 hX =>
  (show ∀ k, zAk K zaa X6 (zAC zaa k) (zAB zaa k) from zfT _ _ (zAA zaa) (zAz zaa) (zAk K zaa X6)
 (by intro _ hs;exact absurd hs Bool.false_ne_true)
 (by intro P6 S6 hX6 zeh hs hk;exact hX _ (zaI (by kernel_rfl) (zc hs hk (fun hs hk=>(zIk hX6 hs hk)) (fun hs hk=>((wk hk (zdv (.one (.nil _ _)) (zdv (.one (.rfl _)) zhi))):Wk K [.one (.nils),.one (.int .i64 (7:Int))])))))) _ hs hk
def zAF (S2:Int→((Sl Int)×Int)) (S3:Int→Int→Int→((Sl Int)×Int)) (zaa:(Sl Gate)) (iv5:Int) (jv5:Int) (zsY:Int) (zsZ:Bool):((Sl Int)×Int) :=
  (cond zsZ
 ((⟨2,(zfY iv5 [iv5,jv5])⟩:(Sl Int)),(0:Int))
 (S3 iv5 (w64 (jv5+(1:Int))) zsY))
def zAG (P2:Int→Bool) (P3:Int→Int→Int→Bool) (zaa:(Sl Gate)) (iv5:Int) (jv5:Int) (zsY:Int) (zsZ:Bool):Bool :=
  (cond zsZ
 true
 (P3 iv5 (w64 (jv5+(1:Int))) zsY))
theorem zIm (hX2:zDF K zaa X2 P2 S2) (hX3:zIg K zaa X3 P3 S3) (hs:zAG P2 P3 zaa iv5 jv5 zsY zsZ=true) (hk:K (e38 (zAF S2 S3 zaa iv5 jv5 zsY zsZ))):z38 (Wk K) [1,1,1,0,1,0,0,1,1,0,0,1,1,0,0,1,0,0,1] [X2,X3] ⟨[(0,zS enc_55 3 zaa),(4,zI (zaa.len:Int)),(5,zI iv5),(6,zI jv5),(15,zI (zaa.len:Int)),(16,zI zsY),(31,zB zsZ)],[],[]⟩:=zaI (by kernel_rfl) (zc hs hk (fun hs hk=>((zdI (Eq.mpr (congrArg K (congrArg (fun (g_:Nat→List PV)=>([.one (.sl 2 1 g_),.one (.int .i64 (0:Int))]:List PA)) (zfn (enc:=zal) (x:=iv5) (y:=jv5) (r:=[])))) hk)):Wk K [.one (.sl 2 1 (zec [(zal iv5),(zal jv5)])),.one (.int .i64 (0:Int))])) (fun hs hk=>(hX3 hs hk)))
def zAH (zaa:(Sl Gate)):((Sl Int)×Int) :=
  (zAD zaa (0:Int))
def zAI (zaa:(Sl Gate)):Bool :=
  (zAE zaa (0:Int))
theorem zIn (hs:zAI zaa=true) (hk:K (e38 (zAH zaa))):z38 (Wk K) [1,1,1,1] [] ⟨[(0,zS enc_55 3 zaa),(4,zI (zaa.len:Int))],[],[]⟩:=zaI (by kernel_rfl) (zIl hs hk)
def zAJ (S2:Int→((Sl Int)×Int)) (zaa:(Sl Gate)) (S3:Int→Int→Int→((Sl Int)×Int)) (iv3:Int) (jv3:Int) (ze5:Int):((Sl Int)×Int) :=
  (cond (decide (jv3 < (zaa.len : Int)))
 (zAF S2 S3 zaa iv3 jv3 ze5 (!(s84 zaa (⟨2,zbb (zec [(zal iv3),(zal jv3)])⟩:(Sl Int)))))
 (S2 (w64 (ze5+(1:Int)))))
def zAK (P2:Int→Bool) (zaa:(Sl Gate)) (P3:Int→Int→Int→Bool) (iv3:Int) (jv3:Int) (ze5:Int):Bool :=
  (cond (decide (jv3 < (zaa.len : Int)))
 (decide ((p84 zaa (⟨2,zbb (zec [(zal iv3),(zal jv3)])⟩:(Sl Int))=true)) &&
 (zAG P2 P3 zaa iv3 jv3 ze5 (!(s84 zaa (⟨2,zbb (zec [(zal iv3),(zal jv3)])⟩:(Sl Int))))))
 (P2 (w64 (ze5+(1:Int)))))
def zAL (S2:Int→((Sl Int)×Int)) (zaa:(Sl Gate)):Nat→Int→Int→Int→((Sl Int)×Int):=lpO (fun _ _ _=>default) (zAJ S2 zaa)
def zAM (P2:Int→Bool) (zaa:(Sl Gate)):Nat→Int→Int→Int→Bool:=lpO (fun _ _ _=>false) (zAK P2 zaa)
def zAN (S2:Int→((Sl Int)×Int)) (zaa:(Sl Gate)) (iv3:Int) (jv3:Int) (ze5:Int):((Sl Int)×Int):=zAL S2 zaa Fuel iv3 jv3 ze5
def zAO (P2:Int→Bool) (zaa:(Sl Gate)) (iv3:Int) (jv3:Int) (ze5:Int):Bool:=zAM P2 zaa Fuel iv3 jv3 ze5
theorem zIo (hX2:zDF K zaa X2 P2 S2) (hs:zAO P2 zaa iv3 jv3 ze5=true) (hk:K (e38 (zAN S2 zaa iv3 jv3 ze5))):z38 (Wk K) [1,1,1,0,1,0,0,1,1,0,0,1,1,0] [X2] (zE2 zaa iv3 jv3 ze5) :=
  zl (fun X=>z38 (Wk K) [1,1,1,0,1,0,0,1,1,0,0,1,1,0,0] [X2,X]) (by kernel_rfl) fun X3 hX =>
  (show ∀ k, zIg K zaa X3 (zAM P2 zaa k) (zAL S2 zaa k) from zfT _ _ (zAK P2 zaa) (zAJ S2 zaa) (zIg K zaa X3)
 (by intro _ _ _ hs;exact absurd hs Bool.false_ne_true)
 (by intro P3 S3 hX3 iv3 jv3 ze5 hs hk;exact hX _ (zaI (by kernel_rfl) (zc hs hk (fun hs hk=>(zaE hs fun hc hs=>And.intro (And.intro (zE enc_55 3 zaa.get) (And.intro ((zgI []):IsE zal 1 1 (zec [(zal iv3),(zal jv3)])) hc)) (zIm hX2 hX3 hs hk))) (fun hs hk=>(hX2 hs hk)))))) _ hs hk
def zAP (zaa:(Sl Gate)) (S2:Int→((Sl Int)×Int)) (zeg:Int):((Sl Int)×Int) :=
  (cond (decide (zeg < (zaa.len : Int)))
 (zAN S2 zaa zeg (w64 (zeg+(1:Int))) zeg)
 (zAH zaa))
def zAQ (zaa:(Sl Gate)) (P2:Int→Bool) (zeg:Int):Bool :=
  (cond (decide (zeg < (zaa.len : Int)))
 (zAO P2 zaa zeg (w64 (zeg+(1:Int))) zeg)
 (zAI zaa))
def zAR (zaa:(Sl Gate)):Nat→Int→((Sl Int)×Int):=lpO (fun _=>default) (zAP zaa)
def zAS (zaa:(Sl Gate)):Nat→Int→Bool:=lpO (fun _=>false) (zAQ zaa)
def zAT (zaa:(Sl Gate)) (zeg:Int):((Sl Int)×Int):=zAR zaa Fuel zeg
def zAU (zaa:(Sl Gate)) (zeg:Int):Bool:=zAS zaa Fuel zeg
theorem zIp (hs:zAU zaa zeg=true) (hk:K (e38 (zAT zaa zeg))):z38 (Wk K) [1,1,1,0,1,0] [] (zE1 zaa zeg) :=
  zl (fun X=>z38 (Wk K) [1,1,1,0,1,0,0] [X]) (by kernel_rfl) fun X2 hX =>
  (show ∀ k, zDF K zaa X2 (zAS zaa k) (zAR zaa k) from zfT _ _ (zAQ zaa) (zAP zaa) (zDF K zaa X2)
 (by intro _ hs;exact absurd hs Bool.false_ne_true)
 (by intro P2 S2 hX2 zeg hs hk;exact hX _ (zaI (by kernel_rfl) (zc hs hk (fun hs hk=>(zIo hX2 hs hk)) (fun hs hk=>(zIn hs hk)))))) _ hs hk
def zAV (zaa:(Sl Gate)):((Sl Int)×Int) :=
  (zAT zaa (0:Int))
def zAW (zaa:(Sl Gate)):Bool :=
  (zAU zaa (0:Int))
theorem zIq (hs:zAW zaa=true) (hk:K (e38 (zAV zaa))):z38 (Wk K) [1,1] [] ⟨[(0,zS enc_55 3 zaa)],[],[]⟩:=zaI (by kernel_rfl) (zIp hs hk)
def zAX (zaa:(Sl Gate)) (zaZ:Bool):((Sl Int)×Int) :=
  (cond zaZ
 ((⟨0,fun _=>default⟩:(Sl Int)),(2:Int))
 (zAV zaa))
def zAY (zaa:(Sl Gate)) (zaZ:Bool):Bool :=
  (cond zaZ
 true
 (zAW zaa))
theorem zIr (hs:zAY zaa zaZ=true) (hk:K (e38 (zAX zaa zaZ))):z38 (Wk K) [1,0,1] [] ⟨[(0,zS enc_55 3 zaa),(12,zB zaZ)],[],[]⟩:=zaI (by kernel_rfl) (zc hs hk (fun hs hk=>((wk hk (zdv (.one (.nil _ _)) (zdv (.one (.rfl _)) zhi))):Wk K [.one (.nils),.one (.int .i64 (2:Int))])) (fun hs hk=>(zIq hs hk)))
def s38 (zaa:(Sl Gate)):((Sl Int)×Int) :=
  (zAX zaa (!(s64 zaa)))
def p38 (zaa:(Sl Gate)):Bool :=
  (decide ((p64 zaa=true)) &&
 (zAY zaa (!(s64 zaa))))
end
theorem q38 (zaa:(Sl Gate)) (K:List PA→Prop) (hs:p38 zaa=true) (hk:K (e38 (s38 zaa))):vcFun Try.prog G38 zIf 38 [.one (.sl zaa.len 3 (fun i=>enc_55 (zaa.get i)))] (Wk K) :=
  zaI (by kernel_rfl) (zaE hs fun hc hs=>And.intro (And.intro (zE enc_55 3 zaa.get) hc) (zIr hs hk))
def zIs : List PA → COut
  | [.one (.sl a0_n a0_s a0_g)]=>.det (IsE enc_55 3 a0_s a0_g∧p38 (⟨a0_n,zaf a0_g⟩:(Sl Gate))=true) [.one (.sl (((s38 (⟨a0_n,zaf a0_g⟩:(Sl Gate))).1).len) 1 (fun i=>zal (((s38 (⟨a0_n,zaf a0_g⟩:(Sl Gate))).1).get i))),.one (.int .i64 ((s38 (⟨a0_n,zaf a0_g⟩:(Sl Gate))).2))]
  | _=>.no
theorem zME:zaj Try.prog 38:=⟨_,rfl,rfl,by kernel_rfl⟩
theorem zSt:Ok Try.prog 38 zIs:=zfo zPJ zME fun args K h=>by
  unfold zIs at h
  split at h
  · rename_i a0_n a0_s a0_g
    obtain ⟨⟨⟨rfl,a0_f,rfl⟩,hs⟩,hk⟩:=h
    try rw [zae a0_f] at hs
    try rw [zae a0_f] at hk
    exact ⟨_,zeL zeM _,(fun _ _=>[]),(fun _=>false),zIf,q38 (⟨a0_n,a0_f⟩:(Sl Gate)) K hs hk⟩
  · exact h.elim
abbrev T73:Tabs:=Tabs.nil
theorem zPK:TabsOk Try.prog T73:=TabsOk.nil
abbrev G73:Ctrs:=csm T73 (fun _ _=>[]) (fun _=>false)
def zIt:Ann:=⟨12,[(0,zK [0,1] []),(1,zK [0,1,6] []),(2,zK [0,1] []),(3,zK [4] [])],
 [(1,zK [0,1] [])],
 [],
 [],[]⟩
abbrev R73:=Int
abbrev e73 (r:R73):List PA:=[.one (.int .i64 r)]
@[irreducible] def z73:=ptF Try.prog G73 zIt Try.f73
def zE6 (av0:Int) (bv0:Int):St:=⟨[(0,zI av0),(1,zI bv0)],[],[]⟩
abbrev zMF (K:List PA→Prop) (X:St→Prop) (P:Int→Int→Bool) (S:Int→Int→Int):Prop:=∀ ⦃av0:Int⦄ ⦃bv0:Int⦄,P av0 bv0=true→K (e73 (S av0 bv0))→X (zE6 av0 bv0)
section
variable {K:List PA→Prop} {a:Int} {b:Int} {av0:Int} {bv0:Int} {X0:St→Prop} {P0:Int→Int→Bool} {S0:Int→Int→Int}
def zAZ (S0:Int→Int→Int) (av0:Int) (bv0:Int):Int :=
  (cond (bv0 != (0:Int))
 (S0 bv0 (av0.tmod bv0))
 av0)
def zA0 (P0:Int→Int→Bool) (av0:Int) (bv0:Int):Bool :=
  (cond (bv0 != (0:Int))
 (decide ((bv0 ≠ 0)) &&
 (P0 bv0 (av0.tmod bv0)))
 true)
def zA1:Nat→Int→Int→Int:=lpO (fun _ _=>default) (zAZ)
def zA2:Nat→Int→Int→Bool:=lpO (fun _ _=>false) (zA0)
def zA3 (av0:Int) (bv0:Int):Int:=zA1 Fuel av0 bv0
def zA4 (av0:Int) (bv0:Int):Bool:=zA2 Fuel av0 bv0
theorem zIu (hs:zA4 av0 bv0=true) (hk:K (e73 (zA3 av0 bv0))):z73 K [1,0,0] [] (zE6 av0 bv0) :=
  zl (fun X=>z73 K [1,0,0,0] [X]) (by kernel_rfl) fun X0 hX =>
  (show ∀ k, zMF K X0 (zA2 k) (zA1 k) from zfT _ _ (zA0) (zAZ) (zMF K X0)
 (by intro _ _ hs;exact absurd hs Bool.false_ne_true)
 (by intro P0 S0 hX0 av0 bv0 hs hk;exact hX _ (zaI (by kernel_rfl) (zc hs hk (fun hs hk=>(zaE hs fun hc hs=>And.intro hc (hX0 hs hk))) (fun hs hk=>hk))))) _ hs hk
def s73 (a:Int) (b:Int):Int :=
  (zA3 a b)
def p73 (a:Int) (b:Int):Bool :=
  (zA4 a b)
end
theorem q73 (a:Int) (b:Int) (K:List PA→Prop) (hs:p73 a b=true) (hk:K (e73 (s73 a b))):vcFun Try.prog G73 zIt 73 [.one (.int .i64 a),.one (.int .i64 b)] K :=
  zaI (by kernel_rfl) (zIu hs hk)
def zIv : List PA → COut
  | [.one (.int .i64 a0),.one (.int .i64 a1)]=>.det (p73 a0 a1=true) [.one (.int .i64 (s73 a0 a1))]
  | _=>.no
theorem zMG:zaj Try.prog 73:=⟨_,rfl,rfl,by kernel_rfl⟩
theorem zSu:Ok Try.prog 73 zIv:=zaP zPK zMG fun args K h=>by
  unfold zIv at h
  split at h
  · rename_i a0 a1
    obtain ⟨hs,hk⟩:=h
    exact ⟨(fun _ _=>[]),(fun _=>false),zIt,q73 a0 a1 K hs hk⟩
  · exact h.elim
abbrev T40:Tabs:=(Tabs.nil.addF 73 zIv)
theorem zPL:TabsOk Try.prog T40:=(TabsOk.nil.addF zSu)
abbrev G40:Ctrs:=csm T40 (fun _ _=>[]) (fun _=>false)
def zMH:Ann:=⟨19,[(0,zK [0,1,4] [4]),(1,zK [0,1,4,5] [4]),(2,zK [4] [4])],
 [],
 [],
 [],[]⟩
abbrev R40:=Frac
abbrev e40 (r:R40):List PA:=[.agg [.int .i64 r.Num,.int .i64 r.Den]]
section
variable {K:List PA→Prop} {num:Int} {den:Int}
def s40 (num:Int) (den:Int):Frac :=
  (⟨(w64 (num.tdiv (s73 (if (w64 (0 - num)) > num then (w64 (0 - num)) else num) den))),(w64 (den.tdiv (s73 (if (w64 (0 - num)) > num then (w64 (0 - num)) else num) den)))⟩:Frac)
def p40 (num:Int) (den:Int):Bool :=
  (decide ((p73 (if (w64 (0 - num)) > num then (w64 (0 - num)) else num) den=true)) &&
 (decide (((s73 (if (w64 (0 - num)) > num then (w64 (0 - num)) else num) den) ≠ 0)) &&
 (decide (((s73 (if (w64 (0 - num)) > num then (w64 (0 - num)) else num) den) ≠ 0)) &&
 true)))
end
theorem q40 (num:Int) (den:Int) (K:List PA→Prop) (hs:p40 num den=true) (hk:K (e40 (s40 num den))):vcFun Try.prog G40 zMH 40 [.one (.int .i64 num),.one (.int .i64 den)] K :=
  zaI (by kernel_rfl) (zaE hs fun hc hs=>And.intro hc (zaE hs fun hc hs=>And.intro hc (zaE hs fun hc hs=>And.intro hc hk)))
def zIw : List PA → COut
  | [.one (.int .i64 a0),.one (.int .i64 a1)]=>.det (p40 a0 a1=true) [.agg [.int .i64 ((s40 a0 a1).Num),.int .i64 ((s40 a0 a1).Den)]]
  | _=>.no
theorem zMI:zaj Try.prog 40:=⟨_,rfl,rfl,by kernel_rfl⟩
theorem zSv:Ok Try.prog 40 zIw:=zaP zPL zMI fun args K h=>by
  unfold zIw at h
  split at h
  · rename_i a0 a1
    obtain ⟨hs,hk⟩:=h
    exact ⟨(fun _ _=>[]),(fun _=>false),zMH,q40 a0 a1 K hs hk⟩
  · exact h.elim
abbrev T62:Tabs:=Tabs.nil
theorem zPM:TabsOk Try.prog T62:=TabsOk.nil
abbrev G62:Ctrs:=csm T62 (fun _ _=>[]) (fun _=>false)
def zMJ:Ann:=⟨5,[(0,zK [] []),(1,zK [0] [4])],
 [],
 [],
 [],[]⟩
abbrev R62:=(Sl Gate)
abbrev e62 (r:R62):List PA:=[.one (.sl r.len 3 (fun i=>enc_55 (r.get i)))]
section
variable {K:List PA→Prop}
def s62:(Sl Gate) :=
  (⟨3,(zfY (⟨(0:Int),(0:Int),(10:Int)⟩:Gate) [(⟨(0:Int),(0:Int),(10:Int)⟩:Gate),(⟨(100:Int),(20:Int),(30:Int)⟩:Gate),(⟨(200:Int),(30:Int),(60:Int)⟩:Gate)])⟩:(Sl Gate))
end
theorem q62 (K:List PA→Prop) (hk:K (e62 (s62))):vcFun Try.prog G62 zMJ 62 [] K :=
  zaI (by kernel_rfl) (Eq.mpr (congrArg K (congrArg (fun (g_:Nat→List PV)=>([.one (.sl 3 3 g_)]:List PA)) (zfn (enc:=enc_55) (x:=(⟨(0:Int),(0:Int),(10:Int)⟩:Gate)) (y:=(⟨(100:Int),(20:Int),(30:Int)⟩:Gate)) (r:=[(⟨(200:Int),(30:Int),(60:Int)⟩:Gate)])))) hk)
def zIx : List PA → COut
  | []=>.tot [.one (.sl ((s62).len) 3 (fun i=>enc_55 ((s62).get i)))]
  | _=>.no
theorem zMK:zaj Try.prog 62:=⟨_,rfl,rfl,by kernel_rfl⟩
theorem zSw:Ok Try.prog 62 zIx:=zaP zPM zMK fun args K h=>by
  unfold zIx at h
  split at h
  · have hk := h
    exact ⟨(fun _ _=>[]),(fun _=>false),zMJ,q62 K hk⟩
  · exact h.elim
abbrev T63:Tabs:=Tabs.nil
theorem zPN:TabsOk Try.prog T63:=TabsOk.nil
abbrev G63:Ctrs:=csm T63 (fun _ _=>[]) (fun _=>false)
def zML:Ann:=⟨5,[(0,zK [] []),(1,zK [0] [4])],
 [],
 [],
 [],[]⟩
abbrev R63:=(Sl Gate)
abbrev e63 (r:R63):List PA:=[.one (.sl r.len 3 (fun i=>enc_55 (r.get i)))]
section
variable {K:List PA→Prop}
def s63:(Sl Gate) :=
  (⟨3,(zfY (⟨(0:Int),(0:Int),(10:Int)⟩:Gate) [(⟨(0:Int),(0:Int),(10:Int)⟩:Gate),(⟨(100:Int),(20:Int),(30:Int)⟩:Gate),(⟨(200:Int),(0:Int),(9:Int)⟩:Gate)])⟩:(Sl Gate))
end
theorem q63 (K:List PA→Prop) (hk:K (e63 (s63))):vcFun Try.prog G63 zML 63 [] K :=
  zaI (by kernel_rfl) (Eq.mpr (congrArg K (congrArg (fun (g_:Nat→List PV)=>([.one (.sl 3 3 g_)]:List PA)) (zfn (enc:=enc_55) (x:=(⟨(0:Int),(0:Int),(10:Int)⟩:Gate)) (y:=(⟨(100:Int),(20:Int),(30:Int)⟩:Gate)) (r:=[(⟨(200:Int),(0:Int),(9:Int)⟩:Gate)])))) hk)
def zIy : List PA → COut
  | []=>.tot [.one (.sl ((s63).len) 3 (fun i=>enc_55 ((s63).get i)))]
  | _=>.no
theorem zMM:zaj Try.prog 63:=⟨_,rfl,rfl,by kernel_rfl⟩
theorem zSx:Ok Try.prog 63 zIy:=zaP zPN zMM fun args K h=>by
  unfold zIy at h
  split at h
  · have hk := h
    exact ⟨(fun _ _=>[]),(fun _=>false),zML,q63 K hk⟩
  · exact h.elim
abbrev T18:Tabs:=((((((((((Tabs.nil.addF 19 zHC).addF 30 zHS).addF 31 zH7).addF 34 zIb).addF 38 zIs).addF 39 zC9).addF 40 zIw).addF 55 zDe).addF 62 zIx).addF 63 zIy)
theorem zPO:TabsOk Try.prog T18:=((((((((((TabsOk.nil.addF zR9).addF zSh).addF zSq).addF zSr).addF zSt).addF zQq).addF zSv).addF zQt).addF zSw).addF zSx)
abbrev G18:Ctrs:=csm T18 (fun _ _=>[]) (fun _=>false)
def zIz:Ann:=⟨125,[(0,zK [] []),(1,zK [1,2] []),(2,zK [1,2,3,4,5] [3,4]),(3,zK [1,2,3,4,5,6,7] [3,4]),(4,zK [1,2,3,4,5,6,7,8,9,10,11] [3,4,9,10]),(5,zK [1,2,3,4,5,6,7,8,9,10,11,12,13,14] [3,4,9,10]),(6,zK [1,3,4,6,9,10,12,76] [3,4,9,10]),(7,zK [0] []),(8,zK [1,3,4,6,9,10,12,15] [3,4,9,10,89]),(9,zK [0] [])],
 [],
 [(2,zK [1,2] []),(3,zK [1,2,3,4,5] [3,4]),(4,zK [1,2,3,4,5,6,7] [3,4]),(5,zK [1,2,3,4,5,6,7,8,9,10,11] [3,4,9,10]),(6,zK [1,2,3,4,5,6,7,8,9,10,11,12,13,14] [3,4,9,10]),(8,zK [1,3,4,6,9,10,12] [3,4,9,10]),(9,zK [1,3,4,6,9,10,12,15] [3,4,9,10,89])],
 [],[]⟩
abbrev R18:=Bool
abbrev e18 (r:R18):List PA:=[.one (.bool r)]
@[irreducible] def z18:=ptF Try.prog G18 zIz Try.f18
section
variable {K:List PA→Prop} {cv0:(Sl Line)} {ev0:Int} {zMN:Nat→List PV} {fv1:Int} {zcj:Int} {zck:Int} {zcl:Int} {zcm:Int} {sv2:(Sl Int)} {gv2:Int} {zMO:Nat→List PV} {sv3:(Sl Int)} {zv3:Int} {hv3:Int} {zdD:Int} {zdE:Int} {zdF:Int} {zdG:Int} {zA5:Nat→List PV} {sv4:(Sl Int)} {lv4:(Sl Int)} {kv4:Int} {iv4:Int} {zA6:Nat→List PV} {zMP:Nat→List PV} {sv5:(Sl Int)} {zA7:Nat→List PV} {sv6:(Sl Int)} {zmJ:(Sl Line)} {zA8:Nat→List PV} {zA9:Nat→List PV}
def zBa (cv0:(Sl Line)) (zcj:Int) (zck:Int) (zcl:Int) (zcm:Int) (zdD:Int) (zdE:Int) (zdF:Int) (zdG:Int) (lv4:(Sl Int)) (sv6:(Sl Int)) (zmJ:(Sl Line)):Bool :=
  (cond (s34 cv0 zmJ)
 (cond (match (zcj == (s40 (40:Int) (1:Int)).Num) with | true => (match (zck == (s40 (40:Int) (1:Int)).Den) with | true => true | false => false) | false => false)
 (cond (match (zcl == (s40 (90:Int) (1:Int)).Num) with | true => (match (zcm == (s40 (90:Int) (1:Int)).Den) with | true => true | false => false) | false => false)
 (cond ((s39 sv6 (⟨3, zbb (zec [(zal (0:Int)), (zal (1:Int)), (zal (2:Int))])⟩ : (Sl Int))) == (0:Int))
 (cond (match (zdD == (s40 (499:Int) (10:Int)).Num) with | true => (match (zdE == (s40 (499:Int) (10:Int)).Den) with | true => true | false => false) | false => false)
 (cond (match (zdF == (s40 (501:Int) (10:Int)).Num) with | true => (match (zdG == (s40 (501:Int) (10:Int)).Den) with | true => true | false => false) | false => false)
 ((s39 lv4 (⟨3,zbb (zec [(zal (2:Int)),(zal (5:Int)),(zal (2:Int))])⟩:(Sl Int))) == (0:Int))
 false)
 false)
 false)
 false)
 false)
 false)
def zBb (cv0:(Sl Line)) (zcj:Int) (zck:Int) (zcl:Int) (zcm:Int) (zdD:Int) (zdE:Int) (zdF:Int) (zdG:Int) (lv4:(Sl Int)) (sv6:(Sl Int)) (zmJ:(Sl Line)):Bool :=
  (decide ((p34 cv0 zmJ=true)) &&
 (cond (s34 cv0 zmJ)
 (decide ((p40 (40:Int) (1:Int)=true)) &&
 (cond (match (zcj == (s40 (40:Int) (1:Int)).Num) with | true => (match (zck == (s40 (40:Int) (1:Int)).Den) with | true => true | false => false) | false => false)
 (decide ((p40 (90:Int) (1:Int)=true)) &&
 (cond (match (zcl == (s40 (90:Int) (1:Int)).Num) with | true => (match (zcm == (s40 (90:Int) (1:Int)).Den) with | true => true | false => false) | false => false)
 (decide ((p39 sv6 (⟨3,zbb (zec [(zal (0:Int)),(zal (1:Int)),(zal (2:Int))])⟩:(Sl Int))=true)) &&
 (cond ((s39 sv6 (⟨3, zbb (zec [(zal (0:Int)), (zal (1:Int)), (zal (2:Int))])⟩ : (Sl Int))) == (0:Int))
 (decide ((p40 (499:Int) (10:Int)=true)) &&
 (cond (match (zdD == (s40 (499:Int) (10:Int)).Num) with | true => (match (zdE == (s40 (499:Int) (10:Int)).Den) with | true => true | false => false) | false => false)
 (decide ((p40 (501:Int) (10:Int)=true)) &&
 (cond (match (zdF == (s40 (501:Int) (10:Int)).Num) with | true => (match (zdG == (s40 (501:Int) (10:Int)).Den) with | true => true | false => false) | false => false)
 (decide ((p39 lv4 (⟨3,zbb (zec [(zal (2:Int)),(zal (5:Int)),(zal (2:Int))])⟩:(Sl Int))=true)) &&
 true)
 true))
 true))
 true))
 true))
 true))
 true))
theorem zIA (hs:zBb cv0 zcj zck zcl zcm zdD zdE zdF zdG lv4 sv6 zmJ=true) (hk:K (e18 (zBa cv0 zcj zck zcl zcm zdD zdE zdF zdG lv4 sv6 zmJ))) (zIB:zA8=zg zal sv6) (zIC:zA9=zg zcp zmJ):z18 K [1,1,1,1,1,1,1,1] [] ⟨[(1,zS zcp 4 cv0),(3,zp 3 0),(4,zp 4 0),(6,zP (.sl sv6.len 1 zA8)),(9,zp 9 0),(10,zp 10 0),(12,zS zal 1 lv4),(15,zv 89)],[(3,.box 25 (zm (zah (⟨zcj,zck⟩:Frac)))),(4,.box 25 (zm (zah (⟨zcl,zcm⟩:Frac)))),(9,.box 25 (zm (zah (⟨zdD,zdE⟩:Frac)))),(10,.box 25 (zm (zah (⟨zdF,zdG⟩:Frac)))),(89,.vec 37 4 32 zmJ.len zA9)],[]⟩:=by subst zIB;subst zIC;exact zaI (by kernel_rfl) (zaE hs fun hc hs=>And.intro (And.intro (zE zcp 4 cv0.get) (And.intro (zE zcp 4 zmJ.get) hc)) (zc hs hk (fun hs hk=>(zaE hs fun hc hs=>And.intro hc (zc hs hk (fun hs hk=>(zaE hs fun hc hs=>And.intro hc (zc hs hk (fun hs hk=>(zaE hs fun hc hs=>And.intro (And.intro (zE zal 1 sv6.get) (And.intro ((zgI [(2:Int)]):IsE zal 1 1 (zec [(zal (0:Int)),(zal (1:Int)),(zal (2:Int))])) hc)) (zc hs hk (fun hs hk=>(zaE hs fun hc hs=>And.intro hc (zc hs hk (fun hs hk=>(zaE hs fun hc hs=>And.intro hc (zc hs hk (fun hs hk=>(zaE hs fun hc hs=>And.intro (And.intro (zE zal 1 lv4.get) (And.intro ((zgI [(2:Int)]):IsE zal 1 1 (zec [(zal (2:Int)),(zal (5:Int)),(zal (2:Int))])) hc)) hk)) (fun hs hk=>hk)))) (fun hs hk=>hk)))) (fun hs hk=>hk)))) (fun hs hk=>hk)))) (fun hs hk=>hk)))) (fun hs hk=>hk)))
def zBc (cv0:(Sl Line)) (zcj:Int) (zck:Int) (zcl:Int) (zcm:Int) (zdD:Int) (zdE:Int) (zdF:Int) (zdG:Int) (lv4:(Sl Int)) (sv5:(Sl Int)):Bool :=
  (zBa cv0 zcj zck zcl zcm zdD zdE zdF zdG lv4 sv5 (⟨4,(zfY (⟨(s40 (1:Int) (10:Int)),(s40 (10:Int) (1:Int))⟩:Line) [(⟨(s40 (1:Int) (10:Int)),(s40 (10:Int) (1:Int))⟩:Line),(⟨(s40 (1:Int) (5:Int)),(s40 (0:Int) (1:Int))⟩:Line),(⟨(s40 (3:Int) (10:Int)),(s40 (0:Int) (1:Int))⟩:Line),(⟨(s40 (1:Int) (5:Int)),(s40 (10:Int) (1:Int))⟩:Line)])⟩:Sl Line))
def zBd (cv0:(Sl Line)) (zcj:Int) (zck:Int) (zcl:Int) (zcm:Int) (zdD:Int) (zdE:Int) (zdF:Int) (zdG:Int) (lv4:(Sl Int)) (sv5:(Sl Int)):Bool :=
  (decide ((p40 (1:Int) (10:Int)=true)) &&
 (decide ((p40 (10:Int) (1:Int)=true)) &&
 (decide ((p40 (1:Int) (5:Int)=true)) &&
 (decide ((p40 (0:Int) (1:Int)=true)) &&
 (decide ((p40 (3:Int) (10:Int)=true)) &&
 (decide ((p40 (0:Int) (1:Int)=true)) &&
 (decide ((p40 (1:Int) (5:Int)=true)) &&
 (decide ((p40 (10:Int) (1:Int)=true)) &&
 (zBb cv0 zcj zck zcl zcm zdD zdE zdF zdG lv4 sv5 (⟨4,(zfY (⟨(s40 (1:Int) (10:Int)),(s40 (10:Int) (1:Int))⟩:Line) [(⟨(s40 (1:Int) (10:Int)),(s40 (10:Int) (1:Int))⟩:Line),(⟨(s40 (1:Int) (5:Int)),(s40 (0:Int) (1:Int))⟩:Line),(⟨(s40 (3:Int) (10:Int)),(s40 (0:Int) (1:Int))⟩:Line),(⟨(s40 (1:Int) (5:Int)),(s40 (10:Int) (1:Int))⟩:Line)])⟩:Sl Line))))))))))
theorem zID (hs:zBd cv0 zcj zck zcl zcm zdD zdE zdF zdG lv4 sv5=true) (hk:K (e18 (zBc cv0 zcj zck zcl zcm zdD zdE zdF zdG lv4 sv5))) (zIE:zA7=zg zal sv5):z18 K [1,1,1,1,1,1,1] [] ⟨[(1,zS zcp 4 cv0),(3,zp 3 0),(4,zp 4 0),(6,zP (.sl sv5.len 1 zA7)),(9,zp 9 0),(10,zp 10 0),(12,zS zal 1 lv4)],[(3,.box 25 (zm (zah (⟨zcj,zck⟩:Frac)))),(4,.box 25 (zm (zah (⟨zcl,zcm⟩:Frac)))),(9,.box 25 (zm (zah (⟨zdD,zdE⟩:Frac)))),(10,.box 25 (zm (zah (⟨zdF,zdG⟩:Frac))))],[]⟩:=by subst zIE;exact zaI (by kernel_rfl) (zaE hs fun hc hs=>And.intro hc (zaE hs fun hc hs=>And.intro hc (zaE hs fun hc hs=>And.intro hc (zaE hs fun hc hs=>And.intro hc (zaE hs fun hc hs=>And.intro hc (zaE hs fun hc hs=>And.intro hc (zaE hs fun hc hs=>And.intro hc (zaE hs fun hc hs=>And.intro hc (zIA hs hk rfl (zfn (enc:=zcp) (x:=(⟨(s40 (1:Int) (10:Int)),(s40 (10:Int) (1:Int))⟩:Line)) (y:=(⟨(s40 (1:Int) (5:Int)),(s40 (0:Int) (1:Int))⟩:Line)) (r:=[(⟨(s40 (3:Int) (10:Int)),(s40 (0:Int) (1:Int))⟩:Line),(⟨(s40 (1:Int) (5:Int)),(s40 (10:Int) (1:Int))⟩:Line)])))))))))))
def zBe (cv0:(Sl Line)) (ev0:Int) (fv1:Int) (zcj:Int) (zck:Int) (zcl:Int) (zcm:Int) (gv2:Int) (zv3:Int) (hv3:Int) (zdD:Int) (zdE:Int) (zdF:Int) (zdG:Int) (sv4:(Sl Int)) (lv4:(Sl Int)) (kv4:Int) (iv4:Int):Bool :=
  (cond (ev0 != (0:Int))
 false
 (cond (fv1 != (0:Int))
 false
 (cond (gv2 != (0:Int))
 false
 (cond (hv3 != (0:Int))
 false
 (cond (iv4 != (0:Int))
 false
 (cond (kv4 != (600:Int))
 false
 (cond (zv3 != (167:Int))
 false
 (zBc cv0 zcj zck zcl zcm zdD zdE zdF zdG lv4 sv4))))))))
def zBf (cv0:(Sl Line)) (ev0:Int) (fv1:Int) (zcj:Int) (zck:Int) (zcl:Int) (zcm:Int) (gv2:Int) (zv3:Int) (hv3:Int) (zdD:Int) (zdE:Int) (zdF:Int) (zdG:Int) (sv4:(Sl Int)) (lv4:(Sl Int)) (kv4:Int) (iv4:Int):Bool :=
  (cond (ev0 != (0:Int))
 true
 (cond (fv1 != (0:Int))
 true
 (cond (gv2 != (0:Int))
 true
 (cond (hv3 != (0:Int))
 true
 (cond (iv4 != (0:Int))
 true
 (cond (kv4 != (600:Int))
 true
 (cond (zv3 != (167:Int))
 true
 (zBd cv0 zcj zck zcl zcm zdD zdE zdF zdG lv4 sv4))))))))
theorem zIF (hs:zBf cv0 ev0 fv1 zcj zck zcl zcm gv2 zv3 hv3 zdD zdE zdF zdG sv4 lv4 kv4 iv4=true) (hk:K (e18 (zBe cv0 ev0 fv1 zcj zck zcl zcm gv2 zv3 hv3 zdD zdE zdF zdG sv4 lv4 kv4 iv4))) (zIG:zA6=zg zal sv4) (zPP:zMP=zg zal lv4):z18 K [1,1,1,1,1,1] [] ⟨[(1,zS zcp 4 cv0),(2,zI ev0),(3,zp 3 0),(4,zp 4 0),(5,zI fv1),(6,zP (.sl sv4.len 1 zA6)),(7,zI gv2),(8,zI zv3),(9,zp 9 0),(10,zp 10 0),(11,zI hv3),(12,zP (.sl lv4.len 1 zMP)),(13,zI kv4),(14,zI iv4)],[(3,.box 25 (zm (zah (⟨zcj,zck⟩:Frac)))),(4,.box 25 (zm (zah (⟨zcl,zcm⟩:Frac)))),(9,.box 25 (zm (zah (⟨zdD,zdE⟩:Frac)))),(10,.box 25 (zm (zah (⟨zdF,zdG⟩:Frac))))],[]⟩:=by subst zIG;subst zPP;exact zaI (by kernel_rfl) (zc hs hk (fun hs hk=>hk) (fun hs hk=>(zc hs hk (fun hs hk=>hk) (fun hs hk=>(zc hs hk (fun hs hk=>hk) (fun hs hk=>(zc hs hk (fun hs hk=>hk) (fun hs hk=>(zc hs hk (fun hs hk=>hk) (fun hs hk=>(zc hs hk (fun hs hk=>hk) (fun hs hk=>(zc hs hk (fun hs hk=>hk) (fun hs hk=>(zID hs hk rfl)))))))))))))))
def zBg (cv0:(Sl Line)) (ev0:Int) (fv1:Int) (zcj:Int) (zck:Int) (zcl:Int) (zcm:Int) (gv2:Int) (sv3:(Sl Int)) (zv3:Int) (hv3:Int) (zdD:Int) (zdE:Int) (zdF:Int) (zdG:Int):Bool :=
  (zBe cv0 ev0 fv1 zcj zck zcl zcm gv2 zv3 hv3 zdD zdE zdF zdG sv3 ((s55 (⟨3,zaf (zec [(enc_55 (⟨(0:Int),(0:Int),(2:Int)⟩:Gate)),(enc_55 (⟨(10:Int),(5:Int),(6:Int)⟩:Gate)),(enc_55 (⟨(20:Int),(0:Int),(2:Int)⟩:Gate))])⟩:(Sl Gate))).1) ((s55 (⟨3,zaf (zec [(enc_55 (⟨(0:Int),(0:Int),(2:Int)⟩:Gate)),(enc_55 (⟨(10:Int),(5:Int),(6:Int)⟩:Gate)),(enc_55 (⟨(20:Int),(0:Int),(2:Int)⟩:Gate))])⟩:(Sl Gate))).2.1) ((s55 (⟨3,zaf (zec [(enc_55 (⟨(0:Int),(0:Int),(2:Int)⟩:Gate)),(enc_55 (⟨(10:Int),(5:Int),(6:Int)⟩:Gate)),(enc_55 (⟨(20:Int),(0:Int),(2:Int)⟩:Gate))])⟩:(Sl Gate))).2.2))
def zBh (cv0:(Sl Line)) (ev0:Int) (fv1:Int) (zcj:Int) (zck:Int) (zcl:Int) (zcm:Int) (gv2:Int) (sv3:(Sl Int)) (zv3:Int) (hv3:Int) (zdD:Int) (zdE:Int) (zdF:Int) (zdG:Int):Bool :=
  (decide ((p55 (⟨3,zaf (zec [(enc_55 (⟨(0:Int),(0:Int),(2:Int)⟩:Gate)),(enc_55 (⟨(10:Int),(5:Int),(6:Int)⟩:Gate)),(enc_55 (⟨(20:Int),(0:Int),(2:Int)⟩:Gate))])⟩:(Sl Gate))=true)) &&
 (zBf cv0 ev0 fv1 zcj zck zcl zcm gv2 zv3 hv3 zdD zdE zdF zdG sv3 ((s55 (⟨3,zaf (zec [(enc_55 (⟨(0:Int),(0:Int),(2:Int)⟩:Gate)),(enc_55 (⟨(10:Int),(5:Int),(6:Int)⟩:Gate)),(enc_55 (⟨(20:Int),(0:Int),(2:Int)⟩:Gate))])⟩:(Sl Gate))).1) ((s55 (⟨3,zaf (zec [(enc_55 (⟨(0:Int),(0:Int),(2:Int)⟩:Gate)),(enc_55 (⟨(10:Int),(5:Int),(6:Int)⟩:Gate)),(enc_55 (⟨(20:Int),(0:Int),(2:Int)⟩:Gate))])⟩:(Sl Gate))).2.1) ((s55 (⟨3,zaf (zec [(enc_55 (⟨(0:Int),(0:Int),(2:Int)⟩:Gate)),(enc_55 (⟨(10:Int),(5:Int),(6:Int)⟩:Gate)),(enc_55 (⟨(20:Int),(0:Int),(2:Int)⟩:Gate))])⟩:(Sl Gate))).2.2)))
theorem zIH (hs:zBh cv0 ev0 fv1 zcj zck zcl zcm gv2 sv3 zv3 hv3 zdD zdE zdF zdG=true) (hk:K (e18 (zBg cv0 ev0 fv1 zcj zck zcl zcm gv2 sv3 zv3 hv3 zdD zdE zdF zdG))) (zII:zA5=zg zal sv3):z18 K [1,1,1,1,1] [] ⟨[(1,zS zcp 4 cv0),(2,zI ev0),(3,zp 3 0),(4,zp 4 0),(5,zI fv1),(6,zP (.sl sv3.len 1 zA5)),(7,zI gv2),(8,zI zv3),(9,zp 9 0),(10,zp 10 0),(11,zI hv3)],[(3,.box 25 (zm (zah (⟨zcj,zck⟩:Frac)))),(4,.box 25 (zm (zah (⟨zcl,zcm⟩:Frac)))),(9,.box 25 (zm (zah (⟨zdD,zdE⟩:Frac)))),(10,.box 25 (zm (zah (⟨zdF,zdG⟩:Frac))))],[]⟩:=by subst zII;exact zaI (by kernel_rfl) (zaE hs fun hc hs=>And.intro (And.intro ((zgI [(⟨(20:Int),(0:Int),(2:Int)⟩:Gate)]):IsE enc_55 3 3 (zec [(enc_55 (⟨(0:Int),(0:Int),(2:Int)⟩:Gate)),(enc_55 (⟨(10:Int),(5:Int),(6:Int)⟩:Gate)),(enc_55 (⟨(20:Int),(0:Int),(2:Int)⟩:Gate))])) hc) (zIF hs hk rfl rfl))
def zBi (cv0:(Sl Line)) (ev0:Int) (fv1:Int) (zcj:Int) (zck:Int) (zcl:Int) (zcm:Int) (sv2:(Sl Int)) (gv2:Int):Bool :=
  (zBg cv0 ev0 fv1 zcj zck zcl zcm gv2 sv2 ((s19 s62 (⟨2,zaf (zec [(enc_55 (⟨(0:Int),(100:Int),(110:Int)⟩:Gate)),(enc_55 (⟨(200:Int),(40:Int),(50:Int)⟩:Gate))])⟩:(Sl Gate)) (0:Int) (300:Int)).1) ((s19 s62 (⟨2,zaf (zec [(enc_55 (⟨(0:Int),(100:Int),(110:Int)⟩:Gate)),(enc_55 (⟨(200:Int),(40:Int),(50:Int)⟩:Gate))])⟩:(Sl Gate)) (0:Int) (300:Int)).2.2.2) (((s19 s62 (⟨2,zaf (zec [(enc_55 (⟨(0:Int),(100:Int),(110:Int)⟩:Gate)),(enc_55 (⟨(200:Int),(40:Int),(50:Int)⟩:Gate))])⟩:(Sl Gate)) (0:Int) (300:Int)).2.1).Num) (((s19 s62 (⟨2,zaf (zec [(enc_55 (⟨(0:Int),(100:Int),(110:Int)⟩:Gate)),(enc_55 (⟨(200:Int),(40:Int),(50:Int)⟩:Gate))])⟩:(Sl Gate)) (0:Int) (300:Int)).2.1).Den) (((s19 s62 (⟨2,zaf (zec [(enc_55 (⟨(0:Int),(100:Int),(110:Int)⟩:Gate)),(enc_55 (⟨(200:Int),(40:Int),(50:Int)⟩:Gate))])⟩:(Sl Gate)) (0:Int) (300:Int)).2.2.1).Num) (((s19 s62 (⟨2,zaf (zec [(enc_55 (⟨(0:Int),(100:Int),(110:Int)⟩:Gate)),(enc_55 (⟨(200:Int),(40:Int),(50:Int)⟩:Gate))])⟩:(Sl Gate)) (0:Int) (300:Int)).2.2.1).Den))
def zBj (cv0:(Sl Line)) (ev0:Int) (fv1:Int) (zcj:Int) (zck:Int) (zcl:Int) (zcm:Int) (sv2:(Sl Int)) (gv2:Int):Bool :=
  (decide ((p19 s62 (⟨2,zaf (zec [(enc_55 (⟨(0:Int),(100:Int),(110:Int)⟩:Gate)),(enc_55 (⟨(200:Int),(40:Int),(50:Int)⟩:Gate))])⟩:(Sl Gate)) (0:Int) (300:Int)=true)) &&
 (zBh cv0 ev0 fv1 zcj zck zcl zcm gv2 sv2 ((s19 s62 (⟨2,zaf (zec [(enc_55 (⟨(0:Int),(100:Int),(110:Int)⟩:Gate)),(enc_55 (⟨(200:Int),(40:Int),(50:Int)⟩:Gate))])⟩:(Sl Gate)) (0:Int) (300:Int)).1) ((s19 s62 (⟨2,zaf (zec [(enc_55 (⟨(0:Int),(100:Int),(110:Int)⟩:Gate)),(enc_55 (⟨(200:Int),(40:Int),(50:Int)⟩:Gate))])⟩:(Sl Gate)) (0:Int) (300:Int)).2.2.2) (((s19 s62 (⟨2,zaf (zec [(enc_55 (⟨(0:Int),(100:Int),(110:Int)⟩:Gate)),(enc_55 (⟨(200:Int),(40:Int),(50:Int)⟩:Gate))])⟩:(Sl Gate)) (0:Int) (300:Int)).2.1).Num) (((s19 s62 (⟨2,zaf (zec [(enc_55 (⟨(0:Int),(100:Int),(110:Int)⟩:Gate)),(enc_55 (⟨(200:Int),(40:Int),(50:Int)⟩:Gate))])⟩:(Sl Gate)) (0:Int) (300:Int)).2.1).Den) (((s19 s62 (⟨2,zaf (zec [(enc_55 (⟨(0:Int),(100:Int),(110:Int)⟩:Gate)),(enc_55 (⟨(200:Int),(40:Int),(50:Int)⟩:Gate))])⟩:(Sl Gate)) (0:Int) (300:Int)).2.2.1).Num) (((s19 s62 (⟨2,zaf (zec [(enc_55 (⟨(0:Int),(100:Int),(110:Int)⟩:Gate)),(enc_55 (⟨(200:Int),(40:Int),(50:Int)⟩:Gate))])⟩:(Sl Gate)) (0:Int) (300:Int)).2.2.1).Den)))
theorem zIJ (hs:zBj cv0 ev0 fv1 zcj zck zcl zcm sv2 gv2=true) (hk:K (e18 (zBi cv0 ev0 fv1 zcj zck zcl zcm sv2 gv2))) (zPQ:zMO=zg zal sv2):z18 K [1,1,1,1] [] ⟨[(1,zS zcp 4 cv0),(2,zI ev0),(3,zp 3 0),(4,zp 4 0),(5,zI fv1),(6,zP (.sl sv2.len 1 zMO)),(7,zI gv2)],[(3,.box 25 (zm (zah (⟨zcj,zck⟩:Frac)))),(4,.box 25 (zm (zah (⟨zcl,zcm⟩:Frac))))],[]⟩:=by subst zPQ;exact zaI (by kernel_rfl) (zaE hs fun hc hs=>And.intro (And.intro (zE enc_55 3 s62.get) (And.intro ((zgI []):IsE enc_55 3 3 (zec [(enc_55 (⟨(0:Int),(100:Int),(110:Int)⟩:Gate)),(enc_55 (⟨(200:Int),(40:Int),(50:Int)⟩:Gate))])) hc)) (zIH hs hk rfl))
def zBk (cv0:(Sl Line)) (ev0:Int) (fv1:Int) (zcj:Int) (zck:Int) (zcl:Int) (zcm:Int):Bool :=
  (zBi cv0 ev0 fv1 zcj zck zcl zcm ((s38 s63).1) ((s38 s63).2))
def zBl (cv0:(Sl Line)) (ev0:Int) (fv1:Int) (zcj:Int) (zck:Int) (zcl:Int) (zcm:Int):Bool :=
  (decide ((p38 s63=true)) &&
 (zBj cv0 ev0 fv1 zcj zck zcl zcm ((s38 s63).1) ((s38 s63).2)))
theorem zIK (hs:zBl cv0 ev0 fv1 zcj zck zcl zcm=true) (hk:K (e18 (zBk cv0 ev0 fv1 zcj zck zcl zcm))):z18 K [1,1,1] [] ⟨[(1,zS zcp 4 cv0),(2,zI ev0),(3,zp 3 0),(4,zp 4 0),(5,zI fv1)],[(3,.box 25 (zm (zah (⟨zcj,zck⟩:Frac)))),(4,.box 25 (zm (zah (⟨zcl,zcm⟩:Frac))))],[]⟩:=zaI (by kernel_rfl) (zaE hs fun hc hs=>And.intro (And.intro (zE enc_55 3 s63.get) hc) (zIJ hs hk rfl))
def zBm (cv0:(Sl Line)) (ev0:Int):Bool :=
  (zBk cv0 ev0 ((s30 s62 (300:Int)).2.2) (((s30 s62 (300:Int)).1).Num) (((s30 s62 (300:Int)).1).Den) (((s30 s62 (300:Int)).2.1).Num) (((s30 s62 (300:Int)).2.1).Den))
def zBn (cv0:(Sl Line)) (ev0:Int):Bool :=
  (decide ((p30 s62 (300:Int)=true)) &&
 (zBl cv0 ev0 ((s30 s62 (300:Int)).2.2) (((s30 s62 (300:Int)).1).Num) (((s30 s62 (300:Int)).1).Den) (((s30 s62 (300:Int)).2.1).Num) (((s30 s62 (300:Int)).2.1).Den)))
theorem zIL (hs:zBn cv0 ev0=true) (hk:K (e18 (zBm cv0 ev0))) (zPR:zMN=zg zcp cv0):z18 K [1,1] [] ⟨[(1,zP (.sl cv0.len 4 zMN)),(2,zI ev0)],[],[]⟩:=by subst zPR;exact zaI (by kernel_rfl) (zaE hs fun hc hs=>And.intro (And.intro (zE enc_55 3 s62.get) hc) (zIK hs hk))
def s18:Bool :=
  (zBm ((s31 s62).1) ((s31 s62).2))
def p18:Bool :=
  (decide ((p31 s62=true)) &&
 (zBn ((s31 s62).1) ((s31 s62).2)))
end
theorem q18 (K:List PA→Prop) (hs:p18=true) (hk:K (e18 (s18))):vcFun Try.prog G18 zIz 18 [] K :=
  zaI (by kernel_rfl) (zaE hs fun hc hs=>And.intro (And.intro (zE enc_55 3 s62.get) hc) (zIL hs hk rfl))
theorem zMQ:p18=true:=by kernel_rfl
theorem zMR:s18=true:=by kernel_rfl
def zIM : List PA → COut
  | []=>.tot [.one (.bool true)]
  | _=>.no
theorem zMS:zaj Try.prog 18:=⟨_,rfl,rfl,by kernel_rfl⟩
theorem zSy:Ok Try.prog 18 zIM:=zaP zPO zMS fun args K h=>by
  unfold zIM at h
  split at h
  · refine ⟨fun _ _ => [], fun _ => false, zIz, q18 K zMQ ?_⟩
    show K [.one (.bool s18)]
    rw [zMR];exact h
  · exact h.elim
abbrev T94:Tabs:=Tabs.nil
theorem zPS:TabsOk Try.prog T94:=TabsOk.nil
abbrev G94:Ctrs:=csm T94 (fun _ _=>[]) (fun _=>false)
def zIN:Ann:=⟨27,[(0,⟨[2],[2,4098],[],[],[],[],[]⟩)],
 [],
 [],
 [],[]⟩
theorem zIO (n : Nat) (f : Nat → Span) (iv pv : Int) (K : List PA → List XA → Prop) : zwp Try.prog G94 zIN 94 [.d (.one (.int .i64 iv)), .d (.one (.int .i64 pv)), .box 87 [.vec 96 2 16 n (fun i => zan (f i))]] K =
  (((0≤iv∧iv < (n:Int))) ∧
 (((iv.toNat < n)) ∧
 (((0≤iv∧iv < (n:Int))) ∧
 (((iv.toNat < n)) ∧
 (((0≤iv∧iv < (n:Int))) ∧
 (((iv.toNat < n)) ∧
 (((0≤iv∧iv < (n:Int))) ∧
 (((iv.toNat < n)) ∧
 (K [] [.d (.one (.int .i64 iv)),.d (.one (.int .i64 pv)),.box 87 [.vec 96 2 16 n (zpu iv.toNat 1 (zpu iv.toNat 0 (fun i=>zan (f i)) (zal (if pv < (f iv.toNat).Low then pv else (f iv.toNat).Low))) (zal (if pv > (f iv.toNat).High then pv else (f iv.toNat).High)))]]))))))))):=by kernel_rfl
def s94 (i p:Int) (f:Nat→Span):Nat→Span:=fun j=>match Nat.beq j i.toNat with
  | true=>⟨if p < (f i.toNat).Low then p else (f i.toNat).Low,if p > (f i.toNat).High then p else (f i.toNat).High⟩
  | false=>f j
def p94 (i:Int) (n:Nat):Bool:=decide (0≤i∧i < (n:Int))
def zIP : MK
  | [.d (.one (.int .i64 i)),.d (.one (.int .i64 p)),.box 87 [.vec 96 2 16 n g]]=>some (IsE zan 2 2 g∧p94 i n=true,[],[.d (.one (.int .i64 i)),.d (.one (.int .i64 p)),.box 87 [.vec 96 2 16 n (fun j=>zan (s94 i p (zhk g) j))]])
  | _=>none
theorem zMT:zaj Try.prog 94:=⟨_,rfl,rfl,by kernel_rfl⟩
theorem zSz:zvX Try.prog 94 zIP:=zF7 zPS zMT fun xs safe rs ys h hs K hk=>by
  unfold zIP at h
  split at h
  · rename_i i p n g
    simp only [Option.some.injEq,Prod.mk.injEq] at h
    obtain ⟨rfl,rfl,rfl⟩:=h
    obtain ⟨⟨_,f,rfl⟩,hp⟩:=hs
    refine ⟨fun _ _=>[],fun _=>false,zIN,?_⟩
    show zwp Try.prog G94 zIN 94 _ K
    rw [zIO]
    have hp:0≤i∧i < (n:Int):=of_decide_eq_true hp
    have hn:i.toNat < n:=by omega
    have e:(fun j=>zan (s94 i p (zhk (fun i=>zan (f i))) j))=zpu i.toNat 1 (zpu i.toNat 0 (fun j=>zan (f j)) [.int .i64 (if p < (f i.toNat).Low then p else (f i.toNat).Low)]) [.int .i64 (if p > (f i.toNat).High then p else (f i.toNat).High)]:=by
      funext j
      show zan (s94 i p f j)=_
      unfold s94 zpu
      cases hj:Nat.beq j i.toNat with
      | true=>have:=Nat.eq_of_beq_eq_true hj;subst this;rfl
      | false=>rfl
    rw [e] at hk
    exact ⟨hp,hn,hp,hn,hp,hn,hp,hn,hk⟩
  · cases h
abbrev MpS:=Nat×(List Int→Option (List Int))
def zE7 (s:MpS) (y:List Int):MpS:=(addN (s.2 y) s.1,zfa y [1] s.2)
theorem zBo {F:List Int→Option (List Int)} {x y:List Int} {v:List Int} : zfa x v (zfa y v F)=zfa y v (zfa x v F):=by
  funext z
  show (match decide (z=x) with | true=>some v | false=>match decide (z=y) with | true=>some v | false=>F z)=(match decide (z=y) with | true=>some v | false=>match decide (z=x) with | true=>some v | false=>F z)
  cases decide (z=x) <;> cases decide (z=y) <;> rfl
theorem zDH (a:Option (List Int)) (n:Nat):addN a n=if a=none then n+1 else n:=by cases a <;> simp [addN]
theorem zBp {F:List Int→Option (List Int)} {x y v:List Int} : zfa x v F y=none↔y ≠ x∧F y=none:=by
  unfold zfa
  by_cases h:y=x <;> simp [h]
theorem zqY (s:MpS) (x y:List Int):zE7 (zE7 s x) y=zE7 (zE7 s y) x:=by
  by_cases h:x=y
  · rw [h]
  · unfold zE7
    refine Prod.ext ?_ zBo
    simp only [zDH,zBp]
    by_cases h1:s.2 x=none <;> by_cases h2:s.2 y=none <;> simp [h1,h2,h,Ne.symm h]
def insL (s:MpS) (l:List (List Int)):MpS:=l.foldl zE7 s
theorem zBq (s:MpS) {l m:List (List Int)} (h:l.Perm m):insL s l=insL s m:=h.foldl_eq' (fun x _ y _ z=>zqY z x y) s
theorem zBr (s:MpS) (l m:List (List Int)):insL (insL s l) m=insL (insL s m) l:=by
  unfold insL
  rw [← List.foldl_append,← List.foldl_append]
  exact zBq s List.perm_append_comm
theorem zkt (i j p q:Int) (f:Nat→Span):s94 i p (s94 j q f)=s94 j q (s94 i p f):=by
  funext z
  have e:∀ (i p:Int) (f:Nat→Span) (z:Nat),s94 i p f z=if z=i.toNat then ⟨if p < (f z).Low then p else (f z).Low,if p > (f z).High then p else (f z).High⟩ else f z:=by
    intro i p f z
    unfold s94
    cases h:Nat.beq z i.toNat with
    | true=>have:=Nat.eq_of_beq_eq_true h;subst this;rw [if_pos rfl]
    | false=>rw [if_neg (Nat.ne_of_beq_eq_false h)]
  rw [e,e,e,e]
  by_cases h1:z=i.toNat <;> by_cases h2:z=j.toNat
  · rw [if_pos h1, if_pos h2, if_pos h2, if_pos h1]
    refine Span.mk.injEq _ _ _ _ ▸ ⟨?_,?_⟩ <;> (dsimp only;repeat' split) <;> omega
  · rw [if_pos h1,if_neg h2,if_neg h2,if_pos h1]
  · rw [if_neg h1,if_pos h2,if_pos h2,if_neg h1]
  · rw [if_neg h1,if_neg h2,if_neg h2,if_neg h1]
def zIQ (a b:Int):List Int:=(List.range (b - a+1).toNat).map fun (i:Nat)=>a+i
def zeC (a b:Gate):List (List Int):=(zIQ a.Low a.High).flatMap fun p=>(zIQ b.Low b.High).map fun q=>[p,q]
abbrev T56:Tabs:=(((((Tabs.nil.addF 74 zqi).addF 85 zx0).addF 92 zDa).addF 93 zDb).addM 94 zIP)
theorem zPT:TabsOk Try.prog T56:=(((((TabsOk.nil.addF zKr).addF zOz).addF zQr).addF zQs).addM zSz)
abbrev G56:Ctrs:=csm T56 (fun _ _=>[]) (fun l=>Nat.beq l 42 || Nat.beq l 66)
def zaL:Ann:=⟨150,[(0,⟨[0,1],[],[],[],[],[],[]⟩),(1,⟨[0,1,25],[],[],[],[],[],[]⟩),(2,⟨[4,5],[],[],[],[],[],[]⟩),(3,⟨[0,1,6],[],[],[],[],[],[]⟩),(4,⟨[0,1,6,7],[7,30],[],[],[],[],[]⟩),(5,⟨[0,1,6,7,32,33],[7,30],[],[],[],[],[]⟩),(6,⟨[0,1,6,7,32,33,34],[7,30],[],[],[],[],[]⟩),(7,⟨[0,1,6,7,8,32,33],[7,30],[],[],[],[],[]⟩),(8,⟨[0,1,6,7,32,33],[7,30],[],[],[],[],[]⟩),(9,⟨[0,1,6,7,32,33],[7,30],[],[],[],[],[]⟩),(10,⟨[0,1,6,7,9],[7,30],[],[],[],[],[]⟩),(11,⟨[0,1,6,7,9,10],[7,30,42],[],[],[],[],[]⟩),(12,⟨[0,1,6,7,9,10,46],[7,30,42,46],[],[],[],[],[]⟩),(13,⟨[0,1,6,7,9,10,46,48],[7,30,42,46],[],[],[],[],[]⟩),(14,⟨[0,1,6,7,9,10,11,12,46],[7,11,30,42,46],[],[],[],[],[]⟩),(15,⟨[0,1,6,7,9,10,11,46,54],[7,11,30,42,46],[],[],[],[],[]⟩),(16,⟨[0,1,6,7,9,10,46],[7,30,42,46],[],[],[],[],[]⟩),(17,⟨[0,1,6,7,9,10,59],[7,30,42],[],[],[],[],[]⟩),(18,⟨[4,5],[],[],[],[],[],[]⟩),(19,⟨[0,1,6,7,9,10,62,63],[7,30,42],[],[],[],[],[]⟩),(20,⟨[0,1,6,7,9,10,62,63,64],[7,30],[],[],[],[],[]⟩),(21,⟨[0,1,6,7,9,10,13,62,63],[7,30],[],[],[],[],[]⟩),(22,⟨[0,1,6,7,9,10,13,14,62,63],[7,30,66],[],[],[],[],[]⟩),(23,⟨[0,1,6,7,9,13,14,62,63,68],[7,30,66,68],[],[],[],[],[]⟩),(24,⟨[0,1,6,7,9,13,14,62,63,68,70],[7,30,66,68],[],[],[],[],[]⟩),(25,⟨[0,1,6,7,9,13,14,15,62,63,68],[7,15,30,66,68],[],[],[],[],[]⟩),(26,⟨[0,1,6,7,9,13,14,15,62,63,68],[7,15,30,66,68],[],[],[],[],[]⟩),(27,⟨[0,1,6,7,9,13,14,15,62,63,68],[7,15,30,66,68],[],[],[],[],[]⟩),(28,⟨[0,1,6,7,9,13,14,15,62,63,68,88],[7,15,30,66,68],[],[],[],[],[]⟩),(29,⟨[0,1,6,7,9,13,14,15,16,62,63,68],[7,15,30,66,68],[],[],[],[],[]⟩),(30,⟨[0,1,6,7,9,13,14,15,16,62,63,68,102],[7,15,30,66,68],[],[],[],[],[]⟩),(31,⟨[0,1,6,7,9,13,14,15,16,62,63,68],[7,15,30,66,68],[],[],[],[],[]⟩),(32,⟨[0,1,6,7,9,13,14,15,16,17,62,63,68],[7,15,17,30,66,68],[],[],[],[],[]⟩),(33,⟨[0,1,6,7,9,13,14,15,16,17,62,63,68,144],[7,15,17,30,66,68],[],[],[],[],[]⟩),(34,⟨[0,1,6,7,9,13,14,15,16,62,63,68],[7,15,30,66,68],[],[],[],[],[]⟩),(35,⟨[0,1,6,7,9,10,62,63],[7,30,66],[],[],[],[],[]⟩),(36,⟨[0,1,6,7,9,10,62,63],[7,30,66],[],[],[],[],[]⟩),(37,⟨[4,5],[30],[],[],[],[],[]⟩)],
 [(6,⟨[0,1,6,7,32,33],[7,30],[],[],[],[],[]⟩),(13,⟨[0,1,6,7,9,10,46],[7,30,42,46],[],[],[],[],[]⟩),(20,⟨[0,1,6,7,9,10,62,63],[7,30],[],[],[],[],[(10,1,fun _=>zOw default)]⟩),(24,⟨[0,1,6,7,9,13,14,62,63,68],[7,30,66,68],[],[],[],[],[]⟩),(30,⟨[0,1,6,7,9,13,14,15,16,62,63,68],[7,15,30,66,68],[],[],[],[],[]⟩)],
 [(2,⟨[0,1,25],[],[],[],[],[],[]⟩),(3,⟨[0,1],[],[],[],[],[],[]⟩),(4,⟨[0,1,6],[],[],[],[],[],[]⟩),(10,⟨[0,1,6,7],[7,30],[],[],[],[],[]⟩),(17,⟨[0,1,6,7,9,10],[7,30,42],[],[],[],[],[]⟩),(19,⟨[0,1,6,7,9,10],[7,30,42],[],[],[],[],[]⟩),(27,⟨[0,1,6,7,9,13,14,15,62,63,68],[7,15,30,66,68],[],[],[],[],[]⟩),(28,⟨[0,1,6,7,9,13,14,15,62,63,68],[7,15,30,66,68],[],[],[],[],[]⟩),(34,⟨[0,1,6,7,9,13,14,15,16,17,62,63,68,144],[7,15,17,30,66,68],[],[],[],[],[]⟩)],
 [],[]⟩
def zMU (zaa:(Sl Gate)) (kink:Int) (zhK:Bool):St:=⟨[(0,.one (.c (.p (.sl zaa.len 3 (fun i=>enc_55 (zaa.get i)))))),(1,.one (.c (.p (.int .i64 kink)))),(25,.one (.c (.p (.bool zhK))))],[],[]⟩
def zlV (K:List PA→Prop) (zaa:(Sl Gate)) (kink:Int) (zhK:Bool):Prop:=vc Try.prog G56 zaL (cdF Try.f56 [1,0,1]) (sqK Try.prog G56 zaL (cdF Try.f56 [1,1]) (zbF Try.prog Try.f56 K)) (zMU zaa kink zhK)
def zMV (zaa:(Sl Gate)) (kink:Int):St:=⟨[(0,.one (.c (.p (.sl zaa.len 3 (fun i=>enc_55 (zaa.get i)))))),(1,.one (.c (.p (.int .i64 kink))))],[],[]⟩
def zoI (K:List PA→Prop) (zaa:(Sl Gate)) (kink:Int):Prop:=vc Try.prog G56 zaL (cdF Try.f56 [1,1]) (zbF Try.prog Try.f56 K) (zMV zaa kink)
def zMW (zaa:(Sl Gate)) (kink:Int) (zew:Nat) (zcs:Nat→List PV):St:=⟨[(0,.one (.c (.p (.sl zaa.len 3 (fun i=>enc_55 (zaa.get i)))))),(1,.one (.c (.p (.int .i64 kink)))),(6,.one (.c (.p (.sl zew 1 zcs))))],[],[]⟩
def zoJ (K:List PA→Prop) (zaa:(Sl Gate)) (kink:Int) (zew:Nat) (zcs:Nat→List PV):Prop:=vc Try.prog G56 zaL (cdF Try.f56 [1,1,1]) (zbF Try.prog Try.f56 K) (zMW zaa kink zew zcs)
def zlW (zaa:(Sl Gate)) (kink:Int) (zab:(Sl Mp)) (zbA:Int) (zgq:Nat) (zcO:Nat→List PV):St:=⟨[(0,.one (.c (.p (.sl zaa.len 3 (fun i=>enc_55 (zaa.get i)))))),(1,.one (.c (.p (.int .i64 kink)))),(6,.one (.c (.p (.sl zab.len 1 (fun i=>zbs (zab.get i)))))),(7,.one (.c (.ptr 7 0))),(32,.one (.c (.p (.int .i64 ((zaa.len:Int).toNat:Int))))),(33,.one (.c (.p (.int .i64 zbA))))],[(7,.box 87 [.vec 30]),(30,.vec 96 2 16 zgq zcO)],[]⟩
def zlX (K:List PA→Prop) (zaa:(Sl Gate)) (kink:Int) (zab:(Sl Mp)) (zbA:Int) (zgq:Nat) (zcO:Nat→List PV):Prop:=vc Try.prog G56 zaL (cdF Try.f56 [1,1,1,1,0,1,0]) (zaA 0 (sqK Try.prog G56 zaL (cdF Try.f56 [1,1,1,1,1]) (zbF Try.prog Try.f56 K))) (zlW zaa kink zab zbA zgq zcO)
def zMX (zaa:(Sl Gate)) (kink:Int) (zab:(Sl Mp)) (zs5:Nat) (zjt:Nat→List PV):St:=⟨[(0,.one (.c (.p (.sl zaa.len 3 (fun i=>enc_55 (zaa.get i)))))),(1,.one (.c (.p (.int .i64 kink)))),(6,.one (.c (.p (.sl zab.len 1 (fun i=>zbs (zab.get i)))))),(7,.one (.c (.ptr 7 0)))],[(7,.box 87 [.vec 30]),(30,.vec 96 2 16 zs5 zjt)],[]⟩
def zoK (K:List PA→Prop) (zaa:(Sl Gate)) (kink:Int) (zab:(Sl Mp)) (zs5:Nat) (zjt:Nat→List PV):Prop:=vc Try.prog G56 zaL (cdF Try.f56 [1,1,1,1,1]) (zbF Try.prog Try.f56 K) (zMX zaa kink zab zs5 zjt)
def zj9 (zaa:(Sl Gate)) (kink:Int) (zab:(Sl Mp)) (za4:(Sl Span)) (za5:(List (List Int))) (zaH:Nat) (zaF:(List Int→Option (List Int))):St:=⟨[(0,.one (.c (.p (.sl zaa.len 3 (fun i=>enc_55 (zaa.get i)))))),(1,.one (.c (.p (.int .i64 kink)))),(6,.one (.c (.p (.sl zab.len 1 (fun i=>zbs (zab.get i)))))),(7,.one (.c (.ptr 7 0))),(9,.one (.c (.clo 94 [.b 7]))),(10,.one (.c (.mo 42))),(46,.one (.c (.ptr 46 0)))],[(7,.box 87 [.vec 30]),(30,.vec 96 2 16 za4.len (fun i=>zan (za4.get i))),(42,.mo 131 4 (true,2,false,[none]) zaH zaF),(46,.mit (true,2,false,[some .i64]) ((zab.get 0).n) ((zab.get 0).F) za5)],[]⟩
def zlY (K:List PA→Prop) (zaa:(Sl Gate)) (kink:Int) (zab:(Sl Mp)) (za4:(Sl Span)) (za5:(List (List Int))) (zaH:Nat) (zaF:(List Int→Option (List Int))):Prop:=vc Try.prog G56 zaL (cdF Try.f56 [1,1,1,1,1,1,1,0,1,0]) (zaA 2 (sqK Try.prog G56 zaL (cdF Try.f56 [1,1,1,1,1,1,1,1]) (zbF Try.prog Try.f56 K))) (zj9 zaa kink zab za4 za5 zaH zaF)
def zMY (zaa:(Sl Gate)) (kink:Int) (zab:(Sl Mp)) (zs6:Nat) (zju:Nat→List PV) (zcF:Nat) (zda:(List Int→Option (List Int))):St:=⟨[(0,.one (.c (.p (.sl zaa.len 3 (fun i=>enc_55 (zaa.get i)))))),(1,.one (.c (.p (.int .i64 kink)))),(6,.one (.c (.p (.sl zab.len 1 (fun i=>zbs (zab.get i)))))),(7,.one (.c (.ptr 7 0))),(9,.one (.c (.clo 94 [.b 7]))),(10,.one (.c (.mo 42)))],[(7,.box 87 [.vec 30]),(30,.vec 96 2 16 zs6 zju),(42,.mo 131 4 (true,2,false,[none]) zcF zda)],[]⟩
def zoL (K:List PA→Prop) (zaa:(Sl Gate)) (kink:Int) (zab:(Sl Mp)) (zs6:Nat) (zju:Nat→List PV) (zcF:Nat) (zda:(List Int→Option (List Int))):Prop:=vc Try.prog G56 zaL (cdF Try.f56 [1,1,1,1,1,1,1,1]) (zbF Try.prog Try.f56 K) (zMY zaa kink zab zs6 zju zcF zda)
def zMZ (zaa:(Sl Gate)) (kink:Int) (zab:(Sl Mp)) (zs7:Nat) (zjv:Nat→List PV) (zdb:Nat) (zdc:(List Int→Option (List Int))):St:=⟨[(0,.one (.c (.p (.sl zaa.len 3 (fun i=>enc_55 (zaa.get i)))))),(1,.one (.c (.p (.int .i64 kink)))),(6,.one (.c (.p (.sl zab.len 1 (fun i=>zbs (zab.get i)))))),(7,.one (.c (.ptr 7 0))),(9,.one (.c (.clo 94 [.b 7]))),(10,.one (.c (.mo 42)))],[(7,.box 87 [.vec 30]),(30,.vec 96 2 16 zs7 zjv),(42,.mo 131 4 (true,2,false,[none]) zdb zdc)],[]⟩
def zoM (K:List PA→Prop) (zaa:(Sl Gate)) (kink:Int) (zab:(Sl Mp)) (zs7:Nat) (zjv:Nat→List PV) (zdb:Nat) (zdc:(List Int→Option (List Int))):Prop:=vc Try.prog G56 zaL (cdF Try.f56 [1,1,1,1,1,1,1,1,1]) (zbF Try.prog Try.f56 K) (zMZ zaa kink zab zs7 zjv zdb zdc)
def zfO (zaa:(Sl Gate)) (kink:Int) (zab:(Sl Mp)) (zad:Nat) (zac:(List Int→Option (List Int))) (zba:Int) (zgr:Nat) (zbf:Nat→List PV):St:=⟨[(0,.one (.c (.p (.sl zaa.len 3 (fun i=>enc_55 (zaa.get i)))))),(1,.one (.c (.p (.int .i64 kink)))),(6,.one (.c (.p (.sl zab.len 1 (fun i=>zbs (zab.get i)))))),(7,.one (.c (.ptr 7 0))),(9,.one (.c (.clo 94 [.b 7]))),(10,.one (.c (.p (.fm (true,2,false,[none]) zad zac)))),(62,.one (.c (.p (.int .i64 (w64 ((zaa.len:Int) - (1:Int))))))),(63,.one (.c (.p (.int .i64 zba))))],[(7,.box 87 [.vec 30]),(30,.vec 96 2 16 zgr zbf)],[]⟩
def zlZ (K:List PA→Prop) (zaa:(Sl Gate)) (kink:Int) (zab:(Sl Mp)) (zad:Nat) (zac:(List Int→Option (List Int))) (zba:Int) (zgr:Nat) (zbf:Nat→List PV):Prop:=vc Try.prog G56 zaL (cdF Try.f56 [1,1,1,1,1,1,1,1,1,0,1,0]) (zaA 4 (sqK Try.prog G56 zaL (cdF Try.f56 [1,1,1,1,1,1,1,1,1,1]) (zbF Try.prog Try.f56 K))) (zfO zaa kink zab zad zac zba zgr zbf)
def zfP (zaa:(Sl Gate)) (kink:Int) (zab:(Sl Mp)) (zad:Nat) (zac:(List Int→Option (List Int))) (zai:(List (List Int))) (iv9:Int) (za8:Int) (zgs:Nat) (zbg:Nat→List PV) (zas:Nat) (zat:(List Int→Option (List Int))):St:=⟨[(0,.one (.c (.p (.sl zaa.len 3 (fun i=>enc_55 (zaa.get i)))))),(1,.one (.c (.p (.int .i64 kink)))),(6,.one (.c (.p (.sl zab.len 1 (fun i=>zbs (zab.get i)))))),(7,.one (.c (.ptr 7 0))),(9,.one (.c (.clo 94 [.b 7]))),(13,.one (.c (.p (.int .i64 iv9)))),(14,.one (.c (.mo 66))),(62,.one (.c (.p (.int .i64 (w64 ((zaa.len:Int) - (1:Int))))))),(63,.one (.c (.p (.int .i64 za8)))),(68,.one (.c (.ptr 68 0)))],[(7,.box 87 [.vec 30]),(30,.vec 96 2 16 zgs zbg),(66,.mo 131 4 (true,2,false,[none]) zas zat),(68,.mit (true,2,false,[none]) zad zac zai)],[]⟩
def zl0 (K:List PA→Prop) (X8:St→Prop) (zaa:(Sl Gate)) (kink:Int) (zab:(Sl Mp)) (zad:Nat) (zac:(List Int→Option (List Int))) (zai:(List (List Int))) (iv9:Int) (za8:Int) (zgs:Nat) (zbg:Nat→List PV) (zas:Nat) (zat:(List Int→Option (List Int))):Prop:=vc Try.prog G56 zaL (cdF Try.f56 [1,1,1,1,1,1,1,1,1,0,1,0,0,1,1,0,0,1,1,0,1,0]) (zaA 6 (sqK Try.prog G56 zaL (cdF Try.f56 [1,1,1,1,1,1,1,1,1,0,1,0,0,1,1,0,0,1,1,1]) (zaA 5 (sqK Try.prog G56 zaL (cdF Try.f56 [1,1,1,1,1,1,1,1,1,0,1,0,0,1,1,1]) (zb8 Try.prog zaL 20 X8 (zaA 4 (sqK Try.prog G56 zaL (cdF Try.f56 [1,1,1,1,1,1,1,1,1,1]) (zbF Try.prog Try.f56 K)))))))) (zfP zaa kink zab zad zac zai iv9 za8 zgs zbg zas zat)
def zIR (zaa:(Sl Gate)) (kink:Int) (zab:(Sl Mp)) (zad:Nat) (zac:(List Int→Option (List Int))) (zai:(List (List Int))) (k68_0:Int) (k68_1:Int) (zdW:Int) (zeb:Int) (zoN:Nat) (zgL:Nat→List PV) (zcn:Nat) (zco:(List Int→Option (List Int))):St:=⟨[(0,.one (.c (.p (.sl zaa.len 3 (fun i=>enc_55 (zaa.get i)))))),(1,.one (.c (.p (.int .i64 kink)))),(6,.one (.c (.p (.sl zab.len 1 (fun i=>zbs (zab.get i)))))),(7,.one (.c (.ptr 7 0))),(9,.one (.c (.clo 94 [.b 7]))),(13,.one (.c (.p (.int .i64 zdW)))),(14,.one (.c (.mo 66))),(15,.one (.c (.ptr 15 0))),(62,.one (.c (.p (.int .i64 (w64 ((zaa.len:Int) - (1:Int))))))),(63,.one (.c (.p (.int .i64 zeb)))),(68,.one (.c (.ptr 68 0)))],[(7,.box 87 [.vec 30]),(15,.box 131 [.p (.int .i64 k68_0),.p (.int .i64 k68_1)]),(30,.vec 96 2 16 zoN zgL),(66,.mo 131 4 (true,2,false,[none]) zcn zco),(68,.mit (true,2,false,[none]) zad zac ([k68_0,k68_1] :: zai))],[]⟩
def zku (K:List PA→Prop) (X8:St→Prop) (X9:St→Prop) (zaa:(Sl Gate)) (kink:Int) (zab:(Sl Mp)) (zad:Nat) (zac:(List Int→Option (List Int))) (zai:(List (List Int))) (k68_0:Int) (k68_1:Int) (zdW:Int) (zeb:Int) (zoN:Nat) (zgL:Nat→List PV) (zcn:Nat) (zco:(List Int→Option (List Int))):Prop:=vc Try.prog G56 zaL (cdF Try.f56 [1,1,1,1,1,1,1,1,1,0,1,0,0,1,1,0,0,1,1,0,1,0,0,1,1,0,1,1]) (zaA 7 (zb8 Try.prog zaL 24 X9 (zaA 6 (sqK Try.prog G56 zaL (cdF Try.f56 [1,1,1,1,1,1,1,1,1,0,1,0,0,1,1,0,0,1,1,1]) (zaA 5 (sqK Try.prog G56 zaL (cdF Try.f56 [1,1,1,1,1,1,1,1,1,0,1,0,0,1,1,1]) (zb8 Try.prog zaL 20 X8 (zaA 4 (sqK Try.prog G56 zaL (cdF Try.f56 [1,1,1,1,1,1,1,1,1,1]) (zbF Try.prog Try.f56 K)))))))))) (zIR zaa kink zab zad zac zai k68_0 k68_1 zdW zeb zoN zgL zcn zco)
def zIS (zaa:(Sl Gate)) (kink:Int) (zab:(Sl Mp)) (zad:Nat) (zac:(List Int→Option (List Int))) (zai:(List (List Int))) (k68_0:Int) (k68_1:Int) (ze4:Int) (zdp:Int) (zoO:Nat) (zgM:Nat→List PV) (zbX:Nat) (zbY:(List Int→Option (List Int))):St:=⟨[(0,.one (.c (.p (.sl zaa.len 3 (fun i=>enc_55 (zaa.get i)))))),(1,.one (.c (.p (.int .i64 kink)))),(6,.one (.c (.p (.sl zab.len 1 (fun i=>zbs (zab.get i)))))),(7,.one (.c (.ptr 7 0))),(9,.one (.c (.clo 94 [.b 7]))),(13,.one (.c (.p (.int .i64 ze4)))),(14,.one (.c (.mo 66))),(15,.one (.c (.ptr 15 0))),(62,.one (.c (.p (.int .i64 (w64 ((zaa.len:Int) - (1:Int))))))),(63,.one (.c (.p (.int .i64 zdp)))),(68,.one (.c (.ptr 68 0)))],[(7,.box 87 [.vec 30]),(15,.box 131 [.p (.int .i64 k68_0),.p (.int .i64 k68_1)]),(30,.vec 96 2 16 zoO zgM),(66,.mo 131 4 (true,2,false,[none]) zbX zbY),(68,.mit (true,2,false,[none]) zad zac ([k68_0,k68_1] :: zai))],[]⟩
def zkv (K:List PA→Prop) (X8:St→Prop) (X9:St→Prop) (zaa:(Sl Gate)) (kink:Int) (zab:(Sl Mp)) (zad:Nat) (zac:(List Int→Option (List Int))) (zai:(List (List Int))) (k68_0:Int) (k68_1:Int) (ze4:Int) (zdp:Int) (zoO:Nat) (zgM:Nat→List PV) (zbX:Nat) (zbY:(List Int→Option (List Int))):Prop:=vc Try.prog G56 zaL (cdF Try.f56 [1,1,1,1,1,1,1,1,1,0,1,0,0,1,1,0,0,1,1,0,1,0,0,1,1,0,1,1,1]) (zaA 7 (zb8 Try.prog zaL 24 X9 (zaA 6 (sqK Try.prog G56 zaL (cdF Try.f56 [1,1,1,1,1,1,1,1,1,0,1,0,0,1,1,0,0,1,1,1]) (zaA 5 (sqK Try.prog G56 zaL (cdF Try.f56 [1,1,1,1,1,1,1,1,1,0,1,0,0,1,1,1]) (zb8 Try.prog zaL 20 X8 (zaA 4 (sqK Try.prog G56 zaL (cdF Try.f56 [1,1,1,1,1,1,1,1,1,1]) (zbF Try.prog Try.f56 K)))))))))) (zIS zaa kink zab zad zac zai k68_0 k68_1 ze4 zdp zoO zgM zbX zbY)
def zfB (zaa:(Sl Gate)) (kink:Int) (zab:(Sl Mp)) (zad:Nat) (zac:(List Int→Option (List Int))) (zai:(List (List Int))) (k68_0:Int) (k68_1:Int) (zbR:Int) (zc1:Int) (zaV:Int) (zeN:Nat) (zbK:Nat→List PV) (zau:Nat) (zav:(List Int→Option (List Int))):St:=⟨[(0,.one (.c (.p (.sl zaa.len 3 (fun i=>enc_55 (zaa.get i)))))),(1,.one (.c (.p (.int .i64 kink)))),(6,.one (.c (.p (.sl zab.len 1 (fun i=>zbs (zab.get i)))))),(7,.one (.c (.ptr 7 0))),(9,.one (.c (.clo 94 [.b 7]))),(13,.one (.c (.p (.int .i64 zbR)))),(14,.one (.c (.mo 66))),(15,.one (.c (.ptr 15 0))),(16,.one (.c (.p (.int .i64 zc1)))),(62,.one (.c (.p (.int .i64 (w64 ((zaa.len:Int) - (1:Int))))))),(63,.one (.c (.p (.int .i64 zaV)))),(68,.one (.c (.ptr 68 0)))],[(7,.box 87 [.vec 30]),(15,.box 131 [.p (.int .i64 k68_0),.p (.int .i64 k68_1)]),(30,.vec 96 2 16 zeN zbK),(66,.mo 131 4 (true,2,false,[none]) zau zav),(68,.mit (true,2,false,[none]) zad zac ([k68_0,k68_1] :: zai))],[]⟩
def ziD (K:List PA→Prop) (X8:St→Prop) (X9:St→Prop) (zaa:(Sl Gate)) (kink:Int) (zab:(Sl Mp)) (zad:Nat) (zac:(List Int→Option (List Int))) (zai:(List (List Int))) (k68_0:Int) (k68_1:Int) (zbR:Int) (zc1:Int) (zaV:Int) (zeN:Nat) (zbK:Nat→List PV) (zau:Nat) (zav:(List Int→Option (List Int))):Prop:=vc Try.prog G56 zaL (cdF Try.f56 [1,1,1,1,1,1,1,1,1,0,1,0,0,1,1,0,0,1,1,0,1,0,0,1,1,0,1,1,1,1,1,0]) (zaA 8 (zaA 7 (zb8 Try.prog zaL 24 X9 (zaA 6 (sqK Try.prog G56 zaL (cdF Try.f56 [1,1,1,1,1,1,1,1,1,0,1,0,0,1,1,0,0,1,1,1]) (zaA 5 (sqK Try.prog G56 zaL (cdF Try.f56 [1,1,1,1,1,1,1,1,1,0,1,0,0,1,1,1]) (zb8 Try.prog zaL 20 X8 (zaA 4 (sqK Try.prog G56 zaL (cdF Try.f56 [1,1,1,1,1,1,1,1,1,1]) (zbF Try.prog Try.f56 K))))))))))) (zfB zaa kink zab zad zac zai k68_0 k68_1 zbR zc1 zaV zeN zbK zau zav)
def zIT (zaa:(Sl Gate)) (kink:Int) (zab:(Sl Mp)) (zad:Nat) (zac:(List Int→Option (List Int))) (zai:(List (List Int))) (k68_0:Int) (k68_1:Int) (zh1:Int) (znl:Int) (zdq:Int) (zdl:Bool) (zdr:Int) (zoP:Nat) (zgN:Nat→List PV) (zbZ:Nat) (zbo:(List Int→Option (List Int))):St:=⟨[(0,.one (.c (.p (.sl zaa.len 3 (fun i=>enc_55 (zaa.get i)))))),(1,.one (.c (.p (.int .i64 kink)))),(6,.one (.c (.p (.sl zab.len 1 (fun i=>zbs (zab.get i)))))),(7,.one (.c (.ptr 7 0))),(9,.one (.c (.clo 94 [.b 7]))),(13,.one (.c (.p (.int .i64 zh1)))),(14,.one (.c (.mo 66))),(15,.one (.c (.ptr 15 0))),(16,.one (.c (.p (.int .i64 znl)))),(17,.one (.c (.ptr 17 0))),(62,.one (.c (.p (.int .i64 (w64 ((zaa.len:Int) - (1:Int))))))),(63,.one (.c (.p (.int .i64 zdq)))),(68,.one (.c (.ptr 68 0))),(144,.one (.c (.p (.bool zdl))))],[(7,.box 87 [.vec 30]),(15,.box 131 [.p (.int .i64 k68_0),.p (.int .i64 k68_1)]),(17,.box 131 [.p (.int .i64 k68_1),.p (.int .i64 zdr)]),(30,.vec 96 2 16 zoP zgN),(66,.mo 131 4 (true,2,false,[none]) zbZ zbo),(68,.mit (true,2,false,[none]) zad zac ([k68_0,k68_1] :: zai))],[]⟩
def ziE (K:List PA→Prop) (X8:St→Prop) (X9:St→Prop) (X12:St→Prop) (zaa:(Sl Gate)) (kink:Int) (zab:(Sl Mp)) (zad:Nat) (zac:(List Int→Option (List Int))) (zai:(List (List Int))) (k68_0:Int) (k68_1:Int) (zh1:Int) (znl:Int) (zdq:Int) (zdl:Bool) (zdr:Int) (zoP:Nat) (zgN:Nat→List PV) (zbZ:Nat) (zbo:(List Int→Option (List Int))):Prop:=vc Try.prog G56 zaL (cdF Try.f56 [1,1,1,1,1,1,1,1,1,0,1,0,0,1,1,0,0,1,1,0,1,0,0,1,1,0,1,1,1,1,1,0,0,1,0,0,1,1]) (zaA 9 (sqK Try.prog G56 zaL (cdF Try.f56 [1,1,1,1,1,1,1,1,1,0,1,0,0,1,1,0,0,1,1,0,1,0,0,1,1,0,1,1,1,1,1,0,0,1,1]) (zb8 Try.prog zaL 30 X12 (zaA 8 (zaA 7 (zb8 Try.prog zaL 24 X9 (zaA 6 (sqK Try.prog G56 zaL (cdF Try.f56 [1,1,1,1,1,1,1,1,1,0,1,0,0,1,1,0,0,1,1,1]) (zaA 5 (sqK Try.prog G56 zaL (cdF Try.f56 [1,1,1,1,1,1,1,1,1,0,1,0,0,1,1,1]) (zb8 Try.prog zaL 20 X8 (zaA 4 (sqK Try.prog G56 zaL (cdF Try.f56 [1,1,1,1,1,1,1,1,1,1]) (zbF Try.prog Try.f56 K)))))))))))))) (zIT zaa kink zab zad zac zai k68_0 k68_1 zh1 znl zdq zdl zdr zoP zgN zbZ zbo)
theorem zIU (zaa : (Sl Gate)) (kink : Int) (K : List PA → Prop) :
  vcFun Try.prog G56 zaL 56 [.one (.sl zaa.len 3 (fun i=>enc_55 (zaa.get i))),.one (.int .i64 kink)] K =
  ((IsE enc_55 3 3 (fun i=>enc_55 (zaa.get i))∧(p92 zaa=true)) ∧
 (zcP (!(s92 zaa))
 (zlV K zaa kink true)
 (zlV K zaa kink (!(s74 kink (0:Int) (1000000:Int)))))):=by kernel_rfl
theorem zIV (K : List PA → Prop) (zaa : (Sl Gate)) (kink : Int) (zhK : Bool) :
  zlV K zaa kink zhK =
  (zcP zhK
 (K [.one (.nils),.one (.int .i64 (2:Int))])
 (zoI K zaa kink)):=by kernel_rfl
theorem zIW (K : List PA → Prop) (zaa : (Sl Gate)) (kink : Int) :
  zoI K zaa kink =
  ((IsE enc_55 3 3 (fun i=>enc_55 (zaa.get i))∧(p93 zaa=true)) ∧
 (zoJ K zaa kink ((s93 zaa).len) (fun i=>zbs ((s93 zaa).get i)))):=by kernel_rfl
theorem zIX (K : List PA → Prop) (zaa : (Sl Gate)) (kink : Int) (zab : (Sl Mp)) :
  zoJ K zaa kink zab.len (fun i=>zbs (zab.get i)) =
  (((0≤(zaa.len:Int)∧(zaa.len:Int)=(zaa.len:Int)∧(zaa.len:Int)≤1000000)) ∧
 (zlX K zaa kink zab (0:Int) ((zaa.len:Int).toNat) (fun _=>(zan (⟨(0:Int),(0:Int)⟩:Span))))):=by kernel_rfl
def zqZ (K:List PA→Prop) (X3:St→Prop) (zaa:(Sl Gate)) (kink:Int) (zab:(Sl Mp)) (zbA:Int) (zbQ:(Sl Span)):Prop :=
  (zcP (decide (zbA < ((zaa.len : Int).toNat : Int)))
 (((0≤zbA∧zbA < (zbQ.len:Int))) ∧
 (((zbA.toNat < zbQ.len)) ∧
 (X3 (zlW zaa kink zab (w64 (zbA+(1:Int))) zbQ.len (zpu zbA.toNat 0 (fun i=>zan (zbQ.get i)) (zan (⟨(1000001:Int),(-1000001:Int)⟩:Span)))))))
 (zoK K zaa kink zab zbQ.len (fun i=>zan (zbQ.get i))))
theorem zs8 (K : List PA → Prop) (X3 : St → Prop) (zaa : (Sl Gate)) (kink : Int) (zab : (Sl Mp)) (zbA : Int) (zbQ : (Sl Span)) :
  vc Try.prog G56 zaL (cd (cdF Try.f56 [1,1,1,1,0,1,0]) [0]) (zb8 Try.prog zaL 6 X3 (zaA 0 (sqK Try.prog G56 zaL (cdF Try.f56 [1,1,1,1,1]) (zbF Try.prog Try.f56 K)))) (zlW zaa kink zab zbA zbQ.len (fun i=>zan (zbQ.get i))) =
  zqZ K X3 zaa kink zab zbA zbQ:=by kernel_rfl
theorem zBs (K : List PA → Prop) (zaa : (Sl Gate)) (kink : Int) (zab : (Sl Mp)) (zbA : Int) (zgq : Nat) (zcO : Nat → List PV)
  (h:∀ X3:St→Prop,(∀ (zbA:Int) (zbQ:(Sl Span)),zqZ K X3 zaa kink zab zbA zbQ→X3 (zlW zaa kink zab zbA zbQ.len (fun i=>zan (zbQ.get i))))→X3 (zlW zaa kink zab zbA zgq zcO)) :
  zlX K zaa kink zab zbA zgq zcO:=by
  have e:zlX K zaa kink zab zbA zgq zcO=(∀ X:St→Prop,(∀ s,vc Try.prog G56 zaL (cd (cdF Try.f56 [1,1,1,1,0,1,0]) [0]) (zb8 Try.prog zaL 6 X (zaA 0 (sqK Try.prog G56 zaL (cdF Try.f56 [1,1,1,1,1]) (zbF Try.prog Try.f56 K)))) s→X s)→X (zlW zaa kink zab zbA zgq zcO)):=by kernel_rfl
  refine zaI e ?_
  intro X hX
  refine h X ?_
  intro zbA zbQ hs
  refine hX _ ?_
  have e2:=zs8 K X zaa kink zab zbA zbQ
  rw [e2]
  exact hs
theorem zIY (K : List PA → Prop) (zaa : (Sl Gate)) (kink : Int) (zab : (Sl Mp)) (za4 : (Sl Span)) :
  zoK K zaa kink zab za4.len (fun i=>zan (za4.get i)) =
  (((0≤(0:Int)∧(0:Int) < (zab.len:Int))) ∧
 (zlY K zaa kink zab za4 ([]) 0 (fun _=>none))):=by kernel_rfl
def zq0 (K:List PA→Prop) (X5:St→Prop) (zaa:(Sl Gate)) (kink:Int) (zab:(Sl Mp)) (za4:(Sl Span)) (za5:(List (List Int))) (zaH:Nat) (zaF:(List Int→Option (List Int))):Prop :=
  (zCr 2 ((zab.get 0).n) ((zab.get 0).F) →
 ((∀ c:List Int,c.length=2→((zab.get 0).F) c ≠ none→c∈za5) →
 (zoL K zaa kink zab za4.len (fun i=>zan (za4.get i)) zaH zaF))∧∀ k46_0 k46_1:Int,((zab.get 0).F) [k46_0,k46_1] ≠ none→[k46_0,k46_1] ∉ za5 →
 (zcP (decide ((zdn (((zab.get 0).F) [k46_0, k46_1]) 0) ≤ kink))
 (X5 (zj9 zaa kink zab za4 ([k46_0,k46_1] :: za5) (addN (zaF [k46_0,k46_1]) zaH) (zfa [k46_0,k46_1] [1] zaF)))
 (X5 (zj9 zaa kink zab za4 ([k46_0,k46_1] :: za5) zaH zaF))))
theorem zs9 (K : List PA → Prop) (X5 : St → Prop) (zaa : (Sl Gate)) (kink : Int) (zab : (Sl Mp)) (za4 : (Sl Span)) (za5 : (List (List Int))) (zaH : Nat) (zaF : (List Int → Option (List Int))) :
  vc Try.prog G56 zaL (cd (cdF Try.f56 [1,1,1,1,1,1,1,0,1,0]) [0]) (zb8 Try.prog zaL 13 X5 (zaA 2 (sqK Try.prog G56 zaL (cdF Try.f56 [1,1,1,1,1,1,1,1]) (zbF Try.prog Try.f56 K)))) (zj9 zaa kink zab za4 za5 zaH zaF) =
  zq0 K X5 zaa kink zab za4 za5 zaH zaF:=by kernel_rfl
theorem zBt (K : List PA → Prop) (zaa : (Sl Gate)) (kink : Int) (zab : (Sl Mp)) (za4 : (Sl Span)) (za5 : (List (List Int))) (zaH : Nat) (zaF : (List Int → Option (List Int)))
  (h:∀ X5:St→Prop,(∀ (za5:(List (List Int))) (zaH:Nat) (zaF:(List Int→Option (List Int))),zq0 K X5 zaa kink zab za4 za5 zaH zaF→X5 (zj9 zaa kink zab za4 za5 zaH zaF))→X5 (zj9 zaa kink zab za4 za5 zaH zaF)) :
  zlY K zaa kink zab za4 za5 zaH zaF:=by
  have e:zlY K zaa kink zab za4 za5 zaH zaF=(∀ X:St→Prop,(∀ s,vc Try.prog G56 zaL (cd (cdF Try.f56 [1,1,1,1,1,1,1,0,1,0]) [0]) (zb8 Try.prog zaL 13 X (zaA 2 (sqK Try.prog G56 zaL (cdF Try.f56 [1,1,1,1,1,1,1,1]) (zbF Try.prog Try.f56 K)))) s→X s)→X (zj9 zaa kink zab za4 za5 zaH zaF)):=by kernel_rfl
  refine zaI e ?_
  intro X hX
  refine h X ?_
  intro za5 zaH zaF hs
  refine hX _ ?_
  have e2:=zs9 K X zaa kink zab za4 za5 zaH zaF
  rw [e2]
  exact hs
theorem zIZ (K : List PA → Prop) (zaa : (Sl Gate)) (kink : Int) (zab : (Sl Mp)) (zgY : (Sl Span)) (zcF : Nat) (zda : (List Int → Option (List Int))) :
  zoL K zaa kink zab zgY.len (fun i=>zan (zgY.get i)) zcF zda =
  (zcP ((zcF : Int) == (0:Int))
 (K [.one (.nils),.one (.int .i64 (5:Int))])
 (zoM K zaa kink zab zgY.len (fun i=>zan (zgY.get i)) zcF zda)):=by kernel_rfl
theorem zI0 (K : List PA → Prop) (zaa : (Sl Gate)) (kink : Int) (zab : (Sl Mp)) (zgZ : (Sl Span)) (zdb : Nat) (zdc : (List Int → Option (List Int))) :
  zoM K zaa kink zab zgZ.len (fun i=>zan (zgZ.get i)) zdb zdc =
  (zlZ K zaa kink zab zdb zdc (0:Int) zgZ.len (fun i=>zan (zgZ.get i))):=by kernel_rfl
def zq1 (K:List PA→Prop) (X8:St→Prop) (zaa:(Sl Gate)) (kink:Int) (zab:(Sl Mp)) (zad:Nat) (zac:(List Int→Option (List Int))) (zba:Int) (zbh:(Sl Span)):Prop :=
  (zcP (decide (zba < (w64 ((zaa.len : Int) - (1:Int)))))
 (zl0 K X8 zaa kink zab zad zac ([]) zba zba zbh.len (fun i=>zan (zbh.get i)) 0 (fun _=>none))
 (K [.one (.sl zbh.len 2 (fun i=>zan (zbh.get i))),.one (.int .i64 (0:Int))]))
theorem zta (K : List PA → Prop) (X8 : St → Prop) (zaa : (Sl Gate)) (kink : Int) (zab : (Sl Mp)) (zad : Nat) (zac : (List Int → Option (List Int))) (zba : Int) (zbh : (Sl Span)) :
  vc Try.prog G56 zaL (cd (cdF Try.f56 [1,1,1,1,1,1,1,1,1,0,1,0]) [0]) (zb8 Try.prog zaL 20 X8 (zaA 4 (sqK Try.prog G56 zaL (cdF Try.f56 [1,1,1,1,1,1,1,1,1,1]) (zbF Try.prog Try.f56 K)))) (zfO zaa kink zab zad zac zba zbh.len (fun i=>zan (zbh.get i))) =
  zq1 K X8 zaa kink zab zad zac zba zbh:=by kernel_rfl
theorem zBu (K : List PA → Prop) (zaa : (Sl Gate)) (kink : Int) (zab : (Sl Mp)) (zad : Nat) (zac : (List Int → Option (List Int))) (zba : Int) (zgr : Nat) (zbf : Nat → List PV)
  (h:∀ X8:St→Prop,(∀ (zad:Nat) (zac:(List Int→Option (List Int))) (zba:Int) (zbh:(Sl Span)),zq1 K X8 zaa kink zab zad zac zba zbh→X8 (zfO zaa kink zab zad zac zba zbh.len (fun i=>zan (zbh.get i))))→X8 (zfO zaa kink zab zad zac zba zgr zbf)) :
  zlZ K zaa kink zab zad zac zba zgr zbf:=by
  have e:zlZ K zaa kink zab zad zac zba zgr zbf=(∀ X:St→Prop,(∀ s,vc Try.prog G56 zaL (cd (cdF Try.f56 [1,1,1,1,1,1,1,1,1,0,1,0]) [0]) (zb8 Try.prog zaL 20 X (zaA 4 (sqK Try.prog G56 zaL (cdF Try.f56 [1,1,1,1,1,1,1,1,1,1]) (zbF Try.prog Try.f56 K)))) s→X s)→X (zfO zaa kink zab zad zac zba zgr zbf)):=by kernel_rfl
  refine zaI e ?_
  intro X hX
  refine h X ?_
  intro zad zac zba zbh hs
  refine hX _ ?_
  have e2:=zta K X zaa kink zab zad zac zba zbh
  rw [e2]
  exact hs
def zq2 (K:List PA→Prop) (X8:St→Prop) (X9:St→Prop) (zaa:(Sl Gate)) (kink:Int) (zab:(Sl Mp)) (zad:Nat) (zac:(List Int→Option (List Int))) (zai:(List (List Int))) (iv9:Int) (za8:Int) (zaY:(Sl Span)) (zas:Nat) (zat:(List Int→Option (List Int))):Prop :=
  (zCr 2 zad zac →
 ((∀ c:List Int,c.length=2→zac c ≠ none→c∈zai) →
 (X8 (zfO zaa kink zab zas zat (w64 (za8+(1:Int))) zaY.len (fun i=>zan (zaY.get i)))))∧∀ k68_0 k68_1:Int,zac [k68_0,k68_1] ≠ none→[k68_0,k68_1] ∉ zai →
 ((IsE zan 2 2 (fun i=>zan (zaY.get i))∧(p94 iv9 zaY.len=true)) ∧
 (zku K X8 X9 zaa kink zab zad zac zai k68_0 k68_1 iv9 za8 zaY.len (fun i=>zan ((s94 iv9 k68_0 zaY.get) i)) zas zat)))
theorem ztb (K : List PA → Prop) (X8 : St → Prop) (X9 : St → Prop) (zaa : (Sl Gate)) (kink : Int) (zab : (Sl Mp)) (zad : Nat) (zac : (List Int → Option (List Int))) (zai : (List (List Int))) (iv9 : Int) (za8 : Int) (zaY : (Sl Span)) (zas : Nat) (zat : (List Int → Option (List Int))) :
  vc Try.prog G56 zaL (cd (cdF Try.f56 [1,1,1,1,1,1,1,1,1,0,1,0,0,1,1,0,0,1,1,0,1,0]) [0]) (zb8 Try.prog zaL 24 X9 (zaA 6 (sqK Try.prog G56 zaL (cdF Try.f56 [1,1,1,1,1,1,1,1,1,0,1,0,0,1,1,0,0,1,1,1]) (zaA 5 (sqK Try.prog G56 zaL (cdF Try.f56 [1,1,1,1,1,1,1,1,1,0,1,0,0,1,1,1]) (zb8 Try.prog zaL 20 X8 (zaA 4 (sqK Try.prog G56 zaL (cdF Try.f56 [1,1,1,1,1,1,1,1,1,1]) (zbF Try.prog Try.f56 K))))))))) (zfP zaa kink zab zad zac zai iv9 za8 zaY.len (fun i=>zan (zaY.get i)) zas zat) =
  zq2 K X8 X9 zaa kink zab zad zac zai iv9 za8 zaY zas zat:=by kernel_rfl
theorem zBv (K : List PA → Prop) (X8 : St → Prop) (zaa : (Sl Gate)) (kink : Int) (zab : (Sl Mp)) (zad : Nat) (zac : (List Int → Option (List Int))) (zai : (List (List Int))) (iv9 : Int) (za8 : Int) (zgs : Nat) (zbg : Nat → List PV) (zas : Nat) (zat : (List Int → Option (List Int)))
  (h:∀ X9:St→Prop,(∀ (zai:(List (List Int))) (iv9:Int) (za8:Int) (zaY:(Sl Span)) (zas:Nat) (zat:(List Int→Option (List Int))),zq2 K X8 X9 zaa kink zab zad zac zai iv9 za8 zaY zas zat→X9 (zfP zaa kink zab zad zac zai iv9 za8 zaY.len (fun i=>zan (zaY.get i)) zas zat))→X9 (zfP zaa kink zab zad zac zai iv9 za8 zgs zbg zas zat)) :
  zl0 K X8 zaa kink zab zad zac zai iv9 za8 zgs zbg zas zat:=by
  have e:zl0 K X8 zaa kink zab zad zac zai iv9 za8 zgs zbg zas zat=(∀ X:St→Prop,(∀ s,vc Try.prog G56 zaL (cd (cdF Try.f56 [1,1,1,1,1,1,1,1,1,0,1,0,0,1,1,0,0,1,1,0,1,0]) [0]) (zb8 Try.prog zaL 24 X (zaA 6 (sqK Try.prog G56 zaL (cdF Try.f56 [1,1,1,1,1,1,1,1,1,0,1,0,0,1,1,0,0,1,1,1]) (zaA 5 (sqK Try.prog G56 zaL (cdF Try.f56 [1,1,1,1,1,1,1,1,1,0,1,0,0,1,1,1]) (zb8 Try.prog zaL 20 X8 (zaA 4 (sqK Try.prog G56 zaL (cdF Try.f56 [1,1,1,1,1,1,1,1,1,1]) (zbF Try.prog Try.f56 K))))))))) s→X s)→X (zfP zaa kink zab zad zac zai iv9 za8 zgs zbg zas zat)):=by kernel_rfl
  refine zaI e ?_
  intro X hX
  refine h X ?_
  intro zai iv9 za8 zaY zas zat hs
  refine hX _ ?_
  have e2:=ztb K X8 X zaa kink zab zad zac zai iv9 za8 zaY zas zat
  rw [e2]
  exact hs
theorem zDI (K : List PA → Prop) (X8 : St → Prop) (X9 : St → Prop) (zaa : (Sl Gate)) (kink : Int) (zab : (Sl Mp)) (zad : Nat) (zac : (List Int → Option (List Int))) (zai : (List (List Int))) (k68_0 : Int) (k68_1 : Int) (zdW : Int) (zeb : Int) (zc4 : (Sl Span)) (zcn : Nat) (zco : (List Int → Option (List Int))) :
  zku K X8 X9 zaa kink zab zad zac zai k68_0 k68_1 zdW zeb zc4.len (fun i=>zan (zc4.get i)) zcn zco =
  ((IsE zan 2 2 (fun i=>zan (zc4.get i))∧(p94 (w64 (zdW+(1:Int))) zc4.len=true)) ∧
 (zkv K X8 X9 zaa kink zab zad zac zai k68_0 k68_1 zdW zeb zc4.len (fun i=>zan ((s94 (w64 (zdW+(1:Int))) k68_1 zc4.get) i)) zcn zco)):=by kernel_rfl
theorem zDJ (K : List PA → Prop) (X8 : St → Prop) (X9 : St → Prop) (zaa : (Sl Gate)) (kink : Int) (zab : (Sl Mp)) (zad : Nat) (zac : (List Int → Option (List Int))) (zai : (List (List Int))) (k68_0 : Int) (k68_1 : Int) (ze4 : Int) (zdp : Int) (zc5 : (Sl Span)) (zbX : Nat) (zbY : (List Int → Option (List Int))) :
  zkv K X8 X9 zaa kink zab zad zac zai k68_0 k68_1 ze4 zdp zc5.len (fun i=>zan (zc5.get i)) zbX zbY =
  (zcP ((w64 (ze4 + (2:Int))) == (zaa.len : Int))
 (X9 (zfP zaa kink zab zad zac ([k68_0,k68_1] :: zai) ze4 zdp zc5.len (fun i=>zan (zc5.get i)) zbX zbY))
 (((0≤(w64 (ze4+(2:Int)))∧(w64 (ze4+(2:Int))) < (zaa.len:Int))) ∧
 (ziD K X8 X9 zaa kink zab zad zac zai k68_0 k68_1 ze4 ((zaa.get ((w64 (ze4+(2:Int))).toNat)).Low) zdp zc5.len (fun i=>zan (zc5.get i)) zbX zbY))):=by kernel_rfl
def znm (K:List PA→Prop) (X8:St→Prop) (X9:St→Prop) (X12:St→Prop) (zaa:(Sl Gate)) (kink:Int) (zab:(Sl Mp)) (zad:Nat) (zac:(List Int→Option (List Int))) (zai:(List (List Int))) (k68_0:Int) (k68_1:Int) (zbR:Int) (zc1:Int) (zaV:Int) (zaT:(Sl Span)) (zau:Nat) (zav:(List Int→Option (List Int))):Prop :=
  (((0≤(w64 (zbR+(2:Int)))∧(w64 (zbR+(2:Int))) < (zaa.len:Int))) ∧
 (zcP (decide (zc1 ≤ (zaa.get ((w64 (zbR + (2:Int))).toNat)).High))
 (((0≤(w64 (zbR+(1:Int)))∧(w64 (zbR+(1:Int))) < (zab.len:Int))) ∧
 (zcP (decide ((zdn (((zab.get ((w64 (zbR + (1:Int))).toNat)).F) [k68_1, zc1]) 0) ≤ kink))
 (((0≤zbR∧zbR < (zaa.len:Int))) ∧
 (((0≤(w64 (zbR+(1:Int)))∧(w64 (zbR+(1:Int))) < (zaa.len:Int))) ∧
 (((0≤(w64 (zbR+(2:Int)))∧(w64 (zbR+(2:Int))) < (zaa.len:Int))) ∧
 (((p85 ((zaa.get zbR.toNat).Z) ((zaa.get ((w64 (zbR+(1:Int))).toNat)).Z) ((zaa.get ((w64 (zbR+(2:Int))).toNat)).Z) k68_0 k68_1 zc1=true)) ∧
 (ziE K X8 X9 X12 zaa kink zab zad zac zai k68_0 k68_1 zbR zc1 zaV (decide ((s85 ((zaa.get zbR.toNat).Z) ((zaa.get ((w64 (zbR+(1:Int))).toNat)).Z) ((zaa.get ((w64 (zbR+(2:Int))).toNat)).Z) k68_0 k68_1 zc1)≤kink)) zc1 zaT.len (fun i=>zan (zaT.get i)) zau zav)))))
 (ziE K X8 X9 X12 zaa kink zab zad zac zai k68_0 k68_1 zbR zc1 zaV false zc1 zaT.len (fun i=>zan (zaT.get i)) zau zav)))
 (X9 (zfP zaa kink zab zad zac ([k68_0,k68_1] :: zai) zbR zaV zaT.len (fun i=>zan (zaT.get i)) zau zav))))
theorem zq3 (K : List PA → Prop) (X8 : St → Prop) (X9 : St → Prop) (X12 : St → Prop) (zaa : (Sl Gate)) (kink : Int) (zab : (Sl Mp)) (zad : Nat) (zac : (List Int → Option (List Int))) (zai : (List (List Int))) (k68_0 : Int) (k68_1 : Int) (zbR : Int) (zc1 : Int) (zaV : Int) (zaT : (Sl Span)) (zau : Nat) (zav : (List Int → Option (List Int))) :
  vc Try.prog G56 zaL (cd (cdF Try.f56 [1,1,1,1,1,1,1,1,1,0,1,0,0,1,1,0,0,1,1,0,1,0,0,1,1,0,1,1,1,1,1,0]) [0]) (zb8 Try.prog zaL 30 X12 (zaA 8 (zaA 7 (zb8 Try.prog zaL 24 X9 (zaA 6 (sqK Try.prog G56 zaL (cdF Try.f56 [1,1,1,1,1,1,1,1,1,0,1,0,0,1,1,0,0,1,1,1]) (zaA 5 (sqK Try.prog G56 zaL (cdF Try.f56 [1,1,1,1,1,1,1,1,1,0,1,0,0,1,1,1]) (zb8 Try.prog zaL 20 X8 (zaA 4 (sqK Try.prog G56 zaL (cdF Try.f56 [1,1,1,1,1,1,1,1,1,1]) (zbF Try.prog Try.f56 K)))))))))))) (zfB zaa kink zab zad zac zai k68_0 k68_1 zbR zc1 zaV zaT.len (fun i=>zan (zaT.get i)) zau zav) =
  znm K X8 X9 X12 zaa kink zab zad zac zai k68_0 k68_1 zbR zc1 zaV zaT zau zav:=by kernel_rfl
theorem zwy (K : List PA → Prop) (X8 : St → Prop) (X9 : St → Prop) (zaa : (Sl Gate)) (kink : Int) (zab : (Sl Mp)) (zad : Nat) (zac : (List Int → Option (List Int))) (zai : (List (List Int))) (k68_0 : Int) (k68_1 : Int) (zbR : Int) (zc1 : Int) (zaV : Int) (zeN : Nat) (zbK : Nat → List PV) (zau : Nat) (zav : (List Int → Option (List Int)))
  (h:∀ X12:St→Prop,(∀ (zbR:Int) (zc1:Int) (zaV:Int) (zaT:(Sl Span)) (zau:Nat) (zav:(List Int→Option (List Int))),znm K X8 X9 X12 zaa kink zab zad zac zai k68_0 k68_1 zbR zc1 zaV zaT zau zav→X12 (zfB zaa kink zab zad zac zai k68_0 k68_1 zbR zc1 zaV zaT.len (fun i=>zan (zaT.get i)) zau zav))→X12 (zfB zaa kink zab zad zac zai k68_0 k68_1 zbR zc1 zaV zeN zbK zau zav)) :
  ziD K X8 X9 zaa kink zab zad zac zai k68_0 k68_1 zbR zc1 zaV zeN zbK zau zav:=by
  have e:ziD K X8 X9 zaa kink zab zad zac zai k68_0 k68_1 zbR zc1 zaV zeN zbK zau zav=(∀ X:St→Prop,(∀ s,vc Try.prog G56 zaL (cd (cdF Try.f56 [1,1,1,1,1,1,1,1,1,0,1,0,0,1,1,0,0,1,1,0,1,0,0,1,1,0,1,1,1,1,1,0]) [0]) (zb8 Try.prog zaL 30 X (zaA 8 (zaA 7 (zb8 Try.prog zaL 24 X9 (zaA 6 (sqK Try.prog G56 zaL (cdF Try.f56 [1,1,1,1,1,1,1,1,1,0,1,0,0,1,1,0,0,1,1,1]) (zaA 5 (sqK Try.prog G56 zaL (cdF Try.f56 [1,1,1,1,1,1,1,1,1,0,1,0,0,1,1,1]) (zb8 Try.prog zaL 20 X8 (zaA 4 (sqK Try.prog G56 zaL (cdF Try.f56 [1,1,1,1,1,1,1,1,1,1]) (zbF Try.prog Try.f56 K)))))))))))) s→X s)→X (zfB zaa kink zab zad zac zai k68_0 k68_1 zbR zc1 zaV zeN zbK zau zav)):=by kernel_rfl
  refine zaI e ?_
  intro X hX
  refine h X ?_
  intro zbR zc1 zaV zaT zau zav hs
  refine hX _ ?_
  have e2:=zq3 K X8 X9 X zaa kink zab zad zac zai k68_0 k68_1 zbR zc1 zaV zaT zau zav
  rw [e2]
  exact hs
theorem zDK (K : List PA → Prop) (X8 : St → Prop) (X9 : St → Prop) (X12 : St → Prop) (zaa : (Sl Gate)) (kink : Int) (zab : (Sl Mp)) (zad : Nat) (zac : (List Int → Option (List Int))) (zai : (List (List Int))) (k68_0 : Int) (k68_1 : Int) (zh1 : Int) (znl : Int) (zdq : Int) (zdl : Bool) (zdr : Int) (zc6 : (Sl Span)) (zbZ : Nat) (zbo : (List Int → Option (List Int))) :
  ziE K X8 X9 X12 zaa kink zab zad zac zai k68_0 k68_1 zh1 znl zdq zdl zdr zc6.len (fun i=>zan (zc6.get i)) zbZ zbo =
  (zcP zdl
 (X12 (zfB zaa kink zab zad zac zai k68_0 k68_1 zh1 (w64 (znl+(1:Int))) zdq zc6.len (fun i=>zan (zc6.get i)) (addN (zbo [k68_1,zdr]) zbZ) (zfa [k68_1,zdr] [1] zbo)))
 (X12 (zfB zaa kink zab zad zac zai k68_0 k68_1 zh1 (w64 (znl+(1:Int))) zdq zc6.len (fun i=>zan (zc6.get i)) zbZ zbo))):=by kernel_rfl
abbrev e56 (r:((Sl Span)×Int)):List PA:=[.one (.sl r.1.len 2 (fun i=>zan (r.1.get i))),.one (.int .i64 r.2)]
attribute [irreducible] zlV zoI zoJ zlX zoK zlY zoL zoM zlZ zl0 zku zkv ziD ziE
def ziF (S8:Nat→(List Int→Option (List Int))→Int→(Sl Span)→((Sl Span)×Int)) (S9:Int→Int→(Sl Span)→Nat→(List Int→Option (List Int))→((Sl Span)×Int)) (S12:Int→Int→Int→(Sl Span)→Nat→(List Int→Option (List Int))→((Sl Span)×Int)) (zaa:(Sl Gate)) (kink:Int) (zab:(Sl Mp)) (zad:Nat) (zac:(List Int→Option (List Int))) (k68_0:Int) (k68_1:Int) (zh1:Int) (znl:Int) (zdq:Int) (zdl:Bool) (zdr:Int) (zc6:(Sl Span)) (zbZ:Nat) (zbo:(List Int→Option (List Int))):((Sl Span)×Int) :=
  (cond zdl
 (S12 zh1 (w64 (znl+(1:Int))) zdq zc6 (addN (zbo [k68_1,zdr]) zbZ) (zfa [k68_1,zdr] [1] zbo))
 (S12 zh1 (w64 (znl+(1:Int))) zdq zc6 zbZ zbo))
def ziG (P8:Nat→(List Int→Option (List Int))→Int→(Sl Span)→Bool) (P9:Int→Int→(Sl Span)→Nat→(List Int→Option (List Int))→Bool) (P12:Int→Int→Int→(Sl Span)→Nat→(List Int→Option (List Int))→Bool) (zaa:(Sl Gate)) (kink:Int) (zab:(Sl Mp)) (zad:Nat) (zac:(List Int→Option (List Int))) (k68_0:Int) (k68_1:Int) (zh1:Int) (znl:Int) (zdq:Int) (zdl:Bool) (zdr:Int) (zc6:(Sl Span)) (zbZ:Nat) (zbo:(List Int→Option (List Int))):Bool :=
  (cond zdl
 (P12 zh1 (w64 (znl+(1:Int))) zdq zc6 (addN (zbo [k68_1,zdr]) zbZ) (zfa [k68_1,zdr] [1] zbo))
 (P12 zh1 (w64 (znl+(1:Int))) zdq zc6 zbZ zbo))
theorem zvz (K : List PA → Prop) (zaa : (Sl Gate)) (kink : Int) (zab : (Sl Mp)) (zad : Nat) (zac : (List Int → Option (List Int))) (zai : (List (List Int))) (k68_0 : Int) (k68_1 : Int)
  (X8:St→Prop) (P8:Nat→(List Int→Option (List Int))→Int→(Sl Span)→Bool) (S8:Nat→(List Int→Option (List Int))→Int→(Sl Span)→((Sl Span)×Int))
  (hX8:∀ (zad:Nat) (zac:(List Int→Option (List Int))) (zba:Int) (zbh:(Sl Span)) (zbf:Nat→List PV) (zeR:zbf=fun i=>zan (zbh.get i)),P8 zad zac zba zbh=true→K (e56 (S8 zad zac zba zbh))→X8 (zfO zaa kink zab zad zac zba zbh.len zbf))
  (X9:St→Prop) (P9:Int→Int→(Sl Span)→Nat→(List Int→Option (List Int))→Bool) (S9:Int→Int→(Sl Span)→Nat→(List Int→Option (List Int))→((Sl Span)×Int))
  (hX9:∀ (iv9:Int) (za8:Int) (zaY:(Sl Span)) (zas:Nat) (zat:(List Int→Option (List Int))) (zbg:Nat→List PV) (zd2:zbg=fun i=>zan (zaY.get i)),P9 iv9 za8 zaY zas zat=true→K (e56 (S9 iv9 za8 zaY zas zat))→X9 (zfP zaa kink zab zad zac ([k68_0,k68_1] :: zai) iv9 za8 zaY.len zbg zas zat))
  (X12:St→Prop) (P12:Int→Int→Int→(Sl Span)→Nat→(List Int→Option (List Int))→Bool) (S12:Int→Int→Int→(Sl Span)→Nat→(List Int→Option (List Int))→((Sl Span)×Int))
  (hX12:∀ (zbR:Int) (zc1:Int) (zaV:Int) (zaT:(Sl Span)) (zau:Nat) (zav:(List Int→Option (List Int))) (zbK:Nat→List PV) (zgO:zbK=fun i=>zan (zaT.get i)),P12 zbR zc1 zaV zaT zau zav=true→K (e56 (S12 zbR zc1 zaV zaT zau zav))→X12 (zfB zaa kink zab zad zac zai k68_0 k68_1 zbR zc1 zaV zaT.len zbK zau zav)) (zh1:Int) (znl:Int) (zdq:Int) (zdl:Bool) (zdr:Int) (zc6:(Sl Span)) (zbZ:Nat) (zbo:(List Int→Option (List Int))) (zgN:Nat→List PV) (zDL:zgN=fun i=>zan (zc6.get i)) (hs:ziG P8 P9 P12 zaa kink zab zad zac k68_0 k68_1 zh1 znl zdq zdl zdr zc6 zbZ zbo=true) (hk:K (e56 (ziF S8 S9 S12 zaa kink zab zad zac k68_0 k68_1 zh1 znl zdq zdl zdr zc6 zbZ zbo))):ziE (Wk K) X8 X9 X12 zaa kink zab zad zac zai k68_0 k68_1 zh1 znl zdq zdl zdr zc6.len zgN zbZ zbo:=by
  subst zDL
  refine zaI (zDK (Wk K) X8 X9 X12 zaa kink zab zad zac zai k68_0 k68_1 zh1 znl zdq zdl zdr zc6 zbZ zbo) ?_
  unfold ziG at hs
  unfold ziF at hk
  exact (zbr (K := fun r => K (e56 r))
 (fun hs hk=>(hX12 zh1 (w64 (znl+(1:Int))) zdq zc6 (addN (zbo [k68_1,zdr]) zbZ) (zfa [k68_1,zdr] [1] zbo) (fun i=>zan (zc6.get i)) rfl hs hk))
 (fun hs hk=>(hX12 zh1 (w64 (znl+(1:Int))) zdq zc6 zbZ zbo (fun i=>zan (zc6.get i)) rfl hs hk)) hs hk)
def ziH (S8:Nat→(List Int→Option (List Int))→Int→(Sl Span)→((Sl Span)×Int)) (S9:Int→Int→(Sl Span)→Nat→(List Int→Option (List Int))→((Sl Span)×Int)) (zaa:(Sl Gate)) (kink:Int) (zab:(Sl Mp)) (zad:Nat) (zac:(List Int→Option (List Int))) (k68_0:Int) (k68_1:Int) (S12:Int→Int→Int→(Sl Span)→Nat→(List Int→Option (List Int))→((Sl Span)×Int)) (zbR:Int) (zc1:Int) (zaV:Int) (zaT:(Sl Span)) (zau:Nat) (zav:(List Int→Option (List Int))):((Sl Span)×Int) :=
  (cond (decide (zc1 ≤ (zaa.get ((w64 (zbR + (2:Int))).toNat)).High))
 (cond (decide ((zdn (((zab.get ((w64 (zbR + (1:Int))).toNat)).F) [k68_1, zc1]) 0) ≤ kink))
 (ziF S8 S9 S12 zaa kink zab zad zac k68_0 k68_1 zbR zc1 zaV (decide ((s85 ((zaa.get zbR.toNat).Z) ((zaa.get ((w64 (zbR+(1:Int))).toNat)).Z) ((zaa.get ((w64 (zbR+(2:Int))).toNat)).Z) k68_0 k68_1 zc1)≤kink)) zc1 zaT zau zav)
 (ziF S8 S9 S12 zaa kink zab zad zac k68_0 k68_1 zbR zc1 zaV false zc1 zaT zau zav))
 (S9 zbR zaV zaT zau zav))
def ziI (P8:Nat→(List Int→Option (List Int))→Int→(Sl Span)→Bool) (P9:Int→Int→(Sl Span)→Nat→(List Int→Option (List Int))→Bool) (zaa:(Sl Gate)) (kink:Int) (zab:(Sl Mp)) (zad:Nat) (zac:(List Int→Option (List Int))) (k68_0:Int) (k68_1:Int) (P12:Int→Int→Int→(Sl Span)→Nat→(List Int→Option (List Int))→Bool) (zbR:Int) (zc1:Int) (zaV:Int) (zaT:(Sl Span)) (zau:Nat) (zav:(List Int→Option (List Int))):Bool :=
  (decide ((0≤(w64 (zbR+(2:Int)))∧(w64 (zbR+(2:Int))) < (zaa.len:Int))) &&
 (cond (decide (zc1 ≤ (zaa.get ((w64 (zbR + (2:Int))).toNat)).High))
 (decide ((0≤(w64 (zbR+(1:Int)))∧(w64 (zbR+(1:Int))) < (zab.len:Int))) &&
 (cond (decide ((zdn (((zab.get ((w64 (zbR + (1:Int))).toNat)).F) [k68_1, zc1]) 0) ≤ kink))
 (decide ((0≤zbR∧zbR < (zaa.len:Int))) &&
 (decide ((0≤(w64 (zbR+(1:Int)))∧(w64 (zbR+(1:Int))) < (zaa.len:Int))) &&
 (decide ((0≤(w64 (zbR+(2:Int)))∧(w64 (zbR+(2:Int))) < (zaa.len:Int))) &&
 (decide ((p85 ((zaa.get zbR.toNat).Z) ((zaa.get ((w64 (zbR+(1:Int))).toNat)).Z) ((zaa.get ((w64 (zbR+(2:Int))).toNat)).Z) k68_0 k68_1 zc1=true)) &&
 (ziG P8 P9 P12 zaa kink zab zad zac k68_0 k68_1 zbR zc1 zaV (decide ((s85 ((zaa.get zbR.toNat).Z) ((zaa.get ((w64 (zbR+(1:Int))).toNat)).Z) ((zaa.get ((w64 (zbR+(2:Int))).toNat)).Z) k68_0 k68_1 zc1)≤kink)) zc1 zaT zau zav)))))
 (ziG P8 P9 P12 zaa kink zab zad zac k68_0 k68_1 zbR zc1 zaV false zc1 zaT zau zav)))
 (P9 zbR zaV zaT zau zav)))
def zfC (S8 : Nat → (List Int → Option (List Int)) → Int → (Sl Span) → ((Sl Span) × Int)) (S9 : Int → Int → (Sl Span) → Nat → (List Int → Option (List Int)) → ((Sl Span) × Int)) (zaa : (Sl Gate)) (kink : Int) (zab : (Sl Mp)) (zad : Nat) (zac : (List Int → Option (List Int))) (k68_0 : Int) (k68_1 : Int) : Nat → Int → Int → Int → (Sl Span) → Nat → (List Int → Option (List Int)) → ((Sl Span) × Int)
  | 0=>fun _ _ _ _ _ _=>default
  | k+1=>ziH S8 S9 zaa kink zab zad zac k68_0 k68_1 (zfC S8 S9 zaa kink zab zad zac k68_0 k68_1 k)
def zfD (P8 : Nat → (List Int → Option (List Int)) → Int → (Sl Span) → Bool) (P9 : Int → Int → (Sl Span) → Nat → (List Int → Option (List Int)) → Bool) (zaa : (Sl Gate)) (kink : Int) (zab : (Sl Mp)) (zad : Nat) (zac : (List Int → Option (List Int))) (k68_0 : Int) (k68_1 : Int) : Nat → Int → Int → Int → (Sl Span) → Nat → (List Int → Option (List Int)) → Bool
  | 0=>fun _ _ _ _ _ _=>false
  | k+1=>ziI P8 P9 zaa kink zab zad zac k68_0 k68_1 (zfD P8 P9 zaa kink zab zad zac k68_0 k68_1 k)
def zoQ (S8:Nat→(List Int→Option (List Int))→Int→(Sl Span)→((Sl Span)×Int)) (S9:Int→Int→(Sl Span)→Nat→(List Int→Option (List Int))→((Sl Span)×Int)) (zaa:(Sl Gate)) (kink:Int) (zab:(Sl Mp)) (zad:Nat) (zac:(List Int→Option (List Int))) (k68_0:Int) (k68_1:Int) (zbR:Int) (zc1:Int) (zaV:Int) (zaT:(Sl Span)) (zau:Nat) (zav:(List Int→Option (List Int))):((Sl Span)×Int):=zfC S8 S9 zaa kink zab zad zac k68_0 k68_1 Fuel zbR zc1 zaV zaT zau zav
def zoR (P8:Nat→(List Int→Option (List Int))→Int→(Sl Span)→Bool) (P9:Int→Int→(Sl Span)→Nat→(List Int→Option (List Int))→Bool) (zaa:(Sl Gate)) (kink:Int) (zab:(Sl Mp)) (zad:Nat) (zac:(List Int→Option (List Int))) (k68_0:Int) (k68_1:Int) (zbR:Int) (zc1:Int) (zaV:Int) (zaT:(Sl Span)) (zau:Nat) (zav:(List Int→Option (List Int))):Bool:=zfD P8 P9 zaa kink zab zad zac k68_0 k68_1 Fuel zbR zc1 zaV zaT zau zav
theorem zDM (K : List PA → Prop) (zaa : (Sl Gate)) (kink : Int) (zab : (Sl Mp)) (zad : Nat) (zac : (List Int → Option (List Int))) (zai : (List (List Int))) (k68_0 : Int) (k68_1 : Int)
  (X8:St→Prop) (P8:Nat→(List Int→Option (List Int))→Int→(Sl Span)→Bool) (S8:Nat→(List Int→Option (List Int))→Int→(Sl Span)→((Sl Span)×Int))
  (hX8:∀ (zad:Nat) (zac:(List Int→Option (List Int))) (zba:Int) (zbh:(Sl Span)) (zbf:Nat→List PV) (zeR:zbf=fun i=>zan (zbh.get i)),P8 zad zac zba zbh=true→K (e56 (S8 zad zac zba zbh))→X8 (zfO zaa kink zab zad zac zba zbh.len zbf))
  (X9:St→Prop) (P9:Int→Int→(Sl Span)→Nat→(List Int→Option (List Int))→Bool) (S9:Int→Int→(Sl Span)→Nat→(List Int→Option (List Int))→((Sl Span)×Int))
  (hX9:∀ (iv9:Int) (za8:Int) (zaY:(Sl Span)) (zas:Nat) (zat:(List Int→Option (List Int))) (zbg:Nat→List PV) (zd2:zbg=fun i=>zan (zaY.get i)),P9 iv9 za8 zaY zas zat=true→K (e56 (S9 iv9 za8 zaY zas zat))→X9 (zfP zaa kink zab zad zac ([k68_0,k68_1] :: zai) iv9 za8 zaY.len zbg zas zat)) (zbR:Int) (zc1:Int) (zaV:Int) (zaT:(Sl Span)) (zau:Nat) (zav:(List Int→Option (List Int))) (zbK:Nat→List PV) (zgO:zbK=fun i=>zan (zaT.get i)) (hs:zoR P8 P9 zaa kink zab zad zac k68_0 k68_1 zbR zc1 zaV zaT zau zav=true) (hk:K (e56 (zoQ S8 S9 zaa kink zab zad zac k68_0 k68_1 zbR zc1 zaV zaT zau zav))):ziD (Wk K) X8 X9 zaa kink zab zad zac zai k68_0 k68_1 zbR zc1 zaV zaT.len zbK zau zav:=by
  refine zwy (Wk K) X8 X9 zaa kink zab zad zac zai k68_0 k68_1 zbR zc1 zaV zaT.len zbK zau zav ?_
  intro X12 hstep
  have key:∀ (k:Nat) (zbR:Int) (zc1:Int) (zaV:Int) (zaT:(Sl Span)) (zau:Nat) (zav:(List Int→Option (List Int))) (zbK:Nat→List PV) (zgO:zbK=fun i=>zan (zaT.get i)),zfD P8 P9 zaa kink zab zad zac k68_0 k68_1 k zbR zc1 zaV zaT zau zav=true→K (e56 (zfC S8 S9 zaa kink zab zad zac k68_0 k68_1 k zbR zc1 zaV zaT zau zav))→X12 (zfB zaa kink zab zad zac zai k68_0 k68_1 zbR zc1 zaV zaT.len zbK zau zav):=by
    intro k
    induction k with
    | zero=>intro zbR zc1 zaV zaT zau zav zbK zgO hs;exact absurd hs Bool.false_ne_true
    | succ k ih =>
      intro zbR zc1 zaV zaT zau zav zbK zgO hs hk
      subst zgO
      refine hstep zbR zc1 zaV zaT zau zav ?_
      have hs:ziI P8 P9 zaa kink zab zad zac k68_0 k68_1 (zfD P8 P9 zaa kink zab zad zac k68_0 k68_1 k) zbR zc1 zaV zaT zau zav=true:=hs
      have hk:K (e56 (ziH S8 S9 zaa kink zab zad zac k68_0 k68_1 (zfC S8 S9 zaa kink zab zad zac k68_0 k68_1 k) zbR zc1 zaV zaT zau zav)):=hk
      unfold ziI at hs
      unfold ziH at hk
      generalize zfC S8 S9 zaa kink zab zad zac k68_0 k68_1 k=S12 at hk ih
      generalize zfD P8 P9 zaa kink zab zad zac k68_0 k68_1 k=P12 at hs ih
      have hX12:=ih
      exact (zaE hs fun hc hs => ⟨hc, (zbr (K := fun r => K (e56 r))
 (fun hs hk => (zaE hs fun hc hs => ⟨hc, (zbr (K := fun r => K (e56 r))
 (fun hs hk=>(zaE hs fun hc hs=>⟨hc,(zaE hs fun hc hs=>⟨hc,(zaE hs fun hc hs=>⟨hc,(zaE hs fun hc hs=>⟨hc,(zvz K zaa kink zab zad zac zai k68_0 k68_1 X8 P8 S8 hX8 X9 P9 S9 hX9 X12 P12 S12 hX12 zbR zc1 zaV (decide ((s85 ((zaa.get zbR.toNat).Z) ((zaa.get ((w64 (zbR+(1:Int))).toNat)).Z) ((zaa.get ((w64 (zbR+(2:Int))).toNat)).Z) k68_0 k68_1 zc1)≤kink)) zc1 zaT zau zav (fun i=>zan (zaT.get i)) rfl hs hk)⟩)⟩)⟩)⟩))
 (fun hs hk=>(zvz K zaa kink zab zad zac zai k68_0 k68_1 X8 P8 S8 hX8 X9 P9 S9 hX9 X12 P12 S12 hX12 zbR zc1 zaV false zc1 zaT zau zav (fun i=>zan (zaT.get i)) rfl hs hk)) hs hk)⟩))
 (fun hs hk=>(hX9 zbR zaV zaT zau zav (fun i=>zan (zaT.get i)) rfl hs hk)) hs hk)⟩)
  exact key _ zbR zc1 zaV zaT zau zav zbK zgO hs hk
def zkw (S8:Nat→(List Int→Option (List Int))→Int→(Sl Span)→((Sl Span)×Int)) (S9:Int→Int→(Sl Span)→Nat→(List Int→Option (List Int))→((Sl Span)×Int)) (zaa:(Sl Gate)) (kink:Int) (zab:(Sl Mp)) (zad:Nat) (zac:(List Int→Option (List Int))) (k68_0:Int) (k68_1:Int) (ze4:Int) (zdp:Int) (zc5:(Sl Span)) (zbX:Nat) (zbY:(List Int→Option (List Int))):((Sl Span)×Int) :=
  (cond ((w64 (ze4 + (2:Int))) == (zaa.len : Int))
 (S9 ze4 zdp zc5 zbX zbY)
 (zoQ S8 S9 zaa kink zab zad zac k68_0 k68_1 ze4 ((zaa.get ((w64 (ze4+(2:Int))).toNat)).Low) zdp zc5 zbX zbY))
def zkx (P8:Nat→(List Int→Option (List Int))→Int→(Sl Span)→Bool) (P9:Int→Int→(Sl Span)→Nat→(List Int→Option (List Int))→Bool) (zaa:(Sl Gate)) (kink:Int) (zab:(Sl Mp)) (zad:Nat) (zac:(List Int→Option (List Int))) (k68_0:Int) (k68_1:Int) (ze4:Int) (zdp:Int) (zc5:(Sl Span)) (zbX:Nat) (zbY:(List Int→Option (List Int))):Bool :=
  (cond ((w64 (ze4 + (2:Int))) == (zaa.len : Int))
 (P9 ze4 zdp zc5 zbX zbY)
 (decide ((0≤(w64 (ze4+(2:Int)))∧(w64 (ze4+(2:Int))) < (zaa.len:Int))) &&
 (zoR P8 P9 zaa kink zab zad zac k68_0 k68_1 ze4 ((zaa.get ((w64 (ze4+(2:Int))).toNat)).Low) zdp zc5 zbX zbY)))
theorem zDN (K : List PA → Prop) (zaa : (Sl Gate)) (kink : Int) (zab : (Sl Mp)) (zad : Nat) (zac : (List Int → Option (List Int))) (zai : (List (List Int))) (k68_0 : Int) (k68_1 : Int)
  (X8:St→Prop) (P8:Nat→(List Int→Option (List Int))→Int→(Sl Span)→Bool) (S8:Nat→(List Int→Option (List Int))→Int→(Sl Span)→((Sl Span)×Int))
  (hX8:∀ (zad:Nat) (zac:(List Int→Option (List Int))) (zba:Int) (zbh:(Sl Span)) (zbf:Nat→List PV) (zeR:zbf=fun i=>zan (zbh.get i)),P8 zad zac zba zbh=true→K (e56 (S8 zad zac zba zbh))→X8 (zfO zaa kink zab zad zac zba zbh.len zbf))
  (X9:St→Prop) (P9:Int→Int→(Sl Span)→Nat→(List Int→Option (List Int))→Bool) (S9:Int→Int→(Sl Span)→Nat→(List Int→Option (List Int))→((Sl Span)×Int))
  (hX9:∀ (iv9:Int) (za8:Int) (zaY:(Sl Span)) (zas:Nat) (zat:(List Int→Option (List Int))) (zbg:Nat→List PV) (zd2:zbg=fun i=>zan (zaY.get i)),P9 iv9 za8 zaY zas zat=true→K (e56 (S9 iv9 za8 zaY zas zat))→X9 (zfP zaa kink zab zad zac ([k68_0,k68_1] :: zai) iv9 za8 zaY.len zbg zas zat)) (ze4:Int) (zdp:Int) (zc5:(Sl Span)) (zbX:Nat) (zbY:(List Int→Option (List Int))) (zgM:Nat→List PV) (zDO:zgM=fun i=>zan (zc5.get i)) (hs:zkx P8 P9 zaa kink zab zad zac k68_0 k68_1 ze4 zdp zc5 zbX zbY=true) (hk:K (e56 (zkw S8 S9 zaa kink zab zad zac k68_0 k68_1 ze4 zdp zc5 zbX zbY))):zkv (Wk K) X8 X9 zaa kink zab zad zac zai k68_0 k68_1 ze4 zdp zc5.len zgM zbX zbY:=by
  subst zDO
  refine zaI (zDJ (Wk K) X8 X9 zaa kink zab zad zac zai k68_0 k68_1 ze4 zdp zc5 zbX zbY) ?_
  unfold zkx at hs
  unfold zkw at hk
  exact (zbr (K := fun r => K (e56 r))
 (fun hs hk=>(hX9 ze4 zdp zc5 zbX zbY (fun i=>zan (zc5.get i)) rfl hs hk))
 (fun hs hk=>(zaE hs fun hc hs=>⟨hc,(zDM K zaa kink zab zad zac zai k68_0 k68_1 X8 P8 S8 hX8 X9 P9 S9 hX9 ze4 ((zaa.get ((w64 (ze4+(2:Int))).toNat)).Low) zdp zc5 zbX zbY (fun i=>zan (zc5.get i)) rfl hs hk)⟩)) hs hk)
def zky (S8:Nat→(List Int→Option (List Int))→Int→(Sl Span)→((Sl Span)×Int)) (S9:Int→Int→(Sl Span)→Nat→(List Int→Option (List Int))→((Sl Span)×Int)) (zaa:(Sl Gate)) (kink:Int) (zab:(Sl Mp)) (zad:Nat) (zac:(List Int→Option (List Int))) (k68_0:Int) (k68_1:Int) (zdW:Int) (zeb:Int) (zc4:(Sl Span)) (zcn:Nat) (zco:(List Int→Option (List Int))):((Sl Span)×Int) :=
  (zkw S8 S9 zaa kink zab zad zac k68_0 k68_1 zdW zeb (⟨zc4.len,(s94 (w64 (zdW+(1:Int))) k68_1 zc4.get)⟩:Sl Span) zcn zco)
def zkz (P8:Nat→(List Int→Option (List Int))→Int→(Sl Span)→Bool) (P9:Int→Int→(Sl Span)→Nat→(List Int→Option (List Int))→Bool) (zaa:(Sl Gate)) (kink:Int) (zab:(Sl Mp)) (zad:Nat) (zac:(List Int→Option (List Int))) (k68_0:Int) (k68_1:Int) (zdW:Int) (zeb:Int) (zc4:(Sl Span)) (zcn:Nat) (zco:(List Int→Option (List Int))):Bool :=
  (decide ((p94 (w64 (zdW+(1:Int))) zc4.len=true)) &&
 (zkx P8 P9 zaa kink zab zad zac k68_0 k68_1 zdW zeb (⟨zc4.len,(s94 (w64 (zdW+(1:Int))) k68_1 zc4.get)⟩:Sl Span) zcn zco))
theorem zDP (K : List PA → Prop) (zaa : (Sl Gate)) (kink : Int) (zab : (Sl Mp)) (zad : Nat) (zac : (List Int → Option (List Int))) (zai : (List (List Int))) (k68_0 : Int) (k68_1 : Int)
  (X8:St→Prop) (P8:Nat→(List Int→Option (List Int))→Int→(Sl Span)→Bool) (S8:Nat→(List Int→Option (List Int))→Int→(Sl Span)→((Sl Span)×Int))
  (hX8:∀ (zad:Nat) (zac:(List Int→Option (List Int))) (zba:Int) (zbh:(Sl Span)) (zbf:Nat→List PV) (zeR:zbf=fun i=>zan (zbh.get i)),P8 zad zac zba zbh=true→K (e56 (S8 zad zac zba zbh))→X8 (zfO zaa kink zab zad zac zba zbh.len zbf))
  (X9:St→Prop) (P9:Int→Int→(Sl Span)→Nat→(List Int→Option (List Int))→Bool) (S9:Int→Int→(Sl Span)→Nat→(List Int→Option (List Int))→((Sl Span)×Int))
  (hX9:∀ (iv9:Int) (za8:Int) (zaY:(Sl Span)) (zas:Nat) (zat:(List Int→Option (List Int))) (zbg:Nat→List PV) (zd2:zbg=fun i=>zan (zaY.get i)),P9 iv9 za8 zaY zas zat=true→K (e56 (S9 iv9 za8 zaY zas zat))→X9 (zfP zaa kink zab zad zac ([k68_0,k68_1] :: zai) iv9 za8 zaY.len zbg zas zat)) (zdW:Int) (zeb:Int) (zc4:(Sl Span)) (zcn:Nat) (zco:(List Int→Option (List Int))) (zgL:Nat→List PV) (zDQ:zgL=fun i=>zan (zc4.get i)) (hs:zkz P8 P9 zaa kink zab zad zac k68_0 k68_1 zdW zeb zc4 zcn zco=true) (hk:K (e56 (zky S8 S9 zaa kink zab zad zac k68_0 k68_1 zdW zeb zc4 zcn zco))):zku (Wk K) X8 X9 zaa kink zab zad zac zai k68_0 k68_1 zdW zeb zc4.len zgL zcn zco:=by
  subst zDQ
  refine zaI (zDI (Wk K) X8 X9 zaa kink zab zad zac zai k68_0 k68_1 zdW zeb zc4 zcn zco) ?_
  unfold zkz at hs
  unfold zky at hk
  exact (zaE hs fun hc hs=>⟨⟨isE,hc⟩,(zDN K zaa kink zab zad zac zai k68_0 k68_1 X8 P8 S8 hX8 X9 P9 S9 hX9 zdW zeb (⟨zc4.len,(s94 (w64 (zdW+(1:Int))) k68_1 zc4.get)⟩:Sl Span) zcn zco (fun i=>zan ((s94 (w64 (zdW+(1:Int))) k68_1 zc4.get) i)) rfl hs hk)⟩)
def zl1 (S8:Nat→(List Int→Option (List Int))→Int→(Sl Span)→((Sl Span)×Int)) (zaa:(Sl Gate)) (kink:Int) (zab:(Sl Mp)) (zad:Nat) (zac:(List Int→Option (List Int))) (iv9:Int) (za8:Int) (zaY:(Sl Span)) (zas:Nat) (zat:(List Int→Option (List Int))):((Sl Span)×Int) :=
  (S8 zas zat (w64 (za8+(1:Int))) zaY)
def zl2 (P8:Nat→(List Int→Option (List Int))→Int→(Sl Span)→Bool) (zaa:(Sl Gate)) (kink:Int) (zab:(Sl Mp)) (zad:Nat) (zac:(List Int→Option (List Int))) (iv9:Int) (za8:Int) (zaY:(Sl Span)) (zas:Nat) (zat:(List Int→Option (List Int))):Bool :=
  (P8 zas zat (w64 (za8+(1:Int))) zaY)
def zl3 (S8:Nat→(List Int→Option (List Int))→Int→(Sl Span)→((Sl Span)×Int)) (zaa:(Sl Gate)) (kink:Int) (zab:(Sl Mp)) (zad:Nat) (zac:(List Int→Option (List Int))) (k68_0:Int) (k68_1:Int) (S9:Int→Int→(Sl Span)→Nat→(List Int→Option (List Int))→((Sl Span)×Int)) (iv9:Int) (za8:Int) (zaY:(Sl Span)) (zas:Nat) (zat:(List Int→Option (List Int))):((Sl Span)×Int) :=
  (zky S8 S9 zaa kink zab zad zac k68_0 k68_1 iv9 za8 (⟨zaY.len,(s94 iv9 k68_0 zaY.get)⟩:Sl Span) zas zat)
def zl4 (P8:Nat→(List Int→Option (List Int))→Int→(Sl Span)→Bool) (zaa:(Sl Gate)) (kink:Int) (zab:(Sl Mp)) (zad:Nat) (zac:(List Int→Option (List Int))) (k68_0:Int) (k68_1:Int) (P9:Int→Int→(Sl Span)→Nat→(List Int→Option (List Int))→Bool) (iv9:Int) (za8:Int) (zaY:(Sl Span)) (zas:Nat) (zat:(List Int→Option (List Int))):Bool :=
  (decide ((p94 iv9 zaY.len=true)) &&
 (zkz P8 P9 zaa kink zab zad zac k68_0 k68_1 iv9 za8 (⟨zaY.len,(s94 iv9 k68_0 zaY.get)⟩:Sl Span) zas zat))
def zd3 (S8 : Nat → (List Int → Option (List Int)) → Int → (Sl Span) → ((Sl Span) × Int)) (zaa : (Sl Gate)) (kink : Int) (zab : (Sl Mp)) (zad : Nat) (zac : (List Int → Option (List Int))) : List (List Int) → Int → Int → (Sl Span) → Nat → (List Int → Option (List Int)) → ((Sl Span) × Int)
  | []=>zl1 S8 zaa kink zab zad zac
  | y :: r=>zl3 S8 zaa kink zab zad zac (y.getD 0 0) (y.getD 1 0) (zd3 S8 zaa kink zab zad zac r)
def zd4 (P8 : Nat → (List Int → Option (List Int)) → Int → (Sl Span) → Bool) (zaa : (Sl Gate)) (kink : Int) (zab : (Sl Mp)) (zad : Nat) (zac : (List Int → Option (List Int))) : List (List Int) → Int → Int → (Sl Span) → Nat → (List Int → Option (List Int)) → Bool
  | []=>zl2 P8 zaa kink zab zad zac
  | y :: r=>zl4 P8 zaa kink zab zad zac (y.getD 0 0) (y.getD 1 0) (zd4 P8 zaa kink zab zad zac r)
def zgt (_gates:Sl Gate) (_kink:Int) (_table:Sl Mp) (_n:Nat) (_F:List Int→Option (List Int)) (_ys:List (List Int)):Bool:=true
theorem zI1 (zaa:Sl Gate) (kink:Int) (table:Sl Mp) (n:Nat) (F:List Int→Option (List Int)):∀ (y:List Int) (r:List (List Int)),zgt zaa kink table n F (y :: r)=true→zgt zaa kink table n F r=true:=fun _ _ _=>rfl
section ord9
variable (zaa:Sl Gate) (kink:Int) (table:Sl Mp)
def zvA (i:Int):Int:=(zaa.get ((w64 (i+(2:Int))).toNat)).High
def a56 (k1 i r:Int):Bool:=decide ((zdn (((table.get ((w64 (i+(1:Int))).toNat)).F) [k1,r]) 0)≤kink)
def b56 (k0 k1 i r:Int):Bool:=decide ((s85 ((zaa.get i.toNat).Z) ((zaa.get ((w64 (i+(1:Int))).toNat)).Z) ((zaa.get ((w64 (i+(2:Int))).toNat)).Z) k0 k1 r)≤kink)
def g56 (i:Int):Bool:=decide ((0≤(w64 (i+(2:Int)))∧(w64 (i+(2:Int))) < (zaa.len:Int)))
def o56 (k0 k1 i r:Int):Bool:=decide ((0≤(w64 (i+(1:Int)))∧(w64 (i+(1:Int))) < (table.len:Int))) && cond (a56 kink table k1 i r) (decide ((0≤i∧i < (zaa.len:Int))) && (decide ((0≤(w64 (i+(1:Int)))∧(w64 (i+(1:Int))) < (zaa.len:Int))) && (g56 zaa i && decide ((p85 ((zaa.get i.toNat).Z) ((zaa.get ((w64 (i+(1:Int))).toNat)).Z) ((zaa.get ((w64 (i+(2:Int))).toNat)).Z) k0 k1 r=true))))) true
def zvB (k0 k1 i : Int) : Nat → Int → Bool
  | 0,_=>false
  | k+1,r=>g56 zaa i && cond (decide (r≤zvA zaa i)) (o56 zaa kink table k0 k1 i r && zvB k0 k1 i k (w64 (r+(1:Int)))) true
def zl5 (k0 k1 i : Int) : Nat → Int → List (List Int)
  | 0,_=>[]
  | k+1,r=>cond (decide (r≤zvA zaa i)) (cond (a56 kink table k1 i r && b56 zaa kink k0 k1 i r) ([k1,r] :: zl5 k0 k1 i k (w64 (r+(1:Int)))) (zl5 k0 k1 i k (w64 (r+(1:Int))))) []
theorem zM0 (P8:Nat→(List Int→Option (List Int))→Int→(Sl Span)→Bool) (P9:Int→Int→(Sl Span)→Nat→(List Int→Option (List Int))→Bool) (nn:Nat) (nF:List Int→Option (List Int)) (k0 k1 i t:Int) (out:Sl Span):∀ (k:Nat) (r:Int) (n:Nat) (F:List Int→Option (List Int)),
    zfD P8 P9 zaa kink table nn nF k0 k1 k i r t out n F=(zvB zaa kink table k0 k1 i k r && P9 i t out (insL (n,F) (zl5 zaa kink table k0 k1 i k r)).1 (insL (n,F) (zl5 zaa kink table k0 k1 i k r)).2)
  | 0,r,n,F=>rfl
  | k+1,r,n,F=>by
    have ih:=zM0 P8 P9 nn nF k0 k1 i t out k
    show ziI P8 P9 zaa kink table nn nF k0 k1 (zfD P8 P9 zaa kink table nn nF k0 k1 k) i r t out n F=((g56 zaa i && cond (decide (r≤zvA zaa i)) (o56 zaa kink table k0 k1 i r && zvB zaa kink table k0 k1 i k (w64 (r+(1:Int)))) true) && P9 i t out (insL (n,F) (cond (decide (r≤zvA zaa i)) (cond (a56 kink table k1 i r && b56 zaa kink k0 k1 i r) ([k1,r] :: zl5 zaa kink table k0 k1 i k (w64 (r+(1:Int)))) (zl5 zaa kink table k0 k1 i k (w64 (r+(1:Int))))) [])).1 (insL (n,F) (cond (decide (r≤zvA zaa i)) (cond (a56 kink table k1 i r && b56 zaa kink k0 k1 i r) ([k1,r] :: zl5 zaa kink table k0 k1 i k (w64 (r+(1:Int)))) (zl5 zaa kink table k0 k1 i k (w64 (r+(1:Int))))) [])).2)
    unfold ziI ziG
    rw [ih,ih]
    simp only [show (decide (r≤(zaa.get ((w64 (i+(2:Int))).toNat)).High))=decide (r≤zvA zaa i) from rfl,show decide ((zdn (((table.get ((w64 (i+(1:Int))).toNat)).F) [k1,r]) 0)≤kink)=a56 kink table k1 i r from rfl,show decide ((s85 ((zaa.get i.toNat).Z) ((zaa.get ((w64 (i+(1:Int))).toNat)).Z) ((zaa.get ((w64 (i+(2:Int))).toNat)).Z) k0 k1 r)≤kink)=b56 zaa kink k0 k1 i r from rfl,show decide ((0≤(w64 (i+(2:Int)))∧(w64 (i+(2:Int))) < (zaa.len:Int)))=g56 zaa i from rfl]
    have ei:∀ l,insL (addN (F [k1,r]) n,zfa [k1,r] [1] F) l=insL (n,F) ([k1,r] :: l):=fun l=>rfl
    unfold o56
    rw [ei]
    generalize zvB zaa kink table k0 k1 i k (w64 (r+(1:Int)))=ok
    generalize zl5 zaa kink table k0 k1 i k (w64 (r+(1:Int)))=ks
    cases decide (r≤zvA zaa i) <;> cases a56 kink table k1 i r <;> cases b56 zaa kink k0 k1 i r <;> cases g56 zaa i <;> simp only [cond_true,cond_false,Bool.true_and,Bool.and_true,Bool.false_and,Bool.and_false,Bool.and_assoc] <;> rfl
theorem zM1 (S8:Nat→(List Int→Option (List Int))→Int→(Sl Span)→((Sl Span)×Int)) (S9:Int→Int→(Sl Span)→Nat→(List Int→Option (List Int))→((Sl Span)×Int)) (nn:Nat) (nF:List Int→Option (List Int)) (k0 k1 i t:Int) (out:Sl Span):∀ (k:Nat) (r:Int) (n:Nat) (F:List Int→Option (List Int)),zvB zaa kink table k0 k1 i k r=true →
    zfC S8 S9 zaa kink table nn nF k0 k1 k i r t out n F=S9 i t out (insL (n,F) (zl5 zaa kink table k0 k1 i k r)).1 (insL (n,F) (zl5 zaa kink table k0 k1 i k r)).2
  | 0,r,n,F,h=>absurd h Bool.false_ne_true
  | k+1,r,n,F,h=>by
    have ih:=zM1 S8 S9 nn nF k0 k1 i t out k
    have h:(g56 zaa i && cond (decide (r≤zvA zaa i)) (o56 zaa kink table k0 k1 i r && zvB zaa kink table k0 k1 i k (w64 (r+(1:Int)))) true)=true:=h
    show ziH S8 S9 zaa kink table nn nF k0 k1 (zfC S8 S9 zaa kink table nn nF k0 k1 k) i r t out n F=S9 i t out (insL (n,F) (cond (decide (r≤zvA zaa i)) (cond (a56 kink table k1 i r && b56 zaa kink k0 k1 i r) ([k1,r] :: zl5 zaa kink table k0 k1 i k (w64 (r+(1:Int)))) (zl5 zaa kink table k0 k1 i k (w64 (r+(1:Int))))) [])).1 (insL (n,F) (cond (decide (r≤zvA zaa i)) (cond (a56 kink table k1 i r && b56 zaa kink k0 k1 i r) ([k1,r] :: zl5 zaa kink table k0 k1 i k (w64 (r+(1:Int)))) (zl5 zaa kink table k0 k1 i k (w64 (r+(1:Int))))) [])).2
    unfold ziH ziF
    simp only [show (decide (r≤(zaa.get ((w64 (i+(2:Int))).toNat)).High))=decide (r≤zvA zaa i) from rfl,show decide ((zdn (((table.get ((w64 (i+(1:Int))).toNat)).F) [k1,r]) 0)≤kink)=a56 kink table k1 i r from rfl,show decide ((s85 ((zaa.get i.toNat).Z) ((zaa.get ((w64 (i+(1:Int))).toNat)).Z) ((zaa.get ((w64 (i+(2:Int))).toNat)).Z) k0 k1 r)≤kink)=b56 zaa kink k0 k1 i r from rfl]
    cases hr:decide (r≤zvA zaa i) with
    | false=>rw [cond_false,cond_false];rfl
    | true =>
      rw [hr,cond_true,Bool.and_eq_true,Bool.and_eq_true] at h
      have ih:=fun n F=>ih (w64 (r+(1:Int))) n F h.2.2
      rw [ih,ih]
      generalize zl5 zaa kink table k0 k1 i k (w64 (r+(1:Int)))=ks
      cases a56 kink table k1 i r <;> cases b56 zaa kink k0 k1 i r <;> rfl
def ok9 (fu:Nat) (i:Int) (len:Nat) (y:List Int):Bool:=p94 i len && (p94 (w64 (i+(1:Int))) len && cond ((w64 (i+(2:Int))) == (zaa.len:Int)) true (g56 zaa i && zvB zaa kink table (y.getD 0 0) (y.getD 1 0) i fu ((zaa.get ((w64 (i+(2:Int))).toNat)).Low)))
def ks9 (fu:Nat) (i:Int) (y:List Int):List (List Int):=cond ((w64 (i+(2:Int))) == (zaa.len:Int)) [] (zl5 zaa kink table (y.getD 0 0) (y.getD 1 0) i fu ((zaa.get ((w64 (i+(2:Int))).toNat)).Low))
def zeD (fu:Nat) (i:Int) (z:Sl Span×MpS) (y:List Int):Sl Span×MpS:=(⟨z.1.len,s94 (w64 (i+(1:Int))) (y.getD 1 0) (s94 i (y.getD 0 0) z.1.get)⟩,insL z.2 (ks9 zaa kink table fu i y))
theorem zI2 (fu:Nat) (i:Int) (z:Sl Span×MpS) (x y:List Int):zeD zaa kink table fu i (zeD zaa kink table fu i z x) y=zeD zaa kink table fu i (zeD zaa kink table fu i z y) x:=by
  unfold zeD
  refine Prod.ext ?_ (zBr z.2 _ _)
  refine congrArg (Sl.mk z.1.len) ?_
  rw [zkt i (w64 (i+(1:Int))) (y.getD 0 0) (x.getD 1 0),zkt (w64 (i+(1:Int))) (w64 (i+(1:Int))) (y.getD 1 0) (x.getD 1 0),zkt i i (y.getD 0 0) (x.getD 0 0),zkt (w64 (i+(1:Int))) i (y.getD 1 0) (x.getD 0 0)]
theorem zOi (P8:Nat→(List Int→Option (List Int))→Int→(Sl Span)→Bool) (nn:Nat) (nF:List Int→Option (List Int)) (i t:Int):∀ (ys:List (List Int)) (out:Sl Span) (n:Nat) (F:List Int→Option (List Int)),
    zd4 P8 zaa kink table nn nF ys i t out n F=(ys.all (ok9 zaa kink table Fuel i out.len) && zl2 P8 zaa kink table nn nF i t (ys.foldl (zeD zaa kink table Fuel i) (out,(n,F))).1 (ys.foldl (zeD zaa kink table Fuel i) (out,(n,F))).2.1 (ys.foldl (zeD zaa kink table Fuel i) (out,(n,F))).2.2)
  | [],out,n,F=>rfl
  | y :: r,out,n,F=>by
    have ih:=zOi P8 nn nF i t r
    rw [List.all_cons,List.foldl_cons]
    have e:zd4 P8 zaa kink table nn nF (y :: r) i t out n F=zl4 P8 zaa kink table nn nF (y.getD 0 0) (y.getD 1 0) (zd4 P8 zaa kink table nn nF r) i t out n F:=rfl
    rw [e]
    unfold zl4 zkz zkx zoR
    generalize hfu:Fuel=fu at ih ⊢
    rw [zM0,ih,ih]
    simp only [Bool.decide_eq_true,show decide ((0≤(w64 (i+(2:Int)))∧(w64 (i+(2:Int))) < (zaa.len:Int)))=g56 zaa i from rfl]
    cases hc:((w64 (i+(2:Int))) == (zaa.len:Int)) with
    | true =>
      have e9:ok9 zaa kink table fu i out.len y=(p94 i out.len && p94 (w64 (i+(1:Int))) out.len):=by unfold ok9;rw [hc,cond_true,Bool.and_true]
      have ef:zeD zaa kink table fu i (out,(n,F)) y=(⟨out.len,s94 (w64 (i+(1:Int))) (y.getD 1 0) (s94 i (y.getD 0 0) out.get)⟩,(n,F)):=by unfold zeD ks9;rw [hc];rfl
      rw [e9,ef,cond_true]
      cases p94 i out.len <;> cases p94 (w64 (i+(1:Int))) out.len <;> rfl
    | false =>
      have e9:ok9 zaa kink table fu i out.len y=(p94 i out.len && (p94 (w64 (i+(1:Int))) out.len && (g56 zaa i && zvB zaa kink table (y.getD 0 0) (y.getD 1 0) i fu ((zaa.get ((w64 (i+(2:Int))).toNat)).Low)))):=by unfold ok9;rw [hc,cond_false]
      have ef:zeD zaa kink table fu i (out,(n,F)) y=(⟨out.len,s94 (w64 (i+(1:Int))) (y.getD 1 0) (s94 i (y.getD 0 0) out.get)⟩,insL (n,F) (zl5 zaa kink table (y.getD 0 0) (y.getD 1 0) i fu ((zaa.get ((w64 (i+(2:Int))).toNat)).Low))):=by unfold zeD ks9;rw [hc];rfl
      rw [e9,ef,cond_false]
      cases p94 i out.len <;> cases p94 (w64 (i+(1:Int))) out.len <;> cases g56 zaa i <;> cases zvB zaa kink table (y.getD 0 0) (y.getD 1 0) i fu ((zaa.get ((w64 (i+(2:Int))).toNat)).Low) <;> rfl
theorem zOj (S8:Nat→(List Int→Option (List Int))→Int→(Sl Span)→((Sl Span)×Int)) (nn:Nat) (nF:List Int→Option (List Int)) (i t:Int):∀ (ys:List (List Int)) (out:Sl Span) (n:Nat) (F:List Int→Option (List Int)),ys.all (ok9 zaa kink table Fuel i out.len)=true →
    zd3 S8 zaa kink table nn nF ys i t out n F=zl1 S8 zaa kink table nn nF i t (ys.foldl (zeD zaa kink table Fuel i) (out,(n,F))).1 (ys.foldl (zeD zaa kink table Fuel i) (out,(n,F))).2.1 (ys.foldl (zeD zaa kink table Fuel i) (out,(n,F))).2.2
  | [],out,n,F,_=>rfl
  | y :: r,out,n,F,h=>by
    have ih:=zOj S8 nn nF i t r
    rw [List.all_cons,Bool.and_eq_true] at h
    rw [List.foldl_cons]
    have e:zd3 S8 zaa kink table nn nF (y :: r) i t out n F=zl3 S8 zaa kink table nn nF (y.getD 0 0) (y.getD 1 0) (zd3 S8 zaa kink table nn nF r) i t out n F:=rfl
    rw [e]
    unfold zl3 zky zkw zoQ
    generalize hfu:Fuel=fu at ih h ⊢
    obtain ⟨h1,h2⟩:=h
    cases hc:((w64 (i+(2:Int))) == (zaa.len:Int)) with
    | true =>
      have ef:zeD zaa kink table fu i (out,(n,F)) y=(⟨out.len,s94 (w64 (i+(1:Int))) (y.getD 1 0) (s94 i (y.getD 0 0) out.get)⟩,(n,F)):=by unfold zeD ks9;rw [hc];rfl
      rw [ef,cond_true]
      exact ih _ n F h2
    | false =>
      have e9:ok9 zaa kink table fu i out.len y=(p94 i out.len && (p94 (w64 (i+(1:Int))) out.len && (g56 zaa i && zvB zaa kink table (y.getD 0 0) (y.getD 1 0) i fu ((zaa.get ((w64 (i+(2:Int))).toNat)).Low)))):=by unfold ok9;rw [hc,cond_false]
      have ef:zeD zaa kink table fu i (out,(n,F)) y=(⟨out.len,s94 (w64 (i+(1:Int))) (y.getD 1 0) (s94 i (y.getD 0 0) out.get)⟩,insL (n,F) (zl5 zaa kink table (y.getD 0 0) (y.getD 1 0) i fu ((zaa.get ((w64 (i+(2:Int))).toNat)).Low))):=by unfold zeD ks9;rw [hc];rfl
      rw [e9,Bool.and_eq_true,Bool.and_eq_true,Bool.and_eq_true] at h1
      rw [ef,cond_false,zM1 _ _ _ _ _ _ _ _ _ _ _ _ _ _ _ _ h1.2.2.2]
      exact ih _ _ _ h2
theorem zSA (P8 : Nat → (List Int → Option (List Int)) → Int → (Sl Span) → Bool) (S8 : Nat → (List Int → Option (List Int)) → Int → (Sl Span) → ((Sl Span) × Int)) (nn : Nat) (nF : List Int → Option (List Int)) (ys zs : List (List Int)) (_hl : ∀ y ∈ ys, y.length = 2) (_h : zgt zaa kink table nn nF ys = true) (hp : ys.Perm zs) :
    zgt zaa kink table nn nF zs=true∧∀ (i t:Int) (out:Sl Span) (n:Nat) (F:List Int→Option (List Int)),zd4 P8 zaa kink table nn nF ys i t out n F=true→zd4 P8 zaa kink table nn nF zs i t out n F=true∧zd3 S8 zaa kink table nn nF ys i t out n F=zd3 S8 zaa kink table nn nF zs i t out n F:=by
  refine ⟨rfl,fun i t out n F hs=>?_⟩
  have e:∀ z,ys.foldl (zeD zaa kink table Fuel i) z=zs.foldl (zeD zaa kink table Fuel i) z:=fun z=>hp.foldl_eq' (fun x _ y _ z=>zI2 zaa kink table Fuel i z x y) z
  rw [zOi,Bool.and_eq_true] at hs
  have h2:zs.all (ok9 zaa kink table Fuel i out.len)=true:=by
    rw [List.all_eq_true] at hs ⊢
    exact fun y hy=>hs.1 y (hp.mem_iff.2 hy)
  rw [zOi,zOj zaa kink table S8 nn nF i t ys out n F hs.1,zOj zaa kink table S8 nn nF i t zs out n F h2,← e]
  exact ⟨by rw [h2,Bool.true_and];exact hs.2,rfl⟩
end ord9
theorem zI3 (P8 : Nat → (List Int → Option (List Int)) → Int → (Sl Span) → Bool) (S8 : Nat → (List Int → Option (List Int)) → Int → (Sl Span) → ((Sl Span) × Int)) (zaa : Sl Gate) (kink : Int) (table : Sl Mp) (nn : Nat) (nF : List Int → Option (List Int)) (ys zs : List (List Int)) (hl : ∀ y ∈ ys, y.length = 2) (h : zgt zaa kink table nn nF ys = true) (hp : ys.Perm zs) :
    zgt zaa kink table nn nF zs=true∧∀ (i t:Int) (out:Sl Span) (n:Nat) (F:List Int→Option (List Int)),zd4 P8 zaa kink table nn nF ys i t out n F=true→zd4 P8 zaa kink table nn nF zs i t out n F=true∧zd3 S8 zaa kink table nn nF ys i t out n F=zd3 S8 zaa kink table nn nF zs i t out n F :=
  zSA zaa kink table P8 S8 nn nF ys zs hl h hp
def zoS (S8:Nat→(List Int→Option (List Int))→Int→(Sl Span)→((Sl Span)×Int)) (zaa:(Sl Gate)) (kink:Int) (zab:(Sl Mp)) (zad:Nat) (zac:(List Int→Option (List Int))) (iv9:Int) (za8:Int) (zaY:(Sl Span)) (zas:Nat) (zat:(List Int→Option (List Int))):((Sl Span)×Int):=zd3 S8 zaa kink zab zad zac ((zeC (zaa.get iv9.toNat) (zaa.get (iv9.toNat+1))).filter (fun c=>(zac c).isSome)) iv9 za8 zaY zas zat
def zoT (P8:Nat→(List Int→Option (List Int))→Int→(Sl Span)→Bool) (zaa:(Sl Gate)) (kink:Int) (zab:(Sl Mp)) (zad:Nat) (zac:(List Int→Option (List Int))) (iv9:Int) (za8:Int) (zaY:(Sl Span)) (zas:Nat) (zat:(List Int→Option (List Int))):Bool:=keysB 2 zad zac ((zeC (zaa.get iv9.toNat) (zaa.get (iv9.toNat+1))).filter (fun c=>(zac c).isSome)) && zgt zaa kink zab zad zac ((zeC (zaa.get iv9.toNat) (zaa.get (iv9.toNat+1))).filter (fun c=>(zac c).isSome)) && zd4 P8 zaa kink zab zad zac ((zeC (zaa.get iv9.toNat) (zaa.get (iv9.toNat+1))).filter (fun c=>(zac c).isSome)) iv9 za8 zaY zas zat
theorem zI4 (K : List PA → Prop) (zaa : (Sl Gate)) (kink : Int) (zab : (Sl Mp)) (zad : Nat) (zac : (List Int → Option (List Int)))
  (X8:St→Prop) (P8:Nat→(List Int→Option (List Int))→Int→(Sl Span)→Bool) (S8:Nat→(List Int→Option (List Int))→Int→(Sl Span)→((Sl Span)×Int))
  (hX8:∀ (zad:Nat) (zac:(List Int→Option (List Int))) (zba:Int) (zbh:(Sl Span)) (zbf:Nat→List PV) (zeR:zbf=fun i=>zan (zbh.get i)),P8 zad zac zba zbh=true→K (e56 (S8 zad zac zba zbh))→X8 (zfO zaa kink zab zad zac zba zbh.len zbf)) (iv9:Int) (za8:Int) (zaY:(Sl Span)) (zas:Nat) (zat:(List Int→Option (List Int))) (zbg:Nat→List PV) (zd2:zbg=fun i=>zan (zaY.get i)) (hs:zoT P8 zaa kink zab zad zac iv9 za8 zaY zas zat=true) (hk:K (e56 (zoS S8 zaa kink zab zad zac iv9 za8 zaY zas zat))):zl0 (Wk K) X8 zaa kink zab zad zac [] iv9 za8 zaY.len zbg zas zat:=by
  unfold zoT at hs
  rw [Bool.and_eq_true,Bool.and_eq_true] at hs
  obtain ⟨⟨hkeys,hI⟩,hs⟩:=hs
  unfold zoS at hk
  generalize hys:(zeC (zaa.get iv9.toNat) (zaa.get (iv9.toNat+1))).filter (fun c=>(zac c).isSome)=ys0 at hkeys hI hs hk
  refine zBv (Wk K) X8 zaa kink zab zad zac [] iv9 za8 zaY.len zbg zas zat ?_
  intro X9 hstep
  have key:∀ (N:Nat) (ys:List (List Int)) (zai:List (List Int)) (iv9:Int) (za8:Int) (zaY:(Sl Span)) (zas:Nat) (zat:(List Int→Option (List Int))) (zbg:Nat→List PV) (zd2:zbg=fun i=>zan (zaY.get i)),ys.length=N→(zCr 2 zad zac→zGa 2 zac zai ys)→zgt zaa kink zab zad zac ys=true→zd4 P8 zaa kink zab zad zac ys iv9 za8 zaY zas zat=true→K (e56 (zd3 S8 zaa kink zab zad zac ys iv9 za8 zaY zas zat))→X9 (zfP zaa kink zab zad zac zai iv9 za8 zaY.len zbg zas zat):=by
    intro N
    induction N with
    | zero =>
      intro ys zai iv9 za8 zaY zas zat zbg zd2 hN hrem hI hs hk
      subst zd2
      obtain rfl:=List.eq_nil_of_length_eq_zero hN
      refine hstep zai iv9 za8 zaY zas zat ?_
      intro hfin
      have hrem:=hrem hfin
      refine ⟨fun _=>?_,fun k68_0 k68_1 hF hns=>absurd (hrem.2.2 [k68_0,k68_1] rfl hF hns) (by simp)⟩
      have hs:zl2 P8 zaa kink zab zad zac iv9 za8 zaY zas zat=true:=hs
      have hk:K (e56 (zl1 S8 zaa kink zab zad zac iv9 za8 zaY zas zat)):=hk
      unfold zl2 at hs
      unfold zl1 at hk
      exact (hX8 zas zat (w64 (za8+(1:Int))) zaY (fun i=>zan (zaY.get i)) rfl hs hk)
    | succ N ih =>
      intro ys zai iv9 za8 zaY zas zat zbg zd2 hN hrem hI hs hk
      subst zd2
      refine hstep zai iv9 za8 zaY zas zat ?_
      intro hfin
      have hrem:=hrem hfin
      refine ⟨fun hend=>?_,fun k68_0 k68_1 hF hns=>?_⟩
      · exact absurd (zr2 hrem hend) (fun e=>by rw [e] at hN;simp at hN)
      · obtain ⟨hperm, hrem2, hlen⟩ := zn5 hrem (c := [k68_0, k68_1]) rfl hF hns
        obtain ⟨hI2,hcond⟩:=zI3 P8 S8 zaa kink zab zad zac ys _ (fun y hy=>(hrem.2.1 y hy).1) hI hperm
        have hI3:=zI1 zaa kink zab zad zac _ _ hI2
        obtain ⟨e2,e1⟩:=hcond iv9 za8 zaY zas zat hs
        have hs:=e2
        rw [e1] at hk
        have hs:zl4 P8 zaa kink zab zad zac k68_0 k68_1 (zd4 P8 zaa kink zab zad zac (ys.erase [k68_0,k68_1])) iv9 za8 zaY zas zat=true:=hs
        have hk:K (e56 (zl3 S8 zaa kink zab zad zac k68_0 k68_1 (zd3 S8 zaa kink zab zad zac (ys.erase [k68_0,k68_1])) iv9 za8 zaY zas zat)):=hk
        have ih:=fun (iv9:Int) (za8:Int) (zaY:(Sl Span)) (zas:Nat) (zat:(List Int→Option (List Int))) (zbg:Nat→List PV) (zd2:zbg=fun i=>zan (zaY.get i))=>ih (ys.erase [k68_0,k68_1]) ([k68_0,k68_1] :: zai) iv9 za8 zaY zas zat zbg zd2 (by omega) (fun _=>hrem2) hI3
        unfold zl4 at hs
        unfold zl3 at hk
        generalize zd3 S8 zaa kink zab zad zac (ys.erase [k68_0,k68_1])=S9 at hk ih
        generalize zd4 P8 zaa kink zab zad zac (ys.erase [k68_0,k68_1])=P9 at hs ih
        have hX9:=ih
        exact (zaE hs fun hc hs=>⟨⟨isE,hc⟩,(zDP K zaa kink zab zad zac zai k68_0 k68_1 X8 P8 S8 hX8 X9 P9 S9 hX9 iv9 za8 (⟨zaY.len,(s94 iv9 k68_0 zaY.get)⟩:Sl Span) zas zat (fun i=>zan ((s94 iv9 k68_0 zaY.get) i)) rfl hs hk)⟩)
  exact key _ ys0 [] iv9 za8 zaY zas zat zbg zd2 rfl (fun hf=>zlp hkeys hf) hI hs hk
def zhL (zaa:(Sl Gate)) (kink:Int) (zab:(Sl Mp)) (S8:Nat→(List Int→Option (List Int))→Int→(Sl Span)→((Sl Span)×Int)) (zad:Nat) (zac:(List Int→Option (List Int))) (zba:Int) (zbh:(Sl Span)):((Sl Span)×Int) :=
  (cond (decide (zba < (w64 ((zaa.len : Int) - (1:Int)))))
 (zoS S8 zaa kink zab zad zac zba zba zbh 0 (fun _=>none))
 (zbh,(0:Int)))
def zhM (zaa:(Sl Gate)) (kink:Int) (zab:(Sl Mp)) (P8:Nat→(List Int→Option (List Int))→Int→(Sl Span)→Bool) (zad:Nat) (zac:(List Int→Option (List Int))) (zba:Int) (zbh:(Sl Span)):Bool :=
  (cond (decide (zba < (w64 ((zaa.len : Int) - (1:Int)))))
 (zoT P8 zaa kink zab zad zac zba zba zbh 0 (fun _=>none))
 true)
def zeS (zaa : (Sl Gate)) (kink : Int) (zab : (Sl Mp)) : Nat → Nat → (List Int → Option (List Int)) → Int → (Sl Span) → ((Sl Span) × Int)
  | 0=>fun _ _ _ _=>default
  | k+1=>zhL zaa kink zab (zeS zaa kink zab k)
def zeT (zaa : (Sl Gate)) (kink : Int) (zab : (Sl Mp)) : Nat → Nat → (List Int → Option (List Int)) → Int → (Sl Span) → Bool
  | 0=>fun _ _ _ _=>false
  | k+1=>zhM zaa kink zab (zeT zaa kink zab k)
def ztc (zaa:(Sl Gate)) (kink:Int) (zab:(Sl Mp)) (zad:Nat) (zac:(List Int→Option (List Int))) (zba:Int) (zbh:(Sl Span)):((Sl Span)×Int):=zeS zaa kink zab Fuel zad zac zba zbh
def ztd (zaa:(Sl Gate)) (kink:Int) (zab:(Sl Mp)) (zad:Nat) (zac:(List Int→Option (List Int))) (zba:Int) (zbh:(Sl Span)):Bool:=zeT zaa kink zab Fuel zad zac zba zbh
theorem zI5 (K:List PA→Prop) (zaa:(Sl Gate)) (kink:Int) (zab:(Sl Mp)) (zad:Nat) (zac:(List Int→Option (List Int))) (zba:Int) (zbh:(Sl Span)) (zbf:Nat→List PV) (zeR:zbf=fun i=>zan (zbh.get i)) (hs:ztd zaa kink zab zad zac zba zbh=true) (hk:K (e56 (ztc zaa kink zab zad zac zba zbh))):zlZ (Wk K) zaa kink zab zad zac zba zbh.len zbf:=by
  refine zBu (Wk K) zaa kink zab zad zac zba zbh.len zbf ?_
  intro X8 hstep
  have key:∀ (k:Nat) (zad:Nat) (zac:(List Int→Option (List Int))) (zba:Int) (zbh:(Sl Span)) (zbf:Nat→List PV) (zeR:zbf=fun i=>zan (zbh.get i)),zeT zaa kink zab k zad zac zba zbh=true→K (e56 (zeS zaa kink zab k zad zac zba zbh))→X8 (zfO zaa kink zab zad zac zba zbh.len zbf):=by
    intro k
    induction k with
    | zero=>intro zad zac zba zbh zbf zeR hs;exact absurd hs Bool.false_ne_true
    | succ k ih =>
      intro zad zac zba zbh zbf zeR hs hk
      subst zeR
      refine hstep zad zac zba zbh ?_
      have hs:zhM zaa kink zab (zeT zaa kink zab k) zad zac zba zbh=true:=hs
      have hk:K (e56 (zhL zaa kink zab (zeS zaa kink zab k) zad zac zba zbh)):=hk
      unfold zhM at hs
      unfold zhL at hk
      generalize zeS zaa kink zab k=S8 at hk ih
      generalize zeT zaa kink zab k=P8 at hs ih
      have hX8:=ih
      exact (zbr (K := fun r => K (e56 r))
 (fun hs hk=>(zI4 K zaa kink zab zad zac X8 P8 S8 hX8 zba zba zbh 0 (fun _=>none) (fun i=>zan (zbh.get i)) rfl hs hk))
 (fun hs hk=>(zdI hk)) hs hk)
  exact key _ zad zac zba zbh zbf zeR hs hk
def zoU (zaa:(Sl Gate)) (kink:Int) (zab:(Sl Mp)) (zgZ:(Sl Span)) (zdb:Nat) (zdc:(List Int→Option (List Int))):((Sl Span)×Int) :=
  (ztc zaa kink zab zdb zdc (0:Int) zgZ)
def zoV (zaa:(Sl Gate)) (kink:Int) (zab:(Sl Mp)) (zgZ:(Sl Span)) (zdb:Nat) (zdc:(List Int→Option (List Int))):Bool :=
  (ztd zaa kink zab zdb zdc (0:Int) zgZ)
theorem zI6 (K:List PA→Prop) (zaa:(Sl Gate)) (kink:Int) (zab:(Sl Mp)) (zgZ:(Sl Span)) (zdb:Nat) (zdc:(List Int→Option (List Int))) (zjv:Nat→List PV) (zI7:zjv=fun i=>zan (zgZ.get i)) (hs:zoV zaa kink zab zgZ zdb zdc=true) (hk:K (e56 (zoU zaa kink zab zgZ zdb zdc))):zoM (Wk K) zaa kink zab zgZ.len zjv zdb zdc:=by
  subst zI7
  refine zaI (zI0 (Wk K) zaa kink zab zgZ zdb zdc) ?_
  unfold zoV at hs
  unfold zoU at hk
  exact (zI5 K zaa kink zab zdb zdc (0:Int) zgZ (fun i=>zan (zgZ.get i)) rfl hs hk)
def zoW (zaa:(Sl Gate)) (kink:Int) (zab:(Sl Mp)) (zgY:(Sl Span)) (zcF:Nat) (zda:(List Int→Option (List Int))):((Sl Span)×Int) :=
  (cond ((zcF : Int) == (0:Int))
 ((⟨0,fun _=>default⟩:(Sl Span)),(5:Int))
 (zoU zaa kink zab zgY zcF zda))
def zoX (zaa:(Sl Gate)) (kink:Int) (zab:(Sl Mp)) (zgY:(Sl Span)) (zcF:Nat) (zda:(List Int→Option (List Int))):Bool :=
  (cond ((zcF : Int) == (0:Int))
 true
 (zoV zaa kink zab zgY zcF zda))
theorem zI8 (K:List PA→Prop) (zaa:(Sl Gate)) (kink:Int) (zab:(Sl Mp)) (zgY:(Sl Span)) (zcF:Nat) (zda:(List Int→Option (List Int))) (zju:Nat→List PV) (zI9:zju=fun i=>zan (zgY.get i)) (hs:zoX zaa kink zab zgY zcF zda=true) (hk:K (e56 (zoW zaa kink zab zgY zcF zda))):zoL (Wk K) zaa kink zab zgY.len zju zcF zda:=by
  subst zI9
  refine zaI (zIZ (Wk K) zaa kink zab zgY zcF zda) ?_
  unfold zoX at hs
  unfold zoW at hk
  exact (zbr (K := fun r => K (e56 r))
 (fun hs hk=>(wk hk (zdv (.one (.nil _ _)) (zdv (.one (.rfl _)) zhi))))
 (fun hs hk=>(zI6 K zaa kink zab zgY zcF zda (fun i=>zan (zgY.get i)) rfl hs hk)) hs hk)
def zl6 (zaa:(Sl Gate)) (kink:Int) (zab:(Sl Mp)) (za4:(Sl Span)) (zaH:Nat) (zaF:(List Int→Option (List Int))):((Sl Span)×Int) :=
  (zoW zaa kink zab za4 zaH zaF)
def zl7 (zaa:(Sl Gate)) (kink:Int) (zab:(Sl Mp)) (za4:(Sl Span)) (zaH:Nat) (zaF:(List Int→Option (List Int))):Bool :=
  (zoX zaa kink zab za4 zaH zaF)
def zl8 (zaa:(Sl Gate)) (kink:Int) (zab:(Sl Mp)) (za4:(Sl Span)) (k46_0:Int) (k46_1:Int) (S5:Nat→(List Int→Option (List Int))→((Sl Span)×Int)) (zaH:Nat) (zaF:(List Int→Option (List Int))):((Sl Span)×Int) :=
  (cond (decide ((zdn (((zab.get 0).F) [k46_0, k46_1]) 0) ≤ kink))
 (S5 (addN (zaF [k46_0,k46_1]) zaH) (zfa [k46_0,k46_1] [1] zaF))
 (S5 zaH zaF))
def zl9 (zaa:(Sl Gate)) (kink:Int) (zab:(Sl Mp)) (za4:(Sl Span)) (k46_0:Int) (k46_1:Int) (P5:Nat→(List Int→Option (List Int))→Bool) (zaH:Nat) (zaF:(List Int→Option (List Int))):Bool :=
  (cond (decide ((zdn (((zab.get 0).F) [k46_0, k46_1]) 0) ≤ kink))
 (P5 (addN (zaF [k46_0,k46_1]) zaH) (zfa [k46_0,k46_1] [1] zaF))
 (P5 zaH zaF))
def zfE (zaa : (Sl Gate)) (kink : Int) (zab : (Sl Mp)) (za4 : (Sl Span)) : List (List Int) → Nat → (List Int → Option (List Int)) → ((Sl Span) × Int)
  | []=>zl6 zaa kink zab za4
  | y :: r=>zl8 zaa kink zab za4 (y.getD 0 0) (y.getD 1 0) (zfE zaa kink zab za4 r)
def zfF (zaa : (Sl Gate)) (kink : Int) (zab : (Sl Mp)) (za4 : (Sl Span)) : List (List Int) → Nat → (List Int → Option (List Int)) → Bool
  | []=>zl7 zaa kink zab za4
  | y :: r=>zl9 zaa kink zab za4 (y.getD 0 0) (y.getD 1 0) (zfF zaa kink zab za4 r)
def zhN (_gates:Sl Gate) (_kink:Int) (_table:Sl Mp) (_out:Sl Span) (_ys:List (List Int)):Bool:=true
theorem zJa (zaa:Sl Gate) (kink:Int) (table:Sl Mp) (out:Sl Span):∀ (y:List Int) (r:List (List Int)),zhN zaa kink table out (y :: r)=true→zhN zaa kink table out r=true:=fun _ _ _=>rfl
def zfU (kink:Int) (table:Sl Mp) (s:MpS) (y:List Int):MpS:=cond (decide (zdn ((table.get 0).F [y.getD 0 0,y.getD 1 0]) 0≤kink)) (zE7 s [y.getD 0 0,y.getD 1 0]) s
theorem zJb (kink:Int) (table:Sl Mp) (s:MpS) (x y:List Int):zfU kink table (zfU kink table s x) y=zfU kink table (zfU kink table s y) x:=by
  unfold zfU
  cases decide (zdn ((table.get 0).F [x.getD 0 0,x.getD 1 0]) 0≤kink) <;> cases decide (zdn ((table.get 0).F [y.getD 0 0,y.getD 1 0]) 0≤kink) <;> simp only [cond_true,cond_false,zqY]
theorem zoY (zaa : Sl Gate) (kink : Int) (table : Sl Mp) (out : Sl Span) : ∀ (ys : List (List Int)) (n : Nat) (F : List Int → Option (List Int)), zfE zaa kink table out ys n F = zl6 zaa kink table out (ys.foldl (zfU kink table) (n, F)).1 (ys.foldl (zfU kink table) (n, F)).2
  | [],n,F=>rfl
  | y :: r,n,F=>by
    have ih:=zoY zaa kink table out r
    show zl8 zaa kink table out (y.getD 0 0) (y.getD 1 0) (zfE zaa kink table out r) n F=_
    rw [List.foldl_cons]
    unfold zl8 zfU
    cases decide (zdn ((table.get 0).F [y.getD 0 0,y.getD 1 0]) 0≤kink)
    · rw [cond_false,cond_false];exact ih n F
    · rw [cond_true,cond_true];exact ih _ _
theorem zoZ (zaa : Sl Gate) (kink : Int) (table : Sl Mp) (out : Sl Span) : ∀ (ys : List (List Int)) (n : Nat) (F : List Int → Option (List Int)), zfF zaa kink table out ys n F = zl7 zaa kink table out (ys.foldl (zfU kink table) (n, F)).1 (ys.foldl (zfU kink table) (n, F)).2
  | [],n,F=>rfl
  | y :: r,n,F=>by
    have ih:=zoZ zaa kink table out r
    show zl9 zaa kink table out (y.getD 0 0) (y.getD 1 0) (zfF zaa kink table out r) n F=_
    rw [List.foldl_cons]
    unfold zl9 zfU
    cases decide (zdn ((table.get 0).F [y.getD 0 0,y.getD 1 0]) 0≤kink)
    · rw [cond_false,cond_false];exact ih n F
    · rw [cond_true,cond_true];exact ih _ _
theorem zJc (zaa : Sl Gate) (kink : Int) (table : Sl Mp) (out : Sl Span) (ys zs : List (List Int)) (_hl : ∀ y ∈ ys, y.length = 2) (_h : zhN zaa kink table out ys = true) (hp : ys.Perm zs) :
    zhN zaa kink table out zs=true∧zfE zaa kink table out ys=zfE zaa kink table out zs∧zfF zaa kink table out ys=zfF zaa kink table out zs:=by
  have e:∀ s:MpS,ys.foldl (zfU kink table) s=zs.foldl (zfU kink table) s:=fun s=>hp.foldl_eq' (fun x _ y _ z=>zJb kink table z x y) s
  refine ⟨rfl,funext fun n=>funext fun F=>?_,funext fun n=>funext fun F=>?_⟩
  · rw [zoY,zoY,e]
  · rw [zoZ,zoZ,e]
def zo0 (zaa:(Sl Gate)) (kink:Int) (zab:(Sl Mp)) (za4:(Sl Span)) (zaH:Nat) (zaF:(List Int→Option (List Int))):((Sl Span)×Int):=zfE zaa kink zab za4 (zeC (zaa.get 0) (zaa.get 1)) zaH zaF
def zo1 (zaa:(Sl Gate)) (kink:Int) (zab:(Sl Mp)) (za4:(Sl Span)) (zaH:Nat) (zaF:(List Int→Option (List Int))):Bool:=keysB 2 ((zab.get 0).n) ((zab.get 0).F) (zeC (zaa.get 0) (zaa.get 1)) && zhN zaa kink zab za4 (zeC (zaa.get 0) (zaa.get 1)) && zfF zaa kink zab za4 (zeC (zaa.get 0) (zaa.get 1)) zaH zaF
theorem zJd (K:List PA→Prop) (zaa:(Sl Gate)) (kink:Int) (zab:(Sl Mp)) (za4:(Sl Span)) (zaH:Nat) (zaF:(List Int→Option (List Int))) (hs:zo1 zaa kink zab za4 zaH zaF=true) (hk:K (e56 (zo0 zaa kink zab za4 zaH zaF))):zlY (Wk K) zaa kink zab za4 [] zaH zaF:=by
  unfold zo1 at hs
  rw [Bool.and_eq_true,Bool.and_eq_true] at hs
  obtain ⟨⟨hkeys,hI⟩,hs⟩:=hs
  unfold zo0 at hk
  generalize hys:zeC (zaa.get 0) (zaa.get 1)=ys0 at hkeys hI hs hk
  refine zBt (Wk K) zaa kink zab za4 [] zaH zaF ?_
  intro X5 hstep
  have key:∀ (N:Nat) (ys:List (List Int)) (za5:List (List Int)) (zaH:Nat) (zaF:(List Int→Option (List Int))),ys.length=N→(zCr 2 ((zab.get 0).n) ((zab.get 0).F)→zGa 2 ((zab.get 0).F) za5 ys)→zhN zaa kink zab za4 ys=true→zfF zaa kink zab za4 ys zaH zaF=true→K (e56 (zfE zaa kink zab za4 ys zaH zaF))→X5 (zj9 zaa kink zab za4 za5 zaH zaF):=by
    intro N
    induction N with
    | zero =>
      intro ys za5 zaH zaF hN hrem hI hs hk
      obtain rfl:=List.eq_nil_of_length_eq_zero hN
      refine hstep za5 zaH zaF ?_
      intro hfin
      have hrem:=hrem hfin
      refine ⟨fun _=>?_,fun k46_0 k46_1 hF hns=>absurd (hrem.2.2 [k46_0,k46_1] rfl hF hns) (by simp)⟩
      have hs:zl7 zaa kink zab za4 zaH zaF=true:=hs
      have hk:K (e56 (zl6 zaa kink zab za4 zaH zaF)):=hk
      unfold zl7 at hs
      unfold zl6 at hk
      exact (zI8 K zaa kink zab za4 zaH zaF (fun i=>zan (za4.get i)) rfl hs hk)
    | succ N ih =>
      intro ys za5 zaH zaF hN hrem hI hs hk
      refine hstep za5 zaH zaF ?_
      intro hfin
      have hrem:=hrem hfin
      refine ⟨fun hend=>?_,fun k46_0 k46_1 hF hns=>?_⟩
      · exact absurd (zr2 hrem hend) (fun e=>by rw [e] at hN;simp at hN)
      · obtain ⟨hperm, hrem2, hlen⟩ := zn5 hrem (c := [k46_0, k46_1]) rfl hF hns
        obtain ⟨hI2,e1,e2⟩:=zJc zaa kink zab za4 ys _ (fun y hy=>(hrem.2.1 y hy).1) hI hperm
        have hI3:=zJa zaa kink zab za4 _ _ hI2
        rw [e2] at hs
        rw [e1] at hk
        have hs:zl9 zaa kink zab za4 k46_0 k46_1 (zfF zaa kink zab za4 (ys.erase [k46_0,k46_1])) zaH zaF=true:=hs
        have hk:K (e56 (zl8 zaa kink zab za4 k46_0 k46_1 (zfE zaa kink zab za4 (ys.erase [k46_0,k46_1])) zaH zaF)):=hk
        have ih:=fun (zaH:Nat) (zaF:(List Int→Option (List Int)))=>ih (ys.erase [k46_0,k46_1]) ([k46_0,k46_1] :: za5) zaH zaF (by omega) (fun _=>hrem2) hI3
        unfold zl9 at hs
        unfold zl8 at hk
        generalize zfE zaa kink zab za4 (ys.erase [k46_0,k46_1])=S5 at hk ih
        generalize zfF zaa kink zab za4 (ys.erase [k46_0,k46_1])=P5 at hs ih
        have hX5:=ih
        exact (zbr (K := fun r => K (e56 r))
 (fun hs hk=>(hX5 (addN (zaF [k46_0,k46_1]) zaH) (zfa [k46_0,k46_1] [1] zaF) hs hk))
 (fun hs hk=>(hX5 zaH zaF hs hk)) hs hk)
  exact key _ ys0 [] zaH zaF rfl (fun hf=>zlp hkeys hf) hI hs hk
def zhO (zaa:(Sl Gate)) (kink:Int) (zab:(Sl Mp)) (za4:(Sl Span)):((Sl Span)×Int) :=
  (zo0 zaa kink zab za4 0 (fun _=>none))
def zjw (zaa:(Sl Gate)) (kink:Int) (zab:(Sl Mp)) (za4:(Sl Span)):Bool :=
  (decide ((0≤(0:Int)∧(0:Int) < (zab.len:Int))) &&
 (zo1 zaa kink zab za4 0 (fun _=>none)))
theorem zJe (K:List PA→Prop) (zaa:(Sl Gate)) (kink:Int) (zab:(Sl Mp)) (za4:(Sl Span)) (zjt:Nat→List PV) (zJf:zjt=fun i=>zan (za4.get i)) (hs:zjw zaa kink zab za4=true) (hk:K (e56 (zhO zaa kink zab za4))):zoK (Wk K) zaa kink zab za4.len zjt:=by
  subst zJf
  refine zaI (zIY (Wk K) zaa kink zab za4) ?_
  unfold zjw at hs
  unfold zhO at hk
  exact (zaE hs fun hc hs=>⟨hc,(zJd K zaa kink zab za4 0 (fun _=>none) hs hk)⟩)
def zhP (zaa:(Sl Gate)) (kink:Int) (zab:(Sl Mp)) (S3:Int→(Sl Span)→((Sl Span)×Int)) (zbA:Int) (zbQ:(Sl Span)):((Sl Span)×Int) :=
  (cond (decide (zbA < ((zaa.len : Int).toNat : Int)))
 (S3 (w64 (zbA+(1:Int))) (⟨zbQ.len,(setT zbA.toNat (⟨(1000001:Int),(-1000001:Int)⟩:Span) zbQ.get)⟩:Sl Span))
 (zhO zaa kink zab zbQ))
def zhQ (zaa:(Sl Gate)) (kink:Int) (zab:(Sl Mp)) (P3:Int→(Sl Span)→Bool) (zbA:Int) (zbQ:(Sl Span)):Bool :=
  (cond (decide (zbA < ((zaa.len : Int).toNat : Int)))
 (decide ((0≤zbA∧zbA < (zbQ.len:Int))) &&
 (decide ((zbA.toNat < zbQ.len)) &&
 (P3 (w64 (zbA+(1:Int))) (⟨zbQ.len,(setT zbA.toNat (⟨(1000001:Int),(-1000001:Int)⟩:Span) zbQ.get)⟩:Sl Span))))
 (zjw zaa kink zab zbQ))
def zfG (zaa : (Sl Gate)) (kink : Int) (zab : (Sl Mp)) : Nat → Int → (Sl Span) → ((Sl Span) × Int)
  | 0=>fun _ _=>default
  | k+1=>zhP zaa kink zab (zfG zaa kink zab k)
def zfH (zaa : (Sl Gate)) (kink : Int) (zab : (Sl Mp)) : Nat → Int → (Sl Span) → Bool
  | 0=>fun _ _=>false
  | k+1=>zhQ zaa kink zab (zfH zaa kink zab k)
def zte (zaa:(Sl Gate)) (kink:Int) (zab:(Sl Mp)) (zbA:Int) (zbQ:(Sl Span)):((Sl Span)×Int):=zfG zaa kink zab Fuel zbA zbQ
def ztf (zaa:(Sl Gate)) (kink:Int) (zab:(Sl Mp)) (zbA:Int) (zbQ:(Sl Span)):Bool:=zfH zaa kink zab Fuel zbA zbQ
theorem zJg (K:List PA→Prop) (zaa:(Sl Gate)) (kink:Int) (zab:(Sl Mp)) (zbA:Int) (zbQ:(Sl Span)) (zcO:Nat→List PV) (zma:zcO=fun i=>zan (zbQ.get i)) (hs:ztf zaa kink zab zbA zbQ=true) (hk:K (e56 (zte zaa kink zab zbA zbQ))):zlX (Wk K) zaa kink zab zbA zbQ.len zcO:=by
  refine zBs (Wk K) zaa kink zab zbA zbQ.len zcO ?_
  intro X3 hstep
  have key:∀ (k:Nat) (zbA:Int) (zbQ:(Sl Span)) (zcO:Nat→List PV) (zma:zcO=fun i=>zan (zbQ.get i)),zfH zaa kink zab k zbA zbQ=true→K (e56 (zfG zaa kink zab k zbA zbQ))→X3 (zlW zaa kink zab zbA zbQ.len zcO):=by
    intro k
    induction k with
    | zero=>intro zbA zbQ zcO zma hs;exact absurd hs Bool.false_ne_true
    | succ k ih =>
      intro zbA zbQ zcO zma hs hk
      subst zma
      refine hstep zbA zbQ ?_
      have hs:zhQ zaa kink zab (zfH zaa kink zab k) zbA zbQ=true:=hs
      have hk:K (e56 (zhP zaa kink zab (zfG zaa kink zab k) zbA zbQ)):=hk
      unfold zhQ at hs
      unfold zhP at hk
      generalize zfG zaa kink zab k=S3 at hk ih
      generalize zfH zaa kink zab k=P3 at hs ih
      have hX3:=ih
      exact (zbr (K := fun r => K (e56 r))
 (fun hs hk=>(zaE hs fun hc hs=>⟨hc,(zaE hs fun hc hs=>⟨hc,(hX3 (w64 (zbA+(1:Int))) (⟨zbQ.len,(setT zbA.toNat (⟨(1000001:Int),(-1000001:Int)⟩:Span) zbQ.get)⟩:Sl Span) (zpu zbA.toNat 0 (fun i=>zan (zbQ.get i)) (zan (⟨(1000001:Int),(-1000001:Int)⟩:Span))) (zEu (enc:=zan) (i:=zbA.toNat) (k:=0) (f:=zbQ.get) (new:=(zan (⟨(1000001:Int),(-1000001:Int)⟩:Span))) (v:=(⟨(1000001:Int),(-1000001:Int)⟩:Span)) rfl rfl) hs hk)⟩)⟩))
 (fun hs hk=>(zJe K zaa kink zab zbQ (fun i=>zan (zbQ.get i)) rfl hs hk)) hs hk)
  exact key _ zbA zbQ zcO zma hs hk
def zo2 (zaa:(Sl Gate)) (kink:Int) (zab:(Sl Mp)):((Sl Span)×Int) :=
  (zte zaa kink zab (0:Int) (⟨(zaa.len:Int).toNat,(fun _=>(⟨(0:Int),(0:Int)⟩:Span))⟩:Sl Span))
def zo3 (zaa:(Sl Gate)) (kink:Int) (zab:(Sl Mp)):Bool :=
  (decide ((0≤(zaa.len:Int)∧(zaa.len:Int)=(zaa.len:Int)∧(zaa.len:Int)≤1000000)) &&
 (ztf zaa kink zab (0:Int) (⟨(zaa.len:Int).toNat,(fun _=>(⟨(0:Int),(0:Int)⟩:Span))⟩:Sl Span)))
theorem zJh (K:List PA→Prop) (zaa:(Sl Gate)) (kink:Int) (zab:(Sl Mp)) (zcs:Nat→List PV) (zlD:zcs=fun i=>zbs (zab.get i)) (hs:zo3 zaa kink zab=true) (hk:K (e56 (zo2 zaa kink zab))):zoJ (Wk K) zaa kink zab.len zcs:=by
  subst zlD
  refine zaI (zIX (Wk K) zaa kink zab) ?_
  unfold zo3 at hs
  unfold zo2 at hk
  exact (zaE hs fun hc hs=>⟨hc,(zJg K zaa kink zab (0:Int) (⟨(zaa.len:Int).toNat,(fun _=>(⟨(0:Int),(0:Int)⟩:Span))⟩:Sl Span) (fun _=>(zan (⟨(0:Int),(0:Int)⟩:Span))) rfl hs hk)⟩)
def zo4 (zaa:(Sl Gate)) (kink:Int):((Sl Span)×Int) :=
  (zo2 zaa kink (s93 zaa))
def zo5 (zaa:(Sl Gate)) (kink:Int):Bool :=
  (decide ((p93 zaa=true)) &&
 (zo3 zaa kink (s93 zaa)))
theorem zJi (K:List PA→Prop) (zaa:(Sl Gate)) (kink:Int) (hs:zo5 zaa kink=true) (hk:K (e56 (zo4 zaa kink))):zoI (Wk K) zaa kink:=by
  refine zaI (zIW (Wk K) zaa kink) ?_
  unfold zo5 at hs
  unfold zo4 at hk
  exact (zaE hs fun hc hs=>⟨⟨isE,hc⟩,(zJh K zaa kink (s93 zaa) (fun i=>zbs ((s93 zaa).get i)) rfl hs hk)⟩)
def zmb (zaa:(Sl Gate)) (kink:Int) (zhK:Bool):((Sl Span)×Int) :=
  (cond zhK
 ((⟨0,fun _=>default⟩:(Sl Span)),(2:Int))
 (zo4 zaa kink))
def zmc (zaa:(Sl Gate)) (kink:Int) (zhK:Bool):Bool :=
  (cond zhK
 true
 (zo5 zaa kink))
theorem zBw (K:List PA→Prop) (zaa:(Sl Gate)) (kink:Int) (zhK:Bool) (hs:zmc zaa kink zhK=true) (hk:K (e56 (zmb zaa kink zhK))):zlV (Wk K) zaa kink zhK:=by
  refine zaI (zIV (Wk K) zaa kink zhK) ?_
  unfold zmc at hs
  unfold zmb at hk
  exact (zbr (K := fun r => K (e56 r))
 (fun hs hk=>(wk hk (zdv (.one (.nil _ _)) (zdv (.one (.rfl _)) zhi))))
 (fun hs hk=>(zJi K zaa kink hs hk)) hs hk)
def s56 (zaa:(Sl Gate)) (kink:Int):((Sl Span)×Int) :=
  (cond (!(s92 zaa))
 (zmb zaa kink true)
 (zmb zaa kink (!(s74 kink (0:Int) (1000000:Int)))))
def p56 (zaa:(Sl Gate)) (kink:Int):Bool :=
  (decide ((p92 zaa=true)) &&
 (cond (!(s92 zaa))
 (zmc zaa kink true)
 (zmc zaa kink (!(s74 kink (0:Int) (1000000:Int))))))
theorem q56 (zaa:(Sl Gate)) (kink:Int) (K:List PA→Prop) (hs:p56 zaa kink=true) (hk:K (e56 (s56 zaa kink))):vcFun Try.prog G56 zaL 56 [.one (.sl zaa.len 3 (fun i=>enc_55 (zaa.get i))),.one (.int .i64 kink)] (Wk K):=by
  refine zaI (zIU zaa kink (Wk K)) ?_
  unfold p56 at hs
  unfold s56 at hk
  exact (zaE hs fun hc hs => ⟨⟨isE, hc⟩, (zbr (K := fun r => K (e56 r))
 (fun hs hk=>(zBw K zaa kink true hs hk))
 (fun hs hk=>(zBw K zaa kink (!(s74 kink (0:Int) (1000000:Int))) hs hk)) hs hk)⟩)
def zJj : List PA → COut
  | [.one (.sl a0_n a0_s a0_g),.one (.int .i64 a1)]=>.det (IsE enc_55 3 a0_s a0_g∧p56 (⟨a0_n,zaf a0_g⟩:(Sl Gate)) a1=true) [.one (.sl (((s56 (⟨a0_n,zaf a0_g⟩:(Sl Gate)) a1).1).len) 2 (fun i=>zan (((s56 (⟨a0_n,zaf a0_g⟩:(Sl Gate)) a1).1).get i))),.one (.int .i64 ((s56 (⟨a0_n,zaf a0_g⟩:(Sl Gate)) a1).2))]
  | _=>.no
theorem zM2:zaj Try.prog 56:=⟨_,rfl,rfl,by kernel_rfl⟩
theorem zSB:Ok Try.prog 56 zJj:=zfo zPT zM2 fun args K h=>by
  unfold zJj at h
  split at h
  · rename_i a0_n a0_s a0_g a1
    obtain ⟨⟨⟨rfl,a0_f,rfl⟩,hs⟩,hk⟩:=h
    try rw [zae a0_f] at hs
    try rw [zae a0_f] at hk
    exact ⟨_,zeL zeM _,(fun _ _=>[]),(fun l=>Nat.beq l 42 || Nat.beq l 66),zaL,q56 (⟨a0_n,a0_f⟩:(Sl Gate)) a1 K hs hk⟩
  · exact h.elim
abbrev T70:Tabs:=Tabs.nil
theorem zPU:TabsOk Try.prog T70:=TabsOk.nil
abbrev G70:Ctrs:=csm T70 (fun _ _=>[]) (fun _=>false)
def zM3:Ann:=⟨15,[(0,zK [0,1,2] []),(1,zK [6] [])],
 [],
 [],
 [],[]⟩
abbrev R70:=Bool
abbrev e70 (r:R70):List PA:=[.one (.bool r)]
section
variable {K:List PA→Prop} {n:Int} {low:Int} {high:Int}
def s70 (n:Int) (low:Int) (high:Int):Bool :=
  (cond (decide (n ≥ low))
 (decide (n≤high))
 false)
end
theorem q70 (n:Int) (low:Int) (high:Int) (K:List PA→Prop) (hk:K (e70 (s70 n low high))):vcFun Try.prog G70 zM3 70 [.one (.int .i64 n),.one (.int .i64 low),.one (.int .i64 high)] K :=
  zaI (by kernel_rfl) (zt hk (fun hk=>hk) (fun hk=>hk))
def zDR : List PA → COut
  | [.one (.int .i64 a0),.one (.int .i64 a1),.one (.int .i64 a2)]=>.tot [.one (.bool (s70 a0 a1 a2))]
  | _=>.no
theorem zM4:zaj Try.prog 70:=⟨_,rfl,rfl,by kernel_rfl⟩
theorem zQ0:Ok Try.prog 70 zDR:=zaP zPU zM4 fun args K h=>by
  unfold zDR at h
  split at h
  · rename_i a0 a1 a2
    have hk:=h
    exact ⟨(fun _ _=>[]),(fun _=>false),zM3,q70 a0 a1 a2 K hk⟩
  · exact h.elim
abbrev T49:Tabs:=(Tabs.nil.addF 70 zDR)
theorem zPV:TabsOk Try.prog T49:=(TabsOk.nil.addF zQ0)
abbrev G49:Ctrs:=csm T49 (fun _ _=>[]) (fun _=>false)
def zM5:Ann:=⟨18,[(0,zK [1] [1]),(1,zK [2] [])],
 [],
 [],
 [],[]⟩
abbrev R49:=Bool
abbrev e49 (r:R49):List PA:=[.one (.bool r)]
section
variable {K:List PA→Prop} {g:Gate}
def s49 (g:Gate):Bool :=
  (cond (s70 g.Z (0:Int) (100000:Int))
 (cond (s70 g.Low (-1000000:Int) g.High)
 (decide (g.High≤(1000000:Int)))
 false)
 false)
end
theorem q49 (g:Gate) (K:List PA→Prop) (hk:K (e49 (s49 g))):vcFun Try.prog G49 zM5 49 [.agg (enc_55 g)] K :=
  zaI (by kernel_rfl) (zt hk (fun hk=>(zt hk (fun hk=>hk) (fun hk=>hk))) (fun hk=>hk))
def zJk : List PA → COut
  | [.agg [.int .i64 a0_Z,.int .i64 a0_Low,.int .i64 a0_High]]=>.tot [.one (.bool (s49 (⟨a0_Z,a0_Low,a0_High⟩:Gate)))]
  | _=>.no
theorem zM6:zaj Try.prog 49:=⟨_,rfl,rfl,by kernel_rfl⟩
theorem zSC:Ok Try.prog 49 zJk:=zaP zPV zM6 fun args K h=>by
  unfold zJk at h
  split at h
  · rename_i a0_Z a0_Low a0_High
    have hk:=h
    exact ⟨(fun _ _=>[]),(fun _=>false),zM5,q49 (⟨a0_Z,a0_Low,a0_High⟩:Gate) K hk⟩
  · exact h.elim
abbrev T45:Tabs:=(Tabs.nil.addF 70 zDR)
theorem zPW:TabsOk Try.prog T45:=(TabsOk.nil.addF zQ0)
abbrev G45:Ctrs:=csm T45 (fun _ _=>[]) (fun _=>false)
def zDS:Ann:=⟨35,[(0,zK [0] []),(1,zK [0,3] []),(2,zK [0,3,7] []),(3,zK [0,3] []),(4,zK [0,3,31] []),(5,zK [2] []),(6,zK [2] [])],
 [(2,zK [0,3] [])],
 [(5,zK [0,3,31] [])],
 [],[]⟩
abbrev R45:=Bool
abbrev e45 (r:R45):List PA:=[.one (.bool r)]
@[irreducible] def z45:=ptF Try.prog G45 zDS Try.f45
def zE8 (l_a0:(Sl Int)) (iv0:Int):St:=⟨[(0,zS zal 1 l_a0),(3,zI iv0)],[],[]⟩
abbrev zJl (K:List PA→Prop) (l_a0:(Sl Int)) (X:St→Prop) (P:Int→Bool) (S:Int→Bool):Prop:=∀ ⦃iv0:Int⦄,P iv0=true→K (e45 (S iv0))→X (zE8 l_a0 iv0)
section
variable {K:List PA→Prop} {l_a0:(Sl Int)} {iv0:Int} {X0:St→Prop} {P0:Int→Bool} {S0:Int→Bool} {iv1:Int} {ztg:Bool}
def zmd (S0:Int→Bool) (l_a0:(Sl Int)) (iv1:Int) (ztg:Bool):Bool :=
  (cond ztg
 false
 (S0 (w64 (iv1+(1:Int)))))
def zme (P0:Int→Bool) (l_a0:(Sl Int)) (iv1:Int) (ztg:Bool):Bool :=
  (cond ztg
 true
 (P0 (w64 (iv1+(1:Int)))))
theorem zth (hX0:zJl K l_a0 X0 P0 S0) (hs:zme P0 l_a0 iv1 ztg=true) (hk:K (e45 (zmd S0 l_a0 iv1 ztg))):z45 K [1,0,1,0,0,1,0,0,1] [X0] ⟨[(0,zS zal 1 l_a0),(3,zI iv1),(31,zB ztg)],[],[]⟩:=zaI (by kernel_rfl) (zc hs hk (fun hs hk=>hk) (fun hs hk=>(hX0 hs hk)))
def zjx (l_a0:(Sl Int)) (S0:Int→Bool) (iv0:Int):Bool :=
  (cond (decide (iv0 < (l_a0.len : Int)))
 (cond (!(s70 (l_a0.get iv0.toNat) (0:Int) (100000:Int)))
 (zmd S0 l_a0 iv0 true)
 (cond (decide (iv0 > (0:Int)))
 (zmd S0 l_a0 iv0 (decide ((l_a0.get iv0.toNat)≤(l_a0.get ((w64 (iv0 - (1:Int))).toNat)))))
 (zmd S0 l_a0 iv0 false)))
 (s70 (l_a0.len:Int) (2:Int) (8:Int)))
def zjy (l_a0:(Sl Int)) (P0:Int→Bool) (iv0:Int):Bool :=
  (cond (decide (iv0 < (l_a0.len : Int)))
 (decide ((0≤iv0∧iv0 < (l_a0.len:Int))) &&
 (cond (!(s70 (l_a0.get iv0.toNat) (0:Int) (100000:Int)))
 (zme P0 l_a0 iv0 true)
 (cond (decide (iv0 > (0:Int)))
 (decide ((0≤iv0∧iv0 < (l_a0.len:Int))) &&
 (decide ((0≤(w64 (iv0 - (1:Int)))∧(w64 (iv0 - (1:Int))) < (l_a0.len:Int))) &&
 (zme P0 l_a0 iv0 (decide ((l_a0.get iv0.toNat)≤(l_a0.get ((w64 (iv0 - (1:Int))).toNat)))))))
 (zme P0 l_a0 iv0 false))))
 true)
def zjz (l_a0:(Sl Int)):Nat→Int→Bool:=lpO (fun _=>default) (zjx l_a0)
def zjA (l_a0:(Sl Int)):Nat→Int→Bool:=lpO (fun _=>false) (zjy l_a0)
def zBx (l_a0:(Sl Int)) (iv0:Int):Bool:=zjz l_a0 Fuel iv0
def zBy (l_a0:(Sl Int)) (iv0:Int):Bool:=zjA l_a0 Fuel iv0
theorem zJm (hs:zBy l_a0 iv0=true) (hk:K (e45 (zBx l_a0 iv0))):z45 K [1,0,1,0] [] (zE8 l_a0 iv0) :=
  zl (fun X=>z45 K [1,0,1,0,0] [X]) (by kernel_rfl) fun X0 hX =>
  (show ∀ k, zJl K l_a0 X0 (zjA l_a0 k) (zjz l_a0 k) from zfT _ _ (zjy l_a0) (zjx l_a0) (zJl K l_a0 X0)
 (by intro _ hs;exact absurd hs Bool.false_ne_true)
 (by intro P0 S0 hX0 iv0 hs hk;exact hX _ (zaI (by kernel_rfl) (zc hs hk (fun hs hk=>(zaE hs fun hc hs=>And.intro hc (zc hs hk (fun hs hk=>(zth hX0 hs hk)) (fun hs hk=>(zc hs hk (fun hs hk=>(zaE hs fun hc hs=>And.intro hc (zaE hs fun hc hs=>And.intro hc (zth hX0 hs hk)))) (fun hs hk=>(zth hX0 hs hk))))))) (fun hs hk=>hk))))) _ hs hk
def s45 (l_a0:(Sl Int)):Bool :=
  (zBx l_a0 (0:Int))
def p45 (l_a0:(Sl Int)):Bool :=
  (zBy l_a0 (0:Int))
end
theorem q45 (l_a0:(Sl Int)) (K:List PA→Prop) (hs:p45 l_a0=true) (hk:K (e45 (s45 l_a0))):vcFun Try.prog G45 zDS 45 [.one (.sl l_a0.len 1 (fun i=>zal (l_a0.get i)))] K :=
  zaI (by kernel_rfl) (zJm hs hk)
def zJn : List PA → COut
  | [.one (.sl a0_n a0_s a0_g)]=>.det (IsE zal 1 a0_s a0_g∧p45 (⟨a0_n,zbb a0_g⟩:(Sl Int))=true) [.one (.bool (s45 (⟨a0_n,zbb a0_g⟩:(Sl Int))))]
  | [.one (.nils)]=>.det (p45 (⟨0,fun _=>default⟩:(Sl Int))=true) [.one (.bool (s45 (⟨0,fun _=>default⟩:(Sl Int))))]
  | _=>.no
theorem zM7:zaj Try.prog 45:=⟨_,rfl,rfl,by kernel_rfl⟩
theorem zSD:Ok Try.prog 45 zJn:=zfo zPW zM7 fun args K h=>by
  unfold zJn at h
  split at h
  · rename_i a0_n a0_s a0_g
    obtain ⟨⟨⟨rfl,a0_f,rfl⟩,hs⟩,hk⟩:=h
    try rw [zbG a0_f] at hs
    try rw [zbG a0_f] at hk
    exact ⟨_,zeL zeM _,(fun _ _=>[]),(fun _=>false),zDS,q45 (⟨a0_n,a0_f⟩:(Sl Int)) (Wk K) hs (zdI hk)⟩
  · obtain ⟨hs, hk⟩ := h
    exact ⟨_,(zdv (.one (.nil _ _)) zhi),(fun _ _=>[]),(fun _=>false),zDS,q45 (⟨0,fun _=>default⟩:(Sl Int)) (Wk K) hs (zdI hk)⟩
  · exact h.elim
abbrev T57:Tabs:=((Tabs.nil.addF 45 zJn).addF 49 zJk)
theorem zPX:TabsOk Try.prog T57:=((TabsOk.nil.addF zSD).addF zSC)
abbrev G57:Ctrs:=csm T57 (fun _ _=>[]) (fun _=>false)
def zJo:Ann:=⟨41,[(0,zK [0] []),(1,zK [0,3] []),(2,zK [0,3,4] []),(3,zK [0,3,4,8] [18]),(4,zK [0,3,4] [18]),(5,zK [0,3,4] [18]),(6,zK [0,3,4,38] [18]),(7,zK [2] []),(8,zK [2] [])],
 [(3,⟨[0,3,4],[18],[(3,18,3,fun _=>zal default)],[],[],[],[]⟩)],
 [(7,zK [0,3,4,38] [18])],
 [],[]⟩
abbrev R57:=Bool
abbrev e57 (r:R57):List PA:=[.one (.bool r)]
@[irreducible] def z57:=ptF Try.prog G57 zJo Try.f57
def zE9 (zaa:(Sl Gate)) (iv0:Int) (zbi:(Sl Int)) (zc0:Nat→List PV):St:=⟨[(0,zS enc_55 3 zaa),(3,zv 18),(4,zI iv0)],[(18,.vec 3 1 8 zbi.len zc0)],[]⟩
abbrev zJp (K:List PA→Prop) (zaa:(Sl Gate)) (X:St→Prop) (P:Int→(Sl Int)→Bool) (S:Int→(Sl Int)→Bool):Prop:=∀ ⦃iv0:Int⦄ ⦃zbi:(Sl Int)⦄ ⦃zc0:Nat→List PV⦄,P iv0 zbi=true→K (e57 (S iv0 zbi))→zc0=zg zal zbi→X (zE9 zaa iv0 zbi zc0)
section
variable {K:List PA→Prop} {zaa:(Sl Gate)} {iv0:Int} {zbi:(Sl Int)} {zc0:Nat→List PV} {X0:St→Prop} {P0:Int→(Sl Int)→Bool} {S0:Int→(Sl Int)→Bool} {iv1:Int} {zti:Bool} {zq4:(Sl Int)} {zBz:Nat→List PV}
def zo6 (S0:Int→(Sl Int)→Bool) (zaa:(Sl Gate)) (iv1:Int) (zti:Bool) (zq4:(Sl Int)):Bool :=
  (cond zti
 false
 (S0 (w64 (iv1+(1:Int))) zq4))
def zo7 (P0:Int→(Sl Int)→Bool) (zaa:(Sl Gate)) (iv1:Int) (zti:Bool) (zq4:(Sl Int)):Bool :=
  (cond zti
 true
 (P0 (w64 (iv1+(1:Int))) zq4))
theorem zBA (hX0:zJp K zaa X0 P0 S0) (hs:zo7 P0 zaa iv1 zti zq4=true) (hk:K (e57 (zo6 S0 zaa iv1 zti zq4))) (zJq:zBz=zg zal zq4):z57 K [1,1,0,1,0,0,1,0,0,1,1] [X0] ⟨[(0,zS enc_55 3 zaa),(3,zv 18),(4,zI iv1),(38,zB zti)],[(18,.vec 3 1 8 zq4.len zBz)],[]⟩:=by subst zJq;exact zaI (by kernel_rfl) (zc hs hk (fun hs hk=>hk) (fun hs hk=>(hX0 hs hk rfl)))
def zjB (zaa:(Sl Gate)) (S0:Int→(Sl Int)→Bool) (iv0:Int) (zbi:(Sl Int)):Bool :=
  (cond (decide (iv0 < (zaa.len : Int)))
 (cond (!(s49 (zaa.get iv0.toNat)))
 (zo6 S0 zaa iv0 true (⟨(zbi.len+1),(zdN zbi.len zbi.get (fun _=>(zaa.get iv0.toNat).Z))⟩:Sl Int))
 (zo6 S0 zaa iv0 (decide ((w64 ((zaa.get iv0.toNat).High - (zaa.get iv0.toNat).Low)) > (60:Int))) (⟨(zbi.len+1),(zdN zbi.len zbi.get (fun _=>(zaa.get iv0.toNat).Z))⟩:Sl Int)))
 (s45 zbi))
def zjC (zaa:(Sl Gate)) (P0:Int→(Sl Int)→Bool) (iv0:Int) (zbi:(Sl Int)):Bool :=
  (cond (decide (iv0 < (zaa.len : Int)))
 (decide ((0≤iv0∧iv0 < (zaa.len:Int))) &&
 (decide (((zbi.len+1) * 8≤140737488355328∧zbi.len+1≤9223372036854775807)) &&
 (decide ((0≤iv0∧iv0 < (zaa.len:Int))) &&
 (cond (!(s49 (zaa.get iv0.toNat)))
 (zo7 P0 zaa iv0 true (⟨(zbi.len+1),(zdN zbi.len zbi.get (fun _=>(zaa.get iv0.toNat).Z))⟩:Sl Int))
 (decide ((0≤iv0∧iv0 < (zaa.len:Int))) &&
 (decide ((0≤iv0∧iv0 < (zaa.len:Int))) &&
 (zo7 P0 zaa iv0 (decide ((w64 ((zaa.get iv0.toNat).High - (zaa.get iv0.toNat).Low)) > (60:Int))) (⟨(zbi.len+1),(zdN zbi.len zbi.get (fun _=>(zaa.get iv0.toNat).Z))⟩:Sl Int))))))))
 (decide ((p45 zbi=true)) &&
 true))
def zjD (zaa:(Sl Gate)):Nat→Int→(Sl Int)→Bool:=lpO (fun _ _=>default) (zjB zaa)
def zjE (zaa:(Sl Gate)):Nat→Int→(Sl Int)→Bool:=lpO (fun _ _=>false) (zjC zaa)
def zBB (zaa:(Sl Gate)) (iv0:Int) (zbi:(Sl Int)):Bool:=zjD zaa Fuel iv0 zbi
def zBC (zaa:(Sl Gate)) (iv0:Int) (zbi:(Sl Int)):Bool:=zjE zaa Fuel iv0 zbi
theorem zJr (hs:zBC zaa iv0 zbi=true) (hk:K (e57 (zBB zaa iv0 zbi))) (zhR:zc0=zg zal zbi):z57 K [1,1,0,1,0] [] (zE9 zaa iv0 zbi zc0) :=
  zl (fun X=>z57 K [1,1,0,1,0,0] [X]) (by kernel_rfl) fun X0 hX =>
  (show ∀ k, zJp K zaa X0 (zjE zaa k) (zjD zaa k) from zfT _ _ (zjC zaa) (zjB zaa) (zJp K zaa X0)
 (by intro _ _ _ hs;exact absurd hs Bool.false_ne_true)
 (by intro P0 S0 hX0 iv0 zbi zc0 hs hk zhR;subst zhR;exact hX _ (zaI (by kernel_rfl) (zc hs hk (fun hs hk=>(zaE hs fun hc hs=>And.intro hc (zaE hs fun hc hs=>And.intro hc (zaE hs fun hc hs=>And.intro hc (zc hs hk (fun hs hk=>(zBA hX0 hs hk (zf4 (enc:=zal) (f:=zbi.get) (h:=(fun _=>(zaa.get iv0.toNat).Z)) rfl rfl))) (fun hs hk=>(zaE hs fun hc hs=>And.intro hc (zaE hs fun hc hs=>And.intro hc (zBA hX0 hs hk (zf4 (enc:=zal) (f:=zbi.get) (h:=(fun _=>(zaa.get iv0.toNat).Z)) rfl rfl)))))))))) (fun hs hk=>(zaE hs fun hc hs=>And.intro (And.intro (zE zal 1 zbi.get) hc) hk)))))) _ hs hk zhR
def s57 (zaa:(Sl Gate)):Bool :=
  (zBB zaa (0:Int) (⟨0,(fun _=>default)⟩:Sl Int))
def p57 (zaa:(Sl Gate)):Bool :=
  (zBC zaa (0:Int) (⟨0,(fun _=>default)⟩:Sl Int))
end
theorem q57 (zaa:(Sl Gate)) (K:List PA→Prop) (hs:p57 zaa=true) (hk:K (e57 (s57 zaa))):vcFun Try.prog G57 zJo 57 [.one (.sl zaa.len 3 (fun i=>enc_55 (zaa.get i)))] K :=
  zaI (by kernel_rfl) (zJr hs hk rfl)
def zDT : List PA → COut
  | [.one (.sl a0_n a0_s a0_g)]=>.det (IsE enc_55 3 a0_s a0_g∧p57 (⟨a0_n,zaf a0_g⟩:(Sl Gate))=true) [.one (.bool (s57 (⟨a0_n,zaf a0_g⟩:(Sl Gate))))]
  | _=>.no
theorem zM8:zaj Try.prog 57:=⟨_,rfl,rfl,by kernel_rfl⟩
theorem zQ1:Ok Try.prog 57 zDT:=zaP zPX zM8 fun args K h=>by
  unfold zDT at h
  split at h
  · rename_i a0_n a0_s a0_g
    obtain ⟨⟨⟨rfl,a0_f,rfl⟩,hs⟩,hk⟩:=h
    try rw [zae a0_f] at hs
    try rw [zae a0_f] at hk
    exact ⟨(fun _ _=>[]),(fun _=>false),zJo,q57 (⟨a0_n,a0_f⟩:(Sl Gate)) K hs hk⟩
  · exact h.elim
abbrev T54:Tabs:=(Tabs.nil.addF 57 zDT)
theorem zPY:TabsOk Try.prog T54:=(TabsOk.nil.addF zQ1)
abbrev G54:Ctrs:=csm T54 (fun _ _=>[]) (fun _=>false)
def zJs:Ann:=⟨39,[(0,zK [0,1] []),(1,zK [0,1,9] []),(2,zK [4] []),(3,zK [0,1,12] []),(4,zK [4] []),(5,zK [0,1,5] []),(6,zK [0,1,5,6] []),(7,zK [0,1,5,6,16] []),(8,zK [0,1,5,6] []),(9,zK [0,1,5,6] []),(10,zK [4] [])],
 [(7,zK [0,1,5,6] [])],
 [(3,zK [0,1] []),(4,zK [0,1,12] []),(5,zK [0,1] [])],
 [],[]⟩
abbrev R54:=Bool
abbrev e54 (r:R54):List PA:=[.one (.bool r)]
@[irreducible] def z54:=ptF Try.prog G54 zJs Try.f54
def zFa (zaa:(Sl Gate)) (most:Int) (nv3:Int) (iv3:Int):St:=⟨[(0,zS enc_55 3 zaa),(1,zI most),(5,zI nv3),(6,zI iv3)],[],[]⟩
abbrev zM9 (K:List PA→Prop) (zaa:(Sl Gate)) (most:Int) (X:St→Prop) (P:Int→Int→Bool) (S:Int→Int→Bool):Prop:=∀ ⦃nv3:Int⦄ ⦃iv3:Int⦄,P nv3 iv3=true→K (e54 (S nv3 iv3))→X (zFa zaa most nv3 iv3)
section
variable {K:List PA→Prop} {zaa:(Sl Gate)} {most:Int} {zdy:Bool} {nv3:Int} {iv3:Int} {X3:St→Prop} {P3:Int→Int→Bool} {S3:Int→Int→Bool}
def zjF (zaa:(Sl Gate)) (most:Int) (S3:Int→Int→Bool) (nv3:Int) (iv3:Int):Bool :=
  (cond (decide (iv3 < (zaa.len : Int)))
 (S3 (if (w64 (most+(1:Int))) < (w64 (nv3 * (w64 ((w64 ((zaa.get iv3.toNat).High - (zaa.get iv3.toNat).Low))+(1:Int))))) then (w64 (most+(1:Int))) else (w64 (nv3 * (w64 ((w64 ((zaa.get iv3.toNat).High - (zaa.get iv3.toNat).Low))+(1:Int)))))) (w64 (iv3+(1:Int))))
 (decide (nv3≤most)))
def zjG (zaa:(Sl Gate)) (most:Int) (P3:Int→Int→Bool) (nv3:Int) (iv3:Int):Bool :=
  (cond (decide (iv3 < (zaa.len : Int)))
 (decide ((0≤iv3∧iv3 < (zaa.len:Int))) &&
 (decide ((0≤iv3∧iv3 < (zaa.len:Int))) &&
 (P3 (if (w64 (most+(1:Int))) < (w64 (nv3 * (w64 ((w64 ((zaa.get iv3.toNat).High - (zaa.get iv3.toNat).Low))+(1:Int))))) then (w64 (most+(1:Int))) else (w64 (nv3 * (w64 ((w64 ((zaa.get iv3.toNat).High - (zaa.get iv3.toNat).Low))+(1:Int)))))) (w64 (iv3+(1:Int))))))
 true)
def zgu (zaa:(Sl Gate)) (most:Int):Nat→Int→Int→Bool:=lpO (fun _ _=>default) (zjF zaa most)
def zgv (zaa:(Sl Gate)) (most:Int):Nat→Int→Int→Bool:=lpO (fun _ _=>false) (zjG zaa most)
def ztj (zaa:(Sl Gate)) (most:Int) (nv3:Int) (iv3:Int):Bool:=zgu zaa most Fuel nv3 iv3
def ztk (zaa:(Sl Gate)) (most:Int) (nv3:Int) (iv3:Int):Bool:=zgv zaa most Fuel nv3 iv3
theorem zJt (hs:ztk zaa most nv3 iv3=true) (hk:K (e54 (ztj zaa most nv3 iv3))):z54 K [1,1,1,1,0,1,0] [] (zFa zaa most nv3 iv3) :=
  zl (fun X=>z54 K [1,1,1,1,0,1,0,0] [X]) (by kernel_rfl) fun X3 hX =>
  (show ∀ k, zM9 K zaa most X3 (zgv zaa most k) (zgu zaa most k) from zfT _ _ (zjG zaa most) (zjF zaa most) (zM9 K zaa most X3)
 (by intro _ _ hs;exact absurd hs Bool.false_ne_true)
 (by intro P3 S3 hX3 nv3 iv3 hs hk;exact hX _ (zaI (by kernel_rfl) (zc hs hk (fun hs hk=>(zaE hs fun hc hs=>And.intro hc (zaE hs fun hc hs=>And.intro hc (hX3 hs hk)))) (fun hs hk=>hk))))) _ hs hk
def ztl (zaa:(Sl Gate)) (most:Int):Bool :=
  (ztj zaa most (1:Int) (0:Int))
def ztm (zaa:(Sl Gate)) (most:Int):Bool :=
  (ztk zaa most (1:Int) (0:Int))
theorem zJu (hs:ztm zaa most=true) (hk:K (e54 (ztl zaa most))):z54 K [1,1,1] [] ⟨[(0,zS enc_55 3 zaa),(1,zI most)],[],[]⟩:=zaI (by kernel_rfl) (zJt hs hk)
def ztn (zaa:(Sl Gate)) (most:Int) (zdy:Bool):Bool :=
  (cond zdy
 true
 (ztl zaa most))
def zto (zaa:(Sl Gate)) (most:Int) (zdy:Bool):Bool :=
  (cond zdy
 true
 (ztm zaa most))
theorem zJv (hs:zto zaa most zdy=true) (hk:K (e54 (ztn zaa most zdy))):z54 K [1,1,0,1] [] ⟨[(0,zS enc_55 3 zaa),(1,zI most),(12,zB zdy)],[],[]⟩:=zaI (by kernel_rfl) (zc hs hk (fun hs hk=>hk) (fun hs hk=>(zJu hs hk)))
def zo8 (zaa:(Sl Gate)) (most:Int):Bool :=
  (ztn zaa most (!(s57 zaa)))
def zo9 (zaa:(Sl Gate)) (most:Int):Bool :=
  (decide ((p57 zaa=true)) &&
 (zto zaa most (!(s57 zaa))))
theorem zJw (hs:zo9 zaa most=true) (hk:K (e54 (zo8 zaa most))):z54 K [1,1] [] ⟨[(0,zS enc_55 3 zaa),(1,zI most)],[],[]⟩:=zaI (by kernel_rfl) (zaE hs fun hc hs=>And.intro (And.intro (zE enc_55 3 zaa.get) hc) (zJv hs hk))
def s54 (zaa:(Sl Gate)) (most:Int):Bool :=
  (cond (decide ((zaa.len : Int) > (20:Int)))
 false
 (zo8 zaa most))
def p54 (zaa:(Sl Gate)) (most:Int):Bool :=
  (cond (decide ((zaa.len : Int) > (20:Int)))
 true
 (zo9 zaa most))
end
theorem q54 (zaa:(Sl Gate)) (most:Int) (K:List PA→Prop) (hs:p54 zaa most=true) (hk:K (e54 (s54 zaa most))):vcFun Try.prog G54 zJs 54 [.one (.sl zaa.len 3 (fun i=>enc_55 (zaa.get i))),.one (.int .i64 most)] K :=
  zaI (by kernel_rfl) (zc hs hk (fun hs hk=>hk) (fun hs hk=>(zJw hs hk)))
def zJx : List PA → COut
  | [.one (.sl a0_n a0_s a0_g),.one (.int .i64 a1)]=>.det (IsE enc_55 3 a0_s a0_g∧p54 (⟨a0_n,zaf a0_g⟩:(Sl Gate)) a1=true) [.one (.bool (s54 (⟨a0_n,zaf a0_g⟩:(Sl Gate)) a1))]
  | _=>.no
theorem zNa:zaj Try.prog 54:=⟨_,rfl,rfl,by kernel_rfl⟩
theorem zSE:Ok Try.prog 54 zJx:=zaP zPY zNa fun args K h=>by
  unfold zJx at h
  split at h
  · rename_i a0_n a0_s a0_g a1
    obtain ⟨⟨⟨rfl,a0_f,rfl⟩,hs⟩,hk⟩:=h
    try rw [zae a0_f] at hs
    try rw [zae a0_f] at hk
    exact ⟨(fun _ _=>[]),(fun _=>false),zJs,q54 (⟨a0_n,a0_f⟩:(Sl Gate)) a1 K hs hk⟩
  · exact h.elim
abbrev T86:Tabs:=Tabs.nil
theorem zPZ:TabsOk Try.prog T86:=TabsOk.nil
abbrev G86:Ctrs:=csm T86 (fun _ _=>[]) (fun _=>false)
def zNb:Ann:=⟨47,[(0,zK [0,1,2,3,4,5] []),(1,zK [0,1,2,13] []),(2,zK [13,14] []),(3,zK [12] [])],
 [],
 [],
 [],[]⟩
abbrev R86:=Int
abbrev e86 (r:R86):List PA:=[.one (.int .i64 r)]
section
variable {K:List PA→Prop} {u:Int} {v:Int} {w:Int} {p:Int} {q:Int} {r_a5:Int}
def s86 (u:Int) (v:Int) (w:Int) (p:Int) (q:Int) (r_a5:Int):Int :=
  (w64 ((w64 ((w64 ((w64 ((1000:Int) * (if (w64 (0 - (w64 ((w64 ((w64 (r_a5 - q)) * (w64 (v - u)))) - (w64 ((w64 (q - p)) * (w64 (w - v)))))))) > (w64 ((w64 ((w64 (r_a5 - q)) * (w64 (v - u)))) - (w64 ((w64 (q - p)) * (w64 (w - v)))))) then (w64 (0 - (w64 ((w64 ((w64 (r_a5 - q)) * (w64 (v - u)))) - (w64 ((w64 (q - p)) * (w64 (w - v)))))))) else (w64 ((w64 ((w64 (r_a5 - q)) * (w64 (v - u)))) - (w64 ((w64 (q - p)) * (w64 (w - v)))))))))+(w64 ((w64 (v - u)) * (w64 (w - v)))))) - (1:Int))).tdiv (w64 ((w64 (v - u)) * (w64 (w - v))))))
def p86 (u:Int) (v:Int) (w:Int) (p:Int) (q:Int) (r_a5:Int):Bool :=
  (decide (((w64 ((w64 (v - u)) * (w64 (w - v)))) ≠ 0)) &&
 true)
end
theorem q86 (u:Int) (v:Int) (w:Int) (p:Int) (q:Int) (r_a5:Int) (K:List PA→Prop) (hs:p86 u v w p q r_a5=true) (hk:K (e86 (s86 u v w p q r_a5))):vcFun Try.prog G86 zNb 86 [.one (.int .i64 u),.one (.int .i64 v),.one (.int .i64 w),.one (.int .i64 p),.one (.int .i64 q),.one (.int .i64 r_a5)] K :=
  zaI (by kernel_rfl) (zaE hs fun hc hs=>And.intro hc hk)
def zJy : List PA → COut
  | [.one (.int .i64 a0),.one (.int .i64 a1),.one (.int .i64 a2),.one (.int .i64 a3),.one (.int .i64 a4),.one (.int .i64 a5)]=>.det (p86 a0 a1 a2 a3 a4 a5=true) [.one (.int .i64 (s86 a0 a1 a2 a3 a4 a5))]
  | _=>.no
theorem zNc:zaj Try.prog 86:=⟨_,rfl,rfl,by kernel_rfl⟩
theorem zSF:Ok Try.prog 86 zJy:=zaP zPZ zNc fun args K h=>by
  unfold zJy at h
  split at h
  · rename_i a0 a1 a2 a3 a4 a5
    obtain ⟨hs,hk⟩:=h
    exact ⟨(fun _ _=>[]),(fun _=>false),zNb,q86 a0 a1 a2 a3 a4 a5 K hs hk⟩
  · exact h.elim
abbrev T46:Tabs:=(Tabs.nil.addF 86 zJy)
theorem zP0:TabsOk Try.prog T46:=(TabsOk.nil.addF zSF)
abbrev G46:Ctrs:=csm T46 (fun _ _=>[]) (fun _=>false)
def zJz:Ann:=⟨45,[(0,zK [0,1] []),(1,zK [0,1,5] []),(2,zK [0,1,5,6] []),(3,zK [0,1,5,6,10] []),(4,zK [0,1,5,6] []),(5,zK [0,1,5,6] []),(6,zK [4] [])],
 [(3,zK [0,1,5,6] [])],
 [],
 [],[]⟩
abbrev R46:=Int
abbrev e46 (r:R46):List PA:=[.one (.int .i64 r)]
@[irreducible] def z46:=ptF Try.prog G46 zJz Try.f46
def zFb (z:(Sl Int)) (p:(Sl Int)) (kv0:Int) (iv0:Int):St:=⟨[(0,zS zal 1 z),(1,zS zal 1 p),(5,zI kv0),(6,zI iv0)],[],[]⟩
abbrev zNd (K:List PA→Prop) (z:(Sl Int)) (p:(Sl Int)) (X:St→Prop) (P:Int→Int→Bool) (S:Int→Int→Int):Prop:=∀ ⦃kv0:Int⦄ ⦃iv0:Int⦄,P kv0 iv0=true→K (e46 (S kv0 iv0))→X (zFb z p kv0 iv0)
section
variable {K:List PA→Prop} {z:(Sl Int)} {p:(Sl Int)} {kv0:Int} {iv0:Int} {X0:St→Prop} {P0:Int→Int→Bool} {S0:Int→Int→Int}
def zjH (z:(Sl Int)) (p:(Sl Int)) (S0:Int→Int→Int) (kv0:Int) (iv0:Int):Int :=
  (cond (decide (iv0 < (z.len : Int)))
 (S0 (if (s86 (z.get ((w64 (iv0 - (2:Int))).toNat)) (z.get ((w64 (iv0 - (1:Int))).toNat)) (z.get iv0.toNat) (p.get ((w64 (iv0 - (2:Int))).toNat)) (p.get ((w64 (iv0 - (1:Int))).toNat)) (p.get iv0.toNat)) > kv0 then (s86 (z.get ((w64 (iv0 - (2:Int))).toNat)) (z.get ((w64 (iv0 - (1:Int))).toNat)) (z.get iv0.toNat) (p.get ((w64 (iv0 - (2:Int))).toNat)) (p.get ((w64 (iv0 - (1:Int))).toNat)) (p.get iv0.toNat)) else kv0) (w64 (iv0+(1:Int))))
 kv0)
def zjI (z:(Sl Int)) (p:(Sl Int)) (P0:Int→Int→Bool) (kv0:Int) (iv0:Int):Bool :=
  (cond (decide (iv0 < (z.len : Int)))
 (decide ((0≤(w64 (iv0 - (2:Int)))∧(w64 (iv0 - (2:Int))) < (z.len:Int))) &&
 (decide ((0≤(w64 (iv0 - (1:Int)))∧(w64 (iv0 - (1:Int))) < (z.len:Int))) &&
 (decide ((0≤iv0∧iv0 < (z.len:Int))) &&
 (decide ((0≤(w64 (iv0 - (2:Int)))∧(w64 (iv0 - (2:Int))) < (p.len:Int))) &&
 (decide ((0≤(w64 (iv0 - (1:Int)))∧(w64 (iv0 - (1:Int))) < (p.len:Int))) &&
 (decide ((0≤iv0∧iv0 < (p.len:Int))) &&
 (decide ((p86 (z.get ((w64 (iv0 - (2:Int))).toNat)) (z.get ((w64 (iv0 - (1:Int))).toNat)) (z.get iv0.toNat) (p.get ((w64 (iv0 - (2:Int))).toNat)) (p.get ((w64 (iv0 - (1:Int))).toNat)) (p.get iv0.toNat)=true)) &&
 (P0 (if (s86 (z.get ((w64 (iv0 - (2:Int))).toNat)) (z.get ((w64 (iv0 - (1:Int))).toNat)) (z.get iv0.toNat) (p.get ((w64 (iv0 - (2:Int))).toNat)) (p.get ((w64 (iv0 - (1:Int))).toNat)) (p.get iv0.toNat)) > kv0 then (s86 (z.get ((w64 (iv0 - (2:Int))).toNat)) (z.get ((w64 (iv0 - (1:Int))).toNat)) (z.get iv0.toNat) (p.get ((w64 (iv0 - (2:Int))).toNat)) (p.get ((w64 (iv0 - (1:Int))).toNat)) (p.get iv0.toNat)) else kv0) (w64 (iv0+(1:Int)))))))))))
 true)
def zjJ (z:(Sl Int)) (p:(Sl Int)):Nat→Int→Int→Int:=lpO (fun _ _=>default) (zjH z p)
def zjK (z:(Sl Int)) (p:(Sl Int)):Nat→Int→Int→Bool:=lpO (fun _ _=>false) (zjI z p)
def zBD (z:(Sl Int)) (p:(Sl Int)) (kv0:Int) (iv0:Int):Int:=zjJ z p Fuel kv0 iv0
def zBE (z:(Sl Int)) (p:(Sl Int)) (kv0:Int) (iv0:Int):Bool:=zjK z p Fuel kv0 iv0
theorem zJA (hs:zBE z p kv0 iv0=true) (hk:K (e46 (zBD z p kv0 iv0))):z46 K [1,1,0,1,0] [] (zFb z p kv0 iv0) :=
  zl (fun X=>z46 K [1,1,0,1,0,0] [X]) (by kernel_rfl) fun X0 hX =>
  (show ∀ k, zNd K z p X0 (zjK z p k) (zjJ z p k) from zfT _ _ (zjI z p) (zjH z p) (zNd K z p X0)
 (by intro _ _ hs;exact absurd hs Bool.false_ne_true)
 (by intro P0 S0 hX0 kv0 iv0 hs hk;exact hX _ (zaI (by kernel_rfl) (zc hs hk (fun hs hk=>(zaE hs fun hc hs=>And.intro hc (zaE hs fun hc hs=>And.intro hc (zaE hs fun hc hs=>And.intro hc (zaE hs fun hc hs=>And.intro hc (zaE hs fun hc hs=>And.intro hc (zaE hs fun hc hs=>And.intro hc (zaE hs fun hc hs=>And.intro hc (hX0 hs hk))))))))) (fun hs hk=>hk))))) _ hs hk
def s46 (z:(Sl Int)) (p:(Sl Int)):Int :=
  (zBD z p (0:Int) (2:Int))
def p46 (z:(Sl Int)) (p:(Sl Int)):Bool :=
  (zBE z p (0:Int) (2:Int))
end
theorem q46 (z:(Sl Int)) (p:(Sl Int)) (K:List PA→Prop) (hs:p46 z p=true) (hk:K (e46 (s46 z p))):vcFun Try.prog G46 zJz 46 [.one (.sl z.len 1 (fun i=>zal (z.get i))),.one (.sl p.len 1 (fun i=>zal (p.get i)))] K :=
  zaI (by kernel_rfl) (zJA hs hk)
def zDU : List PA → COut
  | [.one (.sl a0_n a0_s a0_g),.one (.sl a1_n a1_s a1_g)]=>.det (IsE zal 1 a0_s a0_g∧IsE zal 1 a1_s a1_g∧p46 (⟨a0_n,zbb a0_g⟩:(Sl Int)) (⟨a1_n,zbb a1_g⟩:(Sl Int))=true) [.one (.int .i64 (s46 (⟨a0_n,zbb a0_g⟩:(Sl Int)) (⟨a1_n,zbb a1_g⟩:(Sl Int))))]
  | _=>.no
theorem zNe:zaj Try.prog 46:=⟨_,rfl,rfl,by kernel_rfl⟩
theorem zQ2:Ok Try.prog 46 zDU:=zaP zP0 zNe fun args K h=>by
  unfold zDU at h
  split at h
  · rename_i a0_n a0_s a0_g a1_n a1_s a1_g
    obtain ⟨⟨⟨rfl,a0_f,rfl⟩,⟨rfl,a1_f,rfl⟩,hs⟩,hk⟩:=h
    try rw [zbG a0_f] at hs
    try rw [zbG a0_f] at hk
    try rw [zbG a1_f] at hs
    try rw [zbG a1_f] at hk
    exact ⟨(fun _ _=>[]),(fun _=>false),zJz,q46 (⟨a0_n,a0_f⟩:(Sl Int)) (⟨a1_n,a1_f⟩:(Sl Int)) K hs hk⟩
  · exact h.elim
abbrev T61:Tabs:=Tabs.nil
theorem zP1:TabsOk Try.prog T61:=TabsOk.nil
abbrev G61:Ctrs:=csm T61 (fun _ _=>[]) (fun _=>false)
def zJB:Ann:=⟨20,[(0,zK [0] []),(1,zK [0,3] []),(2,zK [0,3,4] []),(3,zK [0,3,4,8] [18]),(4,zK [0,3,4] [18]),(5,zK [0,3,4] [18]),(6,zK [2] [18])],
 [(3,⟨[0,3,4],[18],[(3,18,3,fun _=>zal default)],[],[],[],[]⟩)],
 [],
 [],[]⟩
abbrev R61:=(Sl Int)
abbrev e61 (r:R61):List PA:=[.one (.sl r.len 1 (fun i=>zal (r.get i)))]
@[irreducible] def z61:=ptF Try.prog G61 zJB Try.f61
def zFc (zaa:(Sl Gate)) (iv0:Int) (zbi:(Sl Int)) (zc0:Nat→List PV):St:=⟨[(0,zS enc_55 3 zaa),(3,zv 18),(4,zI iv0)],[(18,.vec 3 1 8 zbi.len zc0)],[]⟩
abbrev zNf (K:List PA→Prop) (zaa:(Sl Gate)) (X:St→Prop) (P:Int→(Sl Int)→Bool) (S:Int→(Sl Int)→(Sl Int)):Prop:=∀ ⦃iv0:Int⦄ ⦃zbi:(Sl Int)⦄ ⦃zc0:Nat→List PV⦄,P iv0 zbi=true→K (e61 (S iv0 zbi))→zc0=zg zal zbi→X (zFc zaa iv0 zbi zc0)
section
variable {K:List PA→Prop} {zaa:(Sl Gate)} {iv0:Int} {zbi:(Sl Int)} {zc0:Nat→List PV} {X0:St→Prop} {P0:Int→(Sl Int)→Bool} {S0:Int→(Sl Int)→(Sl Int)}
def zjL (zaa:(Sl Gate)) (S0:Int→(Sl Int)→(Sl Int)) (iv0:Int) (zbi:(Sl Int)):(Sl Int) :=
  (cond (decide (iv0 < (zaa.len : Int)))
 (S0 (w64 (iv0+(1:Int))) (⟨(zbi.len+1),(zdN zbi.len zbi.get (fun _=>(zaa.get iv0.toNat).Z))⟩:Sl Int))
 zbi)
def zjM (zaa:(Sl Gate)) (P0:Int→(Sl Int)→Bool) (iv0:Int) (zbi:(Sl Int)):Bool :=
  (cond (decide (iv0 < (zaa.len : Int)))
 (decide ((0≤iv0∧iv0 < (zaa.len:Int))) &&
 (decide (((zbi.len+1) * 8≤140737488355328∧zbi.len+1≤9223372036854775807)) &&
 (P0 (w64 (iv0+(1:Int))) (⟨(zbi.len+1),(zdN zbi.len zbi.get (fun _=>(zaa.get iv0.toNat).Z))⟩:Sl Int))))
 true)
def zmf (zaa:(Sl Gate)):Nat→Int→(Sl Int)→(Sl Int):=lpO (fun _ _=>default) (zjL zaa)
def zmg (zaa:(Sl Gate)):Nat→Int→(Sl Int)→Bool:=lpO (fun _ _=>false) (zjM zaa)
def zBF (zaa:(Sl Gate)) (iv0:Int) (zbi:(Sl Int)):(Sl Int):=zmf zaa Fuel iv0 zbi
def zBG (zaa:(Sl Gate)) (iv0:Int) (zbi:(Sl Int)):Bool:=zmg zaa Fuel iv0 zbi
theorem zJC (hs:zBG zaa iv0 zbi=true) (hk:K (e61 (zBF zaa iv0 zbi))) (zhR:zc0=zg zal zbi):z61 K [1,1,0,1,0] [] (zFc zaa iv0 zbi zc0) :=
  zl (fun X=>z61 K [1,1,0,1,0,0] [X]) (by kernel_rfl) fun X0 hX =>
  (show ∀ k, zNf K zaa X0 (zmg zaa k) (zmf zaa k) from zfT _ _ (zjM zaa) (zjL zaa) (zNf K zaa X0)
 (by intro _ _ _ hs;exact absurd hs Bool.false_ne_true)
 (by intro P0 S0 hX0 iv0 zbi zc0 hs hk zhR;subst zhR;exact hX _ (zaI (by kernel_rfl) (zc hs hk (fun hs hk=>(zaE hs fun hc hs=>And.intro hc (zaE hs fun hc hs=>And.intro hc (hX0 hs hk (zf4 (enc:=zal) (f:=zbi.get) (h:=(fun _=>(zaa.get iv0.toNat).Z)) rfl rfl))))) (fun hs hk=>hk))))) _ hs hk zhR
def s61 (zaa:(Sl Gate)):(Sl Int) :=
  (zBF zaa (0:Int) (⟨0,(fun _=>default)⟩:Sl Int))
def p61 (zaa:(Sl Gate)):Bool :=
  (zBG zaa (0:Int) (⟨0,(fun _=>default)⟩:Sl Int))
end
theorem q61 (zaa:(Sl Gate)) (K:List PA→Prop) (hs:p61 zaa=true) (hk:K (e61 (s61 zaa))):vcFun Try.prog G61 zJB 61 [.one (.sl zaa.len 3 (fun i=>enc_55 (zaa.get i)))] K :=
  zaI (by kernel_rfl) (zJC hs hk rfl)
def zDV : List PA → COut
  | [.one (.sl a0_n a0_s a0_g)]=>.det (IsE enc_55 3 a0_s a0_g∧p61 (⟨a0_n,zaf a0_g⟩:(Sl Gate))=true) [.one (.sl ((s61 (⟨a0_n,zaf a0_g⟩:(Sl Gate))).len) 1 (fun i=>zal ((s61 (⟨a0_n,zaf a0_g⟩:(Sl Gate))).get i)))]
  | _=>.no
theorem zNg:zaj Try.prog 61:=⟨_,rfl,rfl,by kernel_rfl⟩
theorem zQ3:Ok Try.prog 61 zDV:=zaP zP1 zNg fun args K h=>by
  unfold zDV at h
  split at h
  · rename_i a0_n a0_s a0_g
    obtain ⟨⟨⟨rfl,a0_f,rfl⟩,hs⟩,hk⟩:=h
    try rw [zae a0_f] at hs
    try rw [zae a0_f] at hk
    exact ⟨(fun _ _=>[]),(fun _=>false),zJB,q61 (⟨a0_n,a0_f⟩:(Sl Gate)) K hs hk⟩
  · exact h.elim
end Go.Proofs
