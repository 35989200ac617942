/- Part 5 of what the proof rests on: a machine that runs functions of the program on pure values, proved sound; the functions that the law reaches, and what they compute. -/
import Derived.Test.YtkpjhhoafenogaaQ4
set_option linter.all false
namespace Go.Proofs
open Go Go.Pm
set_option maxRecDepth 100000
set_option linter.unusedVariables false
attribute [local irreducible] Go.Pm.vcFun Go.Pm.vc Go.Pm.vcIter
abbrev T19:Tabs:=((((((Tabs.nil.addF 64 zvm).addF 65 zxt).addF 66 zxA).addF 67 zrS).addF 68 zCl).addF 69 zvr)
theorem zNm:TabsOk Try.prog T19:=((((((TabsOk.nil.addF zLY).addF zM3).addF zM6).addF zJU).addF zOy).addF zL4)
abbrev G19:Ctrs:=csm T19 (fun _ _=>[]) (fun _=>false)
def zF1:Ann:=⟨124,[(0,zK [0,1,2,3,9,10] [9,10]),(1,zK [0,1,2,3,9,10,12] [9,10,12]),(2,zK [0,1,2,3,9,10,12,44] [9,10,12]),(3,zK [8,9,10,11] [9,10]),(4,zK [2,3,9,10,12,13,14] [9,10,12,13,14]),(5,zK [2,3,9,10,12,13,14,58] [9,10,12,13,14]),(6,zK [8,9,10,11] [9,10]),(7,zK [2,3,9,10,12,13,14,68] [9,10,12,13,14]),(8,zK [8,9,10,11] [9,10]),(9,zK [2,3,9,10,12,13,14,15,16] [9,10,12,13,14,15,16]),(10,zK [2,3,9,10,12,13,14,15,16,17] [9,10,12,13,14,15,16]),(11,zK [2,3,9,10,12,13,14,15,16,17,76,77] [9,10,12,13,14,15,16]),(12,zK [2,3,9,10,12,13,14,15,16,17,76,77,78] [9,10,12,13,14,15,16]),(13,zK [2,3,9,10,12,13,14,15,16,17,18,76,77] [9,10,12,13,14,15,16]),(14,zK [2,3,9,10,12,13,14,15,16,17,18,19,20,76,77] [9,10,12,13,14,15,16,19,20]),(15,zK [2,3,9,10,12,13,14,15,16,17,18,19,20,21,22,76,77] [9,10,12,13,14,15,16,19,20,21,22]),(16,zK [2,3,9,10,12,13,14,15,16,17,18,19,20,21,22,76,77] [9,10,12,13,14,15,16,19,20,21,22]),(17,zK [2,3,9,10,12,13,14,15,16,17,18,20,21,22,76,77,101] [9,10,12,13,14,15,16,20,21,22]),(18,zK [2,3,9,10,12,13,14,15,16,17,18,20,22,76,77] [9,10,12,13,14,15,16,20,22]),(19,zK [2,3,9,10,12,13,14,15,16,17,18,22,76,77,106] [9,10,12,13,14,15,16,22]),(20,zK [2,3,9,10,12,13,14,15,16,17,18,76,77] [9,10,12,13,14,15,16]),(21,zK [2,3,9,10,12,13,14,15,16,17,18,76,77,111] [9,10,12,13,14,15,16]),(22,zK [3,9,10,12,15,16,17] [9,10,12,15,16]),(23,zK [2,3,9,10,12,13,14,15,16,17,76,77] [9,10,12,13,14,15,16]),(24,zK [9,10,12,15,16,17,118] [9,10,12,15,16]),(25,zK [8,9,10,11] [9,10]),(26,zK [8,9,10,11] [9,10])],
 [(12,zK [2,3,9,10,12,13,14,15,16,17,76,77] [9,10,12,13,14,15,16])],
 [(3,zK [0,1,2,3,9,10,12,44] [9,10,12]),(4,zK [0,1,2,3,9,10,12] [9,10,12]),(5,zK [2,3,9,10,12,13,14] [9,10,12,13,14]),(6,zK [2,3,9,10,12,13,14,58] [9,10,12,13,14]),(7,zK [2,3,9,10,12,13,14] [9,10,12,13,14]),(8,zK [2,3,9,10,12,13,14,68] [9,10,12,13,14]),(9,zK [2,3,9,10,12,13,14] [9,10,12,13,14]),(15,zK [2,3,9,10,12,13,14,15,16,17,18,19,20,76,77] [9,10,12,13,14,15,16,19,20]),(24,zK [3,9,10,12,15,16,17] [9,10,12,15,16]),(16,zK [2,3,9,10,12,13,14,15,16,17,18,19,20,21,22,76,77] [9,10,12,13,14,15,16,19,20,21,22]),(18,zK [2,3,9,10,12,13,14,15,16,17,18,20,21,22,76,77,101] [9,10,12,13,14,15,16,20,21,22]),(19,zK [2,3,9,10,12,13,14,15,16,17,18,20,22,76,77] [9,10,12,13,14,15,16,20,22]),(20,zK [2,3,9,10,12,13,14,15,16,17,18,22,76,77,106] [9,10,12,13,14,15,16,22]),(22,zK [2,3,9,10,12,13,14,15,16,17,18,76,77,111] [9,10,12,13,14,15,16])],
 [],[]⟩
abbrev R19:=(Int×Frac×Frac×Int)
abbrev e19 (r:R19):List PA:=[.one (.int .i64 r.1),.agg [.int .i64 r.2.1.Num,.int .i64 r.2.1.Den],.agg [.int .i64 r.2.2.1.Num,.int .i64 r.2.2.1.Den],.one (.int .i64 r.2.2.2)]
@[irreducible] def z19:=ptF Try.prog G19 zF1 Try.f19
def zDx (low:Int) (high:Int) (zav:(Sl Gate)) (zaB:(Sl straight)) (zaw:(Sl Gate)) (zaC:(Sl straight)) (zdg:Int) (zb3:Int) (zb4:Int) (zdt:Int) (zdu:Int):St:=⟨[(2,zI low),(3,zI high),(9,zp 9 0),(10,zp 10 0),(12,zp 12 0),(13,zp 13 0),(14,zp 14 0),(15,zp 15 0),(16,zp 16 0),(17,zI (w64 (high+(1:Int)))),(76,zI (w64 ((w64 (high - low))+(1:Int)))),(77,zI zdg)],[(9,.box 25 (zm (zai (⟨(0:Int),(0:Int)⟩:Frac)))),(10,.box 25 (zm (zai (⟨(0:Int),(0:Int)⟩:Frac)))),(12,.box 25 (zm (zai (⟨(0:Int),(0:Int)⟩:Frac)))),(13,.box 104 (zm (zbg (⟨(⟨zav⟩:list),zaB⟩:set)))),(14,.box 104 (zm (zbg (⟨(⟨zaw⟩:list),zaC⟩:set)))),(15,.box 25 (zm (zai (⟨zb3,zb4⟩:Frac)))),(16,.box 25 (zm (zai (⟨zdt,zdu⟩:Frac))))],[]⟩
abbrev zp7 (K:List PA→Prop) (low:Int) (high:Int) (zav:(Sl Gate)) (zaB:(Sl straight)) (zaw:(Sl Gate)) (zaC:(Sl straight)) (X:St→Prop) (P:Int→Int→Int→Int→Int→Bool) (S:Int→Int→Int→Int→Int→(Int×Frac×Frac×Int)):Prop:=∀ ⦃zdg:Int⦄ ⦃zb3:Int⦄ ⦃zb4:Int⦄ ⦃zdt:Int⦄ ⦃zdu:Int⦄,P zdg zb3 zb4 zdt zdu=true→K (e19 (S zdg zb3 zb4 zdt zdu))→X (zDx low high zav zaB zaw zaC zdg zb3 zb4 zdt zdu)
section
variable {K:List PA→Prop} {a:(Sl Gate)} {b:(Sl Gate)} {low:Int} {high:Int} {zr9:Bool} {zav:(Sl Gate)} {zaB:(Sl straight)} {zaw:(Sl Gate)} {zaC:(Sl straight)} {zx2:Nat→List PV} {zx3:Nat→List PV} {zx4:Nat→List PV} {zx5:Nat→List PV} {zsa:Bool} {zsb:Bool} {zdg:Int} {zb3:Int} {zb4:Int} {zdt:Int} {zdu:Int} {X7:St→Prop} {P7:Int→Int→Int→Int→Int→Bool} {S7:Int→Int→Int→Int→Int→(Int×Frac×Frac×Int)} {iv8:Int} {zsc:Int} {zfr:Int} {zfs:Int} {zln:Int} {zlo:Int} {zev:Int} {zew:Int} {zcc:Int} {zcd:Int} {zKt:Int} {zj0:Int} {zj1:Int} {zuk:Int} {zul:Int} {zdQ:Int} {zlp:Int} {zgc:Int} {zgd:Int} {zlq:Int} {zlr:Int} {zd3:Int} {zd4:Int} {zbS:Int} {zbT:Int} {zcx:Int} {zie:Int} {zhv:Bool} {zbN:Int} {zls:Int} {zaO:Int} {zaP:Int} {zhG:Int} {zif:Int} {zhw:Bool} {zIJ:Int} {zlt:Int} {zhx:Bool} {zge:Int} {zgf:Int}
def zsd (high:Int) (zKt:Int) (zj0:Int) (zj1:Int) (zuk:Int) (zul:Int):(Int×Frac×Frac×Int) :=
  (cond (decide (zKt > high))
 ((0:Int),(⟨(0:Int),(0:Int)⟩:Frac),(⟨(0:Int),(0:Int)⟩:Frac),(5:Int))
 (zKt,(⟨zj0,zj1⟩:Frac),(⟨zuk,zul⟩:Frac),(0:Int)))
theorem zx6 (hk:K (e19 (zsd high zKt zj0 zj1 zuk zul))):z19 K [1,0,1,1,1,1,1,1,1,1,1] [] ⟨[(3,zI high),(9,zp 9 0),(10,zp 10 0),(12,zp 12 0),(15,zp 15 0),(16,zp 16 0),(17,zI zKt)],[(9,.box 25 (zm (zai (⟨(0:Int),(0:Int)⟩:Frac)))),(10,.box 25 (zm (zai (⟨(0:Int),(0:Int)⟩:Frac)))),(12,.box 25 (zm (zai (⟨(0:Int),(0:Int)⟩:Frac)))),(15,.box 25 (zm (zai (⟨zj0,zj1⟩:Frac)))),(16,.box 25 (zm (zai (⟨zuk,zul⟩:Frac))))],[]⟩:=zaI (by kernel_rfl) (zt hk (fun hk=>hk) (fun hk=>hk))
def znR (S7:Int→Int→Int→Int→Int→(Int×Frac×Frac×Int)) (low:Int) (high:Int) (zav:(Sl Gate)) (zaB:(Sl straight)) (zaw:(Sl Gate)) (zaC:(Sl straight)) (zaO:Int) (zaP:Int) (zIJ:Int) (zlt:Int) (zhx:Bool) (zge:Int) (zgf:Int):(Int×Frac×Frac×Int) :=
  (cond zhx
 (zsd high (w64 (low+zIJ)) zaO zaP zge zgf)
 (S7 (w64 (zlt+(1:Int))) zaO zaP zge zgf))
def znS (P7:Int→Int→Int→Int→Int→Bool) (low:Int) (high:Int) (zav:(Sl Gate)) (zaB:(Sl straight)) (zaw:(Sl Gate)) (zaC:(Sl straight)) (zaO:Int) (zaP:Int) (zIJ:Int) (zlt:Int) (zhx:Bool) (zge:Int) (zgf:Int):Bool :=
  (cond zhx
 true
 (P7 (w64 (zlt+(1:Int))) zaO zaP zge zgf))
theorem zum (hX7:zp7 K low high zav zaB zaw zaC X7 P7 S7) (hs:znS P7 low high zav zaB zaw zaC zaO zaP zIJ zlt zhx zge zgf=true) (hk:K (e19 (znR S7 low high zav zaB zaw zaC zaO zaP zIJ zlt zhx zge zgf))):z19 K [1,0,1,1,1,1,1,1,1,1,0,1,0,0,1,1,0,0,1,1,1,1,1,1,1] [X7] ⟨[(2,zI low),(3,zI high),(9,zp 9 0),(10,zp 10 0),(12,zp 12 0),(13,zp 13 0),(14,zp 14 0),(15,zp 15 0),(16,zp 16 0),(17,zI (w64 (high+(1:Int)))),(18,zI zIJ),(76,zI (w64 ((w64 (high - low))+(1:Int)))),(77,zI zlt),(111,zB zhx)],[(9,.box 25 (zm (zai (⟨(0:Int),(0:Int)⟩:Frac)))),(10,.box 25 (zm (zai (⟨(0:Int),(0:Int)⟩:Frac)))),(12,.box 25 (zm (zai (⟨(0:Int),(0:Int)⟩:Frac)))),(13,.box 104 (zm (zbg (⟨(⟨zav⟩:list),zaB⟩:set)))),(14,.box 104 (zm (zbg (⟨(⟨zaw⟩:list),zaC⟩:set)))),(15,.box 25 (zm (zai (⟨zaO,zaP⟩:Frac)))),(16,.box 25 (zm (zai (⟨zge,zgf⟩:Frac))))],[]⟩:=zaI (by kernel_rfl) (zc hs hk (fun hs hk=>(zx6 hk)) (fun hs hk=>(hX7 hs hk)))
def zun (S7:Int→Int→Int→Int→Int→(Int×Frac×Frac×Int)) (low:Int) (high:Int) (zav:(Sl Gate)) (zaB:(Sl straight)) (zaw:(Sl Gate)) (zaC:(Sl straight)) (zcc:Int) (zcd:Int) (zbS:Int) (zbT:Int) (zaO:Int) (zaP:Int) (zhG:Int) (zif:Int) (zhw:Bool):(Int×Frac×Frac×Int) :=
  (cond zhw
 (znR S7 low high zav zaB zaw zaC zaO zaP zhG zif (decide ((s69 (⟨zaO,zaP⟩:Frac) (⟨zbS,zbT⟩:Frac))≤(0:Int))) zbS zbT)
 (znR S7 low high zav zaB zaw zaC zaO zaP zhG zif (decide ((s69 (⟨zaO,zaP⟩:Frac) (⟨zcc,zcd⟩:Frac))≤(0:Int))) zcc zcd))
def zuo (P7:Int→Int→Int→Int→Int→Bool) (low:Int) (high:Int) (zav:(Sl Gate)) (zaB:(Sl straight)) (zaw:(Sl Gate)) (zaC:(Sl straight)) (zcc:Int) (zcd:Int) (zbS:Int) (zbT:Int) (zaO:Int) (zaP:Int) (zhG:Int) (zif:Int) (zhw:Bool):Bool :=
  (cond zhw
 (znS P7 low high zav zaB zaw zaC zaO zaP zhG zif (decide ((s69 (⟨zaO,zaP⟩:Frac) (⟨zbS,zbT⟩:Frac))≤(0:Int))) zbS zbT)
 (znS P7 low high zav zaB zaw zaC zaO zaP zhG zif (decide ((s69 (⟨zaO,zaP⟩:Frac) (⟨zcc,zcd⟩:Frac))≤(0:Int))) zcc zcd))
theorem zCm (hX7:zp7 K low high zav zaB zaw zaC X7 P7 S7) (hs:zuo P7 low high zav zaB zaw zaC zcc zcd zbS zbT zaO zaP zhG zif zhw=true) (hk:K (e19 (zun S7 low high zav zaB zaw zaC zcc zcd zbS zbT zaO zaP zhG zif zhw))):z19 K [1,0,1,1,1,1,1,1,1,1,0,1,0,0,1,1,0,0,1,1,1,1,1,0,1] [X7] ⟨[(2,zI low),(3,zI high),(9,zp 9 0),(10,zp 10 0),(12,zp 12 0),(13,zp 13 0),(14,zp 14 0),(15,zp 15 0),(16,zp 16 0),(17,zI (w64 (high+(1:Int)))),(18,zI zhG),(22,zp 22 0),(76,zI (w64 ((w64 (high - low))+(1:Int)))),(77,zI zif),(106,zB zhw)],[(9,.box 25 (zm (zai (⟨(0:Int),(0:Int)⟩:Frac)))),(10,.box 25 (zm (zai (⟨(0:Int),(0:Int)⟩:Frac)))),(12,.box 25 (zm (zai (⟨(0:Int),(0:Int)⟩:Frac)))),(13,.box 104 (zm (zbg (⟨(⟨zav⟩:list),zaB⟩:set)))),(14,.box 104 (zm (zbg (⟨(⟨zaw⟩:list),zaC⟩:set)))),(15,.box 25 (zm (zai (⟨zaO,zaP⟩:Frac)))),(16,.box 25 (zm (zai (⟨zcc,zcd⟩:Frac)))),(22,.box 25 (zm (zai (⟨zbS,zbT⟩:Frac))))],[]⟩:=zaI (by kernel_rfl) (zc hs hk (fun hs hk=>(zum hX7 hs hk)) (fun hs hk=>(zum hX7 hs hk)))
def znT (S7:Int→Int→Int→Int→Int→(Int×Frac×Frac×Int)) (low:Int) (high:Int) (zav:(Sl Gate)) (zaB:(Sl straight)) (zaw:(Sl Gate)) (zaC:(Sl straight)) (zcc:Int) (zcd:Int) (zbS:Int) (zbT:Int) (zbN:Int) (zls:Int) (zaO:Int) (zaP:Int):(Int×Frac×Frac×Int) :=
  (zun S7 low high zav zaB zaw zaC zcc zcd zbS zbT zaO zaP zbN zls (decide ((s69 (⟨zbS,zbT⟩:Frac) (⟨zcc,zcd⟩:Frac)) < (0:Int))))
def znU (P7:Int→Int→Int→Int→Int→Bool) (low:Int) (high:Int) (zav:(Sl Gate)) (zaB:(Sl straight)) (zaw:(Sl Gate)) (zaC:(Sl straight)) (zcc:Int) (zcd:Int) (zbS:Int) (zbT:Int) (zbN:Int) (zls:Int) (zaO:Int) (zaP:Int):Bool :=
  (zuo P7 low high zav zaB zaw zaC zcc zcd zbS zbT zaO zaP zbN zls (decide ((s69 (⟨zbS,zbT⟩:Frac) (⟨zcc,zcd⟩:Frac)) < (0:Int))))
theorem zup (hX7:zp7 K low high zav zaB zaw zaC X7 P7 S7) (hs:znU P7 low high zav zaB zaw zaC zcc zcd zbS zbT zbN zls zaO zaP=true) (hk:K (e19 (znT S7 low high zav zaB zaw zaC zcc zcd zbS zbT zbN zls zaO zaP))):z19 K [1,0,1,1,1,1,1,1,1,1,0,1,0,0,1,1,0,0,1,1,1,1,1] [X7] ⟨[(2,zI low),(3,zI high),(9,zp 9 0),(10,zp 10 0),(12,zp 12 0),(13,zp 13 0),(14,zp 14 0),(15,zp 15 0),(16,zp 16 0),(17,zI (w64 (high+(1:Int)))),(18,zI zbN),(20,zp 20 0),(22,zp 22 0),(76,zI (w64 ((w64 (high - low))+(1:Int)))),(77,zI zls)],[(9,.box 25 (zm (zai (⟨(0:Int),(0:Int)⟩:Frac)))),(10,.box 25 (zm (zai (⟨(0:Int),(0:Int)⟩:Frac)))),(12,.box 25 (zm (zai (⟨(0:Int),(0:Int)⟩:Frac)))),(13,.box 104 (zm (zbg (⟨(⟨zav⟩:list),zaB⟩:set)))),(14,.box 104 (zm (zbg (⟨(⟨zaw⟩:list),zaC⟩:set)))),(15,.box 25 (zm (zai (⟨zaO,zaP⟩:Frac)))),(16,.box 25 (zm (zai (⟨zcc,zcd⟩:Frac)))),(20,.box 25 (zm (zai (⟨zcc,zcd⟩:Frac)))),(22,.box 25 (zm (zai (⟨zbS,zbT⟩:Frac))))],[]⟩:=zaI (by kernel_rfl) (zCm hX7 hs hk)
def zuq (S7:Int→Int→Int→Int→Int→(Int×Frac×Frac×Int)) (low:Int) (high:Int) (zav:(Sl Gate)) (zaB:(Sl straight)) (zaw:(Sl Gate)) (zaC:(Sl straight)) (zev:Int) (zew:Int) (zcc:Int) (zcd:Int) (zd3:Int) (zd4:Int) (zbS:Int) (zbT:Int) (zcx:Int) (zie:Int) (zhv:Bool):(Int×Frac×Frac×Int) :=
  (cond zhv
 (znT S7 low high zav zaB zaw zaC zcc zcd zbS zbT zcx zie zd3 zd4)
 (znT S7 low high zav zaB zaw zaC zcc zcd zbS zbT zcx zie zev zew))
def zur (P7:Int→Int→Int→Int→Int→Bool) (low:Int) (high:Int) (zav:(Sl Gate)) (zaB:(Sl straight)) (zaw:(Sl Gate)) (zaC:(Sl straight)) (zev:Int) (zew:Int) (zcc:Int) (zcd:Int) (zd3:Int) (zd4:Int) (zbS:Int) (zbT:Int) (zcx:Int) (zie:Int) (zhv:Bool):Bool :=
  (cond zhv
 (znU P7 low high zav zaB zaw zaC zcc zcd zbS zbT zcx zie zd3 zd4)
 (znU P7 low high zav zaB zaw zaC zcc zcd zbS zbT zcx zie zev zew))
theorem zCn (hX7:zp7 K low high zav zaB zaw zaC X7 P7 S7) (hs:zur P7 low high zav zaB zaw zaC zev zew zcc zcd zd3 zd4 zbS zbT zcx zie zhv=true) (hk:K (e19 (zuq S7 low high zav zaB zaw zaC zev zew zcc zcd zd3 zd4 zbS zbT zcx zie zhv))):z19 K [1,0,1,1,1,1,1,1,1,1,0,1,0,0,1,1,0,0,1,1,1,1,0,1] [X7] ⟨[(2,zI low),(3,zI high),(9,zp 9 0),(10,zp 10 0),(12,zp 12 0),(13,zp 13 0),(14,zp 14 0),(15,zp 15 0),(16,zp 16 0),(17,zI (w64 (high+(1:Int)))),(18,zI zcx),(20,zp 20 0),(21,zp 21 0),(22,zp 22 0),(76,zI (w64 ((w64 (high - low))+(1:Int)))),(77,zI zie),(101,zB zhv)],[(9,.box 25 (zm (zai (⟨(0:Int),(0:Int)⟩:Frac)))),(10,.box 25 (zm (zai (⟨(0:Int),(0:Int)⟩:Frac)))),(12,.box 25 (zm (zai (⟨(0:Int),(0:Int)⟩:Frac)))),(13,.box 104 (zm (zbg (⟨(⟨zav⟩:list),zaB⟩:set)))),(14,.box 104 (zm (zbg (⟨(⟨zaw⟩:list),zaC⟩:set)))),(15,.box 25 (zm (zai (⟨zev,zew⟩:Frac)))),(16,.box 25 (zm (zai (⟨zcc,zcd⟩:Frac)))),(20,.box 25 (zm (zai (⟨zcc,zcd⟩:Frac)))),(21,.box 25 (zm (zai (⟨zd3,zd4⟩:Frac)))),(22,.box 25 (zm (zai (⟨zbS,zbT⟩:Frac))))],[]⟩:=zaI (by kernel_rfl) (zc hs hk (fun hs hk=>(zup hX7 hs hk)) (fun hs hk=>(zup hX7 hs hk)))
def zus (S7:Int→Int→Int→Int→Int→(Int×Frac×Frac×Int)) (low:Int) (high:Int) (zav:(Sl Gate)) (zaB:(Sl straight)) (zaw:(Sl Gate)) (zaC:(Sl straight)) (zev:Int) (zew:Int) (zcc:Int) (zcd:Int) (zdQ:Int) (zlp:Int) (zgc:Int) (zgd:Int) (zlq:Int) (zlr:Int) (zd3:Int) (zd4:Int) (zbS:Int) (zbT:Int):(Int×Frac×Frac×Int) :=
  (zuq S7 low high zav zaB zaw zaC zev zew zcc zcd zd3 zd4 zbS zbT zdQ zlp (decide ((s69 (⟨zd3,zd4⟩:Frac) (⟨zev,zew⟩:Frac)) > (0:Int))))
def zut (P7:Int→Int→Int→Int→Int→Bool) (low:Int) (high:Int) (zav:(Sl Gate)) (zaB:(Sl straight)) (zaw:(Sl Gate)) (zaC:(Sl straight)) (zev:Int) (zew:Int) (zcc:Int) (zcd:Int) (zdQ:Int) (zlp:Int) (zgc:Int) (zgd:Int) (zlq:Int) (zlr:Int) (zd3:Int) (zd4:Int) (zbS:Int) (zbT:Int):Bool :=
  (zur P7 low high zav zaB zaw zaC zev zew zcc zcd zd3 zd4 zbS zbT zdQ zlp (decide ((s69 (⟨zd3,zd4⟩:Frac) (⟨zev,zew⟩:Frac)) > (0:Int))))
theorem zCo (hX7:zp7 K low high zav zaB zaw zaC X7 P7 S7) (hs:zut P7 low high zav zaB zaw zaC zev zew zcc zcd zdQ zlp zgc zgd zlq zlr zd3 zd4 zbS zbT=true) (hk:K (e19 (zus S7 low high zav zaB zaw zaC zev zew zcc zcd zdQ zlp zgc zgd zlq zlr zd3 zd4 zbS zbT))):z19 K [1,0,1,1,1,1,1,1,1,1,0,1,0,0,1,1,0,0,1,1,1] [X7] ⟨[(2,zI low),(3,zI high),(9,zp 9 0),(10,zp 10 0),(12,zp 12 0),(13,zp 13 0),(14,zp 14 0),(15,zp 15 0),(16,zp 16 0),(17,zI (w64 (high+(1:Int)))),(18,zI zdQ),(19,zp 19 0),(20,zp 20 0),(21,zp 21 0),(22,zp 22 0),(76,zI (w64 ((w64 (high - low))+(1:Int)))),(77,zI zlp)],[(9,.box 25 (zm (zai (⟨(0:Int),(0:Int)⟩:Frac)))),(10,.box 25 (zm (zai (⟨(0:Int),(0:Int)⟩:Frac)))),(12,.box 25 (zm (zai (⟨(0:Int),(0:Int)⟩:Frac)))),(13,.box 104 (zm (zbg (⟨(⟨zav⟩:list),zaB⟩:set)))),(14,.box 104 (zm (zbg (⟨(⟨zaw⟩:list),zaC⟩:set)))),(15,.box 25 (zm (zai (⟨zgc,zgd⟩:Frac)))),(16,.box 25 (zm (zai (⟨zlq,zlr⟩:Frac)))),(19,.box 25 (zm (zai (⟨zev,zew⟩:Frac)))),(20,.box 25 (zm (zai (⟨zcc,zcd⟩:Frac)))),(21,.box 25 (zm (zai (⟨zd3,zd4⟩:Frac)))),(22,.box 25 (zm (zai (⟨zbS,zbT⟩:Frac))))],[]⟩:=zaI (by kernel_rfl) (zCn hX7 hs hk)
def zx7 (S7:Int→Int→Int→Int→Int→(Int×Frac×Frac×Int)) (low:Int) (high:Int) (zav:(Sl Gate)) (zaB:(Sl straight)) (zaw:(Sl Gate)) (zaC:(Sl straight)) (iv8:Int) (zsc:Int) (zfr:Int) (zfs:Int) (zln:Int) (zlo:Int) (zev:Int) (zew:Int) (zcc:Int) (zcd:Int):(Int×Frac×Frac×Int) :=
  (zus S7 low high zav zaB zaw zaC zev zew zcc zcd iv8 zsc zfr zfs zln zlo (((s68 (⟨(⟨zaw⟩:list),zaC⟩:set) (w64 (low+iv8))).1).Num) (((s68 (⟨(⟨zaw⟩:list),zaC⟩:set) (w64 (low+iv8))).1).Den) (((s68 (⟨(⟨zaw⟩:list),zaC⟩:set) (w64 (low+iv8))).2).Num) (((s68 (⟨(⟨zaw⟩:list),zaC⟩:set) (w64 (low+iv8))).2).Den))
def zx8 (P7:Int→Int→Int→Int→Int→Bool) (low:Int) (high:Int) (zav:(Sl Gate)) (zaB:(Sl straight)) (zaw:(Sl Gate)) (zaC:(Sl straight)) (iv8:Int) (zsc:Int) (zfr:Int) (zfs:Int) (zln:Int) (zlo:Int) (zev:Int) (zew:Int) (zcc:Int) (zcd:Int):Bool :=
  (decide ((p68 (⟨(⟨zaw⟩:list),zaC⟩:set) (w64 (low+iv8))=true)) &&
 (zut P7 low high zav zaB zaw zaC zev zew zcc zcd iv8 zsc zfr zfs zln zlo (((s68 (⟨(⟨zaw⟩:list),zaC⟩:set) (w64 (low+iv8))).1).Num) (((s68 (⟨(⟨zaw⟩:list),zaC⟩:set) (w64 (low+iv8))).1).Den) (((s68 (⟨(⟨zaw⟩:list),zaC⟩:set) (w64 (low+iv8))).2).Num) (((s68 (⟨(⟨zaw⟩:list),zaC⟩:set) (w64 (low+iv8))).2).Den)))
theorem zF2 (hX7:zp7 K low high zav zaB zaw zaC X7 P7 S7) (hs:zx8 P7 low high zav zaB zaw zaC iv8 zsc zfr zfs zln zlo zev zew zcc zcd=true) (hk:K (e19 (zx7 S7 low high zav zaB zaw zaC iv8 zsc zfr zfs zln zlo zev zew zcc zcd))):z19 K [1,0,1,1,1,1,1,1,1,1,0,1,0,0,1,1,0,0,1,1] [X7] ⟨[(2,zI low),(3,zI high),(9,zp 9 0),(10,zp 10 0),(12,zp 12 0),(13,zp 13 0),(14,zp 14 0),(15,zp 15 0),(16,zp 16 0),(17,zI (w64 (high+(1:Int)))),(18,zI iv8),(19,zp 19 0),(20,zp 20 0),(76,zI (w64 ((w64 (high - low))+(1:Int)))),(77,zI zsc)],[(9,.box 25 (zm (zai (⟨(0:Int),(0:Int)⟩:Frac)))),(10,.box 25 (zm (zai (⟨(0:Int),(0:Int)⟩:Frac)))),(12,.box 25 (zm (zai (⟨(0:Int),(0:Int)⟩:Frac)))),(13,.box 104 (zm (zbg (⟨(⟨zav⟩:list),zaB⟩:set)))),(14,.box 104 (zm (zbg (⟨(⟨zaw⟩:list),zaC⟩:set)))),(15,.box 25 (zm (zai (⟨zfr,zfs⟩:Frac)))),(16,.box 25 (zm (zai (⟨zln,zlo⟩:Frac)))),(19,.box 25 (zm (zai (⟨zev,zew⟩:Frac)))),(20,.box 25 (zm (zai (⟨zcc,zcd⟩:Frac))))],[]⟩:=zaI (by kernel_rfl) (zaG hs fun hc hs=>And.intro (And.intro (zE zac 3 zaw.get) (And.intro (zE zak 3 zaC.get) hc)) (zCo hX7 hs hk))
def zx9 (low:Int) (high:Int) (zav:(Sl Gate)) (zaB:(Sl straight)) (zaw:(Sl Gate)) (zaC:(Sl straight)) (S7:Int→Int→Int→Int→Int→(Int×Frac×Frac×Int)) (zdg:Int) (zb3:Int) (zb4:Int) (zdt:Int) (zdu:Int):(Int×Frac×Frac×Int) :=
  (cond (decide (zdg < (w64 ((w64 (high - low)) + (1:Int)))))
 (zx7 S7 low high zav zaB zaw zaC zdg zdg zb3 zb4 zdt zdu (((s68 (⟨(⟨zav⟩:list),zaB⟩:set) (w64 (low+zdg))).1).Num) (((s68 (⟨(⟨zav⟩:list),zaB⟩:set) (w64 (low+zdg))).1).Den) (((s68 (⟨(⟨zav⟩:list),zaB⟩:set) (w64 (low+zdg))).2).Num) (((s68 (⟨(⟨zav⟩:list),zaB⟩:set) (w64 (low+zdg))).2).Den))
 (zsd high (w64 (high+(1:Int))) zb3 zb4 zdt zdu))
def zya (low:Int) (high:Int) (zav:(Sl Gate)) (zaB:(Sl straight)) (zaw:(Sl Gate)) (zaC:(Sl straight)) (P7:Int→Int→Int→Int→Int→Bool) (zdg:Int) (zb3:Int) (zb4:Int) (zdt:Int) (zdu:Int):Bool :=
  (cond (decide (zdg < (w64 ((w64 (high - low)) + (1:Int)))))
 (decide ((p68 (⟨(⟨zav⟩:list),zaB⟩:set) (w64 (low+zdg))=true)) &&
 (zx8 P7 low high zav zaB zaw zaC zdg zdg zb3 zb4 zdt zdu (((s68 (⟨(⟨zav⟩:list),zaB⟩:set) (w64 (low+zdg))).1).Num) (((s68 (⟨(⟨zav⟩:list),zaB⟩:set) (w64 (low+zdg))).1).Den) (((s68 (⟨(⟨zav⟩:list),zaB⟩:set) (w64 (low+zdg))).2).Num) (((s68 (⟨(⟨zav⟩:list),zaB⟩:set) (w64 (low+zdg))).2).Den)))
 true)
def zyb (low:Int) (high:Int) (zav:(Sl Gate)) (zaB:(Sl straight)) (zaw:(Sl Gate)) (zaC:(Sl straight)):Nat→Int→Int→Int→Int→Int→(Int×Frac×Frac×Int):=lpO (fun _ _ _ _ _=>default) (zx9 low high zav zaB zaw zaC)
def zyc (low:Int) (high:Int) (zav:(Sl Gate)) (zaB:(Sl straight)) (zaw:(Sl Gate)) (zaC:(Sl straight)):Nat→Int→Int→Int→Int→Int→Bool:=lpO (fun _ _ _ _ _=>false) (zya low high zav zaB zaw zaC)
def zyd (low:Int) (high:Int) (zav:(Sl Gate)) (zaB:(Sl straight)) (zaw:(Sl Gate)) (zaC:(Sl straight)) (zdg:Int) (zb3:Int) (zb4:Int) (zdt:Int) (zdu:Int):(Int×Frac×Frac×Int):=zyb low high zav zaB zaw zaC Fuel zdg zb3 zb4 zdt zdu
def zye (low:Int) (high:Int) (zav:(Sl Gate)) (zaB:(Sl straight)) (zaw:(Sl Gate)) (zaC:(Sl straight)) (zdg:Int) (zb3:Int) (zb4:Int) (zdt:Int) (zdu:Int):Bool:=zyc low high zav zaB zaw zaC Fuel zdg zb3 zb4 zdt zdu
theorem zF3 (hs:zye low high zav zaB zaw zaC zdg zb3 zb4 zdt zdu=true) (hk:K (e19 (zyd low high zav zaB zaw zaC zdg zb3 zb4 zdt zdu))):z19 K [1,0,1,1,1,1,1,1,1,1,0,1,0] [] (zDx low high zav zaB zaw zaC zdg zb3 zb4 zdt zdu) :=
  zl (fun X=>z19 K [1,0,1,1,1,1,1,1,1,1,0,1,0,0] [X]) (by kernel_rfl) fun X7 hX =>
  (show ∀ k, zp7 K low high zav zaB zaw zaC X7 (zyc low high zav zaB zaw zaC k) (zyb low high zav zaB zaw zaC k) from zgM _ _ (zya low high zav zaB zaw zaC) (zx9 low high zav zaB zaw zaC) (zp7 K low high zav zaB zaw zaC X7)
 (by intro _ _ _ _ _ hs;exact absurd hs Bool.false_ne_true)
 (by intro P7 S7 hX7 zdg zb3 zb4 zdt zdu hs hk;exact hX _ (zaI (by kernel_rfl) (zc hs hk (fun hs hk=>(zaG hs fun hc hs=>And.intro (And.intro (zE zac 3 zav.get) (And.intro (zE zak 3 zaB.get) hc)) (zF2 hX7 hs hk))) (fun hs hk=>(zx6 hk)))))) _ hs hk
def zyf (low:Int) (high:Int) (zav:(Sl Gate)) (zaB:(Sl straight)) (zaw:(Sl Gate)) (zaC:(Sl straight)):(Int×Frac×Frac×Int) :=
  (zyd low high zav zaB zaw zaC (0:Int) (0:Int) (0:Int) (0:Int) (0:Int))
def zyg (low:Int) (high:Int) (zav:(Sl Gate)) (zaB:(Sl straight)) (zaw:(Sl Gate)) (zaC:(Sl straight)):Bool :=
  (zye low high zav zaB zaw zaC (0:Int) (0:Int) (0:Int) (0:Int) (0:Int))
theorem zF4 (hs:zyg low high zav zaB zaw zaC=true) (hk:K (e19 (zyf low high zav zaB zaw zaC))):z19 K [1,0,1,1,1,1,1] [] ⟨[(2,zI low),(3,zI high),(9,zp 9 0),(10,zp 10 0),(12,zp 12 0),(13,zp 13 0),(14,zp 14 0)],[(9,.box 25 (zm (zai (⟨(0:Int),(0:Int)⟩:Frac)))),(10,.box 25 (zm (zai (⟨(0:Int),(0:Int)⟩:Frac)))),(12,.box 25 (zm (zai (⟨(0:Int),(0:Int)⟩:Frac)))),(13,.box 104 (zm (zbg (⟨(⟨zav⟩:list),zaB⟩:set)))),(14,.box 104 (zm (zbg (⟨(⟨zaw⟩:list),zaC⟩:set))))],[]⟩:=zaI (by kernel_rfl) (zF3 hs hk)
def zse (low:Int) (high:Int) (zav:(Sl Gate)) (zaB:(Sl straight)) (zaw:(Sl Gate)) (zaC:(Sl straight)) (zsb:Bool):(Int×Frac×Frac×Int) :=
  (cond zsb
 ((0:Int),(⟨(0:Int),(0:Int)⟩:Frac),(⟨(0:Int),(0:Int)⟩:Frac),(6:Int))
 (zyf low high zav zaB zaw zaC))
def zsf (low:Int) (high:Int) (zav:(Sl Gate)) (zaB:(Sl straight)) (zaw:(Sl Gate)) (zaC:(Sl straight)) (zsb:Bool):Bool :=
  (cond zsb
 true
 (zyg low high zav zaB zaw zaC))
theorem zyh (hs:zsf low high zav zaB zaw zaC zsb=true) (hk:K (e19 (zse low high zav zaB zaw zaC zsb))):z19 K [1,0,1,1,1,1,0,1] [] ⟨[(2,zI low),(3,zI high),(9,zp 9 0),(10,zp 10 0),(12,zp 12 0),(13,zp 13 0),(14,zp 14 0),(68,zB zsb)],[(9,.box 25 (zm (zai (⟨(0:Int),(0:Int)⟩:Frac)))),(10,.box 25 (zm (zai (⟨(0:Int),(0:Int)⟩:Frac)))),(12,.box 25 (zm (zai (⟨(0:Int),(0:Int)⟩:Frac)))),(13,.box 104 (zm (zbg (⟨(⟨zav⟩:list),zaB⟩:set)))),(14,.box 104 (zm (zbg (⟨(⟨zaw⟩:list),zaC⟩:set))))],[]⟩:=zaI (by kernel_rfl) (zc hs hk (fun hs hk=>hk) (fun hs hk=>(zF4 hs hk)))
def zyi (low:Int) (high:Int) (zav:(Sl Gate)) (zaB:(Sl straight)) (zaw:(Sl Gate)) (zaC:(Sl straight)):(Int×Frac×Frac×Int) :=
  (cond (s67 (⟨zav⟩ : list))
 (zse low high zav zaB zaw zaC true)
 (zse low high zav zaB zaw zaC (s67 (⟨zaw⟩:list))))
def zyj (low:Int) (high:Int) (zav:(Sl Gate)) (zaB:(Sl straight)) (zaw:(Sl Gate)) (zaC:(Sl straight)):Bool :=
  (decide ((p67 (⟨zav⟩:list)=true)) &&
 (cond (s67 (⟨zav⟩ : list))
 (zsf low high zav zaB zaw zaC true)
 (decide ((p67 (⟨zaw⟩:list)=true)) &&
 (zsf low high zav zaB zaw zaC (s67 (⟨zaw⟩:list))))))
theorem zF5 (hs:zyj low high zav zaB zaw zaC=true) (hk:K (e19 (zyi low high zav zaB zaw zaC))):z19 K [1,0,1,1,1,1] [] ⟨[(2,zI low),(3,zI high),(9,zp 9 0),(10,zp 10 0),(12,zp 12 0),(13,zp 13 0),(14,zp 14 0)],[(9,.box 25 (zm (zai (⟨(0:Int),(0:Int)⟩:Frac)))),(10,.box 25 (zm (zai (⟨(0:Int),(0:Int)⟩:Frac)))),(12,.box 25 (zm (zai (⟨(0:Int),(0:Int)⟩:Frac)))),(13,.box 104 (zm (zbg (⟨(⟨zav⟩:list),zaB⟩:set)))),(14,.box 104 (zm (zbg (⟨(⟨zaw⟩:list),zaC⟩:set))))],[]⟩:=zaI (by kernel_rfl) (zaG hs fun hc hs=>And.intro (And.intro (zE zac 3 zav.get) hc) (zc hs hk (fun hs hk=>(zyh hs hk)) (fun hs hk=>(zaG hs fun hc hs=>And.intro (And.intro (zE zac 3 zaw.get) hc) (zyh hs hk)))))
def zsg (low:Int) (high:Int) (zav:(Sl Gate)) (zaB:(Sl straight)) (zaw:(Sl Gate)) (zaC:(Sl straight)) (zsa:Bool):(Int×Frac×Frac×Int) :=
  (cond zsa
 ((0:Int),(⟨(0:Int),(0:Int)⟩:Frac),(⟨(0:Int),(0:Int)⟩:Frac),(5:Int))
 (zyi low high zav zaB zaw zaC))
def zsh (low:Int) (high:Int) (zav:(Sl Gate)) (zaB:(Sl straight)) (zaw:(Sl Gate)) (zaC:(Sl straight)) (zsa:Bool):Bool :=
  (cond zsa
 true
 (zyj low high zav zaB zaw zaC))
theorem zyk (hs:zsh low high zav zaB zaw zaC zsa=true) (hk:K (e19 (zsg low high zav zaB zaw zaC zsa))):z19 K [1,0,1,1,1,0,1] [] ⟨[(2,zI low),(3,zI high),(9,zp 9 0),(10,zp 10 0),(12,zp 12 0),(13,zp 13 0),(14,zp 14 0),(58,zB zsa)],[(9,.box 25 (zm (zai (⟨(0:Int),(0:Int)⟩:Frac)))),(10,.box 25 (zm (zai (⟨(0:Int),(0:Int)⟩:Frac)))),(12,.box 25 (zm (zai (⟨(0:Int),(0:Int)⟩:Frac)))),(13,.box 104 (zm (zbg (⟨(⟨zav⟩:list),zaB⟩:set)))),(14,.box 104 (zm (zbg (⟨(⟨zaw⟩:list),zaC⟩:set))))],[]⟩:=zaI (by kernel_rfl) (zc hs hk (fun hs hk=>hk) (fun hs hk=>(zF5 hs hk)))
def zyl (low:Int) (high:Int) (zav:(Sl Gate)) (zaB:(Sl straight)) (zaw:(Sl Gate)) (zaC:(Sl straight)):(Int×Frac×Frac×Int) :=
  (cond (!(s66 (⟨(⟨zav⟩ : list), zaB⟩ : set)))
 (zsg low high zav zaB zaw zaC true)
 (zsg low high zav zaB zaw zaC (!(s66 (⟨(⟨zaw⟩:list),zaC⟩:set)))))
def zym (low:Int) (high:Int) (zav:(Sl Gate)) (zaB:(Sl straight)) (zaw:(Sl Gate)) (zaC:(Sl straight)):Bool :=
  (decide ((p66 (⟨(⟨zav⟩:list),zaB⟩:set)=true)) &&
 (cond (!(s66 (⟨(⟨zav⟩ : list), zaB⟩ : set)))
 (zsh low high zav zaB zaw zaC true)
 (decide ((p66 (⟨(⟨zaw⟩:list),zaC⟩:set)=true)) &&
 (zsh low high zav zaB zaw zaC (!(s66 (⟨(⟨zaw⟩:list),zaC⟩:set)))))))
theorem zF6 (hs:zym low high zav zaB zaw zaC=true) (hk:K (e19 (zyl low high zav zaB zaw zaC))) (zF7:zx2=zg zac zav) (zF8:zx3=zg zak zaB) (zF9:zx4=zg zac zaw) (zGa:zx5=zg zak zaC):z19 K [1,0,1,1,1] [] ⟨[(2,zI low),(3,zI high),(9,zp 9 0),(10,zp 10 0),(12,zp 12 0),(13,zp 13 0),(14,zp 14 0)],[(9,.box 25 (zm (zai (⟨(0:Int),(0:Int)⟩:Frac)))),(10,.box 25 (zm (zai (⟨(0:Int),(0:Int)⟩:Frac)))),(12,.box 25 (zm (zai (⟨(0:Int),(0:Int)⟩:Frac)))),(13,.box 104 [.p (.sl zav.len 3 zx2),.p (.sl zaB.len 3 zx3)]),(14,.box 104 [.p (.sl zaw.len 3 zx4),.p (.sl zaC.len 3 zx5)])],[]⟩:=by subst zF7;subst zF8;subst zF9;subst zGa;exact zaI (by kernel_rfl) (zaG hs fun hc hs=>And.intro (And.intro (zE zac 3 zav.get) (And.intro (zE zak 3 zaB.get) hc)) (zc hs hk (fun hs hk=>(zyk hs hk)) (fun hs hk=>(zaG hs fun hc hs=>And.intro (And.intro (zE zac 3 zaw.get) (And.intro (zE zak 3 zaC.get) hc)) (zyk hs hk)))))
def zyn (a:(Sl Gate)) (b:(Sl Gate)) (low:Int) (high:Int):(Int×Frac×Frac×Int) :=
  (zyl low high ((s65 a).list.Gates) ((s65 a).corners) ((s65 b).list.Gates) ((s65 b).corners))
def zyo (a:(Sl Gate)) (b:(Sl Gate)) (low:Int) (high:Int):Bool :=
  (decide ((p65 a=true)) &&
 (decide ((p65 b=true)) &&
 (zym low high ((s65 a).list.Gates) ((s65 a).corners) ((s65 b).list.Gates) ((s65 b).corners))))
theorem zGb (hs:zyo a b low high=true) (hk:K (e19 (zyn a b low high))):z19 K [1,0,1,1] [] ⟨[(0,zS zac 3 a),(1,zS zac 3 b),(2,zI low),(3,zI high),(9,zp 9 0),(10,zp 10 0),(12,zp 12 0)],[(9,.box 25 (zm (zai (⟨(0:Int),(0:Int)⟩:Frac)))),(10,.box 25 (zm (zai (⟨(0:Int),(0:Int)⟩:Frac)))),(12,.box 25 (zm (zai (⟨(0:Int),(0:Int)⟩:Frac))))],[]⟩:=zaI (by kernel_rfl) (zaG hs fun hc hs=>And.intro (And.intro (zE zac 3 a.get) hc) (zaG hs fun hc hs=>And.intro (And.intro (zE zac 3 b.get) hc) (zF6 hs hk rfl rfl rfl rfl)))
def zi0 (a:(Sl Gate)) (b:(Sl Gate)) (low:Int) (high:Int) (zr9:Bool):(Int×Frac×Frac×Int) :=
  (cond zr9
 ((0:Int),(⟨(0:Int),(0:Int)⟩:Frac),(⟨(0:Int),(0:Int)⟩:Frac),(2:Int))
 (zyn a b low high))
def zi1 (a:(Sl Gate)) (b:(Sl Gate)) (low:Int) (high:Int) (zr9:Bool):Bool :=
  (cond zr9
 true
 (zyo a b low high))
theorem zlu (hs:zi1 a b low high zr9=true) (hk:K (e19 (zi0 a b low high zr9))):z19 K [1,0,1,0,1] [] ⟨[(0,zS zac 3 a),(1,zS zac 3 b),(2,zI low),(3,zI high),(9,zp 9 0),(10,zp 10 0),(12,zp 12 0),(44,zB zr9)],[(9,.box 25 (zm (zai (⟨(0:Int),(0:Int)⟩:Frac)))),(10,.box 25 (zm (zai (⟨(0:Int),(0:Int)⟩:Frac)))),(12,.box 25 (zm (zai (⟨(0:Int),(0:Int)⟩:Frac))))],[]⟩:=zaI (by kernel_rfl) (zc hs hk (fun hs hk=>hk) (fun hs hk=>(zGb hs hk)))
def s19 (a:(Sl Gate)) (b:(Sl Gate)) (low:Int) (high:Int):(Int×Frac×Frac×Int) :=
  (cond (decide (low < (-100000:Int)))
 (zi0 a b low high true)
 (cond (decide (low > high))
 (zi0 a b low high true)
 (cond (decide (high > (200000:Int)))
 (zi0 a b low high true)
 (cond (!(s64 a))
 (zi0 a b low high true)
 (zi0 a b low high (!(s64 b)))))))
def p19 (a:(Sl Gate)) (b:(Sl Gate)) (low:Int) (high:Int):Bool :=
  (cond (decide (low < (-100000:Int)))
 (zi1 a b low high true)
 (cond (decide (low > high))
 (zi1 a b low high true)
 (cond (decide (high > (200000:Int)))
 (zi1 a b low high true)
 (decide ((p64 a=true)) &&
 (cond (!(s64 a))
 (zi1 a b low high true)
 (decide ((p64 b=true)) &&
 (zi1 a b low high (!(s64 b)))))))))
end
theorem q19 (a:(Sl Gate)) (b:(Sl Gate)) (low:Int) (high:Int) (K:List PA→Prop) (hs:p19 a b low high=true) (hk:K (e19 (s19 a b low high))):vcFun Try.prog G19 zF1 19 [.one (.sl a.len 3 (fun i=>zac (a.get i))),.one (.sl b.len 3 (fun i=>zac (b.get i))),.one (.int .i64 low),.one (.int .i64 high)] K :=
  zaI (by kernel_rfl) (zc hs hk (fun hs hk=>(zlu hs hk)) (fun hs hk=>(zc hs hk (fun hs hk=>(zlu hs hk)) (fun hs hk=>(zc hs hk (fun hs hk=>(zlu hs hk)) (fun hs hk=>(zaG hs fun hc hs=>And.intro (And.intro (zE zac 3 a.get) hc) (zc hs hk (fun hs hk=>(zlu hs hk)) (fun hs hk=>(zaG hs fun hc hs=>And.intro (And.intro (zE zac 3 b.get) hc) (zlu hs hk)))))))))))
def zGc : List PA → COut
  | [.one (.sl a0_n a0_s a0_g),.one (.sl a1_n a1_s a1_g),.one (.int .i64 a2),.one (.int .i64 a3)]=>.det (IsE zac 3 a0_s a0_g∧IsE zac 3 a1_s a1_g∧p19 (⟨a0_n,zah a0_g⟩:(Sl Gate)) (⟨a1_n,zah a1_g⟩:(Sl Gate)) a2 a3=true) [.one (.int .i64 ((s19 (⟨a0_n,zah a0_g⟩:(Sl Gate)) (⟨a1_n,zah a1_g⟩:(Sl Gate)) a2 a3).1)),.agg [.int .i64 (((s19 (⟨a0_n,zah a0_g⟩:(Sl Gate)) (⟨a1_n,zah a1_g⟩:(Sl Gate)) a2 a3).2.1).Num),.int .i64 (((s19 (⟨a0_n,zah a0_g⟩:(Sl Gate)) (⟨a1_n,zah a1_g⟩:(Sl Gate)) a2 a3).2.1).Den)],.agg [.int .i64 (((s19 (⟨a0_n,zah a0_g⟩:(Sl Gate)) (⟨a1_n,zah a1_g⟩:(Sl Gate)) a2 a3).2.2.1).Num),.int .i64 (((s19 (⟨a0_n,zah a0_g⟩:(Sl Gate)) (⟨a1_n,zah a1_g⟩:(Sl Gate)) a2 a3).2.2.1).Den)],.one (.int .i64 ((s19 (⟨a0_n,zah a0_g⟩:(Sl Gate)) (⟨a1_n,zah a1_g⟩:(Sl Gate)) a2 a3).2.2.2))]
  | _=>.no
theorem zKu:zal Try.prog 19:=⟨_,rfl,rfl,by kernel_rfl⟩
theorem zPO:Ok Try.prog 19 zGc:=zaY zNm zKu fun args K h=>by
  unfold zGc at h
  split at h
  · rename_i a0_n a0_s a0_g a1_n a1_s a1_g a2 a3
    obtain ⟨⟨⟨rfl,a0_f,rfl⟩,⟨rfl,a1_f,rfl⟩,hs⟩,hk⟩:=h
    try rw [zaf a0_f] at hs
    try rw [zaf a0_f] at hk
    try rw [zaf a1_f] at hs
    try rw [zaf a1_f] at hk
    exact ⟨(fun _ _=>[]),(fun _=>false),zF1,q19 (⟨a0_n,a0_f⟩:(Sl Gate)) (⟨a1_n,a1_f⟩:(Sl Gate)) a2 a3 K hs hk⟩
  · exact h.elim
abbrev T76:Tabs:=Tabs.nil
theorem zNn:TabsOk Try.prog T76:=TabsOk.nil
abbrev G76:Ctrs:=csm T76 (fun _ _=>[]) (fun _=>false)
def zKv:Ann:=⟨11,[(0,zK [1,2] [2]),(1,zK [3] [])],
 [],
 [],
 [],[]⟩
abbrev R76:=Bool
abbrev e76 (r:R76):List PA:=[.one (.bool r)]
section
variable {K:List PA→Prop} {c0:Int} {l_a0:list}
def s76 (c0:Int) (l_a0:list):Bool :=
  ((l_a0.Gates.get 0).Z == c0)
def p76 (c0:Int) (l_a0:list):Bool :=
  (decide ((0≤(0:Int)∧(0:Int) < (l_a0.Gates.len:Int))) &&
 true)
end
theorem q76 (c0:Int) (l_a0:list) (K:List PA→Prop) (hs:p76 c0 l_a0=true) (hk:K (e76 (s76 c0 l_a0))):vcFun Try.prog G76 zKv 76 [.agg (zcL l_a0),.one (.fp (enc_3 c0) 0)] K :=
  zaI (by kernel_rfl) (zaG hs fun hc hs=>And.intro hc hk)
def zGd : List PA → COut
  | [.agg [.sl a0_Gates_n a0_Gates_s a0_Gates_g],.one (.fp [.int .i64 c0] 0)]=>.det (IsE zac 3 a0_Gates_s a0_Gates_g∧p76 c0 (⟨(⟨a0_Gates_n,zah a0_Gates_g⟩:(Sl Gate))⟩:list)=true) [.one (.bool (s76 c0 (⟨(⟨a0_Gates_n,zah a0_Gates_g⟩:(Sl Gate))⟩:list)))]
  | _=>.no
theorem zKw:zal Try.prog 76:=⟨_,rfl,rfl,by kernel_rfl⟩
theorem zPP:Ok Try.prog 76 zGd:=zaY zNn zKw fun args K h=>by
  unfold zGd at h
  split at h
  · rename_i a0_Gates_n a0_Gates_s a0_Gates_g c0
    obtain ⟨⟨⟨rfl,a0_Gates_f,rfl⟩,hs⟩,hk⟩:=h
    try rw [zaf a0_Gates_f] at hs
    try rw [zaf a0_Gates_f] at hk
    exact ⟨(fun _ _=>[]),(fun _=>false),zKv,q76 c0 (⟨(⟨a0_Gates_n,a0_Gates_f⟩:(Sl Gate))⟩:list) K hs hk⟩
  · exact h.elim
abbrev T77:Tabs:=Tabs.nil
theorem zNo:TabsOk Try.prog T77:=TabsOk.nil
abbrev G77:Ctrs:=csm T77 (fun _ _=>[]) (fun _=>false)
def zKx:Ann:=⟨3,[(0,zK [] []),(1,zK [2] [])],
 [],
 [],
 [],[]⟩
abbrev R77:=Bool
abbrev e77 (r:R77):List PA:=[.one (.bool r)]
section
variable {K:List PA→Prop} {a0_a0:list}
def s77 (a0_a0:list):Bool :=
  false
end
theorem q77 (a0_a0:list) (K:List PA→Prop) (hk:K (e77 (s77 a0_a0))):vcFun Try.prog G77 zKx 77 [.agg (zcL a0_a0)] K :=
  zaI (by kernel_rfl) hk
def zGe : List PA → COut
  | [.agg [.sl a0_Gates_n a0_Gates_s a0_Gates_g]]=>.det (IsE zac 3 a0_Gates_s a0_Gates_g) [.one (.bool (s77 (⟨(⟨a0_Gates_n,zah a0_Gates_g⟩:(Sl Gate))⟩:list)))]
  | _=>.no
theorem zKz:zal Try.prog 77:=⟨_,rfl,rfl,by kernel_rfl⟩
theorem zPQ:Ok Try.prog 77 zGe:=zaY zNo zKz fun args K h=>by
  unfold zGe at h
  split at h
  · rename_i a0_Gates_n a0_Gates_s a0_Gates_g
    obtain ⟨⟨rfl,a0_Gates_f,rfl⟩,hk⟩:=h
    try rw [zaf a0_Gates_f] at hk
    exact ⟨(fun _ _=>[]),(fun _=>false),zKx,q77 (⟨(⟨a0_Gates_n,a0_Gates_f⟩:(Sl Gate))⟩:list) K hk⟩
  · exact h.elim
abbrev T88:Tabs:=Tabs.nil
theorem zNp:TabsOk Try.prog T88:=TabsOk.nil
abbrev G88:Ctrs:=csm T88 (fun _ _=>[]) (fun _=>false)
def zKA:Ann:=⟨3,[(0,zK [] []),(1,zK [2] [])],
 [],
 [],
 [],[]⟩
abbrev R88:=Bool
abbrev e88 (r:R88):List PA:=[.one (.bool r)]
section
variable {K:List PA→Prop} {a0_a0:list}
def s88 (a0_a0:list):Bool :=
  true
end
theorem q88 (a0_a0:list) (K:List PA→Prop) (hk:K (e88 (s88 a0_a0))):vcFun Try.prog G88 zKA 88 [.agg (zcL a0_a0)] K :=
  zaI (by kernel_rfl) hk
def zGf : List PA → COut
  | [.agg [.sl a0_Gates_n a0_Gates_s a0_Gates_g]]=>.det (IsE zac 3 a0_Gates_s a0_Gates_g) [.one (.bool (s88 (⟨(⟨a0_Gates_n,zah a0_Gates_g⟩:(Sl Gate))⟩:list)))]
  | _=>.no
theorem zKB:zal Try.prog 88:=⟨_,rfl,rfl,by kernel_rfl⟩
theorem zPR:Ok Try.prog 88 zGf:=zaY zNp zKB fun args K h=>by
  unfold zGf at h
  split at h
  · rename_i a0_Gates_n a0_Gates_s a0_Gates_g
    obtain ⟨⟨rfl,a0_Gates_f,rfl⟩,hk⟩:=h
    try rw [zaf a0_Gates_f] at hk
    exact ⟨(fun _ _=>[]),(fun _=>false),zKA,q88 (⟨(⟨a0_Gates_n,a0_Gates_f⟩:(Sl Gate))⟩:list) K hk⟩
  · exact h.elim
abbrev T75:Tabs:=(((((((Tabs.nil.addF 64 zvm).addF 65 zxt).addF 66 zxA).addF 67 zrS).addF 76 zGd).addF 77 zGe).addF 88 zGf)
theorem zNq:TabsOk Try.prog T75:=(((((((TabsOk.nil.addF zLY).addF zM3).addF zM6).addF zJU).addF zPP).addF zPQ).addF zPR)
abbrev G75:Ctrs:=csm T75 (fun _ _=>[]) (fun _=>false)
def zGg:Ann:=⟨31,[(0,zK [0,1,4] [4]),(1,zK [0,1,4,9] [4]),(2,zK [4,5] [4]),(3,zK [1,4,6] [4,6]),(4,zK [1,4,6,13] [4,6]),(5,zK [4,5] [4]),(6,zK [4,6,18] [4,6]),(7,zK [4,5] [4]),(8,zK [4,5] [4])],
 [],
 [(3,zK [0,1,4] [4])],
 [],[]⟩
abbrev R75:=(set×Int)
abbrev e75 (r:R75):List PA:=[.agg [.sl r.1.list.Gates.len 3 (fun i=>zac (r.1.list.Gates.get i)),.sl r.1.corners.len 3 (fun i=>zak (r.1.corners.get i))],.one (.int .i64 r.2)]
@[irreducible] def z75:=ptF Try.prog G75 zGg Try.f75
section
variable {K:List PA→Prop} {zaa:(Sl Gate)}
def zyp (zaa:(Sl Gate)):(set×Int) :=
  (cond (!(s66 (s65 zaa)))
 ((⟨(⟨(⟨0,fun _=>default⟩:(Sl Gate))⟩:list),(⟨0,fun _=>default⟩:(Sl straight))⟩:set),(5:Int))
 (cond (s67 ((s65 zaa).list))
 (cond (!(s77 ((s65 zaa).list)))
 ((⟨(⟨(⟨0,fun _=>default⟩:(Sl Gate))⟩:list),(⟨0,fun _=>default⟩:(Sl straight))⟩:set),(6:Int))
 ((s65 zaa),(0:Int)))
 ((s65 zaa),(0:Int))))
def zyq (zaa:(Sl Gate)):Bool :=
  (decide ((p65 zaa=true)) &&
 (decide ((p66 (s65 zaa)=true)) &&
 (cond (!(s66 (s65 zaa)))
 true
 (decide ((p67 ((s65 zaa).list)=true)) &&
 true))))
theorem zGh (hs:zyq zaa=true) (hk:K (e75 (zyp zaa))):z75 (Wk K) [1,1] [] ⟨[(0,zS zac 3 zaa),(1,zP (.fn 77 [] [])),(4,zp 4 0)],[(4,.box 104 [.p (.nils),.p (.nils)])],[]⟩:=zaI (by kernel_rfl) (zaG hs fun hc hs=>And.intro (And.intro (zE zac 3 zaa.get) hc) (zaG hs fun hc hs=>And.intro (And.intro (zE zac 3 ((s65 zaa).list.Gates.get)) (And.intro (zE zak 3 ((s65 zaa).corners.get)) hc)) (zc hs hk (fun hs hk=>((wk hk (zdy (.agg (zdy (.nil _ _) (zdy (.nil _ _) zh1))) (zdy (.one (.rfl _)) zh1))):Wk K [.agg [.nils,.nils],.one (.int .i64 (5:Int))])) (fun hs hk=>(zaG hs fun hc hs=>And.intro (And.intro (zE zac 3 ((s65 zaa).list.Gates.get)) hc) (zt hk (fun hk=>(And.intro (zE zac 3 ((s65 zaa).list.Gates.get)) (zt hk (fun hk=>((wk hk (zdy (.agg (zdy (.nil _ _) (zdy (.nil _ _) zh1))) (zdy (.one (.rfl _)) zh1))):Wk K [.agg [.nils,.nils],.one (.int .i64 (6:Int))])) (fun hk=>((zd0 hk):Wk K [.agg [.sl ((s65 zaa).list.Gates.len) 3 (fun i=>zac ((s65 zaa).list.Gates.get i)),.sl ((s65 zaa).corners.len) 3 (fun i=>zak ((s65 zaa).corners.get i))],.one (.int .i64 (0:Int))]))))) (fun hk=>((zd0 hk):Wk K [.agg [.sl ((s65 zaa).list.Gates.len) 3 (fun i=>zac ((s65 zaa).list.Gates.get i)),.sl ((s65 zaa).corners.len) 3 (fun i=>zak ((s65 zaa).corners.get i))],.one (.int .i64 (0:Int))]))))))))
def s75 (zaa:(Sl Gate)):(set×Int) :=
  (cond (!(s64 zaa))
 ((⟨(⟨(⟨0,fun _=>default⟩:(Sl Gate))⟩:list),(⟨0,fun _=>default⟩:(Sl straight))⟩:set),(2:Int))
 (zyp zaa))
def p75 (zaa:(Sl Gate)):Bool :=
  (decide ((p64 zaa=true)) &&
 (cond (!(s64 zaa))
 true
 (zyq zaa)))
end
theorem q75 (zaa:(Sl Gate)) (K:List PA→Prop) (hs:p75 zaa=true) (hk:K (e75 (s75 zaa))):vcFun Try.prog G75 zGg 75 [.one (.sl zaa.len 3 (fun i=>zac (zaa.get i))),.one (.fn 77 [] [])] (Wk K) :=
  zaI (by kernel_rfl) (zaG hs fun hc hs=>And.intro (And.intro (zE zac 3 zaa.get) hc) (zc hs hk (fun hs hk=>((wk hk (zdy (.agg (zdy (.nil _ _) (zdy (.nil _ _) zh1))) (zdy (.one (.rfl _)) zh1))):Wk K [.agg [.nils,.nils],.one (.int .i64 (2:Int))])) (fun hs hk=>(zGh hs hk))))
abbrev zOz:Ctrs:=csm T75 (fun _ _=>[]) (fun _=>false)
def zyr:Ann:=⟨31,[(0,zK [0,1,4] [4]),(1,zK [0,1,4,9] [4]),(2,zK [4,5] [4]),(3,zK [1,4,6] [4,6]),(4,zK [1,4,6,13] [4,6]),(5,zK [4,5] [4]),(6,zK [4,6,18] [4,6]),(7,zK [4,5] [4]),(8,zK [4,5] [4])],
 [],
 [(3,zK [0,1,4] [4])],
 [],[]⟩
abbrev zPS:=(set×Int)
abbrev zOA (r:zPS):List PA:=[.agg [.sl r.1.list.Gates.len 3 (fun i=>zac (r.1.list.Gates.get i)),.sl r.1.corners.len 3 (fun i=>zak (r.1.corners.get i))],.one (.int .i64 r.2)]
@[irreducible] def z75a:=ptF Try.prog zOz zyr Try.f75
section
variable {K:List PA→Prop} {c0:Int} {zaa:(Sl Gate)}
def zuu (c0:Int) (zaa:(Sl Gate)):(set×Int) :=
  (cond (!(s66 (s65 zaa)))
 ((⟨(⟨(⟨0,fun _=>default⟩:(Sl Gate))⟩:list),(⟨0,fun _=>default⟩:(Sl straight))⟩:set),(5:Int))
 (cond (s67 ((s65 zaa).list))
 (cond (!(s76 c0 ((s65 zaa).list)))
 ((⟨(⟨(⟨0,fun _=>default⟩:(Sl Gate))⟩:list),(⟨0,fun _=>default⟩:(Sl straight))⟩:set),(6:Int))
 ((s65 zaa),(0:Int)))
 ((s65 zaa),(0:Int))))
def zuv (c0:Int) (zaa:(Sl Gate)):Bool :=
  (decide ((p65 zaa=true)) &&
 (decide ((p66 (s65 zaa)=true)) &&
 (cond (!(s66 (s65 zaa)))
 true
 (decide ((p67 ((s65 zaa).list)=true)) &&
 (cond (s67 ((s65 zaa).list))
 (decide ((p76 c0 ((s65 zaa).list)=true)) &&
 true)
 true)))))
theorem zCp (hs:zuv c0 zaa=true) (hk:K (zOA (zuu c0 zaa))):z75a (Wk K) [1,1] [] ⟨[(0,zS zac 3 zaa),(1,zP (.fn 76 [] [.fp (enc_3 c0) 0])),(4,zp 4 0)],[(4,.box 104 [.p (.nils),.p (.nils)])],[]⟩:=zaI (by kernel_rfl) (zaG hs fun hc hs=>And.intro (And.intro (zE zac 3 zaa.get) hc) (zaG hs fun hc hs=>And.intro (And.intro (zE zac 3 ((s65 zaa).list.Gates.get)) (And.intro (zE zak 3 ((s65 zaa).corners.get)) hc)) (zc hs hk (fun hs hk=>((wk hk (zdy (.agg (zdy (.nil _ _) (zdy (.nil _ _) zh1))) (zdy (.one (.rfl _)) zh1))):Wk K [.agg [.nils,.nils],.one (.int .i64 (5:Int))])) (fun hs hk=>(zaG hs fun hc hs=>And.intro (And.intro (zE zac 3 ((s65 zaa).list.Gates.get)) hc) (zc hs hk (fun hs hk=>(zaG hs fun hc hs=>And.intro (And.intro (zE zac 3 ((s65 zaa).list.Gates.get)) hc) (zt hk (fun hk=>((wk hk (zdy (.agg (zdy (.nil _ _) (zdy (.nil _ _) zh1))) (zdy (.one (.rfl _)) zh1))):Wk K [.agg [.nils,.nils],.one (.int .i64 (6:Int))])) (fun hk=>((zd0 hk):Wk K [.agg [.sl ((s65 zaa).list.Gates.len) 3 (fun i=>zac ((s65 zaa).list.Gates.get i)),.sl ((s65 zaa).corners.len) 3 (fun i=>zak ((s65 zaa).corners.get i))],.one (.int .i64 (0:Int))]))))) (fun hs hk=>((zd0 hk):Wk K [.agg [.sl ((s65 zaa).list.Gates.len) 3 (fun i=>zac ((s65 zaa).list.Gates.get i)),.sl ((s65 zaa).corners.len) 3 (fun i=>zak ((s65 zaa).corners.get i))],.one (.int .i64 (0:Int))]))))))))
def zvu (c0:Int) (zaa:(Sl Gate)):(set×Int) :=
  (cond (!(s64 zaa))
 ((⟨(⟨(⟨0,fun _=>default⟩:(Sl Gate))⟩:list),(⟨0,fun _=>default⟩:(Sl straight))⟩:set),(2:Int))
 (zuu c0 zaa))
def zNr (c0:Int) (zaa:(Sl Gate)):Bool :=
  (decide ((p64 zaa=true)) &&
 (cond (!(s64 zaa))
 true
 (zuv c0 zaa)))
end
theorem zPT (c0:Int) (zaa:(Sl Gate)) (K:List PA→Prop) (hs:zNr c0 zaa=true) (hk:K (zOA (zvu c0 zaa))):vcFun Try.prog zOz zyr 75 [.one (.sl zaa.len 3 (fun i=>zac (zaa.get i))),.one (.fn 76 [] [.fp (enc_3 c0) 0])] (Wk K) :=
  zaI (by kernel_rfl) (zaG hs fun hc hs=>And.intro (And.intro (zE zac 3 zaa.get) hc) (zc hs hk (fun hs hk=>((wk hk (zdy (.agg (zdy (.nil _ _) (zdy (.nil _ _) zh1))) (zdy (.one (.rfl _)) zh1))):Wk K [.agg [.nils,.nils],.one (.int .i64 (2:Int))])) (fun hs hk=>(zCp hs hk))))
abbrev zOB:Ctrs:=csm T75 (fun _ _=>[]) (fun _=>false)
def zys:Ann:=⟨31,[(0,zK [0,1,4] [4]),(1,zK [0,1,4,9] [4]),(2,zK [4,5] [4]),(3,zK [1,4,6] [4,6]),(4,zK [1,4,6,13] [4,6]),(5,zK [4,5] [4]),(6,zK [4,6,18] [4,6]),(7,zK [4,5] [4]),(8,zK [4,5] [4])],
 [],
 [(3,zK [0,1,4] [4])],
 [],[]⟩
abbrev zPU:=(set×Int)
abbrev zOC (r:zPU):List PA:=[.agg [.sl r.1.list.Gates.len 3 (fun i=>zac (r.1.list.Gates.get i)),.sl r.1.corners.len 3 (fun i=>zak (r.1.corners.get i))],.one (.int .i64 r.2)]
@[irreducible] def z75b:=ptF Try.prog zOB zys Try.f75
section
variable {K:List PA→Prop} {zaa:(Sl Gate)}
def zuw (zaa:(Sl Gate)):(set×Int) :=
  (cond (!(s66 (s65 zaa)))
 ((⟨(⟨(⟨0,fun _=>default⟩:(Sl Gate))⟩:list),(⟨0,fun _=>default⟩:(Sl straight))⟩:set),(5:Int))
 (cond (s67 ((s65 zaa).list))
 (cond (!(s88 ((s65 zaa).list)))
 ((⟨(⟨(⟨0,fun _=>default⟩:(Sl Gate))⟩:list),(⟨0,fun _=>default⟩:(Sl straight))⟩:set),(6:Int))
 ((s65 zaa),(0:Int)))
 ((s65 zaa),(0:Int))))
def zux (zaa:(Sl Gate)):Bool :=
  (decide ((p65 zaa=true)) &&
 (decide ((p66 (s65 zaa)=true)) &&
 (cond (!(s66 (s65 zaa)))
 true
 (decide ((p67 ((s65 zaa).list)=true)) &&
 true))))
theorem zCq (hs:zux zaa=true) (hk:K (zOC (zuw zaa))):z75b (Wk K) [1,1] [] ⟨[(0,zS zac 3 zaa),(1,zP (.fn 88 [] [])),(4,zp 4 0)],[(4,.box 104 [.p (.nils),.p (.nils)])],[]⟩:=zaI (by kernel_rfl) (zaG hs fun hc hs=>And.intro (And.intro (zE zac 3 zaa.get) hc) (zaG hs fun hc hs=>And.intro (And.intro (zE zac 3 ((s65 zaa).list.Gates.get)) (And.intro (zE zak 3 ((s65 zaa).corners.get)) hc)) (zc hs hk (fun hs hk=>((wk hk (zdy (.agg (zdy (.nil _ _) (zdy (.nil _ _) zh1))) (zdy (.one (.rfl _)) zh1))):Wk K [.agg [.nils,.nils],.one (.int .i64 (5:Int))])) (fun hs hk=>(zaG hs fun hc hs=>And.intro (And.intro (zE zac 3 ((s65 zaa).list.Gates.get)) hc) (zt hk (fun hk=>(And.intro (zE zac 3 ((s65 zaa).list.Gates.get)) (zt hk (fun hk=>((wk hk (zdy (.agg (zdy (.nil _ _) (zdy (.nil _ _) zh1))) (zdy (.one (.rfl _)) zh1))):Wk K [.agg [.nils,.nils],.one (.int .i64 (6:Int))])) (fun hk=>((zd0 hk):Wk K [.agg [.sl ((s65 zaa).list.Gates.len) 3 (fun i=>zac ((s65 zaa).list.Gates.get i)),.sl ((s65 zaa).corners.len) 3 (fun i=>zak ((s65 zaa).corners.get i))],.one (.int .i64 (0:Int))]))))) (fun hk=>((zd0 hk):Wk K [.agg [.sl ((s65 zaa).list.Gates.len) 3 (fun i=>zac ((s65 zaa).list.Gates.get i)),.sl ((s65 zaa).corners.len) 3 (fun i=>zak ((s65 zaa).corners.get i))],.one (.int .i64 (0:Int))]))))))))
def zIK (zaa:(Sl Gate)):(set×Int) :=
  (cond (!(s64 zaa))
 ((⟨(⟨(⟨0,fun _=>default⟩:(Sl Gate))⟩:list),(⟨0,fun _=>default⟩:(Sl straight))⟩:set),(2:Int))
 (zuw zaa))
def zOD (zaa:(Sl Gate)):Bool :=
  (decide ((p64 zaa=true)) &&
 (cond (!(s64 zaa))
 true
 (zux zaa)))
end
theorem zPV (zaa:(Sl Gate)) (K:List PA→Prop) (hs:zOD zaa=true) (hk:K (zOC (zIK zaa))):vcFun Try.prog zOB zys 75 [.one (.sl zaa.len 3 (fun i=>zac (zaa.get i))),.one (.fn 88 [] [])] (Wk K) :=
  zaI (by kernel_rfl) (zaG hs fun hc hs=>And.intro (And.intro (zE zac 3 zaa.get) hc) (zc hs hk (fun hs hk=>((wk hk (zdy (.agg (zdy (.nil _ _) (zdy (.nil _ _) zh1))) (zdy (.one (.rfl _)) zh1))):Wk K [.agg [.nils,.nils],.one (.int .i64 (2:Int))])) (fun hs hk=>(zCq hs hk))))
def zCr : List PA → COut
  | [.one (.sl a0_n a0_s a0_g),.one (.fn 77 [] [])]=>.det (IsE zac 3 a0_s a0_g∧p75 (⟨a0_n,zah a0_g⟩:(Sl Gate))=true) [.agg [.sl (((s75 (⟨a0_n,zah a0_g⟩:(Sl Gate))).1).list.Gates.len) 3 (fun i=>zac (((s75 (⟨a0_n,zah a0_g⟩:(Sl Gate))).1).list.Gates.get i)),.sl (((s75 (⟨a0_n,zah a0_g⟩:(Sl Gate))).1).corners.len) 3 (fun i=>zak (((s75 (⟨a0_n,zah a0_g⟩:(Sl Gate))).1).corners.get i))],.one (.int .i64 ((s75 (⟨a0_n,zah a0_g⟩:(Sl Gate))).2))]
  | [.one (.sl a0_n a0_s a0_g),.one (.fn 76 [] [.fp [.int .i64 c0] 0])]=>.det (IsE zac 3 a0_s a0_g∧zNr c0 (⟨a0_n,zah a0_g⟩:(Sl Gate))=true) [.agg [.sl (((zvu c0 (⟨a0_n,zah a0_g⟩:(Sl Gate))).1).list.Gates.len) 3 (fun i=>zac (((zvu c0 (⟨a0_n,zah a0_g⟩:(Sl Gate))).1).list.Gates.get i)),.sl (((zvu c0 (⟨a0_n,zah a0_g⟩:(Sl Gate))).1).corners.len) 3 (fun i=>zak (((zvu c0 (⟨a0_n,zah a0_g⟩:(Sl Gate))).1).corners.get i))],.one (.int .i64 ((zvu c0 (⟨a0_n,zah a0_g⟩:(Sl Gate))).2))]
  | [.one (.sl a0_n a0_s a0_g),.one (.fn 88 [] [])]=>.det (IsE zac 3 a0_s a0_g∧zOD (⟨a0_n,zah a0_g⟩:(Sl Gate))=true) [.agg [.sl (((zIK (⟨a0_n,zah a0_g⟩:(Sl Gate))).1).list.Gates.len) 3 (fun i=>zac (((zIK (⟨a0_n,zah a0_g⟩:(Sl Gate))).1).list.Gates.get i)),.sl (((zIK (⟨a0_n,zah a0_g⟩:(Sl Gate))).1).corners.len) 3 (fun i=>zak (((zIK (⟨a0_n,zah a0_g⟩:(Sl Gate))).1).corners.get i))],.one (.int .i64 ((zIK (⟨a0_n,zah a0_g⟩:(Sl Gate))).2))]
  | _=>.no
theorem zKC:zal Try.prog 75:=⟨_,rfl,rfl,by kernel_rfl⟩
theorem zOE:Ok Try.prog 75 zCr:=zfW zNq zKC fun args K h=>by
  unfold zCr at h
  split at h
  · rename_i a0_n a0_s a0_g
    obtain ⟨⟨⟨rfl,a0_f,rfl⟩,hs⟩,hk⟩:=h
    try rw [zaf a0_f] at hs
    try rw [zaf a0_f] at hk
    exact ⟨_,zeY zfF _,(fun _ _=>[]),(fun _=>false),zGg,q75 (⟨a0_n,a0_f⟩:(Sl Gate)) K hs hk⟩
  · rename_i a0_n a0_s a0_g c0
    obtain ⟨⟨⟨rfl,a0_f,rfl⟩,hs⟩,hk⟩:=h
    try rw [zaf a0_f] at hs
    try rw [zaf a0_f] at hk
    exact ⟨_,zeY zfF _,(fun _ _=>[]),(fun _=>false),zyr,zPT c0 (⟨a0_n,a0_f⟩:(Sl Gate)) K hs hk⟩
  · rename_i a0_n a0_s a0_g
    obtain ⟨⟨⟨rfl,a0_f,rfl⟩,hs⟩,hk⟩:=h
    try rw [zaf a0_f] at hs
    try rw [zaf a0_f] at hk
    exact ⟨_,zeY zfF _,(fun _ _=>[]),(fun _=>false),zys,zPV (⟨a0_n,a0_f⟩:(Sl Gate)) K hs hk⟩
  · exact h.elim
abbrev T30:Tabs:=(((Tabs.nil.addF 68 zCl).addF 74 znm).addF 75 zCr)
theorem zNs:TabsOk Try.prog T30:=(((TabsOk.nil.addF zOy).addF zEN).addF zOE)
abbrev G30:Ctrs:=csm T30 (fun _ _=>[]) (fun _=>false)
def zGi:Ann:=⟨35,[(0,zK [0,3,4,5] [3,4,5]),(1,zK [0,3,4,5,13] [3,4,5]),(2,zK [4,5,6] [4,5]),(3,zK [3,4,5,7,8] [3,4,5,7]),(4,zK [3,4,5,7,8,23] [3,4,5,7]),(5,zK [4,5,6] [4,5]),(6,zK [4,5,9,10] [4,5,9,10]),(7,zK [4,5,6] [4,5])],
 [],
 [(2,zK [0,3,4,5,13] [3,4,5]),(3,zK [0,3,4,5] [3,4,5]),(4,zK [3,4,5,7,8] [3,4,5,7]),(6,zK [3,4,5,7] [3,4,5,7]),(7,zK [4,5,9,10] [4,5,9,10])],
 [],[]⟩
abbrev R30:=(Frac×Frac×Int)
abbrev e30 (r:R30):List PA:=[.agg [.int .i64 r.1.Num,.int .i64 r.1.Den],.agg [.int .i64 r.2.1.Num,.int .i64 r.2.1.Den],.one (.int .i64 r.2.2)]
@[irreducible] def z30:=ptF Try.prog G30 zGi Try.f30
section
variable {K:List PA→Prop} {zaa:(Sl Gate)} {z:Int} {zsi:Bool} {ev2:Int} {zp8:(Sl Gate)} {zp9:(Sl straight)} {zyt:Nat→List PV} {zyu:Nat→List PV} {zjM:(Sl Gate)} {zjN:(Sl straight)} {zyv:Nat→List PV} {zyw:Nat→List PV} {znV:Int} {znW:Int} {zj2:Int} {zj3:Int}
def zyx (znV:Int) (znW:Int) (zj2:Int) (zj3:Int):(Frac×Frac×Int) :=
  ((⟨znV,znW⟩:Frac),(⟨zj2,zj3⟩:Frac),(0:Int))
theorem zGj (hk:K (e30 (zyx znV znW zj2 zj3))):z30 K [1,1,1,1,1] [] ⟨[(4,zp 4 0),(5,zp 5 0),(9,zp 9 0),(10,zp 10 0)],[(4,.box 25 (zm (zai (⟨(0:Int),(0:Int)⟩:Frac)))),(5,.box 25 (zm (zai (⟨(0:Int),(0:Int)⟩:Frac)))),(9,.box 25 (zm (zai (⟨znV,znW⟩:Frac)))),(10,.box 25 (zm (zai (⟨zj2,zj3⟩:Frac))))],[]⟩:=zaI (by kernel_rfl) hk
def zyy (z:Int) (zjM:(Sl Gate)) (zjN:(Sl straight)):(Frac×Frac×Int) :=
  (zyx (((s68 (⟨(⟨zjM⟩:list),zjN⟩:set) z).1).Num) (((s68 (⟨(⟨zjM⟩:list),zjN⟩:set) z).1).Den) (((s68 (⟨(⟨zjM⟩:list),zjN⟩:set) z).2).Num) (((s68 (⟨(⟨zjM⟩:list),zjN⟩:set) z).2).Den))
def zyz (z:Int) (zjM:(Sl Gate)) (zjN:(Sl straight)):Bool :=
  (decide ((p68 (⟨(⟨zjM⟩:list),zjN⟩:set) z=true)) &&
 true)
theorem zGk (hs:zyz z zjM zjN=true) (hk:K (e30 (zyy z zjM zjN))) (zGl:zyv=zg zac zjM) (zGm:zyw=zg zak zjN):z30 K [1,1,1,1] [] ⟨[(3,zp 3 0),(4,zp 4 0),(5,zp 5 0),(7,zp 7 0)],[(3,.fbox [.int .i64 z]),(4,.box 25 (zm (zai (⟨(0:Int),(0:Int)⟩:Frac)))),(5,.box 25 (zm (zai (⟨(0:Int),(0:Int)⟩:Frac)))),(7,.box 104 [.p (.sl zjM.len 3 zyv),.p (.sl zjN.len 3 zyw)])],[]⟩:=by subst zGl;subst zGm;exact zaI (by kernel_rfl) (zaG hs fun hc hs=>And.intro (And.intro (zE zac 3 zjM.get) (And.intro (zE zak 3 zjN.get) hc)) (zGj hk))
def zyA (z:Int) (ev2:Int) (zp8:(Sl Gate)) (zp9:(Sl straight)):(Frac×Frac×Int) :=
  (cond (ev2 != (0:Int))
 ((⟨(0:Int),(0:Int)⟩:Frac),(⟨(0:Int),(0:Int)⟩:Frac),ev2)
 (zyy z zp8 zp9))
def zyB (z:Int) (ev2:Int) (zp8:(Sl Gate)) (zp9:(Sl straight)):Bool :=
  (cond (ev2 != (0:Int))
 true
 (zyz z zp8 zp9))
theorem zGn (hs:zyB z ev2 zp8 zp9=true) (hk:K (e30 (zyA z ev2 zp8 zp9))) (zGo:zyt=zg zac zp8) (zGp:zyu=zg zak zp9):z30 K [1,1,1] [] ⟨[(3,zp 3 0),(4,zp 4 0),(5,zp 5 0),(7,zp 7 0),(8,zI ev2)],[(3,.fbox [.int .i64 z]),(4,.box 25 (zm (zai (⟨(0:Int),(0:Int)⟩:Frac)))),(5,.box 25 (zm (zai (⟨(0:Int),(0:Int)⟩:Frac)))),(7,.box 104 [.p (.sl zp8.len 3 zyt),.p (.sl zp9.len 3 zyu)])],[]⟩:=by subst zGo;subst zGp;exact zaI (by kernel_rfl) (zc hs hk (fun hs hk=>hk) (fun hs hk=>(zGk hs hk rfl rfl)))
def zyC (zaa:(Sl Gate)) (z:Int):(Frac×Frac×Int) :=
  (zyA z ((zvu z zaa).2) (((zvu z zaa).1).list.Gates) (((zvu z zaa).1).corners))
def zyD (zaa:(Sl Gate)) (z:Int):Bool :=
  (decide ((zNr z zaa=true)) &&
 (zyB z ((zvu z zaa).2) (((zvu z zaa).1).list.Gates) (((zvu z zaa).1).corners)))
theorem zGq (hs:zyD zaa z=true) (hk:K (e30 (zyC zaa z))):z30 K [1,1] [] ⟨[(0,zS zac 3 zaa),(3,zp 3 0),(4,zp 4 0),(5,zp 5 0)],[(3,.box 3 [zi z]),(4,.box 25 (zm (zai (⟨(0:Int),(0:Int)⟩:Frac)))),(5,.box 25 (zm (zai (⟨(0:Int),(0:Int)⟩:Frac))))],[]⟩:=zaI (by kernel_rfl) (zaG hs fun hc hs=>And.intro (And.intro (zE zac 3 zaa.get) hc) (zGn hs hk rfl rfl))
def zyE (zaa:(Sl Gate)) (z:Int) (zsi:Bool):(Frac×Frac×Int) :=
  (cond zsi
 ((⟨(0:Int),(0:Int)⟩:Frac),(⟨(0:Int),(0:Int)⟩:Frac),(2:Int))
 (zyC zaa z))
def zyF (zaa:(Sl Gate)) (z:Int) (zsi:Bool):Bool :=
  (cond zsi
 true
 (zyD zaa z))
theorem zGr (hs:zyF zaa z zsi=true) (hk:K (e30 (zyE zaa z zsi))):z30 K [1,0,1] [] ⟨[(0,zS zac 3 zaa),(3,zp 3 0),(4,zp 4 0),(5,zp 5 0),(13,zB zsi)],[(3,.box 3 [zi z]),(4,.box 25 (zm (zai (⟨(0:Int),(0:Int)⟩:Frac)))),(5,.box 25 (zm (zai (⟨(0:Int),(0:Int)⟩:Frac))))],[]⟩:=zaI (by kernel_rfl) (zc hs hk (fun hs hk=>hk) (fun hs hk=>(zGq hs hk)))
def s30 (zaa:(Sl Gate)) (z:Int):(Frac×Frac×Int) :=
  (zyE zaa z (!(s74 z (-100000:Int) (200000:Int))))
def p30 (zaa:(Sl Gate)) (z:Int):Bool :=
  (zyF zaa z (!(s74 z (-100000:Int) (200000:Int))))
end
theorem q30 (zaa:(Sl Gate)) (z:Int) (K:List PA→Prop) (hs:p30 zaa z=true) (hk:K (e30 (s30 zaa z))):vcFun Try.prog G30 zGi 30 [.one (.sl zaa.len 3 (fun i=>zac (zaa.get i))),.one (.int .i64 z)] K :=
  zaI (by kernel_rfl) (zGr hs hk)
def zGs : List PA → COut
  | [.one (.sl a0_n a0_s a0_g),.one (.int .i64 a1)]=>.det (IsE zac 3 a0_s a0_g∧p30 (⟨a0_n,zah a0_g⟩:(Sl Gate)) a1=true) [.agg [.int .i64 (((s30 (⟨a0_n,zah a0_g⟩:(Sl Gate)) a1).1).Num),.int .i64 (((s30 (⟨a0_n,zah a0_g⟩:(Sl Gate)) a1).1).Den)],.agg [.int .i64 (((s30 (⟨a0_n,zah a0_g⟩:(Sl Gate)) a1).2.1).Num),.int .i64 (((s30 (⟨a0_n,zah a0_g⟩:(Sl Gate)) a1).2.1).Den)],.one (.int .i64 ((s30 (⟨a0_n,zah a0_g⟩:(Sl Gate)) a1).2.2))]
  | _=>.no
theorem zKD:zal Try.prog 30:=⟨_,rfl,rfl,by kernel_rfl⟩
theorem zPW:Ok Try.prog 30 zGs:=zaY zNs zKD fun args K h=>by
  unfold zGs at h
  split at h
  · rename_i a0_n a0_s a0_g a1
    obtain ⟨⟨⟨rfl,a0_f,rfl⟩,hs⟩,hk⟩:=h
    try rw [zaf a0_f] at hs
    try rw [zaf a0_f] at hk
    exact ⟨(fun _ _=>[]),(fun _=>false),zGi,q30 (⟨a0_n,a0_f⟩:(Sl Gate)) a1 K hs hk⟩
  · exact h.elim
abbrev zOF:Tabs:=Tabs.nil
theorem zKE:TabsOk Try.prog zOF:=TabsOk.nil
abbrev zOG:Ctrs:=csm zOF (fun _ _=>[]) (fun _=>false)
def zyG:Ann:=⟨8,[(0,⟨[0],[],[],[],[],[],[]⟩),(1,⟨[0,4],[],[],[],[],[],[]⟩),(2,⟨[2],[],[],[],[],[],[]⟩),(3,⟨[2],[5],[],[],[],[],[]⟩)],
 [],
 [],
 [],[]⟩
theorem zCs (n : Nat) (get : Nat → List PV) : zwM Try.prog zOG zyG 105 [.one (.sl n 3 get)] 118 3 24 n get =
  ((True)∧(∃ r1:Bool,(n ≠ 0→r1=false))∧∀ r1:Bool,(n ≠ 0→r1=false) →
 (zcP r1
 (True∧n=0)
 ((((0+n) * 24≤140737488355328∧0+n≤9223372036854775807)) ∧
 (True∧118=118∧3=3∧24=24∧(0+n)=n∧∀ i,i < n→(appG 0 (zd7 []) get) i=get i)))):=by kernel_rfl
abbrev zDy:OwnK:=.clone 118 3 24
theorem zGt:zal Try.prog 105:=⟨_,rfl,rfl,by kernel_rfl⟩
theorem zNt:zmQ Try.prog 105 zDy:=zwP zKE zGt fun n get h1 h2=>by
  refine ⟨fun _ _=>[],fun _=>false,zyG,?_⟩
  show zwM Try.prog zOG zyG 105 _ _ _ _ _ _
  rw [zCs]
  refine ⟨trivial,⟨decide (n=0),fun h=>decide_eq_false h⟩,fun r1 hr=>?_⟩
  cases r1
  · refine ⟨⟨by omega,by omega⟩,trivial,rfl,rfl,rfl,Nat.zero_add n,fun i _=>rfl⟩
  · exact ⟨trivial,Classical.byContradiction fun h=>by simpa using hr h⟩
abbrev zDz:OwnK:=.sort 118 3 24
theorem zNu:zmQ Try.prog 106 zDz:=zwS Try.laysS106 rfl rfl rfl (fun h=>h) ⟨_,rfl,rfl,by kernel_rfl⟩
abbrev zOH:Tabs:=(Tabs.nil.addF 99 zxk)
theorem zKF:TabsOk Try.prog zOH:=(TabsOk.nil.addF zMR)
abbrev zPX:Ctrs:=csm zOH (fun _ _=>[]) (fun _=>false)
def zDA:Ann:=⟨10,[(0,zK [2,3] [2,3]),(1,zK [4] [])],
 [],
 [],
 [],[]⟩
abbrev zPY:=Bool
abbrev e108 (r:zPY):List PA:=[.one (.bool r)]
section
variable {K:List PA→Prop} {s:set} {x:straight}
def zDB (s:set) (x:straight):Bool :=
  (zMP x s.list.Gates)
def zMa (s:set) (x:straight):Bool :=
  (decide ((zMQ x s.list.Gates=true)) &&
 true)
end
theorem zPZ (s:set) (x:straight) (K:List PA→Prop) (hs:zMa s x=true) (hk:K (e108 (zDB s x))):vcFun Try.prog zPX zDA 108 [.agg (zbg s),.agg (zak x)] K :=
  zaI (by kernel_rfl) (zaG hs fun hc hs=>And.intro (And.intro (zE zac 3 s.list.Gates.get) hc) hk)
def zyH : List PA → COut
  | [.agg [.sl a0_list_Gates_n a0_list_Gates_s a0_list_Gates_g,.sl a0_corners_n a0_corners_s a0_corners_g],.agg [.int .i64 a1_slope,.int .i64 a1_start,.int .i64 a1_den]]=>.det (IsE zac 3 a0_list_Gates_s a0_list_Gates_g∧IsE zak 3 a0_corners_s a0_corners_g∧zMa (⟨(⟨(⟨a0_list_Gates_n,zah a0_list_Gates_g⟩:(Sl Gate))⟩:list),(⟨a0_corners_n,za7 a0_corners_g⟩:(Sl straight))⟩:set) (⟨a1_slope,a1_start,a1_den⟩:straight)=true) [.one (.bool (zDB (⟨(⟨(⟨a0_list_Gates_n,zah a0_list_Gates_g⟩:(Sl Gate))⟩:list),(⟨a0_corners_n,za7 a0_corners_g⟩:(Sl straight))⟩:set) (⟨a1_slope,a1_start,a1_den⟩:straight)))]
  | _=>.no
theorem zGu:zal Try.prog 108:=⟨_,rfl,rfl,by kernel_rfl⟩
theorem zNv:Ok Try.prog 108 zyH:=zaY zKF zGu fun args K h=>by
  unfold zyH at h
  split at h
  · rename_i a0_list_Gates_n a0_list_Gates_s a0_list_Gates_g a0_corners_n a0_corners_s a0_corners_g a1_slope a1_start a1_den
    obtain ⟨⟨⟨rfl,a0_list_Gates_f,rfl⟩,⟨rfl,a0_corners_f,rfl⟩,hs⟩,hk⟩:=h
    try rw [zaf a0_list_Gates_f] at hs
    try rw [zaf a0_list_Gates_f] at hk
    try rw [za1 a0_corners_f] at hs
    try rw [za1 a0_corners_f] at hk
    exact ⟨(fun _ _=>[]),(fun _=>false),zDA,zPZ (⟨(⟨(⟨a0_list_Gates_n,a0_list_Gates_f⟩:(Sl Gate))⟩:list),(⟨a0_corners_n,a0_corners_f⟩:(Sl straight))⟩:set) (⟨a1_slope,a1_start,a1_den⟩:straight) K hs hk⟩
  · exact h.elim
abbrev zOI:Tabs:=(((Tabs.nil.addF 69 zvr).addF 89 zvo).addF 108 zyH)
theorem zKG:TabsOk Try.prog zOI:=(((TabsOk.nil.addF zL4).addF zL3).addF zNv)
abbrev zP0:Ctrs:=csm zOI (fun _ _=>[]) (fun _=>false)
def zDC:Ann:=⟨38,[(0,zK [2,3,4] [3,4]),(1,zK [3,4,6,7] [3,4]),(2,zK [6,7,8] []),(3,zK [6,7,8,26] []),(4,zK [5] []),(5,zK [7,8,32] []),(6,zK [5] []),(7,zK [8,34] []),(8,zK [5] []),(9,zK [5] [])],
 [],
 [],
 [],[]⟩
abbrev zP1:=Int
abbrev zP2 (r:zP1):List PA:=[.one (.int .i64 r)]
section
variable {K:List PA→Prop} {c0:set} {a:straight} {b:straight}
def zMb (c0:set) (a:straight) (b:straight):Int :=
  (cond (zDB c0 a)
 (cond (zDB c0 b)
 (s69 (s89 a.slope a.den) (s89 b.slope b.den))
 (cond (zDB c0 a)
 (-1:Int)
 (cond (zDB c0 b)
 (1:Int)
 (w64 (0 - (s69 (s89 a.slope a.den) (s89 b.slope b.den)))))))
 (cond (zDB c0 a)
 (-1:Int)
 (cond (zDB c0 b)
 (1:Int)
 (w64 (0 - (s69 (s89 a.slope a.den) (s89 b.slope b.den)))))))
def zMc (c0:set) (a:straight) (b:straight):Bool :=
  (decide ((zMa c0 a=true)) &&
 (decide ((zMa c0 b=true)) &&
 (decide ((p89 a.slope a.den=true)) &&
 (decide ((p89 b.slope b.den=true)) &&
 true))))
end
theorem zP3 (c0:set) (a:straight) (b:straight) (K:List PA→Prop) (hs:zMc c0 a b=true) (hk:K (zP2 (zMb c0 a b))):vcFun Try.prog zP0 zDC 107 [.agg (zak a),.agg (zak b),.one (.fp (zbg c0) 0)] K :=
  zaI (by kernel_rfl) (zaG hs fun hc hs=>And.intro (And.intro (zE zac 3 c0.list.Gates.get) (And.intro (zE zak 3 c0.corners.get) hc)) (zaG hs fun hc hs=>And.intro (And.intro (zE zac 3 c0.list.Gates.get) (And.intro (zE zak 3 c0.corners.get) hc)) (zaG hs fun hc hs=>And.intro hc (zaG hs fun hc hs=>And.intro hc (zt hk (fun hk=>(zt hk (fun hk=>hk) (fun hk=>(zt hk (fun hk=>hk) (fun hk=>(zt hk (fun hk=>hk) (fun hk=>hk))))))) (fun hk=>(zt hk (fun hk=>hk) (fun hk=>(zt hk (fun hk=>hk) (fun hk=>hk))))))))))
def zqa : List PA → COut
  | [.agg [.int .i64 a0_slope,.int .i64 a0_start,.int .i64 a0_den],.agg [.int .i64 a1_slope,.int .i64 a1_start,.int .i64 a1_den],.one (.fp [.sl c0_list_Gates_n c0_list_Gates_s c0_list_Gates_g,.sl c0_corners_n c0_corners_s c0_corners_g] 0)]=>.det (IsE zac 3 c0_list_Gates_s c0_list_Gates_g∧IsE zak 3 c0_corners_s c0_corners_g∧zMc (⟨(⟨(⟨c0_list_Gates_n,zah c0_list_Gates_g⟩:(Sl Gate))⟩:list),(⟨c0_corners_n,za7 c0_corners_g⟩:(Sl straight))⟩:set) (⟨a0_slope,a0_start,a0_den⟩:straight) (⟨a1_slope,a1_start,a1_den⟩:straight)=true) [.one (.int .i64 (zMb (⟨(⟨(⟨c0_list_Gates_n,zah c0_list_Gates_g⟩:(Sl Gate))⟩:list),(⟨c0_corners_n,za7 c0_corners_g⟩:(Sl straight))⟩:set) (⟨a0_slope,a0_start,a0_den⟩:straight) (⟨a1_slope,a1_start,a1_den⟩:straight)))]
  | _=>.no
theorem zGv:zal Try.prog 107:=⟨_,rfl,rfl,by kernel_rfl⟩
theorem zNw:Ok Try.prog 107 zqa:=zaY zKG zGv fun args K h=>by
  unfold zqa at h
  split at h
  · rename_i a0_slope a0_start a0_den a1_slope a1_start a1_den c0_list_Gates_n c0_list_Gates_s c0_list_Gates_g c0_corners_n c0_corners_s c0_corners_g
    obtain ⟨⟨⟨rfl,c0_list_Gates_f,rfl⟩,⟨rfl,c0_corners_f,rfl⟩,hs⟩,hk⟩:=h
    try rw [zaf c0_list_Gates_f] at hs
    try rw [zaf c0_list_Gates_f] at hk
    try rw [za1 c0_corners_f] at hs
    try rw [za1 c0_corners_f] at hk
    exact ⟨(fun _ _=>[]),(fun _=>false),zDC,zP3 (⟨(⟨(⟨c0_list_Gates_n,c0_list_Gates_f⟩:(Sl Gate))⟩:list),(⟨c0_corners_n,c0_corners_f⟩:(Sl straight))⟩:set) (⟨a0_slope,a0_start,a0_den⟩:straight) (⟨a1_slope,a1_start,a1_den⟩:straight) K hs hk⟩
  · exact h.elim
abbrev T78:Tabs:=(((Tabs.nil.addO 105 zDy).addO 106 zDz).addF 107 zqa)
theorem zNx:TabsOk Try.prog T78:=(((TabsOk.nil.addO zNt).addO zNu).addF zNw)
abbrev G78:Ctrs:=csm T78 (fun _ _=>[]) (fun _=>false)
def zKH:Ann:=⟨11,[(0,zK [1] [1]),(1,zK [1,3] [1,6]),(2,zK [3] [6]),(3,zK [2] [6])],
 [],
 [],
 [],[]⟩
abbrev R78:=(Sl straight)
abbrev e78 (r:R78):List PA:=[.one (.sl r.len 3 (fun i=>zak (r.get i)))]
section
variable {K:List PA→Prop} {s:set}
def s78 (s:set):(Sl straight) :=
  (⟨s.corners.len,(zqK s.corners.len (fun i j=>(zMb s (s.corners.get i) (s.corners.get j))) s.corners.get)⟩:(Sl straight))
def p78 (s:set):Bool :=
  (decide ((s.corners.len * 24≤140737488355328∧s.corners.len≤9223372036854775807)) &&
 (decide ((s.corners.len≤4611686018427387)∧(sortB s.corners.len (fun i j=>decide (zMc s (s.corners.get i) (s.corners.get j)=true)) (fun i j=>(zMb s (s.corners.get i) (s.corners.get j)))=true)) &&
 true))
end
theorem q78 (s:set) (K:List PA→Prop) (hs:p78 s=true) (hk:K (e78 (s78 s))):vcFun Try.prog G78 zKH 78 [.agg (zbg s)] K :=
  zaI (by kernel_rfl) (zaG hs fun hc hs=>And.intro hc (zaG hs fun hc hs=>And.intro (And.intro (hc.1) ((zBS (hc.2) (fun i j h=>(show IsE zac 3 3 (fun i=>zac (s.list.Gates.get i))∧IsE zak 3 3 (fun i=>zak (s.corners.get i))∧(zMc s (s.corners.get i) (s.corners.get j)=true) from ⟨isE,isE,(of_decide_eq_true h)⟩)) rfl):(∀ i j,i < s.corners.len→j < s.corners.len→zIC (zqa) [.fp (zbg s) 0] true (fun i=>zak (s.corners.get i)) i j)∧STO s.corners.len (zvw (zqa) [.fp (zbg s) 0] true (fun i=>zak (s.corners.get i))))) hk))
def zGw : List PA → COut
  | [.agg [.sl a0_list_Gates_n a0_list_Gates_s a0_list_Gates_g,.sl a0_corners_n a0_corners_s a0_corners_g]]=>.det (IsE zac 3 a0_list_Gates_s a0_list_Gates_g∧IsE zak 3 a0_corners_s a0_corners_g∧p78 (⟨(⟨(⟨a0_list_Gates_n,zah a0_list_Gates_g⟩:(Sl Gate))⟩:list),(⟨a0_corners_n,za7 a0_corners_g⟩:(Sl straight))⟩:set)=true) [.one (.sl ((s78 (⟨(⟨(⟨a0_list_Gates_n,zah a0_list_Gates_g⟩:(Sl Gate))⟩:list),(⟨a0_corners_n,za7 a0_corners_g⟩:(Sl straight))⟩:set)).len) 3 (fun i=>zak ((s78 (⟨(⟨(⟨a0_list_Gates_n,zah a0_list_Gates_g⟩:(Sl Gate))⟩:list),(⟨a0_corners_n,za7 a0_corners_g⟩:(Sl straight))⟩:set)).get i)))]
  | _=>.no
theorem zKI:zal Try.prog 78:=⟨_,rfl,rfl,by kernel_rfl⟩
theorem zP4:Ok Try.prog 78 zGw:=zaY zNx zKI fun args K h=>by
  unfold zGw at h
  split at h
  · rename_i a0_list_Gates_n a0_list_Gates_s a0_list_Gates_g a0_corners_n a0_corners_s a0_corners_g
    obtain ⟨⟨⟨rfl,a0_list_Gates_f,rfl⟩,⟨rfl,a0_corners_f,rfl⟩,hs⟩,hk⟩:=h
    try rw [zaf a0_list_Gates_f] at hs
    try rw [zaf a0_list_Gates_f] at hk
    try rw [za1 a0_corners_f] at hs
    try rw [za1 a0_corners_f] at hk
    exact ⟨(fun _ _=>[]),(fun _=>false),zKH,q78 (⟨(⟨(⟨a0_list_Gates_n,a0_list_Gates_f⟩:(Sl Gate))⟩:list),(⟨a0_corners_n,a0_corners_f⟩:(Sl straight))⟩:set) K hs hk⟩
  · exact h.elim
abbrev T31:Tabs:=(((Tabs.nil.addF 75 zCr).addF 78 zGw).addF 79 zB8)
theorem zNy:TabsOk Try.prog T31:=(((TabsOk.nil.addF zOE).addF zP4).addF zOk)
abbrev G31:Ctrs:=csm T31 (fun _ _=>[]) (fun _=>false)
def zGx:Ann:=⟨31,[(0,zK [0] []),(1,zK [4,5] [4]),(2,zK [4,5,15] [4]),(3,zK [2,3] []),(4,zK [4,6] [4]),(5,zK [6,18,19,20] []),(6,zK [6,18,19,20,21] [28]),(7,zK [6,8,18,19,20] [8,28]),(8,zK [6,18,19,20] [28]),(9,zK [6,18,19,20] [28]),(10,zK [2,3] [28])],
 [(6,⟨[6,18,19,20],[28],[(6,28,37,fun _=>zcm default)],[],[],[],[]⟩)],
 [(2,zK [4,5] [4]),(4,zK [4] [4]),(6,zK [6,18,19,20] [])],
 [],[]⟩
abbrev R31:=((Sl Line)×Int)
abbrev e31 (r:R31):List PA:=[.one (.sl r.1.len 4 (fun i=>zcm (r.1.get i))),.one (.int .i64 r.2)]
@[irreducible] def z31:=ptF Try.prog G31 zGx Try.f31
def zDD (zcQ:(Sl straight)) (zc9:Int) (zdP:Int) (zdp:(Sl Line)) (zgg:Nat→List PV):St:=⟨[(6,zv 28),(18,zS zak 3 zcQ),(19,zI zc9),(20,zI zdP)],[(28,.vec 37 4 32 zdp.len zgg)],[]⟩
abbrev zKJ (K:List PA→Prop) (zcQ:(Sl straight)) (zc9:Int) (X:St→Prop) (P:Int→(Sl Line)→Bool) (S:Int→(Sl Line)→((Sl Line)×Int)):Prop:=∀ ⦃zdP:Int⦄ ⦃zdp:(Sl Line)⦄ ⦃zgg:Nat→List PV⦄,P zdP zdp=true→K (e31 (S zdP zdp))→zgg=zg zcm zdp→X (zDD zcQ zc9 zdP zdp zgg)
section
variable {K:List PA→Prop} {zaa:(Sl Gate)} {ev0:Int} {zqb:(Sl Gate)} {zqc:(Sl straight)} {zyI:Nat→List PV} {zyJ:Nat→List PV} {zjO:(Sl Gate)} {zjP:(Sl straight)} {zyK:Nat→List PV} {zyL:Nat→List PV} {zcQ:(Sl straight)} {zc9:Int} {zyM:Nat→List PV} {zdP:Int} {zdp:(Sl Line)} {zgg:Nat→List PV} {X3:St→Prop} {P3:Int→(Sl Line)→Bool} {S3:Int→(Sl Line)→((Sl Line)×Int)}
def zyN (zcQ:(Sl straight)) (zc9:Int) (S3:Int→(Sl Line)→((Sl Line)×Int)) (zdP:Int) (zdp:(Sl Line)):((Sl Line)×Int) :=
  (cond (decide (zdP < zc9))
 (S3 (w64 (zdP+(1:Int))) (⟨(zdp.len+1),(zeb zdp.len zdp.get (fun _=>(s79 (zcQ.get zdP.toNat))))⟩:Sl Line))
 (zdp,(0:Int)))
def zyO (zcQ:(Sl straight)) (zc9:Int) (P3:Int→(Sl Line)→Bool) (zdP:Int) (zdp:(Sl Line)):Bool :=
  (cond (decide (zdP < zc9))
 (decide ((0≤zdP∧zdP < (zcQ.len:Int))) &&
 (decide ((p79 (zcQ.get zdP.toNat)=true)) &&
 (decide (((zdp.len+1) * 32≤140737488355328∧zdp.len+1≤9223372036854775807)) &&
 (P3 (w64 (zdP+(1:Int))) (⟨(zdp.len+1),(zeb zdp.len zdp.get (fun _=>(s79 (zcQ.get zdP.toNat))))⟩:Sl Line)))))
 true)
def zyP (zcQ:(Sl straight)) (zc9:Int):Nat→Int→(Sl Line)→((Sl Line)×Int):=lpO (fun _ _=>default) (zyN zcQ zc9)
def zyQ (zcQ:(Sl straight)) (zc9:Int):Nat→Int→(Sl Line)→Bool:=lpO (fun _ _=>false) (zyO zcQ zc9)
def zyR (zcQ:(Sl straight)) (zc9:Int) (zdP:Int) (zdp:(Sl Line)):((Sl Line)×Int):=zyP zcQ zc9 Fuel zdP zdp
def zyS (zcQ:(Sl straight)) (zc9:Int) (zdP:Int) (zdp:(Sl Line)):Bool:=zyQ zcQ zc9 Fuel zdP zdp
theorem zGy (hs:zyS zcQ zc9 zdP zdp=true) (hk:K (e31 (zyR zcQ zc9 zdP zdp))) (zsj:zgg=zg zcm zdp):z31 (Wk K) [1,1,1,1,0,1,0] [] (zDD zcQ zc9 zdP zdp zgg) :=
  zl (fun X=>z31 (Wk K) [1,1,1,1,0,1,0,0] [X]) (by kernel_rfl) fun X3 hX =>
  (show ∀ k, zKJ K zcQ zc9 X3 (zyQ zcQ zc9 k) (zyP zcQ zc9 k) from zgM _ _ (zyO zcQ zc9) (zyN zcQ zc9) (zKJ K zcQ zc9 X3)
 (by intro _ _ _ hs;exact absurd hs Bool.false_ne_true)
 (by intro P3 S3 hX3 zdP zdp zgg hs hk zsj;subst zsj;exact hX _ (zaI (by kernel_rfl) (zc hs hk (fun hs hk=>(zaG hs fun hc hs=>And.intro hc (zaG hs fun hc hs=>And.intro hc (zaG hs fun hc hs=>And.intro hc (hX3 hs hk (zgU (enc:=zcm) (f:=zdp.get) (h:=(fun _=>(s79 (zcQ.get zdP.toNat)))) rfl rfl)))))) (fun hs hk=>((zd0 hk):Wk K [.one (.sl zdp.len 4 (fun i=>zcm (zdp.get i))),.one (.int .i64 (0:Int))])))))) _ hs hk zsj
def zyT (zcQ:(Sl straight)) (zc9:Int):((Sl Line)×Int) :=
  (zyR zcQ zc9 (0:Int) (⟨0,(fun _=>default)⟩:Sl Line))
def zyU (zcQ:(Sl straight)) (zc9:Int):Bool :=
  (zyS zcQ zc9 (0:Int) (⟨0,(fun _=>default)⟩:Sl Line))
theorem zGz (hs:zyU zcQ zc9=true) (hk:K (e31 (zyT zcQ zc9))) (zGA:zyM=zg zak zcQ):z31 (Wk K) [1,1,1,1,0,1] [] ⟨[(6,zP (.nils)),(18,zP (.sl zcQ.len 3 zyM)),(19,zI zc9),(20,zI (0:Int))],[],[]⟩:=by subst zGA;exact zaI (by kernel_rfl) (zGy hs hk rfl)
def zyV (zjO:(Sl Gate)) (zjP:(Sl straight)):((Sl Line)×Int) :=
  (zyT (s78 (⟨(⟨zjO⟩:list),zjP⟩:set)) ((s78 (⟨(⟨zjO⟩:list),zjP⟩:set)).len:Int))
def zyW (zjO:(Sl Gate)) (zjP:(Sl straight)):Bool :=
  (decide ((p78 (⟨(⟨zjO⟩:list),zjP⟩:set)=true)) &&
 (zyU (s78 (⟨(⟨zjO⟩:list),zjP⟩:set)) ((s78 (⟨(⟨zjO⟩:list),zjP⟩:set)).len:Int)))
theorem zGB (hs:zyW zjO zjP=true) (hk:K (e31 (zyV zjO zjP))) (zGC:zyK=zg zac zjO) (zGD:zyL=zg zak zjP):z31 (Wk K) [1,1,1] [] ⟨[(4,zp 4 0)],[(4,.box 104 [.p (.sl zjO.len 3 zyK),.p (.sl zjP.len 3 zyL)])],[]⟩:=by subst zGC;subst zGD;exact zaI (by kernel_rfl) (zaG hs fun hc hs=>And.intro (And.intro (zE zac 3 zjO.get) (And.intro (zE zak 3 zjP.get) hc)) (zGz hs hk rfl))
def zyX (ev0:Int) (zqb:(Sl Gate)) (zqc:(Sl straight)):((Sl Line)×Int) :=
  (cond (ev0 != (0:Int))
 ((⟨0,fun _=>default⟩:(Sl Line)),ev0)
 (zyV zqb zqc))
def zyY (ev0:Int) (zqb:(Sl Gate)) (zqc:(Sl straight)):Bool :=
  (cond (ev0 != (0:Int))
 true
 (zyW zqb zqc))
theorem zGE (hs:zyY ev0 zqb zqc=true) (hk:K (e31 (zyX ev0 zqb zqc))) (zGF:zyI=zg zac zqb) (zGG:zyJ=zg zak zqc):z31 (Wk K) [1,1] [] ⟨[(4,zp 4 0),(5,zI ev0)],[(4,.box 104 [.p (.sl zqb.len 3 zyI),.p (.sl zqc.len 3 zyJ)])],[]⟩:=by subst zGF;subst zGG;exact zaI (by kernel_rfl) (zc hs hk (fun hs hk=>((wk hk (zdy (.one (.nil _ _)) (zdy (.one (.rfl _)) zh1))):Wk K [.one (.nils),.one (.int .i64 ev0)])) (fun hs hk=>(zGB hs hk rfl rfl)))
def s31 (zaa:(Sl Gate)):((Sl Line)×Int) :=
  (zyX ((s75 zaa).2) (((s75 zaa).1).list.Gates) (((s75 zaa).1).corners))
def p31 (zaa:(Sl Gate)):Bool :=
  (decide ((p75 zaa=true)) &&
 (zyY ((s75 zaa).2) (((s75 zaa).1).list.Gates) (((s75 zaa).1).corners)))
end
theorem q31 (zaa:(Sl Gate)) (K:List PA→Prop) (hs:p31 zaa=true) (hk:K (e31 (s31 zaa))):vcFun Try.prog G31 zGx 31 [.one (.sl zaa.len 3 (fun i=>zac (zaa.get i)))] (Wk K) :=
  zaI (by kernel_rfl) (zaG hs fun hc hs=>And.intro (And.intro (zE zac 3 zaa.get) hc) (zGE hs hk rfl rfl))
def zGH : List PA → COut
  | [.one (.sl a0_n a0_s a0_g)]=>.det (IsE zac 3 a0_s a0_g∧p31 (⟨a0_n,zah a0_g⟩:(Sl Gate))=true) [.one (.sl (((s31 (⟨a0_n,zah a0_g⟩:(Sl Gate))).1).len) 4 (fun i=>zcm (((s31 (⟨a0_n,zah a0_g⟩:(Sl Gate))).1).get i))),.one (.int .i64 ((s31 (⟨a0_n,zah a0_g⟩:(Sl Gate))).2))]
  | _=>.no
theorem zKK:zal Try.prog 31:=⟨_,rfl,rfl,by kernel_rfl⟩
theorem zP5:Ok Try.prog 31 zGH:=zfW zNy zKK fun args K h=>by
  unfold zGH at h
  split at h
  · rename_i a0_n a0_s a0_g
    obtain ⟨⟨⟨rfl,a0_f,rfl⟩,hs⟩,hk⟩:=h
    try rw [zaf a0_f] at hs
    try rw [zaf a0_f] at hk
    exact ⟨_,zeY zfF _,(fun _ _=>[]),(fun _=>false),zGx,q31 (⟨a0_n,a0_f⟩:(Sl Gate)) K hs hk⟩
  · exact h.elim
abbrev T34:Tabs:=Tabs.nil
theorem zNz:TabsOk Try.prog T34:=TabsOk.nil
abbrev G34:Ctrs:=csm T34 (fun _ _=>[]) (fun _=>false)
def zGI:Ann:=⟨26,[(0,zK [0,1] []),(1,zK [0,1,10] []),(2,zK [4] []),(3,zK [0,1,5] []),(4,zK [0,1,5,14] []),(5,zK [0,1,5] []),(6,zK [0,1,5,25] []),(7,zK [4] []),(8,zK [4] [])],
 [(4,zK [0,1,5] [])],
 [(3,zK [0,1] [])],
 [],[]⟩
abbrev R34:=Bool
abbrev e34 (r:R34):List PA:=[.one (.bool r)]
@[irreducible] def z34:=ptF Try.prog G34 zGI Try.f34
def zDE (a:(Sl Line)) (b:(Sl Line)) (iv1:Int):St:=⟨[(0,zS zcm 4 a),(1,zS zcm 4 b),(5,zI iv1)],[],[]⟩
abbrev zKL (K:List PA→Prop) (a:(Sl Line)) (b:(Sl Line)) (X:St→Prop) (P:Int→Bool) (S:Int→Bool):Prop:=∀ ⦃iv1:Int⦄,P iv1=true→K (e34 (S iv1))→X (zDE a b iv1)
section
variable {K:List PA→Prop} {a:(Sl Line)} {b:(Sl Line)} {iv1:Int} {X1:St→Prop} {P1:Int→Bool} {S1:Int→Bool}
def zyZ (a:(Sl Line)) (b:(Sl Line)) (S1:Int→Bool) (iv1:Int):Bool :=
  (cond (decide (iv1 < (a.len : Int)))
 (cond (!(match (match ((a.get iv1.toNat).Slope.Num == (b.get iv1.toNat).Slope.Num) with | true => (match ((a.get iv1.toNat).Slope.Den == (b.get iv1.toNat).Slope.Den) with | true => true | false => false) | false => false) with | true => (match (match ((a.get iv1.toNat).Start.Num == (b.get iv1.toNat).Start.Num) with | true => (match ((a.get iv1.toNat).Start.Den == (b.get iv1.toNat).Start.Den) with | true => true | false => false) | false => false) with | true => true | false => false) | false => false))
 false
 (S1 (w64 (iv1+(1:Int)))))
 true)
def zy0 (a:(Sl Line)) (b:(Sl Line)) (P1:Int→Bool) (iv1:Int):Bool :=
  (cond (decide (iv1 < (a.len : Int)))
 (decide ((0≤iv1∧iv1 < (a.len:Int))) &&
 (decide ((0≤iv1∧iv1 < (b.len:Int))) &&
 (cond (!(match (match ((a.get iv1.toNat).Slope.Num == (b.get iv1.toNat).Slope.Num) with | true => (match ((a.get iv1.toNat).Slope.Den == (b.get iv1.toNat).Slope.Den) with | true => true | false => false) | false => false) with | true => (match (match ((a.get iv1.toNat).Start.Num == (b.get iv1.toNat).Start.Num) with | true => (match ((a.get iv1.toNat).Start.Den == (b.get iv1.toNat).Start.Den) with | true => true | false => false) | false => false) with | true => true | false => false) | false => false))
 true
 (P1 (w64 (iv1+(1:Int)))))))
 true)
def zy1 (a:(Sl Line)) (b:(Sl Line)):Nat→Int→Bool:=lpO (fun _=>default) (zyZ a b)
def zy2 (a:(Sl Line)) (b:(Sl Line)):Nat→Int→Bool:=lpO (fun _=>false) (zy0 a b)
def zy3 (a:(Sl Line)) (b:(Sl Line)) (iv1:Int):Bool:=zy1 a b Fuel iv1
def zy4 (a:(Sl Line)) (b:(Sl Line)) (iv1:Int):Bool:=zy2 a b Fuel iv1
theorem zGJ (hs:zy4 a b iv1=true) (hk:K (e34 (zy3 a b iv1))):z34 K [1,1,0,1,0] [] (zDE a b iv1) :=
  zl (fun X=>z34 K [1,1,0,1,0,0] [X]) (by kernel_rfl) fun X1 hX =>
  (show ∀ k, zKL K a b X1 (zy2 a b k) (zy1 a b k) from zgM _ _ (zy0 a b) (zyZ a b) (zKL K a b X1)
 (by intro _ hs;exact absurd hs Bool.false_ne_true)
 (by intro P1 S1 hX1 iv1 hs hk;exact hX _ (zaI (by kernel_rfl) (zc hs hk (fun hs hk=>(zaG hs fun hc hs=>And.intro hc (zaG hs fun hc hs=>And.intro hc (zc hs hk (fun hs hk=>hk) (fun hs hk=>(hX1 hs hk)))))) (fun hs hk=>hk))))) _ hs hk
def zy5 (a:(Sl Line)) (b:(Sl Line)):Bool :=
  (zy3 a b (0:Int))
def zy6 (a:(Sl Line)) (b:(Sl Line)):Bool :=
  (zy4 a b (0:Int))
theorem zGK (hs:zy6 a b=true) (hk:K (e34 (zy5 a b))):z34 K [1,1] [] ⟨[(0,zS zcm 4 a),(1,zS zcm 4 b)],[],[]⟩:=zaI (by kernel_rfl) (zGJ hs hk)
def s34 (a:(Sl Line)) (b:(Sl Line)):Bool :=
  (cond ((a.len : Int) != (b.len : Int))
 false
 (zy5 a b))
def p34 (a:(Sl Line)) (b:(Sl Line)):Bool :=
  (cond ((a.len : Int) != (b.len : Int))
 true
 (zy6 a b))
end
theorem q34 (a:(Sl Line)) (b:(Sl Line)) (K:List PA→Prop) (hs:p34 a b=true) (hk:K (e34 (s34 a b))):vcFun Try.prog G34 zGI 34 [.one (.sl a.len 4 (fun i=>zcm (a.get i))),.one (.sl b.len 4 (fun i=>zcm (b.get i)))] K :=
  zaI (by kernel_rfl) (zc hs hk (fun hs hk=>hk) (fun hs hk=>(zGK hs hk)))
def zGL : List PA → COut
  | [.one (.sl a0_n a0_s a0_g),.one (.sl a1_n a1_s a1_g)]=>.det (IsE zcm 4 a0_s a0_g∧IsE zcm 4 a1_s a1_g∧p34 (⟨a0_n,zk1 a0_g⟩:(Sl Line)) (⟨a1_n,zk1 a1_g⟩:(Sl Line))=true) [.one (.bool (s34 (⟨a0_n,zk1 a0_g⟩:(Sl Line)) (⟨a1_n,zk1 a1_g⟩:(Sl Line))))]
  | _=>.no
theorem zKM:zal Try.prog 34:=⟨_,rfl,rfl,by kernel_rfl⟩
theorem zP6:Ok Try.prog 34 zGL:=zaY zNz zKM fun args K h=>by
  unfold zGL at h
  split at h
  · rename_i a0_n a0_s a0_g a1_n a1_s a1_g
    obtain ⟨⟨⟨rfl,a0_f,rfl⟩,⟨rfl,a1_f,rfl⟩,hs⟩,hk⟩:=h
    try rw [zfj a0_f] at hs
    try rw [zfj a0_f] at hk
    try rw [zfj a1_f] at hs
    try rw [zfj a1_f] at hk
    exact ⟨(fun _ _=>[]),(fun _=>false),zGI,q34 (⟨a0_n,a0_f⟩:(Sl Line)) (⟨a1_n,a1_f⟩:(Sl Line)) K hs hk⟩
  · exact h.elim
abbrev T84:Tabs:=((Tabs.nil.addF 65 zxt).addF 66 zxA)
theorem zNA:TabsOk Try.prog T84:=((TabsOk.nil.addF zM3).addF zM6)
abbrev G84:Ctrs:=csm T84 (fun _ _=>[]) (fun _=>false)
def zGM:Ann:=⟨25,[(0,zK [0,1] []),(1,zK [0,1,5] []),(2,zK [0,5,8,9,10] []),(3,zK [0,5,8,9,10,11] [20]),(4,zK [0,5,7,8,9,10] [20]),(5,zK [0,5,8,9,10] [20]),(6,zK [0,5,8,9,10] [20]),(7,zK [4] [])],
 [(3,⟨[0,5,8,9,10],[20],[(5,20,55,fun _=>zac default)],[],[],[],[]⟩)],
 [],
 [],[]⟩
abbrev R84:=Bool
abbrev e84 (r:R84):List PA:=[.one (.bool r)]
@[irreducible] def z84:=ptF Try.prog G84 zGM Try.f84
def zDF (zaa:(Sl Gate)) (l_a1:(Sl Int)) (zdG:Int) (zc5:(Sl Gate)) (zgh:Nat→List PV):St:=⟨[(0,zS zac 3 zaa),(5,zv 20),(8,zS enc_3 1 l_a1),(9,zI (l_a1.len:Int)),(10,zI zdG)],[(20,.vec 55 3 24 zc5.len zgh)],[]⟩
abbrev zKN (K:List PA→Prop) (zaa:(Sl Gate)) (l_a1:(Sl Int)) (X:St→Prop) (P:Int→(Sl Gate)→Bool) (S:Int→(Sl Gate)→Bool):Prop:=∀ ⦃zdG:Int⦄ ⦃zc5:(Sl Gate)⦄ ⦃zgh:Nat→List PV⦄,P zdG zc5=true→K (e84 (S zdG zc5))→zgh=zg zac zc5→X (zDF zaa l_a1 zdG zc5 zgh)
section
variable {K:List PA→Prop} {zaa:(Sl Gate)} {l_a1:(Sl Int)} {zdG:Int} {zc5:(Sl Gate)} {zgh:Nat→List PV} {X0:St→Prop} {P0:Int→(Sl Gate)→Bool} {S0:Int→(Sl Gate)→Bool}
def zy7 (zaa:(Sl Gate)) (l_a1:(Sl Int)) (S0:Int→(Sl Gate)→Bool) (zdG:Int) (zc5:(Sl Gate)):Bool :=
  (cond (decide (zdG < (l_a1.len : Int)))
 (S0 (w64 (zdG+(1:Int))) (⟨(zc5.len+1),(zeb zc5.len zc5.get (fun _=>(zaa.get ((l_a1.get zdG.toNat).toNat))))⟩:Sl Gate))
 (s66 (s65 zc5)))
def zy8 (zaa:(Sl Gate)) (l_a1:(Sl Int)) (P0:Int→(Sl Gate)→Bool) (zdG:Int) (zc5:(Sl Gate)):Bool :=
  (cond (decide (zdG < (l_a1.len : Int)))
 (decide ((0≤zdG∧zdG < (l_a1.len:Int))) &&
 (decide ((0≤(l_a1.get zdG.toNat)∧(l_a1.get zdG.toNat) < (zaa.len:Int))) &&
 (decide (((zc5.len+1) * 24≤140737488355328∧zc5.len+1≤9223372036854775807)) &&
 (P0 (w64 (zdG+(1:Int))) (⟨(zc5.len+1),(zeb zc5.len zc5.get (fun _=>(zaa.get ((l_a1.get zdG.toNat).toNat))))⟩:Sl Gate)))))
 (decide ((p65 zc5=true)) &&
 (decide ((p66 (s65 zc5)=true)) &&
 true)))
def zy9 (zaa:(Sl Gate)) (l_a1:(Sl Int)):Nat→Int→(Sl Gate)→Bool:=lpO (fun _ _=>default) (zy7 zaa l_a1)
def zza (zaa:(Sl Gate)) (l_a1:(Sl Int)):Nat→Int→(Sl Gate)→Bool:=lpO (fun _ _=>false) (zy8 zaa l_a1)
def zzb (zaa:(Sl Gate)) (l_a1:(Sl Int)) (zdG:Int) (zc5:(Sl Gate)):Bool:=zy9 zaa l_a1 Fuel zdG zc5
def zzc (zaa:(Sl Gate)) (l_a1:(Sl Int)) (zdG:Int) (zc5:(Sl Gate)):Bool:=zza zaa l_a1 Fuel zdG zc5
theorem zGN (hs:zzc zaa l_a1 zdG zc5=true) (hk:K (e84 (zzb zaa l_a1 zdG zc5))) (zsk:zgh=zg zac zc5):z84 K [1,1,0,1,0] [] (zDF zaa l_a1 zdG zc5 zgh) :=
  zl (fun X=>z84 K [1,1,0,1,0,0] [X]) (by kernel_rfl) fun X0 hX =>
  (show ∀ k, zKN K zaa l_a1 X0 (zza zaa l_a1 k) (zy9 zaa l_a1 k) from zgM _ _ (zy8 zaa l_a1) (zy7 zaa l_a1) (zKN K zaa l_a1 X0)
 (by intro _ _ _ hs;exact absurd hs Bool.false_ne_true)
 (by intro P0 S0 hX0 zdG zc5 zgh hs hk zsk;subst zsk;exact hX _ (zaI (by kernel_rfl) (zc hs hk (fun hs hk=>(zaG hs fun hc hs=>And.intro hc (zaG hs fun hc hs=>And.intro hc (zaG hs fun hc hs=>And.intro hc (hX0 hs hk (zgU (enc:=zac) (f:=zc5.get) (h:=(fun _=>(zaa.get ((l_a1.get zdG.toNat).toNat)))) rfl rfl)))))) (fun hs hk=>(zaG hs fun hc hs=>And.intro (And.intro (zE zac 3 zc5.get) hc) (zaG hs fun hc hs=>And.intro (And.intro (zE zac 3 ((s65 zc5).list.Gates.get)) (And.intro (zE zak 3 ((s65 zc5).corners.get)) hc)) hk))))))) _ hs hk zsk
def s84 (zaa:(Sl Gate)) (l_a1:(Sl Int)):Bool :=
  (zzb zaa l_a1 (0:Int) (⟨0,(fun _=>default)⟩:Sl Gate))
def p84 (zaa:(Sl Gate)) (l_a1:(Sl Int)):Bool :=
  (zzc zaa l_a1 (0:Int) (⟨0,(fun _=>default)⟩:Sl Gate))
end
theorem q84 (zaa:(Sl Gate)) (l_a1:(Sl Int)) (K:List PA→Prop) (hs:p84 zaa l_a1=true) (hk:K (e84 (s84 zaa l_a1))):vcFun Try.prog G84 zGM 84 [.one (.sl zaa.len 3 (fun i=>zac (zaa.get i))),.one (.sl l_a1.len 1 (fun i=>enc_3 (l_a1.get i)))] K :=
  zaI (by kernel_rfl) (zGN hs hk rfl)
def zGO : List PA → COut
  | [.one (.sl a0_n a0_s a0_g),.one (.sl a1_n a1_s a1_g)]=>.det (IsE zac 3 a0_s a0_g∧IsE enc_3 1 a1_s a1_g∧p84 (⟨a0_n,zah a0_g⟩:(Sl Gate)) (⟨a1_n,zcf a1_g⟩:(Sl Int))=true) [.one (.bool (s84 (⟨a0_n,zah a0_g⟩:(Sl Gate)) (⟨a1_n,zcf a1_g⟩:(Sl Int))))]
  | _=>.no
theorem zKO:zal Try.prog 84:=⟨_,rfl,rfl,by kernel_rfl⟩
theorem zP7:Ok Try.prog 84 zGO:=zaY zNA zKO fun args K h=>by
  unfold zGO at h
  split at h
  · rename_i a0_n a0_s a0_g a1_n a1_s a1_g
    obtain ⟨⟨⟨rfl,a0_f,rfl⟩,⟨rfl,a1_f,rfl⟩,hs⟩,hk⟩:=h
    try rw [zaf a0_f] at hs
    try rw [zaf a0_f] at hk
    try rw [zbP a1_f] at hs
    try rw [zbP a1_f] at hk
    exact ⟨(fun _ _=>[]),(fun _=>false),zGM,q84 (⟨a0_n,a0_f⟩:(Sl Gate)) (⟨a1_n,a1_f⟩:(Sl Int)) K hs hk⟩
  · exact h.elim
abbrev T38:Tabs:=((Tabs.nil.addF 64 zvm).addF 84 zGO)
theorem zNB:TabsOk Try.prog T38:=((TabsOk.nil.addF zLY).addF zP7)
abbrev G38:Ctrs:=csm T38 (fun _ _=>[]) (fun _=>false)
def zGP:Ann:=⟨66,[(0,zK [0] []),(1,zK [0,12] []),(2,zK [2,3] []),(3,zK [0,4] []),(4,zK [0,4,15,16] []),(5,zK [0,4,15,16,17] []),(6,zK [0,4,5,15,16] []),(7,zK [0,4,5,6,15,16] []),(8,zK [0,4,5,6,15,16,23] []),(9,zK [0,4,5,6,15,16] []),(10,zK [0,4,5,6,15,16,31] []),(11,zK [2,3] [34]),(12,zK [0,4,15,16] []),(13,zK [0,4,36,37] []),(14,zK [0,4,36,37,38] []),(15,zK [0,4,7,36,37] []),(16,zK [0,4,7,8,36,37] []),(17,zK [0,4,7,8,36,37,44] []),(18,zK [0,4,7,8,36,37] []),(19,zK [0,4,7,8,9,36,37] []),(20,zK [0,4,7,8,9,36,37,51] []),(21,zK [0,4,7,8,9,36,37] []),(22,zK [0,4,7,8,9,36,37,60] []),(23,zK [2,3] [64]),(24,zK [0,4,36,37] []),(25,zK [2,3] [])],
 [(5,zK [0,4,15,16] []),(8,zK [0,4,5,6,15,16] []),(14,zK [0,4,36,37] []),(17,zK [0,4,7,8,36,37] []),(20,zK [0,4,7,8,9,36,37] [])],
 [(2,zK [0,12] []),(3,zK [0] []),(13,zK [0,4] []),(11,zK [0,4,5,6,15,16,31] []),(23,zK [0,4,7,8,9,36,37,60] [])],
 [],[]⟩
abbrev R38:=((Sl Int)×Int)
abbrev e38 (r:R38):List PA:=[.one (.sl r.1.len 1 (fun i=>enc_3 (r.1.get i))),.one (.int .i64 r.2)]
@[irreducible] def z38:=ptF Try.prog G38 zGP Try.f38
def zDG (zaa:(Sl Gate)) (zec:Int):St:=⟨[(0,zS zac 3 zaa),(4,zI (zaa.len:Int)),(15,zI (zaa.len:Int)),(16,zI zec)],[],[]⟩
abbrev zCt (K:List PA→Prop) (zaa:(Sl Gate)) (X:St→Prop) (P:Int→Bool) (S:Int→((Sl Int)×Int)):Prop:=∀ ⦃zec:Int⦄,P zec=true→K (e38 (S zec))→X (zDG zaa zec)
def zDH (zaa:(Sl Gate)) (iv3:Int) (jv3:Int) (zeZ:Int):St:=⟨[(0,zS zac 3 zaa),(4,zI (zaa.len:Int)),(5,zI iv3),(6,zI jv3),(15,zI (zaa.len:Int)),(16,zI zeZ)],[],[]⟩
abbrev zGQ (K:List PA→Prop) (zaa:(Sl Gate)) (X:St→Prop) (P:Int→Int→Int→Bool) (S:Int→Int→Int→((Sl Int)×Int)):Prop:=∀ ⦃iv3:Int⦄ ⦃jv3:Int⦄ ⦃zeZ:Int⦄,P iv3 jv3 zeZ=true→K (e38 (S iv3 jv3 zeZ))→X (zDH zaa iv3 jv3 zeZ)
def zDI (zaa:(Sl Gate)) (zed:Int):St:=⟨[(0,zS zac 3 zaa),(4,zI (zaa.len:Int)),(36,zI (zaa.len:Int)),(37,zI zed)],[],[]⟩
abbrev zzd (K:List PA→Prop) (zaa:(Sl Gate)) (X:St→Prop) (P:Int→Bool) (S:Int→((Sl Int)×Int)):Prop:=∀ ⦃zed:Int⦄,P zed=true→K (e38 (S zed))→X (zDI zaa zed)
def zDJ (zaa:(Sl Gate)) (iv7:Int) (jv7:Int) (ze0:Int):St:=⟨[(0,zS zac 3 zaa),(4,zI (zaa.len:Int)),(7,zI iv7),(8,zI jv7),(36,zI (zaa.len:Int)),(37,zI ze0)],[],[]⟩
abbrev zCu (K:List PA→Prop) (zaa:(Sl Gate)) (X:St→Prop) (P:Int→Int→Int→Bool) (S:Int→Int→Int→((Sl Int)×Int)):Prop:=∀ ⦃iv7:Int⦄ ⦃jv7:Int⦄ ⦃ze0:Int⦄,P iv7 jv7 ze0=true→K (e38 (S iv7 jv7 ze0))→X (zDJ zaa iv7 jv7 ze0)
def zDK (zaa:(Sl Gate)) (iv8:Int) (jv8:Int) (kv8:Int) (ze1:Int):St:=⟨[(0,zS zac 3 zaa),(4,zI (zaa.len:Int)),(7,zI iv8),(8,zI jv8),(9,zI kv8),(36,zI (zaa.len:Int)),(37,zI ze1)],[],[]⟩
abbrev zGR (K:List PA→Prop) (zaa:(Sl Gate)) (X:St→Prop) (P:Int→Int→Int→Int→Bool) (S:Int→Int→Int→Int→((Sl Int)×Int)):Prop:=∀ ⦃iv8:Int⦄ ⦃jv8:Int⦄ ⦃kv8:Int⦄ ⦃ze1:Int⦄,P iv8 jv8 kv8 ze1=true→K (e38 (S iv8 jv8 kv8 ze1))→X (zDK zaa iv8 jv8 kv8 ze1)
section
variable {K:List PA→Prop} {zaa:(Sl Gate)} {zaX:Bool} {zec:Int} {X2:St→Prop} {P2:Int→Bool} {S2:Int→((Sl Int)×Int)} {iv3:Int} {jv3:Int} {zeZ:Int} {X3:St→Prop} {P3:Int→Int→Int→Bool} {S3:Int→Int→Int→((Sl Int)×Int)} {iv5:Int} {jv5:Int} {zsl:Int} {zsm:Bool} {zed:Int} {X6:St→Prop} {P6:Int→Bool} {S6:Int→((Sl Int)×Int)} {iv7:Int} {jv7:Int} {ze0:Int} {X7:St→Prop} {P7:Int→Int→Int→Bool} {S7:Int→Int→Int→((Sl Int)×Int)} {iv8:Int} {jv8:Int} {kv8:Int} {ze1:Int} {X8:St→Prop} {P8:Int→Int→Int→Int→Bool} {S8:Int→Int→Int→Int→((Sl Int)×Int)} {iv9:Int} {jv9:Int} {kv9:Int} {zsn:Int} {zso:Bool}
def zze (S6:Int→((Sl Int)×Int)) (S7:Int→Int→Int→((Sl Int)×Int)) (S8:Int→Int→Int→Int→((Sl Int)×Int)) (zaa:(Sl Gate)) (iv9:Int) (jv9:Int) (kv9:Int) (zsn:Int) (zso:Bool):((Sl Int)×Int) :=
  (cond zso
 ((⟨3,(zfQ iv9 [iv9,jv9,kv9])⟩:(Sl Int)),(0:Int))
 (S8 iv9 jv9 (w64 (kv9+(1:Int))) zsn))
def zzf (P6:Int→Bool) (P7:Int→Int→Int→Bool) (P8:Int→Int→Int→Int→Bool) (zaa:(Sl Gate)) (iv9:Int) (jv9:Int) (kv9:Int) (zsn:Int) (zso:Bool):Bool :=
  (cond zso
 true
 (P8 iv9 jv9 (w64 (kv9+(1:Int))) zsn))
theorem zGS (hX6:zzd K zaa X6 P6 S6) (hX7:zCu K zaa X7 P7 S7) (hX8:zGR K zaa X8 P8 S8) (hs:zzf P6 P7 P8 zaa iv9 jv9 kv9 zsn zso=true) (hk:K (e38 (zze S6 S7 S8 zaa iv9 jv9 kv9 zsn zso))):z38 (Wk K) [1,1,1,1,0,1,0,0,1,1,0,0,1,1,0,0,1,0,0,1,0,0,1,0,0,1] [X6,X7,X8] ⟨[(0,zS zac 3 zaa),(4,zI (zaa.len:Int)),(7,zI iv9),(8,zI jv9),(9,zI kv9),(36,zI (zaa.len:Int)),(37,zI zsn),(60,zB zso)],[],[]⟩:=zaI (by kernel_rfl) (zc hs hk (fun hs hk=>((zd0 (Eq.mpr (congrArg K (congrArg (fun (g_:Nat→List PV)=>([.one (.sl 3 1 g_),.one (.int .i64 (0:Int))]:List PA)) (zfh (enc:=enc_3) (x:=iv9) (y:=jv9) (r:=[kv9])))) hk)):Wk K [.one (.sl 3 1 (zd7 [(enc_3 iv9),(enc_3 jv9),(enc_3 kv9)])),.one (.int .i64 (0:Int))])) (fun hs hk=>(hX8 hs hk)))
def zzg (S6:Int→((Sl Int)×Int)) (S7:Int→Int→Int→((Sl Int)×Int)) (zaa:(Sl Gate)) (S8:Int→Int→Int→Int→((Sl Int)×Int)) (iv8:Int) (jv8:Int) (kv8:Int) (ze1:Int):((Sl Int)×Int) :=
  (cond (decide (kv8 < (zaa.len : Int)))
 (zze S6 S7 S8 zaa iv8 jv8 kv8 ze1 (!(s84 zaa (⟨3,zcf (zd7 [(enc_3 iv8),(enc_3 jv8),(enc_3 kv8)])⟩:(Sl Int)))))
 (S7 iv8 (w64 (jv8+(1:Int))) ze1))
def zzh (P6:Int→Bool) (P7:Int→Int→Int→Bool) (zaa:(Sl Gate)) (P8:Int→Int→Int→Int→Bool) (iv8:Int) (jv8:Int) (kv8:Int) (ze1:Int):Bool :=
  (cond (decide (kv8 < (zaa.len : Int)))
 (decide ((p84 zaa (⟨3,zcf (zd7 [(enc_3 iv8),(enc_3 jv8),(enc_3 kv8)])⟩:(Sl Int))=true)) &&
 (zzf P6 P7 P8 zaa iv8 jv8 kv8 ze1 (!(s84 zaa (⟨3,zcf (zd7 [(enc_3 iv8),(enc_3 jv8),(enc_3 kv8)])⟩:(Sl Int))))))
 (P7 iv8 (w64 (jv8+(1:Int))) ze1))
def zzi (S6:Int→((Sl Int)×Int)) (S7:Int→Int→Int→((Sl Int)×Int)) (zaa:(Sl Gate)):Nat→Int→Int→Int→Int→((Sl Int)×Int):=lpO (fun _ _ _ _=>default) (zzg S6 S7 zaa)
def zzj (P6:Int→Bool) (P7:Int→Int→Int→Bool) (zaa:(Sl Gate)):Nat→Int→Int→Int→Int→Bool:=lpO (fun _ _ _ _=>false) (zzh P6 P7 zaa)
def zzk (S6:Int→((Sl Int)×Int)) (S7:Int→Int→Int→((Sl Int)×Int)) (zaa:(Sl Gate)) (iv8:Int) (jv8:Int) (kv8:Int) (ze1:Int):((Sl Int)×Int):=zzi S6 S7 zaa Fuel iv8 jv8 kv8 ze1
def zzl (P6:Int→Bool) (P7:Int→Int→Int→Bool) (zaa:(Sl Gate)) (iv8:Int) (jv8:Int) (kv8:Int) (ze1:Int):Bool:=zzj P6 P7 zaa Fuel iv8 jv8 kv8 ze1
theorem zGT (hX6:zzd K zaa X6 P6 S6) (hX7:zCu K zaa X7 P7 S7) (hs:zzl P6 P7 zaa iv8 jv8 kv8 ze1=true) (hk:K (e38 (zzk S6 S7 zaa iv8 jv8 kv8 ze1))):z38 (Wk K) [1,1,1,1,0,1,0,0,1,1,0,0,1,1,0,0,1,0,0,1,0] [X6,X7] (zDK zaa iv8 jv8 kv8 ze1) :=
  zl (fun X=>z38 (Wk K) [1,1,1,1,0,1,0,0,1,1,0,0,1,1,0,0,1,0,0,1,0,0] [X6,X7,X]) (by kernel_rfl) fun X8 hX =>
  (show ∀ k, zGR K zaa X8 (zzj P6 P7 zaa k) (zzi S6 S7 zaa k) from zgM _ _ (zzh P6 P7 zaa) (zzg S6 S7 zaa) (zGR K zaa X8)
 (by intro _ _ _ _ hs;exact absurd hs Bool.false_ne_true)
 (by intro P8 S8 hX8 iv8 jv8 kv8 ze1 hs hk;exact hX _ (zaI (by kernel_rfl) (zc hs hk (fun hs hk=>(zaG hs fun hc hs=>And.intro (And.intro (zE zac 3 zaa.get) (And.intro ((zgz [kv8]):IsE enc_3 1 1 (zd7 [(enc_3 iv8),(enc_3 jv8),(enc_3 kv8)])) hc)) (zGS hX6 hX7 hX8 hs hk))) (fun hs hk=>(hX7 hs hk)))))) _ hs hk
def zzm (S6:Int→((Sl Int)×Int)) (zaa:(Sl Gate)) (S7:Int→Int→Int→((Sl Int)×Int)) (iv7:Int) (jv7:Int) (ze0:Int):((Sl Int)×Int) :=
  (cond (decide (jv7 < (zaa.len : Int)))
 (zzk S6 S7 zaa iv7 jv7 (w64 (jv7+(1:Int))) ze0)
 (S6 (w64 (ze0+(1:Int)))))
def zzn (P6:Int→Bool) (zaa:(Sl Gate)) (P7:Int→Int→Int→Bool) (iv7:Int) (jv7:Int) (ze0:Int):Bool :=
  (cond (decide (jv7 < (zaa.len : Int)))
 (zzl P6 P7 zaa iv7 jv7 (w64 (jv7+(1:Int))) ze0)
 (P6 (w64 (ze0+(1:Int)))))
def zzo (S6:Int→((Sl Int)×Int)) (zaa:(Sl Gate)):Nat→Int→Int→Int→((Sl Int)×Int):=lpO (fun _ _ _=>default) (zzm S6 zaa)
def zzp (P6:Int→Bool) (zaa:(Sl Gate)):Nat→Int→Int→Int→Bool:=lpO (fun _ _ _=>false) (zzn P6 zaa)
def zzq (S6:Int→((Sl Int)×Int)) (zaa:(Sl Gate)) (iv7:Int) (jv7:Int) (ze0:Int):((Sl Int)×Int):=zzo S6 zaa Fuel iv7 jv7 ze0
def zzr (P6:Int→Bool) (zaa:(Sl Gate)) (iv7:Int) (jv7:Int) (ze0:Int):Bool:=zzp P6 zaa Fuel iv7 jv7 ze0
theorem zGU (hX6:zzd K zaa X6 P6 S6) (hs:zzr P6 zaa iv7 jv7 ze0=true) (hk:K (e38 (zzq S6 zaa iv7 jv7 ze0))):z38 (Wk K) [1,1,1,1,0,1,0,0,1,1,0,0,1,1,0] [X6] (zDJ zaa iv7 jv7 ze0) :=
  zl (fun X=>z38 (Wk K) [1,1,1,1,0,1,0,0,1,1,0,0,1,1,0,0] [X6,X]) (by kernel_rfl) fun X7 hX =>
  (show ∀ k, zCu K zaa X7 (zzp P6 zaa k) (zzo S6 zaa k) from zgM _ _ (zzn P6 zaa) (zzm S6 zaa) (zCu K zaa X7)
 (by intro _ _ _ hs;exact absurd hs Bool.false_ne_true)
 (by intro P7 S7 hX7 iv7 jv7 ze0 hs hk;exact hX _ (zaI (by kernel_rfl) (zc hs hk (fun hs hk=>(zGT hX6 hX7 hs hk)) (fun hs hk=>(hX6 hs hk)))))) _ hs hk
def zzs (zaa:(Sl Gate)) (S6:Int→((Sl Int)×Int)) (zed:Int):((Sl Int)×Int) :=
  (cond (decide (zed < (zaa.len : Int)))
 (zzq S6 zaa zed (w64 (zed+(1:Int))) zed)
 ((⟨0,fun _=>default⟩:(Sl Int)),(7:Int)))
def zzt (zaa:(Sl Gate)) (P6:Int→Bool) (zed:Int):Bool :=
  (cond (decide (zed < (zaa.len : Int)))
 (zzr P6 zaa zed (w64 (zed+(1:Int))) zed)
 true)
def zzu (zaa:(Sl Gate)):Nat→Int→((Sl Int)×Int):=lpO (fun _=>default) (zzs zaa)
def zzv (zaa:(Sl Gate)):Nat→Int→Bool:=lpO (fun _=>false) (zzt zaa)
def zzw (zaa:(Sl Gate)) (zed:Int):((Sl Int)×Int):=zzu zaa Fuel zed
def zzx (zaa:(Sl Gate)) (zed:Int):Bool:=zzv zaa Fuel zed
theorem zGV (hs:zzx zaa zed=true) (hk:K (e38 (zzw zaa zed))):z38 (Wk K) [1,1,1,1,0,1,0] [] (zDI zaa zed) :=
  zl (fun X=>z38 (Wk K) [1,1,1,1,0,1,0,0] [X]) (by kernel_rfl) fun X6 hX =>
  (show ∀ k, zzd K zaa X6 (zzv zaa k) (zzu zaa k) from zgM _ _ (zzt zaa) (zzs zaa) (zzd K zaa X6)
 (by intro _ hs;exact absurd hs Bool.false_ne_true)
 (by intro P6 S6 hX6 zed hs hk;exact hX _ (zaI (by kernel_rfl) (zc hs hk (fun hs hk=>(zGU hX6 hs hk)) (fun hs hk=>((wk hk (zdy (.one (.nil _ _)) (zdy (.one (.rfl _)) zh1))):Wk K [.one (.nils),.one (.int .i64 (7:Int))])))))) _ hs hk
def zzy (S2:Int→((Sl Int)×Int)) (S3:Int→Int→Int→((Sl Int)×Int)) (zaa:(Sl Gate)) (iv5:Int) (jv5:Int) (zsl:Int) (zsm:Bool):((Sl Int)×Int) :=
  (cond zsm
 ((⟨2,(zfQ iv5 [iv5,jv5])⟩:(Sl Int)),(0:Int))
 (S3 iv5 (w64 (jv5+(1:Int))) zsl))
def zzz (P2:Int→Bool) (P3:Int→Int→Int→Bool) (zaa:(Sl Gate)) (iv5:Int) (jv5:Int) (zsl:Int) (zsm:Bool):Bool :=
  (cond zsm
 true
 (P3 iv5 (w64 (jv5+(1:Int))) zsl))
theorem zGW (hX2:zCt K zaa X2 P2 S2) (hX3:zGQ K zaa X3 P3 S3) (hs:zzz P2 P3 zaa iv5 jv5 zsl zsm=true) (hk:K (e38 (zzy S2 S3 zaa iv5 jv5 zsl zsm))):z38 (Wk K) [1,1,1,0,1,0,0,1,1,0,0,1,1,0,0,1,0,0,1] [X2,X3] ⟨[(0,zS zac 3 zaa),(4,zI (zaa.len:Int)),(5,zI iv5),(6,zI jv5),(15,zI (zaa.len:Int)),(16,zI zsl),(31,zB zsm)],[],[]⟩:=zaI (by kernel_rfl) (zc hs hk (fun hs hk=>((zd0 (Eq.mpr (congrArg K (congrArg (fun (g_:Nat→List PV)=>([.one (.sl 2 1 g_),.one (.int .i64 (0:Int))]:List PA)) (zfh (enc:=enc_3) (x:=iv5) (y:=jv5) (r:=[])))) hk)):Wk K [.one (.sl 2 1 (zd7 [(enc_3 iv5),(enc_3 jv5)])),.one (.int .i64 (0:Int))])) (fun hs hk=>(hX3 hs hk)))
def zzA (zaa:(Sl Gate)):((Sl Int)×Int) :=
  (zzw zaa (0:Int))
def zzB (zaa:(Sl Gate)):Bool :=
  (zzx zaa (0:Int))
theorem zGX (hs:zzB zaa=true) (hk:K (e38 (zzA zaa))):z38 (Wk K) [1,1,1,1] [] ⟨[(0,zS zac 3 zaa),(4,zI (zaa.len:Int))],[],[]⟩:=zaI (by kernel_rfl) (zGV hs hk)
def zzC (S2:Int→((Sl Int)×Int)) (zaa:(Sl Gate)) (S3:Int→Int→Int→((Sl Int)×Int)) (iv3:Int) (jv3:Int) (zeZ:Int):((Sl Int)×Int) :=
  (cond (decide (jv3 < (zaa.len : Int)))
 (zzy S2 S3 zaa iv3 jv3 zeZ (!(s84 zaa (⟨2,zcf (zd7 [(enc_3 iv3),(enc_3 jv3)])⟩:(Sl Int)))))
 (S2 (w64 (zeZ+(1:Int)))))
def zzD (P2:Int→Bool) (zaa:(Sl Gate)) (P3:Int→Int→Int→Bool) (iv3:Int) (jv3:Int) (zeZ:Int):Bool :=
  (cond (decide (jv3 < (zaa.len : Int)))
 (decide ((p84 zaa (⟨2,zcf (zd7 [(enc_3 iv3),(enc_3 jv3)])⟩:(Sl Int))=true)) &&
 (zzz P2 P3 zaa iv3 jv3 zeZ (!(s84 zaa (⟨2,zcf (zd7 [(enc_3 iv3),(enc_3 jv3)])⟩:(Sl Int))))))
 (P2 (w64 (zeZ+(1:Int)))))
def zzE (S2:Int→((Sl Int)×Int)) (zaa:(Sl Gate)):Nat→Int→Int→Int→((Sl Int)×Int):=lpO (fun _ _ _=>default) (zzC S2 zaa)
def zzF (P2:Int→Bool) (zaa:(Sl Gate)):Nat→Int→Int→Int→Bool:=lpO (fun _ _ _=>false) (zzD P2 zaa)
def zzG (S2:Int→((Sl Int)×Int)) (zaa:(Sl Gate)) (iv3:Int) (jv3:Int) (zeZ:Int):((Sl Int)×Int):=zzE S2 zaa Fuel iv3 jv3 zeZ
def zzH (P2:Int→Bool) (zaa:(Sl Gate)) (iv3:Int) (jv3:Int) (zeZ:Int):Bool:=zzF P2 zaa Fuel iv3 jv3 zeZ
theorem zGY (hX2:zCt K zaa X2 P2 S2) (hs:zzH P2 zaa iv3 jv3 zeZ=true) (hk:K (e38 (zzG S2 zaa iv3 jv3 zeZ))):z38 (Wk K) [1,1,1,0,1,0,0,1,1,0,0,1,1,0] [X2] (zDH zaa iv3 jv3 zeZ) :=
  zl (fun X=>z38 (Wk K) [1,1,1,0,1,0,0,1,1,0,0,1,1,0,0] [X2,X]) (by kernel_rfl) fun X3 hX =>
  (show ∀ k, zGQ K zaa X3 (zzF P2 zaa k) (zzE S2 zaa k) from zgM _ _ (zzD P2 zaa) (zzC S2 zaa) (zGQ K zaa X3)
 (by intro _ _ _ hs;exact absurd hs Bool.false_ne_true)
 (by intro P3 S3 hX3 iv3 jv3 zeZ hs hk;exact hX _ (zaI (by kernel_rfl) (zc hs hk (fun hs hk=>(zaG hs fun hc hs=>And.intro (And.intro (zE zac 3 zaa.get) (And.intro ((zgz []):IsE enc_3 1 1 (zd7 [(enc_3 iv3),(enc_3 jv3)])) hc)) (zGW hX2 hX3 hs hk))) (fun hs hk=>(hX2 hs hk)))))) _ hs hk
def zzI (zaa:(Sl Gate)) (S2:Int→((Sl Int)×Int)) (zec:Int):((Sl Int)×Int) :=
  (cond (decide (zec < (zaa.len : Int)))
 (zzG S2 zaa zec (w64 (zec+(1:Int))) zec)
 (zzA zaa))
def zzJ (zaa:(Sl Gate)) (P2:Int→Bool) (zec:Int):Bool :=
  (cond (decide (zec < (zaa.len : Int)))
 (zzH P2 zaa zec (w64 (zec+(1:Int))) zec)
 (zzB zaa))
def zzK (zaa:(Sl Gate)):Nat→Int→((Sl Int)×Int):=lpO (fun _=>default) (zzI zaa)
def zzL (zaa:(Sl Gate)):Nat→Int→Bool:=lpO (fun _=>false) (zzJ zaa)
def zzM (zaa:(Sl Gate)) (zec:Int):((Sl Int)×Int):=zzK zaa Fuel zec
def zzN (zaa:(Sl Gate)) (zec:Int):Bool:=zzL zaa Fuel zec
theorem zGZ (hs:zzN zaa zec=true) (hk:K (e38 (zzM zaa zec))):z38 (Wk K) [1,1,1,0,1,0] [] (zDG zaa zec) :=
  zl (fun X=>z38 (Wk K) [1,1,1,0,1,0,0] [X]) (by kernel_rfl) fun X2 hX =>
  (show ∀ k, zCt K zaa X2 (zzL zaa k) (zzK zaa k) from zgM _ _ (zzJ zaa) (zzI zaa) (zCt K zaa X2)
 (by intro _ hs;exact absurd hs Bool.false_ne_true)
 (by intro P2 S2 hX2 zec hs hk;exact hX _ (zaI (by kernel_rfl) (zc hs hk (fun hs hk=>(zGY hX2 hs hk)) (fun hs hk=>(zGX hs hk)))))) _ hs hk
def zzO (zaa:(Sl Gate)):((Sl Int)×Int) :=
  (zzM zaa (0:Int))
def zzP (zaa:(Sl Gate)):Bool :=
  (zzN zaa (0:Int))
theorem zG0 (hs:zzP zaa=true) (hk:K (e38 (zzO zaa))):z38 (Wk K) [1,1] [] ⟨[(0,zS zac 3 zaa)],[],[]⟩:=zaI (by kernel_rfl) (zGZ hs hk)
def zzQ (zaa:(Sl Gate)) (zaX:Bool):((Sl Int)×Int) :=
  (cond zaX
 ((⟨0,fun _=>default⟩:(Sl Int)),(2:Int))
 (zzO zaa))
def zzR (zaa:(Sl Gate)) (zaX:Bool):Bool :=
  (cond zaX
 true
 (zzP zaa))
theorem zG1 (hs:zzR zaa zaX=true) (hk:K (e38 (zzQ zaa zaX))):z38 (Wk K) [1,0,1] [] ⟨[(0,zS zac 3 zaa),(12,zB zaX)],[],[]⟩:=zaI (by kernel_rfl) (zc hs hk (fun hs hk=>((wk hk (zdy (.one (.nil _ _)) (zdy (.one (.rfl _)) zh1))):Wk K [.one (.nils),.one (.int .i64 (2:Int))])) (fun hs hk=>(zG0 hs hk)))
def s38 (zaa:(Sl Gate)):((Sl Int)×Int) :=
  (zzQ zaa (!(s64 zaa)))
def p38 (zaa:(Sl Gate)):Bool :=
  (decide ((p64 zaa=true)) &&
 (zzR zaa (!(s64 zaa))))
end
theorem q38 (zaa:(Sl Gate)) (K:List PA→Prop) (hs:p38 zaa=true) (hk:K (e38 (s38 zaa))):vcFun Try.prog G38 zGP 38 [.one (.sl zaa.len 3 (fun i=>zac (zaa.get i)))] (Wk K) :=
  zaI (by kernel_rfl) (zaG hs fun hc hs=>And.intro (And.intro (zE zac 3 zaa.get) hc) (zG1 hs hk))
def zG2 : List PA → COut
  | [.one (.sl a0_n a0_s a0_g)]=>.det (IsE zac 3 a0_s a0_g∧p38 (⟨a0_n,zah a0_g⟩:(Sl Gate))=true) [.one (.sl (((s38 (⟨a0_n,zah a0_g⟩:(Sl Gate))).1).len) 1 (fun i=>enc_3 (((s38 (⟨a0_n,zah a0_g⟩:(Sl Gate))).1).get i))),.one (.int .i64 ((s38 (⟨a0_n,zah a0_g⟩:(Sl Gate))).2))]
  | _=>.no
theorem zKP:zal Try.prog 38:=⟨_,rfl,rfl,by kernel_rfl⟩
theorem zP8:Ok Try.prog 38 zG2:=zfW zNB zKP fun args K h=>by
  unfold zG2 at h
  split at h
  · rename_i a0_n a0_s a0_g
    obtain ⟨⟨⟨rfl,a0_f,rfl⟩,hs⟩,hk⟩:=h
    try rw [zaf a0_f] at hs
    try rw [zaf a0_f] at hk
    exact ⟨_,zeY zfF _,(fun _ _=>[]),(fun _=>false),zGP,q38 (⟨a0_n,a0_f⟩:(Sl Gate)) K hs hk⟩
  · exact h.elim
abbrev T39:Tabs:=Tabs.nil
theorem zNC:TabsOk Try.prog T39:=TabsOk.nil
abbrev G39:Ctrs:=csm T39 (fun _ _=>[]) (fun _=>false)
def zG3:Ann:=⟨46,[(0,zK [0,1] []),(1,zK [0,1,5] []),(2,zK [0,1,5,15] []),(3,zK [0,1,5] []),(4,zK [0,1,5,26] []),(5,zK [4] []),(6,zK [0,1,5,35] []),(7,zK [4] []),(8,zK [0,1,40] []),(9,zK [4] []),(10,zK [45] []),(11,zK [4] []),(12,zK [4] [])],
 [(2,zK [0,1,5] [])],
 [(8,zK [0,1] [])],
 [],[]⟩
abbrev R39:=Int
abbrev e39 (r:R39):List PA:=[.one (.int .i64 r)]
@[irreducible] def z39:=ptF Try.prog G39 zG3 Try.f39
def zDL (a:(Sl Int)) (b:(Sl Int)) (iv0:Int):St:=⟨[(0,zS enc_3 1 a),(1,zS enc_3 1 b),(5,zI iv0)],[],[]⟩
abbrev zKQ (K:List PA→Prop) (a:(Sl Int)) (b:(Sl Int)) (X:St→Prop) (P:Int→Bool) (S:Int→Int):Prop:=∀ ⦃iv0:Int⦄,P iv0=true→K (e39 (S iv0))→X (zDL a b iv0)
section
variable {K:List PA→Prop} {a:(Sl Int)} {b:(Sl Int)} {iv0:Int} {X0:St→Prop} {P0:Int→Bool} {S0:Int→Int}
def zsp (a:(Sl Int)) (b:(Sl Int)):Int :=
  (cond (decide ((a.len : Int) < (b.len : Int)))
 (-1:Int)
 (cond (decide ((a.len : Int) > (b.len : Int)))
 (1:Int)
 (0:Int)))
theorem zzS (hk:K (e39 (zsp a b))):z39 K [1,1] [] ⟨[(0,zS enc_3 1 a),(1,zS enc_3 1 b)],[],[]⟩:=zaI (by kernel_rfl) (zt hk (fun hk=>hk) (fun hk=>(zt hk (fun hk=>hk) (fun hk=>hk))))
def zzT (a:(Sl Int)) (b:(Sl Int)) (S0:Int→Int) (iv0:Int):Int :=
  (cond (decide (iv0 < (a.len : Int)))
 (cond (decide (iv0 < (b.len : Int)))
 (cond (decide ((a.get iv0.toNat) < (b.get iv0.toNat)))
 (-1:Int)
 (cond (decide ((a.get iv0.toNat) > (b.get iv0.toNat)))
 (1:Int)
 (S0 (w64 (iv0+(1:Int))))))
 (zsp a b))
 (zsp a b))
def zzU (a:(Sl Int)) (b:(Sl Int)) (P0:Int→Bool) (iv0:Int):Bool :=
  (cond (decide (iv0 < (a.len : Int)))
 (cond (decide (iv0 < (b.len : Int)))
 (decide ((0≤iv0∧iv0 < (a.len:Int))) &&
 (decide ((0≤iv0∧iv0 < (b.len:Int))) &&
 (cond (decide ((a.get iv0.toNat) < (b.get iv0.toNat)))
 true
 (decide ((0≤iv0∧iv0 < (a.len:Int))) &&
 (decide ((0≤iv0∧iv0 < (b.len:Int))) &&
 (cond (decide ((a.get iv0.toNat) > (b.get iv0.toNat)))
 true
 (P0 (w64 (iv0+(1:Int))))))))))
 true)
 true)
def zzV (a:(Sl Int)) (b:(Sl Int)):Nat→Int→Int:=lpO (fun _=>default) (zzT a b)
def zzW (a:(Sl Int)) (b:(Sl Int)):Nat→Int→Bool:=lpO (fun _=>false) (zzU a b)
def zzX (a:(Sl Int)) (b:(Sl Int)) (iv0:Int):Int:=zzV a b Fuel iv0
def zzY (a:(Sl Int)) (b:(Sl Int)) (iv0:Int):Bool:=zzW a b Fuel iv0
theorem zG4 (hs:zzY a b iv0=true) (hk:K (e39 (zzX a b iv0))):z39 K [1,0,1,0] [] (zDL a b iv0) :=
  zl (fun X=>z39 K [1,0,1,0,0] [X]) (by kernel_rfl) fun X0 hX =>
  (show ∀ k, zKQ K a b X0 (zzW a b k) (zzV a b k) from zgM _ _ (zzU a b) (zzT a b) (zKQ K a b X0)
 (by intro _ hs;exact absurd hs Bool.false_ne_true)
 (by intro P0 S0 hX0 iv0 hs hk;exact hX _ (zaI (by kernel_rfl) (zc hs hk (fun hs hk=>(zc hs hk (fun hs hk=>(zaG hs fun hc hs=>And.intro hc (zaG hs fun hc hs=>And.intro hc (zc hs hk (fun hs hk=>hk) (fun hs hk=>(zaG hs fun hc hs=>And.intro hc (zaG hs fun hc hs=>And.intro hc (zc hs hk (fun hs hk=>hk) (fun hs hk=>(hX0 hs hk)))))))))) (fun hs hk=>(zzS hk)))) (fun hs hk=>(zzS hk)))))) _ hs hk
def s39 (a:(Sl Int)) (b:(Sl Int)):Int :=
  (zzX a b (0:Int))
def p39 (a:(Sl Int)) (b:(Sl Int)):Bool :=
  (zzY a b (0:Int))
end
theorem q39 (a:(Sl Int)) (b:(Sl Int)) (K:List PA→Prop) (hs:p39 a b=true) (hk:K (e39 (s39 a b))):vcFun Try.prog G39 zG3 39 [.one (.sl a.len 1 (fun i=>enc_3 (a.get i))),.one (.sl b.len 1 (fun i=>enc_3 (b.get i)))] K :=
  zaI (by kernel_rfl) (zG4 hs hk)
def zG5 : List PA → COut
  | [.one (.sl a0_n a0_s a0_g),.one (.sl a1_n a1_s a1_g)]=>.det (IsE enc_3 1 a0_s a0_g∧IsE enc_3 1 a1_s a1_g∧p39 (⟨a0_n,zcf a0_g⟩:(Sl Int)) (⟨a1_n,zcf a1_g⟩:(Sl Int))=true) [.one (.int .i64 (s39 (⟨a0_n,zcf a0_g⟩:(Sl Int)) (⟨a1_n,zcf a1_g⟩:(Sl Int))))]
  | _=>.no
theorem zKR:zal Try.prog 39:=⟨_,rfl,rfl,by kernel_rfl⟩
theorem zP9:Ok Try.prog 39 zG5:=zaY zNC zKR fun args K h=>by
  unfold zG5 at h
  split at h
  · rename_i a0_n a0_s a0_g a1_n a1_s a1_g
    obtain ⟨⟨⟨rfl,a0_f,rfl⟩,⟨rfl,a1_f,rfl⟩,hs⟩,hk⟩:=h
    try rw [zbP a0_f] at hs
    try rw [zbP a0_f] at hk
    try rw [zbP a1_f] at hs
    try rw [zbP a1_f] at hk
    exact ⟨(fun _ _=>[]),(fun _=>false),zG3,q39 (⟨a0_n,a0_f⟩:(Sl Int)) (⟨a1_n,a1_f⟩:(Sl Int)) K hs hk⟩
  · exact h.elim
abbrev T73:Tabs:=Tabs.nil
theorem zND:TabsOk Try.prog T73:=TabsOk.nil
abbrev G73:Ctrs:=csm T73 (fun _ _=>[]) (fun _=>false)
def zG6:Ann:=⟨12,[(0,zK [0,1] []),(1,zK [0,1,6] []),(2,zK [0,1] []),(3,zK [4] [])],
 [(1,zK [0,1] [])],
 [],
 [],[]⟩
abbrev R73:=Int
abbrev e73 (r:R73):List PA:=[.one (.int .i64 r)]
@[irreducible] def z73:=ptF Try.prog G73 zG6 Try.f73
def zDM (av0:Int) (bv0:Int):St:=⟨[(0,zI av0),(1,zI bv0)],[],[]⟩
abbrev zKS (K:List PA→Prop) (X:St→Prop) (P:Int→Int→Bool) (S:Int→Int→Int):Prop:=∀ ⦃av0:Int⦄ ⦃bv0:Int⦄,P av0 bv0=true→K (e73 (S av0 bv0))→X (zDM av0 bv0)
section
variable {K:List PA→Prop} {a:Int} {b:Int} {av0:Int} {bv0:Int} {X0:St→Prop} {P0:Int→Int→Bool} {S0:Int→Int→Int}
def zzZ (S0:Int→Int→Int) (av0:Int) (bv0:Int):Int :=
  (cond (bv0 != (0:Int))
 (S0 bv0 (av0.tmod bv0))
 av0)
def zz0 (P0:Int→Int→Bool) (av0:Int) (bv0:Int):Bool :=
  (cond (bv0 != (0:Int))
 (decide ((bv0 ≠ 0)) &&
 (P0 bv0 (av0.tmod bv0)))
 true)
def zz1:Nat→Int→Int→Int:=lpO (fun _ _=>default) (zzZ)
def zz2:Nat→Int→Int→Bool:=lpO (fun _ _=>false) (zz0)
def zz3 (av0:Int) (bv0:Int):Int:=zz1 Fuel av0 bv0
def zz4 (av0:Int) (bv0:Int):Bool:=zz2 Fuel av0 bv0
theorem zG7 (hs:zz4 av0 bv0=true) (hk:K (e73 (zz3 av0 bv0))):z73 K [1,0,0] [] (zDM av0 bv0) :=
  zl (fun X=>z73 K [1,0,0,0] [X]) (by kernel_rfl) fun X0 hX =>
  (show ∀ k, zKS K X0 (zz2 k) (zz1 k) from zgM _ _ (zz0) (zzZ) (zKS K X0)
 (by intro _ _ hs;exact absurd hs Bool.false_ne_true)
 (by intro P0 S0 hX0 av0 bv0 hs hk;exact hX _ (zaI (by kernel_rfl) (zc hs hk (fun hs hk=>(zaG hs fun hc hs=>And.intro hc (hX0 hs hk))) (fun hs hk=>hk))))) _ hs hk
def s73 (a:Int) (b:Int):Int :=
  (zz3 a b)
def p73 (a:Int) (b:Int):Bool :=
  (zz4 a b)
end
theorem q73 (a:Int) (b:Int) (K:List PA→Prop) (hs:p73 a b=true) (hk:K (e73 (s73 a b))):vcFun Try.prog G73 zG6 73 [.one (.int .i64 a),.one (.int .i64 b)] K :=
  zaI (by kernel_rfl) (zG7 hs hk)
def zG8 : List PA → COut
  | [.one (.int .i64 a0),.one (.int .i64 a1)]=>.det (p73 a0 a1=true) [.one (.int .i64 (s73 a0 a1))]
  | _=>.no
theorem zKT:zal Try.prog 73:=⟨_,rfl,rfl,by kernel_rfl⟩
theorem zQa:Ok Try.prog 73 zG8:=zaY zND zKT fun args K h=>by
  unfold zG8 at h
  split at h
  · rename_i a0 a1
    obtain ⟨hs,hk⟩:=h
    exact ⟨(fun _ _=>[]),(fun _=>false),zG6,q73 a0 a1 K hs hk⟩
  · exact h.elim
abbrev T40:Tabs:=(Tabs.nil.addF 73 zG8)
theorem zNE:TabsOk Try.prog T40:=(TabsOk.nil.addF zQa)
abbrev G40:Ctrs:=csm T40 (fun _ _=>[]) (fun _=>false)
def zKU:Ann:=⟨19,[(0,zK [0,1,4] [4]),(1,zK [0,1,4,5] [4]),(2,zK [4] [4])],
 [],
 [],
 [],[]⟩
abbrev R40:=Frac
abbrev e40 (r:R40):List PA:=[.agg [.int .i64 r.Num,.int .i64 r.Den]]
section
variable {K:List PA→Prop} {num:Int} {den:Int}
def s40 (num:Int) (den:Int):Frac :=
  (⟨(w64 (num.tdiv (s73 (if (w64 (0 - num)) > num then (w64 (0 - num)) else num) den))),(w64 (den.tdiv (s73 (if (w64 (0 - num)) > num then (w64 (0 - num)) else num) den)))⟩:Frac)
def p40 (num:Int) (den:Int):Bool :=
  (decide ((p73 (if (w64 (0 - num)) > num then (w64 (0 - num)) else num) den=true)) &&
 (decide (((s73 (if (w64 (0 - num)) > num then (w64 (0 - num)) else num) den) ≠ 0)) &&
 (decide (((s73 (if (w64 (0 - num)) > num then (w64 (0 - num)) else num) den) ≠ 0)) &&
 true)))
end
theorem q40 (num:Int) (den:Int) (K:List PA→Prop) (hs:p40 num den=true) (hk:K (e40 (s40 num den))):vcFun Try.prog G40 zKU 40 [.one (.int .i64 num),.one (.int .i64 den)] K :=
  zaI (by kernel_rfl) (zaG hs fun hc hs=>And.intro hc (zaG hs fun hc hs=>And.intro hc (zaG hs fun hc hs=>And.intro hc hk)))
def zG9 : List PA → COut
  | [.one (.int .i64 a0),.one (.int .i64 a1)]=>.det (p40 a0 a1=true) [.agg [.int .i64 ((s40 a0 a1).Num),.int .i64 ((s40 a0 a1).Den)]]
  | _=>.no
theorem zKV:zal Try.prog 40:=⟨_,rfl,rfl,by kernel_rfl⟩
theorem zQb:Ok Try.prog 40 zG9:=zaY zNE zKV fun args K h=>by
  unfold zG9 at h
  split at h
  · rename_i a0 a1
    obtain ⟨hs,hk⟩:=h
    exact ⟨(fun _ _=>[]),(fun _=>false),zKU,q40 a0 a1 K hs hk⟩
  · exact h.elim
abbrev T62:Tabs:=Tabs.nil
theorem zNF:TabsOk Try.prog T62:=TabsOk.nil
abbrev G62:Ctrs:=csm T62 (fun _ _=>[]) (fun _=>false)
def zKW:Ann:=⟨5,[(0,zK [] []),(1,zK [0] [4])],
 [],
 [],
 [],[]⟩
abbrev R62:=(Sl Gate)
abbrev e62 (r:R62):List PA:=[.one (.sl r.len 3 (fun i=>zac (r.get i)))]
section
variable {K:List PA→Prop}
def s62:(Sl Gate) :=
  (⟨3,(zfQ (⟨(0:Int),(0:Int),(10:Int)⟩:Gate) [(⟨(0:Int),(0:Int),(10:Int)⟩:Gate),(⟨(100:Int),(20:Int),(30:Int)⟩:Gate),(⟨(200:Int),(30:Int),(60:Int)⟩:Gate)])⟩:(Sl Gate))
end
theorem q62 (K:List PA→Prop) (hk:K (e62 (s62))):vcFun Try.prog G62 zKW 62 [] K :=
  zaI (by kernel_rfl) (Eq.mpr (congrArg K (congrArg (fun (g_:Nat→List PV)=>([.one (.sl 3 3 g_)]:List PA)) (zfh (enc:=zac) (x:=(⟨(0:Int),(0:Int),(10:Int)⟩:Gate)) (y:=(⟨(100:Int),(20:Int),(30:Int)⟩:Gate)) (r:=[(⟨(200:Int),(30:Int),(60:Int)⟩:Gate)])))) hk)
def zHa : List PA → COut
  | []=>.tot [.one (.sl ((s62).len) 3 (fun i=>zac ((s62).get i)))]
  | _=>.no
theorem zKX:zal Try.prog 62:=⟨_,rfl,rfl,by kernel_rfl⟩
theorem zQc:Ok Try.prog 62 zHa:=zaY zNF zKX fun args K h=>by
  unfold zHa at h
  split at h
  · have hk := h
    exact ⟨(fun _ _=>[]),(fun _=>false),zKW,q62 K hk⟩
  · exact h.elim
abbrev T63:Tabs:=Tabs.nil
theorem zNG:TabsOk Try.prog T63:=TabsOk.nil
abbrev G63:Ctrs:=csm T63 (fun _ _=>[]) (fun _=>false)
def zKY:Ann:=⟨5,[(0,zK [] []),(1,zK [0] [4])],
 [],
 [],
 [],[]⟩
abbrev R63:=(Sl Gate)
abbrev e63 (r:R63):List PA:=[.one (.sl r.len 3 (fun i=>zac (r.get i)))]
section
variable {K:List PA→Prop}
def s63:(Sl Gate) :=
  (⟨3,(zfQ (⟨(0:Int),(0:Int),(10:Int)⟩:Gate) [(⟨(0:Int),(0:Int),(10:Int)⟩:Gate),(⟨(100:Int),(20:Int),(30:Int)⟩:Gate),(⟨(200:Int),(0:Int),(9:Int)⟩:Gate)])⟩:(Sl Gate))
end
theorem q63 (K:List PA→Prop) (hk:K (e63 (s63))):vcFun Try.prog G63 zKY 63 [] K :=
  zaI (by kernel_rfl) (Eq.mpr (congrArg K (congrArg (fun (g_:Nat→List PV)=>([.one (.sl 3 3 g_)]:List PA)) (zfh (enc:=zac) (x:=(⟨(0:Int),(0:Int),(10:Int)⟩:Gate)) (y:=(⟨(100:Int),(20:Int),(30:Int)⟩:Gate)) (r:=[(⟨(200:Int),(0:Int),(9:Int)⟩:Gate)])))) hk)
def zHb : List PA → COut
  | []=>.tot [.one (.sl ((s63).len) 3 (fun i=>zac ((s63).get i)))]
  | _=>.no
theorem zKZ:zal Try.prog 63:=⟨_,rfl,rfl,by kernel_rfl⟩
theorem zQd:Ok Try.prog 63 zHb:=zaY zNG zKZ fun args K h=>by
  unfold zHb at h
  split at h
  · have hk := h
    exact ⟨(fun _ _=>[]),(fun _=>false),zKY,q63 K hk⟩
  · exact h.elim
abbrev T18:Tabs:=((((((((((Tabs.nil.addF 19 zGc).addF 30 zGs).addF 31 zGH).addF 34 zGL).addF 38 zG2).addF 39 zG5).addF 40 zG9).addF 55 zB2).addF 62 zHa).addF 63 zHb)
theorem zNH:TabsOk Try.prog T18:=((((((((((TabsOk.nil.addF zPO).addF zPW).addF zP5).addF zP6).addF zP8).addF zP9).addF zQb).addF zOc).addF zQc).addF zQd)
abbrev G18:Ctrs:=csm T18 (fun _ _=>[]) (fun _=>false)
def zHc:Ann:=⟨125,[(0,zK [] []),(1,zK [1,2] []),(2,zK [1,2,3,4,5] [3,4]),(3,zK [1,2,3,4,5,6,7] [3,4]),(4,zK [1,2,3,4,5,6,7,8,9,10,11] [3,4,9,10]),(5,zK [1,2,3,4,5,6,7,8,9,10,11,12,13,14] [3,4,9,10]),(6,zK [1,3,4,6,9,10,12,76] [3,4,9,10]),(7,zK [0] []),(8,zK [1,3,4,6,9,10,12,15] [3,4,9,10,89]),(9,zK [0] [])],
 [],
 [(2,zK [1,2] []),(3,zK [1,2,3,4,5] [3,4]),(4,zK [1,2,3,4,5,6,7] [3,4]),(5,zK [1,2,3,4,5,6,7,8,9,10,11] [3,4,9,10]),(6,zK [1,2,3,4,5,6,7,8,9,10,11,12,13,14] [3,4,9,10]),(8,zK [1,3,4,6,9,10,12] [3,4,9,10]),(9,zK [1,3,4,6,9,10,12,15] [3,4,9,10,89])],
 [],[]⟩
abbrev R18:=Bool
abbrev e18 (r:R18):List PA:=[.one (.bool r)]
@[irreducible] def z18:=ptF Try.prog G18 zHc Try.f18
section
variable {K:List PA→Prop} {cv0:(Sl Line)} {ev0:Int} {zK1:Nat→List PV} {fv1:Int} {zcg:Int} {zch:Int} {zci:Int} {zcj:Int} {sv2:(Sl Int)} {gv2:Int} {zK2:Nat→List PV} {sv3:(Sl Int)} {zv3:Int} {hv3:Int} {zdz:Int} {zdA:Int} {zdB:Int} {zdC:Int} {zK3:Nat→List PV} {sv4:(Sl Int)} {lv4:(Sl Int)} {kv4:Int} {iv4:Int} {zK4:Nat→List PV} {zK5:Nat→List PV} {sv5:(Sl Int)} {zK6:Nat→List PV} {sv6:(Sl Int)} {zl0:(Sl Line)} {zK7:Nat→List PV} {zz5:Nat→List PV}
def zz6 (cv0:(Sl Line)) (zcg:Int) (zch:Int) (zci:Int) (zcj:Int) (zdz:Int) (zdA:Int) (zdB:Int) (zdC:Int) (lv4:(Sl Int)) (sv6:(Sl Int)) (zl0:(Sl Line)):Bool :=
  (cond (s34 cv0 zl0)
 (cond (match (zcg == (s40 (40:Int) (1:Int)).Num) with | true => (match (zch == (s40 (40:Int) (1:Int)).Den) with | true => true | false => false) | false => false)
 (cond (match (zci == (s40 (90:Int) (1:Int)).Num) with | true => (match (zcj == (s40 (90:Int) (1:Int)).Den) with | true => true | false => false) | false => false)
 (cond ((s39 sv6 (⟨3, zcf (zd7 [(enc_3 (0:Int)), (enc_3 (1:Int)), (enc_3 (2:Int))])⟩ : (Sl Int))) == (0:Int))
 (cond (match (zdz == (s40 (499:Int) (10:Int)).Num) with | true => (match (zdA == (s40 (499:Int) (10:Int)).Den) with | true => true | false => false) | false => false)
 (cond (match (zdB == (s40 (501:Int) (10:Int)).Num) with | true => (match (zdC == (s40 (501:Int) (10:Int)).Den) with | true => true | false => false) | false => false)
 ((s39 lv4 (⟨3,zcf (zd7 [(enc_3 (2:Int)),(enc_3 (5:Int)),(enc_3 (2:Int))])⟩:(Sl Int))) == (0:Int))
 false)
 false)
 false)
 false)
 false)
 false)
def zz7 (cv0:(Sl Line)) (zcg:Int) (zch:Int) (zci:Int) (zcj:Int) (zdz:Int) (zdA:Int) (zdB:Int) (zdC:Int) (lv4:(Sl Int)) (sv6:(Sl Int)) (zl0:(Sl Line)):Bool :=
  (decide ((p34 cv0 zl0=true)) &&
 (cond (s34 cv0 zl0)
 (decide ((p40 (40:Int) (1:Int)=true)) &&
 (cond (match (zcg == (s40 (40:Int) (1:Int)).Num) with | true => (match (zch == (s40 (40:Int) (1:Int)).Den) with | true => true | false => false) | false => false)
 (decide ((p40 (90:Int) (1:Int)=true)) &&
 (cond (match (zci == (s40 (90:Int) (1:Int)).Num) with | true => (match (zcj == (s40 (90:Int) (1:Int)).Den) with | true => true | false => false) | false => false)
 (decide ((p39 sv6 (⟨3,zcf (zd7 [(enc_3 (0:Int)),(enc_3 (1:Int)),(enc_3 (2:Int))])⟩:(Sl Int))=true)) &&
 (cond ((s39 sv6 (⟨3, zcf (zd7 [(enc_3 (0:Int)), (enc_3 (1:Int)), (enc_3 (2:Int))])⟩ : (Sl Int))) == (0:Int))
 (decide ((p40 (499:Int) (10:Int)=true)) &&
 (cond (match (zdz == (s40 (499:Int) (10:Int)).Num) with | true => (match (zdA == (s40 (499:Int) (10:Int)).Den) with | true => true | false => false) | false => false)
 (decide ((p40 (501:Int) (10:Int)=true)) &&
 (cond (match (zdB == (s40 (501:Int) (10:Int)).Num) with | true => (match (zdC == (s40 (501:Int) (10:Int)).Den) with | true => true | false => false) | false => false)
 (decide ((p39 lv4 (⟨3,zcf (zd7 [(enc_3 (2:Int)),(enc_3 (5:Int)),(enc_3 (2:Int))])⟩:(Sl Int))=true)) &&
 true)
 true))
 true))
 true))
 true))
 true))
 true))
theorem zHd (hs:zz7 cv0 zcg zch zci zcj zdz zdA zdB zdC lv4 sv6 zl0=true) (hk:K (e18 (zz6 cv0 zcg zch zci zcj zdz zdA zdB zdC lv4 sv6 zl0))) (zNI:zK7=zg enc_3 sv6) (zHe:zz5=zg zcm zl0):z18 K [1,1,1,1,1,1,1,1] [] ⟨[(1,zS zcm 4 cv0),(3,zp 3 0),(4,zp 4 0),(6,zP (.sl sv6.len 1 zK7)),(9,zp 9 0),(10,zp 10 0),(12,zS enc_3 1 lv4),(15,zv 89)],[(3,.box 25 (zm (zai (⟨zcg,zch⟩:Frac)))),(4,.box 25 (zm (zai (⟨zci,zcj⟩:Frac)))),(9,.box 25 (zm (zai (⟨zdz,zdA⟩:Frac)))),(10,.box 25 (zm (zai (⟨zdB,zdC⟩:Frac)))),(89,.vec 37 4 32 zl0.len zz5)],[]⟩:=by subst zNI;subst zHe;exact zaI (by kernel_rfl) (zaG hs fun hc hs=>And.intro (And.intro (zE zcm 4 cv0.get) (And.intro (zE zcm 4 zl0.get) hc)) (zc hs hk (fun hs hk=>(zaG hs fun hc hs=>And.intro hc (zc hs hk (fun hs hk=>(zaG hs fun hc hs=>And.intro hc (zc hs hk (fun hs hk=>(zaG hs fun hc hs=>And.intro (And.intro (zE enc_3 1 sv6.get) (And.intro ((zgz [(2:Int)]):IsE enc_3 1 1 (zd7 [(enc_3 (0:Int)),(enc_3 (1:Int)),(enc_3 (2:Int))])) hc)) (zc hs hk (fun hs hk=>(zaG hs fun hc hs=>And.intro hc (zc hs hk (fun hs hk=>(zaG hs fun hc hs=>And.intro hc (zc hs hk (fun hs hk=>(zaG hs fun hc hs=>And.intro (And.intro (zE enc_3 1 lv4.get) (And.intro ((zgz [(2:Int)]):IsE enc_3 1 1 (zd7 [(enc_3 (2:Int)),(enc_3 (5:Int)),(enc_3 (2:Int))])) hc)) hk)) (fun hs hk=>hk)))) (fun hs hk=>hk)))) (fun hs hk=>hk)))) (fun hs hk=>hk)))) (fun hs hk=>hk)))) (fun hs hk=>hk)))
def zz8 (cv0:(Sl Line)) (zcg:Int) (zch:Int) (zci:Int) (zcj:Int) (zdz:Int) (zdA:Int) (zdB:Int) (zdC:Int) (lv4:(Sl Int)) (sv5:(Sl Int)):Bool :=
  (zz6 cv0 zcg zch zci zcj zdz zdA zdB zdC lv4 sv5 (⟨4,(zfQ (⟨(s40 (1:Int) (10:Int)),(s40 (10:Int) (1:Int))⟩:Line) [(⟨(s40 (1:Int) (10:Int)),(s40 (10:Int) (1:Int))⟩:Line),(⟨(s40 (1:Int) (5:Int)),(s40 (0:Int) (1:Int))⟩:Line),(⟨(s40 (3:Int) (10:Int)),(s40 (0:Int) (1:Int))⟩:Line),(⟨(s40 (1:Int) (5:Int)),(s40 (10:Int) (1:Int))⟩:Line)])⟩:Sl Line))
def zz9 (cv0:(Sl Line)) (zcg:Int) (zch:Int) (zci:Int) (zcj:Int) (zdz:Int) (zdA:Int) (zdB:Int) (zdC:Int) (lv4:(Sl Int)) (sv5:(Sl Int)):Bool :=
  (decide ((p40 (1:Int) (10:Int)=true)) &&
 (decide ((p40 (10:Int) (1:Int)=true)) &&
 (decide ((p40 (1:Int) (5:Int)=true)) &&
 (decide ((p40 (0:Int) (1:Int)=true)) &&
 (decide ((p40 (3:Int) (10:Int)=true)) &&
 (decide ((p40 (0:Int) (1:Int)=true)) &&
 (decide ((p40 (1:Int) (5:Int)=true)) &&
 (decide ((p40 (10:Int) (1:Int)=true)) &&
 (zz7 cv0 zcg zch zci zcj zdz zdA zdB zdC lv4 sv5 (⟨4,(zfQ (⟨(s40 (1:Int) (10:Int)),(s40 (10:Int) (1:Int))⟩:Line) [(⟨(s40 (1:Int) (10:Int)),(s40 (10:Int) (1:Int))⟩:Line),(⟨(s40 (1:Int) (5:Int)),(s40 (0:Int) (1:Int))⟩:Line),(⟨(s40 (3:Int) (10:Int)),(s40 (0:Int) (1:Int))⟩:Line),(⟨(s40 (1:Int) (5:Int)),(s40 (10:Int) (1:Int))⟩:Line)])⟩:Sl Line))))))))))
theorem zHf (hs:zz9 cv0 zcg zch zci zcj zdz zdA zdB zdC lv4 sv5=true) (hk:K (e18 (zz8 cv0 zcg zch zci zcj zdz zdA zdB zdC lv4 sv5))) (zNJ:zK6=zg enc_3 sv5):z18 K [1,1,1,1,1,1,1] [] ⟨[(1,zS zcm 4 cv0),(3,zp 3 0),(4,zp 4 0),(6,zP (.sl sv5.len 1 zK6)),(9,zp 9 0),(10,zp 10 0),(12,zS enc_3 1 lv4)],[(3,.box 25 (zm (zai (⟨zcg,zch⟩:Frac)))),(4,.box 25 (zm (zai (⟨zci,zcj⟩:Frac)))),(9,.box 25 (zm (zai (⟨zdz,zdA⟩:Frac)))),(10,.box 25 (zm (zai (⟨zdB,zdC⟩:Frac))))],[]⟩:=by subst zNJ;exact zaI (by kernel_rfl) (zaG hs fun hc hs=>And.intro hc (zaG hs fun hc hs=>And.intro hc (zaG hs fun hc hs=>And.intro hc (zaG hs fun hc hs=>And.intro hc (zaG hs fun hc hs=>And.intro hc (zaG hs fun hc hs=>And.intro hc (zaG hs fun hc hs=>And.intro hc (zaG hs fun hc hs=>And.intro hc (zHd hs hk rfl (zfh (enc:=zcm) (x:=(⟨(s40 (1:Int) (10:Int)),(s40 (10:Int) (1:Int))⟩:Line)) (y:=(⟨(s40 (1:Int) (5:Int)),(s40 (0:Int) (1:Int))⟩:Line)) (r:=[(⟨(s40 (3:Int) (10:Int)),(s40 (0:Int) (1:Int))⟩:Line),(⟨(s40 (1:Int) (5:Int)),(s40 (10:Int) (1:Int))⟩:Line)])))))))))))
def zAa (cv0:(Sl Line)) (ev0:Int) (fv1:Int) (zcg:Int) (zch:Int) (zci:Int) (zcj:Int) (gv2:Int) (zv3:Int) (hv3:Int) (zdz:Int) (zdA:Int) (zdB:Int) (zdC:Int) (sv4:(Sl Int)) (lv4:(Sl Int)) (kv4:Int) (iv4:Int):Bool :=
  (cond (ev0 != (0:Int))
 false
 (cond (fv1 != (0:Int))
 false
 (cond (gv2 != (0:Int))
 false
 (cond (hv3 != (0:Int))
 false
 (cond (iv4 != (0:Int))
 false
 (cond (kv4 != (600:Int))
 false
 (cond (zv3 != (167:Int))
 false
 (zz8 cv0 zcg zch zci zcj zdz zdA zdB zdC lv4 sv4))))))))
def zAb (cv0:(Sl Line)) (ev0:Int) (fv1:Int) (zcg:Int) (zch:Int) (zci:Int) (zcj:Int) (gv2:Int) (zv3:Int) (hv3:Int) (zdz:Int) (zdA:Int) (zdB:Int) (zdC:Int) (sv4:(Sl Int)) (lv4:(Sl Int)) (kv4:Int) (iv4:Int):Bool :=
  (cond (ev0 != (0:Int))
 true
 (cond (fv1 != (0:Int))
 true
 (cond (gv2 != (0:Int))
 true
 (cond (hv3 != (0:Int))
 true
 (cond (iv4 != (0:Int))
 true
 (cond (kv4 != (600:Int))
 true
 (cond (zv3 != (167:Int))
 true
 (zz9 cv0 zcg zch zci zcj zdz zdA zdB zdC lv4 sv4))))))))
theorem zHg (hs:zAb cv0 ev0 fv1 zcg zch zci zcj gv2 zv3 hv3 zdz zdA zdB zdC sv4 lv4 kv4 iv4=true) (hk:K (e18 (zAa cv0 ev0 fv1 zcg zch zci zcj gv2 zv3 hv3 zdz zdA zdB zdC sv4 lv4 kv4 iv4))) (zNK:zK4=zg enc_3 sv4) (zNL:zK5=zg enc_3 lv4):z18 K [1,1,1,1,1,1] [] ⟨[(1,zS zcm 4 cv0),(2,zI ev0),(3,zp 3 0),(4,zp 4 0),(5,zI fv1),(6,zP (.sl sv4.len 1 zK4)),(7,zI gv2),(8,zI zv3),(9,zp 9 0),(10,zp 10 0),(11,zI hv3),(12,zP (.sl lv4.len 1 zK5)),(13,zI kv4),(14,zI iv4)],[(3,.box 25 (zm (zai (⟨zcg,zch⟩:Frac)))),(4,.box 25 (zm (zai (⟨zci,zcj⟩:Frac)))),(9,.box 25 (zm (zai (⟨zdz,zdA⟩:Frac)))),(10,.box 25 (zm (zai (⟨zdB,zdC⟩:Frac))))],[]⟩:=by subst zNK;subst zNL;exact zaI (by kernel_rfl) (zc hs hk (fun hs hk=>hk) (fun hs hk=>(zc hs hk (fun hs hk=>hk) (fun hs hk=>(zc hs hk (fun hs hk=>hk) (fun hs hk=>(zc hs hk (fun hs hk=>hk) (fun hs hk=>(zc hs hk (fun hs hk=>hk) (fun hs hk=>(zc hs hk (fun hs hk=>hk) (fun hs hk=>(zc hs hk (fun hs hk=>hk) (fun hs hk=>(zHf hs hk rfl)))))))))))))))
def zAc (cv0:(Sl Line)) (ev0:Int) (fv1:Int) (zcg:Int) (zch:Int) (zci:Int) (zcj:Int) (gv2:Int) (sv3:(Sl Int)) (zv3:Int) (hv3:Int) (zdz:Int) (zdA:Int) (zdB:Int) (zdC:Int):Bool :=
  (zAa cv0 ev0 fv1 zcg zch zci zcj gv2 zv3 hv3 zdz zdA zdB zdC sv3 ((s55 (⟨3,zah (zd7 [(zac (⟨(0:Int),(0:Int),(2:Int)⟩:Gate)),(zac (⟨(10:Int),(5:Int),(6:Int)⟩:Gate)),(zac (⟨(20:Int),(0:Int),(2:Int)⟩:Gate))])⟩:(Sl Gate))).1) ((s55 (⟨3,zah (zd7 [(zac (⟨(0:Int),(0:Int),(2:Int)⟩:Gate)),(zac (⟨(10:Int),(5:Int),(6:Int)⟩:Gate)),(zac (⟨(20:Int),(0:Int),(2:Int)⟩:Gate))])⟩:(Sl Gate))).2.1) ((s55 (⟨3,zah (zd7 [(zac (⟨(0:Int),(0:Int),(2:Int)⟩:Gate)),(zac (⟨(10:Int),(5:Int),(6:Int)⟩:Gate)),(zac (⟨(20:Int),(0:Int),(2:Int)⟩:Gate))])⟩:(Sl Gate))).2.2))
def zAd (cv0:(Sl Line)) (ev0:Int) (fv1:Int) (zcg:Int) (zch:Int) (zci:Int) (zcj:Int) (gv2:Int) (sv3:(Sl Int)) (zv3:Int) (hv3:Int) (zdz:Int) (zdA:Int) (zdB:Int) (zdC:Int):Bool :=
  (decide ((p55 (⟨3,zah (zd7 [(zac (⟨(0:Int),(0:Int),(2:Int)⟩:Gate)),(zac (⟨(10:Int),(5:Int),(6:Int)⟩:Gate)),(zac (⟨(20:Int),(0:Int),(2:Int)⟩:Gate))])⟩:(Sl Gate))=true)) &&
 (zAb cv0 ev0 fv1 zcg zch zci zcj gv2 zv3 hv3 zdz zdA zdB zdC sv3 ((s55 (⟨3,zah (zd7 [(zac (⟨(0:Int),(0:Int),(2:Int)⟩:Gate)),(zac (⟨(10:Int),(5:Int),(6:Int)⟩:Gate)),(zac (⟨(20:Int),(0:Int),(2:Int)⟩:Gate))])⟩:(Sl Gate))).1) ((s55 (⟨3,zah (zd7 [(zac (⟨(0:Int),(0:Int),(2:Int)⟩:Gate)),(zac (⟨(10:Int),(5:Int),(6:Int)⟩:Gate)),(zac (⟨(20:Int),(0:Int),(2:Int)⟩:Gate))])⟩:(Sl Gate))).2.1) ((s55 (⟨3,zah (zd7 [(zac (⟨(0:Int),(0:Int),(2:Int)⟩:Gate)),(zac (⟨(10:Int),(5:Int),(6:Int)⟩:Gate)),(zac (⟨(20:Int),(0:Int),(2:Int)⟩:Gate))])⟩:(Sl Gate))).2.2)))
theorem zHh (hs:zAd cv0 ev0 fv1 zcg zch zci zcj gv2 sv3 zv3 hv3 zdz zdA zdB zdC=true) (hk:K (e18 (zAc cv0 ev0 fv1 zcg zch zci zcj gv2 sv3 zv3 hv3 zdz zdA zdB zdC))) (zNM:zK3=zg enc_3 sv3):z18 K [1,1,1,1,1] [] ⟨[(1,zS zcm 4 cv0),(2,zI ev0),(3,zp 3 0),(4,zp 4 0),(5,zI fv1),(6,zP (.sl sv3.len 1 zK3)),(7,zI gv2),(8,zI zv3),(9,zp 9 0),(10,zp 10 0),(11,zI hv3)],[(3,.box 25 (zm (zai (⟨zcg,zch⟩:Frac)))),(4,.box 25 (zm (zai (⟨zci,zcj⟩:Frac)))),(9,.box 25 (zm (zai (⟨zdz,zdA⟩:Frac)))),(10,.box 25 (zm (zai (⟨zdB,zdC⟩:Frac))))],[]⟩:=by subst zNM;exact zaI (by kernel_rfl) (zaG hs fun hc hs=>And.intro (And.intro ((zgz [(⟨(20:Int),(0:Int),(2:Int)⟩:Gate)]):IsE zac 3 3 (zd7 [(zac (⟨(0:Int),(0:Int),(2:Int)⟩:Gate)),(zac (⟨(10:Int),(5:Int),(6:Int)⟩:Gate)),(zac (⟨(20:Int),(0:Int),(2:Int)⟩:Gate))])) hc) (zHg hs hk rfl rfl))
def zAe (cv0:(Sl Line)) (ev0:Int) (fv1:Int) (zcg:Int) (zch:Int) (zci:Int) (zcj:Int) (sv2:(Sl Int)) (gv2:Int):Bool :=
  (zAc cv0 ev0 fv1 zcg zch zci zcj gv2 sv2 ((s19 s62 (⟨2,zah (zd7 [(zac (⟨(0:Int),(100:Int),(110:Int)⟩:Gate)),(zac (⟨(200:Int),(40:Int),(50:Int)⟩:Gate))])⟩:(Sl Gate)) (0:Int) (300:Int)).1) ((s19 s62 (⟨2,zah (zd7 [(zac (⟨(0:Int),(100:Int),(110:Int)⟩:Gate)),(zac (⟨(200:Int),(40:Int),(50:Int)⟩:Gate))])⟩:(Sl Gate)) (0:Int) (300:Int)).2.2.2) (((s19 s62 (⟨2,zah (zd7 [(zac (⟨(0:Int),(100:Int),(110:Int)⟩:Gate)),(zac (⟨(200:Int),(40:Int),(50:Int)⟩:Gate))])⟩:(Sl Gate)) (0:Int) (300:Int)).2.1).Num) (((s19 s62 (⟨2,zah (zd7 [(zac (⟨(0:Int),(100:Int),(110:Int)⟩:Gate)),(zac (⟨(200:Int),(40:Int),(50:Int)⟩:Gate))])⟩:(Sl Gate)) (0:Int) (300:Int)).2.1).Den) (((s19 s62 (⟨2,zah (zd7 [(zac (⟨(0:Int),(100:Int),(110:Int)⟩:Gate)),(zac (⟨(200:Int),(40:Int),(50:Int)⟩:Gate))])⟩:(Sl Gate)) (0:Int) (300:Int)).2.2.1).Num) (((s19 s62 (⟨2,zah (zd7 [(zac (⟨(0:Int),(100:Int),(110:Int)⟩:Gate)),(zac (⟨(200:Int),(40:Int),(50:Int)⟩:Gate))])⟩:(Sl Gate)) (0:Int) (300:Int)).2.2.1).Den))
def zAf (cv0:(Sl Line)) (ev0:Int) (fv1:Int) (zcg:Int) (zch:Int) (zci:Int) (zcj:Int) (sv2:(Sl Int)) (gv2:Int):Bool :=
  (decide ((p19 s62 (⟨2,zah (zd7 [(zac (⟨(0:Int),(100:Int),(110:Int)⟩:Gate)),(zac (⟨(200:Int),(40:Int),(50:Int)⟩:Gate))])⟩:(Sl Gate)) (0:Int) (300:Int)=true)) &&
 (zAd cv0 ev0 fv1 zcg zch zci zcj gv2 sv2 ((s19 s62 (⟨2,zah (zd7 [(zac (⟨(0:Int),(100:Int),(110:Int)⟩:Gate)),(zac (⟨(200:Int),(40:Int),(50:Int)⟩:Gate))])⟩:(Sl Gate)) (0:Int) (300:Int)).1) ((s19 s62 (⟨2,zah (zd7 [(zac (⟨(0:Int),(100:Int),(110:Int)⟩:Gate)),(zac (⟨(200:Int),(40:Int),(50:Int)⟩:Gate))])⟩:(Sl Gate)) (0:Int) (300:Int)).2.2.2) (((s19 s62 (⟨2,zah (zd7 [(zac (⟨(0:Int),(100:Int),(110:Int)⟩:Gate)),(zac (⟨(200:Int),(40:Int),(50:Int)⟩:Gate))])⟩:(Sl Gate)) (0:Int) (300:Int)).2.1).Num) (((s19 s62 (⟨2,zah (zd7 [(zac (⟨(0:Int),(100:Int),(110:Int)⟩:Gate)),(zac (⟨(200:Int),(40:Int),(50:Int)⟩:Gate))])⟩:(Sl Gate)) (0:Int) (300:Int)).2.1).Den) (((s19 s62 (⟨2,zah (zd7 [(zac (⟨(0:Int),(100:Int),(110:Int)⟩:Gate)),(zac (⟨(200:Int),(40:Int),(50:Int)⟩:Gate))])⟩:(Sl Gate)) (0:Int) (300:Int)).2.2.1).Num) (((s19 s62 (⟨2,zah (zd7 [(zac (⟨(0:Int),(100:Int),(110:Int)⟩:Gate)),(zac (⟨(200:Int),(40:Int),(50:Int)⟩:Gate))])⟩:(Sl Gate)) (0:Int) (300:Int)).2.2.1).Den)))
theorem zHi (hs:zAf cv0 ev0 fv1 zcg zch zci zcj sv2 gv2=true) (hk:K (e18 (zAe cv0 ev0 fv1 zcg zch zci zcj sv2 gv2))) (zNN:zK2=zg enc_3 sv2):z18 K [1,1,1,1] [] ⟨[(1,zS zcm 4 cv0),(2,zI ev0),(3,zp 3 0),(4,zp 4 0),(5,zI fv1),(6,zP (.sl sv2.len 1 zK2)),(7,zI gv2)],[(3,.box 25 (zm (zai (⟨zcg,zch⟩:Frac)))),(4,.box 25 (zm (zai (⟨zci,zcj⟩:Frac))))],[]⟩:=by subst zNN;exact zaI (by kernel_rfl) (zaG hs fun hc hs=>And.intro (And.intro (zE zac 3 s62.get) (And.intro ((zgz []):IsE zac 3 3 (zd7 [(zac (⟨(0:Int),(100:Int),(110:Int)⟩:Gate)),(zac (⟨(200:Int),(40:Int),(50:Int)⟩:Gate))])) hc)) (zHh hs hk rfl))
def zAg (cv0:(Sl Line)) (ev0:Int) (fv1:Int) (zcg:Int) (zch:Int) (zci:Int) (zcj:Int):Bool :=
  (zAe cv0 ev0 fv1 zcg zch zci zcj ((s38 s63).1) ((s38 s63).2))
def zAh (cv0:(Sl Line)) (ev0:Int) (fv1:Int) (zcg:Int) (zch:Int) (zci:Int) (zcj:Int):Bool :=
  (decide ((p38 s63=true)) &&
 (zAf cv0 ev0 fv1 zcg zch zci zcj ((s38 s63).1) ((s38 s63).2)))
theorem zHj (hs:zAh cv0 ev0 fv1 zcg zch zci zcj=true) (hk:K (e18 (zAg cv0 ev0 fv1 zcg zch zci zcj))):z18 K [1,1,1] [] ⟨[(1,zS zcm 4 cv0),(2,zI ev0),(3,zp 3 0),(4,zp 4 0),(5,zI fv1)],[(3,.box 25 (zm (zai (⟨zcg,zch⟩:Frac)))),(4,.box 25 (zm (zai (⟨zci,zcj⟩:Frac))))],[]⟩:=zaI (by kernel_rfl) (zaG hs fun hc hs=>And.intro (And.intro (zE zac 3 s63.get) hc) (zHi hs hk rfl))
def zAi (cv0:(Sl Line)) (ev0:Int):Bool :=
  (zAg cv0 ev0 ((s30 s62 (300:Int)).2.2) (((s30 s62 (300:Int)).1).Num) (((s30 s62 (300:Int)).1).Den) (((s30 s62 (300:Int)).2.1).Num) (((s30 s62 (300:Int)).2.1).Den))
def zAj (cv0:(Sl Line)) (ev0:Int):Bool :=
  (decide ((p30 s62 (300:Int)=true)) &&
 (zAh cv0 ev0 ((s30 s62 (300:Int)).2.2) (((s30 s62 (300:Int)).1).Num) (((s30 s62 (300:Int)).1).Den) (((s30 s62 (300:Int)).2.1).Num) (((s30 s62 (300:Int)).2.1).Den)))
theorem zHk (hs:zAj cv0 ev0=true) (hk:K (e18 (zAi cv0 ev0))) (zNO:zK1=zg zcm cv0):z18 K [1,1] [] ⟨[(1,zP (.sl cv0.len 4 zK1)),(2,zI ev0)],[],[]⟩:=by subst zNO;exact zaI (by kernel_rfl) (zaG hs fun hc hs=>And.intro (And.intro (zE zac 3 s62.get) hc) (zHj hs hk))
def s18:Bool :=
  (zAi ((s31 s62).1) ((s31 s62).2))
def p18:Bool :=
  (decide ((p31 s62=true)) &&
 (zAj ((s31 s62).1) ((s31 s62).2)))
end
theorem q18 (K:List PA→Prop) (hs:p18=true) (hk:K (e18 (s18))):vcFun Try.prog G18 zHc 18 [] K :=
  zaI (by kernel_rfl) (zaG hs fun hc hs=>And.intro (And.intro (zE zac 3 s62.get) hc) (zHk hs hk rfl))
theorem zK8:p18=true:=by kernel_rfl
theorem zK9:s18=true:=by kernel_rfl
def zHl : List PA → COut
  | []=>.tot [.one (.bool true)]
  | _=>.no
theorem zLa:zal Try.prog 18:=⟨_,rfl,rfl,by kernel_rfl⟩
theorem zQe:Ok Try.prog 18 zHl:=zaY zNH zLa fun args K h=>by
  unfold zHl at h
  split at h
  · refine ⟨fun _ _ => [], fun _ => false, zHc, q18 K zK8 ?_⟩
    show K [.one (.bool s18)]
    rw [zK9];exact h
  · exact h.elim
abbrev T44:Tabs:=((Tabs.nil.addF 74 znm).addF 85 zvl)
theorem zNP:TabsOk Try.prog T44:=((TabsOk.nil.addF zEN).addF zLX)
abbrev G44:Ctrs:=csm T44 (fun _ _=>[]) (fun _=>false)
def zHm:Ann:=⟨92,[(0,zK [0,1] []),(1,zK [0,1,20] []),(2,zK [4,5] []),(3,zK [0,1,21,22,23] []),(4,zK [0,1,21,22,23,24] []),(5,zK [0,1,6,7,21,22,23] []),(6,zK [0,1,21,22,23,51] []),(7,zK [4,5] []),(8,zK [0,1,21,22,23] []),(9,zK [0,1,8] []),(10,zK [0,1,8,55,56] []),(11,zK [0,1,8,55,56,57] []),(12,zK [0,1,8,9,55,56] []),(13,zK [0,1,8,55,56] []),(14,zK [0,1,8,55,56] []),(15,zK [4,5] [])],
 [(4,zK [0,1,21,22,23] []),(11,zK [0,1,8,55,56] [])],
 [(2,zK [0,1,20] []),(3,zK [0,1] []),(7,zK [0,1,21,22,23,51] []),(9,zK [0,1] [])],
 [],[]⟩
abbrev R44:=(Int×Int)
abbrev e44 (r:R44):List PA:=[.one (.int .i64 r.1),.one (.int .i64 r.2)]
@[irreducible] def z44:=ptF Try.prog G44 zHm Try.f44
def zDN (heights:(Sl Int)) (places:(Sl Int)) (zb7:Int):St:=⟨[(0,zS enc_3 1 heights),(1,zS enc_3 1 places),(21,zS enc_3 1 heights),(22,zI (heights.len:Int)),(23,zI zb7)],[],[]⟩
abbrev zHn (K:List PA→Prop) (heights:(Sl Int)) (places:(Sl Int)) (X:St→Prop) (P:Int→Bool) (S:Int→(Int×Int)):Prop:=∀ ⦃zb7:Int⦄,P zb7=true→K (e44 (S zb7))→X (zDN heights places zb7)
def zDO (heights:(Sl Int)) (places:(Sl Int)) (zaH:Int) (zbk:Int):St:=⟨[(0,zS enc_3 1 heights),(1,zS enc_3 1 places),(8,zI zaH),(55,zI (w64 ((heights.len:Int) - (2:Int)))),(56,zI zbk)],[],[]⟩
abbrev zLb (K:List PA→Prop) (heights:(Sl Int)) (places:(Sl Int)) (X:St→Prop) (P:Int→Int→Bool) (S:Int→Int→(Int×Int)):Prop:=∀ ⦃zaH:Int⦄ ⦃zbk:Int⦄,P zaH zbk=true→K (e44 (S zaH zbk))→X (zDO heights places zaH zbk)
section
variable {K:List PA→Prop} {heights:(Sl Int)} {places:(Sl Int)} {zcJ:Bool} {zb7:Int} {X2:St→Prop} {P2:Int→Bool} {S2:Int→(Int×Int)} {zsq:Int} {zsr:Bool} {zaH:Int} {zbk:Int} {X5:St→Prop} {P5:Int→Int→Bool} {S5:Int→Int→(Int×Int)}
def zi2 (heights:(Sl Int)) (places:(Sl Int)) (S5:Int→Int→(Int×Int)) (zaH:Int) (zbk:Int):(Int×Int) :=
  (cond (decide (zbk < (w64 ((heights.len : Int) - (2:Int)))))
 (S5 (if (s85 (heights.get zbk.toNat) (heights.get ((w64 (zbk+(1:Int))).toNat)) (heights.get ((w64 (zbk+(2:Int))).toNat)) (places.get zbk.toNat) (places.get ((w64 (zbk+(1:Int))).toNat)) (places.get ((w64 (zbk+(2:Int))).toNat))) > zaH then (s85 (heights.get zbk.toNat) (heights.get ((w64 (zbk+(1:Int))).toNat)) (heights.get ((w64 (zbk+(2:Int))).toNat)) (places.get zbk.toNat) (places.get ((w64 (zbk+(1:Int))).toNat)) (places.get ((w64 (zbk+(2:Int))).toNat))) else zaH) (w64 (zbk+(1:Int))))
 (zaH,(0:Int)))
def zi3 (heights:(Sl Int)) (places:(Sl Int)) (P5:Int→Int→Bool) (zaH:Int) (zbk:Int):Bool :=
  (cond (decide (zbk < (w64 ((heights.len : Int) - (2:Int)))))
 (decide ((0≤zbk∧zbk < (heights.len:Int))) &&
 (decide ((0≤(w64 (zbk+(1:Int)))∧(w64 (zbk+(1:Int))) < (heights.len:Int))) &&
 (decide ((0≤(w64 (zbk+(2:Int)))∧(w64 (zbk+(2:Int))) < (heights.len:Int))) &&
 (decide ((0≤zbk∧zbk < (places.len:Int))) &&
 (decide ((0≤(w64 (zbk+(1:Int)))∧(w64 (zbk+(1:Int))) < (places.len:Int))) &&
 (decide ((0≤(w64 (zbk+(2:Int)))∧(w64 (zbk+(2:Int))) < (places.len:Int))) &&
 (decide ((p85 (heights.get zbk.toNat) (heights.get ((w64 (zbk+(1:Int))).toNat)) (heights.get ((w64 (zbk+(2:Int))).toNat)) (places.get zbk.toNat) (places.get ((w64 (zbk+(1:Int))).toNat)) (places.get ((w64 (zbk+(2:Int))).toNat))=true)) &&
 (P5 (if (s85 (heights.get zbk.toNat) (heights.get ((w64 (zbk+(1:Int))).toNat)) (heights.get ((w64 (zbk+(2:Int))).toNat)) (places.get zbk.toNat) (places.get ((w64 (zbk+(1:Int))).toNat)) (places.get ((w64 (zbk+(2:Int))).toNat))) > zaH then (s85 (heights.get zbk.toNat) (heights.get ((w64 (zbk+(1:Int))).toNat)) (heights.get ((w64 (zbk+(2:Int))).toNat)) (places.get zbk.toNat) (places.get ((w64 (zbk+(1:Int))).toNat)) (places.get ((w64 (zbk+(2:Int))).toNat))) else zaH) (w64 (zbk+(1:Int)))))))))))
 true)
def zi4 (heights:(Sl Int)) (places:(Sl Int)):Nat→Int→Int→(Int×Int):=lpO (fun _ _=>default) (zi2 heights places)
def zi5 (heights:(Sl Int)) (places:(Sl Int)):Nat→Int→Int→Bool:=lpO (fun _ _=>false) (zi3 heights places)
def zAk (heights:(Sl Int)) (places:(Sl Int)) (zaH:Int) (zbk:Int):(Int×Int):=zi4 heights places Fuel zaH zbk
def zAl (heights:(Sl Int)) (places:(Sl Int)) (zaH:Int) (zbk:Int):Bool:=zi5 heights places Fuel zaH zbk
theorem zHo (hs:zAl heights places zaH zbk=true) (hk:K (e44 (zAk heights places zaH zbk))):z44 K [1,1,1,1,0,1,0] [] (zDO heights places zaH zbk) :=
  zl (fun X=>z44 K [1,1,1,1,0,1,0,0] [X]) (by kernel_rfl) fun X5 hX =>
  (show ∀ k, zLb K heights places X5 (zi5 heights places k) (zi4 heights places k) from zgM _ _ (zi3 heights places) (zi2 heights places) (zLb K heights places X5)
 (by intro _ _ hs;exact absurd hs Bool.false_ne_true)
 (by intro P5 S5 hX5 zaH zbk hs hk;exact hX _ (zaI (by kernel_rfl) (zc hs hk (fun hs hk=>(zaG hs fun hc hs=>And.intro hc (zaG hs fun hc hs=>And.intro hc (zaG hs fun hc hs=>And.intro hc (zaG hs fun hc hs=>And.intro hc (zaG hs fun hc hs=>And.intro hc (zaG hs fun hc hs=>And.intro hc (zaG hs fun hc hs=>And.intro hc (hX5 hs hk))))))))) (fun hs hk=>hk))))) _ hs hk
def znX (heights:(Sl Int)) (places:(Sl Int)):(Int×Int) :=
  (zAk heights places (0:Int) (0:Int))
def znY (heights:(Sl Int)) (places:(Sl Int)):Bool :=
  (zAl heights places (0:Int) (0:Int))
theorem zHp (hs:znY heights places=true) (hk:K (e44 (znX heights places))):z44 K [1,1,1] [] ⟨[(0,zS enc_3 1 heights),(1,zS enc_3 1 places)],[],[]⟩:=zaI (by kernel_rfl) (zHo hs hk)
def zi6 (S2:Int→(Int×Int)) (heights:(Sl Int)) (places:(Sl Int)) (zsq:Int) (zsr:Bool):(Int×Int) :=
  (cond zsr
 ((0:Int),(2:Int))
 (S2 (w64 (zsq+(1:Int)))))
def zi7 (P2:Int→Bool) (heights:(Sl Int)) (places:(Sl Int)) (zsq:Int) (zsr:Bool):Bool :=
  (cond zsr
 true
 (P2 (w64 (zsq+(1:Int)))))
theorem znZ (hX2:zHn K heights places X2 P2 S2) (hs:zi7 P2 heights places zsq zsr=true) (hk:K (e44 (zi6 S2 heights places zsq zsr))):z44 K [1,1,0,1,0,0,1,1,0,0,1,1] [X2] ⟨[(0,zS enc_3 1 heights),(1,zS enc_3 1 places),(21,zS enc_3 1 heights),(22,zI (heights.len:Int)),(23,zI zsq),(51,zB zsr)],[],[]⟩:=zaI (by kernel_rfl) (zc hs hk (fun hs hk=>hk) (fun hs hk=>(hX2 hs hk)))
def zi8 (heights:(Sl Int)) (places:(Sl Int)) (S2:Int→(Int×Int)) (zb7:Int):(Int×Int) :=
  (cond (decide (zb7 < (heights.len : Int)))
 (cond (!(s74 (heights.get zb7.toNat) (0:Int) (100000:Int)))
 (zi6 S2 heights places zb7 true)
 (cond (decide (zb7 > (0:Int)))
 (cond (decide ((heights.get zb7.toNat) ≤ (heights.get ((w64 (zb7 - (1:Int))).toNat))))
 (zi6 S2 heights places zb7 true)
 (zi6 S2 heights places zb7 (!(s74 (places.get zb7.toNat) (-1000000:Int) (1000000:Int)))))
 (zi6 S2 heights places zb7 (!(s74 (places.get zb7.toNat) (-1000000:Int) (1000000:Int))))))
 (znX heights places))
def zi9 (heights:(Sl Int)) (places:(Sl Int)) (P2:Int→Bool) (zb7:Int):Bool :=
  (cond (decide (zb7 < (heights.len : Int)))
 (decide ((0≤zb7∧zb7 < (heights.len:Int))) &&
 (cond (!(s74 (heights.get zb7.toNat) (0:Int) (100000:Int)))
 (zi7 P2 heights places zb7 true)
 (cond (decide (zb7 > (0:Int)))
 (decide ((0≤(w64 (zb7 - (1:Int)))∧(w64 (zb7 - (1:Int))) < (heights.len:Int))) &&
 (cond (decide ((heights.get zb7.toNat) ≤ (heights.get ((w64 (zb7 - (1:Int))).toNat))))
 (zi7 P2 heights places zb7 true)
 (decide ((0≤zb7∧zb7 < (places.len:Int))) &&
 (zi7 P2 heights places zb7 (!(s74 (places.get zb7.toNat) (-1000000:Int) (1000000:Int)))))))
 (decide ((0≤zb7∧zb7 < (places.len:Int))) &&
 (zi7 P2 heights places zb7 (!(s74 (places.get zb7.toNat) (-1000000:Int) (1000000:Int))))))))
 (znY heights places))
def zja (heights:(Sl Int)) (places:(Sl Int)):Nat→Int→(Int×Int):=lpO (fun _=>default) (zi8 heights places)
def zjb (heights:(Sl Int)) (places:(Sl Int)):Nat→Int→Bool:=lpO (fun _=>false) (zi9 heights places)
def zAm (heights:(Sl Int)) (places:(Sl Int)) (zb7:Int):(Int×Int):=zja heights places Fuel zb7
def zAn (heights:(Sl Int)) (places:(Sl Int)) (zb7:Int):Bool:=zjb heights places Fuel zb7
theorem zHq (hs:zAn heights places zb7=true) (hk:K (e44 (zAm heights places zb7))):z44 K [1,1,0,1,0] [] (zDN heights places zb7) :=
  zl (fun X=>z44 K [1,1,0,1,0,0] [X]) (by kernel_rfl) fun X2 hX =>
  (show ∀ k, zHn K heights places X2 (zjb heights places k) (zja heights places k) from zgM _ _ (zi9 heights places) (zi8 heights places) (zHn K heights places X2)
 (by intro _ hs;exact absurd hs Bool.false_ne_true)
 (by intro P2 S2 hX2 zb7 hs hk;exact hX _ (zaI (by kernel_rfl) (zc hs hk (fun hs hk=>(zaG hs fun hc hs=>And.intro hc (zc hs hk (fun hs hk=>(znZ hX2 hs hk)) (fun hs hk=>(zc hs hk (fun hs hk=>(zaG hs fun hc hs=>And.intro hc (zc hs hk (fun hs hk=>(znZ hX2 hs hk)) (fun hs hk=>(zaG hs fun hc hs=>And.intro hc (znZ hX2 hs hk)))))) (fun hs hk=>(zaG hs fun hc hs=>And.intro hc (znZ hX2 hs hk)))))))) (fun hs hk=>(zHp hs hk)))))) _ hs hk
def zAo (heights:(Sl Int)) (places:(Sl Int)):(Int×Int) :=
  (zAm heights places (0:Int))
def zAp (heights:(Sl Int)) (places:(Sl Int)):Bool :=
  (zAn heights places (0:Int))
theorem zHr (hs:zAp heights places=true) (hk:K (e44 (zAo heights places))):z44 K [1,1] [] ⟨[(0,zS enc_3 1 heights),(1,zS enc_3 1 places)],[],[]⟩:=zaI (by kernel_rfl) (zHq hs hk)
def zn0 (heights:(Sl Int)) (places:(Sl Int)) (zcJ:Bool):(Int×Int) :=
  (cond zcJ
 ((0:Int),(2:Int))
 (zAo heights places))
def zn1 (heights:(Sl Int)) (places:(Sl Int)) (zcJ:Bool):Bool :=
  (cond zcJ
 true
 (zAp heights places))
theorem zAq (hs:zn1 heights places zcJ=true) (hk:K (e44 (zn0 heights places zcJ))):z44 K [1,0,1] [] ⟨[(0,zS enc_3 1 heights),(1,zS enc_3 1 places),(20,zB zcJ)],[],[]⟩:=zaI (by kernel_rfl) (zc hs hk (fun hs hk=>hk) (fun hs hk=>(zHr hs hk)))
def s44 (heights:(Sl Int)) (places:(Sl Int)):(Int×Int) :=
  (cond (!(s74 (heights.len : Int) (2:Int) (8:Int)))
 (zn0 heights places true)
 (zn0 heights places ((places.len:Int) != (heights.len:Int))))
def p44 (heights:(Sl Int)) (places:(Sl Int)):Bool :=
  (cond (!(s74 (heights.len : Int) (2:Int) (8:Int)))
 (zn1 heights places true)
 (zn1 heights places ((places.len:Int) != (heights.len:Int))))
end
theorem q44 (heights:(Sl Int)) (places:(Sl Int)) (K:List PA→Prop) (hs:p44 heights places=true) (hk:K (e44 (s44 heights places))):vcFun Try.prog G44 zHm 44 [.one (.sl heights.len 1 (fun i=>enc_3 (heights.get i))),.one (.sl places.len 1 (fun i=>enc_3 (places.get i)))] K :=
  zaI (by kernel_rfl) (zc hs hk (fun hs hk=>(zAq hs hk)) (fun hs hk=>(zAq hs hk)))
def zHs : List PA → COut
  | [.one (.sl a0_n a0_s a0_g),.one (.sl a1_n a1_s a1_g)]=>.det (IsE enc_3 1 a0_s a0_g∧IsE enc_3 1 a1_s a1_g∧p44 (⟨a0_n,zcf a0_g⟩:(Sl Int)) (⟨a1_n,zcf a1_g⟩:(Sl Int))=true) [.one (.int .i64 ((s44 (⟨a0_n,zcf a0_g⟩:(Sl Int)) (⟨a1_n,zcf a1_g⟩:(Sl Int))).1)),.one (.int .i64 ((s44 (⟨a0_n,zcf a0_g⟩:(Sl Int)) (⟨a1_n,zcf a1_g⟩:(Sl Int))).2))]
  | _=>.no
theorem zLc:zal Try.prog 44:=⟨_,rfl,rfl,by kernel_rfl⟩
theorem zQf:Ok Try.prog 44 zHs:=zaY zNP zLc fun args K h=>by
  unfold zHs at h
  split at h
  · rename_i a0_n a0_s a0_g a1_n a1_s a1_g
    obtain ⟨⟨⟨rfl,a0_f,rfl⟩,⟨rfl,a1_f,rfl⟩,hs⟩,hk⟩:=h
    try rw [zbP a0_f] at hs
    try rw [zbP a0_f] at hk
    try rw [zbP a1_f] at hs
    try rw [zbP a1_f] at hk
    exact ⟨(fun _ _=>[]),(fun _=>false),zHm,q44 (⟨a0_n,a0_f⟩:(Sl Int)) (⟨a1_n,a1_f⟩:(Sl Int)) K hs hk⟩
  · exact h.elim
abbrev T70:Tabs:=Tabs.nil
theorem zNQ:TabsOk Try.prog T70:=TabsOk.nil
abbrev G70:Ctrs:=csm T70 (fun _ _=>[]) (fun _=>false)
def zLd:Ann:=⟨15,[(0,zK [0,1,2] []),(1,zK [6] [])],
 [],
 [],
 [],[]⟩
abbrev R70:=Bool
abbrev e70 (r:R70):List PA:=[.one (.bool r)]
section
variable {K:List PA→Prop} {n:Int} {low:Int} {high:Int}
def s70 (n:Int) (low:Int) (high:Int):Bool :=
  (cond (decide (n ≥ low))
 (decide (n≤high))
 false)
end
theorem q70 (n:Int) (low:Int) (high:Int) (K:List PA→Prop) (hk:K (e70 (s70 n low high))):vcFun Try.prog G70 zLd 70 [.one (.int .i64 n),.one (.int .i64 low),.one (.int .i64 high)] K :=
  zaI (by kernel_rfl) (zt hk (fun hk=>hk) (fun hk=>hk))
def zCv : List PA → COut
  | [.one (.int .i64 a0),.one (.int .i64 a1),.one (.int .i64 a2)]=>.tot [.one (.bool (s70 a0 a1 a2))]
  | _=>.no
theorem zLe:zal Try.prog 70:=⟨_,rfl,rfl,by kernel_rfl⟩
theorem zOJ:Ok Try.prog 70 zCv:=zaY zNQ zLe fun args K h=>by
  unfold zCv at h
  split at h
  · rename_i a0 a1 a2
    have hk:=h
    exact ⟨(fun _ _=>[]),(fun _=>false),zLd,q70 a0 a1 a2 K hk⟩
  · exact h.elim
abbrev T45:Tabs:=(Tabs.nil.addF 70 zCv)
theorem zNR:TabsOk Try.prog T45:=(TabsOk.nil.addF zOJ)
abbrev G45:Ctrs:=csm T45 (fun _ _=>[]) (fun _=>false)
def zCw:Ann:=⟨35,[(0,zK [0] []),(1,zK [0,3] []),(2,zK [0,3,7] []),(3,zK [0,3] []),(4,zK [0,3,31] []),(5,zK [2] []),(6,zK [2] [])],
 [(2,zK [0,3] [])],
 [(5,zK [0,3,31] [])],
 [],[]⟩
abbrev R45:=Bool
abbrev e45 (r:R45):List PA:=[.one (.bool r)]
@[irreducible] def z45:=ptF Try.prog G45 zCw Try.f45
def zDP (l_a0:(Sl Int)) (iv0:Int):St:=⟨[(0,zS enc_3 1 l_a0),(3,zI iv0)],[],[]⟩
abbrev zHt (K:List PA→Prop) (l_a0:(Sl Int)) (X:St→Prop) (P:Int→Bool) (S:Int→Bool):Prop:=∀ ⦃iv0:Int⦄,P iv0=true→K (e45 (S iv0))→X (zDP l_a0 iv0)
section
variable {K:List PA→Prop} {l_a0:(Sl Int)} {iv0:Int} {X0:St→Prop} {P0:Int→Bool} {S0:Int→Bool} {iv1:Int} {zss:Bool}
def zlv (S0:Int→Bool) (l_a0:(Sl Int)) (iv1:Int) (zss:Bool):Bool :=
  (cond zss
 false
 (S0 (w64 (iv1+(1:Int)))))
def zlw (P0:Int→Bool) (l_a0:(Sl Int)) (iv1:Int) (zss:Bool):Bool :=
  (cond zss
 true
 (P0 (w64 (iv1+(1:Int)))))
theorem zst (hX0:zHt K l_a0 X0 P0 S0) (hs:zlw P0 l_a0 iv1 zss=true) (hk:K (e45 (zlv S0 l_a0 iv1 zss))):z45 K [1,0,1,0,0,1,0,0,1] [X0] ⟨[(0,zS enc_3 1 l_a0),(3,zI iv1),(31,zB zss)],[],[]⟩:=zaI (by kernel_rfl) (zc hs hk (fun hs hk=>hk) (fun hs hk=>(hX0 hs hk)))
def zjc (l_a0:(Sl Int)) (S0:Int→Bool) (iv0:Int):Bool :=
  (cond (decide (iv0 < (l_a0.len : Int)))
 (cond (!(s70 (l_a0.get iv0.toNat) (0:Int) (100000:Int)))
 (zlv S0 l_a0 iv0 true)
 (cond (decide (iv0 > (0:Int)))
 (zlv S0 l_a0 iv0 (decide ((l_a0.get iv0.toNat)≤(l_a0.get ((w64 (iv0 - (1:Int))).toNat)))))
 (zlv S0 l_a0 iv0 false)))
 (s70 (l_a0.len:Int) (2:Int) (8:Int)))
def zjd (l_a0:(Sl Int)) (P0:Int→Bool) (iv0:Int):Bool :=
  (cond (decide (iv0 < (l_a0.len : Int)))
 (decide ((0≤iv0∧iv0 < (l_a0.len:Int))) &&
 (cond (!(s70 (l_a0.get iv0.toNat) (0:Int) (100000:Int)))
 (zlw P0 l_a0 iv0 true)
 (cond (decide (iv0 > (0:Int)))
 (decide ((0≤iv0∧iv0 < (l_a0.len:Int))) &&
 (decide ((0≤(w64 (iv0 - (1:Int)))∧(w64 (iv0 - (1:Int))) < (l_a0.len:Int))) &&
 (zlw P0 l_a0 iv0 (decide ((l_a0.get iv0.toNat)≤(l_a0.get ((w64 (iv0 - (1:Int))).toNat)))))))
 (zlw P0 l_a0 iv0 false))))
 true)
def zje (l_a0:(Sl Int)):Nat→Int→Bool:=lpO (fun _=>default) (zjc l_a0)
def zjf (l_a0:(Sl Int)):Nat→Int→Bool:=lpO (fun _=>false) (zjd l_a0)
def zAr (l_a0:(Sl Int)) (iv0:Int):Bool:=zje l_a0 Fuel iv0
def zAs (l_a0:(Sl Int)) (iv0:Int):Bool:=zjf l_a0 Fuel iv0
theorem zHu (hs:zAs l_a0 iv0=true) (hk:K (e45 (zAr l_a0 iv0))):z45 K [1,0,1,0] [] (zDP l_a0 iv0) :=
  zl (fun X=>z45 K [1,0,1,0,0] [X]) (by kernel_rfl) fun X0 hX =>
  (show ∀ k, zHt K l_a0 X0 (zjf l_a0 k) (zje l_a0 k) from zgM _ _ (zjd l_a0) (zjc l_a0) (zHt K l_a0 X0)
 (by intro _ hs;exact absurd hs Bool.false_ne_true)
 (by intro P0 S0 hX0 iv0 hs hk;exact hX _ (zaI (by kernel_rfl) (zc hs hk (fun hs hk=>(zaG hs fun hc hs=>And.intro hc (zc hs hk (fun hs hk=>(zst hX0 hs hk)) (fun hs hk=>(zc hs hk (fun hs hk=>(zaG hs fun hc hs=>And.intro hc (zaG hs fun hc hs=>And.intro hc (zst hX0 hs hk)))) (fun hs hk=>(zst hX0 hs hk))))))) (fun hs hk=>hk))))) _ hs hk
def s45 (l_a0:(Sl Int)):Bool :=
  (zAr l_a0 (0:Int))
def p45 (l_a0:(Sl Int)):Bool :=
  (zAs l_a0 (0:Int))
end
theorem q45 (l_a0:(Sl Int)) (K:List PA→Prop) (hs:p45 l_a0=true) (hk:K (e45 (s45 l_a0))):vcFun Try.prog G45 zCw 45 [.one (.sl l_a0.len 1 (fun i=>enc_3 (l_a0.get i)))] K :=
  zaI (by kernel_rfl) (zHu hs hk)
def zCx : List PA → COut
  | [.one (.sl a0_n a0_s a0_g)]=>.det (IsE enc_3 1 a0_s a0_g∧p45 (⟨a0_n,zcf a0_g⟩:(Sl Int))=true) [.one (.bool (s45 (⟨a0_n,zcf a0_g⟩:(Sl Int))))]
  | [.one (.nils)]=>.det (p45 (⟨0,fun _=>default⟩:(Sl Int))=true) [.one (.bool (s45 (⟨0,fun _=>default⟩:(Sl Int))))]
  | _=>.no
theorem zLf:zal Try.prog 45:=⟨_,rfl,rfl,by kernel_rfl⟩
theorem zOK:Ok Try.prog 45 zCx:=zfW zNR zLf fun args K h=>by
  unfold zCx at h
  split at h
  · rename_i a0_n a0_s a0_g
    obtain ⟨⟨⟨rfl,a0_f,rfl⟩,hs⟩,hk⟩:=h
    try rw [zbP a0_f] at hs
    try rw [zbP a0_f] at hk
    exact ⟨_,zeY zfF _,(fun _ _=>[]),(fun _=>false),zCw,q45 (⟨a0_n,a0_f⟩:(Sl Int)) (Wk K) hs (zd0 hk)⟩
  · obtain ⟨hs, hk⟩ := h
    exact ⟨_,(zdy (.one (.nil _ _)) zh1),(fun _ _=>[]),(fun _=>false),zCw,q45 (⟨0,fun _=>default⟩:(Sl Int)) (Wk K) hs (zd0 hk)⟩
  · exact h.elim
abbrev T94:Tabs:=Tabs.nil
theorem zNS:TabsOk Try.prog T94:=TabsOk.nil
abbrev G94:Ctrs:=csm T94 (fun _ _=>[]) (fun _=>false)
def zHv:Ann:=⟨27,[(0,⟨[2],[2,4098],[],[],[],[],[]⟩)],
 [],
 [],
 [],[]⟩
theorem zHw (n : Nat) (f : Nat → Span) (iv pv : Int) (K : List PA → List XA → Prop) : zvj Try.prog G94 zHv 94 [.d (.one (.int .i64 iv)), .d (.one (.int .i64 pv)), .box 87 [.vec 96 2 16 n (fun i => zao (f i))]] K =
  (((0≤iv∧iv < (n:Int))) ∧
 (((iv.toNat < n)) ∧
 (((0≤iv∧iv < (n:Int))) ∧
 (((iv.toNat < n)) ∧
 (((0≤iv∧iv < (n:Int))) ∧
 (((iv.toNat < n)) ∧
 (((0≤iv∧iv < (n:Int))) ∧
 (((iv.toNat < n)) ∧
 (K [] [.d (.one (.int .i64 iv)),.d (.one (.int .i64 pv)),.box 87 [.vec 96 2 16 n (zoL iv.toNat 1 (zoL iv.toNat 0 (fun i=>zao (f i)) (enc_3 (if pv < (f iv.toNat).Low then pv else (f iv.toNat).Low))) (enc_3 (if pv > (f iv.toNat).High then pv else (f iv.toNat).High)))]]))))))))):=by kernel_rfl
def s94 (i p:Int) (f:Nat→Span):Nat→Span:=fun j=>match Nat.beq j i.toNat with
  | true=>⟨if p < (f i.toNat).Low then p else (f i.toNat).Low,if p > (f i.toNat).High then p else (f i.toNat).High⟩
  | false=>f j
def p94 (i:Int) (n:Nat):Bool:=decide (0≤i∧i < (n:Int))
def zHx : MK
  | [.d (.one (.int .i64 i)),.d (.one (.int .i64 p)),.box 87 [.vec 96 2 16 n g]]=>some (IsE zao 2 2 g∧p94 i n=true,[],[.d (.one (.int .i64 i)),.d (.one (.int .i64 p)),.box 87 [.vec 96 2 16 n (fun j=>zao (s94 i p (zwT g) j))]])
  | _=>none
theorem zLg:zal Try.prog 94:=⟨_,rfl,rfl,by kernel_rfl⟩
theorem zQg:zuT Try.prog 94 zHx:=zEJ zNS zLg fun xs safe rs ys h hs K hk=>by
  unfold zHx at h
  split at h
  · rename_i i p n g
    simp only [Option.some.injEq,Prod.mk.injEq] at h
    obtain ⟨rfl,rfl,rfl⟩:=h
    obtain ⟨⟨_,f,rfl⟩,hp⟩:=hs
    refine ⟨fun _ _=>[],fun _=>false,zHv,?_⟩
    show zvj Try.prog G94 zHv 94 _ K
    rw [zHw]
    have hp:0≤i∧i < (n:Int):=of_decide_eq_true hp
    have hn:i.toNat < n:=by omega
    have e:(fun j=>zao (s94 i p (zwT (fun i=>zao (f i))) j))=zoL i.toNat 1 (zoL i.toNat 0 (fun j=>zao (f j)) [.int .i64 (if p < (f i.toNat).Low then p else (f i.toNat).Low)]) [.int .i64 (if p > (f i.toNat).High then p else (f i.toNat).High)]:=by
      funext j
      show zao (s94 i p f j)=_
      unfold s94 zoL
      cases hj:Nat.beq j i.toNat with
      | true=>have:=Nat.eq_of_beq_eq_true hj;subst this;rfl
      | false=>rfl
    rw [e] at hk
    exact ⟨hp,hn,hp,hn,hp,hn,hp,hn,hk⟩
  · cases h
abbrev MpS:=Nat×(List Int→Option (List Int))
def zDQ (s:MpS) (y:List Int):MpS:=(addN (s.2 y) s.1,ze4 y [1] s.2)
theorem zAt {F:List Int→Option (List Int)} {x y:List Int} {v:List Int} : ze4 x v (ze4 y v F)=ze4 y v (ze4 x v F):=by
  funext z
  show (match decide (z=x) with | true=>some v | false=>match decide (z=y) with | true=>some v | false=>F z)=(match decide (z=y) with | true=>some v | false=>match decide (z=x) with | true=>some v | false=>F z)
  cases decide (z=x) <;> cases decide (z=y) <;> rfl
theorem zCy (a:Option (List Int)) (n:Nat):addN a n=if a=none then n+1 else n:=by cases a <;> simp [addN]
theorem zAu {F:List Int→Option (List Int)} {x y v:List Int} : ze4 x v F y=none↔y ≠ x∧F y=none:=by
  unfold ze4
  by_cases h:y=x <;> simp [h]
theorem zqd (s:MpS) (x y:List Int):zDQ (zDQ s x) y=zDQ (zDQ s y) x:=by
  by_cases h:x=y
  · rw [h]
  · unfold zDQ
    refine Prod.ext ?_ zAt
    simp only [zCy,zAu]
    by_cases h1:s.2 x=none <;> by_cases h2:s.2 y=none <;> simp [h1,h2,h,Ne.symm h]
def insL (s:MpS) (l:List (List Int)):MpS:=l.foldl zDQ s
theorem zAv (s:MpS) {l m:List (List Int)} (h:l.Perm m):insL s l=insL s m:=h.foldl_eq' (fun x _ y _ z=>zqd z x y) s
theorem zAw (s:MpS) (l m:List (List Int)):insL (insL s l) m=insL (insL s m) l:=by
  unfold insL
  rw [← List.foldl_append,← List.foldl_append]
  exact zAv s List.perm_append_comm
theorem zj4 (i j p q:Int) (f:Nat→Span):s94 i p (s94 j q f)=s94 j q (s94 i p f):=by
  funext z
  have e:∀ (i p:Int) (f:Nat→Span) (z:Nat),s94 i p f z=if z=i.toNat then ⟨if p < (f z).Low then p else (f z).Low,if p > (f z).High then p else (f z).High⟩ else f z:=by
    intro i p f z
    unfold s94
    cases h:Nat.beq z i.toNat with
    | true=>have:=Nat.eq_of_beq_eq_true h;subst this;rw [if_pos rfl]
    | false=>rw [if_neg (Nat.ne_of_beq_eq_false h)]
  rw [e,e,e,e]
  by_cases h1:z=i.toNat <;> by_cases h2:z=j.toNat
  · rw [if_pos h1, if_pos h2, if_pos h2, if_pos h1]
    refine Span.mk.injEq _ _ _ _ ▸ ⟨?_,?_⟩ <;> (dsimp only;repeat' split) <;> omega
  · rw [if_pos h1,if_neg h2,if_neg h2,if_pos h1]
  · rw [if_neg h1,if_pos h2,if_pos h2,if_neg h1]
  · rw [if_neg h1,if_neg h2,if_neg h2,if_neg h1]
def zHy (a b:Int):List Int:=(List.range (b - a+1).toNat).map fun (i:Nat)=>a+i
def zex (a b:Gate):List (List Int):=(zHy a.Low a.High).flatMap fun p=>(zHy b.Low b.High).map fun q=>[p,q]
abbrev T56:Tabs:=(((((Tabs.nil.addF 74 znm).addF 85 zvl).addF 92 zBY).addF 93 zBZ).addM 94 zHx)
theorem zNT:TabsOk Try.prog T56:=(((((TabsOk.nil.addF zEN).addF zLX).addF zOa).addF zOb).addM zQg)
abbrev G56:Ctrs:=csm T56 (fun _ _=>[]) (fun l=>Nat.beq l 42 || Nat.beq l 66)
def zaK:Ann:=⟨150,[(0,⟨[0,1],[],[],[],[],[],[]⟩),(1,⟨[0,1,25],[],[],[],[],[],[]⟩),(2,⟨[4,5],[],[],[],[],[],[]⟩),(3,⟨[0,1,6],[],[],[],[],[],[]⟩),(4,⟨[0,1,6,7],[7,30],[],[],[],[],[]⟩),(5,⟨[0,1,6,7,32,33],[7,30],[],[],[],[],[]⟩),(6,⟨[0,1,6,7,32,33,34],[7,30],[],[],[],[],[]⟩),(7,⟨[0,1,6,7,8,32,33],[7,30],[],[],[],[],[]⟩),(8,⟨[0,1,6,7,32,33],[7,30],[],[],[],[],[]⟩),(9,⟨[0,1,6,7,32,33],[7,30],[],[],[],[],[]⟩),(10,⟨[0,1,6,7,9],[7,30],[],[],[],[],[]⟩),(11,⟨[0,1,6,7,9,10],[7,30,42],[],[],[],[],[]⟩),(12,⟨[0,1,6,7,9,10,46],[7,30,42,46],[],[],[],[],[]⟩),(13,⟨[0,1,6,7,9,10,46,48],[7,30,42,46],[],[],[],[],[]⟩),(14,⟨[0,1,6,7,9,10,11,12,46],[7,11,30,42,46],[],[],[],[],[]⟩),(15,⟨[0,1,6,7,9,10,11,46,54],[7,11,30,42,46],[],[],[],[],[]⟩),(16,⟨[0,1,6,7,9,10,46],[7,30,42,46],[],[],[],[],[]⟩),(17,⟨[0,1,6,7,9,10,59],[7,30,42],[],[],[],[],[]⟩),(18,⟨[4,5],[],[],[],[],[],[]⟩),(19,⟨[0,1,6,7,9,10,62,63],[7,30,42],[],[],[],[],[]⟩),(20,⟨[0,1,6,7,9,10,62,63,64],[7,30],[],[],[],[],[]⟩),(21,⟨[0,1,6,7,9,10,13,62,63],[7,30],[],[],[],[],[]⟩),(22,⟨[0,1,6,7,9,10,13,14,62,63],[7,30,66],[],[],[],[],[]⟩),(23,⟨[0,1,6,7,9,13,14,62,63,68],[7,30,66,68],[],[],[],[],[]⟩),(24,⟨[0,1,6,7,9,13,14,62,63,68,70],[7,30,66,68],[],[],[],[],[]⟩),(25,⟨[0,1,6,7,9,13,14,15,62,63,68],[7,15,30,66,68],[],[],[],[],[]⟩),(26,⟨[0,1,6,7,9,13,14,15,62,63,68],[7,15,30,66,68],[],[],[],[],[]⟩),(27,⟨[0,1,6,7,9,13,14,15,62,63,68],[7,15,30,66,68],[],[],[],[],[]⟩),(28,⟨[0,1,6,7,9,13,14,15,62,63,68,88],[7,15,30,66,68],[],[],[],[],[]⟩),(29,⟨[0,1,6,7,9,13,14,15,16,62,63,68],[7,15,30,66,68],[],[],[],[],[]⟩),(30,⟨[0,1,6,7,9,13,14,15,16,62,63,68,102],[7,15,30,66,68],[],[],[],[],[]⟩),(31,⟨[0,1,6,7,9,13,14,15,16,62,63,68],[7,15,30,66,68],[],[],[],[],[]⟩),(32,⟨[0,1,6,7,9,13,14,15,16,17,62,63,68],[7,15,17,30,66,68],[],[],[],[],[]⟩),(33,⟨[0,1,6,7,9,13,14,15,16,17,62,63,68,144],[7,15,17,30,66,68],[],[],[],[],[]⟩),(34,⟨[0,1,6,7,9,13,14,15,16,62,63,68],[7,15,30,66,68],[],[],[],[],[]⟩),(35,⟨[0,1,6,7,9,10,62,63],[7,30,66],[],[],[],[],[]⟩),(36,⟨[0,1,6,7,9,10,62,63],[7,30,66],[],[],[],[],[]⟩),(37,⟨[4,5],[30],[],[],[],[],[]⟩)],
 [(6,⟨[0,1,6,7,32,33],[7,30],[],[],[],[],[]⟩),(13,⟨[0,1,6,7,9,10,46],[7,30,42,46],[],[],[],[],[]⟩),(20,⟨[0,1,6,7,9,10,62,63],[7,30],[],[],[],[],[(10,1,fun _=>zMq default)]⟩),(24,⟨[0,1,6,7,9,13,14,62,63,68],[7,30,66,68],[],[],[],[],[]⟩),(30,⟨[0,1,6,7,9,13,14,15,16,62,63,68],[7,15,30,66,68],[],[],[],[],[]⟩)],
 [(2,⟨[0,1,25],[],[],[],[],[],[]⟩),(3,⟨[0,1],[],[],[],[],[],[]⟩),(4,⟨[0,1,6],[],[],[],[],[],[]⟩),(10,⟨[0,1,6,7],[7,30],[],[],[],[],[]⟩),(17,⟨[0,1,6,7,9,10],[7,30,42],[],[],[],[],[]⟩),(19,⟨[0,1,6,7,9,10],[7,30,42],[],[],[],[],[]⟩),(27,⟨[0,1,6,7,9,13,14,15,62,63,68],[7,15,30,66,68],[],[],[],[],[]⟩),(28,⟨[0,1,6,7,9,13,14,15,62,63,68],[7,15,30,66,68],[],[],[],[],[]⟩),(34,⟨[0,1,6,7,9,13,14,15,16,17,62,63,68,144],[7,15,17,30,66,68],[],[],[],[],[]⟩)],
 [],[]⟩
def zLh (zaa:(Sl Gate)) (kink:Int) (zhy:Bool):St:=⟨[(0,.one (.c (.p (.sl zaa.len 3 (fun i=>zac (zaa.get i)))))),(1,.one (.c (.p (.int .i64 kink)))),(25,.one (.c (.p (.bool zhy))))],[],[]⟩
def zlx (K:List PA→Prop) (zaa:(Sl Gate)) (kink:Int) (zhy:Bool):Prop:=vc Try.prog G56 zaK (cdF Try.f56 [1,0,1]) (sqK Try.prog G56 zaK (cdF Try.f56 [1,1]) (zbD Try.prog Try.f56 K)) (zLh zaa kink zhy)
def zLi (zaa:(Sl Gate)) (kink:Int):St:=⟨[(0,.one (.c (.p (.sl zaa.len 3 (fun i=>zac (zaa.get i)))))),(1,.one (.c (.p (.int .i64 kink))))],[],[]⟩
def zn2 (K:List PA→Prop) (zaa:(Sl Gate)) (kink:Int):Prop:=vc Try.prog G56 zaK (cdF Try.f56 [1,1]) (zbD Try.prog Try.f56 K) (zLi zaa kink)
def zLj (zaa:(Sl Gate)) (kink:Int) (zer:Nat) (zcp:Nat→List PV):St:=⟨[(0,.one (.c (.p (.sl zaa.len 3 (fun i=>zac (zaa.get i)))))),(1,.one (.c (.p (.int .i64 kink)))),(6,.one (.c (.p (.sl zer 1 zcp))))],[],[]⟩
def zn3 (K:List PA→Prop) (zaa:(Sl Gate)) (kink:Int) (zer:Nat) (zcp:Nat→List PV):Prop:=vc Try.prog G56 zaK (cdF Try.f56 [1,1,1]) (zbD Try.prog Try.f56 K) (zLj zaa kink zer zcp)
def zly (zaa:(Sl Gate)) (kink:Int) (zab:(Sl Mp)) (zbC:Int) (zgi:Nat) (zcO:Nat→List PV):St:=⟨[(0,.one (.c (.p (.sl zaa.len 3 (fun i=>zac (zaa.get i)))))),(1,.one (.c (.p (.int .i64 kink)))),(6,.one (.c (.p (.sl zab.len 1 (fun i=>zbr (zab.get i)))))),(7,.one (.c (.ptr 7 0))),(32,.one (.c (.p (.int .i64 ((zaa.len:Int).toNat:Int))))),(33,.one (.c (.p (.int .i64 zbC))))],[(7,.box 87 [.vec 30]),(30,.vec 96 2 16 zgi zcO)],[]⟩
def zlz (K:List PA→Prop) (zaa:(Sl Gate)) (kink:Int) (zab:(Sl Mp)) (zbC:Int) (zgi:Nat) (zcO:Nat→List PV):Prop:=vc Try.prog G56 zaK (cdF Try.f56 [1,1,1,1,0,1,0]) (zaz 0 (sqK Try.prog G56 zaK (cdF Try.f56 [1,1,1,1,1]) (zbD Try.prog Try.f56 K))) (zly zaa kink zab zbC zgi zcO)
def zLk (zaa:(Sl Gate)) (kink:Int) (zab:(Sl Mp)) (zsu:Nat) (zjg:Nat→List PV):St:=⟨[(0,.one (.c (.p (.sl zaa.len 3 (fun i=>zac (zaa.get i)))))),(1,.one (.c (.p (.int .i64 kink)))),(6,.one (.c (.p (.sl zab.len 1 (fun i=>zbr (zab.get i)))))),(7,.one (.c (.ptr 7 0)))],[(7,.box 87 [.vec 30]),(30,.vec 96 2 16 zsu zjg)],[]⟩
def zn4 (K:List PA→Prop) (zaa:(Sl Gate)) (kink:Int) (zab:(Sl Mp)) (zsu:Nat) (zjg:Nat→List PV):Prop:=vc Try.prog G56 zaK (cdF Try.f56 [1,1,1,1,1]) (zbD Try.prog Try.f56 K) (zLk zaa kink zab zsu zjg)
def zjG (zaa:(Sl Gate)) (kink:Int) (zab:(Sl Mp)) (za2:(Sl Span)) (za3:(List (List Int))) (zaF:Nat) (zaD:(List Int→Option (List Int))):St:=⟨[(0,.one (.c (.p (.sl zaa.len 3 (fun i=>zac (zaa.get i)))))),(1,.one (.c (.p (.int .i64 kink)))),(6,.one (.c (.p (.sl zab.len 1 (fun i=>zbr (zab.get i)))))),(7,.one (.c (.ptr 7 0))),(9,.one (.c (.clo 94 [.b 7]))),(10,.one (.c (.mo 42))),(46,.one (.c (.ptr 46 0)))],[(7,.box 87 [.vec 30]),(30,.vec 96 2 16 za2.len (fun i=>zao (za2.get i))),(42,.mo 131 4 (true,2,false,[none]) zaF zaD),(46,.mit (true,2,false,[some .i64]) ((zab.get 0).n) ((zab.get 0).F) za3)],[]⟩
def zlA (K:List PA→Prop) (zaa:(Sl Gate)) (kink:Int) (zab:(Sl Mp)) (za2:(Sl Span)) (za3:(List (List Int))) (zaF:Nat) (zaD:(List Int→Option (List Int))):Prop:=vc Try.prog G56 zaK (cdF Try.f56 [1,1,1,1,1,1,1,0,1,0]) (zaz 2 (sqK Try.prog G56 zaK (cdF Try.f56 [1,1,1,1,1,1,1,1]) (zbD Try.prog Try.f56 K))) (zjG zaa kink zab za2 za3 zaF zaD)
def zLl (zaa:(Sl Gate)) (kink:Int) (zab:(Sl Mp)) (zsv:Nat) (zjh:Nat→List PV) (zcD:Nat) (zc6:(List Int→Option (List Int))):St:=⟨[(0,.one (.c (.p (.sl zaa.len 3 (fun i=>zac (zaa.get i)))))),(1,.one (.c (.p (.int .i64 kink)))),(6,.one (.c (.p (.sl zab.len 1 (fun i=>zbr (zab.get i)))))),(7,.one (.c (.ptr 7 0))),(9,.one (.c (.clo 94 [.b 7]))),(10,.one (.c (.mo 42)))],[(7,.box 87 [.vec 30]),(30,.vec 96 2 16 zsv zjh),(42,.mo 131 4 (true,2,false,[none]) zcD zc6)],[]⟩
def zn5 (K:List PA→Prop) (zaa:(Sl Gate)) (kink:Int) (zab:(Sl Mp)) (zsv:Nat) (zjh:Nat→List PV) (zcD:Nat) (zc6:(List Int→Option (List Int))):Prop:=vc Try.prog G56 zaK (cdF Try.f56 [1,1,1,1,1,1,1,1]) (zbD Try.prog Try.f56 K) (zLl zaa kink zab zsv zjh zcD zc6)
def zLm (zaa:(Sl Gate)) (kink:Int) (zab:(Sl Mp)) (zsw:Nat) (zji:Nat→List PV) (zc7:Nat) (zc8:(List Int→Option (List Int))):St:=⟨[(0,.one (.c (.p (.sl zaa.len 3 (fun i=>zac (zaa.get i)))))),(1,.one (.c (.p (.int .i64 kink)))),(6,.one (.c (.p (.sl zab.len 1 (fun i=>zbr (zab.get i)))))),(7,.one (.c (.ptr 7 0))),(9,.one (.c (.clo 94 [.b 7]))),(10,.one (.c (.mo 42)))],[(7,.box 87 [.vec 30]),(30,.vec 96 2 16 zsw zji),(42,.mo 131 4 (true,2,false,[none]) zc7 zc8)],[]⟩
def zn6 (K:List PA→Prop) (zaa:(Sl Gate)) (kink:Int) (zab:(Sl Mp)) (zsw:Nat) (zji:Nat→List PV) (zc7:Nat) (zc8:(List Int→Option (List Int))):Prop:=vc Try.prog G56 zaK (cdF Try.f56 [1,1,1,1,1,1,1,1,1]) (zbD Try.prog Try.f56 K) (zLm zaa kink zab zsw zji zc7 zc8)
def zfG (zaa:(Sl Gate)) (kink:Int) (zab:(Sl Mp)) (zae:Nat) (zad:(List Int→Option (List Int))) (za8:Int) (zgj:Nat) (zbd:Nat→List PV):St:=⟨[(0,.one (.c (.p (.sl zaa.len 3 (fun i=>zac (zaa.get i)))))),(1,.one (.c (.p (.int .i64 kink)))),(6,.one (.c (.p (.sl zab.len 1 (fun i=>zbr (zab.get i)))))),(7,.one (.c (.ptr 7 0))),(9,.one (.c (.clo 94 [.b 7]))),(10,.one (.c (.p (.fm (true,2,false,[none]) zae zad)))),(62,.one (.c (.p (.int .i64 (w64 ((zaa.len:Int) - (1:Int))))))),(63,.one (.c (.p (.int .i64 za8))))],[(7,.box 87 [.vec 30]),(30,.vec 96 2 16 zgj zbd)],[]⟩
def zlB (K:List PA→Prop) (zaa:(Sl Gate)) (kink:Int) (zab:(Sl Mp)) (zae:Nat) (zad:(List Int→Option (List Int))) (za8:Int) (zgj:Nat) (zbd:Nat→List PV):Prop:=vc Try.prog G56 zaK (cdF Try.f56 [1,1,1,1,1,1,1,1,1,0,1,0]) (zaz 4 (sqK Try.prog G56 zaK (cdF Try.f56 [1,1,1,1,1,1,1,1,1,1]) (zbD Try.prog Try.f56 K))) (zfG zaa kink zab zae zad za8 zgj zbd)
def zfH (zaa:(Sl Gate)) (kink:Int) (zab:(Sl Mp)) (zae:Nat) (zad:(List Int→Option (List Int))) (zaj:(List (List Int))) (iv9:Int) (za6:Int) (zgk:Nat) (zbe:Nat→List PV) (zar:Nat) (zas:(List Int→Option (List Int))):St:=⟨[(0,.one (.c (.p (.sl zaa.len 3 (fun i=>zac (zaa.get i)))))),(1,.one (.c (.p (.int .i64 kink)))),(6,.one (.c (.p (.sl zab.len 1 (fun i=>zbr (zab.get i)))))),(7,.one (.c (.ptr 7 0))),(9,.one (.c (.clo 94 [.b 7]))),(13,.one (.c (.p (.int .i64 iv9)))),(14,.one (.c (.mo 66))),(62,.one (.c (.p (.int .i64 (w64 ((zaa.len:Int) - (1:Int))))))),(63,.one (.c (.p (.int .i64 za6)))),(68,.one (.c (.ptr 68 0)))],[(7,.box 87 [.vec 30]),(30,.vec 96 2 16 zgk zbe),(66,.mo 131 4 (true,2,false,[none]) zar zas),(68,.mit (true,2,false,[none]) zae zad zaj)],[]⟩
def zlC (K:List PA→Prop) (X8:St→Prop) (zaa:(Sl Gate)) (kink:Int) (zab:(Sl Mp)) (zae:Nat) (zad:(List Int→Option (List Int))) (zaj:(List (List Int))) (iv9:Int) (za6:Int) (zgk:Nat) (zbe:Nat→List PV) (zar:Nat) (zas:(List Int→Option (List Int))):Prop:=vc Try.prog G56 zaK (cdF Try.f56 [1,1,1,1,1,1,1,1,1,0,1,0,0,1,1,0,0,1,1,0,1,0]) (zaz 6 (sqK Try.prog G56 zaK (cdF Try.f56 [1,1,1,1,1,1,1,1,1,0,1,0,0,1,1,0,0,1,1,1]) (zaz 5 (sqK Try.prog G56 zaK (cdF Try.f56 [1,1,1,1,1,1,1,1,1,0,1,0,0,1,1,1]) (zb5 Try.prog zaK 20 X8 (zaz 4 (sqK Try.prog G56 zaK (cdF Try.f56 [1,1,1,1,1,1,1,1,1,1]) (zbD Try.prog Try.f56 K)))))))) (zfH zaa kink zab zae zad zaj iv9 za6 zgk zbe zar zas)
def zHz (zaa:(Sl Gate)) (kink:Int) (zab:(Sl Mp)) (zae:Nat) (zad:(List Int→Option (List Int))) (zaj:(List (List Int))) (k68_0:Int) (k68_1:Int) (zdQ:Int) (zd5:Int) (zn7:Nat) (zgC:Nat→List PV) (zck:Nat) (zcl:(List Int→Option (List Int))):St:=⟨[(0,.one (.c (.p (.sl zaa.len 3 (fun i=>zac (zaa.get i)))))),(1,.one (.c (.p (.int .i64 kink)))),(6,.one (.c (.p (.sl zab.len 1 (fun i=>zbr (zab.get i)))))),(7,.one (.c (.ptr 7 0))),(9,.one (.c (.clo 94 [.b 7]))),(13,.one (.c (.p (.int .i64 zdQ)))),(14,.one (.c (.mo 66))),(15,.one (.c (.ptr 15 0))),(62,.one (.c (.p (.int .i64 (w64 ((zaa.len:Int) - (1:Int))))))),(63,.one (.c (.p (.int .i64 zd5)))),(68,.one (.c (.ptr 68 0)))],[(7,.box 87 [.vec 30]),(15,.box 131 [.p (.int .i64 k68_0),.p (.int .i64 k68_1)]),(30,.vec 96 2 16 zn7 zgC),(66,.mo 131 4 (true,2,false,[none]) zck zcl),(68,.mit (true,2,false,[none]) zae zad ([k68_0,k68_1] :: zaj))],[]⟩
def zj5 (K:List PA→Prop) (X8:St→Prop) (X9:St→Prop) (zaa:(Sl Gate)) (kink:Int) (zab:(Sl Mp)) (zae:Nat) (zad:(List Int→Option (List Int))) (zaj:(List (List Int))) (k68_0:Int) (k68_1:Int) (zdQ:Int) (zd5:Int) (zn7:Nat) (zgC:Nat→List PV) (zck:Nat) (zcl:(List Int→Option (List Int))):Prop:=vc Try.prog G56 zaK (cdF Try.f56 [1,1,1,1,1,1,1,1,1,0,1,0,0,1,1,0,0,1,1,0,1,0,0,1,1,0,1,1]) (zaz 7 (zb5 Try.prog zaK 24 X9 (zaz 6 (sqK Try.prog G56 zaK (cdF Try.f56 [1,1,1,1,1,1,1,1,1,0,1,0,0,1,1,0,0,1,1,1]) (zaz 5 (sqK Try.prog G56 zaK (cdF Try.f56 [1,1,1,1,1,1,1,1,1,0,1,0,0,1,1,1]) (zb5 Try.prog zaK 20 X8 (zaz 4 (sqK Try.prog G56 zaK (cdF Try.f56 [1,1,1,1,1,1,1,1,1,1]) (zbD Try.prog Try.f56 K)))))))))) (zHz zaa kink zab zae zad zaj k68_0 k68_1 zdQ zd5 zn7 zgC zck zcl)
def zHA (zaa:(Sl Gate)) (kink:Int) (zab:(Sl Mp)) (zae:Nat) (zad:(List Int→Option (List Int))) (zaj:(List (List Int))) (k68_0:Int) (k68_1:Int) (zcx:Int) (zdl:Int) (zn8:Nat) (zgD:Nat→List PV) (zbU:Nat) (zbV:(List Int→Option (List Int))):St:=⟨[(0,.one (.c (.p (.sl zaa.len 3 (fun i=>zac (zaa.get i)))))),(1,.one (.c (.p (.int .i64 kink)))),(6,.one (.c (.p (.sl zab.len 1 (fun i=>zbr (zab.get i)))))),(7,.one (.c (.ptr 7 0))),(9,.one (.c (.clo 94 [.b 7]))),(13,.one (.c (.p (.int .i64 zcx)))),(14,.one (.c (.mo 66))),(15,.one (.c (.ptr 15 0))),(62,.one (.c (.p (.int .i64 (w64 ((zaa.len:Int) - (1:Int))))))),(63,.one (.c (.p (.int .i64 zdl)))),(68,.one (.c (.ptr 68 0)))],[(7,.box 87 [.vec 30]),(15,.box 131 [.p (.int .i64 k68_0),.p (.int .i64 k68_1)]),(30,.vec 96 2 16 zn8 zgD),(66,.mo 131 4 (true,2,false,[none]) zbU zbV),(68,.mit (true,2,false,[none]) zae zad ([k68_0,k68_1] :: zaj))],[]⟩
def zj6 (K:List PA→Prop) (X8:St→Prop) (X9:St→Prop) (zaa:(Sl Gate)) (kink:Int) (zab:(Sl Mp)) (zae:Nat) (zad:(List Int→Option (List Int))) (zaj:(List (List Int))) (k68_0:Int) (k68_1:Int) (zcx:Int) (zdl:Int) (zn8:Nat) (zgD:Nat→List PV) (zbU:Nat) (zbV:(List Int→Option (List Int))):Prop:=vc Try.prog G56 zaK (cdF Try.f56 [1,1,1,1,1,1,1,1,1,0,1,0,0,1,1,0,0,1,1,0,1,0,0,1,1,0,1,1,1]) (zaz 7 (zb5 Try.prog zaK 24 X9 (zaz 6 (sqK Try.prog G56 zaK (cdF Try.f56 [1,1,1,1,1,1,1,1,1,0,1,0,0,1,1,0,0,1,1,1]) (zaz 5 (sqK Try.prog G56 zaK (cdF Try.f56 [1,1,1,1,1,1,1,1,1,0,1,0,0,1,1,1]) (zb5 Try.prog zaK 20 X8 (zaz 4 (sqK Try.prog G56 zaK (cdF Try.f56 [1,1,1,1,1,1,1,1,1,1]) (zbD Try.prog Try.f56 K)))))))))) (zHA zaa kink zab zae zad zaj k68_0 k68_1 zcx zdl zn8 zgD zbU zbV)
def zft (zaa:(Sl Gate)) (kink:Int) (zab:(Sl Mp)) (zae:Nat) (zad:(List Int→Option (List Int))) (zaj:(List (List Int))) (k68_0:Int) (k68_1:Int) (zbN:Int) (zcY:Int) (zaT:Int) (zeI:Nat) (zbH:Nat→List PV) (zat:Nat) (zau:(List Int→Option (List Int))):St:=⟨[(0,.one (.c (.p (.sl zaa.len 3 (fun i=>zac (zaa.get i)))))),(1,.one (.c (.p (.int .i64 kink)))),(6,.one (.c (.p (.sl zab.len 1 (fun i=>zbr (zab.get i)))))),(7,.one (.c (.ptr 7 0))),(9,.one (.c (.clo 94 [.b 7]))),(13,.one (.c (.p (.int .i64 zbN)))),(14,.one (.c (.mo 66))),(15,.one (.c (.ptr 15 0))),(16,.one (.c (.p (.int .i64 zcY)))),(62,.one (.c (.p (.int .i64 (w64 ((zaa.len:Int) - (1:Int))))))),(63,.one (.c (.p (.int .i64 zaT)))),(68,.one (.c (.ptr 68 0)))],[(7,.box 87 [.vec 30]),(15,.box 131 [.p (.int .i64 k68_0),.p (.int .i64 k68_1)]),(30,.vec 96 2 16 zeI zbH),(66,.mo 131 4 (true,2,false,[none]) zat zau),(68,.mit (true,2,false,[none]) zae zad ([k68_0,k68_1] :: zaj))],[]⟩
def zih (K:List PA→Prop) (X8:St→Prop) (X9:St→Prop) (zaa:(Sl Gate)) (kink:Int) (zab:(Sl Mp)) (zae:Nat) (zad:(List Int→Option (List Int))) (zaj:(List (List Int))) (k68_0:Int) (k68_1:Int) (zbN:Int) (zcY:Int) (zaT:Int) (zeI:Nat) (zbH:Nat→List PV) (zat:Nat) (zau:(List Int→Option (List Int))):Prop:=vc Try.prog G56 zaK (cdF Try.f56 [1,1,1,1,1,1,1,1,1,0,1,0,0,1,1,0,0,1,1,0,1,0,0,1,1,0,1,1,1,1,1,0]) (zaz 8 (zaz 7 (zb5 Try.prog zaK 24 X9 (zaz 6 (sqK Try.prog G56 zaK (cdF Try.f56 [1,1,1,1,1,1,1,1,1,0,1,0,0,1,1,0,0,1,1,1]) (zaz 5 (sqK Try.prog G56 zaK (cdF Try.f56 [1,1,1,1,1,1,1,1,1,0,1,0,0,1,1,1]) (zb5 Try.prog zaK 20 X8 (zaz 4 (sqK Try.prog G56 zaK (cdF Try.f56 [1,1,1,1,1,1,1,1,1,1]) (zbD Try.prog Try.f56 K))))))))))) (zft zaa kink zab zae zad zaj k68_0 k68_1 zbN zcY zaT zeI zbH zat zau)
def zHB (zaa:(Sl Gate)) (kink:Int) (zab:(Sl Mp)) (zae:Nat) (zad:(List Int→Option (List Int))) (zaj:(List (List Int))) (k68_0:Int) (k68_1:Int) (zhG:Int) (zmD:Int) (zdm:Int) (zdh:Bool) (zdn:Int) (zn9:Nat) (zgE:Nat→List PV) (zbW:Nat) (zbn:(List Int→Option (List Int))):St:=⟨[(0,.one (.c (.p (.sl zaa.len 3 (fun i=>zac (zaa.get i)))))),(1,.one (.c (.p (.int .i64 kink)))),(6,.one (.c (.p (.sl zab.len 1 (fun i=>zbr (zab.get i)))))),(7,.one (.c (.ptr 7 0))),(9,.one (.c (.clo 94 [.b 7]))),(13,.one (.c (.p (.int .i64 zhG)))),(14,.one (.c (.mo 66))),(15,.one (.c (.ptr 15 0))),(16,.one (.c (.p (.int .i64 zmD)))),(17,.one (.c (.ptr 17 0))),(62,.one (.c (.p (.int .i64 (w64 ((zaa.len:Int) - (1:Int))))))),(63,.one (.c (.p (.int .i64 zdm)))),(68,.one (.c (.ptr 68 0))),(144,.one (.c (.p (.bool zdh))))],[(7,.box 87 [.vec 30]),(15,.box 131 [.p (.int .i64 k68_0),.p (.int .i64 k68_1)]),(17,.box 131 [.p (.int .i64 k68_1),.p (.int .i64 zdn)]),(30,.vec 96 2 16 zn9 zgE),(66,.mo 131 4 (true,2,false,[none]) zbW zbn),(68,.mit (true,2,false,[none]) zae zad ([k68_0,k68_1] :: zaj))],[]⟩
def zii (K:List PA→Prop) (X8:St→Prop) (X9:St→Prop) (X12:St→Prop) (zaa:(Sl Gate)) (kink:Int) (zab:(Sl Mp)) (zae:Nat) (zad:(List Int→Option (List Int))) (zaj:(List (List Int))) (k68_0:Int) (k68_1:Int) (zhG:Int) (zmD:Int) (zdm:Int) (zdh:Bool) (zdn:Int) (zn9:Nat) (zgE:Nat→List PV) (zbW:Nat) (zbn:(List Int→Option (List Int))):Prop:=vc Try.prog G56 zaK (cdF Try.f56 [1,1,1,1,1,1,1,1,1,0,1,0,0,1,1,0,0,1,1,0,1,0,0,1,1,0,1,1,1,1,1,0,0,1,0,0,1,1]) (zaz 9 (sqK Try.prog G56 zaK (cdF Try.f56 [1,1,1,1,1,1,1,1,1,0,1,0,0,1,1,0,0,1,1,0,1,0,0,1,1,0,1,1,1,1,1,0,0,1,1]) (zb5 Try.prog zaK 30 X12 (zaz 8 (zaz 7 (zb5 Try.prog zaK 24 X9 (zaz 6 (sqK Try.prog G56 zaK (cdF Try.f56 [1,1,1,1,1,1,1,1,1,0,1,0,0,1,1,0,0,1,1,1]) (zaz 5 (sqK Try.prog G56 zaK (cdF Try.f56 [1,1,1,1,1,1,1,1,1,0,1,0,0,1,1,1]) (zb5 Try.prog zaK 20 X8 (zaz 4 (sqK Try.prog G56 zaK (cdF Try.f56 [1,1,1,1,1,1,1,1,1,1]) (zbD Try.prog Try.f56 K)))))))))))))) (zHB zaa kink zab zae zad zaj k68_0 k68_1 zhG zmD zdm zdh zdn zn9 zgE zbW zbn)
theorem zHC (zaa : (Sl Gate)) (kink : Int) (K : List PA → Prop) :
  vcFun Try.prog G56 zaK 56 [.one (.sl zaa.len 3 (fun i=>zac (zaa.get i))),.one (.int .i64 kink)] K =
  ((IsE zac 3 3 (fun i=>zac (zaa.get i))∧(p92 zaa=true)) ∧
 (zcP (!(s92 zaa))
 (zlx K zaa kink true)
 (zlx K zaa kink (!(s74 kink (0:Int) (1000000:Int)))))):=by kernel_rfl
theorem zHD (K : List PA → Prop) (zaa : (Sl Gate)) (kink : Int) (zhy : Bool) :
  zlx K zaa kink zhy =
  (zcP zhy
 (K [.one (.nils),.one (.int .i64 (2:Int))])
 (zn2 K zaa kink)):=by kernel_rfl
theorem zHE (K : List PA → Prop) (zaa : (Sl Gate)) (kink : Int) :
  zn2 K zaa kink =
  ((IsE zac 3 3 (fun i=>zac (zaa.get i))∧(p93 zaa=true)) ∧
 (zn3 K zaa kink ((s93 zaa).len) (fun i=>zbr ((s93 zaa).get i)))):=by kernel_rfl
theorem zHF (K : List PA → Prop) (zaa : (Sl Gate)) (kink : Int) (zab : (Sl Mp)) :
  zn3 K zaa kink zab.len (fun i=>zbr (zab.get i)) =
  (((0≤(zaa.len:Int)∧(zaa.len:Int)=(zaa.len:Int)∧(zaa.len:Int)≤1000000)) ∧
 (zlz K zaa kink zab (0:Int) ((zaa.len:Int).toNat) (fun _=>(zao (⟨(0:Int),(0:Int)⟩:Span))))):=by kernel_rfl
def zqe (K:List PA→Prop) (X3:St→Prop) (zaa:(Sl Gate)) (kink:Int) (zab:(Sl Mp)) (zbC:Int) (zbO:(Sl Span)):Prop :=
  (zcP (decide (zbC < ((zaa.len : Int).toNat : Int)))
 (((0≤zbC∧zbC < (zbO.len:Int))) ∧
 (((zbC.toNat < zbO.len)) ∧
 (X3 (zly zaa kink zab (w64 (zbC+(1:Int))) zbO.len (zoL zbC.toNat 0 (fun i=>zao (zbO.get i)) (zao (⟨(1000001:Int),(-1000001:Int)⟩:Span)))))))
 (zn4 K zaa kink zab zbO.len (fun i=>zao (zbO.get i))))
theorem zsx (K : List PA → Prop) (X3 : St → Prop) (zaa : (Sl Gate)) (kink : Int) (zab : (Sl Mp)) (zbC : Int) (zbO : (Sl Span)) :
  vc Try.prog G56 zaK (cd (cdF Try.f56 [1,1,1,1,0,1,0]) [0]) (zb5 Try.prog zaK 6 X3 (zaz 0 (sqK Try.prog G56 zaK (cdF Try.f56 [1,1,1,1,1]) (zbD Try.prog Try.f56 K)))) (zly zaa kink zab zbC zbO.len (fun i=>zao (zbO.get i))) =
  zqe K X3 zaa kink zab zbC zbO:=by kernel_rfl
theorem zAx (K : List PA → Prop) (zaa : (Sl Gate)) (kink : Int) (zab : (Sl Mp)) (zbC : Int) (zgi : Nat) (zcO : Nat → List PV)
  (h:∀ X3:St→Prop,(∀ (zbC:Int) (zbO:(Sl Span)),zqe K X3 zaa kink zab zbC zbO→X3 (zly zaa kink zab zbC zbO.len (fun i=>zao (zbO.get i))))→X3 (zly zaa kink zab zbC zgi zcO)) :
  zlz K zaa kink zab zbC zgi zcO:=by
  have e:zlz K zaa kink zab zbC zgi zcO=(∀ X:St→Prop,(∀ s,vc Try.prog G56 zaK (cd (cdF Try.f56 [1,1,1,1,0,1,0]) [0]) (zb5 Try.prog zaK 6 X (zaz 0 (sqK Try.prog G56 zaK (cdF Try.f56 [1,1,1,1,1]) (zbD Try.prog Try.f56 K)))) s→X s)→X (zly zaa kink zab zbC zgi zcO)):=by kernel_rfl
  refine zaI e ?_
  intro X hX
  refine h X ?_
  intro zbC zbO hs
  refine hX _ ?_
  have e2:=zsx K X zaa kink zab zbC zbO
  rw [e2]
  exact hs
theorem zHG (K : List PA → Prop) (zaa : (Sl Gate)) (kink : Int) (zab : (Sl Mp)) (za2 : (Sl Span)) :
  zn4 K zaa kink zab za2.len (fun i=>zao (za2.get i)) =
  (((0≤(0:Int)∧(0:Int) < (zab.len:Int))) ∧
 (zlA K zaa kink zab za2 ([]) 0 (fun _=>none))):=by kernel_rfl
def zqf (K:List PA→Prop) (X5:St→Prop) (zaa:(Sl Gate)) (kink:Int) (zab:(Sl Mp)) (za2:(Sl Span)) (za3:(List (List Int))) (zaF:Nat) (zaD:(List Int→Option (List Int))):Prop :=
  (zBf 2 ((zab.get 0).n) ((zab.get 0).F) →
 ((∀ c:List Int,c.length=2→((zab.get 0).F) c ≠ none→c∈za3) →
 (zn5 K zaa kink zab za2.len (fun i=>zao (za2.get i)) zaF zaD))∧∀ k46_0 k46_1:Int,((zab.get 0).F) [k46_0,k46_1] ≠ none→[k46_0,k46_1] ∉ za3 →
 (zcP (decide ((zdj (((zab.get 0).F) [k46_0, k46_1]) 0) ≤ kink))
 (X5 (zjG zaa kink zab za2 ([k46_0,k46_1] :: za3) (addN (zaD [k46_0,k46_1]) zaF) (ze4 [k46_0,k46_1] [1] zaD)))
 (X5 (zjG zaa kink zab za2 ([k46_0,k46_1] :: za3) zaF zaD))))
theorem zsy (K : List PA → Prop) (X5 : St → Prop) (zaa : (Sl Gate)) (kink : Int) (zab : (Sl Mp)) (za2 : (Sl Span)) (za3 : (List (List Int))) (zaF : Nat) (zaD : (List Int → Option (List Int))) :
  vc Try.prog G56 zaK (cd (cdF Try.f56 [1,1,1,1,1,1,1,0,1,0]) [0]) (zb5 Try.prog zaK 13 X5 (zaz 2 (sqK Try.prog G56 zaK (cdF Try.f56 [1,1,1,1,1,1,1,1]) (zbD Try.prog Try.f56 K)))) (zjG zaa kink zab za2 za3 zaF zaD) =
  zqf K X5 zaa kink zab za2 za3 zaF zaD:=by kernel_rfl
theorem zAy (K : List PA → Prop) (zaa : (Sl Gate)) (kink : Int) (zab : (Sl Mp)) (za2 : (Sl Span)) (za3 : (List (List Int))) (zaF : Nat) (zaD : (List Int → Option (List Int)))
  (h:∀ X5:St→Prop,(∀ (za3:(List (List Int))) (zaF:Nat) (zaD:(List Int→Option (List Int))),zqf K X5 zaa kink zab za2 za3 zaF zaD→X5 (zjG zaa kink zab za2 za3 zaF zaD))→X5 (zjG zaa kink zab za2 za3 zaF zaD)) :
  zlA K zaa kink zab za2 za3 zaF zaD:=by
  have e:zlA K zaa kink zab za2 za3 zaF zaD=(∀ X:St→Prop,(∀ s,vc Try.prog G56 zaK (cd (cdF Try.f56 [1,1,1,1,1,1,1,0,1,0]) [0]) (zb5 Try.prog zaK 13 X (zaz 2 (sqK Try.prog G56 zaK (cdF Try.f56 [1,1,1,1,1,1,1,1]) (zbD Try.prog Try.f56 K)))) s→X s)→X (zjG zaa kink zab za2 za3 zaF zaD)):=by kernel_rfl
  refine zaI e ?_
  intro X hX
  refine h X ?_
  intro za3 zaF zaD hs
  refine hX _ ?_
  have e2:=zsy K X zaa kink zab za2 za3 zaF zaD
  rw [e2]
  exact hs
theorem zHH (K : List PA → Prop) (zaa : (Sl Gate)) (kink : Int) (zab : (Sl Mp)) (zgO : (Sl Span)) (zcD : Nat) (zc6 : (List Int → Option (List Int))) :
  zn5 K zaa kink zab zgO.len (fun i=>zao (zgO.get i)) zcD zc6 =
  (zcP ((zcD : Int) == (0:Int))
 (K [.one (.nils),.one (.int .i64 (5:Int))])
 (zn6 K zaa kink zab zgO.len (fun i=>zao (zgO.get i)) zcD zc6)):=by kernel_rfl
theorem zHI (K : List PA → Prop) (zaa : (Sl Gate)) (kink : Int) (zab : (Sl Mp)) (zgP : (Sl Span)) (zc7 : Nat) (zc8 : (List Int → Option (List Int))) :
  zn6 K zaa kink zab zgP.len (fun i=>zao (zgP.get i)) zc7 zc8 =
  (zlB K zaa kink zab zc7 zc8 (0:Int) zgP.len (fun i=>zao (zgP.get i))):=by kernel_rfl
def zqg (K:List PA→Prop) (X8:St→Prop) (zaa:(Sl Gate)) (kink:Int) (zab:(Sl Mp)) (zae:Nat) (zad:(List Int→Option (List Int))) (za8:Int) (zbf:(Sl Span)):Prop :=
  (zcP (decide (za8 < (w64 ((zaa.len : Int) - (1:Int)))))
 (zlC K X8 zaa kink zab zae zad ([]) za8 za8 zbf.len (fun i=>zao (zbf.get i)) 0 (fun _=>none))
 (K [.one (.sl zbf.len 2 (fun i=>zao (zbf.get i))),.one (.int .i64 (0:Int))]))
theorem zsz (K : List PA → Prop) (X8 : St → Prop) (zaa : (Sl Gate)) (kink : Int) (zab : (Sl Mp)) (zae : Nat) (zad : (List Int → Option (List Int))) (za8 : Int) (zbf : (Sl Span)) :
  vc Try.prog G56 zaK (cd (cdF Try.f56 [1,1,1,1,1,1,1,1,1,0,1,0]) [0]) (zb5 Try.prog zaK 20 X8 (zaz 4 (sqK Try.prog G56 zaK (cdF Try.f56 [1,1,1,1,1,1,1,1,1,1]) (zbD Try.prog Try.f56 K)))) (zfG zaa kink zab zae zad za8 zbf.len (fun i=>zao (zbf.get i))) =
  zqg K X8 zaa kink zab zae zad za8 zbf:=by kernel_rfl
theorem zAz (K : List PA → Prop) (zaa : (Sl Gate)) (kink : Int) (zab : (Sl Mp)) (zae : Nat) (zad : (List Int → Option (List Int))) (za8 : Int) (zgj : Nat) (zbd : Nat → List PV)
  (h:∀ X8:St→Prop,(∀ (zae:Nat) (zad:(List Int→Option (List Int))) (za8:Int) (zbf:(Sl Span)),zqg K X8 zaa kink zab zae zad za8 zbf→X8 (zfG zaa kink zab zae zad za8 zbf.len (fun i=>zao (zbf.get i))))→X8 (zfG zaa kink zab zae zad za8 zgj zbd)) :
  zlB K zaa kink zab zae zad za8 zgj zbd:=by
  have e:zlB K zaa kink zab zae zad za8 zgj zbd=(∀ X:St→Prop,(∀ s,vc Try.prog G56 zaK (cd (cdF Try.f56 [1,1,1,1,1,1,1,1,1,0,1,0]) [0]) (zb5 Try.prog zaK 20 X (zaz 4 (sqK Try.prog G56 zaK (cdF Try.f56 [1,1,1,1,1,1,1,1,1,1]) (zbD Try.prog Try.f56 K)))) s→X s)→X (zfG zaa kink zab zae zad za8 zgj zbd)):=by kernel_rfl
  refine zaI e ?_
  intro X hX
  refine h X ?_
  intro zae zad za8 zbf hs
  refine hX _ ?_
  have e2:=zsz K X zaa kink zab zae zad za8 zbf
  rw [e2]
  exact hs
def zqh (K:List PA→Prop) (X8:St→Prop) (X9:St→Prop) (zaa:(Sl Gate)) (kink:Int) (zab:(Sl Mp)) (zae:Nat) (zad:(List Int→Option (List Int))) (zaj:(List (List Int))) (iv9:Int) (za6:Int) (zaW:(Sl Span)) (zar:Nat) (zas:(List Int→Option (List Int))):Prop :=
  (zBf 2 zae zad →
 ((∀ c:List Int,c.length=2→zad c ≠ none→c∈zaj) →
 (X8 (zfG zaa kink zab zar zas (w64 (za6+(1:Int))) zaW.len (fun i=>zao (zaW.get i)))))∧∀ k68_0 k68_1:Int,zad [k68_0,k68_1] ≠ none→[k68_0,k68_1] ∉ zaj →
 ((IsE zao 2 2 (fun i=>zao (zaW.get i))∧(p94 iv9 zaW.len=true)) ∧
 (zj5 K X8 X9 zaa kink zab zae zad zaj k68_0 k68_1 iv9 za6 zaW.len (fun i=>zao ((s94 iv9 k68_0 zaW.get) i)) zar zas)))
theorem zsA (K : List PA → Prop) (X8 : St → Prop) (X9 : St → Prop) (zaa : (Sl Gate)) (kink : Int) (zab : (Sl Mp)) (zae : Nat) (zad : (List Int → Option (List Int))) (zaj : (List (List Int))) (iv9 : Int) (za6 : Int) (zaW : (Sl Span)) (zar : Nat) (zas : (List Int → Option (List Int))) :
  vc Try.prog G56 zaK (cd (cdF Try.f56 [1,1,1,1,1,1,1,1,1,0,1,0,0,1,1,0,0,1,1,0,1,0]) [0]) (zb5 Try.prog zaK 24 X9 (zaz 6 (sqK Try.prog G56 zaK (cdF Try.f56 [1,1,1,1,1,1,1,1,1,0,1,0,0,1,1,0,0,1,1,1]) (zaz 5 (sqK Try.prog G56 zaK (cdF Try.f56 [1,1,1,1,1,1,1,1,1,0,1,0,0,1,1,1]) (zb5 Try.prog zaK 20 X8 (zaz 4 (sqK Try.prog G56 zaK (cdF Try.f56 [1,1,1,1,1,1,1,1,1,1]) (zbD Try.prog Try.f56 K))))))))) (zfH zaa kink zab zae zad zaj iv9 za6 zaW.len (fun i=>zao (zaW.get i)) zar zas) =
  zqh K X8 X9 zaa kink zab zae zad zaj iv9 za6 zaW zar zas:=by kernel_rfl
theorem zAA (K : List PA → Prop) (X8 : St → Prop) (zaa : (Sl Gate)) (kink : Int) (zab : (Sl Mp)) (zae : Nat) (zad : (List Int → Option (List Int))) (zaj : (List (List Int))) (iv9 : Int) (za6 : Int) (zgk : Nat) (zbe : Nat → List PV) (zar : Nat) (zas : (List Int → Option (List Int)))
  (h:∀ X9:St→Prop,(∀ (zaj:(List (List Int))) (iv9:Int) (za6:Int) (zaW:(Sl Span)) (zar:Nat) (zas:(List Int→Option (List Int))),zqh K X8 X9 zaa kink zab zae zad zaj iv9 za6 zaW zar zas→X9 (zfH zaa kink zab zae zad zaj iv9 za6 zaW.len (fun i=>zao (zaW.get i)) zar zas))→X9 (zfH zaa kink zab zae zad zaj iv9 za6 zgk zbe zar zas)) :
  zlC K X8 zaa kink zab zae zad zaj iv9 za6 zgk zbe zar zas:=by
  have e:zlC K X8 zaa kink zab zae zad zaj iv9 za6 zgk zbe zar zas=(∀ X:St→Prop,(∀ s,vc Try.prog G56 zaK (cd (cdF Try.f56 [1,1,1,1,1,1,1,1,1,0,1,0,0,1,1,0,0,1,1,0,1,0]) [0]) (zb5 Try.prog zaK 24 X (zaz 6 (sqK Try.prog G56 zaK (cdF Try.f56 [1,1,1,1,1,1,1,1,1,0,1,0,0,1,1,0,0,1,1,1]) (zaz 5 (sqK Try.prog G56 zaK (cdF Try.f56 [1,1,1,1,1,1,1,1,1,0,1,0,0,1,1,1]) (zb5 Try.prog zaK 20 X8 (zaz 4 (sqK Try.prog G56 zaK (cdF Try.f56 [1,1,1,1,1,1,1,1,1,1]) (zbD Try.prog Try.f56 K))))))))) s→X s)→X (zfH zaa kink zab zae zad zaj iv9 za6 zgk zbe zar zas)):=by kernel_rfl
  refine zaI e ?_
  intro X hX
  refine h X ?_
  intro zaj iv9 za6 zaW zar zas hs
  refine hX _ ?_
  have e2:=zsA K X8 X zaa kink zab zae zad zaj iv9 za6 zaW zar zas
  rw [e2]
  exact hs
theorem zCz (K : List PA → Prop) (X8 : St → Prop) (X9 : St → Prop) (zaa : (Sl Gate)) (kink : Int) (zab : (Sl Mp)) (zae : Nat) (zad : (List Int → Option (List Int))) (zaj : (List (List Int))) (k68_0 : Int) (k68_1 : Int) (zdQ : Int) (zd5 : Int) (zc0 : (Sl Span)) (zck : Nat) (zcl : (List Int → Option (List Int))) :
  zj5 K X8 X9 zaa kink zab zae zad zaj k68_0 k68_1 zdQ zd5 zc0.len (fun i=>zao (zc0.get i)) zck zcl =
  ((IsE zao 2 2 (fun i=>zao (zc0.get i))∧(p94 (w64 (zdQ+(1:Int))) zc0.len=true)) ∧
 (zj6 K X8 X9 zaa kink zab zae zad zaj k68_0 k68_1 zdQ zd5 zc0.len (fun i=>zao ((s94 (w64 (zdQ+(1:Int))) k68_1 zc0.get) i)) zck zcl)):=by kernel_rfl
theorem zCA (K : List PA → Prop) (X8 : St → Prop) (X9 : St → Prop) (zaa : (Sl Gate)) (kink : Int) (zab : (Sl Mp)) (zae : Nat) (zad : (List Int → Option (List Int))) (zaj : (List (List Int))) (k68_0 : Int) (k68_1 : Int) (zcx : Int) (zdl : Int) (zc1 : (Sl Span)) (zbU : Nat) (zbV : (List Int → Option (List Int))) :
  zj6 K X8 X9 zaa kink zab zae zad zaj k68_0 k68_1 zcx zdl zc1.len (fun i=>zao (zc1.get i)) zbU zbV =
  (zcP ((w64 (zcx + (2:Int))) == (zaa.len : Int))
 (X9 (zfH zaa kink zab zae zad ([k68_0,k68_1] :: zaj) zcx zdl zc1.len (fun i=>zao (zc1.get i)) zbU zbV))
 (((0≤(w64 (zcx+(2:Int)))∧(w64 (zcx+(2:Int))) < (zaa.len:Int))) ∧
 (zih K X8 X9 zaa kink zab zae zad zaj k68_0 k68_1 zcx ((zaa.get ((w64 (zcx+(2:Int))).toNat)).Low) zdl zc1.len (fun i=>zao (zc1.get i)) zbU zbV))):=by kernel_rfl
def zmE (K:List PA→Prop) (X8:St→Prop) (X9:St→Prop) (X12:St→Prop) (zaa:(Sl Gate)) (kink:Int) (zab:(Sl Mp)) (zae:Nat) (zad:(List Int→Option (List Int))) (zaj:(List (List Int))) (k68_0:Int) (k68_1:Int) (zbN:Int) (zcY:Int) (zaT:Int) (zaR:(Sl Span)) (zat:Nat) (zau:(List Int→Option (List Int))):Prop :=
  (((0≤(w64 (zbN+(2:Int)))∧(w64 (zbN+(2:Int))) < (zaa.len:Int))) ∧
 (zcP (decide (zcY ≤ (zaa.get ((w64 (zbN + (2:Int))).toNat)).High))
 (((0≤(w64 (zbN+(1:Int)))∧(w64 (zbN+(1:Int))) < (zab.len:Int))) ∧
 (zcP (decide ((zdj (((zab.get ((w64 (zbN + (1:Int))).toNat)).F) [k68_1, zcY]) 0) ≤ kink))
 (((0≤zbN∧zbN < (zaa.len:Int))) ∧
 (((0≤(w64 (zbN+(1:Int)))∧(w64 (zbN+(1:Int))) < (zaa.len:Int))) ∧
 (((0≤(w64 (zbN+(2:Int)))∧(w64 (zbN+(2:Int))) < (zaa.len:Int))) ∧
 (((p85 ((zaa.get zbN.toNat).Z) ((zaa.get ((w64 (zbN+(1:Int))).toNat)).Z) ((zaa.get ((w64 (zbN+(2:Int))).toNat)).Z) k68_0 k68_1 zcY=true)) ∧
 (zii K X8 X9 X12 zaa kink zab zae zad zaj k68_0 k68_1 zbN zcY zaT (decide ((s85 ((zaa.get zbN.toNat).Z) ((zaa.get ((w64 (zbN+(1:Int))).toNat)).Z) ((zaa.get ((w64 (zbN+(2:Int))).toNat)).Z) k68_0 k68_1 zcY)≤kink)) zcY zaR.len (fun i=>zao (zaR.get i)) zat zau)))))
 (zii K X8 X9 X12 zaa kink zab zae zad zaj k68_0 k68_1 zbN zcY zaT false zcY zaR.len (fun i=>zao (zaR.get i)) zat zau)))
 (X9 (zfH zaa kink zab zae zad ([k68_0,k68_1] :: zaj) zbN zaT zaR.len (fun i=>zao (zaR.get i)) zat zau))))
theorem zqi (K : List PA → Prop) (X8 : St → Prop) (X9 : St → Prop) (X12 : St → Prop) (zaa : (Sl Gate)) (kink : Int) (zab : (Sl Mp)) (zae : Nat) (zad : (List Int → Option (List Int))) (zaj : (List (List Int))) (k68_0 : Int) (k68_1 : Int) (zbN : Int) (zcY : Int) (zaT : Int) (zaR : (Sl Span)) (zat : Nat) (zau : (List Int → Option (List Int))) :
  vc Try.prog G56 zaK (cd (cdF Try.f56 [1,1,1,1,1,1,1,1,1,0,1,0,0,1,1,0,0,1,1,0,1,0,0,1,1,0,1,1,1,1,1,0]) [0]) (zb5 Try.prog zaK 30 X12 (zaz 8 (zaz 7 (zb5 Try.prog zaK 24 X9 (zaz 6 (sqK Try.prog G56 zaK (cdF Try.f56 [1,1,1,1,1,1,1,1,1,0,1,0,0,1,1,0,0,1,1,1]) (zaz 5 (sqK Try.prog G56 zaK (cdF Try.f56 [1,1,1,1,1,1,1,1,1,0,1,0,0,1,1,1]) (zb5 Try.prog zaK 20 X8 (zaz 4 (sqK Try.prog G56 zaK (cdF Try.f56 [1,1,1,1,1,1,1,1,1,1]) (zbD Try.prog Try.f56 K)))))))))))) (zft zaa kink zab zae zad zaj k68_0 k68_1 zbN zcY zaT zaR.len (fun i=>zao (zaR.get i)) zat zau) =
  zmE K X8 X9 X12 zaa kink zab zae zad zaj k68_0 k68_1 zbN zcY zaT zaR zat zau:=by kernel_rfl
theorem zvs (K : List PA → Prop) (X8 : St → Prop) (X9 : St → Prop) (zaa : (Sl Gate)) (kink : Int) (zab : (Sl Mp)) (zae : Nat) (zad : (List Int → Option (List Int))) (zaj : (List (List Int))) (k68_0 : Int) (k68_1 : Int) (zbN : Int) (zcY : Int) (zaT : Int) (zeI : Nat) (zbH : Nat → List PV) (zat : Nat) (zau : (List Int → Option (List Int)))
  (h:∀ X12:St→Prop,(∀ (zbN:Int) (zcY:Int) (zaT:Int) (zaR:(Sl Span)) (zat:Nat) (zau:(List Int→Option (List Int))),zmE K X8 X9 X12 zaa kink zab zae zad zaj k68_0 k68_1 zbN zcY zaT zaR zat zau→X12 (zft zaa kink zab zae zad zaj k68_0 k68_1 zbN zcY zaT zaR.len (fun i=>zao (zaR.get i)) zat zau))→X12 (zft zaa kink zab zae zad zaj k68_0 k68_1 zbN zcY zaT zeI zbH zat zau)) :
  zih K X8 X9 zaa kink zab zae zad zaj k68_0 k68_1 zbN zcY zaT zeI zbH zat zau:=by
  have e:zih K X8 X9 zaa kink zab zae zad zaj k68_0 k68_1 zbN zcY zaT zeI zbH zat zau=(∀ X:St→Prop,(∀ s,vc Try.prog G56 zaK (cd (cdF Try.f56 [1,1,1,1,1,1,1,1,1,0,1,0,0,1,1,0,0,1,1,0,1,0,0,1,1,0,1,1,1,1,1,0]) [0]) (zb5 Try.prog zaK 30 X (zaz 8 (zaz 7 (zb5 Try.prog zaK 24 X9 (zaz 6 (sqK Try.prog G56 zaK (cdF Try.f56 [1,1,1,1,1,1,1,1,1,0,1,0,0,1,1,0,0,1,1,1]) (zaz 5 (sqK Try.prog G56 zaK (cdF Try.f56 [1,1,1,1,1,1,1,1,1,0,1,0,0,1,1,1]) (zb5 Try.prog zaK 20 X8 (zaz 4 (sqK Try.prog G56 zaK (cdF Try.f56 [1,1,1,1,1,1,1,1,1,1]) (zbD Try.prog Try.f56 K)))))))))))) s→X s)→X (zft zaa kink zab zae zad zaj k68_0 k68_1 zbN zcY zaT zeI zbH zat zau)):=by kernel_rfl
  refine zaI e ?_
  intro X hX
  refine h X ?_
  intro zbN zcY zaT zaR zat zau hs
  refine hX _ ?_
  have e2:=zqi K X8 X9 X zaa kink zab zae zad zaj k68_0 k68_1 zbN zcY zaT zaR zat zau
  rw [e2]
  exact hs
theorem zCB (K : List PA → Prop) (X8 : St → Prop) (X9 : St → Prop) (X12 : St → Prop) (zaa : (Sl Gate)) (kink : Int) (zab : (Sl Mp)) (zae : Nat) (zad : (List Int → Option (List Int))) (zaj : (List (List Int))) (k68_0 : Int) (k68_1 : Int) (zhG : Int) (zmD : Int) (zdm : Int) (zdh : Bool) (zdn : Int) (zc2 : (Sl Span)) (zbW : Nat) (zbn : (List Int → Option (List Int))) :
  zii K X8 X9 X12 zaa kink zab zae zad zaj k68_0 k68_1 zhG zmD zdm zdh zdn zc2.len (fun i=>zao (zc2.get i)) zbW zbn =
  (zcP zdh
 (X12 (zft zaa kink zab zae zad zaj k68_0 k68_1 zhG (w64 (zmD+(1:Int))) zdm zc2.len (fun i=>zao (zc2.get i)) (addN (zbn [k68_1,zdn]) zbW) (ze4 [k68_1,zdn] [1] zbn)))
 (X12 (zft zaa kink zab zae zad zaj k68_0 k68_1 zhG (w64 (zmD+(1:Int))) zdm zc2.len (fun i=>zao (zc2.get i)) zbW zbn))):=by kernel_rfl
abbrev e56 (r:((Sl Span)×Int)):List PA:=[.one (.sl r.1.len 2 (fun i=>zao (r.1.get i))),.one (.int .i64 r.2)]
attribute [irreducible] zlx zn2 zn3 zlz zn4 zlA zn5 zn6 zlB zlC zj5 zj6 zih zii
def zij (S8:Nat→(List Int→Option (List Int))→Int→(Sl Span)→((Sl Span)×Int)) (S9:Int→Int→(Sl Span)→Nat→(List Int→Option (List Int))→((Sl Span)×Int)) (S12:Int→Int→Int→(Sl Span)→Nat→(List Int→Option (List Int))→((Sl Span)×Int)) (zaa:(Sl Gate)) (kink:Int) (zab:(Sl Mp)) (zae:Nat) (zad:(List Int→Option (List Int))) (k68_0:Int) (k68_1:Int) (zhG:Int) (zmD:Int) (zdm:Int) (zdh:Bool) (zdn:Int) (zc2:(Sl Span)) (zbW:Nat) (zbn:(List Int→Option (List Int))):((Sl Span)×Int) :=
  (cond zdh
 (S12 zhG (w64 (zmD+(1:Int))) zdm zc2 (addN (zbn [k68_1,zdn]) zbW) (ze4 [k68_1,zdn] [1] zbn))
 (S12 zhG (w64 (zmD+(1:Int))) zdm zc2 zbW zbn))
def zik (P8:Nat→(List Int→Option (List Int))→Int→(Sl Span)→Bool) (P9:Int→Int→(Sl Span)→Nat→(List Int→Option (List Int))→Bool) (P12:Int→Int→Int→(Sl Span)→Nat→(List Int→Option (List Int))→Bool) (zaa:(Sl Gate)) (kink:Int) (zab:(Sl Mp)) (zae:Nat) (zad:(List Int→Option (List Int))) (k68_0:Int) (k68_1:Int) (zhG:Int) (zmD:Int) (zdm:Int) (zdh:Bool) (zdn:Int) (zc2:(Sl Span)) (zbW:Nat) (zbn:(List Int→Option (List Int))):Bool :=
  (cond zdh
 (P12 zhG (w64 (zmD+(1:Int))) zdm zc2 (addN (zbn [k68_1,zdn]) zbW) (ze4 [k68_1,zdn] [1] zbn))
 (P12 zhG (w64 (zmD+(1:Int))) zdm zc2 zbW zbn))
theorem zuy (K : List PA → Prop) (zaa : (Sl Gate)) (kink : Int) (zab : (Sl Mp)) (zae : Nat) (zad : (List Int → Option (List Int))) (zaj : (List (List Int))) (k68_0 : Int) (k68_1 : Int)
  (X8:St→Prop) (P8:Nat→(List Int→Option (List Int))→Int→(Sl Span)→Bool) (S8:Nat→(List Int→Option (List Int))→Int→(Sl Span)→((Sl Span)×Int))
  (hX8:∀ (zae:Nat) (zad:(List Int→Option (List Int))) (za8:Int) (zbf:(Sl Span)) (zbd:Nat→List PV) (zeM:zbd=fun i=>zao (zbf.get i)),P8 zae zad za8 zbf=true→K (e56 (S8 zae zad za8 zbf))→X8 (zfG zaa kink zab zae zad za8 zbf.len zbd))
  (X9:St→Prop) (P9:Int→Int→(Sl Span)→Nat→(List Int→Option (List Int))→Bool) (S9:Int→Int→(Sl Span)→Nat→(List Int→Option (List Int))→((Sl Span)×Int))
  (hX9:∀ (iv9:Int) (za6:Int) (zaW:(Sl Span)) (zar:Nat) (zas:(List Int→Option (List Int))) (zbe:Nat→List PV) (zdW:zbe=fun i=>zao (zaW.get i)),P9 iv9 za6 zaW zar zas=true→K (e56 (S9 iv9 za6 zaW zar zas))→X9 (zfH zaa kink zab zae zad ([k68_0,k68_1] :: zaj) iv9 za6 zaW.len zbe zar zas))
  (X12:St→Prop) (P12:Int→Int→Int→(Sl Span)→Nat→(List Int→Option (List Int))→Bool) (S12:Int→Int→Int→(Sl Span)→Nat→(List Int→Option (List Int))→((Sl Span)×Int))
  (hX12:∀ (zbN:Int) (zcY:Int) (zaT:Int) (zaR:(Sl Span)) (zat:Nat) (zau:(List Int→Option (List Int))) (zbH:Nat→List PV) (zgF:zbH=fun i=>zao (zaR.get i)),P12 zbN zcY zaT zaR zat zau=true→K (e56 (S12 zbN zcY zaT zaR zat zau))→X12 (zft zaa kink zab zae zad zaj k68_0 k68_1 zbN zcY zaT zaR.len zbH zat zau)) (zhG:Int) (zmD:Int) (zdm:Int) (zdh:Bool) (zdn:Int) (zc2:(Sl Span)) (zbW:Nat) (zbn:(List Int→Option (List Int))) (zgE:Nat→List PV) (zCC:zgE=fun i=>zao (zc2.get i)) (hs:zik P8 P9 P12 zaa kink zab zae zad k68_0 k68_1 zhG zmD zdm zdh zdn zc2 zbW zbn=true) (hk:K (e56 (zij S8 S9 S12 zaa kink zab zae zad k68_0 k68_1 zhG zmD zdm zdh zdn zc2 zbW zbn))):zii (Wk K) X8 X9 X12 zaa kink zab zae zad zaj k68_0 k68_1 zhG zmD zdm zdh zdn zc2.len zgE zbW zbn:=by
  subst zCC
  refine zaI (zCB (Wk K) X8 X9 X12 zaa kink zab zae zad zaj k68_0 k68_1 zhG zmD zdm zdh zdn zc2 zbW zbn) ?_
  unfold zik at hs
  unfold zij at hk
  exact (zbq (K := fun r => K (e56 r))
 (fun hs hk=>(hX12 zhG (w64 (zmD+(1:Int))) zdm zc2 (addN (zbn [k68_1,zdn]) zbW) (ze4 [k68_1,zdn] [1] zbn) (fun i=>zao (zc2.get i)) rfl hs hk))
 (fun hs hk=>(hX12 zhG (w64 (zmD+(1:Int))) zdm zc2 zbW zbn (fun i=>zao (zc2.get i)) rfl hs hk)) hs hk)
def zil (S8:Nat→(List Int→Option (List Int))→Int→(Sl Span)→((Sl Span)×Int)) (S9:Int→Int→(Sl Span)→Nat→(List Int→Option (List Int))→((Sl Span)×Int)) (zaa:(Sl Gate)) (kink:Int) (zab:(Sl Mp)) (zae:Nat) (zad:(List Int→Option (List Int))) (k68_0:Int) (k68_1:Int) (S12:Int→Int→Int→(Sl Span)→Nat→(List Int→Option (List Int))→((Sl Span)×Int)) (zbN:Int) (zcY:Int) (zaT:Int) (zaR:(Sl Span)) (zat:Nat) (zau:(List Int→Option (List Int))):((Sl Span)×Int) :=
  (cond (decide (zcY ≤ (zaa.get ((w64 (zbN + (2:Int))).toNat)).High))
 (cond (decide ((zdj (((zab.get ((w64 (zbN + (1:Int))).toNat)).F) [k68_1, zcY]) 0) ≤ kink))
 (zij S8 S9 S12 zaa kink zab zae zad k68_0 k68_1 zbN zcY zaT (decide ((s85 ((zaa.get zbN.toNat).Z) ((zaa.get ((w64 (zbN+(1:Int))).toNat)).Z) ((zaa.get ((w64 (zbN+(2:Int))).toNat)).Z) k68_0 k68_1 zcY)≤kink)) zcY zaR zat zau)
 (zij S8 S9 S12 zaa kink zab zae zad k68_0 k68_1 zbN zcY zaT false zcY zaR zat zau))
 (S9 zbN zaT zaR zat zau))
def zim (P8:Nat→(List Int→Option (List Int))→Int→(Sl Span)→Bool) (P9:Int→Int→(Sl Span)→Nat→(List Int→Option (List Int))→Bool) (zaa:(Sl Gate)) (kink:Int) (zab:(Sl Mp)) (zae:Nat) (zad:(List Int→Option (List Int))) (k68_0:Int) (k68_1:Int) (P12:Int→Int→Int→(Sl Span)→Nat→(List Int→Option (List Int))→Bool) (zbN:Int) (zcY:Int) (zaT:Int) (zaR:(Sl Span)) (zat:Nat) (zau:(List Int→Option (List Int))):Bool :=
  (decide ((0≤(w64 (zbN+(2:Int)))∧(w64 (zbN+(2:Int))) < (zaa.len:Int))) &&
 (cond (decide (zcY ≤ (zaa.get ((w64 (zbN + (2:Int))).toNat)).High))
 (decide ((0≤(w64 (zbN+(1:Int)))∧(w64 (zbN+(1:Int))) < (zab.len:Int))) &&
 (cond (decide ((zdj (((zab.get ((w64 (zbN + (1:Int))).toNat)).F) [k68_1, zcY]) 0) ≤ kink))
 (decide ((0≤zbN∧zbN < (zaa.len:Int))) &&
 (decide ((0≤(w64 (zbN+(1:Int)))∧(w64 (zbN+(1:Int))) < (zaa.len:Int))) &&
 (decide ((0≤(w64 (zbN+(2:Int)))∧(w64 (zbN+(2:Int))) < (zaa.len:Int))) &&
 (decide ((p85 ((zaa.get zbN.toNat).Z) ((zaa.get ((w64 (zbN+(1:Int))).toNat)).Z) ((zaa.get ((w64 (zbN+(2:Int))).toNat)).Z) k68_0 k68_1 zcY=true)) &&
 (zik P8 P9 P12 zaa kink zab zae zad k68_0 k68_1 zbN zcY zaT (decide ((s85 ((zaa.get zbN.toNat).Z) ((zaa.get ((w64 (zbN+(1:Int))).toNat)).Z) ((zaa.get ((w64 (zbN+(2:Int))).toNat)).Z) k68_0 k68_1 zcY)≤kink)) zcY zaR zat zau)))))
 (zik P8 P9 P12 zaa kink zab zae zad k68_0 k68_1 zbN zcY zaT false zcY zaR zat zau)))
 (P9 zbN zaT zaR zat zau)))
def zfu (S8 : Nat → (List Int → Option (List Int)) → Int → (Sl Span) → ((Sl Span) × Int)) (S9 : Int → Int → (Sl Span) → Nat → (List Int → Option (List Int)) → ((Sl Span) × Int)) (zaa : (Sl Gate)) (kink : Int) (zab : (Sl Mp)) (zae : Nat) (zad : (List Int → Option (List Int))) (k68_0 : Int) (k68_1 : Int) : Nat → Int → Int → Int → (Sl Span) → Nat → (List Int → Option (List Int)) → ((Sl Span) × Int)
  | 0=>fun _ _ _ _ _ _=>default
  | k+1=>zil S8 S9 zaa kink zab zae zad k68_0 k68_1 (zfu S8 S9 zaa kink zab zae zad k68_0 k68_1 k)
def zfv (P8 : Nat → (List Int → Option (List Int)) → Int → (Sl Span) → Bool) (P9 : Int → Int → (Sl Span) → Nat → (List Int → Option (List Int)) → Bool) (zaa : (Sl Gate)) (kink : Int) (zab : (Sl Mp)) (zae : Nat) (zad : (List Int → Option (List Int))) (k68_0 : Int) (k68_1 : Int) : Nat → Int → Int → Int → (Sl Span) → Nat → (List Int → Option (List Int)) → Bool
  | 0=>fun _ _ _ _ _ _=>false
  | k+1=>zim P8 P9 zaa kink zab zae zad k68_0 k68_1 (zfv P8 P9 zaa kink zab zae zad k68_0 k68_1 k)
def zoa (S8:Nat→(List Int→Option (List Int))→Int→(Sl Span)→((Sl Span)×Int)) (S9:Int→Int→(Sl Span)→Nat→(List Int→Option (List Int))→((Sl Span)×Int)) (zaa:(Sl Gate)) (kink:Int) (zab:(Sl Mp)) (zae:Nat) (zad:(List Int→Option (List Int))) (k68_0:Int) (k68_1:Int) (zbN:Int) (zcY:Int) (zaT:Int) (zaR:(Sl Span)) (zat:Nat) (zau:(List Int→Option (List Int))):((Sl Span)×Int):=zfu S8 S9 zaa kink zab zae zad k68_0 k68_1 Fuel zbN zcY zaT zaR zat zau
def zob (P8:Nat→(List Int→Option (List Int))→Int→(Sl Span)→Bool) (P9:Int→Int→(Sl Span)→Nat→(List Int→Option (List Int))→Bool) (zaa:(Sl Gate)) (kink:Int) (zab:(Sl Mp)) (zae:Nat) (zad:(List Int→Option (List Int))) (k68_0:Int) (k68_1:Int) (zbN:Int) (zcY:Int) (zaT:Int) (zaR:(Sl Span)) (zat:Nat) (zau:(List Int→Option (List Int))):Bool:=zfv P8 P9 zaa kink zab zae zad k68_0 k68_1 Fuel zbN zcY zaT zaR zat zau
theorem zCD (K : List PA → Prop) (zaa : (Sl Gate)) (kink : Int) (zab : (Sl Mp)) (zae : Nat) (zad : (List Int → Option (List Int))) (zaj : (List (List Int))) (k68_0 : Int) (k68_1 : Int)
  (X8:St→Prop) (P8:Nat→(List Int→Option (List Int))→Int→(Sl Span)→Bool) (S8:Nat→(List Int→Option (List Int))→Int→(Sl Span)→((Sl Span)×Int))
  (hX8:∀ (zae:Nat) (zad:(List Int→Option (List Int))) (za8:Int) (zbf:(Sl Span)) (zbd:Nat→List PV) (zeM:zbd=fun i=>zao (zbf.get i)),P8 zae zad za8 zbf=true→K (e56 (S8 zae zad za8 zbf))→X8 (zfG zaa kink zab zae zad za8 zbf.len zbd))
  (X9:St→Prop) (P9:Int→Int→(Sl Span)→Nat→(List Int→Option (List Int))→Bool) (S9:Int→Int→(Sl Span)→Nat→(List Int→Option (List Int))→((Sl Span)×Int))
  (hX9:∀ (iv9:Int) (za6:Int) (zaW:(Sl Span)) (zar:Nat) (zas:(List Int→Option (List Int))) (zbe:Nat→List PV) (zdW:zbe=fun i=>zao (zaW.get i)),P9 iv9 za6 zaW zar zas=true→K (e56 (S9 iv9 za6 zaW zar zas))→X9 (zfH zaa kink zab zae zad ([k68_0,k68_1] :: zaj) iv9 za6 zaW.len zbe zar zas)) (zbN:Int) (zcY:Int) (zaT:Int) (zaR:(Sl Span)) (zat:Nat) (zau:(List Int→Option (List Int))) (zbH:Nat→List PV) (zgF:zbH=fun i=>zao (zaR.get i)) (hs:zob P8 P9 zaa kink zab zae zad k68_0 k68_1 zbN zcY zaT zaR zat zau=true) (hk:K (e56 (zoa S8 S9 zaa kink zab zae zad k68_0 k68_1 zbN zcY zaT zaR zat zau))):zih (Wk K) X8 X9 zaa kink zab zae zad zaj k68_0 k68_1 zbN zcY zaT zaR.len zbH zat zau:=by
  refine zvs (Wk K) X8 X9 zaa kink zab zae zad zaj k68_0 k68_1 zbN zcY zaT zaR.len zbH zat zau ?_
  intro X12 hstep
  have key:∀ (k:Nat) (zbN:Int) (zcY:Int) (zaT:Int) (zaR:(Sl Span)) (zat:Nat) (zau:(List Int→Option (List Int))) (zbH:Nat→List PV) (zgF:zbH=fun i=>zao (zaR.get i)),zfv P8 P9 zaa kink zab zae zad k68_0 k68_1 k zbN zcY zaT zaR zat zau=true→K (e56 (zfu S8 S9 zaa kink zab zae zad k68_0 k68_1 k zbN zcY zaT zaR zat zau))→X12 (zft zaa kink zab zae zad zaj k68_0 k68_1 zbN zcY zaT zaR.len zbH zat zau):=by
    intro k
    induction k with
    | zero=>intro zbN zcY zaT zaR zat zau zbH zgF hs;exact absurd hs Bool.false_ne_true
    | succ k ih =>
      intro zbN zcY zaT zaR zat zau zbH zgF hs hk
      subst zgF
      refine hstep zbN zcY zaT zaR zat zau ?_
      have hs:zim P8 P9 zaa kink zab zae zad k68_0 k68_1 (zfv P8 P9 zaa kink zab zae zad k68_0 k68_1 k) zbN zcY zaT zaR zat zau=true:=hs
      have hk:K (e56 (zil S8 S9 zaa kink zab zae zad k68_0 k68_1 (zfu S8 S9 zaa kink zab zae zad k68_0 k68_1 k) zbN zcY zaT zaR zat zau)):=hk
      unfold zim at hs
      unfold zil at hk
      generalize zfu S8 S9 zaa kink zab zae zad k68_0 k68_1 k=S12 at hk ih
      generalize zfv P8 P9 zaa kink zab zae zad k68_0 k68_1 k=P12 at hs ih
      have hX12:=ih
      exact (zaG hs fun hc hs => ⟨hc, (zbq (K := fun r => K (e56 r))
 (fun hs hk => (zaG hs fun hc hs => ⟨hc, (zbq (K := fun r => K (e56 r))
 (fun hs hk=>(zaG hs fun hc hs=>⟨hc,(zaG hs fun hc hs=>⟨hc,(zaG hs fun hc hs=>⟨hc,(zaG hs fun hc hs=>⟨hc,(zuy K zaa kink zab zae zad zaj k68_0 k68_1 X8 P8 S8 hX8 X9 P9 S9 hX9 X12 P12 S12 hX12 zbN zcY zaT (decide ((s85 ((zaa.get zbN.toNat).Z) ((zaa.get ((w64 (zbN+(1:Int))).toNat)).Z) ((zaa.get ((w64 (zbN+(2:Int))).toNat)).Z) k68_0 k68_1 zcY)≤kink)) zcY zaR zat zau (fun i=>zao (zaR.get i)) rfl hs hk)⟩)⟩)⟩)⟩))
 (fun hs hk=>(zuy K zaa kink zab zae zad zaj k68_0 k68_1 X8 P8 S8 hX8 X9 P9 S9 hX9 X12 P12 S12 hX12 zbN zcY zaT false zcY zaR zat zau (fun i=>zao (zaR.get i)) rfl hs hk)) hs hk)⟩))
 (fun hs hk=>(hX9 zbN zaT zaR zat zau (fun i=>zao (zaR.get i)) rfl hs hk)) hs hk)⟩)
  exact key _ zbN zcY zaT zaR zat zau zbH zgF hs hk
def zj7 (S8:Nat→(List Int→Option (List Int))→Int→(Sl Span)→((Sl Span)×Int)) (S9:Int→Int→(Sl Span)→Nat→(List Int→Option (List Int))→((Sl Span)×Int)) (zaa:(Sl Gate)) (kink:Int) (zab:(Sl Mp)) (zae:Nat) (zad:(List Int→Option (List Int))) (k68_0:Int) (k68_1:Int) (zcx:Int) (zdl:Int) (zc1:(Sl Span)) (zbU:Nat) (zbV:(List Int→Option (List Int))):((Sl Span)×Int) :=
  (cond ((w64 (zcx + (2:Int))) == (zaa.len : Int))
 (S9 zcx zdl zc1 zbU zbV)
 (zoa S8 S9 zaa kink zab zae zad k68_0 k68_1 zcx ((zaa.get ((w64 (zcx+(2:Int))).toNat)).Low) zdl zc1 zbU zbV))
def zj8 (P8:Nat→(List Int→Option (List Int))→Int→(Sl Span)→Bool) (P9:Int→Int→(Sl Span)→Nat→(List Int→Option (List Int))→Bool) (zaa:(Sl Gate)) (kink:Int) (zab:(Sl Mp)) (zae:Nat) (zad:(List Int→Option (List Int))) (k68_0:Int) (k68_1:Int) (zcx:Int) (zdl:Int) (zc1:(Sl Span)) (zbU:Nat) (zbV:(List Int→Option (List Int))):Bool :=
  (cond ((w64 (zcx + (2:Int))) == (zaa.len : Int))
 (P9 zcx zdl zc1 zbU zbV)
 (decide ((0≤(w64 (zcx+(2:Int)))∧(w64 (zcx+(2:Int))) < (zaa.len:Int))) &&
 (zob P8 P9 zaa kink zab zae zad k68_0 k68_1 zcx ((zaa.get ((w64 (zcx+(2:Int))).toNat)).Low) zdl zc1 zbU zbV)))
theorem zCE (K : List PA → Prop) (zaa : (Sl Gate)) (kink : Int) (zab : (Sl Mp)) (zae : Nat) (zad : (List Int → Option (List Int))) (zaj : (List (List Int))) (k68_0 : Int) (k68_1 : Int)
  (X8:St→Prop) (P8:Nat→(List Int→Option (List Int))→Int→(Sl Span)→Bool) (S8:Nat→(List Int→Option (List Int))→Int→(Sl Span)→((Sl Span)×Int))
  (hX8:∀ (zae:Nat) (zad:(List Int→Option (List Int))) (za8:Int) (zbf:(Sl Span)) (zbd:Nat→List PV) (zeM:zbd=fun i=>zao (zbf.get i)),P8 zae zad za8 zbf=true→K (e56 (S8 zae zad za8 zbf))→X8 (zfG zaa kink zab zae zad za8 zbf.len zbd))
  (X9:St→Prop) (P9:Int→Int→(Sl Span)→Nat→(List Int→Option (List Int))→Bool) (S9:Int→Int→(Sl Span)→Nat→(List Int→Option (List Int))→((Sl Span)×Int))
  (hX9:∀ (iv9:Int) (za6:Int) (zaW:(Sl Span)) (zar:Nat) (zas:(List Int→Option (List Int))) (zbe:Nat→List PV) (zdW:zbe=fun i=>zao (zaW.get i)),P9 iv9 za6 zaW zar zas=true→K (e56 (S9 iv9 za6 zaW zar zas))→X9 (zfH zaa kink zab zae zad ([k68_0,k68_1] :: zaj) iv9 za6 zaW.len zbe zar zas)) (zcx:Int) (zdl:Int) (zc1:(Sl Span)) (zbU:Nat) (zbV:(List Int→Option (List Int))) (zgD:Nat→List PV) (zCF:zgD=fun i=>zao (zc1.get i)) (hs:zj8 P8 P9 zaa kink zab zae zad k68_0 k68_1 zcx zdl zc1 zbU zbV=true) (hk:K (e56 (zj7 S8 S9 zaa kink zab zae zad k68_0 k68_1 zcx zdl zc1 zbU zbV))):zj6 (Wk K) X8 X9 zaa kink zab zae zad zaj k68_0 k68_1 zcx zdl zc1.len zgD zbU zbV:=by
  subst zCF
  refine zaI (zCA (Wk K) X8 X9 zaa kink zab zae zad zaj k68_0 k68_1 zcx zdl zc1 zbU zbV) ?_
  unfold zj8 at hs
  unfold zj7 at hk
  exact (zbq (K := fun r => K (e56 r))
 (fun hs hk=>(hX9 zcx zdl zc1 zbU zbV (fun i=>zao (zc1.get i)) rfl hs hk))
 (fun hs hk=>(zaG hs fun hc hs=>⟨hc,(zCD K zaa kink zab zae zad zaj k68_0 k68_1 X8 P8 S8 hX8 X9 P9 S9 hX9 zcx ((zaa.get ((w64 (zcx+(2:Int))).toNat)).Low) zdl zc1 zbU zbV (fun i=>zao (zc1.get i)) rfl hs hk)⟩)) hs hk)
def zj9 (S8:Nat→(List Int→Option (List Int))→Int→(Sl Span)→((Sl Span)×Int)) (S9:Int→Int→(Sl Span)→Nat→(List Int→Option (List Int))→((Sl Span)×Int)) (zaa:(Sl Gate)) (kink:Int) (zab:(Sl Mp)) (zae:Nat) (zad:(List Int→Option (List Int))) (k68_0:Int) (k68_1:Int) (zdQ:Int) (zd5:Int) (zc0:(Sl Span)) (zck:Nat) (zcl:(List Int→Option (List Int))):((Sl Span)×Int) :=
  (zj7 S8 S9 zaa kink zab zae zad k68_0 k68_1 zdQ zd5 (⟨zc0.len,(s94 (w64 (zdQ+(1:Int))) k68_1 zc0.get)⟩:Sl Span) zck zcl)
def zka (P8:Nat→(List Int→Option (List Int))→Int→(Sl Span)→Bool) (P9:Int→Int→(Sl Span)→Nat→(List Int→Option (List Int))→Bool) (zaa:(Sl Gate)) (kink:Int) (zab:(Sl Mp)) (zae:Nat) (zad:(List Int→Option (List Int))) (k68_0:Int) (k68_1:Int) (zdQ:Int) (zd5:Int) (zc0:(Sl Span)) (zck:Nat) (zcl:(List Int→Option (List Int))):Bool :=
  (decide ((p94 (w64 (zdQ+(1:Int))) zc0.len=true)) &&
 (zj8 P8 P9 zaa kink zab zae zad k68_0 k68_1 zdQ zd5 (⟨zc0.len,(s94 (w64 (zdQ+(1:Int))) k68_1 zc0.get)⟩:Sl Span) zck zcl))
theorem zCG (K : List PA → Prop) (zaa : (Sl Gate)) (kink : Int) (zab : (Sl Mp)) (zae : Nat) (zad : (List Int → Option (List Int))) (zaj : (List (List Int))) (k68_0 : Int) (k68_1 : Int)
  (X8:St→Prop) (P8:Nat→(List Int→Option (List Int))→Int→(Sl Span)→Bool) (S8:Nat→(List Int→Option (List Int))→Int→(Sl Span)→((Sl Span)×Int))
  (hX8:∀ (zae:Nat) (zad:(List Int→Option (List Int))) (za8:Int) (zbf:(Sl Span)) (zbd:Nat→List PV) (zeM:zbd=fun i=>zao (zbf.get i)),P8 zae zad za8 zbf=true→K (e56 (S8 zae zad za8 zbf))→X8 (zfG zaa kink zab zae zad za8 zbf.len zbd))
  (X9:St→Prop) (P9:Int→Int→(Sl Span)→Nat→(List Int→Option (List Int))→Bool) (S9:Int→Int→(Sl Span)→Nat→(List Int→Option (List Int))→((Sl Span)×Int))
  (hX9:∀ (iv9:Int) (za6:Int) (zaW:(Sl Span)) (zar:Nat) (zas:(List Int→Option (List Int))) (zbe:Nat→List PV) (zdW:zbe=fun i=>zao (zaW.get i)),P9 iv9 za6 zaW zar zas=true→K (e56 (S9 iv9 za6 zaW zar zas))→X9 (zfH zaa kink zab zae zad ([k68_0,k68_1] :: zaj) iv9 za6 zaW.len zbe zar zas)) (zdQ:Int) (zd5:Int) (zc0:(Sl Span)) (zck:Nat) (zcl:(List Int→Option (List Int))) (zgC:Nat→List PV) (zCH:zgC=fun i=>zao (zc0.get i)) (hs:zka P8 P9 zaa kink zab zae zad k68_0 k68_1 zdQ zd5 zc0 zck zcl=true) (hk:K (e56 (zj9 S8 S9 zaa kink zab zae zad k68_0 k68_1 zdQ zd5 zc0 zck zcl))):zj5 (Wk K) X8 X9 zaa kink zab zae zad zaj k68_0 k68_1 zdQ zd5 zc0.len zgC zck zcl:=by
  subst zCH
  refine zaI (zCz (Wk K) X8 X9 zaa kink zab zae zad zaj k68_0 k68_1 zdQ zd5 zc0 zck zcl) ?_
  unfold zka at hs
  unfold zj9 at hk
  exact (zaG hs fun hc hs=>⟨⟨isE,hc⟩,(zCE K zaa kink zab zae zad zaj k68_0 k68_1 X8 P8 S8 hX8 X9 P9 S9 hX9 zdQ zd5 (⟨zc0.len,(s94 (w64 (zdQ+(1:Int))) k68_1 zc0.get)⟩:Sl Span) zck zcl (fun i=>zao ((s94 (w64 (zdQ+(1:Int))) k68_1 zc0.get) i)) rfl hs hk)⟩)
def zlD (S8:Nat→(List Int→Option (List Int))→Int→(Sl Span)→((Sl Span)×Int)) (zaa:(Sl Gate)) (kink:Int) (zab:(Sl Mp)) (zae:Nat) (zad:(List Int→Option (List Int))) (iv9:Int) (za6:Int) (zaW:(Sl Span)) (zar:Nat) (zas:(List Int→Option (List Int))):((Sl Span)×Int) :=
  (S8 zar zas (w64 (za6+(1:Int))) zaW)
def zlE (P8:Nat→(List Int→Option (List Int))→Int→(Sl Span)→Bool) (zaa:(Sl Gate)) (kink:Int) (zab:(Sl Mp)) (zae:Nat) (zad:(List Int→Option (List Int))) (iv9:Int) (za6:Int) (zaW:(Sl Span)) (zar:Nat) (zas:(List Int→Option (List Int))):Bool :=
  (P8 zar zas (w64 (za6+(1:Int))) zaW)
def zlF (S8:Nat→(List Int→Option (List Int))→Int→(Sl Span)→((Sl Span)×Int)) (zaa:(Sl Gate)) (kink:Int) (zab:(Sl Mp)) (zae:Nat) (zad:(List Int→Option (List Int))) (k68_0:Int) (k68_1:Int) (S9:Int→Int→(Sl Span)→Nat→(List Int→Option (List Int))→((Sl Span)×Int)) (iv9:Int) (za6:Int) (zaW:(Sl Span)) (zar:Nat) (zas:(List Int→Option (List Int))):((Sl Span)×Int) :=
  (zj9 S8 S9 zaa kink zab zae zad k68_0 k68_1 iv9 za6 (⟨zaW.len,(s94 iv9 k68_0 zaW.get)⟩:Sl Span) zar zas)
def zlG (P8:Nat→(List Int→Option (List Int))→Int→(Sl Span)→Bool) (zaa:(Sl Gate)) (kink:Int) (zab:(Sl Mp)) (zae:Nat) (zad:(List Int→Option (List Int))) (k68_0:Int) (k68_1:Int) (P9:Int→Int→(Sl Span)→Nat→(List Int→Option (List Int))→Bool) (iv9:Int) (za6:Int) (zaW:(Sl Span)) (zar:Nat) (zas:(List Int→Option (List Int))):Bool :=
  (decide ((p94 iv9 zaW.len=true)) &&
 (zka P8 P9 zaa kink zab zae zad k68_0 k68_1 iv9 za6 (⟨zaW.len,(s94 iv9 k68_0 zaW.get)⟩:Sl Span) zar zas))
def zdX (S8 : Nat → (List Int → Option (List Int)) → Int → (Sl Span) → ((Sl Span) × Int)) (zaa : (Sl Gate)) (kink : Int) (zab : (Sl Mp)) (zae : Nat) (zad : (List Int → Option (List Int))) : List (List Int) → Int → Int → (Sl Span) → Nat → (List Int → Option (List Int)) → ((Sl Span) × Int)
  | []=>zlD S8 zaa kink zab zae zad
  | y :: r=>zlF S8 zaa kink zab zae zad (y.getD 0 0) (y.getD 1 0) (zdX S8 zaa kink zab zae zad r)
def zdY (P8 : Nat → (List Int → Option (List Int)) → Int → (Sl Span) → Bool) (zaa : (Sl Gate)) (kink : Int) (zab : (Sl Mp)) (zae : Nat) (zad : (List Int → Option (List Int))) : List (List Int) → Int → Int → (Sl Span) → Nat → (List Int → Option (List Int)) → Bool
  | []=>zlE P8 zaa kink zab zae zad
  | y :: r=>zlG P8 zaa kink zab zae zad (y.getD 0 0) (y.getD 1 0) (zdY P8 zaa kink zab zae zad r)
def zgl (_gates:Sl Gate) (_kink:Int) (_table:Sl Mp) (_n:Nat) (_F:List Int→Option (List Int)) (_ys:List (List Int)):Bool:=true
theorem zHJ (zaa:Sl Gate) (kink:Int) (table:Sl Mp) (n:Nat) (F:List Int→Option (List Int)):∀ (y:List Int) (r:List (List Int)),zgl zaa kink table n F (y :: r)=true→zgl zaa kink table n F r=true:=fun _ _ _=>rfl
section ord9
variable (zaa:Sl Gate) (kink:Int) (table:Sl Mp)
def zuz (i:Int):Int:=(zaa.get ((w64 (i+(2:Int))).toNat)).High
def a56 (k1 i r:Int):Bool:=decide ((zdj (((table.get ((w64 (i+(1:Int))).toNat)).F) [k1,r]) 0)≤kink)
def b56 (k0 k1 i r:Int):Bool:=decide ((s85 ((zaa.get i.toNat).Z) ((zaa.get ((w64 (i+(1:Int))).toNat)).Z) ((zaa.get ((w64 (i+(2:Int))).toNat)).Z) k0 k1 r)≤kink)
def g56 (i:Int):Bool:=decide ((0≤(w64 (i+(2:Int)))∧(w64 (i+(2:Int))) < (zaa.len:Int)))
def o56 (k0 k1 i r:Int):Bool:=decide ((0≤(w64 (i+(1:Int)))∧(w64 (i+(1:Int))) < (table.len:Int))) && cond (a56 kink table k1 i r) (decide ((0≤i∧i < (zaa.len:Int))) && (decide ((0≤(w64 (i+(1:Int)))∧(w64 (i+(1:Int))) < (zaa.len:Int))) && (g56 zaa i && decide ((p85 ((zaa.get i.toNat).Z) ((zaa.get ((w64 (i+(1:Int))).toNat)).Z) ((zaa.get ((w64 (i+(2:Int))).toNat)).Z) k0 k1 r=true))))) true
def zuA (k0 k1 i : Int) : Nat → Int → Bool
  | 0,_=>false
  | k+1,r=>g56 zaa i && cond (decide (r≤zuz zaa i)) (o56 zaa kink table k0 k1 i r && zuA k0 k1 i k (w64 (r+(1:Int)))) true
def zlH (k0 k1 i : Int) : Nat → Int → List (List Int)
  | 0,_=>[]
  | k+1,r=>cond (decide (r≤zuz zaa i)) (cond (a56 kink table k1 i r && b56 zaa kink k0 k1 i r) ([k1,r] :: zlH k0 k1 i k (w64 (r+(1:Int)))) (zlH k0 k1 i k (w64 (r+(1:Int))))) []
theorem zLn (P8:Nat→(List Int→Option (List Int))→Int→(Sl Span)→Bool) (P9:Int→Int→(Sl Span)→Nat→(List Int→Option (List Int))→Bool) (nn:Nat) (nF:List Int→Option (List Int)) (k0 k1 i t:Int) (out:Sl Span):∀ (k:Nat) (r:Int) (n:Nat) (F:List Int→Option (List Int)),
    zfv P8 P9 zaa kink table nn nF k0 k1 k i r t out n F=(zuA zaa kink table k0 k1 i k r && P9 i t out (insL (n,F) (zlH zaa kink table k0 k1 i k r)).1 (insL (n,F) (zlH zaa kink table k0 k1 i k r)).2)
  | 0,r,n,F=>rfl
  | k+1,r,n,F=>by
    have ih:=zLn P8 P9 nn nF k0 k1 i t out k
    show zim P8 P9 zaa kink table nn nF k0 k1 (zfv P8 P9 zaa kink table nn nF k0 k1 k) i r t out n F=((g56 zaa i && cond (decide (r≤zuz zaa i)) (o56 zaa kink table k0 k1 i r && zuA zaa kink table k0 k1 i k (w64 (r+(1:Int)))) true) && P9 i t out (insL (n,F) (cond (decide (r≤zuz zaa i)) (cond (a56 kink table k1 i r && b56 zaa kink k0 k1 i r) ([k1,r] :: zlH zaa kink table k0 k1 i k (w64 (r+(1:Int)))) (zlH zaa kink table k0 k1 i k (w64 (r+(1:Int))))) [])).1 (insL (n,F) (cond (decide (r≤zuz zaa i)) (cond (a56 kink table k1 i r && b56 zaa kink k0 k1 i r) ([k1,r] :: zlH zaa kink table k0 k1 i k (w64 (r+(1:Int)))) (zlH zaa kink table k0 k1 i k (w64 (r+(1:Int))))) [])).2)
    unfold zim zik
    rw [ih,ih]
    simp only [show (decide (r≤(zaa.get ((w64 (i+(2:Int))).toNat)).High))=decide (r≤zuz zaa i) from rfl,show decide ((zdj (((table.get ((w64 (i+(1:Int))).toNat)).F) [k1,r]) 0)≤kink)=a56 kink table k1 i r from rfl,show decide ((s85 ((zaa.get i.toNat).Z) ((zaa.get ((w64 (i+(1:Int))).toNat)).Z) ((zaa.get ((w64 (i+(2:Int))).toNat)).Z) k0 k1 r)≤kink)=b56 zaa kink k0 k1 i r from rfl,show decide ((0≤(w64 (i+(2:Int)))∧(w64 (i+(2:Int))) < (zaa.len:Int)))=g56 zaa i from rfl]
    have ei:∀ l,insL (addN (F [k1,r]) n,ze4 [k1,r] [1] F) l=insL (n,F) ([k1,r] :: l):=fun l=>rfl
    unfold o56
    rw [ei]
    generalize zuA zaa kink table k0 k1 i k (w64 (r+(1:Int)))=ok
    generalize zlH zaa kink table k0 k1 i k (w64 (r+(1:Int)))=ks
    cases decide (r≤zuz zaa i) <;> cases a56 kink table k1 i r <;> cases b56 zaa kink k0 k1 i r <;> cases g56 zaa i <;> simp only [cond_true,cond_false,Bool.true_and,Bool.and_true,Bool.false_and,Bool.and_false,Bool.and_assoc] <;> rfl
theorem zLo (S8:Nat→(List Int→Option (List Int))→Int→(Sl Span)→((Sl Span)×Int)) (S9:Int→Int→(Sl Span)→Nat→(List Int→Option (List Int))→((Sl Span)×Int)) (nn:Nat) (nF:List Int→Option (List Int)) (k0 k1 i t:Int) (out:Sl Span):∀ (k:Nat) (r:Int) (n:Nat) (F:List Int→Option (List Int)),zuA zaa kink table k0 k1 i k r=true →
    zfu S8 S9 zaa kink table nn nF k0 k1 k i r t out n F=S9 i t out (insL (n,F) (zlH zaa kink table k0 k1 i k r)).1 (insL (n,F) (zlH zaa kink table k0 k1 i k r)).2
  | 0,r,n,F,h=>absurd h Bool.false_ne_true
  | k+1,r,n,F,h=>by
    have ih:=zLo S8 S9 nn nF k0 k1 i t out k
    have h:(g56 zaa i && cond (decide (r≤zuz zaa i)) (o56 zaa kink table k0 k1 i r && zuA zaa kink table k0 k1 i k (w64 (r+(1:Int)))) true)=true:=h
    show zil S8 S9 zaa kink table nn nF k0 k1 (zfu S8 S9 zaa kink table nn nF k0 k1 k) i r t out n F=S9 i t out (insL (n,F) (cond (decide (r≤zuz zaa i)) (cond (a56 kink table k1 i r && b56 zaa kink k0 k1 i r) ([k1,r] :: zlH zaa kink table k0 k1 i k (w64 (r+(1:Int)))) (zlH zaa kink table k0 k1 i k (w64 (r+(1:Int))))) [])).1 (insL (n,F) (cond (decide (r≤zuz zaa i)) (cond (a56 kink table k1 i r && b56 zaa kink k0 k1 i r) ([k1,r] :: zlH zaa kink table k0 k1 i k (w64 (r+(1:Int)))) (zlH zaa kink table k0 k1 i k (w64 (r+(1:Int))))) [])).2
    unfold zil zij
    simp only [show (decide (r≤(zaa.get ((w64 (i+(2:Int))).toNat)).High))=decide (r≤zuz zaa i) from rfl,show decide ((zdj (((table.get ((w64 (i+(1:Int))).toNat)).F) [k1,r]) 0)≤kink)=a56 kink table k1 i r from rfl,show decide ((s85 ((zaa.get i.toNat).Z) ((zaa.get ((w64 (i+(1:Int))).toNat)).Z) ((zaa.get ((w64 (i+(2:Int))).toNat)).Z) k0 k1 r)≤kink)=b56 zaa kink k0 k1 i r from rfl]
    cases hr:decide (r≤zuz zaa i) with
    | false=>rw [cond_false,cond_false];rfl
    | true =>
      rw [hr,cond_true,Bool.and_eq_true,Bool.and_eq_true] at h
      have ih:=fun n F=>ih (w64 (r+(1:Int))) n F h.2.2
      rw [ih,ih]
      generalize zlH zaa kink table k0 k1 i k (w64 (r+(1:Int)))=ks
      cases a56 kink table k1 i r <;> cases b56 zaa kink k0 k1 i r <;> rfl
def ok9 (fu:Nat) (i:Int) (len:Nat) (y:List Int):Bool:=p94 i len && (p94 (w64 (i+(1:Int))) len && cond ((w64 (i+(2:Int))) == (zaa.len:Int)) true (g56 zaa i && zuA zaa kink table (y.getD 0 0) (y.getD 1 0) i fu ((zaa.get ((w64 (i+(2:Int))).toNat)).Low)))
def ks9 (fu:Nat) (i:Int) (y:List Int):List (List Int):=cond ((w64 (i+(2:Int))) == (zaa.len:Int)) [] (zlH zaa kink table (y.getD 0 0) (y.getD 1 0) i fu ((zaa.get ((w64 (i+(2:Int))).toNat)).Low))
def zey (fu:Nat) (i:Int) (z:Sl Span×MpS) (y:List Int):Sl Span×MpS:=(⟨z.1.len,s94 (w64 (i+(1:Int))) (y.getD 1 0) (s94 i (y.getD 0 0) z.1.get)⟩,insL z.2 (ks9 zaa kink table fu i y))
theorem zHK (fu:Nat) (i:Int) (z:Sl Span×MpS) (x y:List Int):zey zaa kink table fu i (zey zaa kink table fu i z x) y=zey zaa kink table fu i (zey zaa kink table fu i z y) x:=by
  unfold zey
  refine Prod.ext ?_ (zAw z.2 _ _)
  refine congrArg (Sl.mk z.1.len) ?_
  rw [zj4 i (w64 (i+(1:Int))) (y.getD 0 0) (x.getD 1 0),zj4 (w64 (i+(1:Int))) (w64 (i+(1:Int))) (y.getD 1 0) (x.getD 1 0),zj4 i i (y.getD 0 0) (x.getD 0 0),zj4 (w64 (i+(1:Int))) i (y.getD 1 0) (x.getD 0 0)]
theorem zMd (P8:Nat→(List Int→Option (List Int))→Int→(Sl Span)→Bool) (nn:Nat) (nF:List Int→Option (List Int)) (i t:Int):∀ (ys:List (List Int)) (out:Sl Span) (n:Nat) (F:List Int→Option (List Int)),
    zdY P8 zaa kink table nn nF ys i t out n F=(ys.all (ok9 zaa kink table Fuel i out.len) && zlE P8 zaa kink table nn nF i t (ys.foldl (zey zaa kink table Fuel i) (out,(n,F))).1 (ys.foldl (zey zaa kink table Fuel i) (out,(n,F))).2.1 (ys.foldl (zey zaa kink table Fuel i) (out,(n,F))).2.2)
  | [],out,n,F=>rfl
  | y :: r,out,n,F=>by
    have ih:=zMd P8 nn nF i t r
    rw [List.all_cons,List.foldl_cons]
    have e:zdY P8 zaa kink table nn nF (y :: r) i t out n F=zlG P8 zaa kink table nn nF (y.getD 0 0) (y.getD 1 0) (zdY P8 zaa kink table nn nF r) i t out n F:=rfl
    rw [e]
    unfold zlG zka zj8 zob
    generalize hfu:Fuel=fu at ih ⊢
    rw [zLn,ih,ih]
    simp only [Bool.decide_eq_true,show decide ((0≤(w64 (i+(2:Int)))∧(w64 (i+(2:Int))) < (zaa.len:Int)))=g56 zaa i from rfl]
    cases hc:((w64 (i+(2:Int))) == (zaa.len:Int)) with
    | true =>
      have e9:ok9 zaa kink table fu i out.len y=(p94 i out.len && p94 (w64 (i+(1:Int))) out.len):=by unfold ok9;rw [hc,cond_true,Bool.and_true]
      have ef:zey zaa kink table fu i (out,(n,F)) y=(⟨out.len,s94 (w64 (i+(1:Int))) (y.getD 1 0) (s94 i (y.getD 0 0) out.get)⟩,(n,F)):=by unfold zey ks9;rw [hc];rfl
      rw [e9,ef,cond_true]
      cases p94 i out.len <;> cases p94 (w64 (i+(1:Int))) out.len <;> rfl
    | false =>
      have e9:ok9 zaa kink table fu i out.len y=(p94 i out.len && (p94 (w64 (i+(1:Int))) out.len && (g56 zaa i && zuA zaa kink table (y.getD 0 0) (y.getD 1 0) i fu ((zaa.get ((w64 (i+(2:Int))).toNat)).Low)))):=by unfold ok9;rw [hc,cond_false]
      have ef:zey zaa kink table fu i (out,(n,F)) y=(⟨out.len,s94 (w64 (i+(1:Int))) (y.getD 1 0) (s94 i (y.getD 0 0) out.get)⟩,insL (n,F) (zlH zaa kink table (y.getD 0 0) (y.getD 1 0) i fu ((zaa.get ((w64 (i+(2:Int))).toNat)).Low))):=by unfold zey ks9;rw [hc];rfl
      rw [e9,ef,cond_false]
      cases p94 i out.len <;> cases p94 (w64 (i+(1:Int))) out.len <;> cases g56 zaa i <;> cases zuA zaa kink table (y.getD 0 0) (y.getD 1 0) i fu ((zaa.get ((w64 (i+(2:Int))).toNat)).Low) <;> rfl
theorem zMe (S8:Nat→(List Int→Option (List Int))→Int→(Sl Span)→((Sl Span)×Int)) (nn:Nat) (nF:List Int→Option (List Int)) (i t:Int):∀ (ys:List (List Int)) (out:Sl Span) (n:Nat) (F:List Int→Option (List Int)),ys.all (ok9 zaa kink table Fuel i out.len)=true →
    zdX S8 zaa kink table nn nF ys i t out n F=zlD S8 zaa kink table nn nF i t (ys.foldl (zey zaa kink table Fuel i) (out,(n,F))).1 (ys.foldl (zey zaa kink table Fuel i) (out,(n,F))).2.1 (ys.foldl (zey zaa kink table Fuel i) (out,(n,F))).2.2
  | [],out,n,F,_=>rfl
  | y :: r,out,n,F,h=>by
    have ih:=zMe S8 nn nF i t r
    rw [List.all_cons,Bool.and_eq_true] at h
    rw [List.foldl_cons]
    have e:zdX S8 zaa kink table nn nF (y :: r) i t out n F=zlF S8 zaa kink table nn nF (y.getD 0 0) (y.getD 1 0) (zdX S8 zaa kink table nn nF r) i t out n F:=rfl
    rw [e]
    unfold zlF zj9 zj7 zoa
    generalize hfu:Fuel=fu at ih h ⊢
    obtain ⟨h1,h2⟩:=h
    cases hc:((w64 (i+(2:Int))) == (zaa.len:Int)) with
    | true =>
      have ef:zey zaa kink table fu i (out,(n,F)) y=(⟨out.len,s94 (w64 (i+(1:Int))) (y.getD 1 0) (s94 i (y.getD 0 0) out.get)⟩,(n,F)):=by unfold zey ks9;rw [hc];rfl
      rw [ef,cond_true]
      exact ih _ n F h2
    | false =>
      have e9:ok9 zaa kink table fu i out.len y=(p94 i out.len && (p94 (w64 (i+(1:Int))) out.len && (g56 zaa i && zuA zaa kink table (y.getD 0 0) (y.getD 1 0) i fu ((zaa.get ((w64 (i+(2:Int))).toNat)).Low)))):=by unfold ok9;rw [hc,cond_false]
      have ef:zey zaa kink table fu i (out,(n,F)) y=(⟨out.len,s94 (w64 (i+(1:Int))) (y.getD 1 0) (s94 i (y.getD 0 0) out.get)⟩,insL (n,F) (zlH zaa kink table (y.getD 0 0) (y.getD 1 0) i fu ((zaa.get ((w64 (i+(2:Int))).toNat)).Low))):=by unfold zey ks9;rw [hc];rfl
      rw [e9,Bool.and_eq_true,Bool.and_eq_true,Bool.and_eq_true] at h1
      rw [ef,cond_false,zLo _ _ _ _ _ _ _ _ _ _ _ _ _ _ _ _ h1.2.2.2]
      exact ih _ _ _ h2
theorem zQh (P8 : Nat → (List Int → Option (List Int)) → Int → (Sl Span) → Bool) (S8 : Nat → (List Int → Option (List Int)) → Int → (Sl Span) → ((Sl Span) × Int)) (nn : Nat) (nF : List Int → Option (List Int)) (ys zs : List (List Int)) (_hl : ∀ y ∈ ys, y.length = 2) (_h : zgl zaa kink table nn nF ys = true) (hp : ys.Perm zs) :
    zgl zaa kink table nn nF zs=true∧∀ (i t:Int) (out:Sl Span) (n:Nat) (F:List Int→Option (List Int)),zdY P8 zaa kink table nn nF ys i t out n F=true→zdY P8 zaa kink table nn nF zs i t out n F=true∧zdX S8 zaa kink table nn nF ys i t out n F=zdX S8 zaa kink table nn nF zs i t out n F:=by
  refine ⟨rfl,fun i t out n F hs=>?_⟩
  have e:∀ z,ys.foldl (zey zaa kink table Fuel i) z=zs.foldl (zey zaa kink table Fuel i) z:=fun z=>hp.foldl_eq' (fun x _ y _ z=>zHK zaa kink table Fuel i z x y) z
  rw [zMd,Bool.and_eq_true] at hs
  have h2:zs.all (ok9 zaa kink table Fuel i out.len)=true:=by
    rw [List.all_eq_true] at hs ⊢
    exact fun y hy=>hs.1 y (hp.mem_iff.2 hy)
  rw [zMd,zMe zaa kink table S8 nn nF i t ys out n F hs.1,zMe zaa kink table S8 nn nF i t zs out n F h2,← e]
  exact ⟨by rw [h2,Bool.true_and];exact hs.2,rfl⟩
end ord9
theorem zHL (P8 : Nat → (List Int → Option (List Int)) → Int → (Sl Span) → Bool) (S8 : Nat → (List Int → Option (List Int)) → Int → (Sl Span) → ((Sl Span) × Int)) (zaa : Sl Gate) (kink : Int) (table : Sl Mp) (nn : Nat) (nF : List Int → Option (List Int)) (ys zs : List (List Int)) (hl : ∀ y ∈ ys, y.length = 2) (h : zgl zaa kink table nn nF ys = true) (hp : ys.Perm zs) :
    zgl zaa kink table nn nF zs=true∧∀ (i t:Int) (out:Sl Span) (n:Nat) (F:List Int→Option (List Int)),zdY P8 zaa kink table nn nF ys i t out n F=true→zdY P8 zaa kink table nn nF zs i t out n F=true∧zdX S8 zaa kink table nn nF ys i t out n F=zdX S8 zaa kink table nn nF zs i t out n F :=
  zQh zaa kink table P8 S8 nn nF ys zs hl h hp
def zoc (S8:Nat→(List Int→Option (List Int))→Int→(Sl Span)→((Sl Span)×Int)) (zaa:(Sl Gate)) (kink:Int) (zab:(Sl Mp)) (zae:Nat) (zad:(List Int→Option (List Int))) (iv9:Int) (za6:Int) (zaW:(Sl Span)) (zar:Nat) (zas:(List Int→Option (List Int))):((Sl Span)×Int):=zdX S8 zaa kink zab zae zad ((zex (zaa.get iv9.toNat) (zaa.get (iv9.toNat+1))).filter (fun c=>(zad c).isSome)) iv9 za6 zaW zar zas
def zod (P8:Nat→(List Int→Option (List Int))→Int→(Sl Span)→Bool) (zaa:(Sl Gate)) (kink:Int) (zab:(Sl Mp)) (zae:Nat) (zad:(List Int→Option (List Int))) (iv9:Int) (za6:Int) (zaW:(Sl Span)) (zar:Nat) (zas:(List Int→Option (List Int))):Bool:=keysB 2 zae zad ((zex (zaa.get iv9.toNat) (zaa.get (iv9.toNat+1))).filter (fun c=>(zad c).isSome)) && zgl zaa kink zab zae zad ((zex (zaa.get iv9.toNat) (zaa.get (iv9.toNat+1))).filter (fun c=>(zad c).isSome)) && zdY P8 zaa kink zab zae zad ((zex (zaa.get iv9.toNat) (zaa.get (iv9.toNat+1))).filter (fun c=>(zad c).isSome)) iv9 za6 zaW zar zas
theorem zHM (K : List PA → Prop) (zaa : (Sl Gate)) (kink : Int) (zab : (Sl Mp)) (zae : Nat) (zad : (List Int → Option (List Int)))
  (X8:St→Prop) (P8:Nat→(List Int→Option (List Int))→Int→(Sl Span)→Bool) (S8:Nat→(List Int→Option (List Int))→Int→(Sl Span)→((Sl Span)×Int))
  (hX8:∀ (zae:Nat) (zad:(List Int→Option (List Int))) (za8:Int) (zbf:(Sl Span)) (zbd:Nat→List PV) (zeM:zbd=fun i=>zao (zbf.get i)),P8 zae zad za8 zbf=true→K (e56 (S8 zae zad za8 zbf))→X8 (zfG zaa kink zab zae zad za8 zbf.len zbd)) (iv9:Int) (za6:Int) (zaW:(Sl Span)) (zar:Nat) (zas:(List Int→Option (List Int))) (zbe:Nat→List PV) (zdW:zbe=fun i=>zao (zaW.get i)) (hs:zod P8 zaa kink zab zae zad iv9 za6 zaW zar zas=true) (hk:K (e56 (zoc S8 zaa kink zab zae zad iv9 za6 zaW zar zas))):zlC (Wk K) X8 zaa kink zab zae zad [] iv9 za6 zaW.len zbe zar zas:=by
  unfold zod at hs
  rw [Bool.and_eq_true,Bool.and_eq_true] at hs
  obtain ⟨⟨hkeys,hI⟩,hs⟩:=hs
  unfold zoc at hk
  generalize hys:(zex (zaa.get iv9.toNat) (zaa.get (iv9.toNat+1))).filter (fun c=>(zad c).isSome)=ys0 at hkeys hI hs hk
  refine zAA (Wk K) X8 zaa kink zab zae zad [] iv9 za6 zaW.len zbe zar zas ?_
  intro X9 hstep
  have key:∀ (N:Nat) (ys:List (List Int)) (zaj:List (List Int)) (iv9:Int) (za6:Int) (zaW:(Sl Span)) (zar:Nat) (zas:(List Int→Option (List Int))) (zbe:Nat→List PV) (zdW:zbe=fun i=>zao (zaW.get i)),ys.length=N→(zBf 2 zae zad→zEL 2 zad zaj ys)→zgl zaa kink zab zae zad ys=true→zdY P8 zaa kink zab zae zad ys iv9 za6 zaW zar zas=true→K (e56 (zdX S8 zaa kink zab zae zad ys iv9 za6 zaW zar zas))→X9 (zfH zaa kink zab zae zad zaj iv9 za6 zaW.len zbe zar zas):=by
    intro N
    induction N with
    | zero =>
      intro ys zaj iv9 za6 zaW zar zas zbe zdW hN hrem hI hs hk
      subst zdW
      obtain rfl:=List.eq_nil_of_length_eq_zero hN
      refine hstep zaj iv9 za6 zaW zar zas ?_
      intro hfin
      have hrem:=hrem hfin
      refine ⟨fun _=>?_,fun k68_0 k68_1 hF hns=>absurd (hrem.2.2 [k68_0,k68_1] rfl hF hns) (by simp)⟩
      have hs:zlE P8 zaa kink zab zae zad iv9 za6 zaW zar zas=true:=hs
      have hk:K (e56 (zlD S8 zaa kink zab zae zad iv9 za6 zaW zar zas)):=hk
      unfold zlE at hs
      unfold zlD at hk
      exact (hX8 zar zas (w64 (za6+(1:Int))) zaW (fun i=>zao (zaW.get i)) rfl hs hk)
    | succ N ih =>
      intro ys zaj iv9 za6 zaW zar zas zbe zdW hN hrem hI hs hk
      subst zdW
      refine hstep zaj iv9 za6 zaW zar zas ?_
      intro hfin
      have hrem:=hrem hfin
      refine ⟨fun hend=>?_,fun k68_0 k68_1 hF hns=>?_⟩
      · exact absurd (zrp hrem hend) (fun e=>by rw [e] at hN;simp at hN)
      · obtain ⟨hperm, hrem2, hlen⟩ := znl hrem (c := [k68_0, k68_1]) rfl hF hns
        obtain ⟨hI2,hcond⟩:=zHL P8 S8 zaa kink zab zae zad ys _ (fun y hy=>(hrem.2.1 y hy).1) hI hperm
        have hI3:=zHJ zaa kink zab zae zad _ _ hI2
        obtain ⟨e2,e1⟩:=hcond iv9 za6 zaW zar zas hs
        have hs:=e2
        rw [e1] at hk
        have hs:zlG P8 zaa kink zab zae zad k68_0 k68_1 (zdY P8 zaa kink zab zae zad (ys.erase [k68_0,k68_1])) iv9 za6 zaW zar zas=true:=hs
        have hk:K (e56 (zlF S8 zaa kink zab zae zad k68_0 k68_1 (zdX S8 zaa kink zab zae zad (ys.erase [k68_0,k68_1])) iv9 za6 zaW zar zas)):=hk
        have ih:=fun (iv9:Int) (za6:Int) (zaW:(Sl Span)) (zar:Nat) (zas:(List Int→Option (List Int))) (zbe:Nat→List PV) (zdW:zbe=fun i=>zao (zaW.get i))=>ih (ys.erase [k68_0,k68_1]) ([k68_0,k68_1] :: zaj) iv9 za6 zaW zar zas zbe zdW (by omega) (fun _=>hrem2) hI3
        unfold zlG at hs
        unfold zlF at hk
        generalize zdX S8 zaa kink zab zae zad (ys.erase [k68_0,k68_1])=S9 at hk ih
        generalize zdY P8 zaa kink zab zae zad (ys.erase [k68_0,k68_1])=P9 at hs ih
        have hX9:=ih
        exact (zaG hs fun hc hs=>⟨⟨isE,hc⟩,(zCG K zaa kink zab zae zad zaj k68_0 k68_1 X8 P8 S8 hX8 X9 P9 S9 hX9 iv9 za6 (⟨zaW.len,(s94 iv9 k68_0 zaW.get)⟩:Sl Span) zar zas (fun i=>zao ((s94 iv9 k68_0 zaW.get) i)) rfl hs hk)⟩)
  exact key _ ys0 [] iv9 za6 zaW zar zas zbe zdW rfl (fun hf=>zkZ hkeys hf) hI hs hk
def zhz (zaa:(Sl Gate)) (kink:Int) (zab:(Sl Mp)) (S8:Nat→(List Int→Option (List Int))→Int→(Sl Span)→((Sl Span)×Int)) (zae:Nat) (zad:(List Int→Option (List Int))) (za8:Int) (zbf:(Sl Span)):((Sl Span)×Int) :=
  (cond (decide (za8 < (w64 ((zaa.len : Int) - (1:Int)))))
 (zoc S8 zaa kink zab zae zad za8 za8 zbf 0 (fun _=>none))
 (zbf,(0:Int)))
def zhA (zaa:(Sl Gate)) (kink:Int) (zab:(Sl Mp)) (P8:Nat→(List Int→Option (List Int))→Int→(Sl Span)→Bool) (zae:Nat) (zad:(List Int→Option (List Int))) (za8:Int) (zbf:(Sl Span)):Bool :=
  (cond (decide (za8 < (w64 ((zaa.len : Int) - (1:Int)))))
 (zod P8 zaa kink zab zae zad za8 za8 zbf 0 (fun _=>none))
 true)
def zeN (zaa : (Sl Gate)) (kink : Int) (zab : (Sl Mp)) : Nat → Nat → (List Int → Option (List Int)) → Int → (Sl Span) → ((Sl Span) × Int)
  | 0=>fun _ _ _ _=>default
  | k+1=>zhz zaa kink zab (zeN zaa kink zab k)
def zeO (zaa : (Sl Gate)) (kink : Int) (zab : (Sl Mp)) : Nat → Nat → (List Int → Option (List Int)) → Int → (Sl Span) → Bool
  | 0=>fun _ _ _ _=>false
  | k+1=>zhA zaa kink zab (zeO zaa kink zab k)
def zsB (zaa:(Sl Gate)) (kink:Int) (zab:(Sl Mp)) (zae:Nat) (zad:(List Int→Option (List Int))) (za8:Int) (zbf:(Sl Span)):((Sl Span)×Int):=zeN zaa kink zab Fuel zae zad za8 zbf
def zsC (zaa:(Sl Gate)) (kink:Int) (zab:(Sl Mp)) (zae:Nat) (zad:(List Int→Option (List Int))) (za8:Int) (zbf:(Sl Span)):Bool:=zeO zaa kink zab Fuel zae zad za8 zbf
theorem zHN (K:List PA→Prop) (zaa:(Sl Gate)) (kink:Int) (zab:(Sl Mp)) (zae:Nat) (zad:(List Int→Option (List Int))) (za8:Int) (zbf:(Sl Span)) (zbd:Nat→List PV) (zeM:zbd=fun i=>zao (zbf.get i)) (hs:zsC zaa kink zab zae zad za8 zbf=true) (hk:K (e56 (zsB zaa kink zab zae zad za8 zbf))):zlB (Wk K) zaa kink zab zae zad za8 zbf.len zbd:=by
  refine zAz (Wk K) zaa kink zab zae zad za8 zbf.len zbd ?_
  intro X8 hstep
  have key:∀ (k:Nat) (zae:Nat) (zad:(List Int→Option (List Int))) (za8:Int) (zbf:(Sl Span)) (zbd:Nat→List PV) (zeM:zbd=fun i=>zao (zbf.get i)),zeO zaa kink zab k zae zad za8 zbf=true→K (e56 (zeN zaa kink zab k zae zad za8 zbf))→X8 (zfG zaa kink zab zae zad za8 zbf.len zbd):=by
    intro k
    induction k with
    | zero=>intro zae zad za8 zbf zbd zeM hs;exact absurd hs Bool.false_ne_true
    | succ k ih =>
      intro zae zad za8 zbf zbd zeM hs hk
      subst zeM
      refine hstep zae zad za8 zbf ?_
      have hs:zhA zaa kink zab (zeO zaa kink zab k) zae zad za8 zbf=true:=hs
      have hk:K (e56 (zhz zaa kink zab (zeN zaa kink zab k) zae zad za8 zbf)):=hk
      unfold zhA at hs
      unfold zhz at hk
      generalize zeN zaa kink zab k=S8 at hk ih
      generalize zeO zaa kink zab k=P8 at hs ih
      have hX8:=ih
      exact (zbq (K := fun r => K (e56 r))
 (fun hs hk=>(zHM K zaa kink zab zae zad X8 P8 S8 hX8 za8 za8 zbf 0 (fun _=>none) (fun i=>zao (zbf.get i)) rfl hs hk))
 (fun hs hk=>(zd0 hk)) hs hk)
  exact key _ zae zad za8 zbf zbd zeM hs hk
def zoe (zaa:(Sl Gate)) (kink:Int) (zab:(Sl Mp)) (zgP:(Sl Span)) (zc7:Nat) (zc8:(List Int→Option (List Int))):((Sl Span)×Int) :=
  (zsB zaa kink zab zc7 zc8 (0:Int) zgP)
def zof (zaa:(Sl Gate)) (kink:Int) (zab:(Sl Mp)) (zgP:(Sl Span)) (zc7:Nat) (zc8:(List Int→Option (List Int))):Bool :=
  (zsC zaa kink zab zc7 zc8 (0:Int) zgP)
theorem zHO (K:List PA→Prop) (zaa:(Sl Gate)) (kink:Int) (zab:(Sl Mp)) (zgP:(Sl Span)) (zc7:Nat) (zc8:(List Int→Option (List Int))) (zji:Nat→List PV) (zHP:zji=fun i=>zao (zgP.get i)) (hs:zof zaa kink zab zgP zc7 zc8=true) (hk:K (e56 (zoe zaa kink zab zgP zc7 zc8))):zn6 (Wk K) zaa kink zab zgP.len zji zc7 zc8:=by
  subst zHP
  refine zaI (zHI (Wk K) zaa kink zab zgP zc7 zc8) ?_
  unfold zof at hs
  unfold zoe at hk
  exact (zHN K zaa kink zab zc7 zc8 (0:Int) zgP (fun i=>zao (zgP.get i)) rfl hs hk)
def zog (zaa:(Sl Gate)) (kink:Int) (zab:(Sl Mp)) (zgO:(Sl Span)) (zcD:Nat) (zc6:(List Int→Option (List Int))):((Sl Span)×Int) :=
  (cond ((zcD : Int) == (0:Int))
 ((⟨0,fun _=>default⟩:(Sl Span)),(5:Int))
 (zoe zaa kink zab zgO zcD zc6))
def zoh (zaa:(Sl Gate)) (kink:Int) (zab:(Sl Mp)) (zgO:(Sl Span)) (zcD:Nat) (zc6:(List Int→Option (List Int))):Bool :=
  (cond ((zcD : Int) == (0:Int))
 true
 (zof zaa kink zab zgO zcD zc6))
theorem zHQ (K:List PA→Prop) (zaa:(Sl Gate)) (kink:Int) (zab:(Sl Mp)) (zgO:(Sl Span)) (zcD:Nat) (zc6:(List Int→Option (List Int))) (zjh:Nat→List PV) (zHR:zjh=fun i=>zao (zgO.get i)) (hs:zoh zaa kink zab zgO zcD zc6=true) (hk:K (e56 (zog zaa kink zab zgO zcD zc6))):zn5 (Wk K) zaa kink zab zgO.len zjh zcD zc6:=by
  subst zHR
  refine zaI (zHH (Wk K) zaa kink zab zgO zcD zc6) ?_
  unfold zoh at hs
  unfold zog at hk
  exact (zbq (K := fun r => K (e56 r))
 (fun hs hk=>(wk hk (zdy (.one (.nil _ _)) (zdy (.one (.rfl _)) zh1))))
 (fun hs hk=>(zHO K zaa kink zab zgO zcD zc6 (fun i=>zao (zgO.get i)) rfl hs hk)) hs hk)
def zlI (zaa:(Sl Gate)) (kink:Int) (zab:(Sl Mp)) (za2:(Sl Span)) (zaF:Nat) (zaD:(List Int→Option (List Int))):((Sl Span)×Int) :=
  (zog zaa kink zab za2 zaF zaD)
def zlJ (zaa:(Sl Gate)) (kink:Int) (zab:(Sl Mp)) (za2:(Sl Span)) (zaF:Nat) (zaD:(List Int→Option (List Int))):Bool :=
  (zoh zaa kink zab za2 zaF zaD)
def zlK (zaa:(Sl Gate)) (kink:Int) (zab:(Sl Mp)) (za2:(Sl Span)) (k46_0:Int) (k46_1:Int) (S5:Nat→(List Int→Option (List Int))→((Sl Span)×Int)) (zaF:Nat) (zaD:(List Int→Option (List Int))):((Sl Span)×Int) :=
  (cond (decide ((zdj (((zab.get 0).F) [k46_0, k46_1]) 0) ≤ kink))
 (S5 (addN (zaD [k46_0,k46_1]) zaF) (ze4 [k46_0,k46_1] [1] zaD))
 (S5 zaF zaD))
def zlL (zaa:(Sl Gate)) (kink:Int) (zab:(Sl Mp)) (za2:(Sl Span)) (k46_0:Int) (k46_1:Int) (P5:Nat→(List Int→Option (List Int))→Bool) (zaF:Nat) (zaD:(List Int→Option (List Int))):Bool :=
  (cond (decide ((zdj (((zab.get 0).F) [k46_0, k46_1]) 0) ≤ kink))
 (P5 (addN (zaD [k46_0,k46_1]) zaF) (ze4 [k46_0,k46_1] [1] zaD))
 (P5 zaF zaD))
def zfw (zaa : (Sl Gate)) (kink : Int) (zab : (Sl Mp)) (za2 : (Sl Span)) : List (List Int) → Nat → (List Int → Option (List Int)) → ((Sl Span) × Int)
  | []=>zlI zaa kink zab za2
  | y :: r=>zlK zaa kink zab za2 (y.getD 0 0) (y.getD 1 0) (zfw zaa kink zab za2 r)
def zfx (zaa : (Sl Gate)) (kink : Int) (zab : (Sl Mp)) (za2 : (Sl Span)) : List (List Int) → Nat → (List Int → Option (List Int)) → Bool
  | []=>zlJ zaa kink zab za2
  | y :: r=>zlL zaa kink zab za2 (y.getD 0 0) (y.getD 1 0) (zfx zaa kink zab za2 r)
def zhB (_gates:Sl Gate) (_kink:Int) (_table:Sl Mp) (_out:Sl Span) (_ys:List (List Int)):Bool:=true
theorem zHS (zaa:Sl Gate) (kink:Int) (table:Sl Mp) (out:Sl Span):∀ (y:List Int) (r:List (List Int)),zhB zaa kink table out (y :: r)=true→zhB zaa kink table out r=true:=fun _ _ _=>rfl
def zfL (kink:Int) (table:Sl Mp) (s:MpS) (y:List Int):MpS:=cond (decide (zdj ((table.get 0).F [y.getD 0 0,y.getD 1 0]) 0≤kink)) (zDQ s [y.getD 0 0,y.getD 1 0]) s
theorem zHT (kink:Int) (table:Sl Mp) (s:MpS) (x y:List Int):zfL kink table (zfL kink table s x) y=zfL kink table (zfL kink table s y) x:=by
  unfold zfL
  cases decide (zdj ((table.get 0).F [x.getD 0 0,x.getD 1 0]) 0≤kink) <;> cases decide (zdj ((table.get 0).F [y.getD 0 0,y.getD 1 0]) 0≤kink) <;> simp only [cond_true,cond_false,zqd]
theorem zoi (zaa : Sl Gate) (kink : Int) (table : Sl Mp) (out : Sl Span) : ∀ (ys : List (List Int)) (n : Nat) (F : List Int → Option (List Int)), zfw zaa kink table out ys n F = zlI zaa kink table out (ys.foldl (zfL kink table) (n, F)).1 (ys.foldl (zfL kink table) (n, F)).2
  | [],n,F=>rfl
  | y :: r,n,F=>by
    have ih:=zoi zaa kink table out r
    show zlK zaa kink table out (y.getD 0 0) (y.getD 1 0) (zfw zaa kink table out r) n F=_
    rw [List.foldl_cons]
    unfold zlK zfL
    cases decide (zdj ((table.get 0).F [y.getD 0 0,y.getD 1 0]) 0≤kink)
    · rw [cond_false,cond_false];exact ih n F
    · rw [cond_true,cond_true];exact ih _ _
theorem zoj (zaa : Sl Gate) (kink : Int) (table : Sl Mp) (out : Sl Span) : ∀ (ys : List (List Int)) (n : Nat) (F : List Int → Option (List Int)), zfx zaa kink table out ys n F = zlJ zaa kink table out (ys.foldl (zfL kink table) (n, F)).1 (ys.foldl (zfL kink table) (n, F)).2
  | [],n,F=>rfl
  | y :: r,n,F=>by
    have ih:=zoj zaa kink table out r
    show zlL zaa kink table out (y.getD 0 0) (y.getD 1 0) (zfx zaa kink table out r) n F=_
    rw [List.foldl_cons]
    unfold zlL zfL
    cases decide (zdj ((table.get 0).F [y.getD 0 0,y.getD 1 0]) 0≤kink)
    · rw [cond_false,cond_false];exact ih n F
    · rw [cond_true,cond_true];exact ih _ _
theorem zHU (zaa : Sl Gate) (kink : Int) (table : Sl Mp) (out : Sl Span) (ys zs : List (List Int)) (_hl : ∀ y ∈ ys, y.length = 2) (_h : zhB zaa kink table out ys = true) (hp : ys.Perm zs) :
    zhB zaa kink table out zs=true∧zfw zaa kink table out ys=zfw zaa kink table out zs∧zfx zaa kink table out ys=zfx zaa kink table out zs:=by
  have e:∀ s:MpS,ys.foldl (zfL kink table) s=zs.foldl (zfL kink table) s:=fun s=>hp.foldl_eq' (fun x _ y _ z=>zHT kink table z x y) s
  refine ⟨rfl,funext fun n=>funext fun F=>?_,funext fun n=>funext fun F=>?_⟩
  · rw [zoi,zoi,e]
  · rw [zoj,zoj,e]
def zok (zaa:(Sl Gate)) (kink:Int) (zab:(Sl Mp)) (za2:(Sl Span)) (zaF:Nat) (zaD:(List Int→Option (List Int))):((Sl Span)×Int):=zfw zaa kink zab za2 (zex (zaa.get 0) (zaa.get 1)) zaF zaD
def zol (zaa:(Sl Gate)) (kink:Int) (zab:(Sl Mp)) (za2:(Sl Span)) (zaF:Nat) (zaD:(List Int→Option (List Int))):Bool:=keysB 2 ((zab.get 0).n) ((zab.get 0).F) (zex (zaa.get 0) (zaa.get 1)) && zhB zaa kink zab za2 (zex (zaa.get 0) (zaa.get 1)) && zfx zaa kink zab za2 (zex (zaa.get 0) (zaa.get 1)) zaF zaD
theorem zHV (K:List PA→Prop) (zaa:(Sl Gate)) (kink:Int) (zab:(Sl Mp)) (za2:(Sl Span)) (zaF:Nat) (zaD:(List Int→Option (List Int))) (hs:zol zaa kink zab za2 zaF zaD=true) (hk:K (e56 (zok zaa kink zab za2 zaF zaD))):zlA (Wk K) zaa kink zab za2 [] zaF zaD:=by
  unfold zol at hs
  rw [Bool.and_eq_true,Bool.and_eq_true] at hs
  obtain ⟨⟨hkeys,hI⟩,hs⟩:=hs
  unfold zok at hk
  generalize hys:zex (zaa.get 0) (zaa.get 1)=ys0 at hkeys hI hs hk
  refine zAy (Wk K) zaa kink zab za2 [] zaF zaD ?_
  intro X5 hstep
  have key:∀ (N:Nat) (ys:List (List Int)) (za3:List (List Int)) (zaF:Nat) (zaD:(List Int→Option (List Int))),ys.length=N→(zBf 2 ((zab.get 0).n) ((zab.get 0).F)→zEL 2 ((zab.get 0).F) za3 ys)→zhB zaa kink zab za2 ys=true→zfx zaa kink zab za2 ys zaF zaD=true→K (e56 (zfw zaa kink zab za2 ys zaF zaD))→X5 (zjG zaa kink zab za2 za3 zaF zaD):=by
    intro N
    induction N with
    | zero =>
      intro ys za3 zaF zaD hN hrem hI hs hk
      obtain rfl:=List.eq_nil_of_length_eq_zero hN
      refine hstep za3 zaF zaD ?_
      intro hfin
      have hrem:=hrem hfin
      refine ⟨fun _=>?_,fun k46_0 k46_1 hF hns=>absurd (hrem.2.2 [k46_0,k46_1] rfl hF hns) (by simp)⟩
      have hs:zlJ zaa kink zab za2 zaF zaD=true:=hs
      have hk:K (e56 (zlI zaa kink zab za2 zaF zaD)):=hk
      unfold zlJ at hs
      unfold zlI at hk
      exact (zHQ K zaa kink zab za2 zaF zaD (fun i=>zao (za2.get i)) rfl hs hk)
    | succ N ih =>
      intro ys za3 zaF zaD hN hrem hI hs hk
      refine hstep za3 zaF zaD ?_
      intro hfin
      have hrem:=hrem hfin
      refine ⟨fun hend=>?_,fun k46_0 k46_1 hF hns=>?_⟩
      · exact absurd (zrp hrem hend) (fun e=>by rw [e] at hN;simp at hN)
      · obtain ⟨hperm, hrem2, hlen⟩ := znl hrem (c := [k46_0, k46_1]) rfl hF hns
        obtain ⟨hI2,e1,e2⟩:=zHU zaa kink zab za2 ys _ (fun y hy=>(hrem.2.1 y hy).1) hI hperm
        have hI3:=zHS zaa kink zab za2 _ _ hI2
        rw [e2] at hs
        rw [e1] at hk
        have hs:zlL zaa kink zab za2 k46_0 k46_1 (zfx zaa kink zab za2 (ys.erase [k46_0,k46_1])) zaF zaD=true:=hs
        have hk:K (e56 (zlK zaa kink zab za2 k46_0 k46_1 (zfw zaa kink zab za2 (ys.erase [k46_0,k46_1])) zaF zaD)):=hk
        have ih:=fun (zaF:Nat) (zaD:(List Int→Option (List Int)))=>ih (ys.erase [k46_0,k46_1]) ([k46_0,k46_1] :: za3) zaF zaD (by omega) (fun _=>hrem2) hI3
        unfold zlL at hs
        unfold zlK at hk
        generalize zfw zaa kink zab za2 (ys.erase [k46_0,k46_1])=S5 at hk ih
        generalize zfx zaa kink zab za2 (ys.erase [k46_0,k46_1])=P5 at hs ih
        have hX5:=ih
        exact (zbq (K := fun r => K (e56 r))
 (fun hs hk=>(hX5 (addN (zaD [k46_0,k46_1]) zaF) (ze4 [k46_0,k46_1] [1] zaD) hs hk))
 (fun hs hk=>(hX5 zaF zaD hs hk)) hs hk)
  exact key _ ys0 [] zaF zaD rfl (fun hf=>zkZ hkeys hf) hI hs hk
def zhC (zaa:(Sl Gate)) (kink:Int) (zab:(Sl Mp)) (za2:(Sl Span)):((Sl Span)×Int) :=
  (zok zaa kink zab za2 0 (fun _=>none))
def zjj (zaa:(Sl Gate)) (kink:Int) (zab:(Sl Mp)) (za2:(Sl Span)):Bool :=
  (decide ((0≤(0:Int)∧(0:Int) < (zab.len:Int))) &&
 (zol zaa kink zab za2 0 (fun _=>none)))
theorem zHW (K:List PA→Prop) (zaa:(Sl Gate)) (kink:Int) (zab:(Sl Mp)) (za2:(Sl Span)) (zjg:Nat→List PV) (zHX:zjg=fun i=>zao (za2.get i)) (hs:zjj zaa kink zab za2=true) (hk:K (e56 (zhC zaa kink zab za2))):zn4 (Wk K) zaa kink zab za2.len zjg:=by
  subst zHX
  refine zaI (zHG (Wk K) zaa kink zab za2) ?_
  unfold zjj at hs
  unfold zhC at hk
  exact (zaG hs fun hc hs=>⟨hc,(zHV K zaa kink zab za2 0 (fun _=>none) hs hk)⟩)
def zhD (zaa:(Sl Gate)) (kink:Int) (zab:(Sl Mp)) (S3:Int→(Sl Span)→((Sl Span)×Int)) (zbC:Int) (zbO:(Sl Span)):((Sl Span)×Int) :=
  (cond (decide (zbC < ((zaa.len : Int).toNat : Int)))
 (S3 (w64 (zbC+(1:Int))) (⟨zbO.len,(setT zbC.toNat (⟨(1000001:Int),(-1000001:Int)⟩:Span) zbO.get)⟩:Sl Span))
 (zhC zaa kink zab zbO))
def zhE (zaa:(Sl Gate)) (kink:Int) (zab:(Sl Mp)) (P3:Int→(Sl Span)→Bool) (zbC:Int) (zbO:(Sl Span)):Bool :=
  (cond (decide (zbC < ((zaa.len : Int).toNat : Int)))
 (decide ((0≤zbC∧zbC < (zbO.len:Int))) &&
 (decide ((zbC.toNat < zbO.len)) &&
 (P3 (w64 (zbC+(1:Int))) (⟨zbO.len,(setT zbC.toNat (⟨(1000001:Int),(-1000001:Int)⟩:Span) zbO.get)⟩:Sl Span))))
 (zjj zaa kink zab zbO))
def zfy (zaa : (Sl Gate)) (kink : Int) (zab : (Sl Mp)) : Nat → Int → (Sl Span) → ((Sl Span) × Int)
  | 0=>fun _ _=>default
  | k+1=>zhD zaa kink zab (zfy zaa kink zab k)
def zfz (zaa : (Sl Gate)) (kink : Int) (zab : (Sl Mp)) : Nat → Int → (Sl Span) → Bool
  | 0=>fun _ _=>false
  | k+1=>zhE zaa kink zab (zfz zaa kink zab k)
def zsD (zaa:(Sl Gate)) (kink:Int) (zab:(Sl Mp)) (zbC:Int) (zbO:(Sl Span)):((Sl Span)×Int):=zfy zaa kink zab Fuel zbC zbO
def zsE (zaa:(Sl Gate)) (kink:Int) (zab:(Sl Mp)) (zbC:Int) (zbO:(Sl Span)):Bool:=zfz zaa kink zab Fuel zbC zbO
theorem zHY (K:List PA→Prop) (zaa:(Sl Gate)) (kink:Int) (zab:(Sl Mp)) (zbC:Int) (zbO:(Sl Span)) (zcO:Nat→List PV) (zlM:zcO=fun i=>zao (zbO.get i)) (hs:zsE zaa kink zab zbC zbO=true) (hk:K (e56 (zsD zaa kink zab zbC zbO))):zlz (Wk K) zaa kink zab zbC zbO.len zcO:=by
  refine zAx (Wk K) zaa kink zab zbC zbO.len zcO ?_
  intro X3 hstep
  have key:∀ (k:Nat) (zbC:Int) (zbO:(Sl Span)) (zcO:Nat→List PV) (zlM:zcO=fun i=>zao (zbO.get i)),zfz zaa kink zab k zbC zbO=true→K (e56 (zfy zaa kink zab k zbC zbO))→X3 (zly zaa kink zab zbC zbO.len zcO):=by
    intro k
    induction k with
    | zero=>intro zbC zbO zcO zlM hs;exact absurd hs Bool.false_ne_true
    | succ k ih =>
      intro zbC zbO zcO zlM hs hk
      subst zlM
      refine hstep zbC zbO ?_
      have hs:zhE zaa kink zab (zfz zaa kink zab k) zbC zbO=true:=hs
      have hk:K (e56 (zhD zaa kink zab (zfy zaa kink zab k) zbC zbO)):=hk
      unfold zhE at hs
      unfold zhD at hk
      generalize zfy zaa kink zab k=S3 at hk ih
      generalize zfz zaa kink zab k=P3 at hs ih
      have hX3:=ih
      exact (zbq (K := fun r => K (e56 r))
 (fun hs hk=>(zaG hs fun hc hs=>⟨hc,(zaG hs fun hc hs=>⟨hc,(hX3 (w64 (zbC+(1:Int))) (⟨zbO.len,(setT zbC.toNat (⟨(1000001:Int),(-1000001:Int)⟩:Span) zbO.get)⟩:Sl Span) (zoL zbC.toNat 0 (fun i=>zao (zbO.get i)) (zao (⟨(1000001:Int),(-1000001:Int)⟩:Span))) (zJk rfl rfl) hs hk)⟩)⟩))
 (fun hs hk=>(zHW K zaa kink zab zbO (fun i=>zao (zbO.get i)) rfl hs hk)) hs hk)
  exact key _ zbC zbO zcO zlM hs hk
def zom (zaa:(Sl Gate)) (kink:Int) (zab:(Sl Mp)):((Sl Span)×Int) :=
  (zsD zaa kink zab (0:Int) (⟨(zaa.len:Int).toNat,(fun _=>(⟨(0:Int),(0:Int)⟩:Span))⟩:Sl Span))
def zon (zaa:(Sl Gate)) (kink:Int) (zab:(Sl Mp)):Bool :=
  (decide ((0≤(zaa.len:Int)∧(zaa.len:Int)=(zaa.len:Int)∧(zaa.len:Int)≤1000000)) &&
 (zsE zaa kink zab (0:Int) (⟨(zaa.len:Int).toNat,(fun _=>(⟨(0:Int),(0:Int)⟩:Span))⟩:Sl Span)))
theorem zHZ (K:List PA→Prop) (zaa:(Sl Gate)) (kink:Int) (zab:(Sl Mp)) (zcp:Nat→List PV) (zld:zcp=fun i=>zbr (zab.get i)) (hs:zon zaa kink zab=true) (hk:K (e56 (zom zaa kink zab))):zn3 (Wk K) zaa kink zab.len zcp:=by
  subst zld
  refine zaI (zHF (Wk K) zaa kink zab) ?_
  unfold zon at hs
  unfold zom at hk
  exact (zaG hs fun hc hs=>⟨hc,(zHY K zaa kink zab (0:Int) (⟨(zaa.len:Int).toNat,(fun _=>(⟨(0:Int),(0:Int)⟩:Span))⟩:Sl Span) (fun _=>(zao (⟨(0:Int),(0:Int)⟩:Span))) rfl hs hk)⟩)
def zoo (zaa:(Sl Gate)) (kink:Int):((Sl Span)×Int) :=
  (zom zaa kink (s93 zaa))
def zop (zaa:(Sl Gate)) (kink:Int):Bool :=
  (decide ((p93 zaa=true)) &&
 (zon zaa kink (s93 zaa)))
theorem zH0 (K:List PA→Prop) (zaa:(Sl Gate)) (kink:Int) (hs:zop zaa kink=true) (hk:K (e56 (zoo zaa kink))):zn2 (Wk K) zaa kink:=by
  refine zaI (zHE (Wk K) zaa kink) ?_
  unfold zop at hs
  unfold zoo at hk
  exact (zaG hs fun hc hs=>⟨⟨isE,hc⟩,(zHZ K zaa kink (s93 zaa) (fun i=>zbr ((s93 zaa).get i)) rfl hs hk)⟩)
def zlN (zaa:(Sl Gate)) (kink:Int) (zhy:Bool):((Sl Span)×Int) :=
  (cond zhy
 ((⟨0,fun _=>default⟩:(Sl Span)),(2:Int))
 (zoo zaa kink))
def zlO (zaa:(Sl Gate)) (kink:Int) (zhy:Bool):Bool :=
  (cond zhy
 true
 (zop zaa kink))
theorem zAB (K:List PA→Prop) (zaa:(Sl Gate)) (kink:Int) (zhy:Bool) (hs:zlO zaa kink zhy=true) (hk:K (e56 (zlN zaa kink zhy))):zlx (Wk K) zaa kink zhy:=by
  refine zaI (zHD (Wk K) zaa kink zhy) ?_
  unfold zlO at hs
  unfold zlN at hk
  exact (zbq (K := fun r => K (e56 r))
 (fun hs hk=>(wk hk (zdy (.one (.nil _ _)) (zdy (.one (.rfl _)) zh1))))
 (fun hs hk=>(zH0 K zaa kink hs hk)) hs hk)
def s56 (zaa:(Sl Gate)) (kink:Int):((Sl Span)×Int) :=
  (cond (!(s92 zaa))
 (zlN zaa kink true)
 (zlN zaa kink (!(s74 kink (0:Int) (1000000:Int)))))
def p56 (zaa:(Sl Gate)) (kink:Int):Bool :=
  (decide ((p92 zaa=true)) &&
 (cond (!(s92 zaa))
 (zlO zaa kink true)
 (zlO zaa kink (!(s74 kink (0:Int) (1000000:Int))))))
theorem q56 (zaa:(Sl Gate)) (kink:Int) (K:List PA→Prop) (hs:p56 zaa kink=true) (hk:K (e56 (s56 zaa kink))):vcFun Try.prog G56 zaK 56 [.one (.sl zaa.len 3 (fun i=>zac (zaa.get i))),.one (.int .i64 kink)] (Wk K):=by
  refine zaI (zHC zaa kink (Wk K)) ?_
  unfold p56 at hs
  unfold s56 at hk
  exact (zaG hs fun hc hs => ⟨⟨isE, hc⟩, (zbq (K := fun r => K (e56 r))
 (fun hs hk=>(zAB K zaa kink true hs hk))
 (fun hs hk=>(zAB K zaa kink (!(s74 kink (0:Int) (1000000:Int))) hs hk)) hs hk)⟩)
def zH1 : List PA → COut
  | [.one (.sl a0_n a0_s a0_g),.one (.int .i64 a1)]=>.det (IsE zac 3 a0_s a0_g∧p56 (⟨a0_n,zah a0_g⟩:(Sl Gate)) a1=true) [.one (.sl (((s56 (⟨a0_n,zah a0_g⟩:(Sl Gate)) a1).1).len) 2 (fun i=>zao (((s56 (⟨a0_n,zah a0_g⟩:(Sl Gate)) a1).1).get i))),.one (.int .i64 ((s56 (⟨a0_n,zah a0_g⟩:(Sl Gate)) a1).2))]
  | _=>.no
theorem zLp:zal Try.prog 56:=⟨_,rfl,rfl,by kernel_rfl⟩
theorem zQi:Ok Try.prog 56 zH1:=zfW zNT zLp fun args K h=>by
  unfold zH1 at h
  split at h
  · rename_i a0_n a0_s a0_g a1
    obtain ⟨⟨⟨rfl,a0_f,rfl⟩,hs⟩,hk⟩:=h
    try rw [zaf a0_f] at hs
    try rw [zaf a0_f] at hk
    exact ⟨_,zeY zfF _,(fun _ _=>[]),(fun l=>Nat.beq l 42 || Nat.beq l 66),zaK,q56 (⟨a0_n,a0_f⟩:(Sl Gate)) a1 K hs hk⟩
  · exact h.elim
abbrev T49:Tabs:=(Tabs.nil.addF 70 zCv)
theorem zNU:TabsOk Try.prog T49:=(TabsOk.nil.addF zOJ)
abbrev G49:Ctrs:=csm T49 (fun _ _=>[]) (fun _=>false)
def zLq:Ann:=⟨18,[(0,zK [1] [1]),(1,zK [2] [])],
 [],
 [],
 [],[]⟩
abbrev R49:=Bool
abbrev e49 (r:R49):List PA:=[.one (.bool r)]
section
variable {K:List PA→Prop} {g:Gate}
def s49 (g:Gate):Bool :=
  (cond (s70 g.Z (0:Int) (100000:Int))
 (cond (s70 g.Low (-1000000:Int) g.High)
 (decide (g.High≤(1000000:Int)))
 false)
 false)
end
theorem q49 (g:Gate) (K:List PA→Prop) (hk:K (e49 (s49 g))):vcFun Try.prog G49 zLq 49 [.agg (zac g)] K :=
  zaI (by kernel_rfl) (zt hk (fun hk=>(zt hk (fun hk=>hk) (fun hk=>hk))) (fun hk=>hk))
def zH2 : List PA → COut
  | [.agg [.int .i64 a0_Z,.int .i64 a0_Low,.int .i64 a0_High]]=>.tot [.one (.bool (s49 (⟨a0_Z,a0_Low,a0_High⟩:Gate)))]
  | _=>.no
theorem zLr:zal Try.prog 49:=⟨_,rfl,rfl,by kernel_rfl⟩
theorem zQj:Ok Try.prog 49 zH2:=zaY zNU zLr fun args K h=>by
  unfold zH2 at h
  split at h
  · rename_i a0_Z a0_Low a0_High
    have hk:=h
    exact ⟨(fun _ _=>[]),(fun _=>false),zLq,q49 (⟨a0_Z,a0_Low,a0_High⟩:Gate) K hk⟩
  · exact h.elim
abbrev T57:Tabs:=((Tabs.nil.addF 45 zCx).addF 49 zH2)
theorem zNV:TabsOk Try.prog T57:=((TabsOk.nil.addF zOK).addF zQj)
abbrev G57:Ctrs:=csm T57 (fun _ _=>[]) (fun _=>false)
def zH3:Ann:=⟨41,[(0,zK [0] []),(1,zK [0,3] []),(2,zK [0,3,4] []),(3,zK [0,3,4,8] [18]),(4,zK [0,3,4] [18]),(5,zK [0,3,4] [18]),(6,zK [0,3,4,38] [18]),(7,zK [2] []),(8,zK [2] [])],
 [(3,⟨[0,3,4],[18],[(3,18,3,fun _=>enc_3 default)],[],[],[],[]⟩)],
 [(7,zK [0,3,4,38] [18])],
 [],[]⟩
abbrev R57:=Bool
abbrev e57 (r:R57):List PA:=[.one (.bool r)]
@[irreducible] def z57:=ptF Try.prog G57 zH3 Try.f57
def zDR (zaa:(Sl Gate)) (iv0:Int) (zcK:(Sl Int)) (zfA:Nat→List PV):St:=⟨[(0,zS zac 3 zaa),(3,zv 18),(4,zI iv0)],[(18,.vec 3 1 8 zcK.len zfA)],[]⟩
abbrev zH4 (K:List PA→Prop) (zaa:(Sl Gate)) (X:St→Prop) (P:Int→(Sl Int)→Bool) (S:Int→(Sl Int)→Bool):Prop:=∀ ⦃iv0:Int⦄ ⦃zcK:(Sl Int)⦄ ⦃zfA:Nat→List PV⦄,P iv0 zcK=true→K (e57 (S iv0 zcK))→zfA=zg enc_3 zcK→X (zDR zaa iv0 zcK zfA)
section
variable {K:List PA→Prop} {zaa:(Sl Gate)} {iv0:Int} {zcK:(Sl Int)} {zfA:Nat→List PV} {X0:St→Prop} {P0:Int→(Sl Int)→Bool} {S0:Int→(Sl Int)→Bool} {iv1:Int} {zsF:Bool} {zqj:(Sl Int)} {zAC:Nat→List PV}
def zoq (S0:Int→(Sl Int)→Bool) (zaa:(Sl Gate)) (iv1:Int) (zsF:Bool) (zqj:(Sl Int)):Bool :=
  (cond zsF
 false
 (S0 (w64 (iv1+(1:Int))) zqj))
def zor (P0:Int→(Sl Int)→Bool) (zaa:(Sl Gate)) (iv1:Int) (zsF:Bool) (zqj:(Sl Int)):Bool :=
  (cond zsF
 true
 (P0 (w64 (iv1+(1:Int))) zqj))
theorem zAD (hX0:zH4 K zaa X0 P0 S0) (hs:zor P0 zaa iv1 zsF zqj=true) (hk:K (e57 (zoq S0 zaa iv1 zsF zqj))) (zH5:zAC=zg enc_3 zqj):z57 K [1,1,0,1,0,0,1,0,0,1,1] [X0] ⟨[(0,zS zac 3 zaa),(3,zv 18),(4,zI iv1),(38,zB zsF)],[(18,.vec 3 1 8 zqj.len zAC)],[]⟩:=by subst zH5;exact zaI (by kernel_rfl) (zc hs hk (fun hs hk=>hk) (fun hs hk=>(hX0 hs hk rfl)))
def zjk (zaa:(Sl Gate)) (S0:Int→(Sl Int)→Bool) (iv0:Int) (zcK:(Sl Int)):Bool :=
  (cond (decide (iv0 < (zaa.len : Int)))
 (cond (!(s49 (zaa.get iv0.toNat)))
 (zoq S0 zaa iv0 true (⟨(zcK.len+1),(zeb zcK.len zcK.get (fun _=>(zaa.get iv0.toNat).Z))⟩:Sl Int))
 (zoq S0 zaa iv0 (decide ((w64 ((zaa.get iv0.toNat).High - (zaa.get iv0.toNat).Low)) > (60:Int))) (⟨(zcK.len+1),(zeb zcK.len zcK.get (fun _=>(zaa.get iv0.toNat).Z))⟩:Sl Int)))
 (s45 zcK))
def zjl (zaa:(Sl Gate)) (P0:Int→(Sl Int)→Bool) (iv0:Int) (zcK:(Sl Int)):Bool :=
  (cond (decide (iv0 < (zaa.len : Int)))
 (decide ((0≤iv0∧iv0 < (zaa.len:Int))) &&
 (decide (((zcK.len+1) * 8≤140737488355328∧zcK.len+1≤9223372036854775807)) &&
 (decide ((0≤iv0∧iv0 < (zaa.len:Int))) &&
 (cond (!(s49 (zaa.get iv0.toNat)))
 (zor P0 zaa iv0 true (⟨(zcK.len+1),(zeb zcK.len zcK.get (fun _=>(zaa.get iv0.toNat).Z))⟩:Sl Int))
 (decide ((0≤iv0∧iv0 < (zaa.len:Int))) &&
 (decide ((0≤iv0∧iv0 < (zaa.len:Int))) &&
 (zor P0 zaa iv0 (decide ((w64 ((zaa.get iv0.toNat).High - (zaa.get iv0.toNat).Low)) > (60:Int))) (⟨(zcK.len+1),(zeb zcK.len zcK.get (fun _=>(zaa.get iv0.toNat).Z))⟩:Sl Int))))))))
 (decide ((p45 zcK=true)) &&
 true))
def zjm (zaa:(Sl Gate)):Nat→Int→(Sl Int)→Bool:=lpO (fun _ _=>default) (zjk zaa)
def zjn (zaa:(Sl Gate)):Nat→Int→(Sl Int)→Bool:=lpO (fun _ _=>false) (zjl zaa)
def zAE (zaa:(Sl Gate)) (iv0:Int) (zcK:(Sl Int)):Bool:=zjm zaa Fuel iv0 zcK
def zAF (zaa:(Sl Gate)) (iv0:Int) (zcK:(Sl Int)):Bool:=zjn zaa Fuel iv0 zcK
theorem zH6 (hs:zAF zaa iv0 zcK=true) (hk:K (e57 (zAE zaa iv0 zcK))) (zsG:zfA=zg enc_3 zcK):z57 K [1,1,0,1,0] [] (zDR zaa iv0 zcK zfA) :=
  zl (fun X=>z57 K [1,1,0,1,0,0] [X]) (by kernel_rfl) fun X0 hX =>
  (show ∀ k, zH4 K zaa X0 (zjn zaa k) (zjm zaa k) from zgM _ _ (zjl zaa) (zjk zaa) (zH4 K zaa X0)
 (by intro _ _ _ hs;exact absurd hs Bool.false_ne_true)
 (by intro P0 S0 hX0 iv0 zcK zfA hs hk zsG;subst zsG;exact hX _ (zaI (by kernel_rfl) (zc hs hk (fun hs hk=>(zaG hs fun hc hs=>And.intro hc (zaG hs fun hc hs=>And.intro hc (zaG hs fun hc hs=>And.intro hc (zc hs hk (fun hs hk=>(zAD hX0 hs hk (zgU (enc:=enc_3) (f:=zcK.get) (h:=(fun _=>(zaa.get iv0.toNat).Z)) rfl rfl))) (fun hs hk=>(zaG hs fun hc hs=>And.intro hc (zaG hs fun hc hs=>And.intro hc (zAD hX0 hs hk (zgU (enc:=enc_3) (f:=zcK.get) (h:=(fun _=>(zaa.get iv0.toNat).Z)) rfl rfl)))))))))) (fun hs hk=>(zaG hs fun hc hs=>And.intro (And.intro (zE enc_3 1 zcK.get) hc) hk)))))) _ hs hk zsG
def s57 (zaa:(Sl Gate)):Bool :=
  (zAE zaa (0:Int) (⟨0,(fun _=>default)⟩:Sl Int))
def p57 (zaa:(Sl Gate)):Bool :=
  (zAF zaa (0:Int) (⟨0,(fun _=>default)⟩:Sl Int))
end
theorem q57 (zaa:(Sl Gate)) (K:List PA→Prop) (hs:p57 zaa=true) (hk:K (e57 (s57 zaa))):vcFun Try.prog G57 zH3 57 [.one (.sl zaa.len 3 (fun i=>zac (zaa.get i)))] K :=
  zaI (by kernel_rfl) (zH6 hs hk rfl)
def zH7 : List PA → COut
  | [.one (.sl a0_n a0_s a0_g)]=>.det (IsE zac 3 a0_s a0_g∧p57 (⟨a0_n,zah a0_g⟩:(Sl Gate))=true) [.one (.bool (s57 (⟨a0_n,zah a0_g⟩:(Sl Gate))))]
  | _=>.no
theorem zLs:zal Try.prog 57:=⟨_,rfl,rfl,by kernel_rfl⟩
theorem zQk:Ok Try.prog 57 zH7:=zaY zNV zLs fun args K h=>by
  unfold zH7 at h
  split at h
  · rename_i a0_n a0_s a0_g
    obtain ⟨⟨⟨rfl,a0_f,rfl⟩,hs⟩,hk⟩:=h
    try rw [zaf a0_f] at hs
    try rw [zaf a0_f] at hk
    exact ⟨(fun _ _=>[]),(fun _=>false),zH3,q57 (⟨a0_n,a0_f⟩:(Sl Gate)) K hs hk⟩
  · exact h.elim
end Go.Proofs
