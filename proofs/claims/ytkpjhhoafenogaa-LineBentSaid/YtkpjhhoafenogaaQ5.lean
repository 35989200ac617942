/- Part 5 of what the proof rests on: a machine that runs functions of the program on pure values, proved sound; the functions that the law reaches, and what they compute. -/
import Derived.Test.YtkpjhhoafenogaaQ4
set_option linter.all false
namespace Go.Proofs
open Go Go.Pm
set_option maxRecDepth 100000
set_option linter.unusedVariables false
attribute [local irreducible] Go.Pm.vcFun Go.Pm.vc Go.Pm.vcIter
abbrev T19:Tabs:=((((((Tabs.nil.addF 64 zvo).addF 65 zxz).addF 66 zxG).addF 67 zrY).addF 68 zCf).addF 69 zvt)
theorem zNw:TabsOk Try.prog T19:=((((((TabsOk.nil.addF zL8).addF zNd).addF zNg).addF zJX).addF zOL).addF zMe)
abbrev G19:Ctrs:=csm T19 (fun _ _=>[]) (fun _=>false)
def zF5:Ann:=⟨124,[(0,zK [0,1,2,3,9,10] [9,10]),(1,zK [0,1,2,3,9,10,12] [9,10,12]),(2,zK [0,1,2,3,9,10,12,44] [9,10,12]),(3,zK [8,9,10,11] [9,10]),(4,zK [2,3,9,10,12,13,14] [9,10,12,13,14]),(5,zK [2,3,9,10,12,13,14,58] [9,10,12,13,14]),(6,zK [8,9,10,11] [9,10]),(7,zK [2,3,9,10,12,13,14,68] [9,10,12,13,14]),(8,zK [8,9,10,11] [9,10]),(9,zK [2,3,9,10,12,13,14,15,16] [9,10,12,13,14,15,16]),(10,zK [2,3,9,10,12,13,14,15,16,17] [9,10,12,13,14,15,16]),(11,zK [2,3,9,10,12,13,14,15,16,17,76,77] [9,10,12,13,14,15,16]),(12,zK [2,3,9,10,12,13,14,15,16,17,76,77,78] [9,10,12,13,14,15,16]),(13,zK [2,3,9,10,12,13,14,15,16,17,18,76,77] [9,10,12,13,14,15,16]),(14,zK [2,3,9,10,12,13,14,15,16,17,18,19,20,76,77] [9,10,12,13,14,15,16,19,20]),(15,zK [2,3,9,10,12,13,14,15,16,17,18,19,20,21,22,76,77] [9,10,12,13,14,15,16,19,20,21,22]),(16,zK [2,3,9,10,12,13,14,15,16,17,18,19,20,21,22,76,77] [9,10,12,13,14,15,16,19,20,21,22]),(17,zK [2,3,9,10,12,13,14,15,16,17,18,20,21,22,76,77,101] [9,10,12,13,14,15,16,20,21,22]),(18,zK [2,3,9,10,12,13,14,15,16,17,18,20,22,76,77] [9,10,12,13,14,15,16,20,22]),(19,zK [2,3,9,10,12,13,14,15,16,17,18,22,76,77,106] [9,10,12,13,14,15,16,22]),(20,zK [2,3,9,10,12,13,14,15,16,17,18,76,77] [9,10,12,13,14,15,16]),(21,zK [2,3,9,10,12,13,14,15,16,17,18,76,77,111] [9,10,12,13,14,15,16]),(22,zK [3,9,10,12,15,16,17] [9,10,12,15,16]),(23,zK [2,3,9,10,12,13,14,15,16,17,76,77] [9,10,12,13,14,15,16]),(24,zK [9,10,12,15,16,17,118] [9,10,12,15,16]),(25,zK [8,9,10,11] [9,10]),(26,zK [8,9,10,11] [9,10])],
 [(12,zK [2,3,9,10,12,13,14,15,16,17,76,77] [9,10,12,13,14,15,16])],
 [(3,zK [0,1,2,3,9,10,12,44] [9,10,12]),(4,zK [0,1,2,3,9,10,12] [9,10,12]),(5,zK [2,3,9,10,12,13,14] [9,10,12,13,14]),(6,zK [2,3,9,10,12,13,14,58] [9,10,12,13,14]),(7,zK [2,3,9,10,12,13,14] [9,10,12,13,14]),(8,zK [2,3,9,10,12,13,14,68] [9,10,12,13,14]),(9,zK [2,3,9,10,12,13,14] [9,10,12,13,14]),(15,zK [2,3,9,10,12,13,14,15,16,17,18,19,20,76,77] [9,10,12,13,14,15,16,19,20]),(24,zK [3,9,10,12,15,16,17] [9,10,12,15,16]),(16,zK [2,3,9,10,12,13,14,15,16,17,18,19,20,21,22,76,77] [9,10,12,13,14,15,16,19,20,21,22]),(18,zK [2,3,9,10,12,13,14,15,16,17,18,20,21,22,76,77,101] [9,10,12,13,14,15,16,20,21,22]),(19,zK [2,3,9,10,12,13,14,15,16,17,18,20,22,76,77] [9,10,12,13,14,15,16,20,22]),(20,zK [2,3,9,10,12,13,14,15,16,17,18,22,76,77,106] [9,10,12,13,14,15,16,22]),(22,zK [2,3,9,10,12,13,14,15,16,17,18,76,77,111] [9,10,12,13,14,15,16])],
 [],[]⟩
abbrev R19:=(Int×Frac×Frac×Int)
abbrev e19 (r:R19):List PA:=[.one (.int .i64 r.1),.agg [.int .i64 r.2.1.Num,.int .i64 r.2.1.Den],.agg [.int .i64 r.2.2.1.Num,.int .i64 r.2.2.1.Den],.one (.int .i64 r.2.2.2)]
@[irreducible] def z19:=ptF Try.prog G19 zF5 Try.f19
def zDt (low:Int) (high:Int) (zau:(Sl Gate)) (zaA:(Sl straight)) (zav:(Sl Gate)) (zaB:(Sl straight)) (zdd:Int) (zb2:Int) (zb3:Int) (zdq:Int) (zdr:Int):St:=⟨[(2,zI low),(3,zI high),(9,zp 9 0),(10,zp 10 0),(12,zp 12 0),(13,zp 13 0),(14,zp 14 0),(15,zp 15 0),(16,zp 16 0),(17,zI (w64 (high+(1:Int)))),(76,zI (w64 ((w64 (high - low))+(1:Int)))),(77,zI zdd)],[(9,.box 25 (zm (zah (⟨(0:Int),(0:Int)⟩:Frac)))),(10,.box 25 (zm (zah (⟨(0:Int),(0:Int)⟩:Frac)))),(12,.box 25 (zm (zah (⟨(0:Int),(0:Int)⟩:Frac)))),(13,.box 104 (zm (zbg (⟨(⟨zau⟩:list),zaA⟩:set)))),(14,.box 104 (zm (zbg (⟨(⟨zav⟩:list),zaB⟩:set)))),(15,.box 25 (zm (zah (⟨zb2,zb3⟩:Frac)))),(16,.box 25 (zm (zah (⟨zdq,zdr⟩:Frac))))],[]⟩
abbrev zql (K:List PA→Prop) (low:Int) (high:Int) (zau:(Sl Gate)) (zaA:(Sl straight)) (zav:(Sl Gate)) (zaB:(Sl straight)) (X:St→Prop) (P:Int→Int→Int→Int→Int→Bool) (S:Int→Int→Int→Int→Int→(Int×Frac×Frac×Int)):Prop:=∀ ⦃zdd:Int⦄ ⦃zb2:Int⦄ ⦃zb3:Int⦄ ⦃zdq:Int⦄ ⦃zdr:Int⦄,P zdd zb2 zb3 zdq zdr=true→K (e19 (S zdd zb2 zb3 zdq zdr))→X (zDt low high zau zaA zav zaB zdd zb2 zb3 zdq zdr)
section
variable {K:List PA→Prop} {a:(Sl Gate)} {b:(Sl Gate)} {low:Int} {high:Int} {zsf:Bool} {zau:(Sl Gate)} {zaA:(Sl straight)} {zav:(Sl Gate)} {zaB:(Sl straight)} {zx8:Nat→List PV} {zx9:Nat→List PV} {zya:Nat→List PV} {zyb:Nat→List PV} {zsg:Bool} {zsh:Bool} {zdd:Int} {zb2:Int} {zb3:Int} {zdq:Int} {zdr:Int} {X7:St→Prop} {P7:Int→Int→Int→Int→Int→Bool} {S7:Int→Int→Int→Int→Int→(Int×Frac×Frac×Int)} {iv8:Int} {zsi:Int} {zfn:Int} {zfo:Int} {zlt:Int} {zlu:Int} {zeq:Int} {zer:Int} {zcb:Int} {zcc:Int} {zKw:Int} {zj2:Int} {zj3:Int} {zun:Int} {zuo:Int} {zdL:Int} {zlv:Int} {zf9:Int} {zga:Int} {zlw:Int} {zlx:Int} {zdZ:Int} {zd0:Int} {zbR:Int} {zbS:Int} {zeU:Int} {zif:Int} {zhn:Bool} {zbM:Int} {zly:Int} {zaN:Int} {zaO:Int} {zhH:Int} {zih:Int} {zho:Bool} {zIJ:Int} {zlz:Int} {zhp:Bool} {zgb:Int} {zgc:Int}
def zsj (high:Int) (zKw:Int) (zj2:Int) (zj3:Int) (zun:Int) (zuo:Int):(Int×Frac×Frac×Int) :=
  (cond (decide (zKw > high))
 ((0:Int),(⟨(0:Int),(0:Int)⟩:Frac),(⟨(0:Int),(0:Int)⟩:Frac),(5:Int))
 (zKw,(⟨zj2,zj3⟩:Frac),(⟨zun,zuo⟩:Frac),(0:Int)))
theorem zyc (hk:K (e19 (zsj high zKw zj2 zj3 zun zuo))):z19 K [1,0,1,1,1,1,1,1,1,1,1] [] ⟨[(3,zI high),(9,zp 9 0),(10,zp 10 0),(12,zp 12 0),(15,zp 15 0),(16,zp 16 0),(17,zI zKw)],[(9,.box 25 (zm (zah (⟨(0:Int),(0:Int)⟩:Frac)))),(10,.box 25 (zm (zah (⟨(0:Int),(0:Int)⟩:Frac)))),(12,.box 25 (zm (zah (⟨(0:Int),(0:Int)⟩:Frac)))),(15,.box 25 (zm (zah (⟨zj2,zj3⟩:Frac)))),(16,.box 25 (zm (zah (⟨zun,zuo⟩:Frac))))],[]⟩:=zaH (by kernel_rfl) (zt hk (fun hk=>hk) (fun hk=>hk))
def zn3 (S7:Int→Int→Int→Int→Int→(Int×Frac×Frac×Int)) (low:Int) (high:Int) (zau:(Sl Gate)) (zaA:(Sl straight)) (zav:(Sl Gate)) (zaB:(Sl straight)) (zaN:Int) (zaO:Int) (zIJ:Int) (zlz:Int) (zhp:Bool) (zgb:Int) (zgc:Int):(Int×Frac×Frac×Int) :=
  (cond zhp
 (zsj high (w64 (low+zIJ)) zaN zaO zgb zgc)
 (S7 (w64 (zlz+(1:Int))) zaN zaO zgb zgc))
def zn4 (P7:Int→Int→Int→Int→Int→Bool) (low:Int) (high:Int) (zau:(Sl Gate)) (zaA:(Sl straight)) (zav:(Sl Gate)) (zaB:(Sl straight)) (zaN:Int) (zaO:Int) (zIJ:Int) (zlz:Int) (zhp:Bool) (zgb:Int) (zgc:Int):Bool :=
  (cond zhp
 true
 (P7 (w64 (zlz+(1:Int))) zaN zaO zgb zgc))
theorem zup (hX7:zql K low high zau zaA zav zaB X7 P7 S7) (hs:zn4 P7 low high zau zaA zav zaB zaN zaO zIJ zlz zhp zgb zgc=true) (hk:K (e19 (zn3 S7 low high zau zaA zav zaB zaN zaO zIJ zlz zhp zgb zgc))):z19 K [1,0,1,1,1,1,1,1,1,1,0,1,0,0,1,1,0,0,1,1,1,1,1,1,1] [X7] ⟨[(2,zI low),(3,zI high),(9,zp 9 0),(10,zp 10 0),(12,zp 12 0),(13,zp 13 0),(14,zp 14 0),(15,zp 15 0),(16,zp 16 0),(17,zI (w64 (high+(1:Int)))),(18,zI zIJ),(76,zI (w64 ((w64 (high - low))+(1:Int)))),(77,zI zlz),(111,zB zhp)],[(9,.box 25 (zm (zah (⟨(0:Int),(0:Int)⟩:Frac)))),(10,.box 25 (zm (zah (⟨(0:Int),(0:Int)⟩:Frac)))),(12,.box 25 (zm (zah (⟨(0:Int),(0:Int)⟩:Frac)))),(13,.box 104 (zm (zbg (⟨(⟨zau⟩:list),zaA⟩:set)))),(14,.box 104 (zm (zbg (⟨(⟨zav⟩:list),zaB⟩:set)))),(15,.box 25 (zm (zah (⟨zaN,zaO⟩:Frac)))),(16,.box 25 (zm (zah (⟨zgb,zgc⟩:Frac))))],[]⟩:=zaH (by kernel_rfl) (zc hs hk (fun hs hk=>(zyc hk)) (fun hs hk=>(hX7 hs hk)))
def zuq (S7:Int→Int→Int→Int→Int→(Int×Frac×Frac×Int)) (low:Int) (high:Int) (zau:(Sl Gate)) (zaA:(Sl straight)) (zav:(Sl Gate)) (zaB:(Sl straight)) (zcb:Int) (zcc:Int) (zbR:Int) (zbS:Int) (zaN:Int) (zaO:Int) (zhH:Int) (zih:Int) (zho:Bool):(Int×Frac×Frac×Int) :=
  (cond zho
 (zn3 S7 low high zau zaA zav zaB zaN zaO zhH zih (decide ((s69 (⟨zaN,zaO⟩:Frac) (⟨zbR,zbS⟩:Frac))≤(0:Int))) zbR zbS)
 (zn3 S7 low high zau zaA zav zaB zaN zaO zhH zih (decide ((s69 (⟨zaN,zaO⟩:Frac) (⟨zcb,zcc⟩:Frac))≤(0:Int))) zcb zcc))
def zur (P7:Int→Int→Int→Int→Int→Bool) (low:Int) (high:Int) (zau:(Sl Gate)) (zaA:(Sl straight)) (zav:(Sl Gate)) (zaB:(Sl straight)) (zcb:Int) (zcc:Int) (zbR:Int) (zbS:Int) (zaN:Int) (zaO:Int) (zhH:Int) (zih:Int) (zho:Bool):Bool :=
  (cond zho
 (zn4 P7 low high zau zaA zav zaB zaN zaO zhH zih (decide ((s69 (⟨zaN,zaO⟩:Frac) (⟨zbR,zbS⟩:Frac))≤(0:Int))) zbR zbS)
 (zn4 P7 low high zau zaA zav zaB zaN zaO zhH zih (decide ((s69 (⟨zaN,zaO⟩:Frac) (⟨zcb,zcc⟩:Frac))≤(0:Int))) zcb zcc))
theorem zCg (hX7:zql K low high zau zaA zav zaB X7 P7 S7) (hs:zur P7 low high zau zaA zav zaB zcb zcc zbR zbS zaN zaO zhH zih zho=true) (hk:K (e19 (zuq S7 low high zau zaA zav zaB zcb zcc zbR zbS zaN zaO zhH zih zho))):z19 K [1,0,1,1,1,1,1,1,1,1,0,1,0,0,1,1,0,0,1,1,1,1,1,0,1] [X7] ⟨[(2,zI low),(3,zI high),(9,zp 9 0),(10,zp 10 0),(12,zp 12 0),(13,zp 13 0),(14,zp 14 0),(15,zp 15 0),(16,zp 16 0),(17,zI (w64 (high+(1:Int)))),(18,zI zhH),(22,zp 22 0),(76,zI (w64 ((w64 (high - low))+(1:Int)))),(77,zI zih),(106,zB zho)],[(9,.box 25 (zm (zah (⟨(0:Int),(0:Int)⟩:Frac)))),(10,.box 25 (zm (zah (⟨(0:Int),(0:Int)⟩:Frac)))),(12,.box 25 (zm (zah (⟨(0:Int),(0:Int)⟩:Frac)))),(13,.box 104 (zm (zbg (⟨(⟨zau⟩:list),zaA⟩:set)))),(14,.box 104 (zm (zbg (⟨(⟨zav⟩:list),zaB⟩:set)))),(15,.box 25 (zm (zah (⟨zaN,zaO⟩:Frac)))),(16,.box 25 (zm (zah (⟨zcb,zcc⟩:Frac)))),(22,.box 25 (zm (zah (⟨zbR,zbS⟩:Frac))))],[]⟩:=zaH (by kernel_rfl) (zc hs hk (fun hs hk=>(zup hX7 hs hk)) (fun hs hk=>(zup hX7 hs hk)))
def zn5 (S7:Int→Int→Int→Int→Int→(Int×Frac×Frac×Int)) (low:Int) (high:Int) (zau:(Sl Gate)) (zaA:(Sl straight)) (zav:(Sl Gate)) (zaB:(Sl straight)) (zcb:Int) (zcc:Int) (zbR:Int) (zbS:Int) (zbM:Int) (zly:Int) (zaN:Int) (zaO:Int):(Int×Frac×Frac×Int) :=
  (zuq S7 low high zau zaA zav zaB zcb zcc zbR zbS zaN zaO zbM zly (decide ((s69 (⟨zbR,zbS⟩:Frac) (⟨zcb,zcc⟩:Frac)) < (0:Int))))
def zn6 (P7:Int→Int→Int→Int→Int→Bool) (low:Int) (high:Int) (zau:(Sl Gate)) (zaA:(Sl straight)) (zav:(Sl Gate)) (zaB:(Sl straight)) (zcb:Int) (zcc:Int) (zbR:Int) (zbS:Int) (zbM:Int) (zly:Int) (zaN:Int) (zaO:Int):Bool :=
  (zur P7 low high zau zaA zav zaB zcb zcc zbR zbS zaN zaO zbM zly (decide ((s69 (⟨zbR,zbS⟩:Frac) (⟨zcb,zcc⟩:Frac)) < (0:Int))))
theorem zus (hX7:zql K low high zau zaA zav zaB X7 P7 S7) (hs:zn6 P7 low high zau zaA zav zaB zcb zcc zbR zbS zbM zly zaN zaO=true) (hk:K (e19 (zn5 S7 low high zau zaA zav zaB zcb zcc zbR zbS zbM zly zaN zaO))):z19 K [1,0,1,1,1,1,1,1,1,1,0,1,0,0,1,1,0,0,1,1,1,1,1] [X7] ⟨[(2,zI low),(3,zI high),(9,zp 9 0),(10,zp 10 0),(12,zp 12 0),(13,zp 13 0),(14,zp 14 0),(15,zp 15 0),(16,zp 16 0),(17,zI (w64 (high+(1:Int)))),(18,zI zbM),(20,zp 20 0),(22,zp 22 0),(76,zI (w64 ((w64 (high - low))+(1:Int)))),(77,zI zly)],[(9,.box 25 (zm (zah (⟨(0:Int),(0:Int)⟩:Frac)))),(10,.box 25 (zm (zah (⟨(0:Int),(0:Int)⟩:Frac)))),(12,.box 25 (zm (zah (⟨(0:Int),(0:Int)⟩:Frac)))),(13,.box 104 (zm (zbg (⟨(⟨zau⟩:list),zaA⟩:set)))),(14,.box 104 (zm (zbg (⟨(⟨zav⟩:list),zaB⟩:set)))),(15,.box 25 (zm (zah (⟨zaN,zaO⟩:Frac)))),(16,.box 25 (zm (zah (⟨zcb,zcc⟩:Frac)))),(20,.box 25 (zm (zah (⟨zcb,zcc⟩:Frac)))),(22,.box 25 (zm (zah (⟨zbR,zbS⟩:Frac))))],[]⟩:=zaH (by kernel_rfl) (zCg hX7 hs hk)
def zut (S7:Int→Int→Int→Int→Int→(Int×Frac×Frac×Int)) (low:Int) (high:Int) (zau:(Sl Gate)) (zaA:(Sl straight)) (zav:(Sl Gate)) (zaB:(Sl straight)) (zeq:Int) (zer:Int) (zcb:Int) (zcc:Int) (zdZ:Int) (zd0:Int) (zbR:Int) (zbS:Int) (zeU:Int) (zif:Int) (zhn:Bool):(Int×Frac×Frac×Int) :=
  (cond zhn
 (zn5 S7 low high zau zaA zav zaB zcb zcc zbR zbS zeU zif zdZ zd0)
 (zn5 S7 low high zau zaA zav zaB zcb zcc zbR zbS zeU zif zeq zer))
def zuu (P7:Int→Int→Int→Int→Int→Bool) (low:Int) (high:Int) (zau:(Sl Gate)) (zaA:(Sl straight)) (zav:(Sl Gate)) (zaB:(Sl straight)) (zeq:Int) (zer:Int) (zcb:Int) (zcc:Int) (zdZ:Int) (zd0:Int) (zbR:Int) (zbS:Int) (zeU:Int) (zif:Int) (zhn:Bool):Bool :=
  (cond zhn
 (zn6 P7 low high zau zaA zav zaB zcb zcc zbR zbS zeU zif zdZ zd0)
 (zn6 P7 low high zau zaA zav zaB zcb zcc zbR zbS zeU zif zeq zer))
theorem zCh (hX7:zql K low high zau zaA zav zaB X7 P7 S7) (hs:zuu P7 low high zau zaA zav zaB zeq zer zcb zcc zdZ zd0 zbR zbS zeU zif zhn=true) (hk:K (e19 (zut S7 low high zau zaA zav zaB zeq zer zcb zcc zdZ zd0 zbR zbS zeU zif zhn))):z19 K [1,0,1,1,1,1,1,1,1,1,0,1,0,0,1,1,0,0,1,1,1,1,0,1] [X7] ⟨[(2,zI low),(3,zI high),(9,zp 9 0),(10,zp 10 0),(12,zp 12 0),(13,zp 13 0),(14,zp 14 0),(15,zp 15 0),(16,zp 16 0),(17,zI (w64 (high+(1:Int)))),(18,zI zeU),(20,zp 20 0),(21,zp 21 0),(22,zp 22 0),(76,zI (w64 ((w64 (high - low))+(1:Int)))),(77,zI zif),(101,zB zhn)],[(9,.box 25 (zm (zah (⟨(0:Int),(0:Int)⟩:Frac)))),(10,.box 25 (zm (zah (⟨(0:Int),(0:Int)⟩:Frac)))),(12,.box 25 (zm (zah (⟨(0:Int),(0:Int)⟩:Frac)))),(13,.box 104 (zm (zbg (⟨(⟨zau⟩:list),zaA⟩:set)))),(14,.box 104 (zm (zbg (⟨(⟨zav⟩:list),zaB⟩:set)))),(15,.box 25 (zm (zah (⟨zeq,zer⟩:Frac)))),(16,.box 25 (zm (zah (⟨zcb,zcc⟩:Frac)))),(20,.box 25 (zm (zah (⟨zcb,zcc⟩:Frac)))),(21,.box 25 (zm (zah (⟨zdZ,zd0⟩:Frac)))),(22,.box 25 (zm (zah (⟨zbR,zbS⟩:Frac))))],[]⟩:=zaH (by kernel_rfl) (zc hs hk (fun hs hk=>(zus hX7 hs hk)) (fun hs hk=>(zus hX7 hs hk)))
def zuv (S7:Int→Int→Int→Int→Int→(Int×Frac×Frac×Int)) (low:Int) (high:Int) (zau:(Sl Gate)) (zaA:(Sl straight)) (zav:(Sl Gate)) (zaB:(Sl straight)) (zeq:Int) (zer:Int) (zcb:Int) (zcc:Int) (zdL:Int) (zlv:Int) (zf9:Int) (zga:Int) (zlw:Int) (zlx:Int) (zdZ:Int) (zd0:Int) (zbR:Int) (zbS:Int):(Int×Frac×Frac×Int) :=
  (zut S7 low high zau zaA zav zaB zeq zer zcb zcc zdZ zd0 zbR zbS zdL zlv (decide ((s69 (⟨zdZ,zd0⟩:Frac) (⟨zeq,zer⟩:Frac)) > (0:Int))))
def zuw (P7:Int→Int→Int→Int→Int→Bool) (low:Int) (high:Int) (zau:(Sl Gate)) (zaA:(Sl straight)) (zav:(Sl Gate)) (zaB:(Sl straight)) (zeq:Int) (zer:Int) (zcb:Int) (zcc:Int) (zdL:Int) (zlv:Int) (zf9:Int) (zga:Int) (zlw:Int) (zlx:Int) (zdZ:Int) (zd0:Int) (zbR:Int) (zbS:Int):Bool :=
  (zuu P7 low high zau zaA zav zaB zeq zer zcb zcc zdZ zd0 zbR zbS zdL zlv (decide ((s69 (⟨zdZ,zd0⟩:Frac) (⟨zeq,zer⟩:Frac)) > (0:Int))))
theorem zCi (hX7:zql K low high zau zaA zav zaB X7 P7 S7) (hs:zuw P7 low high zau zaA zav zaB zeq zer zcb zcc zdL zlv zf9 zga zlw zlx zdZ zd0 zbR zbS=true) (hk:K (e19 (zuv S7 low high zau zaA zav zaB zeq zer zcb zcc zdL zlv zf9 zga zlw zlx zdZ zd0 zbR zbS))):z19 K [1,0,1,1,1,1,1,1,1,1,0,1,0,0,1,1,0,0,1,1,1] [X7] ⟨[(2,zI low),(3,zI high),(9,zp 9 0),(10,zp 10 0),(12,zp 12 0),(13,zp 13 0),(14,zp 14 0),(15,zp 15 0),(16,zp 16 0),(17,zI (w64 (high+(1:Int)))),(18,zI zdL),(19,zp 19 0),(20,zp 20 0),(21,zp 21 0),(22,zp 22 0),(76,zI (w64 ((w64 (high - low))+(1:Int)))),(77,zI zlv)],[(9,.box 25 (zm (zah (⟨(0:Int),(0:Int)⟩:Frac)))),(10,.box 25 (zm (zah (⟨(0:Int),(0:Int)⟩:Frac)))),(12,.box 25 (zm (zah (⟨(0:Int),(0:Int)⟩:Frac)))),(13,.box 104 (zm (zbg (⟨(⟨zau⟩:list),zaA⟩:set)))),(14,.box 104 (zm (zbg (⟨(⟨zav⟩:list),zaB⟩:set)))),(15,.box 25 (zm (zah (⟨zf9,zga⟩:Frac)))),(16,.box 25 (zm (zah (⟨zlw,zlx⟩:Frac)))),(19,.box 25 (zm (zah (⟨zeq,zer⟩:Frac)))),(20,.box 25 (zm (zah (⟨zcb,zcc⟩:Frac)))),(21,.box 25 (zm (zah (⟨zdZ,zd0⟩:Frac)))),(22,.box 25 (zm (zah (⟨zbR,zbS⟩:Frac))))],[]⟩:=zaH (by kernel_rfl) (zCh hX7 hs hk)
def zyd (S7:Int→Int→Int→Int→Int→(Int×Frac×Frac×Int)) (low:Int) (high:Int) (zau:(Sl Gate)) (zaA:(Sl straight)) (zav:(Sl Gate)) (zaB:(Sl straight)) (iv8:Int) (zsi:Int) (zfn:Int) (zfo:Int) (zlt:Int) (zlu:Int) (zeq:Int) (zer:Int) (zcb:Int) (zcc:Int):(Int×Frac×Frac×Int) :=
  (zuv S7 low high zau zaA zav zaB zeq zer zcb zcc iv8 zsi zfn zfo zlt zlu (((s68 (⟨(⟨zav⟩:list),zaB⟩:set) (w64 (low+iv8))).1).Num) (((s68 (⟨(⟨zav⟩:list),zaB⟩:set) (w64 (low+iv8))).1).Den) (((s68 (⟨(⟨zav⟩:list),zaB⟩:set) (w64 (low+iv8))).2).Num) (((s68 (⟨(⟨zav⟩:list),zaB⟩:set) (w64 (low+iv8))).2).Den))
def zye (P7:Int→Int→Int→Int→Int→Bool) (low:Int) (high:Int) (zau:(Sl Gate)) (zaA:(Sl straight)) (zav:(Sl Gate)) (zaB:(Sl straight)) (iv8:Int) (zsi:Int) (zfn:Int) (zfo:Int) (zlt:Int) (zlu:Int) (zeq:Int) (zer:Int) (zcb:Int) (zcc:Int):Bool :=
  (decide ((p68 (⟨(⟨zav⟩:list),zaB⟩:set) (w64 (low+iv8))=true)) &&
 (zuw P7 low high zau zaA zav zaB zeq zer zcb zcc iv8 zsi zfn zfo zlt zlu (((s68 (⟨(⟨zav⟩:list),zaB⟩:set) (w64 (low+iv8))).1).Num) (((s68 (⟨(⟨zav⟩:list),zaB⟩:set) (w64 (low+iv8))).1).Den) (((s68 (⟨(⟨zav⟩:list),zaB⟩:set) (w64 (low+iv8))).2).Num) (((s68 (⟨(⟨zav⟩:list),zaB⟩:set) (w64 (low+iv8))).2).Den)))
theorem zF6 (hX7:zql K low high zau zaA zav zaB X7 P7 S7) (hs:zye P7 low high zau zaA zav zaB iv8 zsi zfn zfo zlt zlu zeq zer zcb zcc=true) (hk:K (e19 (zyd S7 low high zau zaA zav zaB iv8 zsi zfn zfo zlt zlu zeq zer zcb zcc))):z19 K [1,0,1,1,1,1,1,1,1,1,0,1,0,0,1,1,0,0,1,1] [X7] ⟨[(2,zI low),(3,zI high),(9,zp 9 0),(10,zp 10 0),(12,zp 12 0),(13,zp 13 0),(14,zp 14 0),(15,zp 15 0),(16,zp 16 0),(17,zI (w64 (high+(1:Int)))),(18,zI iv8),(19,zp 19 0),(20,zp 20 0),(76,zI (w64 ((w64 (high - low))+(1:Int)))),(77,zI zsi)],[(9,.box 25 (zm (zah (⟨(0:Int),(0:Int)⟩:Frac)))),(10,.box 25 (zm (zah (⟨(0:Int),(0:Int)⟩:Frac)))),(12,.box 25 (zm (zah (⟨(0:Int),(0:Int)⟩:Frac)))),(13,.box 104 (zm (zbg (⟨(⟨zau⟩:list),zaA⟩:set)))),(14,.box 104 (zm (zbg (⟨(⟨zav⟩:list),zaB⟩:set)))),(15,.box 25 (zm (zah (⟨zfn,zfo⟩:Frac)))),(16,.box 25 (zm (zah (⟨zlt,zlu⟩:Frac)))),(19,.box 25 (zm (zah (⟨zeq,zer⟩:Frac)))),(20,.box 25 (zm (zah (⟨zcb,zcc⟩:Frac))))],[]⟩:=zaH (by kernel_rfl) (zaE hs fun hc hs=>And.intro (And.intro (zE enc_55 3 zav.get) (And.intro (zE zaj 3 zaB.get) hc)) (zCi hX7 hs hk))
def zyf (low:Int) (high:Int) (zau:(Sl Gate)) (zaA:(Sl straight)) (zav:(Sl Gate)) (zaB:(Sl straight)) (S7:Int→Int→Int→Int→Int→(Int×Frac×Frac×Int)) (zdd:Int) (zb2:Int) (zb3:Int) (zdq:Int) (zdr:Int):(Int×Frac×Frac×Int) :=
  (cond (decide (zdd < (w64 ((w64 (high - low)) + (1:Int)))))
 (zyd S7 low high zau zaA zav zaB zdd zdd zb2 zb3 zdq zdr (((s68 (⟨(⟨zau⟩:list),zaA⟩:set) (w64 (low+zdd))).1).Num) (((s68 (⟨(⟨zau⟩:list),zaA⟩:set) (w64 (low+zdd))).1).Den) (((s68 (⟨(⟨zau⟩:list),zaA⟩:set) (w64 (low+zdd))).2).Num) (((s68 (⟨(⟨zau⟩:list),zaA⟩:set) (w64 (low+zdd))).2).Den))
 (zsj high (w64 (high+(1:Int))) zb2 zb3 zdq zdr))
def zyg (low:Int) (high:Int) (zau:(Sl Gate)) (zaA:(Sl straight)) (zav:(Sl Gate)) (zaB:(Sl straight)) (P7:Int→Int→Int→Int→Int→Bool) (zdd:Int) (zb2:Int) (zb3:Int) (zdq:Int) (zdr:Int):Bool :=
  (cond (decide (zdd < (w64 ((w64 (high - low)) + (1:Int)))))
 (decide ((p68 (⟨(⟨zau⟩:list),zaA⟩:set) (w64 (low+zdd))=true)) &&
 (zye P7 low high zau zaA zav zaB zdd zdd zb2 zb3 zdq zdr (((s68 (⟨(⟨zau⟩:list),zaA⟩:set) (w64 (low+zdd))).1).Num) (((s68 (⟨(⟨zau⟩:list),zaA⟩:set) (w64 (low+zdd))).1).Den) (((s68 (⟨(⟨zau⟩:list),zaA⟩:set) (w64 (low+zdd))).2).Num) (((s68 (⟨(⟨zau⟩:list),zaA⟩:set) (w64 (low+zdd))).2).Den)))
 true)
def zyh (low:Int) (high:Int) (zau:(Sl Gate)) (zaA:(Sl straight)) (zav:(Sl Gate)) (zaB:(Sl straight)):Nat→Int→Int→Int→Int→Int→(Int×Frac×Frac×Int):=lpO (fun _ _ _ _ _=>default) (zyf low high zau zaA zav zaB)
def zyi (low:Int) (high:Int) (zau:(Sl Gate)) (zaA:(Sl straight)) (zav:(Sl Gate)) (zaB:(Sl straight)):Nat→Int→Int→Int→Int→Int→Bool:=lpO (fun _ _ _ _ _=>false) (zyg low high zau zaA zav zaB)
def zyj (low:Int) (high:Int) (zau:(Sl Gate)) (zaA:(Sl straight)) (zav:(Sl Gate)) (zaB:(Sl straight)) (zdd:Int) (zb2:Int) (zb3:Int) (zdq:Int) (zdr:Int):(Int×Frac×Frac×Int):=zyh low high zau zaA zav zaB Fuel zdd zb2 zb3 zdq zdr
def zyk (low:Int) (high:Int) (zau:(Sl Gate)) (zaA:(Sl straight)) (zav:(Sl Gate)) (zaB:(Sl straight)) (zdd:Int) (zb2:Int) (zb3:Int) (zdq:Int) (zdr:Int):Bool:=zyi low high zau zaA zav zaB Fuel zdd zb2 zb3 zdq zdr
theorem zF7 (hs:zyk low high zau zaA zav zaB zdd zb2 zb3 zdq zdr=true) (hk:K (e19 (zyj low high zau zaA zav zaB zdd zb2 zb3 zdq zdr))):z19 K [1,0,1,1,1,1,1,1,1,1,0,1,0] [] (zDt low high zau zaA zav zaB zdd zb2 zb3 zdq zdr) :=
  zl (fun X=>z19 K [1,0,1,1,1,1,1,1,1,1,0,1,0,0] [X]) (by kernel_rfl) fun X7 hX =>
  (show ∀ k, zql K low high zau zaA zav zaB X7 (zyi low high zau zaA zav zaB k) (zyh low high zau zaA zav zaB k) from zgs _ _ (zyg low high zau zaA zav zaB) (zyf low high zau zaA zav zaB) (zql K low high zau zaA zav zaB X7)
 (by intro _ _ _ _ _ hs;exact absurd hs Bool.false_ne_true)
 (by intro P7 S7 hX7 zdd zb2 zb3 zdq zdr hs hk;exact hX _ (zaH (by kernel_rfl) (zc hs hk (fun hs hk=>(zaE hs fun hc hs=>And.intro (And.intro (zE enc_55 3 zau.get) (And.intro (zE zaj 3 zaA.get) hc)) (zF6 hX7 hs hk))) (fun hs hk=>(zyc hk)))))) _ hs hk
def zyl (low:Int) (high:Int) (zau:(Sl Gate)) (zaA:(Sl straight)) (zav:(Sl Gate)) (zaB:(Sl straight)):(Int×Frac×Frac×Int) :=
  (zyj low high zau zaA zav zaB (0:Int) (0:Int) (0:Int) (0:Int) (0:Int))
def zym (low:Int) (high:Int) (zau:(Sl Gate)) (zaA:(Sl straight)) (zav:(Sl Gate)) (zaB:(Sl straight)):Bool :=
  (zyk low high zau zaA zav zaB (0:Int) (0:Int) (0:Int) (0:Int) (0:Int))
theorem zF8 (hs:zym low high zau zaA zav zaB=true) (hk:K (e19 (zyl low high zau zaA zav zaB))):z19 K [1,0,1,1,1,1,1] [] ⟨[(2,zI low),(3,zI high),(9,zp 9 0),(10,zp 10 0),(12,zp 12 0),(13,zp 13 0),(14,zp 14 0)],[(9,.box 25 (zm (zah (⟨(0:Int),(0:Int)⟩:Frac)))),(10,.box 25 (zm (zah (⟨(0:Int),(0:Int)⟩:Frac)))),(12,.box 25 (zm (zah (⟨(0:Int),(0:Int)⟩:Frac)))),(13,.box 104 (zm (zbg (⟨(⟨zau⟩:list),zaA⟩:set)))),(14,.box 104 (zm (zbg (⟨(⟨zav⟩:list),zaB⟩:set))))],[]⟩:=zaH (by kernel_rfl) (zF7 hs hk)
def zsk (low:Int) (high:Int) (zau:(Sl Gate)) (zaA:(Sl straight)) (zav:(Sl Gate)) (zaB:(Sl straight)) (zsh:Bool):(Int×Frac×Frac×Int) :=
  (cond zsh
 ((0:Int),(⟨(0:Int),(0:Int)⟩:Frac),(⟨(0:Int),(0:Int)⟩:Frac),(6:Int))
 (zyl low high zau zaA zav zaB))
def zsl (low:Int) (high:Int) (zau:(Sl Gate)) (zaA:(Sl straight)) (zav:(Sl Gate)) (zaB:(Sl straight)) (zsh:Bool):Bool :=
  (cond zsh
 true
 (zym low high zau zaA zav zaB))
theorem zyn (hs:zsl low high zau zaA zav zaB zsh=true) (hk:K (e19 (zsk low high zau zaA zav zaB zsh))):z19 K [1,0,1,1,1,1,0,1] [] ⟨[(2,zI low),(3,zI high),(9,zp 9 0),(10,zp 10 0),(12,zp 12 0),(13,zp 13 0),(14,zp 14 0),(68,zB zsh)],[(9,.box 25 (zm (zah (⟨(0:Int),(0:Int)⟩:Frac)))),(10,.box 25 (zm (zah (⟨(0:Int),(0:Int)⟩:Frac)))),(12,.box 25 (zm (zah (⟨(0:Int),(0:Int)⟩:Frac)))),(13,.box 104 (zm (zbg (⟨(⟨zau⟩:list),zaA⟩:set)))),(14,.box 104 (zm (zbg (⟨(⟨zav⟩:list),zaB⟩:set))))],[]⟩:=zaH (by kernel_rfl) (zc hs hk (fun hs hk=>hk) (fun hs hk=>(zF8 hs hk)))
def zyo (low:Int) (high:Int) (zau:(Sl Gate)) (zaA:(Sl straight)) (zav:(Sl Gate)) (zaB:(Sl straight)):(Int×Frac×Frac×Int) :=
  (cond (s67 (⟨zau⟩ : list))
 (zsk low high zau zaA zav zaB true)
 (zsk low high zau zaA zav zaB (s67 (⟨zav⟩:list))))
def zyp (low:Int) (high:Int) (zau:(Sl Gate)) (zaA:(Sl straight)) (zav:(Sl Gate)) (zaB:(Sl straight)):Bool :=
  (decide ((p67 (⟨zau⟩:list)=true)) &&
 (cond (s67 (⟨zau⟩ : list))
 (zsl low high zau zaA zav zaB true)
 (decide ((p67 (⟨zav⟩:list)=true)) &&
 (zsl low high zau zaA zav zaB (s67 (⟨zav⟩:list))))))
theorem zF9 (hs:zyp low high zau zaA zav zaB=true) (hk:K (e19 (zyo low high zau zaA zav zaB))):z19 K [1,0,1,1,1,1] [] ⟨[(2,zI low),(3,zI high),(9,zp 9 0),(10,zp 10 0),(12,zp 12 0),(13,zp 13 0),(14,zp 14 0)],[(9,.box 25 (zm (zah (⟨(0:Int),(0:Int)⟩:Frac)))),(10,.box 25 (zm (zah (⟨(0:Int),(0:Int)⟩:Frac)))),(12,.box 25 (zm (zah (⟨(0:Int),(0:Int)⟩:Frac)))),(13,.box 104 (zm (zbg (⟨(⟨zau⟩:list),zaA⟩:set)))),(14,.box 104 (zm (zbg (⟨(⟨zav⟩:list),zaB⟩:set))))],[]⟩:=zaH (by kernel_rfl) (zaE hs fun hc hs=>And.intro (And.intro (zE enc_55 3 zau.get) hc) (zc hs hk (fun hs hk=>(zyn hs hk)) (fun hs hk=>(zaE hs fun hc hs=>And.intro (And.intro (zE enc_55 3 zav.get) hc) (zyn hs hk)))))
def zsm (low:Int) (high:Int) (zau:(Sl Gate)) (zaA:(Sl straight)) (zav:(Sl Gate)) (zaB:(Sl straight)) (zsg:Bool):(Int×Frac×Frac×Int) :=
  (cond zsg
 ((0:Int),(⟨(0:Int),(0:Int)⟩:Frac),(⟨(0:Int),(0:Int)⟩:Frac),(5:Int))
 (zyo low high zau zaA zav zaB))
def zsn (low:Int) (high:Int) (zau:(Sl Gate)) (zaA:(Sl straight)) (zav:(Sl Gate)) (zaB:(Sl straight)) (zsg:Bool):Bool :=
  (cond zsg
 true
 (zyp low high zau zaA zav zaB))
theorem zyq (hs:zsn low high zau zaA zav zaB zsg=true) (hk:K (e19 (zsm low high zau zaA zav zaB zsg))):z19 K [1,0,1,1,1,0,1] [] ⟨[(2,zI low),(3,zI high),(9,zp 9 0),(10,zp 10 0),(12,zp 12 0),(13,zp 13 0),(14,zp 14 0),(58,zB zsg)],[(9,.box 25 (zm (zah (⟨(0:Int),(0:Int)⟩:Frac)))),(10,.box 25 (zm (zah (⟨(0:Int),(0:Int)⟩:Frac)))),(12,.box 25 (zm (zah (⟨(0:Int),(0:Int)⟩:Frac)))),(13,.box 104 (zm (zbg (⟨(⟨zau⟩:list),zaA⟩:set)))),(14,.box 104 (zm (zbg (⟨(⟨zav⟩:list),zaB⟩:set))))],[]⟩:=zaH (by kernel_rfl) (zc hs hk (fun hs hk=>hk) (fun hs hk=>(zF9 hs hk)))
def zyr (low:Int) (high:Int) (zau:(Sl Gate)) (zaA:(Sl straight)) (zav:(Sl Gate)) (zaB:(Sl straight)):(Int×Frac×Frac×Int) :=
  (cond (!(s66 (⟨(⟨zau⟩ : list), zaA⟩ : set)))
 (zsm low high zau zaA zav zaB true)
 (zsm low high zau zaA zav zaB (!(s66 (⟨(⟨zav⟩:list),zaB⟩:set)))))
def zys (low:Int) (high:Int) (zau:(Sl Gate)) (zaA:(Sl straight)) (zav:(Sl Gate)) (zaB:(Sl straight)):Bool :=
  (decide ((p66 (⟨(⟨zau⟩:list),zaA⟩:set)=true)) &&
 (cond (!(s66 (⟨(⟨zau⟩ : list), zaA⟩ : set)))
 (zsn low high zau zaA zav zaB true)
 (decide ((p66 (⟨(⟨zav⟩:list),zaB⟩:set)=true)) &&
 (zsn low high zau zaA zav zaB (!(s66 (⟨(⟨zav⟩:list),zaB⟩:set)))))))
theorem zGa (hs:zys low high zau zaA zav zaB=true) (hk:K (e19 (zyr low high zau zaA zav zaB))) (zGb:zx8=zg enc_55 zau) (zGc:zx9=zg zaj zaA) (zGd:zya=zg enc_55 zav) (zGe:zyb=zg zaj zaB):z19 K [1,0,1,1,1] [] ⟨[(2,zI low),(3,zI high),(9,zp 9 0),(10,zp 10 0),(12,zp 12 0),(13,zp 13 0),(14,zp 14 0)],[(9,.box 25 (zm (zah (⟨(0:Int),(0:Int)⟩:Frac)))),(10,.box 25 (zm (zah (⟨(0:Int),(0:Int)⟩:Frac)))),(12,.box 25 (zm (zah (⟨(0:Int),(0:Int)⟩:Frac)))),(13,.box 104 [.p (.sl zau.len 3 zx8),.p (.sl zaA.len 3 zx9)]),(14,.box 104 [.p (.sl zav.len 3 zya),.p (.sl zaB.len 3 zyb)])],[]⟩:=by subst zGb;subst zGc;subst zGd;subst zGe;exact zaH (by kernel_rfl) (zaE hs fun hc hs=>And.intro (And.intro (zE enc_55 3 zau.get) (And.intro (zE zaj 3 zaA.get) hc)) (zc hs hk (fun hs hk=>(zyq hs hk)) (fun hs hk=>(zaE hs fun hc hs=>And.intro (And.intro (zE enc_55 3 zav.get) (And.intro (zE zaj 3 zaB.get) hc)) (zyq hs hk)))))
def zyt (a:(Sl Gate)) (b:(Sl Gate)) (low:Int) (high:Int):(Int×Frac×Frac×Int) :=
  (zyr low high ((s65 a).list.Gates) ((s65 a).corners) ((s65 b).list.Gates) ((s65 b).corners))
def zyu (a:(Sl Gate)) (b:(Sl Gate)) (low:Int) (high:Int):Bool :=
  (decide ((p65 a=true)) &&
 (decide ((p65 b=true)) &&
 (zys low high ((s65 a).list.Gates) ((s65 a).corners) ((s65 b).list.Gates) ((s65 b).corners))))
theorem zGf (hs:zyu a b low high=true) (hk:K (e19 (zyt a b low high))):z19 K [1,0,1,1] [] ⟨[(0,zS enc_55 3 a),(1,zS enc_55 3 b),(2,zI low),(3,zI high),(9,zp 9 0),(10,zp 10 0),(12,zp 12 0)],[(9,.box 25 (zm (zah (⟨(0:Int),(0:Int)⟩:Frac)))),(10,.box 25 (zm (zah (⟨(0:Int),(0:Int)⟩:Frac)))),(12,.box 25 (zm (zah (⟨(0:Int),(0:Int)⟩:Frac))))],[]⟩:=zaH (by kernel_rfl) (zaE hs fun hc hs=>And.intro (And.intro (zE enc_55 3 a.get) hc) (zaE hs fun hc hs=>And.intro (And.intro (zE enc_55 3 b.get) hc) (zGa hs hk rfl rfl rfl rfl)))
def zi3 (a:(Sl Gate)) (b:(Sl Gate)) (low:Int) (high:Int) (zsf:Bool):(Int×Frac×Frac×Int) :=
  (cond zsf
 ((0:Int),(⟨(0:Int),(0:Int)⟩:Frac),(⟨(0:Int),(0:Int)⟩:Frac),(2:Int))
 (zyt a b low high))
def zi4 (a:(Sl Gate)) (b:(Sl Gate)) (low:Int) (high:Int) (zsf:Bool):Bool :=
  (cond zsf
 true
 (zyu a b low high))
theorem zlA (hs:zi4 a b low high zsf=true) (hk:K (e19 (zi3 a b low high zsf))):z19 K [1,0,1,0,1] [] ⟨[(0,zS enc_55 3 a),(1,zS enc_55 3 b),(2,zI low),(3,zI high),(9,zp 9 0),(10,zp 10 0),(12,zp 12 0),(44,zB zsf)],[(9,.box 25 (zm (zah (⟨(0:Int),(0:Int)⟩:Frac)))),(10,.box 25 (zm (zah (⟨(0:Int),(0:Int)⟩:Frac)))),(12,.box 25 (zm (zah (⟨(0:Int),(0:Int)⟩:Frac))))],[]⟩:=zaH (by kernel_rfl) (zc hs hk (fun hs hk=>hk) (fun hs hk=>(zGf hs hk)))
def s19 (a:(Sl Gate)) (b:(Sl Gate)) (low:Int) (high:Int):(Int×Frac×Frac×Int) :=
  (cond (decide (low < (-100000:Int)))
 (zi3 a b low high true)
 (cond (decide (low > high))
 (zi3 a b low high true)
 (cond (decide (high > (200000:Int)))
 (zi3 a b low high true)
 (cond (!(s64 a))
 (zi3 a b low high true)
 (zi3 a b low high (!(s64 b)))))))
def p19 (a:(Sl Gate)) (b:(Sl Gate)) (low:Int) (high:Int):Bool :=
  (cond (decide (low < (-100000:Int)))
 (zi4 a b low high true)
 (cond (decide (low > high))
 (zi4 a b low high true)
 (cond (decide (high > (200000:Int)))
 (zi4 a b low high true)
 (decide ((p64 a=true)) &&
 (cond (!(s64 a))
 (zi4 a b low high true)
 (decide ((p64 b=true)) &&
 (zi4 a b low high (!(s64 b)))))))))
end
theorem q19 (a:(Sl Gate)) (b:(Sl Gate)) (low:Int) (high:Int) (K:List PA→Prop) (hs:p19 a b low high=true) (hk:K (e19 (s19 a b low high))):vcFun Try.prog G19 zF5 19 [.one (.sl a.len 3 (fun i=>enc_55 (a.get i))),.one (.sl b.len 3 (fun i=>enc_55 (b.get i))),.one (.int .i64 low),.one (.int .i64 high)] K :=
  zaH (by kernel_rfl) (zc hs hk (fun hs hk=>(zlA hs hk)) (fun hs hk=>(zc hs hk (fun hs hk=>(zlA hs hk)) (fun hs hk=>(zc hs hk (fun hs hk=>(zlA hs hk)) (fun hs hk=>(zaE hs fun hc hs=>And.intro (And.intro (zE enc_55 3 a.get) hc) (zc hs hk (fun hs hk=>(zlA hs hk)) (fun hs hk=>(zaE hs fun hc hs=>And.intro (And.intro (zE enc_55 3 b.get) hc) (zlA hs hk)))))))))))
def zGg : List PA → COut
  | [.one (.sl a0_n a0_s a0_g),.one (.sl a1_n a1_s a1_g),.one (.int .i64 a2),.one (.int .i64 a3)]=>.det (IsE enc_55 3 a0_s a0_g∧IsE enc_55 3 a1_s a1_g∧p19 (⟨a0_n,zaf a0_g⟩:(Sl Gate)) (⟨a1_n,zaf a1_g⟩:(Sl Gate)) a2 a3=true) [.one (.int .i64 ((s19 (⟨a0_n,zaf a0_g⟩:(Sl Gate)) (⟨a1_n,zaf a1_g⟩:(Sl Gate)) a2 a3).1)),.agg [.int .i64 (((s19 (⟨a0_n,zaf a0_g⟩:(Sl Gate)) (⟨a1_n,zaf a1_g⟩:(Sl Gate)) a2 a3).2.1).Num),.int .i64 (((s19 (⟨a0_n,zaf a0_g⟩:(Sl Gate)) (⟨a1_n,zaf a1_g⟩:(Sl Gate)) a2 a3).2.1).Den)],.agg [.int .i64 (((s19 (⟨a0_n,zaf a0_g⟩:(Sl Gate)) (⟨a1_n,zaf a1_g⟩:(Sl Gate)) a2 a3).2.2.1).Num),.int .i64 (((s19 (⟨a0_n,zaf a0_g⟩:(Sl Gate)) (⟨a1_n,zaf a1_g⟩:(Sl Gate)) a2 a3).2.2.1).Den)],.one (.int .i64 ((s19 (⟨a0_n,zaf a0_g⟩:(Sl Gate)) (⟨a1_n,zaf a1_g⟩:(Sl Gate)) a2 a3).2.2.2))]
  | _=>.no
theorem zKx:zak Try.prog 19:=⟨_,rfl,rfl,by kernel_rfl⟩
theorem zPZ:Ok Try.prog 19 zGg:=zaU zNw zKx fun args K h=>by
  unfold zGg at h
  split at h
  · rename_i a0_n a0_s a0_g a1_n a1_s a1_g a2 a3
    obtain ⟨⟨⟨rfl,a0_f,rfl⟩,⟨rfl,a1_f,rfl⟩,hs⟩,hk⟩:=h
    try rw [zae a0_f] at hs
    try rw [zae a0_f] at hk
    try rw [zae a1_f] at hs
    try rw [zae a1_f] at hk
    exact ⟨(fun _ _=>[]),(fun _=>false),zF5,q19 (⟨a0_n,a0_f⟩:(Sl Gate)) (⟨a1_n,a1_f⟩:(Sl Gate)) a2 a3 K hs hk⟩
  · exact h.elim
abbrev T76:Tabs:=Tabs.nil
theorem zNx:TabsOk Try.prog T76:=TabsOk.nil
abbrev G76:Ctrs:=csm T76 (fun _ _=>[]) (fun _=>false)
def zKz:Ann:=⟨11,[(0,zK [1,2] [2]),(1,zK [3] [])],
 [],
 [],
 [],[]⟩
abbrev R76:=Bool
abbrev e76 (r:R76):List PA:=[.one (.bool r)]
section
variable {K:List PA→Prop} {c0:Int} {l_a0:list}
def s76 (c0:Int) (l_a0:list):Bool :=
  ((l_a0.Gates.get 0).Z == c0)
def p76 (c0:Int) (l_a0:list):Bool :=
  (decide ((0≤(0:Int)∧(0:Int) < (l_a0.Gates.len:Int))) &&
 true)
end
theorem q76 (c0:Int) (l_a0:list) (K:List PA→Prop) (hs:p76 c0 l_a0=true) (hk:K (e76 (s76 c0 l_a0))):vcFun Try.prog G76 zKz 76 [.agg (zcH l_a0),.one (.fp (enc_3 c0) 0)] K :=
  zaH (by kernel_rfl) (zaE hs fun hc hs=>And.intro hc hk)
def zGh : List PA → COut
  | [.agg [.sl a0_Gates_n a0_Gates_s a0_Gates_g],.one (.fp [.int .i64 c0] 0)]=>.det (IsE enc_55 3 a0_Gates_s a0_Gates_g∧p76 c0 (⟨(⟨a0_Gates_n,zaf a0_Gates_g⟩:(Sl Gate))⟩:list)=true) [.one (.bool (s76 c0 (⟨(⟨a0_Gates_n,zaf a0_Gates_g⟩:(Sl Gate))⟩:list)))]
  | _=>.no
theorem zKA:zak Try.prog 76:=⟨_,rfl,rfl,by kernel_rfl⟩
theorem zP0:Ok Try.prog 76 zGh:=zaU zNx zKA fun args K h=>by
  unfold zGh at h
  split at h
  · rename_i a0_Gates_n a0_Gates_s a0_Gates_g c0
    obtain ⟨⟨⟨rfl,a0_Gates_f,rfl⟩,hs⟩,hk⟩:=h
    try rw [zae a0_Gates_f] at hs
    try rw [zae a0_Gates_f] at hk
    exact ⟨(fun _ _=>[]),(fun _=>false),zKz,q76 c0 (⟨(⟨a0_Gates_n,a0_Gates_f⟩:(Sl Gate))⟩:list) K hs hk⟩
  · exact h.elim
abbrev T77:Tabs:=Tabs.nil
theorem zNy:TabsOk Try.prog T77:=TabsOk.nil
abbrev G77:Ctrs:=csm T77 (fun _ _=>[]) (fun _=>false)
def zKB:Ann:=⟨3,[(0,zK [] []),(1,zK [2] [])],
 [],
 [],
 [],[]⟩
abbrev R77:=Bool
abbrev e77 (r:R77):List PA:=[.one (.bool r)]
section
variable {K:List PA→Prop} {a0_a0:list}
def s77 (a0_a0:list):Bool :=
  false
end
theorem q77 (a0_a0:list) (K:List PA→Prop) (hk:K (e77 (s77 a0_a0))):vcFun Try.prog G77 zKB 77 [.agg (zcH a0_a0)] K :=
  zaH (by kernel_rfl) hk
def zGi : List PA → COut
  | [.agg [.sl a0_Gates_n a0_Gates_s a0_Gates_g]]=>.det (IsE enc_55 3 a0_Gates_s a0_Gates_g) [.one (.bool (s77 (⟨(⟨a0_Gates_n,zaf a0_Gates_g⟩:(Sl Gate))⟩:list)))]
  | _=>.no
theorem zKC:zak Try.prog 77:=⟨_,rfl,rfl,by kernel_rfl⟩
theorem zP1:Ok Try.prog 77 zGi:=zaU zNy zKC fun args K h=>by
  unfold zGi at h
  split at h
  · rename_i a0_Gates_n a0_Gates_s a0_Gates_g
    obtain ⟨⟨rfl,a0_Gates_f,rfl⟩,hk⟩:=h
    try rw [zae a0_Gates_f] at hk
    exact ⟨(fun _ _=>[]),(fun _=>false),zKB,q77 (⟨(⟨a0_Gates_n,a0_Gates_f⟩:(Sl Gate))⟩:list) K hk⟩
  · exact h.elim
abbrev T88:Tabs:=Tabs.nil
theorem zNz:TabsOk Try.prog T88:=TabsOk.nil
abbrev G88:Ctrs:=csm T88 (fun _ _=>[]) (fun _=>false)
def zKD:Ann:=⟨3,[(0,zK [] []),(1,zK [2] [])],
 [],
 [],
 [],[]⟩
abbrev R88:=Bool
abbrev e88 (r:R88):List PA:=[.one (.bool r)]
section
variable {K:List PA→Prop} {a0_a0:list}
def s88 (a0_a0:list):Bool :=
  true
end
theorem q88 (a0_a0:list) (K:List PA→Prop) (hk:K (e88 (s88 a0_a0))):vcFun Try.prog G88 zKD 88 [.agg (zcH a0_a0)] K :=
  zaH (by kernel_rfl) hk
def zGj : List PA → COut
  | [.agg [.sl a0_Gates_n a0_Gates_s a0_Gates_g]]=>.det (IsE enc_55 3 a0_Gates_s a0_Gates_g) [.one (.bool (s88 (⟨(⟨a0_Gates_n,zaf a0_Gates_g⟩:(Sl Gate))⟩:list)))]
  | _=>.no
theorem zKE:zak Try.prog 88:=⟨_,rfl,rfl,by kernel_rfl⟩
theorem zP2:Ok Try.prog 88 zGj:=zaU zNz zKE fun args K h=>by
  unfold zGj at h
  split at h
  · rename_i a0_Gates_n a0_Gates_s a0_Gates_g
    obtain ⟨⟨rfl,a0_Gates_f,rfl⟩,hk⟩:=h
    try rw [zae a0_Gates_f] at hk
    exact ⟨(fun _ _=>[]),(fun _=>false),zKD,q88 (⟨(⟨a0_Gates_n,a0_Gates_f⟩:(Sl Gate))⟩:list) K hk⟩
  · exact h.elim
abbrev T75:Tabs:=(((((((Tabs.nil.addF 64 zvo).addF 65 zxz).addF 66 zxG).addF 67 zrY).addF 76 zGh).addF 77 zGi).addF 88 zGj)
theorem zNA:TabsOk Try.prog T75:=(((((((TabsOk.nil.addF zL8).addF zNd).addF zNg).addF zJX).addF zP0).addF zP1).addF zP2)
abbrev G75:Ctrs:=csm T75 (fun _ _=>[]) (fun _=>false)
def zGk:Ann:=⟨31,[(0,zK [0,1,4] [4]),(1,zK [0,1,4,9] [4]),(2,zK [4,5] [4]),(3,zK [1,4,6] [4,6]),(4,zK [1,4,6,13] [4,6]),(5,zK [4,5] [4]),(6,zK [4,6,18] [4,6]),(7,zK [4,5] [4]),(8,zK [4,5] [4])],
 [],
 [(3,zK [0,1,4] [4])],
 [],[]⟩
abbrev R75:=(set×Int)
abbrev e75 (r:R75):List PA:=[.agg [.sl r.1.list.Gates.len 3 (fun i=>enc_55 (r.1.list.Gates.get i)),.sl r.1.corners.len 3 (fun i=>zaj (r.1.corners.get i))],.one (.int .i64 r.2)]
@[irreducible] def z75:=ptF Try.prog G75 zGk Try.f75
section
variable {K:List PA→Prop} {zaa:(Sl Gate)}
def zyv (zaa:(Sl Gate)):(set×Int) :=
  (cond (!(s66 (s65 zaa)))
 ((⟨(⟨(⟨0,fun _=>default⟩:(Sl Gate))⟩:list),(⟨0,fun _=>default⟩:(Sl straight))⟩:set),(5:Int))
 (cond (s67 ((s65 zaa).list))
 (cond (!(s77 ((s65 zaa).list)))
 ((⟨(⟨(⟨0,fun _=>default⟩:(Sl Gate))⟩:list),(⟨0,fun _=>default⟩:(Sl straight))⟩:set),(6:Int))
 ((s65 zaa),(0:Int)))
 ((s65 zaa),(0:Int))))
def zyw (zaa:(Sl Gate)):Bool :=
  (decide ((p65 zaa=true)) &&
 (decide ((p66 (s65 zaa)=true)) &&
 (cond (!(s66 (s65 zaa)))
 true
 (decide ((p67 ((s65 zaa).list)=true)) &&
 true))))
theorem zGl (hs:zyw zaa=true) (hk:K (e75 (zyv zaa))):z75 (Wk K) [1,1] [] ⟨[(0,zS enc_55 3 zaa),(1,zP (.fn 77 [] [])),(4,zp 4 0)],[(4,.box 104 [.p (.nils),.p (.nils)])],[]⟩:=zaH (by kernel_rfl) (zaE hs fun hc hs=>And.intro (And.intro (zE enc_55 3 zaa.get) hc) (zaE hs fun hc hs=>And.intro (And.intro (zE enc_55 3 ((s65 zaa).list.Gates.get)) (And.intro (zE zaj 3 ((s65 zaa).corners.get)) hc)) (zc hs hk (fun hs hk=>((wk hk (zdt (.agg (zdt (.nil _ _) (zdt (.nil _ _) zhG))) (zdt (.one (.rfl _)) zhG))):Wk K [.agg [.nils,.nils],.one (.int .i64 (5:Int))])) (fun hs hk=>(zaE hs fun hc hs=>And.intro (And.intro (zE enc_55 3 ((s65 zaa).list.Gates.get)) hc) (zt hk (fun hk=>(And.intro (zE enc_55 3 ((s65 zaa).list.Gates.get)) (zt hk (fun hk=>((wk hk (zdt (.agg (zdt (.nil _ _) (zdt (.nil _ _) zhG))) (zdt (.one (.rfl _)) zhG))):Wk K [.agg [.nils,.nils],.one (.int .i64 (6:Int))])) (fun hk=>((zdW hk):Wk K [.agg [.sl ((s65 zaa).list.Gates.len) 3 (fun i=>enc_55 ((s65 zaa).list.Gates.get i)),.sl ((s65 zaa).corners.len) 3 (fun i=>zaj ((s65 zaa).corners.get i))],.one (.int .i64 (0:Int))]))))) (fun hk=>((zdW hk):Wk K [.agg [.sl ((s65 zaa).list.Gates.len) 3 (fun i=>enc_55 ((s65 zaa).list.Gates.get i)),.sl ((s65 zaa).corners.len) 3 (fun i=>zaj ((s65 zaa).corners.get i))],.one (.int .i64 (0:Int))]))))))))
def s75 (zaa:(Sl Gate)):(set×Int) :=
  (cond (!(s64 zaa))
 ((⟨(⟨(⟨0,fun _=>default⟩:(Sl Gate))⟩:list),(⟨0,fun _=>default⟩:(Sl straight))⟩:set),(2:Int))
 (zyv zaa))
def p75 (zaa:(Sl Gate)):Bool :=
  (decide ((p64 zaa=true)) &&
 (cond (!(s64 zaa))
 true
 (zyw zaa)))
end
theorem q75 (zaa:(Sl Gate)) (K:List PA→Prop) (hs:p75 zaa=true) (hk:K (e75 (s75 zaa))):vcFun Try.prog G75 zGk 75 [.one (.sl zaa.len 3 (fun i=>enc_55 (zaa.get i))),.one (.fn 77 [] [])] (Wk K) :=
  zaH (by kernel_rfl) (zaE hs fun hc hs=>And.intro (And.intro (zE enc_55 3 zaa.get) hc) (zc hs hk (fun hs hk=>((wk hk (zdt (.agg (zdt (.nil _ _) (zdt (.nil _ _) zhG))) (zdt (.one (.rfl _)) zhG))):Wk K [.agg [.nils,.nils],.one (.int .i64 (2:Int))])) (fun hs hk=>(zGl hs hk))))
abbrev zOM:Ctrs:=csm T75 (fun _ _=>[]) (fun _=>false)
def zyx:Ann:=⟨31,[(0,zK [0,1,4] [4]),(1,zK [0,1,4,9] [4]),(2,zK [4,5] [4]),(3,zK [1,4,6] [4,6]),(4,zK [1,4,6,13] [4,6]),(5,zK [4,5] [4]),(6,zK [4,6,18] [4,6]),(7,zK [4,5] [4]),(8,zK [4,5] [4])],
 [],
 [(3,zK [0,1,4] [4])],
 [],[]⟩
abbrev zP3:=(set×Int)
abbrev zON (r:zP3):List PA:=[.agg [.sl r.1.list.Gates.len 3 (fun i=>enc_55 (r.1.list.Gates.get i)),.sl r.1.corners.len 3 (fun i=>zaj (r.1.corners.get i))],.one (.int .i64 r.2)]
@[irreducible] def z75a:=ptF Try.prog zOM zyx Try.f75
section
variable {K:List PA→Prop} {c0:Int} {zaa:(Sl Gate)}
def zux (c0:Int) (zaa:(Sl Gate)):(set×Int) :=
  (cond (!(s66 (s65 zaa)))
 ((⟨(⟨(⟨0,fun _=>default⟩:(Sl Gate))⟩:list),(⟨0,fun _=>default⟩:(Sl straight))⟩:set),(5:Int))
 (cond (s67 ((s65 zaa).list))
 (cond (!(s76 c0 ((s65 zaa).list)))
 ((⟨(⟨(⟨0,fun _=>default⟩:(Sl Gate))⟩:list),(⟨0,fun _=>default⟩:(Sl straight))⟩:set),(6:Int))
 ((s65 zaa),(0:Int)))
 ((s65 zaa),(0:Int))))
def zuy (c0:Int) (zaa:(Sl Gate)):Bool :=
  (decide ((p65 zaa=true)) &&
 (decide ((p66 (s65 zaa)=true)) &&
 (cond (!(s66 (s65 zaa)))
 true
 (decide ((p67 ((s65 zaa).list)=true)) &&
 (cond (s67 ((s65 zaa).list))
 (decide ((p76 c0 ((s65 zaa).list)=true)) &&
 true)
 true)))))
theorem zCj (hs:zuy c0 zaa=true) (hk:K (zON (zux c0 zaa))):z75a (Wk K) [1,1] [] ⟨[(0,zS enc_55 3 zaa),(1,zP (.fn 76 [] [.fp (enc_3 c0) 0])),(4,zp 4 0)],[(4,.box 104 [.p (.nils),.p (.nils)])],[]⟩:=zaH (by kernel_rfl) (zaE hs fun hc hs=>And.intro (And.intro (zE enc_55 3 zaa.get) hc) (zaE hs fun hc hs=>And.intro (And.intro (zE enc_55 3 ((s65 zaa).list.Gates.get)) (And.intro (zE zaj 3 ((s65 zaa).corners.get)) hc)) (zc hs hk (fun hs hk=>((wk hk (zdt (.agg (zdt (.nil _ _) (zdt (.nil _ _) zhG))) (zdt (.one (.rfl _)) zhG))):Wk K [.agg [.nils,.nils],.one (.int .i64 (5:Int))])) (fun hs hk=>(zaE hs fun hc hs=>And.intro (And.intro (zE enc_55 3 ((s65 zaa).list.Gates.get)) hc) (zc hs hk (fun hs hk=>(zaE hs fun hc hs=>And.intro (And.intro (zE enc_55 3 ((s65 zaa).list.Gates.get)) hc) (zt hk (fun hk=>((wk hk (zdt (.agg (zdt (.nil _ _) (zdt (.nil _ _) zhG))) (zdt (.one (.rfl _)) zhG))):Wk K [.agg [.nils,.nils],.one (.int .i64 (6:Int))])) (fun hk=>((zdW hk):Wk K [.agg [.sl ((s65 zaa).list.Gates.len) 3 (fun i=>enc_55 ((s65 zaa).list.Gates.get i)),.sl ((s65 zaa).corners.len) 3 (fun i=>zaj ((s65 zaa).corners.get i))],.one (.int .i64 (0:Int))]))))) (fun hs hk=>((zdW hk):Wk K [.agg [.sl ((s65 zaa).list.Gates.len) 3 (fun i=>enc_55 ((s65 zaa).list.Gates.get i)),.sl ((s65 zaa).corners.len) 3 (fun i=>zaj ((s65 zaa).corners.get i))],.one (.int .i64 (0:Int))]))))))))
def zvw (c0:Int) (zaa:(Sl Gate)):(set×Int) :=
  (cond (!(s64 zaa))
 ((⟨(⟨(⟨0,fun _=>default⟩:(Sl Gate))⟩:list),(⟨0,fun _=>default⟩:(Sl straight))⟩:set),(2:Int))
 (zux c0 zaa))
def zNB (c0:Int) (zaa:(Sl Gate)):Bool :=
  (decide ((p64 zaa=true)) &&
 (cond (!(s64 zaa))
 true
 (zuy c0 zaa)))
end
theorem zP4 (c0:Int) (zaa:(Sl Gate)) (K:List PA→Prop) (hs:zNB c0 zaa=true) (hk:K (zON (zvw c0 zaa))):vcFun Try.prog zOM zyx 75 [.one (.sl zaa.len 3 (fun i=>enc_55 (zaa.get i))),.one (.fn 76 [] [.fp (enc_3 c0) 0])] (Wk K) :=
  zaH (by kernel_rfl) (zaE hs fun hc hs=>And.intro (And.intro (zE enc_55 3 zaa.get) hc) (zc hs hk (fun hs hk=>((wk hk (zdt (.agg (zdt (.nil _ _) (zdt (.nil _ _) zhG))) (zdt (.one (.rfl _)) zhG))):Wk K [.agg [.nils,.nils],.one (.int .i64 (2:Int))])) (fun hs hk=>(zCj hs hk))))
abbrev zOO:Ctrs:=csm T75 (fun _ _=>[]) (fun _=>false)
def zyy:Ann:=⟨31,[(0,zK [0,1,4] [4]),(1,zK [0,1,4,9] [4]),(2,zK [4,5] [4]),(3,zK [1,4,6] [4,6]),(4,zK [1,4,6,13] [4,6]),(5,zK [4,5] [4]),(6,zK [4,6,18] [4,6]),(7,zK [4,5] [4]),(8,zK [4,5] [4])],
 [],
 [(3,zK [0,1,4] [4])],
 [],[]⟩
abbrev zP5:=(set×Int)
abbrev zOP (r:zP5):List PA:=[.agg [.sl r.1.list.Gates.len 3 (fun i=>enc_55 (r.1.list.Gates.get i)),.sl r.1.corners.len 3 (fun i=>zaj (r.1.corners.get i))],.one (.int .i64 r.2)]
@[irreducible] def z75b:=ptF Try.prog zOO zyy Try.f75
section
variable {K:List PA→Prop} {zaa:(Sl Gate)}
def zuz (zaa:(Sl Gate)):(set×Int) :=
  (cond (!(s66 (s65 zaa)))
 ((⟨(⟨(⟨0,fun _=>default⟩:(Sl Gate))⟩:list),(⟨0,fun _=>default⟩:(Sl straight))⟩:set),(5:Int))
 (cond (s67 ((s65 zaa).list))
 (cond (!(s88 ((s65 zaa).list)))
 ((⟨(⟨(⟨0,fun _=>default⟩:(Sl Gate))⟩:list),(⟨0,fun _=>default⟩:(Sl straight))⟩:set),(6:Int))
 ((s65 zaa),(0:Int)))
 ((s65 zaa),(0:Int))))
def zuA (zaa:(Sl Gate)):Bool :=
  (decide ((p65 zaa=true)) &&
 (decide ((p66 (s65 zaa)=true)) &&
 (cond (!(s66 (s65 zaa)))
 true
 (decide ((p67 ((s65 zaa).list)=true)) &&
 true))))
theorem zCk (hs:zuA zaa=true) (hk:K (zOP (zuz zaa))):z75b (Wk K) [1,1] [] ⟨[(0,zS enc_55 3 zaa),(1,zP (.fn 88 [] [])),(4,zp 4 0)],[(4,.box 104 [.p (.nils),.p (.nils)])],[]⟩:=zaH (by kernel_rfl) (zaE hs fun hc hs=>And.intro (And.intro (zE enc_55 3 zaa.get) hc) (zaE hs fun hc hs=>And.intro (And.intro (zE enc_55 3 ((s65 zaa).list.Gates.get)) (And.intro (zE zaj 3 ((s65 zaa).corners.get)) hc)) (zc hs hk (fun hs hk=>((wk hk (zdt (.agg (zdt (.nil _ _) (zdt (.nil _ _) zhG))) (zdt (.one (.rfl _)) zhG))):Wk K [.agg [.nils,.nils],.one (.int .i64 (5:Int))])) (fun hs hk=>(zaE hs fun hc hs=>And.intro (And.intro (zE enc_55 3 ((s65 zaa).list.Gates.get)) hc) (zt hk (fun hk=>(And.intro (zE enc_55 3 ((s65 zaa).list.Gates.get)) (zt hk (fun hk=>((wk hk (zdt (.agg (zdt (.nil _ _) (zdt (.nil _ _) zhG))) (zdt (.one (.rfl _)) zhG))):Wk K [.agg [.nils,.nils],.one (.int .i64 (6:Int))])) (fun hk=>((zdW hk):Wk K [.agg [.sl ((s65 zaa).list.Gates.len) 3 (fun i=>enc_55 ((s65 zaa).list.Gates.get i)),.sl ((s65 zaa).corners.len) 3 (fun i=>zaj ((s65 zaa).corners.get i))],.one (.int .i64 (0:Int))]))))) (fun hk=>((zdW hk):Wk K [.agg [.sl ((s65 zaa).list.Gates.len) 3 (fun i=>enc_55 ((s65 zaa).list.Gates.get i)),.sl ((s65 zaa).corners.len) 3 (fun i=>zaj ((s65 zaa).corners.get i))],.one (.int .i64 (0:Int))]))))))))
def zIK (zaa:(Sl Gate)):(set×Int) :=
  (cond (!(s64 zaa))
 ((⟨(⟨(⟨0,fun _=>default⟩:(Sl Gate))⟩:list),(⟨0,fun _=>default⟩:(Sl straight))⟩:set),(2:Int))
 (zuz zaa))
def zOQ (zaa:(Sl Gate)):Bool :=
  (decide ((p64 zaa=true)) &&
 (cond (!(s64 zaa))
 true
 (zuA zaa)))
end
theorem zP6 (zaa:(Sl Gate)) (K:List PA→Prop) (hs:zOQ zaa=true) (hk:K (zOP (zIK zaa))):vcFun Try.prog zOO zyy 75 [.one (.sl zaa.len 3 (fun i=>enc_55 (zaa.get i))),.one (.fn 88 [] [])] (Wk K) :=
  zaH (by kernel_rfl) (zaE hs fun hc hs=>And.intro (And.intro (zE enc_55 3 zaa.get) hc) (zc hs hk (fun hs hk=>((wk hk (zdt (.agg (zdt (.nil _ _) (zdt (.nil _ _) zhG))) (zdt (.one (.rfl _)) zhG))):Wk K [.agg [.nils,.nils],.one (.int .i64 (2:Int))])) (fun hs hk=>(zCk hs hk))))
def zCl : List PA → COut
  | [.one (.sl a0_n a0_s a0_g),.one (.fn 77 [] [])]=>.det (IsE enc_55 3 a0_s a0_g∧p75 (⟨a0_n,zaf a0_g⟩:(Sl Gate))=true) [.agg [.sl (((s75 (⟨a0_n,zaf a0_g⟩:(Sl Gate))).1).list.Gates.len) 3 (fun i=>enc_55 (((s75 (⟨a0_n,zaf a0_g⟩:(Sl Gate))).1).list.Gates.get i)),.sl (((s75 (⟨a0_n,zaf a0_g⟩:(Sl Gate))).1).corners.len) 3 (fun i=>zaj (((s75 (⟨a0_n,zaf a0_g⟩:(Sl Gate))).1).corners.get i))],.one (.int .i64 ((s75 (⟨a0_n,zaf a0_g⟩:(Sl Gate))).2))]
  | [.one (.sl a0_n a0_s a0_g),.one (.fn 76 [] [.fp [.int .i64 c0] 0])]=>.det (IsE enc_55 3 a0_s a0_g∧zNB c0 (⟨a0_n,zaf a0_g⟩:(Sl Gate))=true) [.agg [.sl (((zvw c0 (⟨a0_n,zaf a0_g⟩:(Sl Gate))).1).list.Gates.len) 3 (fun i=>enc_55 (((zvw c0 (⟨a0_n,zaf a0_g⟩:(Sl Gate))).1).list.Gates.get i)),.sl (((zvw c0 (⟨a0_n,zaf a0_g⟩:(Sl Gate))).1).corners.len) 3 (fun i=>zaj (((zvw c0 (⟨a0_n,zaf a0_g⟩:(Sl Gate))).1).corners.get i))],.one (.int .i64 ((zvw c0 (⟨a0_n,zaf a0_g⟩:(Sl Gate))).2))]
  | [.one (.sl a0_n a0_s a0_g),.one (.fn 88 [] [])]=>.det (IsE enc_55 3 a0_s a0_g∧zOQ (⟨a0_n,zaf a0_g⟩:(Sl Gate))=true) [.agg [.sl (((zIK (⟨a0_n,zaf a0_g⟩:(Sl Gate))).1).list.Gates.len) 3 (fun i=>enc_55 (((zIK (⟨a0_n,zaf a0_g⟩:(Sl Gate))).1).list.Gates.get i)),.sl (((zIK (⟨a0_n,zaf a0_g⟩:(Sl Gate))).1).corners.len) 3 (fun i=>zaj (((zIK (⟨a0_n,zaf a0_g⟩:(Sl Gate))).1).corners.get i))],.one (.int .i64 ((zIK (⟨a0_n,zaf a0_g⟩:(Sl Gate))).2))]
  | _=>.no
theorem zKF:zak Try.prog 75:=⟨_,rfl,rfl,by kernel_rfl⟩
theorem zOR:Ok Try.prog 75 zCl:=zfT zNA zKF fun args K h=>by
  unfold zCl at h
  split at h
  · rename_i a0_n a0_s a0_g
    obtain ⟨⟨⟨rfl,a0_f,rfl⟩,hs⟩,hk⟩:=h
    try rw [zae a0_f] at hs
    try rw [zae a0_f] at hk
    exact ⟨_,zeT zfB _,(fun _ _=>[]),(fun _=>false),zGk,q75 (⟨a0_n,a0_f⟩:(Sl Gate)) K hs hk⟩
  · rename_i a0_n a0_s a0_g c0
    obtain ⟨⟨⟨rfl,a0_f,rfl⟩,hs⟩,hk⟩:=h
    try rw [zae a0_f] at hs
    try rw [zae a0_f] at hk
    exact ⟨_,zeT zfB _,(fun _ _=>[]),(fun _=>false),zyx,zP4 c0 (⟨a0_n,a0_f⟩:(Sl Gate)) K hs hk⟩
  · rename_i a0_n a0_s a0_g
    obtain ⟨⟨⟨rfl,a0_f,rfl⟩,hs⟩,hk⟩:=h
    try rw [zae a0_f] at hs
    try rw [zae a0_f] at hk
    exact ⟨_,zeT zfB _,(fun _ _=>[]),(fun _=>false),zyy,zP6 (⟨a0_n,a0_f⟩:(Sl Gate)) K hs hk⟩
  · exact h.elim
abbrev T30:Tabs:=(((Tabs.nil.addF 68 zCf).addF 74 zny).addF 75 zCl)
theorem zNC:TabsOk Try.prog T30:=(((TabsOk.nil.addF zOL).addF zER).addF zOR)
abbrev G30:Ctrs:=csm T30 (fun _ _=>[]) (fun _=>false)
def zGm:Ann:=⟨35,[(0,zK [0,3,4,5] [3,4,5]),(1,zK [0,3,4,5,13] [3,4,5]),(2,zK [4,5,6] [4,5]),(3,zK [3,4,5,7,8] [3,4,5,7]),(4,zK [3,4,5,7,8,23] [3,4,5,7]),(5,zK [4,5,6] [4,5]),(6,zK [4,5,9,10] [4,5,9,10]),(7,zK [4,5,6] [4,5])],
 [],
 [(2,zK [0,3,4,5,13] [3,4,5]),(3,zK [0,3,4,5] [3,4,5]),(4,zK [3,4,5,7,8] [3,4,5,7]),(6,zK [3,4,5,7] [3,4,5,7]),(7,zK [4,5,9,10] [4,5,9,10])],
 [],[]⟩
abbrev R30:=(Frac×Frac×Int)
abbrev e30 (r:R30):List PA:=[.agg [.int .i64 r.1.Num,.int .i64 r.1.Den],.agg [.int .i64 r.2.1.Num,.int .i64 r.2.1.Den],.one (.int .i64 r.2.2)]
@[irreducible] def z30:=ptF Try.prog G30 zGm Try.f30
section
variable {K:List PA→Prop} {zaa:(Sl Gate)} {z:Int} {zso:Bool} {ev2:Int} {zqm:(Sl Gate)} {zqn:(Sl straight)} {zyz:Nat→List PV} {zyA:Nat→List PV} {zjP:(Sl Gate)} {zjQ:(Sl straight)} {zyB:Nat→List PV} {zyC:Nat→List PV} {zn7:Int} {zn8:Int} {zj4:Int} {zj5:Int}
def zyD (zn7:Int) (zn8:Int) (zj4:Int) (zj5:Int):(Frac×Frac×Int) :=
  ((⟨zn7,zn8⟩:Frac),(⟨zj4,zj5⟩:Frac),(0:Int))
theorem zGn (hk:K (e30 (zyD zn7 zn8 zj4 zj5))):z30 K [1,1,1,1,1] [] ⟨[(4,zp 4 0),(5,zp 5 0),(9,zp 9 0),(10,zp 10 0)],[(4,.box 25 (zm (zah (⟨(0:Int),(0:Int)⟩:Frac)))),(5,.box 25 (zm (zah (⟨(0:Int),(0:Int)⟩:Frac)))),(9,.box 25 (zm (zah (⟨zn7,zn8⟩:Frac)))),(10,.box 25 (zm (zah (⟨zj4,zj5⟩:Frac))))],[]⟩:=zaH (by kernel_rfl) hk
def zyE (z:Int) (zjP:(Sl Gate)) (zjQ:(Sl straight)):(Frac×Frac×Int) :=
  (zyD (((s68 (⟨(⟨zjP⟩:list),zjQ⟩:set) z).1).Num) (((s68 (⟨(⟨zjP⟩:list),zjQ⟩:set) z).1).Den) (((s68 (⟨(⟨zjP⟩:list),zjQ⟩:set) z).2).Num) (((s68 (⟨(⟨zjP⟩:list),zjQ⟩:set) z).2).Den))
def zyF (z:Int) (zjP:(Sl Gate)) (zjQ:(Sl straight)):Bool :=
  (decide ((p68 (⟨(⟨zjP⟩:list),zjQ⟩:set) z=true)) &&
 true)
theorem zGo (hs:zyF z zjP zjQ=true) (hk:K (e30 (zyE z zjP zjQ))) (zGp:zyB=zg enc_55 zjP) (zGq:zyC=zg zaj zjQ):z30 K [1,1,1,1] [] ⟨[(3,zp 3 0),(4,zp 4 0),(5,zp 5 0),(7,zp 7 0)],[(3,.fbox [.int .i64 z]),(4,.box 25 (zm (zah (⟨(0:Int),(0:Int)⟩:Frac)))),(5,.box 25 (zm (zah (⟨(0:Int),(0:Int)⟩:Frac)))),(7,.box 104 [.p (.sl zjP.len 3 zyB),.p (.sl zjQ.len 3 zyC)])],[]⟩:=by subst zGp;subst zGq;exact zaH (by kernel_rfl) (zaE hs fun hc hs=>And.intro (And.intro (zE enc_55 3 zjP.get) (And.intro (zE zaj 3 zjQ.get) hc)) (zGn hk))
def zyG (z:Int) (ev2:Int) (zqm:(Sl Gate)) (zqn:(Sl straight)):(Frac×Frac×Int) :=
  (cond (ev2 != (0:Int))
 ((⟨(0:Int),(0:Int)⟩:Frac),(⟨(0:Int),(0:Int)⟩:Frac),ev2)
 (zyE z zqm zqn))
def zyH (z:Int) (ev2:Int) (zqm:(Sl Gate)) (zqn:(Sl straight)):Bool :=
  (cond (ev2 != (0:Int))
 true
 (zyF z zqm zqn))
theorem zGr (hs:zyH z ev2 zqm zqn=true) (hk:K (e30 (zyG z ev2 zqm zqn))) (zGs:zyz=zg enc_55 zqm) (zGt:zyA=zg zaj zqn):z30 K [1,1,1] [] ⟨[(3,zp 3 0),(4,zp 4 0),(5,zp 5 0),(7,zp 7 0),(8,zI ev2)],[(3,.fbox [.int .i64 z]),(4,.box 25 (zm (zah (⟨(0:Int),(0:Int)⟩:Frac)))),(5,.box 25 (zm (zah (⟨(0:Int),(0:Int)⟩:Frac)))),(7,.box 104 [.p (.sl zqm.len 3 zyz),.p (.sl zqn.len 3 zyA)])],[]⟩:=by subst zGs;subst zGt;exact zaH (by kernel_rfl) (zc hs hk (fun hs hk=>hk) (fun hs hk=>(zGo hs hk rfl rfl)))
def zyI (zaa:(Sl Gate)) (z:Int):(Frac×Frac×Int) :=
  (zyG z ((zvw z zaa).2) (((zvw z zaa).1).list.Gates) (((zvw z zaa).1).corners))
def zyJ (zaa:(Sl Gate)) (z:Int):Bool :=
  (decide ((zNB z zaa=true)) &&
 (zyH z ((zvw z zaa).2) (((zvw z zaa).1).list.Gates) (((zvw z zaa).1).corners)))
theorem zGu (hs:zyJ zaa z=true) (hk:K (e30 (zyI zaa z))):z30 K [1,1] [] ⟨[(0,zS enc_55 3 zaa),(3,zp 3 0),(4,zp 4 0),(5,zp 5 0)],[(3,.box 3 [zi z]),(4,.box 25 (zm (zah (⟨(0:Int),(0:Int)⟩:Frac)))),(5,.box 25 (zm (zah (⟨(0:Int),(0:Int)⟩:Frac))))],[]⟩:=zaH (by kernel_rfl) (zaE hs fun hc hs=>And.intro (And.intro (zE enc_55 3 zaa.get) hc) (zGr hs hk rfl rfl))
def zyK (zaa:(Sl Gate)) (z:Int) (zso:Bool):(Frac×Frac×Int) :=
  (cond zso
 ((⟨(0:Int),(0:Int)⟩:Frac),(⟨(0:Int),(0:Int)⟩:Frac),(2:Int))
 (zyI zaa z))
def zyL (zaa:(Sl Gate)) (z:Int) (zso:Bool):Bool :=
  (cond zso
 true
 (zyJ zaa z))
theorem zGv (hs:zyL zaa z zso=true) (hk:K (e30 (zyK zaa z zso))):z30 K [1,0,1] [] ⟨[(0,zS enc_55 3 zaa),(3,zp 3 0),(4,zp 4 0),(5,zp 5 0),(13,zB zso)],[(3,.box 3 [zi z]),(4,.box 25 (zm (zah (⟨(0:Int),(0:Int)⟩:Frac)))),(5,.box 25 (zm (zah (⟨(0:Int),(0:Int)⟩:Frac))))],[]⟩:=zaH (by kernel_rfl) (zc hs hk (fun hs hk=>hk) (fun hs hk=>(zGu hs hk)))
def s30 (zaa:(Sl Gate)) (z:Int):(Frac×Frac×Int) :=
  (zyK zaa z (!(s74 z (-100000:Int) (200000:Int))))
def p30 (zaa:(Sl Gate)) (z:Int):Bool :=
  (zyL zaa z (!(s74 z (-100000:Int) (200000:Int))))
end
theorem q30 (zaa:(Sl Gate)) (z:Int) (K:List PA→Prop) (hs:p30 zaa z=true) (hk:K (e30 (s30 zaa z))):vcFun Try.prog G30 zGm 30 [.one (.sl zaa.len 3 (fun i=>enc_55 (zaa.get i))),.one (.int .i64 z)] K :=
  zaH (by kernel_rfl) (zGv hs hk)
def zGw : List PA → COut
  | [.one (.sl a0_n a0_s a0_g),.one (.int .i64 a1)]=>.det (IsE enc_55 3 a0_s a0_g∧p30 (⟨a0_n,zaf a0_g⟩:(Sl Gate)) a1=true) [.agg [.int .i64 (((s30 (⟨a0_n,zaf a0_g⟩:(Sl Gate)) a1).1).Num),.int .i64 (((s30 (⟨a0_n,zaf a0_g⟩:(Sl Gate)) a1).1).Den)],.agg [.int .i64 (((s30 (⟨a0_n,zaf a0_g⟩:(Sl Gate)) a1).2.1).Num),.int .i64 (((s30 (⟨a0_n,zaf a0_g⟩:(Sl Gate)) a1).2.1).Den)],.one (.int .i64 ((s30 (⟨a0_n,zaf a0_g⟩:(Sl Gate)) a1).2.2))]
  | _=>.no
theorem zKG:zak Try.prog 30:=⟨_,rfl,rfl,by kernel_rfl⟩
theorem zP7:Ok Try.prog 30 zGw:=zaU zNC zKG fun args K h=>by
  unfold zGw at h
  split at h
  · rename_i a0_n a0_s a0_g a1
    obtain ⟨⟨⟨rfl,a0_f,rfl⟩,hs⟩,hk⟩:=h
    try rw [zae a0_f] at hs
    try rw [zae a0_f] at hk
    exact ⟨(fun _ _=>[]),(fun _=>false),zGm,q30 (⟨a0_n,a0_f⟩:(Sl Gate)) a1 K hs hk⟩
  · exact h.elim
abbrev zOS:Tabs:=Tabs.nil
theorem zKH:TabsOk Try.prog zOS:=TabsOk.nil
abbrev zOT:Ctrs:=csm zOS (fun _ _=>[]) (fun _=>false)
def zyM:Ann:=⟨8,[(0,⟨[0],[],[],[],[],[],[]⟩),(1,⟨[0,4],[],[],[],[],[],[]⟩),(2,⟨[2],[],[],[],[],[],[]⟩),(3,⟨[2],[5],[],[],[],[],[]⟩)],
 [],
 [],
 [],[]⟩
theorem zCm (n : Nat) (get : Nat → List PV) : zwO Try.prog zOT zyM 105 [.one (.sl n 3 get)] 118 3 24 n get =
  ((True)∧(∃ r1:Bool,(n ≠ 0→r1=false))∧∀ r1:Bool,(n ≠ 0→r1=false) →
 (zcM r1
 (True∧n=0)
 ((((0+n) * 24≤140737488355328∧0+n≤9223372036854775807)) ∧
 (True∧118=118∧3=3∧24=24∧(0+n)=n∧∀ i,i < n→(appG 0 (zd2 []) get) i=get i)))):=by kernel_rfl
abbrev zDu:OwnK:=.clone 118 3 24
theorem zGx:zak Try.prog 105:=⟨_,rfl,rfl,by kernel_rfl⟩
theorem zND:zm1 Try.prog 105 zDu:=zwR zKH zGx fun n get h1 h2=>by
  refine ⟨fun _ _=>[],fun _=>false,zyM,?_⟩
  show zwO Try.prog zOT zyM 105 _ _ _ _ _ _
  rw [zCm]
  refine ⟨trivial,⟨decide (n=0),fun h=>decide_eq_false h⟩,fun r1 hr=>?_⟩
  cases r1
  · refine ⟨⟨by omega,by omega⟩,trivial,rfl,rfl,rfl,Nat.zero_add n,fun i _=>rfl⟩
  · exact ⟨trivial,Classical.byContradiction fun h=>by simpa using hr h⟩
abbrev zDv:OwnK:=.sort 118 3 24
theorem zNE:zm1 Try.prog 106 zDv:=zwV Try.laysS106 rfl rfl rfl (fun h=>h) ⟨_,rfl,rfl,by kernel_rfl⟩
abbrev zOU:Tabs:=(Tabs.nil.addF 99 zxq)
theorem zKI:TabsOk Try.prog zOU:=(TabsOk.nil.addF zM1)
abbrev zP8:Ctrs:=csm zOU (fun _ _=>[]) (fun _=>false)
def zDw:Ann:=⟨10,[(0,zK [2,3] [2,3]),(1,zK [4] [])],
 [],
 [],
 [],[]⟩
abbrev zP9:=Bool
abbrev e108 (r:zP9):List PA:=[.one (.bool r)]
section
variable {K:List PA→Prop} {s:set} {x:straight}
def zDx (s:set) (x:straight):Bool :=
  (zMZ x s.list.Gates)
def zMk (s:set) (x:straight):Bool :=
  (decide ((zM0 x s.list.Gates=true)) &&
 true)
end
theorem zQa (s:set) (x:straight) (K:List PA→Prop) (hs:zMk s x=true) (hk:K (e108 (zDx s x))):vcFun Try.prog zP8 zDw 108 [.agg (zbg s),.agg (zaj x)] K :=
  zaH (by kernel_rfl) (zaE hs fun hc hs=>And.intro (And.intro (zE enc_55 3 s.list.Gates.get) hc) hk)
def zyN : List PA → COut
  | [.agg [.sl a0_list_Gates_n a0_list_Gates_s a0_list_Gates_g,.sl a0_corners_n a0_corners_s a0_corners_g],.agg [.int .i64 a1_slope,.int .i64 a1_start,.int .i64 a1_den]]=>.det (IsE enc_55 3 a0_list_Gates_s a0_list_Gates_g∧IsE zaj 3 a0_corners_s a0_corners_g∧zMk (⟨(⟨(⟨a0_list_Gates_n,zaf a0_list_Gates_g⟩:(Sl Gate))⟩:list),(⟨a0_corners_n,za6 a0_corners_g⟩:(Sl straight))⟩:set) (⟨a1_slope,a1_start,a1_den⟩:straight)=true) [.one (.bool (zDx (⟨(⟨(⟨a0_list_Gates_n,zaf a0_list_Gates_g⟩:(Sl Gate))⟩:list),(⟨a0_corners_n,za6 a0_corners_g⟩:(Sl straight))⟩:set) (⟨a1_slope,a1_start,a1_den⟩:straight)))]
  | _=>.no
theorem zGy:zak Try.prog 108:=⟨_,rfl,rfl,by kernel_rfl⟩
theorem zNF:Ok Try.prog 108 zyN:=zaU zKI zGy fun args K h=>by
  unfold zyN at h
  split at h
  · rename_i a0_list_Gates_n a0_list_Gates_s a0_list_Gates_g a0_corners_n a0_corners_s a0_corners_g a1_slope a1_start a1_den
    obtain ⟨⟨⟨rfl,a0_list_Gates_f,rfl⟩,⟨rfl,a0_corners_f,rfl⟩,hs⟩,hk⟩:=h
    try rw [zae a0_list_Gates_f] at hs
    try rw [zae a0_list_Gates_f] at hk
    try rw [za0 a0_corners_f] at hs
    try rw [za0 a0_corners_f] at hk
    exact ⟨(fun _ _=>[]),(fun _=>false),zDw,zQa (⟨(⟨(⟨a0_list_Gates_n,a0_list_Gates_f⟩:(Sl Gate))⟩:list),(⟨a0_corners_n,a0_corners_f⟩:(Sl straight))⟩:set) (⟨a1_slope,a1_start,a1_den⟩:straight) K hs hk⟩
  · exact h.elim
abbrev zOV:Tabs:=(((Tabs.nil.addF 69 zvt).addF 89 zvq).addF 108 zyN)
theorem zKJ:TabsOk Try.prog zOV:=(((TabsOk.nil.addF zMe).addF zMd).addF zNF)
abbrev zQb:Ctrs:=csm zOV (fun _ _=>[]) (fun _=>false)
def zDy:Ann:=⟨38,[(0,zK [2,3,4] [3,4]),(1,zK [3,4,6,7] [3,4]),(2,zK [6,7,8] []),(3,zK [6,7,8,26] []),(4,zK [5] []),(5,zK [7,8,32] []),(6,zK [5] []),(7,zK [8,34] []),(8,zK [5] []),(9,zK [5] [])],
 [],
 [],
 [],[]⟩
abbrev zQc:=Int
abbrev zQd (r:zQc):List PA:=[.one (.int .i64 r)]
section
variable {K:List PA→Prop} {c0:set} {a:straight} {b:straight}
def zMl (c0:set) (a:straight) (b:straight):Int :=
  (cond (zDx c0 a)
 (cond (zDx c0 b)
 (s69 (s89 a.slope a.den) (s89 b.slope b.den))
 (cond (zDx c0 a)
 (-1:Int)
 (cond (zDx c0 b)
 (1:Int)
 (w64 (0 - (s69 (s89 a.slope a.den) (s89 b.slope b.den)))))))
 (cond (zDx c0 a)
 (-1:Int)
 (cond (zDx c0 b)
 (1:Int)
 (w64 (0 - (s69 (s89 a.slope a.den) (s89 b.slope b.den)))))))
def zMm (c0:set) (a:straight) (b:straight):Bool :=
  (decide ((zMk c0 a=true)) &&
 (decide ((zMk c0 b=true)) &&
 (decide ((p89 a.slope a.den=true)) &&
 (decide ((p89 b.slope b.den=true)) &&
 true))))
end
theorem zQe (c0:set) (a:straight) (b:straight) (K:List PA→Prop) (hs:zMm c0 a b=true) (hk:K (zQd (zMl c0 a b))):vcFun Try.prog zQb zDy 107 [.agg (zaj a),.agg (zaj b),.one (.fp (zbg c0) 0)] K :=
  zaH (by kernel_rfl) (zaE hs fun hc hs=>And.intro (And.intro (zE enc_55 3 c0.list.Gates.get) (And.intro (zE zaj 3 c0.corners.get) hc)) (zaE hs fun hc hs=>And.intro (And.intro (zE enc_55 3 c0.list.Gates.get) (And.intro (zE zaj 3 c0.corners.get) hc)) (zaE hs fun hc hs=>And.intro hc (zaE hs fun hc hs=>And.intro hc (zt hk (fun hk=>(zt hk (fun hk=>hk) (fun hk=>(zt hk (fun hk=>hk) (fun hk=>(zt hk (fun hk=>hk) (fun hk=>hk))))))) (fun hk=>(zt hk (fun hk=>hk) (fun hk=>(zt hk (fun hk=>hk) (fun hk=>hk))))))))))
def zqo : List PA → COut
  | [.agg [.int .i64 a0_slope,.int .i64 a0_start,.int .i64 a0_den],.agg [.int .i64 a1_slope,.int .i64 a1_start,.int .i64 a1_den],.one (.fp [.sl c0_list_Gates_n c0_list_Gates_s c0_list_Gates_g,.sl c0_corners_n c0_corners_s c0_corners_g] 0)]=>.det (IsE enc_55 3 c0_list_Gates_s c0_list_Gates_g∧IsE zaj 3 c0_corners_s c0_corners_g∧zMm (⟨(⟨(⟨c0_list_Gates_n,zaf c0_list_Gates_g⟩:(Sl Gate))⟩:list),(⟨c0_corners_n,za6 c0_corners_g⟩:(Sl straight))⟩:set) (⟨a0_slope,a0_start,a0_den⟩:straight) (⟨a1_slope,a1_start,a1_den⟩:straight)=true) [.one (.int .i64 (zMl (⟨(⟨(⟨c0_list_Gates_n,zaf c0_list_Gates_g⟩:(Sl Gate))⟩:list),(⟨c0_corners_n,za6 c0_corners_g⟩:(Sl straight))⟩:set) (⟨a0_slope,a0_start,a0_den⟩:straight) (⟨a1_slope,a1_start,a1_den⟩:straight)))]
  | _=>.no
theorem zGz:zak Try.prog 107:=⟨_,rfl,rfl,by kernel_rfl⟩
theorem zNG:Ok Try.prog 107 zqo:=zaU zKJ zGz fun args K h=>by
  unfold zqo at h
  split at h
  · rename_i a0_slope a0_start a0_den a1_slope a1_start a1_den c0_list_Gates_n c0_list_Gates_s c0_list_Gates_g c0_corners_n c0_corners_s c0_corners_g
    obtain ⟨⟨⟨rfl,c0_list_Gates_f,rfl⟩,⟨rfl,c0_corners_f,rfl⟩,hs⟩,hk⟩:=h
    try rw [zae c0_list_Gates_f] at hs
    try rw [zae c0_list_Gates_f] at hk
    try rw [za0 c0_corners_f] at hs
    try rw [za0 c0_corners_f] at hk
    exact ⟨(fun _ _=>[]),(fun _=>false),zDy,zQe (⟨(⟨(⟨c0_list_Gates_n,c0_list_Gates_f⟩:(Sl Gate))⟩:list),(⟨c0_corners_n,c0_corners_f⟩:(Sl straight))⟩:set) (⟨a0_slope,a0_start,a0_den⟩:straight) (⟨a1_slope,a1_start,a1_den⟩:straight) K hs hk⟩
  · exact h.elim
abbrev T78:Tabs:=(((Tabs.nil.addO 105 zDu).addO 106 zDv).addF 107 zqo)
theorem zNH:TabsOk Try.prog T78:=(((TabsOk.nil.addO zND).addO zNE).addF zNG)
abbrev G78:Ctrs:=csm T78 (fun _ _=>[]) (fun _=>false)
def zKK:Ann:=⟨11,[(0,zK [1] [1]),(1,zK [1,3] [1,6]),(2,zK [3] [6]),(3,zK [2] [6])],
 [],
 [],
 [],[]⟩
abbrev R78:=(Sl straight)
abbrev e78 (r:R78):List PA:=[.one (.sl r.len 3 (fun i=>zaj (r.get i)))]
section
variable {K:List PA→Prop} {s:set}
def s78 (s:set):(Sl straight) :=
  (⟨s.corners.len,(zqQ s.corners.len (fun i j=>(zMl s (s.corners.get i) (s.corners.get j))) s.corners.get)⟩:(Sl straight))
def p78 (s:set):Bool :=
  (decide ((s.corners.len * 24≤140737488355328∧s.corners.len≤9223372036854775807)) &&
 (decide ((s.corners.len≤4611686018427387)∧(sortB s.corners.len (fun i j=>decide (zMm s (s.corners.get i) (s.corners.get j)=true)) (fun i j=>(zMl s (s.corners.get i) (s.corners.get j)))=true)) &&
 true))
end
theorem q78 (s:set) (K:List PA→Prop) (hs:p78 s=true) (hk:K (e78 (s78 s))):vcFun Try.prog G78 zKK 78 [.agg (zbg s)] K :=
  zaH (by kernel_rfl) (zaE hs fun hc hs=>And.intro hc (zaE hs fun hc hs=>And.intro (And.intro (hc.1) ((zBM (hc.2) (fun i j h=>(show IsE enc_55 3 3 (fun i=>enc_55 (s.list.Gates.get i))∧IsE zaj 3 3 (fun i=>zaj (s.corners.get i))∧(zMm s (s.corners.get i) (s.corners.get j)=true) from ⟨isE,isE,(of_decide_eq_true h)⟩)) rfl):(∀ i j,i < s.corners.len→j < s.corners.len→zIC (zqo) [.fp (zbg s) 0] true (fun i=>zaj (s.corners.get i)) i j)∧STO s.corners.len (zvy (zqo) [.fp (zbg s) 0] true (fun i=>zaj (s.corners.get i))))) hk))
def zGA : List PA → COut
  | [.agg [.sl a0_list_Gates_n a0_list_Gates_s a0_list_Gates_g,.sl a0_corners_n a0_corners_s a0_corners_g]]=>.det (IsE enc_55 3 a0_list_Gates_s a0_list_Gates_g∧IsE zaj 3 a0_corners_s a0_corners_g∧p78 (⟨(⟨(⟨a0_list_Gates_n,zaf a0_list_Gates_g⟩:(Sl Gate))⟩:list),(⟨a0_corners_n,za6 a0_corners_g⟩:(Sl straight))⟩:set)=true) [.one (.sl ((s78 (⟨(⟨(⟨a0_list_Gates_n,zaf a0_list_Gates_g⟩:(Sl Gate))⟩:list),(⟨a0_corners_n,za6 a0_corners_g⟩:(Sl straight))⟩:set)).len) 3 (fun i=>zaj ((s78 (⟨(⟨(⟨a0_list_Gates_n,zaf a0_list_Gates_g⟩:(Sl Gate))⟩:list),(⟨a0_corners_n,za6 a0_corners_g⟩:(Sl straight))⟩:set)).get i)))]
  | _=>.no
theorem zKL:zak Try.prog 78:=⟨_,rfl,rfl,by kernel_rfl⟩
theorem zQf:Ok Try.prog 78 zGA:=zaU zNH zKL fun args K h=>by
  unfold zGA at h
  split at h
  · rename_i a0_list_Gates_n a0_list_Gates_s a0_list_Gates_g a0_corners_n a0_corners_s a0_corners_g
    obtain ⟨⟨⟨rfl,a0_list_Gates_f,rfl⟩,⟨rfl,a0_corners_f,rfl⟩,hs⟩,hk⟩:=h
    try rw [zae a0_list_Gates_f] at hs
    try rw [zae a0_list_Gates_f] at hk
    try rw [za0 a0_corners_f] at hs
    try rw [za0 a0_corners_f] at hk
    exact ⟨(fun _ _=>[]),(fun _=>false),zKK,q78 (⟨(⟨(⟨a0_list_Gates_n,a0_list_Gates_f⟩:(Sl Gate))⟩:list),(⟨a0_corners_n,a0_corners_f⟩:(Sl straight))⟩:set) K hs hk⟩
  · exact h.elim
abbrev T31:Tabs:=(((Tabs.nil.addF 75 zCl).addF 78 zGA).addF 79 zB2)
theorem zNI:TabsOk Try.prog T31:=(((TabsOk.nil.addF zOR).addF zQf).addF zOx)
abbrev G31:Ctrs:=csm T31 (fun _ _=>[]) (fun _=>false)
def zGB:Ann:=⟨31,[(0,zK [0] []),(1,zK [4,5] [4]),(2,zK [4,5,15] [4]),(3,zK [2,3] []),(4,zK [4,6] [4]),(5,zK [6,18,19,20] []),(6,zK [6,18,19,20,21] [28]),(7,zK [6,8,18,19,20] [8,28]),(8,zK [6,18,19,20] [28]),(9,zK [6,18,19,20] [28]),(10,zK [2,3] [28])],
 [(6,⟨[6,18,19,20],[28],[(6,28,37,fun _=>zcl default)],[],[],[],[]⟩)],
 [(2,zK [4,5] [4]),(4,zK [4] [4]),(6,zK [6,18,19,20] [])],
 [],[]⟩
abbrev R31:=((Sl Line)×Int)
abbrev e31 (r:R31):List PA:=[.one (.sl r.1.len 4 (fun i=>zcl (r.1.get i))),.one (.int .i64 r.2)]
@[irreducible] def z31:=ptF Try.prog G31 zGB Try.f31
def zDz (zcN:(Sl straight)) (zc7:Int) (zdJ:Int) (zdm:(Sl Line)) (zgd:Nat→List PV):St:=⟨[(6,zv 28),(18,zS zaj 3 zcN),(19,zI zc7),(20,zI zdJ)],[(28,.vec 37 4 32 zdm.len zgd)],[]⟩
abbrev zKM (K:List PA→Prop) (zcN:(Sl straight)) (zc7:Int) (X:St→Prop) (P:Int→(Sl Line)→Bool) (S:Int→(Sl Line)→((Sl Line)×Int)):Prop:=∀ ⦃zdJ:Int⦄ ⦃zdm:(Sl Line)⦄ ⦃zgd:Nat→List PV⦄,P zdJ zdm=true→K (e31 (S zdJ zdm))→zgd=zg zcl zdm→X (zDz zcN zc7 zdJ zdm zgd)
section
variable {K:List PA→Prop} {zaa:(Sl Gate)} {ev0:Int} {zqp:(Sl Gate)} {zqq:(Sl straight)} {zyO:Nat→List PV} {zyP:Nat→List PV} {zjR:(Sl Gate)} {zjS:(Sl straight)} {zyQ:Nat→List PV} {zyR:Nat→List PV} {zcN:(Sl straight)} {zc7:Int} {zyS:Nat→List PV} {zdJ:Int} {zdm:(Sl Line)} {zgd:Nat→List PV} {X3:St→Prop} {P3:Int→(Sl Line)→Bool} {S3:Int→(Sl Line)→((Sl Line)×Int)}
def zyT (zcN:(Sl straight)) (zc7:Int) (S3:Int→(Sl Line)→((Sl Line)×Int)) (zdJ:Int) (zdm:(Sl Line)):((Sl Line)×Int) :=
  (cond (decide (zdJ < zc7))
 (S3 (w64 (zdJ+(1:Int))) (⟨(zdm.len+1),(zeD zdm.len zdm.get (fun _=>(s79 (zcN.get zdJ.toNat))))⟩:Sl Line))
 (zdm,(0:Int)))
def zyU (zcN:(Sl straight)) (zc7:Int) (P3:Int→(Sl Line)→Bool) (zdJ:Int) (zdm:(Sl Line)):Bool :=
  (cond (decide (zdJ < zc7))
 (decide ((0≤zdJ∧zdJ < (zcN.len:Int))) &&
 (decide ((p79 (zcN.get zdJ.toNat)=true)) &&
 (decide (((zdm.len+1) * 32≤140737488355328∧zdm.len+1≤9223372036854775807)) &&
 (P3 (w64 (zdJ+(1:Int))) (⟨(zdm.len+1),(zeD zdm.len zdm.get (fun _=>(s79 (zcN.get zdJ.toNat))))⟩:Sl Line)))))
 true)
def zyV (zcN:(Sl straight)) (zc7:Int):Nat→Int→(Sl Line)→((Sl Line)×Int):=lpO (fun _ _=>default) (zyT zcN zc7)
def zyW (zcN:(Sl straight)) (zc7:Int):Nat→Int→(Sl Line)→Bool:=lpO (fun _ _=>false) (zyU zcN zc7)
def zyX (zcN:(Sl straight)) (zc7:Int) (zdJ:Int) (zdm:(Sl Line)):((Sl Line)×Int):=zyV zcN zc7 Fuel zdJ zdm
def zyY (zcN:(Sl straight)) (zc7:Int) (zdJ:Int) (zdm:(Sl Line)):Bool:=zyW zcN zc7 Fuel zdJ zdm
theorem zGC (hs:zyY zcN zc7 zdJ zdm=true) (hk:K (e31 (zyX zcN zc7 zdJ zdm))) (zsp:zgd=zg zcl zdm):z31 (Wk K) [1,1,1,1,0,1,0] [] (zDz zcN zc7 zdJ zdm zgd) :=
  zl (fun X=>z31 (Wk K) [1,1,1,1,0,1,0,0] [X]) (by kernel_rfl) fun X3 hX =>
  (show ∀ k, zKM K zcN zc7 X3 (zyW zcN zc7 k) (zyV zcN zc7 k) from zgs _ _ (zyU zcN zc7) (zyT zcN zc7) (zKM K zcN zc7 X3)
 (by intro _ _ _ hs;exact absurd hs Bool.false_ne_true)
 (by intro P3 S3 hX3 zdJ zdm zgd hs hk zsp;subst zsp;exact hX _ (zaH (by kernel_rfl) (zc hs hk (fun hs hk=>(zaE hs fun hc hs=>And.intro hc (zaE hs fun hc hs=>And.intro hc (zaE hs fun hc hs=>And.intro hc (hX3 hs hk (zh2 (enc:=zcl) (f:=zdm.get) (h:=(fun _=>(s79 (zcN.get zdJ.toNat)))) rfl rfl)))))) (fun hs hk=>((zdW hk):Wk K [.one (.sl zdm.len 4 (fun i=>zcl (zdm.get i))),.one (.int .i64 (0:Int))])))))) _ hs hk zsp
def zyZ (zcN:(Sl straight)) (zc7:Int):((Sl Line)×Int) :=
  (zyX zcN zc7 (0:Int) (⟨0,(fun _=>default)⟩:Sl Line))
def zy0 (zcN:(Sl straight)) (zc7:Int):Bool :=
  (zyY zcN zc7 (0:Int) (⟨0,(fun _=>default)⟩:Sl Line))
theorem zGD (hs:zy0 zcN zc7=true) (hk:K (e31 (zyZ zcN zc7))) (zGE:zyS=zg zaj zcN):z31 (Wk K) [1,1,1,1,0,1] [] ⟨[(6,zP (.nils)),(18,zP (.sl zcN.len 3 zyS)),(19,zI zc7),(20,zI (0:Int))],[],[]⟩:=by subst zGE;exact zaH (by kernel_rfl) (zGC hs hk rfl)
def zy1 (zjR:(Sl Gate)) (zjS:(Sl straight)):((Sl Line)×Int) :=
  (zyZ (s78 (⟨(⟨zjR⟩:list),zjS⟩:set)) ((s78 (⟨(⟨zjR⟩:list),zjS⟩:set)).len:Int))
def zy2 (zjR:(Sl Gate)) (zjS:(Sl straight)):Bool :=
  (decide ((p78 (⟨(⟨zjR⟩:list),zjS⟩:set)=true)) &&
 (zy0 (s78 (⟨(⟨zjR⟩:list),zjS⟩:set)) ((s78 (⟨(⟨zjR⟩:list),zjS⟩:set)).len:Int)))
theorem zGF (hs:zy2 zjR zjS=true) (hk:K (e31 (zy1 zjR zjS))) (zGG:zyQ=zg enc_55 zjR) (zGH:zyR=zg zaj zjS):z31 (Wk K) [1,1,1] [] ⟨[(4,zp 4 0)],[(4,.box 104 [.p (.sl zjR.len 3 zyQ),.p (.sl zjS.len 3 zyR)])],[]⟩:=by subst zGG;subst zGH;exact zaH (by kernel_rfl) (zaE hs fun hc hs=>And.intro (And.intro (zE enc_55 3 zjR.get) (And.intro (zE zaj 3 zjS.get) hc)) (zGD hs hk rfl))
def zy3 (ev0:Int) (zqp:(Sl Gate)) (zqq:(Sl straight)):((Sl Line)×Int) :=
  (cond (ev0 != (0:Int))
 ((⟨0,fun _=>default⟩:(Sl Line)),ev0)
 (zy1 zqp zqq))
def zy4 (ev0:Int) (zqp:(Sl Gate)) (zqq:(Sl straight)):Bool :=
  (cond (ev0 != (0:Int))
 true
 (zy2 zqp zqq))
theorem zGI (hs:zy4 ev0 zqp zqq=true) (hk:K (e31 (zy3 ev0 zqp zqq))) (zGJ:zyO=zg enc_55 zqp) (zGK:zyP=zg zaj zqq):z31 (Wk K) [1,1] [] ⟨[(4,zp 4 0),(5,zI ev0)],[(4,.box 104 [.p (.sl zqp.len 3 zyO),.p (.sl zqq.len 3 zyP)])],[]⟩:=by subst zGJ;subst zGK;exact zaH (by kernel_rfl) (zc hs hk (fun hs hk=>((wk hk (zdt (.one (.nil _ _)) (zdt (.one (.rfl _)) zhG))):Wk K [.one (.nils),.one (.int .i64 ev0)])) (fun hs hk=>(zGF hs hk rfl rfl)))
def s31 (zaa:(Sl Gate)):((Sl Line)×Int) :=
  (zy3 ((s75 zaa).2) (((s75 zaa).1).list.Gates) (((s75 zaa).1).corners))
def p31 (zaa:(Sl Gate)):Bool :=
  (decide ((p75 zaa=true)) &&
 (zy4 ((s75 zaa).2) (((s75 zaa).1).list.Gates) (((s75 zaa).1).corners)))
end
theorem q31 (zaa:(Sl Gate)) (K:List PA→Prop) (hs:p31 zaa=true) (hk:K (e31 (s31 zaa))):vcFun Try.prog G31 zGB 31 [.one (.sl zaa.len 3 (fun i=>enc_55 (zaa.get i)))] (Wk K) :=
  zaH (by kernel_rfl) (zaE hs fun hc hs=>And.intro (And.intro (zE enc_55 3 zaa.get) hc) (zGI hs hk rfl rfl))
def zGL : List PA → COut
  | [.one (.sl a0_n a0_s a0_g)]=>.det (IsE enc_55 3 a0_s a0_g∧p31 (⟨a0_n,zaf a0_g⟩:(Sl Gate))=true) [.one (.sl (((s31 (⟨a0_n,zaf a0_g⟩:(Sl Gate))).1).len) 4 (fun i=>zcl (((s31 (⟨a0_n,zaf a0_g⟩:(Sl Gate))).1).get i))),.one (.int .i64 ((s31 (⟨a0_n,zaf a0_g⟩:(Sl Gate))).2))]
  | _=>.no
theorem zKN:zak Try.prog 31:=⟨_,rfl,rfl,by kernel_rfl⟩
theorem zQg:Ok Try.prog 31 zGL:=zfT zNI zKN fun args K h=>by
  unfold zGL at h
  split at h
  · rename_i a0_n a0_s a0_g
    obtain ⟨⟨⟨rfl,a0_f,rfl⟩,hs⟩,hk⟩:=h
    try rw [zae a0_f] at hs
    try rw [zae a0_f] at hk
    exact ⟨_,zeT zfB _,(fun _ _=>[]),(fun _=>false),zGB,q31 (⟨a0_n,a0_f⟩:(Sl Gate)) K hs hk⟩
  · exact h.elim
abbrev T34:Tabs:=Tabs.nil
theorem zNJ:TabsOk Try.prog T34:=TabsOk.nil
abbrev G34:Ctrs:=csm T34 (fun _ _=>[]) (fun _=>false)
def zGM:Ann:=⟨26,[(0,zK [0,1] []),(1,zK [0,1,10] []),(2,zK [4] []),(3,zK [0,1,5] []),(4,zK [0,1,5,14] []),(5,zK [0,1,5] []),(6,zK [0,1,5,25] []),(7,zK [4] []),(8,zK [4] [])],
 [(4,zK [0,1,5] [])],
 [(3,zK [0,1] [])],
 [],[]⟩
abbrev R34:=Bool
abbrev e34 (r:R34):List PA:=[.one (.bool r)]
@[irreducible] def z34:=ptF Try.prog G34 zGM Try.f34
def zDA (a:(Sl Line)) (b:(Sl Line)) (iv1:Int):St:=⟨[(0,zS zcl 4 a),(1,zS zcl 4 b),(5,zI iv1)],[],[]⟩
abbrev zKO (K:List PA→Prop) (a:(Sl Line)) (b:(Sl Line)) (X:St→Prop) (P:Int→Bool) (S:Int→Bool):Prop:=∀ ⦃iv1:Int⦄,P iv1=true→K (e34 (S iv1))→X (zDA a b iv1)
section
variable {K:List PA→Prop} {a:(Sl Line)} {b:(Sl Line)} {iv1:Int} {X1:St→Prop} {P1:Int→Bool} {S1:Int→Bool}
def zy5 (a:(Sl Line)) (b:(Sl Line)) (S1:Int→Bool) (iv1:Int):Bool :=
  (cond (decide (iv1 < (a.len : Int)))
 (cond (!(match (match ((a.get iv1.toNat).Slope.Num == (b.get iv1.toNat).Slope.Num) with | true => (match ((a.get iv1.toNat).Slope.Den == (b.get iv1.toNat).Slope.Den) with | true => true | false => false) | false => false) with | true => (match (match ((a.get iv1.toNat).Start.Num == (b.get iv1.toNat).Start.Num) with | true => (match ((a.get iv1.toNat).Start.Den == (b.get iv1.toNat).Start.Den) with | true => true | false => false) | false => false) with | true => true | false => false) | false => false))
 false
 (S1 (w64 (iv1+(1:Int)))))
 true)
def zy6 (a:(Sl Line)) (b:(Sl Line)) (P1:Int→Bool) (iv1:Int):Bool :=
  (cond (decide (iv1 < (a.len : Int)))
 (decide ((0≤iv1∧iv1 < (a.len:Int))) &&
 (decide ((0≤iv1∧iv1 < (b.len:Int))) &&
 (cond (!(match (match ((a.get iv1.toNat).Slope.Num == (b.get iv1.toNat).Slope.Num) with | true => (match ((a.get iv1.toNat).Slope.Den == (b.get iv1.toNat).Slope.Den) with | true => true | false => false) | false => false) with | true => (match (match ((a.get iv1.toNat).Start.Num == (b.get iv1.toNat).Start.Num) with | true => (match ((a.get iv1.toNat).Start.Den == (b.get iv1.toNat).Start.Den) with | true => true | false => false) | false => false) with | true => true | false => false) | false => false))
 true
 (P1 (w64 (iv1+(1:Int)))))))
 true)
def zy7 (a:(Sl Line)) (b:(Sl Line)):Nat→Int→Bool:=lpO (fun _=>default) (zy5 a b)
def zy8 (a:(Sl Line)) (b:(Sl Line)):Nat→Int→Bool:=lpO (fun _=>false) (zy6 a b)
def zy9 (a:(Sl Line)) (b:(Sl Line)) (iv1:Int):Bool:=zy7 a b Fuel iv1
def zza (a:(Sl Line)) (b:(Sl Line)) (iv1:Int):Bool:=zy8 a b Fuel iv1
theorem zGN (hs:zza a b iv1=true) (hk:K (e34 (zy9 a b iv1))):z34 K [1,1,0,1,0] [] (zDA a b iv1) :=
  zl (fun X=>z34 K [1,1,0,1,0,0] [X]) (by kernel_rfl) fun X1 hX =>
  (show ∀ k, zKO K a b X1 (zy8 a b k) (zy7 a b k) from zgs _ _ (zy6 a b) (zy5 a b) (zKO K a b X1)
 (by intro _ hs;exact absurd hs Bool.false_ne_true)
 (by intro P1 S1 hX1 iv1 hs hk;exact hX _ (zaH (by kernel_rfl) (zc hs hk (fun hs hk=>(zaE hs fun hc hs=>And.intro hc (zaE hs fun hc hs=>And.intro hc (zc hs hk (fun hs hk=>hk) (fun hs hk=>(hX1 hs hk)))))) (fun hs hk=>hk))))) _ hs hk
def zzb (a:(Sl Line)) (b:(Sl Line)):Bool :=
  (zy9 a b (0:Int))
def zzc (a:(Sl Line)) (b:(Sl Line)):Bool :=
  (zza a b (0:Int))
theorem zGO (hs:zzc a b=true) (hk:K (e34 (zzb a b))):z34 K [1,1] [] ⟨[(0,zS zcl 4 a),(1,zS zcl 4 b)],[],[]⟩:=zaH (by kernel_rfl) (zGN hs hk)
def s34 (a:(Sl Line)) (b:(Sl Line)):Bool :=
  (cond ((a.len : Int) != (b.len : Int))
 false
 (zzb a b))
def p34 (a:(Sl Line)) (b:(Sl Line)):Bool :=
  (cond ((a.len : Int) != (b.len : Int))
 true
 (zzc a b))
end
theorem q34 (a:(Sl Line)) (b:(Sl Line)) (K:List PA→Prop) (hs:p34 a b=true) (hk:K (e34 (s34 a b))):vcFun Try.prog G34 zGM 34 [.one (.sl a.len 4 (fun i=>zcl (a.get i))),.one (.sl b.len 4 (fun i=>zcl (b.get i)))] K :=
  zaH (by kernel_rfl) (zc hs hk (fun hs hk=>hk) (fun hs hk=>(zGO hs hk)))
def zGP : List PA → COut
  | [.one (.sl a0_n a0_s a0_g),.one (.sl a1_n a1_s a1_g)]=>.det (IsE zcl 4 a0_s a0_g∧IsE zcl 4 a1_s a1_g∧p34 (⟨a0_n,zk7 a0_g⟩:(Sl Line)) (⟨a1_n,zk7 a1_g⟩:(Sl Line))=true) [.one (.bool (s34 (⟨a0_n,zk7 a0_g⟩:(Sl Line)) (⟨a1_n,zk7 a1_g⟩:(Sl Line))))]
  | _=>.no
theorem zKP:zak Try.prog 34:=⟨_,rfl,rfl,by kernel_rfl⟩
theorem zQh:Ok Try.prog 34 zGP:=zaU zNJ zKP fun args K h=>by
  unfold zGP at h
  split at h
  · rename_i a0_n a0_s a0_g a1_n a1_s a1_g
    obtain ⟨⟨⟨rfl,a0_f,rfl⟩,⟨rfl,a1_f,rfl⟩,hs⟩,hk⟩:=h
    try rw [zff a0_f] at hs
    try rw [zff a0_f] at hk
    try rw [zff a1_f] at hs
    try rw [zff a1_f] at hk
    exact ⟨(fun _ _=>[]),(fun _=>false),zGM,q34 (⟨a0_n,a0_f⟩:(Sl Line)) (⟨a1_n,a1_f⟩:(Sl Line)) K hs hk⟩
  · exact h.elim
abbrev T84:Tabs:=((Tabs.nil.addF 65 zxz).addF 66 zxG)
theorem zNK:TabsOk Try.prog T84:=((TabsOk.nil.addF zNd).addF zNg)
abbrev G84:Ctrs:=csm T84 (fun _ _=>[]) (fun _=>false)
def zGQ:Ann:=⟨25,[(0,zK [0,1] []),(1,zK [0,1,5] []),(2,zK [0,5,8,9,10] []),(3,zK [0,5,8,9,10,11] [20]),(4,zK [0,5,7,8,9,10] [20]),(5,zK [0,5,8,9,10] [20]),(6,zK [0,5,8,9,10] [20]),(7,zK [4] [])],
 [(3,⟨[0,5,8,9,10],[20],[(5,20,55,fun _=>enc_55 default)],[],[],[],[]⟩)],
 [],
 [],[]⟩
abbrev R84:=Bool
abbrev e84 (r:R84):List PA:=[.one (.bool r)]
@[irreducible] def z84:=ptF Try.prog G84 zGQ Try.f84
def zDB (zaa:(Sl Gate)) (l_a1:(Sl Int)) (zdA:Int) (zc3:(Sl Gate)) (zge:Nat→List PV):St:=⟨[(0,zS enc_55 3 zaa),(5,zv 20),(8,zS enc_3 1 l_a1),(9,zI (l_a1.len:Int)),(10,zI zdA)],[(20,.vec 55 3 24 zc3.len zge)],[]⟩
abbrev zKQ (K:List PA→Prop) (zaa:(Sl Gate)) (l_a1:(Sl Int)) (X:St→Prop) (P:Int→(Sl Gate)→Bool) (S:Int→(Sl Gate)→Bool):Prop:=∀ ⦃zdA:Int⦄ ⦃zc3:(Sl Gate)⦄ ⦃zge:Nat→List PV⦄,P zdA zc3=true→K (e84 (S zdA zc3))→zge=zg enc_55 zc3→X (zDB zaa l_a1 zdA zc3 zge)
section
variable {K:List PA→Prop} {zaa:(Sl Gate)} {l_a1:(Sl Int)} {zdA:Int} {zc3:(Sl Gate)} {zge:Nat→List PV} {X0:St→Prop} {P0:Int→(Sl Gate)→Bool} {S0:Int→(Sl Gate)→Bool}
def zzd (zaa:(Sl Gate)) (l_a1:(Sl Int)) (S0:Int→(Sl Gate)→Bool) (zdA:Int) (zc3:(Sl Gate)):Bool :=
  (cond (decide (zdA < (l_a1.len : Int)))
 (S0 (w64 (zdA+(1:Int))) (⟨(zc3.len+1),(zeD zc3.len zc3.get (fun _=>(zaa.get ((l_a1.get zdA.toNat).toNat))))⟩:Sl Gate))
 (s66 (s65 zc3)))
def zze (zaa:(Sl Gate)) (l_a1:(Sl Int)) (P0:Int→(Sl Gate)→Bool) (zdA:Int) (zc3:(Sl Gate)):Bool :=
  (cond (decide (zdA < (l_a1.len : Int)))
 (decide ((0≤zdA∧zdA < (l_a1.len:Int))) &&
 (decide ((0≤(l_a1.get zdA.toNat)∧(l_a1.get zdA.toNat) < (zaa.len:Int))) &&
 (decide (((zc3.len+1) * 24≤140737488355328∧zc3.len+1≤9223372036854775807)) &&
 (P0 (w64 (zdA+(1:Int))) (⟨(zc3.len+1),(zeD zc3.len zc3.get (fun _=>(zaa.get ((l_a1.get zdA.toNat).toNat))))⟩:Sl Gate)))))
 (decide ((p65 zc3=true)) &&
 (decide ((p66 (s65 zc3)=true)) &&
 true)))
def zzf (zaa:(Sl Gate)) (l_a1:(Sl Int)):Nat→Int→(Sl Gate)→Bool:=lpO (fun _ _=>default) (zzd zaa l_a1)
def zzg (zaa:(Sl Gate)) (l_a1:(Sl Int)):Nat→Int→(Sl Gate)→Bool:=lpO (fun _ _=>false) (zze zaa l_a1)
def zzh (zaa:(Sl Gate)) (l_a1:(Sl Int)) (zdA:Int) (zc3:(Sl Gate)):Bool:=zzf zaa l_a1 Fuel zdA zc3
def zzi (zaa:(Sl Gate)) (l_a1:(Sl Int)) (zdA:Int) (zc3:(Sl Gate)):Bool:=zzg zaa l_a1 Fuel zdA zc3
theorem zGR (hs:zzi zaa l_a1 zdA zc3=true) (hk:K (e84 (zzh zaa l_a1 zdA zc3))) (zsq:zge=zg enc_55 zc3):z84 K [1,1,0,1,0] [] (zDB zaa l_a1 zdA zc3 zge) :=
  zl (fun X=>z84 K [1,1,0,1,0,0] [X]) (by kernel_rfl) fun X0 hX =>
  (show ∀ k, zKQ K zaa l_a1 X0 (zzg zaa l_a1 k) (zzf zaa l_a1 k) from zgs _ _ (zze zaa l_a1) (zzd zaa l_a1) (zKQ K zaa l_a1 X0)
 (by intro _ _ _ hs;exact absurd hs Bool.false_ne_true)
 (by intro P0 S0 hX0 zdA zc3 zge hs hk zsq;subst zsq;exact hX _ (zaH (by kernel_rfl) (zc hs hk (fun hs hk=>(zaE hs fun hc hs=>And.intro hc (zaE hs fun hc hs=>And.intro hc (zaE hs fun hc hs=>And.intro hc (hX0 hs hk (zh2 (enc:=enc_55) (f:=zc3.get) (h:=(fun _=>(zaa.get ((l_a1.get zdA.toNat).toNat)))) rfl rfl)))))) (fun hs hk=>(zaE hs fun hc hs=>And.intro (And.intro (zE enc_55 3 zc3.get) hc) (zaE hs fun hc hs=>And.intro (And.intro (zE enc_55 3 ((s65 zc3).list.Gates.get)) (And.intro (zE zaj 3 ((s65 zc3).corners.get)) hc)) hk))))))) _ hs hk zsq
def s84 (zaa:(Sl Gate)) (l_a1:(Sl Int)):Bool :=
  (zzh zaa l_a1 (0:Int) (⟨0,(fun _=>default)⟩:Sl Gate))
def p84 (zaa:(Sl Gate)) (l_a1:(Sl Int)):Bool :=
  (zzi zaa l_a1 (0:Int) (⟨0,(fun _=>default)⟩:Sl Gate))
end
theorem q84 (zaa:(Sl Gate)) (l_a1:(Sl Int)) (K:List PA→Prop) (hs:p84 zaa l_a1=true) (hk:K (e84 (s84 zaa l_a1))):vcFun Try.prog G84 zGQ 84 [.one (.sl zaa.len 3 (fun i=>enc_55 (zaa.get i))),.one (.sl l_a1.len 1 (fun i=>enc_3 (l_a1.get i)))] K :=
  zaH (by kernel_rfl) (zGR hs hk rfl)
def zGS : List PA → COut
  | [.one (.sl a0_n a0_s a0_g),.one (.sl a1_n a1_s a1_g)]=>.det (IsE enc_55 3 a0_s a0_g∧IsE enc_3 1 a1_s a1_g∧p84 (⟨a0_n,zaf a0_g⟩:(Sl Gate)) (⟨a1_n,zce a1_g⟩:(Sl Int))=true) [.one (.bool (s84 (⟨a0_n,zaf a0_g⟩:(Sl Gate)) (⟨a1_n,zce a1_g⟩:(Sl Int))))]
  | _=>.no
theorem zKR:zak Try.prog 84:=⟨_,rfl,rfl,by kernel_rfl⟩
theorem zQi:Ok Try.prog 84 zGS:=zaU zNK zKR fun args K h=>by
  unfold zGS at h
  split at h
  · rename_i a0_n a0_s a0_g a1_n a1_s a1_g
    obtain ⟨⟨⟨rfl,a0_f,rfl⟩,⟨rfl,a1_f,rfl⟩,hs⟩,hk⟩:=h
    try rw [zae a0_f] at hs
    try rw [zae a0_f] at hk
    try rw [zbO a1_f] at hs
    try rw [zbO a1_f] at hk
    exact ⟨(fun _ _=>[]),(fun _=>false),zGQ,q84 (⟨a0_n,a0_f⟩:(Sl Gate)) (⟨a1_n,a1_f⟩:(Sl Int)) K hs hk⟩
  · exact h.elim
abbrev T38:Tabs:=((Tabs.nil.addF 64 zvo).addF 84 zGS)
theorem zNL:TabsOk Try.prog T38:=((TabsOk.nil.addF zL8).addF zQi)
abbrev G38:Ctrs:=csm T38 (fun _ _=>[]) (fun _=>false)
def zGT:Ann:=⟨66,[(0,zK [0] []),(1,zK [0,12] []),(2,zK [2,3] []),(3,zK [0,4] []),(4,zK [0,4,15,16] []),(5,zK [0,4,15,16,17] []),(6,zK [0,4,5,15,16] []),(7,zK [0,4,5,6,15,16] []),(8,zK [0,4,5,6,15,16,23] []),(9,zK [0,4,5,6,15,16] []),(10,zK [0,4,5,6,15,16,31] []),(11,zK [2,3] [34]),(12,zK [0,4,15,16] []),(13,zK [0,4,36,37] []),(14,zK [0,4,36,37,38] []),(15,zK [0,4,7,36,37] []),(16,zK [0,4,7,8,36,37] []),(17,zK [0,4,7,8,36,37,44] []),(18,zK [0,4,7,8,36,37] []),(19,zK [0,4,7,8,9,36,37] []),(20,zK [0,4,7,8,9,36,37,51] []),(21,zK [0,4,7,8,9,36,37] []),(22,zK [0,4,7,8,9,36,37,60] []),(23,zK [2,3] [64]),(24,zK [0,4,36,37] []),(25,zK [2,3] [])],
 [(5,zK [0,4,15,16] []),(8,zK [0,4,5,6,15,16] []),(14,zK [0,4,36,37] []),(17,zK [0,4,7,8,36,37] []),(20,zK [0,4,7,8,9,36,37] [])],
 [(2,zK [0,12] []),(3,zK [0] []),(13,zK [0,4] []),(11,zK [0,4,5,6,15,16,31] []),(23,zK [0,4,7,8,9,36,37,60] [])],
 [],[]⟩
abbrev R38:=((Sl Int)×Int)
abbrev e38 (r:R38):List PA:=[.one (.sl r.1.len 1 (fun i=>enc_3 (r.1.get i))),.one (.int .i64 r.2)]
@[irreducible] def z38:=ptF Try.prog G38 zGT Try.f38
def zDC (zaa:(Sl Gate)) (zd6:Int):St:=⟨[(0,zS enc_55 3 zaa),(4,zI (zaa.len:Int)),(15,zI (zaa.len:Int)),(16,zI zd6)],[],[]⟩
abbrev zCn (K:List PA→Prop) (zaa:(Sl Gate)) (X:St→Prop) (P:Int→Bool) (S:Int→((Sl Int)×Int)):Prop:=∀ ⦃zd6:Int⦄,P zd6=true→K (e38 (S zd6))→X (zDC zaa zd6)
def zDD (zaa:(Sl Gate)) (iv3:Int) (jv3:Int) (zeV:Int):St:=⟨[(0,zS enc_55 3 zaa),(4,zI (zaa.len:Int)),(5,zI iv3),(6,zI jv3),(15,zI (zaa.len:Int)),(16,zI zeV)],[],[]⟩
abbrev zGU (K:List PA→Prop) (zaa:(Sl Gate)) (X:St→Prop) (P:Int→Int→Int→Bool) (S:Int→Int→Int→((Sl Int)×Int)):Prop:=∀ ⦃iv3:Int⦄ ⦃jv3:Int⦄ ⦃zeV:Int⦄,P iv3 jv3 zeV=true→K (e38 (S iv3 jv3 zeV))→X (zDD zaa iv3 jv3 zeV)
def zDE (zaa:(Sl Gate)) (zd7:Int):St:=⟨[(0,zS enc_55 3 zaa),(4,zI (zaa.len:Int)),(36,zI (zaa.len:Int)),(37,zI zd7)],[],[]⟩
abbrev zzj (K:List PA→Prop) (zaa:(Sl Gate)) (X:St→Prop) (P:Int→Bool) (S:Int→((Sl Int)×Int)):Prop:=∀ ⦃zd7:Int⦄,P zd7=true→K (e38 (S zd7))→X (zDE zaa zd7)
def zDF (zaa:(Sl Gate)) (iv7:Int) (jv7:Int) (zeW:Int):St:=⟨[(0,zS enc_55 3 zaa),(4,zI (zaa.len:Int)),(7,zI iv7),(8,zI jv7),(36,zI (zaa.len:Int)),(37,zI zeW)],[],[]⟩
abbrev zCo (K:List PA→Prop) (zaa:(Sl Gate)) (X:St→Prop) (P:Int→Int→Int→Bool) (S:Int→Int→Int→((Sl Int)×Int)):Prop:=∀ ⦃iv7:Int⦄ ⦃jv7:Int⦄ ⦃zeW:Int⦄,P iv7 jv7 zeW=true→K (e38 (S iv7 jv7 zeW))→X (zDF zaa iv7 jv7 zeW)
def zDG (zaa:(Sl Gate)) (iv8:Int) (jv8:Int) (kv8:Int) (zeX:Int):St:=⟨[(0,zS enc_55 3 zaa),(4,zI (zaa.len:Int)),(7,zI iv8),(8,zI jv8),(9,zI kv8),(36,zI (zaa.len:Int)),(37,zI zeX)],[],[]⟩
abbrev zGV (K:List PA→Prop) (zaa:(Sl Gate)) (X:St→Prop) (P:Int→Int→Int→Int→Bool) (S:Int→Int→Int→Int→((Sl Int)×Int)):Prop:=∀ ⦃iv8:Int⦄ ⦃jv8:Int⦄ ⦃kv8:Int⦄ ⦃zeX:Int⦄,P iv8 jv8 kv8 zeX=true→K (e38 (S iv8 jv8 kv8 zeX))→X (zDG zaa iv8 jv8 kv8 zeX)
section
variable {K:List PA→Prop} {zaa:(Sl Gate)} {zaX:Bool} {zd6:Int} {X2:St→Prop} {P2:Int→Bool} {S2:Int→((Sl Int)×Int)} {iv3:Int} {jv3:Int} {zeV:Int} {X3:St→Prop} {P3:Int→Int→Int→Bool} {S3:Int→Int→Int→((Sl Int)×Int)} {iv5:Int} {jv5:Int} {zsr:Int} {zss:Bool} {zd7:Int} {X6:St→Prop} {P6:Int→Bool} {S6:Int→((Sl Int)×Int)} {iv7:Int} {jv7:Int} {zeW:Int} {X7:St→Prop} {P7:Int→Int→Int→Bool} {S7:Int→Int→Int→((Sl Int)×Int)} {iv8:Int} {jv8:Int} {kv8:Int} {zeX:Int} {X8:St→Prop} {P8:Int→Int→Int→Int→Bool} {S8:Int→Int→Int→Int→((Sl Int)×Int)} {iv9:Int} {jv9:Int} {kv9:Int} {zst:Int} {zsu:Bool}
def zzk (S6:Int→((Sl Int)×Int)) (S7:Int→Int→Int→((Sl Int)×Int)) (S8:Int→Int→Int→Int→((Sl Int)×Int)) (zaa:(Sl Gate)) (iv9:Int) (jv9:Int) (kv9:Int) (zst:Int) (zsu:Bool):((Sl Int)×Int) :=
  (cond zsu
 ((⟨3,(zfN iv9 [iv9,jv9,kv9])⟩:(Sl Int)),(0:Int))
 (S8 iv9 jv9 (w64 (kv9+(1:Int))) zst))
def zzl (P6:Int→Bool) (P7:Int→Int→Int→Bool) (P8:Int→Int→Int→Int→Bool) (zaa:(Sl Gate)) (iv9:Int) (jv9:Int) (kv9:Int) (zst:Int) (zsu:Bool):Bool :=
  (cond zsu
 true
 (P8 iv9 jv9 (w64 (kv9+(1:Int))) zst))
theorem zGW (hX6:zzj K zaa X6 P6 S6) (hX7:zCo K zaa X7 P7 S7) (hX8:zGV K zaa X8 P8 S8) (hs:zzl P6 P7 P8 zaa iv9 jv9 kv9 zst zsu=true) (hk:K (e38 (zzk S6 S7 S8 zaa iv9 jv9 kv9 zst zsu))):z38 (Wk K) [1,1,1,1,0,1,0,0,1,1,0,0,1,1,0,0,1,0,0,1,0,0,1,0,0,1] [X6,X7,X8] ⟨[(0,zS enc_55 3 zaa),(4,zI (zaa.len:Int)),(7,zI iv9),(8,zI jv9),(9,zI kv9),(36,zI (zaa.len:Int)),(37,zI zst),(60,zB zsu)],[],[]⟩:=zaH (by kernel_rfl) (zc hs hk (fun hs hk=>((zdW (Eq.mpr (congrArg K (congrArg (fun (g_:Nat→List PV)=>([.one (.sl 3 1 g_),.one (.int .i64 (0:Int))]:List PA)) (zfd (enc:=enc_3) (x:=iv9) (y:=jv9) (r:=[kv9])))) hk)):Wk K [.one (.sl 3 1 (zd2 [(enc_3 iv9),(enc_3 jv9),(enc_3 kv9)])),.one (.int .i64 (0:Int))])) (fun hs hk=>(hX8 hs hk)))
def zzm (S6:Int→((Sl Int)×Int)) (S7:Int→Int→Int→((Sl Int)×Int)) (zaa:(Sl Gate)) (S8:Int→Int→Int→Int→((Sl Int)×Int)) (iv8:Int) (jv8:Int) (kv8:Int) (zeX:Int):((Sl Int)×Int) :=
  (cond (decide (kv8 < (zaa.len : Int)))
 (zzk S6 S7 S8 zaa iv8 jv8 kv8 zeX (!(s84 zaa (⟨3,zce (zd2 [(enc_3 iv8),(enc_3 jv8),(enc_3 kv8)])⟩:(Sl Int)))))
 (S7 iv8 (w64 (jv8+(1:Int))) zeX))
def zzn (P6:Int→Bool) (P7:Int→Int→Int→Bool) (zaa:(Sl Gate)) (P8:Int→Int→Int→Int→Bool) (iv8:Int) (jv8:Int) (kv8:Int) (zeX:Int):Bool :=
  (cond (decide (kv8 < (zaa.len : Int)))
 (decide ((p84 zaa (⟨3,zce (zd2 [(enc_3 iv8),(enc_3 jv8),(enc_3 kv8)])⟩:(Sl Int))=true)) &&
 (zzl P6 P7 P8 zaa iv8 jv8 kv8 zeX (!(s84 zaa (⟨3,zce (zd2 [(enc_3 iv8),(enc_3 jv8),(enc_3 kv8)])⟩:(Sl Int))))))
 (P7 iv8 (w64 (jv8+(1:Int))) zeX))
def zzo (S6:Int→((Sl Int)×Int)) (S7:Int→Int→Int→((Sl Int)×Int)) (zaa:(Sl Gate)):Nat→Int→Int→Int→Int→((Sl Int)×Int):=lpO (fun _ _ _ _=>default) (zzm S6 S7 zaa)
def zzp (P6:Int→Bool) (P7:Int→Int→Int→Bool) (zaa:(Sl Gate)):Nat→Int→Int→Int→Int→Bool:=lpO (fun _ _ _ _=>false) (zzn P6 P7 zaa)
def zzq (S6:Int→((Sl Int)×Int)) (S7:Int→Int→Int→((Sl Int)×Int)) (zaa:(Sl Gate)) (iv8:Int) (jv8:Int) (kv8:Int) (zeX:Int):((Sl Int)×Int):=zzo S6 S7 zaa Fuel iv8 jv8 kv8 zeX
def zzr (P6:Int→Bool) (P7:Int→Int→Int→Bool) (zaa:(Sl Gate)) (iv8:Int) (jv8:Int) (kv8:Int) (zeX:Int):Bool:=zzp P6 P7 zaa Fuel iv8 jv8 kv8 zeX
theorem zGX (hX6:zzj K zaa X6 P6 S6) (hX7:zCo K zaa X7 P7 S7) (hs:zzr P6 P7 zaa iv8 jv8 kv8 zeX=true) (hk:K (e38 (zzq S6 S7 zaa iv8 jv8 kv8 zeX))):z38 (Wk K) [1,1,1,1,0,1,0,0,1,1,0,0,1,1,0,0,1,0,0,1,0] [X6,X7] (zDG zaa iv8 jv8 kv8 zeX) :=
  zl (fun X=>z38 (Wk K) [1,1,1,1,0,1,0,0,1,1,0,0,1,1,0,0,1,0,0,1,0,0] [X6,X7,X]) (by kernel_rfl) fun X8 hX =>
  (show ∀ k, zGV K zaa X8 (zzp P6 P7 zaa k) (zzo S6 S7 zaa k) from zgs _ _ (zzn P6 P7 zaa) (zzm S6 S7 zaa) (zGV K zaa X8)
 (by intro _ _ _ _ hs;exact absurd hs Bool.false_ne_true)
 (by intro P8 S8 hX8 iv8 jv8 kv8 zeX hs hk;exact hX _ (zaH (by kernel_rfl) (zc hs hk (fun hs hk=>(zaE hs fun hc hs=>And.intro (And.intro (zE enc_55 3 zaa.get) (And.intro ((zgq [kv8]):IsE enc_3 1 1 (zd2 [(enc_3 iv8),(enc_3 jv8),(enc_3 kv8)])) hc)) (zGW hX6 hX7 hX8 hs hk))) (fun hs hk=>(hX7 hs hk)))))) _ hs hk
def zzs (S6:Int→((Sl Int)×Int)) (zaa:(Sl Gate)) (S7:Int→Int→Int→((Sl Int)×Int)) (iv7:Int) (jv7:Int) (zeW:Int):((Sl Int)×Int) :=
  (cond (decide (jv7 < (zaa.len : Int)))
 (zzq S6 S7 zaa iv7 jv7 (w64 (jv7+(1:Int))) zeW)
 (S6 (w64 (zeW+(1:Int)))))
def zzt (P6:Int→Bool) (zaa:(Sl Gate)) (P7:Int→Int→Int→Bool) (iv7:Int) (jv7:Int) (zeW:Int):Bool :=
  (cond (decide (jv7 < (zaa.len : Int)))
 (zzr P6 P7 zaa iv7 jv7 (w64 (jv7+(1:Int))) zeW)
 (P6 (w64 (zeW+(1:Int)))))
def zzu (S6:Int→((Sl Int)×Int)) (zaa:(Sl Gate)):Nat→Int→Int→Int→((Sl Int)×Int):=lpO (fun _ _ _=>default) (zzs S6 zaa)
def zzv (P6:Int→Bool) (zaa:(Sl Gate)):Nat→Int→Int→Int→Bool:=lpO (fun _ _ _=>false) (zzt P6 zaa)
def zzw (S6:Int→((Sl Int)×Int)) (zaa:(Sl Gate)) (iv7:Int) (jv7:Int) (zeW:Int):((Sl Int)×Int):=zzu S6 zaa Fuel iv7 jv7 zeW
def zzx (P6:Int→Bool) (zaa:(Sl Gate)) (iv7:Int) (jv7:Int) (zeW:Int):Bool:=zzv P6 zaa Fuel iv7 jv7 zeW
theorem zGY (hX6:zzj K zaa X6 P6 S6) (hs:zzx P6 zaa iv7 jv7 zeW=true) (hk:K (e38 (zzw S6 zaa iv7 jv7 zeW))):z38 (Wk K) [1,1,1,1,0,1,0,0,1,1,0,0,1,1,0] [X6] (zDF zaa iv7 jv7 zeW) :=
  zl (fun X=>z38 (Wk K) [1,1,1,1,0,1,0,0,1,1,0,0,1,1,0,0] [X6,X]) (by kernel_rfl) fun X7 hX =>
  (show ∀ k, zCo K zaa X7 (zzv P6 zaa k) (zzu S6 zaa k) from zgs _ _ (zzt P6 zaa) (zzs S6 zaa) (zCo K zaa X7)
 (by intro _ _ _ hs;exact absurd hs Bool.false_ne_true)
 (by intro P7 S7 hX7 iv7 jv7 zeW hs hk;exact hX _ (zaH (by kernel_rfl) (zc hs hk (fun hs hk=>(zGX hX6 hX7 hs hk)) (fun hs hk=>(hX6 hs hk)))))) _ hs hk
def zzy (zaa:(Sl Gate)) (S6:Int→((Sl Int)×Int)) (zd7:Int):((Sl Int)×Int) :=
  (cond (decide (zd7 < (zaa.len : Int)))
 (zzw S6 zaa zd7 (w64 (zd7+(1:Int))) zd7)
 ((⟨0,fun _=>default⟩:(Sl Int)),(7:Int)))
def zzz (zaa:(Sl Gate)) (P6:Int→Bool) (zd7:Int):Bool :=
  (cond (decide (zd7 < (zaa.len : Int)))
 (zzx P6 zaa zd7 (w64 (zd7+(1:Int))) zd7)
 true)
def zzA (zaa:(Sl Gate)):Nat→Int→((Sl Int)×Int):=lpO (fun _=>default) (zzy zaa)
def zzB (zaa:(Sl Gate)):Nat→Int→Bool:=lpO (fun _=>false) (zzz zaa)
def zzC (zaa:(Sl Gate)) (zd7:Int):((Sl Int)×Int):=zzA zaa Fuel zd7
def zzD (zaa:(Sl Gate)) (zd7:Int):Bool:=zzB zaa Fuel zd7
theorem zGZ (hs:zzD zaa zd7=true) (hk:K (e38 (zzC zaa zd7))):z38 (Wk K) [1,1,1,1,0,1,0] [] (zDE zaa zd7) :=
  zl (fun X=>z38 (Wk K) [1,1,1,1,0,1,0,0] [X]) (by kernel_rfl) fun X6 hX =>
  (show ∀ k, zzj K zaa X6 (zzB zaa k) (zzA zaa k) from zgs _ _ (zzz zaa) (zzy zaa) (zzj K zaa X6)
 (by intro _ hs;exact absurd hs Bool.false_ne_true)
 (by intro P6 S6 hX6 zd7 hs hk;exact hX _ (zaH (by kernel_rfl) (zc hs hk (fun hs hk=>(zGY hX6 hs hk)) (fun hs hk=>((wk hk (zdt (.one (.nil _ _)) (zdt (.one (.rfl _)) zhG))):Wk K [.one (.nils),.one (.int .i64 (7:Int))])))))) _ hs hk
def zzE (S2:Int→((Sl Int)×Int)) (S3:Int→Int→Int→((Sl Int)×Int)) (zaa:(Sl Gate)) (iv5:Int) (jv5:Int) (zsr:Int) (zss:Bool):((Sl Int)×Int) :=
  (cond zss
 ((⟨2,(zfN iv5 [iv5,jv5])⟩:(Sl Int)),(0:Int))
 (S3 iv5 (w64 (jv5+(1:Int))) zsr))
def zzF (P2:Int→Bool) (P3:Int→Int→Int→Bool) (zaa:(Sl Gate)) (iv5:Int) (jv5:Int) (zsr:Int) (zss:Bool):Bool :=
  (cond zss
 true
 (P3 iv5 (w64 (jv5+(1:Int))) zsr))
theorem zG0 (hX2:zCn K zaa X2 P2 S2) (hX3:zGU K zaa X3 P3 S3) (hs:zzF P2 P3 zaa iv5 jv5 zsr zss=true) (hk:K (e38 (zzE S2 S3 zaa iv5 jv5 zsr zss))):z38 (Wk K) [1,1,1,0,1,0,0,1,1,0,0,1,1,0,0,1,0,0,1] [X2,X3] ⟨[(0,zS enc_55 3 zaa),(4,zI (zaa.len:Int)),(5,zI iv5),(6,zI jv5),(15,zI (zaa.len:Int)),(16,zI zsr),(31,zB zss)],[],[]⟩:=zaH (by kernel_rfl) (zc hs hk (fun hs hk=>((zdW (Eq.mpr (congrArg K (congrArg (fun (g_:Nat→List PV)=>([.one (.sl 2 1 g_),.one (.int .i64 (0:Int))]:List PA)) (zfd (enc:=enc_3) (x:=iv5) (y:=jv5) (r:=[])))) hk)):Wk K [.one (.sl 2 1 (zd2 [(enc_3 iv5),(enc_3 jv5)])),.one (.int .i64 (0:Int))])) (fun hs hk=>(hX3 hs hk)))
def zzG (zaa:(Sl Gate)):((Sl Int)×Int) :=
  (zzC zaa (0:Int))
def zzH (zaa:(Sl Gate)):Bool :=
  (zzD zaa (0:Int))
theorem zG1 (hs:zzH zaa=true) (hk:K (e38 (zzG zaa))):z38 (Wk K) [1,1,1,1] [] ⟨[(0,zS enc_55 3 zaa),(4,zI (zaa.len:Int))],[],[]⟩:=zaH (by kernel_rfl) (zGZ hs hk)
def zzI (S2:Int→((Sl Int)×Int)) (zaa:(Sl Gate)) (S3:Int→Int→Int→((Sl Int)×Int)) (iv3:Int) (jv3:Int) (zeV:Int):((Sl Int)×Int) :=
  (cond (decide (jv3 < (zaa.len : Int)))
 (zzE S2 S3 zaa iv3 jv3 zeV (!(s84 zaa (⟨2,zce (zd2 [(enc_3 iv3),(enc_3 jv3)])⟩:(Sl Int)))))
 (S2 (w64 (zeV+(1:Int)))))
def zzJ (P2:Int→Bool) (zaa:(Sl Gate)) (P3:Int→Int→Int→Bool) (iv3:Int) (jv3:Int) (zeV:Int):Bool :=
  (cond (decide (jv3 < (zaa.len : Int)))
 (decide ((p84 zaa (⟨2,zce (zd2 [(enc_3 iv3),(enc_3 jv3)])⟩:(Sl Int))=true)) &&
 (zzF P2 P3 zaa iv3 jv3 zeV (!(s84 zaa (⟨2,zce (zd2 [(enc_3 iv3),(enc_3 jv3)])⟩:(Sl Int))))))
 (P2 (w64 (zeV+(1:Int)))))
def zzK (S2:Int→((Sl Int)×Int)) (zaa:(Sl Gate)):Nat→Int→Int→Int→((Sl Int)×Int):=lpO (fun _ _ _=>default) (zzI S2 zaa)
def zzL (P2:Int→Bool) (zaa:(Sl Gate)):Nat→Int→Int→Int→Bool:=lpO (fun _ _ _=>false) (zzJ P2 zaa)
def zzM (S2:Int→((Sl Int)×Int)) (zaa:(Sl Gate)) (iv3:Int) (jv3:Int) (zeV:Int):((Sl Int)×Int):=zzK S2 zaa Fuel iv3 jv3 zeV
def zzN (P2:Int→Bool) (zaa:(Sl Gate)) (iv3:Int) (jv3:Int) (zeV:Int):Bool:=zzL P2 zaa Fuel iv3 jv3 zeV
theorem zG2 (hX2:zCn K zaa X2 P2 S2) (hs:zzN P2 zaa iv3 jv3 zeV=true) (hk:K (e38 (zzM S2 zaa iv3 jv3 zeV))):z38 (Wk K) [1,1,1,0,1,0,0,1,1,0,0,1,1,0] [X2] (zDD zaa iv3 jv3 zeV) :=
  zl (fun X=>z38 (Wk K) [1,1,1,0,1,0,0,1,1,0,0,1,1,0,0] [X2,X]) (by kernel_rfl) fun X3 hX =>
  (show ∀ k, zGU K zaa X3 (zzL P2 zaa k) (zzK S2 zaa k) from zgs _ _ (zzJ P2 zaa) (zzI S2 zaa) (zGU K zaa X3)
 (by intro _ _ _ hs;exact absurd hs Bool.false_ne_true)
 (by intro P3 S3 hX3 iv3 jv3 zeV hs hk;exact hX _ (zaH (by kernel_rfl) (zc hs hk (fun hs hk=>(zaE hs fun hc hs=>And.intro (And.intro (zE enc_55 3 zaa.get) (And.intro ((zgq []):IsE enc_3 1 1 (zd2 [(enc_3 iv3),(enc_3 jv3)])) hc)) (zG0 hX2 hX3 hs hk))) (fun hs hk=>(hX2 hs hk)))))) _ hs hk
def zzO (zaa:(Sl Gate)) (S2:Int→((Sl Int)×Int)) (zd6:Int):((Sl Int)×Int) :=
  (cond (decide (zd6 < (zaa.len : Int)))
 (zzM S2 zaa zd6 (w64 (zd6+(1:Int))) zd6)
 (zzG zaa))
def zzP (zaa:(Sl Gate)) (P2:Int→Bool) (zd6:Int):Bool :=
  (cond (decide (zd6 < (zaa.len : Int)))
 (zzN P2 zaa zd6 (w64 (zd6+(1:Int))) zd6)
 (zzH zaa))
def zzQ (zaa:(Sl Gate)):Nat→Int→((Sl Int)×Int):=lpO (fun _=>default) (zzO zaa)
def zzR (zaa:(Sl Gate)):Nat→Int→Bool:=lpO (fun _=>false) (zzP zaa)
def zzS (zaa:(Sl Gate)) (zd6:Int):((Sl Int)×Int):=zzQ zaa Fuel zd6
def zzT (zaa:(Sl Gate)) (zd6:Int):Bool:=zzR zaa Fuel zd6
theorem zG3 (hs:zzT zaa zd6=true) (hk:K (e38 (zzS zaa zd6))):z38 (Wk K) [1,1,1,0,1,0] [] (zDC zaa zd6) :=
  zl (fun X=>z38 (Wk K) [1,1,1,0,1,0,0] [X]) (by kernel_rfl) fun X2 hX =>
  (show ∀ k, zCn K zaa X2 (zzR zaa k) (zzQ zaa k) from zgs _ _ (zzP zaa) (zzO zaa) (zCn K zaa X2)
 (by intro _ hs;exact absurd hs Bool.false_ne_true)
 (by intro P2 S2 hX2 zd6 hs hk;exact hX _ (zaH (by kernel_rfl) (zc hs hk (fun hs hk=>(zG2 hX2 hs hk)) (fun hs hk=>(zG1 hs hk)))))) _ hs hk
def zzU (zaa:(Sl Gate)):((Sl Int)×Int) :=
  (zzS zaa (0:Int))
def zzV (zaa:(Sl Gate)):Bool :=
  (zzT zaa (0:Int))
theorem zG4 (hs:zzV zaa=true) (hk:K (e38 (zzU zaa))):z38 (Wk K) [1,1] [] ⟨[(0,zS enc_55 3 zaa)],[],[]⟩:=zaH (by kernel_rfl) (zG3 hs hk)
def zzW (zaa:(Sl Gate)) (zaX:Bool):((Sl Int)×Int) :=
  (cond zaX
 ((⟨0,fun _=>default⟩:(Sl Int)),(2:Int))
 (zzU zaa))
def zzX (zaa:(Sl Gate)) (zaX:Bool):Bool :=
  (cond zaX
 true
 (zzV zaa))
theorem zG5 (hs:zzX zaa zaX=true) (hk:K (e38 (zzW zaa zaX))):z38 (Wk K) [1,0,1] [] ⟨[(0,zS enc_55 3 zaa),(12,zB zaX)],[],[]⟩:=zaH (by kernel_rfl) (zc hs hk (fun hs hk=>((wk hk (zdt (.one (.nil _ _)) (zdt (.one (.rfl _)) zhG))):Wk K [.one (.nils),.one (.int .i64 (2:Int))])) (fun hs hk=>(zG4 hs hk)))
def s38 (zaa:(Sl Gate)):((Sl Int)×Int) :=
  (zzW zaa (!(s64 zaa)))
def p38 (zaa:(Sl Gate)):Bool :=
  (decide ((p64 zaa=true)) &&
 (zzX zaa (!(s64 zaa))))
end
theorem q38 (zaa:(Sl Gate)) (K:List PA→Prop) (hs:p38 zaa=true) (hk:K (e38 (s38 zaa))):vcFun Try.prog G38 zGT 38 [.one (.sl zaa.len 3 (fun i=>enc_55 (zaa.get i)))] (Wk K) :=
  zaH (by kernel_rfl) (zaE hs fun hc hs=>And.intro (And.intro (zE enc_55 3 zaa.get) hc) (zG5 hs hk))
def zG6 : List PA → COut
  | [.one (.sl a0_n a0_s a0_g)]=>.det (IsE enc_55 3 a0_s a0_g∧p38 (⟨a0_n,zaf a0_g⟩:(Sl Gate))=true) [.one (.sl (((s38 (⟨a0_n,zaf a0_g⟩:(Sl Gate))).1).len) 1 (fun i=>enc_3 (((s38 (⟨a0_n,zaf a0_g⟩:(Sl Gate))).1).get i))),.one (.int .i64 ((s38 (⟨a0_n,zaf a0_g⟩:(Sl Gate))).2))]
  | _=>.no
theorem zKS:zak Try.prog 38:=⟨_,rfl,rfl,by kernel_rfl⟩
theorem zQj:Ok Try.prog 38 zG6:=zfT zNL zKS fun args K h=>by
  unfold zG6 at h
  split at h
  · rename_i a0_n a0_s a0_g
    obtain ⟨⟨⟨rfl,a0_f,rfl⟩,hs⟩,hk⟩:=h
    try rw [zae a0_f] at hs
    try rw [zae a0_f] at hk
    exact ⟨_,zeT zfB _,(fun _ _=>[]),(fun _=>false),zGT,q38 (⟨a0_n,a0_f⟩:(Sl Gate)) K hs hk⟩
  · exact h.elim
abbrev T73:Tabs:=Tabs.nil
theorem zNM:TabsOk Try.prog T73:=TabsOk.nil
abbrev G73:Ctrs:=csm T73 (fun _ _=>[]) (fun _=>false)
def zG7:Ann:=⟨12,[(0,zK [0,1] []),(1,zK [0,1,6] []),(2,zK [0,1] []),(3,zK [4] [])],
 [(1,zK [0,1] [])],
 [],
 [],[]⟩
abbrev R73:=Int
abbrev e73 (r:R73):List PA:=[.one (.int .i64 r)]
@[irreducible] def z73:=ptF Try.prog G73 zG7 Try.f73
def zDH (av0:Int) (bv0:Int):St:=⟨[(0,zI av0),(1,zI bv0)],[],[]⟩
abbrev zKT (K:List PA→Prop) (X:St→Prop) (P:Int→Int→Bool) (S:Int→Int→Int):Prop:=∀ ⦃av0:Int⦄ ⦃bv0:Int⦄,P av0 bv0=true→K (e73 (S av0 bv0))→X (zDH av0 bv0)
section
variable {K:List PA→Prop} {a:Int} {b:Int} {av0:Int} {bv0:Int} {X0:St→Prop} {P0:Int→Int→Bool} {S0:Int→Int→Int}
def zzY (S0:Int→Int→Int) (av0:Int) (bv0:Int):Int :=
  (cond (bv0 != (0:Int))
 (S0 bv0 (av0.tmod bv0))
 av0)
def zzZ (P0:Int→Int→Bool) (av0:Int) (bv0:Int):Bool :=
  (cond (bv0 != (0:Int))
 (decide ((bv0 ≠ 0)) &&
 (P0 bv0 (av0.tmod bv0)))
 true)
def zz0:Nat→Int→Int→Int:=lpO (fun _ _=>default) (zzY)
def zz1:Nat→Int→Int→Bool:=lpO (fun _ _=>false) (zzZ)
def zz2 (av0:Int) (bv0:Int):Int:=zz0 Fuel av0 bv0
def zz3 (av0:Int) (bv0:Int):Bool:=zz1 Fuel av0 bv0
theorem zG8 (hs:zz3 av0 bv0=true) (hk:K (e73 (zz2 av0 bv0))):z73 K [1,0,0] [] (zDH av0 bv0) :=
  zl (fun X=>z73 K [1,0,0,0] [X]) (by kernel_rfl) fun X0 hX =>
  (show ∀ k, zKT K X0 (zz1 k) (zz0 k) from zgs _ _ (zzZ) (zzY) (zKT K X0)
 (by intro _ _ hs;exact absurd hs Bool.false_ne_true)
 (by intro P0 S0 hX0 av0 bv0 hs hk;exact hX _ (zaH (by kernel_rfl) (zc hs hk (fun hs hk=>(zaE hs fun hc hs=>And.intro hc (hX0 hs hk))) (fun hs hk=>hk))))) _ hs hk
def s73 (a:Int) (b:Int):Int :=
  (zz2 a b)
def p73 (a:Int) (b:Int):Bool :=
  (zz3 a b)
end
theorem q73 (a:Int) (b:Int) (K:List PA→Prop) (hs:p73 a b=true) (hk:K (e73 (s73 a b))):vcFun Try.prog G73 zG7 73 [.one (.int .i64 a),.one (.int .i64 b)] K :=
  zaH (by kernel_rfl) (zG8 hs hk)
def zG9 : List PA → COut
  | [.one (.int .i64 a0),.one (.int .i64 a1)]=>.det (p73 a0 a1=true) [.one (.int .i64 (s73 a0 a1))]
  | _=>.no
theorem zKU:zak Try.prog 73:=⟨_,rfl,rfl,by kernel_rfl⟩
theorem zQk:Ok Try.prog 73 zG9:=zaU zNM zKU fun args K h=>by
  unfold zG9 at h
  split at h
  · rename_i a0 a1
    obtain ⟨hs,hk⟩:=h
    exact ⟨(fun _ _=>[]),(fun _=>false),zG7,q73 a0 a1 K hs hk⟩
  · exact h.elim
abbrev T40:Tabs:=(Tabs.nil.addF 73 zG9)
theorem zNN:TabsOk Try.prog T40:=(TabsOk.nil.addF zQk)
abbrev G40:Ctrs:=csm T40 (fun _ _=>[]) (fun _=>false)
def zKV:Ann:=⟨19,[(0,zK [0,1,4] [4]),(1,zK [0,1,4,5] [4]),(2,zK [4] [4])],
 [],
 [],
 [],[]⟩
abbrev R40:=Frac
abbrev e40 (r:R40):List PA:=[.agg [.int .i64 r.Num,.int .i64 r.Den]]
section
variable {K:List PA→Prop} {num:Int} {den:Int}
def s40 (num:Int) (den:Int):Frac :=
  (⟨(w64 (num.tdiv (s73 (if (w64 (0 - num)) > num then (w64 (0 - num)) else num) den))),(w64 (den.tdiv (s73 (if (w64 (0 - num)) > num then (w64 (0 - num)) else num) den)))⟩:Frac)
def p40 (num:Int) (den:Int):Bool :=
  (decide ((p73 (if (w64 (0 - num)) > num then (w64 (0 - num)) else num) den=true)) &&
 (decide (((s73 (if (w64 (0 - num)) > num then (w64 (0 - num)) else num) den) ≠ 0)) &&
 (decide (((s73 (if (w64 (0 - num)) > num then (w64 (0 - num)) else num) den) ≠ 0)) &&
 true)))
end
theorem q40 (num:Int) (den:Int) (K:List PA→Prop) (hs:p40 num den=true) (hk:K (e40 (s40 num den))):vcFun Try.prog G40 zKV 40 [.one (.int .i64 num),.one (.int .i64 den)] K :=
  zaH (by kernel_rfl) (zaE hs fun hc hs=>And.intro hc (zaE hs fun hc hs=>And.intro hc (zaE hs fun hc hs=>And.intro hc hk)))
def zHa : List PA → COut
  | [.one (.int .i64 a0),.one (.int .i64 a1)]=>.det (p40 a0 a1=true) [.agg [.int .i64 ((s40 a0 a1).Num),.int .i64 ((s40 a0 a1).Den)]]
  | _=>.no
theorem zKW:zak Try.prog 40:=⟨_,rfl,rfl,by kernel_rfl⟩
theorem zQl:Ok Try.prog 40 zHa:=zaU zNN zKW fun args K h=>by
  unfold zHa at h
  split at h
  · rename_i a0 a1
    obtain ⟨hs,hk⟩:=h
    exact ⟨(fun _ _=>[]),(fun _=>false),zKV,q40 a0 a1 K hs hk⟩
  · exact h.elim
abbrev T62:Tabs:=Tabs.nil
theorem zNO:TabsOk Try.prog T62:=TabsOk.nil
abbrev G62:Ctrs:=csm T62 (fun _ _=>[]) (fun _=>false)
def zKX:Ann:=⟨5,[(0,zK [] []),(1,zK [0] [4])],
 [],
 [],
 [],[]⟩
abbrev R62:=(Sl Gate)
abbrev e62 (r:R62):List PA:=[.one (.sl r.len 3 (fun i=>enc_55 (r.get i)))]
section
variable {K:List PA→Prop}
def s62:(Sl Gate) :=
  (⟨3,(zfN (⟨(0:Int),(0:Int),(10:Int)⟩:Gate) [(⟨(0:Int),(0:Int),(10:Int)⟩:Gate),(⟨(100:Int),(20:Int),(30:Int)⟩:Gate),(⟨(200:Int),(30:Int),(60:Int)⟩:Gate)])⟩:(Sl Gate))
end
theorem q62 (K:List PA→Prop) (hk:K (e62 (s62))):vcFun Try.prog G62 zKX 62 [] K :=
  zaH (by kernel_rfl) (Eq.mpr (congrArg K (congrArg (fun (g_:Nat→List PV)=>([.one (.sl 3 3 g_)]:List PA)) (zfd (enc:=enc_55) (x:=(⟨(0:Int),(0:Int),(10:Int)⟩:Gate)) (y:=(⟨(100:Int),(20:Int),(30:Int)⟩:Gate)) (r:=[(⟨(200:Int),(30:Int),(60:Int)⟩:Gate)])))) hk)
def zHb : List PA → COut
  | []=>.tot [.one (.sl ((s62).len) 3 (fun i=>enc_55 ((s62).get i)))]
  | _=>.no
theorem zKY:zak Try.prog 62:=⟨_,rfl,rfl,by kernel_rfl⟩
theorem zQm:Ok Try.prog 62 zHb:=zaU zNO zKY fun args K h=>by
  unfold zHb at h
  split at h
  · have hk := h
    exact ⟨(fun _ _=>[]),(fun _=>false),zKX,q62 K hk⟩
  · exact h.elim
abbrev T63:Tabs:=Tabs.nil
theorem zNP:TabsOk Try.prog T63:=TabsOk.nil
abbrev G63:Ctrs:=csm T63 (fun _ _=>[]) (fun _=>false)
def zKZ:Ann:=⟨5,[(0,zK [] []),(1,zK [0] [4])],
 [],
 [],
 [],[]⟩
abbrev R63:=(Sl Gate)
abbrev e63 (r:R63):List PA:=[.one (.sl r.len 3 (fun i=>enc_55 (r.get i)))]
section
variable {K:List PA→Prop}
def s63:(Sl Gate) :=
  (⟨3,(zfN (⟨(0:Int),(0:Int),(10:Int)⟩:Gate) [(⟨(0:Int),(0:Int),(10:Int)⟩:Gate),(⟨(100:Int),(20:Int),(30:Int)⟩:Gate),(⟨(200:Int),(0:Int),(9:Int)⟩:Gate)])⟩:(Sl Gate))
end
theorem q63 (K:List PA→Prop) (hk:K (e63 (s63))):vcFun Try.prog G63 zKZ 63 [] K :=
  zaH (by kernel_rfl) (Eq.mpr (congrArg K (congrArg (fun (g_:Nat→List PV)=>([.one (.sl 3 3 g_)]:List PA)) (zfd (enc:=enc_55) (x:=(⟨(0:Int),(0:Int),(10:Int)⟩:Gate)) (y:=(⟨(100:Int),(20:Int),(30:Int)⟩:Gate)) (r:=[(⟨(200:Int),(0:Int),(9:Int)⟩:Gate)])))) hk)
def zHc : List PA → COut
  | []=>.tot [.one (.sl ((s63).len) 3 (fun i=>enc_55 ((s63).get i)))]
  | _=>.no
theorem zK1:zak Try.prog 63:=⟨_,rfl,rfl,by kernel_rfl⟩
theorem zQn:Ok Try.prog 63 zHc:=zaU zNP zK1 fun args K h=>by
  unfold zHc at h
  split at h
  · have hk := h
    exact ⟨(fun _ _=>[]),(fun _=>false),zKZ,q63 K hk⟩
  · exact h.elim
abbrev T18:Tabs:=((((((((((Tabs.nil.addF 19 zGg).addF 30 zGw).addF 31 zGL).addF 34 zGP).addF 38 zG6).addF 39 zBR).addF 40 zHa).addF 55 zBW).addF 62 zHb).addF 63 zHc)
theorem zNQ:TabsOk Try.prog T18:=((((((((((TabsOk.nil.addF zPZ).addF zP7).addF zQg).addF zQh).addF zQj).addF zOm).addF zQl).addF zOp).addF zQm).addF zQn)
abbrev G18:Ctrs:=csm T18 (fun _ _=>[]) (fun _=>false)
def zHd:Ann:=⟨125,[(0,zK [] []),(1,zK [1,2] []),(2,zK [1,2,3,4,5] [3,4]),(3,zK [1,2,3,4,5,6,7] [3,4]),(4,zK [1,2,3,4,5,6,7,8,9,10,11] [3,4,9,10]),(5,zK [1,2,3,4,5,6,7,8,9,10,11,12,13,14] [3,4,9,10]),(6,zK [1,3,4,6,9,10,12,76] [3,4,9,10]),(7,zK [0] []),(8,zK [1,3,4,6,9,10,12,15] [3,4,9,10,89]),(9,zK [0] [])],
 [],
 [(2,zK [1,2] []),(3,zK [1,2,3,4,5] [3,4]),(4,zK [1,2,3,4,5,6,7] [3,4]),(5,zK [1,2,3,4,5,6,7,8,9,10,11] [3,4,9,10]),(6,zK [1,2,3,4,5,6,7,8,9,10,11,12,13,14] [3,4,9,10]),(8,zK [1,3,4,6,9,10,12] [3,4,9,10]),(9,zK [1,3,4,6,9,10,12,15] [3,4,9,10,89])],
 [],[]⟩
abbrev R18:=Bool
abbrev e18 (r:R18):List PA:=[.one (.bool r)]
@[irreducible] def z18:=ptF Try.prog G18 zHd Try.f18
section
variable {K:List PA→Prop} {cv0:(Sl Line)} {ev0:Int} {zK2:Nat→List PV} {fv1:Int} {zcf:Int} {zcg:Int} {zch:Int} {zci:Int} {sv2:(Sl Int)} {gv2:Int} {zK3:Nat→List PV} {sv3:(Sl Int)} {zv3:Int} {hv3:Int} {zdu:Int} {zdv:Int} {zdw:Int} {zdx:Int} {zK4:Nat→List PV} {sv4:(Sl Int)} {lv4:(Sl Int)} {kv4:Int} {iv4:Int} {zK5:Nat→List PV} {zK6:Nat→List PV} {sv5:(Sl Int)} {zK7:Nat→List PV} {sv6:(Sl Int)} {zmb:(Sl Line)} {zz4:Nat→List PV} {zz5:Nat→List PV}
def zz6 (cv0:(Sl Line)) (zcf:Int) (zcg:Int) (zch:Int) (zci:Int) (zdu:Int) (zdv:Int) (zdw:Int) (zdx:Int) (lv4:(Sl Int)) (sv6:(Sl Int)) (zmb:(Sl Line)):Bool :=
  (cond (s34 cv0 zmb)
 (cond (match (zcf == (s40 (40:Int) (1:Int)).Num) with | true => (match (zcg == (s40 (40:Int) (1:Int)).Den) with | true => true | false => false) | false => false)
 (cond (match (zch == (s40 (90:Int) (1:Int)).Num) with | true => (match (zci == (s40 (90:Int) (1:Int)).Den) with | true => true | false => false) | false => false)
 (cond ((s39 sv6 (⟨3, zce (zd2 [(enc_3 (0:Int)), (enc_3 (1:Int)), (enc_3 (2:Int))])⟩ : (Sl Int))) == (0:Int))
 (cond (match (zdu == (s40 (499:Int) (10:Int)).Num) with | true => (match (zdv == (s40 (499:Int) (10:Int)).Den) with | true => true | false => false) | false => false)
 (cond (match (zdw == (s40 (501:Int) (10:Int)).Num) with | true => (match (zdx == (s40 (501:Int) (10:Int)).Den) with | true => true | false => false) | false => false)
 ((s39 lv4 (⟨3,zce (zd2 [(enc_3 (2:Int)),(enc_3 (5:Int)),(enc_3 (2:Int))])⟩:(Sl Int))) == (0:Int))
 false)
 false)
 false)
 false)
 false)
 false)
def zz7 (cv0:(Sl Line)) (zcf:Int) (zcg:Int) (zch:Int) (zci:Int) (zdu:Int) (zdv:Int) (zdw:Int) (zdx:Int) (lv4:(Sl Int)) (sv6:(Sl Int)) (zmb:(Sl Line)):Bool :=
  (decide ((p34 cv0 zmb=true)) &&
 (cond (s34 cv0 zmb)
 (decide ((p40 (40:Int) (1:Int)=true)) &&
 (cond (match (zcf == (s40 (40:Int) (1:Int)).Num) with | true => (match (zcg == (s40 (40:Int) (1:Int)).Den) with | true => true | false => false) | false => false)
 (decide ((p40 (90:Int) (1:Int)=true)) &&
 (cond (match (zch == (s40 (90:Int) (1:Int)).Num) with | true => (match (zci == (s40 (90:Int) (1:Int)).Den) with | true => true | false => false) | false => false)
 (decide ((p39 sv6 (⟨3,zce (zd2 [(enc_3 (0:Int)),(enc_3 (1:Int)),(enc_3 (2:Int))])⟩:(Sl Int))=true)) &&
 (cond ((s39 sv6 (⟨3, zce (zd2 [(enc_3 (0:Int)), (enc_3 (1:Int)), (enc_3 (2:Int))])⟩ : (Sl Int))) == (0:Int))
 (decide ((p40 (499:Int) (10:Int)=true)) &&
 (cond (match (zdu == (s40 (499:Int) (10:Int)).Num) with | true => (match (zdv == (s40 (499:Int) (10:Int)).Den) with | true => true | false => false) | false => false)
 (decide ((p40 (501:Int) (10:Int)=true)) &&
 (cond (match (zdw == (s40 (501:Int) (10:Int)).Num) with | true => (match (zdx == (s40 (501:Int) (10:Int)).Den) with | true => true | false => false) | false => false)
 (decide ((p39 lv4 (⟨3,zce (zd2 [(enc_3 (2:Int)),(enc_3 (5:Int)),(enc_3 (2:Int))])⟩:(Sl Int))=true)) &&
 true)
 true))
 true))
 true))
 true))
 true))
 true))
theorem zHe (hs:zz7 cv0 zcf zcg zch zci zdu zdv zdw zdx lv4 sv6 zmb=true) (hk:K (e18 (zz6 cv0 zcf zcg zch zci zdu zdv zdw zdx lv4 sv6 zmb))) (zHf:zz4=zg enc_3 sv6) (zHg:zz5=zg zcl zmb):z18 K [1,1,1,1,1,1,1,1] [] ⟨[(1,zS zcl 4 cv0),(3,zp 3 0),(4,zp 4 0),(6,zP (.sl sv6.len 1 zz4)),(9,zp 9 0),(10,zp 10 0),(12,zS enc_3 1 lv4),(15,zv 89)],[(3,.box 25 (zm (zah (⟨zcf,zcg⟩:Frac)))),(4,.box 25 (zm (zah (⟨zch,zci⟩:Frac)))),(9,.box 25 (zm (zah (⟨zdu,zdv⟩:Frac)))),(10,.box 25 (zm (zah (⟨zdw,zdx⟩:Frac)))),(89,.vec 37 4 32 zmb.len zz5)],[]⟩:=by subst zHf;subst zHg;exact zaH (by kernel_rfl) (zaE hs fun hc hs=>And.intro (And.intro (zE zcl 4 cv0.get) (And.intro (zE zcl 4 zmb.get) hc)) (zc hs hk (fun hs hk=>(zaE hs fun hc hs=>And.intro hc (zc hs hk (fun hs hk=>(zaE hs fun hc hs=>And.intro hc (zc hs hk (fun hs hk=>(zaE hs fun hc hs=>And.intro (And.intro (zE enc_3 1 sv6.get) (And.intro ((zgq [(2:Int)]):IsE enc_3 1 1 (zd2 [(enc_3 (0:Int)),(enc_3 (1:Int)),(enc_3 (2:Int))])) hc)) (zc hs hk (fun hs hk=>(zaE hs fun hc hs=>And.intro hc (zc hs hk (fun hs hk=>(zaE hs fun hc hs=>And.intro hc (zc hs hk (fun hs hk=>(zaE hs fun hc hs=>And.intro (And.intro (zE enc_3 1 lv4.get) (And.intro ((zgq [(2:Int)]):IsE enc_3 1 1 (zd2 [(enc_3 (2:Int)),(enc_3 (5:Int)),(enc_3 (2:Int))])) hc)) hk)) (fun hs hk=>hk)))) (fun hs hk=>hk)))) (fun hs hk=>hk)))) (fun hs hk=>hk)))) (fun hs hk=>hk)))) (fun hs hk=>hk)))
def zz8 (cv0:(Sl Line)) (zcf:Int) (zcg:Int) (zch:Int) (zci:Int) (zdu:Int) (zdv:Int) (zdw:Int) (zdx:Int) (lv4:(Sl Int)) (sv5:(Sl Int)):Bool :=
  (zz6 cv0 zcf zcg zch zci zdu zdv zdw zdx lv4 sv5 (⟨4,(zfN (⟨(s40 (1:Int) (10:Int)),(s40 (10:Int) (1:Int))⟩:Line) [(⟨(s40 (1:Int) (10:Int)),(s40 (10:Int) (1:Int))⟩:Line),(⟨(s40 (1:Int) (5:Int)),(s40 (0:Int) (1:Int))⟩:Line),(⟨(s40 (3:Int) (10:Int)),(s40 (0:Int) (1:Int))⟩:Line),(⟨(s40 (1:Int) (5:Int)),(s40 (10:Int) (1:Int))⟩:Line)])⟩:Sl Line))
def zz9 (cv0:(Sl Line)) (zcf:Int) (zcg:Int) (zch:Int) (zci:Int) (zdu:Int) (zdv:Int) (zdw:Int) (zdx:Int) (lv4:(Sl Int)) (sv5:(Sl Int)):Bool :=
  (decide ((p40 (1:Int) (10:Int)=true)) &&
 (decide ((p40 (10:Int) (1:Int)=true)) &&
 (decide ((p40 (1:Int) (5:Int)=true)) &&
 (decide ((p40 (0:Int) (1:Int)=true)) &&
 (decide ((p40 (3:Int) (10:Int)=true)) &&
 (decide ((p40 (0:Int) (1:Int)=true)) &&
 (decide ((p40 (1:Int) (5:Int)=true)) &&
 (decide ((p40 (10:Int) (1:Int)=true)) &&
 (zz7 cv0 zcf zcg zch zci zdu zdv zdw zdx lv4 sv5 (⟨4,(zfN (⟨(s40 (1:Int) (10:Int)),(s40 (10:Int) (1:Int))⟩:Line) [(⟨(s40 (1:Int) (10:Int)),(s40 (10:Int) (1:Int))⟩:Line),(⟨(s40 (1:Int) (5:Int)),(s40 (0:Int) (1:Int))⟩:Line),(⟨(s40 (3:Int) (10:Int)),(s40 (0:Int) (1:Int))⟩:Line),(⟨(s40 (1:Int) (5:Int)),(s40 (10:Int) (1:Int))⟩:Line)])⟩:Sl Line))))))))))
theorem zHh (hs:zz9 cv0 zcf zcg zch zci zdu zdv zdw zdx lv4 sv5=true) (hk:K (e18 (zz8 cv0 zcf zcg zch zci zdu zdv zdw zdx lv4 sv5))) (zNR:zK7=zg enc_3 sv5):z18 K [1,1,1,1,1,1,1] [] ⟨[(1,zS zcl 4 cv0),(3,zp 3 0),(4,zp 4 0),(6,zP (.sl sv5.len 1 zK7)),(9,zp 9 0),(10,zp 10 0),(12,zS enc_3 1 lv4)],[(3,.box 25 (zm (zah (⟨zcf,zcg⟩:Frac)))),(4,.box 25 (zm (zah (⟨zch,zci⟩:Frac)))),(9,.box 25 (zm (zah (⟨zdu,zdv⟩:Frac)))),(10,.box 25 (zm (zah (⟨zdw,zdx⟩:Frac))))],[]⟩:=by subst zNR;exact zaH (by kernel_rfl) (zaE hs fun hc hs=>And.intro hc (zaE hs fun hc hs=>And.intro hc (zaE hs fun hc hs=>And.intro hc (zaE hs fun hc hs=>And.intro hc (zaE hs fun hc hs=>And.intro hc (zaE hs fun hc hs=>And.intro hc (zaE hs fun hc hs=>And.intro hc (zaE hs fun hc hs=>And.intro hc (zHe hs hk rfl (zfd (enc:=zcl) (x:=(⟨(s40 (1:Int) (10:Int)),(s40 (10:Int) (1:Int))⟩:Line)) (y:=(⟨(s40 (1:Int) (5:Int)),(s40 (0:Int) (1:Int))⟩:Line)) (r:=[(⟨(s40 (3:Int) (10:Int)),(s40 (0:Int) (1:Int))⟩:Line),(⟨(s40 (1:Int) (5:Int)),(s40 (10:Int) (1:Int))⟩:Line)])))))))))))
def zAa (cv0:(Sl Line)) (ev0:Int) (fv1:Int) (zcf:Int) (zcg:Int) (zch:Int) (zci:Int) (gv2:Int) (zv3:Int) (hv3:Int) (zdu:Int) (zdv:Int) (zdw:Int) (zdx:Int) (sv4:(Sl Int)) (lv4:(Sl Int)) (kv4:Int) (iv4:Int):Bool :=
  (cond (ev0 != (0:Int))
 false
 (cond (fv1 != (0:Int))
 false
 (cond (gv2 != (0:Int))
 false
 (cond (hv3 != (0:Int))
 false
 (cond (iv4 != (0:Int))
 false
 (cond (kv4 != (600:Int))
 false
 (cond (zv3 != (167:Int))
 false
 (zz8 cv0 zcf zcg zch zci zdu zdv zdw zdx lv4 sv4))))))))
def zAb (cv0:(Sl Line)) (ev0:Int) (fv1:Int) (zcf:Int) (zcg:Int) (zch:Int) (zci:Int) (gv2:Int) (zv3:Int) (hv3:Int) (zdu:Int) (zdv:Int) (zdw:Int) (zdx:Int) (sv4:(Sl Int)) (lv4:(Sl Int)) (kv4:Int) (iv4:Int):Bool :=
  (cond (ev0 != (0:Int))
 true
 (cond (fv1 != (0:Int))
 true
 (cond (gv2 != (0:Int))
 true
 (cond (hv3 != (0:Int))
 true
 (cond (iv4 != (0:Int))
 true
 (cond (kv4 != (600:Int))
 true
 (cond (zv3 != (167:Int))
 true
 (zz9 cv0 zcf zcg zch zci zdu zdv zdw zdx lv4 sv4))))))))
theorem zHi (hs:zAb cv0 ev0 fv1 zcf zcg zch zci gv2 zv3 hv3 zdu zdv zdw zdx sv4 lv4 kv4 iv4=true) (hk:K (e18 (zAa cv0 ev0 fv1 zcf zcg zch zci gv2 zv3 hv3 zdu zdv zdw zdx sv4 lv4 kv4 iv4))) (zNS:zK5=zg enc_3 sv4) (zNT:zK6=zg enc_3 lv4):z18 K [1,1,1,1,1,1] [] ⟨[(1,zS zcl 4 cv0),(2,zI ev0),(3,zp 3 0),(4,zp 4 0),(5,zI fv1),(6,zP (.sl sv4.len 1 zK5)),(7,zI gv2),(8,zI zv3),(9,zp 9 0),(10,zp 10 0),(11,zI hv3),(12,zP (.sl lv4.len 1 zK6)),(13,zI kv4),(14,zI iv4)],[(3,.box 25 (zm (zah (⟨zcf,zcg⟩:Frac)))),(4,.box 25 (zm (zah (⟨zch,zci⟩:Frac)))),(9,.box 25 (zm (zah (⟨zdu,zdv⟩:Frac)))),(10,.box 25 (zm (zah (⟨zdw,zdx⟩:Frac))))],[]⟩:=by subst zNS;subst zNT;exact zaH (by kernel_rfl) (zc hs hk (fun hs hk=>hk) (fun hs hk=>(zc hs hk (fun hs hk=>hk) (fun hs hk=>(zc hs hk (fun hs hk=>hk) (fun hs hk=>(zc hs hk (fun hs hk=>hk) (fun hs hk=>(zc hs hk (fun hs hk=>hk) (fun hs hk=>(zc hs hk (fun hs hk=>hk) (fun hs hk=>(zc hs hk (fun hs hk=>hk) (fun hs hk=>(zHh hs hk rfl)))))))))))))))
def zAc (cv0:(Sl Line)) (ev0:Int) (fv1:Int) (zcf:Int) (zcg:Int) (zch:Int) (zci:Int) (gv2:Int) (sv3:(Sl Int)) (zv3:Int) (hv3:Int) (zdu:Int) (zdv:Int) (zdw:Int) (zdx:Int):Bool :=
  (zAa cv0 ev0 fv1 zcf zcg zch zci gv2 zv3 hv3 zdu zdv zdw zdx sv3 ((s55 (⟨3,zaf (zd2 [(enc_55 (⟨(0:Int),(0:Int),(2:Int)⟩:Gate)),(enc_55 (⟨(10:Int),(5:Int),(6:Int)⟩:Gate)),(enc_55 (⟨(20:Int),(0:Int),(2:Int)⟩:Gate))])⟩:(Sl Gate))).1) ((s55 (⟨3,zaf (zd2 [(enc_55 (⟨(0:Int),(0:Int),(2:Int)⟩:Gate)),(enc_55 (⟨(10:Int),(5:Int),(6:Int)⟩:Gate)),(enc_55 (⟨(20:Int),(0:Int),(2:Int)⟩:Gate))])⟩:(Sl Gate))).2.1) ((s55 (⟨3,zaf (zd2 [(enc_55 (⟨(0:Int),(0:Int),(2:Int)⟩:Gate)),(enc_55 (⟨(10:Int),(5:Int),(6:Int)⟩:Gate)),(enc_55 (⟨(20:Int),(0:Int),(2:Int)⟩:Gate))])⟩:(Sl Gate))).2.2))
def zAd (cv0:(Sl Line)) (ev0:Int) (fv1:Int) (zcf:Int) (zcg:Int) (zch:Int) (zci:Int) (gv2:Int) (sv3:(Sl Int)) (zv3:Int) (hv3:Int) (zdu:Int) (zdv:Int) (zdw:Int) (zdx:Int):Bool :=
  (decide ((p55 (⟨3,zaf (zd2 [(enc_55 (⟨(0:Int),(0:Int),(2:Int)⟩:Gate)),(enc_55 (⟨(10:Int),(5:Int),(6:Int)⟩:Gate)),(enc_55 (⟨(20:Int),(0:Int),(2:Int)⟩:Gate))])⟩:(Sl Gate))=true)) &&
 (zAb cv0 ev0 fv1 zcf zcg zch zci gv2 zv3 hv3 zdu zdv zdw zdx sv3 ((s55 (⟨3,zaf (zd2 [(enc_55 (⟨(0:Int),(0:Int),(2:Int)⟩:Gate)),(enc_55 (⟨(10:Int),(5:Int),(6:Int)⟩:Gate)),(enc_55 (⟨(20:Int),(0:Int),(2:Int)⟩:Gate))])⟩:(Sl Gate))).1) ((s55 (⟨3,zaf (zd2 [(enc_55 (⟨(0:Int),(0:Int),(2:Int)⟩:Gate)),(enc_55 (⟨(10:Int),(5:Int),(6:Int)⟩:Gate)),(enc_55 (⟨(20:Int),(0:Int),(2:Int)⟩:Gate))])⟩:(Sl Gate))).2.1) ((s55 (⟨3,zaf (zd2 [(enc_55 (⟨(0:Int),(0:Int),(2:Int)⟩:Gate)),(enc_55 (⟨(10:Int),(5:Int),(6:Int)⟩:Gate)),(enc_55 (⟨(20:Int),(0:Int),(2:Int)⟩:Gate))])⟩:(Sl Gate))).2.2)))
theorem zHj (hs:zAd cv0 ev0 fv1 zcf zcg zch zci gv2 sv3 zv3 hv3 zdu zdv zdw zdx=true) (hk:K (e18 (zAc cv0 ev0 fv1 zcf zcg zch zci gv2 sv3 zv3 hv3 zdu zdv zdw zdx))) (zNU:zK4=zg enc_3 sv3):z18 K [1,1,1,1,1] [] ⟨[(1,zS zcl 4 cv0),(2,zI ev0),(3,zp 3 0),(4,zp 4 0),(5,zI fv1),(6,zP (.sl sv3.len 1 zK4)),(7,zI gv2),(8,zI zv3),(9,zp 9 0),(10,zp 10 0),(11,zI hv3)],[(3,.box 25 (zm (zah (⟨zcf,zcg⟩:Frac)))),(4,.box 25 (zm (zah (⟨zch,zci⟩:Frac)))),(9,.box 25 (zm (zah (⟨zdu,zdv⟩:Frac)))),(10,.box 25 (zm (zah (⟨zdw,zdx⟩:Frac))))],[]⟩:=by subst zNU;exact zaH (by kernel_rfl) (zaE hs fun hc hs=>And.intro (And.intro ((zgq [(⟨(20:Int),(0:Int),(2:Int)⟩:Gate)]):IsE enc_55 3 3 (zd2 [(enc_55 (⟨(0:Int),(0:Int),(2:Int)⟩:Gate)),(enc_55 (⟨(10:Int),(5:Int),(6:Int)⟩:Gate)),(enc_55 (⟨(20:Int),(0:Int),(2:Int)⟩:Gate))])) hc) (zHi hs hk rfl rfl))
def zAe (cv0:(Sl Line)) (ev0:Int) (fv1:Int) (zcf:Int) (zcg:Int) (zch:Int) (zci:Int) (sv2:(Sl Int)) (gv2:Int):Bool :=
  (zAc cv0 ev0 fv1 zcf zcg zch zci gv2 sv2 ((s19 s62 (⟨2,zaf (zd2 [(enc_55 (⟨(0:Int),(100:Int),(110:Int)⟩:Gate)),(enc_55 (⟨(200:Int),(40:Int),(50:Int)⟩:Gate))])⟩:(Sl Gate)) (0:Int) (300:Int)).1) ((s19 s62 (⟨2,zaf (zd2 [(enc_55 (⟨(0:Int),(100:Int),(110:Int)⟩:Gate)),(enc_55 (⟨(200:Int),(40:Int),(50:Int)⟩:Gate))])⟩:(Sl Gate)) (0:Int) (300:Int)).2.2.2) (((s19 s62 (⟨2,zaf (zd2 [(enc_55 (⟨(0:Int),(100:Int),(110:Int)⟩:Gate)),(enc_55 (⟨(200:Int),(40:Int),(50:Int)⟩:Gate))])⟩:(Sl Gate)) (0:Int) (300:Int)).2.1).Num) (((s19 s62 (⟨2,zaf (zd2 [(enc_55 (⟨(0:Int),(100:Int),(110:Int)⟩:Gate)),(enc_55 (⟨(200:Int),(40:Int),(50:Int)⟩:Gate))])⟩:(Sl Gate)) (0:Int) (300:Int)).2.1).Den) (((s19 s62 (⟨2,zaf (zd2 [(enc_55 (⟨(0:Int),(100:Int),(110:Int)⟩:Gate)),(enc_55 (⟨(200:Int),(40:Int),(50:Int)⟩:Gate))])⟩:(Sl Gate)) (0:Int) (300:Int)).2.2.1).Num) (((s19 s62 (⟨2,zaf (zd2 [(enc_55 (⟨(0:Int),(100:Int),(110:Int)⟩:Gate)),(enc_55 (⟨(200:Int),(40:Int),(50:Int)⟩:Gate))])⟩:(Sl Gate)) (0:Int) (300:Int)).2.2.1).Den))
def zAf (cv0:(Sl Line)) (ev0:Int) (fv1:Int) (zcf:Int) (zcg:Int) (zch:Int) (zci:Int) (sv2:(Sl Int)) (gv2:Int):Bool :=
  (decide ((p19 s62 (⟨2,zaf (zd2 [(enc_55 (⟨(0:Int),(100:Int),(110:Int)⟩:Gate)),(enc_55 (⟨(200:Int),(40:Int),(50:Int)⟩:Gate))])⟩:(Sl Gate)) (0:Int) (300:Int)=true)) &&
 (zAd cv0 ev0 fv1 zcf zcg zch zci gv2 sv2 ((s19 s62 (⟨2,zaf (zd2 [(enc_55 (⟨(0:Int),(100:Int),(110:Int)⟩:Gate)),(enc_55 (⟨(200:Int),(40:Int),(50:Int)⟩:Gate))])⟩:(Sl Gate)) (0:Int) (300:Int)).1) ((s19 s62 (⟨2,zaf (zd2 [(enc_55 (⟨(0:Int),(100:Int),(110:Int)⟩:Gate)),(enc_55 (⟨(200:Int),(40:Int),(50:Int)⟩:Gate))])⟩:(Sl Gate)) (0:Int) (300:Int)).2.2.2) (((s19 s62 (⟨2,zaf (zd2 [(enc_55 (⟨(0:Int),(100:Int),(110:Int)⟩:Gate)),(enc_55 (⟨(200:Int),(40:Int),(50:Int)⟩:Gate))])⟩:(Sl Gate)) (0:Int) (300:Int)).2.1).Num) (((s19 s62 (⟨2,zaf (zd2 [(enc_55 (⟨(0:Int),(100:Int),(110:Int)⟩:Gate)),(enc_55 (⟨(200:Int),(40:Int),(50:Int)⟩:Gate))])⟩:(Sl Gate)) (0:Int) (300:Int)).2.1).Den) (((s19 s62 (⟨2,zaf (zd2 [(enc_55 (⟨(0:Int),(100:Int),(110:Int)⟩:Gate)),(enc_55 (⟨(200:Int),(40:Int),(50:Int)⟩:Gate))])⟩:(Sl Gate)) (0:Int) (300:Int)).2.2.1).Num) (((s19 s62 (⟨2,zaf (zd2 [(enc_55 (⟨(0:Int),(100:Int),(110:Int)⟩:Gate)),(enc_55 (⟨(200:Int),(40:Int),(50:Int)⟩:Gate))])⟩:(Sl Gate)) (0:Int) (300:Int)).2.2.1).Den)))
theorem zHk (hs:zAf cv0 ev0 fv1 zcf zcg zch zci sv2 gv2=true) (hk:K (e18 (zAe cv0 ev0 fv1 zcf zcg zch zci sv2 gv2))) (zNV:zK3=zg enc_3 sv2):z18 K [1,1,1,1] [] ⟨[(1,zS zcl 4 cv0),(2,zI ev0),(3,zp 3 0),(4,zp 4 0),(5,zI fv1),(6,zP (.sl sv2.len 1 zK3)),(7,zI gv2)],[(3,.box 25 (zm (zah (⟨zcf,zcg⟩:Frac)))),(4,.box 25 (zm (zah (⟨zch,zci⟩:Frac))))],[]⟩:=by subst zNV;exact zaH (by kernel_rfl) (zaE hs fun hc hs=>And.intro (And.intro (zE enc_55 3 s62.get) (And.intro ((zgq []):IsE enc_55 3 3 (zd2 [(enc_55 (⟨(0:Int),(100:Int),(110:Int)⟩:Gate)),(enc_55 (⟨(200:Int),(40:Int),(50:Int)⟩:Gate))])) hc)) (zHj hs hk rfl))
def zAg (cv0:(Sl Line)) (ev0:Int) (fv1:Int) (zcf:Int) (zcg:Int) (zch:Int) (zci:Int):Bool :=
  (zAe cv0 ev0 fv1 zcf zcg zch zci ((s38 s63).1) ((s38 s63).2))
def zAh (cv0:(Sl Line)) (ev0:Int) (fv1:Int) (zcf:Int) (zcg:Int) (zch:Int) (zci:Int):Bool :=
  (decide ((p38 s63=true)) &&
 (zAf cv0 ev0 fv1 zcf zcg zch zci ((s38 s63).1) ((s38 s63).2)))
theorem zHl (hs:zAh cv0 ev0 fv1 zcf zcg zch zci=true) (hk:K (e18 (zAg cv0 ev0 fv1 zcf zcg zch zci))):z18 K [1,1,1] [] ⟨[(1,zS zcl 4 cv0),(2,zI ev0),(3,zp 3 0),(4,zp 4 0),(5,zI fv1)],[(3,.box 25 (zm (zah (⟨zcf,zcg⟩:Frac)))),(4,.box 25 (zm (zah (⟨zch,zci⟩:Frac))))],[]⟩:=zaH (by kernel_rfl) (zaE hs fun hc hs=>And.intro (And.intro (zE enc_55 3 s63.get) hc) (zHk hs hk rfl))
def zAi (cv0:(Sl Line)) (ev0:Int):Bool :=
  (zAg cv0 ev0 ((s30 s62 (300:Int)).2.2) (((s30 s62 (300:Int)).1).Num) (((s30 s62 (300:Int)).1).Den) (((s30 s62 (300:Int)).2.1).Num) (((s30 s62 (300:Int)).2.1).Den))
def zAj (cv0:(Sl Line)) (ev0:Int):Bool :=
  (decide ((p30 s62 (300:Int)=true)) &&
 (zAh cv0 ev0 ((s30 s62 (300:Int)).2.2) (((s30 s62 (300:Int)).1).Num) (((s30 s62 (300:Int)).1).Den) (((s30 s62 (300:Int)).2.1).Num) (((s30 s62 (300:Int)).2.1).Den)))
theorem zHm (hs:zAj cv0 ev0=true) (hk:K (e18 (zAi cv0 ev0))) (zNW:zK2=zg zcl cv0):z18 K [1,1] [] ⟨[(1,zP (.sl cv0.len 4 zK2)),(2,zI ev0)],[],[]⟩:=by subst zNW;exact zaH (by kernel_rfl) (zaE hs fun hc hs=>And.intro (And.intro (zE enc_55 3 s62.get) hc) (zHl hs hk))
def s18:Bool :=
  (zAi ((s31 s62).1) ((s31 s62).2))
def p18:Bool :=
  (decide ((p31 s62=true)) &&
 (zAj ((s31 s62).1) ((s31 s62).2)))
end
theorem q18 (K:List PA→Prop) (hs:p18=true) (hk:K (e18 (s18))):vcFun Try.prog G18 zHd 18 [] K :=
  zaH (by kernel_rfl) (zaE hs fun hc hs=>And.intro (And.intro (zE enc_55 3 s62.get) hc) (zHm hs hk rfl))
theorem zK8:p18=true:=by kernel_rfl
theorem zK9:s18=true:=by kernel_rfl
def zHn : List PA → COut
  | []=>.tot [.one (.bool true)]
  | _=>.no
theorem zLa:zak Try.prog 18:=⟨_,rfl,rfl,by kernel_rfl⟩
theorem zQo:Ok Try.prog 18 zHn:=zaU zNQ zLa fun args K h=>by
  unfold zHn at h
  split at h
  · refine ⟨fun _ _ => [], fun _ => false, zHd, q18 K zK8 ?_⟩
    show K [.one (.bool s18)]
    rw [zK9];exact h
  · exact h.elim
abbrev T44:Tabs:=((Tabs.nil.addF 74 zny).addF 85 zvn)
theorem zNX:TabsOk Try.prog T44:=((TabsOk.nil.addF zER).addF zL7)
abbrev G44:Ctrs:=csm T44 (fun _ _=>[]) (fun _=>false)
def zHo:Ann:=⟨92,[(0,zK [0,1] []),(1,zK [0,1,20] []),(2,zK [4,5] []),(3,zK [0,1,21,22,23] []),(4,zK [0,1,21,22,23,24] []),(5,zK [0,1,6,7,21,22,23] []),(6,zK [0,1,21,22,23,51] []),(7,zK [4,5] []),(8,zK [0,1,21,22,23] []),(9,zK [0,1,8] []),(10,zK [0,1,8,55,56] []),(11,zK [0,1,8,55,56,57] []),(12,zK [0,1,8,9,55,56] []),(13,zK [0,1,8,55,56] []),(14,zK [0,1,8,55,56] []),(15,zK [4,5] [])],
 [(4,zK [0,1,21,22,23] []),(11,zK [0,1,8,55,56] [])],
 [(2,zK [0,1,20] []),(3,zK [0,1] []),(7,zK [0,1,21,22,23,51] []),(9,zK [0,1] [])],
 [],[]⟩
abbrev R44:=(Int×Int)
abbrev e44 (r:R44):List PA:=[.one (.int .i64 r.1),.one (.int .i64 r.2)]
@[irreducible] def z44:=ptF Try.prog G44 zHo Try.f44
def zDI (heights:(Sl Int)) (places:(Sl Int)) (zb6:Int):St:=⟨[(0,zS enc_3 1 heights),(1,zS enc_3 1 places),(21,zS enc_3 1 heights),(22,zI (heights.len:Int)),(23,zI zb6)],[],[]⟩
abbrev zHp (K:List PA→Prop) (heights:(Sl Int)) (places:(Sl Int)) (X:St→Prop) (P:Int→Bool) (S:Int→(Int×Int)):Prop:=∀ ⦃zb6:Int⦄,P zb6=true→K (e44 (S zb6))→X (zDI heights places zb6)
def zDJ (heights:(Sl Int)) (places:(Sl Int)) (zaG:Int) (zbj:Int):St:=⟨[(0,zS enc_3 1 heights),(1,zS enc_3 1 places),(8,zI zaG),(55,zI (w64 ((heights.len:Int) - (2:Int)))),(56,zI zbj)],[],[]⟩
abbrev zLb (K:List PA→Prop) (heights:(Sl Int)) (places:(Sl Int)) (X:St→Prop) (P:Int→Int→Bool) (S:Int→Int→(Int×Int)):Prop:=∀ ⦃zaG:Int⦄ ⦃zbj:Int⦄,P zaG zbj=true→K (e44 (S zaG zbj))→X (zDJ heights places zaG zbj)
section
variable {K:List PA→Prop} {heights:(Sl Int)} {places:(Sl Int)} {zcG:Bool} {zb6:Int} {X2:St→Prop} {P2:Int→Bool} {S2:Int→(Int×Int)} {zsv:Int} {zsw:Bool} {zaG:Int} {zbj:Int} {X5:St→Prop} {P5:Int→Int→Bool} {S5:Int→Int→(Int×Int)}
def zi5 (heights:(Sl Int)) (places:(Sl Int)) (S5:Int→Int→(Int×Int)) (zaG:Int) (zbj:Int):(Int×Int) :=
  (cond (decide (zbj < (w64 ((heights.len : Int) - (2:Int)))))
 (S5 (if (s85 (heights.get zbj.toNat) (heights.get ((w64 (zbj+(1:Int))).toNat)) (heights.get ((w64 (zbj+(2:Int))).toNat)) (places.get zbj.toNat) (places.get ((w64 (zbj+(1:Int))).toNat)) (places.get ((w64 (zbj+(2:Int))).toNat))) > zaG then (s85 (heights.get zbj.toNat) (heights.get ((w64 (zbj+(1:Int))).toNat)) (heights.get ((w64 (zbj+(2:Int))).toNat)) (places.get zbj.toNat) (places.get ((w64 (zbj+(1:Int))).toNat)) (places.get ((w64 (zbj+(2:Int))).toNat))) else zaG) (w64 (zbj+(1:Int))))
 (zaG,(0:Int)))
def zi6 (heights:(Sl Int)) (places:(Sl Int)) (P5:Int→Int→Bool) (zaG:Int) (zbj:Int):Bool :=
  (cond (decide (zbj < (w64 ((heights.len : Int) - (2:Int)))))
 (decide ((0≤zbj∧zbj < (heights.len:Int))) &&
 (decide ((0≤(w64 (zbj+(1:Int)))∧(w64 (zbj+(1:Int))) < (heights.len:Int))) &&
 (decide ((0≤(w64 (zbj+(2:Int)))∧(w64 (zbj+(2:Int))) < (heights.len:Int))) &&
 (decide ((0≤zbj∧zbj < (places.len:Int))) &&
 (decide ((0≤(w64 (zbj+(1:Int)))∧(w64 (zbj+(1:Int))) < (places.len:Int))) &&
 (decide ((0≤(w64 (zbj+(2:Int)))∧(w64 (zbj+(2:Int))) < (places.len:Int))) &&
 (decide ((p85 (heights.get zbj.toNat) (heights.get ((w64 (zbj+(1:Int))).toNat)) (heights.get ((w64 (zbj+(2:Int))).toNat)) (places.get zbj.toNat) (places.get ((w64 (zbj+(1:Int))).toNat)) (places.get ((w64 (zbj+(2:Int))).toNat))=true)) &&
 (P5 (if (s85 (heights.get zbj.toNat) (heights.get ((w64 (zbj+(1:Int))).toNat)) (heights.get ((w64 (zbj+(2:Int))).toNat)) (places.get zbj.toNat) (places.get ((w64 (zbj+(1:Int))).toNat)) (places.get ((w64 (zbj+(2:Int))).toNat))) > zaG then (s85 (heights.get zbj.toNat) (heights.get ((w64 (zbj+(1:Int))).toNat)) (heights.get ((w64 (zbj+(2:Int))).toNat)) (places.get zbj.toNat) (places.get ((w64 (zbj+(1:Int))).toNat)) (places.get ((w64 (zbj+(2:Int))).toNat))) else zaG) (w64 (zbj+(1:Int)))))))))))
 true)
def zi7 (heights:(Sl Int)) (places:(Sl Int)):Nat→Int→Int→(Int×Int):=lpO (fun _ _=>default) (zi5 heights places)
def zi8 (heights:(Sl Int)) (places:(Sl Int)):Nat→Int→Int→Bool:=lpO (fun _ _=>false) (zi6 heights places)
def zAk (heights:(Sl Int)) (places:(Sl Int)) (zaG:Int) (zbj:Int):(Int×Int):=zi7 heights places Fuel zaG zbj
def zAl (heights:(Sl Int)) (places:(Sl Int)) (zaG:Int) (zbj:Int):Bool:=zi8 heights places Fuel zaG zbj
theorem zHq (hs:zAl heights places zaG zbj=true) (hk:K (e44 (zAk heights places zaG zbj))):z44 K [1,1,1,1,0,1,0] [] (zDJ heights places zaG zbj) :=
  zl (fun X=>z44 K [1,1,1,1,0,1,0,0] [X]) (by kernel_rfl) fun X5 hX =>
  (show ∀ k, zLb K heights places X5 (zi8 heights places k) (zi7 heights places k) from zgs _ _ (zi6 heights places) (zi5 heights places) (zLb K heights places X5)
 (by intro _ _ hs;exact absurd hs Bool.false_ne_true)
 (by intro P5 S5 hX5 zaG zbj hs hk;exact hX _ (zaH (by kernel_rfl) (zc hs hk (fun hs hk=>(zaE hs fun hc hs=>And.intro hc (zaE hs fun hc hs=>And.intro hc (zaE hs fun hc hs=>And.intro hc (zaE hs fun hc hs=>And.intro hc (zaE hs fun hc hs=>And.intro hc (zaE hs fun hc hs=>And.intro hc (zaE hs fun hc hs=>And.intro hc (hX5 hs hk))))))))) (fun hs hk=>hk))))) _ hs hk
def zn9 (heights:(Sl Int)) (places:(Sl Int)):(Int×Int) :=
  (zAk heights places (0:Int) (0:Int))
def zoa (heights:(Sl Int)) (places:(Sl Int)):Bool :=
  (zAl heights places (0:Int) (0:Int))
theorem zHr (hs:zoa heights places=true) (hk:K (e44 (zn9 heights places))):z44 K [1,1,1] [] ⟨[(0,zS enc_3 1 heights),(1,zS enc_3 1 places)],[],[]⟩:=zaH (by kernel_rfl) (zHq hs hk)
def zi9 (S2:Int→(Int×Int)) (heights:(Sl Int)) (places:(Sl Int)) (zsv:Int) (zsw:Bool):(Int×Int) :=
  (cond zsw
 ((0:Int),(2:Int))
 (S2 (w64 (zsv+(1:Int)))))
def zja (P2:Int→Bool) (heights:(Sl Int)) (places:(Sl Int)) (zsv:Int) (zsw:Bool):Bool :=
  (cond zsw
 true
 (P2 (w64 (zsv+(1:Int)))))
theorem zob (hX2:zHp K heights places X2 P2 S2) (hs:zja P2 heights places zsv zsw=true) (hk:K (e44 (zi9 S2 heights places zsv zsw))):z44 K [1,1,0,1,0,0,1,1,0,0,1,1] [X2] ⟨[(0,zS enc_3 1 heights),(1,zS enc_3 1 places),(21,zS enc_3 1 heights),(22,zI (heights.len:Int)),(23,zI zsv),(51,zB zsw)],[],[]⟩:=zaH (by kernel_rfl) (zc hs hk (fun hs hk=>hk) (fun hs hk=>(hX2 hs hk)))
def zjb (heights:(Sl Int)) (places:(Sl Int)) (S2:Int→(Int×Int)) (zb6:Int):(Int×Int) :=
  (cond (decide (zb6 < (heights.len : Int)))
 (cond (!(s74 (heights.get zb6.toNat) (0:Int) (100000:Int)))
 (zi9 S2 heights places zb6 true)
 (cond (decide (zb6 > (0:Int)))
 (cond (decide ((heights.get zb6.toNat) ≤ (heights.get ((w64 (zb6 - (1:Int))).toNat))))
 (zi9 S2 heights places zb6 true)
 (zi9 S2 heights places zb6 (!(s74 (places.get zb6.toNat) (-1000000:Int) (1000000:Int)))))
 (zi9 S2 heights places zb6 (!(s74 (places.get zb6.toNat) (-1000000:Int) (1000000:Int))))))
 (zn9 heights places))
def zjc (heights:(Sl Int)) (places:(Sl Int)) (P2:Int→Bool) (zb6:Int):Bool :=
  (cond (decide (zb6 < (heights.len : Int)))
 (decide ((0≤zb6∧zb6 < (heights.len:Int))) &&
 (cond (!(s74 (heights.get zb6.toNat) (0:Int) (100000:Int)))
 (zja P2 heights places zb6 true)
 (cond (decide (zb6 > (0:Int)))
 (decide ((0≤(w64 (zb6 - (1:Int)))∧(w64 (zb6 - (1:Int))) < (heights.len:Int))) &&
 (cond (decide ((heights.get zb6.toNat) ≤ (heights.get ((w64 (zb6 - (1:Int))).toNat))))
 (zja P2 heights places zb6 true)
 (decide ((0≤zb6∧zb6 < (places.len:Int))) &&
 (zja P2 heights places zb6 (!(s74 (places.get zb6.toNat) (-1000000:Int) (1000000:Int)))))))
 (decide ((0≤zb6∧zb6 < (places.len:Int))) &&
 (zja P2 heights places zb6 (!(s74 (places.get zb6.toNat) (-1000000:Int) (1000000:Int))))))))
 (zoa heights places))
def zjd (heights:(Sl Int)) (places:(Sl Int)):Nat→Int→(Int×Int):=lpO (fun _=>default) (zjb heights places)
def zje (heights:(Sl Int)) (places:(Sl Int)):Nat→Int→Bool:=lpO (fun _=>false) (zjc heights places)
def zAm (heights:(Sl Int)) (places:(Sl Int)) (zb6:Int):(Int×Int):=zjd heights places Fuel zb6
def zAn (heights:(Sl Int)) (places:(Sl Int)) (zb6:Int):Bool:=zje heights places Fuel zb6
theorem zHs (hs:zAn heights places zb6=true) (hk:K (e44 (zAm heights places zb6))):z44 K [1,1,0,1,0] [] (zDI heights places zb6) :=
  zl (fun X=>z44 K [1,1,0,1,0,0] [X]) (by kernel_rfl) fun X2 hX =>
  (show ∀ k, zHp K heights places X2 (zje heights places k) (zjd heights places k) from zgs _ _ (zjc heights places) (zjb heights places) (zHp K heights places X2)
 (by intro _ hs;exact absurd hs Bool.false_ne_true)
 (by intro P2 S2 hX2 zb6 hs hk;exact hX _ (zaH (by kernel_rfl) (zc hs hk (fun hs hk=>(zaE hs fun hc hs=>And.intro hc (zc hs hk (fun hs hk=>(zob hX2 hs hk)) (fun hs hk=>(zc hs hk (fun hs hk=>(zaE hs fun hc hs=>And.intro hc (zc hs hk (fun hs hk=>(zob hX2 hs hk)) (fun hs hk=>(zaE hs fun hc hs=>And.intro hc (zob hX2 hs hk)))))) (fun hs hk=>(zaE hs fun hc hs=>And.intro hc (zob hX2 hs hk)))))))) (fun hs hk=>(zHr hs hk)))))) _ hs hk
def zAo (heights:(Sl Int)) (places:(Sl Int)):(Int×Int) :=
  (zAm heights places (0:Int))
def zAp (heights:(Sl Int)) (places:(Sl Int)):Bool :=
  (zAn heights places (0:Int))
theorem zHt (hs:zAp heights places=true) (hk:K (e44 (zAo heights places))):z44 K [1,1] [] ⟨[(0,zS enc_3 1 heights),(1,zS enc_3 1 places)],[],[]⟩:=zaH (by kernel_rfl) (zHs hs hk)
def zoc (heights:(Sl Int)) (places:(Sl Int)) (zcG:Bool):(Int×Int) :=
  (cond zcG
 ((0:Int),(2:Int))
 (zAo heights places))
def zod (heights:(Sl Int)) (places:(Sl Int)) (zcG:Bool):Bool :=
  (cond zcG
 true
 (zAp heights places))
theorem zAq (hs:zod heights places zcG=true) (hk:K (e44 (zoc heights places zcG))):z44 K [1,0,1] [] ⟨[(0,zS enc_3 1 heights),(1,zS enc_3 1 places),(20,zB zcG)],[],[]⟩:=zaH (by kernel_rfl) (zc hs hk (fun hs hk=>hk) (fun hs hk=>(zHt hs hk)))
def s44 (heights:(Sl Int)) (places:(Sl Int)):(Int×Int) :=
  (cond (!(s74 (heights.len : Int) (2:Int) (8:Int)))
 (zoc heights places true)
 (zoc heights places ((places.len:Int) != (heights.len:Int))))
def p44 (heights:(Sl Int)) (places:(Sl Int)):Bool :=
  (cond (!(s74 (heights.len : Int) (2:Int) (8:Int)))
 (zod heights places true)
 (zod heights places ((places.len:Int) != (heights.len:Int))))
end
theorem q44 (heights:(Sl Int)) (places:(Sl Int)) (K:List PA→Prop) (hs:p44 heights places=true) (hk:K (e44 (s44 heights places))):vcFun Try.prog G44 zHo 44 [.one (.sl heights.len 1 (fun i=>enc_3 (heights.get i))),.one (.sl places.len 1 (fun i=>enc_3 (places.get i)))] K :=
  zaH (by kernel_rfl) (zc hs hk (fun hs hk=>(zAq hs hk)) (fun hs hk=>(zAq hs hk)))
def zHu : List PA → COut
  | [.one (.sl a0_n a0_s a0_g),.one (.sl a1_n a1_s a1_g)]=>.det (IsE enc_3 1 a0_s a0_g∧IsE enc_3 1 a1_s a1_g∧p44 (⟨a0_n,zce a0_g⟩:(Sl Int)) (⟨a1_n,zce a1_g⟩:(Sl Int))=true) [.one (.int .i64 ((s44 (⟨a0_n,zce a0_g⟩:(Sl Int)) (⟨a1_n,zce a1_g⟩:(Sl Int))).1)),.one (.int .i64 ((s44 (⟨a0_n,zce a0_g⟩:(Sl Int)) (⟨a1_n,zce a1_g⟩:(Sl Int))).2))]
  | _=>.no
theorem zLc:zak Try.prog 44:=⟨_,rfl,rfl,by kernel_rfl⟩
theorem zQp:Ok Try.prog 44 zHu:=zaU zNX zLc fun args K h=>by
  unfold zHu at h
  split at h
  · rename_i a0_n a0_s a0_g a1_n a1_s a1_g
    obtain ⟨⟨⟨rfl,a0_f,rfl⟩,⟨rfl,a1_f,rfl⟩,hs⟩,hk⟩:=h
    try rw [zbO a0_f] at hs
    try rw [zbO a0_f] at hk
    try rw [zbO a1_f] at hs
    try rw [zbO a1_f] at hk
    exact ⟨(fun _ _=>[]),(fun _=>false),zHo,q44 (⟨a0_n,a0_f⟩:(Sl Int)) (⟨a1_n,a1_f⟩:(Sl Int)) K hs hk⟩
  · exact h.elim
abbrev T94:Tabs:=Tabs.nil
theorem zNY:TabsOk Try.prog T94:=TabsOk.nil
abbrev G94:Ctrs:=csm T94 (fun _ _=>[]) (fun _=>false)
def zHv:Ann:=⟨27,[(0,⟨[2],[2,4098],[],[],[],[],[]⟩)],
 [],
 [],
 [],[]⟩
theorem zHw (n : Nat) (f : Nat → Span) (iv pv : Int) (K : List PA → List XA → Prop) : zvl Try.prog G94 zHv 94 [.d (.one (.int .i64 iv)), .d (.one (.int .i64 pv)), .box 87 [.vec 96 2 16 n (fun i => zam (f i))]] K =
  (((0≤iv∧iv < (n:Int))) ∧
 (((iv.toNat < n)) ∧
 (((0≤iv∧iv < (n:Int))) ∧
 (((iv.toNat < n)) ∧
 (((0≤iv∧iv < (n:Int))) ∧
 (((iv.toNat < n)) ∧
 (((0≤iv∧iv < (n:Int))) ∧
 (((iv.toNat < n)) ∧
 (K [] [.d (.one (.int .i64 iv)),.d (.one (.int .i64 pv)),.box 87 [.vec 96 2 16 n (zoZ iv.toNat 1 (zoZ iv.toNat 0 (fun i=>zam (f i)) (enc_3 (if pv < (f iv.toNat).Low then pv else (f iv.toNat).Low))) (enc_3 (if pv > (f iv.toNat).High then pv else (f iv.toNat).High)))]]))))))))):=by kernel_rfl
def s94 (i p:Int) (f:Nat→Span):Nat→Span:=fun j=>match Nat.beq j i.toNat with
  | true=>⟨if p < (f i.toNat).Low then p else (f i.toNat).Low,if p > (f i.toNat).High then p else (f i.toNat).High⟩
  | false=>f j
def p94 (i:Int) (n:Nat):Bool:=decide (0≤i∧i < (n:Int))
def zHx : MK
  | [.d (.one (.int .i64 i)),.d (.one (.int .i64 p)),.box 87 [.vec 96 2 16 n g]]=>some (IsE zam 2 2 g∧p94 i n=true,[],[.d (.one (.int .i64 i)),.d (.one (.int .i64 p)),.box 87 [.vec 96 2 16 n (fun j=>zam (s94 i p (zwW g) j))]])
  | _=>none
theorem zLd:zak Try.prog 94:=⟨_,rfl,rfl,by kernel_rfl⟩
theorem zQq:zuV Try.prog 94 zHx:=zEL zNY zLd fun xs safe rs ys h hs K hk=>by
  unfold zHx at h
  split at h
  · rename_i i p n g
    simp only [Option.some.injEq,Prod.mk.injEq] at h
    obtain ⟨rfl,rfl,rfl⟩:=h
    obtain ⟨⟨_,f,rfl⟩,hp⟩:=hs
    refine ⟨fun _ _=>[],fun _=>false,zHv,?_⟩
    show zvl Try.prog G94 zHv 94 _ K
    rw [zHw]
    have hp:0≤i∧i < (n:Int):=of_decide_eq_true hp
    have hn:i.toNat < n:=by omega
    have e:(fun j=>zam (s94 i p (zwW (fun i=>zam (f i))) j))=zoZ i.toNat 1 (zoZ i.toNat 0 (fun j=>zam (f j)) [.int .i64 (if p < (f i.toNat).Low then p else (f i.toNat).Low)]) [.int .i64 (if p > (f i.toNat).High then p else (f i.toNat).High)]:=by
      funext j
      show zam (s94 i p f j)=_
      unfold s94 zoZ
      cases hj:Nat.beq j i.toNat with
      | true=>have:=Nat.eq_of_beq_eq_true hj;subst this;rfl
      | false=>rfl
    rw [e] at hk
    exact ⟨hp,hn,hp,hn,hp,hn,hp,hn,hk⟩
  · cases h
abbrev MpS:=Nat×(List Int→Option (List Int))
def zDK (s:MpS) (y:List Int):MpS:=(addN (s.2 y) s.1,ze0 y [1] s.2)
theorem zAr {F:List Int→Option (List Int)} {x y:List Int} {v:List Int} : ze0 x v (ze0 y v F)=ze0 y v (ze0 x v F):=by
  funext z
  show (match decide (z=x) with | true=>some v | false=>match decide (z=y) with | true=>some v | false=>F z)=(match decide (z=y) with | true=>some v | false=>match decide (z=x) with | true=>some v | false=>F z)
  cases decide (z=x) <;> cases decide (z=y) <;> rfl
theorem zCp (a:Option (List Int)) (n:Nat):addN a n=if a=none then n+1 else n:=by cases a <;> simp [addN]
theorem zAs {F:List Int→Option (List Int)} {x y v:List Int} : ze0 x v F y=none↔y ≠ x∧F y=none:=by
  unfold ze0
  by_cases h:y=x <;> simp [h]
theorem zqr (s:MpS) (x y:List Int):zDK (zDK s x) y=zDK (zDK s y) x:=by
  by_cases h:x=y
  · rw [h]
  · unfold zDK
    refine Prod.ext ?_ zAr
    simp only [zCp,zAs]
    by_cases h1:s.2 x=none <;> by_cases h2:s.2 y=none <;> simp [h1,h2,h,Ne.symm h]
def insL (s:MpS) (l:List (List Int)):MpS:=l.foldl zDK s
theorem zAt (s:MpS) {l m:List (List Int)} (h:l.Perm m):insL s l=insL s m:=h.foldl_eq' (fun x _ y _ z=>zqr z x y) s
theorem zAu (s:MpS) (l m:List (List Int)):insL (insL s l) m=insL (insL s m) l:=by
  unfold insL
  rw [← List.foldl_append,← List.foldl_append]
  exact zAt s List.perm_append_comm
theorem zj6 (i j p q:Int) (f:Nat→Span):s94 i p (s94 j q f)=s94 j q (s94 i p f):=by
  funext z
  have e:∀ (i p:Int) (f:Nat→Span) (z:Nat),s94 i p f z=if z=i.toNat then ⟨if p < (f z).Low then p else (f z).Low,if p > (f z).High then p else (f z).High⟩ else f z:=by
    intro i p f z
    unfold s94
    cases h:Nat.beq z i.toNat with
    | true=>have:=Nat.eq_of_beq_eq_true h;subst this;rw [if_pos rfl]
    | false=>rw [if_neg (Nat.ne_of_beq_eq_false h)]
  rw [e,e,e,e]
  by_cases h1:z=i.toNat <;> by_cases h2:z=j.toNat
  · rw [if_pos h1, if_pos h2, if_pos h2, if_pos h1]
    refine Span.mk.injEq _ _ _ _ ▸ ⟨?_,?_⟩ <;> (dsimp only;repeat' split) <;> omega
  · rw [if_pos h1,if_neg h2,if_neg h2,if_pos h1]
  · rw [if_neg h1,if_pos h2,if_pos h2,if_neg h1]
  · rw [if_neg h1,if_neg h2,if_neg h2,if_neg h1]
def zHy (a b:Int):List Int:=(List.range (b - a+1).toNat).map fun (i:Nat)=>a+i
def zes (a b:Gate):List (List Int):=(zHy a.Low a.High).flatMap fun p=>(zHy b.Low b.High).map fun q=>[p,q]
abbrev T56:Tabs:=(((((Tabs.nil.addF 74 zny).addF 85 zvn).addF 92 zBS).addF 93 zBT).addM 94 zHx)
theorem zNZ:TabsOk Try.prog T56:=(((((TabsOk.nil.addF zER).addF zL7).addF zOn).addF zOo).addM zQq)
abbrev G56:Ctrs:=csm T56 (fun _ _=>[]) (fun l=>Nat.beq l 42 || Nat.beq l 66)
def zaJ:Ann:=⟨150,[(0,⟨[0,1],[],[],[],[],[],[]⟩),(1,⟨[0,1,25],[],[],[],[],[],[]⟩),(2,⟨[4,5],[],[],[],[],[],[]⟩),(3,⟨[0,1,6],[],[],[],[],[],[]⟩),(4,⟨[0,1,6,7],[7,30],[],[],[],[],[]⟩),(5,⟨[0,1,6,7,32,33],[7,30],[],[],[],[],[]⟩),(6,⟨[0,1,6,7,32,33,34],[7,30],[],[],[],[],[]⟩),(7,⟨[0,1,6,7,8,32,33],[7,30],[],[],[],[],[]⟩),(8,⟨[0,1,6,7,32,33],[7,30],[],[],[],[],[]⟩),(9,⟨[0,1,6,7,32,33],[7,30],[],[],[],[],[]⟩),(10,⟨[0,1,6,7,9],[7,30],[],[],[],[],[]⟩),(11,⟨[0,1,6,7,9,10],[7,30,42],[],[],[],[],[]⟩),(12,⟨[0,1,6,7,9,10,46],[7,30,42,46],[],[],[],[],[]⟩),(13,⟨[0,1,6,7,9,10,46,48],[7,30,42,46],[],[],[],[],[]⟩),(14,⟨[0,1,6,7,9,10,11,12,46],[7,11,30,42,46],[],[],[],[],[]⟩),(15,⟨[0,1,6,7,9,10,11,46,54],[7,11,30,42,46],[],[],[],[],[]⟩),(16,⟨[0,1,6,7,9,10,46],[7,30,42,46],[],[],[],[],[]⟩),(17,⟨[0,1,6,7,9,10,59],[7,30,42],[],[],[],[],[]⟩),(18,⟨[4,5],[],[],[],[],[],[]⟩),(19,⟨[0,1,6,7,9,10,62,63],[7,30,42],[],[],[],[],[]⟩),(20,⟨[0,1,6,7,9,10,62,63,64],[7,30],[],[],[],[],[]⟩),(21,⟨[0,1,6,7,9,10,13,62,63],[7,30],[],[],[],[],[]⟩),(22,⟨[0,1,6,7,9,10,13,14,62,63],[7,30,66],[],[],[],[],[]⟩),(23,⟨[0,1,6,7,9,13,14,62,63,68],[7,30,66,68],[],[],[],[],[]⟩),(24,⟨[0,1,6,7,9,13,14,62,63,68,70],[7,30,66,68],[],[],[],[],[]⟩),(25,⟨[0,1,6,7,9,13,14,15,62,63,68],[7,15,30,66,68],[],[],[],[],[]⟩),(26,⟨[0,1,6,7,9,13,14,15,62,63,68],[7,15,30,66,68],[],[],[],[],[]⟩),(27,⟨[0,1,6,7,9,13,14,15,62,63,68],[7,15,30,66,68],[],[],[],[],[]⟩),(28,⟨[0,1,6,7,9,13,14,15,62,63,68,88],[7,15,30,66,68],[],[],[],[],[]⟩),(29,⟨[0,1,6,7,9,13,14,15,16,62,63,68],[7,15,30,66,68],[],[],[],[],[]⟩),(30,⟨[0,1,6,7,9,13,14,15,16,62,63,68,102],[7,15,30,66,68],[],[],[],[],[]⟩),(31,⟨[0,1,6,7,9,13,14,15,16,62,63,68],[7,15,30,66,68],[],[],[],[],[]⟩),(32,⟨[0,1,6,7,9,13,14,15,16,17,62,63,68],[7,15,17,30,66,68],[],[],[],[],[]⟩),(33,⟨[0,1,6,7,9,13,14,15,16,17,62,63,68,144],[7,15,17,30,66,68],[],[],[],[],[]⟩),(34,⟨[0,1,6,7,9,13,14,15,16,62,63,68],[7,15,30,66,68],[],[],[],[],[]⟩),(35,⟨[0,1,6,7,9,10,62,63],[7,30,66],[],[],[],[],[]⟩),(36,⟨[0,1,6,7,9,10,62,63],[7,30,66],[],[],[],[],[]⟩),(37,⟨[4,5],[30],[],[],[],[],[]⟩)],
 [(6,⟨[0,1,6,7,32,33],[7,30],[],[],[],[],[]⟩),(13,⟨[0,1,6,7,9,10,46],[7,30,42,46],[],[],[],[],[]⟩),(20,⟨[0,1,6,7,9,10,62,63],[7,30],[],[],[],[],[(10,1,fun _=>zMz default)]⟩),(24,⟨[0,1,6,7,9,13,14,62,63,68],[7,30,66,68],[],[],[],[],[]⟩),(30,⟨[0,1,6,7,9,13,14,15,16,62,63,68],[7,15,30,66,68],[],[],[],[],[]⟩)],
 [(2,⟨[0,1,25],[],[],[],[],[],[]⟩),(3,⟨[0,1],[],[],[],[],[],[]⟩),(4,⟨[0,1,6],[],[],[],[],[],[]⟩),(10,⟨[0,1,6,7],[7,30],[],[],[],[],[]⟩),(17,⟨[0,1,6,7,9,10],[7,30,42],[],[],[],[],[]⟩),(19,⟨[0,1,6,7,9,10],[7,30,42],[],[],[],[],[]⟩),(27,⟨[0,1,6,7,9,13,14,15,62,63,68],[7,15,30,66,68],[],[],[],[],[]⟩),(28,⟨[0,1,6,7,9,13,14,15,62,63,68],[7,15,30,66,68],[],[],[],[],[]⟩),(34,⟨[0,1,6,7,9,13,14,15,16,17,62,63,68,144],[7,15,17,30,66,68],[],[],[],[],[]⟩)],
 [],[]⟩
def zLe (zaa:(Sl Gate)) (kink:Int) (zhq:Bool):St:=⟨[(0,.one (.c (.p (.sl zaa.len 3 (fun i=>enc_55 (zaa.get i)))))),(1,.one (.c (.p (.int .i64 kink)))),(25,.one (.c (.p (.bool zhq))))],[],[]⟩
def zlB (K:List PA→Prop) (zaa:(Sl Gate)) (kink:Int) (zhq:Bool):Prop:=vc Try.prog G56 zaJ (cdF Try.f56 [1,0,1]) (sqK Try.prog G56 zaJ (cdF Try.f56 [1,1]) (zbC Try.prog Try.f56 K)) (zLe zaa kink zhq)
def zLf (zaa:(Sl Gate)) (kink:Int):St:=⟨[(0,.one (.c (.p (.sl zaa.len 3 (fun i=>enc_55 (zaa.get i)))))),(1,.one (.c (.p (.int .i64 kink))))],[],[]⟩
def zoe (K:List PA→Prop) (zaa:(Sl Gate)) (kink:Int):Prop:=vc Try.prog G56 zaJ (cdF Try.f56 [1,1]) (zbC Try.prog Try.f56 K) (zLf zaa kink)
def zLg (zaa:(Sl Gate)) (kink:Int) (zem:Nat) (zco:Nat→List PV):St:=⟨[(0,.one (.c (.p (.sl zaa.len 3 (fun i=>enc_55 (zaa.get i)))))),(1,.one (.c (.p (.int .i64 kink)))),(6,.one (.c (.p (.sl zem 1 zco))))],[],[]⟩
def zof (K:List PA→Prop) (zaa:(Sl Gate)) (kink:Int) (zem:Nat) (zco:Nat→List PV):Prop:=vc Try.prog G56 zaJ (cdF Try.f56 [1,1,1]) (zbC Try.prog Try.f56 K) (zLg zaa kink zem zco)
def zlC (zaa:(Sl Gate)) (kink:Int) (zab:(Sl Mp)) (zbB:Int) (zgf:Nat) (zcK:Nat→List PV):St:=⟨[(0,.one (.c (.p (.sl zaa.len 3 (fun i=>enc_55 (zaa.get i)))))),(1,.one (.c (.p (.int .i64 kink)))),(6,.one (.c (.p (.sl zab.len 1 (fun i=>zbq (zab.get i)))))),(7,.one (.c (.ptr 7 0))),(32,.one (.c (.p (.int .i64 ((zaa.len:Int).toNat:Int))))),(33,.one (.c (.p (.int .i64 zbB))))],[(7,.box 87 [.vec 30]),(30,.vec 96 2 16 zgf zcK)],[]⟩
def zlD (K:List PA→Prop) (zaa:(Sl Gate)) (kink:Int) (zab:(Sl Mp)) (zbB:Int) (zgf:Nat) (zcK:Nat→List PV):Prop:=vc Try.prog G56 zaJ (cdF Try.f56 [1,1,1,1,0,1,0]) (zay 0 (sqK Try.prog G56 zaJ (cdF Try.f56 [1,1,1,1,1]) (zbC Try.prog Try.f56 K))) (zlC zaa kink zab zbB zgf zcK)
def zLh (zaa:(Sl Gate)) (kink:Int) (zab:(Sl Mp)) (zsx:Nat) (zjf:Nat→List PV):St:=⟨[(0,.one (.c (.p (.sl zaa.len 3 (fun i=>enc_55 (zaa.get i)))))),(1,.one (.c (.p (.int .i64 kink)))),(6,.one (.c (.p (.sl zab.len 1 (fun i=>zbq (zab.get i)))))),(7,.one (.c (.ptr 7 0)))],[(7,.box 87 [.vec 30]),(30,.vec 96 2 16 zsx zjf)],[]⟩
def zog (K:List PA→Prop) (zaa:(Sl Gate)) (kink:Int) (zab:(Sl Mp)) (zsx:Nat) (zjf:Nat→List PV):Prop:=vc Try.prog G56 zaJ (cdF Try.f56 [1,1,1,1,1]) (zbC Try.prog Try.f56 K) (zLh zaa kink zab zsx zjf)
def zjK (zaa:(Sl Gate)) (kink:Int) (zab:(Sl Mp)) (za1:(Sl Span)) (za2:(List (List Int))) (zaF:Nat) (zaC:(List Int→Option (List Int))):St:=⟨[(0,.one (.c (.p (.sl zaa.len 3 (fun i=>enc_55 (zaa.get i)))))),(1,.one (.c (.p (.int .i64 kink)))),(6,.one (.c (.p (.sl zab.len 1 (fun i=>zbq (zab.get i)))))),(7,.one (.c (.ptr 7 0))),(9,.one (.c (.clo 94 [.b 7]))),(10,.one (.c (.mo 42))),(46,.one (.c (.ptr 46 0)))],[(7,.box 87 [.vec 30]),(30,.vec 96 2 16 za1.len (fun i=>zam (za1.get i))),(42,.mo 131 4 (true,2,false,[none]) zaF zaC),(46,.mit (true,2,false,[some .i64]) ((zab.get 0).n) ((zab.get 0).F) za2)],[]⟩
def zlE (K:List PA→Prop) (zaa:(Sl Gate)) (kink:Int) (zab:(Sl Mp)) (za1:(Sl Span)) (za2:(List (List Int))) (zaF:Nat) (zaC:(List Int→Option (List Int))):Prop:=vc Try.prog G56 zaJ (cdF Try.f56 [1,1,1,1,1,1,1,0,1,0]) (zay 2 (sqK Try.prog G56 zaJ (cdF Try.f56 [1,1,1,1,1,1,1,1]) (zbC Try.prog Try.f56 K))) (zjK zaa kink zab za1 za2 zaF zaC)
def zLi (zaa:(Sl Gate)) (kink:Int) (zab:(Sl Mp)) (zsy:Nat) (zjg:Nat→List PV) (zcB:Nat) (zc4:(List Int→Option (List Int))):St:=⟨[(0,.one (.c (.p (.sl zaa.len 3 (fun i=>enc_55 (zaa.get i)))))),(1,.one (.c (.p (.int .i64 kink)))),(6,.one (.c (.p (.sl zab.len 1 (fun i=>zbq (zab.get i)))))),(7,.one (.c (.ptr 7 0))),(9,.one (.c (.clo 94 [.b 7]))),(10,.one (.c (.mo 42)))],[(7,.box 87 [.vec 30]),(30,.vec 96 2 16 zsy zjg),(42,.mo 131 4 (true,2,false,[none]) zcB zc4)],[]⟩
def zoh (K:List PA→Prop) (zaa:(Sl Gate)) (kink:Int) (zab:(Sl Mp)) (zsy:Nat) (zjg:Nat→List PV) (zcB:Nat) (zc4:(List Int→Option (List Int))):Prop:=vc Try.prog G56 zaJ (cdF Try.f56 [1,1,1,1,1,1,1,1]) (zbC Try.prog Try.f56 K) (zLi zaa kink zab zsy zjg zcB zc4)
def zLj (zaa:(Sl Gate)) (kink:Int) (zab:(Sl Mp)) (zsz:Nat) (zjh:Nat→List PV) (zc5:Nat) (zc6:(List Int→Option (List Int))):St:=⟨[(0,.one (.c (.p (.sl zaa.len 3 (fun i=>enc_55 (zaa.get i)))))),(1,.one (.c (.p (.int .i64 kink)))),(6,.one (.c (.p (.sl zab.len 1 (fun i=>zbq (zab.get i)))))),(7,.one (.c (.ptr 7 0))),(9,.one (.c (.clo 94 [.b 7]))),(10,.one (.c (.mo 42)))],[(7,.box 87 [.vec 30]),(30,.vec 96 2 16 zsz zjh),(42,.mo 131 4 (true,2,false,[none]) zc5 zc6)],[]⟩
def zoi (K:List PA→Prop) (zaa:(Sl Gate)) (kink:Int) (zab:(Sl Mp)) (zsz:Nat) (zjh:Nat→List PV) (zc5:Nat) (zc6:(List Int→Option (List Int))):Prop:=vc Try.prog G56 zaJ (cdF Try.f56 [1,1,1,1,1,1,1,1,1]) (zbC Try.prog Try.f56 K) (zLj zaa kink zab zsz zjh zc5 zc6)
def zfC (zaa:(Sl Gate)) (kink:Int) (zab:(Sl Mp)) (zad:Nat) (zac:(List Int→Option (List Int))) (za7:Int) (zgg:Nat) (zbc:Nat→List PV):St:=⟨[(0,.one (.c (.p (.sl zaa.len 3 (fun i=>enc_55 (zaa.get i)))))),(1,.one (.c (.p (.int .i64 kink)))),(6,.one (.c (.p (.sl zab.len 1 (fun i=>zbq (zab.get i)))))),(7,.one (.c (.ptr 7 0))),(9,.one (.c (.clo 94 [.b 7]))),(10,.one (.c (.p (.fm (true,2,false,[none]) zad zac)))),(62,.one (.c (.p (.int .i64 (w64 ((zaa.len:Int) - (1:Int))))))),(63,.one (.c (.p (.int .i64 za7))))],[(7,.box 87 [.vec 30]),(30,.vec 96 2 16 zgg zbc)],[]⟩
def zlF (K:List PA→Prop) (zaa:(Sl Gate)) (kink:Int) (zab:(Sl Mp)) (zad:Nat) (zac:(List Int→Option (List Int))) (za7:Int) (zgg:Nat) (zbc:Nat→List PV):Prop:=vc Try.prog G56 zaJ (cdF Try.f56 [1,1,1,1,1,1,1,1,1,0,1,0]) (zay 4 (sqK Try.prog G56 zaJ (cdF Try.f56 [1,1,1,1,1,1,1,1,1,1]) (zbC Try.prog Try.f56 K))) (zfC zaa kink zab zad zac za7 zgg zbc)
def zfD (zaa:(Sl Gate)) (kink:Int) (zab:(Sl Mp)) (zad:Nat) (zac:(List Int→Option (List Int))) (zai:(List (List Int))) (iv9:Int) (za5:Int) (zgh:Nat) (zbd:Nat→List PV) (zaq:Nat) (zar:(List Int→Option (List Int))):St:=⟨[(0,.one (.c (.p (.sl zaa.len 3 (fun i=>enc_55 (zaa.get i)))))),(1,.one (.c (.p (.int .i64 kink)))),(6,.one (.c (.p (.sl zab.len 1 (fun i=>zbq (zab.get i)))))),(7,.one (.c (.ptr 7 0))),(9,.one (.c (.clo 94 [.b 7]))),(13,.one (.c (.p (.int .i64 iv9)))),(14,.one (.c (.mo 66))),(62,.one (.c (.p (.int .i64 (w64 ((zaa.len:Int) - (1:Int))))))),(63,.one (.c (.p (.int .i64 za5)))),(68,.one (.c (.ptr 68 0)))],[(7,.box 87 [.vec 30]),(30,.vec 96 2 16 zgh zbd),(66,.mo 131 4 (true,2,false,[none]) zaq zar),(68,.mit (true,2,false,[none]) zad zac zai)],[]⟩
def zlG (K:List PA→Prop) (X8:St→Prop) (zaa:(Sl Gate)) (kink:Int) (zab:(Sl Mp)) (zad:Nat) (zac:(List Int→Option (List Int))) (zai:(List (List Int))) (iv9:Int) (za5:Int) (zgh:Nat) (zbd:Nat→List PV) (zaq:Nat) (zar:(List Int→Option (List Int))):Prop:=vc Try.prog G56 zaJ (cdF Try.f56 [1,1,1,1,1,1,1,1,1,0,1,0,0,1,1,0,0,1,1,0,1,0]) (zay 6 (sqK Try.prog G56 zaJ (cdF Try.f56 [1,1,1,1,1,1,1,1,1,0,1,0,0,1,1,0,0,1,1,1]) (zay 5 (sqK Try.prog G56 zaJ (cdF Try.f56 [1,1,1,1,1,1,1,1,1,0,1,0,0,1,1,1]) (zb4 Try.prog zaJ 20 X8 (zay 4 (sqK Try.prog G56 zaJ (cdF Try.f56 [1,1,1,1,1,1,1,1,1,1]) (zbC Try.prog Try.f56 K)))))))) (zfD zaa kink zab zad zac zai iv9 za5 zgh zbd zaq zar)
def zHz (zaa:(Sl Gate)) (kink:Int) (zab:(Sl Mp)) (zad:Nat) (zac:(List Int→Option (List Int))) (zai:(List (List Int))) (k68_0:Int) (k68_1:Int) (zdL:Int) (zd1:Int) (zoj:Nat) (zgu:Nat→List PV) (zcj:Nat) (zck:(List Int→Option (List Int))):St:=⟨[(0,.one (.c (.p (.sl zaa.len 3 (fun i=>enc_55 (zaa.get i)))))),(1,.one (.c (.p (.int .i64 kink)))),(6,.one (.c (.p (.sl zab.len 1 (fun i=>zbq (zab.get i)))))),(7,.one (.c (.ptr 7 0))),(9,.one (.c (.clo 94 [.b 7]))),(13,.one (.c (.p (.int .i64 zdL)))),(14,.one (.c (.mo 66))),(15,.one (.c (.ptr 15 0))),(62,.one (.c (.p (.int .i64 (w64 ((zaa.len:Int) - (1:Int))))))),(63,.one (.c (.p (.int .i64 zd1)))),(68,.one (.c (.ptr 68 0)))],[(7,.box 87 [.vec 30]),(15,.box 131 [.p (.int .i64 k68_0),.p (.int .i64 k68_1)]),(30,.vec 96 2 16 zoj zgu),(66,.mo 131 4 (true,2,false,[none]) zcj zck),(68,.mit (true,2,false,[none]) zad zac ([k68_0,k68_1] :: zai))],[]⟩
def zj7 (K:List PA→Prop) (X8:St→Prop) (X9:St→Prop) (zaa:(Sl Gate)) (kink:Int) (zab:(Sl Mp)) (zad:Nat) (zac:(List Int→Option (List Int))) (zai:(List (List Int))) (k68_0:Int) (k68_1:Int) (zdL:Int) (zd1:Int) (zoj:Nat) (zgu:Nat→List PV) (zcj:Nat) (zck:(List Int→Option (List Int))):Prop:=vc Try.prog G56 zaJ (cdF Try.f56 [1,1,1,1,1,1,1,1,1,0,1,0,0,1,1,0,0,1,1,0,1,0,0,1,1,0,1,1]) (zay 7 (zb4 Try.prog zaJ 24 X9 (zay 6 (sqK Try.prog G56 zaJ (cdF Try.f56 [1,1,1,1,1,1,1,1,1,0,1,0,0,1,1,0,0,1,1,1]) (zay 5 (sqK Try.prog G56 zaJ (cdF Try.f56 [1,1,1,1,1,1,1,1,1,0,1,0,0,1,1,1]) (zb4 Try.prog zaJ 20 X8 (zay 4 (sqK Try.prog G56 zaJ (cdF Try.f56 [1,1,1,1,1,1,1,1,1,1]) (zbC Try.prog Try.f56 K)))))))))) (zHz zaa kink zab zad zac zai k68_0 k68_1 zdL zd1 zoj zgu zcj zck)
def zHA (zaa:(Sl Gate)) (kink:Int) (zab:(Sl Mp)) (zad:Nat) (zac:(List Int→Option (List Int))) (zai:(List (List Int))) (k68_0:Int) (k68_1:Int) (zeU:Int) (zdi:Int) (zok:Nat) (zgv:Nat→List PV) (zbT:Nat) (zbU:(List Int→Option (List Int))):St:=⟨[(0,.one (.c (.p (.sl zaa.len 3 (fun i=>enc_55 (zaa.get i)))))),(1,.one (.c (.p (.int .i64 kink)))),(6,.one (.c (.p (.sl zab.len 1 (fun i=>zbq (zab.get i)))))),(7,.one (.c (.ptr 7 0))),(9,.one (.c (.clo 94 [.b 7]))),(13,.one (.c (.p (.int .i64 zeU)))),(14,.one (.c (.mo 66))),(15,.one (.c (.ptr 15 0))),(62,.one (.c (.p (.int .i64 (w64 ((zaa.len:Int) - (1:Int))))))),(63,.one (.c (.p (.int .i64 zdi)))),(68,.one (.c (.ptr 68 0)))],[(7,.box 87 [.vec 30]),(15,.box 131 [.p (.int .i64 k68_0),.p (.int .i64 k68_1)]),(30,.vec 96 2 16 zok zgv),(66,.mo 131 4 (true,2,false,[none]) zbT zbU),(68,.mit (true,2,false,[none]) zad zac ([k68_0,k68_1] :: zai))],[]⟩
def zj8 (K:List PA→Prop) (X8:St→Prop) (X9:St→Prop) (zaa:(Sl Gate)) (kink:Int) (zab:(Sl Mp)) (zad:Nat) (zac:(List Int→Option (List Int))) (zai:(List (List Int))) (k68_0:Int) (k68_1:Int) (zeU:Int) (zdi:Int) (zok:Nat) (zgv:Nat→List PV) (zbT:Nat) (zbU:(List Int→Option (List Int))):Prop:=vc Try.prog G56 zaJ (cdF Try.f56 [1,1,1,1,1,1,1,1,1,0,1,0,0,1,1,0,0,1,1,0,1,0,0,1,1,0,1,1,1]) (zay 7 (zb4 Try.prog zaJ 24 X9 (zay 6 (sqK Try.prog G56 zaJ (cdF Try.f56 [1,1,1,1,1,1,1,1,1,0,1,0,0,1,1,0,0,1,1,1]) (zay 5 (sqK Try.prog G56 zaJ (cdF Try.f56 [1,1,1,1,1,1,1,1,1,0,1,0,0,1,1,1]) (zb4 Try.prog zaJ 20 X8 (zay 4 (sqK Try.prog G56 zaJ (cdF Try.f56 [1,1,1,1,1,1,1,1,1,1]) (zbC Try.prog Try.f56 K)))))))))) (zHA zaa kink zab zad zac zai k68_0 k68_1 zeU zdi zok zgv zbT zbU)
def zfp (zaa:(Sl Gate)) (kink:Int) (zab:(Sl Mp)) (zad:Nat) (zac:(List Int→Option (List Int))) (zai:(List (List Int))) (k68_0:Int) (k68_1:Int) (zbM:Int) (zcW:Int) (zaS:Int) (zeB:Nat) (zbG:Nat→List PV) (zas:Nat) (zat:(List Int→Option (List Int))):St:=⟨[(0,.one (.c (.p (.sl zaa.len 3 (fun i=>enc_55 (zaa.get i)))))),(1,.one (.c (.p (.int .i64 kink)))),(6,.one (.c (.p (.sl zab.len 1 (fun i=>zbq (zab.get i)))))),(7,.one (.c (.ptr 7 0))),(9,.one (.c (.clo 94 [.b 7]))),(13,.one (.c (.p (.int .i64 zbM)))),(14,.one (.c (.mo 66))),(15,.one (.c (.ptr 15 0))),(16,.one (.c (.p (.int .i64 zcW)))),(62,.one (.c (.p (.int .i64 (w64 ((zaa.len:Int) - (1:Int))))))),(63,.one (.c (.p (.int .i64 zaS)))),(68,.one (.c (.ptr 68 0)))],[(7,.box 87 [.vec 30]),(15,.box 131 [.p (.int .i64 k68_0),.p (.int .i64 k68_1)]),(30,.vec 96 2 16 zeB zbG),(66,.mo 131 4 (true,2,false,[none]) zas zat),(68,.mit (true,2,false,[none]) zad zac ([k68_0,k68_1] :: zai))],[]⟩
def zii (K:List PA→Prop) (X8:St→Prop) (X9:St→Prop) (zaa:(Sl Gate)) (kink:Int) (zab:(Sl Mp)) (zad:Nat) (zac:(List Int→Option (List Int))) (zai:(List (List Int))) (k68_0:Int) (k68_1:Int) (zbM:Int) (zcW:Int) (zaS:Int) (zeB:Nat) (zbG:Nat→List PV) (zas:Nat) (zat:(List Int→Option (List Int))):Prop:=vc Try.prog G56 zaJ (cdF Try.f56 [1,1,1,1,1,1,1,1,1,0,1,0,0,1,1,0,0,1,1,0,1,0,0,1,1,0,1,1,1,1,1,0]) (zay 8 (zay 7 (zb4 Try.prog zaJ 24 X9 (zay 6 (sqK Try.prog G56 zaJ (cdF Try.f56 [1,1,1,1,1,1,1,1,1,0,1,0,0,1,1,0,0,1,1,1]) (zay 5 (sqK Try.prog G56 zaJ (cdF Try.f56 [1,1,1,1,1,1,1,1,1,0,1,0,0,1,1,1]) (zb4 Try.prog zaJ 20 X8 (zay 4 (sqK Try.prog G56 zaJ (cdF Try.f56 [1,1,1,1,1,1,1,1,1,1]) (zbC Try.prog Try.f56 K))))))))))) (zfp zaa kink zab zad zac zai k68_0 k68_1 zbM zcW zaS zeB zbG zas zat)
def zHB (zaa:(Sl Gate)) (kink:Int) (zab:(Sl Mp)) (zad:Nat) (zac:(List Int→Option (List Int))) (zai:(List (List Int))) (k68_0:Int) (k68_1:Int) (zhH:Int) (zmN:Int) (zdj:Int) (zde:Bool) (zdk:Int) (zol:Nat) (zgw:Nat→List PV) (zbV:Nat) (zbm:(List Int→Option (List Int))):St:=⟨[(0,.one (.c (.p (.sl zaa.len 3 (fun i=>enc_55 (zaa.get i)))))),(1,.one (.c (.p (.int .i64 kink)))),(6,.one (.c (.p (.sl zab.len 1 (fun i=>zbq (zab.get i)))))),(7,.one (.c (.ptr 7 0))),(9,.one (.c (.clo 94 [.b 7]))),(13,.one (.c (.p (.int .i64 zhH)))),(14,.one (.c (.mo 66))),(15,.one (.c (.ptr 15 0))),(16,.one (.c (.p (.int .i64 zmN)))),(17,.one (.c (.ptr 17 0))),(62,.one (.c (.p (.int .i64 (w64 ((zaa.len:Int) - (1:Int))))))),(63,.one (.c (.p (.int .i64 zdj)))),(68,.one (.c (.ptr 68 0))),(144,.one (.c (.p (.bool zde))))],[(7,.box 87 [.vec 30]),(15,.box 131 [.p (.int .i64 k68_0),.p (.int .i64 k68_1)]),(17,.box 131 [.p (.int .i64 k68_1),.p (.int .i64 zdk)]),(30,.vec 96 2 16 zol zgw),(66,.mo 131 4 (true,2,false,[none]) zbV zbm),(68,.mit (true,2,false,[none]) zad zac ([k68_0,k68_1] :: zai))],[]⟩
def zij (K:List PA→Prop) (X8:St→Prop) (X9:St→Prop) (X12:St→Prop) (zaa:(Sl Gate)) (kink:Int) (zab:(Sl Mp)) (zad:Nat) (zac:(List Int→Option (List Int))) (zai:(List (List Int))) (k68_0:Int) (k68_1:Int) (zhH:Int) (zmN:Int) (zdj:Int) (zde:Bool) (zdk:Int) (zol:Nat) (zgw:Nat→List PV) (zbV:Nat) (zbm:(List Int→Option (List Int))):Prop:=vc Try.prog G56 zaJ (cdF Try.f56 [1,1,1,1,1,1,1,1,1,0,1,0,0,1,1,0,0,1,1,0,1,0,0,1,1,0,1,1,1,1,1,0,0,1,0,0,1,1]) (zay 9 (sqK Try.prog G56 zaJ (cdF Try.f56 [1,1,1,1,1,1,1,1,1,0,1,0,0,1,1,0,0,1,1,0,1,0,0,1,1,0,1,1,1,1,1,0,0,1,1]) (zb4 Try.prog zaJ 30 X12 (zay 8 (zay 7 (zb4 Try.prog zaJ 24 X9 (zay 6 (sqK Try.prog G56 zaJ (cdF Try.f56 [1,1,1,1,1,1,1,1,1,0,1,0,0,1,1,0,0,1,1,1]) (zay 5 (sqK Try.prog G56 zaJ (cdF Try.f56 [1,1,1,1,1,1,1,1,1,0,1,0,0,1,1,1]) (zb4 Try.prog zaJ 20 X8 (zay 4 (sqK Try.prog G56 zaJ (cdF Try.f56 [1,1,1,1,1,1,1,1,1,1]) (zbC Try.prog Try.f56 K)))))))))))))) (zHB zaa kink zab zad zac zai k68_0 k68_1 zhH zmN zdj zde zdk zol zgw zbV zbm)
theorem zHC (zaa : (Sl Gate)) (kink : Int) (K : List PA → Prop) :
  vcFun Try.prog G56 zaJ 56 [.one (.sl zaa.len 3 (fun i=>enc_55 (zaa.get i))),.one (.int .i64 kink)] K =
  ((IsE enc_55 3 3 (fun i=>enc_55 (zaa.get i))∧(p92 zaa=true)) ∧
 (zcM (!(s92 zaa))
 (zlB K zaa kink true)
 (zlB K zaa kink (!(s74 kink (0:Int) (1000000:Int)))))):=by kernel_rfl
theorem zHD (K : List PA → Prop) (zaa : (Sl Gate)) (kink : Int) (zhq : Bool) :
  zlB K zaa kink zhq =
  (zcM zhq
 (K [.one (.nils),.one (.int .i64 (2:Int))])
 (zoe K zaa kink)):=by kernel_rfl
theorem zHE (K : List PA → Prop) (zaa : (Sl Gate)) (kink : Int) :
  zoe K zaa kink =
  ((IsE enc_55 3 3 (fun i=>enc_55 (zaa.get i))∧(p93 zaa=true)) ∧
 (zof K zaa kink ((s93 zaa).len) (fun i=>zbq ((s93 zaa).get i)))):=by kernel_rfl
theorem zHF (K : List PA → Prop) (zaa : (Sl Gate)) (kink : Int) (zab : (Sl Mp)) :
  zof K zaa kink zab.len (fun i=>zbq (zab.get i)) =
  (((0≤(zaa.len:Int)∧(zaa.len:Int)=(zaa.len:Int)∧(zaa.len:Int)≤1000000)) ∧
 (zlD K zaa kink zab (0:Int) ((zaa.len:Int).toNat) (fun _=>(zam (⟨(0:Int),(0:Int)⟩:Span))))):=by kernel_rfl
def zqs (K:List PA→Prop) (X3:St→Prop) (zaa:(Sl Gate)) (kink:Int) (zab:(Sl Mp)) (zbB:Int) (zbN:(Sl Span)):Prop :=
  (zcM (decide (zbB < ((zaa.len : Int).toNat : Int)))
 (((0≤zbB∧zbB < (zbN.len:Int))) ∧
 (((zbB.toNat < zbN.len)) ∧
 (X3 (zlC zaa kink zab (w64 (zbB+(1:Int))) zbN.len (zoZ zbB.toNat 0 (fun i=>zam (zbN.get i)) (zam (⟨(1000001:Int),(-1000001:Int)⟩:Span)))))))
 (zog K zaa kink zab zbN.len (fun i=>zam (zbN.get i))))
theorem zsA (K : List PA → Prop) (X3 : St → Prop) (zaa : (Sl Gate)) (kink : Int) (zab : (Sl Mp)) (zbB : Int) (zbN : (Sl Span)) :
  vc Try.prog G56 zaJ (cd (cdF Try.f56 [1,1,1,1,0,1,0]) [0]) (zb4 Try.prog zaJ 6 X3 (zay 0 (sqK Try.prog G56 zaJ (cdF Try.f56 [1,1,1,1,1]) (zbC Try.prog Try.f56 K)))) (zlC zaa kink zab zbB zbN.len (fun i=>zam (zbN.get i))) =
  zqs K X3 zaa kink zab zbB zbN:=by kernel_rfl
theorem zAv (K : List PA → Prop) (zaa : (Sl Gate)) (kink : Int) (zab : (Sl Mp)) (zbB : Int) (zgf : Nat) (zcK : Nat → List PV)
  (h:∀ X3:St→Prop,(∀ (zbB:Int) (zbN:(Sl Span)),zqs K X3 zaa kink zab zbB zbN→X3 (zlC zaa kink zab zbB zbN.len (fun i=>zam (zbN.get i))))→X3 (zlC zaa kink zab zbB zgf zcK)) :
  zlD K zaa kink zab zbB zgf zcK:=by
  have e:zlD K zaa kink zab zbB zgf zcK=(∀ X:St→Prop,(∀ s,vc Try.prog G56 zaJ (cd (cdF Try.f56 [1,1,1,1,0,1,0]) [0]) (zb4 Try.prog zaJ 6 X (zay 0 (sqK Try.prog G56 zaJ (cdF Try.f56 [1,1,1,1,1]) (zbC Try.prog Try.f56 K)))) s→X s)→X (zlC zaa kink zab zbB zgf zcK)):=by kernel_rfl
  refine zaH e ?_
  intro X hX
  refine h X ?_
  intro zbB zbN hs
  refine hX _ ?_
  have e2:=zsA K X zaa kink zab zbB zbN
  rw [e2]
  exact hs
theorem zHG (K : List PA → Prop) (zaa : (Sl Gate)) (kink : Int) (zab : (Sl Mp)) (za1 : (Sl Span)) :
  zog K zaa kink zab za1.len (fun i=>zam (za1.get i)) =
  (((0≤(0:Int)∧(0:Int) < (zab.len:Int))) ∧
 (zlE K zaa kink zab za1 ([]) 0 (fun _=>none))):=by kernel_rfl
def zqu (K:List PA→Prop) (X5:St→Prop) (zaa:(Sl Gate)) (kink:Int) (zab:(Sl Mp)) (za1:(Sl Span)) (za2:(List (List Int))) (zaF:Nat) (zaC:(List Int→Option (List Int))):Prop :=
  (zA9 2 ((zab.get 0).n) ((zab.get 0).F) →
 ((∀ c:List Int,c.length=2→((zab.get 0).F) c ≠ none→c∈za2) →
 (zoh K zaa kink zab za1.len (fun i=>zam (za1.get i)) zaF zaC))∧∀ k46_0 k46_1:Int,((zab.get 0).F) [k46_0,k46_1] ≠ none→[k46_0,k46_1] ∉ za2 →
 (zcM (decide ((zdg (((zab.get 0).F) [k46_0, k46_1]) 0) ≤ kink))
 (X5 (zjK zaa kink zab za1 ([k46_0,k46_1] :: za2) (addN (zaC [k46_0,k46_1]) zaF) (ze0 [k46_0,k46_1] [1] zaC)))
 (X5 (zjK zaa kink zab za1 ([k46_0,k46_1] :: za2) zaF zaC))))
theorem zsB (K : List PA → Prop) (X5 : St → Prop) (zaa : (Sl Gate)) (kink : Int) (zab : (Sl Mp)) (za1 : (Sl Span)) (za2 : (List (List Int))) (zaF : Nat) (zaC : (List Int → Option (List Int))) :
  vc Try.prog G56 zaJ (cd (cdF Try.f56 [1,1,1,1,1,1,1,0,1,0]) [0]) (zb4 Try.prog zaJ 13 X5 (zay 2 (sqK Try.prog G56 zaJ (cdF Try.f56 [1,1,1,1,1,1,1,1]) (zbC Try.prog Try.f56 K)))) (zjK zaa kink zab za1 za2 zaF zaC) =
  zqu K X5 zaa kink zab za1 za2 zaF zaC:=by kernel_rfl
theorem zAw (K : List PA → Prop) (zaa : (Sl Gate)) (kink : Int) (zab : (Sl Mp)) (za1 : (Sl Span)) (za2 : (List (List Int))) (zaF : Nat) (zaC : (List Int → Option (List Int)))
  (h:∀ X5:St→Prop,(∀ (za2:(List (List Int))) (zaF:Nat) (zaC:(List Int→Option (List Int))),zqu K X5 zaa kink zab za1 za2 zaF zaC→X5 (zjK zaa kink zab za1 za2 zaF zaC))→X5 (zjK zaa kink zab za1 za2 zaF zaC)) :
  zlE K zaa kink zab za1 za2 zaF zaC:=by
  have e:zlE K zaa kink zab za1 za2 zaF zaC=(∀ X:St→Prop,(∀ s,vc Try.prog G56 zaJ (cd (cdF Try.f56 [1,1,1,1,1,1,1,0,1,0]) [0]) (zb4 Try.prog zaJ 13 X (zay 2 (sqK Try.prog G56 zaJ (cdF Try.f56 [1,1,1,1,1,1,1,1]) (zbC Try.prog Try.f56 K)))) s→X s)→X (zjK zaa kink zab za1 za2 zaF zaC)):=by kernel_rfl
  refine zaH e ?_
  intro X hX
  refine h X ?_
  intro za2 zaF zaC hs
  refine hX _ ?_
  have e2:=zsB K X zaa kink zab za1 za2 zaF zaC
  rw [e2]
  exact hs
theorem zHH (K : List PA → Prop) (zaa : (Sl Gate)) (kink : Int) (zab : (Sl Mp)) (zgF : (Sl Span)) (zcB : Nat) (zc4 : (List Int → Option (List Int))) :
  zoh K zaa kink zab zgF.len (fun i=>zam (zgF.get i)) zcB zc4 =
  (zcM ((zcB : Int) == (0:Int))
 (K [.one (.nils),.one (.int .i64 (5:Int))])
 (zoi K zaa kink zab zgF.len (fun i=>zam (zgF.get i)) zcB zc4)):=by kernel_rfl
theorem zHI (K : List PA → Prop) (zaa : (Sl Gate)) (kink : Int) (zab : (Sl Mp)) (zgG : (Sl Span)) (zc5 : Nat) (zc6 : (List Int → Option (List Int))) :
  zoi K zaa kink zab zgG.len (fun i=>zam (zgG.get i)) zc5 zc6 =
  (zlF K zaa kink zab zc5 zc6 (0:Int) zgG.len (fun i=>zam (zgG.get i))):=by kernel_rfl
def zqv (K:List PA→Prop) (X8:St→Prop) (zaa:(Sl Gate)) (kink:Int) (zab:(Sl Mp)) (zad:Nat) (zac:(List Int→Option (List Int))) (za7:Int) (zbe:(Sl Span)):Prop :=
  (zcM (decide (za7 < (w64 ((zaa.len : Int) - (1:Int)))))
 (zlG K X8 zaa kink zab zad zac ([]) za7 za7 zbe.len (fun i=>zam (zbe.get i)) 0 (fun _=>none))
 (K [.one (.sl zbe.len 2 (fun i=>zam (zbe.get i))),.one (.int .i64 (0:Int))]))
theorem zsC (K : List PA → Prop) (X8 : St → Prop) (zaa : (Sl Gate)) (kink : Int) (zab : (Sl Mp)) (zad : Nat) (zac : (List Int → Option (List Int))) (za7 : Int) (zbe : (Sl Span)) :
  vc Try.prog G56 zaJ (cd (cdF Try.f56 [1,1,1,1,1,1,1,1,1,0,1,0]) [0]) (zb4 Try.prog zaJ 20 X8 (zay 4 (sqK Try.prog G56 zaJ (cdF Try.f56 [1,1,1,1,1,1,1,1,1,1]) (zbC Try.prog Try.f56 K)))) (zfC zaa kink zab zad zac za7 zbe.len (fun i=>zam (zbe.get i))) =
  zqv K X8 zaa kink zab zad zac za7 zbe:=by kernel_rfl
theorem zAx (K : List PA → Prop) (zaa : (Sl Gate)) (kink : Int) (zab : (Sl Mp)) (zad : Nat) (zac : (List Int → Option (List Int))) (za7 : Int) (zgg : Nat) (zbc : Nat → List PV)
  (h:∀ X8:St→Prop,(∀ (zad:Nat) (zac:(List Int→Option (List Int))) (za7:Int) (zbe:(Sl Span)),zqv K X8 zaa kink zab zad zac za7 zbe→X8 (zfC zaa kink zab zad zac za7 zbe.len (fun i=>zam (zbe.get i))))→X8 (zfC zaa kink zab zad zac za7 zgg zbc)) :
  zlF K zaa kink zab zad zac za7 zgg zbc:=by
  have e:zlF K zaa kink zab zad zac za7 zgg zbc=(∀ X:St→Prop,(∀ s,vc Try.prog G56 zaJ (cd (cdF Try.f56 [1,1,1,1,1,1,1,1,1,0,1,0]) [0]) (zb4 Try.prog zaJ 20 X (zay 4 (sqK Try.prog G56 zaJ (cdF Try.f56 [1,1,1,1,1,1,1,1,1,1]) (zbC Try.prog Try.f56 K)))) s→X s)→X (zfC zaa kink zab zad zac za7 zgg zbc)):=by kernel_rfl
  refine zaH e ?_
  intro X hX
  refine h X ?_
  intro zad zac za7 zbe hs
  refine hX _ ?_
  have e2:=zsC K X zaa kink zab zad zac za7 zbe
  rw [e2]
  exact hs
def zqw (K:List PA→Prop) (X8:St→Prop) (X9:St→Prop) (zaa:(Sl Gate)) (kink:Int) (zab:(Sl Mp)) (zad:Nat) (zac:(List Int→Option (List Int))) (zai:(List (List Int))) (iv9:Int) (za5:Int) (zaW:(Sl Span)) (zaq:Nat) (zar:(List Int→Option (List Int))):Prop :=
  (zA9 2 zad zac →
 ((∀ c:List Int,c.length=2→zac c ≠ none→c∈zai) →
 (X8 (zfC zaa kink zab zaq zar (w64 (za5+(1:Int))) zaW.len (fun i=>zam (zaW.get i)))))∧∀ k68_0 k68_1:Int,zac [k68_0,k68_1] ≠ none→[k68_0,k68_1] ∉ zai →
 ((IsE zam 2 2 (fun i=>zam (zaW.get i))∧(p94 iv9 zaW.len=true)) ∧
 (zj7 K X8 X9 zaa kink zab zad zac zai k68_0 k68_1 iv9 za5 zaW.len (fun i=>zam ((s94 iv9 k68_0 zaW.get) i)) zaq zar)))
theorem zsD (K : List PA → Prop) (X8 : St → Prop) (X9 : St → Prop) (zaa : (Sl Gate)) (kink : Int) (zab : (Sl Mp)) (zad : Nat) (zac : (List Int → Option (List Int))) (zai : (List (List Int))) (iv9 : Int) (za5 : Int) (zaW : (Sl Span)) (zaq : Nat) (zar : (List Int → Option (List Int))) :
  vc Try.prog G56 zaJ (cd (cdF Try.f56 [1,1,1,1,1,1,1,1,1,0,1,0,0,1,1,0,0,1,1,0,1,0]) [0]) (zb4 Try.prog zaJ 24 X9 (zay 6 (sqK Try.prog G56 zaJ (cdF Try.f56 [1,1,1,1,1,1,1,1,1,0,1,0,0,1,1,0,0,1,1,1]) (zay 5 (sqK Try.prog G56 zaJ (cdF Try.f56 [1,1,1,1,1,1,1,1,1,0,1,0,0,1,1,1]) (zb4 Try.prog zaJ 20 X8 (zay 4 (sqK Try.prog G56 zaJ (cdF Try.f56 [1,1,1,1,1,1,1,1,1,1]) (zbC Try.prog Try.f56 K))))))))) (zfD zaa kink zab zad zac zai iv9 za5 zaW.len (fun i=>zam (zaW.get i)) zaq zar) =
  zqw K X8 X9 zaa kink zab zad zac zai iv9 za5 zaW zaq zar:=by kernel_rfl
theorem zAy (K : List PA → Prop) (X8 : St → Prop) (zaa : (Sl Gate)) (kink : Int) (zab : (Sl Mp)) (zad : Nat) (zac : (List Int → Option (List Int))) (zai : (List (List Int))) (iv9 : Int) (za5 : Int) (zgh : Nat) (zbd : Nat → List PV) (zaq : Nat) (zar : (List Int → Option (List Int)))
  (h:∀ X9:St→Prop,(∀ (zai:(List (List Int))) (iv9:Int) (za5:Int) (zaW:(Sl Span)) (zaq:Nat) (zar:(List Int→Option (List Int))),zqw K X8 X9 zaa kink zab zad zac zai iv9 za5 zaW zaq zar→X9 (zfD zaa kink zab zad zac zai iv9 za5 zaW.len (fun i=>zam (zaW.get i)) zaq zar))→X9 (zfD zaa kink zab zad zac zai iv9 za5 zgh zbd zaq zar)) :
  zlG K X8 zaa kink zab zad zac zai iv9 za5 zgh zbd zaq zar:=by
  have e:zlG K X8 zaa kink zab zad zac zai iv9 za5 zgh zbd zaq zar=(∀ X:St→Prop,(∀ s,vc Try.prog G56 zaJ (cd (cdF Try.f56 [1,1,1,1,1,1,1,1,1,0,1,0,0,1,1,0,0,1,1,0,1,0]) [0]) (zb4 Try.prog zaJ 24 X (zay 6 (sqK Try.prog G56 zaJ (cdF Try.f56 [1,1,1,1,1,1,1,1,1,0,1,0,0,1,1,0,0,1,1,1]) (zay 5 (sqK Try.prog G56 zaJ (cdF Try.f56 [1,1,1,1,1,1,1,1,1,0,1,0,0,1,1,1]) (zb4 Try.prog zaJ 20 X8 (zay 4 (sqK Try.prog G56 zaJ (cdF Try.f56 [1,1,1,1,1,1,1,1,1,1]) (zbC Try.prog Try.f56 K))))))))) s→X s)→X (zfD zaa kink zab zad zac zai iv9 za5 zgh zbd zaq zar)):=by kernel_rfl
  refine zaH e ?_
  intro X hX
  refine h X ?_
  intro zai iv9 za5 zaW zaq zar hs
  refine hX _ ?_
  have e2:=zsD K X8 X zaa kink zab zad zac zai iv9 za5 zaW zaq zar
  rw [e2]
  exact hs
theorem zCq (K : List PA → Prop) (X8 : St → Prop) (X9 : St → Prop) (zaa : (Sl Gate)) (kink : Int) (zab : (Sl Mp)) (zad : Nat) (zac : (List Int → Option (List Int))) (zai : (List (List Int))) (k68_0 : Int) (k68_1 : Int) (zdL : Int) (zd1 : Int) (zcY : (Sl Span)) (zcj : Nat) (zck : (List Int → Option (List Int))) :
  zj7 K X8 X9 zaa kink zab zad zac zai k68_0 k68_1 zdL zd1 zcY.len (fun i=>zam (zcY.get i)) zcj zck =
  ((IsE zam 2 2 (fun i=>zam (zcY.get i))∧(p94 (w64 (zdL+(1:Int))) zcY.len=true)) ∧
 (zj8 K X8 X9 zaa kink zab zad zac zai k68_0 k68_1 zdL zd1 zcY.len (fun i=>zam ((s94 (w64 (zdL+(1:Int))) k68_1 zcY.get) i)) zcj zck)):=by kernel_rfl
theorem zCr (K : List PA → Prop) (X8 : St → Prop) (X9 : St → Prop) (zaa : (Sl Gate)) (kink : Int) (zab : (Sl Mp)) (zad : Nat) (zac : (List Int → Option (List Int))) (zai : (List (List Int))) (k68_0 : Int) (k68_1 : Int) (zeU : Int) (zdi : Int) (zcZ : (Sl Span)) (zbT : Nat) (zbU : (List Int → Option (List Int))) :
  zj8 K X8 X9 zaa kink zab zad zac zai k68_0 k68_1 zeU zdi zcZ.len (fun i=>zam (zcZ.get i)) zbT zbU =
  (zcM ((w64 (zeU + (2:Int))) == (zaa.len : Int))
 (X9 (zfD zaa kink zab zad zac ([k68_0,k68_1] :: zai) zeU zdi zcZ.len (fun i=>zam (zcZ.get i)) zbT zbU))
 (((0≤(w64 (zeU+(2:Int)))∧(w64 (zeU+(2:Int))) < (zaa.len:Int))) ∧
 (zii K X8 X9 zaa kink zab zad zac zai k68_0 k68_1 zeU ((zaa.get ((w64 (zeU+(2:Int))).toNat)).Low) zdi zcZ.len (fun i=>zam (zcZ.get i)) zbT zbU))):=by kernel_rfl
def zmO (K:List PA→Prop) (X8:St→Prop) (X9:St→Prop) (X12:St→Prop) (zaa:(Sl Gate)) (kink:Int) (zab:(Sl Mp)) (zad:Nat) (zac:(List Int→Option (List Int))) (zai:(List (List Int))) (k68_0:Int) (k68_1:Int) (zbM:Int) (zcW:Int) (zaS:Int) (zaQ:(Sl Span)) (zas:Nat) (zat:(List Int→Option (List Int))):Prop :=
  (((0≤(w64 (zbM+(2:Int)))∧(w64 (zbM+(2:Int))) < (zaa.len:Int))) ∧
 (zcM (decide (zcW ≤ (zaa.get ((w64 (zbM + (2:Int))).toNat)).High))
 (((0≤(w64 (zbM+(1:Int)))∧(w64 (zbM+(1:Int))) < (zab.len:Int))) ∧
 (zcM (decide ((zdg (((zab.get ((w64 (zbM + (1:Int))).toNat)).F) [k68_1, zcW]) 0) ≤ kink))
 (((0≤zbM∧zbM < (zaa.len:Int))) ∧
 (((0≤(w64 (zbM+(1:Int)))∧(w64 (zbM+(1:Int))) < (zaa.len:Int))) ∧
 (((0≤(w64 (zbM+(2:Int)))∧(w64 (zbM+(2:Int))) < (zaa.len:Int))) ∧
 (((p85 ((zaa.get zbM.toNat).Z) ((zaa.get ((w64 (zbM+(1:Int))).toNat)).Z) ((zaa.get ((w64 (zbM+(2:Int))).toNat)).Z) k68_0 k68_1 zcW=true)) ∧
 (zij K X8 X9 X12 zaa kink zab zad zac zai k68_0 k68_1 zbM zcW zaS (decide ((s85 ((zaa.get zbM.toNat).Z) ((zaa.get ((w64 (zbM+(1:Int))).toNat)).Z) ((zaa.get ((w64 (zbM+(2:Int))).toNat)).Z) k68_0 k68_1 zcW)≤kink)) zcW zaQ.len (fun i=>zam (zaQ.get i)) zas zat)))))
 (zij K X8 X9 X12 zaa kink zab zad zac zai k68_0 k68_1 zbM zcW zaS false zcW zaQ.len (fun i=>zam (zaQ.get i)) zas zat)))
 (X9 (zfD zaa kink zab zad zac ([k68_0,k68_1] :: zai) zbM zaS zaQ.len (fun i=>zam (zaQ.get i)) zas zat))))
theorem zqx (K : List PA → Prop) (X8 : St → Prop) (X9 : St → Prop) (X12 : St → Prop) (zaa : (Sl Gate)) (kink : Int) (zab : (Sl Mp)) (zad : Nat) (zac : (List Int → Option (List Int))) (zai : (List (List Int))) (k68_0 : Int) (k68_1 : Int) (zbM : Int) (zcW : Int) (zaS : Int) (zaQ : (Sl Span)) (zas : Nat) (zat : (List Int → Option (List Int))) :
  vc Try.prog G56 zaJ (cd (cdF Try.f56 [1,1,1,1,1,1,1,1,1,0,1,0,0,1,1,0,0,1,1,0,1,0,0,1,1,0,1,1,1,1,1,0]) [0]) (zb4 Try.prog zaJ 30 X12 (zay 8 (zay 7 (zb4 Try.prog zaJ 24 X9 (zay 6 (sqK Try.prog G56 zaJ (cdF Try.f56 [1,1,1,1,1,1,1,1,1,0,1,0,0,1,1,0,0,1,1,1]) (zay 5 (sqK Try.prog G56 zaJ (cdF Try.f56 [1,1,1,1,1,1,1,1,1,0,1,0,0,1,1,1]) (zb4 Try.prog zaJ 20 X8 (zay 4 (sqK Try.prog G56 zaJ (cdF Try.f56 [1,1,1,1,1,1,1,1,1,1]) (zbC Try.prog Try.f56 K)))))))))))) (zfp zaa kink zab zad zac zai k68_0 k68_1 zbM zcW zaS zaQ.len (fun i=>zam (zaQ.get i)) zas zat) =
  zmO K X8 X9 X12 zaa kink zab zad zac zai k68_0 k68_1 zbM zcW zaS zaQ zas zat:=by kernel_rfl
theorem zvu (K : List PA → Prop) (X8 : St → Prop) (X9 : St → Prop) (zaa : (Sl Gate)) (kink : Int) (zab : (Sl Mp)) (zad : Nat) (zac : (List Int → Option (List Int))) (zai : (List (List Int))) (k68_0 : Int) (k68_1 : Int) (zbM : Int) (zcW : Int) (zaS : Int) (zeB : Nat) (zbG : Nat → List PV) (zas : Nat) (zat : (List Int → Option (List Int)))
  (h:∀ X12:St→Prop,(∀ (zbM:Int) (zcW:Int) (zaS:Int) (zaQ:(Sl Span)) (zas:Nat) (zat:(List Int→Option (List Int))),zmO K X8 X9 X12 zaa kink zab zad zac zai k68_0 k68_1 zbM zcW zaS zaQ zas zat→X12 (zfp zaa kink zab zad zac zai k68_0 k68_1 zbM zcW zaS zaQ.len (fun i=>zam (zaQ.get i)) zas zat))→X12 (zfp zaa kink zab zad zac zai k68_0 k68_1 zbM zcW zaS zeB zbG zas zat)) :
  zii K X8 X9 zaa kink zab zad zac zai k68_0 k68_1 zbM zcW zaS zeB zbG zas zat:=by
  have e:zii K X8 X9 zaa kink zab zad zac zai k68_0 k68_1 zbM zcW zaS zeB zbG zas zat=(∀ X:St→Prop,(∀ s,vc Try.prog G56 zaJ (cd (cdF Try.f56 [1,1,1,1,1,1,1,1,1,0,1,0,0,1,1,0,0,1,1,0,1,0,0,1,1,0,1,1,1,1,1,0]) [0]) (zb4 Try.prog zaJ 30 X (zay 8 (zay 7 (zb4 Try.prog zaJ 24 X9 (zay 6 (sqK Try.prog G56 zaJ (cdF Try.f56 [1,1,1,1,1,1,1,1,1,0,1,0,0,1,1,0,0,1,1,1]) (zay 5 (sqK Try.prog G56 zaJ (cdF Try.f56 [1,1,1,1,1,1,1,1,1,0,1,0,0,1,1,1]) (zb4 Try.prog zaJ 20 X8 (zay 4 (sqK Try.prog G56 zaJ (cdF Try.f56 [1,1,1,1,1,1,1,1,1,1]) (zbC Try.prog Try.f56 K)))))))))))) s→X s)→X (zfp zaa kink zab zad zac zai k68_0 k68_1 zbM zcW zaS zeB zbG zas zat)):=by kernel_rfl
  refine zaH e ?_
  intro X hX
  refine h X ?_
  intro zbM zcW zaS zaQ zas zat hs
  refine hX _ ?_
  have e2:=zqx K X8 X9 X zaa kink zab zad zac zai k68_0 k68_1 zbM zcW zaS zaQ zas zat
  rw [e2]
  exact hs
theorem zCs (K : List PA → Prop) (X8 : St → Prop) (X9 : St → Prop) (X12 : St → Prop) (zaa : (Sl Gate)) (kink : Int) (zab : (Sl Mp)) (zad : Nat) (zac : (List Int → Option (List Int))) (zai : (List (List Int))) (k68_0 : Int) (k68_1 : Int) (zhH : Int) (zmN : Int) (zdj : Int) (zde : Bool) (zdk : Int) (zc0 : (Sl Span)) (zbV : Nat) (zbm : (List Int → Option (List Int))) :
  zij K X8 X9 X12 zaa kink zab zad zac zai k68_0 k68_1 zhH zmN zdj zde zdk zc0.len (fun i=>zam (zc0.get i)) zbV zbm =
  (zcM zde
 (X12 (zfp zaa kink zab zad zac zai k68_0 k68_1 zhH (w64 (zmN+(1:Int))) zdj zc0.len (fun i=>zam (zc0.get i)) (addN (zbm [k68_1,zdk]) zbV) (ze0 [k68_1,zdk] [1] zbm)))
 (X12 (zfp zaa kink zab zad zac zai k68_0 k68_1 zhH (w64 (zmN+(1:Int))) zdj zc0.len (fun i=>zam (zc0.get i)) zbV zbm))):=by kernel_rfl
abbrev e56 (r:((Sl Span)×Int)):List PA:=[.one (.sl r.1.len 2 (fun i=>zam (r.1.get i))),.one (.int .i64 r.2)]
attribute [irreducible] zlB zoe zof zlD zog zlE zoh zoi zlF zlG zj7 zj8 zii zij
def zik (S8:Nat→(List Int→Option (List Int))→Int→(Sl Span)→((Sl Span)×Int)) (S9:Int→Int→(Sl Span)→Nat→(List Int→Option (List Int))→((Sl Span)×Int)) (S12:Int→Int→Int→(Sl Span)→Nat→(List Int→Option (List Int))→((Sl Span)×Int)) (zaa:(Sl Gate)) (kink:Int) (zab:(Sl Mp)) (zad:Nat) (zac:(List Int→Option (List Int))) (k68_0:Int) (k68_1:Int) (zhH:Int) (zmN:Int) (zdj:Int) (zde:Bool) (zdk:Int) (zc0:(Sl Span)) (zbV:Nat) (zbm:(List Int→Option (List Int))):((Sl Span)×Int) :=
  (cond zde
 (S12 zhH (w64 (zmN+(1:Int))) zdj zc0 (addN (zbm [k68_1,zdk]) zbV) (ze0 [k68_1,zdk] [1] zbm))
 (S12 zhH (w64 (zmN+(1:Int))) zdj zc0 zbV zbm))
def zil (P8:Nat→(List Int→Option (List Int))→Int→(Sl Span)→Bool) (P9:Int→Int→(Sl Span)→Nat→(List Int→Option (List Int))→Bool) (P12:Int→Int→Int→(Sl Span)→Nat→(List Int→Option (List Int))→Bool) (zaa:(Sl Gate)) (kink:Int) (zab:(Sl Mp)) (zad:Nat) (zac:(List Int→Option (List Int))) (k68_0:Int) (k68_1:Int) (zhH:Int) (zmN:Int) (zdj:Int) (zde:Bool) (zdk:Int) (zc0:(Sl Span)) (zbV:Nat) (zbm:(List Int→Option (List Int))):Bool :=
  (cond zde
 (P12 zhH (w64 (zmN+(1:Int))) zdj zc0 (addN (zbm [k68_1,zdk]) zbV) (ze0 [k68_1,zdk] [1] zbm))
 (P12 zhH (w64 (zmN+(1:Int))) zdj zc0 zbV zbm))
theorem zuB (K : List PA → Prop) (zaa : (Sl Gate)) (kink : Int) (zab : (Sl Mp)) (zad : Nat) (zac : (List Int → Option (List Int))) (zai : (List (List Int))) (k68_0 : Int) (k68_1 : Int)
  (X8:St→Prop) (P8:Nat→(List Int→Option (List Int))→Int→(Sl Span)→Bool) (S8:Nat→(List Int→Option (List Int))→Int→(Sl Span)→((Sl Span)×Int))
  (hX8:∀ (zad:Nat) (zac:(List Int→Option (List Int))) (za7:Int) (zbe:(Sl Span)) (zbc:Nat→List PV) (zeG:zbc=fun i=>zam (zbe.get i)),P8 zad zac za7 zbe=true→K (e56 (S8 zad zac za7 zbe))→X8 (zfC zaa kink zab zad zac za7 zbe.len zbc))
  (X9:St→Prop) (P9:Int→Int→(Sl Span)→Nat→(List Int→Option (List Int))→Bool) (S9:Int→Int→(Sl Span)→Nat→(List Int→Option (List Int))→((Sl Span)×Int))
  (hX9:∀ (iv9:Int) (za5:Int) (zaW:(Sl Span)) (zaq:Nat) (zar:(List Int→Option (List Int))) (zbd:Nat→List PV) (zdR:zbd=fun i=>zam (zaW.get i)),P9 iv9 za5 zaW zaq zar=true→K (e56 (S9 iv9 za5 zaW zaq zar))→X9 (zfD zaa kink zab zad zac ([k68_0,k68_1] :: zai) iv9 za5 zaW.len zbd zaq zar))
  (X12:St→Prop) (P12:Int→Int→Int→(Sl Span)→Nat→(List Int→Option (List Int))→Bool) (S12:Int→Int→Int→(Sl Span)→Nat→(List Int→Option (List Int))→((Sl Span)×Int))
  (hX12:∀ (zbM:Int) (zcW:Int) (zaS:Int) (zaQ:(Sl Span)) (zas:Nat) (zat:(List Int→Option (List Int))) (zbG:Nat→List PV) (zgx:zbG=fun i=>zam (zaQ.get i)),P12 zbM zcW zaS zaQ zas zat=true→K (e56 (S12 zbM zcW zaS zaQ zas zat))→X12 (zfp zaa kink zab zad zac zai k68_0 k68_1 zbM zcW zaS zaQ.len zbG zas zat)) (zhH:Int) (zmN:Int) (zdj:Int) (zde:Bool) (zdk:Int) (zc0:(Sl Span)) (zbV:Nat) (zbm:(List Int→Option (List Int))) (zgw:Nat→List PV) (zCt:zgw=fun i=>zam (zc0.get i)) (hs:zil P8 P9 P12 zaa kink zab zad zac k68_0 k68_1 zhH zmN zdj zde zdk zc0 zbV zbm=true) (hk:K (e56 (zik S8 S9 S12 zaa kink zab zad zac k68_0 k68_1 zhH zmN zdj zde zdk zc0 zbV zbm))):zij (Wk K) X8 X9 X12 zaa kink zab zad zac zai k68_0 k68_1 zhH zmN zdj zde zdk zc0.len zgw zbV zbm:=by
  subst zCt
  refine zaH (zCs (Wk K) X8 X9 X12 zaa kink zab zad zac zai k68_0 k68_1 zhH zmN zdj zde zdk zc0 zbV zbm) ?_
  unfold zil at hs
  unfold zik at hk
  exact (zbp (K := fun r => K (e56 r))
 (fun hs hk=>(hX12 zhH (w64 (zmN+(1:Int))) zdj zc0 (addN (zbm [k68_1,zdk]) zbV) (ze0 [k68_1,zdk] [1] zbm) (fun i=>zam (zc0.get i)) rfl hs hk))
 (fun hs hk=>(hX12 zhH (w64 (zmN+(1:Int))) zdj zc0 zbV zbm (fun i=>zam (zc0.get i)) rfl hs hk)) hs hk)
def zim (S8:Nat→(List Int→Option (List Int))→Int→(Sl Span)→((Sl Span)×Int)) (S9:Int→Int→(Sl Span)→Nat→(List Int→Option (List Int))→((Sl Span)×Int)) (zaa:(Sl Gate)) (kink:Int) (zab:(Sl Mp)) (zad:Nat) (zac:(List Int→Option (List Int))) (k68_0:Int) (k68_1:Int) (S12:Int→Int→Int→(Sl Span)→Nat→(List Int→Option (List Int))→((Sl Span)×Int)) (zbM:Int) (zcW:Int) (zaS:Int) (zaQ:(Sl Span)) (zas:Nat) (zat:(List Int→Option (List Int))):((Sl Span)×Int) :=
  (cond (decide (zcW ≤ (zaa.get ((w64 (zbM + (2:Int))).toNat)).High))
 (cond (decide ((zdg (((zab.get ((w64 (zbM + (1:Int))).toNat)).F) [k68_1, zcW]) 0) ≤ kink))
 (zik S8 S9 S12 zaa kink zab zad zac k68_0 k68_1 zbM zcW zaS (decide ((s85 ((zaa.get zbM.toNat).Z) ((zaa.get ((w64 (zbM+(1:Int))).toNat)).Z) ((zaa.get ((w64 (zbM+(2:Int))).toNat)).Z) k68_0 k68_1 zcW)≤kink)) zcW zaQ zas zat)
 (zik S8 S9 S12 zaa kink zab zad zac k68_0 k68_1 zbM zcW zaS false zcW zaQ zas zat))
 (S9 zbM zaS zaQ zas zat))
def zin (P8:Nat→(List Int→Option (List Int))→Int→(Sl Span)→Bool) (P9:Int→Int→(Sl Span)→Nat→(List Int→Option (List Int))→Bool) (zaa:(Sl Gate)) (kink:Int) (zab:(Sl Mp)) (zad:Nat) (zac:(List Int→Option (List Int))) (k68_0:Int) (k68_1:Int) (P12:Int→Int→Int→(Sl Span)→Nat→(List Int→Option (List Int))→Bool) (zbM:Int) (zcW:Int) (zaS:Int) (zaQ:(Sl Span)) (zas:Nat) (zat:(List Int→Option (List Int))):Bool :=
  (decide ((0≤(w64 (zbM+(2:Int)))∧(w64 (zbM+(2:Int))) < (zaa.len:Int))) &&
 (cond (decide (zcW ≤ (zaa.get ((w64 (zbM + (2:Int))).toNat)).High))
 (decide ((0≤(w64 (zbM+(1:Int)))∧(w64 (zbM+(1:Int))) < (zab.len:Int))) &&
 (cond (decide ((zdg (((zab.get ((w64 (zbM + (1:Int))).toNat)).F) [k68_1, zcW]) 0) ≤ kink))
 (decide ((0≤zbM∧zbM < (zaa.len:Int))) &&
 (decide ((0≤(w64 (zbM+(1:Int)))∧(w64 (zbM+(1:Int))) < (zaa.len:Int))) &&
 (decide ((0≤(w64 (zbM+(2:Int)))∧(w64 (zbM+(2:Int))) < (zaa.len:Int))) &&
 (decide ((p85 ((zaa.get zbM.toNat).Z) ((zaa.get ((w64 (zbM+(1:Int))).toNat)).Z) ((zaa.get ((w64 (zbM+(2:Int))).toNat)).Z) k68_0 k68_1 zcW=true)) &&
 (zil P8 P9 P12 zaa kink zab zad zac k68_0 k68_1 zbM zcW zaS (decide ((s85 ((zaa.get zbM.toNat).Z) ((zaa.get ((w64 (zbM+(1:Int))).toNat)).Z) ((zaa.get ((w64 (zbM+(2:Int))).toNat)).Z) k68_0 k68_1 zcW)≤kink)) zcW zaQ zas zat)))))
 (zil P8 P9 P12 zaa kink zab zad zac k68_0 k68_1 zbM zcW zaS false zcW zaQ zas zat)))
 (P9 zbM zaS zaQ zas zat)))
def zfq (S8 : Nat → (List Int → Option (List Int)) → Int → (Sl Span) → ((Sl Span) × Int)) (S9 : Int → Int → (Sl Span) → Nat → (List Int → Option (List Int)) → ((Sl Span) × Int)) (zaa : (Sl Gate)) (kink : Int) (zab : (Sl Mp)) (zad : Nat) (zac : (List Int → Option (List Int))) (k68_0 : Int) (k68_1 : Int) : Nat → Int → Int → Int → (Sl Span) → Nat → (List Int → Option (List Int)) → ((Sl Span) × Int)
  | 0=>fun _ _ _ _ _ _=>default
  | k+1=>zim S8 S9 zaa kink zab zad zac k68_0 k68_1 (zfq S8 S9 zaa kink zab zad zac k68_0 k68_1 k)
def zfr (P8 : Nat → (List Int → Option (List Int)) → Int → (Sl Span) → Bool) (P9 : Int → Int → (Sl Span) → Nat → (List Int → Option (List Int)) → Bool) (zaa : (Sl Gate)) (kink : Int) (zab : (Sl Mp)) (zad : Nat) (zac : (List Int → Option (List Int))) (k68_0 : Int) (k68_1 : Int) : Nat → Int → Int → Int → (Sl Span) → Nat → (List Int → Option (List Int)) → Bool
  | 0=>fun _ _ _ _ _ _=>false
  | k+1=>zin P8 P9 zaa kink zab zad zac k68_0 k68_1 (zfr P8 P9 zaa kink zab zad zac k68_0 k68_1 k)
def zom (S8:Nat→(List Int→Option (List Int))→Int→(Sl Span)→((Sl Span)×Int)) (S9:Int→Int→(Sl Span)→Nat→(List Int→Option (List Int))→((Sl Span)×Int)) (zaa:(Sl Gate)) (kink:Int) (zab:(Sl Mp)) (zad:Nat) (zac:(List Int→Option (List Int))) (k68_0:Int) (k68_1:Int) (zbM:Int) (zcW:Int) (zaS:Int) (zaQ:(Sl Span)) (zas:Nat) (zat:(List Int→Option (List Int))):((Sl Span)×Int):=zfq S8 S9 zaa kink zab zad zac k68_0 k68_1 Fuel zbM zcW zaS zaQ zas zat
def zon (P8:Nat→(List Int→Option (List Int))→Int→(Sl Span)→Bool) (P9:Int→Int→(Sl Span)→Nat→(List Int→Option (List Int))→Bool) (zaa:(Sl Gate)) (kink:Int) (zab:(Sl Mp)) (zad:Nat) (zac:(List Int→Option (List Int))) (k68_0:Int) (k68_1:Int) (zbM:Int) (zcW:Int) (zaS:Int) (zaQ:(Sl Span)) (zas:Nat) (zat:(List Int→Option (List Int))):Bool:=zfr P8 P9 zaa kink zab zad zac k68_0 k68_1 Fuel zbM zcW zaS zaQ zas zat
theorem zCu (K : List PA → Prop) (zaa : (Sl Gate)) (kink : Int) (zab : (Sl Mp)) (zad : Nat) (zac : (List Int → Option (List Int))) (zai : (List (List Int))) (k68_0 : Int) (k68_1 : Int)
  (X8:St→Prop) (P8:Nat→(List Int→Option (List Int))→Int→(Sl Span)→Bool) (S8:Nat→(List Int→Option (List Int))→Int→(Sl Span)→((Sl Span)×Int))
  (hX8:∀ (zad:Nat) (zac:(List Int→Option (List Int))) (za7:Int) (zbe:(Sl Span)) (zbc:Nat→List PV) (zeG:zbc=fun i=>zam (zbe.get i)),P8 zad zac za7 zbe=true→K (e56 (S8 zad zac za7 zbe))→X8 (zfC zaa kink zab zad zac za7 zbe.len zbc))
  (X9:St→Prop) (P9:Int→Int→(Sl Span)→Nat→(List Int→Option (List Int))→Bool) (S9:Int→Int→(Sl Span)→Nat→(List Int→Option (List Int))→((Sl Span)×Int))
  (hX9:∀ (iv9:Int) (za5:Int) (zaW:(Sl Span)) (zaq:Nat) (zar:(List Int→Option (List Int))) (zbd:Nat→List PV) (zdR:zbd=fun i=>zam (zaW.get i)),P9 iv9 za5 zaW zaq zar=true→K (e56 (S9 iv9 za5 zaW zaq zar))→X9 (zfD zaa kink zab zad zac ([k68_0,k68_1] :: zai) iv9 za5 zaW.len zbd zaq zar)) (zbM:Int) (zcW:Int) (zaS:Int) (zaQ:(Sl Span)) (zas:Nat) (zat:(List Int→Option (List Int))) (zbG:Nat→List PV) (zgx:zbG=fun i=>zam (zaQ.get i)) (hs:zon P8 P9 zaa kink zab zad zac k68_0 k68_1 zbM zcW zaS zaQ zas zat=true) (hk:K (e56 (zom S8 S9 zaa kink zab zad zac k68_0 k68_1 zbM zcW zaS zaQ zas zat))):zii (Wk K) X8 X9 zaa kink zab zad zac zai k68_0 k68_1 zbM zcW zaS zaQ.len zbG zas zat:=by
  refine zvu (Wk K) X8 X9 zaa kink zab zad zac zai k68_0 k68_1 zbM zcW zaS zaQ.len zbG zas zat ?_
  intro X12 hstep
  have key:∀ (k:Nat) (zbM:Int) (zcW:Int) (zaS:Int) (zaQ:(Sl Span)) (zas:Nat) (zat:(List Int→Option (List Int))) (zbG:Nat→List PV) (zgx:zbG=fun i=>zam (zaQ.get i)),zfr P8 P9 zaa kink zab zad zac k68_0 k68_1 k zbM zcW zaS zaQ zas zat=true→K (e56 (zfq S8 S9 zaa kink zab zad zac k68_0 k68_1 k zbM zcW zaS zaQ zas zat))→X12 (zfp zaa kink zab zad zac zai k68_0 k68_1 zbM zcW zaS zaQ.len zbG zas zat):=by
    intro k
    induction k with
    | zero=>intro zbM zcW zaS zaQ zas zat zbG zgx hs;exact absurd hs Bool.false_ne_true
    | succ k ih =>
      intro zbM zcW zaS zaQ zas zat zbG zgx hs hk
      subst zgx
      refine hstep zbM zcW zaS zaQ zas zat ?_
      have hs:zin P8 P9 zaa kink zab zad zac k68_0 k68_1 (zfr P8 P9 zaa kink zab zad zac k68_0 k68_1 k) zbM zcW zaS zaQ zas zat=true:=hs
      have hk:K (e56 (zim S8 S9 zaa kink zab zad zac k68_0 k68_1 (zfq S8 S9 zaa kink zab zad zac k68_0 k68_1 k) zbM zcW zaS zaQ zas zat)):=hk
      unfold zin at hs
      unfold zim at hk
      generalize zfq S8 S9 zaa kink zab zad zac k68_0 k68_1 k=S12 at hk ih
      generalize zfr P8 P9 zaa kink zab zad zac k68_0 k68_1 k=P12 at hs ih
      have hX12:=ih
      exact (zaE hs fun hc hs => ⟨hc, (zbp (K := fun r => K (e56 r))
 (fun hs hk => (zaE hs fun hc hs => ⟨hc, (zbp (K := fun r => K (e56 r))
 (fun hs hk=>(zaE hs fun hc hs=>⟨hc,(zaE hs fun hc hs=>⟨hc,(zaE hs fun hc hs=>⟨hc,(zaE hs fun hc hs=>⟨hc,(zuB K zaa kink zab zad zac zai k68_0 k68_1 X8 P8 S8 hX8 X9 P9 S9 hX9 X12 P12 S12 hX12 zbM zcW zaS (decide ((s85 ((zaa.get zbM.toNat).Z) ((zaa.get ((w64 (zbM+(1:Int))).toNat)).Z) ((zaa.get ((w64 (zbM+(2:Int))).toNat)).Z) k68_0 k68_1 zcW)≤kink)) zcW zaQ zas zat (fun i=>zam (zaQ.get i)) rfl hs hk)⟩)⟩)⟩)⟩))
 (fun hs hk=>(zuB K zaa kink zab zad zac zai k68_0 k68_1 X8 P8 S8 hX8 X9 P9 S9 hX9 X12 P12 S12 hX12 zbM zcW zaS false zcW zaQ zas zat (fun i=>zam (zaQ.get i)) rfl hs hk)) hs hk)⟩))
 (fun hs hk=>(hX9 zbM zaS zaQ zas zat (fun i=>zam (zaQ.get i)) rfl hs hk)) hs hk)⟩)
  exact key _ zbM zcW zaS zaQ zas zat zbG zgx hs hk
def zj9 (S8:Nat→(List Int→Option (List Int))→Int→(Sl Span)→((Sl Span)×Int)) (S9:Int→Int→(Sl Span)→Nat→(List Int→Option (List Int))→((Sl Span)×Int)) (zaa:(Sl Gate)) (kink:Int) (zab:(Sl Mp)) (zad:Nat) (zac:(List Int→Option (List Int))) (k68_0:Int) (k68_1:Int) (zeU:Int) (zdi:Int) (zcZ:(Sl Span)) (zbT:Nat) (zbU:(List Int→Option (List Int))):((Sl Span)×Int) :=
  (cond ((w64 (zeU + (2:Int))) == (zaa.len : Int))
 (S9 zeU zdi zcZ zbT zbU)
 (zom S8 S9 zaa kink zab zad zac k68_0 k68_1 zeU ((zaa.get ((w64 (zeU+(2:Int))).toNat)).Low) zdi zcZ zbT zbU))
def zka (P8:Nat→(List Int→Option (List Int))→Int→(Sl Span)→Bool) (P9:Int→Int→(Sl Span)→Nat→(List Int→Option (List Int))→Bool) (zaa:(Sl Gate)) (kink:Int) (zab:(Sl Mp)) (zad:Nat) (zac:(List Int→Option (List Int))) (k68_0:Int) (k68_1:Int) (zeU:Int) (zdi:Int) (zcZ:(Sl Span)) (zbT:Nat) (zbU:(List Int→Option (List Int))):Bool :=
  (cond ((w64 (zeU + (2:Int))) == (zaa.len : Int))
 (P9 zeU zdi zcZ zbT zbU)
 (decide ((0≤(w64 (zeU+(2:Int)))∧(w64 (zeU+(2:Int))) < (zaa.len:Int))) &&
 (zon P8 P9 zaa kink zab zad zac k68_0 k68_1 zeU ((zaa.get ((w64 (zeU+(2:Int))).toNat)).Low) zdi zcZ zbT zbU)))
theorem zCv (K : List PA → Prop) (zaa : (Sl Gate)) (kink : Int) (zab : (Sl Mp)) (zad : Nat) (zac : (List Int → Option (List Int))) (zai : (List (List Int))) (k68_0 : Int) (k68_1 : Int)
  (X8:St→Prop) (P8:Nat→(List Int→Option (List Int))→Int→(Sl Span)→Bool) (S8:Nat→(List Int→Option (List Int))→Int→(Sl Span)→((Sl Span)×Int))
  (hX8:∀ (zad:Nat) (zac:(List Int→Option (List Int))) (za7:Int) (zbe:(Sl Span)) (zbc:Nat→List PV) (zeG:zbc=fun i=>zam (zbe.get i)),P8 zad zac za7 zbe=true→K (e56 (S8 zad zac za7 zbe))→X8 (zfC zaa kink zab zad zac za7 zbe.len zbc))
  (X9:St→Prop) (P9:Int→Int→(Sl Span)→Nat→(List Int→Option (List Int))→Bool) (S9:Int→Int→(Sl Span)→Nat→(List Int→Option (List Int))→((Sl Span)×Int))
  (hX9:∀ (iv9:Int) (za5:Int) (zaW:(Sl Span)) (zaq:Nat) (zar:(List Int→Option (List Int))) (zbd:Nat→List PV) (zdR:zbd=fun i=>zam (zaW.get i)),P9 iv9 za5 zaW zaq zar=true→K (e56 (S9 iv9 za5 zaW zaq zar))→X9 (zfD zaa kink zab zad zac ([k68_0,k68_1] :: zai) iv9 za5 zaW.len zbd zaq zar)) (zeU:Int) (zdi:Int) (zcZ:(Sl Span)) (zbT:Nat) (zbU:(List Int→Option (List Int))) (zgv:Nat→List PV) (zCw:zgv=fun i=>zam (zcZ.get i)) (hs:zka P8 P9 zaa kink zab zad zac k68_0 k68_1 zeU zdi zcZ zbT zbU=true) (hk:K (e56 (zj9 S8 S9 zaa kink zab zad zac k68_0 k68_1 zeU zdi zcZ zbT zbU))):zj8 (Wk K) X8 X9 zaa kink zab zad zac zai k68_0 k68_1 zeU zdi zcZ.len zgv zbT zbU:=by
  subst zCw
  refine zaH (zCr (Wk K) X8 X9 zaa kink zab zad zac zai k68_0 k68_1 zeU zdi zcZ zbT zbU) ?_
  unfold zka at hs
  unfold zj9 at hk
  exact (zbp (K := fun r => K (e56 r))
 (fun hs hk=>(hX9 zeU zdi zcZ zbT zbU (fun i=>zam (zcZ.get i)) rfl hs hk))
 (fun hs hk=>(zaE hs fun hc hs=>⟨hc,(zCu K zaa kink zab zad zac zai k68_0 k68_1 X8 P8 S8 hX8 X9 P9 S9 hX9 zeU ((zaa.get ((w64 (zeU+(2:Int))).toNat)).Low) zdi zcZ zbT zbU (fun i=>zam (zcZ.get i)) rfl hs hk)⟩)) hs hk)
def zkb (S8:Nat→(List Int→Option (List Int))→Int→(Sl Span)→((Sl Span)×Int)) (S9:Int→Int→(Sl Span)→Nat→(List Int→Option (List Int))→((Sl Span)×Int)) (zaa:(Sl Gate)) (kink:Int) (zab:(Sl Mp)) (zad:Nat) (zac:(List Int→Option (List Int))) (k68_0:Int) (k68_1:Int) (zdL:Int) (zd1:Int) (zcY:(Sl Span)) (zcj:Nat) (zck:(List Int→Option (List Int))):((Sl Span)×Int) :=
  (zj9 S8 S9 zaa kink zab zad zac k68_0 k68_1 zdL zd1 (⟨zcY.len,(s94 (w64 (zdL+(1:Int))) k68_1 zcY.get)⟩:Sl Span) zcj zck)
def zkc (P8:Nat→(List Int→Option (List Int))→Int→(Sl Span)→Bool) (P9:Int→Int→(Sl Span)→Nat→(List Int→Option (List Int))→Bool) (zaa:(Sl Gate)) (kink:Int) (zab:(Sl Mp)) (zad:Nat) (zac:(List Int→Option (List Int))) (k68_0:Int) (k68_1:Int) (zdL:Int) (zd1:Int) (zcY:(Sl Span)) (zcj:Nat) (zck:(List Int→Option (List Int))):Bool :=
  (decide ((p94 (w64 (zdL+(1:Int))) zcY.len=true)) &&
 (zka P8 P9 zaa kink zab zad zac k68_0 k68_1 zdL zd1 (⟨zcY.len,(s94 (w64 (zdL+(1:Int))) k68_1 zcY.get)⟩:Sl Span) zcj zck))
theorem zCx (K : List PA → Prop) (zaa : (Sl Gate)) (kink : Int) (zab : (Sl Mp)) (zad : Nat) (zac : (List Int → Option (List Int))) (zai : (List (List Int))) (k68_0 : Int) (k68_1 : Int)
  (X8:St→Prop) (P8:Nat→(List Int→Option (List Int))→Int→(Sl Span)→Bool) (S8:Nat→(List Int→Option (List Int))→Int→(Sl Span)→((Sl Span)×Int))
  (hX8:∀ (zad:Nat) (zac:(List Int→Option (List Int))) (za7:Int) (zbe:(Sl Span)) (zbc:Nat→List PV) (zeG:zbc=fun i=>zam (zbe.get i)),P8 zad zac za7 zbe=true→K (e56 (S8 zad zac za7 zbe))→X8 (zfC zaa kink zab zad zac za7 zbe.len zbc))
  (X9:St→Prop) (P9:Int→Int→(Sl Span)→Nat→(List Int→Option (List Int))→Bool) (S9:Int→Int→(Sl Span)→Nat→(List Int→Option (List Int))→((Sl Span)×Int))
  (hX9:∀ (iv9:Int) (za5:Int) (zaW:(Sl Span)) (zaq:Nat) (zar:(List Int→Option (List Int))) (zbd:Nat→List PV) (zdR:zbd=fun i=>zam (zaW.get i)),P9 iv9 za5 zaW zaq zar=true→K (e56 (S9 iv9 za5 zaW zaq zar))→X9 (zfD zaa kink zab zad zac ([k68_0,k68_1] :: zai) iv9 za5 zaW.len zbd zaq zar)) (zdL:Int) (zd1:Int) (zcY:(Sl Span)) (zcj:Nat) (zck:(List Int→Option (List Int))) (zgu:Nat→List PV) (zCy:zgu=fun i=>zam (zcY.get i)) (hs:zkc P8 P9 zaa kink zab zad zac k68_0 k68_1 zdL zd1 zcY zcj zck=true) (hk:K (e56 (zkb S8 S9 zaa kink zab zad zac k68_0 k68_1 zdL zd1 zcY zcj zck))):zj7 (Wk K) X8 X9 zaa kink zab zad zac zai k68_0 k68_1 zdL zd1 zcY.len zgu zcj zck:=by
  subst zCy
  refine zaH (zCq (Wk K) X8 X9 zaa kink zab zad zac zai k68_0 k68_1 zdL zd1 zcY zcj zck) ?_
  unfold zkc at hs
  unfold zkb at hk
  exact (zaE hs fun hc hs=>⟨⟨isE,hc⟩,(zCv K zaa kink zab zad zac zai k68_0 k68_1 X8 P8 S8 hX8 X9 P9 S9 hX9 zdL zd1 (⟨zcY.len,(s94 (w64 (zdL+(1:Int))) k68_1 zcY.get)⟩:Sl Span) zcj zck (fun i=>zam ((s94 (w64 (zdL+(1:Int))) k68_1 zcY.get) i)) rfl hs hk)⟩)
def zlH (S8:Nat→(List Int→Option (List Int))→Int→(Sl Span)→((Sl Span)×Int)) (zaa:(Sl Gate)) (kink:Int) (zab:(Sl Mp)) (zad:Nat) (zac:(List Int→Option (List Int))) (iv9:Int) (za5:Int) (zaW:(Sl Span)) (zaq:Nat) (zar:(List Int→Option (List Int))):((Sl Span)×Int) :=
  (S8 zaq zar (w64 (za5+(1:Int))) zaW)
def zlI (P8:Nat→(List Int→Option (List Int))→Int→(Sl Span)→Bool) (zaa:(Sl Gate)) (kink:Int) (zab:(Sl Mp)) (zad:Nat) (zac:(List Int→Option (List Int))) (iv9:Int) (za5:Int) (zaW:(Sl Span)) (zaq:Nat) (zar:(List Int→Option (List Int))):Bool :=
  (P8 zaq zar (w64 (za5+(1:Int))) zaW)
def zlJ (S8:Nat→(List Int→Option (List Int))→Int→(Sl Span)→((Sl Span)×Int)) (zaa:(Sl Gate)) (kink:Int) (zab:(Sl Mp)) (zad:Nat) (zac:(List Int→Option (List Int))) (k68_0:Int) (k68_1:Int) (S9:Int→Int→(Sl Span)→Nat→(List Int→Option (List Int))→((Sl Span)×Int)) (iv9:Int) (za5:Int) (zaW:(Sl Span)) (zaq:Nat) (zar:(List Int→Option (List Int))):((Sl Span)×Int) :=
  (zkb S8 S9 zaa kink zab zad zac k68_0 k68_1 iv9 za5 (⟨zaW.len,(s94 iv9 k68_0 zaW.get)⟩:Sl Span) zaq zar)
def zlK (P8:Nat→(List Int→Option (List Int))→Int→(Sl Span)→Bool) (zaa:(Sl Gate)) (kink:Int) (zab:(Sl Mp)) (zad:Nat) (zac:(List Int→Option (List Int))) (k68_0:Int) (k68_1:Int) (P9:Int→Int→(Sl Span)→Nat→(List Int→Option (List Int))→Bool) (iv9:Int) (za5:Int) (zaW:(Sl Span)) (zaq:Nat) (zar:(List Int→Option (List Int))):Bool :=
  (decide ((p94 iv9 zaW.len=true)) &&
 (zkc P8 P9 zaa kink zab zad zac k68_0 k68_1 iv9 za5 (⟨zaW.len,(s94 iv9 k68_0 zaW.get)⟩:Sl Span) zaq zar))
def zdS (S8 : Nat → (List Int → Option (List Int)) → Int → (Sl Span) → ((Sl Span) × Int)) (zaa : (Sl Gate)) (kink : Int) (zab : (Sl Mp)) (zad : Nat) (zac : (List Int → Option (List Int))) : List (List Int) → Int → Int → (Sl Span) → Nat → (List Int → Option (List Int)) → ((Sl Span) × Int)
  | []=>zlH S8 zaa kink zab zad zac
  | y :: r=>zlJ S8 zaa kink zab zad zac (y.getD 0 0) (y.getD 1 0) (zdS S8 zaa kink zab zad zac r)
def zdT (P8 : Nat → (List Int → Option (List Int)) → Int → (Sl Span) → Bool) (zaa : (Sl Gate)) (kink : Int) (zab : (Sl Mp)) (zad : Nat) (zac : (List Int → Option (List Int))) : List (List Int) → Int → Int → (Sl Span) → Nat → (List Int → Option (List Int)) → Bool
  | []=>zlI P8 zaa kink zab zad zac
  | y :: r=>zlK P8 zaa kink zab zad zac (y.getD 0 0) (y.getD 1 0) (zdT P8 zaa kink zab zad zac r)
def zgi (_gates:Sl Gate) (_kink:Int) (_table:Sl Mp) (_n:Nat) (_F:List Int→Option (List Int)) (_ys:List (List Int)):Bool:=true
theorem zHJ (zaa:Sl Gate) (kink:Int) (table:Sl Mp) (n:Nat) (F:List Int→Option (List Int)):∀ (y:List Int) (r:List (List Int)),zgi zaa kink table n F (y :: r)=true→zgi zaa kink table n F r=true:=fun _ _ _=>rfl
section ord9
variable (zaa:Sl Gate) (kink:Int) (table:Sl Mp)
def zuC (i:Int):Int:=(zaa.get ((w64 (i+(2:Int))).toNat)).High
def a56 (k1 i r:Int):Bool:=decide ((zdg (((table.get ((w64 (i+(1:Int))).toNat)).F) [k1,r]) 0)≤kink)
def b56 (k0 k1 i r:Int):Bool:=decide ((s85 ((zaa.get i.toNat).Z) ((zaa.get ((w64 (i+(1:Int))).toNat)).Z) ((zaa.get ((w64 (i+(2:Int))).toNat)).Z) k0 k1 r)≤kink)
def g56 (i:Int):Bool:=decide ((0≤(w64 (i+(2:Int)))∧(w64 (i+(2:Int))) < (zaa.len:Int)))
def o56 (k0 k1 i r:Int):Bool:=decide ((0≤(w64 (i+(1:Int)))∧(w64 (i+(1:Int))) < (table.len:Int))) && cond (a56 kink table k1 i r) (decide ((0≤i∧i < (zaa.len:Int))) && (decide ((0≤(w64 (i+(1:Int)))∧(w64 (i+(1:Int))) < (zaa.len:Int))) && (g56 zaa i && decide ((p85 ((zaa.get i.toNat).Z) ((zaa.get ((w64 (i+(1:Int))).toNat)).Z) ((zaa.get ((w64 (i+(2:Int))).toNat)).Z) k0 k1 r=true))))) true
def zuD (k0 k1 i : Int) : Nat → Int → Bool
  | 0,_=>false
  | k+1,r=>g56 zaa i && cond (decide (r≤zuC zaa i)) (o56 zaa kink table k0 k1 i r && zuD k0 k1 i k (w64 (r+(1:Int)))) true
def zlL (k0 k1 i : Int) : Nat → Int → List (List Int)
  | 0,_=>[]
  | k+1,r=>cond (decide (r≤zuC zaa i)) (cond (a56 kink table k1 i r && b56 zaa kink k0 k1 i r) ([k1,r] :: zlL k0 k1 i k (w64 (r+(1:Int)))) (zlL k0 k1 i k (w64 (r+(1:Int))))) []
theorem zLk (P8:Nat→(List Int→Option (List Int))→Int→(Sl Span)→Bool) (P9:Int→Int→(Sl Span)→Nat→(List Int→Option (List Int))→Bool) (nn:Nat) (nF:List Int→Option (List Int)) (k0 k1 i t:Int) (out:Sl Span):∀ (k:Nat) (r:Int) (n:Nat) (F:List Int→Option (List Int)),
    zfr P8 P9 zaa kink table nn nF k0 k1 k i r t out n F=(zuD zaa kink table k0 k1 i k r && P9 i t out (insL (n,F) (zlL zaa kink table k0 k1 i k r)).1 (insL (n,F) (zlL zaa kink table k0 k1 i k r)).2)
  | 0,r,n,F=>rfl
  | k+1,r,n,F=>by
    have ih:=zLk P8 P9 nn nF k0 k1 i t out k
    show zin P8 P9 zaa kink table nn nF k0 k1 (zfr P8 P9 zaa kink table nn nF k0 k1 k) i r t out n F=((g56 zaa i && cond (decide (r≤zuC zaa i)) (o56 zaa kink table k0 k1 i r && zuD zaa kink table k0 k1 i k (w64 (r+(1:Int)))) true) && P9 i t out (insL (n,F) (cond (decide (r≤zuC zaa i)) (cond (a56 kink table k1 i r && b56 zaa kink k0 k1 i r) ([k1,r] :: zlL zaa kink table k0 k1 i k (w64 (r+(1:Int)))) (zlL zaa kink table k0 k1 i k (w64 (r+(1:Int))))) [])).1 (insL (n,F) (cond (decide (r≤zuC zaa i)) (cond (a56 kink table k1 i r && b56 zaa kink k0 k1 i r) ([k1,r] :: zlL zaa kink table k0 k1 i k (w64 (r+(1:Int)))) (zlL zaa kink table k0 k1 i k (w64 (r+(1:Int))))) [])).2)
    unfold zin zil
    rw [ih,ih]
    simp only [show (decide (r≤(zaa.get ((w64 (i+(2:Int))).toNat)).High))=decide (r≤zuC zaa i) from rfl,show decide ((zdg (((table.get ((w64 (i+(1:Int))).toNat)).F) [k1,r]) 0)≤kink)=a56 kink table k1 i r from rfl,show decide ((s85 ((zaa.get i.toNat).Z) ((zaa.get ((w64 (i+(1:Int))).toNat)).Z) ((zaa.get ((w64 (i+(2:Int))).toNat)).Z) k0 k1 r)≤kink)=b56 zaa kink k0 k1 i r from rfl,show decide ((0≤(w64 (i+(2:Int)))∧(w64 (i+(2:Int))) < (zaa.len:Int)))=g56 zaa i from rfl]
    have ei:∀ l,insL (addN (F [k1,r]) n,ze0 [k1,r] [1] F) l=insL (n,F) ([k1,r] :: l):=fun l=>rfl
    unfold o56
    rw [ei]
    generalize zuD zaa kink table k0 k1 i k (w64 (r+(1:Int)))=ok
    generalize zlL zaa kink table k0 k1 i k (w64 (r+(1:Int)))=ks
    cases decide (r≤zuC zaa i) <;> cases a56 kink table k1 i r <;> cases b56 zaa kink k0 k1 i r <;> cases g56 zaa i <;> simp only [cond_true,cond_false,Bool.true_and,Bool.and_true,Bool.false_and,Bool.and_false,Bool.and_assoc] <;> rfl
theorem zLl (S8:Nat→(List Int→Option (List Int))→Int→(Sl Span)→((Sl Span)×Int)) (S9:Int→Int→(Sl Span)→Nat→(List Int→Option (List Int))→((Sl Span)×Int)) (nn:Nat) (nF:List Int→Option (List Int)) (k0 k1 i t:Int) (out:Sl Span):∀ (k:Nat) (r:Int) (n:Nat) (F:List Int→Option (List Int)),zuD zaa kink table k0 k1 i k r=true →
    zfq S8 S9 zaa kink table nn nF k0 k1 k i r t out n F=S9 i t out (insL (n,F) (zlL zaa kink table k0 k1 i k r)).1 (insL (n,F) (zlL zaa kink table k0 k1 i k r)).2
  | 0,r,n,F,h=>absurd h Bool.false_ne_true
  | k+1,r,n,F,h=>by
    have ih:=zLl S8 S9 nn nF k0 k1 i t out k
    have h:(g56 zaa i && cond (decide (r≤zuC zaa i)) (o56 zaa kink table k0 k1 i r && zuD zaa kink table k0 k1 i k (w64 (r+(1:Int)))) true)=true:=h
    show zim S8 S9 zaa kink table nn nF k0 k1 (zfq S8 S9 zaa kink table nn nF k0 k1 k) i r t out n F=S9 i t out (insL (n,F) (cond (decide (r≤zuC zaa i)) (cond (a56 kink table k1 i r && b56 zaa kink k0 k1 i r) ([k1,r] :: zlL zaa kink table k0 k1 i k (w64 (r+(1:Int)))) (zlL zaa kink table k0 k1 i k (w64 (r+(1:Int))))) [])).1 (insL (n,F) (cond (decide (r≤zuC zaa i)) (cond (a56 kink table k1 i r && b56 zaa kink k0 k1 i r) ([k1,r] :: zlL zaa kink table k0 k1 i k (w64 (r+(1:Int)))) (zlL zaa kink table k0 k1 i k (w64 (r+(1:Int))))) [])).2
    unfold zim zik
    simp only [show (decide (r≤(zaa.get ((w64 (i+(2:Int))).toNat)).High))=decide (r≤zuC zaa i) from rfl,show decide ((zdg (((table.get ((w64 (i+(1:Int))).toNat)).F) [k1,r]) 0)≤kink)=a56 kink table k1 i r from rfl,show decide ((s85 ((zaa.get i.toNat).Z) ((zaa.get ((w64 (i+(1:Int))).toNat)).Z) ((zaa.get ((w64 (i+(2:Int))).toNat)).Z) k0 k1 r)≤kink)=b56 zaa kink k0 k1 i r from rfl]
    cases hr:decide (r≤zuC zaa i) with
    | false=>rw [cond_false,cond_false];rfl
    | true =>
      rw [hr,cond_true,Bool.and_eq_true,Bool.and_eq_true] at h
      have ih:=fun n F=>ih (w64 (r+(1:Int))) n F h.2.2
      rw [ih,ih]
      generalize zlL zaa kink table k0 k1 i k (w64 (r+(1:Int)))=ks
      cases a56 kink table k1 i r <;> cases b56 zaa kink k0 k1 i r <;> rfl
def ok9 (fu:Nat) (i:Int) (len:Nat) (y:List Int):Bool:=p94 i len && (p94 (w64 (i+(1:Int))) len && cond ((w64 (i+(2:Int))) == (zaa.len:Int)) true (g56 zaa i && zuD zaa kink table (y.getD 0 0) (y.getD 1 0) i fu ((zaa.get ((w64 (i+(2:Int))).toNat)).Low)))
def ks9 (fu:Nat) (i:Int) (y:List Int):List (List Int):=cond ((w64 (i+(2:Int))) == (zaa.len:Int)) [] (zlL zaa kink table (y.getD 0 0) (y.getD 1 0) i fu ((zaa.get ((w64 (i+(2:Int))).toNat)).Low))
def zet (fu:Nat) (i:Int) (z:Sl Span×MpS) (y:List Int):Sl Span×MpS:=(⟨z.1.len,s94 (w64 (i+(1:Int))) (y.getD 1 0) (s94 i (y.getD 0 0) z.1.get)⟩,insL z.2 (ks9 zaa kink table fu i y))
theorem zHK (fu:Nat) (i:Int) (z:Sl Span×MpS) (x y:List Int):zet zaa kink table fu i (zet zaa kink table fu i z x) y=zet zaa kink table fu i (zet zaa kink table fu i z y) x:=by
  unfold zet
  refine Prod.ext ?_ (zAu z.2 _ _)
  refine congrArg (Sl.mk z.1.len) ?_
  rw [zj6 i (w64 (i+(1:Int))) (y.getD 0 0) (x.getD 1 0),zj6 (w64 (i+(1:Int))) (w64 (i+(1:Int))) (y.getD 1 0) (x.getD 1 0),zj6 i i (y.getD 0 0) (x.getD 0 0),zj6 (w64 (i+(1:Int))) i (y.getD 1 0) (x.getD 0 0)]
theorem zMn (P8:Nat→(List Int→Option (List Int))→Int→(Sl Span)→Bool) (nn:Nat) (nF:List Int→Option (List Int)) (i t:Int):∀ (ys:List (List Int)) (out:Sl Span) (n:Nat) (F:List Int→Option (List Int)),
    zdT P8 zaa kink table nn nF ys i t out n F=(ys.all (ok9 zaa kink table Fuel i out.len) && zlI P8 zaa kink table nn nF i t (ys.foldl (zet zaa kink table Fuel i) (out,(n,F))).1 (ys.foldl (zet zaa kink table Fuel i) (out,(n,F))).2.1 (ys.foldl (zet zaa kink table Fuel i) (out,(n,F))).2.2)
  | [],out,n,F=>rfl
  | y :: r,out,n,F=>by
    have ih:=zMn P8 nn nF i t r
    rw [List.all_cons,List.foldl_cons]
    have e:zdT P8 zaa kink table nn nF (y :: r) i t out n F=zlK P8 zaa kink table nn nF (y.getD 0 0) (y.getD 1 0) (zdT P8 zaa kink table nn nF r) i t out n F:=rfl
    rw [e]
    unfold zlK zkc zka zon
    generalize hfu:Fuel=fu at ih ⊢
    rw [zLk,ih,ih]
    simp only [Bool.decide_eq_true,show decide ((0≤(w64 (i+(2:Int)))∧(w64 (i+(2:Int))) < (zaa.len:Int)))=g56 zaa i from rfl]
    cases hc:((w64 (i+(2:Int))) == (zaa.len:Int)) with
    | true =>
      have e9:ok9 zaa kink table fu i out.len y=(p94 i out.len && p94 (w64 (i+(1:Int))) out.len):=by unfold ok9;rw [hc,cond_true,Bool.and_true]
      have ef:zet zaa kink table fu i (out,(n,F)) y=(⟨out.len,s94 (w64 (i+(1:Int))) (y.getD 1 0) (s94 i (y.getD 0 0) out.get)⟩,(n,F)):=by unfold zet ks9;rw [hc];rfl
      rw [e9,ef,cond_true]
      cases p94 i out.len <;> cases p94 (w64 (i+(1:Int))) out.len <;> rfl
    | false =>
      have e9:ok9 zaa kink table fu i out.len y=(p94 i out.len && (p94 (w64 (i+(1:Int))) out.len && (g56 zaa i && zuD zaa kink table (y.getD 0 0) (y.getD 1 0) i fu ((zaa.get ((w64 (i+(2:Int))).toNat)).Low)))):=by unfold ok9;rw [hc,cond_false]
      have ef:zet zaa kink table fu i (out,(n,F)) y=(⟨out.len,s94 (w64 (i+(1:Int))) (y.getD 1 0) (s94 i (y.getD 0 0) out.get)⟩,insL (n,F) (zlL zaa kink table (y.getD 0 0) (y.getD 1 0) i fu ((zaa.get ((w64 (i+(2:Int))).toNat)).Low))):=by unfold zet ks9;rw [hc];rfl
      rw [e9,ef,cond_false]
      cases p94 i out.len <;> cases p94 (w64 (i+(1:Int))) out.len <;> cases g56 zaa i <;> cases zuD zaa kink table (y.getD 0 0) (y.getD 1 0) i fu ((zaa.get ((w64 (i+(2:Int))).toNat)).Low) <;> rfl
theorem zMo (S8:Nat→(List Int→Option (List Int))→Int→(Sl Span)→((Sl Span)×Int)) (nn:Nat) (nF:List Int→Option (List Int)) (i t:Int):∀ (ys:List (List Int)) (out:Sl Span) (n:Nat) (F:List Int→Option (List Int)),ys.all (ok9 zaa kink table Fuel i out.len)=true →
    zdS S8 zaa kink table nn nF ys i t out n F=zlH S8 zaa kink table nn nF i t (ys.foldl (zet zaa kink table Fuel i) (out,(n,F))).1 (ys.foldl (zet zaa kink table Fuel i) (out,(n,F))).2.1 (ys.foldl (zet zaa kink table Fuel i) (out,(n,F))).2.2
  | [],out,n,F,_=>rfl
  | y :: r,out,n,F,h=>by
    have ih:=zMo S8 nn nF i t r
    rw [List.all_cons,Bool.and_eq_true] at h
    rw [List.foldl_cons]
    have e:zdS S8 zaa kink table nn nF (y :: r) i t out n F=zlJ S8 zaa kink table nn nF (y.getD 0 0) (y.getD 1 0) (zdS S8 zaa kink table nn nF r) i t out n F:=rfl
    rw [e]
    unfold zlJ zkb zj9 zom
    generalize hfu:Fuel=fu at ih h ⊢
    obtain ⟨h1,h2⟩:=h
    cases hc:((w64 (i+(2:Int))) == (zaa.len:Int)) with
    | true =>
      have ef:zet zaa kink table fu i (out,(n,F)) y=(⟨out.len,s94 (w64 (i+(1:Int))) (y.getD 1 0) (s94 i (y.getD 0 0) out.get)⟩,(n,F)):=by unfold zet ks9;rw [hc];rfl
      rw [ef,cond_true]
      exact ih _ n F h2
    | false =>
      have e9:ok9 zaa kink table fu i out.len y=(p94 i out.len && (p94 (w64 (i+(1:Int))) out.len && (g56 zaa i && zuD zaa kink table (y.getD 0 0) (y.getD 1 0) i fu ((zaa.get ((w64 (i+(2:Int))).toNat)).Low)))):=by unfold ok9;rw [hc,cond_false]
      have ef:zet zaa kink table fu i (out,(n,F)) y=(⟨out.len,s94 (w64 (i+(1:Int))) (y.getD 1 0) (s94 i (y.getD 0 0) out.get)⟩,insL (n,F) (zlL zaa kink table (y.getD 0 0) (y.getD 1 0) i fu ((zaa.get ((w64 (i+(2:Int))).toNat)).Low))):=by unfold zet ks9;rw [hc];rfl
      rw [e9,Bool.and_eq_true,Bool.and_eq_true,Bool.and_eq_true] at h1
      rw [ef,cond_false,zLl _ _ _ _ _ _ _ _ _ _ _ _ _ _ _ _ h1.2.2.2]
      exact ih _ _ _ h2
theorem zQr (P8 : Nat → (List Int → Option (List Int)) → Int → (Sl Span) → Bool) (S8 : Nat → (List Int → Option (List Int)) → Int → (Sl Span) → ((Sl Span) × Int)) (nn : Nat) (nF : List Int → Option (List Int)) (ys zs : List (List Int)) (_hl : ∀ y ∈ ys, y.length = 2) (_h : zgi zaa kink table nn nF ys = true) (hp : ys.Perm zs) :
    zgi zaa kink table nn nF zs=true∧∀ (i t:Int) (out:Sl Span) (n:Nat) (F:List Int→Option (List Int)),zdT P8 zaa kink table nn nF ys i t out n F=true→zdT P8 zaa kink table nn nF zs i t out n F=true∧zdS S8 zaa kink table nn nF ys i t out n F=zdS S8 zaa kink table nn nF zs i t out n F:=by
  refine ⟨rfl,fun i t out n F hs=>?_⟩
  have e:∀ z,ys.foldl (zet zaa kink table Fuel i) z=zs.foldl (zet zaa kink table Fuel i) z:=fun z=>hp.foldl_eq' (fun x _ y _ z=>zHK zaa kink table Fuel i z x y) z
  rw [zMn,Bool.and_eq_true] at hs
  have h2:zs.all (ok9 zaa kink table Fuel i out.len)=true:=by
    rw [List.all_eq_true] at hs ⊢
    exact fun y hy=>hs.1 y (hp.mem_iff.2 hy)
  rw [zMn,zMo zaa kink table S8 nn nF i t ys out n F hs.1,zMo zaa kink table S8 nn nF i t zs out n F h2,← e]
  exact ⟨by rw [h2,Bool.true_and];exact hs.2,rfl⟩
end ord9
theorem zHL (P8 : Nat → (List Int → Option (List Int)) → Int → (Sl Span) → Bool) (S8 : Nat → (List Int → Option (List Int)) → Int → (Sl Span) → ((Sl Span) × Int)) (zaa : Sl Gate) (kink : Int) (table : Sl Mp) (nn : Nat) (nF : List Int → Option (List Int)) (ys zs : List (List Int)) (hl : ∀ y ∈ ys, y.length = 2) (h : zgi zaa kink table nn nF ys = true) (hp : ys.Perm zs) :
    zgi zaa kink table nn nF zs=true∧∀ (i t:Int) (out:Sl Span) (n:Nat) (F:List Int→Option (List Int)),zdT P8 zaa kink table nn nF ys i t out n F=true→zdT P8 zaa kink table nn nF zs i t out n F=true∧zdS S8 zaa kink table nn nF ys i t out n F=zdS S8 zaa kink table nn nF zs i t out n F :=
  zQr zaa kink table P8 S8 nn nF ys zs hl h hp
def zoo (S8:Nat→(List Int→Option (List Int))→Int→(Sl Span)→((Sl Span)×Int)) (zaa:(Sl Gate)) (kink:Int) (zab:(Sl Mp)) (zad:Nat) (zac:(List Int→Option (List Int))) (iv9:Int) (za5:Int) (zaW:(Sl Span)) (zaq:Nat) (zar:(List Int→Option (List Int))):((Sl Span)×Int):=zdS S8 zaa kink zab zad zac ((zes (zaa.get iv9.toNat) (zaa.get (iv9.toNat+1))).filter (fun c=>(zac c).isSome)) iv9 za5 zaW zaq zar
def zop (P8:Nat→(List Int→Option (List Int))→Int→(Sl Span)→Bool) (zaa:(Sl Gate)) (kink:Int) (zab:(Sl Mp)) (zad:Nat) (zac:(List Int→Option (List Int))) (iv9:Int) (za5:Int) (zaW:(Sl Span)) (zaq:Nat) (zar:(List Int→Option (List Int))):Bool:=keysB 2 zad zac ((zes (zaa.get iv9.toNat) (zaa.get (iv9.toNat+1))).filter (fun c=>(zac c).isSome)) && zgi zaa kink zab zad zac ((zes (zaa.get iv9.toNat) (zaa.get (iv9.toNat+1))).filter (fun c=>(zac c).isSome)) && zdT P8 zaa kink zab zad zac ((zes (zaa.get iv9.toNat) (zaa.get (iv9.toNat+1))).filter (fun c=>(zac c).isSome)) iv9 za5 zaW zaq zar
theorem zHM (K : List PA → Prop) (zaa : (Sl Gate)) (kink : Int) (zab : (Sl Mp)) (zad : Nat) (zac : (List Int → Option (List Int)))
  (X8:St→Prop) (P8:Nat→(List Int→Option (List Int))→Int→(Sl Span)→Bool) (S8:Nat→(List Int→Option (List Int))→Int→(Sl Span)→((Sl Span)×Int))
  (hX8:∀ (zad:Nat) (zac:(List Int→Option (List Int))) (za7:Int) (zbe:(Sl Span)) (zbc:Nat→List PV) (zeG:zbc=fun i=>zam (zbe.get i)),P8 zad zac za7 zbe=true→K (e56 (S8 zad zac za7 zbe))→X8 (zfC zaa kink zab zad zac za7 zbe.len zbc)) (iv9:Int) (za5:Int) (zaW:(Sl Span)) (zaq:Nat) (zar:(List Int→Option (List Int))) (zbd:Nat→List PV) (zdR:zbd=fun i=>zam (zaW.get i)) (hs:zop P8 zaa kink zab zad zac iv9 za5 zaW zaq zar=true) (hk:K (e56 (zoo S8 zaa kink zab zad zac iv9 za5 zaW zaq zar))):zlG (Wk K) X8 zaa kink zab zad zac [] iv9 za5 zaW.len zbd zaq zar:=by
  unfold zop at hs
  rw [Bool.and_eq_true,Bool.and_eq_true] at hs
  obtain ⟨⟨hkeys,hI⟩,hs⟩:=hs
  unfold zoo at hk
  generalize hys:(zes (zaa.get iv9.toNat) (zaa.get (iv9.toNat+1))).filter (fun c=>(zac c).isSome)=ys0 at hkeys hI hs hk
  refine zAy (Wk K) X8 zaa kink zab zad zac [] iv9 za5 zaW.len zbd zaq zar ?_
  intro X9 hstep
  have key:∀ (N:Nat) (ys:List (List Int)) (zai:List (List Int)) (iv9:Int) (za5:Int) (zaW:(Sl Span)) (zaq:Nat) (zar:(List Int→Option (List Int))) (zbd:Nat→List PV) (zdR:zbd=fun i=>zam (zaW.get i)),ys.length=N→(zA9 2 zad zac→zEN 2 zac zai ys)→zgi zaa kink zab zad zac ys=true→zdT P8 zaa kink zab zad zac ys iv9 za5 zaW zaq zar=true→K (e56 (zdS S8 zaa kink zab zad zac ys iv9 za5 zaW zaq zar))→X9 (zfD zaa kink zab zad zac zai iv9 za5 zaW.len zbd zaq zar):=by
    intro N
    induction N with
    | zero =>
      intro ys zai iv9 za5 zaW zaq zar zbd zdR hN hrem hI hs hk
      subst zdR
      obtain rfl:=List.eq_nil_of_length_eq_zero hN
      refine hstep zai iv9 za5 zaW zaq zar ?_
      intro hfin
      have hrem:=hrem hfin
      refine ⟨fun _=>?_,fun k68_0 k68_1 hF hns=>absurd (hrem.2.2 [k68_0,k68_1] rfl hF hns) (by simp)⟩
      have hs:zlI P8 zaa kink zab zad zac iv9 za5 zaW zaq zar=true:=hs
      have hk:K (e56 (zlH S8 zaa kink zab zad zac iv9 za5 zaW zaq zar)):=hk
      unfold zlI at hs
      unfold zlH at hk
      exact (hX8 zaq zar (w64 (za5+(1:Int))) zaW (fun i=>zam (zaW.get i)) rfl hs hk)
    | succ N ih =>
      intro ys zai iv9 za5 zaW zaq zar zbd zdR hN hrem hI hs hk
      subst zdR
      refine hstep zai iv9 za5 zaW zaq zar ?_
      intro hfin
      have hrem:=hrem hfin
      refine ⟨fun hend=>?_,fun k68_0 k68_1 hF hns=>?_⟩
      · exact absurd (zrx hrem hend) (fun e=>by rw [e] at hN;simp at hN)
      · obtain ⟨hperm, hrem2, hlen⟩ := znw hrem (c := [k68_0, k68_1]) rfl hF hns
        obtain ⟨hI2,hcond⟩:=zHL P8 S8 zaa kink zab zad zac ys _ (fun y hy=>(hrem.2.1 y hy).1) hI hperm
        have hI3:=zHJ zaa kink zab zad zac _ _ hI2
        obtain ⟨e2,e1⟩:=hcond iv9 za5 zaW zaq zar hs
        have hs:=e2
        rw [e1] at hk
        have hs:zlK P8 zaa kink zab zad zac k68_0 k68_1 (zdT P8 zaa kink zab zad zac (ys.erase [k68_0,k68_1])) iv9 za5 zaW zaq zar=true:=hs
        have hk:K (e56 (zlJ S8 zaa kink zab zad zac k68_0 k68_1 (zdS S8 zaa kink zab zad zac (ys.erase [k68_0,k68_1])) iv9 za5 zaW zaq zar)):=hk
        have ih:=fun (iv9:Int) (za5:Int) (zaW:(Sl Span)) (zaq:Nat) (zar:(List Int→Option (List Int))) (zbd:Nat→List PV) (zdR:zbd=fun i=>zam (zaW.get i))=>ih (ys.erase [k68_0,k68_1]) ([k68_0,k68_1] :: zai) iv9 za5 zaW zaq zar zbd zdR (by omega) (fun _=>hrem2) hI3
        unfold zlK at hs
        unfold zlJ at hk
        generalize zdS S8 zaa kink zab zad zac (ys.erase [k68_0,k68_1])=S9 at hk ih
        generalize zdT P8 zaa kink zab zad zac (ys.erase [k68_0,k68_1])=P9 at hs ih
        have hX9:=ih
        exact (zaE hs fun hc hs=>⟨⟨isE,hc⟩,(zCx K zaa kink zab zad zac zai k68_0 k68_1 X8 P8 S8 hX8 X9 P9 S9 hX9 iv9 za5 (⟨zaW.len,(s94 iv9 k68_0 zaW.get)⟩:Sl Span) zaq zar (fun i=>zam ((s94 iv9 k68_0 zaW.get) i)) rfl hs hk)⟩)
  exact key _ ys0 [] iv9 za5 zaW zaq zar zbd zdR rfl (fun hf=>zk5 hkeys hf) hI hs hk
def zhr (zaa:(Sl Gate)) (kink:Int) (zab:(Sl Mp)) (S8:Nat→(List Int→Option (List Int))→Int→(Sl Span)→((Sl Span)×Int)) (zad:Nat) (zac:(List Int→Option (List Int))) (za7:Int) (zbe:(Sl Span)):((Sl Span)×Int) :=
  (cond (decide (za7 < (w64 ((zaa.len : Int) - (1:Int)))))
 (zoo S8 zaa kink zab zad zac za7 za7 zbe 0 (fun _=>none))
 (zbe,(0:Int)))
def zhs (zaa:(Sl Gate)) (kink:Int) (zab:(Sl Mp)) (P8:Nat→(List Int→Option (List Int))→Int→(Sl Span)→Bool) (zad:Nat) (zac:(List Int→Option (List Int))) (za7:Int) (zbe:(Sl Span)):Bool :=
  (cond (decide (za7 < (w64 ((zaa.len : Int) - (1:Int)))))
 (zop P8 zaa kink zab zad zac za7 za7 zbe 0 (fun _=>none))
 true)
def zeH (zaa : (Sl Gate)) (kink : Int) (zab : (Sl Mp)) : Nat → Nat → (List Int → Option (List Int)) → Int → (Sl Span) → ((Sl Span) × Int)
  | 0=>fun _ _ _ _=>default
  | k+1=>zhr zaa kink zab (zeH zaa kink zab k)
def zeI (zaa : (Sl Gate)) (kink : Int) (zab : (Sl Mp)) : Nat → Nat → (List Int → Option (List Int)) → Int → (Sl Span) → Bool
  | 0=>fun _ _ _ _=>false
  | k+1=>zhs zaa kink zab (zeI zaa kink zab k)
def zsE (zaa:(Sl Gate)) (kink:Int) (zab:(Sl Mp)) (zad:Nat) (zac:(List Int→Option (List Int))) (za7:Int) (zbe:(Sl Span)):((Sl Span)×Int):=zeH zaa kink zab Fuel zad zac za7 zbe
def zsF (zaa:(Sl Gate)) (kink:Int) (zab:(Sl Mp)) (zad:Nat) (zac:(List Int→Option (List Int))) (za7:Int) (zbe:(Sl Span)):Bool:=zeI zaa kink zab Fuel zad zac za7 zbe
theorem zHN (K:List PA→Prop) (zaa:(Sl Gate)) (kink:Int) (zab:(Sl Mp)) (zad:Nat) (zac:(List Int→Option (List Int))) (za7:Int) (zbe:(Sl Span)) (zbc:Nat→List PV) (zeG:zbc=fun i=>zam (zbe.get i)) (hs:zsF zaa kink zab zad zac za7 zbe=true) (hk:K (e56 (zsE zaa kink zab zad zac za7 zbe))):zlF (Wk K) zaa kink zab zad zac za7 zbe.len zbc:=by
  refine zAx (Wk K) zaa kink zab zad zac za7 zbe.len zbc ?_
  intro X8 hstep
  have key:∀ (k:Nat) (zad:Nat) (zac:(List Int→Option (List Int))) (za7:Int) (zbe:(Sl Span)) (zbc:Nat→List PV) (zeG:zbc=fun i=>zam (zbe.get i)),zeI zaa kink zab k zad zac za7 zbe=true→K (e56 (zeH zaa kink zab k zad zac za7 zbe))→X8 (zfC zaa kink zab zad zac za7 zbe.len zbc):=by
    intro k
    induction k with
    | zero=>intro zad zac za7 zbe zbc zeG hs;exact absurd hs Bool.false_ne_true
    | succ k ih =>
      intro zad zac za7 zbe zbc zeG hs hk
      subst zeG
      refine hstep zad zac za7 zbe ?_
      have hs:zhs zaa kink zab (zeI zaa kink zab k) zad zac za7 zbe=true:=hs
      have hk:K (e56 (zhr zaa kink zab (zeH zaa kink zab k) zad zac za7 zbe)):=hk
      unfold zhs at hs
      unfold zhr at hk
      generalize zeH zaa kink zab k=S8 at hk ih
      generalize zeI zaa kink zab k=P8 at hs ih
      have hX8:=ih
      exact (zbp (K := fun r => K (e56 r))
 (fun hs hk=>(zHM K zaa kink zab zad zac X8 P8 S8 hX8 za7 za7 zbe 0 (fun _=>none) (fun i=>zam (zbe.get i)) rfl hs hk))
 (fun hs hk=>(zdW hk)) hs hk)
  exact key _ zad zac za7 zbe zbc zeG hs hk
def zoq (zaa:(Sl Gate)) (kink:Int) (zab:(Sl Mp)) (zgG:(Sl Span)) (zc5:Nat) (zc6:(List Int→Option (List Int))):((Sl Span)×Int) :=
  (zsE zaa kink zab zc5 zc6 (0:Int) zgG)
def zor (zaa:(Sl Gate)) (kink:Int) (zab:(Sl Mp)) (zgG:(Sl Span)) (zc5:Nat) (zc6:(List Int→Option (List Int))):Bool :=
  (zsF zaa kink zab zc5 zc6 (0:Int) zgG)
theorem zHO (K:List PA→Prop) (zaa:(Sl Gate)) (kink:Int) (zab:(Sl Mp)) (zgG:(Sl Span)) (zc5:Nat) (zc6:(List Int→Option (List Int))) (zjh:Nat→List PV) (zHP:zjh=fun i=>zam (zgG.get i)) (hs:zor zaa kink zab zgG zc5 zc6=true) (hk:K (e56 (zoq zaa kink zab zgG zc5 zc6))):zoi (Wk K) zaa kink zab zgG.len zjh zc5 zc6:=by
  subst zHP
  refine zaH (zHI (Wk K) zaa kink zab zgG zc5 zc6) ?_
  unfold zor at hs
  unfold zoq at hk
  exact (zHN K zaa kink zab zc5 zc6 (0:Int) zgG (fun i=>zam (zgG.get i)) rfl hs hk)
def zos (zaa:(Sl Gate)) (kink:Int) (zab:(Sl Mp)) (zgF:(Sl Span)) (zcB:Nat) (zc4:(List Int→Option (List Int))):((Sl Span)×Int) :=
  (cond ((zcB : Int) == (0:Int))
 ((⟨0,fun _=>default⟩:(Sl Span)),(5:Int))
 (zoq zaa kink zab zgF zcB zc4))
def zot (zaa:(Sl Gate)) (kink:Int) (zab:(Sl Mp)) (zgF:(Sl Span)) (zcB:Nat) (zc4:(List Int→Option (List Int))):Bool :=
  (cond ((zcB : Int) == (0:Int))
 true
 (zor zaa kink zab zgF zcB zc4))
theorem zHQ (K:List PA→Prop) (zaa:(Sl Gate)) (kink:Int) (zab:(Sl Mp)) (zgF:(Sl Span)) (zcB:Nat) (zc4:(List Int→Option (List Int))) (zjg:Nat→List PV) (zHR:zjg=fun i=>zam (zgF.get i)) (hs:zot zaa kink zab zgF zcB zc4=true) (hk:K (e56 (zos zaa kink zab zgF zcB zc4))):zoh (Wk K) zaa kink zab zgF.len zjg zcB zc4:=by
  subst zHR
  refine zaH (zHH (Wk K) zaa kink zab zgF zcB zc4) ?_
  unfold zot at hs
  unfold zos at hk
  exact (zbp (K := fun r => K (e56 r))
 (fun hs hk=>(wk hk (zdt (.one (.nil _ _)) (zdt (.one (.rfl _)) zhG))))
 (fun hs hk=>(zHO K zaa kink zab zgF zcB zc4 (fun i=>zam (zgF.get i)) rfl hs hk)) hs hk)
def zlM (zaa:(Sl Gate)) (kink:Int) (zab:(Sl Mp)) (za1:(Sl Span)) (zaF:Nat) (zaC:(List Int→Option (List Int))):((Sl Span)×Int) :=
  (zos zaa kink zab za1 zaF zaC)
def zlN (zaa:(Sl Gate)) (kink:Int) (zab:(Sl Mp)) (za1:(Sl Span)) (zaF:Nat) (zaC:(List Int→Option (List Int))):Bool :=
  (zot zaa kink zab za1 zaF zaC)
def zlO (zaa:(Sl Gate)) (kink:Int) (zab:(Sl Mp)) (za1:(Sl Span)) (k46_0:Int) (k46_1:Int) (S5:Nat→(List Int→Option (List Int))→((Sl Span)×Int)) (zaF:Nat) (zaC:(List Int→Option (List Int))):((Sl Span)×Int) :=
  (cond (decide ((zdg (((zab.get 0).F) [k46_0, k46_1]) 0) ≤ kink))
 (S5 (addN (zaC [k46_0,k46_1]) zaF) (ze0 [k46_0,k46_1] [1] zaC))
 (S5 zaF zaC))
def zlP (zaa:(Sl Gate)) (kink:Int) (zab:(Sl Mp)) (za1:(Sl Span)) (k46_0:Int) (k46_1:Int) (P5:Nat→(List Int→Option (List Int))→Bool) (zaF:Nat) (zaC:(List Int→Option (List Int))):Bool :=
  (cond (decide ((zdg (((zab.get 0).F) [k46_0, k46_1]) 0) ≤ kink))
 (P5 (addN (zaC [k46_0,k46_1]) zaF) (ze0 [k46_0,k46_1] [1] zaC))
 (P5 zaF zaC))
def zfs (zaa : (Sl Gate)) (kink : Int) (zab : (Sl Mp)) (za1 : (Sl Span)) : List (List Int) → Nat → (List Int → Option (List Int)) → ((Sl Span) × Int)
  | []=>zlM zaa kink zab za1
  | y :: r=>zlO zaa kink zab za1 (y.getD 0 0) (y.getD 1 0) (zfs zaa kink zab za1 r)
def zft (zaa : (Sl Gate)) (kink : Int) (zab : (Sl Mp)) (za1 : (Sl Span)) : List (List Int) → Nat → (List Int → Option (List Int)) → Bool
  | []=>zlN zaa kink zab za1
  | y :: r=>zlP zaa kink zab za1 (y.getD 0 0) (y.getD 1 0) (zft zaa kink zab za1 r)
def zht (_gates:Sl Gate) (_kink:Int) (_table:Sl Mp) (_out:Sl Span) (_ys:List (List Int)):Bool:=true
theorem zHS (zaa:Sl Gate) (kink:Int) (table:Sl Mp) (out:Sl Span):∀ (y:List Int) (r:List (List Int)),zht zaa kink table out (y :: r)=true→zht zaa kink table out r=true:=fun _ _ _=>rfl
def zfH (kink:Int) (table:Sl Mp) (s:MpS) (y:List Int):MpS:=cond (decide (zdg ((table.get 0).F [y.getD 0 0,y.getD 1 0]) 0≤kink)) (zDK s [y.getD 0 0,y.getD 1 0]) s
theorem zHT (kink:Int) (table:Sl Mp) (s:MpS) (x y:List Int):zfH kink table (zfH kink table s x) y=zfH kink table (zfH kink table s y) x:=by
  unfold zfH
  cases decide (zdg ((table.get 0).F [x.getD 0 0,x.getD 1 0]) 0≤kink) <;> cases decide (zdg ((table.get 0).F [y.getD 0 0,y.getD 1 0]) 0≤kink) <;> simp only [cond_true,cond_false,zqr]
theorem zou (zaa : Sl Gate) (kink : Int) (table : Sl Mp) (out : Sl Span) : ∀ (ys : List (List Int)) (n : Nat) (F : List Int → Option (List Int)), zfs zaa kink table out ys n F = zlM zaa kink table out (ys.foldl (zfH kink table) (n, F)).1 (ys.foldl (zfH kink table) (n, F)).2
  | [],n,F=>rfl
  | y :: r,n,F=>by
    have ih:=zou zaa kink table out r
    show zlO zaa kink table out (y.getD 0 0) (y.getD 1 0) (zfs zaa kink table out r) n F=_
    rw [List.foldl_cons]
    unfold zlO zfH
    cases decide (zdg ((table.get 0).F [y.getD 0 0,y.getD 1 0]) 0≤kink)
    · rw [cond_false,cond_false];exact ih n F
    · rw [cond_true,cond_true];exact ih _ _
theorem zov (zaa : Sl Gate) (kink : Int) (table : Sl Mp) (out : Sl Span) : ∀ (ys : List (List Int)) (n : Nat) (F : List Int → Option (List Int)), zft zaa kink table out ys n F = zlN zaa kink table out (ys.foldl (zfH kink table) (n, F)).1 (ys.foldl (zfH kink table) (n, F)).2
  | [],n,F=>rfl
  | y :: r,n,F=>by
    have ih:=zov zaa kink table out r
    show zlP zaa kink table out (y.getD 0 0) (y.getD 1 0) (zft zaa kink table out r) n F=_
    rw [List.foldl_cons]
    unfold zlP zfH
    cases decide (zdg ((table.get 0).F [y.getD 0 0,y.getD 1 0]) 0≤kink)
    · rw [cond_false,cond_false];exact ih n F
    · rw [cond_true,cond_true];exact ih _ _
theorem zHU (zaa : Sl Gate) (kink : Int) (table : Sl Mp) (out : Sl Span) (ys zs : List (List Int)) (_hl : ∀ y ∈ ys, y.length = 2) (_h : zht zaa kink table out ys = true) (hp : ys.Perm zs) :
    zht zaa kink table out zs=true∧zfs zaa kink table out ys=zfs zaa kink table out zs∧zft zaa kink table out ys=zft zaa kink table out zs:=by
  have e:∀ s:MpS,ys.foldl (zfH kink table) s=zs.foldl (zfH kink table) s:=fun s=>hp.foldl_eq' (fun x _ y _ z=>zHT kink table z x y) s
  refine ⟨rfl,funext fun n=>funext fun F=>?_,funext fun n=>funext fun F=>?_⟩
  · rw [zou,zou,e]
  · rw [zov,zov,e]
def zow (zaa:(Sl Gate)) (kink:Int) (zab:(Sl Mp)) (za1:(Sl Span)) (zaF:Nat) (zaC:(List Int→Option (List Int))):((Sl Span)×Int):=zfs zaa kink zab za1 (zes (zaa.get 0) (zaa.get 1)) zaF zaC
def zox (zaa:(Sl Gate)) (kink:Int) (zab:(Sl Mp)) (za1:(Sl Span)) (zaF:Nat) (zaC:(List Int→Option (List Int))):Bool:=keysB 2 ((zab.get 0).n) ((zab.get 0).F) (zes (zaa.get 0) (zaa.get 1)) && zht zaa kink zab za1 (zes (zaa.get 0) (zaa.get 1)) && zft zaa kink zab za1 (zes (zaa.get 0) (zaa.get 1)) zaF zaC
theorem zHV (K:List PA→Prop) (zaa:(Sl Gate)) (kink:Int) (zab:(Sl Mp)) (za1:(Sl Span)) (zaF:Nat) (zaC:(List Int→Option (List Int))) (hs:zox zaa kink zab za1 zaF zaC=true) (hk:K (e56 (zow zaa kink zab za1 zaF zaC))):zlE (Wk K) zaa kink zab za1 [] zaF zaC:=by
  unfold zox at hs
  rw [Bool.and_eq_true,Bool.and_eq_true] at hs
  obtain ⟨⟨hkeys,hI⟩,hs⟩:=hs
  unfold zow at hk
  generalize hys:zes (zaa.get 0) (zaa.get 1)=ys0 at hkeys hI hs hk
  refine zAw (Wk K) zaa kink zab za1 [] zaF zaC ?_
  intro X5 hstep
  have key:∀ (N:Nat) (ys:List (List Int)) (za2:List (List Int)) (zaF:Nat) (zaC:(List Int→Option (List Int))),ys.length=N→(zA9 2 ((zab.get 0).n) ((zab.get 0).F)→zEN 2 ((zab.get 0).F) za2 ys)→zht zaa kink zab za1 ys=true→zft zaa kink zab za1 ys zaF zaC=true→K (e56 (zfs zaa kink zab za1 ys zaF zaC))→X5 (zjK zaa kink zab za1 za2 zaF zaC):=by
    intro N
    induction N with
    | zero =>
      intro ys za2 zaF zaC hN hrem hI hs hk
      obtain rfl:=List.eq_nil_of_length_eq_zero hN
      refine hstep za2 zaF zaC ?_
      intro hfin
      have hrem:=hrem hfin
      refine ⟨fun _=>?_,fun k46_0 k46_1 hF hns=>absurd (hrem.2.2 [k46_0,k46_1] rfl hF hns) (by simp)⟩
      have hs:zlN zaa kink zab za1 zaF zaC=true:=hs
      have hk:K (e56 (zlM zaa kink zab za1 zaF zaC)):=hk
      unfold zlN at hs
      unfold zlM at hk
      exact (zHQ K zaa kink zab za1 zaF zaC (fun i=>zam (za1.get i)) rfl hs hk)
    | succ N ih =>
      intro ys za2 zaF zaC hN hrem hI hs hk
      refine hstep za2 zaF zaC ?_
      intro hfin
      have hrem:=hrem hfin
      refine ⟨fun hend=>?_,fun k46_0 k46_1 hF hns=>?_⟩
      · exact absurd (zrx hrem hend) (fun e=>by rw [e] at hN;simp at hN)
      · obtain ⟨hperm, hrem2, hlen⟩ := znw hrem (c := [k46_0, k46_1]) rfl hF hns
        obtain ⟨hI2,e1,e2⟩:=zHU zaa kink zab za1 ys _ (fun y hy=>(hrem.2.1 y hy).1) hI hperm
        have hI3:=zHS zaa kink zab za1 _ _ hI2
        rw [e2] at hs
        rw [e1] at hk
        have hs:zlP zaa kink zab za1 k46_0 k46_1 (zft zaa kink zab za1 (ys.erase [k46_0,k46_1])) zaF zaC=true:=hs
        have hk:K (e56 (zlO zaa kink zab za1 k46_0 k46_1 (zfs zaa kink zab za1 (ys.erase [k46_0,k46_1])) zaF zaC)):=hk
        have ih:=fun (zaF:Nat) (zaC:(List Int→Option (List Int)))=>ih (ys.erase [k46_0,k46_1]) ([k46_0,k46_1] :: za2) zaF zaC (by omega) (fun _=>hrem2) hI3
        unfold zlP at hs
        unfold zlO at hk
        generalize zfs zaa kink zab za1 (ys.erase [k46_0,k46_1])=S5 at hk ih
        generalize zft zaa kink zab za1 (ys.erase [k46_0,k46_1])=P5 at hs ih
        have hX5:=ih
        exact (zbp (K := fun r => K (e56 r))
 (fun hs hk=>(hX5 (addN (zaC [k46_0,k46_1]) zaF) (ze0 [k46_0,k46_1] [1] zaC) hs hk))
 (fun hs hk=>(hX5 zaF zaC hs hk)) hs hk)
  exact key _ ys0 [] zaF zaC rfl (fun hf=>zk5 hkeys hf) hI hs hk
def zhu (zaa:(Sl Gate)) (kink:Int) (zab:(Sl Mp)) (za1:(Sl Span)):((Sl Span)×Int) :=
  (zow zaa kink zab za1 0 (fun _=>none))
def zji (zaa:(Sl Gate)) (kink:Int) (zab:(Sl Mp)) (za1:(Sl Span)):Bool :=
  (decide ((0≤(0:Int)∧(0:Int) < (zab.len:Int))) &&
 (zox zaa kink zab za1 0 (fun _=>none)))
theorem zHW (K:List PA→Prop) (zaa:(Sl Gate)) (kink:Int) (zab:(Sl Mp)) (za1:(Sl Span)) (zjf:Nat→List PV) (zHX:zjf=fun i=>zam (za1.get i)) (hs:zji zaa kink zab za1=true) (hk:K (e56 (zhu zaa kink zab za1))):zog (Wk K) zaa kink zab za1.len zjf:=by
  subst zHX
  refine zaH (zHG (Wk K) zaa kink zab za1) ?_
  unfold zji at hs
  unfold zhu at hk
  exact (zaE hs fun hc hs=>⟨hc,(zHV K zaa kink zab za1 0 (fun _=>none) hs hk)⟩)
def zhv (zaa:(Sl Gate)) (kink:Int) (zab:(Sl Mp)) (S3:Int→(Sl Span)→((Sl Span)×Int)) (zbB:Int) (zbN:(Sl Span)):((Sl Span)×Int) :=
  (cond (decide (zbB < ((zaa.len : Int).toNat : Int)))
 (S3 (w64 (zbB+(1:Int))) (⟨zbN.len,(setT zbB.toNat (⟨(1000001:Int),(-1000001:Int)⟩:Span) zbN.get)⟩:Sl Span))
 (zhu zaa kink zab zbN))
def zhw (zaa:(Sl Gate)) (kink:Int) (zab:(Sl Mp)) (P3:Int→(Sl Span)→Bool) (zbB:Int) (zbN:(Sl Span)):Bool :=
  (cond (decide (zbB < ((zaa.len : Int).toNat : Int)))
 (decide ((0≤zbB∧zbB < (zbN.len:Int))) &&
 (decide ((zbB.toNat < zbN.len)) &&
 (P3 (w64 (zbB+(1:Int))) (⟨zbN.len,(setT zbB.toNat (⟨(1000001:Int),(-1000001:Int)⟩:Span) zbN.get)⟩:Sl Span))))
 (zji zaa kink zab zbN))
def zfu (zaa : (Sl Gate)) (kink : Int) (zab : (Sl Mp)) : Nat → Int → (Sl Span) → ((Sl Span) × Int)
  | 0=>fun _ _=>default
  | k+1=>zhv zaa kink zab (zfu zaa kink zab k)
def zfv (zaa : (Sl Gate)) (kink : Int) (zab : (Sl Mp)) : Nat → Int → (Sl Span) → Bool
  | 0=>fun _ _=>false
  | k+1=>zhw zaa kink zab (zfv zaa kink zab k)
def zsG (zaa:(Sl Gate)) (kink:Int) (zab:(Sl Mp)) (zbB:Int) (zbN:(Sl Span)):((Sl Span)×Int):=zfu zaa kink zab Fuel zbB zbN
def zsH (zaa:(Sl Gate)) (kink:Int) (zab:(Sl Mp)) (zbB:Int) (zbN:(Sl Span)):Bool:=zfv zaa kink zab Fuel zbB zbN
theorem zHY (K:List PA→Prop) (zaa:(Sl Gate)) (kink:Int) (zab:(Sl Mp)) (zbB:Int) (zbN:(Sl Span)) (zcK:Nat→List PV) (zlQ:zcK=fun i=>zam (zbN.get i)) (hs:zsH zaa kink zab zbB zbN=true) (hk:K (e56 (zsG zaa kink zab zbB zbN))):zlD (Wk K) zaa kink zab zbB zbN.len zcK:=by
  refine zAv (Wk K) zaa kink zab zbB zbN.len zcK ?_
  intro X3 hstep
  have key:∀ (k:Nat) (zbB:Int) (zbN:(Sl Span)) (zcK:Nat→List PV) (zlQ:zcK=fun i=>zam (zbN.get i)),zfv zaa kink zab k zbB zbN=true→K (e56 (zfu zaa kink zab k zbB zbN))→X3 (zlC zaa kink zab zbB zbN.len zcK):=by
    intro k
    induction k with
    | zero=>intro zbB zbN zcK zlQ hs;exact absurd hs Bool.false_ne_true
    | succ k ih =>
      intro zbB zbN zcK zlQ hs hk
      subst zlQ
      refine hstep zbB zbN ?_
      have hs:zhw zaa kink zab (zfv zaa kink zab k) zbB zbN=true:=hs
      have hk:K (e56 (zhv zaa kink zab (zfu zaa kink zab k) zbB zbN)):=hk
      unfold zhw at hs
      unfold zhv at hk
      generalize zfu zaa kink zab k=S3 at hk ih
      generalize zfv zaa kink zab k=P3 at hs ih
      have hX3:=ih
      exact (zbp (K := fun r => K (e56 r))
 (fun hs hk=>(zaE hs fun hc hs=>⟨hc,(zaE hs fun hc hs=>⟨hc,(hX3 (w64 (zbB+(1:Int))) (⟨zbN.len,(setT zbB.toNat (⟨(1000001:Int),(-1000001:Int)⟩:Span) zbN.get)⟩:Sl Span) (zoZ zbB.toNat 0 (fun i=>zam (zbN.get i)) (zam (⟨(1000001:Int),(-1000001:Int)⟩:Span))) (zJk rfl rfl) hs hk)⟩)⟩))
 (fun hs hk=>(zHW K zaa kink zab zbN (fun i=>zam (zbN.get i)) rfl hs hk)) hs hk)
  exact key _ zbB zbN zcK zlQ hs hk
def zoy (zaa:(Sl Gate)) (kink:Int) (zab:(Sl Mp)):((Sl Span)×Int) :=
  (zsG zaa kink zab (0:Int) (⟨(zaa.len:Int).toNat,(fun _=>(⟨(0:Int),(0:Int)⟩:Span))⟩:Sl Span))
def zoz (zaa:(Sl Gate)) (kink:Int) (zab:(Sl Mp)):Bool :=
  (decide ((0≤(zaa.len:Int)∧(zaa.len:Int)=(zaa.len:Int)∧(zaa.len:Int)≤1000000)) &&
 (zsH zaa kink zab (0:Int) (⟨(zaa.len:Int).toNat,(fun _=>(⟨(0:Int),(0:Int)⟩:Span))⟩:Sl Span)))
theorem zHZ (K:List PA→Prop) (zaa:(Sl Gate)) (kink:Int) (zab:(Sl Mp)) (zco:Nat→List PV) (zlj:zco=fun i=>zbq (zab.get i)) (hs:zoz zaa kink zab=true) (hk:K (e56 (zoy zaa kink zab))):zof (Wk K) zaa kink zab.len zco:=by
  subst zlj
  refine zaH (zHF (Wk K) zaa kink zab) ?_
  unfold zoz at hs
  unfold zoy at hk
  exact (zaE hs fun hc hs=>⟨hc,(zHY K zaa kink zab (0:Int) (⟨(zaa.len:Int).toNat,(fun _=>(⟨(0:Int),(0:Int)⟩:Span))⟩:Sl Span) (fun _=>(zam (⟨(0:Int),(0:Int)⟩:Span))) rfl hs hk)⟩)
def zoA (zaa:(Sl Gate)) (kink:Int):((Sl Span)×Int) :=
  (zoy zaa kink (s93 zaa))
def zoB (zaa:(Sl Gate)) (kink:Int):Bool :=
  (decide ((p93 zaa=true)) &&
 (zoz zaa kink (s93 zaa)))
theorem zH0 (K:List PA→Prop) (zaa:(Sl Gate)) (kink:Int) (hs:zoB zaa kink=true) (hk:K (e56 (zoA zaa kink))):zoe (Wk K) zaa kink:=by
  refine zaH (zHE (Wk K) zaa kink) ?_
  unfold zoB at hs
  unfold zoA at hk
  exact (zaE hs fun hc hs=>⟨⟨isE,hc⟩,(zHZ K zaa kink (s93 zaa) (fun i=>zbq ((s93 zaa).get i)) rfl hs hk)⟩)
def zlR (zaa:(Sl Gate)) (kink:Int) (zhq:Bool):((Sl Span)×Int) :=
  (cond zhq
 ((⟨0,fun _=>default⟩:(Sl Span)),(2:Int))
 (zoA zaa kink))
def zlS (zaa:(Sl Gate)) (kink:Int) (zhq:Bool):Bool :=
  (cond zhq
 true
 (zoB zaa kink))
theorem zAz (K:List PA→Prop) (zaa:(Sl Gate)) (kink:Int) (zhq:Bool) (hs:zlS zaa kink zhq=true) (hk:K (e56 (zlR zaa kink zhq))):zlB (Wk K) zaa kink zhq:=by
  refine zaH (zHD (Wk K) zaa kink zhq) ?_
  unfold zlS at hs
  unfold zlR at hk
  exact (zbp (K := fun r => K (e56 r))
 (fun hs hk=>(wk hk (zdt (.one (.nil _ _)) (zdt (.one (.rfl _)) zhG))))
 (fun hs hk=>(zH0 K zaa kink hs hk)) hs hk)
def s56 (zaa:(Sl Gate)) (kink:Int):((Sl Span)×Int) :=
  (cond (!(s92 zaa))
 (zlR zaa kink true)
 (zlR zaa kink (!(s74 kink (0:Int) (1000000:Int)))))
def p56 (zaa:(Sl Gate)) (kink:Int):Bool :=
  (decide ((p92 zaa=true)) &&
 (cond (!(s92 zaa))
 (zlS zaa kink true)
 (zlS zaa kink (!(s74 kink (0:Int) (1000000:Int))))))
theorem q56 (zaa:(Sl Gate)) (kink:Int) (K:List PA→Prop) (hs:p56 zaa kink=true) (hk:K (e56 (s56 zaa kink))):vcFun Try.prog G56 zaJ 56 [.one (.sl zaa.len 3 (fun i=>enc_55 (zaa.get i))),.one (.int .i64 kink)] (Wk K):=by
  refine zaH (zHC zaa kink (Wk K)) ?_
  unfold p56 at hs
  unfold s56 at hk
  exact (zaE hs fun hc hs => ⟨⟨isE, hc⟩, (zbp (K := fun r => K (e56 r))
 (fun hs hk=>(zAz K zaa kink true hs hk))
 (fun hs hk=>(zAz K zaa kink (!(s74 kink (0:Int) (1000000:Int))) hs hk)) hs hk)⟩)
def zH1 : List PA → COut
  | [.one (.sl a0_n a0_s a0_g),.one (.int .i64 a1)]=>.det (IsE enc_55 3 a0_s a0_g∧p56 (⟨a0_n,zaf a0_g⟩:(Sl Gate)) a1=true) [.one (.sl (((s56 (⟨a0_n,zaf a0_g⟩:(Sl Gate)) a1).1).len) 2 (fun i=>zam (((s56 (⟨a0_n,zaf a0_g⟩:(Sl Gate)) a1).1).get i))),.one (.int .i64 ((s56 (⟨a0_n,zaf a0_g⟩:(Sl Gate)) a1).2))]
  | _=>.no
theorem zLm:zak Try.prog 56:=⟨_,rfl,rfl,by kernel_rfl⟩
theorem zQs:Ok Try.prog 56 zH1:=zfT zNZ zLm fun args K h=>by
  unfold zH1 at h
  split at h
  · rename_i a0_n a0_s a0_g a1
    obtain ⟨⟨⟨rfl,a0_f,rfl⟩,hs⟩,hk⟩:=h
    try rw [zae a0_f] at hs
    try rw [zae a0_f] at hk
    exact ⟨_,zeT zfB _,(fun _ _=>[]),(fun l=>Nat.beq l 42 || Nat.beq l 66),zaJ,q56 (⟨a0_n,a0_f⟩:(Sl Gate)) a1 K hs hk⟩
  · exact h.elim
abbrev T70:Tabs:=Tabs.nil
theorem zN0:TabsOk Try.prog T70:=TabsOk.nil
abbrev G70:Ctrs:=csm T70 (fun _ _=>[]) (fun _=>false)
def zLn:Ann:=⟨15,[(0,zK [0,1,2] []),(1,zK [6] [])],
 [],
 [],
 [],[]⟩
abbrev R70:=Bool
abbrev e70 (r:R70):List PA:=[.one (.bool r)]
section
variable {K:List PA→Prop} {n:Int} {low:Int} {high:Int}
def s70 (n:Int) (low:Int) (high:Int):Bool :=
  (cond (decide (n ≥ low))
 (decide (n≤high))
 false)
end
theorem q70 (n:Int) (low:Int) (high:Int) (K:List PA→Prop) (hk:K (e70 (s70 n low high))):vcFun Try.prog G70 zLn 70 [.one (.int .i64 n),.one (.int .i64 low),.one (.int .i64 high)] K :=
  zaH (by kernel_rfl) (zt hk (fun hk=>hk) (fun hk=>hk))
def zCz : List PA → COut
  | [.one (.int .i64 a0),.one (.int .i64 a1),.one (.int .i64 a2)]=>.tot [.one (.bool (s70 a0 a1 a2))]
  | _=>.no
theorem zLo:zak Try.prog 70:=⟨_,rfl,rfl,by kernel_rfl⟩
theorem zOW:Ok Try.prog 70 zCz:=zaU zN0 zLo fun args K h=>by
  unfold zCz at h
  split at h
  · rename_i a0 a1 a2
    have hk:=h
    exact ⟨(fun _ _=>[]),(fun _=>false),zLn,q70 a0 a1 a2 K hk⟩
  · exact h.elim
abbrev T49:Tabs:=(Tabs.nil.addF 70 zCz)
theorem zN1:TabsOk Try.prog T49:=(TabsOk.nil.addF zOW)
abbrev G49:Ctrs:=csm T49 (fun _ _=>[]) (fun _=>false)
def zLp:Ann:=⟨18,[(0,zK [1] [1]),(1,zK [2] [])],
 [],
 [],
 [],[]⟩
abbrev R49:=Bool
abbrev e49 (r:R49):List PA:=[.one (.bool r)]
section
variable {K:List PA→Prop} {g:Gate}
def s49 (g:Gate):Bool :=
  (cond (s70 g.Z (0:Int) (100000:Int))
 (cond (s70 g.Low (-1000000:Int) g.High)
 (decide (g.High≤(1000000:Int)))
 false)
 false)
end
theorem q49 (g:Gate) (K:List PA→Prop) (hk:K (e49 (s49 g))):vcFun Try.prog G49 zLp 49 [.agg (enc_55 g)] K :=
  zaH (by kernel_rfl) (zt hk (fun hk=>(zt hk (fun hk=>hk) (fun hk=>hk))) (fun hk=>hk))
def zH2 : List PA → COut
  | [.agg [.int .i64 a0_Z,.int .i64 a0_Low,.int .i64 a0_High]]=>.tot [.one (.bool (s49 (⟨a0_Z,a0_Low,a0_High⟩:Gate)))]
  | _=>.no
theorem zLq:zak Try.prog 49:=⟨_,rfl,rfl,by kernel_rfl⟩
theorem zQt:Ok Try.prog 49 zH2:=zaU zN1 zLq fun args K h=>by
  unfold zH2 at h
  split at h
  · rename_i a0_Z a0_Low a0_High
    have hk:=h
    exact ⟨(fun _ _=>[]),(fun _=>false),zLp,q49 (⟨a0_Z,a0_Low,a0_High⟩:Gate) K hk⟩
  · exact h.elim
abbrev T45:Tabs:=(Tabs.nil.addF 70 zCz)
theorem zN2:TabsOk Try.prog T45:=(TabsOk.nil.addF zOW)
abbrev G45:Ctrs:=csm T45 (fun _ _=>[]) (fun _=>false)
def zCA:Ann:=⟨35,[(0,zK [0] []),(1,zK [0,3] []),(2,zK [0,3,7] []),(3,zK [0,3] []),(4,zK [0,3,31] []),(5,zK [2] []),(6,zK [2] [])],
 [(2,zK [0,3] [])],
 [(5,zK [0,3,31] [])],
 [],[]⟩
abbrev R45:=Bool
abbrev e45 (r:R45):List PA:=[.one (.bool r)]
@[irreducible] def z45:=ptF Try.prog G45 zCA Try.f45
def zDL (l_a0:(Sl Int)) (iv0:Int):St:=⟨[(0,zS enc_3 1 l_a0),(3,zI iv0)],[],[]⟩
abbrev zH3 (K:List PA→Prop) (l_a0:(Sl Int)) (X:St→Prop) (P:Int→Bool) (S:Int→Bool):Prop:=∀ ⦃iv0:Int⦄,P iv0=true→K (e45 (S iv0))→X (zDL l_a0 iv0)
section
variable {K:List PA→Prop} {l_a0:(Sl Int)} {iv0:Int} {X0:St→Prop} {P0:Int→Bool} {S0:Int→Bool} {iv1:Int} {zsI:Bool}
def zlT (S0:Int→Bool) (l_a0:(Sl Int)) (iv1:Int) (zsI:Bool):Bool :=
  (cond zsI
 false
 (S0 (w64 (iv1+(1:Int)))))
def zlU (P0:Int→Bool) (l_a0:(Sl Int)) (iv1:Int) (zsI:Bool):Bool :=
  (cond zsI
 true
 (P0 (w64 (iv1+(1:Int)))))
theorem zsJ (hX0:zH3 K l_a0 X0 P0 S0) (hs:zlU P0 l_a0 iv1 zsI=true) (hk:K (e45 (zlT S0 l_a0 iv1 zsI))):z45 K [1,0,1,0,0,1,0,0,1] [X0] ⟨[(0,zS enc_3 1 l_a0),(3,zI iv1),(31,zB zsI)],[],[]⟩:=zaH (by kernel_rfl) (zc hs hk (fun hs hk=>hk) (fun hs hk=>(hX0 hs hk)))
def zjj (l_a0:(Sl Int)) (S0:Int→Bool) (iv0:Int):Bool :=
  (cond (decide (iv0 < (l_a0.len : Int)))
 (cond (!(s70 (l_a0.get iv0.toNat) (0:Int) (100000:Int)))
 (zlT S0 l_a0 iv0 true)
 (cond (decide (iv0 > (0:Int)))
 (zlT S0 l_a0 iv0 (decide ((l_a0.get iv0.toNat)≤(l_a0.get ((w64 (iv0 - (1:Int))).toNat)))))
 (zlT S0 l_a0 iv0 false)))
 (s70 (l_a0.len:Int) (2:Int) (8:Int)))
def zjk (l_a0:(Sl Int)) (P0:Int→Bool) (iv0:Int):Bool :=
  (cond (decide (iv0 < (l_a0.len : Int)))
 (decide ((0≤iv0∧iv0 < (l_a0.len:Int))) &&
 (cond (!(s70 (l_a0.get iv0.toNat) (0:Int) (100000:Int)))
 (zlU P0 l_a0 iv0 true)
 (cond (decide (iv0 > (0:Int)))
 (decide ((0≤iv0∧iv0 < (l_a0.len:Int))) &&
 (decide ((0≤(w64 (iv0 - (1:Int)))∧(w64 (iv0 - (1:Int))) < (l_a0.len:Int))) &&
 (zlU P0 l_a0 iv0 (decide ((l_a0.get iv0.toNat)≤(l_a0.get ((w64 (iv0 - (1:Int))).toNat)))))))
 (zlU P0 l_a0 iv0 false))))
 true)
def zjl (l_a0:(Sl Int)):Nat→Int→Bool:=lpO (fun _=>default) (zjj l_a0)
def zjm (l_a0:(Sl Int)):Nat→Int→Bool:=lpO (fun _=>false) (zjk l_a0)
def zAA (l_a0:(Sl Int)) (iv0:Int):Bool:=zjl l_a0 Fuel iv0
def zAB (l_a0:(Sl Int)) (iv0:Int):Bool:=zjm l_a0 Fuel iv0
theorem zH4 (hs:zAB l_a0 iv0=true) (hk:K (e45 (zAA l_a0 iv0))):z45 K [1,0,1,0] [] (zDL l_a0 iv0) :=
  zl (fun X=>z45 K [1,0,1,0,0] [X]) (by kernel_rfl) fun X0 hX =>
  (show ∀ k, zH3 K l_a0 X0 (zjm l_a0 k) (zjl l_a0 k) from zgs _ _ (zjk l_a0) (zjj l_a0) (zH3 K l_a0 X0)
 (by intro _ hs;exact absurd hs Bool.false_ne_true)
 (by intro P0 S0 hX0 iv0 hs hk;exact hX _ (zaH (by kernel_rfl) (zc hs hk (fun hs hk=>(zaE hs fun hc hs=>And.intro hc (zc hs hk (fun hs hk=>(zsJ hX0 hs hk)) (fun hs hk=>(zc hs hk (fun hs hk=>(zaE hs fun hc hs=>And.intro hc (zaE hs fun hc hs=>And.intro hc (zsJ hX0 hs hk)))) (fun hs hk=>(zsJ hX0 hs hk))))))) (fun hs hk=>hk))))) _ hs hk
def s45 (l_a0:(Sl Int)):Bool :=
  (zAA l_a0 (0:Int))
def p45 (l_a0:(Sl Int)):Bool :=
  (zAB l_a0 (0:Int))
end
theorem q45 (l_a0:(Sl Int)) (K:List PA→Prop) (hs:p45 l_a0=true) (hk:K (e45 (s45 l_a0))):vcFun Try.prog G45 zCA 45 [.one (.sl l_a0.len 1 (fun i=>enc_3 (l_a0.get i)))] K :=
  zaH (by kernel_rfl) (zH4 hs hk)
def zH5 : List PA → COut
  | [.one (.sl a0_n a0_s a0_g)]=>.det (IsE enc_3 1 a0_s a0_g∧p45 (⟨a0_n,zce a0_g⟩:(Sl Int))=true) [.one (.bool (s45 (⟨a0_n,zce a0_g⟩:(Sl Int))))]
  | [.one (.nils)]=>.det (p45 (⟨0,fun _=>default⟩:(Sl Int))=true) [.one (.bool (s45 (⟨0,fun _=>default⟩:(Sl Int))))]
  | _=>.no
theorem zLr:zak Try.prog 45:=⟨_,rfl,rfl,by kernel_rfl⟩
theorem zQu:Ok Try.prog 45 zH5:=zfT zN2 zLr fun args K h=>by
  unfold zH5 at h
  split at h
  · rename_i a0_n a0_s a0_g
    obtain ⟨⟨⟨rfl,a0_f,rfl⟩,hs⟩,hk⟩:=h
    try rw [zbO a0_f] at hs
    try rw [zbO a0_f] at hk
    exact ⟨_,zeT zfB _,(fun _ _=>[]),(fun _=>false),zCA,q45 (⟨a0_n,a0_f⟩:(Sl Int)) (Wk K) hs (zdW hk)⟩
  · obtain ⟨hs, hk⟩ := h
    exact ⟨_,(zdt (.one (.nil _ _)) zhG),(fun _ _=>[]),(fun _=>false),zCA,q45 (⟨0,fun _=>default⟩:(Sl Int)) (Wk K) hs (zdW hk)⟩
  · exact h.elim
abbrev T57:Tabs:=((Tabs.nil.addF 45 zH5).addF 49 zH2)
theorem zN3:TabsOk Try.prog T57:=((TabsOk.nil.addF zQu).addF zQt)
abbrev G57:Ctrs:=csm T57 (fun _ _=>[]) (fun _=>false)
def zH6:Ann:=⟨41,[(0,zK [0] []),(1,zK [0,3] []),(2,zK [0,3,4] []),(3,zK [0,3,4,8] [18]),(4,zK [0,3,4] [18]),(5,zK [0,3,4] [18]),(6,zK [0,3,4,38] [18]),(7,zK [2] []),(8,zK [2] [])],
 [(3,⟨[0,3,4],[18],[(3,18,3,fun _=>enc_3 default)],[],[],[],[]⟩)],
 [(7,zK [0,3,4,38] [18])],
 [],[]⟩
abbrev R57:=Bool
abbrev e57 (r:R57):List PA:=[.one (.bool r)]
@[irreducible] def z57:=ptF Try.prog G57 zH6 Try.f57
def zDM (zaa:(Sl Gate)) (iv0:Int) (zbf:(Sl Int)) (zcV:Nat→List PV):St:=⟨[(0,zS enc_55 3 zaa),(3,zv 18),(4,zI iv0)],[(18,.vec 3 1 8 zbf.len zcV)],[]⟩
abbrev zH7 (K:List PA→Prop) (zaa:(Sl Gate)) (X:St→Prop) (P:Int→(Sl Int)→Bool) (S:Int→(Sl Int)→Bool):Prop:=∀ ⦃iv0:Int⦄ ⦃zbf:(Sl Int)⦄ ⦃zcV:Nat→List PV⦄,P iv0 zbf=true→K (e57 (S iv0 zbf))→zcV=zg enc_3 zbf→X (zDM zaa iv0 zbf zcV)
section
variable {K:List PA→Prop} {zaa:(Sl Gate)} {iv0:Int} {zbf:(Sl Int)} {zcV:Nat→List PV} {X0:St→Prop} {P0:Int→(Sl Int)→Bool} {S0:Int→(Sl Int)→Bool} {iv1:Int} {zsK:Bool} {zqy:(Sl Int)} {zAC:Nat→List PV}
def zoC (S0:Int→(Sl Int)→Bool) (zaa:(Sl Gate)) (iv1:Int) (zsK:Bool) (zqy:(Sl Int)):Bool :=
  (cond zsK
 false
 (S0 (w64 (iv1+(1:Int))) zqy))
def zoD (P0:Int→(Sl Int)→Bool) (zaa:(Sl Gate)) (iv1:Int) (zsK:Bool) (zqy:(Sl Int)):Bool :=
  (cond zsK
 true
 (P0 (w64 (iv1+(1:Int))) zqy))
theorem zAD (hX0:zH7 K zaa X0 P0 S0) (hs:zoD P0 zaa iv1 zsK zqy=true) (hk:K (e57 (zoC S0 zaa iv1 zsK zqy))) (zH8:zAC=zg enc_3 zqy):z57 K [1,1,0,1,0,0,1,0,0,1,1] [X0] ⟨[(0,zS enc_55 3 zaa),(3,zv 18),(4,zI iv1),(38,zB zsK)],[(18,.vec 3 1 8 zqy.len zAC)],[]⟩:=by subst zH8;exact zaH (by kernel_rfl) (zc hs hk (fun hs hk=>hk) (fun hs hk=>(hX0 hs hk rfl)))
def zjn (zaa:(Sl Gate)) (S0:Int→(Sl Int)→Bool) (iv0:Int) (zbf:(Sl Int)):Bool :=
  (cond (decide (iv0 < (zaa.len : Int)))
 (cond (!(s49 (zaa.get iv0.toNat)))
 (zoC S0 zaa iv0 true (⟨(zbf.len+1),(zeD zbf.len zbf.get (fun _=>(zaa.get iv0.toNat).Z))⟩:Sl Int))
 (zoC S0 zaa iv0 (decide ((w64 ((zaa.get iv0.toNat).High - (zaa.get iv0.toNat).Low)) > (60:Int))) (⟨(zbf.len+1),(zeD zbf.len zbf.get (fun _=>(zaa.get iv0.toNat).Z))⟩:Sl Int)))
 (s45 zbf))
def zjo (zaa:(Sl Gate)) (P0:Int→(Sl Int)→Bool) (iv0:Int) (zbf:(Sl Int)):Bool :=
  (cond (decide (iv0 < (zaa.len : Int)))
 (decide ((0≤iv0∧iv0 < (zaa.len:Int))) &&
 (decide (((zbf.len+1) * 8≤140737488355328∧zbf.len+1≤9223372036854775807)) &&
 (decide ((0≤iv0∧iv0 < (zaa.len:Int))) &&
 (cond (!(s49 (zaa.get iv0.toNat)))
 (zoD P0 zaa iv0 true (⟨(zbf.len+1),(zeD zbf.len zbf.get (fun _=>(zaa.get iv0.toNat).Z))⟩:Sl Int))
 (decide ((0≤iv0∧iv0 < (zaa.len:Int))) &&
 (decide ((0≤iv0∧iv0 < (zaa.len:Int))) &&
 (zoD P0 zaa iv0 (decide ((w64 ((zaa.get iv0.toNat).High - (zaa.get iv0.toNat).Low)) > (60:Int))) (⟨(zbf.len+1),(zeD zbf.len zbf.get (fun _=>(zaa.get iv0.toNat).Z))⟩:Sl Int))))))))
 (decide ((p45 zbf=true)) &&
 true))
def zjq (zaa:(Sl Gate)):Nat→Int→(Sl Int)→Bool:=lpO (fun _ _=>default) (zjn zaa)
def zjr (zaa:(Sl Gate)):Nat→Int→(Sl Int)→Bool:=lpO (fun _ _=>false) (zjo zaa)
def zAE (zaa:(Sl Gate)) (iv0:Int) (zbf:(Sl Int)):Bool:=zjq zaa Fuel iv0 zbf
def zAF (zaa:(Sl Gate)) (iv0:Int) (zbf:(Sl Int)):Bool:=zjr zaa Fuel iv0 zbf
theorem zH9 (hs:zAF zaa iv0 zbf=true) (hk:K (e57 (zAE zaa iv0 zbf))) (zhx:zcV=zg enc_3 zbf):z57 K [1,1,0,1,0] [] (zDM zaa iv0 zbf zcV) :=
  zl (fun X=>z57 K [1,1,0,1,0,0] [X]) (by kernel_rfl) fun X0 hX =>
  (show ∀ k, zH7 K zaa X0 (zjr zaa k) (zjq zaa k) from zgs _ _ (zjo zaa) (zjn zaa) (zH7 K zaa X0)
 (by intro _ _ _ hs;exact absurd hs Bool.false_ne_true)
 (by intro P0 S0 hX0 iv0 zbf zcV hs hk zhx;subst zhx;exact hX _ (zaH (by kernel_rfl) (zc hs hk (fun hs hk=>(zaE hs fun hc hs=>And.intro hc (zaE hs fun hc hs=>And.intro hc (zaE hs fun hc hs=>And.intro hc (zc hs hk (fun hs hk=>(zAD hX0 hs hk (zh2 (enc:=enc_3) (f:=zbf.get) (h:=(fun _=>(zaa.get iv0.toNat).Z)) rfl rfl))) (fun hs hk=>(zaE hs fun hc hs=>And.intro hc (zaE hs fun hc hs=>And.intro hc (zAD hX0 hs hk (zh2 (enc:=enc_3) (f:=zbf.get) (h:=(fun _=>(zaa.get iv0.toNat).Z)) rfl rfl)))))))))) (fun hs hk=>(zaE hs fun hc hs=>And.intro (And.intro (zE enc_3 1 zbf.get) hc) hk)))))) _ hs hk zhx
def s57 (zaa:(Sl Gate)):Bool :=
  (zAE zaa (0:Int) (⟨0,(fun _=>default)⟩:Sl Int))
def p57 (zaa:(Sl Gate)):Bool :=
  (zAF zaa (0:Int) (⟨0,(fun _=>default)⟩:Sl Int))
end
theorem q57 (zaa:(Sl Gate)) (K:List PA→Prop) (hs:p57 zaa=true) (hk:K (e57 (s57 zaa))):vcFun Try.prog G57 zH6 57 [.one (.sl zaa.len 3 (fun i=>enc_55 (zaa.get i)))] K :=
  zaH (by kernel_rfl) (zH9 hs hk rfl)
def zIa : List PA → COut
  | [.one (.sl a0_n a0_s a0_g)]=>.det (IsE enc_55 3 a0_s a0_g∧p57 (⟨a0_n,zaf a0_g⟩:(Sl Gate))=true) [.one (.bool (s57 (⟨a0_n,zaf a0_g⟩:(Sl Gate))))]
  | _=>.no
theorem zLs:zak Try.prog 57:=⟨_,rfl,rfl,by kernel_rfl⟩
theorem zQv:Ok Try.prog 57 zIa:=zaU zN3 zLs fun args K h=>by
  unfold zIa at h
  split at h
  · rename_i a0_n a0_s a0_g
    obtain ⟨⟨⟨rfl,a0_f,rfl⟩,hs⟩,hk⟩:=h
    try rw [zae a0_f] at hs
    try rw [zae a0_f] at hk
    exact ⟨(fun _ _=>[]),(fun _=>false),zH6,q57 (⟨a0_n,a0_f⟩:(Sl Gate)) K hs hk⟩
  · exact h.elim
abbrev T61:Tabs:=Tabs.nil
theorem zN4:TabsOk Try.prog T61:=TabsOk.nil
abbrev G61:Ctrs:=csm T61 (fun _ _=>[]) (fun _=>false)
def zIb:Ann:=⟨20,[(0,zK [0] []),(1,zK [0,3] []),(2,zK [0,3,4] []),(3,zK [0,3,4,8] [18]),(4,zK [0,3,4] [18]),(5,zK [0,3,4] [18]),(6,zK [2] [18])],
 [(3,⟨[0,3,4],[18],[(3,18,3,fun _=>enc_3 default)],[],[],[],[]⟩)],
 [],
 [],[]⟩
abbrev R61:=(Sl Int)
abbrev e61 (r:R61):List PA:=[.one (.sl r.len 1 (fun i=>enc_3 (r.get i)))]
@[irreducible] def z61:=ptF Try.prog G61 zIb Try.f61
def zDN (zaa:(Sl Gate)) (iv0:Int) (zbf:(Sl Int)) (zcV:Nat→List PV):St:=⟨[(0,zS enc_55 3 zaa),(3,zv 18),(4,zI iv0)],[(18,.vec 3 1 8 zbf.len zcV)],[]⟩
abbrev zLt (K:List PA→Prop) (zaa:(Sl Gate)) (X:St→Prop) (P:Int→(Sl Int)→Bool) (S:Int→(Sl Int)→(Sl Int)):Prop:=∀ ⦃iv0:Int⦄ ⦃zbf:(Sl Int)⦄ ⦃zcV:Nat→List PV⦄,P iv0 zbf=true→K (e61 (S iv0 zbf))→zcV=zg enc_3 zbf→X (zDN zaa iv0 zbf zcV)
section
variable {K:List PA→Prop} {zaa:(Sl Gate)} {iv0:Int} {zbf:(Sl Int)} {zcV:Nat→List PV} {X0:St→Prop} {P0:Int→(Sl Int)→Bool} {S0:Int→(Sl Int)→(Sl Int)}
def zjs (zaa:(Sl Gate)) (S0:Int→(Sl Int)→(Sl Int)) (iv0:Int) (zbf:(Sl Int)):(Sl Int) :=
  (cond (decide (iv0 < (zaa.len : Int)))
 (S0 (w64 (iv0+(1:Int))) (⟨(zbf.len+1),(zeD zbf.len zbf.get (fun _=>(zaa.get iv0.toNat).Z))⟩:Sl Int))
 zbf)
def zjt (zaa:(Sl Gate)) (P0:Int→(Sl Int)→Bool) (iv0:Int) (zbf:(Sl Int)):Bool :=
  (cond (decide (iv0 < (zaa.len : Int)))
 (decide ((0≤iv0∧iv0 < (zaa.len:Int))) &&
 (decide (((zbf.len+1) * 8≤140737488355328∧zbf.len+1≤9223372036854775807)) &&
 (P0 (w64 (iv0+(1:Int))) (⟨(zbf.len+1),(zeD zbf.len zbf.get (fun _=>(zaa.get iv0.toNat).Z))⟩:Sl Int))))
 true)
def zlV (zaa:(Sl Gate)):Nat→Int→(Sl Int)→(Sl Int):=lpO (fun _ _=>default) (zjs zaa)
def zlW (zaa:(Sl Gate)):Nat→Int→(Sl Int)→Bool:=lpO (fun _ _=>false) (zjt zaa)
def zAG (zaa:(Sl Gate)) (iv0:Int) (zbf:(Sl Int)):(Sl Int):=zlV zaa Fuel iv0 zbf
def zAH (zaa:(Sl Gate)) (iv0:Int) (zbf:(Sl Int)):Bool:=zlW zaa Fuel iv0 zbf
theorem zIc (hs:zAH zaa iv0 zbf=true) (hk:K (e61 (zAG zaa iv0 zbf))) (zhx:zcV=zg enc_3 zbf):z61 K [1,1,0,1,0] [] (zDN zaa iv0 zbf zcV) :=
  zl (fun X=>z61 K [1,1,0,1,0,0] [X]) (by kernel_rfl) fun X0 hX =>
  (show ∀ k, zLt K zaa X0 (zlW zaa k) (zlV zaa k) from zgs _ _ (zjt zaa) (zjs zaa) (zLt K zaa X0)
 (by intro _ _ _ hs;exact absurd hs Bool.false_ne_true)
 (by intro P0 S0 hX0 iv0 zbf zcV hs hk zhx;subst zhx;exact hX _ (zaH (by kernel_rfl) (zc hs hk (fun hs hk=>(zaE hs fun hc hs=>And.intro hc (zaE hs fun hc hs=>And.intro hc (hX0 hs hk (zh2 (enc:=enc_3) (f:=zbf.get) (h:=(fun _=>(zaa.get iv0.toNat).Z)) rfl rfl))))) (fun hs hk=>hk))))) _ hs hk zhx
def s61 (zaa:(Sl Gate)):(Sl Int) :=
  (zAG zaa (0:Int) (⟨0,(fun _=>default)⟩:Sl Int))
def p61 (zaa:(Sl Gate)):Bool :=
  (zAH zaa (0:Int) (⟨0,(fun _=>default)⟩:Sl Int))
end
theorem q61 (zaa:(Sl Gate)) (K:List PA→Prop) (hs:p61 zaa=true) (hk:K (e61 (s61 zaa))):vcFun Try.prog G61 zIb 61 [.one (.sl zaa.len 3 (fun i=>enc_55 (zaa.get i)))] K :=
  zaH (by kernel_rfl) (zIc hs hk rfl)
def zId : List PA → COut
  | [.one (.sl a0_n a0_s a0_g)]=>.det (IsE enc_55 3 a0_s a0_g∧p61 (⟨a0_n,zaf a0_g⟩:(Sl Gate))=true) [.one (.sl ((s61 (⟨a0_n,zaf a0_g⟩:(Sl Gate))).len) 1 (fun i=>enc_3 ((s61 (⟨a0_n,zaf a0_g⟩:(Sl Gate))).get i)))]
  | _=>.no
theorem zLu:zak Try.prog 61:=⟨_,rfl,rfl,by kernel_rfl⟩
theorem zQw:Ok Try.prog 61 zId:=zaU zN4 zLu fun args K h=>by
  unfold zId at h
  split at h
  · rename_i a0_n a0_s a0_g
    obtain ⟨⟨⟨rfl,a0_f,rfl⟩,hs⟩,hk⟩:=h
    try rw [zae a0_f] at hs
    try rw [zae a0_f] at hk
    exact ⟨(fun _ _=>[]),(fun _=>false),zIb,q61 (⟨a0_n,a0_f⟩:(Sl Gate)) K hs hk⟩
  · exact h.elim
end Go.Proofs
