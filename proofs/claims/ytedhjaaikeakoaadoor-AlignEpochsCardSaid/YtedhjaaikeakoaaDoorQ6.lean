/- Part 6 of what the proof rests on: a machine that runs functions of the program on pure values, proved sound; the functions that the law reaches, and what they compute. -/
import Derived.Test.YtedhjaaikeakoaaDoorQ5
import Derived.Test.YtedhjaaikeakoaaDoorProg
import Derived.Tactics
import Derived.Tactics2
import Derived.Recover
import Derived.RecoverIn
import Derived.TacticsInMore
import Derived.Test.YtedhjaaikeakoaaDoorTie
import Derived.ProofKit
import Derived.LaidMore
import Derived.OpenShut
import Derived.Stop.Joined
import Derived.Test.YtedhjaaikeakoaaDoorCards
import Derived.WalkKit
set_option linter.all false
namespace Go.Pm
open Go Go.Proofs
set_option maxRecDepth 100000
theorem zJe:∀ caps:Array Value,caps.size=2→zns Tryd.prog { target:=.fn (.func 68) caps,args:=#[] }:=fun caps hc=>by
 match caps,hc with
 | ⟨[x,y]⟩,_ =>
 refine ⟨.func 68,#[x,y],68,#[x,y],rfl,fun w=>?_,fun n w=>?_⟩
 ·have h : zax Tryd.prog 68 := ⟨_, rfl, rfl, by kernel_rfl⟩
  show (callFunc 68 (#[] ++ #[x,y])).run Tryd.prog w=_
  exact zcD h
 have key:CallsDIn { fn:=fun _=>True,depth:=none,alive:=false,round:=none } n Tryd.prog 68 #[x,y] .returning w fun e u' w'=>e=.returned (.tuple #[])∧u'=.returning∧w'=w:=by
  refine callsDIn_of_wpSIn Tryd.func68 rfl trivial fun c₀ cs hu=>?_
  apply wpSIn_seq
  apply wpSIn_region
  simp [wpOpsSIn,go_sem,recoverD,hu,Tryd.ntmps68,Exit.thenS]
  apply wpSIn_seq
  apply wpSIn_region
  simp [wpOpsSIn,go_sem,recoverD,hu,Tryd.ntmps68,Exit.thenS]
  refine wpSIn_cond (t:=false) (by simp [Act.eval,Array.replicate]) ?_
  simp only [Bool.false_eq_true,if_false]
  refine wpSIn_of_wpIn rfl (wpIn_skip ?_)
  cases c₀
  simp_all [bodyPostS,results,Tryd.results68]
 exact key.mono fun e u' w' h=>⟨⟨_,h.1⟩,h.2⟩
end Go.Pm
namespace Go.Proofs
open Go Go.Pm
set_option maxRecDepth 100000
set_option linter.unusedVariables false
attribute [local irreducible] Go.Pm.vcFun Go.Pm.vc Go.Pm.vcIter
abbrev T22:Tabs:=(((Tabs.nil.addF 67 zvH).addM 69 zI9).addF 70 zFG)
theorem zLc:TabsOk Tryd.prog T22:=(((TabsOk.nil.addF zKl).addM zM1).addF zM3)
abbrev G22:Ctrs:=csm T22 (fun _ _=>[]) (fun l=>Nat.beq l 12)
def zFH:Ann:=⟨29,[(0,zK [1,2,3] [1,2,3]),(1,zK [1,2,3,9] [1,2,3]),(2,zK [2,3] [2,3]),(3,zK [1,2,3] [1,2,3]),(4,zK [2,3,4] [2,3,12,14]),(5,zK [2,3,4,15] [2,3,12,14]),(6,zK [2,3,4,15,16] [2,3,12,14]),(7,zK [2,3,4,5,15] [2,3,12,14]),(8,zK [2,3,4,6,15] [2,3,12,14]),(9,zK [2,3,4,6,15,23] [2,3,12,14]),(10,zK [2,3] [2,3]),(11,zK [2,3,4,15] [2,3,12,14])],
 [(6,zK [2,3,4,15] [2,3,12,14])],
 [],
 [],[]⟩
abbrev R22:=((Sl Int)×Int)
abbrev e22 (r:R22):List PA:=[.one (.sl r.1.len 1 (fun i=>enc_3 (r.1.get i))),.one (.int .i64 r.2)]
@[irreducible] def z22:=ptF Tryd.prog G22 zFH Tryd.f22
def zDH (zbw:Int) (zbB:Int) (zbs:(Sl Tie)) (zbC:Nat) (zbD:(List Int→Option (List Int))) (zdN:Nat→List PV):St:=⟨[(2,zp 2 0),(3,zp 3 0),(4,zp 14 0),(15,zI zbw)],[(2,.box 27 [.p (.nils)]),(3,.box 28 [zi (0:Int)]),(12,.mo 3 4 (false,1,false,[none]) zbC zbD),(14,.box 105 [zi zbB,.p (.sl zbs.len 4 zdN),.mo 12])],[]⟩
abbrev zJf (K:List PA→Prop) (X:St→Prop) (P:Int→Int→(Sl Tie)→Nat→(List Int→Option (List Int))→Bool) (S:Int→Int→(Sl Tie)→Nat→(List Int→Option (List Int))→((Sl Int)×Int)):Prop:=∀ ⦃zbw:Int⦄ ⦃zbB:Int⦄ ⦃zbs:(Sl Tie)⦄ ⦃zbC:Nat⦄ ⦃zbD:(List Int→Option (List Int))⦄ ⦃zdN:Nat→List PV⦄,P zbw zbB zbs zbC zbD=true→K (e22 (S zbw zbB zbs zbC zbD))→zdN=zg zae zbs→X (zDH zbw zbB zbs zbC zbD zdN)
section
variable {K:List PA→Prop} {n:Net} {zbw:Int} {zbB:Int} {zbs:(Sl Tie)} {zbC:Nat} {zbD:(List Int→Option (List Int))} {zdN:Nat→List PV} {X0:St→Prop} {P0:Int→Int→(Sl Tie)→Nat→(List Int→Option (List Int))→Bool} {S0:Int→Int→(Sl Tie)→Nat→(List Int→Option (List Int))→((Sl Int)×Int)}
def zyS (S0:Int→Int→(Sl Tie)→Nat→(List Int→Option (List Int))→((Sl Int)×Int)) (zbw:Int) (zbB:Int) (zbs:(Sl Tie)) (zbC:Nat) (zbD:(List Int→Option (List Int))):((Sl Int)×Int) :=
  (cond (decide (zbw < (4:Int)))
 (cond (decide ((((s69 (⟨(⟨zbB, zbs⟩ : Net), (⟨zbC, zbD⟩ : Mp)⟩ : web) zbw).1).len : Int) > (0:Int)))
 ((s70 ((s69 (⟨(⟨zbB,zbs⟩:Net),(⟨zbC,zbD⟩:Mp)⟩:web) zbw).1)),(0:Int))
 (S0 (w64 (zbw+(1:Int))) (((s69 (⟨(⟨zbB,zbs⟩:Net),(⟨zbC,zbD⟩:Mp)⟩:web) zbw).2).Net.Nodes) (((s69 (⟨(⟨zbB,zbs⟩:Net),(⟨zbC,zbD⟩:Mp)⟩:web) zbw).2).Net.Ties) ((((s69 (⟨(⟨zbB,zbs⟩:Net),(⟨zbC,zbD⟩:Mp)⟩:web) zbw).2).out).n) ((((s69 (⟨(⟨zbB,zbs⟩:Net),(⟨zbC,zbD⟩:Mp)⟩:web) zbw).2).out).F)))
 default)
def zyT (P0:Int→Int→(Sl Tie)→Nat→(List Int→Option (List Int))→Bool) (zbw:Int) (zbB:Int) (zbs:(Sl Tie)) (zbC:Nat) (zbD:(List Int→Option (List Int))):Bool :=
  (cond (decide (zbw < (4:Int)))
 (decide ((p69 (⟨(⟨zbB,zbs⟩:Net),(⟨zbC,zbD⟩:Mp)⟩:web) zbw=true)) &&
 (cond (decide ((((s69 (⟨(⟨zbB, zbs⟩ : Net), (⟨zbC, zbD⟩ : Mp)⟩ : web) zbw).1).len : Int) > (0:Int)))
 (decide ((p70 ((s69 (⟨(⟨zbB,zbs⟩:Net),(⟨zbC,zbD⟩:Mp)⟩:web) zbw).1)=true)) &&
 true)
 (P0 (w64 (zbw+(1:Int))) (((s69 (⟨(⟨zbB,zbs⟩:Net),(⟨zbC,zbD⟩:Mp)⟩:web) zbw).2).Net.Nodes) (((s69 (⟨(⟨zbB,zbs⟩:Net),(⟨zbC,zbD⟩:Mp)⟩:web) zbw).2).Net.Ties) ((((s69 (⟨(⟨zbB,zbs⟩:Net),(⟨zbC,zbD⟩:Mp)⟩:web) zbw).2).out).n) ((((s69 (⟨(⟨zbB,zbs⟩:Net),(⟨zbC,zbD⟩:Mp)⟩:web) zbw).2).out).F))))
 false)
def zyU:Nat→Int→Int→(Sl Tie)→Nat→(List Int→Option (List Int))→((Sl Int)×Int):=lpO (fun _ _ _ _ _=>default) (zyS)
def zyV:Nat→Int→Int→(Sl Tie)→Nat→(List Int→Option (List Int))→Bool:=lpO (fun _ _ _ _ _=>false) (zyT)
def zyW (zbw:Int) (zbB:Int) (zbs:(Sl Tie)) (zbC:Nat) (zbD:(List Int→Option (List Int))):((Sl Int)×Int):=zyU Fuel zbw zbB zbs zbC zbD
def zyX (zbw:Int) (zbB:Int) (zbs:(Sl Tie)) (zbC:Nat) (zbD:(List Int→Option (List Int))):Bool:=zyV Fuel zbw zbB zbs zbC zbD
theorem zFI (hs:zyX zbw zbB zbs zbC zbD=true) (hk:K (e22 (zyW zbw zbB zbs zbC zbD))) (zlJ:zdN=zg zae zbs):z22 (Wk K) [1,1,1,1,0,1,0] [] (zDH zbw zbB zbs zbC zbD zdN) :=
  zl (fun X=>z22 (Wk K) [1,1,1,1,0,1,0,0] [X]) (by kernel_rfl) fun X0 hX =>
  (show ∀ k, zJf K X0 (zyV k) (zyU k) from zhs _ _ (zyT) (zyS) (zJf K X0)
 (by intro _ _ _ _ _ _ hs;exact absurd hs Bool.false_ne_true)
 (by intro P0 S0 hX0 zbw zbB zbs zbC zbD zdN hs hk zlJ;subst zlJ;exact hX _ (zbd (by kernel_rfl) (zc hs hk (fun hs hk=>(za6 hs fun hc hs=>And.intro (And.intro (zE zae 4 zbs.get) (And.intro (rfl:((false,1,false,[none]):MQ)=(false,1,false,[none])) hc)) (zc hs hk (fun hs hk=>(za6 hs fun hc hs=>And.intro (And.intro (zE zcu 1 (((s69 (⟨(⟨zbB,zbs⟩:Net),(⟨zbC,zbD⟩:Mp)⟩:web) zbw).1).get)) hc) ((zfS hk):Wk K [.one (.sl ((s70 ((s69 (⟨(⟨zbB,zbs⟩:Net),(⟨zbC,zbD⟩:Mp)⟩:web) zbw).1)).len) 1 (fun i=>enc_3 ((s70 ((s69 (⟨(⟨zbB,zbs⟩:Net),(⟨zbC,zbD⟩:Mp)⟩:web) zbw).1)).get i))),.one (.int .i64 (0:Int))]))) (fun hs hk=>(hX0 hs hk rfl))))) (fun hs hk=>(absurd hs Bool.false_ne_true:False)))))) _ hs hk zlJ
def s22 (n:Net):((Sl Int)×Int) :=
  (cond (!(s67 n))
 ((⟨0,fun _=>default⟩:(Sl Int)),(2:Int))
 (zyW (0:Int) n.Nodes n.Ties 0 (fun _=>none)))
def p22 (n:Net):Bool :=
  (decide ((p67 n=true)) &&
 (cond (!(s67 n))
 true
 (zyX (0:Int) n.Nodes n.Ties 0 (fun _=>none))))
end
theorem q22 (n:Net) (K:List PA→Prop) (hs:p22 n=true) (hk:K (e22 (s22 n))):zuX Tryd.prog G22 68 zFH 22 [.agg (enc_24 n)] (Wk K) :=
  zbd (by kernel_rfl) (za6 hs fun hc hs=>And.intro (And.intro (zE zae 4 n.Ties.get) hc) (zc hs hk (fun hs hk=>((wk hk (zcw (.one (.nil _ _)) (zcw (.one (.rfl _)) zeB))):Wk K [.one (.nils),.one (.int .i64 (2:Int))])) (fun hs hk=>(zFI hs hk rfl))))
def zFJ : List PA → COut
  | [.agg [.int .i64 zao,.sl zak zaV zaj]]=>.det (IsE zae 4 zaV zaj∧p22 (⟨zao,(⟨zak,zar zaj⟩:(Sl Tie))⟩:Net)=true) [.one (.sl (((s22 (⟨zao,(⟨zak,zar zaj⟩:(Sl Tie))⟩:Net)).1).len) 1 (fun i=>enc_3 (((s22 (⟨zao,(⟨zak,zar zaj⟩:(Sl Tie))⟩:Net)).1).get i))),.one (.int .i64 ((s22 (⟨zao,(⟨zak,zar zaj⟩:(Sl Tie))⟩:Net)).2))]
  | _=>.no
theorem zJg:zax Tryd.prog 22:=⟨_,rfl,rfl,by kernel_rfl⟩
theorem zM4:Ok Tryd.prog 22 zFJ:=zCK zLc zJg zJe fun args K h=>by
  unfold zFJ at h
  split at h
  · rename_i zao zak zaV zaj
    obtain ⟨⟨⟨rfl,zaL,rfl⟩,hs⟩,hk⟩:=h
    try rw [zau zaL] at hs
    try rw [zau zaL] at hk
    exact ⟨_,zff zfR _,(fun _ _=>[]),(fun l=>Nat.beq l 12),zFH,q22 (⟨zao,(⟨zak,zaL⟩:(Sl Tie))⟩:Net) K hs hk⟩
  · exact h.elim
abbrev T25:Tabs:=Tabs.nil
theorem zLd:TabsOk Tryd.prog T25:=TabsOk.nil
abbrev G25:Ctrs:=csm T25 (fun _ _=>[]) (fun _=>false)
def zFK:Ann:=⟨26,[(0,zK [0,1] []),(1,zK [0,1,10] []),(2,zK [4] []),(3,zK [0,1,5] []),(4,zK [0,1,5,14] []),(5,zK [0,1,5] []),(6,zK [0,1,5,25] []),(7,zK [4] []),(8,zK [4] [])],
 [(4,zK [0,1,5] [])],
 [(3,zK [0,1] [])],
 [],[]⟩
abbrev R25:=Bool
abbrev e25 (r:R25):List PA:=[.one (.bool r)]
@[irreducible] def z25:=ptF Tryd.prog G25 zFK Tryd.f25
def zDI (a:(Sl Int)) (b:(Sl Int)) (iv1:Int):St:=⟨[(0,zS enc_3 1 a),(1,zS enc_3 1 b),(5,zI iv1)],[],[]⟩
abbrev zJh (K:List PA→Prop) (a:(Sl Int)) (b:(Sl Int)) (X:St→Prop) (P:Int→Bool) (S:Int→Bool):Prop:=∀ ⦃iv1:Int⦄,P iv1=true→K (e25 (S iv1))→X (zDI a b iv1)
section
variable {K:List PA→Prop} {a:(Sl Int)} {b:(Sl Int)} {iv1:Int} {X1:St→Prop} {P1:Int→Bool} {S1:Int→Bool}
def zyY (a:(Sl Int)) (b:(Sl Int)) (S1:Int→Bool) (iv1:Int):Bool :=
  (cond (decide (iv1 < (a.len : Int)))
 (cond ((a.get iv1.toNat) != (b.get iv1.toNat))
 false
 (S1 (w64 (iv1+(1:Int)))))
 true)
def zyZ (a:(Sl Int)) (b:(Sl Int)) (P1:Int→Bool) (iv1:Int):Bool :=
  (cond (decide (iv1 < (a.len : Int)))
 (decide ((0≤iv1∧iv1 < (a.len:Int))) &&
 (decide ((0≤iv1∧iv1 < (b.len:Int))) &&
 (cond ((a.get iv1.toNat) != (b.get iv1.toNat))
 true
 (P1 (w64 (iv1+(1:Int)))))))
 true)
def zy0 (a:(Sl Int)) (b:(Sl Int)):Nat→Int→Bool:=lpO (fun _=>default) (zyY a b)
def zy1 (a:(Sl Int)) (b:(Sl Int)):Nat→Int→Bool:=lpO (fun _=>false) (zyZ a b)
def zy2 (a:(Sl Int)) (b:(Sl Int)) (iv1:Int):Bool:=zy0 a b Fuel iv1
def zy3 (a:(Sl Int)) (b:(Sl Int)) (iv1:Int):Bool:=zy1 a b Fuel iv1
theorem zFL (hs:zy3 a b iv1=true) (hk:K (e25 (zy2 a b iv1))):z25 K [1,1,0,1,0] [] (zDI a b iv1) :=
  zl (fun X=>z25 K [1,1,0,1,0,0] [X]) (by kernel_rfl) fun X1 hX =>
  (show ∀ k, zJh K a b X1 (zy1 a b k) (zy0 a b k) from zhs _ _ (zyZ a b) (zyY a b) (zJh K a b X1)
 (by intro _ hs;exact absurd hs Bool.false_ne_true)
 (by intro P1 S1 hX1 iv1 hs hk;exact hX _ (zbd (by kernel_rfl) (zc hs hk (fun hs hk=>(za6 hs fun hc hs=>And.intro hc (za6 hs fun hc hs=>And.intro hc (zc hs hk (fun hs hk=>hk) (fun hs hk=>(hX1 hs hk)))))) (fun hs hk=>hk))))) _ hs hk
def zy4 (a:(Sl Int)) (b:(Sl Int)):Bool :=
  (zy2 a b (0:Int))
def zy5 (a:(Sl Int)) (b:(Sl Int)):Bool :=
  (zy3 a b (0:Int))
theorem zFM (hs:zy5 a b=true) (hk:K (e25 (zy4 a b))):z25 K [1,1] [] ⟨[(0,zS enc_3 1 a),(1,zS enc_3 1 b)],[],[]⟩:=zbd (by kernel_rfl) (zFL hs hk)
def s25 (a:(Sl Int)) (b:(Sl Int)):Bool :=
  (cond ((a.len : Int) != (b.len : Int))
 false
 (zy4 a b))
def p25 (a:(Sl Int)) (b:(Sl Int)):Bool :=
  (cond ((a.len : Int) != (b.len : Int))
 true
 (zy5 a b))
end
theorem q25 (a:(Sl Int)) (b:(Sl Int)) (K:List PA→Prop) (hs:p25 a b=true) (hk:K (e25 (s25 a b))):vcFun Tryd.prog G25 zFK 25 [.one (.sl a.len 1 (fun i=>enc_3 (a.get i))),.one (.sl b.len 1 (fun i=>enc_3 (b.get i)))] K :=
  zbd (by kernel_rfl) (zc hs hk (fun hs hk=>hk) (fun hs hk=>(zFM hs hk)))
def zFN : List PA → COut
  | [.one (.sl zdw zii zdx),.one (.sl zdH ziO zdE)]=>.det (IsE enc_3 1 zii zdx∧IsE enc_3 1 ziO zdE∧p25 (⟨zdw,zav zdx⟩:(Sl Int)) (⟨zdH,zav zdE⟩:(Sl Int))=true) [.one (.bool (s25 (⟨zdw,zav zdx⟩:(Sl Int)) (⟨zdH,zav zdE⟩:(Sl Int))))]
  | _=>.no
theorem zJi:zax Tryd.prog 25:=⟨_,rfl,rfl,by kernel_rfl⟩
theorem zM5:Ok Tryd.prog 25 zFN:=zbY zLd zJi fun args K h=>by
  unfold zFN at h
  split at h
  · rename_i zdw zii zdx zdH ziO zdE
    obtain ⟨⟨⟨rfl,zfx,rfl⟩,⟨rfl,zgo,rfl⟩,hs⟩,hk⟩:=h
    try rw [zby zfx] at hs
    try rw [zby zfx] at hk
    try rw [zby zgo] at hs
    try rw [zby zgo] at hk
    exact ⟨(fun _ _=>[]),(fun _=>false),zFK,q25 (⟨zdw,zfx⟩:(Sl Int)) (⟨zdH,zgo⟩:(Sl Int)) K hs hk⟩
  · exact h.elim
abbrev T74:Tabs:=(((Tabs.nil.addF 67 zvH).addF 81 zvG).addF 88 zxR)
theorem zLe:TabsOk Tryd.prog T74:=(((TabsOk.nil.addF zKl).addF zKk).addF zKQ)
abbrev G74:Ctrs:=csm T74 (fun _ _=>[]) (fun _=>false)
def zCL:Ann:=⟨31,[(0,zK [1,2] [2]),(1,zK [1,2,6] [2,11]),(2,zK [1,2,6,14] [2,11]),(3,zK [4,5] []),(4,zK [2,6,15,16,17] [2,11]),(5,zK [2,6,15,16,17,18] [2,11]),(6,zK [2,6,8,15,16,17] [2,11]),(7,zK [2,6,15,16,17,26] [2,11]),(8,zK [4,5] []),(9,zK [2,6,15,16,17] [2,11]),(10,zK [6,29] [11]),(11,zK [4,5] []),(12,zK [4,5] [11])],
 [(5,zK [2,6,15,16,17] [2,11])],
 [(3,zK [1,2,6,14] [2,11]),(4,zK [1,2,6] [2,11]),(8,zK [2,6,15,16,17,26] [2,11]),(11,zK [6,29] [11])],
 [],[]⟩
abbrev R74:=(web×Int)
abbrev e74 (r:R74):List PA:=cond (r.2 == 0) [.one (.fp (zaC r.1) 0),.one (.int .i64 (0:Int))] [.one (.nilp),.one (.int .i64 r.2)]
@[irreducible] def z74:=ptF Tryd.prog G74 zCL Tryd.f74
def zDJ (n:Net) (nodes:(Sl Int)) (zeb:Int):St:=⟨[(2,zp 2 0),(6,zp 11 0),(15,zS enc_3 1 nodes),(16,zI (nodes.len:Int)),(17,zI zeb)],[(2,.box 24 (zm (enc_24 n))),(11,.box 105 (zm (zaC (⟨n,(⟨0,(fun _=>none)⟩:Mp)⟩:web))))],[]⟩
abbrev zFO (K:List PA→Prop) (n:Net) (nodes:(Sl Int)) (X:St→Prop) (P:Int→Bool) (S:Int→(web×Int)):Prop:=∀ ⦃zeb:Int⦄,P zeb=true→K (e74 (S zeb))→X (zDJ n nodes zeb)
section
variable {K:List PA→Prop} {n:Net} {nodes:(Sl Int)} {zsi:Bool} {zeb:Int} {X2:St→Prop} {P2:Int→Bool} {S2:Int→(web×Int)} {zsj:Int} {zsk:Bool} {zCM:Bool}
def zy6 (n:Net) (zCM:Bool):(web×Int) :=
  (cond zCM
 ((default:web),(5:Int))
 ((⟨n,(⟨0,(fun _=>none)⟩:Mp)⟩:web),(0:Int)))
theorem zFP (hk:K (e74 (zy6 n zCM))):z74 K [1,1,1,1,0,1] [] ⟨[(6,zp 11 0),(29,zB zCM)],[(11,.box 105 (zm (zaC (⟨n,(⟨0,(fun _=>none)⟩:Mp)⟩:web))))],[]⟩:=zbd (by kernel_rfl) (zt hk (fun hk=>hk) (fun hk=>hk))
def zy7 (S2:Int→(web×Int)) (n:Net) (nodes:(Sl Int)) (zsj:Int) (zsk:Bool):(web×Int) :=
  (cond zsk
 ((default:web),(2:Int))
 (S2 (w64 (zsj+(1:Int)))))
def zy8 (P2:Int→Bool) (n:Net) (nodes:(Sl Int)) (zsj:Int) (zsk:Bool):Bool :=
  (cond zsk
 true
 (P2 (w64 (zsj+(1:Int)))))
theorem zFQ (hX2:zFO K n nodes X2 P2 S2) (hs:zy8 P2 n nodes zsj zsk=true) (hk:K (e74 (zy7 S2 n nodes zsj zsk))):z74 K [1,1,1,0,1,0,0,1,1,0,0,1,1] [X2] ⟨[(2,zp 2 0),(6,zp 11 0),(15,zS enc_3 1 nodes),(16,zI (nodes.len:Int)),(17,zI zsj),(26,zB zsk)],[(2,.box 24 (zm (enc_24 n))),(11,.box 105 (zm (zaC (⟨n,(⟨0,(fun _=>none)⟩:Mp)⟩:web))))],[]⟩:=zbd (by kernel_rfl) (zc hs hk (fun hs hk=>hk) (fun hs hk=>(hX2 hs hk)))
def zy9 (n:Net) (nodes:(Sl Int)) (S2:Int→(web×Int)) (zeb:Int):(web×Int) :=
  (cond (decide (zeb < (nodes.len : Int)))
 (zy7 S2 n nodes zeb (!(s81 (nodes.get zeb.toNat) (0:Int) (w64 (n.Nodes - (1:Int))))))
 (zy6 n (s88 (⟨n,(⟨0,(fun _=>none)⟩:Mp)⟩:web))))
def zza (n:Net) (nodes:(Sl Int)) (P2:Int→Bool) (zeb:Int):Bool :=
  (cond (decide (zeb < (nodes.len : Int)))
 (decide ((0≤zeb∧zeb < (nodes.len:Int))) &&
 (zy8 P2 n nodes zeb (!(s81 (nodes.get zeb.toNat) (0:Int) (w64 (n.Nodes - (1:Int)))))))
 (decide ((p88 (⟨n,(⟨0,(fun _=>none)⟩:Mp)⟩:web)=true)) &&
 true))
def zzb (n:Net) (nodes:(Sl Int)):Nat→Int→(web×Int):=lpO (fun _=>default) (zy9 n nodes)
def zzc (n:Net) (nodes:(Sl Int)):Nat→Int→Bool:=lpO (fun _=>false) (zza n nodes)
def zzd (n:Net) (nodes:(Sl Int)) (zeb:Int):(web×Int):=zzb n nodes Fuel zeb
def zze (n:Net) (nodes:(Sl Int)) (zeb:Int):Bool:=zzc n nodes Fuel zeb
theorem zFR (hs:zze n nodes zeb=true) (hk:K (e74 (zzd n nodes zeb))):z74 K [1,1,1,0,1,0] [] (zDJ n nodes zeb) :=
  zl (fun X=>z74 K [1,1,1,0,1,0,0] [X]) (by kernel_rfl) fun X2 hX =>
  (show ∀ k, zFO K n nodes X2 (zzc n nodes k) (zzb n nodes k) from zhs _ _ (zza n nodes) (zy9 n nodes) (zFO K n nodes X2)
 (by intro _ hs;exact absurd hs Bool.false_ne_true)
 (by intro P2 S2 hX2 zeb hs hk;exact hX _ (zbd (by kernel_rfl) (zc hs hk (fun hs hk=>(za6 hs fun hc hs=>And.intro hc (zFQ hX2 hs hk))) (fun hs hk=>(za6 hs fun hc hs=>And.intro (And.intro (zE zae 4 n.Ties.get) (And.intro (rfl:((false,1,false,[none]):MQ)=(false,1,false,[none])) hc)) (zFP hk))))))) _ hs hk
def zzf (n:Net) (nodes:(Sl Int)):(web×Int) :=
  (zzd n nodes (0:Int))
def zzg (n:Net) (nodes:(Sl Int)):Bool :=
  (zze n nodes (0:Int))
theorem zFS (hs:zzg n nodes=true) (hk:K (e74 (zzf n nodes))):z74 K [1,1,1] [] ⟨[(1,zS enc_3 1 nodes),(2,zp 2 0),(6,zp 11 0)],[(2,.box 24 (zm (enc_24 n))),(11,.box 105 (zm (zaC (⟨n,(⟨0,(fun _=>none)⟩:Mp)⟩:web))))],[]⟩:=zbd (by kernel_rfl) (zFR hs hk)
def zzh (n:Net) (nodes:(Sl Int)) (zsi:Bool):(web×Int) :=
  (cond zsi
 ((default:web),(2:Int))
 (zzf n nodes))
def zzi (n:Net) (nodes:(Sl Int)) (zsi:Bool):Bool :=
  (cond zsi
 true
 (zzg n nodes))
theorem zFT (hs:zzi n nodes zsi=true) (hk:K (e74 (zzh n nodes zsi))):z74 K [1,1,0,1] [] ⟨[(1,zS enc_3 1 nodes),(2,zp 2 0),(6,zp 11 0),(14,zB zsi)],[(2,.box 24 (zm (enc_24 n))),(11,.box 105 (zm (zaC (⟨n,(⟨0,(fun _=>none)⟩:Mp)⟩:web))))],[]⟩:=zbd (by kernel_rfl) (zc hs hk (fun hs hk=>hk) (fun hs hk=>(zFS hs hk)))
def s74 (n:Net) (nodes:(Sl Int)):(web×Int) :=
  (zzh n nodes (!(s67 n)))
def p74 (n:Net) (nodes:(Sl Int)):Bool :=
  (decide ((p67 n=true)) &&
 (zzi n nodes (!(s67 n))))
end
theorem q74 (n:Net) (nodes:(Sl Int)) (K:List PA→Prop) (hs:p74 n nodes=true) (hk:K (e74 (s74 n nodes))):vcFun Tryd.prog G74 zCL 74 [.agg (enc_24 n),.one (.sl nodes.len 1 (fun i=>enc_3 (nodes.get i)))] K :=
  zbd (by kernel_rfl) (za6 hs fun hc hs=>And.intro (And.intro (zE zae 4 n.Ties.get) hc) (zFT hs hk))
def zzj : List PA → COut
  | [.agg [.int .i64 zao,.sl zak zaV zaj],.one (.sl zdH ziO zdE)]=>.alt ((s74 (⟨zao,(⟨zak,zar zaj⟩:(Sl Tie))⟩:Net) (⟨zdH,zav zdE⟩:(Sl Int))).2 == 0) (IsE zae 4 zaV zaj∧IsE enc_3 1 ziO zdE∧p74 (⟨zao,(⟨zak,zar zaj⟩:(Sl Tie))⟩:Net) (⟨zdH,zav zdE⟩:(Sl Int))=true) [.one (.fp (zaC (⟨(s74 (⟨zao,(⟨zak,zar zaj⟩:(Sl Tie))⟩:Net) (⟨zdH,zav zdE⟩:(Sl Int))).1.Net,((s74 (⟨zao,(⟨zak,zar zaj⟩:(Sl Tie))⟩:Net) (⟨zdH,zav zdE⟩:(Sl Int))).1.out)⟩:web)) 0),.one (.int .i64 (0:Int))] (IsE zae 4 zaV zaj∧IsE enc_3 1 ziO zdE∧p74 (⟨zao,(⟨zak,zar zaj⟩:(Sl Tie))⟩:Net) (⟨zdH,zav zdE⟩:(Sl Int))=true) [.one (.nilp),.one (.int .i64 ((s74 (⟨zao,(⟨zak,zar zaj⟩:(Sl Tie))⟩:Net) (⟨zdH,zav zdE⟩:(Sl Int))).2))]
  | [.agg [.int .i64 zao,.sl zak zaV zaj],.one (.nils)]=>.alt ((s74 (⟨zao,(⟨zak,zar zaj⟩:(Sl Tie))⟩:Net) (⟨0,fun _=>default⟩:(Sl Int))).2 == 0) (IsE zae 4 zaV zaj∧p74 (⟨zao,(⟨zak,zar zaj⟩:(Sl Tie))⟩:Net) (⟨0,fun _=>default⟩:(Sl Int))=true) [.one (.fp (zaC (⟨(s74 (⟨zao,(⟨zak,zar zaj⟩:(Sl Tie))⟩:Net) (⟨0,fun _=>default⟩:(Sl Int))).1.Net,((s74 (⟨zao,(⟨zak,zar zaj⟩:(Sl Tie))⟩:Net) (⟨0,fun _=>default⟩:(Sl Int))).1.out)⟩:web)) 0),.one (.int .i64 (0:Int))] (IsE zae 4 zaV zaj∧p74 (⟨zao,(⟨zak,zar zaj⟩:(Sl Tie))⟩:Net) (⟨0,fun _=>default⟩:(Sl Int))=true) [.one (.nilp),.one (.int .i64 ((s74 (⟨zao,(⟨zak,zar zaj⟩:(Sl Tie))⟩:Net) (⟨0,fun _=>default⟩:(Sl Int))).2))]
  | _=>.no
theorem zJj:zax Tryd.prog 74:=⟨_,rfl,rfl,by kernel_rfl⟩
theorem zLf:Ok Tryd.prog 74 zzj:=zgf zLe zJj fun args K h=>by
  unfold zzj at h
  split at h
  · rename_i zao zak zaV zaj zdH ziO zdE
    have h:=zIp h
    obtain ⟨⟨⟨rfl,zaL,rfl⟩,⟨rfl,zgo,rfl⟩,hs⟩,hk⟩:=h
    try rw [zau zaL] at hs
    try rw [zau zaL] at hk
    try rw [zby zgo] at hs
    try rw [zby zgo] at hk
    exact ⟨_,zff zfR _,(fun _ _=>[]),(fun _=>false),zCL,q74 (⟨zao,(⟨zak,zaL⟩:(Sl Tie))⟩:Net) (⟨zdH,zgo⟩:(Sl Int)) (Wk K) hs (zfS hk)⟩
  · rename_i zao zak zaV zaj
    have h:=zIp h
    obtain ⟨⟨⟨rfl,zaL,rfl⟩,hs⟩,hk⟩:=h
    try rw [zau zaL] at hs
    try rw [zau zaL] at hk
    exact ⟨_,(zcw (zfR _) (zcw (.one (.nil _ _)) zeB)),(fun _ _=>[]),(fun _=>false),zCL,q74 (⟨zao,(⟨zak,zaL⟩:(Sl Tie))⟩:Net) (⟨0,fun _=>default⟩:(Sl Int)) (Wk K) hs (zfS hk)⟩
  · exact h.elim
abbrev T75:Tabs:=(((Tabs.nil.addF 93 zpV).addF 104 zp1).addI 110 zpX)
theorem zLg:TabsOk Tryd.prog T75:=(((TabsOk.nil.addF zHJ).addF zE5).addI zvJ)
abbrev G75:Ctrs:=csm T75 (fun _ _=>[]) (fun _=>false)
def zcM:Ann:=⟨66,[(0,zK [0,1,4] [4]),(1,zK [0,1,4,5] [4,5]),(2,zK [0,1,4,5,10] [4,5]),(3,zK [0,1,4,5,10,11] [4,5]),(4,zK [0,1,4,5,6,10] [4,5]),(5,zK [0,1,4,5,10] [4,5]),(6,zK [0,1,4,5,10] [4,5]),(7,zK [0,4,5] [4,5]),(8,zK [0,4,5,7] [4,5,7]),(9,zK [0,4,5,7,20] [4,5,7]),(10,zK [0,4,5,7] [4,5,7]),(11,zK [0,4,5,7,22] [4,5,7]),(12,zK [0,4,5,7,8,22] [4,5,7,8]),(13,zK [0,4,5,7,8,22,29] [4,5,7,8]),(14,zK [0,4,5,7,8,9,22] [4,5,7,8,9]),(15,zK [0,4,5,7,8,9,22] [4,5,7,8,9]),(16,zK [0,4,5,7,22] [4,5,7]),(17,zK [0,4,5,64] [4,5]),(18,zK [0,4,5,7] [4,5,7]),(19,zK [4] [4])],
 [(3,zK [0,1,4,5,10] [4,5]),(9,zK [0,4,5,7] [4,5,7]),(12,zK [0,4,5,7,22] [4,5,7])],
 [(7,zK [0,1,4,5] [4,5])],
 [],[]⟩
def zlK (w:web) (node:Int) (zaJ:Int) (t4t0:Tab) (dt0:Tab):St:=⟨[(0,.one (.c (.p (.fp (zaC w) 0)))),(1,.one (.c (.p (.int .i64 node)))),(4,.one (.c (.ptr 4 0))),(5,.one (.c (.ptr 5 0))),(10,.one (.c (.p (.int .i64 zaJ))))],[(4,.box 116 (zm (zac t4t0))),(5,.box 116 (zm (zac dt0)))],[]⟩
def zlL (K:List PA→Prop) (w:web) (node:Int) (zaJ:Int) (t4t0:Tab) (dt0:Tab):Prop:=vc Tryd.prog G75 zcM (cdF Tryd.f75 [1,1,0,1,0]) (zai 0 (sqK Tryd.prog G75 zcM (cdF Tryd.f75 [1,1,1]) (zbo Tryd.prog Tryd.f75 K))) (zlK w node zaJ t4t0 dt0)
def zJk (w:web) (node:Int) (t4t1:Tab) (dt1:Tab):St:=⟨[(0,.one (.c (.p (.fp (zaC w) 0)))),(1,.one (.c (.p (.int .i64 node)))),(4,.one (.c (.ptr 4 0))),(5,.one (.c (.ptr 5 0)))],[(4,.box 116 (zm (zac t4t1))),(5,.box 116 (zm (zac dt1)))],[]⟩
def zou (K:List PA→Prop) (w:web) (node:Int) (t4t1:Tab) (dt1:Tab):Prop:=vc Tryd.prog G75 zcM (cdF Tryd.f75 [1,1,1]) (zbo Tryd.prog Tryd.f75 K) (zJk w node t4t1 dt1)
def zjA (w:web) (zah:Bool) (t4t2:Tab) (dt2:Tab):St:=⟨[(0,.one (.c (.p (.fp (zaC w) 0)))),(4,.one (.c (.ptr 4 0))),(5,.one (.c (.ptr 5 0))),(7,.one (.c (.ptr 7 0)))],[(4,.box 116 (zm (zac t4t2))),(5,.box 116 (zm (zac dt2))),(7,.box 4 [.p (.bool zah)])],[]⟩
def zlM (K:List PA→Prop) (w:web) (zah:Bool) (t4t2:Tab) (dt2:Tab):Prop:=vc Tryd.prog G75 zcM (cdF Tryd.f75 [1,1,1,1,0,1,0]) (zai 2 (sqK Tryd.prog G75 zcM (cdF Tryd.f75 [1,1,1,1,1]) (zbo Tryd.prog Tryd.f75 K))) (zjA w zah t4t2 dt2)
def zgx (w:web) (zab:Bool) (t4t3:Tab) (dt3:Tab):St:=⟨[(0,.one (.c (.p (.fp (zaC w) 0)))),(4,.one (.c (.ptr 4 0))),(5,.one (.c (.ptr 5 0))),(7,.one (.c (.ptr 7 0))),(22,.one (.c (.p (.fn 110 [] [.fp [.fp (zaC w) 0] 0]))))],[(4,.box 116 (zm (zac t4t3))),(5,.box 116 (zm (zac dt3))),(7,.box 4 [.p (.bool zab)])],[]⟩
def zlN (K:List PA→Prop) (X2:St→Prop) (w:web) (zab:Bool) (t4t3:Tab) (dt3:Tab):Prop:=vc Tryd.prog G75 zcM (cdF Tryd.f75 [1,1,1,1,0,1,0,0,1,0,0,1,1,0]) (zai 4 (zai 3 (sqK Tryd.prog G75 zcM (cdF Tryd.f75 [1,1,1,1,0,1,0,0,1,1]) (zbp Tryd.prog zcM 9 X2 (zai 2 (sqK Tryd.prog G75 zcM (cdF Tryd.f75 [1,1,1,1,1]) (zbo Tryd.prog Tryd.f75 K))))))) (zgx w zab t4t3 dt3)
theorem zFU (w : web) (node : Int) (K : List PA → Prop) :
  vcFun Tryd.prog G75 zcM 75 [.one (.fp (zaC w) 0),.one (.int .i64 node)] K =
  (zlL K w node (0:Int) (fun _=>(0:Int)) (fun _=>(0:Int))):=by kernel_rfl
def zqq (K:List PA→Prop) (X0:St→Prop) (w:web) (node:Int) (zaJ:Int) (t4t0:Tab) (dt0:Tab):Prop :=
  (zbV (decide (zaJ < (40:Int)))
 (((0≤zaJ∧zaJ < (40:Int))) ∧
 (X0 (zlK w node (w64 (zaJ+(1:Int))) t4t0 (ts 80 dt0 (0+zaJ.toNat * 2+0) [(1000000000000:Int),(0:Int)]))))
 (zou K w node t4t0 dt0))
theorem zsl (K : List PA → Prop) (X0 : St → Prop) (w : web) (node : Int) (zaJ : Int) (t4t0 : Tab) (dt0 : Tab) :
  vc Tryd.prog G75 zcM (cd (cdF Tryd.f75 [1,1,0,1,0]) [0]) (zbp Tryd.prog zcM 3 X0 (zai 0 (sqK Tryd.prog G75 zcM (cdF Tryd.f75 [1,1,1]) (zbo Tryd.prog Tryd.f75 K)))) (zlK w node zaJ t4t0 dt0) =
  zqq K X0 w node zaJ t4t0 dt0:=by kernel_rfl
theorem zzk (K : List PA → Prop) (w : web) (node : Int) (zaJ : Int) (t4t0 : Tab) (dt0 : Tab)
  (h:∀ X0:St→Prop,(∀ (zaJ:Int) (t4t0:Tab) (dt0:Tab),zqq K X0 w node zaJ t4t0 dt0→X0 (zlK w node zaJ t4t0 dt0))→X0 (zlK w node zaJ t4t0 dt0)) :
  zlL K w node zaJ t4t0 dt0:=by
  have e:zlL K w node zaJ t4t0 dt0=(∀ X:St→Prop,(∀ s,vc Tryd.prog G75 zcM (cd (cdF Tryd.f75 [1,1,0,1,0]) [0]) (zbp Tryd.prog zcM 3 X (zai 0 (sqK Tryd.prog G75 zcM (cdF Tryd.f75 [1,1,1]) (zbo Tryd.prog Tryd.f75 K)))) s→X s)→X (zlK w node zaJ t4t0 dt0)):=by kernel_rfl
  refine zbd e ?_
  intro X hX
  refine h X ?_
  intro zaJ t4t0 dt0 hs
  refine hX _ ?_
  have e2:=zsl K X w node zaJ t4t0 dt0
  rw [e2]
  exact hs
theorem zFV (K : List PA → Prop) (w : web) (node : Int) (t4t1 : Tab) (dt1 : Tab) :
  zou K w node t4t1 dt1 =
  (((0≤node∧node < (40:Int))) ∧
 (zlM K w true t4t1 (ts 80 dt1 (0+node.toNat * 2+0) [(0:Int),(0:Int)]))):=by kernel_rfl
def zqr (K:List PA→Prop) (X2:St→Prop) (w:web) (zah:Bool) (t4t2:Tab) (dt2:Tab):Prop :=
  (zbV zah
 ((IsE zae 4 4 (fun i=>zae (w.Net.Ties.get i))∧((false,1,false,[none]):MQ)=(false,1,false,[none])) ∧
 (zlN K X2 w false t4t2 dt2))
 (K [.agg (zac dt2)]))
theorem zsm (K : List PA → Prop) (X2 : St → Prop) (w : web) (zah : Bool) (t4t2 : Tab) (dt2 : Tab) :
  vc Tryd.prog G75 zcM (cd (cdF Tryd.f75 [1,1,1,1,0,1,0]) [0]) (zbp Tryd.prog zcM 9 X2 (zai 2 (sqK Tryd.prog G75 zcM (cdF Tryd.f75 [1,1,1,1,1]) (zbo Tryd.prog Tryd.f75 K)))) (zjA w zah t4t2 dt2) =
  zqr K X2 w zah t4t2 dt2:=by kernel_rfl
theorem zzl (K : List PA → Prop) (w : web) (zah : Bool) (t4t2 : Tab) (dt2 : Tab)
  (h:∀ X2:St→Prop,(∀ (zah:Bool) (t4t2:Tab) (dt2:Tab),zqr K X2 w zah t4t2 dt2→X2 (zjA w zah t4t2 dt2))→X2 (zjA w zah t4t2 dt2)) :
  zlM K w zah t4t2 dt2:=by
  have e:zlM K w zah t4t2 dt2=(∀ X:St→Prop,(∀ s,vc Tryd.prog G75 zcM (cd (cdF Tryd.f75 [1,1,1,1,0,1,0]) [0]) (zbp Tryd.prog zcM 9 X (zai 2 (sqK Tryd.prog G75 zcM (cdF Tryd.f75 [1,1,1,1,1]) (zbo Tryd.prog Tryd.f75 K)))) s→X s)→X (zjA w zah t4t2 dt2)):=by kernel_rfl
  refine zbd e ?_
  intro X hX
  refine h X ?_
  intro zah t4t2 dt2 hs
  refine hX _ ?_
  have e2:=zsm K X w zah t4t2 dt2
  rw [e2]
  exact hs
def zqs (K:List PA→Prop) (X2:St→Prop) (w:web) (zab:Bool) (t4t3:Tab) (dt3:Tab):Prop :=
  (X2 (zjA w zab t4t3 dt3))
def zqu (K:List PA→Prop) (X2:St→Prop) (X3:List (List PA)→St→Prop) (y3:step) (rest3:List (List PA)) (w:web) (zab:Bool) (t4t3:Tab) (dt3:Tab):Prop :=
  (((0≤y3.to∧y3.to < (40:Int))) ∧
 (zbV (nvr (tL dt3 y3.to) (tU dt3 y3.to))
 (X3 rest3 (zgx w zab t4t3 dt3))
 (((0≤y3.from_∧y3.from_ < (40:Int))) ∧
 (((0≤y3.to∧y3.to < (40:Int))) ∧
 (((0≤y3.to∧y3.to < (40:Int))) ∧
 ((IsE zcI 2 2 (fun _=>(zcI (⟨(w64 ((tL dt3 y3.to)+y3.length)),(w64 ((tV dt3 y3.to)+(1:Int)))⟩:far)))∧(zDu (⟨(tL dt3 y3.from_),(tU dt3 y3.from_)⟩:far) (⟨1,fun _=>(⟨(w64 ((tL dt3 y3.to)+y3.length)),(w64 ((tV dt3 y3.to)+(1:Int)))⟩:far)⟩:(Sl far))=true)) ∧
 (zbV zab
 (((0≤y3.from_∧y3.from_ < (40:Int))) ∧
 (X3 rest3 (zgx w true t4t3 (ts 80 dt3 (0+y3.from_.toNat * 2+0) [(zdb (⟨(tL dt3 y3.from_),(tU dt3 y3.from_)⟩:far) (⟨1,fun _=>(⟨(w64 ((tL dt3 y3.to)+y3.length)),(w64 ((tV dt3 y3.to)+(1:Int)))⟩:far)⟩:(Sl far))).length,(zdb (⟨(tL dt3 y3.from_),(tU dt3 y3.from_)⟩:far) (⟨1,fun _=>(⟨(w64 ((tL dt3 y3.to)+y3.length)),(w64 ((tV dt3 y3.to)+(1:Int)))⟩:far)⟩:(Sl far))).uses]))))
 (((0≤y3.from_∧y3.from_ < (40:Int))) ∧
 (((0≤y3.from_∧y3.from_ < (40:Int))) ∧
 (X3 rest3 (zgx w (!(match ((zdb (⟨(tL dt3 y3.from_),(tU dt3 y3.from_)⟩:far) (⟨1,fun _=>(⟨(w64 ((tL dt3 y3.to)+y3.length)),(w64 ((tV dt3 y3.to)+(1:Int)))⟩:far)⟩:(Sl far))).length == (tL dt3 y3.from_)) with | true=>(match ((zdb (⟨(tL dt3 y3.from_),(tU dt3 y3.from_)⟩:far) (⟨1,fun _=>(⟨(w64 ((tL dt3 y3.to)+y3.length)),(w64 ((tV dt3 y3.to)+(1:Int)))⟩:far)⟩:(Sl far))).uses == (tU dt3 y3.from_)) with | true=>true | false=>false) | false=>false)) t4t3 (ts 80 dt3 (0+y3.from_.toNat * 2+0) [(zdb (⟨(tL dt3 y3.from_),(tU dt3 y3.from_)⟩:far) (⟨1,fun _=>(⟨(w64 ((tL dt3 y3.to)+y3.length)),(w64 ((tV dt3 y3.to)+(1:Int)))⟩:far)⟩:(Sl far))).length,(zdb (⟨(tL dt3 y3.from_),(tU dt3 y3.from_)⟩:far) (⟨1,fun _=>(⟨(w64 ((tL dt3 y3.to)+y3.length)),(w64 ((tV dt3 y3.to)+(1:Int)))⟩:far)⟩:(Sl far))).uses]))))))))))))
theorem zsn (K:List PA→Prop) (X2:St→Prop) (w:web) (zab:Bool) (t4t3:Tab) (dt3:Tab):(zai 4 (zai 3 (sqK Tryd.prog G75 zcM (cdF Tryd.f75 [1,1,1,1,0,1,0,0,1,1]) (zbp Tryd.prog zcM 9 X2 (zai 2 (sqK Tryd.prog G75 zcM (cdF Tryd.f75 [1,1,1,1,1]) (zbo Tryd.prog Tryd.f75 K))))))) .normal (zgx w zab t4t3 dt3)=zqs K X2 w zab t4t3 dt3:=by kernel_rfl
theorem zso (K : List PA → Prop) (X2 : St → Prop) (X3 : List (List PA) → St → Prop) (y3 : step) (rest3 : List (List PA)) (w : web) (zab : Bool) (t4t3 : Tab) (dt3 : Tab) :
  zv1 Tryd.prog G75 zcM 12 [23] (cd (cdF Tryd.f75 [1,1,1,1,0,1,0,0,1,0,0,1,1,0]) [0]) (cd (cdF Tryd.f75 [1,1,1,1,0,1,0,0,1,0,0,1,1,0]) [1]) X3 (zai 4 (zai 3 (sqK Tryd.prog G75 zcM (cdF Tryd.f75 [1,1,1,1,0,1,0,0,1,1]) (zbp Tryd.prog zcM 9 X2 (zai 2 (sqK Tryd.prog G75 zcM (cdF Tryd.f75 [1,1,1,1,1]) (zbo Tryd.prog Tryd.f75 K))))))) [.agg (zad y3)] rest3 (zgx w zab t4t3 dt3)=zqu K X2 X3 y3 rest3 w zab t4t3 dt3:=by kernel_rfl
theorem zzm (K : List PA → Prop) (X2 : St → Prop) (w : web) (zab : Bool) (t4t3 : Tab) (dt3 : Tab)
  (hsafe:IsE zae 4 4 (fun i=>zae (w.Net.Ties.get i))∧((false,1,false,[none]):MQ)=(false,1,false,[none])∧(zmy w=true)) (h:∀ X3:List (List PA)→St→Prop,(∀ (zab:Bool) (t4t3:Tab) (dt3:Tab),zqs K X2 w zab t4t3 dt3→X3 [] (zgx w zab t4t3 dt3))→(∀ (y:step) (rest:List (List PA)) (zab:Bool) (t4t3:Tab) (dt3:Tab),zqu K X2 X3 y rest w zab t4t3 dt3→X3 ([.agg (zad y)] :: rest) (zgx w zab t4t3 dt3))→X3 ((ziJ w).map fun y=>[.agg (zad y)]) (zgx w zab t4t3 dt3)) :
  zlN K X2 w zab t4t3 dt3:=by
  have e:zlN K X2 w zab t4t3 dt3=((IsE zae 4 4 (fun i=>zae (w.Net.Ties.get i))∧((false,1,false,[none]):MQ)=(false,1,false,[none])∧(zmy w=true))∧∀ X:List (List PA)→St→Prop,(∀ s,(zai 4 (zai 3 (sqK Tryd.prog G75 zcM (cdF Tryd.f75 [1,1,1,1,0,1,0,0,1,1]) (zbp Tryd.prog zcM 9 X2 (zai 2 (sqK Tryd.prog G75 zcM (cdF Tryd.f75 [1,1,1,1,1]) (zbo Tryd.prog Tryd.f75 K))))))) .normal s→X [] s)→(∀ y rest s,zv1 Tryd.prog G75 zcM 12 [23] (cd (cdF Tryd.f75 [1,1,1,1,0,1,0,0,1,0,0,1,1,0]) [0]) (cd (cdF Tryd.f75 [1,1,1,1,0,1,0,0,1,0,0,1,1,0]) [1]) X (zai 4 (zai 3 (sqK Tryd.prog G75 zcM (cdF Tryd.f75 [1,1,1,1,0,1,0,0,1,1]) (zbp Tryd.prog zcM 9 X2 (zai 2 (sqK Tryd.prog G75 zcM (cdF Tryd.f75 [1,1,1,1,1]) (zbo Tryd.prog Tryd.f75 K))))))) y rest s→X (y :: rest) s)→X ((ziJ w).map fun y=>[.agg (zad y)]) (zgx w zab t4t3 dt3)):=by kernel_rfl
  refine zbd e ⟨hsafe,?_⟩
  intro X h0 h1
  refine h X (fun zab t4t3 dt3 hs=>h0 _ ?_) (fun y rest zab t4t3 dt3 hs=>h1 _ rest _ ?_)
  · rw [zsn K X2 w zab t4t3 dt3];exact hs
  · have e2 := zso K X2 X y rest w zab t4t3 dt3
    rw [e2];exact hs
abbrev e75 (r:Tab):List PA:=[.agg (zac r)]
attribute [irreducible] zlL zou zlM zlN
def zsp (S2:Bool→Tab→Tab→Tab) (w:web) (zab:Bool) (t4t3:Tab) (dt3:Tab):Tab :=
  (S2 zab t4t3 dt3)
def zsq (P2:Bool→Tab→Tab→Bool) (w:web) (zab:Bool) (t4t3:Tab) (dt3:Tab):Bool :=
  (P2 zab t4t3 dt3)
def zsr (S2:Bool→Tab→Tab→Tab) (w:web) (y3:step) (S3:Bool→Tab→Tab→Tab) (zab:Bool) (t4t3:Tab) (dt3:Tab):Tab :=
  (cond (nvr (tL dt3 y3.to) (tU dt3 y3.to))
 (S3 zab t4t3 dt3)
 (cond zab
 (S3 true t4t3 (ts 80 dt3 (0+y3.from_.toNat * 2+0) [(zdb (⟨(tL dt3 y3.from_),(tU dt3 y3.from_)⟩:far) (⟨1,fun _=>(⟨(w64 ((tL dt3 y3.to)+y3.length)),(w64 ((tV dt3 y3.to)+(1:Int)))⟩:far)⟩:(Sl far))).length,(zdb (⟨(tL dt3 y3.from_),(tU dt3 y3.from_)⟩:far) (⟨1,fun _=>(⟨(w64 ((tL dt3 y3.to)+y3.length)),(w64 ((tV dt3 y3.to)+(1:Int)))⟩:far)⟩:(Sl far))).uses]))
 (S3 (!(match ((zdb (⟨(tL dt3 y3.from_),(tU dt3 y3.from_)⟩:far) (⟨1,fun _=>(⟨(w64 ((tL dt3 y3.to)+y3.length)),(w64 ((tV dt3 y3.to)+(1:Int)))⟩:far)⟩:(Sl far))).length == (tL dt3 y3.from_)) with | true=>(match ((zdb (⟨(tL dt3 y3.from_),(tU dt3 y3.from_)⟩:far) (⟨1,fun _=>(⟨(w64 ((tL dt3 y3.to)+y3.length)),(w64 ((tV dt3 y3.to)+(1:Int)))⟩:far)⟩:(Sl far))).uses == (tU dt3 y3.from_)) with | true=>true | false=>false) | false=>false)) t4t3 (ts 80 dt3 (0+y3.from_.toNat * 2+0) [(zdb (⟨(tL dt3 y3.from_),(tU dt3 y3.from_)⟩:far) (⟨1,fun _=>(⟨(w64 ((tL dt3 y3.to)+y3.length)),(w64 ((tV dt3 y3.to)+(1:Int)))⟩:far)⟩:(Sl far))).length,(zdb (⟨(tL dt3 y3.from_),(tU dt3 y3.from_)⟩:far) (⟨1,fun _=>(⟨(w64 ((tL dt3 y3.to)+y3.length)),(w64 ((tV dt3 y3.to)+(1:Int)))⟩:far)⟩:(Sl far))).uses]))))
def zss (P2:Bool→Tab→Tab→Bool) (w:web) (y3:step) (P3:Bool→Tab→Tab→Bool) (zab:Bool) (t4t3:Tab) (dt3:Tab):Bool :=
  (decide ((0≤y3.to∧y3.to < (40:Int))) &&
 (cond (nvr (tL dt3 y3.to) (tU dt3 y3.to))
 (P3 zab t4t3 dt3)
 (decide ((0≤y3.from_∧y3.from_ < (40:Int))) &&
 (decide ((0≤y3.to∧y3.to < (40:Int))) &&
 (decide ((0≤y3.to∧y3.to < (40:Int))) &&
 (decide ((zDu (⟨(tL dt3 y3.from_),(tU dt3 y3.from_)⟩:far) (⟨1,fun _=>(⟨(w64 ((tL dt3 y3.to)+y3.length)),(w64 ((tV dt3 y3.to)+(1:Int)))⟩:far)⟩:(Sl far))=true)) &&
 (cond zab
 (decide ((0≤y3.from_∧y3.from_ < (40:Int))) &&
 (P3 true t4t3 (ts 80 dt3 (0+y3.from_.toNat * 2+0) [(zdb (⟨(tL dt3 y3.from_),(tU dt3 y3.from_)⟩:far) (⟨1,fun _=>(⟨(w64 ((tL dt3 y3.to)+y3.length)),(w64 ((tV dt3 y3.to)+(1:Int)))⟩:far)⟩:(Sl far))).length,(zdb (⟨(tL dt3 y3.from_),(tU dt3 y3.from_)⟩:far) (⟨1,fun _=>(⟨(w64 ((tL dt3 y3.to)+y3.length)),(w64 ((tV dt3 y3.to)+(1:Int)))⟩:far)⟩:(Sl far))).uses])))
 (decide ((0≤y3.from_∧y3.from_ < (40:Int))) &&
 (decide ((0≤y3.from_∧y3.from_ < (40:Int))) &&
 (P3 (!(match ((zdb (⟨(tL dt3 y3.from_),(tU dt3 y3.from_)⟩:far) (⟨1,fun _=>(⟨(w64 ((tL dt3 y3.to)+y3.length)),(w64 ((tV dt3 y3.to)+(1:Int)))⟩:far)⟩:(Sl far))).length == (tL dt3 y3.from_)) with | true=>(match ((zdb (⟨(tL dt3 y3.from_),(tU dt3 y3.from_)⟩:far) (⟨1,fun _=>(⟨(w64 ((tL dt3 y3.to)+y3.length)),(w64 ((tV dt3 y3.to)+(1:Int)))⟩:far)⟩:(Sl far))).uses == (tU dt3 y3.from_)) with | true=>true | false=>false) | false=>false)) t4t3 (ts 80 dt3 (0+y3.from_.toNat * 2+0) [(zdb (⟨(tL dt3 y3.from_),(tU dt3 y3.from_)⟩:far) (⟨1,fun _=>(⟨(w64 ((tL dt3 y3.to)+y3.length)),(w64 ((tV dt3 y3.to)+(1:Int)))⟩:far)⟩:(Sl far))).length,(zdb (⟨(tL dt3 y3.from_),(tU dt3 y3.from_)⟩:far) (⟨1,fun _=>(⟨(w64 ((tL dt3 y3.to)+y3.length)),(w64 ((tV dt3 y3.to)+(1:Int)))⟩:far)⟩:(Sl far))).uses])))))))))))
def zlO (S2 : Bool → Tab → Tab → Tab) (w : web) : List step → Bool → Tab → Tab → Tab
  | []=>zsp S2 w
  | y :: r=>zsr S2 w y (zlO S2 w r)
def zlP (P2 : Bool → Tab → Tab → Bool) (w : web) : List step → Bool → Tab → Tab → Bool
  | []=>zsq P2 w
  | y :: r=>zss P2 w y (zlP P2 w r)
def zzn (S2:Bool→Tab→Tab→Tab) (w:web) (zab:Bool) (t4t3:Tab) (dt3:Tab):Tab:=zlO S2 w (ziJ w) zab t4t3 dt3
def zst (P2:Bool→Tab→Tab→Bool) (w:web) (zab:Bool) (t4t3:Tab) (dt3:Tab):Bool:=decide ((zmy w=true)) && zlP P2 w (ziJ w) zab t4t3 dt3
theorem zFW (K : List PA → Prop) (w : web)
  (X2:St→Prop) (P2:Bool→Tab→Tab→Bool) (S2:Bool→Tab→Tab→Tab)
  (hX2:∀ (zah:Bool) (t4t2:Tab) (dt2:Tab),P2 zah t4t2 dt2=true→K (e75 (S2 zah t4t2 dt2))→X2 (zjA w zah t4t2 dt2)) (zab:Bool) (t4t3:Tab) (dt3:Tab) (hs:zst P2 w zab t4t3 dt3=true) (hk:K (e75 (zzn S2 w zab t4t3 dt3))):zlN K X2 w zab t4t3 dt3:=by
  unfold zst at hs
  rw [Bool.and_eq_true] at hs
  obtain ⟨hsf,hs⟩:=hs
  have hc:=of_decide_eq_true hsf
  refine zzm K X2 w zab t4t3 dt3 ⟨isE,rfl,hc⟩ ?_
  intro X3 hexit hstep
  have key:∀ (l:List step) (zab:Bool) (t4t3:Tab) (dt3:Tab),zlP P2 w l zab t4t3 dt3=true→K (e75 (zlO S2 w l zab t4t3 dt3))→X3 (l.map fun y=>[.agg (zad y)]) (zgx w zab t4t3 dt3):=by
    intro l
    induction l with
    | nil =>
      intro zab t4t3 dt3 hs hk
      refine hexit zab t4t3 dt3 ?_
      have hs:zsq P2 w zab t4t3 dt3=true:=hs
      have hk:K (e75 (zsp S2 w zab t4t3 dt3)):=hk
      unfold zsq at hs
      unfold zsp at hk
      exact (hX2 zab t4t3 dt3 hs hk)
    | cons y3 l ih =>
      intro zab t4t3 dt3 hs hk
      refine hstep y3 _ zab t4t3 dt3 ?_
      have hs:zss P2 w y3 (zlP P2 w l) zab t4t3 dt3=true:=hs
      have hk:K (e75 (zsr S2 w y3 (zlO S2 w l) zab t4t3 dt3)):=hk
      unfold zss at hs
      unfold zsr at hk
      generalize zlO S2 w l=S3 at hk ih
      generalize zlP P2 w l=P3 at hs ih
      have hX3:=ih
      exact (za6 hs fun hc hs => ⟨hc, (za2 (K := fun r => K (e75 r))
 (fun hs hk=>(hX3 zab t4t3 dt3 hs hk))
 (fun hs hk => (za6 hs fun hc hs => ⟨hc, (za6 hs fun hc hs => ⟨hc, (za6 hs fun hc hs => ⟨hc, (za6 hs fun hc hs => ⟨⟨zxz, hc⟩, (za2 (K := fun r => K (e75 r))
 (fun hs hk=>(za6 hs fun hc hs=>⟨hc,(hX3 true t4t3 (ts 80 dt3 (0+y3.from_.toNat * 2+0) [(zdb (⟨(tL dt3 y3.from_),(tU dt3 y3.from_)⟩:far) (⟨1,fun _=>(⟨(w64 ((tL dt3 y3.to)+y3.length)),(w64 ((tV dt3 y3.to)+(1:Int)))⟩:far)⟩:(Sl far))).length,(zdb (⟨(tL dt3 y3.from_),(tU dt3 y3.from_)⟩:far) (⟨1,fun _=>(⟨(w64 ((tL dt3 y3.to)+y3.length)),(w64 ((tV dt3 y3.to)+(1:Int)))⟩:far)⟩:(Sl far))).uses]) hs hk)⟩))
 (fun hs hk=>(za6 hs fun hc hs=>⟨hc,(za6 hs fun hc hs=>⟨hc,(hX3 (!(match ((zdb (⟨(tL dt3 y3.from_),(tU dt3 y3.from_)⟩:far) (⟨1,fun _=>(⟨(w64 ((tL dt3 y3.to)+y3.length)),(w64 ((tV dt3 y3.to)+(1:Int)))⟩:far)⟩:(Sl far))).length == (tL dt3 y3.from_)) with | true=>(match ((zdb (⟨(tL dt3 y3.from_),(tU dt3 y3.from_)⟩:far) (⟨1,fun _=>(⟨(w64 ((tL dt3 y3.to)+y3.length)),(w64 ((tV dt3 y3.to)+(1:Int)))⟩:far)⟩:(Sl far))).uses == (tU dt3 y3.from_)) with | true=>true | false=>false) | false=>false)) t4t3 (ts 80 dt3 (0+y3.from_.toNat * 2+0) [(zdb (⟨(tL dt3 y3.from_),(tU dt3 y3.from_)⟩:far) (⟨1,fun _=>(⟨(w64 ((tL dt3 y3.to)+y3.length)),(w64 ((tV dt3 y3.to)+(1:Int)))⟩:far)⟩:(Sl far))).length,(zdb (⟨(tL dt3 y3.from_),(tU dt3 y3.from_)⟩:far) (⟨1,fun _=>(⟨(w64 ((tL dt3 y3.to)+y3.length)),(w64 ((tV dt3 y3.to)+(1:Int)))⟩:far)⟩:(Sl far))).uses]) hs hk)⟩)⟩)) hs hk)⟩)⟩)⟩)⟩)) hs hk)⟩)
  exact key _ zab t4t3 dt3 hs hk
def zsu (w:web) (S2:Bool→Tab→Tab→Tab) (zah:Bool) (t4t2:Tab) (dt2:Tab):Tab :=
  (cond zah
 (zzn S2 w false t4t2 dt2)
 dt2)
def zsv (w:web) (P2:Bool→Tab→Tab→Bool) (zah:Bool) (t4t2:Tab) (dt2:Tab):Bool :=
  (cond zah
 (zst P2 w false t4t2 dt2)
 true)
def zlQ (w : web) : Nat → Bool → Tab → Tab → Tab
  | 0=>fun _ _ _=>default
  | k+1=>zsu w (zlQ w k)
def zlR (w : web) : Nat → Bool → Tab → Tab → Bool
  | 0=>fun _ _ _=>false
  | k+1=>zsv w (zlR w k)
def zzo (w:web) (zah:Bool) (t4t2:Tab) (dt2:Tab):Tab:=zlQ w Fuel zah t4t2 dt2
def zzp (w:web) (zah:Bool) (t4t2:Tab) (dt2:Tab):Bool:=zlR w Fuel zah t4t2 dt2
theorem zFX (K:List PA→Prop) (w:web) (zah:Bool) (t4t2:Tab) (dt2:Tab) (hs:zzp w zah t4t2 dt2=true) (hk:K (e75 (zzo w zah t4t2 dt2))):zlM K w zah t4t2 dt2:=by
  refine zzl K w zah t4t2 dt2 ?_
  intro X2 hstep
  have key:∀ (k:Nat) (zah:Bool) (t4t2:Tab) (dt2:Tab),zlR w k zah t4t2 dt2=true→K (e75 (zlQ w k zah t4t2 dt2))→X2 (zjA w zah t4t2 dt2):=by
    intro k
    induction k with
    | zero=>intro zah t4t2 dt2 hs;exact absurd hs Bool.false_ne_true
    | succ k ih =>
      intro zah t4t2 dt2 hs hk
      refine hstep zah t4t2 dt2 ?_
      have hs:zsv w (zlR w k) zah t4t2 dt2=true:=hs
      have hk:K (e75 (zsu w (zlQ w k) zah t4t2 dt2)):=hk
      unfold zsv at hs
      unfold zsu at hk
      generalize zlQ w k=S2 at hk ih
      generalize zlR w k=P2 at hs ih
      have hX2:=ih
      exact (za2 (K := fun r => K (e75 r))
 (fun hs hk=>⟨⟨isE,rfl⟩,(zFW K w X2 P2 S2 hX2 false t4t2 dt2 hs hk)⟩)
 (fun hs hk=>hk) hs hk)
  exact key _ zah t4t2 dt2 hs hk
def zsw (w:web) (node:Int) (t4t1:Tab) (dt1:Tab):Tab :=
  (zzo w true t4t1 (ts 80 dt1 (0+node.toNat * 2+0) [(0:Int),(0:Int)]))
def zsx (w:web) (node:Int) (t4t1:Tab) (dt1:Tab):Bool :=
  (decide ((0≤node∧node < (40:Int))) &&
 (zzp w true t4t1 (ts 80 dt1 (0+node.toNat * 2+0) [(0:Int),(0:Int)])))
theorem zFY (K:List PA→Prop) (w:web) (node:Int) (t4t1:Tab) (dt1:Tab) (hs:zsx w node t4t1 dt1=true) (hk:K (e75 (zsw w node t4t1 dt1))):zou K w node t4t1 dt1:=by
  refine zbd (zFV K w node t4t1 dt1) ?_
  unfold zsx at hs
  unfold zsw at hk
  exact (za6 hs fun hc hs=>⟨hc,(zFX K w true t4t1 (ts 80 dt1 (0+node.toNat * 2+0) [(0:Int),(0:Int)]) hs hk)⟩)
def zsy (w:web) (node:Int) (S0:Int→Tab→Tab→Tab) (zaJ:Int) (t4t0:Tab) (dt0:Tab):Tab :=
  (cond (decide (zaJ < (40:Int)))
 (S0 (w64 (zaJ+(1:Int))) t4t0 (ts 80 dt0 (0+zaJ.toNat * 2+0) [(1000000000000:Int),(0:Int)]))
 (zsw w node t4t0 dt0))
def zsz (w:web) (node:Int) (P0:Int→Tab→Tab→Bool) (zaJ:Int) (t4t0:Tab) (dt0:Tab):Bool :=
  (cond (decide (zaJ < (40:Int)))
 (decide ((0≤zaJ∧zaJ < (40:Int))) &&
 (P0 (w64 (zaJ+(1:Int))) t4t0 (ts 80 dt0 (0+zaJ.toNat * 2+0) [(1000000000000:Int),(0:Int)])))
 (zsx w node t4t0 dt0))
def zlS (w : web) (node : Int) : Nat → Int → Tab → Tab → Tab
  | 0=>fun _ _ _=>default
  | k+1=>zsy w node (zlS w node k)
def zlT (w : web) (node : Int) : Nat → Int → Tab → Tab → Bool
  | 0=>fun _ _ _=>false
  | k+1=>zsz w node (zlT w node k)
def zzq (w:web) (node:Int) (zaJ:Int) (t4t0:Tab) (dt0:Tab):Tab:=zlS w node Fuel zaJ t4t0 dt0
def zzr (w:web) (node:Int) (zaJ:Int) (t4t0:Tab) (dt0:Tab):Bool:=zlT w node Fuel zaJ t4t0 dt0
theorem zFZ (K:List PA→Prop) (w:web) (node:Int) (zaJ:Int) (t4t0:Tab) (dt0:Tab) (hs:zzr w node zaJ t4t0 dt0=true) (hk:K (e75 (zzq w node zaJ t4t0 dt0))):zlL K w node zaJ t4t0 dt0:=by
  refine zzk K w node zaJ t4t0 dt0 ?_
  intro X0 hstep
  have key:∀ (k:Nat) (zaJ:Int) (t4t0:Tab) (dt0:Tab),zlT w node k zaJ t4t0 dt0=true→K (e75 (zlS w node k zaJ t4t0 dt0))→X0 (zlK w node zaJ t4t0 dt0):=by
    intro k
    induction k with
    | zero=>intro zaJ t4t0 dt0 hs;exact absurd hs Bool.false_ne_true
    | succ k ih =>
      intro zaJ t4t0 dt0 hs hk
      refine hstep zaJ t4t0 dt0 ?_
      have hs:zsz w node (zlT w node k) zaJ t4t0 dt0=true:=hs
      have hk:K (e75 (zsy w node (zlS w node k) zaJ t4t0 dt0)):=hk
      unfold zsz at hs
      unfold zsy at hk
      generalize zlS w node k=S0 at hk ih
      generalize zlT w node k=P0 at hs ih
      have hX0:=ih
      exact (za2 (K := fun r => K (e75 r))
 (fun hs hk=>(za6 hs fun hc hs=>⟨hc,(hX0 (w64 (zaJ+(1:Int))) t4t0 (ts 80 dt0 (0+zaJ.toNat * 2+0) [(1000000000000:Int),(0:Int)]) hs hk)⟩))
 (fun hs hk=>(zFY K w node t4t0 dt0 hs hk)) hs hk)
  exact key _ zaJ t4t0 dt0 hs hk
def s75 (w:web) (node:Int):Tab :=
  (zzq w node (0:Int) (fun _=>(0:Int)) (fun _=>(0:Int)))
def p75 (w:web) (node:Int):Bool :=
  (zzr w node (0:Int) (fun _=>(0:Int)) (fun _=>(0:Int)))
theorem q75 (w:web) (node:Int) (K:List PA→Prop) (hs:p75 w node=true) (hk:K (e75 (s75 w node))):vcFun Tryd.prog G75 zcM 75 [.one (.fp (zaC w) 0),.one (.int .i64 node)] K:=by
  refine zbd (zFU w node K) ?_
  unfold p75 at hs
  unfold s75 at hk
  exact (zFZ K w node (0:Int) (fun _=>(0:Int)) (fun _=>(0:Int)) hs hk)
def zzs : List PA → COut
  | [.one (.fp [.int .i64 zas,.sl zal zaP zam,.fm zbK zaS zaT] 0),.one (.int .i64 a1)]=>.det (IsE zae 4 zaP zam∧zbK=(false,1,false,[none])∧p75 (⟨(⟨zas,(⟨zal,zar zam⟩:(Sl Tie))⟩:Net),(⟨zaS,zaT⟩:Mp)⟩:web) a1=true) [.agg (zac ((s75 (⟨(⟨zas,(⟨zal,zar zam⟩:(Sl Tie))⟩:Net),(⟨zaS,zaT⟩:Mp)⟩:web) a1)))]
  | _=>.no
theorem zJl:zax Tryd.prog 75:=⟨_,rfl,rfl,by kernel_rfl⟩
theorem zLh:Ok Tryd.prog 75 zzs:=zbY zLg zJl fun args K h=>by
  unfold zzs at h
  split at h
  · rename_i zas zal zaP zam zbK zaS zaT a1
    obtain ⟨⟨⟨rfl,zaB,rfl⟩,rfl,hs⟩,hk⟩:=h
    try rw [zau zaB] at hs
    try rw [zau zaB] at hk
    exact ⟨(fun _ _=>[]),(fun _=>false),zcM,q75 (⟨(⟨zas,(⟨zal,zaB⟩:(Sl Tie))⟩:Net),(⟨zaS,zaT⟩:Mp)⟩:web) a1 K hs hk⟩
  · exact h.elim
abbrev T76:Tabs:=(((Tabs.nil.addF 93 zpV).addF 104 zp1).addI 110 zpX)
theorem zLi:TabsOk Tryd.prog T76:=(((TabsOk.nil.addF zHJ).addF zE5).addI zvJ)
abbrev G76:Ctrs:=csm T76 (fun _ _=>[]) (fun _=>false)
def zcN:Ann:=⟨66,[(0,zK [0,1,4] [4]),(1,zK [0,1,4,5] [4,5]),(2,zK [0,1,4,5,10] [4,5]),(3,zK [0,1,4,5,10,11] [4,5]),(4,zK [0,1,4,5,6,10] [4,5]),(5,zK [0,1,4,5,10] [4,5]),(6,zK [0,1,4,5,10] [4,5]),(7,zK [0,4,5] [4,5]),(8,zK [0,4,5,7] [4,5,7]),(9,zK [0,4,5,7,20] [4,5,7]),(10,zK [0,4,5,7] [4,5,7]),(11,zK [0,4,5,7,22] [4,5,7]),(12,zK [0,4,5,7,8,22] [4,5,7,8]),(13,zK [0,4,5,7,8,22,29] [4,5,7,8]),(14,zK [0,4,5,7,8,9,22] [4,5,7,8,9]),(15,zK [0,4,5,7,8,9,22] [4,5,7,8,9]),(16,zK [0,4,5,7,22] [4,5,7]),(17,zK [0,4,5,64] [4,5]),(18,zK [0,4,5,7] [4,5,7]),(19,zK [4] [4])],
 [(3,zK [0,1,4,5,10] [4,5]),(9,zK [0,4,5,7] [4,5,7]),(12,zK [0,4,5,7,22] [4,5,7])],
 [(7,zK [0,1,4,5] [4,5])],
 [],[]⟩
def zlU (w:web) (node:Int) (zaJ:Int) (t4t0:Tab) (dt0:Tab):St:=⟨[(0,.one (.c (.p (.fp (zaC w) 0)))),(1,.one (.c (.p (.int .i64 node)))),(4,.one (.c (.ptr 4 0))),(5,.one (.c (.ptr 5 0))),(10,.one (.c (.p (.int .i64 zaJ))))],[(4,.box 116 (zm (zac t4t0))),(5,.box 116 (zm (zac dt0)))],[]⟩
def zlV (K:List PA→Prop) (w:web) (node:Int) (zaJ:Int) (t4t0:Tab) (dt0:Tab):Prop:=vc Tryd.prog G76 zcN (cdF Tryd.f76 [1,1,0,1,0]) (zai 0 (sqK Tryd.prog G76 zcN (cdF Tryd.f76 [1,1,1]) (zbo Tryd.prog Tryd.f76 K))) (zlU w node zaJ t4t0 dt0)
def zJm (w:web) (node:Int) (t4t1:Tab) (dt1:Tab):St:=⟨[(0,.one (.c (.p (.fp (zaC w) 0)))),(1,.one (.c (.p (.int .i64 node)))),(4,.one (.c (.ptr 4 0))),(5,.one (.c (.ptr 5 0)))],[(4,.box 116 (zm (zac t4t1))),(5,.box 116 (zm (zac dt1)))],[]⟩
def zov (K:List PA→Prop) (w:web) (node:Int) (t4t1:Tab) (dt1:Tab):Prop:=vc Tryd.prog G76 zcN (cdF Tryd.f76 [1,1,1]) (zbo Tryd.prog Tryd.f76 K) (zJm w node t4t1 dt1)
def zjB (w:web) (zah:Bool) (t4t2:Tab) (dt2:Tab):St:=⟨[(0,.one (.c (.p (.fp (zaC w) 0)))),(4,.one (.c (.ptr 4 0))),(5,.one (.c (.ptr 5 0))),(7,.one (.c (.ptr 7 0)))],[(4,.box 116 (zm (zac t4t2))),(5,.box 116 (zm (zac dt2))),(7,.box 4 [.p (.bool zah)])],[]⟩
def zlW (K:List PA→Prop) (w:web) (zah:Bool) (t4t2:Tab) (dt2:Tab):Prop:=vc Tryd.prog G76 zcN (cdF Tryd.f76 [1,1,1,1,0,1,0]) (zai 2 (sqK Tryd.prog G76 zcN (cdF Tryd.f76 [1,1,1,1,1]) (zbo Tryd.prog Tryd.f76 K))) (zjB w zah t4t2 dt2)
def zgy (w:web) (zab:Bool) (t4t3:Tab) (dt3:Tab):St:=⟨[(0,.one (.c (.p (.fp (zaC w) 0)))),(4,.one (.c (.ptr 4 0))),(5,.one (.c (.ptr 5 0))),(7,.one (.c (.ptr 7 0))),(22,.one (.c (.p (.fn 110 [] [.fp [.fp (zaC w) 0] 0]))))],[(4,.box 116 (zm (zac t4t3))),(5,.box 116 (zm (zac dt3))),(7,.box 4 [.p (.bool zab)])],[]⟩
def zlX (K:List PA→Prop) (X2:St→Prop) (w:web) (zab:Bool) (t4t3:Tab) (dt3:Tab):Prop:=vc Tryd.prog G76 zcN (cdF Tryd.f76 [1,1,1,1,0,1,0,0,1,0,0,1,1,0]) (zai 4 (zai 3 (sqK Tryd.prog G76 zcN (cdF Tryd.f76 [1,1,1,1,0,1,0,0,1,1]) (zbp Tryd.prog zcN 9 X2 (zai 2 (sqK Tryd.prog G76 zcN (cdF Tryd.f76 [1,1,1,1,1]) (zbo Tryd.prog Tryd.f76 K))))))) (zgy w zab t4t3 dt3)
theorem zF0 (w : web) (node : Int) (K : List PA → Prop) :
  vcFun Tryd.prog G76 zcN 76 [.one (.fp (zaC w) 0),.one (.int .i64 node)] K =
  (zlV K w node (0:Int) (fun _=>(0:Int)) (fun _=>(0:Int))):=by kernel_rfl
def zqv (K:List PA→Prop) (X0:St→Prop) (w:web) (node:Int) (zaJ:Int) (t4t0:Tab) (dt0:Tab):Prop :=
  (zbV (decide (zaJ < (40:Int)))
 (((0≤zaJ∧zaJ < (40:Int))) ∧
 (X0 (zlU w node (w64 (zaJ+(1:Int))) t4t0 (ts 80 dt0 (0+zaJ.toNat * 2+0) [(1000000000000:Int),(0:Int)]))))
 (zov K w node t4t0 dt0))
theorem zsA (K : List PA → Prop) (X0 : St → Prop) (w : web) (node : Int) (zaJ : Int) (t4t0 : Tab) (dt0 : Tab) :
  vc Tryd.prog G76 zcN (cd (cdF Tryd.f76 [1,1,0,1,0]) [0]) (zbp Tryd.prog zcN 3 X0 (zai 0 (sqK Tryd.prog G76 zcN (cdF Tryd.f76 [1,1,1]) (zbo Tryd.prog Tryd.f76 K)))) (zlU w node zaJ t4t0 dt0) =
  zqv K X0 w node zaJ t4t0 dt0:=by kernel_rfl
theorem zzt (K : List PA → Prop) (w : web) (node : Int) (zaJ : Int) (t4t0 : Tab) (dt0 : Tab)
  (h:∀ X0:St→Prop,(∀ (zaJ:Int) (t4t0:Tab) (dt0:Tab),zqv K X0 w node zaJ t4t0 dt0→X0 (zlU w node zaJ t4t0 dt0))→X0 (zlU w node zaJ t4t0 dt0)) :
  zlV K w node zaJ t4t0 dt0:=by
  have e:zlV K w node zaJ t4t0 dt0=(∀ X:St→Prop,(∀ s,vc Tryd.prog G76 zcN (cd (cdF Tryd.f76 [1,1,0,1,0]) [0]) (zbp Tryd.prog zcN 3 X (zai 0 (sqK Tryd.prog G76 zcN (cdF Tryd.f76 [1,1,1]) (zbo Tryd.prog Tryd.f76 K)))) s→X s)→X (zlU w node zaJ t4t0 dt0)):=by kernel_rfl
  refine zbd e ?_
  intro X hX
  refine h X ?_
  intro zaJ t4t0 dt0 hs
  refine hX _ ?_
  have e2:=zsA K X w node zaJ t4t0 dt0
  rw [e2]
  exact hs
theorem zF1 (K : List PA → Prop) (w : web) (node : Int) (t4t1 : Tab) (dt1 : Tab) :
  zov K w node t4t1 dt1 =
  (((0≤node∧node < (40:Int))) ∧
 (zlW K w true t4t1 (ts 80 dt1 (0+node.toNat * 2+0) [(0:Int),(0:Int)]))):=by kernel_rfl
def zqw (K:List PA→Prop) (X2:St→Prop) (w:web) (zah:Bool) (t4t2:Tab) (dt2:Tab):Prop :=
  (zbV zah
 ((IsE zae 4 4 (fun i=>zae (w.Net.Ties.get i))∧((false,1,false,[none]):MQ)=(false,1,false,[none])) ∧
 (zlX K X2 w false t4t2 dt2))
 (K [.agg (zac dt2)]))
theorem zsB (K : List PA → Prop) (X2 : St → Prop) (w : web) (zah : Bool) (t4t2 : Tab) (dt2 : Tab) :
  vc Tryd.prog G76 zcN (cd (cdF Tryd.f76 [1,1,1,1,0,1,0]) [0]) (zbp Tryd.prog zcN 9 X2 (zai 2 (sqK Tryd.prog G76 zcN (cdF Tryd.f76 [1,1,1,1,1]) (zbo Tryd.prog Tryd.f76 K)))) (zjB w zah t4t2 dt2) =
  zqw K X2 w zah t4t2 dt2:=by kernel_rfl
theorem zzu (K : List PA → Prop) (w : web) (zah : Bool) (t4t2 : Tab) (dt2 : Tab)
  (h:∀ X2:St→Prop,(∀ (zah:Bool) (t4t2:Tab) (dt2:Tab),zqw K X2 w zah t4t2 dt2→X2 (zjB w zah t4t2 dt2))→X2 (zjB w zah t4t2 dt2)) :
  zlW K w zah t4t2 dt2:=by
  have e:zlW K w zah t4t2 dt2=(∀ X:St→Prop,(∀ s,vc Tryd.prog G76 zcN (cd (cdF Tryd.f76 [1,1,1,1,0,1,0]) [0]) (zbp Tryd.prog zcN 9 X (zai 2 (sqK Tryd.prog G76 zcN (cdF Tryd.f76 [1,1,1,1,1]) (zbo Tryd.prog Tryd.f76 K)))) s→X s)→X (zjB w zah t4t2 dt2)):=by kernel_rfl
  refine zbd e ?_
  intro X hX
  refine h X ?_
  intro zah t4t2 dt2 hs
  refine hX _ ?_
  have e2:=zsB K X w zah t4t2 dt2
  rw [e2]
  exact hs
def zqx (K:List PA→Prop) (X2:St→Prop) (w:web) (zab:Bool) (t4t3:Tab) (dt3:Tab):Prop :=
  (X2 (zjB w zab t4t3 dt3))
def zqy (K:List PA→Prop) (X2:St→Prop) (X3:List (List PA)→St→Prop) (y3:step) (rest3:List (List PA)) (w:web) (zab:Bool) (t4t3:Tab) (dt3:Tab):Prop :=
  (((0≤y3.from_∧y3.from_ < (40:Int))) ∧
 (zbV (nvr (tL dt3 y3.from_) (tU dt3 y3.from_))
 (X3 rest3 (zgy w zab t4t3 dt3))
 (((0≤y3.to∧y3.to < (40:Int))) ∧
 (((0≤y3.from_∧y3.from_ < (40:Int))) ∧
 (((0≤y3.from_∧y3.from_ < (40:Int))) ∧
 ((IsE zcI 2 2 (fun _=>(zcI (⟨(w64 ((tL dt3 y3.from_)+y3.length)),(w64 ((tV dt3 y3.from_)+(1:Int)))⟩:far)))∧(zDu (⟨(tL dt3 y3.to),(tU dt3 y3.to)⟩:far) (⟨1,fun _=>(⟨(w64 ((tL dt3 y3.from_)+y3.length)),(w64 ((tV dt3 y3.from_)+(1:Int)))⟩:far)⟩:(Sl far))=true)) ∧
 (zbV zab
 (((0≤y3.to∧y3.to < (40:Int))) ∧
 (X3 rest3 (zgy w true t4t3 (ts 80 dt3 (0+y3.to.toNat * 2+0) [(zdb (⟨(tL dt3 y3.to),(tU dt3 y3.to)⟩:far) (⟨1,fun _=>(⟨(w64 ((tL dt3 y3.from_)+y3.length)),(w64 ((tV dt3 y3.from_)+(1:Int)))⟩:far)⟩:(Sl far))).length,(zdb (⟨(tL dt3 y3.to),(tU dt3 y3.to)⟩:far) (⟨1,fun _=>(⟨(w64 ((tL dt3 y3.from_)+y3.length)),(w64 ((tV dt3 y3.from_)+(1:Int)))⟩:far)⟩:(Sl far))).uses]))))
 (((0≤y3.to∧y3.to < (40:Int))) ∧
 (((0≤y3.to∧y3.to < (40:Int))) ∧
 (X3 rest3 (zgy w (!(match ((zdb (⟨(tL dt3 y3.to),(tU dt3 y3.to)⟩:far) (⟨1,fun _=>(⟨(w64 ((tL dt3 y3.from_)+y3.length)),(w64 ((tV dt3 y3.from_)+(1:Int)))⟩:far)⟩:(Sl far))).length == (tL dt3 y3.to)) with | true=>(match ((zdb (⟨(tL dt3 y3.to),(tU dt3 y3.to)⟩:far) (⟨1,fun _=>(⟨(w64 ((tL dt3 y3.from_)+y3.length)),(w64 ((tV dt3 y3.from_)+(1:Int)))⟩:far)⟩:(Sl far))).uses == (tU dt3 y3.to)) with | true=>true | false=>false) | false=>false)) t4t3 (ts 80 dt3 (0+y3.to.toNat * 2+0) [(zdb (⟨(tL dt3 y3.to),(tU dt3 y3.to)⟩:far) (⟨1,fun _=>(⟨(w64 ((tL dt3 y3.from_)+y3.length)),(w64 ((tV dt3 y3.from_)+(1:Int)))⟩:far)⟩:(Sl far))).length,(zdb (⟨(tL dt3 y3.to),(tU dt3 y3.to)⟩:far) (⟨1,fun _=>(⟨(w64 ((tL dt3 y3.from_)+y3.length)),(w64 ((tV dt3 y3.from_)+(1:Int)))⟩:far)⟩:(Sl far))).uses]))))))))))))
theorem zsC (K:List PA→Prop) (X2:St→Prop) (w:web) (zab:Bool) (t4t3:Tab) (dt3:Tab):(zai 4 (zai 3 (sqK Tryd.prog G76 zcN (cdF Tryd.f76 [1,1,1,1,0,1,0,0,1,1]) (zbp Tryd.prog zcN 9 X2 (zai 2 (sqK Tryd.prog G76 zcN (cdF Tryd.f76 [1,1,1,1,1]) (zbo Tryd.prog Tryd.f76 K))))))) .normal (zgy w zab t4t3 dt3)=zqx K X2 w zab t4t3 dt3:=by kernel_rfl
theorem zsD (K : List PA → Prop) (X2 : St → Prop) (X3 : List (List PA) → St → Prop) (y3 : step) (rest3 : List (List PA)) (w : web) (zab : Bool) (t4t3 : Tab) (dt3 : Tab) :
  zv1 Tryd.prog G76 zcN 12 [23] (cd (cdF Tryd.f76 [1,1,1,1,0,1,0,0,1,0,0,1,1,0]) [0]) (cd (cdF Tryd.f76 [1,1,1,1,0,1,0,0,1,0,0,1,1,0]) [1]) X3 (zai 4 (zai 3 (sqK Tryd.prog G76 zcN (cdF Tryd.f76 [1,1,1,1,0,1,0,0,1,1]) (zbp Tryd.prog zcN 9 X2 (zai 2 (sqK Tryd.prog G76 zcN (cdF Tryd.f76 [1,1,1,1,1]) (zbo Tryd.prog Tryd.f76 K))))))) [.agg (zad y3)] rest3 (zgy w zab t4t3 dt3)=zqy K X2 X3 y3 rest3 w zab t4t3 dt3:=by kernel_rfl
theorem zzv (K : List PA → Prop) (X2 : St → Prop) (w : web) (zab : Bool) (t4t3 : Tab) (dt3 : Tab)
  (hsafe:IsE zae 4 4 (fun i=>zae (w.Net.Ties.get i))∧((false,1,false,[none]):MQ)=(false,1,false,[none])∧(zmy w=true)) (h:∀ X3:List (List PA)→St→Prop,(∀ (zab:Bool) (t4t3:Tab) (dt3:Tab),zqx K X2 w zab t4t3 dt3→X3 [] (zgy w zab t4t3 dt3))→(∀ (y:step) (rest:List (List PA)) (zab:Bool) (t4t3:Tab) (dt3:Tab),zqy K X2 X3 y rest w zab t4t3 dt3→X3 ([.agg (zad y)] :: rest) (zgy w zab t4t3 dt3))→X3 ((ziJ w).map fun y=>[.agg (zad y)]) (zgy w zab t4t3 dt3)) :
  zlX K X2 w zab t4t3 dt3:=by
  have e:zlX K X2 w zab t4t3 dt3=((IsE zae 4 4 (fun i=>zae (w.Net.Ties.get i))∧((false,1,false,[none]):MQ)=(false,1,false,[none])∧(zmy w=true))∧∀ X:List (List PA)→St→Prop,(∀ s,(zai 4 (zai 3 (sqK Tryd.prog G76 zcN (cdF Tryd.f76 [1,1,1,1,0,1,0,0,1,1]) (zbp Tryd.prog zcN 9 X2 (zai 2 (sqK Tryd.prog G76 zcN (cdF Tryd.f76 [1,1,1,1,1]) (zbo Tryd.prog Tryd.f76 K))))))) .normal s→X [] s)→(∀ y rest s,zv1 Tryd.prog G76 zcN 12 [23] (cd (cdF Tryd.f76 [1,1,1,1,0,1,0,0,1,0,0,1,1,0]) [0]) (cd (cdF Tryd.f76 [1,1,1,1,0,1,0,0,1,0,0,1,1,0]) [1]) X (zai 4 (zai 3 (sqK Tryd.prog G76 zcN (cdF Tryd.f76 [1,1,1,1,0,1,0,0,1,1]) (zbp Tryd.prog zcN 9 X2 (zai 2 (sqK Tryd.prog G76 zcN (cdF Tryd.f76 [1,1,1,1,1]) (zbo Tryd.prog Tryd.f76 K))))))) y rest s→X (y :: rest) s)→X ((ziJ w).map fun y=>[.agg (zad y)]) (zgy w zab t4t3 dt3)):=by kernel_rfl
  refine zbd e ⟨hsafe,?_⟩
  intro X h0 h1
  refine h X (fun zab t4t3 dt3 hs=>h0 _ ?_) (fun y rest zab t4t3 dt3 hs=>h1 _ rest _ ?_)
  · rw [zsC K X2 w zab t4t3 dt3];exact hs
  · have e2 := zsD K X2 X y rest w zab t4t3 dt3
    rw [e2];exact hs
abbrev e76 (r:Tab):List PA:=[.agg (zac r)]
attribute [irreducible] zlV zov zlW zlX
def zsE (S2:Bool→Tab→Tab→Tab) (w:web) (zab:Bool) (t4t3:Tab) (dt3:Tab):Tab :=
  (S2 zab t4t3 dt3)
def zsF (P2:Bool→Tab→Tab→Bool) (w:web) (zab:Bool) (t4t3:Tab) (dt3:Tab):Bool :=
  (P2 zab t4t3 dt3)
def zsG (S2:Bool→Tab→Tab→Tab) (w:web) (y3:step) (S3:Bool→Tab→Tab→Tab) (zab:Bool) (t4t3:Tab) (dt3:Tab):Tab :=
  (cond (nvr (tL dt3 y3.from_) (tU dt3 y3.from_))
 (S3 zab t4t3 dt3)
 (cond zab
 (S3 true t4t3 (ts 80 dt3 (0+y3.to.toNat * 2+0) [(zdb (⟨(tL dt3 y3.to),(tU dt3 y3.to)⟩:far) (⟨1,fun _=>(⟨(w64 ((tL dt3 y3.from_)+y3.length)),(w64 ((tV dt3 y3.from_)+(1:Int)))⟩:far)⟩:(Sl far))).length,(zdb (⟨(tL dt3 y3.to),(tU dt3 y3.to)⟩:far) (⟨1,fun _=>(⟨(w64 ((tL dt3 y3.from_)+y3.length)),(w64 ((tV dt3 y3.from_)+(1:Int)))⟩:far)⟩:(Sl far))).uses]))
 (S3 (!(match ((zdb (⟨(tL dt3 y3.to),(tU dt3 y3.to)⟩:far) (⟨1,fun _=>(⟨(w64 ((tL dt3 y3.from_)+y3.length)),(w64 ((tV dt3 y3.from_)+(1:Int)))⟩:far)⟩:(Sl far))).length == (tL dt3 y3.to)) with | true=>(match ((zdb (⟨(tL dt3 y3.to),(tU dt3 y3.to)⟩:far) (⟨1,fun _=>(⟨(w64 ((tL dt3 y3.from_)+y3.length)),(w64 ((tV dt3 y3.from_)+(1:Int)))⟩:far)⟩:(Sl far))).uses == (tU dt3 y3.to)) with | true=>true | false=>false) | false=>false)) t4t3 (ts 80 dt3 (0+y3.to.toNat * 2+0) [(zdb (⟨(tL dt3 y3.to),(tU dt3 y3.to)⟩:far) (⟨1,fun _=>(⟨(w64 ((tL dt3 y3.from_)+y3.length)),(w64 ((tV dt3 y3.from_)+(1:Int)))⟩:far)⟩:(Sl far))).length,(zdb (⟨(tL dt3 y3.to),(tU dt3 y3.to)⟩:far) (⟨1,fun _=>(⟨(w64 ((tL dt3 y3.from_)+y3.length)),(w64 ((tV dt3 y3.from_)+(1:Int)))⟩:far)⟩:(Sl far))).uses]))))
def zsH (P2:Bool→Tab→Tab→Bool) (w:web) (y3:step) (P3:Bool→Tab→Tab→Bool) (zab:Bool) (t4t3:Tab) (dt3:Tab):Bool :=
  (decide ((0≤y3.from_∧y3.from_ < (40:Int))) &&
 (cond (nvr (tL dt3 y3.from_) (tU dt3 y3.from_))
 (P3 zab t4t3 dt3)
 (decide ((0≤y3.to∧y3.to < (40:Int))) &&
 (decide ((0≤y3.from_∧y3.from_ < (40:Int))) &&
 (decide ((0≤y3.from_∧y3.from_ < (40:Int))) &&
 (decide ((zDu (⟨(tL dt3 y3.to),(tU dt3 y3.to)⟩:far) (⟨1,fun _=>(⟨(w64 ((tL dt3 y3.from_)+y3.length)),(w64 ((tV dt3 y3.from_)+(1:Int)))⟩:far)⟩:(Sl far))=true)) &&
 (cond zab
 (decide ((0≤y3.to∧y3.to < (40:Int))) &&
 (P3 true t4t3 (ts 80 dt3 (0+y3.to.toNat * 2+0) [(zdb (⟨(tL dt3 y3.to),(tU dt3 y3.to)⟩:far) (⟨1,fun _=>(⟨(w64 ((tL dt3 y3.from_)+y3.length)),(w64 ((tV dt3 y3.from_)+(1:Int)))⟩:far)⟩:(Sl far))).length,(zdb (⟨(tL dt3 y3.to),(tU dt3 y3.to)⟩:far) (⟨1,fun _=>(⟨(w64 ((tL dt3 y3.from_)+y3.length)),(w64 ((tV dt3 y3.from_)+(1:Int)))⟩:far)⟩:(Sl far))).uses])))
 (decide ((0≤y3.to∧y3.to < (40:Int))) &&
 (decide ((0≤y3.to∧y3.to < (40:Int))) &&
 (P3 (!(match ((zdb (⟨(tL dt3 y3.to),(tU dt3 y3.to)⟩:far) (⟨1,fun _=>(⟨(w64 ((tL dt3 y3.from_)+y3.length)),(w64 ((tV dt3 y3.from_)+(1:Int)))⟩:far)⟩:(Sl far))).length == (tL dt3 y3.to)) with | true=>(match ((zdb (⟨(tL dt3 y3.to),(tU dt3 y3.to)⟩:far) (⟨1,fun _=>(⟨(w64 ((tL dt3 y3.from_)+y3.length)),(w64 ((tV dt3 y3.from_)+(1:Int)))⟩:far)⟩:(Sl far))).uses == (tU dt3 y3.to)) with | true=>true | false=>false) | false=>false)) t4t3 (ts 80 dt3 (0+y3.to.toNat * 2+0) [(zdb (⟨(tL dt3 y3.to),(tU dt3 y3.to)⟩:far) (⟨1,fun _=>(⟨(w64 ((tL dt3 y3.from_)+y3.length)),(w64 ((tV dt3 y3.from_)+(1:Int)))⟩:far)⟩:(Sl far))).length,(zdb (⟨(tL dt3 y3.to),(tU dt3 y3.to)⟩:far) (⟨1,fun _=>(⟨(w64 ((tL dt3 y3.from_)+y3.length)),(w64 ((tV dt3 y3.from_)+(1:Int)))⟩:far)⟩:(Sl far))).uses])))))))))))
def zlY (S2 : Bool → Tab → Tab → Tab) (w : web) : List step → Bool → Tab → Tab → Tab
  | []=>zsE S2 w
  | y :: r=>zsG S2 w y (zlY S2 w r)
def zlZ (P2 : Bool → Tab → Tab → Bool) (w : web) : List step → Bool → Tab → Tab → Bool
  | []=>zsF P2 w
  | y :: r=>zsH P2 w y (zlZ P2 w r)
def zzw (S2:Bool→Tab→Tab→Tab) (w:web) (zab:Bool) (t4t3:Tab) (dt3:Tab):Tab:=zlY S2 w (ziJ w) zab t4t3 dt3
def zsI (P2:Bool→Tab→Tab→Bool) (w:web) (zab:Bool) (t4t3:Tab) (dt3:Tab):Bool:=decide ((zmy w=true)) && zlZ P2 w (ziJ w) zab t4t3 dt3
theorem zF2 (K : List PA → Prop) (w : web)
  (X2:St→Prop) (P2:Bool→Tab→Tab→Bool) (S2:Bool→Tab→Tab→Tab)
  (hX2:∀ (zah:Bool) (t4t2:Tab) (dt2:Tab),P2 zah t4t2 dt2=true→K (e76 (S2 zah t4t2 dt2))→X2 (zjB w zah t4t2 dt2)) (zab:Bool) (t4t3:Tab) (dt3:Tab) (hs:zsI P2 w zab t4t3 dt3=true) (hk:K (e76 (zzw S2 w zab t4t3 dt3))):zlX K X2 w zab t4t3 dt3:=by
  unfold zsI at hs
  rw [Bool.and_eq_true] at hs
  obtain ⟨hsf,hs⟩:=hs
  have hc:=of_decide_eq_true hsf
  refine zzv K X2 w zab t4t3 dt3 ⟨isE,rfl,hc⟩ ?_
  intro X3 hexit hstep
  have key:∀ (l:List step) (zab:Bool) (t4t3:Tab) (dt3:Tab),zlZ P2 w l zab t4t3 dt3=true→K (e76 (zlY S2 w l zab t4t3 dt3))→X3 (l.map fun y=>[.agg (zad y)]) (zgy w zab t4t3 dt3):=by
    intro l
    induction l with
    | nil =>
      intro zab t4t3 dt3 hs hk
      refine hexit zab t4t3 dt3 ?_
      have hs:zsF P2 w zab t4t3 dt3=true:=hs
      have hk:K (e76 (zsE S2 w zab t4t3 dt3)):=hk
      unfold zsF at hs
      unfold zsE at hk
      exact (hX2 zab t4t3 dt3 hs hk)
    | cons y3 l ih =>
      intro zab t4t3 dt3 hs hk
      refine hstep y3 _ zab t4t3 dt3 ?_
      have hs:zsH P2 w y3 (zlZ P2 w l) zab t4t3 dt3=true:=hs
      have hk:K (e76 (zsG S2 w y3 (zlY S2 w l) zab t4t3 dt3)):=hk
      unfold zsH at hs
      unfold zsG at hk
      generalize zlY S2 w l=S3 at hk ih
      generalize zlZ P2 w l=P3 at hs ih
      have hX3:=ih
      exact (za6 hs fun hc hs => ⟨hc, (za2 (K := fun r => K (e76 r))
 (fun hs hk=>(hX3 zab t4t3 dt3 hs hk))
 (fun hs hk => (za6 hs fun hc hs => ⟨hc, (za6 hs fun hc hs => ⟨hc, (za6 hs fun hc hs => ⟨hc, (za6 hs fun hc hs => ⟨⟨zxz, hc⟩, (za2 (K := fun r => K (e76 r))
 (fun hs hk=>(za6 hs fun hc hs=>⟨hc,(hX3 true t4t3 (ts 80 dt3 (0+y3.to.toNat * 2+0) [(zdb (⟨(tL dt3 y3.to),(tU dt3 y3.to)⟩:far) (⟨1,fun _=>(⟨(w64 ((tL dt3 y3.from_)+y3.length)),(w64 ((tV dt3 y3.from_)+(1:Int)))⟩:far)⟩:(Sl far))).length,(zdb (⟨(tL dt3 y3.to),(tU dt3 y3.to)⟩:far) (⟨1,fun _=>(⟨(w64 ((tL dt3 y3.from_)+y3.length)),(w64 ((tV dt3 y3.from_)+(1:Int)))⟩:far)⟩:(Sl far))).uses]) hs hk)⟩))
 (fun hs hk=>(za6 hs fun hc hs=>⟨hc,(za6 hs fun hc hs=>⟨hc,(hX3 (!(match ((zdb (⟨(tL dt3 y3.to),(tU dt3 y3.to)⟩:far) (⟨1,fun _=>(⟨(w64 ((tL dt3 y3.from_)+y3.length)),(w64 ((tV dt3 y3.from_)+(1:Int)))⟩:far)⟩:(Sl far))).length == (tL dt3 y3.to)) with | true=>(match ((zdb (⟨(tL dt3 y3.to),(tU dt3 y3.to)⟩:far) (⟨1,fun _=>(⟨(w64 ((tL dt3 y3.from_)+y3.length)),(w64 ((tV dt3 y3.from_)+(1:Int)))⟩:far)⟩:(Sl far))).uses == (tU dt3 y3.to)) with | true=>true | false=>false) | false=>false)) t4t3 (ts 80 dt3 (0+y3.to.toNat * 2+0) [(zdb (⟨(tL dt3 y3.to),(tU dt3 y3.to)⟩:far) (⟨1,fun _=>(⟨(w64 ((tL dt3 y3.from_)+y3.length)),(w64 ((tV dt3 y3.from_)+(1:Int)))⟩:far)⟩:(Sl far))).length,(zdb (⟨(tL dt3 y3.to),(tU dt3 y3.to)⟩:far) (⟨1,fun _=>(⟨(w64 ((tL dt3 y3.from_)+y3.length)),(w64 ((tV dt3 y3.from_)+(1:Int)))⟩:far)⟩:(Sl far))).uses]) hs hk)⟩)⟩)) hs hk)⟩)⟩)⟩)⟩)) hs hk)⟩)
  exact key _ zab t4t3 dt3 hs hk
def zsJ (w:web) (S2:Bool→Tab→Tab→Tab) (zah:Bool) (t4t2:Tab) (dt2:Tab):Tab :=
  (cond zah
 (zzw S2 w false t4t2 dt2)
 dt2)
def zsK (w:web) (P2:Bool→Tab→Tab→Bool) (zah:Bool) (t4t2:Tab) (dt2:Tab):Bool :=
  (cond zah
 (zsI P2 w false t4t2 dt2)
 true)
def zl0 (w : web) : Nat → Bool → Tab → Tab → Tab
  | 0=>fun _ _ _=>default
  | k+1=>zsJ w (zl0 w k)
def zl1 (w : web) : Nat → Bool → Tab → Tab → Bool
  | 0=>fun _ _ _=>false
  | k+1=>zsK w (zl1 w k)
def zzx (w:web) (zah:Bool) (t4t2:Tab) (dt2:Tab):Tab:=zl0 w Fuel zah t4t2 dt2
def zzy (w:web) (zah:Bool) (t4t2:Tab) (dt2:Tab):Bool:=zl1 w Fuel zah t4t2 dt2
theorem zF3 (K:List PA→Prop) (w:web) (zah:Bool) (t4t2:Tab) (dt2:Tab) (hs:zzy w zah t4t2 dt2=true) (hk:K (e76 (zzx w zah t4t2 dt2))):zlW K w zah t4t2 dt2:=by
  refine zzu K w zah t4t2 dt2 ?_
  intro X2 hstep
  have key:∀ (k:Nat) (zah:Bool) (t4t2:Tab) (dt2:Tab),zl1 w k zah t4t2 dt2=true→K (e76 (zl0 w k zah t4t2 dt2))→X2 (zjB w zah t4t2 dt2):=by
    intro k
    induction k with
    | zero=>intro zah t4t2 dt2 hs;exact absurd hs Bool.false_ne_true
    | succ k ih =>
      intro zah t4t2 dt2 hs hk
      refine hstep zah t4t2 dt2 ?_
      have hs:zsK w (zl1 w k) zah t4t2 dt2=true:=hs
      have hk:K (e76 (zsJ w (zl0 w k) zah t4t2 dt2)):=hk
      unfold zsK at hs
      unfold zsJ at hk
      generalize zl0 w k=S2 at hk ih
      generalize zl1 w k=P2 at hs ih
      have hX2:=ih
      exact (za2 (K := fun r => K (e76 r))
 (fun hs hk=>⟨⟨isE,rfl⟩,(zF2 K w X2 P2 S2 hX2 false t4t2 dt2 hs hk)⟩)
 (fun hs hk=>hk) hs hk)
  exact key _ zah t4t2 dt2 hs hk
def zsL (w:web) (node:Int) (t4t1:Tab) (dt1:Tab):Tab :=
  (zzx w true t4t1 (ts 80 dt1 (0+node.toNat * 2+0) [(0:Int),(0:Int)]))
def zsM (w:web) (node:Int) (t4t1:Tab) (dt1:Tab):Bool :=
  (decide ((0≤node∧node < (40:Int))) &&
 (zzy w true t4t1 (ts 80 dt1 (0+node.toNat * 2+0) [(0:Int),(0:Int)])))
theorem zF4 (K:List PA→Prop) (w:web) (node:Int) (t4t1:Tab) (dt1:Tab) (hs:zsM w node t4t1 dt1=true) (hk:K (e76 (zsL w node t4t1 dt1))):zov K w node t4t1 dt1:=by
  refine zbd (zF1 K w node t4t1 dt1) ?_
  unfold zsM at hs
  unfold zsL at hk
  exact (za6 hs fun hc hs=>⟨hc,(zF3 K w true t4t1 (ts 80 dt1 (0+node.toNat * 2+0) [(0:Int),(0:Int)]) hs hk)⟩)
def zsN (w:web) (node:Int) (S0:Int→Tab→Tab→Tab) (zaJ:Int) (t4t0:Tab) (dt0:Tab):Tab :=
  (cond (decide (zaJ < (40:Int)))
 (S0 (w64 (zaJ+(1:Int))) t4t0 (ts 80 dt0 (0+zaJ.toNat * 2+0) [(1000000000000:Int),(0:Int)]))
 (zsL w node t4t0 dt0))
def zsO (w:web) (node:Int) (P0:Int→Tab→Tab→Bool) (zaJ:Int) (t4t0:Tab) (dt0:Tab):Bool :=
  (cond (decide (zaJ < (40:Int)))
 (decide ((0≤zaJ∧zaJ < (40:Int))) &&
 (P0 (w64 (zaJ+(1:Int))) t4t0 (ts 80 dt0 (0+zaJ.toNat * 2+0) [(1000000000000:Int),(0:Int)])))
 (zsM w node t4t0 dt0))
def zl2 (w : web) (node : Int) : Nat → Int → Tab → Tab → Tab
  | 0=>fun _ _ _=>default
  | k+1=>zsN w node (zl2 w node k)
def zl3 (w : web) (node : Int) : Nat → Int → Tab → Tab → Bool
  | 0=>fun _ _ _=>false
  | k+1=>zsO w node (zl3 w node k)
def zzz (w:web) (node:Int) (zaJ:Int) (t4t0:Tab) (dt0:Tab):Tab:=zl2 w node Fuel zaJ t4t0 dt0
def zzA (w:web) (node:Int) (zaJ:Int) (t4t0:Tab) (dt0:Tab):Bool:=zl3 w node Fuel zaJ t4t0 dt0
theorem zF5 (K:List PA→Prop) (w:web) (node:Int) (zaJ:Int) (t4t0:Tab) (dt0:Tab) (hs:zzA w node zaJ t4t0 dt0=true) (hk:K (e76 (zzz w node zaJ t4t0 dt0))):zlV K w node zaJ t4t0 dt0:=by
  refine zzt K w node zaJ t4t0 dt0 ?_
  intro X0 hstep
  have key:∀ (k:Nat) (zaJ:Int) (t4t0:Tab) (dt0:Tab),zl3 w node k zaJ t4t0 dt0=true→K (e76 (zl2 w node k zaJ t4t0 dt0))→X0 (zlU w node zaJ t4t0 dt0):=by
    intro k
    induction k with
    | zero=>intro zaJ t4t0 dt0 hs;exact absurd hs Bool.false_ne_true
    | succ k ih =>
      intro zaJ t4t0 dt0 hs hk
      refine hstep zaJ t4t0 dt0 ?_
      have hs:zsO w node (zl3 w node k) zaJ t4t0 dt0=true:=hs
      have hk:K (e76 (zsN w node (zl2 w node k) zaJ t4t0 dt0)):=hk
      unfold zsO at hs
      unfold zsN at hk
      generalize zl2 w node k=S0 at hk ih
      generalize zl3 w node k=P0 at hs ih
      have hX0:=ih
      exact (za2 (K := fun r => K (e76 r))
 (fun hs hk=>(za6 hs fun hc hs=>⟨hc,(hX0 (w64 (zaJ+(1:Int))) t4t0 (ts 80 dt0 (0+zaJ.toNat * 2+0) [(1000000000000:Int),(0:Int)]) hs hk)⟩))
 (fun hs hk=>(zF4 K w node t4t0 dt0 hs hk)) hs hk)
  exact key _ zaJ t4t0 dt0 hs hk
def s76 (w:web) (node:Int):Tab :=
  (zzz w node (0:Int) (fun _=>(0:Int)) (fun _=>(0:Int)))
def p76 (w:web) (node:Int):Bool :=
  (zzA w node (0:Int) (fun _=>(0:Int)) (fun _=>(0:Int)))
theorem q76 (w:web) (node:Int) (K:List PA→Prop) (hs:p76 w node=true) (hk:K (e76 (s76 w node))):vcFun Tryd.prog G76 zcN 76 [.one (.fp (zaC w) 0),.one (.int .i64 node)] K:=by
  refine zbd (zF0 w node K) ?_
  unfold p76 at hs
  unfold s76 at hk
  exact (zF5 K w node (0:Int) (fun _=>(0:Int)) (fun _=>(0:Int)) hs hk)
def zzB : List PA → COut
  | [.one (.fp [.int .i64 zas,.sl zal zaP zam,.fm zbK zaS zaT] 0),.one (.int .i64 a1)]=>.det (IsE zae 4 zaP zam∧zbK=(false,1,false,[none])∧p76 (⟨(⟨zas,(⟨zal,zar zam⟩:(Sl Tie))⟩:Net),(⟨zaS,zaT⟩:Mp)⟩:web) a1=true) [.agg (zac ((s76 (⟨(⟨zas,(⟨zal,zar zam⟩:(Sl Tie))⟩:Net),(⟨zaS,zaT⟩:Mp)⟩:web) a1)))]
  | _=>.no
theorem zJn:zax Tryd.prog 76:=⟨_,rfl,rfl,by kernel_rfl⟩
theorem zLj:Ok Tryd.prog 76 zzB:=zbY zLi zJn fun args K h=>by
  unfold zzB at h
  split at h
  · rename_i zas zal zaP zam zbK zaS zaT a1
    obtain ⟨⟨⟨rfl,zaB,rfl⟩,rfl,hs⟩,hk⟩:=h
    try rw [zau zaB] at hs
    try rw [zau zaB] at hk
    exact ⟨(fun _ _=>[]),(fun _=>false),zcN,q76 (⟨(⟨zas,(⟨zal,zaB⟩:(Sl Tie))⟩:Net),(⟨zaS,zaT⟩:Mp)⟩:web) a1 K hs hk⟩
  · exact h.elim
abbrev T26:Tabs:=(((Tabs.nil.addF 74 zzj).addF 75 zzs).addF 76 zzB)
theorem zLk:TabsOk Tryd.prog T26:=(((TabsOk.nil.addF zLf).addF zLh).addF zLj)
abbrev G26:Ctrs:=csm T26 (fun _ _=>[]) (fun _=>false)
def zF6:Ann:=⟨45,[(0,zK [1] [1]),(1,zK [1,4,5] [1]),(2,zK [1,4,5,16] [1]),(3,zK [2,3] []),(4,zK [1,6,7] [1,6,7]),(5,zK [6,7,8] [6,7,24]),(6,zK [6,7,8,26,27] [6,7,24]),(7,zK [6,7,8,26,27,28] [6,7,24]),(8,zK [6,7,8,9,26,27] [6,7,24]),(9,zK [6,7,8,26,27] [6,7,24]),(10,zK [6,7,8,26,27] [6,7,24]),(11,zK [2,3] [24])],
 [(7,zK [6,7,8,26,27] [6,7,24])],
 [],
 [],[]⟩
abbrev R26:=((Sl Span)×Int)
abbrev e26 (r:R26):List PA:=[.one (.sl r.1.len 2 (fun i=>zbQ (r.1.get i))),.one (.int .i64 r.2)]
@[irreducible] def z26:=ptF Tryd.prog G26 zF6 Tryd.f26
def zDK (n:Net) (zcO:Int) (zdt:(Sl Span)) (tot0:Tab) (fromt0:Tab) (zgz:Nat→List PV):St:=⟨[(6,zp 6 0),(7,zp 7 0),(8,zv 24),(26,zI (n.Nodes.toNat:Int)),(27,zI zcO)],[(6,.box 116 (zm (zac tot0))),(7,.box 116 (zm (zac fromt0))),(24,.vec 43 2 16 zdt.len zgz)],[]⟩
abbrev zJo (K:List PA→Prop) (n:Net) (X:St→Prop) (P:Int→(Sl Span)→Tab→Tab→Bool) (S:Int→(Sl Span)→Tab→Tab→((Sl Span)×Int)):Prop:=∀ ⦃zcO:Int⦄ ⦃zdt:(Sl Span)⦄ ⦃tot0:Tab⦄ ⦃fromt0:Tab⦄ ⦃zgz:Nat→List PV⦄,P zcO zdt tot0 fromt0=true→K (e26 (S zcO zdt tot0 fromt0))→zgz=zg zbQ zdt→X (zDK n zcO zdt tot0 fromt0 zgz)
section
variable {K:List PA→Prop} {n:Net} {zcO:Int} {zdt:(Sl Span)} {tot0:Tab} {fromt0:Tab} {zgz:Nat→List PV} {X0:St→Prop} {P0:Int→(Sl Span)→Tab→Tab→Bool} {S0:Int→(Sl Span)→Tab→Tab→((Sl Span)×Int)}
def zzC (n:Net) (S0:Int→(Sl Span)→Tab→Tab→((Sl Span)×Int)) (zcO:Int) (zdt:(Sl Span)) (tot0:Tab) (fromt0:Tab):((Sl Span)×Int) :=
  (cond (decide (zcO < (n.Nodes.toNat : Int)))
 (S0 (w64 (zcO+(1:Int))) (⟨zdt.len,(setT zcO.toNat (⟨(w64 (0 - (tg 80 tot0 (0+zcO.toNat * 2+0)))),(tg 80 fromt0 (0+zcO.toNat * 2+0))⟩:Span) zdt.get)⟩:Sl Span) tot0 fromt0)
 (zdt,(0:Int)))
def zzD (n:Net) (P0:Int→(Sl Span)→Tab→Tab→Bool) (zcO:Int) (zdt:(Sl Span)) (tot0:Tab) (fromt0:Tab):Bool :=
  (cond (decide (zcO < (n.Nodes.toNat : Int)))
 (decide ((0≤zcO∧zcO < (40:Int))) &&
 (decide ((0≤zcO∧zcO < (40:Int))) &&
 (decide ((0≤zcO∧zcO < (zdt.len:Int))) &&
 (decide ((zcO.toNat < zdt.len)) &&
 (P0 (w64 (zcO+(1:Int))) (⟨zdt.len,(setT zcO.toNat (⟨(w64 (0 - (tg 80 tot0 (0+zcO.toNat * 2+0)))),(tg 80 fromt0 (0+zcO.toNat * 2+0))⟩:Span) zdt.get)⟩:Sl Span) tot0 fromt0)))))
 true)
def zzE (n:Net):Nat→Int→(Sl Span)→Tab→Tab→((Sl Span)×Int):=lpO (fun _ _ _ _=>default) (zzC n)
def zzF (n:Net):Nat→Int→(Sl Span)→Tab→Tab→Bool:=lpO (fun _ _ _ _=>false) (zzD n)
def zzG (n:Net) (zcO:Int) (zdt:(Sl Span)) (tot0:Tab) (fromt0:Tab):((Sl Span)×Int):=zzE n Fuel zcO zdt tot0 fromt0
def zzH (n:Net) (zcO:Int) (zdt:(Sl Span)) (tot0:Tab) (fromt0:Tab):Bool:=zzF n Fuel zcO zdt tot0 fromt0
theorem zF7 (hs:zzH n zcO zdt tot0 fromt0=true) (hk:K (e26 (zzG n zcO zdt tot0 fromt0))) (zsP:zgz=zg zbQ zdt):z26 (Wk K) [1,1,1,1,1,0,1,0] [] (zDK n zcO zdt tot0 fromt0 zgz) :=
  zl (fun X=>z26 (Wk K) [1,1,1,1,1,0,1,0,0] [X]) (by kernel_rfl) fun X0 hX =>
  (show ∀ k, zJo K n X0 (zzF n k) (zzE n k) from zhs _ _ (zzD n) (zzC n) (zJo K n X0)
 (by intro _ _ _ _ _ hs;exact absurd hs Bool.false_ne_true)
 (by intro P0 S0 hX0 zcO zdt tot0 fromt0 zgz hs hk zsP;subst zsP;exact hX _ (zbd (by kernel_rfl) (zc hs hk (fun hs hk=>(za6 hs fun hc hs=>And.intro hc (za6 hs fun hc hs=>And.intro hc (za6 hs fun hc hs=>And.intro hc (za6 hs fun hc hs=>And.intro hc (hX0 hs hk (zm5 (enc:=zbQ) (i:=zcO.toNat) (k:=0) (f:=zdt.get) (new:=(zbQ (⟨(w64 (0 - (tg 80 tot0 (0+zcO.toNat * 2+0)))),(tg 80 fromt0 (0+zcO.toNat * 2+0))⟩:Span))) (v:=(⟨(w64 (0 - (tg 80 tot0 (0+zcO.toNat * 2+0)))),(tg 80 fromt0 (0+zcO.toNat * 2+0))⟩:Span)) rfl rfl))))))) (fun hs hk=>((zfS hk):Wk K [.one (.sl zdt.len 2 (fun i=>zbQ (zdt.get i))),.one (.int .i64 (0:Int))])))))) _ hs hk zsP
def s26 (n:Net):((Sl Span)×Int) :=
  (cond ((s74 n (⟨0, fun _ => default⟩ : (Sl Int))).2 == 0)
 (cond ((0:Int) != (0:Int))
 ((⟨0,fun _=>default⟩:(Sl Span)),(0:Int))
 (zzG n (0:Int) (⟨n.Nodes.toNat,(fun _=>(⟨(0:Int),(0:Int)⟩:Span))⟩:Sl Span) (s75 (⟨(s74 n (⟨0,fun _=>default⟩:(Sl Int))).1.Net,((s74 n (⟨0,fun _=>default⟩:(Sl Int))).1.out)⟩:web) (0:Int)) (s76 (⟨(s74 n (⟨0,fun _=>default⟩:(Sl Int))).1.Net,((s74 n (⟨0,fun _=>default⟩:(Sl Int))).1.out)⟩:web) (0:Int))))
 (cond ((s74 n (⟨0, fun _ => default⟩ : (Sl Int))).2 != (0:Int))
 ((⟨0,fun _=>default⟩:(Sl Span)),(s74 n (⟨0,fun _=>default⟩:(Sl Int))).2)
 default))
def p26 (n:Net):Bool :=
  (cond ((s74 n (⟨0, fun _ => default⟩ : (Sl Int))).2 == 0)
 (decide ((p74 n (⟨0,fun _=>default⟩:(Sl Int))=true)) &&
 (cond ((0:Int) != (0:Int))
 true
 (decide ((p75 (⟨(s74 n (⟨0,fun _=>default⟩:(Sl Int))).1.Net,((s74 n (⟨0,fun _=>default⟩:(Sl Int))).1.out)⟩:web) (0:Int)=true)) &&
 (decide ((p76 (⟨(s74 n (⟨0,fun _=>default⟩:(Sl Int))).1.Net,((s74 n (⟨0,fun _=>default⟩:(Sl Int))).1.out)⟩:web) (0:Int)=true)) &&
 (decide ((0≤n.Nodes∧n.Nodes=n.Nodes∧n.Nodes≤1000000)) &&
 (zzH n (0:Int) (⟨n.Nodes.toNat,(fun _=>(⟨(0:Int),(0:Int)⟩:Span))⟩:Sl Span) (s75 (⟨(s74 n (⟨0,fun _=>default⟩:(Sl Int))).1.Net,((s74 n (⟨0,fun _=>default⟩:(Sl Int))).1.out)⟩:web) (0:Int)) (s76 (⟨(s74 n (⟨0,fun _=>default⟩:(Sl Int))).1.Net,((s74 n (⟨0,fun _=>default⟩:(Sl Int))).1.out)⟩:web) (0:Int))))))))
 (decide ((p74 n (⟨0,fun _=>default⟩:(Sl Int))=true)) &&
 (cond ((s74 n (⟨0, fun _ => default⟩ : (Sl Int))).2 != (0:Int))
 true
 false)))
end
theorem q26 (n:Net) (K:List PA→Prop) (hs:p26 n=true) (hk:K (e26 (s26 n))):vcFun Tryd.prog G26 zF6 26 [.agg (enc_24 n)] (Wk K) :=
  zbd (by kernel_rfl) (zc hs hk (fun hs hk=>(za6 hs fun hc hs=>And.intro (And.intro (zE zae 4 n.Ties.get) hc) (zc hs hk (fun hs hk=>((wk hk (zcw (.one (.nil _ _)) (zcw (.one (.rfl _)) zeB))):Wk K [.one (.nils),.one (.int .i64 (0:Int))])) (fun hs hk=>(za6 hs fun hc hs=>And.intro (And.intro (zE zae 4 ((s74 n (⟨0,fun _=>default⟩:(Sl Int))).1.Net.Ties.get)) (And.intro (rfl:((false,1,false,[none]):MQ)=(false,1,false,[none])) hc)) (za6 hs fun hc hs=>And.intro (And.intro (zE zae 4 ((s74 n (⟨0,fun _=>default⟩:(Sl Int))).1.Net.Ties.get)) (And.intro (rfl:((false,1,false,[none]):MQ)=(false,1,false,[none])) hc)) (za6 hs fun hc hs=>And.intro hc (zF7 hs hk rfl)))))))) (fun hs hk=>(za6 hs fun hc hs=>And.intro (And.intro (zE zae 4 n.Ties.get) hc) (zc hs hk (fun hs hk=>((wk hk (zcw (.one (.nil _ _)) (zcw (.one (.rfl _)) zeB))):Wk K [.one (.nils),.one (.int .i64 ((s74 n (⟨0,fun _=>default⟩:(Sl Int))).2))])) (fun hs hk=>(absurd hs Bool.false_ne_true:False))))))
def zF8 : List PA → COut
  | [.agg [.int .i64 zao,.sl zak zaV zaj]]=>.det (IsE zae 4 zaV zaj∧p26 (⟨zao,(⟨zak,zar zaj⟩:(Sl Tie))⟩:Net)=true) [.one (.sl (((s26 (⟨zao,(⟨zak,zar zaj⟩:(Sl Tie))⟩:Net)).1).len) 2 (fun i=>zbQ (((s26 (⟨zao,(⟨zak,zar zaj⟩:(Sl Tie))⟩:Net)).1).get i))),.one (.int .i64 ((s26 (⟨zao,(⟨zak,zar zaj⟩:(Sl Tie))⟩:Net)).2))]
  | _=>.no
theorem zJp:zax Tryd.prog 26:=⟨_,rfl,rfl,by kernel_rfl⟩
theorem zM6:Ok Tryd.prog 26 zF8:=zgf zLk zJp fun args K h=>by
  unfold zF8 at h
  split at h
  · rename_i zao zak zaV zaj
    obtain ⟨⟨⟨rfl,zaL,rfl⟩,hs⟩,hk⟩:=h
    try rw [zau zaL] at hs
    try rw [zau zaL] at hk
    exact ⟨_,zff zfR _,(fun _ _=>[]),(fun _=>false),zF6,q26 (⟨zao,(⟨zak,zaL⟩:(Sl Tie))⟩:Net) K hs hk⟩
  · exact h.elim
abbrev T29:Tabs:=Tabs.nil
theorem zLl:TabsOk Tryd.prog T29:=TabsOk.nil
abbrev G29:Ctrs:=csm T29 (fun _ _=>[]) (fun _=>false)
def zJq:Ann:=⟨13,[(0,zK [2,3,4] [2,3,4]),(1,zK [2,4] [2,4,7]),(2,zK [4] [4,7])],
 [],
 [],
 [],[]⟩
abbrev R29:=Net
abbrev e29 (r:R29):List PA:=[.agg [.int .i64 r.Nodes,.sl r.Ties.len 4 (fun i=>zae (r.Ties.get i))]]
section
variable {K:List PA→Prop} {n:Net} {t:Tie}
def s29 (n:Net) (t:Tie):Net :=
  (⟨n.Nodes,(⟨(n.Ties.len+1),(zms n.Ties.len n.Ties.get (fun _=>t))⟩:(Sl Tie))⟩:Net)
def p29 (n:Net) (t:Tie):Bool :=
  (decide ((n.Ties.len * 32≤140737488355328∧n.Ties.len≤9223372036854775807)) &&
 (decide (((n.Ties.len+1) * 32≤140737488355328∧n.Ties.len+1≤9223372036854775807)) &&
 true))
end
theorem q29 (n:Net) (t:Tie) (K:List PA→Prop) (hs:p29 n t=true) (hk:K (e29 (s29 n t))):vcFun Tryd.prog G29 zJq 29 [.agg (enc_24 n),.agg (zae t)] K :=
  zbd (by kernel_rfl) (za6 hs fun hc hs=>And.intro hc (za6 hs fun hc hs=>And.intro hc (Eq.mpr (congrArg K (congrArg (fun (g_:Nat→List PV)=>([.agg [.int .i64 n.Nodes,.sl (n.Ties.len+1) 4 g_]]:List PA)) (zh0 (enc:=zae) (f:=n.Ties.get) (h:=(fun _=>t)) rfl rfl))) hk)))
def zF9 : List PA → COut
  | [.agg [.int .i64 zao,.sl zak zaV zaj],.agg [.int .i64 ze2,.int .i64 zmz,.int .i64 zhf,.int .i64 ze3]]=>.det (IsE zae 4 zaV zaj∧p29 (⟨zao,(⟨zak,zar zaj⟩:(Sl Tie))⟩:Net) (⟨ze2,zmz,zhf,ze3⟩:Tie)=true) [.agg [.int .i64 ((s29 (⟨zao,(⟨zak,zar zaj⟩:(Sl Tie))⟩:Net) (⟨ze2,zmz,zhf,ze3⟩:Tie)).Nodes),.sl ((s29 (⟨zao,(⟨zak,zar zaj⟩:(Sl Tie))⟩:Net) (⟨ze2,zmz,zhf,ze3⟩:Tie)).Ties.len) 4 (fun i=>zae ((s29 (⟨zao,(⟨zak,zar zaj⟩:(Sl Tie))⟩:Net) (⟨ze2,zmz,zhf,ze3⟩:Tie)).Ties.get i))]]
  | _=>.no
theorem zJr:zax Tryd.prog 29:=⟨_,rfl,rfl,by kernel_rfl⟩
theorem zM7:Ok Tryd.prog 29 zF9:=zbY zLl zJr fun args K h=>by
  unfold zF9 at h
  split at h
  · rename_i zao zak zaV zaj ze2 zmz zhf ze3
    obtain ⟨⟨⟨rfl,zaL,rfl⟩,hs⟩,hk⟩:=h
    try rw [zau zaL] at hs
    try rw [zau zaL] at hk
    exact ⟨(fun _ _=>[]),(fun _=>false),zJq,q29 (⟨zao,(⟨zak,zaL⟩:(Sl Tie))⟩:Net) (⟨ze2,zmz,zhf,ze3⟩:Tie) K hs hk⟩
  · exact h.elim
abbrev T32:Tabs:=Tabs.nil
theorem zLm:TabsOk Tryd.prog T32:=TabsOk.nil
abbrev G32:Ctrs:=csm T32 (fun _ _=>[]) (fun _=>false)
def zGa:Ann:=⟨26,[(0,zK [0,1] []),(1,zK [0,1,10] []),(2,zK [4] []),(3,zK [0,1,5] []),(4,zK [0,1,5,14] []),(5,zK [0,1,5] []),(6,zK [0,1,5,25] []),(7,zK [4] []),(8,zK [4] [])],
 [(4,zK [0,1,5] [])],
 [(3,zK [0,1] [])],
 [],[]⟩
abbrev R32:=Bool
abbrev e32 (r:R32):List PA:=[.one (.bool r)]
@[irreducible] def z32:=ptF Tryd.prog G32 zGa Tryd.f32
def zDL (a:(Sl Span)) (b:(Sl Span)) (iv1:Int):St:=⟨[(0,zS zbQ 2 a),(1,zS zbQ 2 b),(5,zI iv1)],[],[]⟩
abbrev zJs (K:List PA→Prop) (a:(Sl Span)) (b:(Sl Span)) (X:St→Prop) (P:Int→Bool) (S:Int→Bool):Prop:=∀ ⦃iv1:Int⦄,P iv1=true→K (e32 (S iv1))→X (zDL a b iv1)
section
variable {K:List PA→Prop} {a:(Sl Span)} {b:(Sl Span)} {iv1:Int} {X1:St→Prop} {P1:Int→Bool} {S1:Int→Bool}
def zzI (a:(Sl Span)) (b:(Sl Span)) (S1:Int→Bool) (iv1:Int):Bool :=
  (cond (decide (iv1 < (a.len : Int)))
 (cond (!(match ((a.get iv1.toNat).Low == (b.get iv1.toNat).Low) with | true => (match ((a.get iv1.toNat).High == (b.get iv1.toNat).High) with | true => true | false => false) | false => false))
 false
 (S1 (w64 (iv1+(1:Int)))))
 true)
def zzJ (a:(Sl Span)) (b:(Sl Span)) (P1:Int→Bool) (iv1:Int):Bool :=
  (cond (decide (iv1 < (a.len : Int)))
 (decide ((0≤iv1∧iv1 < (a.len:Int))) &&
 (decide ((0≤iv1∧iv1 < (b.len:Int))) &&
 (cond (!(match ((a.get iv1.toNat).Low == (b.get iv1.toNat).Low) with | true => (match ((a.get iv1.toNat).High == (b.get iv1.toNat).High) with | true => true | false => false) | false => false))
 true
 (P1 (w64 (iv1+(1:Int)))))))
 true)
def zzK (a:(Sl Span)) (b:(Sl Span)):Nat→Int→Bool:=lpO (fun _=>default) (zzI a b)
def zzL (a:(Sl Span)) (b:(Sl Span)):Nat→Int→Bool:=lpO (fun _=>false) (zzJ a b)
def zzM (a:(Sl Span)) (b:(Sl Span)) (iv1:Int):Bool:=zzK a b Fuel iv1
def zzN (a:(Sl Span)) (b:(Sl Span)) (iv1:Int):Bool:=zzL a b Fuel iv1
theorem zGb (hs:zzN a b iv1=true) (hk:K (e32 (zzM a b iv1))):z32 K [1,1,0,1,0] [] (zDL a b iv1) :=
  zl (fun X=>z32 K [1,1,0,1,0,0] [X]) (by kernel_rfl) fun X1 hX =>
  (show ∀ k, zJs K a b X1 (zzL a b k) (zzK a b k) from zhs _ _ (zzJ a b) (zzI a b) (zJs K a b X1)
 (by intro _ hs;exact absurd hs Bool.false_ne_true)
 (by intro P1 S1 hX1 iv1 hs hk;exact hX _ (zbd (by kernel_rfl) (zc hs hk (fun hs hk=>(za6 hs fun hc hs=>And.intro hc (za6 hs fun hc hs=>And.intro hc (zc hs hk (fun hs hk=>hk) (fun hs hk=>(hX1 hs hk)))))) (fun hs hk=>hk))))) _ hs hk
def zzO (a:(Sl Span)) (b:(Sl Span)):Bool :=
  (zzM a b (0:Int))
def zzP (a:(Sl Span)) (b:(Sl Span)):Bool :=
  (zzN a b (0:Int))
theorem zGc (hs:zzP a b=true) (hk:K (e32 (zzO a b))):z32 K [1,1] [] ⟨[(0,zS zbQ 2 a),(1,zS zbQ 2 b)],[],[]⟩:=zbd (by kernel_rfl) (zGb hs hk)
def s32 (a:(Sl Span)) (b:(Sl Span)):Bool :=
  (cond ((a.len : Int) != (b.len : Int))
 false
 (zzO a b))
def p32 (a:(Sl Span)) (b:(Sl Span)):Bool :=
  (cond ((a.len : Int) != (b.len : Int))
 true
 (zzP a b))
end
theorem q32 (a:(Sl Span)) (b:(Sl Span)) (K:List PA→Prop) (hs:p32 a b=true) (hk:K (e32 (s32 a b))):vcFun Tryd.prog G32 zGa 32 [.one (.sl a.len 2 (fun i=>zbQ (a.get i))),.one (.sl b.len 2 (fun i=>zbQ (b.get i)))] K :=
  zbd (by kernel_rfl) (zc hs hk (fun hs hk=>hk) (fun hs hk=>(zGc hs hk)))
def zGd : List PA → COut
  | [.one (.sl zdw zii zdx),.one (.sl zdH ziO zdE)]=>.det (IsE zbQ 2 zii zdx∧IsE zbQ 2 ziO zdE∧p32 (⟨zdw,zgg zdx⟩:(Sl Span)) (⟨zdH,zgg zdE⟩:(Sl Span))=true) [.one (.bool (s32 (⟨zdw,zgg zdx⟩:(Sl Span)) (⟨zdH,zgg zdE⟩:(Sl Span))))]
  | _=>.no
theorem zJt:zax Tryd.prog 32:=⟨_,rfl,rfl,by kernel_rfl⟩
theorem ok32:Ok Tryd.prog 32 zGd:=zbY zLm zJt fun args K h=>by
  unfold zGd at h
  split at h
  · rename_i zdw zii zdx zdH ziO zdE
    obtain ⟨⟨⟨rfl,zfx,rfl⟩,⟨rfl,zgo,rfl⟩,hs⟩,hk⟩:=h
    try rw [zfv zfx] at hs
    try rw [zfv zfx] at hk
    try rw [zfv zgo] at hs
    try rw [zfv zgo] at hk
    exact ⟨(fun _ _=>[]),(fun _=>false),zGa,q32 (⟨zdw,zfx⟩:(Sl Span)) (⟨zdH,zgo⟩:(Sl Span)) K hs hk⟩
  · exact h.elim
abbrev T83:Tabs:=((Tabs.nil.addF 75 zzs).addF 76 zzB)
theorem zLn:TabsOk Tryd.prog T83:=((TabsOk.nil.addF zLh).addF zLj)
abbrev G83:Ctrs:=csm T83 (fun _ _=>[]) (fun _=>false)
def zGe:Ann:=⟨31,[(0,zK [0] []),(1,zK [0,3,4] [3,4]),(2,zK [3,4,14,15] [3,4]),(3,zK [3,4,14,15,16] [3,4]),(4,zK [3,4,5,14,15] [3,4]),(5,zK [3,4,14,15,29] [3,4]),(6,zK [2] []),(7,zK [3,4,14,15] [3,4]),(8,zK [2] [])],
 [(3,zK [3,4,14,15] [3,4])],
 [(2,zK [0,3,4] [3,4])],
 [],[]⟩
abbrev R83:=Bool
abbrev e83 (r:R83):List PA:=[.one (.bool r)]
@[irreducible] def z83:=ptF Tryd.prog G83 zGe Tryd.f83
def zDM (w:web) (zdc:Int) (tot1:Tab) (fromt1:Tab):St:=⟨[(3,zp 3 0),(4,zp 4 0),(14,zI w.Net.Nodes),(15,zI zdc)],[(3,.box 116 (zm (zac tot1))),(4,.box 116 (zm (zac fromt1)))],[]⟩
abbrev zJu (K:List PA→Prop) (w:web) (X:St→Prop) (P:Int→Tab→Tab→Bool) (S:Int→Tab→Tab→Bool):Prop:=∀ ⦃zdc:Int⦄ ⦃tot1:Tab⦄ ⦃fromt1:Tab⦄,P zdc tot1 fromt1=true→K (e83 (S zdc tot1 fromt1))→X (zDM w zdc tot1 fromt1)
section
variable {K:List PA→Prop} {w:web} {tot0:Tab} {fromt0:Tab} {zdc:Int} {tot1:Tab} {fromt1:Tab} {X1:St→Prop} {P1:Int→Tab→Tab→Bool} {S1:Int→Tab→Tab→Bool}
def zzQ (w:web) (S1:Int→Tab→Tab→Bool) (zdc:Int) (tot1:Tab) (fromt1:Tab):Bool :=
  (cond (decide (zdc < w.Net.Nodes))
 (cond (match ((tg 80 tot1 (0 + zdc.toNat * 2 + 0)) == (1000000000000:Int)) with | true => (match ((tg 80 tot1 (0 + zdc.toNat * 2 + 0 + 1)) == (0:Int)) with | true => true | false => false) | false => false)
 false
 (cond (match ((tg 80 fromt1 (0 + zdc.toNat * 2 + 0)) == (1000000000000:Int)) with | true => (match ((tg 80 fromt1 (0 + zdc.toNat * 2 + 0 + 1)) == (0:Int)) with | true => true | false => false) | false => false)
 false
 (S1 (w64 (zdc+(1:Int))) tot1 fromt1)))
 true)
def zzR (w:web) (P1:Int→Tab→Tab→Bool) (zdc:Int) (tot1:Tab) (fromt1:Tab):Bool :=
  (cond (decide (zdc < w.Net.Nodes))
 (decide ((0≤zdc∧zdc < (40:Int))) &&
 (cond (match ((tg 80 tot1 (0 + zdc.toNat * 2 + 0)) == (1000000000000:Int)) with | true => (match ((tg 80 tot1 (0 + zdc.toNat * 2 + 0 + 1)) == (0:Int)) with | true => true | false => false) | false => false)
 true
 (decide ((0≤zdc∧zdc < (40:Int))) &&
 (cond (match ((tg 80 fromt1 (0 + zdc.toNat * 2 + 0)) == (1000000000000:Int)) with | true => (match ((tg 80 fromt1 (0 + zdc.toNat * 2 + 0 + 1)) == (0:Int)) with | true => true | false => false) | false => false)
 true
 (P1 (w64 (zdc+(1:Int))) tot1 fromt1)))))
 true)
def zzS (w:web):Nat→Int→Tab→Tab→Bool:=lpO (fun _ _ _=>default) (zzQ w)
def zzT (w:web):Nat→Int→Tab→Tab→Bool:=lpO (fun _ _ _=>false) (zzR w)
def zzU (w:web) (zdc:Int) (tot1:Tab) (fromt1:Tab):Bool:=zzS w Fuel zdc tot1 fromt1
def zzV (w:web) (zdc:Int) (tot1:Tab) (fromt1:Tab):Bool:=zzT w Fuel zdc tot1 fromt1
theorem zGf (hs:zzV w zdc tot1 fromt1=true) (hk:K (e83 (zzU w zdc tot1 fromt1))):z83 K [1,1,0,1,0] [] (zDM w zdc tot1 fromt1) :=
  zl (fun X=>z83 K [1,1,0,1,0,0] [X]) (by kernel_rfl) fun X1 hX =>
  (show ∀ k, zJu K w X1 (zzT w k) (zzS w k) from zhs _ _ (zzR w) (zzQ w) (zJu K w X1)
 (by intro _ _ _ hs;exact absurd hs Bool.false_ne_true)
 (by intro P1 S1 hX1 zdc tot1 fromt1 hs hk;exact hX _ (zbd (by kernel_rfl) (zc hs hk (fun hs hk=>(za6 hs fun hc hs=>And.intro hc (zc hs hk (fun hs hk=>hk) (fun hs hk=>(za6 hs fun hc hs=>And.intro hc (zc hs hk (fun hs hk=>hk) (fun hs hk=>(hX1 hs hk)))))))) (fun hs hk=>hk))))) _ hs hk
def zzW (w:web) (tot0:Tab) (fromt0:Tab):Bool :=
  (zzU w (0:Int) tot0 fromt0)
def zzX (w:web) (tot0:Tab) (fromt0:Tab):Bool :=
  (zzV w (0:Int) tot0 fromt0)
theorem zGg (hs:zzX w tot0 fromt0=true) (hk:K (e83 (zzW w tot0 fromt0))):z83 K [1,1] [] ⟨[(0,zP (.fp (zaC w) 0)),(3,zp 3 0),(4,zp 4 0)],[(3,.box 116 (zm (zac tot0))),(4,.box 116 (zm (zac fromt0)))],[]⟩:=zbd (by kernel_rfl) (zGf hs hk)
def s83 (w:web):Bool :=
  (zzW w (s75 w (0:Int)) (s76 w (0:Int)))
def p83 (w:web):Bool :=
  (decide ((p75 w (0:Int)=true)) &&
 (decide ((p76 w (0:Int)=true)) &&
 (zzX w (s75 w (0:Int)) (s76 w (0:Int)))))
end
theorem q83 (w:web) (K:List PA→Prop) (hs:p83 w=true) (hk:K (e83 (s83 w))):vcFun Tryd.prog G83 zGe 83 [.one (.fp (zaC w) 0)] K :=
  zbd (by kernel_rfl) (za6 hs fun hc hs=>And.intro (And.intro (zE zae 4 w.Net.Ties.get) (And.intro (rfl:((false,1,false,[none]):MQ)=(false,1,false,[none])) hc)) (za6 hs fun hc hs=>And.intro (And.intro (zE zae 4 w.Net.Ties.get) (And.intro (rfl:((false,1,false,[none]):MQ)=(false,1,false,[none])) hc)) (zGg hs hk)))
def zGh : List PA → COut
  | [.one (.fp [.int .i64 zas,.sl zal zaP zam,.fm zbK zaS zaT] 0)]=>.det (IsE zae 4 zaP zam∧zbK=(false,1,false,[none])∧p83 (⟨(⟨zas,(⟨zal,zar zam⟩:(Sl Tie))⟩:Net),(⟨zaS,zaT⟩:Mp)⟩:web)=true) [.one (.bool (s83 (⟨(⟨zas,(⟨zal,zar zam⟩:(Sl Tie))⟩:Net),(⟨zaS,zaT⟩:Mp)⟩:web)))]
  | _=>.no
theorem zJv:zax Tryd.prog 83:=⟨_,rfl,rfl,by kernel_rfl⟩
theorem zM8:Ok Tryd.prog 83 zGh:=zbY zLn zJv fun args K h=>by
  unfold zGh at h
  split at h
  · rename_i zas zal zaP zam zbK zaS zaT
    obtain ⟨⟨⟨rfl,zaB,rfl⟩,rfl,hs⟩,hk⟩:=h
    try rw [zau zaB] at hs
    try rw [zau zaB] at hk
    exact ⟨(fun _ _=>[]),(fun _=>false),zGe,q83 (⟨(⟨zas,(⟨zal,zaB⟩:(Sl Tie))⟩:Net),(⟨zaS,zaT⟩:Mp)⟩:web) K hs hk⟩
  · exact h.elim
abbrev T87:Tabs:=Tabs.nil
theorem zLo:TabsOk Tryd.prog T87:=TabsOk.nil
abbrev G87:Ctrs:=csm T87 (fun _ _=>[]) (fun _=>false)
def zJw:Ann:=⟨12,[(0,zK [0,1] []),(1,zK [3] [])],
 [],
 [],
 [],[]⟩
abbrev R87:=Int
abbrev e87 (r:R87):List PA:=[.one (.int .i64 r)]
section
variable {K:List PA→Prop} {c0:Tab} {i_a0:Int}
def s87 (c0:Tab) (i_a0:Int):Int :=
  (w64 ((tg 80 c0 (0+i_a0.toNat * 2+0)) - (tg 80 c0 (0+0 * 2+0))))
def p87 (c0:Tab) (i_a0:Int):Bool :=
  (decide ((0≤i_a0∧i_a0 < (40:Int))) &&
 (decide ((0≤(0:Int)∧(0:Int) < (40:Int))) &&
 true))
end
theorem q87 (c0:Tab) (i_a0:Int) (K:List PA→Prop) (hs:p87 c0 i_a0=true) (hk:K (e87 (s87 c0 i_a0))):vcFun Tryd.prog G87 zJw 87 [.one (.int .i64 i_a0),.one (.fp (zac c0) 0)] K :=
  zbd (by kernel_rfl) (za6 hs fun hc hs=>And.intro hc (za6 hs fun hc hs=>And.intro hc hk))
def zGi : List PA → COut
  | [.one (.int .i64 a0),.one (.fp c0_t 0)]=>.det (c0_t=zac (zbl c0_t)∧p87 (zbl c0_t) a0=true) [.one (.int .i64 (s87 (zbl c0_t) a0))]
  | _=>.no
theorem zJx:zax Tryd.prog 87:=⟨_,rfl,rfl,by kernel_rfl⟩
theorem zM9:Ok Tryd.prog 87 zGi:=zbY zLo zJx fun args K h=>by
  unfold zGi at h
  split at h
  · rename_i a0 c0_t
    obtain ⟨⟨hT_c0,hs⟩,hk⟩:=h
    exact ⟨(fun _ _=>[]),(fun _=>false),zJw,(by have hq:=q87 (zbl c0_t) a0 K hs hk;rw [← hT_c0] at hq;exact hq)⟩
  · exact h.elim
abbrev T84:Tabs:=(Tabs.nil.addF 87 zGi)
theorem zLp:TabsOk Tryd.prog T84:=(TabsOk.nil.addF zM9)
abbrev G84:Ctrs:=csm T84 (fun _ _=>[]) (fun _=>false)
def zGj:Ann:=⟨26,[(0,zK [0,1] []),(1,zK [1,5] [12]),(2,zK [1,5,14,15] [12]),(3,zK [1,5,14,15,16] [12]),(4,zK [1,5,6,14,15] [12]),(5,zK [1,5,14,15] [12]),(6,zK [1,5,14,15] [12]),(7,zK [4] [12])],
 [(3,zK [1,5,14,15] [12])],
 [],
 [],[]⟩
abbrev R84:=(Sl Int)
abbrev e84 (r:R84):List PA:=[.one (.sl r.len 1 (fun i=>enc_3 (r.get i)))]
@[irreducible] def z84:=ptF Tryd.prog G84 zGj Tryd.f84
def zDN (c0:Tab) (w:web) (zbw:Int) (zdO:(Sl Int)) (zgA:Nat→List PV):St:=⟨[(1,zP (.fn 87 [] [.fp (zac c0) 0])),(5,zv 12),(14,zI (w.Net.Nodes.toNat:Int)),(15,zI zbw)],[(12,.vec 3 1 8 zdO.len zgA)],[]⟩
abbrev zJy (K:List PA→Prop) (c0:Tab) (w:web) (X:St→Prop) (P:Int→(Sl Int)→Bool) (S:Int→(Sl Int)→(Sl Int)):Prop:=∀ ⦃zbw:Int⦄ ⦃zdO:(Sl Int)⦄ ⦃zgA:Nat→List PV⦄,P zbw zdO=true→K (e84 (S zbw zdO))→zgA=zg enc_3 zdO→X (zDN c0 w zbw zdO zgA)
section
variable {K:List PA→Prop} {c0:Tab} {w:web} {zbw:Int} {zdO:(Sl Int)} {zgA:Nat→List PV} {X0:St→Prop} {P0:Int→(Sl Int)→Bool} {S0:Int→(Sl Int)→(Sl Int)}
def zzY (c0:Tab) (w:web) (S0:Int→(Sl Int)→(Sl Int)) (zbw:Int) (zdO:(Sl Int)):(Sl Int) :=
  (cond (decide (zbw < (w.Net.Nodes.toNat : Int)))
 (S0 (w64 (zbw+(1:Int))) (⟨zdO.len,(setT zbw.toNat (s87 (zbl (zac c0)) zbw) zdO.get)⟩:Sl Int))
 zdO)
def zzZ (c0:Tab) (w:web) (P0:Int→(Sl Int)→Bool) (zbw:Int) (zdO:(Sl Int)):Bool :=
  (cond (decide (zbw < (w.Net.Nodes.toNat : Int)))
 (decide ((p87 (zbl (zac c0)) zbw=true)) &&
 (decide ((0≤zbw∧zbw < (zdO.len:Int))) &&
 (decide ((zbw.toNat < zdO.len)) &&
 (P0 (w64 (zbw+(1:Int))) (⟨zdO.len,(setT zbw.toNat (s87 (zbl (zac c0)) zbw) zdO.get)⟩:Sl Int)))))
 true)
def zz0 (c0:Tab) (w:web):Nat→Int→(Sl Int)→(Sl Int):=lpO (fun _ _=>default) (zzY c0 w)
def zz1 (c0:Tab) (w:web):Nat→Int→(Sl Int)→Bool:=lpO (fun _ _=>false) (zzZ c0 w)
def zz2 (c0:Tab) (w:web) (zbw:Int) (zdO:(Sl Int)):(Sl Int):=zz0 c0 w Fuel zbw zdO
def zz3 (c0:Tab) (w:web) (zbw:Int) (zdO:(Sl Int)):Bool:=zz1 c0 w Fuel zbw zdO
theorem zGk (hs:zz3 c0 w zbw zdO=true) (hk:K (e84 (zz2 c0 w zbw zdO))) (zsQ:zgA=zg enc_3 zdO):z84 K [1,1,0,1,0] [] (zDN c0 w zbw zdO zgA) :=
  zl (fun X=>z84 K [1,1,0,1,0,0] [X]) (by kernel_rfl) fun X0 hX =>
  (show ∀ k, zJy K c0 w X0 (zz1 c0 w k) (zz0 c0 w k) from zhs _ _ (zzZ c0 w) (zzY c0 w) (zJy K c0 w X0)
 (by intro _ _ _ hs;exact absurd hs Bool.false_ne_true)
 (by intro P0 S0 hX0 zbw zdO zgA hs hk zsQ;subst zsQ;exact hX _ (zbd (by kernel_rfl) (zc hs hk (fun hs hk=>(za6 hs fun hc hs=>And.intro (And.intro (zn2:zac c0=zac (zbl (zac c0))) hc) (za6 hs fun hc hs=>And.intro hc (za6 hs fun hc hs=>And.intro hc (hX0 hs hk (zm5 (enc:=enc_3) (i:=zbw.toNat) (k:=0) (f:=zdO.get) (new:=(enc_3 (s87 (zbl (zac c0)) zbw))) (v:=(s87 (zbl (zac c0)) zbw)) rfl rfl)))))) (fun hs hk=>hk))))) _ hs hk zsQ
def s84 (c0:Tab) (w:web):(Sl Int) :=
  (zz2 c0 w (0:Int) (⟨w.Net.Nodes.toNat,(fun _=>(0:Int))⟩:Sl Int))
def p84 (c0:Tab) (w:web):Bool :=
  (decide ((0≤w.Net.Nodes∧w.Net.Nodes=w.Net.Nodes∧w.Net.Nodes≤1000000)) &&
 (zz3 c0 w (0:Int) (⟨w.Net.Nodes.toNat,(fun _=>(0:Int))⟩:Sl Int)))
end
theorem q84 (c0:Tab) (w:web) (K:List PA→Prop) (hs:p84 c0 w=true) (hk:K (e84 (s84 c0 w))):vcFun Tryd.prog G84 zGj 84 [.one (.fp (zaC w) 0),.one (.fn 87 [] [.fp (zac c0) 0])] K :=
  zbd (by kernel_rfl) (za6 hs fun hc hs=>And.intro hc (zGk hs hk rfl))
def zGl : List PA → COut
  | [.one (.fp [.int .i64 zas,.sl zal zaP zam,.fm zbK zaS zaT] 0),.one (.fn 87 [] [.fp c0_t 0])]=>.det (IsE zae 4 zaP zam∧zbK=(false,1,false,[none])∧c0_t=zac (zbl c0_t)∧p84 (zbl c0_t) (⟨(⟨zas,(⟨zal,zar zam⟩:(Sl Tie))⟩:Net),(⟨zaS,zaT⟩:Mp)⟩:web)=true) [.one (.sl ((s84 (zbl c0_t) (⟨(⟨zas,(⟨zal,zar zam⟩:(Sl Tie))⟩:Net),(⟨zaS,zaT⟩:Mp)⟩:web)).len) 1 (fun i=>enc_3 ((s84 (zbl c0_t) (⟨(⟨zas,(⟨zal,zar zam⟩:(Sl Tie))⟩:Net),(⟨zaS,zaT⟩:Mp)⟩:web)).get i)))]
  | _=>.no
theorem zJz:zax Tryd.prog 84:=⟨_,rfl,rfl,by kernel_rfl⟩
theorem zNa:Ok Tryd.prog 84 zGl:=zbY zLp zJz fun args K h=>by
  unfold zGl at h
  split at h
  · rename_i zas zal zaP zam zbK zaS zaT c0_t
    obtain ⟨⟨⟨rfl,zaB,rfl⟩,rfl,hT_c0,hs⟩,hk⟩:=h
    try rw [zau zaB] at hs
    try rw [zau zaB] at hk
    exact ⟨(fun _ _=>[]),(fun _=>false),zGj,(by have hq:=q84 (zbl c0_t) (⟨(⟨zas,(⟨zal,zaB⟩:(Sl Tie))⟩:Net),(⟨zaS,zaT⟩:Mp)⟩:web) K hs hk;rw [← hT_c0] at hq;exact hq)⟩
  · exact h.elim
abbrev T45:Tabs:=((((Tabs.nil.addF 74 zzj).addF 76 zzB).addF 83 zGh).addF 84 zGl)
theorem zLq:TabsOk Tryd.prog T45:=((((TabsOk.nil.addF zLf).addF zLj).addF zM8).addF zNa)
abbrev G45:Ctrs:=csm T45 (fun _ _=>[]) (fun _=>false)
def zJA:Ann:=⟨31,[(0,zK [1,2,3] [3]),(1,zK [1,8,9] []),(2,zK [1,8,9,20] []),(3,zK [6,7] []),(4,zK [1,8,24] []),(5,zK [6,7] []),(6,zK [8,10] [10]),(7,zK [6,7] [])],
 [],
 [],
 [],[]⟩
abbrev R45:=((Sl Int)×Int)
abbrev e45 (r:R45):List PA:=[.one (.sl r.1.len 1 (fun i=>enc_3 (r.1.get i))),.one (.int .i64 r.2)]
section
variable {K:List PA→Prop} {n:Net} {from_a1:Int} {to:Int}
def s45 (n:Net) (from_a1:Int) (to:Int):((Sl Int)×Int) :=
  (cond ((s74 n (⟨2, zav (zbU [(enc_3 from_a1), (enc_3 to)])⟩ : (Sl Int))).2 == 0)
 (cond ((0:Int) != (0:Int))
 ((⟨0,fun _=>default⟩:(Sl Int)),(0:Int))
 (cond (!(s83 (⟨(s74 n (⟨2, zav (zbU [(enc_3 from_a1), (enc_3 to)])⟩ : (Sl Int))).1.Net, ((s74 n (⟨2, zav (zbU [(enc_3 from_a1), (enc_3 to)])⟩ : (Sl Int))).1.out)⟩ : web)))
 ((⟨0,fun _=>default⟩:(Sl Int)),(6:Int))
 ((s84 (zbl (zac (s76 (⟨(s74 n (⟨2,zav (zbU [(enc_3 from_a1),(enc_3 to)])⟩:(Sl Int))).1.Net,((s74 n (⟨2,zav (zbU [(enc_3 from_a1),(enc_3 to)])⟩:(Sl Int))).1.out)⟩:web) from_a1))) (⟨(s74 n (⟨2,zav (zbU [(enc_3 from_a1),(enc_3 to)])⟩:(Sl Int))).1.Net,((s74 n (⟨2,zav (zbU [(enc_3 from_a1),(enc_3 to)])⟩:(Sl Int))).1.out)⟩:web)),(0:Int))))
 (cond ((s74 n (⟨2, zav (zbU [(enc_3 from_a1), (enc_3 to)])⟩ : (Sl Int))).2 != (0:Int))
 ((⟨0,fun _=>default⟩:(Sl Int)),(s74 n (⟨2,zav (zbU [(enc_3 from_a1),(enc_3 to)])⟩:(Sl Int))).2)
 default))
def p45 (n:Net) (from_a1:Int) (to:Int):Bool :=
  (cond ((s74 n (⟨2, zav (zbU [(enc_3 from_a1), (enc_3 to)])⟩ : (Sl Int))).2 == 0)
 (decide ((p74 n (⟨2,zav (zbU [(enc_3 from_a1),(enc_3 to)])⟩:(Sl Int))=true)) &&
 (cond ((0:Int) != (0:Int))
 true
 (decide ((p83 (⟨(s74 n (⟨2,zav (zbU [(enc_3 from_a1),(enc_3 to)])⟩:(Sl Int))).1.Net,((s74 n (⟨2,zav (zbU [(enc_3 from_a1),(enc_3 to)])⟩:(Sl Int))).1.out)⟩:web)=true)) &&
 (cond (!(s83 (⟨(s74 n (⟨2, zav (zbU [(enc_3 from_a1), (enc_3 to)])⟩ : (Sl Int))).1.Net, ((s74 n (⟨2, zav (zbU [(enc_3 from_a1), (enc_3 to)])⟩ : (Sl Int))).1.out)⟩ : web)))
 true
 (decide ((p76 (⟨(s74 n (⟨2,zav (zbU [(enc_3 from_a1),(enc_3 to)])⟩:(Sl Int))).1.Net,((s74 n (⟨2,zav (zbU [(enc_3 from_a1),(enc_3 to)])⟩:(Sl Int))).1.out)⟩:web) from_a1=true)) &&
 (decide ((p84 (zbl (zac (s76 (⟨(s74 n (⟨2,zav (zbU [(enc_3 from_a1),(enc_3 to)])⟩:(Sl Int))).1.Net,((s74 n (⟨2,zav (zbU [(enc_3 from_a1),(enc_3 to)])⟩:(Sl Int))).1.out)⟩:web) from_a1))) (⟨(s74 n (⟨2,zav (zbU [(enc_3 from_a1),(enc_3 to)])⟩:(Sl Int))).1.Net,((s74 n (⟨2,zav (zbU [(enc_3 from_a1),(enc_3 to)])⟩:(Sl Int))).1.out)⟩:web)=true)) &&
 true))))))
 (decide ((p74 n (⟨2,zav (zbU [(enc_3 from_a1),(enc_3 to)])⟩:(Sl Int))=true)) &&
 (cond ((s74 n (⟨2, zav (zbU [(enc_3 from_a1), (enc_3 to)])⟩ : (Sl Int))).2 != (0:Int))
 true
 false)))
end
theorem q45 (n:Net) (from_a1:Int) (to:Int) (K:List PA→Prop) (hs:p45 n from_a1 to=true) (hk:K (e45 (s45 n from_a1 to))):vcFun Tryd.prog G45 zJA 45 [.agg (enc_24 n),.one (.int .i64 from_a1),.one (.int .i64 to)] (Wk K) :=
  zbd (by kernel_rfl) (zc hs hk (fun hs hk=>(za6 hs fun hc hs=>And.intro (And.intro (zE zae 4 n.Ties.get) (And.intro ((zeN []):IsE enc_3 1 1 (zbU [(enc_3 from_a1),(enc_3 to)])) hc)) (zc hs hk (fun hs hk=>((wk hk (zcw (.one (.nil _ _)) (zcw (.one (.rfl _)) zeB))):Wk K [.one (.nils),.one (.int .i64 (0:Int))])) (fun hs hk=>(za6 hs fun hc hs=>And.intro (And.intro (zE zae 4 ((s74 n (⟨2,zav (zbU [(enc_3 from_a1),(enc_3 to)])⟩:(Sl Int))).1.Net.Ties.get)) (And.intro (rfl:((false,1,false,[none]):MQ)=(false,1,false,[none])) hc)) (zc hs hk (fun hs hk=>((wk hk (zcw (.one (.nil _ _)) (zcw (.one (.rfl _)) zeB))):Wk K [.one (.nils),.one (.int .i64 (6:Int))])) (fun hs hk=>(za6 hs fun hc hs=>And.intro (And.intro (zE zae 4 ((s74 n (⟨2,zav (zbU [(enc_3 from_a1),(enc_3 to)])⟩:(Sl Int))).1.Net.Ties.get)) (And.intro (rfl:((false,1,false,[none]):MQ)=(false,1,false,[none])) hc)) (za6 hs fun hc hs=>And.intro (And.intro (zE zae 4 ((s74 n (⟨2,zav (zbU [(enc_3 from_a1),(enc_3 to)])⟩:(Sl Int))).1.Net.Ties.get)) (And.intro (rfl:((false,1,false,[none]):MQ)=(false,1,false,[none])) (And.intro (zn2:zac (s76 (⟨(s74 n (⟨2,zav (zbU [(enc_3 from_a1),(enc_3 to)])⟩:(Sl Int))).1.Net,((s74 n (⟨2,zav (zbU [(enc_3 from_a1),(enc_3 to)])⟩:(Sl Int))).1.out)⟩:web) from_a1)=zac (zbl (zac (s76 (⟨(s74 n (⟨2,zav (zbU [(enc_3 from_a1),(enc_3 to)])⟩:(Sl Int))).1.Net,((s74 n (⟨2,zav (zbU [(enc_3 from_a1),(enc_3 to)])⟩:(Sl Int))).1.out)⟩:web) from_a1)))) hc))) ((zfS hk):Wk K [.one (.sl ((s84 (zbl (zac (s76 (⟨(s74 n (⟨2,zav (zbU [(enc_3 from_a1),(enc_3 to)])⟩:(Sl Int))).1.Net,((s74 n (⟨2,zav (zbU [(enc_3 from_a1),(enc_3 to)])⟩:(Sl Int))).1.out)⟩:web) from_a1))) (⟨(s74 n (⟨2,zav (zbU [(enc_3 from_a1),(enc_3 to)])⟩:(Sl Int))).1.Net,((s74 n (⟨2,zav (zbU [(enc_3 from_a1),(enc_3 to)])⟩:(Sl Int))).1.out)⟩:web)).len) 1 (fun i=>enc_3 ((s84 (zbl (zac (s76 (⟨(s74 n (⟨2,zav (zbU [(enc_3 from_a1),(enc_3 to)])⟩:(Sl Int))).1.Net,((s74 n (⟨2,zav (zbU [(enc_3 from_a1),(enc_3 to)])⟩:(Sl Int))).1.out)⟩:web) from_a1))) (⟨(s74 n (⟨2,zav (zbU [(enc_3 from_a1),(enc_3 to)])⟩:(Sl Int))).1.Net,((s74 n (⟨2,zav (zbU [(enc_3 from_a1),(enc_3 to)])⟩:(Sl Int))).1.out)⟩:web)).get i))),.one (.int .i64 (0:Int))])))))))))) (fun hs hk=>(za6 hs fun hc hs=>And.intro (And.intro (zE zae 4 n.Ties.get) (And.intro ((zeN []):IsE enc_3 1 1 (zbU [(enc_3 from_a1),(enc_3 to)])) hc)) (zc hs hk (fun hs hk=>((wk hk (zcw (.one (.nil _ _)) (zcw (.one (.rfl _)) zeB))):Wk K [.one (.nils),.one (.int .i64 ((s74 n (⟨2,zav (zbU [(enc_3 from_a1),(enc_3 to)])⟩:(Sl Int))).2))])) (fun hs hk=>(absurd hs Bool.false_ne_true:False))))))
def zGm : List PA → COut
  | [.agg [.int .i64 zao,.sl zak zaV zaj],.one (.int .i64 a1),.one (.int .i64 a2)]=>.det (IsE zae 4 zaV zaj∧p45 (⟨zao,(⟨zak,zar zaj⟩:(Sl Tie))⟩:Net) a1 a2=true) [.one (.sl (((s45 (⟨zao,(⟨zak,zar zaj⟩:(Sl Tie))⟩:Net) a1 a2).1).len) 1 (fun i=>enc_3 (((s45 (⟨zao,(⟨zak,zar zaj⟩:(Sl Tie))⟩:Net) a1 a2).1).get i))),.one (.int .i64 ((s45 (⟨zao,(⟨zak,zar zaj⟩:(Sl Tie))⟩:Net) a1 a2).2))]
  | _=>.no
theorem zJB:zax Tryd.prog 45:=⟨_,rfl,rfl,by kernel_rfl⟩
theorem zNb:Ok Tryd.prog 45 zGm:=zgf zLq zJB fun args K h=>by
  unfold zGm at h
  split at h
  · rename_i zao zak zaV zaj a1 a2
    obtain ⟨⟨⟨rfl,zaL,rfl⟩,hs⟩,hk⟩:=h
    try rw [zau zaL] at hs
    try rw [zau zaL] at hk
    exact ⟨_,zff zfR _,(fun _ _=>[]),(fun _=>false),zJA,q45 (⟨zao,(⟨zak,zaL⟩:(Sl Tie))⟩:Net) a1 a2 K hs hk⟩
  · exact h.elim
abbrev T49:Tabs:=(((Tabs.nil.addF 67 zvH).addF 88 zxR).addF 89 zCC)
theorem zLr:TabsOk Tryd.prog T49:=(((TabsOk.nil.addF zKl).addF zKQ).addF zMr)
abbrev G49:Ctrs:=csm T49 (fun _ _=>[]) (fun _=>false)
def zGn:Ann:=⟨31,[(0,zK [1] [1]),(1,zK [1,10] [1]),(2,zK [2,3] []),(3,zK [4] [13]),(4,zK [4,16] [13]),(5,zK [2,3] []),(6,zK [4,5] [13]),(7,zK [5,18,19,20] []),(8,zK [5,18,19,20,21] [28]),(9,zK [5,7,18,19,20] [7,28]),(10,zK [5,18,19,20] [28]),(11,zK [5,18,19,20] [28]),(12,zK [2,3] [28])],
 [(8,⟨[5,18,19,20],[28],[(5,28,75,fun _=>za4 default)],[],[],[],[]⟩)],
 [(2,zK [1,10] [1]),(3,zK [1] [1]),(5,zK [4,16] [13]),(6,zK [4] [13]),(8,zK [5,18,19,20] [])],
 [],[]⟩
abbrev R49:=((Sl Use)×Int)
abbrev e49 (r:R49):List PA:=[.one (.sl r.1.len 2 (fun i=>za4 (r.1.get i))),.one (.int .i64 r.2)]
@[irreducible] def z49:=ptF Tryd.prog G49 zGn Tryd.f49
def zDO (zcZ:(Sl step)) (zdd:Int) (zdZ:Int) (zdp:(Sl Use)) (zgB:Nat→List PV):St:=⟨[(5,zv 28),(18,zS zad 5 zcZ),(19,zI zdd),(20,zI zdZ)],[(28,.vec 75 2 16 zdp.len zgB)],[]⟩
abbrev zJC (K:List PA→Prop) (zcZ:(Sl step)) (zdd:Int) (X:St→Prop) (P:Int→(Sl Use)→Bool) (S:Int→(Sl Use)→((Sl Use)×Int)):Prop:=∀ ⦃zdZ:Int⦄ ⦃zdp:(Sl Use)⦄ ⦃zgB:Nat→List PV⦄,P zdZ zdp=true→K (e49 (S zdZ zdp))→zgB=zg za4 zdp→X (zDO zcZ zdd zdZ zdp zgB)
section
variable {K:List PA→Prop} {n:Net} {zaJ:Bool} {zsR:Bool} {zcZ:(Sl step)} {zdd:Int} {zz4:Nat→List PV} {zdZ:Int} {zdp:(Sl Use)} {zgB:Nat→List PV} {X5:St→Prop} {P5:Int→(Sl Use)→Bool} {S5:Int→(Sl Use)→((Sl Use)×Int)}
def zz5 (zcZ:(Sl step)) (zdd:Int) (S5:Int→(Sl Use)→((Sl Use)×Int)) (zdZ:Int) (zdp:(Sl Use)):((Sl Use)×Int) :=
  (cond (decide (zdZ < zdd))
 (S5 (w64 (zdZ+(1:Int))) (⟨(zdp.len+1),(zms zdp.len zdp.get (fun _=>(zcZ.get zdZ.toNat).Use))⟩:Sl Use))
 (zdp,(0:Int)))
def zz6 (zcZ:(Sl step)) (zdd:Int) (P5:Int→(Sl Use)→Bool) (zdZ:Int) (zdp:(Sl Use)):Bool :=
  (cond (decide (zdZ < zdd))
 (decide ((0≤zdZ∧zdZ < (zcZ.len:Int))) &&
 (decide (((zdp.len+1) * 16≤140737488355328∧zdp.len+1≤9223372036854775807)) &&
 (P5 (w64 (zdZ+(1:Int))) (⟨(zdp.len+1),(zms zdp.len zdp.get (fun _=>(zcZ.get zdZ.toNat).Use))⟩:Sl Use))))
 true)
def zz7 (zcZ:(Sl step)) (zdd:Int):Nat→Int→(Sl Use)→((Sl Use)×Int):=lpO (fun _ _=>default) (zz5 zcZ zdd)
def zz8 (zcZ:(Sl step)) (zdd:Int):Nat→Int→(Sl Use)→Bool:=lpO (fun _ _=>false) (zz6 zcZ zdd)
def zz9 (zcZ:(Sl step)) (zdd:Int) (zdZ:Int) (zdp:(Sl Use)):((Sl Use)×Int):=zz7 zcZ zdd Fuel zdZ zdp
def zAa (zcZ:(Sl step)) (zdd:Int) (zdZ:Int) (zdp:(Sl Use)):Bool:=zz8 zcZ zdd Fuel zdZ zdp
theorem zGo (hs:zAa zcZ zdd zdZ zdp=true) (hk:K (e49 (zz9 zcZ zdd zdZ zdp))) (zsS:zgB=zg za4 zdp):z49 (Wk K) [1,1,1,1,1,0,1,0] [] (zDO zcZ zdd zdZ zdp zgB) :=
  zl (fun X=>z49 (Wk K) [1,1,1,1,1,0,1,0,0] [X]) (by kernel_rfl) fun X5 hX =>
  (show ∀ k, zJC K zcZ zdd X5 (zz8 zcZ zdd k) (zz7 zcZ zdd k) from zhs _ _ (zz6 zcZ zdd) (zz5 zcZ zdd) (zJC K zcZ zdd X5)
 (by intro _ _ _ hs;exact absurd hs Bool.false_ne_true)
 (by intro P5 S5 hX5 zdZ zdp zgB hs hk zsS;subst zsS;exact hX _ (zbd (by kernel_rfl) (zc hs hk (fun hs hk=>(za6 hs fun hc hs=>And.intro hc (za6 hs fun hc hs=>And.intro hc (hX5 hs hk (zh0 (enc:=za4) (f:=zdp.get) (h:=(fun _=>(zcZ.get zdZ.toNat).Use)) rfl rfl))))) (fun hs hk=>((zfS hk):Wk K [.one (.sl zdp.len 2 (fun i=>za4 (zdp.get i))),.one (.int .i64 (0:Int))])))))) _ hs hk zsS
def zAb (zcZ:(Sl step)) (zdd:Int):((Sl Use)×Int) :=
  (zz9 zcZ zdd (0:Int) (⟨0,(fun _=>default)⟩:Sl Use))
def zAc (zcZ:(Sl step)) (zdd:Int):Bool :=
  (zAa zcZ zdd (0:Int) (⟨0,(fun _=>default)⟩:Sl Use))
theorem zGp (hs:zAc zcZ zdd=true) (hk:K (e49 (zAb zcZ zdd))) (zGq:zz4=zg zad zcZ):z49 (Wk K) [1,1,1,1,1,0,1] [] ⟨[(5,zP (.nils)),(18,zP (.sl zcZ.len 5 zz4)),(19,zI zdd),(20,zI (0:Int))],[],[]⟩:=by subst zGq;exact zbd (by kernel_rfl) (zGo hs hk rfl)
def zAd (n:Net):((Sl Use)×Int) :=
  (zAb (s89 (⟨n,(⟨0,(fun _=>none)⟩:Mp)⟩:web)) ((s89 (⟨n,(⟨0,(fun _=>none)⟩:Mp)⟩:web)).len:Int))
def zAe (n:Net):Bool :=
  (decide ((p89 (⟨n,(⟨0,(fun _=>none)⟩:Mp)⟩:web)=true)) &&
 (zAc (s89 (⟨n,(⟨0,(fun _=>none)⟩:Mp)⟩:web)) ((s89 (⟨n,(⟨0,(fun _=>none)⟩:Mp)⟩:web)).len:Int)))
theorem zGr (hs:zAe n=true) (hk:K (e49 (zAd n))):z49 (Wk K) [1,1,1,1] [] ⟨[(4,zp 13 0)],[(13,.box 105 (zm (zaC (⟨n,(⟨0,(fun _=>none)⟩:Mp)⟩:web))))],[]⟩:=zbd (by kernel_rfl) (za6 hs fun hc hs=>And.intro (And.intro ((fun _=>rfl):(∀ i,sc2 ((fun i=>zad ((s89 (⟨n,(⟨0,(fun _=>none)⟩:Mp)⟩:web)).get i)) i)=true)) (And.intro (zE zae 4 n.Ties.get) (And.intro (rfl:((false,1,false,[none]):MQ)=(false,1,false,[none])) hc))) (zGp hs hk rfl))
def zAf (n:Net) (zsR:Bool):((Sl Use)×Int) :=
  (cond zsR
 ((⟨0,fun _=>default⟩:(Sl Use)),(6:Int))
 (zAd n))
def zAg (n:Net) (zsR:Bool):Bool :=
  (cond zsR
 true
 (zAe n))
theorem zGs (hs:zAg n zsR=true) (hk:K (e49 (zAf n zsR))):z49 (Wk K) [1,1,1,0,1] [] ⟨[(4,zp 13 0),(16,zB zsR)],[(13,.box 105 (zm (zaC (⟨n,(⟨0,(fun _=>none)⟩:Mp)⟩:web))))],[]⟩:=zbd (by kernel_rfl) (zc hs hk (fun hs hk=>((wk hk (zcw (.one (.nil _ _)) (zcw (.one (.rfl _)) zeB))):Wk K [.one (.nils),.one (.int .i64 (6:Int))])) (fun hs hk=>(zGr hs hk)))
def zAh (n:Net):((Sl Use)×Int) :=
  (zAf n (!(s88 (⟨n,(⟨0,(fun _=>none)⟩:Mp)⟩:web))))
def zAi (n:Net):Bool :=
  (decide ((p88 (⟨n,(⟨0,(fun _=>none)⟩:Mp)⟩:web)=true)) &&
 (zAg n (!(s88 (⟨n,(⟨0,(fun _=>none)⟩:Mp)⟩:web)))))
theorem zGt (hs:zAi n=true) (hk:K (e49 (zAh n))):z49 (Wk K) [1,1] [] ⟨[(1,zp 1 0)],[(1,.box 24 (zm (enc_24 n)))],[]⟩:=zbd (by kernel_rfl) (za6 hs fun hc hs=>And.intro (And.intro (zE zae 4 n.Ties.get) (And.intro (rfl:((false,1,false,[none]):MQ)=(false,1,false,[none])) hc)) (zGs hs hk))
def zAj (n:Net) (zaJ:Bool):((Sl Use)×Int) :=
  (cond zaJ
 ((⟨0,fun _=>default⟩:(Sl Use)),(2:Int))
 (zAh n))
def zAk (n:Net) (zaJ:Bool):Bool :=
  (cond zaJ
 true
 (zAi n))
theorem zGu (hs:zAk n zaJ=true) (hk:K (e49 (zAj n zaJ))):z49 (Wk K) [1,0,1] [] ⟨[(1,zp 1 0),(10,zB zaJ)],[(1,.box 24 (zm (enc_24 n)))],[]⟩:=zbd (by kernel_rfl) (zc hs hk (fun hs hk=>((wk hk (zcw (.one (.nil _ _)) (zcw (.one (.rfl _)) zeB))):Wk K [.one (.nils),.one (.int .i64 (2:Int))])) (fun hs hk=>(zGt hs hk)))
def s49 (n:Net):((Sl Use)×Int) :=
  (zAj n (!(s67 n)))
def p49 (n:Net):Bool :=
  (decide ((p67 n=true)) &&
 (zAk n (!(s67 n))))
end
theorem q49 (n:Net) (K:List PA→Prop) (hs:p49 n=true) (hk:K (e49 (s49 n))):vcFun Tryd.prog G49 zGn 49 [.agg (enc_24 n)] (Wk K) :=
  zbd (by kernel_rfl) (za6 hs fun hc hs=>And.intro (And.intro (zE zae 4 n.Ties.get) hc) (zGu hs hk))
def zGv : List PA → COut
  | [.agg [.int .i64 zao,.sl zak zaV zaj]]=>.det (IsE zae 4 zaV zaj∧p49 (⟨zao,(⟨zak,zar zaj⟩:(Sl Tie))⟩:Net)=true) [.one (.sl (((s49 (⟨zao,(⟨zak,zar zaj⟩:(Sl Tie))⟩:Net)).1).len) 2 (fun i=>za4 (((s49 (⟨zao,(⟨zak,zar zaj⟩:(Sl Tie))⟩:Net)).1).get i))),.one (.int .i64 ((s49 (⟨zao,(⟨zak,zar zaj⟩:(Sl Tie))⟩:Net)).2))]
  | _=>.no
theorem zJD:zax Tryd.prog 49:=⟨_,rfl,rfl,by kernel_rfl⟩
theorem zNc:Ok Tryd.prog 49 zGv:=zgf zLr zJD fun args K h=>by
  unfold zGv at h
  split at h
  · rename_i zao zak zaV zaj
    obtain ⟨⟨⟨rfl,zaL,rfl⟩,hs⟩,hk⟩:=h
    try rw [zau zaL] at hs
    try rw [zau zaL] at hk
    exact ⟨_,zff zfR _,(fun _ _=>[]),(fun _=>false),zGn,q49 (⟨zao,(⟨zak,zaL⟩:(Sl Tie))⟩:Net) K hs hk⟩
  · exact h.elim
abbrev T53:Tabs:=Tabs.nil
theorem zLs:TabsOk Tryd.prog T53:=TabsOk.nil
abbrev G53:Ctrs:=csm T53 (fun _ _=>[]) (fun _=>false)
def zGw:Ann:=⟨26,[(0,zK [0,1] []),(1,zK [0,1,10] []),(2,zK [4] []),(3,zK [0,1,5] []),(4,zK [0,1,5,14] []),(5,zK [0,1,5] []),(6,zK [0,1,5,25] []),(7,zK [4] []),(8,zK [4] [])],
 [(4,zK [0,1,5] [])],
 [(3,zK [0,1] [])],
 [],[]⟩
abbrev R53:=Bool
abbrev e53 (r:R53):List PA:=[.one (.bool r)]
@[irreducible] def z53:=ptF Tryd.prog G53 zGw Tryd.f53
def zDP (a:(Sl Use)) (b:(Sl Use)) (iv1:Int):St:=⟨[(0,zS za4 2 a),(1,zS za4 2 b),(5,zI iv1)],[],[]⟩
abbrev zJE (K:List PA→Prop) (a:(Sl Use)) (b:(Sl Use)) (X:St→Prop) (P:Int→Bool) (S:Int→Bool):Prop:=∀ ⦃iv1:Int⦄,P iv1=true→K (e53 (S iv1))→X (zDP a b iv1)
section
variable {K:List PA→Prop} {a:(Sl Use)} {b:(Sl Use)} {iv1:Int} {X1:St→Prop} {P1:Int→Bool} {S1:Int→Bool}
def zAl (a:(Sl Use)) (b:(Sl Use)) (S1:Int→Bool) (iv1:Int):Bool :=
  (cond (decide (iv1 < (a.len : Int)))
 (cond (!(match ((a.get iv1.toNat).Tie == (b.get iv1.toNat).Tie) with | true => (match ((a.get iv1.toNat).Back == (b.get iv1.toNat).Back) with | true => true | false => false) | false => false))
 false
 (S1 (w64 (iv1+(1:Int)))))
 true)
def zAm (a:(Sl Use)) (b:(Sl Use)) (P1:Int→Bool) (iv1:Int):Bool :=
  (cond (decide (iv1 < (a.len : Int)))
 (decide ((0≤iv1∧iv1 < (a.len:Int))) &&
 (decide ((0≤iv1∧iv1 < (b.len:Int))) &&
 (cond (!(match ((a.get iv1.toNat).Tie == (b.get iv1.toNat).Tie) with | true => (match ((a.get iv1.toNat).Back == (b.get iv1.toNat).Back) with | true => true | false => false) | false => false))
 true
 (P1 (w64 (iv1+(1:Int)))))))
 true)
def zAn (a:(Sl Use)) (b:(Sl Use)):Nat→Int→Bool:=lpO (fun _=>default) (zAl a b)
def zAo (a:(Sl Use)) (b:(Sl Use)):Nat→Int→Bool:=lpO (fun _=>false) (zAm a b)
def zAp (a:(Sl Use)) (b:(Sl Use)) (iv1:Int):Bool:=zAn a b Fuel iv1
def zAq (a:(Sl Use)) (b:(Sl Use)) (iv1:Int):Bool:=zAo a b Fuel iv1
theorem zGx (hs:zAq a b iv1=true) (hk:K (e53 (zAp a b iv1))):z53 K [1,1,0,1,0] [] (zDP a b iv1) :=
  zl (fun X=>z53 K [1,1,0,1,0,0] [X]) (by kernel_rfl) fun X1 hX =>
  (show ∀ k, zJE K a b X1 (zAo a b k) (zAn a b k) from zhs _ _ (zAm a b) (zAl a b) (zJE K a b X1)
 (by intro _ hs;exact absurd hs Bool.false_ne_true)
 (by intro P1 S1 hX1 iv1 hs hk;exact hX _ (zbd (by kernel_rfl) (zc hs hk (fun hs hk=>(za6 hs fun hc hs=>And.intro hc (za6 hs fun hc hs=>And.intro hc (zc hs hk (fun hs hk=>hk) (fun hs hk=>(hX1 hs hk)))))) (fun hs hk=>hk))))) _ hs hk
def zAr (a:(Sl Use)) (b:(Sl Use)):Bool :=
  (zAp a b (0:Int))
def zAs (a:(Sl Use)) (b:(Sl Use)):Bool :=
  (zAq a b (0:Int))
theorem zGy (hs:zAs a b=true) (hk:K (e53 (zAr a b))):z53 K [1,1] [] ⟨[(0,zS za4 2 a),(1,zS za4 2 b)],[],[]⟩:=zbd (by kernel_rfl) (zGx hs hk)
def s53 (a:(Sl Use)) (b:(Sl Use)):Bool :=
  (cond ((a.len : Int) != (b.len : Int))
 false
 (zAr a b))
def p53 (a:(Sl Use)) (b:(Sl Use)):Bool :=
  (cond ((a.len : Int) != (b.len : Int))
 true
 (zAs a b))
end
theorem q53 (a:(Sl Use)) (b:(Sl Use)) (K:List PA→Prop) (hs:p53 a b=true) (hk:K (e53 (s53 a b))):vcFun Tryd.prog G53 zGw 53 [.one (.sl a.len 2 (fun i=>za4 (a.get i))),.one (.sl b.len 2 (fun i=>za4 (b.get i)))] K :=
  zbd (by kernel_rfl) (zc hs hk (fun hs hk=>hk) (fun hs hk=>(zGy hs hk)))
def zGz : List PA → COut
  | [.one (.sl zdw zii zdx),.one (.sl zdH ziO zdE)]=>.det (IsE za4 2 zii zdx∧IsE za4 2 ziO zdE∧p53 (⟨zdw,zdC zdx⟩:(Sl Use)) (⟨zdH,zdC zdE⟩:(Sl Use))=true) [.one (.bool (s53 (⟨zdw,zdC zdx⟩:(Sl Use)) (⟨zdH,zdC zdE⟩:(Sl Use))))]
  | _=>.no
theorem zJF:zax Tryd.prog 53:=⟨_,rfl,rfl,by kernel_rfl⟩
theorem zNd:Ok Tryd.prog 53 zGz:=zbY zLs zJF fun args K h=>by
  unfold zGz at h
  split at h
  · rename_i zdw zii zdx zdH ziO zdE
    obtain ⟨⟨⟨rfl,zfx,rfl⟩,⟨rfl,zgo,rfl⟩,hs⟩,hk⟩:=h
    try rw [zdD zfx] at hs
    try rw [zdD zfx] at hk
    try rw [zdD zgo] at hs
    try rw [zdD zgo] at hk
    exact ⟨(fun _ _=>[]),(fun _=>false),zGw,q53 (⟨zdw,zfx⟩:(Sl Use)) (⟨zdH,zgo⟩:(Sl Use)) K hs hk⟩
  · exact h.elim
abbrev T92:Tabs:=((Tabs.nil.addF 93 zpV).addI 110 zpX)
theorem zLt:TabsOk Tryd.prog T92:=((TabsOk.nil.addF zHJ).addI zvJ)
abbrev G92:Ctrs:=csm T92 (fun _ _=>[]) (fun _=>false)
def zjQ:Ann:=⟨49,[(0,zK [0,1,2,3,4] [0,1,2,3,4,4099]),(1,zK [0,1,2,3,4,7] [0,1,2,3,4,4099]),(2,zK [0,1,2,3,4,5,7] [0,1,2,3,4,5,4099]),(3,zK [0,1,2,3,4,5,7,41] [0,1,2,3,4,5,4099]),(4,zK [0,1,2,3,4,5] [0,1,2,3,4,5,4099]),(5,zK [0,1,2,3,4] [0,1,2,3,4,4099]),(6,zK [0,1,2,3,4] [0,1,2,3,4,4099]),(7,zK [0,1,2,3,4] [0,1,2,3,4,4099])],
 [(2,zK [0,1,2,3,4,7] [0,1,2,3,4,4099])],
 [],
 [],[]⟩
def zgC (w:web) (at_:Int) (d:Tab) (out:(Sl Use)):St:=⟨[(0,.one (.c (.ptr 0 0))),(1,.one (.c (.ptr 1 0))),(2,.one (.c (.ptr 2 0))),(3,.one (.c (.ptr 3 0))),(4,.one (.c (.ptr 4 0))),(7,.one (.c (.p (.fn 110 [] [.fp [.fp (zaC w) 0] 0]))))],[(0,.box 102 [.p (.fp (zaC w) 0)]),(1,.box 3 [.p (.int .i64 at_)]),(2,.box 116 (zm (zac d))),(3,.box 67 [.vec 4099]),(4,.box 4 [.p (.bool false)]),(4099,.vec 75 2 16 out.len (fun i=>za4 (out.get i)))],[]⟩
def zl4 (K:List PA×List XA→Prop) (w:web) (at_:Int) (d:Tab) (out:(Sl Use)):Prop:=vc Tryd.prog G92 zjQ (cdF Tryd.f92 [1,0,1,0]) (zai 0 (sqK Tryd.prog G92 zjQ (cdF Tryd.f92 [1,1]) (zmx Tryd.prog Tryd.f92 [.box 102 [.p (.fp (zaC w) 0)],.box 3 [.p (.int .i64 at_)],.box 116 (xcm (zac d)),.box 67 [.vec 75 2 16 out.len (fun i=>za4 (out.get i))]] (fun a b=>K (a,b))))) (zgC w at_ d out)
theorem zGA (w : web) (at_ : Int) (d : Tab) (out : (Sl Use)) (K : List PA × List XA → Prop) :
  zk1 Tryd.prog G92 zjQ 92 [.box 102 [.p (.fp (zaC w) 0)],.box 3 [.p (.int .i64 at_)],.box 116 (xcm (zac d)),.box 67 [.vec 75 2 16 out.len (fun i=>za4 (out.get i))]] (fun a b=>K (a,b)) =
  ((IsE zae 4 4 (fun i=>zae (w.Net.Ties.get i))∧((false,1,false,[none]):MQ)=(false,1,false,[none])) ∧
 (zl4 K w at_ d out)):=by kernel_rfl
def zqz (K:List PA×List XA→Prop) (w:web) (at_:Int) (d:Tab) (out:(Sl Use)):Prop :=
  (K ([.one (.bool false)],[.box 102 [.p (.fp (zaC w) 0)],.box 3 [.p (.int .i64 at_)],.box 116 (xcm (zac d)),.box 67 [.vec 75 2 16 out.len (fun i=>za4 (out.get i))]]))
def zqA (K:List PA×List XA→Prop) (X0:List (List PA)→St→Prop) (y0:step) (rest0:List (List PA)) (w:web) (at_:Int) (d:Tab) (out:(Sl Use)):Prop :=
  (zbV (y0.from_ == at_)
 (((0≤y0.to∧y0.to < (40:Int))) ∧
 (zbV (!(match ((tg 80 d (0 + y0.to.toNat * 2 + 0)) == (1000000000000:Int)) with | true => (match ((tg 80 d (0 + y0.to.toNat * 2 + 0 + 1)) == (0:Int)) with | true => true | false => false) | false => false))
 (((0≤y0.to∧y0.to < (40:Int))) ∧
 (((0≤y0.to∧y0.to < (40:Int))) ∧
 (((0≤at_∧at_ < (40:Int))) ∧
 (zbV (match ((w64 ((tg 80 d (0 + y0.to.toNat * 2 + 0)) + y0.length)) == (tg 80 d (0 + at_.toNat * 2 + 0))) with | true => (match ((w64 ((tg 80 d (0 + y0.to.toNat * 2 + 1)) + (1:Int))) == (tg 80 d (0 + at_.toNat * 2 + 0 + 1))) with | true => true | false => false) | false => false)
 ((((out.len+1) * 16≤140737488355328∧out.len+1≤9223372036854775807)) ∧
 (K ([.one (.bool true)],[.box 102 [.p (.fp (zaC w) 0)],.box 3 [.p (.int .i64 y0.to)],.box 116 (xcm (zac d)),.box 67 [.vec 75 2 16 (out.len+1) (appG out.len (fun i=>za4 (out.get i)) (fun _=>(za4 y0.Use)))]])))
 (X0 rest0 (zgC w at_ d out))))))
 (X0 rest0 (zgC w at_ d out))))
 (X0 rest0 (zgC w at_ d out)))
theorem zsU (K:List PA×List XA→Prop) (w:web) (at_:Int) (d:Tab) (out:(Sl Use)):(zai 0 (sqK Tryd.prog G92 zjQ (cdF Tryd.f92 [1,1]) (zmx Tryd.prog Tryd.f92 [.box 102 [.p (.fp (zaC w) 0)],.box 3 [.p (.int .i64 at_)],.box 116 (xcm (zac d)),.box 67 [.vec 75 2 16 out.len (fun i=>za4 (out.get i))]] (fun a b=>K (a,b))))) .normal (zgC w at_ d out)=zqz K w at_ d out:=by kernel_rfl
theorem zsV (K : List PA × List XA → Prop) (X0 : List (List PA) → St → Prop) (y0 : step) (rest0 : List (List PA)) (w : web) (at_ : Int) (d : Tab) (out : (Sl Use)) :
  zv1 Tryd.prog G92 zjQ 2 [8] (cd (cdF Tryd.f92 [1,0,1,0]) [0]) (cd (cdF Tryd.f92 [1,0,1,0]) [1]) X0 (zai 0 (sqK Tryd.prog G92 zjQ (cdF Tryd.f92 [1,1]) (zmx Tryd.prog Tryd.f92 [.box 102 [.p (.fp (zaC w) 0)],.box 3 [.p (.int .i64 at_)],.box 116 (xcm (zac d)),.box 67 [.vec 75 2 16 out.len (fun i=>za4 (out.get i))]] (fun a b=>K (a,b))))) [.agg (zad y0)] rest0 (zgC w at_ d out)=zqA K X0 y0 rest0 w at_ d out:=by kernel_rfl
theorem zAt (K : List PA × List XA → Prop) (w : web) (at_ : Int) (d : Tab) (out : (Sl Use))
  (hsafe:IsE zae 4 4 (fun i=>zae (w.Net.Ties.get i))∧((false,1,false,[none]):MQ)=(false,1,false,[none])∧(zmy w=true)) (h:∀ X0:List (List PA)→St→Prop,(∀ (_:Unit),zqz K w at_ d out→X0 [] (zgC w at_ d out))→(∀ (y:step) (rest:List (List PA)) (_:Unit),zqA K X0 y rest w at_ d out→X0 ([.agg (zad y)] :: rest) (zgC w at_ d out))→X0 ((ziJ w).map fun y=>[.agg (zad y)]) (zgC w at_ d out)) :
  zl4 K w at_ d out:=by
  have e:zl4 K w at_ d out=((IsE zae 4 4 (fun i=>zae (w.Net.Ties.get i))∧((false,1,false,[none]):MQ)=(false,1,false,[none])∧(zmy w=true))∧∀ X:List (List PA)→St→Prop,(∀ s,(zai 0 (sqK Tryd.prog G92 zjQ (cdF Tryd.f92 [1,1]) (zmx Tryd.prog Tryd.f92 [.box 102 [.p (.fp (zaC w) 0)],.box 3 [.p (.int .i64 at_)],.box 116 (xcm (zac d)),.box 67 [.vec 75 2 16 out.len (fun i=>za4 (out.get i))]] (fun a b=>K (a,b))))) .normal s→X [] s)→(∀ y rest s,zv1 Tryd.prog G92 zjQ 2 [8] (cd (cdF Tryd.f92 [1,0,1,0]) [0]) (cd (cdF Tryd.f92 [1,0,1,0]) [1]) X (zai 0 (sqK Tryd.prog G92 zjQ (cdF Tryd.f92 [1,1]) (zmx Tryd.prog Tryd.f92 [.box 102 [.p (.fp (zaC w) 0)],.box 3 [.p (.int .i64 at_)],.box 116 (xcm (zac d)),.box 67 [.vec 75 2 16 out.len (fun i=>za4 (out.get i))]] (fun a b=>K (a,b))))) y rest s→X (y :: rest) s)→X ((ziJ w).map fun y=>[.agg (zad y)]) (zgC w at_ d out)):=by kernel_rfl
  refine zbd e ⟨hsafe,?_⟩
  intro X h0 h1
  refine h X (fun _ hs=>h0 _ ?_) (fun y rest _ hs=>h1 _ rest _ ?_)
  · rw [zsU K w at_ d out];exact hs
  · have e2 := zsV K X y rest w at_ d out
    rw [e2];exact hs
abbrev e92 (w:web) (d:Tab) (r:(Bool×Int×(Sl Use))):List PA×List XA:=([.one (.bool r.1)],[.box 102 [.p (.fp (zaC w) 0)],.box 3 [.p (.int .i64 r.2.1)],.box 116 (xcm (zac d)),.box 67 [.vec 75 2 16 r.2.2.len (fun i=>za4 (r.2.2.get i))]])
attribute [irreducible] zl4
def zsW (w:web) (at_:Int) (d:Tab) (out:(Sl Use)):(Bool×Int×(Sl Use)) :=
  (false,at_,(⟨out.len,out.get⟩:(Sl Use)))
def zsX (w:web) (at_:Int) (d:Tab) (out:(Sl Use)):Bool :=
  true
def zsY (w:web) (at_:Int) (d:Tab) (out:(Sl Use)) (y0:step) (S0:(Bool×Int×(Sl Use))):(Bool×Int×(Sl Use)) :=
  (cond (y0.from_ == at_)
 (cond (!(match ((tg 80 d (0 + y0.to.toNat * 2 + 0)) == (1000000000000:Int)) with | true => (match ((tg 80 d (0 + y0.to.toNat * 2 + 0 + 1)) == (0:Int)) with | true => true | false => false) | false => false))
 (cond (match ((w64 ((tg 80 d (0 + y0.to.toNat * 2 + 0)) + y0.length)) == (tg 80 d (0 + at_.toNat * 2 + 0))) with | true => (match ((w64 ((tg 80 d (0 + y0.to.toNat * 2 + 1)) + (1:Int))) == (tg 80 d (0 + at_.toNat * 2 + 0 + 1))) with | true => true | false => false) | false => false)
 (true,y0.to,(⟨(out.len+1),(zms out.len out.get (fun _=>y0.Use))⟩:(Sl Use)))
 (S0))
 (S0))
 (S0))
def zsZ (w:web) (at_:Int) (d:Tab) (out:(Sl Use)) (y0:step) (P0:Bool):Bool :=
  (cond (y0.from_ == at_)
 (decide ((0≤y0.to∧y0.to < (40:Int))) &&
 (cond (!(match ((tg 80 d (0 + y0.to.toNat * 2 + 0)) == (1000000000000:Int)) with | true => (match ((tg 80 d (0 + y0.to.toNat * 2 + 0 + 1)) == (0:Int)) with | true => true | false => false) | false => false))
 (decide ((0≤y0.to∧y0.to < (40:Int))) &&
 (decide ((0≤y0.to∧y0.to < (40:Int))) &&
 (decide ((0≤at_∧at_ < (40:Int))) &&
 (cond (match ((w64 ((tg 80 d (0 + y0.to.toNat * 2 + 0)) + y0.length)) == (tg 80 d (0 + at_.toNat * 2 + 0))) with | true => (match ((w64 ((tg 80 d (0 + y0.to.toNat * 2 + 1)) + (1:Int))) == (tg 80 d (0 + at_.toNat * 2 + 0 + 1))) with | true => true | false => false) | false => false)
 (decide (((out.len+1) * 16≤140737488355328∧out.len+1≤9223372036854775807)) &&
 true)
 (P0)))))
 (P0)))
 (P0))
def zl5 (w : web) (at_ : Int) (d : Tab) (out : (Sl Use)) : List step → (Bool × Int × (Sl Use))
  | []=>zsW w at_ d out
  | y :: r=>zsY w at_ d out y (zl5 w at_ d out r)
def zl6 (w : web) (at_ : Int) (d : Tab) (out : (Sl Use)) : List step → Bool
  | []=>zsX w at_ d out
  | y :: r=>zsZ w at_ d out y (zl6 w at_ d out r)
def zAu (w:web) (at_:Int) (d:Tab) (out:(Sl Use)):(Bool×Int×(Sl Use)):=zl5 w at_ d out (ziJ w)
def zs3 (w:web) (at_:Int) (d:Tab) (out:(Sl Use)):Bool:=decide ((zmy w=true)) && zl6 w at_ d out (ziJ w)
theorem zGB (K:List PA×List XA→Prop) (w:web) (at_:Int) (d:Tab) (out:(Sl Use)) (hs:zs3 w at_ d out=true) (hk:K (e92 w d (zAu w at_ d out))):zl4 K w at_ d out:=by
  unfold zs3 at hs
  rw [Bool.and_eq_true] at hs
  obtain ⟨hsf,hs⟩:=hs
  have hc:=of_decide_eq_true hsf
  refine zAt K w at_ d out ⟨isE,rfl,hc⟩ ?_
  intro X0 hexit hstep
  have key:∀ (l:List step),zl6 w at_ d out l=true→K (e92 w d (zl5 w at_ d out l))→X0 (l.map fun y=>[.agg (zad y)]) (zgC w at_ d out):=by
    intro l
    induction l with
    | nil =>
      intro hs hk
      refine hexit () ?_
      have hs:zsX w at_ d out=true:=hs
      have hk:K (e92 w d (zsW w at_ d out)):=hk
      unfold zsX at hs
      unfold zsW at hk
      exact hk
    | cons y0 l ih =>
      intro hs hk
      refine hstep y0 _ () ?_
      have hs:zsZ w at_ d out y0 (zl6 w at_ d out l)=true:=hs
      have hk:K (e92 w d (zsY w at_ d out y0 (zl5 w at_ d out l))):=hk
      unfold zsZ at hs
      unfold zsY at hk
      generalize zl5 w at_ d out l=S0 at hk ih
      generalize zl6 w at_ d out l=P0 at hs ih
      have hX0:=ih
      exact (za2 (K := fun r => K (e92 w d r))
 (fun hs hk => (za6 hs fun hc hs => ⟨hc, (za2 (K := fun r => K (e92 w d r))
 (fun hs hk => (za6 hs fun hc hs => ⟨hc, (za6 hs fun hc hs => ⟨hc, (za6 hs fun hc hs => ⟨hc, (za2 (K := fun r => K (e92 w d r))
 (fun hs hk=>(za6 hs fun hc hs=>⟨hc,(Eq.mpr (congrArg K (congrArg (fun (g_:Nat→List PV)=>(([.one (.bool true)],[.box 102 [.p (.fp (zaC w) 0)],.box 3 [.p (.int .i64 y0.to)],.box 116 (xcm (zac d)),.box 67 [.vec 75 2 16 (out.len+1) g_]]):List PA×List XA)) (zh0 (enc:=za4) (f:=out.get) (h:=(fun _=>y0.Use)) rfl rfl))) hk)⟩))
 (fun hs hk=>(hX0 hs hk)) hs hk)⟩)⟩)⟩))
 (fun hs hk=>(hX0 hs hk)) hs hk)⟩))
 (fun hs hk=>(hX0 hs hk)) hs hk)
  exact key _ hs hk
def s92 (w:web) (at_:Int) (d:Tab) (out:(Sl Use)):(Bool×Int×(Sl Use)) :=
  (zAu w at_ d out)
def p92 (w:web) (at_:Int) (d:Tab) (out:(Sl Use)):Bool :=
  (zs3 w at_ d out)
theorem q92 (w:web) (at_:Int) (d:Tab) (out:(Sl Use)) (K:List PA×List XA→Prop) (hs:p92 w at_ d out=true) (hk:K (e92 w d (s92 w at_ d out))):zk1 Tryd.prog G92 zjQ 92 [.box 102 [.p (.fp (zaC w) 0)],.box 3 [.p (.int .i64 at_)],.box 116 (xcm (zac d)),.box 67 [.vec 75 2 16 out.len (fun i=>za4 (out.get i))]] (fun a b=>K (a,b)):=by
  refine zbd (zGA w at_ d out K) ?_
  unfold p92 at hs
  unfold s92 at hk
  exact ⟨⟨isE,rfl⟩,(zGB K w at_ d out hs hk)⟩
def zGC : MK
  | [.box 102 [.p (.fp [.int .i64 b0_Net_Nodes,.sl b0_Net_Ties_n b0_Net_Ties_s b0_Net_Ties_g,.fm b0_out_q b0_out_n b0_out_F] 0)],.box 3 [.p (.int .i64 b1)],.box 116 b2_cs,.box 67 [.vec 75 2 16 b3_n b3_g]]=>some (IsE zae 4 b0_Net_Ties_s b0_Net_Ties_g∧b0_out_q=(false,1,false,[none])∧b2_cs=xcm (zac (zbl (unX b2_cs)))∧IsE za4 2 2 b3_g∧p92 (⟨(⟨b0_Net_Nodes,(⟨b0_Net_Ties_n,zar b0_Net_Ties_g⟩:(Sl Tie))⟩:Net),(⟨b0_out_n,b0_out_F⟩:Mp)⟩:web) b1 (zbl (unX b2_cs)) (⟨b3_n,zdC b3_g⟩:(Sl Use))=true,[.one (.bool ((s92 (⟨(⟨b0_Net_Nodes,(⟨b0_Net_Ties_n,zar b0_Net_Ties_g⟩:(Sl Tie))⟩:Net),(⟨b0_out_n,b0_out_F⟩:Mp)⟩:web) b1 (zbl (unX b2_cs)) (⟨b3_n,zdC b3_g⟩:(Sl Use))).1))],[.box 102 [.p (.fp [.int .i64 b0_Net_Nodes,.sl b0_Net_Ties_n b0_Net_Ties_s b0_Net_Ties_g,.fm b0_out_q b0_out_n b0_out_F] 0)],.box 3 [.p (.int .i64 ((s92 (⟨(⟨b0_Net_Nodes,(⟨b0_Net_Ties_n,zar b0_Net_Ties_g⟩:(Sl Tie))⟩:Net),(⟨b0_out_n,b0_out_F⟩:Mp)⟩:web) b1 (zbl (unX b2_cs)) (⟨b3_n,zdC b3_g⟩:(Sl Use))).2.1))],.box 116 b2_cs,.box 67 [.vec 75 2 16 (((s92 (⟨(⟨b0_Net_Nodes,(⟨b0_Net_Ties_n,zar b0_Net_Ties_g⟩:(Sl Tie))⟩:Net),(⟨b0_out_n,b0_out_F⟩:Mp)⟩:web) b1 (zbl (unX b2_cs)) (⟨b3_n,zdC b3_g⟩:(Sl Use))).2.2).len) (fun i=>za4 (((s92 (⟨(⟨b0_Net_Nodes,(⟨b0_Net_Ties_n,zar b0_Net_Ties_g⟩:(Sl Tie))⟩:Net),(⟨b0_out_n,b0_out_F⟩:Mp)⟩:web) b1 (zbl (unX b2_cs)) (⟨b3_n,zdC b3_g⟩:(Sl Use))).2.2).get i))]])
  | _=>none
theorem zJG:zax Tryd.prog 92:=⟨_,rfl,rfl,by kernel_rfl⟩
theorem zNe:zjO Tryd.prog 92 zGC:=zEJ zLt zJG fun xs safe rs ys h hs K hk=>by
  unfold zGC at h
  split at h
  · rename_i b0_Net_Nodes b0_Net_Ties_n b0_Net_Ties_s b0_Net_Ties_g b0_out_q b0_out_n b0_out_F b1 b2_cs b3_n b3_g
    simp only [Option.some.injEq,Prod.mk.injEq] at h
    obtain ⟨rfl,rfl,rfl⟩:=h
    obtain ⟨⟨rfl,b0_Net_Ties_f,rfl⟩,rfl,hT_b2,⟨_,b3_f,rfl⟩,hs⟩:=hs
    try rw [zau b0_Net_Ties_f] at hs
    try rw [zau b0_Net_Ties_f] at hk
    try rw [zdD b3_f] at hs
    try rw [zdD b3_f] at hk
    refine ⟨fun _ _=>[],fun _=>false,zjQ,?_⟩
    show zk1 Tryd.prog G92 zjQ 92 _ K
    have hq:=q92 (⟨(⟨b0_Net_Nodes,(⟨b0_Net_Ties_n,b0_Net_Ties_f⟩:(Sl Tie))⟩:Net),(⟨b0_out_n,b0_out_F⟩:Mp)⟩:web) b1 (zbl (unX b2_cs)) (⟨b3_n,b3_f⟩:(Sl Use)) (fun x=>K x.1 x.2) hs
    dsimp only [e92] at hq
    rw [← hT_b2] at hq
    exact hq hk
  · cases h
abbrev T54:Tabs:=(((Tabs.nil.addF 74 zzj).addF 75 zzs).addM 92 zGC)
theorem zLu:TabsOk Tryd.prog T54:=(((TabsOk.nil.addF zLf).addF zLh).addM zNe)
abbrev G54:Ctrs:=csm T54 (fun _ _=>[]) (fun _=>false)
def zGD:Ann:=⟨45,[(0,zK [1,2,3] [3]),(1,zK [1,2,8,9] [8]),(2,zK [1,2,8,9,23] [8]),(3,zK [6,7] []),(4,zK [1,8,10] [8,10]),(5,zK [1,8,10,32] [8,10]),(6,zK [6,7] []),(7,zK [1,8,10,11] [8,10,11]),(8,zK [8,10,11,12] [8,10,11,12]),(9,zK [10,11,12,13] [8,10,11,12]),(10,zK [10,11,12,13,43] [8,10,11,12,5000]),(11,zK [6,7] [5000])],
 [(10,⟨[10,11,12,13],[8,10,11,12,5000],[],[(11,0,5000,75,fun _=>za4 default)],[],[],[]⟩)],
 [],
 [],[]⟩
abbrev R54:=((Sl Use)×Int)
abbrev e54 (r:R54):List PA:=[.one (.sl r.1.len 2 (fun i=>za4 (r.1.get i))),.one (.int .i64 r.2)]
@[irreducible] def z54:=ptF Tryd.prog G54 zGD Tryd.f54
def zDQ (n:Net) (from_a1:Int) (to:Int) (zhB:Int) (zbb:(Sl Use)) (dt0:Tab) (zdP:Nat→List PV):St:=⟨[(10,zp 10 0),(11,zp 11 0),(12,zp 12 0),(13,.one (.c (.clo 92 [.b 8,.b 12,.b 10,.b 11])))],[(8,.box 102 [.p (.fp (zaC (⟨(s74 n (⟨2,zav (zbU [(enc_3 from_a1),(enc_3 to)])⟩:(Sl Int))).1.Net,((s74 n (⟨2,zav (zbU [(enc_3 from_a1),(enc_3 to)])⟩:(Sl Int))).1.out)⟩:web)) 0)]),(10,.box 116 (zm (zac dt0))),(11,.box 67 [.vec 5000]),(12,.box 3 [zi zhB]),(5000,.vec 75 2 16 zbb.len zdP)],[]⟩
abbrev zJH (K:List PA→Prop) (n:Net) (from_a1:Int) (to:Int) (X:St→Prop) (P:Int→(Sl Use)→Tab→Bool) (S:Int→(Sl Use)→Tab→((Sl Use)×Int)):Prop:=∀ ⦃zhB:Int⦄ ⦃zbb:(Sl Use)⦄ ⦃dt0:Tab⦄ ⦃zdP:Nat→List PV⦄,P zhB zbb dt0=true→K (e54 (S zhB zbb dt0))→zdP=zg za4 zbb→X (zDQ n from_a1 to zhB zbb dt0 zdP)
section
variable {K:List PA→Prop} {n:Net} {from_a1:Int} {to:Int} {zhB:Int} {zbb:(Sl Use)} {dt0:Tab} {zdP:Nat→List PV} {X0:St→Prop} {P0:Int→(Sl Use)→Tab→Bool} {S0:Int→(Sl Use)→Tab→((Sl Use)×Int)}
def zAv (n:Net) (from_a1:Int) (to:Int) (S0:Int→(Sl Use)→Tab→((Sl Use)×Int)) (zhB:Int) (zbb:(Sl Use)) (dt0:Tab):((Sl Use)×Int) :=
  (cond (decide ((tg 80 dt0 (0 + zhB.toNat * 2 + 1)) > (0:Int)))
 (cond ((s92 (⟨(s74 n (⟨2, zav (zbU [(enc_3 from_a1), (enc_3 to)])⟩ : (Sl Int))).1.Net, ((s74 n (⟨2, zav (zbU [(enc_3 from_a1), (enc_3 to)])⟩ : (Sl Int))).1.out)⟩ : web) zhB (zbl (unX (xcm (zac dt0)))) (⟨zbb.len, zbb.get⟩ : (Sl Use))).1)
 (S0 ((s92 (⟨(s74 n (⟨2,zav (zbU [(enc_3 from_a1),(enc_3 to)])⟩:(Sl Int))).1.Net,((s74 n (⟨2,zav (zbU [(enc_3 from_a1),(enc_3 to)])⟩:(Sl Int))).1.out)⟩:web) zhB (zbl (unX (xcm (zac dt0)))) (⟨zbb.len,zbb.get⟩:(Sl Use))).2.1) ((s92 (⟨(s74 n (⟨2,zav (zbU [(enc_3 from_a1),(enc_3 to)])⟩:(Sl Int))).1.Net,((s74 n (⟨2,zav (zbU [(enc_3 from_a1),(enc_3 to)])⟩:(Sl Int))).1.out)⟩:web) zhB (zbl (unX (xcm (zac dt0)))) (⟨zbb.len,zbb.get⟩:(Sl Use))).2.2) dt0)
 (((s92 (⟨(s74 n (⟨2,zav (zbU [(enc_3 from_a1),(enc_3 to)])⟩:(Sl Int))).1.Net,((s74 n (⟨2,zav (zbU [(enc_3 from_a1),(enc_3 to)])⟩:(Sl Int))).1.out)⟩:web) zhB (zbl (unX (xcm (zac dt0)))) (⟨zbb.len,zbb.get⟩:(Sl Use))).2.2),(0:Int)))
 (zbb,(0:Int)))
def zAw (n:Net) (from_a1:Int) (to:Int) (P0:Int→(Sl Use)→Tab→Bool) (zhB:Int) (zbb:(Sl Use)) (dt0:Tab):Bool :=
  (decide ((0≤zhB∧zhB < (40:Int))) &&
 (cond (decide ((tg 80 dt0 (0 + zhB.toNat * 2 + 1)) > (0:Int)))
 (decide ((p92 (⟨(s74 n (⟨2,zav (zbU [(enc_3 from_a1),(enc_3 to)])⟩:(Sl Int))).1.Net,((s74 n (⟨2,zav (zbU [(enc_3 from_a1),(enc_3 to)])⟩:(Sl Int))).1.out)⟩:web) zhB (zbl (unX (xcm (zac dt0)))) (⟨zbb.len,zbb.get⟩:(Sl Use))=true)) &&
 (cond ((s92 (⟨(s74 n (⟨2, zav (zbU [(enc_3 from_a1), (enc_3 to)])⟩ : (Sl Int))).1.Net, ((s74 n (⟨2, zav (zbU [(enc_3 from_a1), (enc_3 to)])⟩ : (Sl Int))).1.out)⟩ : web) zhB (zbl (unX (xcm (zac dt0)))) (⟨zbb.len, zbb.get⟩ : (Sl Use))).1)
 (P0 ((s92 (⟨(s74 n (⟨2,zav (zbU [(enc_3 from_a1),(enc_3 to)])⟩:(Sl Int))).1.Net,((s74 n (⟨2,zav (zbU [(enc_3 from_a1),(enc_3 to)])⟩:(Sl Int))).1.out)⟩:web) zhB (zbl (unX (xcm (zac dt0)))) (⟨zbb.len,zbb.get⟩:(Sl Use))).2.1) ((s92 (⟨(s74 n (⟨2,zav (zbU [(enc_3 from_a1),(enc_3 to)])⟩:(Sl Int))).1.Net,((s74 n (⟨2,zav (zbU [(enc_3 from_a1),(enc_3 to)])⟩:(Sl Int))).1.out)⟩:web) zhB (zbl (unX (xcm (zac dt0)))) (⟨zbb.len,zbb.get⟩:(Sl Use))).2.2) dt0)
 true))
 true))
def zAx (n:Net) (from_a1:Int) (to:Int):Nat→Int→(Sl Use)→Tab→((Sl Use)×Int):=lpO (fun _ _ _=>default) (zAv n from_a1 to)
def zAy (n:Net) (from_a1:Int) (to:Int):Nat→Int→(Sl Use)→Tab→Bool:=lpO (fun _ _ _=>false) (zAw n from_a1 to)
def zAz (n:Net) (from_a1:Int) (to:Int) (zhB:Int) (zbb:(Sl Use)) (dt0:Tab):((Sl Use)×Int):=zAx n from_a1 to Fuel zhB zbb dt0
def zAA (n:Net) (from_a1:Int) (to:Int) (zhB:Int) (zbb:(Sl Use)) (dt0:Tab):Bool:=zAy n from_a1 to Fuel zhB zbb dt0
theorem zGE (hs:zAA n from_a1 to zhB zbb dt0=true) (hk:K (e54 (zAz n from_a1 to zhB zbb dt0))) (zl7:zdP=zg za4 zbb):z54 (Wk K) [1,1,1,1,1,1,1,1,0,0] [] (zDQ n from_a1 to zhB zbb dt0 zdP) :=
  zl (fun X=>z54 (Wk K) [1,1,1,1,1,1,1,1,0,0,0] [X]) (by kernel_rfl) fun X0 hX =>
  (show ∀ k, zJH K n from_a1 to X0 (zAy n from_a1 to k) (zAx n from_a1 to k) from zhs _ _ (zAw n from_a1 to) (zAv n from_a1 to) (zJH K n from_a1 to X0)
 (by intro _ _ _ _ hs;exact absurd hs Bool.false_ne_true)
 (by intro P0 S0 hX0 zhB zbb dt0 zdP hs hk zl7;subst zl7;exact hX _ (zbd (by kernel_rfl) (za6 hs fun hc hs=>And.intro hc (zc hs hk (fun hs hk=>(za6 hs fun hc hs=>And.intro (And.intro (zE zae 4 ((s74 n (⟨2,zav (zbU [(enc_3 from_a1),(enc_3 to)])⟩:(Sl Int))).1.Net.Ties.get)) (And.intro (rfl:((false,1,false,[none]):MQ)=(false,1,false,[none])) (And.intro (zEK:xcm (zac dt0)=xcm (zac (zbl (unX (xcm (zac dt0)))))) (And.intro (zE za4 2 zbb.get) hc)))) (zc hs hk (fun hs hk=>(hX0 hs hk rfl)) (fun hs hk=>((zfS hk):Wk K [.one (.sl (((s92 (⟨(s74 n (⟨2,zav (zbU [(enc_3 from_a1),(enc_3 to)])⟩:(Sl Int))).1.Net,((s74 n (⟨2,zav (zbU [(enc_3 from_a1),(enc_3 to)])⟩:(Sl Int))).1.out)⟩:web) zhB (zbl (unX (xcm (zac dt0)))) (⟨zbb.len,zbb.get⟩:(Sl Use))).2.2).len) 2 (fun i=>za4 (((s92 (⟨(s74 n (⟨2,zav (zbU [(enc_3 from_a1),(enc_3 to)])⟩:(Sl Int))).1.Net,((s74 n (⟨2,zav (zbU [(enc_3 from_a1),(enc_3 to)])⟩:(Sl Int))).1.out)⟩:web) zhB (zbl (unX (xcm (zac dt0)))) (⟨zbb.len,zbb.get⟩:(Sl Use))).2.2).get i))),.one (.int .i64 (0:Int))]))))) (fun hs hk=>((zfS hk):Wk K [.one (.sl zbb.len 2 (fun i=>za4 (zbb.get i))),.one (.int .i64 (0:Int))]))))))) _ hs hk zl7
def s54 (n:Net) (from_a1:Int) (to:Int):((Sl Use)×Int) :=
  (cond ((s74 n (⟨2, zav (zbU [(enc_3 from_a1), (enc_3 to)])⟩ : (Sl Int))).2 == 0)
 (cond ((0:Int) != (0:Int))
 ((⟨0,fun _=>default⟩:(Sl Use)),(0:Int))
 (cond (match ((tg 80 (s75 (⟨(s74 n (⟨2, zav (zbU [(enc_3 from_a1), (enc_3 to)])⟩ : (Sl Int))).1.Net, ((s74 n (⟨2, zav (zbU [(enc_3 from_a1), (enc_3 to)])⟩ : (Sl Int))).1.out)⟩ : web) to) (0 + from_a1.toNat * 2 + 0)) == (1000000000000:Int)) with | true => (match ((tg 80 (s75 (⟨(s74 n (⟨2, zav (zbU [(enc_3 from_a1), (enc_3 to)])⟩ : (Sl Int))).1.Net, ((s74 n (⟨2, zav (zbU [(enc_3 from_a1), (enc_3 to)])⟩ : (Sl Int))).1.out)⟩ : web) to) (0 + from_a1.toNat * 2 + 0 + 1)) == (0:Int)) with | true => true | false => false) | false => false)
 ((⟨0,fun _=>default⟩:(Sl Use)),(6:Int))
 (zAz n from_a1 to from_a1 (⟨0,(fun _=>default)⟩:Sl Use) (s75 (⟨(s74 n (⟨2,zav (zbU [(enc_3 from_a1),(enc_3 to)])⟩:(Sl Int))).1.Net,((s74 n (⟨2,zav (zbU [(enc_3 from_a1),(enc_3 to)])⟩:(Sl Int))).1.out)⟩:web) to))))
 (cond ((s74 n (⟨2, zav (zbU [(enc_3 from_a1), (enc_3 to)])⟩ : (Sl Int))).2 != (0:Int))
 ((⟨0,fun _=>default⟩:(Sl Use)),(s74 n (⟨2,zav (zbU [(enc_3 from_a1),(enc_3 to)])⟩:(Sl Int))).2)
 default))
def p54 (n:Net) (from_a1:Int) (to:Int):Bool :=
  (cond ((s74 n (⟨2, zav (zbU [(enc_3 from_a1), (enc_3 to)])⟩ : (Sl Int))).2 == 0)
 (decide ((p74 n (⟨2,zav (zbU [(enc_3 from_a1),(enc_3 to)])⟩:(Sl Int))=true)) &&
 (cond ((0:Int) != (0:Int))
 true
 (decide ((p75 (⟨(s74 n (⟨2,zav (zbU [(enc_3 from_a1),(enc_3 to)])⟩:(Sl Int))).1.Net,((s74 n (⟨2,zav (zbU [(enc_3 from_a1),(enc_3 to)])⟩:(Sl Int))).1.out)⟩:web) to=true)) &&
 (decide ((0≤from_a1∧from_a1 < (40:Int))) &&
 (cond (match ((tg 80 (s75 (⟨(s74 n (⟨2, zav (zbU [(enc_3 from_a1), (enc_3 to)])⟩ : (Sl Int))).1.Net, ((s74 n (⟨2, zav (zbU [(enc_3 from_a1), (enc_3 to)])⟩ : (Sl Int))).1.out)⟩ : web) to) (0 + from_a1.toNat * 2 + 0)) == (1000000000000:Int)) with | true => (match ((tg 80 (s75 (⟨(s74 n (⟨2, zav (zbU [(enc_3 from_a1), (enc_3 to)])⟩ : (Sl Int))).1.Net, ((s74 n (⟨2, zav (zbU [(enc_3 from_a1), (enc_3 to)])⟩ : (Sl Int))).1.out)⟩ : web) to) (0 + from_a1.toNat * 2 + 0 + 1)) == (0:Int)) with | true => true | false => false) | false => false)
 true
 (zAA n from_a1 to from_a1 (⟨0,(fun _=>default)⟩:Sl Use) (s75 (⟨(s74 n (⟨2,zav (zbU [(enc_3 from_a1),(enc_3 to)])⟩:(Sl Int))).1.Net,((s74 n (⟨2,zav (zbU [(enc_3 from_a1),(enc_3 to)])⟩:(Sl Int))).1.out)⟩:web) to)))))))
 (decide ((p74 n (⟨2,zav (zbU [(enc_3 from_a1),(enc_3 to)])⟩:(Sl Int))=true)) &&
 (cond ((s74 n (⟨2, zav (zbU [(enc_3 from_a1), (enc_3 to)])⟩ : (Sl Int))).2 != (0:Int))
 true
 false)))
end
theorem q54 (n:Net) (from_a1:Int) (to:Int) (K:List PA→Prop) (hs:p54 n from_a1 to=true) (hk:K (e54 (s54 n from_a1 to))):vcFun Tryd.prog G54 zGD 54 [.agg (enc_24 n),.one (.int .i64 from_a1),.one (.int .i64 to)] (Wk K) :=
  zbd (by kernel_rfl) (zc hs hk (fun hs hk=>(za6 hs fun hc hs=>And.intro (And.intro (zE zae 4 n.Ties.get) (And.intro ((zeN []):IsE enc_3 1 1 (zbU [(enc_3 from_a1),(enc_3 to)])) hc)) (zc hs hk (fun hs hk=>((wk hk (zcw (.one (.nil _ _)) (zcw (.one (.rfl _)) zeB))):Wk K [.one (.nils),.one (.int .i64 (0:Int))])) (fun hs hk=>(za6 hs fun hc hs=>And.intro (And.intro (zE zae 4 ((s74 n (⟨2,zav (zbU [(enc_3 from_a1),(enc_3 to)])⟩:(Sl Int))).1.Net.Ties.get)) (And.intro (rfl:((false,1,false,[none]):MQ)=(false,1,false,[none])) hc)) (za6 hs fun hc hs=>And.intro hc (zc hs hk (fun hs hk=>((wk hk (zcw (.one (.nil _ _)) (zcw (.one (.rfl _)) zeB))):Wk K [.one (.nils),.one (.int .i64 (6:Int))])) (fun hs hk=>(zGE hs hk rfl))))))))) (fun hs hk=>(za6 hs fun hc hs=>And.intro (And.intro (zE zae 4 n.Ties.get) (And.intro ((zeN []):IsE enc_3 1 1 (zbU [(enc_3 from_a1),(enc_3 to)])) hc)) (zc hs hk (fun hs hk=>((wk hk (zcw (.one (.nil _ _)) (zcw (.one (.rfl _)) zeB))):Wk K [.one (.nils),.one (.int .i64 ((s74 n (⟨2,zav (zbU [(enc_3 from_a1),(enc_3 to)])⟩:(Sl Int))).2))])) (fun hs hk=>(absurd hs Bool.false_ne_true:False))))))
def zGF : List PA → COut
  | [.agg [.int .i64 zao,.sl zak zaV zaj],.one (.int .i64 a1),.one (.int .i64 a2)]=>.det (IsE zae 4 zaV zaj∧p54 (⟨zao,(⟨zak,zar zaj⟩:(Sl Tie))⟩:Net) a1 a2=true) [.one (.sl (((s54 (⟨zao,(⟨zak,zar zaj⟩:(Sl Tie))⟩:Net) a1 a2).1).len) 2 (fun i=>za4 (((s54 (⟨zao,(⟨zak,zar zaj⟩:(Sl Tie))⟩:Net) a1 a2).1).get i))),.one (.int .i64 ((s54 (⟨zao,(⟨zak,zar zaj⟩:(Sl Tie))⟩:Net) a1 a2).2))]
  | _=>.no
theorem zJI:zax Tryd.prog 54:=⟨_,rfl,rfl,by kernel_rfl⟩
theorem zNf:Ok Tryd.prog 54 zGF:=zgf zLu zJI fun args K h=>by
  unfold zGF at h
  split at h
  · rename_i zao zak zaV zaj a1 a2
    obtain ⟨⟨⟨rfl,zaL,rfl⟩,hs⟩,hk⟩:=h
    try rw [zau zaL] at hs
    try rw [zau zaL] at hk
    exact ⟨_,zff zfR _,(fun _ _=>[]),(fun _=>false),zGD,q54 (⟨zao,(⟨zak,zaL⟩:(Sl Tie))⟩:Net) a1 a2 K hs hk⟩
  · exact h.elim
abbrev T66:Tabs:=Tabs.nil
theorem zLv:TabsOk Tryd.prog T66:=TabsOk.nil
abbrev G66:Ctrs:=csm T66 (fun _ _=>[]) (fun _=>false)
def zJJ:Ann:=⟨6,[(0,zK [0] [0]),(1,zK [0] [0,4])],
 [],
 [],
 [],[]⟩
abbrev R66:=Net
abbrev e66 (r:R66):List PA:=[.agg [.int .i64 r.Nodes,.sl r.Ties.len 4 (fun i=>zae (r.Ties.get i))]]
section
variable {K:List PA→Prop}
def s66:Net :=
  (⟨(3:Int),(⟨3,(zqQ (⟨(0:Int),(1:Int),(5:Int),(8:Int)⟩:Tie) [(⟨(0:Int),(1:Int),(5:Int),(8:Int)⟩:Tie),(⟨(1:Int),(2:Int),(-2:Int),(3:Int)⟩:Tie),(⟨(2:Int),(0:Int),(-9:Int),(1000000000000:Int)⟩:Tie)])⟩:(Sl Tie))⟩:Net)
end
theorem q66 (K:List PA→Prop) (hk:K (e66 (s66))):vcFun Tryd.prog G66 zJJ 66 [] K :=
  zbd (by kernel_rfl) (Eq.mpr (congrArg K (congrArg (fun (g_:Nat→List PV)=>([.agg [.int .i64 (3:Int),.sl 3 4 g_]]:List PA)) (zuj (enc:=zae) (x:=(⟨(0:Int),(1:Int),(5:Int),(8:Int)⟩:Tie)) (y:=(⟨(1:Int),(2:Int),(-2:Int),(3:Int)⟩:Tie)) (r:=[(⟨(2:Int),(0:Int),(-9:Int),(1000000000000:Int)⟩:Tie)])))) hk)
def zGG : List PA → COut
  | []=>.tot [.agg [.int .i64 ((s66).Nodes),.sl ((s66).Ties.len) 4 (fun i=>zae ((s66).Ties.get i))]]
  | _=>.no
theorem zJK:zax Tryd.prog 66:=⟨_,rfl,rfl,by kernel_rfl⟩
theorem zNg:Ok Tryd.prog 66 zGG:=zbY zLv zJK fun args K h=>by
  unfold zGG at h
  split at h
  · have hk := h
    exact ⟨(fun _ _=>[]),(fun _=>false),zJJ,q66 K hk⟩
  · exact h.elim
abbrev T21:Tabs:=((((((((((Tabs.nil.addF 22 zFJ).addF 25 zFN).addF 26 zF8).addF 29 zF9).addF 32 zGd).addF 45 zGm).addF 49 zGv).addF 53 zGz).addF 54 zGF).addF 66 zGG)
theorem zLw:TabsOk Tryd.prog T21:=((((((((((TabsOk.nil.addF zM4).addF zM5).addF zM6).addF zM7).addF ok32).addF zNb).addF zNc).addF zNd).addF zNf).addF zNg)
abbrev G21:Ctrs:=csm T21 (fun _ _=>[]) (fun _=>false)
def zGH:Ann:=⟨87,[(0,zK [] []),(1,zK [1,2] []),(2,zK [1,2,3,4] []),(3,zK [1,2,3,4,5,6] []),(4,zK [1,2,3,4,5,6,7] [7]),(5,zK [1,2,3,4,5,6,7,8,9] [7]),(6,zK [1,2,3,4,5,6,8,9,10,11] []),(7,zK [1,3,5,8,10,57] []),(8,zK [0] []),(9,zK [0] [])],
 [],
 [(2,zK [1,2] []),(3,zK [1,2,3,4] []),(4,zK [1,2,3,4,5,6] []),(5,zK [1,2,3,4,5,6,7] [7]),(6,zK [1,2,3,4,5,6,7,8,9] [7]),(7,zK [1,2,3,4,5,6,8,9,10,11] []),(9,zK [1,3,5,8,10] [])],
 [],[]⟩
abbrev R21:=Bool
abbrev e21 (r:R21):List PA:=[.one (.bool r)]
@[irreducible] def z21:=ptF Tryd.prog G21 zGH Tryd.f21
section
variable {K:List PA→Prop} {bv0:(Sl Span)} {ev0:Int} {zJL:Nat→List PV} {cv1:(Sl Use)} {fv1:Int} {zJM:Nat→List PV} {vv2:(Sl Int)} {gv2:Int} {zJN:Nat→List PV} {zcX:Int} {zcv:(Sl Tie)} {zl8:Nat→List PV} {xv4:(Sl Use)} {hv4:Int} {zJO:Nat→List PV} {lv5:(Sl Int)} {iv5:Int} {zJP:Nat→List PV}
def zAB (bv0:(Sl Span)) (cv1:(Sl Use)) (vv2:(Sl Int)) (xv4:(Sl Use)) (lv5:(Sl Int)):Bool :=
  (cond (s32 bv0 (⟨3, zgg (zbU [(zbQ (⟨(0:Int), (0:Int)⟩ : Span)), (zbQ (⟨(5:Int), (8:Int)⟩ : Span)), (zbQ (⟨(3:Int), (9:Int)⟩ : Span))])⟩ : (Sl Span)))
 (cond (s53 cv1 (⟨1, fun _ => (⟨(2:Int), true⟩ : Use)⟩ : (Sl Use)))
 (cond (s25 vv2 (⟨3, zav (zbU [(enc_3 (0:Int)), (enc_3 (5:Int)), (enc_3 (8:Int))])⟩ : (Sl Int)))
 (cond (s53 xv4 (⟨2, zdC (zbU [(za4 (⟨(2:Int), true⟩ : Use)), (za4 (⟨(3:Int), true⟩ : Use))])⟩ : (Sl Use)))
 (s25 lv5 (⟨1,fun _=>(2:Int)⟩:(Sl Int)))
 false)
 false)
 false)
 false)
def zAC (bv0:(Sl Span)) (cv1:(Sl Use)) (vv2:(Sl Int)) (xv4:(Sl Use)) (lv5:(Sl Int)):Bool :=
  (decide ((p32 bv0 (⟨3,zgg (zbU [(zbQ (⟨(0:Int),(0:Int)⟩:Span)),(zbQ (⟨(5:Int),(8:Int)⟩:Span)),(zbQ (⟨(3:Int),(9:Int)⟩:Span))])⟩:(Sl Span))=true)) &&
 (cond (s32 bv0 (⟨3, zgg (zbU [(zbQ (⟨(0:Int), (0:Int)⟩ : Span)), (zbQ (⟨(5:Int), (8:Int)⟩ : Span)), (zbQ (⟨(3:Int), (9:Int)⟩ : Span))])⟩ : (Sl Span)))
 (decide ((p53 cv1 (⟨1,fun _=>(⟨(2:Int),true⟩:Use)⟩:(Sl Use))=true)) &&
 (cond (s53 cv1 (⟨1, fun _ => (⟨(2:Int), true⟩ : Use)⟩ : (Sl Use)))
 (decide ((p25 vv2 (⟨3,zav (zbU [(enc_3 (0:Int)),(enc_3 (5:Int)),(enc_3 (8:Int))])⟩:(Sl Int))=true)) &&
 (cond (s25 vv2 (⟨3, zav (zbU [(enc_3 (0:Int)), (enc_3 (5:Int)), (enc_3 (8:Int))])⟩ : (Sl Int)))
 (decide ((p53 xv4 (⟨2,zdC (zbU [(za4 (⟨(2:Int),true⟩:Use)),(za4 (⟨(3:Int),true⟩:Use))])⟩:(Sl Use))=true)) &&
 (cond (s53 xv4 (⟨2, zdC (zbU [(za4 (⟨(2:Int), true⟩ : Use)), (za4 (⟨(3:Int), true⟩ : Use))])⟩ : (Sl Use)))
 (decide ((p25 lv5 (⟨1,fun _=>(2:Int)⟩:(Sl Int))=true)) &&
 true)
 true))
 true))
 true))
 true))
theorem zGI (hs:zAC bv0 cv1 vv2 xv4 lv5=true) (hk:K (e21 (zAB bv0 cv1 vv2 xv4 lv5))):z21 K [1,1,1,1,1,1,1,1] [] ⟨[(1,zS zbQ 2 bv0),(3,zS za4 2 cv1),(5,zS enc_3 1 vv2),(8,zS za4 2 xv4),(10,zS enc_3 1 lv5)],[],[]⟩:=zbd (by kernel_rfl) (za6 hs fun hc hs=>And.intro (And.intro (zE zbQ 2 bv0.get) (And.intro ((zeN [(⟨(3:Int),(9:Int)⟩:Span)]):IsE zbQ 2 2 (zbU [(zbQ (⟨(0:Int),(0:Int)⟩:Span)),(zbQ (⟨(5:Int),(8:Int)⟩:Span)),(zbQ (⟨(3:Int),(9:Int)⟩:Span))])) hc)) (zc hs hk (fun hs hk=>(za6 hs fun hc hs=>And.intro (And.intro (zE za4 2 cv1.get) (And.intro (zxz:IsE za4 2 2 (fun _=>(za4 (⟨(2:Int),true⟩:Use)))) hc)) (zc hs hk (fun hs hk=>(za6 hs fun hc hs=>And.intro (And.intro (zE enc_3 1 vv2.get) (And.intro ((zeN [(8:Int)]):IsE enc_3 1 1 (zbU [(enc_3 (0:Int)),(enc_3 (5:Int)),(enc_3 (8:Int))])) hc)) (zc hs hk (fun hs hk=>(za6 hs fun hc hs=>And.intro (And.intro (zE za4 2 xv4.get) (And.intro ((zeN []):IsE za4 2 2 (zbU [(za4 (⟨(2:Int),true⟩:Use)),(za4 (⟨(3:Int),true⟩:Use))])) hc)) (zc hs hk (fun hs hk=>(za6 hs fun hc hs=>And.intro (And.intro (zE enc_3 1 lv5.get) (And.intro (zxz:IsE enc_3 1 1 (fun _=>(enc_3 (2:Int)))) hc)) hk)) (fun hs hk=>hk)))) (fun hs hk=>hk)))) (fun hs hk=>hk)))) (fun hs hk=>hk)))
def zAD (bv0:(Sl Span)) (ev0:Int) (cv1:(Sl Use)) (fv1:Int) (vv2:(Sl Int)) (gv2:Int) (xv4:(Sl Use)) (hv4:Int) (lv5:(Sl Int)) (iv5:Int):Bool :=
  (cond (ev0 != (0:Int))
 false
 (cond (fv1 != (0:Int))
 false
 (cond (gv2 != (0:Int))
 false
 (cond (hv4 != (0:Int))
 false
 (cond (iv5 != (0:Int))
 false
 (zAB bv0 cv1 vv2 xv4 lv5))))))
def zAE (bv0:(Sl Span)) (ev0:Int) (cv1:(Sl Use)) (fv1:Int) (vv2:(Sl Int)) (gv2:Int) (xv4:(Sl Use)) (hv4:Int) (lv5:(Sl Int)) (iv5:Int):Bool :=
  (cond (ev0 != (0:Int))
 true
 (cond (fv1 != (0:Int))
 true
 (cond (gv2 != (0:Int))
 true
 (cond (hv4 != (0:Int))
 true
 (cond (iv5 != (0:Int))
 true
 (zAC bv0 cv1 vv2 xv4 lv5))))))
theorem zGJ (hs:zAE bv0 ev0 cv1 fv1 vv2 gv2 xv4 hv4 lv5 iv5=true) (hk:K (e21 (zAD bv0 ev0 cv1 fv1 vv2 gv2 xv4 hv4 lv5 iv5))) (zLx:zJP=zg enc_3 lv5):z21 K [1,1,1,1,1,1,1] [] ⟨[(1,zS zbQ 2 bv0),(2,zI ev0),(3,zS za4 2 cv1),(4,zI fv1),(5,zS enc_3 1 vv2),(6,zI gv2),(8,zS za4 2 xv4),(9,zI hv4),(10,zP (.sl lv5.len 1 zJP)),(11,zI iv5)],[],[]⟩:=by subst zLx;exact zbd (by kernel_rfl) (zc hs hk (fun hs hk=>hk) (fun hs hk=>(zc hs hk (fun hs hk=>hk) (fun hs hk=>(zc hs hk (fun hs hk=>hk) (fun hs hk=>(zc hs hk (fun hs hk=>hk) (fun hs hk=>(zc hs hk (fun hs hk=>hk) (fun hs hk=>(zGI hs hk)))))))))))
def zAF (bv0:(Sl Span)) (ev0:Int) (cv1:(Sl Use)) (fv1:Int) (vv2:(Sl Int)) (gv2:Int) (zcX:Int) (zcv:(Sl Tie)) (xv4:(Sl Use)) (hv4:Int):Bool :=
  (zAD bv0 ev0 cv1 fv1 vv2 gv2 xv4 hv4 ((s22 (⟨zcX,zcv⟩:Net)).1) ((s22 (⟨zcX,zcv⟩:Net)).2))
def zAG (bv0:(Sl Span)) (ev0:Int) (cv1:(Sl Use)) (fv1:Int) (vv2:(Sl Int)) (gv2:Int) (zcX:Int) (zcv:(Sl Tie)) (xv4:(Sl Use)) (hv4:Int):Bool :=
  (decide ((p22 (⟨zcX,zcv⟩:Net)=true)) &&
 (zAE bv0 ev0 cv1 fv1 vv2 gv2 xv4 hv4 ((s22 (⟨zcX,zcv⟩:Net)).1) ((s22 (⟨zcX,zcv⟩:Net)).2)))
theorem zGK (hs:zAG bv0 ev0 cv1 fv1 vv2 gv2 zcX zcv xv4 hv4=true) (hk:K (e21 (zAF bv0 ev0 cv1 fv1 vv2 gv2 zcX zcv xv4 hv4))) (zLy:zJO=zg za4 xv4):z21 K [1,1,1,1,1,1] [] ⟨[(1,zS zbQ 2 bv0),(2,zI ev0),(3,zS za4 2 cv1),(4,zI fv1),(5,zS enc_3 1 vv2),(6,zI gv2),(7,zp 7 0),(8,zP (.sl xv4.len 2 zJO)),(9,zI hv4)],[(7,.box 24 (zm (enc_24 (⟨zcX,zcv⟩:Net))))],[]⟩:=by subst zLy;exact zbd (by kernel_rfl) (za6 hs fun hc hs=>And.intro (And.intro (zE zae 4 zcv.get) hc) (zGJ hs hk rfl))
def zAH (bv0:(Sl Span)) (ev0:Int) (cv1:(Sl Use)) (fv1:Int) (vv2:(Sl Int)) (gv2:Int) (zcX:Int) (zcv:(Sl Tie)):Bool :=
  (zAF bv0 ev0 cv1 fv1 vv2 gv2 zcX zcv ((s49 (⟨zcX,zcv⟩:Net)).1) ((s49 (⟨zcX,zcv⟩:Net)).2))
def zAI (bv0:(Sl Span)) (ev0:Int) (cv1:(Sl Use)) (fv1:Int) (vv2:(Sl Int)) (gv2:Int) (zcX:Int) (zcv:(Sl Tie)):Bool :=
  (decide ((p49 (⟨zcX,zcv⟩:Net)=true)) &&
 (zAG bv0 ev0 cv1 fv1 vv2 gv2 zcX zcv ((s49 (⟨zcX,zcv⟩:Net)).1) ((s49 (⟨zcX,zcv⟩:Net)).2)))
theorem zGL (hs:zAI bv0 ev0 cv1 fv1 vv2 gv2 zcX zcv=true) (hk:K (e21 (zAH bv0 ev0 cv1 fv1 vv2 gv2 zcX zcv))) (zs4:zl8=zg zae zcv):z21 K [1,1,1,1,1] [] ⟨[(1,zS zbQ 2 bv0),(2,zI ev0),(3,zS za4 2 cv1),(4,zI fv1),(5,zS enc_3 1 vv2),(6,zI gv2),(7,zp 7 0)],[(7,.box 24 [zi zcX,.p (.sl zcv.len 4 zl8)])],[]⟩:=by subst zs4;exact zbd (by kernel_rfl) (za6 hs fun hc hs=>And.intro (And.intro (zE zae 4 zcv.get) hc) (zGK hs hk rfl))
def zAJ (bv0:(Sl Span)) (ev0:Int) (cv1:(Sl Use)) (fv1:Int) (vv2:(Sl Int)) (gv2:Int):Bool :=
  (zAH bv0 ev0 cv1 fv1 vv2 gv2 ((s29 s66 (⟨(0:Int),(2:Int),(10:Int),(12:Int)⟩:Tie)).Nodes) ((s29 s66 (⟨(0:Int),(2:Int),(10:Int),(12:Int)⟩:Tie)).Ties))
def zAK (bv0:(Sl Span)) (ev0:Int) (cv1:(Sl Use)) (fv1:Int) (vv2:(Sl Int)) (gv2:Int):Bool :=
  (decide ((p29 s66 (⟨(0:Int),(2:Int),(10:Int),(12:Int)⟩:Tie)=true)) &&
 (zAI bv0 ev0 cv1 fv1 vv2 gv2 ((s29 s66 (⟨(0:Int),(2:Int),(10:Int),(12:Int)⟩:Tie)).Nodes) ((s29 s66 (⟨(0:Int),(2:Int),(10:Int),(12:Int)⟩:Tie)).Ties)))
theorem zGM (hs:zAK bv0 ev0 cv1 fv1 vv2 gv2=true) (hk:K (e21 (zAJ bv0 ev0 cv1 fv1 vv2 gv2))) (zLz:zJN=zg enc_3 vv2):z21 K [1,1,1,1] [] ⟨[(1,zS zbQ 2 bv0),(2,zI ev0),(3,zS za4 2 cv1),(4,zI fv1),(5,zP (.sl vv2.len 1 zJN)),(6,zI gv2)],[],[]⟩:=by subst zLz;exact zbd (by kernel_rfl) (za6 hs fun hc hs=>And.intro (And.intro (zE zae 4 s66.Ties.get) hc) (zGL hs hk rfl))
def zAL (bv0:(Sl Span)) (ev0:Int) (cv1:(Sl Use)) (fv1:Int):Bool :=
  (zAJ bv0 ev0 cv1 fv1 ((s45 s66 (1:Int) (0:Int)).1) ((s45 s66 (1:Int) (0:Int)).2))
def zAM (bv0:(Sl Span)) (ev0:Int) (cv1:(Sl Use)) (fv1:Int):Bool :=
  (decide ((p45 s66 (1:Int) (0:Int)=true)) &&
 (zAK bv0 ev0 cv1 fv1 ((s45 s66 (1:Int) (0:Int)).1) ((s45 s66 (1:Int) (0:Int)).2)))
theorem zGN (hs:zAM bv0 ev0 cv1 fv1=true) (hk:K (e21 (zAL bv0 ev0 cv1 fv1))) (zLA:zJM=zg za4 cv1):z21 K [1,1,1] [] ⟨[(1,zS zbQ 2 bv0),(2,zI ev0),(3,zP (.sl cv1.len 2 zJM)),(4,zI fv1)],[],[]⟩:=by subst zLA;exact zbd (by kernel_rfl) (za6 hs fun hc hs=>And.intro (And.intro (zE zae 4 s66.Ties.get) hc) (zGM hs hk rfl))
def zAN (bv0:(Sl Span)) (ev0:Int):Bool :=
  (zAL bv0 ev0 ((s54 s66 (0:Int) (2:Int)).1) ((s54 s66 (0:Int) (2:Int)).2))
def zAO (bv0:(Sl Span)) (ev0:Int):Bool :=
  (decide ((p54 s66 (0:Int) (2:Int)=true)) &&
 (zAM bv0 ev0 ((s54 s66 (0:Int) (2:Int)).1) ((s54 s66 (0:Int) (2:Int)).2)))
theorem zGO (hs:zAO bv0 ev0=true) (hk:K (e21 (zAN bv0 ev0))) (zLB:zJL=zg zbQ bv0):z21 K [1,1] [] ⟨[(1,zP (.sl bv0.len 2 zJL)),(2,zI ev0)],[],[]⟩:=by subst zLB;exact zbd (by kernel_rfl) (za6 hs fun hc hs=>And.intro (And.intro (zE zae 4 s66.Ties.get) hc) (zGN hs hk rfl))
def s21:Bool :=
  (zAN ((s26 s66).1) ((s26 s66).2))
def p21:Bool :=
  (decide ((p26 s66=true)) &&
 (zAO ((s26 s66).1) ((s26 s66).2)))
end
theorem q21 (K:List PA→Prop) (hs:p21=true) (hk:K (e21 (s21))):vcFun Tryd.prog G21 zGH 21 [] K :=
  zbd (by kernel_rfl) (za6 hs fun hc hs=>And.intro (And.intro (zE zae 4 s66.Ties.get) hc) (zGO hs hk rfl))
theorem zJQ:p21=true:=by kernel_rfl
theorem zJR:s21=true:=by kernel_rfl
def zGP : List PA → COut
  | []=>.tot [.one (.bool true)]
  | _=>.no
theorem zJS:zax Tryd.prog 21:=⟨_,rfl,rfl,by kernel_rfl⟩
theorem zNh:Ok Tryd.prog 21 zGP:=zbY zLw zJS fun args K h=>by
  unfold zGP at h
  split at h
  · refine ⟨fun _ _ => [], fun _ => false, zGH, q21 K zJQ ?_⟩
    show K [.one (.bool s21)]
    rw [zJR];exact h
  · exact h.elim
abbrev T42:Tabs:=Tabs.nil
theorem zLC:TabsOk Tryd.prog T42:=TabsOk.nil
abbrev G42:Ctrs:=csm T42 (fun _ _=>[]) (fun _=>false)
def zGQ:Ann:=⟨38,[(0,zK [2,3] [2,3]),(1,zK [2,3,19] [2,3]),(2,zK [4] []),(3,zK [2,3,5] [2,3]),(4,zK [2,3,5,24] [2,3]),(5,zK [2,3,5] [2,3]),(6,zK [2,3,5,37] [2,3]),(7,zK [4] []),(8,zK [4] [])],
 [(4,zK [2,3,5] [2,3])],
 [(3,zK [2,3] [2,3])],
 [],[]⟩
abbrev R42:=Bool
abbrev e42 (r:R42):List PA:=[.one (.bool r)]
@[irreducible] def z42:=ptF Tryd.prog G42 zGQ Tryd.f42
def zDR (a:Net) (b:Net) (iv1:Int):St:=⟨[(2,zp 2 0),(3,zp 3 0),(5,zI iv1)],[(2,.box 24 (zm (enc_24 a))),(3,.box 24 (zm (enc_24 b)))],[]⟩
abbrev zJT (K:List PA→Prop) (a:Net) (b:Net) (X:St→Prop) (P:Int→Bool) (S:Int→Bool):Prop:=∀ ⦃iv1:Int⦄,P iv1=true→K (e42 (S iv1))→X (zDR a b iv1)
section
variable {K:List PA→Prop} {a:Net} {b:Net} {iv1:Int} {X1:St→Prop} {P1:Int→Bool} {S1:Int→Bool}
def ziU (a:Net) (b:Net) (S1:Int→Bool) (iv1:Int):Bool :=
  (cond (decide (iv1 < (a.Ties.len : Int)))
 (cond (!(match ((a.Ties.get iv1.toNat).From == (b.Ties.get iv1.toNat).From) with | true => (match ((a.Ties.get iv1.toNat).To == (b.Ties.get iv1.toNat).To) with | true => (match ((a.Ties.get iv1.toNat).Low == (b.Ties.get iv1.toNat).Low) with | true => (match ((a.Ties.get iv1.toNat).High == (b.Ties.get iv1.toNat).High) with | true => true | false => false) | false => false) | false => false) | false => false))
 false
 (S1 (w64 (iv1+(1:Int)))))
 true)
def ziV (a:Net) (b:Net) (P1:Int→Bool) (iv1:Int):Bool :=
  (cond (decide (iv1 < (a.Ties.len : Int)))
 (decide ((0≤iv1∧iv1 < (a.Ties.len:Int))) &&
 (decide ((0≤iv1∧iv1 < (b.Ties.len:Int))) &&
 (cond (!(match ((a.Ties.get iv1.toNat).From == (b.Ties.get iv1.toNat).From) with | true => (match ((a.Ties.get iv1.toNat).To == (b.Ties.get iv1.toNat).To) with | true => (match ((a.Ties.get iv1.toNat).Low == (b.Ties.get iv1.toNat).Low) with | true => (match ((a.Ties.get iv1.toNat).High == (b.Ties.get iv1.toNat).High) with | true => true | false => false) | false => false) | false => false) | false => false))
 true
 (P1 (w64 (iv1+(1:Int)))))))
 true)
def ziW (a:Net) (b:Net):Nat→Int→Bool:=lpO (fun _=>default) (ziU a b)
def ziX (a:Net) (b:Net):Nat→Int→Bool:=lpO (fun _=>false) (ziV a b)
def zAP (a:Net) (b:Net) (iv1:Int):Bool:=ziW a b Fuel iv1
def zAQ (a:Net) (b:Net) (iv1:Int):Bool:=ziX a b Fuel iv1
theorem zGR (hs:zAQ a b iv1=true) (hk:K (e42 (zAP a b iv1))):z42 K [1,1,0,1,0] [] (zDR a b iv1) :=
  zl (fun X=>z42 K [1,1,0,1,0,0] [X]) (by kernel_rfl) fun X1 hX =>
  (show ∀ k, zJT K a b X1 (ziX a b k) (ziW a b k) from zhs _ _ (ziV a b) (ziU a b) (zJT K a b X1)
 (by intro _ hs;exact absurd hs Bool.false_ne_true)
 (by intro P1 S1 hX1 iv1 hs hk;exact hX _ (zbd (by kernel_rfl) (zc hs hk (fun hs hk=>(za6 hs fun hc hs=>And.intro hc (za6 hs fun hc hs=>And.intro hc (zc hs hk (fun hs hk=>hk) (fun hs hk=>(hX1 hs hk)))))) (fun hs hk=>hk))))) _ hs hk
def zs5 (a:Net) (b:Net):Bool :=
  (zAP a b (0:Int))
def zAR (a:Net) (b:Net):Bool :=
  (zAQ a b (0:Int))
theorem zGS (hs:zAR a b=true) (hk:K (e42 (zs5 a b))):z42 K [1,1] [] ⟨[(2,zp 2 0),(3,zp 3 0)],[(2,.box 24 (zm (enc_24 a))),(3,.box 24 (zm (enc_24 b)))],[]⟩:=zbd (by kernel_rfl) (zGR hs hk)
def s42 (a:Net) (b:Net):Bool :=
  (cond (a.Nodes != b.Nodes)
 false
 (cond ((a.Ties.len : Int) != (b.Ties.len : Int))
 false
 (zs5 a b)))
def p42 (a:Net) (b:Net):Bool :=
  (cond (a.Nodes != b.Nodes)
 true
 (cond ((a.Ties.len : Int) != (b.Ties.len : Int))
 true
 (zAR a b)))
end
theorem q42 (a:Net) (b:Net) (K:List PA→Prop) (hs:p42 a b=true) (hk:K (e42 (s42 a b))):vcFun Tryd.prog G42 zGQ 42 [.agg (enc_24 a),.agg (enc_24 b)] K :=
  zbd (by kernel_rfl) (zc hs hk (fun hs hk=>hk) (fun hs hk=>(zc hs hk (fun hs hk=>hk) (fun hs hk=>(zGS hs hk)))))
def zGT : List PA → COut
  | [.agg [.int .i64 zao,.sl zak zaV zaj],.agg [.int .i64 zj6,.sl zio zqB ziq]]=>.det (IsE zae 4 zaV zaj∧IsE zae 4 zqB ziq∧p42 (⟨zao,(⟨zak,zar zaj⟩:(Sl Tie))⟩:Net) (⟨zj6,(⟨zio,zar ziq⟩:(Sl Tie))⟩:Net)=true) [.one (.bool (s42 (⟨zao,(⟨zak,zar zaj⟩:(Sl Tie))⟩:Net) (⟨zj6,(⟨zio,zar ziq⟩:(Sl Tie))⟩:Net)))]
  | _=>.no
theorem zJU:zax Tryd.prog 42:=⟨_,rfl,rfl,by kernel_rfl⟩
theorem zNi:Ok Tryd.prog 42 zGT:=zbY zLC zJU fun args K h=>by
  unfold zGT at h
  split at h
  · rename_i zao zak zaV zaj zj6 zio zqB ziq
    obtain ⟨⟨⟨rfl,zaL,rfl⟩,⟨rfl,zl9,rfl⟩,hs⟩,hk⟩:=h
    try rw [zau zaL] at hs
    try rw [zau zaL] at hk
    try rw [zau zl9] at hs
    try rw [zau zl9] at hk
    exact ⟨(fun _ _=>[]),(fun _=>false),zGQ,q42 (⟨zao,(⟨zak,zaL⟩:(Sl Tie))⟩:Net) (⟨zj6,(⟨zio,zl9⟩:(Sl Tie))⟩:Net) K hs hk⟩
  · exact h.elim
abbrev T97:Tabs:=Tabs.nil
theorem zLD:TabsOk Tryd.prog T97:=TabsOk.nil
abbrev G97:Ctrs:=csm T97 (fun _ _=>[]) (fun _=>false)
def zJV:Ann:=⟨14,[(0,zK [0,1,2] []),(1,zK [0,1,2,7] []),(2,zK [5] []),(3,zK [5] [])],
 [],
 [],
 [],[]⟩
abbrev R97:=Int
abbrev e97 (r:R97):List PA:=[.one (.int .i64 r)]
section
variable {K:List PA→Prop} {c0:Int} {node:Int} {epoch:Int}
def s97 (c0:Int) (node:Int) (epoch:Int):Int :=
  (cond (node == (0:Int))
 (0:Int)
 (w64 ((w64 (epoch * (w64 (c0 - (1:Int)))))+node)))
end
theorem q97 (c0:Int) (node:Int) (epoch:Int) (K:List PA→Prop) (hk:K (e97 (s97 c0 node epoch))):vcFun Tryd.prog G97 zJV 97 [.one (.int .i64 node),.one (.int .i64 epoch),.one (.fp (enc_3 c0) 0)] K :=
  zbd (by kernel_rfl) (zt hk (fun hk=>hk) (fun hk=>hk))
def zGU : List PA → COut
  | [.one (.int .i64 a0),.one (.int .i64 a1),.one (.fp [.int .i64 c0] 0)]=>.tot [.one (.int .i64 (s97 c0 a0 a1))]
  | _=>.no
theorem zJW:zax Tryd.prog 97:=⟨_,rfl,rfl,by kernel_rfl⟩
theorem zNj:Ok Tryd.prog 97 zGU:=zbY zLD zJW fun args K h=>by
  unfold zGU at h
  split at h
  · rename_i a0 a1 c0
    have hk:=h
    exact ⟨(fun _ _=>[]),(fun _=>false),zJV,q97 c0 a0 a1 K hk⟩
  · exact h.elim
abbrev T61:Tabs:=(((Tabs.nil.addF 67 zvH).addF 81 zvG).addF 97 zGU)
theorem zLE:TabsOk Tryd.prog T61:=(((TabsOk.nil.addF zKl).addF zKk).addF zNj)
abbrev G61:Ctrs:=csm T61 (fun _ _=>[]) (fun _=>false)
def zGV:Ann:=⟨161,[(0,zK [0,1,4] [4]),(1,zK [0,1,4,21] [4]),(2,zK [4,5] [4]),(3,zK [0,1,4,25] [4]),(4,zK [4,5] [4]),(5,zK [0,1,4,6] [4,6]),(6,zK [0,1,4,6,31,32,33] [4,6]),(7,zK [0,1,4,6,31,32,33,34] [4,6]),(8,zK [0,1,4,6,8,31,32,33] [4,6,8]),(9,zK [0,1,4,6,31,32,33,45] [4,6]),(10,zK [4,5] [4]),(11,zK [0,1,4,6,31,32,33] [4,6]),(12,zK [0,1,4,6,57] [4,6]),(13,zK [4,5] [4]),(14,zK [0,1,4,6,59,60,61] [4,6]),(15,zK [0,1,4,6,59,60,61,62] [4,6]),(16,zK [0,1,4,6,10,59,60,61] [4,6]),(17,zK [0,1,4,6,59,60,61,67] [4,6]),(18,zK [4,5] [4]),(19,zK [0,1,4,6,59,60,61] [4,6]),(20,zK [0,1,4,6,11] [4,6]),(21,zK [0,1,4,6,11,12] [4,6,12]),(22,zK [0,1,4,6,11,12,78,79,80] [4,6,12]),(23,zK [0,1,4,6,11,12,78,79,80,81] [4,6,12,110]),(24,zK [0,1,4,6,11,12,13,14,78,79,80] [4,6,12,14,110]),(25,zK [0,1,4,6,11,12,13,78,79,80,86,87,88] [4,6,12,110]),(26,zK [0,1,4,6,11,12,13,78,79,80,86,87,88,89] [4,6,12,110]),(27,zK [0,1,4,6,11,12,13,16,78,79,80,86,87,88] [4,6,12,16,110]),(28,zK [0,1,4,6,11,12,13,78,79,80,86,87,88] [4,6,12,110]),(29,zK [0,1,4,6,11,12,13,78,79,80,86,87,88] [4,6,12,110]),(30,zK [0,1,4,6,11,12,78,79,80] [4,6,12,110]),(31,zK [1,4,6,11,12,116,117] [4,6,12,110]),(32,zK [1,4,6,11,12,116,117,118] [4,6,12,110]),(33,zK [1,4,6,11,12,17,116,117] [4,6,12,110]),(34,zK [1,4,6,11,12,17,18,116,117] [4,6,12,110]),(35,zK [1,4,6,11,12,17,18,116,117,122] [4,6,12,110]),(36,zK [1,4,6,11,12,17,18,116,117] [4,6,12,110]),(37,zK [1,4,6,11,12,17,18,116,117] [4,6,12,110]),(38,zK [1,4,6,11,12,116,117] [4,6,12,110]),(39,zK [4,12,158] [4,12,110]),(40,zK [4,5] [4]),(41,zK [4,5] [4,110])],
 [(7,zK [0,1,4,6,31,32,33] [4,6]),(15,zK [0,1,4,6,59,60,61] [4,6]),(23,⟨[0,1,4,6,11,12,78,79,80],[4,6,12,110],[],[(12,1,110,40,fun _=>zae default)],[],[],[]⟩),(26,⟨[0,1,4,6,11,12,13,78,79,80,86,87,88],[4,6,12,110],[],[(12,1,110,40,fun _=>zae default)],[],[],[]⟩),(32,zK [1,4,6,11,12,116,117] [4,6,12,110]),(35,zK [1,4,6,11,12,17,18,116,117] [4,6,12,110])],
 [(3,zK [0,1,4] [4]),(5,zK [0,1,4] [4]),(10,zK [0,1,4,6,31,32,33,45] [4,6]),(12,zK [0,1,4,6] [4,6]),(14,zK [0,1,4,6] [4,6]),(18,zK [0,1,4,6,59,60,61,67] [4,6]),(20,zK [0,1,4,6] [4,6]),(31,zK [0,1,4,6,11,12] [4,6,12,110]),(39,zK [4,12] [4,12,110])],
 [],[]⟩
abbrev R61:=(Net×Int)
abbrev e61 (r:R61):List PA:=[.agg [.int .i64 r.1.Nodes,.sl r.1.Ties.len 4 (fun i=>zae (r.1.Ties.get i))],.one (.int .i64 r.2)]
@[irreducible] def z61:=ptF Tryd.prog G61 zGV Tryd.f61
def zDS (nets:(Sl Net)) (drift:(Sl Int)) (zdq:Int):St:=⟨[(0,zS enc_24 2 nets),(1,zS enc_3 1 drift),(4,zp 4 0),(6,zp 6 0),(31,zS enc_24 2 nets),(32,zI (nets.len:Int)),(33,zI zdq)],[(4,.box 24 [zi (0:Int),.p (.nils)]),(6,.box 3 [zi ((nets.get 0).Nodes)])],[]⟩
abbrev zGW (K:List PA→Prop) (nets:(Sl Net)) (drift:(Sl Int)) (X:St→Prop) (P:Int→Bool) (S:Int→(Net×Int)):Prop:=∀ ⦃zdq:Int⦄,P zdq=true→K (e61 (S zdq))→X (zDS nets drift zdq)
def zDT (nets:(Sl Net)) (drift:(Sl Int)) (zec:Int):St:=⟨[(0,zS enc_24 2 nets),(1,zS enc_3 1 drift),(4,zp 4 0),(6,zp 6 0),(59,zS enc_3 1 drift),(60,zI (drift.len:Int)),(61,zI zec)],[(4,.box 24 [zi (0:Int),.p (.nils)]),(6,.box 3 [zi ((nets.get 0).Nodes)])],[]⟩
abbrev zGX (K:List PA→Prop) (nets:(Sl Net)) (drift:(Sl Int)) (X:St→Prop) (P:Int→Bool) (S:Int→(Net×Int)):Prop:=∀ ⦃zec:Int⦄,P zec=true→K (e61 (S zec))→X (zDT nets drift zec)
def zDU (nets:(Sl Net)) (drift:(Sl Int)) (zdu:Int) (zc7:(Sl Tie)) (zeW:Nat→List PV):St:=⟨[(0,zS enc_24 2 nets),(1,zS enc_3 1 drift),(4,zp 4 0),(6,zp 6 0),(11,zP (.fn 97 [] [.fp (enc_3 ((nets.get 0).Nodes)) 0])),(12,zp 12 0),(78,zS enc_24 2 nets),(79,zI (nets.len:Int)),(80,zI zdu)],[(4,.box 24 [zi (0:Int),.p (.nils)]),(6,.fbox [.int .i64 ((nets.get 0).Nodes)]),(12,.box 24 [zi (w64 ((1:Int)+(w64 ((nets.len:Int) * (w64 ((nets.get 0).Nodes - (1:Int))))))),.vec 110]),(110,.vec 40 4 32 zc7.len zeW)],[]⟩
abbrev zGY (K:List PA→Prop) (nets:(Sl Net)) (drift:(Sl Int)) (X:St→Prop) (P:Int→(Sl Tie)→Bool) (S:Int→(Sl Tie)→(Net×Int)):Prop:=∀ ⦃zdu:Int⦄ ⦃zc7:(Sl Tie)⦄ ⦃zeW:Nat→List PV⦄,P zdu zc7=true→K (e61 (S zdu zc7))→zeW=zg zae zc7→X (zDU nets drift zdu zc7 zeW)
def zAS (nets:(Sl Net)) (drift:(Sl Int)) (zeD:Int) (zdl:Int) (zb9:(Sl Tie)) (zdm:Int) (zb7:Int) (zbL:(Sl Tie)) (zeX:Nat→List PV) (zdQ:Nat→List PV):St:=⟨[(0,zS enc_24 2 nets),(1,zS enc_3 1 drift),(4,zp 4 0),(6,zp 6 0),(11,zP (.fn 97 [] [.fp (enc_3 ((nets.get 0).Nodes)) 0])),(12,zp 12 0),(13,zI zeD),(78,zS enc_24 2 nets),(79,zI (nets.len:Int)),(80,zI zdl),(86,zP (.sl zb9.len 4 zeX)),(87,zI zdm),(88,zI zb7)],[(4,.box 24 [zi (0:Int),.p (.nils)]),(6,.fbox [.int .i64 ((nets.get 0).Nodes)]),(12,.box 24 [zi (w64 ((1:Int)+(w64 ((nets.len:Int) * (w64 ((nets.get 0).Nodes - (1:Int))))))),.vec 110]),(110,.vec 40 4 32 zbL.len zdQ)],[]⟩
abbrev zDV (K:List PA→Prop) (nets:(Sl Net)) (drift:(Sl Int)) (X:St→Prop) (P:Int→Int→(Sl Tie)→Int→Int→(Sl Tie)→Bool) (S:Int→Int→(Sl Tie)→Int→Int→(Sl Tie)→(Net×Int)):Prop:=∀ ⦃zeD:Int⦄ ⦃zdl:Int⦄ ⦃zb9:(Sl Tie)⦄ ⦃zdm:Int⦄ ⦃zb7:Int⦄ ⦃zbL:(Sl Tie)⦄ ⦃zeX:Nat→List PV⦄ ⦃zdQ:Nat→List PV⦄,P zeD zdl zb9 zdm zb7 zbL=true→K (e61 (S zeD zdl zb9 zdm zb7 zbL))→zeX=zg zae zb9→zdQ=zg zae zbL→X (zAS nets drift zeD zdl zb9 zdm zb7 zbL zeX zdQ)
def zAT (nets:(Sl Net)) (drift:(Sl Int)) (zaz:Int) (zch:Int) (zcr:(Sl Tie)) (zdR:Nat→List PV):St:=⟨[(1,zS enc_3 1 drift),(4,zp 4 0),(6,zp 6 0),(11,zP (.fn 97 [] [.fp (enc_3 ((nets.get 0).Nodes)) 0])),(12,zp 12 0),(116,zI (w64 ((nets.len:Int) - (1:Int)))),(117,zI zch)],[(4,.box 24 [zi (0:Int),.p (.nils)]),(6,.fbox [.int .i64 ((nets.get 0).Nodes)]),(12,.box 24 [zi zaz,.vec 110]),(110,.vec 40 4 32 zcr.len zdR)],[]⟩
abbrev zAU (K:List PA→Prop) (nets:(Sl Net)) (drift:(Sl Int)) (zaz:Int) (X:St→Prop) (P:Int→(Sl Tie)→Bool) (S:Int→(Sl Tie)→(Net×Int)):Prop:=∀ ⦃zch:Int⦄ ⦃zcr:(Sl Tie)⦄ ⦃zdR:Nat→List PV⦄,P zch zcr=true→K (e61 (S zch zcr))→zdR=zg zae zcr→X (zAT nets drift zaz zch zcr zdR)
def zAV (nets:(Sl Net)) (drift:(Sl Int)) (zaz:Int) (zj7:Int) (zf3:Int) (zcz:Int) (zbM:(Sl Tie)) (zdS:Nat→List PV):St:=⟨[(1,zS enc_3 1 drift),(4,zp 4 0),(6,zp 6 0),(11,zP (.fn 97 [] [.fp (enc_3 ((nets.get 0).Nodes)) 0])),(12,zp 12 0),(17,zI zj7),(18,zI zf3),(116,zI (w64 ((nets.len:Int) - (1:Int)))),(117,zI zcz)],[(4,.box 24 [zi (0:Int),.p (.nils)]),(6,.fbox [.int .i64 ((nets.get 0).Nodes)]),(12,.box 24 [zi zaz,.vec 110]),(110,.vec 40 4 32 zbM.len zdS)],[]⟩
abbrev zDW (K:List PA→Prop) (nets:(Sl Net)) (drift:(Sl Int)) (zaz:Int) (X:St→Prop) (P:Int→Int→Int→(Sl Tie)→Bool) (S:Int→Int→Int→(Sl Tie)→(Net×Int)):Prop:=∀ ⦃zj7:Int⦄ ⦃zf3:Int⦄ ⦃zcz:Int⦄ ⦃zbM:(Sl Tie)⦄ ⦃zdS:Nat→List PV⦄,P zj7 zf3 zcz zbM=true→K (e61 (S zj7 zf3 zcz zbM))→zdS=zg zae zbM→X (zAV nets drift zaz zj7 zf3 zcz zbM zdS)
section
variable {K:List PA→Prop} {nets:(Sl Net)} {drift:(Sl Int)} {zdq:Int} {X2:St→Prop} {P2:Int→Bool} {S2:Int→(Net×Int)} {zs6:Int} {zs7:Bool} {zec:Int} {X6:St→Prop} {P6:Int→Bool} {S6:Int→(Net×Int)} {zs8:Int} {zs9:Bool} {zdu:Int} {zc7:(Sl Tie)} {zeW:Nat→List PV} {X9:St→Prop} {P9:Int→(Sl Tie)→Bool} {S9:Int→(Sl Tie)→(Net×Int)} {zeD:Int} {zdl:Int} {zb9:(Sl Tie)} {zdm:Int} {zb7:Int} {zbL:(Sl Tie)} {zeX:Nat→List PV} {zdQ:Nat→List PV} {X10:St→Prop} {P10:Int→Int→(Sl Tie)→Int→Int→(Sl Tie)→Bool} {S10:Int→Int→(Sl Tie)→Int→Int→(Sl Tie)→(Net×Int)} {zaz:Int} {zgD:(Sl Tie)} {zqC:Nat→List PV} {zch:Int} {zcr:(Sl Tie)} {zdR:Nat→List PV} {X12:St→Prop} {P12:Int→(Sl Tie)→Bool} {S12:Int→(Sl Tie)→(Net×Int)} {zj7:Int} {zf3:Int} {zcz:Int} {zbM:(Sl Tie)} {zdS:Nat→List PV} {X13:St→Prop} {P13:Int→Int→Int→(Sl Tie)→Bool} {S13:Int→Int→Int→(Sl Tie)→(Net×Int)} {zgE:(Sl Tie)} {zqD:Nat→List PV}
def zow (zaz:Int) (zgE:(Sl Tie)):(Net×Int) :=
  (cond (decide (zaz > (40:Int)))
 ((⟨(0:Int),(⟨0,fun _=>default⟩:(Sl Tie))⟩:Net),(3:Int))
 (cond (decide ((zgE.len : Int) > (200:Int)))
 ((⟨(0:Int),(⟨0,fun _=>default⟩:(Sl Tie))⟩:Net),(3:Int))
 ((⟨zaz,zgE⟩:Net),(0:Int))))
theorem zCN (hk:K (e61 (zow zaz zgE))) (zAW:zqD=zg zae zgE):z61 (Wk K) [1,1,1,1,1,1,1,1,1,1,1] [] ⟨[(4,zp 4 0),(12,zp 12 0)],[(4,.box 24 [zi (0:Int),.p (.nils)]),(12,.box 24 [zi zaz,.vec 110]),(110,.vec 40 4 32 zgE.len zqD)],[]⟩:=by subst zAW;exact zbd (by kernel_rfl) (zt hk (fun hk=>((wk hk (zcw (.agg (zcw (.rfl _) (zcw (.nil _ _) zeB))) (zcw (.one (.rfl _)) zeB))):Wk K [.agg [.int .i64 (0:Int),.nils],.one (.int .i64 (3:Int))])) (fun hk=>(zt hk (fun hk=>((wk hk (zcw (.agg (zcw (.rfl _) (zcw (.nil _ _) zeB))) (zcw (.one (.rfl _)) zeB))):Wk K [.agg [.int .i64 (0:Int),.nils],.one (.int .i64 (3:Int))])) (fun hk=>((zfS hk):Wk K [.agg [.int .i64 zaz,.sl zgE.len 4 (fun i=>zae (zgE.get i))],.one (.int .i64 (0:Int))])))))
def zgU (S12:Int→(Sl Tie)→(Net×Int)) (nets:(Sl Net)) (drift:(Sl Int)) (zaz:Int) (S13:Int→Int→Int→(Sl Tie)→(Net×Int)) (zj7:Int) (zf3:Int) (zcz:Int) (zbM:(Sl Tie)):(Net×Int) :=
  (cond (decide (zf3 < (nets.get 0).Nodes))
 (S13 zj7 (w64 (zf3+(1:Int))) zcz (⟨(zbM.len+1),(zms zbM.len zbM.get (fun _=>(⟨(s97 ((nets.get 0).Nodes) zf3 zj7),(s97 ((nets.get 0).Nodes) zf3 (w64 (zj7+(1:Int)))),(w64 (0 - (drift.get zf3.toNat))),(drift.get zf3.toNat)⟩:Tie)))⟩:Sl Tie))
 (S12 (w64 (zcz+(1:Int))) zbM))
def zgV (P12:Int→(Sl Tie)→Bool) (nets:(Sl Net)) (drift:(Sl Int)) (zaz:Int) (P13:Int→Int→Int→(Sl Tie)→Bool) (zj7:Int) (zf3:Int) (zcz:Int) (zbM:(Sl Tie)):Bool :=
  (cond (decide (zf3 < (nets.get 0).Nodes))
 (decide ((0≤zf3∧zf3 < (drift.len:Int))) &&
 (decide ((0≤zf3∧zf3 < (drift.len:Int))) &&
 (decide (((zbM.len+1) * 32≤140737488355328∧zbM.len+1≤9223372036854775807)) &&
 (P13 zj7 (w64 (zf3+(1:Int))) zcz (⟨(zbM.len+1),(zms zbM.len zbM.get (fun _=>(⟨(s97 ((nets.get 0).Nodes) zf3 zj7),(s97 ((nets.get 0).Nodes) zf3 (w64 (zj7+(1:Int)))),(w64 (0 - (drift.get zf3.toNat))),(drift.get zf3.toNat)⟩:Tie)))⟩:Sl Tie)))))
 (P12 (w64 (zcz+(1:Int))) zbM))
def zfz (S12:Int→(Sl Tie)→(Net×Int)) (nets:(Sl Net)) (drift:(Sl Int)) (zaz:Int):Nat→Int→Int→Int→(Sl Tie)→(Net×Int):=lpO (fun _ _ _ _=>default) (zgU S12 nets drift zaz)
def zfA (P12:Int→(Sl Tie)→Bool) (nets:(Sl Net)) (drift:(Sl Int)) (zaz:Int):Nat→Int→Int→Int→(Sl Tie)→Bool:=lpO (fun _ _ _ _=>false) (zgV P12 nets drift zaz)
def zox (S12:Int→(Sl Tie)→(Net×Int)) (nets:(Sl Net)) (drift:(Sl Int)) (zaz:Int) (zj7:Int) (zf3:Int) (zcz:Int) (zbM:(Sl Tie)):(Net×Int):=zfz S12 nets drift zaz Fuel zj7 zf3 zcz zbM
def zoy (P12:Int→(Sl Tie)→Bool) (nets:(Sl Net)) (drift:(Sl Int)) (zaz:Int) (zj7:Int) (zf3:Int) (zcz:Int) (zbM:(Sl Tie)):Bool:=zfA P12 nets drift zaz Fuel zj7 zf3 zcz zbM
theorem zCO (hX12:zAU K nets drift zaz X12 P12 S12) (hs:zoy P12 nets drift zaz zj7 zf3 zcz zbM=true) (hk:K (e61 (zox S12 nets drift zaz zj7 zf3 zcz zbM))) (zma:zdS=zg zae zbM):z61 (Wk K) [1,1,1,1,1,1,1,1,1,1,0,1,0,0,1,1,0,0,1,1,0] [X12] (zAV nets drift zaz zj7 zf3 zcz zbM zdS) :=
  zl (fun X=>z61 (Wk K) [1,1,1,1,1,1,1,1,1,1,0,1,0,0,1,1,0,0,1,1,0,0] [X12,X]) (by kernel_rfl) fun X13 hX =>
  (show ∀ k, zDW K nets drift zaz X13 (zfA P12 nets drift zaz k) (zfz S12 nets drift zaz k) from zhs _ _ (zgV P12 nets drift zaz) (zgU S12 nets drift zaz) (zDW K nets drift zaz X13)
 (by intro _ _ _ _ _ hs;exact absurd hs Bool.false_ne_true)
 (by intro P13 S13 hX13 zj7 zf3 zcz zbM zdS hs hk zma;subst zma;exact hX _ (zbd (by kernel_rfl) (zc hs hk (fun hs hk=>(za6 hs fun hc hs=>And.intro hc (za6 hs fun hc hs=>And.intro hc (za6 hs fun hc hs=>And.intro hc (hX13 hs hk (zh0 (enc:=zae) (f:=zbM.get) (h:=(fun _=>(⟨(s97 ((nets.get 0).Nodes) zf3 zj7),(s97 ((nets.get 0).Nodes) zf3 (w64 (zj7+(1:Int)))),(w64 (0 - (drift.get zf3.toNat))),(drift.get zf3.toNat)⟩:Tie))) rfl rfl)))))) (fun hs hk=>(hX12 hs hk rfl)))))) _ hs hk zma
def zgW (nets:(Sl Net)) (drift:(Sl Int)) (zaz:Int) (S12:Int→(Sl Tie)→(Net×Int)) (zch:Int) (zcr:(Sl Tie)):(Net×Int) :=
  (cond (decide (zch < (w64 ((nets.len : Int) - (1:Int)))))
 (zox S12 nets drift zaz zch (1:Int) zch zcr)
 (zow zaz zcr))
def zgX (nets:(Sl Net)) (drift:(Sl Int)) (zaz:Int) (P12:Int→(Sl Tie)→Bool) (zch:Int) (zcr:(Sl Tie)):Bool :=
  (cond (decide (zch < (w64 ((nets.len : Int) - (1:Int)))))
 (zoy P12 nets drift zaz zch (1:Int) zch zcr)
 true)
def zfB (nets:(Sl Net)) (drift:(Sl Int)) (zaz:Int):Nat→Int→(Sl Tie)→(Net×Int):=lpO (fun _ _=>default) (zgW nets drift zaz)
def zfC (nets:(Sl Net)) (drift:(Sl Int)) (zaz:Int):Nat→Int→(Sl Tie)→Bool:=lpO (fun _ _=>false) (zgX nets drift zaz)
def zuY (nets:(Sl Net)) (drift:(Sl Int)) (zaz:Int) (zch:Int) (zcr:(Sl Tie)):(Net×Int):=zfB nets drift zaz Fuel zch zcr
def zuZ (nets:(Sl Net)) (drift:(Sl Int)) (zaz:Int) (zch:Int) (zcr:(Sl Tie)):Bool:=zfC nets drift zaz Fuel zch zcr
theorem zCP (hs:zuZ nets drift zaz zch zcr=true) (hk:K (e61 (zuY nets drift zaz zch zcr))) (zmb:zdR=zg zae zcr):z61 (Wk K) [1,1,1,1,1,1,1,1,1,1,0,1,0] [] (zAT nets drift zaz zch zcr zdR) :=
  zl (fun X=>z61 (Wk K) [1,1,1,1,1,1,1,1,1,1,0,1,0,0] [X]) (by kernel_rfl) fun X12 hX =>
  (show ∀ k, zAU K nets drift zaz X12 (zfC nets drift zaz k) (zfB nets drift zaz k) from zhs _ _ (zgX nets drift zaz) (zgW nets drift zaz) (zAU K nets drift zaz X12)
 (by intro _ _ _ hs;exact absurd hs Bool.false_ne_true)
 (by intro P12 S12 hX12 zch zcr zdR hs hk zmb;subst zmb;exact hX _ (zbd (by kernel_rfl) (zc hs hk (fun hs hk=>(zCO hX12 hs hk rfl)) (fun hs hk=>(zCN hk rfl)))))) _ hs hk zmb
def zj8 (nets:(Sl Net)) (drift:(Sl Int)) (zaz:Int) (zgD:(Sl Tie)):(Net×Int) :=
  (zuY nets drift zaz (0:Int) zgD)
def zj9 (nets:(Sl Net)) (drift:(Sl Int)) (zaz:Int) (zgD:(Sl Tie)):Bool :=
  (zuZ nets drift zaz (0:Int) zgD)
theorem zCQ (hs:zj9 nets drift zaz zgD=true) (hk:K (e61 (zj8 nets drift zaz zgD))) (zAX:zqC=zg zae zgD):z61 (Wk K) [1,1,1,1,1,1,1,1,1,1] [] ⟨[(0,zS enc_24 2 nets),(1,zS enc_3 1 drift),(4,zp 4 0),(6,zp 6 0),(11,zP (.fn 97 [] [.fp (enc_3 ((nets.get 0).Nodes)) 0])),(12,zp 12 0)],[(4,.box 24 [zi (0:Int),.p (.nils)]),(6,.fbox [.int .i64 ((nets.get 0).Nodes)]),(12,.box 24 [zi zaz,.vec 110]),(110,.vec 40 4 32 zgD.len zqC)],[]⟩:=by subst zAX;exact zbd (by kernel_rfl) (zCP hs hk rfl)
def zgY (S9:Int→(Sl Tie)→(Net×Int)) (nets:(Sl Net)) (drift:(Sl Int)) (S10:Int→Int→(Sl Tie)→Int→Int→(Sl Tie)→(Net×Int)) (zeD:Int) (zdl:Int) (zb9:(Sl Tie)) (zdm:Int) (zb7:Int) (zbL:(Sl Tie)):(Net×Int) :=
  (cond (decide (zb7 < zdm))
 (S10 zeD zdl zb9 zdm (w64 (zb7+(1:Int))) (⟨(zbL.len+1),(zms zbL.len zbL.get (fun _=>(⟨(s97 ((nets.get 0).Nodes) ((zb9.get zb7.toNat).From) zeD),(s97 ((nets.get 0).Nodes) ((zb9.get zb7.toNat).To) zeD),(zb9.get zb7.toNat).Low,(zb9.get zb7.toNat).High⟩:Tie)))⟩:Sl Tie))
 (S9 (w64 (zdl+(1:Int))) zbL))
def zgZ (P9:Int→(Sl Tie)→Bool) (nets:(Sl Net)) (drift:(Sl Int)) (P10:Int→Int→(Sl Tie)→Int→Int→(Sl Tie)→Bool) (zeD:Int) (zdl:Int) (zb9:(Sl Tie)) (zdm:Int) (zb7:Int) (zbL:(Sl Tie)):Bool :=
  (cond (decide (zb7 < zdm))
 (decide ((0≤zb7∧zb7 < (zb9.len:Int))) &&
 (decide (((zbL.len+1) * 32≤140737488355328∧zbL.len+1≤9223372036854775807)) &&
 (P10 zeD zdl zb9 zdm (w64 (zb7+(1:Int))) (⟨(zbL.len+1),(zms zbL.len zbL.get (fun _=>(⟨(s97 ((nets.get 0).Nodes) ((zb9.get zb7.toNat).From) zeD),(s97 ((nets.get 0).Nodes) ((zb9.get zb7.toNat).To) zeD),(zb9.get zb7.toNat).Low,(zb9.get zb7.toNat).High⟩:Tie)))⟩:Sl Tie))))
 (P9 (w64 (zdl+(1:Int))) zbL))
def zfD (S9:Int→(Sl Tie)→(Net×Int)) (nets:(Sl Net)) (drift:(Sl Int)):Nat→Int→Int→(Sl Tie)→Int→Int→(Sl Tie)→(Net×Int):=lpO (fun _ _ _ _ _ _=>default) (zgY S9 nets drift)
def zfE (P9:Int→(Sl Tie)→Bool) (nets:(Sl Net)) (drift:(Sl Int)):Nat→Int→Int→(Sl Tie)→Int→Int→(Sl Tie)→Bool:=lpO (fun _ _ _ _ _ _=>false) (zgZ P9 nets drift)
def zoz (S9:Int→(Sl Tie)→(Net×Int)) (nets:(Sl Net)) (drift:(Sl Int)) (zeD:Int) (zdl:Int) (zb9:(Sl Tie)) (zdm:Int) (zb7:Int) (zbL:(Sl Tie)):(Net×Int):=zfD S9 nets drift Fuel zeD zdl zb9 zdm zb7 zbL
def zoA (P9:Int→(Sl Tie)→Bool) (nets:(Sl Net)) (drift:(Sl Int)) (zeD:Int) (zdl:Int) (zb9:(Sl Tie)) (zdm:Int) (zb7:Int) (zbL:(Sl Tie)):Bool:=zfE P9 nets drift Fuel zeD zdl zb9 zdm zb7 zbL
theorem zCR (hX9:zGY K nets drift X9 P9 S9) (hs:zoA P9 nets drift zeD zdl zb9 zdm zb7 zbL=true) (hk:K (e61 (zoz S9 nets drift zeD zdl zb9 zdm zb7 zbL))) (zoB:zeX=zg zae zb9) (zmc:zdQ=zg zae zbL):z61 (Wk K) [1,1,1,1,1,1,1,1,1,0,1,0,0,1,1,0,0,1,1,0] [X9] (zAS nets drift zeD zdl zb9 zdm zb7 zbL zeX zdQ) :=
  zl (fun X=>z61 (Wk K) [1,1,1,1,1,1,1,1,1,0,1,0,0,1,1,0,0,1,1,0,0] [X9,X]) (by kernel_rfl) fun X10 hX =>
  (show ∀ k, zDV K nets drift X10 (zfE P9 nets drift k) (zfD S9 nets drift k) from zhs _ _ (zgZ P9 nets drift) (zgY S9 nets drift) (zDV K nets drift X10)
 (by intro _ _ _ _ _ _ _ _ hs;exact absurd hs Bool.false_ne_true)
 (by intro P10 S10 hX10 zeD zdl zb9 zdm zb7 zbL zeX zdQ hs hk zoB zmc;subst zoB;subst zmc;exact hX _ (zbd (by kernel_rfl) (zc hs hk (fun hs hk=>(za6 hs fun hc hs=>And.intro hc (za6 hs fun hc hs=>And.intro hc (hX10 hs hk rfl (zh0 (enc:=zae) (f:=zbL.get) (h:=(fun _=>(⟨(s97 ((nets.get 0).Nodes) ((zb9.get zb7.toNat).From) zeD),(s97 ((nets.get 0).Nodes) ((zb9.get zb7.toNat).To) zeD),(zb9.get zb7.toNat).Low,(zb9.get zb7.toNat).High⟩:Tie))) rfl rfl))))) (fun hs hk=>(hX9 hs hk rfl)))))) _ hs hk zoB zmc
def ziY (nets:(Sl Net)) (drift:(Sl Int)) (S9:Int→(Sl Tie)→(Net×Int)) (zdu:Int) (zc7:(Sl Tie)):(Net×Int) :=
  (cond (decide (zdu < (nets.len : Int)))
 (zoz S9 nets drift zdu zdu ((nets.get zdu.toNat).Ties) ((nets.get zdu.toNat).Ties.len:Int) (0:Int) zc7)
 (zj8 nets drift (w64 ((1:Int)+(w64 ((nets.len:Int) * (w64 ((nets.get 0).Nodes - (1:Int))))))) zc7))
def ziZ (nets:(Sl Net)) (drift:(Sl Int)) (P9:Int→(Sl Tie)→Bool) (zdu:Int) (zc7:(Sl Tie)):Bool :=
  (cond (decide (zdu < (nets.len : Int)))
 (decide ((0≤zdu∧zdu < (nets.len:Int))) &&
 (zoA P9 nets drift zdu zdu ((nets.get zdu.toNat).Ties) ((nets.get zdu.toNat).Ties.len:Int) (0:Int) zc7))
 (zj9 nets drift (w64 ((1:Int)+(w64 ((nets.len:Int) * (w64 ((nets.get 0).Nodes - (1:Int))))))) zc7))
def zhu (nets:(Sl Net)) (drift:(Sl Int)):Nat→Int→(Sl Tie)→(Net×Int):=lpO (fun _ _=>default) (ziY nets drift)
def zhv (nets:(Sl Net)) (drift:(Sl Int)):Nat→Int→(Sl Tie)→Bool:=lpO (fun _ _=>false) (ziZ nets drift)
def zAY (nets:(Sl Net)) (drift:(Sl Int)) (zdu:Int) (zc7:(Sl Tie)):(Net×Int):=zhu nets drift Fuel zdu zc7
def zAZ (nets:(Sl Net)) (drift:(Sl Int)) (zdu:Int) (zc7:(Sl Tie)):Bool:=zhv nets drift Fuel zdu zc7
theorem zGZ (hs:zAZ nets drift zdu zc7=true) (hk:K (e61 (zAY nets drift zdu zc7))) (zoC:zeW=zg zae zc7):z61 (Wk K) [1,1,1,1,1,1,1,1,1,0,1,0] [] (zDU nets drift zdu zc7 zeW) :=
  zl (fun X=>z61 (Wk K) [1,1,1,1,1,1,1,1,1,0,1,0,0] [X]) (by kernel_rfl) fun X9 hX =>
  (show ∀ k, zGY K nets drift X9 (zhv nets drift k) (zhu nets drift k) from zhs _ _ (ziZ nets drift) (ziY nets drift) (zGY K nets drift X9)
 (by intro _ _ _ hs;exact absurd hs Bool.false_ne_true)
 (by intro P9 S9 hX9 zdu zc7 zeW hs hk zoC;subst zoC;exact hX _ (zbd (by kernel_rfl) (zc hs hk (fun hs hk=>(za6 hs fun hc hs=>And.intro hc (zCR hX9 hs hk rfl rfl))) (fun hs hk=>(zCQ hs hk rfl)))))) _ hs hk zoC
def zmd (nets:(Sl Net)) (drift:(Sl Int)):(Net×Int) :=
  (zAY nets drift (0:Int) (⟨0,(fun _=>default)⟩:Sl Tie))
def zme (nets:(Sl Net)) (drift:(Sl Int)):Bool :=
  (zAZ nets drift (0:Int) (⟨0,(fun _=>default)⟩:Sl Tie))
theorem zG0 (hs:zme nets drift=true) (hk:K (e61 (zmd nets drift))):z61 (Wk K) [1,1,1,1,1,1,1] [] ⟨[(0,zS enc_24 2 nets),(1,zS enc_3 1 drift),(4,zp 4 0),(6,zp 6 0)],[(4,.box 24 [zi (0:Int),.p (.nils)]),(6,.box 3 [zi ((nets.get 0).Nodes)])],[]⟩:=zbd (by kernel_rfl) (zGZ hs hk rfl)
def zta (S6:Int→(Net×Int)) (nets:(Sl Net)) (drift:(Sl Int)) (zs8:Int) (zs9:Bool):(Net×Int) :=
  (cond zs9
 ((⟨(0:Int),(⟨0,fun _=>default⟩:(Sl Tie))⟩:Net),(2:Int))
 (S6 (w64 (zs8+(1:Int)))))
def ztb (P6:Int→Bool) (nets:(Sl Net)) (drift:(Sl Int)) (zs8:Int) (zs9:Bool):Bool :=
  (cond zs9
 true
 (P6 (w64 (zs8+(1:Int)))))
theorem zG1 (hX6:zGX K nets drift X6 P6 S6) (hs:ztb P6 nets drift zs8 zs9=true) (hk:K (e61 (zta S6 nets drift zs8 zs9))):z61 (Wk K) [1,1,1,1,1,1,0,1,0,0,1,1,0,0,1,1] [X6] ⟨[(0,zS enc_24 2 nets),(1,zS enc_3 1 drift),(4,zp 4 0),(6,zp 6 0),(59,zS enc_3 1 drift),(60,zI (drift.len:Int)),(61,zI zs8),(67,zB zs9)],[(4,.box 24 [zi (0:Int),.p (.nils)]),(6,.box 3 [zi ((nets.get 0).Nodes)])],[]⟩:=zbd (by kernel_rfl) (zc hs hk (fun hs hk=>((wk hk (zcw (.agg (zcw (.rfl _) (zcw (.nil _ _) zeB))) (zcw (.one (.rfl _)) zeB))):Wk K [.agg [.int .i64 (0:Int),.nils],.one (.int .i64 (2:Int))])) (fun hs hk=>(hX6 hs hk)))
def zi0 (nets:(Sl Net)) (drift:(Sl Int)) (S6:Int→(Net×Int)) (zec:Int):(Net×Int) :=
  (cond (decide (zec < (drift.len : Int)))
 (zta S6 nets drift zec (!(s81 (drift.get zec.toNat) (0:Int) (1000000000:Int))))
 (zmd nets drift))
def zi1 (nets:(Sl Net)) (drift:(Sl Int)) (P6:Int→Bool) (zec:Int):Bool :=
  (cond (decide (zec < (drift.len : Int)))
 (decide ((0≤zec∧zec < (drift.len:Int))) &&
 (ztb P6 nets drift zec (!(s81 (drift.get zec.toNat) (0:Int) (1000000000:Int)))))
 (zme nets drift))
def zi2 (nets:(Sl Net)) (drift:(Sl Int)):Nat→Int→(Net×Int):=lpO (fun _=>default) (zi0 nets drift)
def zi3 (nets:(Sl Net)) (drift:(Sl Int)):Nat→Int→Bool:=lpO (fun _=>false) (zi1 nets drift)
def ztc (nets:(Sl Net)) (drift:(Sl Int)) (zec:Int):(Net×Int):=zi2 nets drift Fuel zec
def ztd (nets:(Sl Net)) (drift:(Sl Int)) (zec:Int):Bool:=zi3 nets drift Fuel zec
theorem zG2 (hs:ztd nets drift zec=true) (hk:K (e61 (ztc nets drift zec))):z61 (Wk K) [1,1,1,1,1,1,0,1,0] [] (zDT nets drift zec) :=
  zl (fun X=>z61 (Wk K) [1,1,1,1,1,1,0,1,0,0] [X]) (by kernel_rfl) fun X6 hX =>
  (show ∀ k, zGX K nets drift X6 (zi3 nets drift k) (zi2 nets drift k) from zhs _ _ (zi1 nets drift) (zi0 nets drift) (zGX K nets drift X6)
 (by intro _ hs;exact absurd hs Bool.false_ne_true)
 (by intro P6 S6 hX6 zec hs hk;exact hX _ (zbd (by kernel_rfl) (zc hs hk (fun hs hk=>(za6 hs fun hc hs=>And.intro hc (zG1 hX6 hs hk))) (fun hs hk=>(zG0 hs hk)))))) _ hs hk
def zmf (nets:(Sl Net)) (drift:(Sl Int)):(Net×Int) :=
  (ztc nets drift (0:Int))
def zoD (nets:(Sl Net)) (drift:(Sl Int)):Bool :=
  (ztd nets drift (0:Int))
theorem zG3 (hs:zoD nets drift=true) (hk:K (e61 (zmf nets drift))):z61 (Wk K) [1,1,1,1,1,1] [] ⟨[(0,zS enc_24 2 nets),(1,zS enc_3 1 drift),(4,zp 4 0),(6,zp 6 0)],[(4,.box 24 [zi (0:Int),.p (.nils)]),(6,.box 3 [zi ((nets.get 0).Nodes)])],[]⟩:=zbd (by kernel_rfl) (zG2 hs hk)
def zoE (nets:(Sl Net)) (drift:(Sl Int)):(Net×Int) :=
  (cond ((drift.len : Int) != (nets.get 0).Nodes)
 ((⟨(0:Int),(⟨0,fun _=>default⟩:(Sl Tie))⟩:Net),(2:Int))
 (cond ((drift.get 0) != (0:Int))
 ((⟨(0:Int),(⟨0,fun _=>default⟩:(Sl Tie))⟩:Net),(2:Int))
 (zmf nets drift)))
def zoF (nets:(Sl Net)) (drift:(Sl Int)):Bool :=
  (cond ((drift.len : Int) != (nets.get 0).Nodes)
 true
 (decide ((0≤(0:Int)∧(0:Int) < (drift.len:Int))) &&
 (cond ((drift.get 0) != (0:Int))
 true
 (zoD nets drift))))
theorem zG4 (hs:zoF nets drift=true) (hk:K (e61 (zoE nets drift))):z61 (Wk K) [1,1,1,1,1] [] ⟨[(0,zS enc_24 2 nets),(1,zS enc_3 1 drift),(4,zp 4 0),(6,zp 6 0)],[(4,.box 24 [zi (0:Int),.p (.nils)]),(6,.box 3 [zi ((nets.get 0).Nodes)])],[]⟩:=zbd (by kernel_rfl) (zc hs hk (fun hs hk=>((wk hk (zcw (.agg (zcw (.rfl _) (zcw (.nil _ _) zeB))) (zcw (.one (.rfl _)) zeB))):Wk K [.agg [.int .i64 (0:Int),.nils],.one (.int .i64 (2:Int))])) (fun hs hk=>(za6 hs fun hc hs=>And.intro hc (zc hs hk (fun hs hk=>((wk hk (zcw (.agg (zcw (.rfl _) (zcw (.nil _ _) zeB))) (zcw (.one (.rfl _)) zeB))):Wk K [.agg [.int .i64 (0:Int),.nils],.one (.int .i64 (2:Int))])) (fun hs hk=>(zG3 hs hk))))))
def zoG (S2:Int→(Net×Int)) (nets:(Sl Net)) (drift:(Sl Int)) (zs6:Int) (zs7:Bool):(Net×Int) :=
  (cond zs7
 ((⟨(0:Int),(⟨0,fun _=>default⟩:(Sl Tie))⟩:Net),(2:Int))
 (S2 (w64 (zs6+(1:Int)))))
def zoH (P2:Int→Bool) (nets:(Sl Net)) (drift:(Sl Int)) (zs6:Int) (zs7:Bool):Bool :=
  (cond zs7
 true
 (P2 (w64 (zs6+(1:Int)))))
theorem zA0 (hX2:zGW K nets drift X2 P2 S2) (hs:zoH P2 nets drift zs6 zs7=true) (hk:K (e61 (zoG S2 nets drift zs6 zs7))):z61 (Wk K) [1,1,1,1,0,1,0,0,1,1,0,0,1,1] [X2] ⟨[(0,zS enc_24 2 nets),(1,zS enc_3 1 drift),(4,zp 4 0),(6,zp 6 0),(31,zS enc_24 2 nets),(32,zI (nets.len:Int)),(33,zI zs6),(45,zB zs7)],[(4,.box 24 [zi (0:Int),.p (.nils)]),(6,.box 3 [zi ((nets.get 0).Nodes)])],[]⟩:=zbd (by kernel_rfl) (zc hs hk (fun hs hk=>((wk hk (zcw (.agg (zcw (.rfl _) (zcw (.nil _ _) zeB))) (zcw (.one (.rfl _)) zeB))):Wk K [.agg [.int .i64 (0:Int),.nils],.one (.int .i64 (2:Int))])) (fun hs hk=>(hX2 hs hk)))
def zi4 (nets:(Sl Net)) (drift:(Sl Int)) (S2:Int→(Net×Int)) (zdq:Int):(Net×Int) :=
  (cond (decide (zdq < (nets.len : Int)))
 (cond (!(s67 (nets.get zdq.toNat)))
 (zoG S2 nets drift zdq true)
 (zoG S2 nets drift zdq ((nets.get zdq.toNat).Nodes != (nets.get 0).Nodes)))
 (zoE nets drift))
def zi5 (nets:(Sl Net)) (drift:(Sl Int)) (P2:Int→Bool) (zdq:Int):Bool :=
  (cond (decide (zdq < (nets.len : Int)))
 (decide ((0≤zdq∧zdq < (nets.len:Int))) &&
 (decide ((p67 (nets.get zdq.toNat)=true)) &&
 (cond (!(s67 (nets.get zdq.toNat)))
 (zoH P2 nets drift zdq true)
 (zoH P2 nets drift zdq ((nets.get zdq.toNat).Nodes != (nets.get 0).Nodes)))))
 (zoF nets drift))
def zi6 (nets:(Sl Net)) (drift:(Sl Int)):Nat→Int→(Net×Int):=lpO (fun _=>default) (zi4 nets drift)
def zi7 (nets:(Sl Net)) (drift:(Sl Int)):Nat→Int→Bool:=lpO (fun _=>false) (zi5 nets drift)
def zte (nets:(Sl Net)) (drift:(Sl Int)) (zdq:Int):(Net×Int):=zi6 nets drift Fuel zdq
def ztf (nets:(Sl Net)) (drift:(Sl Int)) (zdq:Int):Bool:=zi7 nets drift Fuel zdq
theorem zG5 (hs:ztf nets drift zdq=true) (hk:K (e61 (zte nets drift zdq))):z61 (Wk K) [1,1,1,1,0,1,0] [] (zDS nets drift zdq) :=
  zl (fun X=>z61 (Wk K) [1,1,1,1,0,1,0,0] [X]) (by kernel_rfl) fun X2 hX =>
  (show ∀ k, zGW K nets drift X2 (zi7 nets drift k) (zi6 nets drift k) from zhs _ _ (zi5 nets drift) (zi4 nets drift) (zGW K nets drift X2)
 (by intro _ hs;exact absurd hs Bool.false_ne_true)
 (by intro P2 S2 hX2 zdq hs hk;exact hX _ (zbd (by kernel_rfl) (zc hs hk (fun hs hk=>(za6 hs fun hc hs=>And.intro hc (za6 hs fun hc hs=>And.intro (And.intro (zE zae 4 ((nets.get zdq.toNat).Ties.get)) hc) (zc hs hk (fun hs hk=>(zA0 hX2 hs hk)) (fun hs hk=>(zA0 hX2 hs hk)))))) (fun hs hk=>(zG4 hs hk)))))) _ hs hk
def ztg (nets:(Sl Net)) (drift:(Sl Int)):(Net×Int) :=
  (zte nets drift (0:Int))
def zth (nets:(Sl Net)) (drift:(Sl Int)):Bool :=
  (decide ((0≤(0:Int)∧(0:Int) < (nets.len:Int))) &&
 (ztf nets drift (0:Int)))
theorem zG6 (hs:zth nets drift=true) (hk:K (e61 (ztg nets drift))):z61 (Wk K) [1,1,1] [] ⟨[(0,zS enc_24 2 nets),(1,zS enc_3 1 drift),(4,zp 4 0)],[(4,.box 24 [zi (0:Int),.p (.nils)])],[]⟩:=zbd (by kernel_rfl) (za6 hs fun hc hs=>And.intro hc (zG5 hs hk))
def zti (nets:(Sl Net)) (drift:(Sl Int)):(Net×Int) :=
  (cond ((nets.len : Int) == (0:Int))
 ((⟨(0:Int),(⟨0,fun _=>default⟩:(Sl Tie))⟩:Net),(2:Int))
 (ztg nets drift))
def ztj (nets:(Sl Net)) (drift:(Sl Int)):Bool :=
  (cond ((nets.len : Int) == (0:Int))
 true
 (zth nets drift))
theorem zG7 (hs:ztj nets drift=true) (hk:K (e61 (zti nets drift))):z61 (Wk K) [1,1] [] ⟨[(0,zS enc_24 2 nets),(1,zS enc_3 1 drift),(4,zp 4 0)],[(4,.box 24 [zi (0:Int),.p (.nils)])],[]⟩:=zbd (by kernel_rfl) (zc hs hk (fun hs hk=>((wk hk (zcw (.agg (zcw (.rfl _) (zcw (.nil _ _) zeB))) (zcw (.one (.rfl _)) zeB))):Wk K [.agg [.int .i64 (0:Int),.nils],.one (.int .i64 (2:Int))])) (fun hs hk=>(zG6 hs hk)))
def s61 (nets:(Sl Net)) (drift:(Sl Int)):(Net×Int) :=
  (cond (decide ((nets.len : Int) > (10:Int)))
 ((⟨(0:Int),(⟨0,fun _=>default⟩:(Sl Tie))⟩:Net),(3:Int))
 (zti nets drift))
def p61 (nets:(Sl Net)) (drift:(Sl Int)):Bool :=
  (cond (decide ((nets.len : Int) > (10:Int)))
 true
 (ztj nets drift))
end
theorem q61 (nets:(Sl Net)) (drift:(Sl Int)) (K:List PA→Prop) (hs:p61 nets drift=true) (hk:K (e61 (s61 nets drift))):vcFun Tryd.prog G61 zGV 61 [.one (.sl nets.len 2 (fun i=>enc_24 (nets.get i))),.one (.sl drift.len 1 (fun i=>enc_3 (drift.get i)))] (Wk K) :=
  zbd (by kernel_rfl) (zc hs hk (fun hs hk=>((wk hk (zcw (.agg (zcw (.rfl _) (zcw (.nil _ _) zeB))) (zcw (.one (.rfl _)) zeB))):Wk K [.agg [.int .i64 (0:Int),.nils],.one (.int .i64 (3:Int))])) (fun hs hk=>(zG7 hs hk)))
def zG8 : List PA → COut
  | [.one (.sl zdw zii zdx),.one (.sl zdH ziO zdE)]=>.det (IsE enc_24 2 zii zdx∧IsE enc_3 1 ziO zdE∧p61 (⟨zdw,zdA zdx⟩:(Sl Net)) (⟨zdH,zav zdE⟩:(Sl Int))=true) [.agg [.int .i64 (((s61 (⟨zdw,zdA zdx⟩:(Sl Net)) (⟨zdH,zav zdE⟩:(Sl Int))).1).Nodes),.sl (((s61 (⟨zdw,zdA zdx⟩:(Sl Net)) (⟨zdH,zav zdE⟩:(Sl Int))).1).Ties.len) 4 (fun i=>zae (((s61 (⟨zdw,zdA zdx⟩:(Sl Net)) (⟨zdH,zav zdE⟩:(Sl Int))).1).Ties.get i))],.one (.int .i64 ((s61 (⟨zdw,zdA zdx⟩:(Sl Net)) (⟨zdH,zav zdE⟩:(Sl Int))).2))]
  | _=>.no
theorem zJX:zax Tryd.prog 61:=⟨_,rfl,rfl,by kernel_rfl⟩
theorem zNk:Ok Tryd.prog 61 zG8:=zgf zLE zJX fun args K h=>by
  unfold zG8 at h
  split at h
  · rename_i zdw zii zdx zdH ziO zdE
    obtain ⟨⟨⟨rfl,zfx,rfl⟩,⟨rfl,zgo,rfl⟩,hs⟩,hk⟩:=h
    try rw [zdB zfx] at hs
    try rw [zdB zfx] at hk
    try rw [zby zgo] at hs
    try rw [zby zgo] at hk
    exact ⟨_,zff zfR _,(fun _ _=>[]),(fun _=>false),zGV,q61 (⟨zdw,zfx⟩:(Sl Net)) (⟨zdH,zgo⟩:(Sl Int)) K hs hk⟩
  · exact h.elim
abbrev T72:Tabs:=Tabs.nil
theorem zLF:TabsOk Tryd.prog T72:=TabsOk.nil
abbrev G72:Ctrs:=csm T72 (fun _ _=>[]) (fun _=>false)
def zJY:Ann:=⟨15,[(0,zK [0,1,2] []),(1,zK [6] [])],
 [],
 [],
 [],[]⟩
abbrev R72:=Bool
abbrev e72 (r:R72):List PA:=[.one (.bool r)]
section
variable {K:List PA→Prop} {x:Int} {low:Int} {high:Int}
def s72 (x:Int) (low:Int) (high:Int):Bool :=
  (cond (decide (x ≥ low))
 (decide (x≤high))
 false)
end
theorem q72 (x:Int) (low:Int) (high:Int) (K:List PA→Prop) (hk:K (e72 (s72 x low high))):vcFun Tryd.prog G72 zJY 72 [.one (.int .i64 x),.one (.int .i64 low),.one (.int .i64 high)] K :=
  zbd (by kernel_rfl) (zt hk (fun hk=>hk) (fun hk=>hk))
def zA1 : List PA → COut
  | [.one (.int .i64 a0),.one (.int .i64 a1),.one (.int .i64 a2)]=>.tot [.one (.bool (s72 a0 a1 a2))]
  | _=>.no
theorem zJZ:zax Tryd.prog 72:=⟨_,rfl,rfl,by kernel_rfl⟩
theorem zLG:Ok Tryd.prog 72 zA1:=zbY zLF zJZ fun args K h=>by
  unfold zA1 at h
  split at h
  · rename_i a0 a1 a2
    have hk:=h
    exact ⟨(fun _ _=>[]),(fun _=>false),zJY,q72 a0 a1 a2 K hk⟩
  · exact h.elim
abbrev T36:Tabs:=(Tabs.nil.addF 72 zA1)
theorem zLH:TabsOk Tryd.prog T36:=(TabsOk.nil.addF zLG)
abbrev G36:Ctrs:=csm T36 (fun _ _=>[]) (fun _=>false)
def zG9:Ann:=⟨51,[(0,zK [0,3] [3]),(1,zK [3,32] [3]),(2,zK [4] []),(3,zK [4] [])],
 [],
 [(2,zK [3,32] [3]),(3,zK [3] [3])],
 [],[]⟩
abbrev R36:=Bool
abbrev e36 (r:R36):List PA:=[.one (.bool r)]
@[irreducible] def z36:=ptF Tryd.prog G36 zG9 Tryd.f36
section
variable {K:List PA→Prop} {nodes:Int} {t:Tie} {zCS:Bool}
def ztk (t:Tie):Bool :=
  (cond (t.Low == (-1000000000000:Int))
 (cond (t.High == (1000000000000:Int))
 true
 (s72 t.High (-1000000000:Int) (1000000000:Int)))
 (cond (s72 t.Low (-1000000000:Int) (1000000000:Int))
 (cond (t.High == (1000000000000:Int))
 true
 (s72 t.High (-1000000000:Int) (1000000000:Int)))
 false))
theorem zHa (hk:K (e36 (ztk t))):z36 K [1,1] [] ⟨[(3,zp 3 0)],[(3,.box 40 (zm (zae t)))],[]⟩:=zbd (by kernel_rfl) (zt hk (fun hk=>(zt hk (fun hk=>hk) (fun hk=>hk))) (fun hk=>(zt hk (fun hk=>(zt hk (fun hk=>hk) (fun hk=>hk))) (fun hk=>hk))))
def zi8 (t:Tie) (zCS:Bool):Bool :=
  (cond zCS
 false
 (ztk t))
theorem zoI (hk:K (e36 (zi8 t zCS))):z36 K [1,0,1] [] ⟨[(3,zp 3 0),(32,zB zCS)],[(3,.box 40 (zm (zae t)))],[]⟩:=zbd (by kernel_rfl) (zt hk (fun hk=>hk) (fun hk=>(zHa hk)))
def s36 (nodes:Int) (t:Tie):Bool :=
  (cond (!(s72 t.From (0:Int) (w64 (nodes - (1:Int)))))
 (zi8 t true)
 (cond (!(s72 t.To (0:Int) (w64 (nodes - (1:Int)))))
 (zi8 t true)
 (cond (t.From == t.To)
 (zi8 t true)
 (zi8 t (decide (t.Low > t.High))))))
end
theorem q36 (nodes:Int) (t:Tie) (K:List PA→Prop) (hk:K (e36 (s36 nodes t))):vcFun Tryd.prog G36 zG9 36 [.one (.int .i64 nodes),.agg (zae t)] K :=
  zbd (by kernel_rfl) (zt hk (fun hk=>(zoI hk)) (fun hk=>(zt hk (fun hk=>(zoI hk)) (fun hk=>(zt hk (fun hk=>(zoI hk)) (fun hk=>(zoI hk)))))))
def zHb : List PA → COut
  | [.one (.int .i64 a0),.agg [.int .i64 ze2,.int .i64 zmz,.int .i64 zhf,.int .i64 ze3]]=>.tot [.one (.bool (s36 a0 (⟨ze2,zmz,zhf,ze3⟩:Tie)))]
  | _=>.no
theorem zJ0:zax Tryd.prog 36:=⟨_,rfl,rfl,by kernel_rfl⟩
theorem zNl:Ok Tryd.prog 36 zHb:=zbY zLH zJ0 fun args K h=>by
  unfold zHb at h
  split at h
  · rename_i a0 ze2 zmz zhf ze3
    have hk:=h
    exact ⟨(fun _ _=>[]),(fun _=>false),zG9,q36 a0 (⟨ze2,zmz,zhf,ze3⟩:Tie) K hk⟩
  · exact h.elim
abbrev T23:Tabs:=((Tabs.nil.addF 36 zHb).addF 72 zA1)
theorem zLI:TabsOk Tryd.prog T23:=((TabsOk.nil.addF zNl).addF zLG)
abbrev G23:Ctrs:=csm T23 (fun _ _=>[]) (fun _=>false)
def zHc:Ann:=⟨30,[(0,zK [1] [1]),(1,zK [1,13] [1]),(2,zK [2] []),(3,zK [1,3] [1]),(4,zK [1,3,18] [1]),(5,zK [1,3] [1]),(6,zK [1,3,29] [1]),(7,zK [2] []),(8,zK [2] [])],
 [(4,zK [1,3] [1])],
 [(2,zK [1,13] [1]),(3,zK [1] [1]),(7,zK [1,3,29] [1])],
 [],[]⟩
abbrev R23:=Bool
abbrev e23 (r:R23):List PA:=[.one (.bool r)]
@[irreducible] def z23:=ptF Tryd.prog G23 zHc Tryd.f23
def zDX (n:Net) (iv2:Int):St:=⟨[(1,zp 1 0),(3,zI iv2)],[(1,.box 24 (zm (enc_24 n)))],[]⟩
abbrev zHd (K:List PA→Prop) (n:Net) (X:St→Prop) (P:Int→Bool) (S:Int→Bool):Prop:=∀ ⦃iv2:Int⦄,P iv2=true→K (e23 (S iv2))→X (zDX n iv2)
section
variable {K:List PA→Prop} {n:Net} {zcn:Bool} {iv2:Int} {X2:St→Prop} {P2:Int→Bool} {S2:Int→Bool} {iv3:Int} {ztl:Bool}
def ztm (S2:Int→Bool) (n:Net) (iv3:Int) (ztl:Bool):Bool :=
  (cond ztl
 false
 (S2 (w64 (iv3+(1:Int)))))
def ztn (P2:Int→Bool) (n:Net) (iv3:Int) (ztl:Bool):Bool :=
  (cond ztl
 true
 (P2 (w64 (iv3+(1:Int)))))
theorem zHe (hX2:zHd K n X2 P2 S2) (hs:ztn P2 n iv3 ztl=true) (hk:K (e23 (ztm S2 n iv3 ztl))):z23 K [1,1,0,1,0,0,1,0,0,1] [X2] ⟨[(1,zp 1 0),(3,zI iv3),(29,zB ztl)],[(1,.box 24 (zm (enc_24 n)))],[]⟩:=zbd (by kernel_rfl) (zc hs hk (fun hs hk=>hk) (fun hs hk=>(hX2 hs hk)))
def zi9 (n:Net) (S2:Int→Bool) (iv2:Int):Bool :=
  (cond (decide (iv2 < (n.Ties.len : Int)))
 (ztm S2 n iv2 (!(s36 n.Nodes (n.Ties.get iv2.toNat))))
 true)
def zja (n:Net) (P2:Int→Bool) (iv2:Int):Bool :=
  (cond (decide (iv2 < (n.Ties.len : Int)))
 (decide ((0≤iv2∧iv2 < (n.Ties.len:Int))) &&
 (ztn P2 n iv2 (!(s36 n.Nodes (n.Ties.get iv2.toNat)))))
 true)
def zhw (n:Net):Nat→Int→Bool:=lpO (fun _=>default) (zi9 n)
def zjb (n:Net):Nat→Int→Bool:=lpO (fun _=>false) (zja n)
def zto (n:Net) (iv2:Int):Bool:=zhw n Fuel iv2
def ztp (n:Net) (iv2:Int):Bool:=zjb n Fuel iv2
theorem zHf (hs:ztp n iv2=true) (hk:K (e23 (zto n iv2))):z23 K [1,1,0,1,0] [] (zDX n iv2) :=
  zl (fun X=>z23 K [1,1,0,1,0,0] [X]) (by kernel_rfl) fun X2 hX =>
  (show ∀ k, zHd K n X2 (zjb n k) (zhw n k) from zhs _ _ (zja n) (zi9 n) (zHd K n X2)
 (by intro _ hs;exact absurd hs Bool.false_ne_true)
 (by intro P2 S2 hX2 iv2 hs hk;exact hX _ (zbd (by kernel_rfl) (zc hs hk (fun hs hk=>(za6 hs fun hc hs=>And.intro hc (zHe hX2 hs hk))) (fun hs hk=>hk))))) _ hs hk
def ztq (n:Net):Bool :=
  (zto n (0:Int))
def ztr (n:Net):Bool :=
  (ztp n (0:Int))
theorem zHg (hs:ztr n=true) (hk:K (e23 (ztq n))):z23 K [1,1] [] ⟨[(1,zp 1 0)],[(1,.box 24 (zm (enc_24 n)))],[]⟩:=zbd (by kernel_rfl) (zHf hs hk)
def zoJ (n:Net) (zcn:Bool):Bool :=
  (cond zcn
 false
 (ztq n))
def zoK (n:Net) (zcn:Bool):Bool :=
  (cond zcn
 true
 (ztr n))
theorem zA2 (hs:zoK n zcn=true) (hk:K (e23 (zoJ n zcn))):z23 K [1,0,1] [] ⟨[(1,zp 1 0),(13,zB zcn)],[(1,.box 24 (zm (enc_24 n)))],[]⟩:=zbd (by kernel_rfl) (zc hs hk (fun hs hk=>hk) (fun hs hk=>(zHg hs hk)))
def s23 (n:Net):Bool :=
  (cond (!(s72 n.Nodes (1:Int) (40:Int)))
 (zoJ n true)
 (zoJ n (decide ((n.Ties.len:Int) > (200:Int)))))
def p23 (n:Net):Bool :=
  (cond (!(s72 n.Nodes (1:Int) (40:Int)))
 (zoK n true)
 (zoK n (decide ((n.Ties.len:Int) > (200:Int)))))
end
theorem q23 (n:Net) (K:List PA→Prop) (hs:p23 n=true) (hk:K (e23 (s23 n))):vcFun Tryd.prog G23 zHc 23 [.agg (enc_24 n)] K :=
  zbd (by kernel_rfl) (zc hs hk (fun hs hk=>(zA2 hs hk)) (fun hs hk=>(zA2 hs hk)))
def zHh : List PA → COut
  | [.agg [.int .i64 zao,.sl zak zaV zaj]]=>.det (IsE zae 4 zaV zaj∧p23 (⟨zao,(⟨zak,zar zaj⟩:(Sl Tie))⟩:Net)=true) [.one (.bool (s23 (⟨zao,(⟨zak,zar zaj⟩:(Sl Tie))⟩:Net)))]
  | _=>.no
theorem zJ1:zax Tryd.prog 23:=⟨_,rfl,rfl,by kernel_rfl⟩
theorem zNm:Ok Tryd.prog 23 zHh:=zbY zLI zJ1 fun args K h=>by
  unfold zHh at h
  split at h
  · rename_i zao zak zaV zaj
    obtain ⟨⟨⟨rfl,zaL,rfl⟩,hs⟩,hk⟩:=h
    try rw [zau zaL] at hs
    try rw [zau zaL] at hk
    exact ⟨(fun _ _=>[]),(fun _=>false),zHc,q23 (⟨zao,(⟨zak,zaL⟩:(Sl Tie))⟩:Net) K hs hk⟩
  · exact h.elim
abbrev T63:Tabs:=Tabs.nil
theorem zLJ:TabsOk Tryd.prog T63:=TabsOk.nil
abbrev G63:Ctrs:=csm T63 (fun _ _=>[]) (fun _=>false)
def zJ2:Ann:=⟨17,[(0,zK [0,1,2] []),(1,zK [0,1,2,8] []),(2,zK [6] []),(3,zK [6] [])],
 [],
 [],
 [],[]⟩
abbrev R63:=Int
abbrev e63 (r:R63):List PA:=[.one (.int .i64 r)]
section
variable {K:List PA→Prop} {nodes:Int} {epoch:Int} {i_a2:Int}
def s63 (nodes:Int) (epoch:Int) (i_a2:Int):Int :=
  (cond (i_a2 == (0:Int))
 (0:Int)
 (w64 ((w64 ((w64 ((1:Int)+(w64 (epoch * (w64 (nodes - (1:Int)))))))+i_a2)) - (1:Int))))
end
theorem q63 (nodes:Int) (epoch:Int) (i_a2:Int) (K:List PA→Prop) (hk:K (e63 (s63 nodes epoch i_a2))):vcFun Tryd.prog G63 zJ2 63 [.one (.int .i64 nodes),.one (.int .i64 epoch),.one (.int .i64 i_a2)] K :=
  zbd (by kernel_rfl) (zt hk (fun hk=>hk) (fun hk=>hk))
def zHi : List PA → COut
  | [.one (.int .i64 a0),.one (.int .i64 a1),.one (.int .i64 a2)]=>.tot [.one (.int .i64 (s63 a0 a1 a2))]
  | _=>.no
theorem zJ3:zax Tryd.prog 63:=⟨_,rfl,rfl,by kernel_rfl⟩
theorem zNn:Ok Tryd.prog 63 zHi:=zbY zLJ zJ3 fun args K h=>by
  unfold zHi at h
  split at h
  · rename_i a0 a1 a2
    have hk:=h
    exact ⟨(fun _ _=>[]),(fun _=>false),zJ2,q63 a0 a1 a2 K hk⟩
  · exact h.elim
abbrev T62:Tabs:=(((Tabs.nil.addF 23 zHh).addF 63 zHi).addF 72 zA1)
theorem zLK:TabsOk Tryd.prog T62:=(((TabsOk.nil.addF zNm).addF zNn).addF zLG)
abbrev G62:Ctrs:=csm T62 (fun _ _=>[]) (fun _=>false)
def zHj:Ann:=⟨172,[(0,zK [0,1,4] [4]),(1,zK [0,1,4,16] [4]),(2,zK [4,5] [4]),(3,zK [0,1,4,42] [4]),(4,zK [4,5] [4]),(5,zK [0,1,4,6] [4]),(6,zK [0,1,4,6,7] [4]),(7,zK [0,1,4,6,7,50] [4]),(8,zK [0,1,4,6,7] [4]),(9,zK [0,1,4,6,7,58] [4]),(10,zK [4,5] [4]),(11,zK [0,1,4,6,8] [4,8]),(12,zK [0,1,4,6,8,9] [4,8]),(13,zK [0,1,4,6,8,9,70] [4,8,123]),(14,zK [0,1,4,6,8,9] [4,8,123]),(15,zK [0,1,4,6,8,9,87] [4,8,123]),(16,zK [4,5] [4]),(17,zK [0,1,4,6,8,9,10] [4,8,123]),(18,zK [0,1,4,6,8,9,10,96] [4,8,123]),(19,zK [0,1,4,6,8,9,10] [4,8,123]),(20,zK [0,1,4,6,8,9,10,11] [4,8,11,123]),(21,zK [0,1,4,6,8,9,10,11] [4,8,11,123]),(22,zK [0,1,4,6,8,9,10] [4,8,123]),(23,zK [0,1,4,6,8,12] [4,8,123]),(24,zK [0,1,4,6,8,12,129] [4,8,123]),(25,zK [0,1,4,6,8,12] [4,8,123]),(26,zK [0,1,4,6,8,12,13] [4,8,123]),(27,zK [0,1,4,6,8,12,13,134] [4,8,123]),(28,zK [0,1,4,6,8,12,13] [4,8,123]),(29,zK [0,1,4,6,8,12,13] [4,8,123]),(30,zK [4,8,169] [4,8,123]),(31,zK [4,5] [4]),(32,zK [4,5] [4,123])],
 [(7,zK [0,1,4,6,7] [4]),(13,⟨[0,1,4,6,8,9],[4,8,123],[],[(8,1,123,40,fun _=>zae default)],[],[],[]⟩),(24,⟨[0,1,4,6,8,12],[4,8,123],[],[(8,1,159,40,fun _=>zae default)],[],[],[]⟩),(18,⟨[0,1,4,6,8,9,10],[4,8,123],[],[(8,1,123,40,fun _=>zae default)],[],[],[]⟩),(27,⟨[0,1,4,6,8,12,13],[4,8,123],[],[(8,1,159,40,fun _=>zae default)],[],[],[]⟩)],
 [(3,zK [0,1,4] [4]),(4,zK [0,1,4,42] [4]),(5,zK [0,1,4] [4]),(10,zK [0,1,4,6,7,58] [4]),(11,zK [0,1,4,6] [4]),(16,zK [0,1,4,6,8,9,87] [4,8,123]),(23,zK [0,1,4,6,8] [4,8,123]),(17,zK [0,1,4,6,8,9] [4,8,123]),(30,zK [4,8] [4,8,123]),(22,zK [0,1,4,6,8,9,10,11] [4,8,11,123])],
 [],[]⟩
abbrev R62:=(Net×Int)
abbrev e62 (r:R62):List PA:=[.agg [.int .i64 r.1.Nodes,.sl r.1.Ties.len 4 (fun i=>zae (r.1.Ties.get i))],.one (.int .i64 r.2)]
@[irreducible] def z62:=ptF Tryd.prog G62 zHj Tryd.f62
def zDY (nets:(Sl Net)) (drift:(Sl Int)) (iv3:Int):St:=⟨[(0,zS enc_24 2 nets),(1,zS enc_3 1 drift),(4,zp 4 0),(6,zI ((nets.get 0).Nodes)),(7,zI iv3)],[(4,.box 24 [zi (0:Int),.p (.nils)])],[]⟩
abbrev zHk (K:List PA→Prop) (nets:(Sl Net)) (drift:(Sl Int)) (X:St→Prop) (P:Int→Bool) (S:Int→(Net×Int)):Prop:=∀ ⦃iv3:Int⦄,P iv3=true→K (e62 (S iv3))→X (zDY nets drift iv3)
def zDZ (nets:(Sl Net)) (drift:(Sl Int)) (jv6:Int) (zci:Int) (zcY:(Sl Tie)) (zeY:Nat→List PV):St:=⟨[(0,zS enc_24 2 nets),(1,zS enc_3 1 drift),(4,zp 4 0),(6,zI ((nets.get 0).Nodes)),(8,zp 8 0),(9,zI jv6)],[(4,.box 24 [zi (0:Int),.p (.nils)]),(8,.box 24 [zi zci,.vec 123]),(123,.vec 40 4 32 zcY.len zeY)],[]⟩
abbrev zvU (K:List PA→Prop) (nets:(Sl Net)) (drift:(Sl Int)) (X:St→Prop) (P:Int→Int→(Sl Tie)→Bool) (S:Int→Int→(Sl Tie)→(Net×Int)):Prop:=∀ ⦃jv6:Int⦄ ⦃zci:Int⦄ ⦃zcY:(Sl Tie)⦄ ⦃zeY:Nat→List PV⦄,P jv6 zci zcY=true→K (e62 (S jv6 zci zcY))→zeY=zg zae zcY→X (zDZ nets drift jv6 zci zcY zeY)
def zA3 (nets:(Sl Net)) (drift:(Sl Int)) (zaN:Int) (zeD:Int) (zcs:(Sl Tie)) (zdT:Nat→List PV):St:=⟨[(0,zS enc_24 2 nets),(1,zS enc_3 1 drift),(4,zp 4 0),(6,zI ((nets.get 0).Nodes)),(8,zp 8 0),(12,zI zeD)],[(4,.box 24 [zi (0:Int),.p (.nils)]),(8,.box 24 [zi zaN,.vec 123]),(123,.vec 40 4 32 zcs.len zdT)],[]⟩
abbrev zA4 (K:List PA→Prop) (nets:(Sl Net)) (drift:(Sl Int)) (zaN:Int) (X:St→Prop) (P:Int→(Sl Tie)→Bool) (S:Int→(Sl Tie)→(Net×Int)):Prop:=∀ ⦃zeD:Int⦄ ⦃zcs:(Sl Tie)⦄ ⦃zdT:Nat→List PV⦄,P zeD zcs=true→K (e62 (S zeD zcs))→zdT=zg zae zcs→X (zA3 nets drift zaN zeD zcs zdT)
def zA5 (nets:(Sl Net)) (drift:(Sl Int)) (za1:Int) (zfF:Int) (zhC:Int) (zcj:(Sl Tie)) (zdU:Nat→List PV):St:=⟨[(0,zS enc_24 2 nets),(1,zS enc_3 1 drift),(4,zp 4 0),(6,zI ((nets.get 0).Nodes)),(8,zp 8 0),(9,zI zfF),(10,zI zhC)],[(4,.box 24 [zi (0:Int),.p (.nils)]),(8,.box 24 [zi za1,.vec 123]),(123,.vec 40 4 32 zcj.len zdU)],[]⟩
abbrev zA6 (K:List PA→Prop) (nets:(Sl Net)) (drift:(Sl Int)) (za1:Int) (X:St→Prop) (P:Int→Int→(Sl Tie)→Bool) (S:Int→Int→(Sl Tie)→(Net×Int)):Prop:=∀ ⦃zfF:Int⦄ ⦃zhC:Int⦄ ⦃zcj:(Sl Tie)⦄ ⦃zdU:Nat→List PV⦄,P zfF zhC zcj=true→K (e62 (S zfF zhC zcj))→zdU=zg zae zcj→X (zA5 nets drift za1 zfF zhC zcj zdU)
def zA7 (nets:(Sl Net)) (drift:(Sl Int)) (zaN:Int) (zjC:Int) (zf4:Int) (zbN:(Sl Tie)) (zdV:Nat→List PV):St:=⟨[(0,zS enc_24 2 nets),(1,zS enc_3 1 drift),(4,zp 4 0),(6,zI ((nets.get 0).Nodes)),(8,zp 8 0),(12,zI zjC),(13,zI zf4)],[(4,.box 24 [zi (0:Int),.p (.nils)]),(8,.box 24 [zi zaN,.vec 123]),(123,.vec 40 4 32 zbN.len zdV)],[]⟩
abbrev zD0 (K:List PA→Prop) (nets:(Sl Net)) (drift:(Sl Int)) (zaN:Int) (X:St→Prop) (P:Int→Int→(Sl Tie)→Bool) (S:Int→Int→(Sl Tie)→(Net×Int)):Prop:=∀ ⦃zjC:Int⦄ ⦃zf4:Int⦄ ⦃zbN:(Sl Tie)⦄ ⦃zdV:Nat→List PV⦄,P zjC zf4 zbN=true→K (e62 (S zjC zf4 zbN))→zdV=zg zae zbN→X (zA7 nets drift zaN zjC zf4 zbN zdV)
section
variable {K:List PA→Prop} {nets:(Sl Net)} {drift:(Sl Int)} {zts:Bool} {iv3:Int} {X3:St→Prop} {P3:Int→Bool} {S3:Int→(Net×Int)} {iv4:Int} {ztt:Bool} {jv6:Int} {zci:Int} {zcY:(Sl Tie)} {zeY:Nat→List PV} {X6:St→Prop} {P6:Int→Int→(Sl Tie)→Bool} {S6:Int→Int→(Sl Tie)→(Net×Int)} {jv7:Int} {ztu:Bool} {za1:Int} {zjD:(Sl Tie)} {zu0:Nat→List PV} {zaN:Int} {zjE:(Sl Tie)} {zu1:Nat→List PV} {jv9:Int} {zjF:(Sl Tie)} {zu3:Nat→List PV} {zeD:Int} {zcs:(Sl Tie)} {zdT:Nat→List PV} {X10:St→Prop} {P10:Int→(Sl Tie)→Bool} {S10:Int→(Sl Tie)→(Net×Int)} {zfF:Int} {zhC:Int} {zcj:(Sl Tie)} {zdU:Nat→List PV} {X11:St→Prop} {P11:Int→Int→(Sl Tie)→Bool} {S11:Int→Int→(Sl Tie)→(Net×Int)} {zjC:Int} {zf4:Int} {zbN:(Sl Tie)} {zdV:Nat→List PV} {X12:St→Prop} {P12:Int→Int→(Sl Tie)→Bool} {S12:Int→Int→(Sl Tie)→(Net×Int)} {zgF:(Sl Tie)} {zqE:Nat→List PV} {zHl:Int} {zHm:Int} {zjG:Int} {zjH:Int} {zjI:Int} {zjJ:Int} {zdg:(Sl Tie)} {zqF:Nat→List PV}
def zoL (S6:Int→Int→(Sl Tie)→(Net×Int)) (S11:Int→Int→(Sl Tie)→(Net×Int)) (nets:(Sl Net)) (drift:(Sl Int)) (za1:Int) (zHl:Int) (zHm:Int) (zjG:Int) (zjH:Int) (zjI:Int) (zjJ:Int) (zdg:(Sl Tie)):(Net×Int) :=
  (S11 zHl (w64 (zHm+(1:Int))) (⟨(zdg.len+1),(zms zdg.len zdg.get (fun _=>(⟨zjG,zjH,zjI,zjJ⟩:Tie)))⟩:Sl Tie))
def zoM (P6:Int→Int→(Sl Tie)→Bool) (P11:Int→Int→(Sl Tie)→Bool) (nets:(Sl Net)) (drift:(Sl Int)) (za1:Int) (zHl:Int) (zHm:Int) (zjG:Int) (zjH:Int) (zjI:Int) (zjJ:Int) (zdg:(Sl Tie)):Bool :=
  (decide (((zdg.len+1) * 32≤140737488355328∧zdg.len+1≤9223372036854775807)) &&
 (P11 zHl (w64 (zHm+(1:Int))) (⟨(zdg.len+1),(zms zdg.len zdg.get (fun _=>(⟨zjG,zjH,zjI,zjJ⟩:Tie)))⟩:Sl Tie)))
theorem zCT (hX6:zvU K nets drift X6 P6 S6) (hX11:zA6 K nets drift za1 X11 P11 S11) (hs:zoM P6 P11 nets drift za1 zHl zHm zjG zjH zjI zjJ zdg=true) (hk:K (e62 (zoL S6 S11 nets drift za1 zHl zHm zjG zjH zjI zjJ zdg))) (zA8:zqF=zg zae zdg):z62 (Wk K) [1,1,1,1,1,1,0,1,0,0,1,0,0,1,1,0,0,1,0,0,1,1] [X6,X11] ⟨[(0,zS enc_24 2 nets),(1,zS enc_3 1 drift),(4,zp 4 0),(6,zI ((nets.get 0).Nodes)),(8,zp 8 0),(9,zI zHl),(10,zI zHm),(11,zp 11 0)],[(4,.box 24 [zi (0:Int),.p (.nils)]),(8,.box 24 [zi za1,.vec 123]),(11,.box 40 (zm (zae (⟨zjG,zjH,zjI,zjJ⟩:Tie)))),(123,.vec 40 4 32 zdg.len zqF)],[]⟩:=by subst zA8;exact zbd (by kernel_rfl) (za6 hs fun hc hs=>And.intro hc (hX11 hs hk (zh0 (enc:=zae) (f:=zdg.get) (h:=(fun _=>(⟨zjG,zjH,zjI,zjJ⟩:Tie))) rfl rfl)))
def zoN (zaN:Int) (zgF:(Sl Tie)):(Net×Int) :=
  (cond (decide (zaN > (40:Int)))
 ((⟨(0:Int),(⟨0,fun _=>default⟩:(Sl Tie))⟩:Net),(3:Int))
 (cond (decide ((zgF.len : Int) > (200:Int)))
 ((⟨(0:Int),(⟨0,fun _=>default⟩:(Sl Tie))⟩:Net),(3:Int))
 ((⟨zaN,zgF⟩:Net),(0:Int))))
theorem zCU (hk:K (e62 (zoN zaN zgF))) (zA9:zqE=zg zae zgF):z62 (Wk K) [1,1,1,1,1,1,1,1] [] ⟨[(4,zp 4 0),(8,zp 8 0)],[(4,.box 24 [zi (0:Int),.p (.nils)]),(8,.box 24 [zi zaN,.vec 123]),(123,.vec 40 4 32 zgF.len zqE)],[]⟩:=by subst zA9;exact zbd (by kernel_rfl) (zt hk (fun hk=>((wk hk (zcw (.agg (zcw (.rfl _) (zcw (.nil _ _) zeB))) (zcw (.one (.rfl _)) zeB))):Wk K [.agg [.int .i64 (0:Int),.nils],.one (.int .i64 (3:Int))])) (fun hk=>(zt hk (fun hk=>((wk hk (zcw (.agg (zcw (.rfl _) (zcw (.nil _ _) zeB))) (zcw (.one (.rfl _)) zeB))):Wk K [.agg [.int .i64 (0:Int),.nils],.one (.int .i64 (3:Int))])) (fun hk=>((zfS hk):Wk K [.agg [.int .i64 zaN,.sl zgF.len 4 (fun i=>zae (zgF.get i))],.one (.int .i64 (0:Int))])))))
def zg0 (S10:Int→(Sl Tie)→(Net×Int)) (nets:(Sl Net)) (drift:(Sl Int)) (zaN:Int) (S12:Int→Int→(Sl Tie)→(Net×Int)) (zjC:Int) (zf4:Int) (zbN:(Sl Tie)):(Net×Int) :=
  (cond (decide (zf4 < (nets.get 0).Nodes))
 (S12 zjC (w64 (zf4+(1:Int))) (⟨(zbN.len+1),(zms zbN.len zbN.get (fun _=>(⟨(s63 ((nets.get 0).Nodes) zjC zf4),(s63 ((nets.get 0).Nodes) (w64 (zjC+(1:Int))) zf4),(w64 (0 - (drift.get zf4.toNat))),(drift.get zf4.toNat)⟩:Tie)))⟩:Sl Tie))
 (S10 (w64 (zjC+(1:Int))) zbN))
def zg1 (P10:Int→(Sl Tie)→Bool) (nets:(Sl Net)) (drift:(Sl Int)) (zaN:Int) (P12:Int→Int→(Sl Tie)→Bool) (zjC:Int) (zf4:Int) (zbN:(Sl Tie)):Bool :=
  (cond (decide (zf4 < (nets.get 0).Nodes))
 (decide ((0≤zf4∧zf4 < (drift.len:Int))) &&
 (decide ((0≤zf4∧zf4 < (drift.len:Int))) &&
 (decide (((zbN.len+1) * 32≤140737488355328∧zbN.len+1≤9223372036854775807)) &&
 (P12 zjC (w64 (zf4+(1:Int))) (⟨(zbN.len+1),(zms zbN.len zbN.get (fun _=>(⟨(s63 ((nets.get 0).Nodes) zjC zf4),(s63 ((nets.get 0).Nodes) (w64 (zjC+(1:Int))) zf4),(w64 (0 - (drift.get zf4.toNat))),(drift.get zf4.toNat)⟩:Tie)))⟩:Sl Tie)))))
 (P10 (w64 (zjC+(1:Int))) zbN))
def zfG (S10:Int→(Sl Tie)→(Net×Int)) (nets:(Sl Net)) (drift:(Sl Int)) (zaN:Int):Nat→Int→Int→(Sl Tie)→(Net×Int):=lpO (fun _ _ _=>default) (zg0 S10 nets drift zaN)
def zfH (P10:Int→(Sl Tie)→Bool) (nets:(Sl Net)) (drift:(Sl Int)) (zaN:Int):Nat→Int→Int→(Sl Tie)→Bool:=lpO (fun _ _ _=>false) (zg1 P10 nets drift zaN)
def zoO (S10:Int→(Sl Tie)→(Net×Int)) (nets:(Sl Net)) (drift:(Sl Int)) (zaN:Int) (zjC:Int) (zf4:Int) (zbN:(Sl Tie)):(Net×Int):=zfG S10 nets drift zaN Fuel zjC zf4 zbN
def zoP (P10:Int→(Sl Tie)→Bool) (nets:(Sl Net)) (drift:(Sl Int)) (zaN:Int) (zjC:Int) (zf4:Int) (zbN:(Sl Tie)):Bool:=zfH P10 nets drift zaN Fuel zjC zf4 zbN
theorem zCV (hX10:zA4 K nets drift zaN X10 P10 S10) (hs:zoP P10 nets drift zaN zjC zf4 zbN=true) (hk:K (e62 (zoO S10 nets drift zaN zjC zf4 zbN))) (zmg:zdV=zg zae zbN):z62 (Wk K) [1,1,1,1,1,1,1,0,1,0,0,1,0,0,1,0] [X10] (zA7 nets drift zaN zjC zf4 zbN zdV) :=
  zl (fun X=>z62 (Wk K) [1,1,1,1,1,1,1,0,1,0,0,1,0,0,1,0,0] [X10,X]) (by kernel_rfl) fun X12 hX =>
  (show ∀ k, zD0 K nets drift zaN X12 (zfH P10 nets drift zaN k) (zfG S10 nets drift zaN k) from zhs _ _ (zg1 P10 nets drift zaN) (zg0 S10 nets drift zaN) (zD0 K nets drift zaN X12)
 (by intro _ _ _ _ hs;exact absurd hs Bool.false_ne_true)
 (by intro P12 S12 hX12 zjC zf4 zbN zdV hs hk zmg;subst zmg;exact hX _ (zbd (by kernel_rfl) (zc hs hk (fun hs hk=>(za6 hs fun hc hs=>And.intro hc (za6 hs fun hc hs=>And.intro hc (za6 hs fun hc hs=>And.intro hc (hX12 hs hk (zh0 (enc:=zae) (f:=zbN.get) (h:=(fun _=>(⟨(s63 ((nets.get 0).Nodes) zjC zf4),(s63 ((nets.get 0).Nodes) (w64 (zjC+(1:Int))) zf4),(w64 (0 - (drift.get zf4.toNat))),(drift.get zf4.toNat)⟩:Tie))) rfl rfl)))))) (fun hs hk=>(hX10 hs hk rfl)))))) _ hs hk zmg
def zg2 (S6:Int→Int→(Sl Tie)→(Net×Int)) (nets:(Sl Net)) (drift:(Sl Int)) (za1:Int) (S11:Int→Int→(Sl Tie)→(Net×Int)) (zfF:Int) (zhC:Int) (zcj:(Sl Tie)):(Net×Int) :=
  (cond (decide (zhC < ((nets.get zfF.toNat).Ties.len : Int)))
 (zoL S6 S11 nets drift za1 zfF zhC (s63 ((nets.get 0).Nodes) zfF (((nets.get zfF.toNat).Ties.get zhC.toNat).From)) (s63 ((nets.get 0).Nodes) zfF (((nets.get zfF.toNat).Ties.get zhC.toNat).To)) (((nets.get zfF.toNat).Ties.get zhC.toNat).Low) (((nets.get zfF.toNat).Ties.get zhC.toNat).High) zcj)
 (S6 (w64 (zfF+(1:Int))) za1 zcj))
def zg3 (P6:Int→Int→(Sl Tie)→Bool) (nets:(Sl Net)) (drift:(Sl Int)) (za1:Int) (P11:Int→Int→(Sl Tie)→Bool) (zfF:Int) (zhC:Int) (zcj:(Sl Tie)):Bool :=
  (decide ((0≤zfF∧zfF < (nets.len:Int))) &&
 (cond (decide (zhC < ((nets.get zfF.toNat).Ties.len : Int)))
 (decide ((0≤zfF∧zfF < (nets.len:Int))) &&
 (decide ((0≤zhC∧zhC < ((nets.get zfF.toNat).Ties.len:Int))) &&
 (zoM P6 P11 nets drift za1 zfF zhC (s63 ((nets.get 0).Nodes) zfF (((nets.get zfF.toNat).Ties.get zhC.toNat).From)) (s63 ((nets.get 0).Nodes) zfF (((nets.get zfF.toNat).Ties.get zhC.toNat).To)) (((nets.get zfF.toNat).Ties.get zhC.toNat).Low) (((nets.get zfF.toNat).Ties.get zhC.toNat).High) zcj)))
 (P6 (w64 (zfF+(1:Int))) za1 zcj)))
def zfI (S6:Int→Int→(Sl Tie)→(Net×Int)) (nets:(Sl Net)) (drift:(Sl Int)) (za1:Int):Nat→Int→Int→(Sl Tie)→(Net×Int):=lpO (fun _ _ _=>default) (zg2 S6 nets drift za1)
def zfJ (P6:Int→Int→(Sl Tie)→Bool) (nets:(Sl Net)) (drift:(Sl Int)) (za1:Int):Nat→Int→Int→(Sl Tie)→Bool:=lpO (fun _ _ _=>false) (zg3 P6 nets drift za1)
def zu4 (S6:Int→Int→(Sl Tie)→(Net×Int)) (nets:(Sl Net)) (drift:(Sl Int)) (za1:Int) (zfF:Int) (zhC:Int) (zcj:(Sl Tie)):(Net×Int):=zfI S6 nets drift za1 Fuel zfF zhC zcj
def zu5 (P6:Int→Int→(Sl Tie)→Bool) (nets:(Sl Net)) (drift:(Sl Int)) (za1:Int) (zfF:Int) (zhC:Int) (zcj:(Sl Tie)):Bool:=zfJ P6 nets drift za1 Fuel zfF zhC zcj
theorem zCW (hX6:zvU K nets drift X6 P6 S6) (hs:zu5 P6 nets drift za1 zfF zhC zcj=true) (hk:K (e62 (zu4 S6 nets drift za1 zfF zhC zcj))) (zmh:zdU=zg zae zcj):z62 (Wk K) [1,1,1,1,1,1,0,1,0,0,1,0,0,1,1,0] [X6] (zA5 nets drift za1 zfF zhC zcj zdU) :=
  zl (fun X=>z62 (Wk K) [1,1,1,1,1,1,0,1,0,0,1,0,0,1,1,0,0] [X6,X]) (by kernel_rfl) fun X11 hX =>
  (show ∀ k, zA6 K nets drift za1 X11 (zfJ P6 nets drift za1 k) (zfI S6 nets drift za1 k) from zhs _ _ (zg3 P6 nets drift za1) (zg2 S6 nets drift za1) (zA6 K nets drift za1 X11)
 (by intro _ _ _ _ hs;exact absurd hs Bool.false_ne_true)
 (by intro P11 S11 hX11 zfF zhC zcj zdU hs hk zmh;subst zmh;exact hX _ (zbd (by kernel_rfl) (za6 hs fun hc hs=>And.intro hc (zc hs hk (fun hs hk=>(za6 hs fun hc hs=>And.intro hc (za6 hs fun hc hs=>And.intro hc (zCT hX6 hX11 hs hk rfl)))) (fun hs hk=>(hX6 hs hk rfl))))))) _ hs hk zmh
def zg4 (nets:(Sl Net)) (drift:(Sl Int)) (zaN:Int) (S10:Int→(Sl Tie)→(Net×Int)) (zeD:Int) (zcs:(Sl Tie)):(Net×Int) :=
  (cond (decide ((w64 (zeD + (1:Int))) < (nets.len : Int)))
 (zoO S10 nets drift zaN zeD (1:Int) zcs)
 (zoN zaN zcs))
def zg5 (nets:(Sl Net)) (drift:(Sl Int)) (zaN:Int) (P10:Int→(Sl Tie)→Bool) (zeD:Int) (zcs:(Sl Tie)):Bool :=
  (cond (decide ((w64 (zeD + (1:Int))) < (nets.len : Int)))
 (zoP P10 nets drift zaN zeD (1:Int) zcs)
 true)
def zfK (nets:(Sl Net)) (drift:(Sl Int)) (zaN:Int):Nat→Int→(Sl Tie)→(Net×Int):=lpO (fun _ _=>default) (zg4 nets drift zaN)
def zfL (nets:(Sl Net)) (drift:(Sl Int)) (zaN:Int):Nat→Int→(Sl Tie)→Bool:=lpO (fun _ _=>false) (zg5 nets drift zaN)
def zu6 (nets:(Sl Net)) (drift:(Sl Int)) (zaN:Int) (zeD:Int) (zcs:(Sl Tie)):(Net×Int):=zfK nets drift zaN Fuel zeD zcs
def zu7 (nets:(Sl Net)) (drift:(Sl Int)) (zaN:Int) (zeD:Int) (zcs:(Sl Tie)):Bool:=zfL nets drift zaN Fuel zeD zcs
theorem zCX (hs:zu7 nets drift zaN zeD zcs=true) (hk:K (e62 (zu6 nets drift zaN zeD zcs))) (zmi:zdT=zg zae zcs):z62 (Wk K) [1,1,1,1,1,1,1,0,1,0] [] (zA3 nets drift zaN zeD zcs zdT) :=
  zl (fun X=>z62 (Wk K) [1,1,1,1,1,1,1,0,1,0,0] [X]) (by kernel_rfl) fun X10 hX =>
  (show ∀ k, zA4 K nets drift zaN X10 (zfL nets drift zaN k) (zfK nets drift zaN k) from zhs _ _ (zg5 nets drift zaN) (zg4 nets drift zaN) (zA4 K nets drift zaN X10)
 (by intro _ _ _ hs;exact absurd hs Bool.false_ne_true)
 (by intro P10 S10 hX10 zeD zcs zdT hs hk zmi;subst zmi;exact hX _ (zbd (by kernel_rfl) (zc hs hk (fun hs hk=>(zCV hX10 hs hk rfl)) (fun hs hk=>(zCU hk rfl)))))) _ hs hk zmi
def zoQ (S6:Int→Int→(Sl Tie)→(Net×Int)) (nets:(Sl Net)) (drift:(Sl Int)) (za1:Int) (jv9:Int) (zjF:(Sl Tie)):(Net×Int) :=
  (zu4 S6 nets drift za1 jv9 (0:Int) zjF)
def zoR (P6:Int→Int→(Sl Tie)→Bool) (nets:(Sl Net)) (drift:(Sl Int)) (za1:Int) (jv9:Int) (zjF:(Sl Tie)):Bool :=
  (zu5 P6 nets drift za1 jv9 (0:Int) zjF)
theorem zHn (hX6:zvU K nets drift X6 P6 S6) (hs:zoR P6 nets drift za1 jv9 zjF=true) (hk:K (e62 (zoQ S6 nets drift za1 jv9 zjF))) (zCY:zu3=zg zae zjF):z62 (Wk K) [1,1,1,1,1,1,0,1,0,0,1,0,0,1] [X6] ⟨[(0,zS enc_24 2 nets),(1,zS enc_3 1 drift),(4,zp 4 0),(6,zI ((nets.get 0).Nodes)),(8,zp 8 0),(9,zI jv9)],[(4,.box 24 [zi (0:Int),.p (.nils)]),(8,.box 24 [zi za1,.vec 123]),(123,.vec 40 4 32 zjF.len zu3)],[]⟩:=by subst zCY;exact zbd (by kernel_rfl) (zCW hX6 hs hk rfl)
def zoS (nets:(Sl Net)) (drift:(Sl Int)) (zaN:Int) (zjE:(Sl Tie)):(Net×Int) :=
  (zu6 nets drift zaN (0:Int) zjE)
def zoT (nets:(Sl Net)) (drift:(Sl Int)) (zaN:Int) (zjE:(Sl Tie)):Bool :=
  (zu7 nets drift zaN (0:Int) zjE)
theorem zHo (hs:zoT nets drift zaN zjE=true) (hk:K (e62 (zoS nets drift zaN zjE))) (zCZ:zu1=zg zae zjE):z62 (Wk K) [1,1,1,1,1,1,1] [] ⟨[(0,zS enc_24 2 nets),(1,zS enc_3 1 drift),(4,zp 4 0),(6,zI ((nets.get 0).Nodes)),(8,zp 8 0)],[(4,.box 24 [zi (0:Int),.p (.nils)]),(8,.box 24 [zi zaN,.vec 123]),(123,.vec 40 4 32 zjE.len zu1)],[]⟩:=by subst zCZ;exact zbd (by kernel_rfl) (zCX hs hk rfl)
def zoU (S6:Int→Int→(Sl Tie)→(Net×Int)) (nets:(Sl Net)) (drift:(Sl Int)) (jv7:Int) (ztu:Bool) (za1:Int) (zjD:(Sl Tie)):(Net×Int) :=
  (cond ztu
 ((⟨(0:Int),(⟨0,fun _=>default⟩:(Sl Tie))⟩:Net),(2:Int))
 (zoQ S6 nets drift za1 jv7 zjD))
def zoV (P6:Int→Int→(Sl Tie)→Bool) (nets:(Sl Net)) (drift:(Sl Int)) (jv7:Int) (ztu:Bool) (za1:Int) (zjD:(Sl Tie)):Bool :=
  (cond ztu
 true
 (zoR P6 nets drift za1 jv7 zjD))
theorem zBa (hX6:zvU K nets drift X6 P6 S6) (hs:zoV P6 nets drift jv7 ztu za1 zjD=true) (hk:K (e62 (zoU S6 nets drift jv7 ztu za1 zjD))) (zC0:zu0=zg zae zjD):z62 (Wk K) [1,1,1,1,1,1,0,1,0,0,1,0,0,0,1] [X6] ⟨[(0,zS enc_24 2 nets),(1,zS enc_3 1 drift),(4,zp 4 0),(6,zI ((nets.get 0).Nodes)),(8,zp 8 0),(9,zI jv7),(87,zB ztu)],[(4,.box 24 [zi (0:Int),.p (.nils)]),(8,.box 24 [zi za1,.vec 123]),(123,.vec 40 4 32 zjD.len zu0)],[]⟩:=by subst zC0;exact zbd (by kernel_rfl) (zc hs hk (fun hs hk=>((wk hk (zcw (.agg (zcw (.rfl _) (zcw (.nil _ _) zeB))) (zcw (.one (.rfl _)) zeB))):Wk K [.agg [.int .i64 (0:Int),.nils],.one (.int .i64 (2:Int))])) (fun hs hk=>(zHn hX6 hs hk rfl)))
def zjc (nets:(Sl Net)) (drift:(Sl Int)) (S6:Int→Int→(Sl Tie)→(Net×Int)) (jv6:Int) (zci:Int) (zcY:(Sl Tie)):(Net×Int) :=
  (cond (decide (jv6 < (nets.len : Int)))
 (cond (!(s23 (nets.get jv6.toNat)))
 (zoU S6 nets drift jv6 true zci zcY)
 (zoU S6 nets drift jv6 ((nets.get jv6.toNat).Nodes != (nets.get 0).Nodes) zci zcY))
 (zoS nets drift zci zcY))
def zjd (nets:(Sl Net)) (drift:(Sl Int)) (P6:Int→Int→(Sl Tie)→Bool) (jv6:Int) (zci:Int) (zcY:(Sl Tie)):Bool :=
  (cond (decide (jv6 < (nets.len : Int)))
 (decide ((0≤jv6∧jv6 < (nets.len:Int))) &&
 (decide ((p23 (nets.get jv6.toNat)=true)) &&
 (cond (!(s23 (nets.get jv6.toNat)))
 (zoV P6 nets drift jv6 true zci zcY)
 (decide ((0≤jv6∧jv6 < (nets.len:Int))) &&
 (zoV P6 nets drift jv6 ((nets.get jv6.toNat).Nodes != (nets.get 0).Nodes) zci zcY)))))
 (zoT nets drift zci zcY))
def zhx (nets:(Sl Net)) (drift:(Sl Int)):Nat→Int→Int→(Sl Tie)→(Net×Int):=lpO (fun _ _ _=>default) (zjc nets drift)
def zhy (nets:(Sl Net)) (drift:(Sl Int)):Nat→Int→Int→(Sl Tie)→Bool:=lpO (fun _ _ _=>false) (zjd nets drift)
def ztv (nets:(Sl Net)) (drift:(Sl Int)) (jv6:Int) (zci:Int) (zcY:(Sl Tie)):(Net×Int):=zhx nets drift Fuel jv6 zci zcY
def ztw (nets:(Sl Net)) (drift:(Sl Int)) (jv6:Int) (zci:Int) (zcY:(Sl Tie)):Bool:=zhy nets drift Fuel jv6 zci zcY
theorem zHp (hs:ztw nets drift jv6 zci zcY=true) (hk:K (e62 (ztv nets drift jv6 zci zcY))) (zoW:zeY=zg zae zcY):z62 (Wk K) [1,1,1,1,1,1,0,1,0] [] (zDZ nets drift jv6 zci zcY zeY) :=
  zl (fun X=>z62 (Wk K) [1,1,1,1,1,1,0,1,0,0] [X]) (by kernel_rfl) fun X6 hX =>
  (show ∀ k, zvU K nets drift X6 (zhy nets drift k) (zhx nets drift k) from zhs _ _ (zjd nets drift) (zjc nets drift) (zvU K nets drift X6)
 (by intro _ _ _ _ hs;exact absurd hs Bool.false_ne_true)
 (by intro P6 S6 hX6 jv6 zci zcY zeY hs hk zoW;subst zoW;exact hX _ (zbd (by kernel_rfl) (zc hs hk (fun hs hk=>(za6 hs fun hc hs=>And.intro hc (za6 hs fun hc hs=>And.intro (And.intro (zE zae 4 ((nets.get jv6.toNat).Ties.get)) hc) (zc hs hk (fun hs hk=>(zBa hX6 hs hk rfl)) (fun hs hk=>(za6 hs fun hc hs=>And.intro hc (zBa hX6 hs hk rfl))))))) (fun hs hk=>(zHo hs hk rfl)))))) _ hs hk zoW
def zgG (nets:(Sl Net)) (drift:(Sl Int)):(Net×Int) :=
  (ztv nets drift (0:Int) (w64 ((1:Int)+(w64 ((nets.len:Int) * (w64 ((nets.get 0).Nodes - (1:Int))))))) (⟨0,(fun _=>default)⟩:Sl Tie))
def zgH (nets:(Sl Net)) (drift:(Sl Int)):Bool :=
  (ztw nets drift (0:Int) (w64 ((1:Int)+(w64 ((nets.len:Int) * (w64 ((nets.get 0).Nodes - (1:Int))))))) (⟨0,(fun _=>default)⟩:Sl Tie))
theorem zHq (hs:zgH nets drift=true) (hk:K (e62 (zgG nets drift))):z62 (Wk K) [1,1,1,1,1] [] ⟨[(0,zS enc_24 2 nets),(1,zS enc_3 1 drift),(4,zp 4 0),(6,zI ((nets.get 0).Nodes))],[(4,.box 24 [zi (0:Int),.p (.nils)])],[]⟩:=zbd (by kernel_rfl) (zHp hs hk rfl)
def zoX (S3:Int→(Net×Int)) (nets:(Sl Net)) (drift:(Sl Int)) (iv4:Int) (ztt:Bool):(Net×Int) :=
  (cond ztt
 ((⟨(0:Int),(⟨0,fun _=>default⟩:(Sl Tie))⟩:Net),(2:Int))
 (S3 (w64 (iv4+(1:Int)))))
def zoY (P3:Int→Bool) (nets:(Sl Net)) (drift:(Sl Int)) (iv4:Int) (ztt:Bool):Bool :=
  (cond ztt
 true
 (P3 (w64 (iv4+(1:Int)))))
theorem zHr (hX3:zHk K nets drift X3 P3 S3) (hs:zoY P3 nets drift iv4 ztt=true) (hk:K (e62 (zoX S3 nets drift iv4 ztt))):z62 (Wk K) [1,1,1,1,0,1,0,0,1,0,0,1] [X3] ⟨[(0,zS enc_24 2 nets),(1,zS enc_3 1 drift),(4,zp 4 0),(6,zI ((nets.get 0).Nodes)),(7,zI iv4),(58,zB ztt)],[(4,.box 24 [zi (0:Int),.p (.nils)])],[]⟩:=zbd (by kernel_rfl) (zc hs hk (fun hs hk=>((wk hk (zcw (.agg (zcw (.rfl _) (zcw (.nil _ _) zeB))) (zcw (.one (.rfl _)) zeB))):Wk K [.agg [.int .i64 (0:Int),.nils],.one (.int .i64 (2:Int))])) (fun hs hk=>(hX3 hs hk)))
def ze4 (nets:(Sl Net)) (drift:(Sl Int)) (S3:Int→(Net×Int)) (iv3:Int):(Net×Int) :=
  (cond (decide (iv3 < (nets.get 0).Nodes))
 (zoX S3 nets drift iv3 (!(s72 (drift.get iv3.toNat) (0:Int) (1000000000:Int))))
 (zgG nets drift))
def ze5 (nets:(Sl Net)) (drift:(Sl Int)) (P3:Int→Bool) (iv3:Int):Bool :=
  (cond (decide (iv3 < (nets.get 0).Nodes))
 (decide ((0≤iv3∧iv3 < (drift.len:Int))) &&
 (zoY P3 nets drift iv3 (!(s72 (drift.get iv3.toNat) (0:Int) (1000000000:Int)))))
 (zgH nets drift))
def zev (nets:(Sl Net)) (drift:(Sl Int)):Nat→Int→(Net×Int):=lpO (fun _=>default) (ze4 nets drift)
def zew (nets:(Sl Net)) (drift:(Sl Int)):Nat→Int→Bool:=lpO (fun _=>false) (ze5 nets drift)
def ztx (nets:(Sl Net)) (drift:(Sl Int)) (iv3:Int):(Net×Int):=zev nets drift Fuel iv3
def zoZ (nets:(Sl Net)) (drift:(Sl Int)) (iv3:Int):Bool:=zew nets drift Fuel iv3
theorem zHs (hs:zoZ nets drift iv3=true) (hk:K (e62 (ztx nets drift iv3))):z62 (Wk K) [1,1,1,1,0,1,0] [] (zDY nets drift iv3) :=
  zl (fun X=>z62 (Wk K) [1,1,1,1,0,1,0,0] [X]) (by kernel_rfl) fun X3 hX =>
  (show ∀ k, zHk K nets drift X3 (zew nets drift k) (zev nets drift k) from zhs _ _ (ze5 nets drift) (ze4 nets drift) (zHk K nets drift X3)
 (by intro _ hs;exact absurd hs Bool.false_ne_true)
 (by intro P3 S3 hX3 iv3 hs hk;exact hX _ (zbd (by kernel_rfl) (zc hs hk (fun hs hk=>(za6 hs fun hc hs=>And.intro hc (zHr hX3 hs hk))) (fun hs hk=>(zHq hs hk)))))) _ hs hk
def zmj (nets:(Sl Net)) (drift:(Sl Int)):(Net×Int) :=
  (ztx nets drift (0:Int))
def zmk (nets:(Sl Net)) (drift:(Sl Int)):Bool :=
  (decide ((0≤(0:Int)∧(0:Int) < (nets.len:Int))) &&
 (zoZ nets drift (0:Int)))
theorem zHt (hs:zmk nets drift=true) (hk:K (e62 (zmj nets drift))):z62 (Wk K) [1,1,1] [] ⟨[(0,zS enc_24 2 nets),(1,zS enc_3 1 drift),(4,zp 4 0)],[(4,.box 24 [zi (0:Int),.p (.nils)])],[]⟩:=zbd (by kernel_rfl) (za6 hs fun hc hs=>And.intro hc (zHs hs hk))
def zhz (nets:(Sl Net)) (drift:(Sl Int)) (zts:Bool):(Net×Int) :=
  (cond zts
 ((⟨(0:Int),(⟨0,fun _=>default⟩:(Sl Tie))⟩:Net),(2:Int))
 (zmj nets drift))
def zhA (nets:(Sl Net)) (drift:(Sl Int)) (zts:Bool):Bool :=
  (cond zts
 true
 (zmk nets drift))
theorem zo0 (hs:zhA nets drift zts=true) (hk:K (e62 (zhz nets drift zts))):z62 (Wk K) [1,1,0,1] [] ⟨[(0,zS enc_24 2 nets),(1,zS enc_3 1 drift),(4,zp 4 0),(42,zB zts)],[(4,.box 24 [zi (0:Int),.p (.nils)])],[]⟩:=zbd (by kernel_rfl) (zc hs hk (fun hs hk=>((wk hk (zcw (.agg (zcw (.rfl _) (zcw (.nil _ _) zeB))) (zcw (.one (.rfl _)) zeB))):Wk K [.agg [.int .i64 (0:Int),.nils],.one (.int .i64 (2:Int))])) (fun hs hk=>(zHt hs hk)))
def zty (nets:(Sl Net)) (drift:(Sl Int)):(Net×Int) :=
  (cond ((nets.len : Int) == (0:Int))
 (zhz nets drift true)
 (cond (!(s23 (nets.get 0)))
 (zhz nets drift true)
 (cond ((drift.len : Int) != (nets.get 0).Nodes)
 (zhz nets drift true)
 (zhz nets drift ((drift.get 0) != (0:Int))))))
def ztz (nets:(Sl Net)) (drift:(Sl Int)):Bool :=
  (cond ((nets.len : Int) == (0:Int))
 (zhA nets drift true)
 (decide ((0≤(0:Int)∧(0:Int) < (nets.len:Int))) &&
 (decide ((p23 (nets.get 0)=true)) &&
 (cond (!(s23 (nets.get 0)))
 (zhA nets drift true)
 (decide ((0≤(0:Int)∧(0:Int) < (nets.len:Int))) &&
 (cond ((drift.len : Int) != (nets.get 0).Nodes)
 (zhA nets drift true)
 (decide ((0≤(0:Int)∧(0:Int) < (drift.len:Int))) &&
 (zhA nets drift ((drift.get 0) != (0:Int))))))))))
theorem zHu (hs:ztz nets drift=true) (hk:K (e62 (zty nets drift))):z62 (Wk K) [1,1] [] ⟨[(0,zS enc_24 2 nets),(1,zS enc_3 1 drift),(4,zp 4 0)],[(4,.box 24 [zi (0:Int),.p (.nils)])],[]⟩:=zbd (by kernel_rfl) (zc hs hk (fun hs hk=>(zo0 hs hk)) (fun hs hk=>(za6 hs fun hc hs=>And.intro hc (za6 hs fun hc hs=>And.intro (And.intro (zE zae 4 ((nets.get 0).Ties.get)) hc) (zc hs hk (fun hs hk=>(zo0 hs hk)) (fun hs hk=>(za6 hs fun hc hs=>And.intro hc (zc hs hk (fun hs hk=>(zo0 hs hk)) (fun hs hk=>(za6 hs fun hc hs=>And.intro hc (zo0 hs hk)))))))))))
def s62 (nets:(Sl Net)) (drift:(Sl Int)):(Net×Int) :=
  (cond (decide ((nets.len : Int) > (10:Int)))
 ((⟨(0:Int),(⟨0,fun _=>default⟩:(Sl Tie))⟩:Net),(3:Int))
 (zty nets drift))
def p62 (nets:(Sl Net)) (drift:(Sl Int)):Bool :=
  (cond (decide ((nets.len : Int) > (10:Int)))
 true
 (ztz nets drift))
end
theorem q62 (nets:(Sl Net)) (drift:(Sl Int)) (K:List PA→Prop) (hs:p62 nets drift=true) (hk:K (e62 (s62 nets drift))):vcFun Tryd.prog G62 zHj 62 [.one (.sl nets.len 2 (fun i=>enc_24 (nets.get i))),.one (.sl drift.len 1 (fun i=>enc_3 (drift.get i)))] (Wk K) :=
  zbd (by kernel_rfl) (zc hs hk (fun hs hk=>((wk hk (zcw (.agg (zcw (.rfl _) (zcw (.nil _ _) zeB))) (zcw (.one (.rfl _)) zeB))):Wk K [.agg [.int .i64 (0:Int),.nils],.one (.int .i64 (3:Int))])) (fun hs hk=>(zHu hs hk)))
def zHv : List PA → COut
  | [.one (.sl zdw zii zdx),.one (.sl zdH ziO zdE)]=>.det (IsE enc_24 2 zii zdx∧IsE enc_3 1 ziO zdE∧p62 (⟨zdw,zdA zdx⟩:(Sl Net)) (⟨zdH,zav zdE⟩:(Sl Int))=true) [.agg [.int .i64 (((s62 (⟨zdw,zdA zdx⟩:(Sl Net)) (⟨zdH,zav zdE⟩:(Sl Int))).1).Nodes),.sl (((s62 (⟨zdw,zdA zdx⟩:(Sl Net)) (⟨zdH,zav zdE⟩:(Sl Int))).1).Ties.len) 4 (fun i=>zae (((s62 (⟨zdw,zdA zdx⟩:(Sl Net)) (⟨zdH,zav zdE⟩:(Sl Int))).1).Ties.get i))],.one (.int .i64 ((s62 (⟨zdw,zdA zdx⟩:(Sl Net)) (⟨zdH,zav zdE⟩:(Sl Int))).2))]
  | _=>.no
theorem zJ4:zax Tryd.prog 62:=⟨_,rfl,rfl,by kernel_rfl⟩
theorem zNo:Ok Tryd.prog 62 zHv:=zgf zLK zJ4 fun args K h=>by
  unfold zHv at h
  split at h
  · rename_i zdw zii zdx zdH ziO zdE
    obtain ⟨⟨⟨rfl,zfx,rfl⟩,⟨rfl,zgo,rfl⟩,hs⟩,hk⟩:=h
    try rw [zdB zfx] at hs
    try rw [zdB zfx] at hk
    try rw [zby zgo] at hs
    try rw [zby zgo] at hk
    exact ⟨_,zff zfR _,(fun _ _=>[]),(fun _=>false),zHj,q62 (⟨zdw,zfx⟩:(Sl Net)) (⟨zdH,zgo⟩:(Sl Int)) K hs hk⟩
  · exact h.elim
abbrev T17:Tabs:=((((Tabs.nil.addF 21 zGP).addF 42 zGT).addF 61 zG8).addF 62 zHv)
theorem zLL:TabsOk Tryd.prog T17:=((((TabsOk.nil.addF zNh).addF zNi).addF zNk).addF zNo)
abbrev G17:Ctrs:=csm T17 (fun _ _=>[]) (fun _=>false)
def zHw:Ann:=⟨66,[(0,zK [0,1] []),(1,zK [0,1,27] []),(2,zK [4] []),(3,zK [0,1,5] []),(4,zK [0,1,5,32] []),(5,zK [0,1,5] []),(6,zK [0,1,5,41] []),(7,zK [4] []),(8,zK [0,1,6,7] [6]),(9,zK [6,7,8,9] [6,8]),(10,zK [4] [])],
 [(4,zK [0,1,5] [])],
 [(3,zK [0,1] []),(8,zK [0,1] []),(9,zK [0,1,6,7] [6]),(10,zK [6,7,8,9] [6,8])],
 [],[]⟩
abbrev R17:=Bool
abbrev e17 (r:R17):List PA:=[.one (.bool r)]
@[irreducible] def z17:=ptF Tryd.prog G17 zHw Tryd.f17
def zD1 (nets:(Sl Net)) (drift:(Sl Int)) (iv1:Int):St:=⟨[(0,zS enc_24 2 nets),(1,zS enc_3 1 drift),(5,zI iv1)],[],[]⟩
abbrev zJ5 (K:List PA→Prop) (nets:(Sl Net)) (drift:(Sl Int)) (X:St→Prop) (P:Int→Bool) (S:Int→Bool):Prop:=∀ ⦃iv1:Int⦄,P iv1=true→K (e17 (S iv1))→X (zD1 nets drift iv1)
section
variable {K:List PA→Prop} {nets:(Sl Net)} {drift:(Sl Int)} {iv1:Int} {X1:St→Prop} {P1:Int→Bool} {S1:Int→Bool} {ev3:Int} {zcX:Int} {zcv:(Sl Tie)} {zl8:Nat→List PV} {fv4:Int} {zfM:Int} {zed:(Sl Tie)} {zne:Nat→List PV}
def ztA (ev3:Int) (zcX:Int) (zcv:(Sl Tie)) (fv4:Int) (zfM:Int) (zed:(Sl Tie)):Bool :=
  (cond (ev3 == fv4)
 (cond (s42 (⟨zcX, zcv⟩ : Net) (⟨zfM, zed⟩ : Net))
 true
 false)
 false)
def ztB (ev3:Int) (zcX:Int) (zcv:(Sl Tie)) (fv4:Int) (zfM:Int) (zed:(Sl Tie)):Bool :=
  (cond (ev3 == fv4)
 (decide ((p42 (⟨zcX,zcv⟩:Net) (⟨zfM,zed⟩:Net)=true)) &&
 true)
 true)
theorem zHx (hs:ztB ev3 zcX zcv fv4 zfM zed=true) (hk:K (e17 (ztA ev3 zcX zcv fv4 zfM zed))) (zvV:zne=zg zae zed):z17 K [1,1,1,1,1] [] ⟨[(6,zp 6 0),(7,zI ev3),(8,zp 8 0),(9,zI fv4)],[(6,.box 24 (zm (enc_24 (⟨zcX,zcv⟩:Net)))),(8,.box 24 [zi zfM,.p (.sl zed.len 4 zne)])],[]⟩:=by subst zvV;exact zbd (by kernel_rfl) (zc hs hk (fun hs hk=>(za6 hs fun hc hs=>And.intro (And.intro (zE zae 4 zcv.get) (And.intro (zE zae 4 zed.get) hc)) (zt hk (fun hk=>hk) (fun hk=>hk)))) (fun hs hk=>hk))
def ztC (nets:(Sl Net)) (drift:(Sl Int)) (ev3:Int) (zcX:Int) (zcv:(Sl Tie)):Bool :=
  (ztA ev3 zcX zcv ((s62 nets drift).2) (((s62 nets drift).1).Nodes) (((s62 nets drift).1).Ties))
def ztD (nets:(Sl Net)) (drift:(Sl Int)) (ev3:Int) (zcX:Int) (zcv:(Sl Tie)):Bool :=
  (decide ((p62 nets drift=true)) &&
 (ztB ev3 zcX zcv ((s62 nets drift).2) (((s62 nets drift).1).Nodes) (((s62 nets drift).1).Ties)))
theorem zHy (hs:ztD nets drift ev3 zcX zcv=true) (hk:K (e17 (ztC nets drift ev3 zcX zcv))) (zs4:zl8=zg zae zcv):z17 K [1,1,1,1] [] ⟨[(0,zS enc_24 2 nets),(1,zS enc_3 1 drift),(6,zp 6 0),(7,zI ev3)],[(6,.box 24 [zi zcX,.p (.sl zcv.len 4 zl8)])],[]⟩:=by subst zs4;exact zbd (by kernel_rfl) (za6 hs fun hc hs=>And.intro (And.intro (zE enc_24 2 nets.get) (And.intro (zE enc_3 1 drift.get) hc)) (zHx hs hk rfl))
def zml (nets:(Sl Net)) (drift:(Sl Int)):Bool :=
  (ztC nets drift ((s61 nets drift).2) (((s61 nets drift).1).Nodes) (((s61 nets drift).1).Ties))
def zmm (nets:(Sl Net)) (drift:(Sl Int)):Bool :=
  (decide ((p61 nets drift=true)) &&
 (ztD nets drift ((s61 nets drift).2) (((s61 nets drift).1).Nodes) (((s61 nets drift).1).Ties)))
theorem zHz (hs:zmm nets drift=true) (hk:K (e17 (zml nets drift))):z17 K [1,1,1] [] ⟨[(0,zS enc_24 2 nets),(1,zS enc_3 1 drift)],[],[]⟩:=zbd (by kernel_rfl) (za6 hs fun hc hs=>And.intro (And.intro (zE enc_24 2 nets.get) (And.intro (zE enc_3 1 drift.get) hc)) (zHy hs hk rfl))
def zje (nets:(Sl Net)) (drift:(Sl Int)) (S1:Int→Bool) (iv1:Int):Bool :=
  (cond (decide (iv1 < (nets.len : Int)))
 (cond (decide (((nets.get iv1.toNat).Ties.len : Int) > (210:Int)))
 true
 (S1 (w64 (iv1+(1:Int)))))
 (zml nets drift))
def zjf (nets:(Sl Net)) (drift:(Sl Int)) (P1:Int→Bool) (iv1:Int):Bool :=
  (cond (decide (iv1 < (nets.len : Int)))
 (decide ((0≤iv1∧iv1 < (nets.len:Int))) &&
 (cond (decide (((nets.get iv1.toNat).Ties.len : Int) > (210:Int)))
 true
 (P1 (w64 (iv1+(1:Int))))))
 (zmm nets drift))
def zjg (nets:(Sl Net)) (drift:(Sl Int)):Nat→Int→Bool:=lpO (fun _=>default) (zje nets drift)
def zjh (nets:(Sl Net)) (drift:(Sl Int)):Nat→Int→Bool:=lpO (fun _=>false) (zjf nets drift)
def ztE (nets:(Sl Net)) (drift:(Sl Int)) (iv1:Int):Bool:=zjg nets drift Fuel iv1
def ztF (nets:(Sl Net)) (drift:(Sl Int)) (iv1:Int):Bool:=zjh nets drift Fuel iv1
theorem zHA (hs:ztF nets drift iv1=true) (hk:K (e17 (ztE nets drift iv1))):z17 K [1,1,0,1,0] [] (zD1 nets drift iv1) :=
  zl (fun X=>z17 K [1,1,0,1,0,0] [X]) (by kernel_rfl) fun X1 hX =>
  (show ∀ k, zJ5 K nets drift X1 (zjh nets drift k) (zjg nets drift k) from zhs _ _ (zjf nets drift) (zje nets drift) (zJ5 K nets drift X1)
 (by intro _ hs;exact absurd hs Bool.false_ne_true)
 (by intro P1 S1 hX1 iv1 hs hk;exact hX _ (zbd (by kernel_rfl) (zc hs hk (fun hs hk=>(za6 hs fun hc hs=>And.intro hc (zc hs hk (fun hs hk=>hk) (fun hs hk=>(hX1 hs hk))))) (fun hs hk=>(zHz hs hk)))))) _ hs hk
def zmn (nets:(Sl Net)) (drift:(Sl Int)):Bool :=
  (ztE nets drift (0:Int))
def zmo (nets:(Sl Net)) (drift:(Sl Int)):Bool :=
  (ztF nets drift (0:Int))
theorem zBb (hs:zmo nets drift=true) (hk:K (e17 (zmn nets drift))):z17 K [1,1] [] ⟨[(0,zS enc_24 2 nets),(1,zS enc_3 1 drift)],[],[]⟩:=zbd (by kernel_rfl) (zHA hs hk)
def s17 (nets:(Sl Net)) (drift:(Sl Int)):Bool :=
  (cond (decide ((nets.len : Int) > (5:Int)))
 (cond (decide ((nets.len : Int) ≤ (10:Int)))
 true
 (cond (decide ((nets.len : Int) > (15:Int)))
 true
 (cond (decide ((drift.len : Int) > (50:Int)))
 true
 (zmn nets drift))))
 (cond (decide ((nets.len : Int) > (15:Int)))
 true
 (cond (decide ((drift.len : Int) > (50:Int)))
 true
 (zmn nets drift))))
def p17 (nets:(Sl Net)) (drift:(Sl Int)):Bool :=
  (cond (decide ((nets.len : Int) > (5:Int)))
 (cond (decide ((nets.len : Int) ≤ (10:Int)))
 true
 (cond (decide ((nets.len : Int) > (15:Int)))
 true
 (cond (decide ((drift.len : Int) > (50:Int)))
 true
 (zmo nets drift))))
 (cond (decide ((nets.len : Int) > (15:Int)))
 true
 (cond (decide ((drift.len : Int) > (50:Int)))
 true
 (zmo nets drift))))
end
theorem q17 (nets:(Sl Net)) (drift:(Sl Int)) (K:List PA→Prop) (hs:p17 nets drift=true) (hk:K (e17 (s17 nets drift))):vcFun Tryd.prog G17 zHw 17 [.one (.sl nets.len 2 (fun i=>enc_24 (nets.get i))),.one (.sl drift.len 1 (fun i=>enc_3 (drift.get i)))] K :=
  zbd (by kernel_rfl) (zc hs hk (fun hs hk=>(zc hs hk (fun hs hk=>hk) (fun hs hk=>(zc hs hk (fun hs hk=>hk) (fun hs hk=>(zc hs hk (fun hs hk=>hk) (fun hs hk=>(zBb hs hk)))))))) (fun hs hk=>(zc hs hk (fun hs hk=>hk) (fun hs hk=>(zc hs hk (fun hs hk=>hk) (fun hs hk=>(zBb hs hk)))))))
def zJ6 : List PA → COut
  | [.one (.sl zdw zii zdx),.one (.sl zdH ziO zdE)]=>.det (IsE enc_24 2 zii zdx∧IsE enc_3 1 ziO zdE∧p17 (⟨zdw,zdA zdx⟩:(Sl Net)) (⟨zdH,zav zdE⟩:(Sl Int))=true) [.one (.bool (s17 (⟨zdw,zdA zdx⟩:(Sl Net)) (⟨zdH,zav zdE⟩:(Sl Int))))]
  | _=>.no
theorem zJ7:zax Tryd.prog 17:=⟨_,rfl,rfl,by kernel_rfl⟩
theorem ok17:Ok Tryd.prog 17 zJ6:=zbY zLL zJ7 fun args K h=>by
  unfold zJ6 at h
  split at h
  · rename_i zdw zii zdx zdH ziO zdE
    obtain ⟨⟨⟨rfl,zfx,rfl⟩,⟨rfl,zgo,rfl⟩,hs⟩,hk⟩:=h
    try rw [zdB zfx] at hs
    try rw [zdB zfx] at hk
    try rw [zby zgo] at hs
    try rw [zby zgo] at hk
    exact ⟨(fun _ _=>[]),(fun _=>false),zHw,q17 (⟨zdw,zfx⟩:(Sl Net)) (⟨zdH,zgo⟩:(Sl Int)) K hs hk⟩
  · exact h.elim
end Go.Proofs
namespace Go.Proofs.YtedhjaaikeakoaaDoor
open Go Go.Pm Go.ChangeShapes
set_option maxRecDepth 100000
abbrev laid1 : List (String × DataW Unit) := [("overburden/align.never", Rows.laid_overburden_align_never)]
theorem zD2 : Tryd.prog.globalNamed "overburden/align.never" = some 0 := by kernel_rfl
theorem zJ8:(Tryd.prog.globals[0]?).map (·.type)=some 114:=by kernel_rfl
theorem zJ9:Tryd.prog.cellsOf 114=2:=by kernel_rfl
theorem zMs:Tryd.prog.cellsOf 3=1:=by kernel_rfl
theorem door_met (os:Os) (args:Array Value):laidMetH Tryd.prog laid1 ((World.doorLaid Tryd.prog 400 os).forCall (fun _ _=>0) ⟨#[],args,[]⟩).memory :=
 laidMetH_of_parts3 (fuel:=8) (laidMet_of_run' 8 (by kernel_rfl) (by kernel_rfl)) (by kernel_rfl) (by kernel_rfl)
theorem gl_of {W:World} (h:laidMetH Tryd.prog laid1 W):zeA (H0 W):=by
 rw [MakeChecks.laidMetH_plain _ _ _ (by kernel_rfl)] at h
 obtain ⟨ps,⟨g0,t0,cs0,f0,p0,q0,hg0,ht0,hv0,hd0,_,_⟩,_,_⟩:=h
 obtain rfl:=Option.some.inj (zD2.symm.trans hg0)
 obtain rfl:=Option.some.inj (zJ8.symm.trans ht0)
 obtain ⟨y0,y1,n,hx,hl,h0,h1⟩:=trod_struct2 Tryd.underlying114 hd0
 simp only [Prod.mk.injEq] at hx
 obtain ⟨hx,-⟩:=hx
 simp only [Rows.laid_overburden_align_never,DataW.agg.injEq,List.cons.injEq,and_true] at hx
 obtain ⟨k0,e0,d0,_⟩:=DataW.trod_int Tryd.underlying3 h0
 obtain ⟨k1,e1,d1,_⟩:=DataW.trod_int Tryd.underlying3 h1
 rw [zJ9] at hl
 have e0':cs0.toList.take 1=[.int .i64 k0]:=by
  have:=e0
  rw [show Tryd.prog.cellsOf _=1 from zMs] at this
  simpa using this
 have e1':(cs0.toList.drop 1).take 1=[.int .i64 k1]:=by
  have:=e1
  rw [show Tryd.prog.cellsOf _=1 from zMs] at this
  simpa using this
 have hk0:k0=1000000000000:=by have:=hx.1;rw [d0] at this;injection this with a;injection a with _ a;exact a.symm
 have hk1:k1=0:=by have:=hx.2;rw [d1] at this;injection this with a;injection a with _ a;exact a.symm
 have hC:cs0.toList=[.int .i64 1000000000000,.int .i64 0]:=by
  have h2:cs0.toList=cs0.toList.take 1 ++ (cs0.toList.drop 1).take 1:=by
   rw [← List.take_add,List.take_of_length_le (by omega)]
  rw [h2,e0',e1',hk0,hk1];rfl
 intro k l hk
 unfold World.var? at hv0
 rw [zD2] at hv0
 simp only [Option.bind_some] at hv0
 cases k with
 | succ k=>cases hk
 | zero =>
  obtain rfl:[PV.int .i64 1000000000000,.int .i64 0]=l:=Option.some.inj hk
  cases eo:W.heap[0]? with
  | none=>rw [eo] at hv0;cases hv0
  | some o =>
   rw [eo] at hv0
   cases o with
   | cells C ty fr =>
    simp only [Option.some.injEq] at hv0
    subst hv0
    exact ⟨_,ty,fr,by unfold H0;rw [eo];rfl,by rw [hC];exact ⟨.int _ _,.int _ _,trivial⟩⟩
   | _=>cases hv0
end Go.Proofs.YtedhjaaikeakoaaDoor
namespace Go.Proofs.YtedhjaaikeakoaaDoor
set_option maxRecDepth 100000
def dc : Nat → Nat → List Char
  | 0,_=>[]
  | k+1,n=>Char.ofNat (n % 128) :: dc k (n / 128)
def ioR:List (List Char):=[dc 2 14945,dc 38 107265865644741724912243125268531249640326942553430557205577479631290979090791279,dc 38 108293077817484906734254386447616441263814988321737617043972465573863363972791151,dc 38 93370879016013017278412803021783510280543711028000410236402271261457424383048559,dc 38 107258694022858408970435192345127867927486736974969802526482043864463718682819439,dc 39 13746719959472648153406769131206406626558510298776447130317981093147086104311724911,dc 38 107266209769642888316488957616301258915172789321380384129051881327065490379078511,dc 39 13738338888634744287462113483281891133786406809494667074737303271467843731645365103,dc 38 107308724040215521434011850380931925905298338556088488294726402895071789331348335,dc 43 3689337697451499537899652006011379275272339788637320245734945509069109267079825879406836591,dc 38 106339254617564648824502995819756623291246721172574690728430612464564447869500271,dc 38 107330772524736890892060720350443696785457349727637599143704802418857719933533039,dc 38 107266380701743786104986999119182321999123657451770743386930499759721679104342895,dc 38 107308728471136676073553801914045189487148679029700448428114571309412341010496367,dc 37 837954515553292543489687687552621780150771894250034810644180755742461368302447,dc 38 107287017468262091873827311208814906259154281073825133055543027267698112966785903,dc 38 107374028509112486977837548216825331243033985081330090052312008930171490580134767,dc 38 107265533895345759970156929786145176805363222797160045994169685653949991330872175]
def ioN:List Char:=dc 748 14110378018767575964226655308004126793045208087310171201555892242252648960690434620806224759478349222793457564936136773140206884019406577404308477398112682127111429688458091804136369451876026010391452929509304596612007749348823331848074321521876163367611471766311661795807971626777430789606670518996161301806853738256348343737238826384171739901612950230839336053519876648582653265928992265003442337249315020340640568624042171724319570015876863120612063908539839480788963015814409324055605425425582212723687691771037045010066064867754736841809752569547023397197010564985861497252960727260554984899190782686002829257997185443421456271698218584945985148990383891392482548262956659989814614329905290488435125286744085629934720469444029598243369313538259143807170350259387234145666063103371643809341342441092158617040725699310351084585854817129011753246127748964030413854525633190715875548631480060648955255476518703717934493416584654287151545453027212072361023366870608725576042669368667333719675724995494706645777621137060304017521484702088503639607947747215026989263530504204523251982333933107210391579300884546305432560571086131943194743723205005815139772394062686780566686930384812217785365992657908782936586832589627342388339882126362151219006413773645814561079952905486963953952063552645778936398310246717058410743450648594152841163565946295251582585294350653230459132165827590128826417871324965536217148578987470925657879977171716100377657863588641203253643922875913460814715430695689192746980757875303892414899783421563436119681070640173712093473782554642421452415184974056
theorem ioS:Tryd.prog.initOrder=String.ofList ioN:=by kernel_rfl
theorem ioL:Tryd.prog.initOrder.toList=ioN:=(congrArg String.toList ioS).trans String.toList_ofList
theorem ioW:wordsSigns Tryd.prog.initOrder.toList=(dc 7 509754063237352) :: (dc 64 583581952082889979719035725534559484815115086455805852996510235646750355970935781905203483690318741732481452225105900421668580921071669) :: (dc 3 1915619) :: ioR:=(congrArg wordsSigns ioL).trans (by kernel_rfl)
theorem ioB:behindMainWord (wordsSigns Tryd.prog.initOrder.toList)=(dc 3 1915619) :: ioR:=(congrArg behindMainWord ioW).trans (by kernel_rfl)
theorem zqG {P : Program} {l : List (List Char)} (h : behindMainWord (wordsSigns P.initOrder.toList) = l) : P.headLifts = (if (stripLifts liftWords l).2.head? == some "cut".toList then (stripLifts liftWords l).1 else []) := by subst h; rfl
theorem zHB {P:Program} {rest:List (List Char)} (h:behindMainWord (wordsSigns P.initOrder.toList)=(dc 3 1915619) :: rest):P.make=some .cut:=by unfold Program.make;rw [h];rfl
theorem zC1 {P:Program} {rest:List (List Char)} (h:behindMainWord (wordsSigns P.initOrder.toList)=(dc 3 1915619) :: rest) (hl:P.headLifts=[]):P.liftsFinal=false:=by unfold Program.liftsFinal;rw [h,hl];rfl
theorem zHC {P : Program} {a b : List Char} {rest : List (List Char)} (h : wordsSigns P.initOrder.toList = a :: b :: rest) (hs : isSumSigns b = true) (ha : (a == "harness".toList) = true) : P.mainIs = some (true, b) := by unfold Program.mainIs; rw [h]; simp only [hs, ha]; rfl
theorem zC2 {P : Program} {c : List Char} {rest : List (List Char)} (h : behindMainWord (wordsSigns P.initOrder.toList) = c :: rest) (hst : (stripLifts liftWords (c :: rest)).2.head? = some "cut".toList)
    (hs1:(stripLifts liftWords (c :: rest)).1=[]) (hlay:P.laysLater=false) (hb:P.bearsReflect=false) (hd:P.doorFits []=true):P.mayEnter=true:=by
  unfold Program.mayEnter
  rw [h]
  simp [hst,hs1,hlay,hb,hd]
theorem ioH:Tryd.prog.headLifts=[]:=(zqG ioB).trans (by kernel_rfl)
theorem ioK:Tryd.prog.make=some .cut:=zHB ioB
theorem ioF:Tryd.prog.liftsFinal=false:=zC1 ioB ioH
theorem ioM : Tryd.prog.mainIs = some (true, "5097d02014b7f9bdc457588f16a61179f96daee4a085c0a2c5462d863db43dbf".toList) := (zHC ioW (by kernel_rfl) (by kernel_rfl)).trans (by kernel_rfl)
theorem ioE:Tryd.prog.mayEnter=true:=zC2 ioB (by kernel_rfl) (by kernel_rfl) (by kernel_rfl) (by kernel_rfl) (by kernel_rfl)
end Go.Proofs.YtedhjaaikeakoaaDoor
namespace Go.Pm
open Go

theorem zcd {x:Int} (h1 : -9223372036854775808≤x) (h2:x≤9223372036854775807):w64 x=x:=by
 have hb:IntKind.i64.bits=64:=rfl
 have hs:IntKind.i64.signed=true:=rfl
 unfold w64 IntKind.wrap
 rw [hb,hs]
 simp only [Bool.true_and,decide_eq_true_eq]
 split <;> omega
def zMt (c : Nat → Bool) : Nat → Nat → Nat
  | 0,i=>i
  | m+1,i=>match c i with | true=>i | false=>zMt c m (i+1)
def fst (c:Nat→Bool) (n:Nat):Nat:=zMt c n 0
theorem zo1 {good : Nat → Bool} {fin : Bool} {n : Nat} {lpS lpP : Nat → Int → Bool}
    (hS:∀ (k i:Nat),i < n→lpS (k+1) (i:Int)=cond (good i) (lpS k (w64 ((i:Int)+(1:Int)))) false)
    (hE:∀ k,lpS (k+1) (n:Int)=fin)
    (hP:∀ (k i:Nat),i < n→lpP (k+1) (i:Int)=cond (good i) (lpP k (w64 ((i:Int)+(1:Int)))) true)
    (hPE:∀ k,lpP (k+1) (n:Int)=true) (hn:n≤9223372036854775807) :
    lpP Fuel 0=true∧(lpS Fuel 0=true↔(∀ i,i < n→good i=true)∧fin=true):=by
  have key:∀ (m k i:Nat),i+m=n→m < k→lpP k (i:Int)=true∧(lpS k (i:Int)=true↔(∀ j,i≤j→j < n→good j=true)∧fin=true):=by
    intro m
    induction m with
    | zero =>
      intro k i hi hk
      obtain ⟨k,rfl⟩:∃ k',k=k'+1:=⟨k - 1,by omega⟩
      have:i=n:=by omega
      subst this
      rw [hE,hPE]
      exact ⟨rfl,⟨fun h=>⟨fun j h1 h2=>absurd h2 (by omega),h⟩,fun h=>h.2⟩⟩
    | succ m ih =>
      intro k i hi hk
      obtain ⟨k,rfl⟩:∃ k',k=k'+1:=⟨k - 1,by omega⟩
      rw [hS k i (by omega),hP k i (by omega)]
      have e3:w64 ((i:Int)+1)=((i+1:Nat):Int):=by rw [zcd (by omega) (by omega)];omega
      rw [e3]
      obtain ⟨h1,h2⟩:=ih k (i+1) (by omega) (by omega)
      cases hg:good i
      · refine ⟨rfl, ⟨fun h => (by cases h), fun h => ?_⟩⟩
        have:=h.1 i (Nat.le_refl _) (by omega)
        rw [hg] at this;cases this
      · refine ⟨h1, h2.trans ⟨fun h => ⟨fun j hj1 hj2 => ?_, h.2⟩, fun h => ⟨fun j hj1 hj2 => h.1 j (by omega) hj2, h.2⟩⟩⟩
        by_cases hji:j=i
        · rw [hji];exact hg
        · exact h.1 j (by omega) hj2
  have:=key n Fuel 0 (by omega) (by simp only [Fuel];omega)
  simpa using this

end Go.Pm
namespace Go.Pm
open Go
theorem zo2 {i n:Nat} (h:i < n) (hn:n≤9223372036854775807):w64 ((i:Int)+(1:Int))=((i+1:Nat):Int):=by
 rw [zcd (by omega) (by omega)];omega
theorem zmp {β : Type} {good : Nat → Bool} {bad fin : β} {finP : Bool} {n : Nat} {lpS : Nat → Int → β} {lpP : Nat → Int → Bool}
    (hS:∀ (k i:Nat),i < n→lpS (k+1) (i:Int)=cond (good i) (lpS k (w64 ((i:Int)+(1:Int)))) bad)
    (hE:∀ k,lpS (k+1) (n:Int)=fin)
    (hP:∀ (k i:Nat),i < n→lpP (k+1) (i:Int)=cond (good i) (lpP k (w64 ((i:Int)+(1:Int)))) true)
    (hPE:∀ k,lpP (k+1) (n:Int)=finP) (hn:n≤9223372036854775807) :
    ((∀ i,i < n→good i=true)→lpP Fuel 0=finP∧lpS Fuel 0=fin)∧((¬ ∀ i,i < n→good i=true)→lpP Fuel 0=true∧lpS Fuel 0=bad):=by
  have key:∀ (m k i:Nat),i+m=n→m < k→((∀ j,i≤j→j < n→good j=true)→lpP k (i:Int)=finP∧lpS k (i:Int)=fin)∧((¬ ∀ j,i≤j→j < n→good j=true)→lpP k (i:Int)=true∧lpS k (i:Int)=bad):=by
    intro m
    induction m with
    | zero =>
      intro k i hi hk
      obtain ⟨k,rfl⟩:∃ k',k=k'+1:=⟨k - 1,by omega⟩
      have:i=n:=by omega
      subst this
      rw [hE,hPE]
      exact ⟨fun _=>⟨rfl,rfl⟩,fun h=>absurd (fun j h1 h2=>absurd h2 (by omega)) h⟩
    | succ m ih =>
      intro k i hi hk
      obtain ⟨k,rfl⟩:∃ k',k=k'+1:=⟨k - 1,by omega⟩
      rw [hS k i (by omega),hP k i (by omega),zo2 (n:=n) (by omega) hn]
      obtain ⟨h1,h2⟩:=ih k (i+1) (by omega) (by omega)
      cases hg:good i
      · refine ⟨fun h => ?_, fun _ => ⟨rfl, rfl⟩⟩
        have:=h i (Nat.le_refl _) (by omega)
        rw [hg] at this;cases this
      · refine ⟨fun h => h1 fun j a b => h j (by omega) b, fun h => h2 fun h' => h fun j a b => ?_⟩
        by_cases hji:j=i
        · rw [hji];exact hg
        · exact h' j (by omega) b
  have:=key n Fuel 0 (by omega) (by simp only [Fuel];omega)
  simpa using this
def zeE {σ : Type} (step : Nat → σ → σ) : Nat → Nat → σ → σ
  | 0,_,s=>s
  | m+1,i,s=>zeE step m (i+1) (step i s)
theorem zex {σ β : Type} {step : Nat → σ → σ} {E : σ → β} {EP : σ → Bool} {Inv : Nat → σ → Prop} {a n : Nat} {lpS : Nat → σ → Int → β} {lpP : Nat → σ → Int → Bool}
    (hS:∀ (k i:Nat) (s:σ),a≤i→i < n→Inv i s→lpS (k+1) s (i:Int)=lpS k (step i s) (w64 ((i:Int)+(1:Int))))
    (hE:∀ k s,lpS (k+1) s (n:Int)=E s)
    (hP:∀ (k i:Nat) (s:σ),a≤i→i < n→Inv i s→lpP (k+1) s (i:Int)=lpP k (step i s) (w64 ((i:Int)+(1:Int))))
    (hPE:∀ k s,lpP (k+1) s (n:Int)=EP s)
    (hI:∀ i s,a≤i→i < n→Inv i s→Inv (i+1) (step i s)) (ha:a≤n) (hn:n≤9223372036854775807) (s:σ) (h0:Inv a s) :
    lpP Fuel s (a:Int)=EP (zeE step (n - a) a s)∧lpS Fuel s (a:Int)=E (zeE step (n - a) a s):=by
  have key:∀ (m k i:Nat) (s:σ),a≤i→i+m=n→m < k→Inv i s→lpP k s (i:Int)=EP (zeE step m i s)∧lpS k s (i:Int)=E (zeE step m i s):=by
    intro m
    induction m with
    | zero =>
      intro k i s h1 hi hk _
      obtain ⟨k,rfl⟩:∃ k',k=k'+1:=⟨k - 1,by omega⟩
      have:i=n:=by omega
      subst this
      rw [hE,hPE]
      exact ⟨rfl,rfl⟩
    | succ m ih =>
      intro k i s h1 hi hk hs
      obtain ⟨k,rfl⟩:∃ k',k=k'+1:=⟨k - 1,by omega⟩
      rw [hS k i s h1 (by omega) hs,hP k i s h1 (by omega) hs,zo2 (n:=n) (by omega) hn]
      exact ih k (i+1) (step i s) (by omega) (by omega) (by omega) (hI i s h1 (by omega) hs)
  exact key (n - a) Fuel a s (Nat.le_refl _) (by omega) (by simp only [Fuel];omega) h0
end Go.Pm
namespace Go.Proofs
open Go Go.Pm
set_option maxRecDepth 100000
theorem znf (n a b:Int):s81 n a b=decide (a≤n∧n≤b):=by
 unfold s81
 by_cases h:a≤n
 ·rw [decide_eq_true (show n ≥ a from h),cond_true];exact decide_eq_decide.2 ⟨fun k=>⟨h,k⟩,fun k=>k.2⟩
 ·rw [decide_eq_false (show ¬ n ≥ a from h),cond_false];exact (decide_eq_false (fun k=>h k.1)).symm
theorem zng (n a b:Int):s72 n a b=decide (a≤n∧n≤b):=znf n a b
theorem zBc (n:Net) (hn:n.Ties.len≤9223372036854775807):p67 n=true∧(s67 n=true↔(∀ i,i < n.Ties.len→s78 (n.Ties.get i) n.Nodes=true)∧(1≤n.Nodes∧n.Nodes≤40)∧n.Ties.len≤200):=by
  have := zo1 (good := fun i => s78 (n.Ties.get i) n.Nodes) (fin := cond (s81 n.Nodes (1:Int) (40:Int)) (decide ((n.Ties.len : Int) ≤ (200:Int))) false) (n := n.Ties.len) (lpS := ziH n) (lpP := ziI n)
    (fun k i hi=>by
      show ziF n (ziH n k) (i:Int)=_
      generalize ziH n k=S
      unfold ziF zru
      rw [decide_eq_true (show (i:Int) < (n.Ties.len:Int) by omega),cond_true,Int.toNat_natCast]
      cases s78 (n.Ties.get i) n.Nodes <;> rfl)
    (fun k=>by
      show ziF n (ziH n k) (n.Ties.len:Int)=_
      unfold ziF
      rw [decide_eq_false (show ¬ (n.Ties.len:Int) < (n.Ties.len:Int) by omega),cond_false])
    (fun k i hi=>by
      show ziG n (ziI n k) (i:Int)=_
      generalize ziI n k=S
      unfold ziG zrv
      rw [decide_eq_true (show (i:Int) < (n.Ties.len:Int) by omega),cond_true,Int.toNat_natCast,decide_eq_true (show 0≤(i:Int)∧(i:Int) < (n.Ties.len:Int) by omega),Bool.true_and]
      cases s78 (n.Ties.get i) n.Nodes <;> rfl)
    (fun k=>by
      show ziG n (ziI n k) (n.Ties.len:Int)=_
      unfold ziG
      rw [decide_eq_false (show ¬ (n.Ties.len:Int) < (n.Ties.len:Int) by omega),cond_false])
    hn
  refine ⟨this.1,this.2.trans ?_⟩
  rw [znf]
  by_cases h:1≤n.Nodes∧n.Nodes≤40
  · rw [decide_eq_true h,cond_true,decide_eq_true_eq];exact ⟨fun k=>⟨k.1,h,by omega⟩,fun k=>⟨k.1,by omega⟩⟩
  · rw [decide_eq_false h,cond_false];exact ⟨fun k=>absurd k.2 (by decide),fun k=>absurd k.2.1 h⟩
end Go.Proofs
namespace Go.Proofs
open Go Go.Pm
set_option maxRecDepth 100000
set_option linter.unusedVariables false
attribute [local irreducible] Go.Pm.vcFun Go.Pm.vc Go.Pm.vcIter
section
variable {K:List PA→Prop} {t:Tie} {values:(Sl Int)}
end
section
variable {K:List PA→Prop} {n:Net} {values:(Sl Int)} {iv1:Int} {X1:St→Prop} {P1:Int→Bool} {S1:Int→Bool} {iv2:Int} {zLM:Bool}
end
section
variable {K:List PA→Prop} {n:Net} {values:(Sl Int)} {zj5:Bool} {iv2:Int} {X2:St→Prop} {P2:Int→Bool} {S2:Int→Bool} {iv3:Int} {zNp:Bool}
end
section
variable {K:List PA→Prop} {n:Net} {values:(Sl Int)} {zNq:Bool} {zLM:Int} {X2:St→Prop} {P2:Int→Bool} {S2:Int→Bool} {zNr:Int} {zNs:Bool} {zNt:Int} {X5:St→Prop} {P5:Int→Bool} {S5:Int→Bool}
end
section
variable {K:List PA→Prop} {n:Net}
end
section
variable {K:List PA→Prop} {n:Net} {ties:Int}
end
end Go.Proofs
namespace Go.Proofs
open Go Go.Pm
set_option maxRecDepth 100000
set_option linter.unusedVariables false
theorem dgt (x y:Int):decide (x > y) = !decide (x≤y):=by
 by_cases h:x > y
 ·rw [decide_eq_true h,decide_eq_false (show ¬ x≤y by omega)];rfl
 ·rw [decide_eq_false h,decide_eq_true (show x≤y by omega)];rfl
theorem zD3 (nodes:Int) (t:Tie):s36 nodes t=s78 t nodes:=by
 unfold s36 zi8 ztk s78 zk7 zk6
 simp only [zng,znf,bne,dgt]
 generalize decide (0≤t.From∧t.From≤w64 (nodes - (1:Int)))=a
 generalize decide (0≤t.To∧t.To≤w64 (nodes - (1:Int)))=b
 generalize (t.From == t.To)=c
 generalize (t.Low == (-1000000000000:Int))=d
 generalize (t.High == (1000000000000:Int))=e
 generalize decide (-1000000000≤t.Low∧t.Low≤1000000000)=f
 generalize decide (-1000000000≤t.High∧t.High≤1000000000)=g
 generalize decide (t.Low≤t.High)=h
 cases a <;> cases b <;> cases c <;> cases d <;> cases e <;> cases f <;> cases g <;> cases h <;> rfl
structure TieOk (t : Tie) (nodes : Int) : Prop where
  f0:0≤t.From
  f1:t.From < nodes
  t0:0≤t.To
  t1:t.To < nodes
  ne:t.From ≠ t.To
  lo:t.Low = -1000000000000∨(-1000000000≤t.Low∧t.Low≤1000000000)
  hi:t.High=1000000000000∨(-1000000000≤t.High∧t.High≤1000000000)
  le:t.Low≤t.High
theorem zBd (t:Tie) (nodes:Int) (h1:1≤nodes) (h2:nodes≤40):s78 t nodes=true↔TieOk t nodes:=by
 have e:s78 t nodes=(decide (0≤t.From∧t.From < nodes) && (decide (0≤t.To∧t.To < nodes) && (!(t.From == t.To) && (((t.Low == (-1000000000000:Int)) || decide (-1000000000≤t.Low∧t.Low≤1000000000)) && (((t.High == (1000000000000:Int)) || decide (-1000000000≤t.High∧t.High≤1000000000)) && decide (t.Low≤t.High)))))):=by
  unfold s78 zk7 zk6
  rw [zcd (x:=nodes - 1) (by omega) (by omega)]
  simp only [znf]
  rw [decide_eq_decide.2 (show (0≤t.From∧t.From≤nodes - 1)↔(0≤t.From∧t.From < nodes) by omega),decide_eq_decide.2 (show (0≤t.To∧t.To≤nodes - 1)↔(0≤t.To∧t.To < nodes) by omega)]
  simp only [bne]
  generalize decide (0≤t.From∧t.From < nodes)=a
  generalize decide (0≤t.To∧t.To < nodes)=b
  generalize (t.From == t.To)=c
  generalize (t.Low == (-1000000000000:Int))=d
  generalize (t.High == (1000000000000:Int))=e
  generalize decide (-1000000000≤t.Low∧t.Low≤1000000000)=f
  generalize decide (-1000000000≤t.High∧t.High≤1000000000)=g
  generalize decide (t.Low≤t.High)=h
  cases a <;> cases b <;> cases c <;> cases d <;> cases e <;> cases f <;> cases g <;> cases h <;> rfl
 rw [e]
 simp only [Bool.and_eq_true,Bool.or_eq_true,decide_eq_true_eq,Bool.not_eq_true',beq_eq_false_iff_ne,beq_iff_eq]
 constructor
 ·rintro ⟨⟨a,b⟩,⟨c,d⟩,e,f,g,h⟩;exact ⟨a,b,c,d,e,f,g,h⟩
 ·rintro ⟨a,b,c,d,e,f,g,h⟩;exact ⟨⟨a,b⟩,⟨c,d⟩,e,f,g,h⟩
structure NetOk (n : Net) : Prop where
  n1:1≤n.Nodes
  n40:n.Nodes≤40
  len:n.Ties.len≤200
  tie:∀ i,i < n.Ties.len→TieOk (n.Ties.get i) n.Nodes
theorem zBe (n:Net) (hn:n.Ties.len≤9223372036854775807):p67 n=true∧(s67 n=true↔NetOk n):=by
 obtain ⟨h1,h2⟩:=zBc n hn
 refine ⟨h1,h2.trans ?_⟩
 constructor
 ·rintro ⟨a,⟨b,c⟩,d⟩;exact ⟨b,c,by omega,fun i hi=>(zBd _ _ b c).1 (a i hi)⟩
 ·rintro ⟨b,c,d,a⟩;exact ⟨fun i hi=>(zBd _ _ b c).2 (a i hi),⟨b,c⟩,by omega⟩
theorem zBf (n:Net) (hn:n.Ties.len≤9223372036854775807):p23 n=true∧s23 n=s67 n:=by
  have hl := zo1 (good := fun i => s36 n.Nodes (n.Ties.get i)) (fin := true) (n := n.Ties.len) (lpS := zhw n) (lpP := zjb n)
    (fun k i hi=>by
      show zi9 n (zhw n k) (i:Int)=_
      generalize zhw n k=S
      unfold zi9 ztm
      rw [decide_eq_true (show (i:Int) < (n.Ties.len:Int) by omega),cond_true,Int.toNat_natCast]
      cases s36 n.Nodes (n.Ties.get i) <;> rfl)
    (fun k=>by
      show zi9 n (zhw n k) (n.Ties.len:Int)=_
      unfold zi9
      rw [decide_eq_false (show ¬ (n.Ties.len:Int) < (n.Ties.len:Int) by omega),cond_false])
    (fun k i hi=>by
      show zja n (zjb n k) (i:Int)=_
      generalize zjb n k=S
      unfold zja ztn
      rw [decide_eq_true (show (i:Int) < (n.Ties.len:Int) by omega),cond_true,Int.toNat_natCast,decide_eq_true (show 0≤(i:Int)∧(i:Int) < (n.Ties.len:Int) by omega),Bool.true_and]
      cases s36 n.Nodes (n.Ties.get i) <;> rfl)
    (fun k=>by
      show zja n (zjb n k) (n.Ties.len:Int)=_
      unfold zja
      rw [decide_eq_false (show ¬ (n.Ties.len:Int) < (n.Ties.len:Int) by omega),cond_false])
    hn
  obtain ⟨h1,h2⟩:=zBc n hn
  unfold p23 s23 zoK zoJ ztr ztq ztp zto
  rw [hl.1,zng,dgt]
  refine ⟨by cases decide (1≤n.Nodes∧n.Nodes≤40) <;> cases decide ((n.Ties.len:Int)≤200) <;> rfl,?_⟩
  have h3:=hl.2
  have h4:zhw n Fuel 0=true↔∀ i,i < n.Ties.len→s78 (n.Ties.get i) n.Nodes=true:=h3.trans ⟨fun h i hi=>by rw [← zD3];exact h.1 i hi,fun h=>⟨fun i hi=>by rw [zD3];exact h i hi,rfl⟩⟩
  rw [Bool.eq_iff_iff,h2]
  by_cases a:1≤n.Nodes∧n.Nodes≤40
  · rw [decide_eq_true a]
    by_cases b:(n.Ties.len:Int)≤200
    · rw [decide_eq_true b];exact h4.trans ⟨fun h=>⟨h,a,by omega⟩,fun h=>h.1⟩
    · rw [decide_eq_false b];exact ⟨fun h=>absurd h Bool.false_ne_true,fun h=>absurd h.2.2 (by omega)⟩
  · rw [decide_eq_false a];exact ⟨fun h=>absurd h Bool.false_ne_true,fun h=>absurd h.2.1 a⟩
structure ValOk (n : Net) (v : Sl Int) : Prop where
  len:(v.len:Int)=n.Nodes
  zero:v.get 0=0
  b:∀ i,i < v.len→-1000000000000≤v.get i∧v.get i≤1000000000000
def Keep (t:Tie) (v:Sl Int):Prop:=(t.Low = -1000000000000∨t.Low≤v.get t.To.toNat - v.get t.From.toNat)∧(t.High=1000000000000∨v.get t.To.toNat - v.get t.From.toNat≤t.High)
structure AgOk (n : Net) (v : Sl Int) : Prop where
  val:ValOk n v
  keep:∀ i,i < n.Ties.len→Keep (n.Ties.get i) v
end Go.Proofs
namespace Go.Pm
structure Ed where
  u:Nat
  v:Nat
  w:Int
def wt : List Ed → Int
  | []=>0
  | e :: l=>e.w+wt l
def zKr (E : List Ed) : Nat → List Ed → Nat → Prop
  | a,[],b=>a=b
  | a,e :: l,b=>e∈E∧e.u=a∧zKr E e.v l b
abbrev zvW:=Nat→Option Int
def zNu (d:zvW) (v:Nat) (x:Int):zvW:=fun j=>if j=v then some x else d j
def ltO (x : Int) : Option Int → Bool
  | none=>true
  | some y=>decide (x < y)
def rlF (s:zvW×Bool) (e:Ed):zvW×Bool :=
 match s.1 e.u with
 | none=>s
 | some x=>cond (ltO (x+e.w) (s.1 e.v)) (zNu s.1 e.v (x+e.w),true) s
def leO (a b:Option Int):Prop:=∀ y,b=some y→∃ x,a=some x∧x≤y
def rnd (E:List Ed) (d:zvW):zvW:=(E.foldl rlF (d,false)).1
def rds (E : List Ed) : Nat → zvW → zvW
  | 0,d=>d
  | k+1,d=>rds E k (rnd E d)
def nodes (a:Nat) (c:List Ed):List Nat:=a :: c.map Ed.v
structure Att (E : List Ed) (Src : Nat → Prop) (d : zvW) (v : Nat) (x : Int) (a : Nat) (c : List Ed) : Prop where
  src:Src a
  ch:zKr E a c v
  wt:x=wt c
  nd:(nodes a c).Nodup
  pre:∀ c1 c2 m,c=c1 ++ c2→zKr E a c1 m→leO (d m) (some (Go.Pm.wt c1))
def Inv (E:List Ed) (Src:Nat→Prop) (d:zvW):Prop:=∀ v x,d v=some x→∃ a c,Att E Src d v x a c
structure Start (Src : Nat → Prop) (d : zvW) : Prop where
  only:∀ v x,d v=Option.some x→Src v∧x=0
  src:∀ v,Src v→d v=Option.some 0
end Go.Pm
namespace Go.Pm
def edM (e:Ed):Ed:=⟨e.u,e.v,e.w * 1048576+1⟩
def edR (e:Ed):Ed:=⟨e.v,e.u,e.w⟩
def zNv : Option Int → Int × Int
  | none=>((1000000000000:Int),(0:Int))
  | some x=>(x / 1048576,x % 1048576)
def zNw (s:Nat):zvW:=fun v=>if v=s then some 0 else none
structure EdOk (E : List Ed) (n : Nat) : Prop where
  lt:∀ e∈E,e.u < n∧e.v < n
  w:∀ e∈E,-1000000000≤e.w∧e.w≤1000000000
  n1:1≤n
  n40:n≤40
theorem EdOk.R {E:List Ed} {n:Nat} (h:EdOk E n):EdOk (E.map edR) n :=
  ⟨fun e he=>(by obtain ⟨f,h1,rfl⟩:=List.mem_map.1 he;exact ⟨(h.lt f h1).2,(h.lt f h1).1⟩),
   fun e he=>(by obtain ⟨f,h1,rfl⟩:=List.mem_map.1 he;exact h.w f h1),h.n1,h.n40⟩
structure Ent (E : List Ed) (n s v : Nat) (x L U : Int) (c : List Ed) : Prop where
  ch:zKr E s c v
  x:x=L * 1048576+U
  L:L=wt c
  U:U=c.length
  len:c.length < n
def dst (E:List Ed) (n s:Nat):zvW:=rds (E.map edM) (n - 1) (zNw s)
def zNx (o:Option Int):Int:=(zNv o).1
end Go.Pm
namespace Go.Pm
end Go.Pm
