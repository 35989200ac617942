/- Part 6 of what the proof rests on: a machine that runs functions of the program on pure values, proved sound; the functions that the law reaches, and what they compute. -/
import Derived.Test.YtedhjaaikeakoaaDoorQ5
import Derived.Test.YtedhjaaikeakoaaDoorProg
import Derived.Tactics
import Derived.Tactics2
import Derived.Recover
import Derived.RecoverIn
import Derived.TacticsInMore
import Derived.Test.YtedhjaaikeakoaaDoorTie
import Derived.ProofKit
import Derived.LaidMore
import Derived.OpenShut
import Derived.Stop.Joined
import Derived.Test.YtedhjaaikeakoaaDoorCards
import Derived.WalkKit
set_option linter.all false
namespace Go.Pm
open Go Go.Proofs
set_option maxRecDepth 100000
theorem zJm:∀ caps:Array Value,caps.size=2→zmR Tryd.prog { target:=.fn (.func 68) caps,args:=#[] }:=fun caps hc=>by
 match caps,hc with
 | ⟨[x,y]⟩,_ =>
 refine ⟨.func 68,#[x,y],68,#[x,y],rfl,fun w=>?_,fun n w=>?_⟩
 ·have h : zax Tryd.prog 68 := ⟨_, rfl, rfl, by kernel_rfl⟩
  show (callFunc 68 (#[] ++ #[x,y])).run Tryd.prog w=_
  exact zcx h
 have key:CallsDIn { fn:=fun _=>True,depth:=none,alive:=false,round:=none } n Tryd.prog 68 #[x,y] .returning w fun e u' w'=>e=.returned (.tuple #[])∧u'=.returning∧w'=w:=by
  refine callsDIn_of_wpSIn Tryd.func68 rfl trivial fun c₀ cs hu=>?_
  apply wpSIn_seq
  apply wpSIn_region
  simp [wpOpsSIn,go_sem,recoverD,hu,Tryd.ntmps68,Exit.thenS]
  apply wpSIn_seq
  apply wpSIn_region
  simp [wpOpsSIn,go_sem,recoverD,hu,Tryd.ntmps68,Exit.thenS]
  refine wpSIn_cond (t:=false) (by simp [Act.eval,Array.replicate]) ?_
  simp only [Bool.false_eq_true,if_false]
  refine wpSIn_of_wpIn rfl (wpIn_skip ?_)
  cases c₀
  simp_all [bodyPostS,results,Tryd.results68]
 exact key.mono fun e u' w' h=>⟨⟨_,h.1⟩,h.2⟩
end Go.Pm
namespace Go.Proofs
open Go Go.Pm
set_option maxRecDepth 100000
set_option linter.unusedVariables false
attribute [local irreducible] Go.Pm.vcFun Go.Pm.vc Go.Pm.vcIter
abbrev T22:Tabs:=(((Tabs.nil.addF 67 zva).addM 69 zJh).addF 70 zFx)
theorem zLQ:TabsOk Tryd.prog T22:=(((TabsOk.nil.addF zKZ).addM zNK).addF zNM)
abbrev G22:Ctrs:=csm T22 (fun _ _=>[]) (fun l=>Nat.beq l 12)
def zFy:Ann:=⟨29,[(0,zK [1,2,3] [1,2,3]),(1,zK [1,2,3,9] [1,2,3]),(2,zK [2,3] [2,3]),(3,zK [1,2,3] [1,2,3]),(4,zK [2,3,4] [2,3,12,14]),(5,zK [2,3,4,15] [2,3,12,14]),(6,zK [2,3,4,15,16] [2,3,12,14]),(7,zK [2,3,4,5,15] [2,3,12,14]),(8,zK [2,3,4,6,15] [2,3,12,14]),(9,zK [2,3,4,6,15,23] [2,3,12,14]),(10,zK [2,3] [2,3]),(11,zK [2,3,4,15] [2,3,12,14])],
 [(6,zK [2,3,4,15] [2,3,12,14])],
 [],
 [],[]⟩
abbrev R22:=((Sl Int)×Int)
abbrev e22 (r:R22):List PA:=[.one (.sl r.1.len 1 (fun i=>enc_3 (r.1.get i))),.one (.int .i64 r.2)]
@[irreducible] def z22:=ptF Tryd.prog G22 zFy Tryd.f22
def zDr (zaP:Int) (zbD:Int) (zbt:(Sl Tie)) (zbE:Nat) (zbF:(List Int→Option (List Int))) (zdB:Nat→List PV):St:=⟨[(2,zp 2 0),(3,zp 3 0),(4,zp 14 0),(15,zI zaP)],[(2,.box 27 [.p (.nils)]),(3,.box 28 [zi (0:Int)]),(12,.mo 3 4 (false,1,false,[none]) zbE zbF),(14,.box 105 [zi zbD,.p (.sl zbt.len 4 zdB),.mo 12])],[]⟩
abbrev zJn (K:List PA→Prop) (X:St→Prop) (P:Int→Int→(Sl Tie)→Nat→(List Int→Option (List Int))→Bool) (S:Int→Int→(Sl Tie)→Nat→(List Int→Option (List Int))→((Sl Int)×Int)):Prop:=∀ ⦃zaP:Int⦄ ⦃zbD:Int⦄ ⦃zbt:(Sl Tie)⦄ ⦃zbE:Nat⦄ ⦃zbF:(List Int→Option (List Int))⦄ ⦃zdB:Nat→List PV⦄,P zaP zbD zbt zbE zbF=true→K (e22 (S zaP zbD zbt zbE zbF))→zdB=zg enc_40 zbt→X (zDr zaP zbD zbt zbE zbF zdB)
section
variable {K:List PA→Prop} {n:Net} {zaP:Int} {zbD:Int} {zbt:(Sl Tie)} {zbE:Nat} {zbF:(List Int→Option (List Int))} {zdB:Nat→List PV} {X0:St→Prop} {P0:Int→Int→(Sl Tie)→Nat→(List Int→Option (List Int))→Bool} {S0:Int→Int→(Sl Tie)→Nat→(List Int→Option (List Int))→((Sl Int)×Int)}
def zyi (S0:Int→Int→(Sl Tie)→Nat→(List Int→Option (List Int))→((Sl Int)×Int)) (zaP:Int) (zbD:Int) (zbt:(Sl Tie)) (zbE:Nat) (zbF:(List Int→Option (List Int))):((Sl Int)×Int) :=
  (cond (decide (zaP < (4:Int)))
 (cond (decide ((((s69 (⟨(⟨zbD, zbt⟩ : Net), (⟨zbE, zbF⟩ : Mp)⟩ : web) zaP).1).len : Int) > (0:Int)))
 ((s70 ((s69 (⟨(⟨zbD,zbt⟩:Net),(⟨zbE,zbF⟩:Mp)⟩:web) zaP).1)),(0:Int))
 (S0 (w64 (zaP+(1:Int))) (((s69 (⟨(⟨zbD,zbt⟩:Net),(⟨zbE,zbF⟩:Mp)⟩:web) zaP).2).Net.Nodes) (((s69 (⟨(⟨zbD,zbt⟩:Net),(⟨zbE,zbF⟩:Mp)⟩:web) zaP).2).Net.Ties) ((((s69 (⟨(⟨zbD,zbt⟩:Net),(⟨zbE,zbF⟩:Mp)⟩:web) zaP).2).out).n) ((((s69 (⟨(⟨zbD,zbt⟩:Net),(⟨zbE,zbF⟩:Mp)⟩:web) zaP).2).out).F)))
 default)
def zyj (P0:Int→Int→(Sl Tie)→Nat→(List Int→Option (List Int))→Bool) (zaP:Int) (zbD:Int) (zbt:(Sl Tie)) (zbE:Nat) (zbF:(List Int→Option (List Int))):Bool :=
  (cond (decide (zaP < (4:Int)))
 (decide ((p69 (⟨(⟨zbD,zbt⟩:Net),(⟨zbE,zbF⟩:Mp)⟩:web) zaP=true)) &&
 (cond (decide ((((s69 (⟨(⟨zbD, zbt⟩ : Net), (⟨zbE, zbF⟩ : Mp)⟩ : web) zaP).1).len : Int) > (0:Int)))
 (decide ((p70 ((s69 (⟨(⟨zbD,zbt⟩:Net),(⟨zbE,zbF⟩:Mp)⟩:web) zaP).1)=true)) &&
 true)
 (P0 (w64 (zaP+(1:Int))) (((s69 (⟨(⟨zbD,zbt⟩:Net),(⟨zbE,zbF⟩:Mp)⟩:web) zaP).2).Net.Nodes) (((s69 (⟨(⟨zbD,zbt⟩:Net),(⟨zbE,zbF⟩:Mp)⟩:web) zaP).2).Net.Ties) ((((s69 (⟨(⟨zbD,zbt⟩:Net),(⟨zbE,zbF⟩:Mp)⟩:web) zaP).2).out).n) ((((s69 (⟨(⟨zbD,zbt⟩:Net),(⟨zbE,zbF⟩:Mp)⟩:web) zaP).2).out).F))))
 false)
def zyk:Nat→Int→Int→(Sl Tie)→Nat→(List Int→Option (List Int))→((Sl Int)×Int):=lpO (fun _ _ _ _ _=>default) (zyi)
def zyl:Nat→Int→Int→(Sl Tie)→Nat→(List Int→Option (List Int))→Bool:=lpO (fun _ _ _ _ _=>false) (zyj)
def zym (zaP:Int) (zbD:Int) (zbt:(Sl Tie)) (zbE:Nat) (zbF:(List Int→Option (List Int))):((Sl Int)×Int):=zyk Fuel zaP zbD zbt zbE zbF
def zyn (zaP:Int) (zbD:Int) (zbt:(Sl Tie)) (zbE:Nat) (zbF:(List Int→Option (List Int))):Bool:=zyl Fuel zaP zbD zbt zbE zbF
theorem zFz (hs:zyn zaP zbD zbt zbE zbF=true) (hk:K (e22 (zym zaP zbD zbt zbE zbF))) (zlj:zdB=zg enc_40 zbt):z22 (Wk K) [1,1,1,1,0,1,0] [] (zDr zaP zbD zbt zbE zbF zdB) :=
  zl (fun X=>z22 (Wk K) [1,1,1,1,0,1,0,0] [X]) (by kernel_rfl) fun X0 hX =>
  (show ∀ k, zJn K X0 (zyl k) (zyk k) from zh4 _ _ (zyj) (zyi) (zJn K X0)
 (by intro _ _ _ _ _ _ hs;exact absurd hs Bool.false_ne_true)
 (by intro P0 S0 hX0 zaP zbD zbt zbE zbF zdB hs hk zlj;subst zlj;exact hX _ (zbb (by kernel_rfl) (zc hs hk (fun hs hk=>(zaU hs fun hc hs=>And.intro (And.intro (zE enc_40 4 zbt.get) (And.intro (rfl:((false,1,false,[none]):MQ)=(false,1,false,[none])) hc)) (zc hs hk (fun hs hk=>(zaU hs fun hc hs=>And.intro (And.intro (zE zcr 1 (((s69 (⟨(⟨zbD,zbt⟩:Net),(⟨zbE,zbF⟩:Mp)⟩:web) zaP).1).get)) hc) ((zgR hk):Wk K [.one (.sl ((s70 ((s69 (⟨(⟨zbD,zbt⟩:Net),(⟨zbE,zbF⟩:Mp)⟩:web) zaP).1)).len) 1 (fun i=>enc_3 ((s70 ((s69 (⟨(⟨zbD,zbt⟩:Net),(⟨zbE,zbF⟩:Mp)⟩:web) zaP).1)).get i))),.one (.int .i64 (0:Int))]))) (fun hs hk=>(hX0 hs hk rfl))))) (fun hs hk=>(absurd hs Bool.false_ne_true:False)))))) _ hs hk zlj
def s22 (n:Net):((Sl Int)×Int) :=
  (cond (!(s67 n))
 ((⟨0,fun _=>default⟩:(Sl Int)),(2:Int))
 (zym (0:Int) n.Nodes n.Ties 0 (fun _=>none)))
def p22 (n:Net):Bool :=
  (decide ((p67 n=true)) &&
 (cond (!(s67 n))
 true
 (zyn (0:Int) n.Nodes n.Ties 0 (fun _=>none))))
end
theorem q22 (n:Net) (K:List PA→Prop) (hs:p22 n=true) (hk:K (e22 (s22 n))):zt6 Tryd.prog G22 68 zFy 22 [.agg (enc_24 n)] (Wk K) :=
  zbb (by kernel_rfl) (zaU hs fun hc hs=>And.intro (And.intro (zE enc_40 4 n.Ties.get) hc) (zc hs hk (fun hs hk=>((wk hk (zh3 (.one (.nil _ _)) (zh3 (.one (.rfl _)) zo4))):Wk K [.one (.nils),.one (.int .i64 (2:Int))])) (fun hs hk=>(zFz hs hk rfl))))
def zFA : List PA → COut
  | [.agg [.int .i64 zah,.sl zae zaz zad]]=>.det (IsE enc_40 4 zaz zad∧p22 (⟨zah,(⟨zae,zao zad⟩:(Sl Tie))⟩:Net)=true) [.one (.sl (((s22 (⟨zah,(⟨zae,zao zad⟩:(Sl Tie))⟩:Net)).1).len) 1 (fun i=>enc_3 (((s22 (⟨zah,(⟨zae,zao zad⟩:(Sl Tie))⟩:Net)).1).get i))),.one (.int .i64 ((s22 (⟨zah,(⟨zae,zao zad⟩:(Sl Tie))⟩:Net)).2))]
  | _=>.no
theorem zJo:zax Tryd.prog 22:=⟨_,rfl,rfl,by kernel_rfl⟩
theorem zNN:Ok Tryd.prog 22 zFA:=zCp zLQ zJo zJm fun args K h=>by
  unfold zFA at h
  split at h
  · rename_i zah zae zaz zad
    obtain ⟨⟨⟨rfl,zar,rfl⟩,hs⟩,hk⟩:=h
    try rw [zan zar] at hs
    try rw [zan zar] at hk
    exact ⟨_,zfU zgQ _,(fun _ _=>[]),(fun l=>Nat.beq l 12),zFy,q22 (⟨zah,(⟨zae,zar⟩:(Sl Tie))⟩:Net) K hs hk⟩
  · exact h.elim
abbrev T25:Tabs:=Tabs.nil
theorem zLR:TabsOk Tryd.prog T25:=TabsOk.nil
abbrev G25:Ctrs:=csm T25 (fun _ _=>[]) (fun _=>false)
def zFB:Ann:=⟨26,[(0,zK [0,1] []),(1,zK [0,1,10] []),(2,zK [4] []),(3,zK [0,1,5] []),(4,zK [0,1,5,14] []),(5,zK [0,1,5] []),(6,zK [0,1,5,25] []),(7,zK [4] []),(8,zK [4] [])],
 [(4,zK [0,1,5] [])],
 [(3,zK [0,1] [])],
 [],[]⟩
abbrev R25:=Bool
abbrev e25 (r:R25):List PA:=[.one (.bool r)]
@[irreducible] def z25:=ptF Tryd.prog G25 zFB Tryd.f25
def zDs (a:(Sl Int)) (b:(Sl Int)) (iv1:Int):St:=⟨[(0,zS enc_3 1 a),(1,zS enc_3 1 b),(5,zI iv1)],[],[]⟩
abbrev zJp (K:List PA→Prop) (a:(Sl Int)) (b:(Sl Int)) (X:St→Prop) (P:Int→Bool) (S:Int→Bool):Prop:=∀ ⦃iv1:Int⦄,P iv1=true→K (e25 (S iv1))→X (zDs a b iv1)
section
variable {K:List PA→Prop} {a:(Sl Int)} {b:(Sl Int)} {iv1:Int} {X1:St→Prop} {P1:Int→Bool} {S1:Int→Bool}
def zyo (a:(Sl Int)) (b:(Sl Int)) (S1:Int→Bool) (iv1:Int):Bool :=
  (cond (decide (iv1 < (a.len : Int)))
 (cond ((a.get iv1.toNat) != (b.get iv1.toNat))
 false
 (S1 (w64 (iv1+(1:Int)))))
 true)
def zyp (a:(Sl Int)) (b:(Sl Int)) (P1:Int→Bool) (iv1:Int):Bool :=
  (cond (decide (iv1 < (a.len : Int)))
 (decide ((0≤iv1∧iv1 < (a.len:Int))) &&
 (decide ((0≤iv1∧iv1 < (b.len:Int))) &&
 (cond ((a.get iv1.toNat) != (b.get iv1.toNat))
 true
 (P1 (w64 (iv1+(1:Int)))))))
 true)
def zyq (a:(Sl Int)) (b:(Sl Int)):Nat→Int→Bool:=lpO (fun _=>default) (zyo a b)
def zyr (a:(Sl Int)) (b:(Sl Int)):Nat→Int→Bool:=lpO (fun _=>false) (zyp a b)
def zys (a:(Sl Int)) (b:(Sl Int)) (iv1:Int):Bool:=zyq a b Fuel iv1
def zyt (a:(Sl Int)) (b:(Sl Int)) (iv1:Int):Bool:=zyr a b Fuel iv1
theorem zFC (hs:zyt a b iv1=true) (hk:K (e25 (zys a b iv1))):z25 K [1,1,0,1,0] [] (zDs a b iv1) :=
  zl (fun X=>z25 K [1,1,0,1,0,0] [X]) (by kernel_rfl) fun X1 hX =>
  (show ∀ k, zJp K a b X1 (zyr a b k) (zyq a b k) from zh4 _ _ (zyp a b) (zyo a b) (zJp K a b X1)
 (by intro _ hs;exact absurd hs Bool.false_ne_true)
 (by intro P1 S1 hX1 iv1 hs hk;exact hX _ (zbb (by kernel_rfl) (zc hs hk (fun hs hk=>(zaU hs fun hc hs=>And.intro hc (zaU hs fun hc hs=>And.intro hc (zc hs hk (fun hs hk=>hk) (fun hs hk=>(hX1 hs hk)))))) (fun hs hk=>hk))))) _ hs hk
def zyu (a:(Sl Int)) (b:(Sl Int)):Bool :=
  (zys a b (0:Int))
def zyv (a:(Sl Int)) (b:(Sl Int)):Bool :=
  (zyt a b (0:Int))
theorem zFD (hs:zyv a b=true) (hk:K (e25 (zyu a b))):z25 K [1,1] [] ⟨[(0,zS enc_3 1 a),(1,zS enc_3 1 b)],[],[]⟩:=zbb (by kernel_rfl) (zFC hs hk)
def s25 (a:(Sl Int)) (b:(Sl Int)):Bool :=
  (cond ((a.len : Int) != (b.len : Int))
 false
 (zyu a b))
def p25 (a:(Sl Int)) (b:(Sl Int)):Bool :=
  (cond ((a.len : Int) != (b.len : Int))
 true
 (zyv a b))
end
theorem q25 (a:(Sl Int)) (b:(Sl Int)) (K:List PA→Prop) (hs:p25 a b=true) (hk:K (e25 (s25 a b))):vcFun Tryd.prog G25 zFB 25 [.one (.sl a.len 1 (fun i=>enc_3 (a.get i))),.one (.sl b.len 1 (fun i=>enc_3 (b.get i)))] K :=
  zbb (by kernel_rfl) (zc hs hk (fun hs hk=>hk) (fun hs hk=>(zFD hs hk)))
def zFE : List PA → COut
  | [.one (.sl zf4 zmC zf5),.one (.sl zd5 zit zdV)]=>.det (IsE enc_3 1 zmC zf5∧IsE enc_3 1 zit zdV∧p25 (⟨zf4,zaA zf5⟩:(Sl Int)) (⟨zd5,zaA zdV⟩:(Sl Int))=true) [.one (.bool (s25 (⟨zf4,zaA zf5⟩:(Sl Int)) (⟨zd5,zaA zdV⟩:(Sl Int))))]
  | _=>.no
theorem zJq:zax Tryd.prog 25:=⟨_,rfl,rfl,by kernel_rfl⟩
theorem zNO:Ok Tryd.prog 25 zFE:=zbv zLR zJq fun args K h=>by
  unfold zFE at h
  split at h
  · rename_i zf4 zmC zf5 zd5 zit zdV
    obtain ⟨⟨⟨rfl,zis,rfl⟩,⟨rfl,zf7,rfl⟩,hs⟩,hk⟩:=h
    try rw [zbp zis] at hs
    try rw [zbp zis] at hk
    try rw [zbp zf7] at hs
    try rw [zbp zf7] at hk
    exact ⟨(fun _ _=>[]),(fun _=>false),zFB,q25 (⟨zf4,zis⟩:(Sl Int)) (⟨zd5,zf7⟩:(Sl Int)) K hs hk⟩
  · exact h.elim
abbrev T74:Tabs:=(((Tabs.nil.addF 67 zva).addF 81 zw7).addF 88 zxg)
theorem zLS:TabsOk Tryd.prog T74:=(((TabsOk.nil.addF zKZ).addF zLp).addF zLw)
abbrev G74:Ctrs:=csm T74 (fun _ _=>[]) (fun _=>false)
def zCq:Ann:=⟨31,[(0,zK [1,2] [2]),(1,zK [1,2,6] [2,11]),(2,zK [1,2,6,14] [2,11]),(3,zK [4,5] []),(4,zK [2,6,15,16,17] [2,11]),(5,zK [2,6,15,16,17,18] [2,11]),(6,zK [2,6,8,15,16,17] [2,11]),(7,zK [2,6,15,16,17,26] [2,11]),(8,zK [4,5] []),(9,zK [2,6,15,16,17] [2,11]),(10,zK [6,29] [11]),(11,zK [4,5] []),(12,zK [4,5] [11])],
 [(5,zK [2,6,15,16,17] [2,11])],
 [(3,zK [1,2,6,14] [2,11]),(4,zK [1,2,6] [2,11]),(8,zK [2,6,15,16,17,26] [2,11]),(11,zK [6,29] [11])],
 [],[]⟩
abbrev R74:=(web×Int)
abbrev e74 (r:R74):List PA:=cond (r.2 == 0) [.one (.fp (zaD r.1) 0),.one (.int .i64 (0:Int))] [.one (.nilp),.one (.int .i64 r.2)]
@[irreducible] def z74:=ptF Tryd.prog G74 zCq Tryd.f74
def zDt (n:Net) (nodes:(Sl Int)) (zdW:Int):St:=⟨[(2,zp 2 0),(6,zp 11 0),(15,zS enc_3 1 nodes),(16,zI (nodes.len:Int)),(17,zI zdW)],[(2,.box 24 (zm (enc_24 n))),(11,.box 105 (zm (zaD (⟨n,(⟨0,(fun _=>none)⟩:Mp)⟩:web))))],[]⟩
abbrev zFF (K:List PA→Prop) (n:Net) (nodes:(Sl Int)) (X:St→Prop) (P:Int→Bool) (S:Int→(web×Int)):Prop:=∀ ⦃zdW:Int⦄,P zdW=true→K (e74 (S zdW))→X (zDt n nodes zdW)
section
variable {K:List PA→Prop} {n:Net} {nodes:(Sl Int)} {zru:Bool} {zdW:Int} {X2:St→Prop} {P2:Int→Bool} {S2:Int→(web×Int)} {zrv:Int} {zrx:Bool} {zCr:Bool}
def zry (n:Net) (zCr:Bool):(web×Int) :=
  (cond zCr
 ((default:web),(5:Int))
 ((⟨n,(⟨0,(fun _=>none)⟩:Mp)⟩:web),(0:Int)))
theorem zFG (hk:K (e74 (zry n zCr))):z74 K [1,1,1,1,0,1] [] ⟨[(6,zp 11 0),(29,zB zCr)],[(11,.box 105 (zm (zaD (⟨n,(⟨0,(fun _=>none)⟩:Mp)⟩:web))))],[]⟩:=zbb (by kernel_rfl) (zt hk (fun hk=>hk) (fun hk=>hk))
def zrz (S2:Int→(web×Int)) (n:Net) (nodes:(Sl Int)) (zrv:Int) (zrx:Bool):(web×Int) :=
  (cond zrx
 ((default:web),(2:Int))
 (S2 (w64 (zrv+(1:Int)))))
def zrA (P2:Int→Bool) (n:Net) (nodes:(Sl Int)) (zrv:Int) (zrx:Bool):Bool :=
  (cond zrx
 true
 (P2 (w64 (zrv+(1:Int)))))
theorem zFH (hX2:zFF K n nodes X2 P2 S2) (hs:zrA P2 n nodes zrv zrx=true) (hk:K (e74 (zrz S2 n nodes zrv zrx))):z74 K [1,1,1,0,1,0,0,1,1,0,0,1,1] [X2] ⟨[(2,zp 2 0),(6,zp 11 0),(15,zS enc_3 1 nodes),(16,zI (nodes.len:Int)),(17,zI zrv),(26,zB zrx)],[(2,.box 24 (zm (enc_24 n))),(11,.box 105 (zm (zaD (⟨n,(⟨0,(fun _=>none)⟩:Mp)⟩:web))))],[]⟩:=zbb (by kernel_rfl) (zc hs hk (fun hs hk=>hk) (fun hs hk=>(hX2 hs hk)))
def ziz (n:Net) (nodes:(Sl Int)) (S2:Int→(web×Int)) (zdW:Int):(web×Int) :=
  (cond (decide (zdW < (nodes.len : Int)))
 (zrz S2 n nodes zdW (!(s81 (nodes.get zdW.toNat) (0:Int) (w64 (n.Nodes - (1:Int))))))
 (zry n (s88 (⟨n,(⟨0,(fun _=>none)⟩:Mp)⟩:web))))
def ziA (n:Net) (nodes:(Sl Int)) (P2:Int→Bool) (zdW:Int):Bool :=
  (cond (decide (zdW < (nodes.len : Int)))
 (decide ((0≤zdW∧zdW < (nodes.len:Int))) &&
 (zrA P2 n nodes zdW (!(s81 (nodes.get zdW.toNat) (0:Int) (w64 (n.Nodes - (1:Int)))))))
 (decide ((p88 (⟨n,(⟨0,(fun _=>none)⟩:Mp)⟩:web)=true)) &&
 true))
def ziB (n:Net) (nodes:(Sl Int)):Nat→Int→(web×Int):=lpO (fun _=>default) (ziz n nodes)
def ziC (n:Net) (nodes:(Sl Int)):Nat→Int→Bool:=lpO (fun _=>false) (ziA n nodes)
def zrB (n:Net) (nodes:(Sl Int)) (zdW:Int):(web×Int):=ziB n nodes Fuel zdW
def zrC (n:Net) (nodes:(Sl Int)) (zdW:Int):Bool:=ziC n nodes Fuel zdW
theorem zFI (hs:zrC n nodes zdW=true) (hk:K (e74 (zrB n nodes zdW))):z74 K [1,1,1,0,1,0] [] (zDt n nodes zdW) :=
  zl (fun X=>z74 K [1,1,1,0,1,0,0] [X]) (by kernel_rfl) fun X2 hX =>
  (show ∀ k, zFF K n nodes X2 (ziC n nodes k) (ziB n nodes k) from zh4 _ _ (ziA n nodes) (ziz n nodes) (zFF K n nodes X2)
 (by intro _ hs;exact absurd hs Bool.false_ne_true)
 (by intro P2 S2 hX2 zdW hs hk;exact hX _ (zbb (by kernel_rfl) (zc hs hk (fun hs hk=>(zaU hs fun hc hs=>And.intro hc (zFH hX2 hs hk))) (fun hs hk=>(zaU hs fun hc hs=>And.intro (And.intro (zE enc_40 4 n.Ties.get) (And.intro (rfl:((false,1,false,[none]):MQ)=(false,1,false,[none])) hc)) (zFG hk))))))) _ hs hk
def zrD (n:Net) (nodes:(Sl Int)):(web×Int) :=
  (zrB n nodes (0:Int))
def zrE (n:Net) (nodes:(Sl Int)):Bool :=
  (zrC n nodes (0:Int))
theorem zFJ (hs:zrE n nodes=true) (hk:K (e74 (zrD n nodes))):z74 K [1,1,1] [] ⟨[(1,zS enc_3 1 nodes),(2,zp 2 0),(6,zp 11 0)],[(2,.box 24 (zm (enc_24 n))),(11,.box 105 (zm (zaD (⟨n,(⟨0,(fun _=>none)⟩:Mp)⟩:web))))],[]⟩:=zbb (by kernel_rfl) (zFI hs hk)
def zrF (n:Net) (nodes:(Sl Int)) (zru:Bool):(web×Int) :=
  (cond zru
 ((default:web),(2:Int))
 (zrD n nodes))
def zrG (n:Net) (nodes:(Sl Int)) (zru:Bool):Bool :=
  (cond zru
 true
 (zrE n nodes))
theorem zFK (hs:zrG n nodes zru=true) (hk:K (e74 (zrF n nodes zru))):z74 K [1,1,0,1] [] ⟨[(1,zS enc_3 1 nodes),(2,zp 2 0),(6,zp 11 0),(14,zB zru)],[(2,.box 24 (zm (enc_24 n))),(11,.box 105 (zm (zaD (⟨n,(⟨0,(fun _=>none)⟩:Mp)⟩:web))))],[]⟩:=zbb (by kernel_rfl) (zc hs hk (fun hs hk=>hk) (fun hs hk=>(zFJ hs hk)))
def s74 (n:Net) (nodes:(Sl Int)):(web×Int) :=
  (zrF n nodes (!(s67 n)))
def p74 (n:Net) (nodes:(Sl Int)):Bool :=
  (decide ((p67 n=true)) &&
 (zrG n nodes (!(s67 n))))
end
theorem q74 (n:Net) (nodes:(Sl Int)) (K:List PA→Prop) (hs:p74 n nodes=true) (hk:K (e74 (s74 n nodes))):vcFun Tryd.prog G74 zCq 74 [.agg (enc_24 n),.one (.sl nodes.len 1 (fun i=>enc_3 (nodes.get i)))] K :=
  zbb (by kernel_rfl) (zaU hs fun hc hs=>And.intro (And.intro (zE enc_40 4 n.Ties.get) hc) (zFK hs hk))
def zvn : List PA → COut
  | [.agg [.int .i64 zah,.sl zae zaz zad],.one (.sl zd5 zit zdV)]=>.alt ((s74 (⟨zah,(⟨zae,zao zad⟩:(Sl Tie))⟩:Net) (⟨zd5,zaA zdV⟩:(Sl Int))).2 == 0) (IsE enc_40 4 zaz zad∧IsE enc_3 1 zit zdV∧p74 (⟨zah,(⟨zae,zao zad⟩:(Sl Tie))⟩:Net) (⟨zd5,zaA zdV⟩:(Sl Int))=true) [.one (.fp (zaD (⟨(s74 (⟨zah,(⟨zae,zao zad⟩:(Sl Tie))⟩:Net) (⟨zd5,zaA zdV⟩:(Sl Int))).1.Net,((s74 (⟨zah,(⟨zae,zao zad⟩:(Sl Tie))⟩:Net) (⟨zd5,zaA zdV⟩:(Sl Int))).1.out)⟩:web)) 0),.one (.int .i64 (0:Int))] (IsE enc_40 4 zaz zad∧IsE enc_3 1 zit zdV∧p74 (⟨zah,(⟨zae,zao zad⟩:(Sl Tie))⟩:Net) (⟨zd5,zaA zdV⟩:(Sl Int))=true) [.one (.nilp),.one (.int .i64 ((s74 (⟨zah,(⟨zae,zao zad⟩:(Sl Tie))⟩:Net) (⟨zd5,zaA zdV⟩:(Sl Int))).2))]
  | [.agg [.int .i64 zah,.sl zae zaz zad],.one (.nils)]=>.alt ((s74 (⟨zah,(⟨zae,zao zad⟩:(Sl Tie))⟩:Net) (⟨0,fun _=>default⟩:(Sl Int))).2 == 0) (IsE enc_40 4 zaz zad∧p74 (⟨zah,(⟨zae,zao zad⟩:(Sl Tie))⟩:Net) (⟨0,fun _=>default⟩:(Sl Int))=true) [.one (.fp (zaD (⟨(s74 (⟨zah,(⟨zae,zao zad⟩:(Sl Tie))⟩:Net) (⟨0,fun _=>default⟩:(Sl Int))).1.Net,((s74 (⟨zah,(⟨zae,zao zad⟩:(Sl Tie))⟩:Net) (⟨0,fun _=>default⟩:(Sl Int))).1.out)⟩:web)) 0),.one (.int .i64 (0:Int))] (IsE enc_40 4 zaz zad∧p74 (⟨zah,(⟨zae,zao zad⟩:(Sl Tie))⟩:Net) (⟨0,fun _=>default⟩:(Sl Int))=true) [.one (.nilp),.one (.int .i64 ((s74 (⟨zah,(⟨zae,zao zad⟩:(Sl Tie))⟩:Net) (⟨0,fun _=>default⟩:(Sl Int))).2))]
  | _=>.no
theorem zJr:zax Tryd.prog 74:=⟨_,rfl,rfl,by kernel_rfl⟩
theorem zK5:Ok Tryd.prog 74 zvn:=zij zLS zJr fun args K h=>by
  unfold zvn at h
  split at h
  · rename_i zah zae zaz zad zd5 zit zdV
    have h:=zIC h
    obtain ⟨⟨⟨rfl,zar,rfl⟩,⟨rfl,zf7,rfl⟩,hs⟩,hk⟩:=h
    try rw [zan zar] at hs
    try rw [zan zar] at hk
    try rw [zbp zf7] at hs
    try rw [zbp zf7] at hk
    exact ⟨_,zfU zgQ _,(fun _ _=>[]),(fun _=>false),zCq,q74 (⟨zah,(⟨zae,zar⟩:(Sl Tie))⟩:Net) (⟨zd5,zf7⟩:(Sl Int)) (Wk K) hs (zgR hk)⟩
  · rename_i zah zae zaz zad
    have h:=zIC h
    obtain ⟨⟨⟨rfl,zar,rfl⟩,hs⟩,hk⟩:=h
    try rw [zan zar] at hs
    try rw [zan zar] at hk
    exact ⟨_,(zh3 (zgQ _) (zh3 (.one (.nil _ _)) zo4)),(fun _ _=>[]),(fun _=>false),zCq,q74 (⟨zah,(⟨zae,zar⟩:(Sl Tie))⟩:Net) (⟨0,fun _=>default⟩:(Sl Int)) (Wk K) hs (zgR hk)⟩
  · exact h.elim
abbrev T75:Tabs:=(((Tabs.nil.addF 93 zo7).addF 104 zpd).addI 110 zo9)
theorem zLT:TabsOk Tryd.prog T75:=(((TabsOk.nil.addF zHU).addF zEW).addI zvc)
abbrev G75:Ctrs:=csm T75 (fun _ _=>[]) (fun _=>false)
def zcH:Ann:=⟨66,[(0,zK [0,1,4] [4]),(1,zK [0,1,4,5] [4,5]),(2,zK [0,1,4,5,10] [4,5]),(3,zK [0,1,4,5,10,11] [4,5]),(4,zK [0,1,4,5,6,10] [4,5]),(5,zK [0,1,4,5,10] [4,5]),(6,zK [0,1,4,5,10] [4,5]),(7,zK [0,4,5] [4,5]),(8,zK [0,4,5,7] [4,5,7]),(9,zK [0,4,5,7,20] [4,5,7]),(10,zK [0,4,5,7] [4,5,7]),(11,zK [0,4,5,7,22] [4,5,7]),(12,zK [0,4,5,7,8,22] [4,5,7,8]),(13,zK [0,4,5,7,8,22,29] [4,5,7,8]),(14,zK [0,4,5,7,8,9,22] [4,5,7,8,9]),(15,zK [0,4,5,7,8,9,22] [4,5,7,8,9]),(16,zK [0,4,5,7,22] [4,5,7]),(17,zK [0,4,5,64] [4,5]),(18,zK [0,4,5,7] [4,5,7]),(19,zK [4] [4])],
 [(3,zK [0,1,4,5,10] [4,5]),(9,zK [0,4,5,7] [4,5,7]),(12,zK [0,4,5,7,22] [4,5,7])],
 [(7,zK [0,1,4,5] [4,5])],
 [],[]⟩
def zlk (w:web) (node:Int) (zaN:Int) (t4t0:Tab) (dt0:Tab):St:=⟨[(0,.one (.c (.p (.fp (zaD w) 0)))),(1,.one (.c (.p (.int .i64 node)))),(4,.one (.c (.ptr 4 0))),(5,.one (.c (.ptr 5 0))),(10,.one (.c (.p (.int .i64 zaN))))],[(4,.box 116 (zm (zac t4t0))),(5,.box 116 (zm (zac dt0)))],[]⟩
def zll (K:List PA→Prop) (w:web) (node:Int) (zaN:Int) (t4t0:Tab) (dt0:Tab):Prop:=vc Tryd.prog G75 zcH (cdF Tryd.f75 [1,1,0,1,0]) (zas 0 (sqK Tryd.prog G75 zcH (cdF Tryd.f75 [1,1,1]) (zbo Tryd.prog Tryd.f75 K))) (zlk w node zaN t4t0 dt0)
def zJs (w:web) (node:Int) (t4t1:Tab) (dt1:Tab):St:=⟨[(0,.one (.c (.p (.fp (zaD w) 0)))),(1,.one (.c (.p (.int .i64 node)))),(4,.one (.c (.ptr 4 0))),(5,.one (.c (.ptr 5 0)))],[(4,.box 116 (zm (zac t4t1))),(5,.box 116 (zm (zac dt1)))],[]⟩
def znU (K:List PA→Prop) (w:web) (node:Int) (t4t1:Tab) (dt1:Tab):Prop:=vc Tryd.prog G75 zcH (cdF Tryd.f75 [1,1,1]) (zbo Tryd.prog Tryd.f75 K) (zJs w node t4t1 dt1)
def zji (w:web) (zaf:Bool) (t4t2:Tab) (dt2:Tab):St:=⟨[(0,.one (.c (.p (.fp (zaD w) 0)))),(4,.one (.c (.ptr 4 0))),(5,.one (.c (.ptr 5 0))),(7,.one (.c (.ptr 7 0)))],[(4,.box 116 (zm (zac t4t2))),(5,.box 116 (zm (zac dt2))),(7,.box 4 [.p (.bool zaf)])],[]⟩
def zlm (K:List PA→Prop) (w:web) (zaf:Bool) (t4t2:Tab) (dt2:Tab):Prop:=vc Tryd.prog G75 zcH (cdF Tryd.f75 [1,1,1,1,0,1,0]) (zas 2 (sqK Tryd.prog G75 zcH (cdF Tryd.f75 [1,1,1,1,1]) (zbo Tryd.prog Tryd.f75 K))) (zji w zaf t4t2 dt2)
def zgg (w:web) (zaa:Bool) (t4t3:Tab) (dt3:Tab):St:=⟨[(0,.one (.c (.p (.fp (zaD w) 0)))),(4,.one (.c (.ptr 4 0))),(5,.one (.c (.ptr 5 0))),(7,.one (.c (.ptr 7 0))),(22,.one (.c (.p (.fn 110 [] [.fp [.fp (zaD w) 0] 0]))))],[(4,.box 116 (zm (zac t4t3))),(5,.box 116 (zm (zac dt3))),(7,.box 4 [.p (.bool zaa)])],[]⟩
def zln (K:List PA→Prop) (X2:St→Prop) (w:web) (zaa:Bool) (t4t3:Tab) (dt3:Tab):Prop:=vc Tryd.prog G75 zcH (cdF Tryd.f75 [1,1,1,1,0,1,0,0,1,0,0,1,1,0]) (zas 4 (zas 3 (sqK Tryd.prog G75 zcH (cdF Tryd.f75 [1,1,1,1,0,1,0,0,1,1]) (zbq Tryd.prog zcH 9 X2 (zas 2 (sqK Tryd.prog G75 zcH (cdF Tryd.f75 [1,1,1,1,1]) (zbo Tryd.prog Tryd.f75 K))))))) (zgg w zaa t4t3 dt3)
theorem zFL (w : web) (node : Int) (K : List PA → Prop) :
  vcFun Tryd.prog G75 zcH 75 [.one (.fp (zaD w) 0),.one (.int .i64 node)] K =
  (zll K w node (0:Int) (fun _=>(0:Int)) (fun _=>(0:Int))):=by kernel_rfl
def zpC (K:List PA→Prop) (X0:St→Prop) (w:web) (node:Int) (zaN:Int) (t4t0:Tab) (dt0:Tab):Prop :=
  (zbV (decide (zaN < (40:Int)))
 (((0≤zaN∧zaN < (40:Int))) ∧
 (X0 (zlk w node (w64 (zaN+(1:Int))) t4t0 (ts 80 dt0 (0+zaN.toNat * 2+0) [(1000000000000:Int),(0:Int)]))))
 (znU K w node t4t0 dt0))
theorem zrH (K : List PA → Prop) (X0 : St → Prop) (w : web) (node : Int) (zaN : Int) (t4t0 : Tab) (dt0 : Tab) :
  vc Tryd.prog G75 zcH (cd (cdF Tryd.f75 [1,1,0,1,0]) [0]) (zbq Tryd.prog zcH 3 X0 (zas 0 (sqK Tryd.prog G75 zcH (cdF Tryd.f75 [1,1,1]) (zbo Tryd.prog Tryd.f75 K)))) (zlk w node zaN t4t0 dt0) =
  zpC K X0 w node zaN t4t0 dt0:=by kernel_rfl
theorem zyw (K : List PA → Prop) (w : web) (node : Int) (zaN : Int) (t4t0 : Tab) (dt0 : Tab)
  (h:∀ X0:St→Prop,(∀ (zaN:Int) (t4t0:Tab) (dt0:Tab),zpC K X0 w node zaN t4t0 dt0→X0 (zlk w node zaN t4t0 dt0))→X0 (zlk w node zaN t4t0 dt0)) :
  zll K w node zaN t4t0 dt0:=by
  have e:zll K w node zaN t4t0 dt0=(∀ X:St→Prop,(∀ s,vc Tryd.prog G75 zcH (cd (cdF Tryd.f75 [1,1,0,1,0]) [0]) (zbq Tryd.prog zcH 3 X (zas 0 (sqK Tryd.prog G75 zcH (cdF Tryd.f75 [1,1,1]) (zbo Tryd.prog Tryd.f75 K)))) s→X s)→X (zlk w node zaN t4t0 dt0)):=by kernel_rfl
  refine zbb e ?_
  intro X hX
  refine h X ?_
  intro zaN t4t0 dt0 hs
  refine hX _ ?_
  have e2:=zrH K X w node zaN t4t0 dt0
  rw [e2]
  exact hs
theorem zFM (K : List PA → Prop) (w : web) (node : Int) (t4t1 : Tab) (dt1 : Tab) :
  znU K w node t4t1 dt1 =
  (((0≤node∧node < (40:Int))) ∧
 (zlm K w true t4t1 (ts 80 dt1 (0+node.toNat * 2+0) [(0:Int),(0:Int)]))):=by kernel_rfl
def zpD (K:List PA→Prop) (X2:St→Prop) (w:web) (zaf:Bool) (t4t2:Tab) (dt2:Tab):Prop :=
  (zbV zaf
 ((IsE enc_40 4 4 (fun i=>enc_40 (w.Net.Ties.get i))∧((false,1,false,[none]):MQ)=(false,1,false,[none])) ∧
 (zln K X2 w false t4t2 dt2))
 (K [.agg (zac dt2)]))
theorem zrI (K : List PA → Prop) (X2 : St → Prop) (w : web) (zaf : Bool) (t4t2 : Tab) (dt2 : Tab) :
  vc Tryd.prog G75 zcH (cd (cdF Tryd.f75 [1,1,1,1,0,1,0]) [0]) (zbq Tryd.prog zcH 9 X2 (zas 2 (sqK Tryd.prog G75 zcH (cdF Tryd.f75 [1,1,1,1,1]) (zbo Tryd.prog Tryd.f75 K)))) (zji w zaf t4t2 dt2) =
  zpD K X2 w zaf t4t2 dt2:=by kernel_rfl
theorem zyx (K : List PA → Prop) (w : web) (zaf : Bool) (t4t2 : Tab) (dt2 : Tab)
  (h:∀ X2:St→Prop,(∀ (zaf:Bool) (t4t2:Tab) (dt2:Tab),zpD K X2 w zaf t4t2 dt2→X2 (zji w zaf t4t2 dt2))→X2 (zji w zaf t4t2 dt2)) :
  zlm K w zaf t4t2 dt2:=by
  have e:zlm K w zaf t4t2 dt2=(∀ X:St→Prop,(∀ s,vc Tryd.prog G75 zcH (cd (cdF Tryd.f75 [1,1,1,1,0,1,0]) [0]) (zbq Tryd.prog zcH 9 X (zas 2 (sqK Tryd.prog G75 zcH (cdF Tryd.f75 [1,1,1,1,1]) (zbo Tryd.prog Tryd.f75 K)))) s→X s)→X (zji w zaf t4t2 dt2)):=by kernel_rfl
  refine zbb e ?_
  intro X hX
  refine h X ?_
  intro zaf t4t2 dt2 hs
  refine hX _ ?_
  have e2:=zrI K X w zaf t4t2 dt2
  rw [e2]
  exact hs
def zpE (K:List PA→Prop) (X2:St→Prop) (w:web) (zaa:Bool) (t4t3:Tab) (dt3:Tab):Prop :=
  (X2 (zji w zaa t4t3 dt3))
def zpF (K:List PA→Prop) (X2:St→Prop) (X3:List (List PA)→St→Prop) (y3:step) (rest3:List (List PA)) (w:web) (zaa:Bool) (t4t3:Tab) (dt3:Tab):Prop :=
  (((0≤y3.to∧y3.to < (40:Int))) ∧
 (zbV (nvr (tL dt3 y3.to) (tU dt3 y3.to))
 (X3 rest3 (zgg w zaa t4t3 dt3))
 (((0≤y3.from_∧y3.from_ < (40:Int))) ∧
 (((0≤y3.to∧y3.to < (40:Int))) ∧
 (((0≤y3.to∧y3.to < (40:Int))) ∧
 ((IsE zcC 2 2 (fun _=>(zcC (⟨(w64 ((tL dt3 y3.to)+y3.length)),(w64 ((tV dt3 y3.to)+(1:Int)))⟩:far)))∧(zxl (⟨(tL dt3 y3.from_),(tU dt3 y3.from_)⟩:far) (⟨1,fun _=>(⟨(w64 ((tL dt3 y3.to)+y3.length)),(w64 ((tV dt3 y3.to)+(1:Int)))⟩:far)⟩:(Sl far))=true)) ∧
 (zbV zaa
 (((0≤y3.from_∧y3.from_ < (40:Int))) ∧
 (X3 rest3 (zgg w true t4t3 (ts 80 dt3 (0+y3.from_.toNat * 2+0) [(zcD (⟨(tL dt3 y3.from_),(tU dt3 y3.from_)⟩:far) (⟨1,fun _=>(⟨(w64 ((tL dt3 y3.to)+y3.length)),(w64 ((tV dt3 y3.to)+(1:Int)))⟩:far)⟩:(Sl far))).length,(zcD (⟨(tL dt3 y3.from_),(tU dt3 y3.from_)⟩:far) (⟨1,fun _=>(⟨(w64 ((tL dt3 y3.to)+y3.length)),(w64 ((tV dt3 y3.to)+(1:Int)))⟩:far)⟩:(Sl far))).uses]))))
 (((0≤y3.from_∧y3.from_ < (40:Int))) ∧
 (((0≤y3.from_∧y3.from_ < (40:Int))) ∧
 (X3 rest3 (zgg w (!(match ((zcD (⟨(tL dt3 y3.from_),(tU dt3 y3.from_)⟩:far) (⟨1,fun _=>(⟨(w64 ((tL dt3 y3.to)+y3.length)),(w64 ((tV dt3 y3.to)+(1:Int)))⟩:far)⟩:(Sl far))).length == (tL dt3 y3.from_)) with | true=>(match ((zcD (⟨(tL dt3 y3.from_),(tU dt3 y3.from_)⟩:far) (⟨1,fun _=>(⟨(w64 ((tL dt3 y3.to)+y3.length)),(w64 ((tV dt3 y3.to)+(1:Int)))⟩:far)⟩:(Sl far))).uses == (tU dt3 y3.from_)) with | true=>true | false=>false) | false=>false)) t4t3 (ts 80 dt3 (0+y3.from_.toNat * 2+0) [(zcD (⟨(tL dt3 y3.from_),(tU dt3 y3.from_)⟩:far) (⟨1,fun _=>(⟨(w64 ((tL dt3 y3.to)+y3.length)),(w64 ((tV dt3 y3.to)+(1:Int)))⟩:far)⟩:(Sl far))).length,(zcD (⟨(tL dt3 y3.from_),(tU dt3 y3.from_)⟩:far) (⟨1,fun _=>(⟨(w64 ((tL dt3 y3.to)+y3.length)),(w64 ((tV dt3 y3.to)+(1:Int)))⟩:far)⟩:(Sl far))).uses]))))))))))))
theorem zrJ (K:List PA→Prop) (X2:St→Prop) (w:web) (zaa:Bool) (t4t3:Tab) (dt3:Tab):(zas 4 (zas 3 (sqK Tryd.prog G75 zcH (cdF Tryd.f75 [1,1,1,1,0,1,0,0,1,1]) (zbq Tryd.prog zcH 9 X2 (zas 2 (sqK Tryd.prog G75 zcH (cdF Tryd.f75 [1,1,1,1,1]) (zbo Tryd.prog Tryd.f75 K))))))) .normal (zgg w zaa t4t3 dt3)=zpE K X2 w zaa t4t3 dt3:=by kernel_rfl
theorem zrK (K : List PA → Prop) (X2 : St → Prop) (X3 : List (List PA) → St → Prop) (y3 : step) (rest3 : List (List PA)) (w : web) (zaa : Bool) (t4t3 : Tab) (dt3 : Tab) :
  zvs Tryd.prog G75 zcH 12 [23] (cd (cdF Tryd.f75 [1,1,1,1,0,1,0,0,1,0,0,1,1,0]) [0]) (cd (cdF Tryd.f75 [1,1,1,1,0,1,0,0,1,0,0,1,1,0]) [1]) X3 (zas 4 (zas 3 (sqK Tryd.prog G75 zcH (cdF Tryd.f75 [1,1,1,1,0,1,0,0,1,1]) (zbq Tryd.prog zcH 9 X2 (zas 2 (sqK Tryd.prog G75 zcH (cdF Tryd.f75 [1,1,1,1,1]) (zbo Tryd.prog Tryd.f75 K))))))) [.agg (zai y3)] rest3 (zgg w zaa t4t3 dt3)=zpF K X2 X3 y3 rest3 w zaa t4t3 dt3:=by kernel_rfl
theorem zyy (K : List PA → Prop) (X2 : St → Prop) (w : web) (zaa : Bool) (t4t3 : Tab) (dt3 : Tab)
  (hsafe:IsE enc_40 4 4 (fun i=>enc_40 (w.Net.Ties.get i))∧((false,1,false,[none]):MQ)=(false,1,false,[none])∧(zlT w=true)) (h:∀ X3:List (List PA)→St→Prop,(∀ (zaa:Bool) (t4t3:Tab) (dt3:Tab),zpE K X2 w zaa t4t3 dt3→X3 [] (zgg w zaa t4t3 dt3))→(∀ (y:step) (rest:List (List PA)) (zaa:Bool) (t4t3:Tab) (dt3:Tab),zpF K X2 X3 y rest w zaa t4t3 dt3→X3 ([.agg (zai y)] :: rest) (zgg w zaa t4t3 dt3))→X3 ((zh5 w).map fun y=>[.agg (zai y)]) (zgg w zaa t4t3 dt3)) :
  zln K X2 w zaa t4t3 dt3:=by
  have e:zln K X2 w zaa t4t3 dt3=((IsE enc_40 4 4 (fun i=>enc_40 (w.Net.Ties.get i))∧((false,1,false,[none]):MQ)=(false,1,false,[none])∧(zlT w=true))∧∀ X:List (List PA)→St→Prop,(∀ s,(zas 4 (zas 3 (sqK Tryd.prog G75 zcH (cdF Tryd.f75 [1,1,1,1,0,1,0,0,1,1]) (zbq Tryd.prog zcH 9 X2 (zas 2 (sqK Tryd.prog G75 zcH (cdF Tryd.f75 [1,1,1,1,1]) (zbo Tryd.prog Tryd.f75 K))))))) .normal s→X [] s)→(∀ y rest s,zvs Tryd.prog G75 zcH 12 [23] (cd (cdF Tryd.f75 [1,1,1,1,0,1,0,0,1,0,0,1,1,0]) [0]) (cd (cdF Tryd.f75 [1,1,1,1,0,1,0,0,1,0,0,1,1,0]) [1]) X (zas 4 (zas 3 (sqK Tryd.prog G75 zcH (cdF Tryd.f75 [1,1,1,1,0,1,0,0,1,1]) (zbq Tryd.prog zcH 9 X2 (zas 2 (sqK Tryd.prog G75 zcH (cdF Tryd.f75 [1,1,1,1,1]) (zbo Tryd.prog Tryd.f75 K))))))) y rest s→X (y :: rest) s)→X ((zh5 w).map fun y=>[.agg (zai y)]) (zgg w zaa t4t3 dt3)):=by kernel_rfl
  refine zbb e ⟨hsafe,?_⟩
  intro X h0 h1
  refine h X (fun zaa t4t3 dt3 hs=>h0 _ ?_) (fun y rest zaa t4t3 dt3 hs=>h1 _ rest _ ?_)
  · rw [zrJ K X2 w zaa t4t3 dt3];exact hs
  · have e2 := zrK K X2 X y rest w zaa t4t3 dt3
    rw [e2];exact hs
abbrev e75 (r:Tab):List PA:=[.agg (zac r)]
attribute [irreducible] zll znU zlm zln
def zrL (S2:Bool→Tab→Tab→Tab) (w:web) (zaa:Bool) (t4t3:Tab) (dt3:Tab):Tab :=
  (S2 zaa t4t3 dt3)
def zrM (P2:Bool→Tab→Tab→Bool) (w:web) (zaa:Bool) (t4t3:Tab) (dt3:Tab):Bool :=
  (P2 zaa t4t3 dt3)
def zrN (S2:Bool→Tab→Tab→Tab) (w:web) (y3:step) (S3:Bool→Tab→Tab→Tab) (zaa:Bool) (t4t3:Tab) (dt3:Tab):Tab :=
  (cond (nvr (tL dt3 y3.to) (tU dt3 y3.to))
 (S3 zaa t4t3 dt3)
 (cond zaa
 (S3 true t4t3 (ts 80 dt3 (0+y3.from_.toNat * 2+0) [(zcD (⟨(tL dt3 y3.from_),(tU dt3 y3.from_)⟩:far) (⟨1,fun _=>(⟨(w64 ((tL dt3 y3.to)+y3.length)),(w64 ((tV dt3 y3.to)+(1:Int)))⟩:far)⟩:(Sl far))).length,(zcD (⟨(tL dt3 y3.from_),(tU dt3 y3.from_)⟩:far) (⟨1,fun _=>(⟨(w64 ((tL dt3 y3.to)+y3.length)),(w64 ((tV dt3 y3.to)+(1:Int)))⟩:far)⟩:(Sl far))).uses]))
 (S3 (!(match ((zcD (⟨(tL dt3 y3.from_),(tU dt3 y3.from_)⟩:far) (⟨1,fun _=>(⟨(w64 ((tL dt3 y3.to)+y3.length)),(w64 ((tV dt3 y3.to)+(1:Int)))⟩:far)⟩:(Sl far))).length == (tL dt3 y3.from_)) with | true=>(match ((zcD (⟨(tL dt3 y3.from_),(tU dt3 y3.from_)⟩:far) (⟨1,fun _=>(⟨(w64 ((tL dt3 y3.to)+y3.length)),(w64 ((tV dt3 y3.to)+(1:Int)))⟩:far)⟩:(Sl far))).uses == (tU dt3 y3.from_)) with | true=>true | false=>false) | false=>false)) t4t3 (ts 80 dt3 (0+y3.from_.toNat * 2+0) [(zcD (⟨(tL dt3 y3.from_),(tU dt3 y3.from_)⟩:far) (⟨1,fun _=>(⟨(w64 ((tL dt3 y3.to)+y3.length)),(w64 ((tV dt3 y3.to)+(1:Int)))⟩:far)⟩:(Sl far))).length,(zcD (⟨(tL dt3 y3.from_),(tU dt3 y3.from_)⟩:far) (⟨1,fun _=>(⟨(w64 ((tL dt3 y3.to)+y3.length)),(w64 ((tV dt3 y3.to)+(1:Int)))⟩:far)⟩:(Sl far))).uses]))))
def zrO (P2:Bool→Tab→Tab→Bool) (w:web) (y3:step) (P3:Bool→Tab→Tab→Bool) (zaa:Bool) (t4t3:Tab) (dt3:Tab):Bool :=
  (decide ((0≤y3.to∧y3.to < (40:Int))) &&
 (cond (nvr (tL dt3 y3.to) (tU dt3 y3.to))
 (P3 zaa t4t3 dt3)
 (decide ((0≤y3.from_∧y3.from_ < (40:Int))) &&
 (decide ((0≤y3.to∧y3.to < (40:Int))) &&
 (decide ((0≤y3.to∧y3.to < (40:Int))) &&
 (decide ((zxl (⟨(tL dt3 y3.from_),(tU dt3 y3.from_)⟩:far) (⟨1,fun _=>(⟨(w64 ((tL dt3 y3.to)+y3.length)),(w64 ((tV dt3 y3.to)+(1:Int)))⟩:far)⟩:(Sl far))=true)) &&
 (cond zaa
 (decide ((0≤y3.from_∧y3.from_ < (40:Int))) &&
 (P3 true t4t3 (ts 80 dt3 (0+y3.from_.toNat * 2+0) [(zcD (⟨(tL dt3 y3.from_),(tU dt3 y3.from_)⟩:far) (⟨1,fun _=>(⟨(w64 ((tL dt3 y3.to)+y3.length)),(w64 ((tV dt3 y3.to)+(1:Int)))⟩:far)⟩:(Sl far))).length,(zcD (⟨(tL dt3 y3.from_),(tU dt3 y3.from_)⟩:far) (⟨1,fun _=>(⟨(w64 ((tL dt3 y3.to)+y3.length)),(w64 ((tV dt3 y3.to)+(1:Int)))⟩:far)⟩:(Sl far))).uses])))
 (decide ((0≤y3.from_∧y3.from_ < (40:Int))) &&
 (decide ((0≤y3.from_∧y3.from_ < (40:Int))) &&
 (P3 (!(match ((zcD (⟨(tL dt3 y3.from_),(tU dt3 y3.from_)⟩:far) (⟨1,fun _=>(⟨(w64 ((tL dt3 y3.to)+y3.length)),(w64 ((tV dt3 y3.to)+(1:Int)))⟩:far)⟩:(Sl far))).length == (tL dt3 y3.from_)) with | true=>(match ((zcD (⟨(tL dt3 y3.from_),(tU dt3 y3.from_)⟩:far) (⟨1,fun _=>(⟨(w64 ((tL dt3 y3.to)+y3.length)),(w64 ((tV dt3 y3.to)+(1:Int)))⟩:far)⟩:(Sl far))).uses == (tU dt3 y3.from_)) with | true=>true | false=>false) | false=>false)) t4t3 (ts 80 dt3 (0+y3.from_.toNat * 2+0) [(zcD (⟨(tL dt3 y3.from_),(tU dt3 y3.from_)⟩:far) (⟨1,fun _=>(⟨(w64 ((tL dt3 y3.to)+y3.length)),(w64 ((tV dt3 y3.to)+(1:Int)))⟩:far)⟩:(Sl far))).length,(zcD (⟨(tL dt3 y3.from_),(tU dt3 y3.from_)⟩:far) (⟨1,fun _=>(⟨(w64 ((tL dt3 y3.to)+y3.length)),(w64 ((tV dt3 y3.to)+(1:Int)))⟩:far)⟩:(Sl far))).uses])))))))))))
def zlo (S2 : Bool → Tab → Tab → Tab) (w : web) : List step → Bool → Tab → Tab → Tab
  | []=>zrL S2 w
  | y :: r=>zrN S2 w y (zlo S2 w r)
def zlp (P2 : Bool → Tab → Tab → Bool) (w : web) : List step → Bool → Tab → Tab → Bool
  | []=>zrM P2 w
  | y :: r=>zrO P2 w y (zlp P2 w r)
def zyz (S2:Bool→Tab→Tab→Tab) (w:web) (zaa:Bool) (t4t3:Tab) (dt3:Tab):Tab:=zlo S2 w (zh5 w) zaa t4t3 dt3
def zrP (P2:Bool→Tab→Tab→Bool) (w:web) (zaa:Bool) (t4t3:Tab) (dt3:Tab):Bool:=decide ((zlT w=true)) && zlp P2 w (zh5 w) zaa t4t3 dt3
theorem zFN (K : List PA → Prop) (w : web)
  (X2:St→Prop) (P2:Bool→Tab→Tab→Bool) (S2:Bool→Tab→Tab→Tab)
  (hX2:∀ (zaf:Bool) (t4t2:Tab) (dt2:Tab),P2 zaf t4t2 dt2=true→K (e75 (S2 zaf t4t2 dt2))→X2 (zji w zaf t4t2 dt2)) (zaa:Bool) (t4t3:Tab) (dt3:Tab) (hs:zrP P2 w zaa t4t3 dt3=true) (hk:K (e75 (zyz S2 w zaa t4t3 dt3))):zln K X2 w zaa t4t3 dt3:=by
  unfold zrP at hs
  rw [Bool.and_eq_true] at hs
  obtain ⟨hsf,hs⟩:=hs
  have hc:=of_decide_eq_true hsf
  refine zyy K X2 w zaa t4t3 dt3 ⟨isE,rfl,hc⟩ ?_
  intro X3 hexit hstep
  have key:∀ (l:List step) (zaa:Bool) (t4t3:Tab) (dt3:Tab),zlp P2 w l zaa t4t3 dt3=true→K (e75 (zlo S2 w l zaa t4t3 dt3))→X3 (l.map fun y=>[.agg (zai y)]) (zgg w zaa t4t3 dt3):=by
    intro l
    induction l with
    | nil =>
      intro zaa t4t3 dt3 hs hk
      refine hexit zaa t4t3 dt3 ?_
      have hs:zrM P2 w zaa t4t3 dt3=true:=hs
      have hk:K (e75 (zrL S2 w zaa t4t3 dt3)):=hk
      unfold zrM at hs
      unfold zrL at hk
      exact (hX2 zaa t4t3 dt3 hs hk)
    | cons y3 l ih =>
      intro zaa t4t3 dt3 hs hk
      refine hstep y3 _ zaa t4t3 dt3 ?_
      have hs:zrO P2 w y3 (zlp P2 w l) zaa t4t3 dt3=true:=hs
      have hk:K (e75 (zrN S2 w y3 (zlo S2 w l) zaa t4t3 dt3)):=hk
      unfold zrO at hs
      unfold zrN at hk
      generalize zlo S2 w l=S3 at hk ih
      generalize zlp P2 w l=P3 at hs ih
      have hX3:=ih
      exact (zaU hs fun hc hs => ⟨hc, (za1 (K := fun r => K (e75 r))
 (fun hs hk=>(hX3 zaa t4t3 dt3 hs hk))
 (fun hs hk => (zaU hs fun hc hs => ⟨hc, (zaU hs fun hc hs => ⟨hc, (zaU hs fun hc hs => ⟨hc, (zaU hs fun hc hs => ⟨⟨zwZ, hc⟩, (za1 (K := fun r => K (e75 r))
 (fun hs hk=>(zaU hs fun hc hs=>⟨hc,(hX3 true t4t3 (ts 80 dt3 (0+y3.from_.toNat * 2+0) [(zcD (⟨(tL dt3 y3.from_),(tU dt3 y3.from_)⟩:far) (⟨1,fun _=>(⟨(w64 ((tL dt3 y3.to)+y3.length)),(w64 ((tV dt3 y3.to)+(1:Int)))⟩:far)⟩:(Sl far))).length,(zcD (⟨(tL dt3 y3.from_),(tU dt3 y3.from_)⟩:far) (⟨1,fun _=>(⟨(w64 ((tL dt3 y3.to)+y3.length)),(w64 ((tV dt3 y3.to)+(1:Int)))⟩:far)⟩:(Sl far))).uses]) hs hk)⟩))
 (fun hs hk=>(zaU hs fun hc hs=>⟨hc,(zaU hs fun hc hs=>⟨hc,(hX3 (!(match ((zcD (⟨(tL dt3 y3.from_),(tU dt3 y3.from_)⟩:far) (⟨1,fun _=>(⟨(w64 ((tL dt3 y3.to)+y3.length)),(w64 ((tV dt3 y3.to)+(1:Int)))⟩:far)⟩:(Sl far))).length == (tL dt3 y3.from_)) with | true=>(match ((zcD (⟨(tL dt3 y3.from_),(tU dt3 y3.from_)⟩:far) (⟨1,fun _=>(⟨(w64 ((tL dt3 y3.to)+y3.length)),(w64 ((tV dt3 y3.to)+(1:Int)))⟩:far)⟩:(Sl far))).uses == (tU dt3 y3.from_)) with | true=>true | false=>false) | false=>false)) t4t3 (ts 80 dt3 (0+y3.from_.toNat * 2+0) [(zcD (⟨(tL dt3 y3.from_),(tU dt3 y3.from_)⟩:far) (⟨1,fun _=>(⟨(w64 ((tL dt3 y3.to)+y3.length)),(w64 ((tV dt3 y3.to)+(1:Int)))⟩:far)⟩:(Sl far))).length,(zcD (⟨(tL dt3 y3.from_),(tU dt3 y3.from_)⟩:far) (⟨1,fun _=>(⟨(w64 ((tL dt3 y3.to)+y3.length)),(w64 ((tV dt3 y3.to)+(1:Int)))⟩:far)⟩:(Sl far))).uses]) hs hk)⟩)⟩)) hs hk)⟩)⟩)⟩)⟩)) hs hk)⟩)
  exact key _ zaa t4t3 dt3 hs hk
def zrQ (w:web) (S2:Bool→Tab→Tab→Tab) (zaf:Bool) (t4t2:Tab) (dt2:Tab):Tab :=
  (cond zaf
 (zyz S2 w false t4t2 dt2)
 dt2)
def zrR (w:web) (P2:Bool→Tab→Tab→Bool) (zaf:Bool) (t4t2:Tab) (dt2:Tab):Bool :=
  (cond zaf
 (zrP P2 w false t4t2 dt2)
 true)
def zlq (w : web) : Nat → Bool → Tab → Tab → Tab
  | 0=>fun _ _ _=>default
  | k+1=>zrQ w (zlq w k)
def zlr (w : web) : Nat → Bool → Tab → Tab → Bool
  | 0=>fun _ _ _=>false
  | k+1=>zrR w (zlr w k)
def zyA (w:web) (zaf:Bool) (t4t2:Tab) (dt2:Tab):Tab:=zlq w Fuel zaf t4t2 dt2
def zyB (w:web) (zaf:Bool) (t4t2:Tab) (dt2:Tab):Bool:=zlr w Fuel zaf t4t2 dt2
theorem zFO (K:List PA→Prop) (w:web) (zaf:Bool) (t4t2:Tab) (dt2:Tab) (hs:zyB w zaf t4t2 dt2=true) (hk:K (e75 (zyA w zaf t4t2 dt2))):zlm K w zaf t4t2 dt2:=by
  refine zyx K w zaf t4t2 dt2 ?_
  intro X2 hstep
  have key:∀ (k:Nat) (zaf:Bool) (t4t2:Tab) (dt2:Tab),zlr w k zaf t4t2 dt2=true→K (e75 (zlq w k zaf t4t2 dt2))→X2 (zji w zaf t4t2 dt2):=by
    intro k
    induction k with
    | zero=>intro zaf t4t2 dt2 hs;exact absurd hs Bool.false_ne_true
    | succ k ih =>
      intro zaf t4t2 dt2 hs hk
      refine hstep zaf t4t2 dt2 ?_
      have hs:zrR w (zlr w k) zaf t4t2 dt2=true:=hs
      have hk:K (e75 (zrQ w (zlq w k) zaf t4t2 dt2)):=hk
      unfold zrR at hs
      unfold zrQ at hk
      generalize zlq w k=S2 at hk ih
      generalize zlr w k=P2 at hs ih
      have hX2:=ih
      exact (za1 (K := fun r => K (e75 r))
 (fun hs hk=>⟨⟨isE,rfl⟩,(zFN K w X2 P2 S2 hX2 false t4t2 dt2 hs hk)⟩)
 (fun hs hk=>hk) hs hk)
  exact key _ zaf t4t2 dt2 hs hk
def zrS (w:web) (node:Int) (t4t1:Tab) (dt1:Tab):Tab :=
  (zyA w true t4t1 (ts 80 dt1 (0+node.toNat * 2+0) [(0:Int),(0:Int)]))
def zrT (w:web) (node:Int) (t4t1:Tab) (dt1:Tab):Bool :=
  (decide ((0≤node∧node < (40:Int))) &&
 (zyB w true t4t1 (ts 80 dt1 (0+node.toNat * 2+0) [(0:Int),(0:Int)])))
theorem zFP (K:List PA→Prop) (w:web) (node:Int) (t4t1:Tab) (dt1:Tab) (hs:zrT w node t4t1 dt1=true) (hk:K (e75 (zrS w node t4t1 dt1))):znU K w node t4t1 dt1:=by
  refine zbb (zFM K w node t4t1 dt1) ?_
  unfold zrT at hs
  unfold zrS at hk
  exact (zaU hs fun hc hs=>⟨hc,(zFO K w true t4t1 (ts 80 dt1 (0+node.toNat * 2+0) [(0:Int),(0:Int)]) hs hk)⟩)
def zrU (w:web) (node:Int) (S0:Int→Tab→Tab→Tab) (zaN:Int) (t4t0:Tab) (dt0:Tab):Tab :=
  (cond (decide (zaN < (40:Int)))
 (S0 (w64 (zaN+(1:Int))) t4t0 (ts 80 dt0 (0+zaN.toNat * 2+0) [(1000000000000:Int),(0:Int)]))
 (zrS w node t4t0 dt0))
def zrV (w:web) (node:Int) (P0:Int→Tab→Tab→Bool) (zaN:Int) (t4t0:Tab) (dt0:Tab):Bool :=
  (cond (decide (zaN < (40:Int)))
 (decide ((0≤zaN∧zaN < (40:Int))) &&
 (P0 (w64 (zaN+(1:Int))) t4t0 (ts 80 dt0 (0+zaN.toNat * 2+0) [(1000000000000:Int),(0:Int)])))
 (zrT w node t4t0 dt0))
def zls (w : web) (node : Int) : Nat → Int → Tab → Tab → Tab
  | 0=>fun _ _ _=>default
  | k+1=>zrU w node (zls w node k)
def zlt (w : web) (node : Int) : Nat → Int → Tab → Tab → Bool
  | 0=>fun _ _ _=>false
  | k+1=>zrV w node (zlt w node k)
def zyC (w:web) (node:Int) (zaN:Int) (t4t0:Tab) (dt0:Tab):Tab:=zls w node Fuel zaN t4t0 dt0
def zyD (w:web) (node:Int) (zaN:Int) (t4t0:Tab) (dt0:Tab):Bool:=zlt w node Fuel zaN t4t0 dt0
theorem zFQ (K:List PA→Prop) (w:web) (node:Int) (zaN:Int) (t4t0:Tab) (dt0:Tab) (hs:zyD w node zaN t4t0 dt0=true) (hk:K (e75 (zyC w node zaN t4t0 dt0))):zll K w node zaN t4t0 dt0:=by
  refine zyw K w node zaN t4t0 dt0 ?_
  intro X0 hstep
  have key:∀ (k:Nat) (zaN:Int) (t4t0:Tab) (dt0:Tab),zlt w node k zaN t4t0 dt0=true→K (e75 (zls w node k zaN t4t0 dt0))→X0 (zlk w node zaN t4t0 dt0):=by
    intro k
    induction k with
    | zero=>intro zaN t4t0 dt0 hs;exact absurd hs Bool.false_ne_true
    | succ k ih =>
      intro zaN t4t0 dt0 hs hk
      refine hstep zaN t4t0 dt0 ?_
      have hs:zrV w node (zlt w node k) zaN t4t0 dt0=true:=hs
      have hk:K (e75 (zrU w node (zls w node k) zaN t4t0 dt0)):=hk
      unfold zrV at hs
      unfold zrU at hk
      generalize zls w node k=S0 at hk ih
      generalize zlt w node k=P0 at hs ih
      have hX0:=ih
      exact (za1 (K := fun r => K (e75 r))
 (fun hs hk=>(zaU hs fun hc hs=>⟨hc,(hX0 (w64 (zaN+(1:Int))) t4t0 (ts 80 dt0 (0+zaN.toNat * 2+0) [(1000000000000:Int),(0:Int)]) hs hk)⟩))
 (fun hs hk=>(zFP K w node t4t0 dt0 hs hk)) hs hk)
  exact key _ zaN t4t0 dt0 hs hk
def s75 (w:web) (node:Int):Tab :=
  (zyC w node (0:Int) (fun _=>(0:Int)) (fun _=>(0:Int)))
def p75 (w:web) (node:Int):Bool :=
  (zyD w node (0:Int) (fun _=>(0:Int)) (fun _=>(0:Int)))
theorem q75 (w:web) (node:Int) (K:List PA→Prop) (hs:p75 w node=true) (hk:K (e75 (s75 w node))):vcFun Tryd.prog G75 zcH 75 [.one (.fp (zaD w) 0),.one (.int .i64 node)] K:=by
  refine zbb (zFL w node K) ?_
  unfold p75 at hs
  unfold s75 at hk
  exact (zFQ K w node (0:Int) (fun _=>(0:Int)) (fun _=>(0:Int)) hs hk)
def zyE : List PA → COut
  | [.one (.fp [.int .i64 zam,.sl zaj zaB zak,.fm zbd zaE zaF] 0),.one (.int .i64 a1)]=>.det (IsE enc_40 4 zaB zak∧zbd=(false,1,false,[none])∧p75 (⟨(⟨zam,(⟨zaj,zao zak⟩:(Sl Tie))⟩:Net),(⟨zaE,zaF⟩:Mp)⟩:web) a1=true) [.agg (zac ((s75 (⟨(⟨zam,(⟨zaj,zao zak⟩:(Sl Tie))⟩:Net),(⟨zaE,zaF⟩:Mp)⟩:web) a1)))]
  | _=>.no
theorem zJt:zax Tryd.prog 75:=⟨_,rfl,rfl,by kernel_rfl⟩
theorem zLU:Ok Tryd.prog 75 zyE:=zbv zLT zJt fun args K h=>by
  unfold zyE at h
  split at h
  · rename_i zam zaj zaB zak zbd zaE zaF a1
    obtain ⟨⟨⟨rfl,zat,rfl⟩,rfl,hs⟩,hk⟩:=h
    try rw [zan zat] at hs
    try rw [zan zat] at hk
    exact ⟨(fun _ _=>[]),(fun _=>false),zcH,q75 (⟨(⟨zam,(⟨zaj,zat⟩:(Sl Tie))⟩:Net),(⟨zaE,zaF⟩:Mp)⟩:web) a1 K hs hk⟩
  · exact h.elim
abbrev T76:Tabs:=(((Tabs.nil.addF 93 zo7).addF 104 zpd).addI 110 zo9)
theorem zLV:TabsOk Tryd.prog T76:=(((TabsOk.nil.addF zHU).addF zEW).addI zvc)
abbrev G76:Ctrs:=csm T76 (fun _ _=>[]) (fun _=>false)
def zcI:Ann:=⟨66,[(0,zK [0,1,4] [4]),(1,zK [0,1,4,5] [4,5]),(2,zK [0,1,4,5,10] [4,5]),(3,zK [0,1,4,5,10,11] [4,5]),(4,zK [0,1,4,5,6,10] [4,5]),(5,zK [0,1,4,5,10] [4,5]),(6,zK [0,1,4,5,10] [4,5]),(7,zK [0,4,5] [4,5]),(8,zK [0,4,5,7] [4,5,7]),(9,zK [0,4,5,7,20] [4,5,7]),(10,zK [0,4,5,7] [4,5,7]),(11,zK [0,4,5,7,22] [4,5,7]),(12,zK [0,4,5,7,8,22] [4,5,7,8]),(13,zK [0,4,5,7,8,22,29] [4,5,7,8]),(14,zK [0,4,5,7,8,9,22] [4,5,7,8,9]),(15,zK [0,4,5,7,8,9,22] [4,5,7,8,9]),(16,zK [0,4,5,7,22] [4,5,7]),(17,zK [0,4,5,64] [4,5]),(18,zK [0,4,5,7] [4,5,7]),(19,zK [4] [4])],
 [(3,zK [0,1,4,5,10] [4,5]),(9,zK [0,4,5,7] [4,5,7]),(12,zK [0,4,5,7,22] [4,5,7])],
 [(7,zK [0,1,4,5] [4,5])],
 [],[]⟩
def zlu (w:web) (node:Int) (zaN:Int) (t4t0:Tab) (dt0:Tab):St:=⟨[(0,.one (.c (.p (.fp (zaD w) 0)))),(1,.one (.c (.p (.int .i64 node)))),(4,.one (.c (.ptr 4 0))),(5,.one (.c (.ptr 5 0))),(10,.one (.c (.p (.int .i64 zaN))))],[(4,.box 116 (zm (zac t4t0))),(5,.box 116 (zm (zac dt0)))],[]⟩
def zlv (K:List PA→Prop) (w:web) (node:Int) (zaN:Int) (t4t0:Tab) (dt0:Tab):Prop:=vc Tryd.prog G76 zcI (cdF Tryd.f76 [1,1,0,1,0]) (zas 0 (sqK Tryd.prog G76 zcI (cdF Tryd.f76 [1,1,1]) (zbo Tryd.prog Tryd.f76 K))) (zlu w node zaN t4t0 dt0)
def zJu (w:web) (node:Int) (t4t1:Tab) (dt1:Tab):St:=⟨[(0,.one (.c (.p (.fp (zaD w) 0)))),(1,.one (.c (.p (.int .i64 node)))),(4,.one (.c (.ptr 4 0))),(5,.one (.c (.ptr 5 0)))],[(4,.box 116 (zm (zac t4t1))),(5,.box 116 (zm (zac dt1)))],[]⟩
def znV (K:List PA→Prop) (w:web) (node:Int) (t4t1:Tab) (dt1:Tab):Prop:=vc Tryd.prog G76 zcI (cdF Tryd.f76 [1,1,1]) (zbo Tryd.prog Tryd.f76 K) (zJu w node t4t1 dt1)
def zjj (w:web) (zaf:Bool) (t4t2:Tab) (dt2:Tab):St:=⟨[(0,.one (.c (.p (.fp (zaD w) 0)))),(4,.one (.c (.ptr 4 0))),(5,.one (.c (.ptr 5 0))),(7,.one (.c (.ptr 7 0)))],[(4,.box 116 (zm (zac t4t2))),(5,.box 116 (zm (zac dt2))),(7,.box 4 [.p (.bool zaf)])],[]⟩
def zlw (K:List PA→Prop) (w:web) (zaf:Bool) (t4t2:Tab) (dt2:Tab):Prop:=vc Tryd.prog G76 zcI (cdF Tryd.f76 [1,1,1,1,0,1,0]) (zas 2 (sqK Tryd.prog G76 zcI (cdF Tryd.f76 [1,1,1,1,1]) (zbo Tryd.prog Tryd.f76 K))) (zjj w zaf t4t2 dt2)
def zgh (w:web) (zaa:Bool) (t4t3:Tab) (dt3:Tab):St:=⟨[(0,.one (.c (.p (.fp (zaD w) 0)))),(4,.one (.c (.ptr 4 0))),(5,.one (.c (.ptr 5 0))),(7,.one (.c (.ptr 7 0))),(22,.one (.c (.p (.fn 110 [] [.fp [.fp (zaD w) 0] 0]))))],[(4,.box 116 (zm (zac t4t3))),(5,.box 116 (zm (zac dt3))),(7,.box 4 [.p (.bool zaa)])],[]⟩
def zlx (K:List PA→Prop) (X2:St→Prop) (w:web) (zaa:Bool) (t4t3:Tab) (dt3:Tab):Prop:=vc Tryd.prog G76 zcI (cdF Tryd.f76 [1,1,1,1,0,1,0,0,1,0,0,1,1,0]) (zas 4 (zas 3 (sqK Tryd.prog G76 zcI (cdF Tryd.f76 [1,1,1,1,0,1,0,0,1,1]) (zbq Tryd.prog zcI 9 X2 (zas 2 (sqK Tryd.prog G76 zcI (cdF Tryd.f76 [1,1,1,1,1]) (zbo Tryd.prog Tryd.f76 K))))))) (zgh w zaa t4t3 dt3)
theorem zFR (w : web) (node : Int) (K : List PA → Prop) :
  vcFun Tryd.prog G76 zcI 76 [.one (.fp (zaD w) 0),.one (.int .i64 node)] K =
  (zlv K w node (0:Int) (fun _=>(0:Int)) (fun _=>(0:Int))):=by kernel_rfl
def zpG (K:List PA→Prop) (X0:St→Prop) (w:web) (node:Int) (zaN:Int) (t4t0:Tab) (dt0:Tab):Prop :=
  (zbV (decide (zaN < (40:Int)))
 (((0≤zaN∧zaN < (40:Int))) ∧
 (X0 (zlu w node (w64 (zaN+(1:Int))) t4t0 (ts 80 dt0 (0+zaN.toNat * 2+0) [(1000000000000:Int),(0:Int)]))))
 (znV K w node t4t0 dt0))
theorem zrW (K : List PA → Prop) (X0 : St → Prop) (w : web) (node : Int) (zaN : Int) (t4t0 : Tab) (dt0 : Tab) :
  vc Tryd.prog G76 zcI (cd (cdF Tryd.f76 [1,1,0,1,0]) [0]) (zbq Tryd.prog zcI 3 X0 (zas 0 (sqK Tryd.prog G76 zcI (cdF Tryd.f76 [1,1,1]) (zbo Tryd.prog Tryd.f76 K)))) (zlu w node zaN t4t0 dt0) =
  zpG K X0 w node zaN t4t0 dt0:=by kernel_rfl
theorem zyF (K : List PA → Prop) (w : web) (node : Int) (zaN : Int) (t4t0 : Tab) (dt0 : Tab)
  (h:∀ X0:St→Prop,(∀ (zaN:Int) (t4t0:Tab) (dt0:Tab),zpG K X0 w node zaN t4t0 dt0→X0 (zlu w node zaN t4t0 dt0))→X0 (zlu w node zaN t4t0 dt0)) :
  zlv K w node zaN t4t0 dt0:=by
  have e:zlv K w node zaN t4t0 dt0=(∀ X:St→Prop,(∀ s,vc Tryd.prog G76 zcI (cd (cdF Tryd.f76 [1,1,0,1,0]) [0]) (zbq Tryd.prog zcI 3 X (zas 0 (sqK Tryd.prog G76 zcI (cdF Tryd.f76 [1,1,1]) (zbo Tryd.prog Tryd.f76 K)))) s→X s)→X (zlu w node zaN t4t0 dt0)):=by kernel_rfl
  refine zbb e ?_
  intro X hX
  refine h X ?_
  intro zaN t4t0 dt0 hs
  refine hX _ ?_
  have e2:=zrW K X w node zaN t4t0 dt0
  rw [e2]
  exact hs
theorem zFS (K : List PA → Prop) (w : web) (node : Int) (t4t1 : Tab) (dt1 : Tab) :
  znV K w node t4t1 dt1 =
  (((0≤node∧node < (40:Int))) ∧
 (zlw K w true t4t1 (ts 80 dt1 (0+node.toNat * 2+0) [(0:Int),(0:Int)]))):=by kernel_rfl
def zpH (K:List PA→Prop) (X2:St→Prop) (w:web) (zaf:Bool) (t4t2:Tab) (dt2:Tab):Prop :=
  (zbV zaf
 ((IsE enc_40 4 4 (fun i=>enc_40 (w.Net.Ties.get i))∧((false,1,false,[none]):MQ)=(false,1,false,[none])) ∧
 (zlx K X2 w false t4t2 dt2))
 (K [.agg (zac dt2)]))
theorem zrX (K : List PA → Prop) (X2 : St → Prop) (w : web) (zaf : Bool) (t4t2 : Tab) (dt2 : Tab) :
  vc Tryd.prog G76 zcI (cd (cdF Tryd.f76 [1,1,1,1,0,1,0]) [0]) (zbq Tryd.prog zcI 9 X2 (zas 2 (sqK Tryd.prog G76 zcI (cdF Tryd.f76 [1,1,1,1,1]) (zbo Tryd.prog Tryd.f76 K)))) (zjj w zaf t4t2 dt2) =
  zpH K X2 w zaf t4t2 dt2:=by kernel_rfl
theorem zyG (K : List PA → Prop) (w : web) (zaf : Bool) (t4t2 : Tab) (dt2 : Tab)
  (h:∀ X2:St→Prop,(∀ (zaf:Bool) (t4t2:Tab) (dt2:Tab),zpH K X2 w zaf t4t2 dt2→X2 (zjj w zaf t4t2 dt2))→X2 (zjj w zaf t4t2 dt2)) :
  zlw K w zaf t4t2 dt2:=by
  have e:zlw K w zaf t4t2 dt2=(∀ X:St→Prop,(∀ s,vc Tryd.prog G76 zcI (cd (cdF Tryd.f76 [1,1,1,1,0,1,0]) [0]) (zbq Tryd.prog zcI 9 X (zas 2 (sqK Tryd.prog G76 zcI (cdF Tryd.f76 [1,1,1,1,1]) (zbo Tryd.prog Tryd.f76 K)))) s→X s)→X (zjj w zaf t4t2 dt2)):=by kernel_rfl
  refine zbb e ?_
  intro X hX
  refine h X ?_
  intro zaf t4t2 dt2 hs
  refine hX _ ?_
  have e2:=zrX K X w zaf t4t2 dt2
  rw [e2]
  exact hs
def zpI (K:List PA→Prop) (X2:St→Prop) (w:web) (zaa:Bool) (t4t3:Tab) (dt3:Tab):Prop :=
  (X2 (zjj w zaa t4t3 dt3))
def zpJ (K:List PA→Prop) (X2:St→Prop) (X3:List (List PA)→St→Prop) (y3:step) (rest3:List (List PA)) (w:web) (zaa:Bool) (t4t3:Tab) (dt3:Tab):Prop :=
  (((0≤y3.from_∧y3.from_ < (40:Int))) ∧
 (zbV (nvr (tL dt3 y3.from_) (tU dt3 y3.from_))
 (X3 rest3 (zgh w zaa t4t3 dt3))
 (((0≤y3.to∧y3.to < (40:Int))) ∧
 (((0≤y3.from_∧y3.from_ < (40:Int))) ∧
 (((0≤y3.from_∧y3.from_ < (40:Int))) ∧
 ((IsE zcC 2 2 (fun _=>(zcC (⟨(w64 ((tL dt3 y3.from_)+y3.length)),(w64 ((tV dt3 y3.from_)+(1:Int)))⟩:far)))∧(zxl (⟨(tL dt3 y3.to),(tU dt3 y3.to)⟩:far) (⟨1,fun _=>(⟨(w64 ((tL dt3 y3.from_)+y3.length)),(w64 ((tV dt3 y3.from_)+(1:Int)))⟩:far)⟩:(Sl far))=true)) ∧
 (zbV zaa
 (((0≤y3.to∧y3.to < (40:Int))) ∧
 (X3 rest3 (zgh w true t4t3 (ts 80 dt3 (0+y3.to.toNat * 2+0) [(zcD (⟨(tL dt3 y3.to),(tU dt3 y3.to)⟩:far) (⟨1,fun _=>(⟨(w64 ((tL dt3 y3.from_)+y3.length)),(w64 ((tV dt3 y3.from_)+(1:Int)))⟩:far)⟩:(Sl far))).length,(zcD (⟨(tL dt3 y3.to),(tU dt3 y3.to)⟩:far) (⟨1,fun _=>(⟨(w64 ((tL dt3 y3.from_)+y3.length)),(w64 ((tV dt3 y3.from_)+(1:Int)))⟩:far)⟩:(Sl far))).uses]))))
 (((0≤y3.to∧y3.to < (40:Int))) ∧
 (((0≤y3.to∧y3.to < (40:Int))) ∧
 (X3 rest3 (zgh w (!(match ((zcD (⟨(tL dt3 y3.to),(tU dt3 y3.to)⟩:far) (⟨1,fun _=>(⟨(w64 ((tL dt3 y3.from_)+y3.length)),(w64 ((tV dt3 y3.from_)+(1:Int)))⟩:far)⟩:(Sl far))).length == (tL dt3 y3.to)) with | true=>(match ((zcD (⟨(tL dt3 y3.to),(tU dt3 y3.to)⟩:far) (⟨1,fun _=>(⟨(w64 ((tL dt3 y3.from_)+y3.length)),(w64 ((tV dt3 y3.from_)+(1:Int)))⟩:far)⟩:(Sl far))).uses == (tU dt3 y3.to)) with | true=>true | false=>false) | false=>false)) t4t3 (ts 80 dt3 (0+y3.to.toNat * 2+0) [(zcD (⟨(tL dt3 y3.to),(tU dt3 y3.to)⟩:far) (⟨1,fun _=>(⟨(w64 ((tL dt3 y3.from_)+y3.length)),(w64 ((tV dt3 y3.from_)+(1:Int)))⟩:far)⟩:(Sl far))).length,(zcD (⟨(tL dt3 y3.to),(tU dt3 y3.to)⟩:far) (⟨1,fun _=>(⟨(w64 ((tL dt3 y3.from_)+y3.length)),(w64 ((tV dt3 y3.from_)+(1:Int)))⟩:far)⟩:(Sl far))).uses]))))))))))))
theorem zrY (K:List PA→Prop) (X2:St→Prop) (w:web) (zaa:Bool) (t4t3:Tab) (dt3:Tab):(zas 4 (zas 3 (sqK Tryd.prog G76 zcI (cdF Tryd.f76 [1,1,1,1,0,1,0,0,1,1]) (zbq Tryd.prog zcI 9 X2 (zas 2 (sqK Tryd.prog G76 zcI (cdF Tryd.f76 [1,1,1,1,1]) (zbo Tryd.prog Tryd.f76 K))))))) .normal (zgh w zaa t4t3 dt3)=zpI K X2 w zaa t4t3 dt3:=by kernel_rfl
theorem zrZ (K : List PA → Prop) (X2 : St → Prop) (X3 : List (List PA) → St → Prop) (y3 : step) (rest3 : List (List PA)) (w : web) (zaa : Bool) (t4t3 : Tab) (dt3 : Tab) :
  zvs Tryd.prog G76 zcI 12 [23] (cd (cdF Tryd.f76 [1,1,1,1,0,1,0,0,1,0,0,1,1,0]) [0]) (cd (cdF Tryd.f76 [1,1,1,1,0,1,0,0,1,0,0,1,1,0]) [1]) X3 (zas 4 (zas 3 (sqK Tryd.prog G76 zcI (cdF Tryd.f76 [1,1,1,1,0,1,0,0,1,1]) (zbq Tryd.prog zcI 9 X2 (zas 2 (sqK Tryd.prog G76 zcI (cdF Tryd.f76 [1,1,1,1,1]) (zbo Tryd.prog Tryd.f76 K))))))) [.agg (zai y3)] rest3 (zgh w zaa t4t3 dt3)=zpJ K X2 X3 y3 rest3 w zaa t4t3 dt3:=by kernel_rfl
theorem zyH (K : List PA → Prop) (X2 : St → Prop) (w : web) (zaa : Bool) (t4t3 : Tab) (dt3 : Tab)
  (hsafe:IsE enc_40 4 4 (fun i=>enc_40 (w.Net.Ties.get i))∧((false,1,false,[none]):MQ)=(false,1,false,[none])∧(zlT w=true)) (h:∀ X3:List (List PA)→St→Prop,(∀ (zaa:Bool) (t4t3:Tab) (dt3:Tab),zpI K X2 w zaa t4t3 dt3→X3 [] (zgh w zaa t4t3 dt3))→(∀ (y:step) (rest:List (List PA)) (zaa:Bool) (t4t3:Tab) (dt3:Tab),zpJ K X2 X3 y rest w zaa t4t3 dt3→X3 ([.agg (zai y)] :: rest) (zgh w zaa t4t3 dt3))→X3 ((zh5 w).map fun y=>[.agg (zai y)]) (zgh w zaa t4t3 dt3)) :
  zlx K X2 w zaa t4t3 dt3:=by
  have e:zlx K X2 w zaa t4t3 dt3=((IsE enc_40 4 4 (fun i=>enc_40 (w.Net.Ties.get i))∧((false,1,false,[none]):MQ)=(false,1,false,[none])∧(zlT w=true))∧∀ X:List (List PA)→St→Prop,(∀ s,(zas 4 (zas 3 (sqK Tryd.prog G76 zcI (cdF Tryd.f76 [1,1,1,1,0,1,0,0,1,1]) (zbq Tryd.prog zcI 9 X2 (zas 2 (sqK Tryd.prog G76 zcI (cdF Tryd.f76 [1,1,1,1,1]) (zbo Tryd.prog Tryd.f76 K))))))) .normal s→X [] s)→(∀ y rest s,zvs Tryd.prog G76 zcI 12 [23] (cd (cdF Tryd.f76 [1,1,1,1,0,1,0,0,1,0,0,1,1,0]) [0]) (cd (cdF Tryd.f76 [1,1,1,1,0,1,0,0,1,0,0,1,1,0]) [1]) X (zas 4 (zas 3 (sqK Tryd.prog G76 zcI (cdF Tryd.f76 [1,1,1,1,0,1,0,0,1,1]) (zbq Tryd.prog zcI 9 X2 (zas 2 (sqK Tryd.prog G76 zcI (cdF Tryd.f76 [1,1,1,1,1]) (zbo Tryd.prog Tryd.f76 K))))))) y rest s→X (y :: rest) s)→X ((zh5 w).map fun y=>[.agg (zai y)]) (zgh w zaa t4t3 dt3)):=by kernel_rfl
  refine zbb e ⟨hsafe,?_⟩
  intro X h0 h1
  refine h X (fun zaa t4t3 dt3 hs=>h0 _ ?_) (fun y rest zaa t4t3 dt3 hs=>h1 _ rest _ ?_)
  · rw [zrY K X2 w zaa t4t3 dt3];exact hs
  · have e2 := zrZ K X2 X y rest w zaa t4t3 dt3
    rw [e2];exact hs
abbrev e76 (r:Tab):List PA:=[.agg (zac r)]
attribute [irreducible] zlv znV zlw zlx
def zr0 (S2:Bool→Tab→Tab→Tab) (w:web) (zaa:Bool) (t4t3:Tab) (dt3:Tab):Tab :=
  (S2 zaa t4t3 dt3)
def zr1 (P2:Bool→Tab→Tab→Bool) (w:web) (zaa:Bool) (t4t3:Tab) (dt3:Tab):Bool :=
  (P2 zaa t4t3 dt3)
def zly (S2:Bool→Tab→Tab→Tab) (w:web) (y3:step) (S3:Bool→Tab→Tab→Tab) (zaa:Bool) (t4t3:Tab) (dt3:Tab):Tab :=
  (cond (nvr (tL dt3 y3.from_) (tU dt3 y3.from_))
 (S3 zaa t4t3 dt3)
 (cond zaa
 (S3 true t4t3 (ts 80 dt3 (0+y3.to.toNat * 2+0) [(zcD (⟨(tL dt3 y3.to),(tU dt3 y3.to)⟩:far) (⟨1,fun _=>(⟨(w64 ((tL dt3 y3.from_)+y3.length)),(w64 ((tV dt3 y3.from_)+(1:Int)))⟩:far)⟩:(Sl far))).length,(zcD (⟨(tL dt3 y3.to),(tU dt3 y3.to)⟩:far) (⟨1,fun _=>(⟨(w64 ((tL dt3 y3.from_)+y3.length)),(w64 ((tV dt3 y3.from_)+(1:Int)))⟩:far)⟩:(Sl far))).uses]))
 (S3 (!(match ((zcD (⟨(tL dt3 y3.to),(tU dt3 y3.to)⟩:far) (⟨1,fun _=>(⟨(w64 ((tL dt3 y3.from_)+y3.length)),(w64 ((tV dt3 y3.from_)+(1:Int)))⟩:far)⟩:(Sl far))).length == (tL dt3 y3.to)) with | true=>(match ((zcD (⟨(tL dt3 y3.to),(tU dt3 y3.to)⟩:far) (⟨1,fun _=>(⟨(w64 ((tL dt3 y3.from_)+y3.length)),(w64 ((tV dt3 y3.from_)+(1:Int)))⟩:far)⟩:(Sl far))).uses == (tU dt3 y3.to)) with | true=>true | false=>false) | false=>false)) t4t3 (ts 80 dt3 (0+y3.to.toNat * 2+0) [(zcD (⟨(tL dt3 y3.to),(tU dt3 y3.to)⟩:far) (⟨1,fun _=>(⟨(w64 ((tL dt3 y3.from_)+y3.length)),(w64 ((tV dt3 y3.from_)+(1:Int)))⟩:far)⟩:(Sl far))).length,(zcD (⟨(tL dt3 y3.to),(tU dt3 y3.to)⟩:far) (⟨1,fun _=>(⟨(w64 ((tL dt3 y3.from_)+y3.length)),(w64 ((tV dt3 y3.from_)+(1:Int)))⟩:far)⟩:(Sl far))).uses]))))
def zlz (P2:Bool→Tab→Tab→Bool) (w:web) (y3:step) (P3:Bool→Tab→Tab→Bool) (zaa:Bool) (t4t3:Tab) (dt3:Tab):Bool :=
  (decide ((0≤y3.from_∧y3.from_ < (40:Int))) &&
 (cond (nvr (tL dt3 y3.from_) (tU dt3 y3.from_))
 (P3 zaa t4t3 dt3)
 (decide ((0≤y3.to∧y3.to < (40:Int))) &&
 (decide ((0≤y3.from_∧y3.from_ < (40:Int))) &&
 (decide ((0≤y3.from_∧y3.from_ < (40:Int))) &&
 (decide ((zxl (⟨(tL dt3 y3.to),(tU dt3 y3.to)⟩:far) (⟨1,fun _=>(⟨(w64 ((tL dt3 y3.from_)+y3.length)),(w64 ((tV dt3 y3.from_)+(1:Int)))⟩:far)⟩:(Sl far))=true)) &&
 (cond zaa
 (decide ((0≤y3.to∧y3.to < (40:Int))) &&
 (P3 true t4t3 (ts 80 dt3 (0+y3.to.toNat * 2+0) [(zcD (⟨(tL dt3 y3.to),(tU dt3 y3.to)⟩:far) (⟨1,fun _=>(⟨(w64 ((tL dt3 y3.from_)+y3.length)),(w64 ((tV dt3 y3.from_)+(1:Int)))⟩:far)⟩:(Sl far))).length,(zcD (⟨(tL dt3 y3.to),(tU dt3 y3.to)⟩:far) (⟨1,fun _=>(⟨(w64 ((tL dt3 y3.from_)+y3.length)),(w64 ((tV dt3 y3.from_)+(1:Int)))⟩:far)⟩:(Sl far))).uses])))
 (decide ((0≤y3.to∧y3.to < (40:Int))) &&
 (decide ((0≤y3.to∧y3.to < (40:Int))) &&
 (P3 (!(match ((zcD (⟨(tL dt3 y3.to),(tU dt3 y3.to)⟩:far) (⟨1,fun _=>(⟨(w64 ((tL dt3 y3.from_)+y3.length)),(w64 ((tV dt3 y3.from_)+(1:Int)))⟩:far)⟩:(Sl far))).length == (tL dt3 y3.to)) with | true=>(match ((zcD (⟨(tL dt3 y3.to),(tU dt3 y3.to)⟩:far) (⟨1,fun _=>(⟨(w64 ((tL dt3 y3.from_)+y3.length)),(w64 ((tV dt3 y3.from_)+(1:Int)))⟩:far)⟩:(Sl far))).uses == (tU dt3 y3.to)) with | true=>true | false=>false) | false=>false)) t4t3 (ts 80 dt3 (0+y3.to.toNat * 2+0) [(zcD (⟨(tL dt3 y3.to),(tU dt3 y3.to)⟩:far) (⟨1,fun _=>(⟨(w64 ((tL dt3 y3.from_)+y3.length)),(w64 ((tV dt3 y3.from_)+(1:Int)))⟩:far)⟩:(Sl far))).length,(zcD (⟨(tL dt3 y3.to),(tU dt3 y3.to)⟩:far) (⟨1,fun _=>(⟨(w64 ((tL dt3 y3.from_)+y3.length)),(w64 ((tV dt3 y3.from_)+(1:Int)))⟩:far)⟩:(Sl far))).uses])))))))))))
def zhb (S2 : Bool → Tab → Tab → Tab) (w : web) : List step → Bool → Tab → Tab → Tab
  | []=>zr0 S2 w
  | y :: r=>zly S2 w y (zhb S2 w r)
def zhc (P2 : Bool → Tab → Tab → Bool) (w : web) : List step → Bool → Tab → Tab → Bool
  | []=>zr1 P2 w
  | y :: r=>zlz P2 w y (zhc P2 w r)
def zr2 (S2:Bool→Tab→Tab→Tab) (w:web) (zaa:Bool) (t4t3:Tab) (dt3:Tab):Tab:=zhb S2 w (zh5 w) zaa t4t3 dt3
def znW (P2:Bool→Tab→Tab→Bool) (w:web) (zaa:Bool) (t4t3:Tab) (dt3:Tab):Bool:=decide ((zlT w=true)) && zhc P2 w (zh5 w) zaa t4t3 dt3
theorem zFT (K : List PA → Prop) (w : web)
  (X2:St→Prop) (P2:Bool→Tab→Tab→Bool) (S2:Bool→Tab→Tab→Tab)
  (hX2:∀ (zaf:Bool) (t4t2:Tab) (dt2:Tab),P2 zaf t4t2 dt2=true→K (e76 (S2 zaf t4t2 dt2))→X2 (zjj w zaf t4t2 dt2)) (zaa:Bool) (t4t3:Tab) (dt3:Tab) (hs:znW P2 w zaa t4t3 dt3=true) (hk:K (e76 (zr2 S2 w zaa t4t3 dt3))):zlx K X2 w zaa t4t3 dt3:=by
  unfold znW at hs
  rw [Bool.and_eq_true] at hs
  obtain ⟨hsf,hs⟩:=hs
  have hc:=of_decide_eq_true hsf
  refine zyH K X2 w zaa t4t3 dt3 ⟨isE,rfl,hc⟩ ?_
  intro X3 hexit hstep
  have key:∀ (l:List step) (zaa:Bool) (t4t3:Tab) (dt3:Tab),zhc P2 w l zaa t4t3 dt3=true→K (e76 (zhb S2 w l zaa t4t3 dt3))→X3 (l.map fun y=>[.agg (zai y)]) (zgh w zaa t4t3 dt3):=by
    intro l
    induction l with
    | nil =>
      intro zaa t4t3 dt3 hs hk
      refine hexit zaa t4t3 dt3 ?_
      have hs:zr1 P2 w zaa t4t3 dt3=true:=hs
      have hk:K (e76 (zr0 S2 w zaa t4t3 dt3)):=hk
      unfold zr1 at hs
      unfold zr0 at hk
      exact (hX2 zaa t4t3 dt3 hs hk)
    | cons y3 l ih =>
      intro zaa t4t3 dt3 hs hk
      refine hstep y3 _ zaa t4t3 dt3 ?_
      have hs:zlz P2 w y3 (zhc P2 w l) zaa t4t3 dt3=true:=hs
      have hk:K (e76 (zly S2 w y3 (zhb S2 w l) zaa t4t3 dt3)):=hk
      unfold zlz at hs
      unfold zly at hk
      generalize zhb S2 w l=S3 at hk ih
      generalize zhc P2 w l=P3 at hs ih
      have hX3:=ih
      exact (zaU hs fun hc hs => ⟨hc, (za1 (K := fun r => K (e76 r))
 (fun hs hk=>(hX3 zaa t4t3 dt3 hs hk))
 (fun hs hk => (zaU hs fun hc hs => ⟨hc, (zaU hs fun hc hs => ⟨hc, (zaU hs fun hc hs => ⟨hc, (zaU hs fun hc hs => ⟨⟨zwZ, hc⟩, (za1 (K := fun r => K (e76 r))
 (fun hs hk=>(zaU hs fun hc hs=>⟨hc,(hX3 true t4t3 (ts 80 dt3 (0+y3.to.toNat * 2+0) [(zcD (⟨(tL dt3 y3.to),(tU dt3 y3.to)⟩:far) (⟨1,fun _=>(⟨(w64 ((tL dt3 y3.from_)+y3.length)),(w64 ((tV dt3 y3.from_)+(1:Int)))⟩:far)⟩:(Sl far))).length,(zcD (⟨(tL dt3 y3.to),(tU dt3 y3.to)⟩:far) (⟨1,fun _=>(⟨(w64 ((tL dt3 y3.from_)+y3.length)),(w64 ((tV dt3 y3.from_)+(1:Int)))⟩:far)⟩:(Sl far))).uses]) hs hk)⟩))
 (fun hs hk=>(zaU hs fun hc hs=>⟨hc,(zaU hs fun hc hs=>⟨hc,(hX3 (!(match ((zcD (⟨(tL dt3 y3.to),(tU dt3 y3.to)⟩:far) (⟨1,fun _=>(⟨(w64 ((tL dt3 y3.from_)+y3.length)),(w64 ((tV dt3 y3.from_)+(1:Int)))⟩:far)⟩:(Sl far))).length == (tL dt3 y3.to)) with | true=>(match ((zcD (⟨(tL dt3 y3.to),(tU dt3 y3.to)⟩:far) (⟨1,fun _=>(⟨(w64 ((tL dt3 y3.from_)+y3.length)),(w64 ((tV dt3 y3.from_)+(1:Int)))⟩:far)⟩:(Sl far))).uses == (tU dt3 y3.to)) with | true=>true | false=>false) | false=>false)) t4t3 (ts 80 dt3 (0+y3.to.toNat * 2+0) [(zcD (⟨(tL dt3 y3.to),(tU dt3 y3.to)⟩:far) (⟨1,fun _=>(⟨(w64 ((tL dt3 y3.from_)+y3.length)),(w64 ((tV dt3 y3.from_)+(1:Int)))⟩:far)⟩:(Sl far))).length,(zcD (⟨(tL dt3 y3.to),(tU dt3 y3.to)⟩:far) (⟨1,fun _=>(⟨(w64 ((tL dt3 y3.from_)+y3.length)),(w64 ((tV dt3 y3.from_)+(1:Int)))⟩:far)⟩:(Sl far))).uses]) hs hk)⟩)⟩)) hs hk)⟩)⟩)⟩)⟩)) hs hk)⟩)
  exact key _ zaa t4t3 dt3 hs hk
def zlA (w:web) (S2:Bool→Tab→Tab→Tab) (zaf:Bool) (t4t2:Tab) (dt2:Tab):Tab :=
  (cond zaf
 (zr2 S2 w false t4t2 dt2)
 dt2)
def zlB (w:web) (P2:Bool→Tab→Tab→Bool) (zaf:Bool) (t4t2:Tab) (dt2:Tab):Bool :=
  (cond zaf
 (znW P2 w false t4t2 dt2)
 true)
def zel (w : web) : Nat → Bool → Tab → Tab → Tab
  | 0=>fun _ _ _=>default
  | k+1=>zlA w (zel w k)
def zem (w : web) : Nat → Bool → Tab → Tab → Bool
  | 0=>fun _ _ _=>false
  | k+1=>zlB w (zem w k)
def zr3 (w:web) (zaf:Bool) (t4t2:Tab) (dt2:Tab):Tab:=zel w Fuel zaf t4t2 dt2
def zr4 (w:web) (zaf:Bool) (t4t2:Tab) (dt2:Tab):Bool:=zem w Fuel zaf t4t2 dt2
theorem zFU (K:List PA→Prop) (w:web) (zaf:Bool) (t4t2:Tab) (dt2:Tab) (hs:zr4 w zaf t4t2 dt2=true) (hk:K (e76 (zr3 w zaf t4t2 dt2))):zlw K w zaf t4t2 dt2:=by
  refine zyG K w zaf t4t2 dt2 ?_
  intro X2 hstep
  have key:∀ (k:Nat) (zaf:Bool) (t4t2:Tab) (dt2:Tab),zem w k zaf t4t2 dt2=true→K (e76 (zel w k zaf t4t2 dt2))→X2 (zjj w zaf t4t2 dt2):=by
    intro k
    induction k with
    | zero=>intro zaf t4t2 dt2 hs;exact absurd hs Bool.false_ne_true
    | succ k ih =>
      intro zaf t4t2 dt2 hs hk
      refine hstep zaf t4t2 dt2 ?_
      have hs:zlB w (zem w k) zaf t4t2 dt2=true:=hs
      have hk:K (e76 (zlA w (zel w k) zaf t4t2 dt2)):=hk
      unfold zlB at hs
      unfold zlA at hk
      generalize zel w k=S2 at hk ih
      generalize zem w k=P2 at hs ih
      have hX2:=ih
      exact (za1 (K := fun r => K (e76 r))
 (fun hs hk=>⟨⟨isE,rfl⟩,(zFT K w X2 P2 S2 hX2 false t4t2 dt2 hs hk)⟩)
 (fun hs hk=>hk) hs hk)
  exact key _ zaf t4t2 dt2 hs hk
def zlC (w:web) (node:Int) (t4t1:Tab) (dt1:Tab):Tab :=
  (zr3 w true t4t1 (ts 80 dt1 (0+node.toNat * 2+0) [(0:Int),(0:Int)]))
def zlD (w:web) (node:Int) (t4t1:Tab) (dt1:Tab):Bool :=
  (decide ((0≤node∧node < (40:Int))) &&
 (zr4 w true t4t1 (ts 80 dt1 (0+node.toNat * 2+0) [(0:Int),(0:Int)])))
theorem zFV (K:List PA→Prop) (w:web) (node:Int) (t4t1:Tab) (dt1:Tab) (hs:zlD w node t4t1 dt1=true) (hk:K (e76 (zlC w node t4t1 dt1))):znV K w node t4t1 dt1:=by
  refine zbb (zFS K w node t4t1 dt1) ?_
  unfold zlD at hs
  unfold zlC at hk
  exact (zaU hs fun hc hs=>⟨hc,(zFU K w true t4t1 (ts 80 dt1 (0+node.toNat * 2+0) [(0:Int),(0:Int)]) hs hk)⟩)
def zhd (w:web) (node:Int) (S0:Int→Tab→Tab→Tab) (zaN:Int) (t4t0:Tab) (dt0:Tab):Tab :=
  (cond (decide (zaN < (40:Int)))
 (S0 (w64 (zaN+(1:Int))) t4t0 (ts 80 dt0 (0+zaN.toNat * 2+0) [(1000000000000:Int),(0:Int)]))
 (zlC w node t4t0 dt0))
def zhe (w:web) (node:Int) (P0:Int→Tab→Tab→Bool) (zaN:Int) (t4t0:Tab) (dt0:Tab):Bool :=
  (cond (decide (zaN < (40:Int)))
 (decide ((0≤zaN∧zaN < (40:Int))) &&
 (P0 (w64 (zaN+(1:Int))) t4t0 (ts 80 dt0 (0+zaN.toNat * 2+0) [(1000000000000:Int),(0:Int)])))
 (zlD w node t4t0 dt0))
def zfs (w : web) (node : Int) : Nat → Int → Tab → Tab → Tab
  | 0=>fun _ _ _=>default
  | k+1=>zhd w node (zfs w node k)
def zft (w : web) (node : Int) : Nat → Int → Tab → Tab → Bool
  | 0=>fun _ _ _=>false
  | k+1=>zhe w node (zft w node k)
def zyI (w:web) (node:Int) (zaN:Int) (t4t0:Tab) (dt0:Tab):Tab:=zfs w node Fuel zaN t4t0 dt0
def zyJ (w:web) (node:Int) (zaN:Int) (t4t0:Tab) (dt0:Tab):Bool:=zft w node Fuel zaN t4t0 dt0
theorem zFW (K:List PA→Prop) (w:web) (node:Int) (zaN:Int) (t4t0:Tab) (dt0:Tab) (hs:zyJ w node zaN t4t0 dt0=true) (hk:K (e76 (zyI w node zaN t4t0 dt0))):zlv K w node zaN t4t0 dt0:=by
  refine zyF K w node zaN t4t0 dt0 ?_
  intro X0 hstep
  have key:∀ (k:Nat) (zaN:Int) (t4t0:Tab) (dt0:Tab),zft w node k zaN t4t0 dt0=true→K (e76 (zfs w node k zaN t4t0 dt0))→X0 (zlu w node zaN t4t0 dt0):=by
    intro k
    induction k with
    | zero=>intro zaN t4t0 dt0 hs;exact absurd hs Bool.false_ne_true
    | succ k ih =>
      intro zaN t4t0 dt0 hs hk
      refine hstep zaN t4t0 dt0 ?_
      have hs:zhe w node (zft w node k) zaN t4t0 dt0=true:=hs
      have hk:K (e76 (zhd w node (zfs w node k) zaN t4t0 dt0)):=hk
      unfold zhe at hs
      unfold zhd at hk
      generalize zfs w node k=S0 at hk ih
      generalize zft w node k=P0 at hs ih
      have hX0:=ih
      exact (za1 (K := fun r => K (e76 r))
 (fun hs hk=>(zaU hs fun hc hs=>⟨hc,(hX0 (w64 (zaN+(1:Int))) t4t0 (ts 80 dt0 (0+zaN.toNat * 2+0) [(1000000000000:Int),(0:Int)]) hs hk)⟩))
 (fun hs hk=>(zFV K w node t4t0 dt0 hs hk)) hs hk)
  exact key _ zaN t4t0 dt0 hs hk
def s76 (w:web) (node:Int):Tab :=
  (zyI w node (0:Int) (fun _=>(0:Int)) (fun _=>(0:Int)))
def p76 (w:web) (node:Int):Bool :=
  (zyJ w node (0:Int) (fun _=>(0:Int)) (fun _=>(0:Int)))
theorem q76 (w:web) (node:Int) (K:List PA→Prop) (hs:p76 w node=true) (hk:K (e76 (s76 w node))):vcFun Tryd.prog G76 zcI 76 [.one (.fp (zaD w) 0),.one (.int .i64 node)] K:=by
  refine zbb (zFR w node K) ?_
  unfold p76 at hs
  unfold s76 at hk
  exact (zFW K w node (0:Int) (fun _=>(0:Int)) (fun _=>(0:Int)) hs hk)
def zvo : List PA → COut
  | [.one (.fp [.int .i64 zam,.sl zaj zaB zak,.fm zbd zaE zaF] 0),.one (.int .i64 a1)]=>.det (IsE enc_40 4 zaB zak∧zbd=(false,1,false,[none])∧p76 (⟨(⟨zam,(⟨zaj,zao zak⟩:(Sl Tie))⟩:Net),(⟨zaE,zaF⟩:Mp)⟩:web) a1=true) [.agg (zac ((s76 (⟨(⟨zam,(⟨zaj,zao zak⟩:(Sl Tie))⟩:Net),(⟨zaE,zaF⟩:Mp)⟩:web) a1)))]
  | _=>.no
theorem zJv:zax Tryd.prog 76:=⟨_,rfl,rfl,by kernel_rfl⟩
theorem zK6:Ok Tryd.prog 76 zvo:=zbv zLV zJv fun args K h=>by
  unfold zvo at h
  split at h
  · rename_i zam zaj zaB zak zbd zaE zaF a1
    obtain ⟨⟨⟨rfl,zat,rfl⟩,rfl,hs⟩,hk⟩:=h
    try rw [zan zat] at hs
    try rw [zan zat] at hk
    exact ⟨(fun _ _=>[]),(fun _=>false),zcI,q76 (⟨(⟨zam,(⟨zaj,zat⟩:(Sl Tie))⟩:Net),(⟨zaE,zaF⟩:Mp)⟩:web) a1 K hs hk⟩
  · exact h.elim
abbrev T26:Tabs:=(((Tabs.nil.addF 74 zvn).addF 75 zyE).addF 76 zvo)
theorem zLW:TabsOk Tryd.prog T26:=(((TabsOk.nil.addF zK5).addF zLU).addF zK6)
abbrev G26:Ctrs:=csm T26 (fun _ _=>[]) (fun _=>false)
def zFX:Ann:=⟨45,[(0,zK [1] [1]),(1,zK [1,4,5] [1]),(2,zK [1,4,5,16] [1]),(3,zK [2,3] []),(4,zK [1,6,7] [1,6,7]),(5,zK [6,7,8] [6,7,24]),(6,zK [6,7,8,26,27] [6,7,24]),(7,zK [6,7,8,26,27,28] [6,7,24]),(8,zK [6,7,8,9,26,27] [6,7,24]),(9,zK [6,7,8,26,27] [6,7,24]),(10,zK [6,7,8,26,27] [6,7,24]),(11,zK [2,3] [24])],
 [(7,zK [6,7,8,26,27] [6,7,24])],
 [],
 [],[]⟩
abbrev R26:=((Sl Span)×Int)
abbrev e26 (r:R26):List PA:=[.one (.sl r.1.len 2 (fun i=>zbQ (r.1.get i))),.one (.int .i64 r.2)]
@[irreducible] def z26:=ptF Tryd.prog G26 zFX Tryd.f26
def zDu (n:Net) (zcJ:Int) (zdm:(Sl Span)) (tot0:Tab) (fromt0:Tab) (zgi:Nat→List PV):St:=⟨[(6,zp 6 0),(7,zp 7 0),(8,zv 24),(26,zI (n.Nodes.toNat:Int)),(27,zI zcJ)],[(6,.box 116 (zm (zac tot0))),(7,.box 116 (zm (zac fromt0))),(24,.vec 43 2 16 zdm.len zgi)],[]⟩
abbrev zJw (K:List PA→Prop) (n:Net) (X:St→Prop) (P:Int→(Sl Span)→Tab→Tab→Bool) (S:Int→(Sl Span)→Tab→Tab→((Sl Span)×Int)):Prop:=∀ ⦃zcJ:Int⦄ ⦃zdm:(Sl Span)⦄ ⦃tot0:Tab⦄ ⦃fromt0:Tab⦄ ⦃zgi:Nat→List PV⦄,P zcJ zdm tot0 fromt0=true→K (e26 (S zcJ zdm tot0 fromt0))→zgi=zg zbQ zdm→X (zDu n zcJ zdm tot0 fromt0 zgi)
section
variable {K:List PA→Prop} {n:Net} {zcJ:Int} {zdm:(Sl Span)} {tot0:Tab} {fromt0:Tab} {zgi:Nat→List PV} {X0:St→Prop} {P0:Int→(Sl Span)→Tab→Tab→Bool} {S0:Int→(Sl Span)→Tab→Tab→((Sl Span)×Int)}
def zyK (n:Net) (S0:Int→(Sl Span)→Tab→Tab→((Sl Span)×Int)) (zcJ:Int) (zdm:(Sl Span)) (tot0:Tab) (fromt0:Tab):((Sl Span)×Int) :=
  (cond (decide (zcJ < (n.Nodes.toNat : Int)))
 (S0 (w64 (zcJ+(1:Int))) (⟨zdm.len,(setT zcJ.toNat (⟨(w64 (0 - (tg 80 tot0 (0+zcJ.toNat * 2+0)))),(tg 80 fromt0 (0+zcJ.toNat * 2+0))⟩:Span) zdm.get)⟩:Sl Span) tot0 fromt0)
 (zdm,(0:Int)))
def zyL (n:Net) (P0:Int→(Sl Span)→Tab→Tab→Bool) (zcJ:Int) (zdm:(Sl Span)) (tot0:Tab) (fromt0:Tab):Bool :=
  (cond (decide (zcJ < (n.Nodes.toNat : Int)))
 (decide ((0≤zcJ∧zcJ < (40:Int))) &&
 (decide ((0≤zcJ∧zcJ < (40:Int))) &&
 (decide ((0≤zcJ∧zcJ < (zdm.len:Int))) &&
 (decide ((zcJ.toNat < zdm.len)) &&
 (P0 (w64 (zcJ+(1:Int))) (⟨zdm.len,(setT zcJ.toNat (⟨(w64 (0 - (tg 80 tot0 (0+zcJ.toNat * 2+0)))),(tg 80 fromt0 (0+zcJ.toNat * 2+0))⟩:Span) zdm.get)⟩:Sl Span) tot0 fromt0)))))
 true)
def zyM (n:Net):Nat→Int→(Sl Span)→Tab→Tab→((Sl Span)×Int):=lpO (fun _ _ _ _=>default) (zyK n)
def zyN (n:Net):Nat→Int→(Sl Span)→Tab→Tab→Bool:=lpO (fun _ _ _ _=>false) (zyL n)
def zyO (n:Net) (zcJ:Int) (zdm:(Sl Span)) (tot0:Tab) (fromt0:Tab):((Sl Span)×Int):=zyM n Fuel zcJ zdm tot0 fromt0
def zyP (n:Net) (zcJ:Int) (zdm:(Sl Span)) (tot0:Tab) (fromt0:Tab):Bool:=zyN n Fuel zcJ zdm tot0 fromt0
theorem zFY (hs:zyP n zcJ zdm tot0 fromt0=true) (hk:K (e26 (zyO n zcJ zdm tot0 fromt0))) (zr5:zgi=zg zbQ zdm):z26 (Wk K) [1,1,1,1,1,0,1,0] [] (zDu n zcJ zdm tot0 fromt0 zgi) :=
  zl (fun X=>z26 (Wk K) [1,1,1,1,1,0,1,0,0] [X]) (by kernel_rfl) fun X0 hX =>
  (show ∀ k, zJw K n X0 (zyN n k) (zyM n k) from zh4 _ _ (zyL n) (zyK n) (zJw K n X0)
 (by intro _ _ _ _ _ hs;exact absurd hs Bool.false_ne_true)
 (by intro P0 S0 hX0 zcJ zdm tot0 fromt0 zgi hs hk zr5;subst zr5;exact hX _ (zbb (by kernel_rfl) (zc hs hk (fun hs hk=>(zaU hs fun hc hs=>And.intro hc (zaU hs fun hc hs=>And.intro hc (zaU hs fun hc hs=>And.intro hc (zaU hs fun hc hs=>And.intro hc (hX0 hs hk (zfz (enc:=zbQ) (i:=zcJ.toNat) (k:=0) (f:=zdm.get) (new:=(zbQ (⟨(w64 (0 - (tg 80 tot0 (0+zcJ.toNat * 2+0)))),(tg 80 fromt0 (0+zcJ.toNat * 2+0))⟩:Span))) (v:=(⟨(w64 (0 - (tg 80 tot0 (0+zcJ.toNat * 2+0)))),(tg 80 fromt0 (0+zcJ.toNat * 2+0))⟩:Span)) rfl rfl))))))) (fun hs hk=>((zgR hk):Wk K [.one (.sl zdm.len 2 (fun i=>zbQ (zdm.get i))),.one (.int .i64 (0:Int))])))))) _ hs hk zr5
def s26 (n:Net):((Sl Span)×Int) :=
  (cond ((s74 n (⟨0, fun _ => default⟩ : (Sl Int))).2 == 0)
 (cond ((0:Int) != (0:Int))
 ((⟨0,fun _=>default⟩:(Sl Span)),(0:Int))
 (zyO n (0:Int) (⟨n.Nodes.toNat,(fun _=>(⟨(0:Int),(0:Int)⟩:Span))⟩:Sl Span) (s75 (⟨(s74 n (⟨0,fun _=>default⟩:(Sl Int))).1.Net,((s74 n (⟨0,fun _=>default⟩:(Sl Int))).1.out)⟩:web) (0:Int)) (s76 (⟨(s74 n (⟨0,fun _=>default⟩:(Sl Int))).1.Net,((s74 n (⟨0,fun _=>default⟩:(Sl Int))).1.out)⟩:web) (0:Int))))
 (cond ((s74 n (⟨0, fun _ => default⟩ : (Sl Int))).2 != (0:Int))
 ((⟨0,fun _=>default⟩:(Sl Span)),(s74 n (⟨0,fun _=>default⟩:(Sl Int))).2)
 default))
def p26 (n:Net):Bool :=
  (cond ((s74 n (⟨0, fun _ => default⟩ : (Sl Int))).2 == 0)
 (decide ((p74 n (⟨0,fun _=>default⟩:(Sl Int))=true)) &&
 (cond ((0:Int) != (0:Int))
 true
 (decide ((p75 (⟨(s74 n (⟨0,fun _=>default⟩:(Sl Int))).1.Net,((s74 n (⟨0,fun _=>default⟩:(Sl Int))).1.out)⟩:web) (0:Int)=true)) &&
 (decide ((p76 (⟨(s74 n (⟨0,fun _=>default⟩:(Sl Int))).1.Net,((s74 n (⟨0,fun _=>default⟩:(Sl Int))).1.out)⟩:web) (0:Int)=true)) &&
 (decide ((0≤n.Nodes∧n.Nodes=n.Nodes∧n.Nodes≤1000000)) &&
 (zyP n (0:Int) (⟨n.Nodes.toNat,(fun _=>(⟨(0:Int),(0:Int)⟩:Span))⟩:Sl Span) (s75 (⟨(s74 n (⟨0,fun _=>default⟩:(Sl Int))).1.Net,((s74 n (⟨0,fun _=>default⟩:(Sl Int))).1.out)⟩:web) (0:Int)) (s76 (⟨(s74 n (⟨0,fun _=>default⟩:(Sl Int))).1.Net,((s74 n (⟨0,fun _=>default⟩:(Sl Int))).1.out)⟩:web) (0:Int))))))))
 (decide ((p74 n (⟨0,fun _=>default⟩:(Sl Int))=true)) &&
 (cond ((s74 n (⟨0, fun _ => default⟩ : (Sl Int))).2 != (0:Int))
 true
 false)))
end
theorem q26 (n:Net) (K:List PA→Prop) (hs:p26 n=true) (hk:K (e26 (s26 n))):vcFun Tryd.prog G26 zFX 26 [.agg (enc_24 n)] (Wk K) :=
  zbb (by kernel_rfl) (zc hs hk (fun hs hk=>(zaU hs fun hc hs=>And.intro (And.intro (zE enc_40 4 n.Ties.get) hc) (zc hs hk (fun hs hk=>((wk hk (zh3 (.one (.nil _ _)) (zh3 (.one (.rfl _)) zo4))):Wk K [.one (.nils),.one (.int .i64 (0:Int))])) (fun hs hk=>(zaU hs fun hc hs=>And.intro (And.intro (zE enc_40 4 ((s74 n (⟨0,fun _=>default⟩:(Sl Int))).1.Net.Ties.get)) (And.intro (rfl:((false,1,false,[none]):MQ)=(false,1,false,[none])) hc)) (zaU hs fun hc hs=>And.intro (And.intro (zE enc_40 4 ((s74 n (⟨0,fun _=>default⟩:(Sl Int))).1.Net.Ties.get)) (And.intro (rfl:((false,1,false,[none]):MQ)=(false,1,false,[none])) hc)) (zaU hs fun hc hs=>And.intro hc (zFY hs hk rfl)))))))) (fun hs hk=>(zaU hs fun hc hs=>And.intro (And.intro (zE enc_40 4 n.Ties.get) hc) (zc hs hk (fun hs hk=>((wk hk (zh3 (.one (.nil _ _)) (zh3 (.one (.rfl _)) zo4))):Wk K [.one (.nils),.one (.int .i64 ((s74 n (⟨0,fun _=>default⟩:(Sl Int))).2))])) (fun hs hk=>(absurd hs Bool.false_ne_true:False))))))
def zFZ : List PA → COut
  | [.agg [.int .i64 zah,.sl zae zaz zad]]=>.det (IsE enc_40 4 zaz zad∧p26 (⟨zah,(⟨zae,zao zad⟩:(Sl Tie))⟩:Net)=true) [.one (.sl (((s26 (⟨zah,(⟨zae,zao zad⟩:(Sl Tie))⟩:Net)).1).len) 2 (fun i=>zbQ (((s26 (⟨zah,(⟨zae,zao zad⟩:(Sl Tie))⟩:Net)).1).get i))),.one (.int .i64 ((s26 (⟨zah,(⟨zae,zao zad⟩:(Sl Tie))⟩:Net)).2))]
  | _=>.no
theorem zJx:zax Tryd.prog 26:=⟨_,rfl,rfl,by kernel_rfl⟩
theorem zNP:Ok Tryd.prog 26 zFZ:=zij zLW zJx fun args K h=>by
  unfold zFZ at h
  split at h
  · rename_i zah zae zaz zad
    obtain ⟨⟨⟨rfl,zar,rfl⟩,hs⟩,hk⟩:=h
    try rw [zan zar] at hs
    try rw [zan zar] at hk
    exact ⟨_,zfU zgQ _,(fun _ _=>[]),(fun _=>false),zFX,q26 (⟨zah,(⟨zae,zar⟩:(Sl Tie))⟩:Net) K hs hk⟩
  · exact h.elim
abbrev T29:Tabs:=Tabs.nil
theorem zLX:TabsOk Tryd.prog T29:=TabsOk.nil
abbrev G29:Ctrs:=csm T29 (fun _ _=>[]) (fun _=>false)
def zJy:Ann:=⟨13,[(0,zK [2,3,4] [2,3,4]),(1,zK [2,4] [2,4,7]),(2,zK [4] [4,7])],
 [],
 [],
 [],[]⟩
abbrev R29:=Net
abbrev e29 (r:R29):List PA:=[.agg [.int .i64 r.Nodes,.sl r.Ties.len 4 (fun i=>enc_40 (r.Ties.get i))]]
section
variable {K:List PA→Prop} {n:Net} {t:Tie}
def s29 (n:Net) (t:Tie):Net :=
  (⟨n.Nodes,(⟨(n.Ties.len+1),(zg6 n.Ties.len n.Ties.get (fun _=>t))⟩:(Sl Tie))⟩:Net)
def p29 (n:Net) (t:Tie):Bool :=
  (decide ((n.Ties.len * 32≤140737488355328∧n.Ties.len≤9223372036854775807)) &&
 (decide (((n.Ties.len+1) * 32≤140737488355328∧n.Ties.len+1≤9223372036854775807)) &&
 true))
end
theorem q29 (n:Net) (t:Tie) (K:List PA→Prop) (hs:p29 n t=true) (hk:K (e29 (s29 n t))):vcFun Tryd.prog G29 zJy 29 [.agg (enc_24 n),.agg (enc_40 t)] K :=
  zbb (by kernel_rfl) (zaU hs fun hc hs=>And.intro hc (zaU hs fun hc hs=>And.intro hc (Eq.mpr (congrArg K (congrArg (fun (g_:Nat→List PV)=>([.agg [.int .i64 n.Nodes,.sl (n.Ties.len+1) 4 g_]]:List PA)) (zkH (enc:=enc_40) (f:=n.Ties.get) (h:=(fun _=>t)) rfl rfl))) hk)))
def zF0 : List PA → COut
  | [.agg [.int .i64 zah,.sl zae zaz zad],.agg [.int .i64 zbI,.int .i64 zda,.int .i64 zcd,.int .i64 zbJ]]=>.det (IsE enc_40 4 zaz zad∧p29 (⟨zah,(⟨zae,zao zad⟩:(Sl Tie))⟩:Net) (⟨zbI,zda,zcd,zbJ⟩:Tie)=true) [.agg [.int .i64 ((s29 (⟨zah,(⟨zae,zao zad⟩:(Sl Tie))⟩:Net) (⟨zbI,zda,zcd,zbJ⟩:Tie)).Nodes),.sl ((s29 (⟨zah,(⟨zae,zao zad⟩:(Sl Tie))⟩:Net) (⟨zbI,zda,zcd,zbJ⟩:Tie)).Ties.len) 4 (fun i=>enc_40 ((s29 (⟨zah,(⟨zae,zao zad⟩:(Sl Tie))⟩:Net) (⟨zbI,zda,zcd,zbJ⟩:Tie)).Ties.get i))]]
  | _=>.no
theorem zJz:zax Tryd.prog 29:=⟨_,rfl,rfl,by kernel_rfl⟩
theorem zNQ:Ok Tryd.prog 29 zF0:=zbv zLX zJz fun args K h=>by
  unfold zF0 at h
  split at h
  · rename_i zah zae zaz zad zbI zda zcd zbJ
    obtain ⟨⟨⟨rfl,zar,rfl⟩,hs⟩,hk⟩:=h
    try rw [zan zar] at hs
    try rw [zan zar] at hk
    exact ⟨(fun _ _=>[]),(fun _=>false),zJy,q29 (⟨zah,(⟨zae,zar⟩:(Sl Tie))⟩:Net) (⟨zbI,zda,zcd,zbJ⟩:Tie) K hs hk⟩
  · exact h.elim
abbrev T32:Tabs:=Tabs.nil
theorem zLY:TabsOk Tryd.prog T32:=TabsOk.nil
abbrev G32:Ctrs:=csm T32 (fun _ _=>[]) (fun _=>false)
def zF1:Ann:=⟨26,[(0,zK [0,1] []),(1,zK [0,1,10] []),(2,zK [4] []),(3,zK [0,1,5] []),(4,zK [0,1,5,14] []),(5,zK [0,1,5] []),(6,zK [0,1,5,25] []),(7,zK [4] []),(8,zK [4] [])],
 [(4,zK [0,1,5] [])],
 [(3,zK [0,1] [])],
 [],[]⟩
abbrev R32:=Bool
abbrev e32 (r:R32):List PA:=[.one (.bool r)]
@[irreducible] def z32:=ptF Tryd.prog G32 zF1 Tryd.f32
def zDv (a:(Sl Span)) (b:(Sl Span)) (iv1:Int):St:=⟨[(0,zS zbQ 2 a),(1,zS zbQ 2 b),(5,zI iv1)],[],[]⟩
abbrev zJA (K:List PA→Prop) (a:(Sl Span)) (b:(Sl Span)) (X:St→Prop) (P:Int→Bool) (S:Int→Bool):Prop:=∀ ⦃iv1:Int⦄,P iv1=true→K (e32 (S iv1))→X (zDv a b iv1)
section
variable {K:List PA→Prop} {a:(Sl Span)} {b:(Sl Span)} {iv1:Int} {X1:St→Prop} {P1:Int→Bool} {S1:Int→Bool}
def zyQ (a:(Sl Span)) (b:(Sl Span)) (S1:Int→Bool) (iv1:Int):Bool :=
  (cond (decide (iv1 < (a.len : Int)))
 (cond (!(match ((a.get iv1.toNat).Low == (b.get iv1.toNat).Low) with | true => (match ((a.get iv1.toNat).High == (b.get iv1.toNat).High) with | true => true | false => false) | false => false))
 false
 (S1 (w64 (iv1+(1:Int)))))
 true)
def zyR (a:(Sl Span)) (b:(Sl Span)) (P1:Int→Bool) (iv1:Int):Bool :=
  (cond (decide (iv1 < (a.len : Int)))
 (decide ((0≤iv1∧iv1 < (a.len:Int))) &&
 (decide ((0≤iv1∧iv1 < (b.len:Int))) &&
 (cond (!(match ((a.get iv1.toNat).Low == (b.get iv1.toNat).Low) with | true => (match ((a.get iv1.toNat).High == (b.get iv1.toNat).High) with | true => true | false => false) | false => false))
 true
 (P1 (w64 (iv1+(1:Int)))))))
 true)
def zyS (a:(Sl Span)) (b:(Sl Span)):Nat→Int→Bool:=lpO (fun _=>default) (zyQ a b)
def zyT (a:(Sl Span)) (b:(Sl Span)):Nat→Int→Bool:=lpO (fun _=>false) (zyR a b)
def zyU (a:(Sl Span)) (b:(Sl Span)) (iv1:Int):Bool:=zyS a b Fuel iv1
def zyV (a:(Sl Span)) (b:(Sl Span)) (iv1:Int):Bool:=zyT a b Fuel iv1
theorem zF2 (hs:zyV a b iv1=true) (hk:K (e32 (zyU a b iv1))):z32 K [1,1,0,1,0] [] (zDv a b iv1) :=
  zl (fun X=>z32 K [1,1,0,1,0,0] [X]) (by kernel_rfl) fun X1 hX =>
  (show ∀ k, zJA K a b X1 (zyT a b k) (zyS a b k) from zh4 _ _ (zyR a b) (zyQ a b) (zJA K a b X1)
 (by intro _ hs;exact absurd hs Bool.false_ne_true)
 (by intro P1 S1 hX1 iv1 hs hk;exact hX _ (zbb (by kernel_rfl) (zc hs hk (fun hs hk=>(zaU hs fun hc hs=>And.intro hc (zaU hs fun hc hs=>And.intro hc (zc hs hk (fun hs hk=>hk) (fun hs hk=>(hX1 hs hk)))))) (fun hs hk=>hk))))) _ hs hk
def zyW (a:(Sl Span)) (b:(Sl Span)):Bool :=
  (zyU a b (0:Int))
def zyX (a:(Sl Span)) (b:(Sl Span)):Bool :=
  (zyV a b (0:Int))
theorem zF3 (hs:zyX a b=true) (hk:K (e32 (zyW a b))):z32 K [1,1] [] ⟨[(0,zS zbQ 2 a),(1,zS zbQ 2 b)],[],[]⟩:=zbb (by kernel_rfl) (zF2 hs hk)
def s32 (a:(Sl Span)) (b:(Sl Span)):Bool :=
  (cond ((a.len : Int) != (b.len : Int))
 false
 (zyW a b))
def p32 (a:(Sl Span)) (b:(Sl Span)):Bool :=
  (cond ((a.len : Int) != (b.len : Int))
 true
 (zyX a b))
end
theorem q32 (a:(Sl Span)) (b:(Sl Span)) (K:List PA→Prop) (hs:p32 a b=true) (hk:K (e32 (s32 a b))):vcFun Tryd.prog G32 zF1 32 [.one (.sl a.len 2 (fun i=>zbQ (a.get i))),.one (.sl b.len 2 (fun i=>zbQ (b.get i)))] K :=
  zbb (by kernel_rfl) (zc hs hk (fun hs hk=>hk) (fun hs hk=>(zF3 hs hk)))
def zF4 : List PA → COut
  | [.one (.sl zf4 zmC zf5),.one (.sl zd5 zit zdV)]=>.det (IsE zbQ 2 zmC zf5∧IsE zbQ 2 zit zdV∧p32 (⟨zf4,zfV zf5⟩:(Sl Span)) (⟨zd5,zfV zdV⟩:(Sl Span))=true) [.one (.bool (s32 (⟨zf4,zfV zf5⟩:(Sl Span)) (⟨zd5,zfV zdV⟩:(Sl Span))))]
  | _=>.no
theorem zJB:zax Tryd.prog 32:=⟨_,rfl,rfl,by kernel_rfl⟩
theorem ok32:Ok Tryd.prog 32 zF4:=zbv zLY zJB fun args K h=>by
  unfold zF4 at h
  split at h
  · rename_i zf4 zmC zf5 zd5 zit zdV
    obtain ⟨⟨⟨rfl,zis,rfl⟩,⟨rfl,zf7,rfl⟩,hs⟩,hk⟩:=h
    try rw [zfj zis] at hs
    try rw [zfj zis] at hk
    try rw [zfj zf7] at hs
    try rw [zfj zf7] at hk
    exact ⟨(fun _ _=>[]),(fun _=>false),zF1,q32 (⟨zf4,zis⟩:(Sl Span)) (⟨zd5,zf7⟩:(Sl Span)) K hs hk⟩
  · exact h.elim
abbrev T83:Tabs:=((Tabs.nil.addF 75 zyE).addF 76 zvo)
theorem zLZ:TabsOk Tryd.prog T83:=((TabsOk.nil.addF zLU).addF zK6)
abbrev G83:Ctrs:=csm T83 (fun _ _=>[]) (fun _=>false)
def zF5:Ann:=⟨31,[(0,zK [0] []),(1,zK [0,3,4] [3,4]),(2,zK [3,4,14,15] [3,4]),(3,zK [3,4,14,15,16] [3,4]),(4,zK [3,4,5,14,15] [3,4]),(5,zK [3,4,14,15,29] [3,4]),(6,zK [2] []),(7,zK [3,4,14,15] [3,4]),(8,zK [2] [])],
 [(3,zK [3,4,14,15] [3,4])],
 [(2,zK [0,3,4] [3,4])],
 [],[]⟩
abbrev R83:=Bool
abbrev e83 (r:R83):List PA:=[.one (.bool r)]
@[irreducible] def z83:=ptF Tryd.prog G83 zF5 Tryd.f83
def zDw (w:web) (zc6:Int) (tot1:Tab) (fromt1:Tab):St:=⟨[(3,zp 3 0),(4,zp 4 0),(14,zI w.Net.Nodes),(15,zI zc6)],[(3,.box 116 (zm (zac tot1))),(4,.box 116 (zm (zac fromt1)))],[]⟩
abbrev zJC (K:List PA→Prop) (w:web) (X:St→Prop) (P:Int→Tab→Tab→Bool) (S:Int→Tab→Tab→Bool):Prop:=∀ ⦃zc6:Int⦄ ⦃tot1:Tab⦄ ⦃fromt1:Tab⦄,P zc6 tot1 fromt1=true→K (e83 (S zc6 tot1 fromt1))→X (zDw w zc6 tot1 fromt1)
section
variable {K:List PA→Prop} {w:web} {tot0:Tab} {fromt0:Tab} {zc6:Int} {tot1:Tab} {fromt1:Tab} {X1:St→Prop} {P1:Int→Tab→Tab→Bool} {S1:Int→Tab→Tab→Bool}
def zyY (w:web) (S1:Int→Tab→Tab→Bool) (zc6:Int) (tot1:Tab) (fromt1:Tab):Bool :=
  (cond (decide (zc6 < w.Net.Nodes))
 (cond (match ((tg 80 tot1 (0 + zc6.toNat * 2 + 0)) == (1000000000000:Int)) with | true => (match ((tg 80 tot1 (0 + zc6.toNat * 2 + 0 + 1)) == (0:Int)) with | true => true | false => false) | false => false)
 false
 (cond (match ((tg 80 fromt1 (0 + zc6.toNat * 2 + 0)) == (1000000000000:Int)) with | true => (match ((tg 80 fromt1 (0 + zc6.toNat * 2 + 0 + 1)) == (0:Int)) with | true => true | false => false) | false => false)
 false
 (S1 (w64 (zc6+(1:Int))) tot1 fromt1)))
 true)
def zyZ (w:web) (P1:Int→Tab→Tab→Bool) (zc6:Int) (tot1:Tab) (fromt1:Tab):Bool :=
  (cond (decide (zc6 < w.Net.Nodes))
 (decide ((0≤zc6∧zc6 < (40:Int))) &&
 (cond (match ((tg 80 tot1 (0 + zc6.toNat * 2 + 0)) == (1000000000000:Int)) with | true => (match ((tg 80 tot1 (0 + zc6.toNat * 2 + 0 + 1)) == (0:Int)) with | true => true | false => false) | false => false)
 true
 (decide ((0≤zc6∧zc6 < (40:Int))) &&
 (cond (match ((tg 80 fromt1 (0 + zc6.toNat * 2 + 0)) == (1000000000000:Int)) with | true => (match ((tg 80 fromt1 (0 + zc6.toNat * 2 + 0 + 1)) == (0:Int)) with | true => true | false => false) | false => false)
 true
 (P1 (w64 (zc6+(1:Int))) tot1 fromt1)))))
 true)
def zy0 (w:web):Nat→Int→Tab→Tab→Bool:=lpO (fun _ _ _=>default) (zyY w)
def zy1 (w:web):Nat→Int→Tab→Tab→Bool:=lpO (fun _ _ _=>false) (zyZ w)
def zy2 (w:web) (zc6:Int) (tot1:Tab) (fromt1:Tab):Bool:=zy0 w Fuel zc6 tot1 fromt1
def zy3 (w:web) (zc6:Int) (tot1:Tab) (fromt1:Tab):Bool:=zy1 w Fuel zc6 tot1 fromt1
theorem zF6 (hs:zy3 w zc6 tot1 fromt1=true) (hk:K (e83 (zy2 w zc6 tot1 fromt1))):z83 K [1,1,0,1,0] [] (zDw w zc6 tot1 fromt1) :=
  zl (fun X=>z83 K [1,1,0,1,0,0] [X]) (by kernel_rfl) fun X1 hX =>
  (show ∀ k, zJC K w X1 (zy1 w k) (zy0 w k) from zh4 _ _ (zyZ w) (zyY w) (zJC K w X1)
 (by intro _ _ _ hs;exact absurd hs Bool.false_ne_true)
 (by intro P1 S1 hX1 zc6 tot1 fromt1 hs hk;exact hX _ (zbb (by kernel_rfl) (zc hs hk (fun hs hk=>(zaU hs fun hc hs=>And.intro hc (zc hs hk (fun hs hk=>hk) (fun hs hk=>(zaU hs fun hc hs=>And.intro hc (zc hs hk (fun hs hk=>hk) (fun hs hk=>(hX1 hs hk)))))))) (fun hs hk=>hk))))) _ hs hk
def zy4 (w:web) (tot0:Tab) (fromt0:Tab):Bool :=
  (zy2 w (0:Int) tot0 fromt0)
def zy5 (w:web) (tot0:Tab) (fromt0:Tab):Bool :=
  (zy3 w (0:Int) tot0 fromt0)
theorem zF7 (hs:zy5 w tot0 fromt0=true) (hk:K (e83 (zy4 w tot0 fromt0))):z83 K [1,1] [] ⟨[(0,zP (.fp (zaD w) 0)),(3,zp 3 0),(4,zp 4 0)],[(3,.box 116 (zm (zac tot0))),(4,.box 116 (zm (zac fromt0)))],[]⟩:=zbb (by kernel_rfl) (zF6 hs hk)
def s83 (w:web):Bool :=
  (zy4 w (s75 w (0:Int)) (s76 w (0:Int)))
def p83 (w:web):Bool :=
  (decide ((p75 w (0:Int)=true)) &&
 (decide ((p76 w (0:Int)=true)) &&
 (zy5 w (s75 w (0:Int)) (s76 w (0:Int)))))
end
theorem q83 (w:web) (K:List PA→Prop) (hs:p83 w=true) (hk:K (e83 (s83 w))):vcFun Tryd.prog G83 zF5 83 [.one (.fp (zaD w) 0)] K :=
  zbb (by kernel_rfl) (zaU hs fun hc hs=>And.intro (And.intro (zE enc_40 4 w.Net.Ties.get) (And.intro (rfl:((false,1,false,[none]):MQ)=(false,1,false,[none])) hc)) (zaU hs fun hc hs=>And.intro (And.intro (zE enc_40 4 w.Net.Ties.get) (And.intro (rfl:((false,1,false,[none]):MQ)=(false,1,false,[none])) hc)) (zF7 hs hk)))
def zF8 : List PA → COut
  | [.one (.fp [.int .i64 zam,.sl zaj zaB zak,.fm zbd zaE zaF] 0)]=>.det (IsE enc_40 4 zaB zak∧zbd=(false,1,false,[none])∧p83 (⟨(⟨zam,(⟨zaj,zao zak⟩:(Sl Tie))⟩:Net),(⟨zaE,zaF⟩:Mp)⟩:web)=true) [.one (.bool (s83 (⟨(⟨zam,(⟨zaj,zao zak⟩:(Sl Tie))⟩:Net),(⟨zaE,zaF⟩:Mp)⟩:web)))]
  | _=>.no
theorem zJD:zax Tryd.prog 83:=⟨_,rfl,rfl,by kernel_rfl⟩
theorem zNR:Ok Tryd.prog 83 zF8:=zbv zLZ zJD fun args K h=>by
  unfold zF8 at h
  split at h
  · rename_i zam zaj zaB zak zbd zaE zaF
    obtain ⟨⟨⟨rfl,zat,rfl⟩,rfl,hs⟩,hk⟩:=h
    try rw [zan zat] at hs
    try rw [zan zat] at hk
    exact ⟨(fun _ _=>[]),(fun _=>false),zF5,q83 (⟨(⟨zam,(⟨zaj,zat⟩:(Sl Tie))⟩:Net),(⟨zaE,zaF⟩:Mp)⟩:web) K hs hk⟩
  · exact h.elim
abbrev T85:Tabs:=Tabs.nil
theorem zL0:TabsOk Tryd.prog T85:=TabsOk.nil
abbrev G85:Ctrs:=csm T85 (fun _ _=>[]) (fun _=>false)
def zJE:Ann:=⟨8,[(0,zK [0,1] []),(1,zK [3] [])],
 [],
 [],
 [],[]⟩
abbrev R85:=Int
abbrev e85 (r:R85):List PA:=[.one (.int .i64 r)]
section
variable {K:List PA→Prop} {c0:Tab} {i_a0:Int}
def s85 (c0:Tab) (i_a0:Int):Int :=
  (tg 80 c0 (0+i_a0.toNat * 2+0))
def p85 (c0:Tab) (i_a0:Int):Bool :=
  (decide ((0≤i_a0∧i_a0 < (40:Int))) &&
 true)
end
theorem q85 (c0:Tab) (i_a0:Int) (K:List PA→Prop) (hs:p85 c0 i_a0=true) (hk:K (e85 (s85 c0 i_a0))):vcFun Tryd.prog G85 zJE 85 [.one (.int .i64 i_a0),.one (.fp (zac c0) 0)] K :=
  zbb (by kernel_rfl) (zaU hs fun hc hs=>And.intro hc hk)
def zF9 : List PA → COut
  | [.one (.int .i64 a0),.one (.fp c0_t 0)]=>.det (c0_t=zac (zaL c0_t)∧p85 (zaL c0_t) a0=true) [.one (.int .i64 (s85 (zaL c0_t) a0))]
  | _=>.no
theorem zJF:zax Tryd.prog 85:=⟨_,rfl,rfl,by kernel_rfl⟩
theorem zNS:Ok Tryd.prog 85 zF9:=zbv zL0 zJF fun args K h=>by
  unfold zF9 at h
  split at h
  · rename_i a0 c0_t
    obtain ⟨⟨hT_c0,hs⟩,hk⟩:=h
    exact ⟨(fun _ _=>[]),(fun _=>false),zJE,(by have hq:=q85 (zaL c0_t) a0 K hs hk;rw [← hT_c0] at hq;exact hq)⟩
  · exact h.elim
abbrev T86:Tabs:=Tabs.nil
theorem zL1:TabsOk Tryd.prog T86:=TabsOk.nil
abbrev G86:Ctrs:=csm T86 (fun _ _=>[]) (fun _=>false)
def zJG:Ann:=⟨9,[(0,zK [0,1] []),(1,zK [3] [])],
 [],
 [],
 [],[]⟩
abbrev R86:=Int
abbrev e86 (r:R86):List PA:=[.one (.int .i64 r)]
section
variable {K:List PA→Prop} {c0:Tab} {i_a0:Int}
def s86 (c0:Tab) (i_a0:Int):Int :=
  (w64 (0 - (tg 80 c0 (0+i_a0.toNat * 2+0))))
def p86 (c0:Tab) (i_a0:Int):Bool :=
  (decide ((0≤i_a0∧i_a0 < (40:Int))) &&
 true)
end
theorem q86 (c0:Tab) (i_a0:Int) (K:List PA→Prop) (hs:p86 c0 i_a0=true) (hk:K (e86 (s86 c0 i_a0))):vcFun Tryd.prog G86 zJG 86 [.one (.int .i64 i_a0),.one (.fp (zac c0) 0)] K :=
  zbb (by kernel_rfl) (zaU hs fun hc hs=>And.intro hc hk)
def zGa : List PA → COut
  | [.one (.int .i64 a0),.one (.fp c0_t 0)]=>.det (c0_t=zac (zaL c0_t)∧p86 (zaL c0_t) a0=true) [.one (.int .i64 (s86 (zaL c0_t) a0))]
  | _=>.no
theorem zJH:zax Tryd.prog 86:=⟨_,rfl,rfl,by kernel_rfl⟩
theorem zNT:Ok Tryd.prog 86 zGa:=zbv zL1 zJH fun args K h=>by
  unfold zGa at h
  split at h
  · rename_i a0 c0_t
    obtain ⟨⟨hT_c0,hs⟩,hk⟩:=h
    exact ⟨(fun _ _=>[]),(fun _=>false),zJG,(by have hq:=q86 (zaL c0_t) a0 K hs hk;rw [← hT_c0] at hq;exact hq)⟩
  · exact h.elim
abbrev T87:Tabs:=Tabs.nil
theorem zL2:TabsOk Tryd.prog T87:=TabsOk.nil
abbrev G87:Ctrs:=csm T87 (fun _ _=>[]) (fun _=>false)
def zJI:Ann:=⟨12,[(0,zK [0,1] []),(1,zK [3] [])],
 [],
 [],
 [],[]⟩
abbrev R87:=Int
abbrev e87 (r:R87):List PA:=[.one (.int .i64 r)]
section
variable {K:List PA→Prop} {c0:Tab} {i_a0:Int}
def s87 (c0:Tab) (i_a0:Int):Int :=
  (w64 ((tg 80 c0 (0+i_a0.toNat * 2+0)) - (tg 80 c0 (0+0 * 2+0))))
def p87 (c0:Tab) (i_a0:Int):Bool :=
  (decide ((0≤i_a0∧i_a0 < (40:Int))) &&
 (decide ((0≤(0:Int)∧(0:Int) < (40:Int))) &&
 true))
end
theorem q87 (c0:Tab) (i_a0:Int) (K:List PA→Prop) (hs:p87 c0 i_a0=true) (hk:K (e87 (s87 c0 i_a0))):vcFun Tryd.prog G87 zJI 87 [.one (.int .i64 i_a0),.one (.fp (zac c0) 0)] K :=
  zbb (by kernel_rfl) (zaU hs fun hc hs=>And.intro hc (zaU hs fun hc hs=>And.intro hc hk))
def zGb : List PA → COut
  | [.one (.int .i64 a0),.one (.fp c0_t 0)]=>.det (c0_t=zac (zaL c0_t)∧p87 (zaL c0_t) a0=true) [.one (.int .i64 (s87 (zaL c0_t) a0))]
  | _=>.no
theorem zJJ:zax Tryd.prog 87:=⟨_,rfl,rfl,by kernel_rfl⟩
theorem zNU:Ok Tryd.prog 87 zGb:=zbv zL2 zJJ fun args K h=>by
  unfold zGb at h
  split at h
  · rename_i a0 c0_t
    obtain ⟨⟨hT_c0,hs⟩,hk⟩:=h
    exact ⟨(fun _ _=>[]),(fun _=>false),zJI,(by have hq:=q87 (zaL c0_t) a0 K hs hk;rw [← hT_c0] at hq;exact hq)⟩
  · exact h.elim
abbrev T84:Tabs:=(((Tabs.nil.addF 85 zF9).addF 86 zGa).addF 87 zGb)
theorem zL3:TabsOk Tryd.prog T84:=(((TabsOk.nil.addF zNS).addF zNT).addF zNU)
abbrev G84:Ctrs:=csm T84 (fun _ _=>[]) (fun _=>false)
def zGc:Ann:=⟨26,[(0,zK [0,1] []),(1,zK [1,5] [12]),(2,zK [1,5,14,15] [12]),(3,zK [1,5,14,15,16] [12]),(4,zK [1,5,6,14,15] [12]),(5,zK [1,5,14,15] [12]),(6,zK [1,5,14,15] [12]),(7,zK [4] [12])],
 [(3,zK [1,5,14,15] [12])],
 [],
 [],[]⟩
abbrev R84:=(Sl Int)
abbrev e84 (r:R84):List PA:=[.one (.sl r.len 1 (fun i=>enc_3 (r.get i)))]
@[irreducible] def z84:=ptF Tryd.prog G84 zGc Tryd.f84
def zDx (c0:Tab) (w:web) (zaP:Int) (zbh:(Sl Int)) (zb8:Nat→List PV):St:=⟨[(1,zP (.fn 87 [] [.fp (zac c0) 0])),(5,zv 12),(14,zI (w.Net.Nodes.toNat:Int)),(15,zI zaP)],[(12,.vec 3 1 8 zbh.len zb8)],[]⟩
abbrev zJK (K:List PA→Prop) (c0:Tab) (w:web) (X:St→Prop) (P:Int→(Sl Int)→Bool) (S:Int→(Sl Int)→(Sl Int)):Prop:=∀ ⦃zaP:Int⦄ ⦃zbh:(Sl Int)⦄ ⦃zb8:Nat→List PV⦄,P zaP zbh=true→K (e84 (S zaP zbh))→zb8=zg enc_3 zbh→X (zDx c0 w zaP zbh zb8)
section
variable {K:List PA→Prop} {c0:Tab} {w:web} {zaP:Int} {zbh:(Sl Int)} {zb8:Nat→List PV} {X0:St→Prop} {P0:Int→(Sl Int)→Bool} {S0:Int→(Sl Int)→(Sl Int)}
def zy6 (c0:Tab) (w:web) (S0:Int→(Sl Int)→(Sl Int)) (zaP:Int) (zbh:(Sl Int)):(Sl Int) :=
  (cond (decide (zaP < (w.Net.Nodes.toNat : Int)))
 (S0 (w64 (zaP+(1:Int))) (⟨zbh.len,(setT zaP.toNat (s87 (zaL (zac c0)) zaP) zbh.get)⟩:Sl Int))
 zbh)
def zy7 (c0:Tab) (w:web) (P0:Int→(Sl Int)→Bool) (zaP:Int) (zbh:(Sl Int)):Bool :=
  (cond (decide (zaP < (w.Net.Nodes.toNat : Int)))
 (decide ((p87 (zaL (zac c0)) zaP=true)) &&
 (decide ((0≤zaP∧zaP < (zbh.len:Int))) &&
 (decide ((zaP.toNat < zbh.len)) &&
 (P0 (w64 (zaP+(1:Int))) (⟨zbh.len,(setT zaP.toNat (s87 (zaL (zac c0)) zaP) zbh.get)⟩:Sl Int)))))
 true)
def zy8 (c0:Tab) (w:web):Nat→Int→(Sl Int)→(Sl Int):=lpO (fun _ _=>default) (zy6 c0 w)
def zy9 (c0:Tab) (w:web):Nat→Int→(Sl Int)→Bool:=lpO (fun _ _=>false) (zy7 c0 w)
def zza (c0:Tab) (w:web) (zaP:Int) (zbh:(Sl Int)):(Sl Int):=zy8 c0 w Fuel zaP zbh
def zzb (c0:Tab) (w:web) (zaP:Int) (zbh:(Sl Int)):Bool:=zy9 c0 w Fuel zaP zbh
theorem zGd (hs:zzb c0 w zaP zbh=true) (hk:K (e84 (zza c0 w zaP zbh))) (zen:zb8=zg enc_3 zbh):z84 K [1,1,0,1,0] [] (zDx c0 w zaP zbh zb8) :=
  zl (fun X=>z84 K [1,1,0,1,0,0] [X]) (by kernel_rfl) fun X0 hX =>
  (show ∀ k, zJK K c0 w X0 (zy9 c0 w k) (zy8 c0 w k) from zh4 _ _ (zy7 c0 w) (zy6 c0 w) (zJK K c0 w X0)
 (by intro _ _ _ hs;exact absurd hs Bool.false_ne_true)
 (by intro P0 S0 hX0 zaP zbh zb8 hs hk zen;subst zen;exact hX _ (zbb (by kernel_rfl) (zc hs hk (fun hs hk=>(zaU hs fun hc hs=>And.intro (And.intro (zhI:zac c0=zac (zaL (zac c0))) hc) (zaU hs fun hc hs=>And.intro hc (zaU hs fun hc hs=>And.intro hc (hX0 hs hk (zfz (enc:=enc_3) (i:=zaP.toNat) (k:=0) (f:=zbh.get) (new:=(enc_3 (s87 (zaL (zac c0)) zaP))) (v:=(s87 (zaL (zac c0)) zaP)) rfl rfl)))))) (fun hs hk=>hk))))) _ hs hk zen
def s84 (c0:Tab) (w:web):(Sl Int) :=
  (zza c0 w (0:Int) (⟨w.Net.Nodes.toNat,(fun _=>(0:Int))⟩:Sl Int))
def p84 (c0:Tab) (w:web):Bool :=
  (decide ((0≤w.Net.Nodes∧w.Net.Nodes=w.Net.Nodes∧w.Net.Nodes≤1000000)) &&
 (zzb c0 w (0:Int) (⟨w.Net.Nodes.toNat,(fun _=>(0:Int))⟩:Sl Int)))
end
theorem q84 (c0:Tab) (w:web) (K:List PA→Prop) (hs:p84 c0 w=true) (hk:K (e84 (s84 c0 w))):vcFun Tryd.prog G84 zGc 84 [.one (.fp (zaD w) 0),.one (.fn 87 [] [.fp (zac c0) 0])] K :=
  zbb (by kernel_rfl) (zaU hs fun hc hs=>And.intro hc (zGd hs hk rfl))
abbrev zM3:Ctrs:=csm T84 (fun _ _=>[]) (fun _=>false)
def zzc:Ann:=⟨26,[(0,zK [0,1] []),(1,zK [1,5] [12]),(2,zK [1,5,14,15] [12]),(3,zK [1,5,14,15,16] [12]),(4,zK [1,5,6,14,15] [12]),(5,zK [1,5,14,15] [12]),(6,zK [1,5,14,15] [12]),(7,zK [4] [12])],
 [(3,zK [1,5,14,15] [12])],
 [],
 [],[]⟩
abbrev zNV:=(Sl Int)
abbrev zL4 (r:zNV):List PA:=[.one (.sl r.len 1 (fun i=>enc_3 (r.get i)))]
@[irreducible] def z84a:=ptF Tryd.prog zM3 zzc Tryd.f84
def zzd (c0:Tab) (w:web) (zaP:Int) (zbh:(Sl Int)) (zb8:Nat→List PV):St:=⟨[(1,zP (.fn 85 [] [.fp (zac c0) 0])),(5,zv 12),(14,zI (w.Net.Nodes.toNat:Int)),(15,zI zaP)],[(12,.vec 3 1 8 zbh.len zb8)],[]⟩
abbrev zDy (K:List PA→Prop) (c0:Tab) (w:web) (X:St→Prop) (P:Int→(Sl Int)→Bool) (S:Int→(Sl Int)→(Sl Int)):Prop:=∀ ⦃zaP:Int⦄ ⦃zbh:(Sl Int)⦄ ⦃zb8:Nat→List PV⦄,P zaP zbh=true→K (zL4 (S zaP zbh))→zb8=zg enc_3 zbh→X (zzd c0 w zaP zbh zb8)
section
variable {K:List PA→Prop} {c0:Tab} {w:web} {zaP:Int} {zbh:(Sl Int)} {zb8:Nat→List PV} {X0:St→Prop} {P0:Int→(Sl Int)→Bool} {S0:Int→(Sl Int)→(Sl Int)}
def zt7 (c0:Tab) (w:web) (S0:Int→(Sl Int)→(Sl Int)) (zaP:Int) (zbh:(Sl Int)):(Sl Int) :=
  (cond (decide (zaP < (w.Net.Nodes.toNat : Int)))
 (S0 (w64 (zaP+(1:Int))) (⟨zbh.len,(setT zaP.toNat (s85 (zaL (zac c0)) zaP) zbh.get)⟩:Sl Int))
 zbh)
def zt8 (c0:Tab) (w:web) (P0:Int→(Sl Int)→Bool) (zaP:Int) (zbh:(Sl Int)):Bool :=
  (cond (decide (zaP < (w.Net.Nodes.toNat : Int)))
 (decide ((p85 (zaL (zac c0)) zaP=true)) &&
 (decide ((0≤zaP∧zaP < (zbh.len:Int))) &&
 (decide ((zaP.toNat < zbh.len)) &&
 (P0 (w64 (zaP+(1:Int))) (⟨zbh.len,(setT zaP.toNat (s85 (zaL (zac c0)) zaP) zbh.get)⟩:Sl Int)))))
 true)
def zt9 (c0:Tab) (w:web):Nat→Int→(Sl Int)→(Sl Int):=lpO (fun _ _=>default) (zt7 c0 w)
def zua (c0:Tab) (w:web):Nat→Int→(Sl Int)→Bool:=lpO (fun _ _=>false) (zt8 c0 w)
def zue (c0:Tab) (w:web) (zaP:Int) (zbh:(Sl Int)):(Sl Int):=zt9 c0 w Fuel zaP zbh
def zuf (c0:Tab) (w:web) (zaP:Int) (zbh:(Sl Int)):Bool:=zua c0 w Fuel zaP zbh
theorem zCs (hs:zuf c0 w zaP zbh=true) (hk:K (zL4 (zue c0 w zaP zbh))) (zen:zb8=zg enc_3 zbh):z84a K [1,1,0,1,0] [] (zzd c0 w zaP zbh zb8) :=
  zl (fun X=>z84a K [1,1,0,1,0,0] [X]) (by kernel_rfl) fun X0 hX =>
  (show ∀ k, zDy K c0 w X0 (zua c0 w k) (zt9 c0 w k) from zh4 _ _ (zt8 c0 w) (zt7 c0 w) (zDy K c0 w X0)
 (by intro _ _ _ hs;exact absurd hs Bool.false_ne_true)
 (by intro P0 S0 hX0 zaP zbh zb8 hs hk zen;subst zen;exact hX _ (zbb (by kernel_rfl) (zc hs hk (fun hs hk=>(zaU hs fun hc hs=>And.intro (And.intro (zhI:zac c0=zac (zaL (zac c0))) hc) (zaU hs fun hc hs=>And.intro hc (zaU hs fun hc hs=>And.intro hc (hX0 hs hk (zfz (enc:=enc_3) (i:=zaP.toNat) (k:=0) (f:=zbh.get) (new:=(enc_3 (s85 (zaL (zac c0)) zaP))) (v:=(s85 (zaL (zac c0)) zaP)) rfl rfl)))))) (fun hs hk=>hk))))) _ hs hk zen
def zL5 (c0:Tab) (w:web):(Sl Int) :=
  (zue c0 w (0:Int) (⟨w.Net.Nodes.toNat,(fun _=>(0:Int))⟩:Sl Int))
def zM4 (c0:Tab) (w:web):Bool :=
  (decide ((0≤w.Net.Nodes∧w.Net.Nodes=w.Net.Nodes∧w.Net.Nodes≤1000000)) &&
 (zuf c0 w (0:Int) (⟨w.Net.Nodes.toNat,(fun _=>(0:Int))⟩:Sl Int)))
end
theorem zNW (c0:Tab) (w:web) (K:List PA→Prop) (hs:zM4 c0 w=true) (hk:K (zL4 (zL5 c0 w))):vcFun Tryd.prog zM3 zzc 84 [.one (.fp (zaD w) 0),.one (.fn 85 [] [.fp (zac c0) 0])] K :=
  zbb (by kernel_rfl) (zaU hs fun hc hs=>And.intro hc (zCs hs hk rfl))
abbrev zM5:Ctrs:=csm T84 (fun _ _=>[]) (fun _=>false)
def zze:Ann:=⟨26,[(0,zK [0,1] []),(1,zK [1,5] [12]),(2,zK [1,5,14,15] [12]),(3,zK [1,5,14,15,16] [12]),(4,zK [1,5,6,14,15] [12]),(5,zK [1,5,14,15] [12]),(6,zK [1,5,14,15] [12]),(7,zK [4] [12])],
 [(3,zK [1,5,14,15] [12])],
 [],
 [],[]⟩
abbrev zNX:=(Sl Int)
abbrev zL6 (r:zNX):List PA:=[.one (.sl r.len 1 (fun i=>enc_3 (r.get i)))]
@[irreducible] def z84b:=ptF Tryd.prog zM5 zze Tryd.f84
def zzf (c0:Tab) (w:web) (zaP:Int) (zbh:(Sl Int)) (zb8:Nat→List PV):St:=⟨[(1,zP (.fn 86 [] [.fp (zac c0) 0])),(5,zv 12),(14,zI (w.Net.Nodes.toNat:Int)),(15,zI zaP)],[(12,.vec 3 1 8 zbh.len zb8)],[]⟩
abbrev zDz (K:List PA→Prop) (c0:Tab) (w:web) (X:St→Prop) (P:Int→(Sl Int)→Bool) (S:Int→(Sl Int)→(Sl Int)):Prop:=∀ ⦃zaP:Int⦄ ⦃zbh:(Sl Int)⦄ ⦃zb8:Nat→List PV⦄,P zaP zbh=true→K (zL6 (S zaP zbh))→zb8=zg enc_3 zbh→X (zzf c0 w zaP zbh zb8)
section
variable {K:List PA→Prop} {c0:Tab} {w:web} {zaP:Int} {zbh:(Sl Int)} {zb8:Nat→List PV} {X0:St→Prop} {P0:Int→(Sl Int)→Bool} {S0:Int→(Sl Int)→(Sl Int)}
def zug (c0:Tab) (w:web) (S0:Int→(Sl Int)→(Sl Int)) (zaP:Int) (zbh:(Sl Int)):(Sl Int) :=
  (cond (decide (zaP < (w.Net.Nodes.toNat : Int)))
 (S0 (w64 (zaP+(1:Int))) (⟨zbh.len,(setT zaP.toNat (s86 (zaL (zac c0)) zaP) zbh.get)⟩:Sl Int))
 zbh)
def zuh (c0:Tab) (w:web) (P0:Int→(Sl Int)→Bool) (zaP:Int) (zbh:(Sl Int)):Bool :=
  (cond (decide (zaP < (w.Net.Nodes.toNat : Int)))
 (decide ((p86 (zaL (zac c0)) zaP=true)) &&
 (decide ((0≤zaP∧zaP < (zbh.len:Int))) &&
 (decide ((zaP.toNat < zbh.len)) &&
 (P0 (w64 (zaP+(1:Int))) (⟨zbh.len,(setT zaP.toNat (s86 (zaL (zac c0)) zaP) zbh.get)⟩:Sl Int)))))
 true)
def zui (c0:Tab) (w:web):Nat→Int→(Sl Int)→(Sl Int):=lpO (fun _ _=>default) (zug c0 w)
def zuj (c0:Tab) (w:web):Nat→Int→(Sl Int)→Bool:=lpO (fun _ _=>false) (zuh c0 w)
def zuk (c0:Tab) (w:web) (zaP:Int) (zbh:(Sl Int)):(Sl Int):=zui c0 w Fuel zaP zbh
def zul (c0:Tab) (w:web) (zaP:Int) (zbh:(Sl Int)):Bool:=zuj c0 w Fuel zaP zbh
theorem zCt (hs:zul c0 w zaP zbh=true) (hk:K (zL6 (zuk c0 w zaP zbh))) (zen:zb8=zg enc_3 zbh):z84b K [1,1,0,1,0] [] (zzf c0 w zaP zbh zb8) :=
  zl (fun X=>z84b K [1,1,0,1,0,0] [X]) (by kernel_rfl) fun X0 hX =>
  (show ∀ k, zDz K c0 w X0 (zuj c0 w k) (zui c0 w k) from zh4 _ _ (zuh c0 w) (zug c0 w) (zDz K c0 w X0)
 (by intro _ _ _ hs;exact absurd hs Bool.false_ne_true)
 (by intro P0 S0 hX0 zaP zbh zb8 hs hk zen;subst zen;exact hX _ (zbb (by kernel_rfl) (zc hs hk (fun hs hk=>(zaU hs fun hc hs=>And.intro (And.intro (zhI:zac c0=zac (zaL (zac c0))) hc) (zaU hs fun hc hs=>And.intro hc (zaU hs fun hc hs=>And.intro hc (hX0 hs hk (zfz (enc:=enc_3) (i:=zaP.toNat) (k:=0) (f:=zbh.get) (new:=(enc_3 (s86 (zaL (zac c0)) zaP))) (v:=(s86 (zaL (zac c0)) zaP)) rfl rfl)))))) (fun hs hk=>hk))))) _ hs hk zen
def zL7 (c0:Tab) (w:web):(Sl Int) :=
  (zuk c0 w (0:Int) (⟨w.Net.Nodes.toNat,(fun _=>(0:Int))⟩:Sl Int))
def zM6 (c0:Tab) (w:web):Bool :=
  (decide ((0≤w.Net.Nodes∧w.Net.Nodes=w.Net.Nodes∧w.Net.Nodes≤1000000)) &&
 (zul c0 w (0:Int) (⟨w.Net.Nodes.toNat,(fun _=>(0:Int))⟩:Sl Int)))
end
theorem zNY (c0:Tab) (w:web) (K:List PA→Prop) (hs:zM6 c0 w=true) (hk:K (zL6 (zL7 c0 w))):vcFun Tryd.prog zM5 zze 84 [.one (.fp (zaD w) 0),.one (.fn 86 [] [.fp (zac c0) 0])] K :=
  zbb (by kernel_rfl) (zaU hs fun hc hs=>And.intro hc (zCt hs hk rfl))
def zGe : List PA → COut
  | [.one (.fp [.int .i64 zam,.sl zaj zaB zak,.fm zbd zaE zaF] 0),.one (.fn 87 [] [.fp c0_t 0])]=>.det (IsE enc_40 4 zaB zak∧zbd=(false,1,false,[none])∧c0_t=zac (zaL c0_t)∧p84 (zaL c0_t) (⟨(⟨zam,(⟨zaj,zao zak⟩:(Sl Tie))⟩:Net),(⟨zaE,zaF⟩:Mp)⟩:web)=true) [.one (.sl ((s84 (zaL c0_t) (⟨(⟨zam,(⟨zaj,zao zak⟩:(Sl Tie))⟩:Net),(⟨zaE,zaF⟩:Mp)⟩:web)).len) 1 (fun i=>enc_3 ((s84 (zaL c0_t) (⟨(⟨zam,(⟨zaj,zao zak⟩:(Sl Tie))⟩:Net),(⟨zaE,zaF⟩:Mp)⟩:web)).get i)))]
  | [.one (.fp [.int .i64 zam,.sl zaj zaB zak,.fm zbd zaE zaF] 0),.one (.fn 85 [] [.fp c0_t 0])]=>.det (IsE enc_40 4 zaB zak∧zbd=(false,1,false,[none])∧c0_t=zac (zaL c0_t)∧zM4 (zaL c0_t) (⟨(⟨zam,(⟨zaj,zao zak⟩:(Sl Tie))⟩:Net),(⟨zaE,zaF⟩:Mp)⟩:web)=true) [.one (.sl ((zL5 (zaL c0_t) (⟨(⟨zam,(⟨zaj,zao zak⟩:(Sl Tie))⟩:Net),(⟨zaE,zaF⟩:Mp)⟩:web)).len) 1 (fun i=>enc_3 ((zL5 (zaL c0_t) (⟨(⟨zam,(⟨zaj,zao zak⟩:(Sl Tie))⟩:Net),(⟨zaE,zaF⟩:Mp)⟩:web)).get i)))]
  | [.one (.fp [.int .i64 zam,.sl zaj zaB zak,.fm zbd zaE zaF] 0),.one (.fn 86 [] [.fp c0_t 0])]=>.det (IsE enc_40 4 zaB zak∧zbd=(false,1,false,[none])∧c0_t=zac (zaL c0_t)∧zM6 (zaL c0_t) (⟨(⟨zam,(⟨zaj,zao zak⟩:(Sl Tie))⟩:Net),(⟨zaE,zaF⟩:Mp)⟩:web)=true) [.one (.sl ((zL7 (zaL c0_t) (⟨(⟨zam,(⟨zaj,zao zak⟩:(Sl Tie))⟩:Net),(⟨zaE,zaF⟩:Mp)⟩:web)).len) 1 (fun i=>enc_3 ((zL7 (zaL c0_t) (⟨(⟨zam,(⟨zaj,zao zak⟩:(Sl Tie))⟩:Net),(⟨zaE,zaF⟩:Mp)⟩:web)).get i)))]
  | _=>.no
theorem zJL:zax Tryd.prog 84:=⟨_,rfl,rfl,by kernel_rfl⟩
theorem zNZ:Ok Tryd.prog 84 zGe:=zbv zL3 zJL fun args K h=>by
  unfold zGe at h
  split at h
  · rename_i zam zaj zaB zak zbd zaE zaF c0_t
    obtain ⟨⟨⟨rfl,zat,rfl⟩,rfl,hT_c0,hs⟩,hk⟩:=h
    try rw [zan zat] at hs
    try rw [zan zat] at hk
    exact ⟨(fun _ _=>[]),(fun _=>false),zGc,(by have hq:=q84 (zaL c0_t) (⟨(⟨zam,(⟨zaj,zat⟩:(Sl Tie))⟩:Net),(⟨zaE,zaF⟩:Mp)⟩:web) K hs hk;rw [← hT_c0] at hq;exact hq)⟩
  · rename_i zam zaj zaB zak zbd zaE zaF c0_t
    obtain ⟨⟨⟨rfl,zat,rfl⟩,rfl,hT_c0,hs⟩,hk⟩:=h
    try rw [zan zat] at hs
    try rw [zan zat] at hk
    exact ⟨(fun _ _=>[]),(fun _=>false),zzc,(by have hq:=zNW (zaL c0_t) (⟨(⟨zam,(⟨zaj,zat⟩:(Sl Tie))⟩:Net),(⟨zaE,zaF⟩:Mp)⟩:web) K hs hk;rw [← hT_c0] at hq;exact hq)⟩
  · rename_i zam zaj zaB zak zbd zaE zaF c0_t
    obtain ⟨⟨⟨rfl,zat,rfl⟩,rfl,hT_c0,hs⟩,hk⟩:=h
    try rw [zan zat] at hs
    try rw [zan zat] at hk
    exact ⟨(fun _ _=>[]),(fun _=>false),zze,(by have hq:=zNY (zaL c0_t) (⟨(⟨zam,(⟨zaj,zat⟩:(Sl Tie))⟩:Net),(⟨zaE,zaF⟩:Mp)⟩:web) K hs hk;rw [← hT_c0] at hq;exact hq)⟩
  · exact h.elim
abbrev T45:Tabs:=((((Tabs.nil.addF 74 zvn).addF 76 zvo).addF 83 zF8).addF 84 zGe)
theorem zL8:TabsOk Tryd.prog T45:=((((TabsOk.nil.addF zK5).addF zK6).addF zNR).addF zNZ)
abbrev G45:Ctrs:=csm T45 (fun _ _=>[]) (fun _=>false)
def zJM:Ann:=⟨31,[(0,zK [1,2,3] [3]),(1,zK [1,8,9] []),(2,zK [1,8,9,20] []),(3,zK [6,7] []),(4,zK [1,8,24] []),(5,zK [6,7] []),(6,zK [8,10] [10]),(7,zK [6,7] [])],
 [],
 [],
 [],[]⟩
abbrev R45:=((Sl Int)×Int)
abbrev e45 (r:R45):List PA:=[.one (.sl r.1.len 1 (fun i=>enc_3 (r.1.get i))),.one (.int .i64 r.2)]
section
variable {K:List PA→Prop} {n:Net} {from_a1:Int} {to:Int}
def s45 (n:Net) (from_a1:Int) (to:Int):((Sl Int)×Int) :=
  (cond ((s74 n (⟨2, zaA (zbU [(enc_3 from_a1), (enc_3 to)])⟩ : (Sl Int))).2 == 0)
 (cond ((0:Int) != (0:Int))
 ((⟨0,fun _=>default⟩:(Sl Int)),(0:Int))
 (cond (!(s83 (⟨(s74 n (⟨2, zaA (zbU [(enc_3 from_a1), (enc_3 to)])⟩ : (Sl Int))).1.Net, ((s74 n (⟨2, zaA (zbU [(enc_3 from_a1), (enc_3 to)])⟩ : (Sl Int))).1.out)⟩ : web)))
 ((⟨0,fun _=>default⟩:(Sl Int)),(6:Int))
 ((s84 (zaL (zac (s76 (⟨(s74 n (⟨2,zaA (zbU [(enc_3 from_a1),(enc_3 to)])⟩:(Sl Int))).1.Net,((s74 n (⟨2,zaA (zbU [(enc_3 from_a1),(enc_3 to)])⟩:(Sl Int))).1.out)⟩:web) from_a1))) (⟨(s74 n (⟨2,zaA (zbU [(enc_3 from_a1),(enc_3 to)])⟩:(Sl Int))).1.Net,((s74 n (⟨2,zaA (zbU [(enc_3 from_a1),(enc_3 to)])⟩:(Sl Int))).1.out)⟩:web)),(0:Int))))
 (cond ((s74 n (⟨2, zaA (zbU [(enc_3 from_a1), (enc_3 to)])⟩ : (Sl Int))).2 != (0:Int))
 ((⟨0,fun _=>default⟩:(Sl Int)),(s74 n (⟨2,zaA (zbU [(enc_3 from_a1),(enc_3 to)])⟩:(Sl Int))).2)
 default))
def p45 (n:Net) (from_a1:Int) (to:Int):Bool :=
  (cond ((s74 n (⟨2, zaA (zbU [(enc_3 from_a1), (enc_3 to)])⟩ : (Sl Int))).2 == 0)
 (decide ((p74 n (⟨2,zaA (zbU [(enc_3 from_a1),(enc_3 to)])⟩:(Sl Int))=true)) &&
 (cond ((0:Int) != (0:Int))
 true
 (decide ((p83 (⟨(s74 n (⟨2,zaA (zbU [(enc_3 from_a1),(enc_3 to)])⟩:(Sl Int))).1.Net,((s74 n (⟨2,zaA (zbU [(enc_3 from_a1),(enc_3 to)])⟩:(Sl Int))).1.out)⟩:web)=true)) &&
 (cond (!(s83 (⟨(s74 n (⟨2, zaA (zbU [(enc_3 from_a1), (enc_3 to)])⟩ : (Sl Int))).1.Net, ((s74 n (⟨2, zaA (zbU [(enc_3 from_a1), (enc_3 to)])⟩ : (Sl Int))).1.out)⟩ : web)))
 true
 (decide ((p76 (⟨(s74 n (⟨2,zaA (zbU [(enc_3 from_a1),(enc_3 to)])⟩:(Sl Int))).1.Net,((s74 n (⟨2,zaA (zbU [(enc_3 from_a1),(enc_3 to)])⟩:(Sl Int))).1.out)⟩:web) from_a1=true)) &&
 (decide ((p84 (zaL (zac (s76 (⟨(s74 n (⟨2,zaA (zbU [(enc_3 from_a1),(enc_3 to)])⟩:(Sl Int))).1.Net,((s74 n (⟨2,zaA (zbU [(enc_3 from_a1),(enc_3 to)])⟩:(Sl Int))).1.out)⟩:web) from_a1))) (⟨(s74 n (⟨2,zaA (zbU [(enc_3 from_a1),(enc_3 to)])⟩:(Sl Int))).1.Net,((s74 n (⟨2,zaA (zbU [(enc_3 from_a1),(enc_3 to)])⟩:(Sl Int))).1.out)⟩:web)=true)) &&
 true))))))
 (decide ((p74 n (⟨2,zaA (zbU [(enc_3 from_a1),(enc_3 to)])⟩:(Sl Int))=true)) &&
 (cond ((s74 n (⟨2, zaA (zbU [(enc_3 from_a1), (enc_3 to)])⟩ : (Sl Int))).2 != (0:Int))
 true
 false)))
end
theorem q45 (n:Net) (from_a1:Int) (to:Int) (K:List PA→Prop) (hs:p45 n from_a1 to=true) (hk:K (e45 (s45 n from_a1 to))):vcFun Tryd.prog G45 zJM 45 [.agg (enc_24 n),.one (.int .i64 from_a1),.one (.int .i64 to)] (Wk K) :=
  zbb (by kernel_rfl) (zc hs hk (fun hs hk=>(zaU hs fun hc hs=>And.intro (And.intro (zE enc_40 4 n.Ties.get) (And.intro ((zeC []):IsE enc_3 1 1 (zbU [(enc_3 from_a1),(enc_3 to)])) hc)) (zc hs hk (fun hs hk=>((wk hk (zh3 (.one (.nil _ _)) (zh3 (.one (.rfl _)) zo4))):Wk K [.one (.nils),.one (.int .i64 (0:Int))])) (fun hs hk=>(zaU hs fun hc hs=>And.intro (And.intro (zE enc_40 4 ((s74 n (⟨2,zaA (zbU [(enc_3 from_a1),(enc_3 to)])⟩:(Sl Int))).1.Net.Ties.get)) (And.intro (rfl:((false,1,false,[none]):MQ)=(false,1,false,[none])) hc)) (zc hs hk (fun hs hk=>((wk hk (zh3 (.one (.nil _ _)) (zh3 (.one (.rfl _)) zo4))):Wk K [.one (.nils),.one (.int .i64 (6:Int))])) (fun hs hk=>(zaU hs fun hc hs=>And.intro (And.intro (zE enc_40 4 ((s74 n (⟨2,zaA (zbU [(enc_3 from_a1),(enc_3 to)])⟩:(Sl Int))).1.Net.Ties.get)) (And.intro (rfl:((false,1,false,[none]):MQ)=(false,1,false,[none])) hc)) (zaU hs fun hc hs=>And.intro (And.intro (zE enc_40 4 ((s74 n (⟨2,zaA (zbU [(enc_3 from_a1),(enc_3 to)])⟩:(Sl Int))).1.Net.Ties.get)) (And.intro (rfl:((false,1,false,[none]):MQ)=(false,1,false,[none])) (And.intro (zhI:zac (s76 (⟨(s74 n (⟨2,zaA (zbU [(enc_3 from_a1),(enc_3 to)])⟩:(Sl Int))).1.Net,((s74 n (⟨2,zaA (zbU [(enc_3 from_a1),(enc_3 to)])⟩:(Sl Int))).1.out)⟩:web) from_a1)=zac (zaL (zac (s76 (⟨(s74 n (⟨2,zaA (zbU [(enc_3 from_a1),(enc_3 to)])⟩:(Sl Int))).1.Net,((s74 n (⟨2,zaA (zbU [(enc_3 from_a1),(enc_3 to)])⟩:(Sl Int))).1.out)⟩:web) from_a1)))) hc))) ((zgR hk):Wk K [.one (.sl ((s84 (zaL (zac (s76 (⟨(s74 n (⟨2,zaA (zbU [(enc_3 from_a1),(enc_3 to)])⟩:(Sl Int))).1.Net,((s74 n (⟨2,zaA (zbU [(enc_3 from_a1),(enc_3 to)])⟩:(Sl Int))).1.out)⟩:web) from_a1))) (⟨(s74 n (⟨2,zaA (zbU [(enc_3 from_a1),(enc_3 to)])⟩:(Sl Int))).1.Net,((s74 n (⟨2,zaA (zbU [(enc_3 from_a1),(enc_3 to)])⟩:(Sl Int))).1.out)⟩:web)).len) 1 (fun i=>enc_3 ((s84 (zaL (zac (s76 (⟨(s74 n (⟨2,zaA (zbU [(enc_3 from_a1),(enc_3 to)])⟩:(Sl Int))).1.Net,((s74 n (⟨2,zaA (zbU [(enc_3 from_a1),(enc_3 to)])⟩:(Sl Int))).1.out)⟩:web) from_a1))) (⟨(s74 n (⟨2,zaA (zbU [(enc_3 from_a1),(enc_3 to)])⟩:(Sl Int))).1.Net,((s74 n (⟨2,zaA (zbU [(enc_3 from_a1),(enc_3 to)])⟩:(Sl Int))).1.out)⟩:web)).get i))),.one (.int .i64 (0:Int))])))))))))) (fun hs hk=>(zaU hs fun hc hs=>And.intro (And.intro (zE enc_40 4 n.Ties.get) (And.intro ((zeC []):IsE enc_3 1 1 (zbU [(enc_3 from_a1),(enc_3 to)])) hc)) (zc hs hk (fun hs hk=>((wk hk (zh3 (.one (.nil _ _)) (zh3 (.one (.rfl _)) zo4))):Wk K [.one (.nils),.one (.int .i64 ((s74 n (⟨2,zaA (zbU [(enc_3 from_a1),(enc_3 to)])⟩:(Sl Int))).2))])) (fun hs hk=>(absurd hs Bool.false_ne_true:False))))))
def zGf : List PA → COut
  | [.agg [.int .i64 zah,.sl zae zaz zad],.one (.int .i64 a1),.one (.int .i64 a2)]=>.det (IsE enc_40 4 zaz zad∧p45 (⟨zah,(⟨zae,zao zad⟩:(Sl Tie))⟩:Net) a1 a2=true) [.one (.sl (((s45 (⟨zah,(⟨zae,zao zad⟩:(Sl Tie))⟩:Net) a1 a2).1).len) 1 (fun i=>enc_3 (((s45 (⟨zah,(⟨zae,zao zad⟩:(Sl Tie))⟩:Net) a1 a2).1).get i))),.one (.int .i64 ((s45 (⟨zah,(⟨zae,zao zad⟩:(Sl Tie))⟩:Net) a1 a2).2))]
  | _=>.no
theorem zJN:zax Tryd.prog 45:=⟨_,rfl,rfl,by kernel_rfl⟩
theorem zN0:Ok Tryd.prog 45 zGf:=zij zL8 zJN fun args K h=>by
  unfold zGf at h
  split at h
  · rename_i zah zae zaz zad a1 a2
    obtain ⟨⟨⟨rfl,zar,rfl⟩,hs⟩,hk⟩:=h
    try rw [zan zar] at hs
    try rw [zan zar] at hk
    exact ⟨_,zfU zgQ _,(fun _ _=>[]),(fun _=>false),zJM,q45 (⟨zah,(⟨zae,zar⟩:(Sl Tie))⟩:Net) a1 a2 K hs hk⟩
  · exact h.elim
abbrev T49:Tabs:=(((Tabs.nil.addF 67 zva).addF 88 zxg).addF 89 zCh)
theorem zL9:TabsOk Tryd.prog T49:=(((TabsOk.nil.addF zKZ).addF zLw).addF zM2)
abbrev G49:Ctrs:=csm T49 (fun _ _=>[]) (fun _=>false)
def zGg:Ann:=⟨31,[(0,zK [1] [1]),(1,zK [1,10] [1]),(2,zK [2,3] []),(3,zK [4] [13]),(4,zK [4,16] [13]),(5,zK [2,3] []),(6,zK [4,5] [13]),(7,zK [5,18,19,20] []),(8,zK [5,18,19,20,21] [28]),(9,zK [5,7,18,19,20] [7,28]),(10,zK [5,18,19,20] [28]),(11,zK [5,18,19,20] [28]),(12,zK [2,3] [28])],
 [(8,⟨[5,18,19,20],[28],[(5,28,75,fun _=>za3 default)],[],[],[],[]⟩)],
 [(2,zK [1,10] [1]),(3,zK [1] [1]),(5,zK [4,16] [13]),(6,zK [4] [13]),(8,zK [5,18,19,20] [])],
 [],[]⟩
abbrev R49:=((Sl Use)×Int)
abbrev e49 (r:R49):List PA:=[.one (.sl r.1.len 2 (fun i=>za3 (r.1.get i))),.one (.int .i64 r.2)]
@[irreducible] def z49:=ptF Tryd.prog G49 zGg Tryd.f49
def zDA (zcY:(Sl step)) (zc7:Int) (zdG:Int) (zdh:(Sl Use)) (zgj:Nat→List PV):St:=⟨[(5,zv 28),(18,zS zai 5 zcY),(19,zI zc7),(20,zI zdG)],[(28,.vec 75 2 16 zdh.len zgj)],[]⟩
abbrev zJO (K:List PA→Prop) (zcY:(Sl step)) (zc7:Int) (X:St→Prop) (P:Int→(Sl Use)→Bool) (S:Int→(Sl Use)→((Sl Use)×Int)):Prop:=∀ ⦃zdG:Int⦄ ⦃zdh:(Sl Use)⦄ ⦃zgj:Nat→List PV⦄,P zdG zdh=true→K (e49 (S zdG zdh))→zgj=zg za3 zdh→X (zDA zcY zc7 zdG zdh zgj)
section
variable {K:List PA→Prop} {n:Net} {zaN:Bool} {zr6:Bool} {zcY:(Sl step)} {zc7:Int} {zzg:Nat→List PV} {zdG:Int} {zdh:(Sl Use)} {zgj:Nat→List PV} {X5:St→Prop} {P5:Int→(Sl Use)→Bool} {S5:Int→(Sl Use)→((Sl Use)×Int)}
def zzh (zcY:(Sl step)) (zc7:Int) (S5:Int→(Sl Use)→((Sl Use)×Int)) (zdG:Int) (zdh:(Sl Use)):((Sl Use)×Int) :=
  (cond (decide (zdG < zc7))
 (S5 (w64 (zdG+(1:Int))) (⟨(zdh.len+1),(zg6 zdh.len zdh.get (fun _=>(zcY.get zdG.toNat).Use))⟩:Sl Use))
 (zdh,(0:Int)))
def zzi (zcY:(Sl step)) (zc7:Int) (P5:Int→(Sl Use)→Bool) (zdG:Int) (zdh:(Sl Use)):Bool :=
  (cond (decide (zdG < zc7))
 (decide ((0≤zdG∧zdG < (zcY.len:Int))) &&
 (decide (((zdh.len+1) * 16≤140737488355328∧zdh.len+1≤9223372036854775807)) &&
 (P5 (w64 (zdG+(1:Int))) (⟨(zdh.len+1),(zg6 zdh.len zdh.get (fun _=>(zcY.get zdG.toNat).Use))⟩:Sl Use))))
 true)
def zzj (zcY:(Sl step)) (zc7:Int):Nat→Int→(Sl Use)→((Sl Use)×Int):=lpO (fun _ _=>default) (zzh zcY zc7)
def zzk (zcY:(Sl step)) (zc7:Int):Nat→Int→(Sl Use)→Bool:=lpO (fun _ _=>false) (zzi zcY zc7)
def zzl (zcY:(Sl step)) (zc7:Int) (zdG:Int) (zdh:(Sl Use)):((Sl Use)×Int):=zzj zcY zc7 Fuel zdG zdh
def zzm (zcY:(Sl step)) (zc7:Int) (zdG:Int) (zdh:(Sl Use)):Bool:=zzk zcY zc7 Fuel zdG zdh
theorem zGh (hs:zzm zcY zc7 zdG zdh=true) (hk:K (e49 (zzl zcY zc7 zdG zdh))) (zr7:zgj=zg za3 zdh):z49 (Wk K) [1,1,1,1,1,0,1,0] [] (zDA zcY zc7 zdG zdh zgj) :=
  zl (fun X=>z49 (Wk K) [1,1,1,1,1,0,1,0,0] [X]) (by kernel_rfl) fun X5 hX =>
  (show ∀ k, zJO K zcY zc7 X5 (zzk zcY zc7 k) (zzj zcY zc7 k) from zh4 _ _ (zzi zcY zc7) (zzh zcY zc7) (zJO K zcY zc7 X5)
 (by intro _ _ _ hs;exact absurd hs Bool.false_ne_true)
 (by intro P5 S5 hX5 zdG zdh zgj hs hk zr7;subst zr7;exact hX _ (zbb (by kernel_rfl) (zc hs hk (fun hs hk=>(zaU hs fun hc hs=>And.intro hc (zaU hs fun hc hs=>And.intro hc (hX5 hs hk (zkH (enc:=za3) (f:=zdh.get) (h:=(fun _=>(zcY.get zdG.toNat).Use)) rfl rfl))))) (fun hs hk=>((zgR hk):Wk K [.one (.sl zdh.len 2 (fun i=>za3 (zdh.get i))),.one (.int .i64 (0:Int))])))))) _ hs hk zr7
def zzn (zcY:(Sl step)) (zc7:Int):((Sl Use)×Int) :=
  (zzl zcY zc7 (0:Int) (⟨0,(fun _=>default)⟩:Sl Use))
def zzo (zcY:(Sl step)) (zc7:Int):Bool :=
  (zzm zcY zc7 (0:Int) (⟨0,(fun _=>default)⟩:Sl Use))
theorem zGi (hs:zzo zcY zc7=true) (hk:K (e49 (zzn zcY zc7))) (zGj:zzg=zg zai zcY):z49 (Wk K) [1,1,1,1,1,0,1] [] ⟨[(5,zP (.nils)),(18,zP (.sl zcY.len 5 zzg)),(19,zI zc7),(20,zI (0:Int))],[],[]⟩:=by subst zGj;exact zbb (by kernel_rfl) (zGh hs hk rfl)
def zzp (n:Net):((Sl Use)×Int) :=
  (zzn (s89 (⟨n,(⟨0,(fun _=>none)⟩:Mp)⟩:web)) ((s89 (⟨n,(⟨0,(fun _=>none)⟩:Mp)⟩:web)).len:Int))
def zzq (n:Net):Bool :=
  (decide ((p89 (⟨n,(⟨0,(fun _=>none)⟩:Mp)⟩:web)=true)) &&
 (zzo (s89 (⟨n,(⟨0,(fun _=>none)⟩:Mp)⟩:web)) ((s89 (⟨n,(⟨0,(fun _=>none)⟩:Mp)⟩:web)).len:Int)))
theorem zGk (hs:zzq n=true) (hk:K (e49 (zzp n))):z49 (Wk K) [1,1,1,1] [] ⟨[(4,zp 13 0)],[(13,.box 105 (zm (zaD (⟨n,(⟨0,(fun _=>none)⟩:Mp)⟩:web))))],[]⟩:=zbb (by kernel_rfl) (zaU hs fun hc hs=>And.intro (And.intro ((fun _=>rfl):(∀ i,sc2 ((fun i=>zai ((s89 (⟨n,(⟨0,(fun _=>none)⟩:Mp)⟩:web)).get i)) i)=true)) (And.intro (zE enc_40 4 n.Ties.get) (And.intro (rfl:((false,1,false,[none]):MQ)=(false,1,false,[none])) hc))) (zGi hs hk rfl))
def zzr (n:Net) (zr6:Bool):((Sl Use)×Int) :=
  (cond zr6
 ((⟨0,fun _=>default⟩:(Sl Use)),(6:Int))
 (zzp n))
def zzs (n:Net) (zr6:Bool):Bool :=
  (cond zr6
 true
 (zzq n))
theorem zGl (hs:zzs n zr6=true) (hk:K (e49 (zzr n zr6))):z49 (Wk K) [1,1,1,0,1] [] ⟨[(4,zp 13 0),(16,zB zr6)],[(13,.box 105 (zm (zaD (⟨n,(⟨0,(fun _=>none)⟩:Mp)⟩:web))))],[]⟩:=zbb (by kernel_rfl) (zc hs hk (fun hs hk=>((wk hk (zh3 (.one (.nil _ _)) (zh3 (.one (.rfl _)) zo4))):Wk K [.one (.nils),.one (.int .i64 (6:Int))])) (fun hs hk=>(zGk hs hk)))
def zzt (n:Net):((Sl Use)×Int) :=
  (zzr n (!(s88 (⟨n,(⟨0,(fun _=>none)⟩:Mp)⟩:web))))
def zzu (n:Net):Bool :=
  (decide ((p88 (⟨n,(⟨0,(fun _=>none)⟩:Mp)⟩:web)=true)) &&
 (zzs n (!(s88 (⟨n,(⟨0,(fun _=>none)⟩:Mp)⟩:web)))))
theorem zGm (hs:zzu n=true) (hk:K (e49 (zzt n))):z49 (Wk K) [1,1] [] ⟨[(1,zp 1 0)],[(1,.box 24 (zm (enc_24 n)))],[]⟩:=zbb (by kernel_rfl) (zaU hs fun hc hs=>And.intro (And.intro (zE enc_40 4 n.Ties.get) (And.intro (rfl:((false,1,false,[none]):MQ)=(false,1,false,[none])) hc)) (zGl hs hk))
def zzv (n:Net) (zaN:Bool):((Sl Use)×Int) :=
  (cond zaN
 ((⟨0,fun _=>default⟩:(Sl Use)),(2:Int))
 (zzt n))
def zzw (n:Net) (zaN:Bool):Bool :=
  (cond zaN
 true
 (zzu n))
theorem zGn (hs:zzw n zaN=true) (hk:K (e49 (zzv n zaN))):z49 (Wk K) [1,0,1] [] ⟨[(1,zp 1 0),(10,zB zaN)],[(1,.box 24 (zm (enc_24 n)))],[]⟩:=zbb (by kernel_rfl) (zc hs hk (fun hs hk=>((wk hk (zh3 (.one (.nil _ _)) (zh3 (.one (.rfl _)) zo4))):Wk K [.one (.nils),.one (.int .i64 (2:Int))])) (fun hs hk=>(zGm hs hk)))
def s49 (n:Net):((Sl Use)×Int) :=
  (zzv n (!(s67 n)))
def p49 (n:Net):Bool :=
  (decide ((p67 n=true)) &&
 (zzw n (!(s67 n))))
end
theorem q49 (n:Net) (K:List PA→Prop) (hs:p49 n=true) (hk:K (e49 (s49 n))):vcFun Tryd.prog G49 zGg 49 [.agg (enc_24 n)] (Wk K) :=
  zbb (by kernel_rfl) (zaU hs fun hc hs=>And.intro (And.intro (zE enc_40 4 n.Ties.get) hc) (zGn hs hk))
def zGo : List PA → COut
  | [.agg [.int .i64 zah,.sl zae zaz zad]]=>.det (IsE enc_40 4 zaz zad∧p49 (⟨zah,(⟨zae,zao zad⟩:(Sl Tie))⟩:Net)=true) [.one (.sl (((s49 (⟨zah,(⟨zae,zao zad⟩:(Sl Tie))⟩:Net)).1).len) 2 (fun i=>za3 (((s49 (⟨zah,(⟨zae,zao zad⟩:(Sl Tie))⟩:Net)).1).get i))),.one (.int .i64 ((s49 (⟨zah,(⟨zae,zao zad⟩:(Sl Tie))⟩:Net)).2))]
  | _=>.no
theorem zJP:zax Tryd.prog 49:=⟨_,rfl,rfl,by kernel_rfl⟩
theorem zN1:Ok Tryd.prog 49 zGo:=zij zL9 zJP fun args K h=>by
  unfold zGo at h
  split at h
  · rename_i zah zae zaz zad
    obtain ⟨⟨⟨rfl,zar,rfl⟩,hs⟩,hk⟩:=h
    try rw [zan zar] at hs
    try rw [zan zar] at hk
    exact ⟨_,zfU zgQ _,(fun _ _=>[]),(fun _=>false),zGg,q49 (⟨zah,(⟨zae,zar⟩:(Sl Tie))⟩:Net) K hs hk⟩
  · exact h.elim
abbrev T53:Tabs:=Tabs.nil
theorem zMa:TabsOk Tryd.prog T53:=TabsOk.nil
abbrev G53:Ctrs:=csm T53 (fun _ _=>[]) (fun _=>false)
def zGp:Ann:=⟨26,[(0,zK [0,1] []),(1,zK [0,1,10] []),(2,zK [4] []),(3,zK [0,1,5] []),(4,zK [0,1,5,14] []),(5,zK [0,1,5] []),(6,zK [0,1,5,25] []),(7,zK [4] []),(8,zK [4] [])],
 [(4,zK [0,1,5] [])],
 [(3,zK [0,1] [])],
 [],[]⟩
abbrev R53:=Bool
abbrev e53 (r:R53):List PA:=[.one (.bool r)]
@[irreducible] def z53:=ptF Tryd.prog G53 zGp Tryd.f53
def zDB (a:(Sl Use)) (b:(Sl Use)) (iv1:Int):St:=⟨[(0,zS za3 2 a),(1,zS za3 2 b),(5,zI iv1)],[],[]⟩
abbrev zJQ (K:List PA→Prop) (a:(Sl Use)) (b:(Sl Use)) (X:St→Prop) (P:Int→Bool) (S:Int→Bool):Prop:=∀ ⦃iv1:Int⦄,P iv1=true→K (e53 (S iv1))→X (zDB a b iv1)
section
variable {K:List PA→Prop} {a:(Sl Use)} {b:(Sl Use)} {iv1:Int} {X1:St→Prop} {P1:Int→Bool} {S1:Int→Bool}
def zzx (a:(Sl Use)) (b:(Sl Use)) (S1:Int→Bool) (iv1:Int):Bool :=
  (cond (decide (iv1 < (a.len : Int)))
 (cond (!(match ((a.get iv1.toNat).Tie == (b.get iv1.toNat).Tie) with | true => (match ((a.get iv1.toNat).Back == (b.get iv1.toNat).Back) with | true => true | false => false) | false => false))
 false
 (S1 (w64 (iv1+(1:Int)))))
 true)
def zzy (a:(Sl Use)) (b:(Sl Use)) (P1:Int→Bool) (iv1:Int):Bool :=
  (cond (decide (iv1 < (a.len : Int)))
 (decide ((0≤iv1∧iv1 < (a.len:Int))) &&
 (decide ((0≤iv1∧iv1 < (b.len:Int))) &&
 (cond (!(match ((a.get iv1.toNat).Tie == (b.get iv1.toNat).Tie) with | true => (match ((a.get iv1.toNat).Back == (b.get iv1.toNat).Back) with | true => true | false => false) | false => false))
 true
 (P1 (w64 (iv1+(1:Int)))))))
 true)
def zzz (a:(Sl Use)) (b:(Sl Use)):Nat→Int→Bool:=lpO (fun _=>default) (zzx a b)
def zzA (a:(Sl Use)) (b:(Sl Use)):Nat→Int→Bool:=lpO (fun _=>false) (zzy a b)
def zzB (a:(Sl Use)) (b:(Sl Use)) (iv1:Int):Bool:=zzz a b Fuel iv1
def zzC (a:(Sl Use)) (b:(Sl Use)) (iv1:Int):Bool:=zzA a b Fuel iv1
theorem zGq (hs:zzC a b iv1=true) (hk:K (e53 (zzB a b iv1))):z53 K [1,1,0,1,0] [] (zDB a b iv1) :=
  zl (fun X=>z53 K [1,1,0,1,0,0] [X]) (by kernel_rfl) fun X1 hX =>
  (show ∀ k, zJQ K a b X1 (zzA a b k) (zzz a b k) from zh4 _ _ (zzy a b) (zzx a b) (zJQ K a b X1)
 (by intro _ hs;exact absurd hs Bool.false_ne_true)
 (by intro P1 S1 hX1 iv1 hs hk;exact hX _ (zbb (by kernel_rfl) (zc hs hk (fun hs hk=>(zaU hs fun hc hs=>And.intro hc (zaU hs fun hc hs=>And.intro hc (zc hs hk (fun hs hk=>hk) (fun hs hk=>(hX1 hs hk)))))) (fun hs hk=>hk))))) _ hs hk
def zzD (a:(Sl Use)) (b:(Sl Use)):Bool :=
  (zzB a b (0:Int))
def zzE (a:(Sl Use)) (b:(Sl Use)):Bool :=
  (zzC a b (0:Int))
theorem zGr (hs:zzE a b=true) (hk:K (e53 (zzD a b))):z53 K [1,1] [] ⟨[(0,zS za3 2 a),(1,zS za3 2 b)],[],[]⟩:=zbb (by kernel_rfl) (zGq hs hk)
def s53 (a:(Sl Use)) (b:(Sl Use)):Bool :=
  (cond ((a.len : Int) != (b.len : Int))
 false
 (zzD a b))
def p53 (a:(Sl Use)) (b:(Sl Use)):Bool :=
  (cond ((a.len : Int) != (b.len : Int))
 true
 (zzE a b))
end
theorem q53 (a:(Sl Use)) (b:(Sl Use)) (K:List PA→Prop) (hs:p53 a b=true) (hk:K (e53 (s53 a b))):vcFun Tryd.prog G53 zGp 53 [.one (.sl a.len 2 (fun i=>za3 (a.get i))),.one (.sl b.len 2 (fun i=>za3 (b.get i)))] K :=
  zbb (by kernel_rfl) (zc hs hk (fun hs hk=>hk) (fun hs hk=>(zGr hs hk)))
def zGs : List PA → COut
  | [.one (.sl zf4 zmC zf5),.one (.sl zd5 zit zdV)]=>.det (IsE za3 2 zmC zf5∧IsE za3 2 zit zdV∧p53 (⟨zf4,zdr zf5⟩:(Sl Use)) (⟨zd5,zdr zdV⟩:(Sl Use))=true) [.one (.bool (s53 (⟨zf4,zdr zf5⟩:(Sl Use)) (⟨zd5,zdr zdV⟩:(Sl Use))))]
  | _=>.no
theorem zJR:zax Tryd.prog 53:=⟨_,rfl,rfl,by kernel_rfl⟩
theorem zN2:Ok Tryd.prog 53 zGs:=zbv zMa zJR fun args K h=>by
  unfold zGs at h
  split at h
  · rename_i zf4 zmC zf5 zd5 zit zdV
    obtain ⟨⟨⟨rfl,zis,rfl⟩,⟨rfl,zf7,rfl⟩,hs⟩,hk⟩:=h
    try rw [zds zis] at hs
    try rw [zds zis] at hk
    try rw [zds zf7] at hs
    try rw [zds zf7] at hk
    exact ⟨(fun _ _=>[]),(fun _=>false),zGp,q53 (⟨zf4,zis⟩:(Sl Use)) (⟨zd5,zf7⟩:(Sl Use)) K hs hk⟩
  · exact h.elim
abbrev T92:Tabs:=((Tabs.nil.addF 93 zo7).addI 110 zo9)
theorem zMb:TabsOk Tryd.prog T92:=((TabsOk.nil.addF zHU).addI zvc)
abbrev G92:Ctrs:=csm T92 (fun _ _=>[]) (fun _=>false)
def zjr:Ann:=⟨49,[(0,zK [0,1,2,3,4] [0,1,2,3,4,4099]),(1,zK [0,1,2,3,4,7] [0,1,2,3,4,4099]),(2,zK [0,1,2,3,4,5,7] [0,1,2,3,4,5,4099]),(3,zK [0,1,2,3,4,5,7,41] [0,1,2,3,4,5,4099]),(4,zK [0,1,2,3,4,5] [0,1,2,3,4,5,4099]),(5,zK [0,1,2,3,4] [0,1,2,3,4,4099]),(6,zK [0,1,2,3,4] [0,1,2,3,4,4099]),(7,zK [0,1,2,3,4] [0,1,2,3,4,4099])],
 [(2,zK [0,1,2,3,4,7] [0,1,2,3,4,4099])],
 [],
 [],[]⟩
def zgk (w:web) (at_:Int) (d:Tab) (out:(Sl Use)):St:=⟨[(0,.one (.c (.ptr 0 0))),(1,.one (.c (.ptr 1 0))),(2,.one (.c (.ptr 2 0))),(3,.one (.c (.ptr 3 0))),(4,.one (.c (.ptr 4 0))),(7,.one (.c (.p (.fn 110 [] [.fp [.fp (zaD w) 0] 0]))))],[(0,.box 102 [.p (.fp (zaD w) 0)]),(1,.box 3 [.p (.int .i64 at_)]),(2,.box 116 (zm (zac d))),(3,.box 67 [.vec 4099]),(4,.box 4 [.p (.bool false)]),(4099,.vec 75 2 16 out.len (fun i=>za3 (out.get i)))],[]⟩
def zlE (K:List PA×List XA→Prop) (w:web) (at_:Int) (d:Tab) (out:(Sl Use)):Prop:=vc Tryd.prog G92 zjr (cdF Tryd.f92 [1,0,1,0]) (zas 0 (sqK Tryd.prog G92 zjr (cdF Tryd.f92 [1,1]) (zlY Tryd.prog Tryd.f92 [.box 102 [.p (.fp (zaD w) 0)],.box 3 [.p (.int .i64 at_)],.box 116 (xcm (zac d)),.box 67 [.vec 75 2 16 out.len (fun i=>za3 (out.get i))]] (fun a b=>K (a,b))))) (zgk w at_ d out)
theorem zGt (w : web) (at_ : Int) (d : Tab) (out : (Sl Use)) (K : List PA × List XA → Prop) :
  zkD Tryd.prog G92 zjr 92 [.box 102 [.p (.fp (zaD w) 0)],.box 3 [.p (.int .i64 at_)],.box 116 (xcm (zac d)),.box 67 [.vec 75 2 16 out.len (fun i=>za3 (out.get i))]] (fun a b=>K (a,b)) =
  ((IsE enc_40 4 4 (fun i=>enc_40 (w.Net.Ties.get i))∧((false,1,false,[none]):MQ)=(false,1,false,[none])) ∧
 (zlE K w at_ d out)):=by kernel_rfl
def zpK (K:List PA×List XA→Prop) (w:web) (at_:Int) (d:Tab) (out:(Sl Use)):Prop :=
  (K ([.one (.bool false)],[.box 102 [.p (.fp (zaD w) 0)],.box 3 [.p (.int .i64 at_)],.box 116 (xcm (zac d)),.box 67 [.vec 75 2 16 out.len (fun i=>za3 (out.get i))]]))
def zpL (K:List PA×List XA→Prop) (X0:List (List PA)→St→Prop) (y0:step) (rest0:List (List PA)) (w:web) (at_:Int) (d:Tab) (out:(Sl Use)):Prop :=
  (zbV (y0.from_ == at_)
 (((0≤y0.to∧y0.to < (40:Int))) ∧
 (zbV (!(match ((tg 80 d (0 + y0.to.toNat * 2 + 0)) == (1000000000000:Int)) with | true => (match ((tg 80 d (0 + y0.to.toNat * 2 + 0 + 1)) == (0:Int)) with | true => true | false => false) | false => false))
 (((0≤y0.to∧y0.to < (40:Int))) ∧
 (((0≤y0.to∧y0.to < (40:Int))) ∧
 (((0≤at_∧at_ < (40:Int))) ∧
 (zbV (match ((w64 ((tg 80 d (0 + y0.to.toNat * 2 + 0)) + y0.length)) == (tg 80 d (0 + at_.toNat * 2 + 0))) with | true => (match ((w64 ((tg 80 d (0 + y0.to.toNat * 2 + 1)) + (1:Int))) == (tg 80 d (0 + at_.toNat * 2 + 0 + 1))) with | true => true | false => false) | false => false)
 ((((out.len+1) * 16≤140737488355328∧out.len+1≤9223372036854775807)) ∧
 (K ([.one (.bool true)],[.box 102 [.p (.fp (zaD w) 0)],.box 3 [.p (.int .i64 y0.to)],.box 116 (xcm (zac d)),.box 67 [.vec 75 2 16 (out.len+1) (appG out.len (fun i=>za3 (out.get i)) (fun _=>(za3 y0.Use)))]])))
 (X0 rest0 (zgk w at_ d out))))))
 (X0 rest0 (zgk w at_ d out))))
 (X0 rest0 (zgk w at_ d out)))
theorem zr8 (K:List PA×List XA→Prop) (w:web) (at_:Int) (d:Tab) (out:(Sl Use)):(zas 0 (sqK Tryd.prog G92 zjr (cdF Tryd.f92 [1,1]) (zlY Tryd.prog Tryd.f92 [.box 102 [.p (.fp (zaD w) 0)],.box 3 [.p (.int .i64 at_)],.box 116 (xcm (zac d)),.box 67 [.vec 75 2 16 out.len (fun i=>za3 (out.get i))]] (fun a b=>K (a,b))))) .normal (zgk w at_ d out)=zpK K w at_ d out:=by kernel_rfl
theorem zr9 (K : List PA × List XA → Prop) (X0 : List (List PA) → St → Prop) (y0 : step) (rest0 : List (List PA)) (w : web) (at_ : Int) (d : Tab) (out : (Sl Use)) :
  zvs Tryd.prog G92 zjr 2 [8] (cd (cdF Tryd.f92 [1,0,1,0]) [0]) (cd (cdF Tryd.f92 [1,0,1,0]) [1]) X0 (zas 0 (sqK Tryd.prog G92 zjr (cdF Tryd.f92 [1,1]) (zlY Tryd.prog Tryd.f92 [.box 102 [.p (.fp (zaD w) 0)],.box 3 [.p (.int .i64 at_)],.box 116 (xcm (zac d)),.box 67 [.vec 75 2 16 out.len (fun i=>za3 (out.get i))]] (fun a b=>K (a,b))))) [.agg (zai y0)] rest0 (zgk w at_ d out)=zpL K X0 y0 rest0 w at_ d out:=by kernel_rfl
theorem zzF (K : List PA × List XA → Prop) (w : web) (at_ : Int) (d : Tab) (out : (Sl Use))
  (hsafe:IsE enc_40 4 4 (fun i=>enc_40 (w.Net.Ties.get i))∧((false,1,false,[none]):MQ)=(false,1,false,[none])∧(zlT w=true)) (h:∀ X0:List (List PA)→St→Prop,(∀ (_:Unit),zpK K w at_ d out→X0 [] (zgk w at_ d out))→(∀ (y:step) (rest:List (List PA)) (_:Unit),zpL K X0 y rest w at_ d out→X0 ([.agg (zai y)] :: rest) (zgk w at_ d out))→X0 ((zh5 w).map fun y=>[.agg (zai y)]) (zgk w at_ d out)) :
  zlE K w at_ d out:=by
  have e:zlE K w at_ d out=((IsE enc_40 4 4 (fun i=>enc_40 (w.Net.Ties.get i))∧((false,1,false,[none]):MQ)=(false,1,false,[none])∧(zlT w=true))∧∀ X:List (List PA)→St→Prop,(∀ s,(zas 0 (sqK Tryd.prog G92 zjr (cdF Tryd.f92 [1,1]) (zlY Tryd.prog Tryd.f92 [.box 102 [.p (.fp (zaD w) 0)],.box 3 [.p (.int .i64 at_)],.box 116 (xcm (zac d)),.box 67 [.vec 75 2 16 out.len (fun i=>za3 (out.get i))]] (fun a b=>K (a,b))))) .normal s→X [] s)→(∀ y rest s,zvs Tryd.prog G92 zjr 2 [8] (cd (cdF Tryd.f92 [1,0,1,0]) [0]) (cd (cdF Tryd.f92 [1,0,1,0]) [1]) X (zas 0 (sqK Tryd.prog G92 zjr (cdF Tryd.f92 [1,1]) (zlY Tryd.prog Tryd.f92 [.box 102 [.p (.fp (zaD w) 0)],.box 3 [.p (.int .i64 at_)],.box 116 (xcm (zac d)),.box 67 [.vec 75 2 16 out.len (fun i=>za3 (out.get i))]] (fun a b=>K (a,b))))) y rest s→X (y :: rest) s)→X ((zh5 w).map fun y=>[.agg (zai y)]) (zgk w at_ d out)):=by kernel_rfl
  refine zbb e ⟨hsafe,?_⟩
  intro X h0 h1
  refine h X (fun _ hs=>h0 _ ?_) (fun y rest _ hs=>h1 _ rest _ ?_)
  · rw [zr8 K w at_ d out];exact hs
  · have e2 := zr9 K X y rest w at_ d out
    rw [e2];exact hs
abbrev e92 (w:web) (d:Tab) (r:(Bool×Int×(Sl Use))):List PA×List XA:=([.one (.bool r.1)],[.box 102 [.p (.fp (zaD w) 0)],.box 3 [.p (.int .i64 r.2.1)],.box 116 (xcm (zac d)),.box 67 [.vec 75 2 16 r.2.2.len (fun i=>za3 (r.2.2.get i))]])
attribute [irreducible] zlE
def zsa (w:web) (at_:Int) (d:Tab) (out:(Sl Use)):(Bool×Int×(Sl Use)) :=
  (false,at_,(⟨out.len,out.get⟩:(Sl Use)))
def zsb (w:web) (at_:Int) (d:Tab) (out:(Sl Use)):Bool :=
  true
def zsc (w:web) (at_:Int) (d:Tab) (out:(Sl Use)) (y0:step) (S0:(Bool×Int×(Sl Use))):(Bool×Int×(Sl Use)) :=
  (cond (y0.from_ == at_)
 (cond (!(match ((tg 80 d (0 + y0.to.toNat * 2 + 0)) == (1000000000000:Int)) with | true => (match ((tg 80 d (0 + y0.to.toNat * 2 + 0 + 1)) == (0:Int)) with | true => true | false => false) | false => false))
 (cond (match ((w64 ((tg 80 d (0 + y0.to.toNat * 2 + 0)) + y0.length)) == (tg 80 d (0 + at_.toNat * 2 + 0))) with | true => (match ((w64 ((tg 80 d (0 + y0.to.toNat * 2 + 1)) + (1:Int))) == (tg 80 d (0 + at_.toNat * 2 + 0 + 1))) with | true => true | false => false) | false => false)
 (true,y0.to,(⟨(out.len+1),(zg6 out.len out.get (fun _=>y0.Use))⟩:(Sl Use)))
 (S0))
 (S0))
 (S0))
def zsd (w:web) (at_:Int) (d:Tab) (out:(Sl Use)) (y0:step) (P0:Bool):Bool :=
  (cond (y0.from_ == at_)
 (decide ((0≤y0.to∧y0.to < (40:Int))) &&
 (cond (!(match ((tg 80 d (0 + y0.to.toNat * 2 + 0)) == (1000000000000:Int)) with | true => (match ((tg 80 d (0 + y0.to.toNat * 2 + 0 + 1)) == (0:Int)) with | true => true | false => false) | false => false))
 (decide ((0≤y0.to∧y0.to < (40:Int))) &&
 (decide ((0≤y0.to∧y0.to < (40:Int))) &&
 (decide ((0≤at_∧at_ < (40:Int))) &&
 (cond (match ((w64 ((tg 80 d (0 + y0.to.toNat * 2 + 0)) + y0.length)) == (tg 80 d (0 + at_.toNat * 2 + 0))) with | true => (match ((w64 ((tg 80 d (0 + y0.to.toNat * 2 + 1)) + (1:Int))) == (tg 80 d (0 + at_.toNat * 2 + 0 + 1))) with | true => true | false => false) | false => false)
 (decide (((out.len+1) * 16≤140737488355328∧out.len+1≤9223372036854775807)) &&
 true)
 (P0)))))
 (P0)))
 (P0))
def zlF (w : web) (at_ : Int) (d : Tab) (out : (Sl Use)) : List step → (Bool × Int × (Sl Use))
  | []=>zsa w at_ d out
  | y :: r=>zsc w at_ d out y (zlF w at_ d out r)
def zlG (w : web) (at_ : Int) (d : Tab) (out : (Sl Use)) : List step → Bool
  | []=>zsb w at_ d out
  | y :: r=>zsd w at_ d out y (zlG w at_ d out r)
def zzG (w:web) (at_:Int) (d:Tab) (out:(Sl Use)):(Bool×Int×(Sl Use)):=zlF w at_ d out (zh5 w)
def zse (w:web) (at_:Int) (d:Tab) (out:(Sl Use)):Bool:=decide ((zlT w=true)) && zlG w at_ d out (zh5 w)
theorem zGu (K:List PA×List XA→Prop) (w:web) (at_:Int) (d:Tab) (out:(Sl Use)) (hs:zse w at_ d out=true) (hk:K (e92 w d (zzG w at_ d out))):zlE K w at_ d out:=by
  unfold zse at hs
  rw [Bool.and_eq_true] at hs
  obtain ⟨hsf,hs⟩:=hs
  have hc:=of_decide_eq_true hsf
  refine zzF K w at_ d out ⟨isE,rfl,hc⟩ ?_
  intro X0 hexit hstep
  have key:∀ (l:List step),zlG w at_ d out l=true→K (e92 w d (zlF w at_ d out l))→X0 (l.map fun y=>[.agg (zai y)]) (zgk w at_ d out):=by
    intro l
    induction l with
    | nil =>
      intro hs hk
      refine hexit () ?_
      have hs:zsb w at_ d out=true:=hs
      have hk:K (e92 w d (zsa w at_ d out)):=hk
      unfold zsb at hs
      unfold zsa at hk
      exact hk
    | cons y0 l ih =>
      intro hs hk
      refine hstep y0 _ () ?_
      have hs:zsd w at_ d out y0 (zlG w at_ d out l)=true:=hs
      have hk:K (e92 w d (zsc w at_ d out y0 (zlF w at_ d out l))):=hk
      unfold zsd at hs
      unfold zsc at hk
      generalize zlF w at_ d out l=S0 at hk ih
      generalize zlG w at_ d out l=P0 at hs ih
      have hX0:=ih
      exact (za1 (K := fun r => K (e92 w d r))
 (fun hs hk => (zaU hs fun hc hs => ⟨hc, (za1 (K := fun r => K (e92 w d r))
 (fun hs hk => (zaU hs fun hc hs => ⟨hc, (zaU hs fun hc hs => ⟨hc, (zaU hs fun hc hs => ⟨hc, (za1 (K := fun r => K (e92 w d r))
 (fun hs hk=>(zaU hs fun hc hs=>⟨hc,(Eq.mpr (congrArg K (congrArg (fun (g_:Nat→List PV)=>(([.one (.bool true)],[.box 102 [.p (.fp (zaD w) 0)],.box 3 [.p (.int .i64 y0.to)],.box 116 (xcm (zac d)),.box 67 [.vec 75 2 16 (out.len+1) g_]]):List PA×List XA)) (zkH (enc:=za3) (f:=out.get) (h:=(fun _=>y0.Use)) rfl rfl))) hk)⟩))
 (fun hs hk=>(hX0 hs hk)) hs hk)⟩)⟩)⟩))
 (fun hs hk=>(hX0 hs hk)) hs hk)⟩))
 (fun hs hk=>(hX0 hs hk)) hs hk)
  exact key _ hs hk
def s92 (w:web) (at_:Int) (d:Tab) (out:(Sl Use)):(Bool×Int×(Sl Use)) :=
  (zzG w at_ d out)
def p92 (w:web) (at_:Int) (d:Tab) (out:(Sl Use)):Bool :=
  (zse w at_ d out)
theorem q92 (w:web) (at_:Int) (d:Tab) (out:(Sl Use)) (K:List PA×List XA→Prop) (hs:p92 w at_ d out=true) (hk:K (e92 w d (s92 w at_ d out))):zkD Tryd.prog G92 zjr 92 [.box 102 [.p (.fp (zaD w) 0)],.box 3 [.p (.int .i64 at_)],.box 116 (xcm (zac d)),.box 67 [.vec 75 2 16 out.len (fun i=>za3 (out.get i))]] (fun a b=>K (a,b)):=by
  refine zbb (zGt w at_ d out K) ?_
  unfold p92 at hs
  unfold s92 at hk
  exact ⟨⟨isE,rfl⟩,(zGu K w at_ d out hs hk)⟩
def zGv : MK
  | [.box 102 [.p (.fp [.int .i64 b0_Net_Nodes,.sl b0_Net_Ties_n b0_Net_Ties_s b0_Net_Ties_g,.fm b0_out_q b0_out_n b0_out_F] 0)],.box 3 [.p (.int .i64 b1)],.box 116 b2_cs,.box 67 [.vec 75 2 16 b3_n b3_g]]=>some (IsE enc_40 4 b0_Net_Ties_s b0_Net_Ties_g∧b0_out_q=(false,1,false,[none])∧b2_cs=xcm (zac (zaL (unX b2_cs)))∧IsE za3 2 2 b3_g∧p92 (⟨(⟨b0_Net_Nodes,(⟨b0_Net_Ties_n,zao b0_Net_Ties_g⟩:(Sl Tie))⟩:Net),(⟨b0_out_n,b0_out_F⟩:Mp)⟩:web) b1 (zaL (unX b2_cs)) (⟨b3_n,zdr b3_g⟩:(Sl Use))=true,[.one (.bool ((s92 (⟨(⟨b0_Net_Nodes,(⟨b0_Net_Ties_n,zao b0_Net_Ties_g⟩:(Sl Tie))⟩:Net),(⟨b0_out_n,b0_out_F⟩:Mp)⟩:web) b1 (zaL (unX b2_cs)) (⟨b3_n,zdr b3_g⟩:(Sl Use))).1))],[.box 102 [.p (.fp [.int .i64 b0_Net_Nodes,.sl b0_Net_Ties_n b0_Net_Ties_s b0_Net_Ties_g,.fm b0_out_q b0_out_n b0_out_F] 0)],.box 3 [.p (.int .i64 ((s92 (⟨(⟨b0_Net_Nodes,(⟨b0_Net_Ties_n,zao b0_Net_Ties_g⟩:(Sl Tie))⟩:Net),(⟨b0_out_n,b0_out_F⟩:Mp)⟩:web) b1 (zaL (unX b2_cs)) (⟨b3_n,zdr b3_g⟩:(Sl Use))).2.1))],.box 116 b2_cs,.box 67 [.vec 75 2 16 (((s92 (⟨(⟨b0_Net_Nodes,(⟨b0_Net_Ties_n,zao b0_Net_Ties_g⟩:(Sl Tie))⟩:Net),(⟨b0_out_n,b0_out_F⟩:Mp)⟩:web) b1 (zaL (unX b2_cs)) (⟨b3_n,zdr b3_g⟩:(Sl Use))).2.2).len) (fun i=>za3 (((s92 (⟨(⟨b0_Net_Nodes,(⟨b0_Net_Ties_n,zao b0_Net_Ties_g⟩:(Sl Tie))⟩:Net),(⟨b0_out_n,b0_out_F⟩:Mp)⟩:web) b1 (zaL (unX b2_cs)) (⟨b3_n,zdr b3_g⟩:(Sl Use))).2.2).get i))]])
  | _=>none
theorem zJS:zax Tryd.prog 92:=⟨_,rfl,rfl,by kernel_rfl⟩
theorem zN3:zjo Tryd.prog 92 zGv:=zEC zMb zJS fun xs safe rs ys h hs K hk=>by
  unfold zGv at h
  split at h
  · rename_i b0_Net_Nodes b0_Net_Ties_n b0_Net_Ties_s b0_Net_Ties_g b0_out_q b0_out_n b0_out_F b1 b2_cs b3_n b3_g
    simp only [Option.some.injEq,Prod.mk.injEq] at h
    obtain ⟨rfl,rfl,rfl⟩:=h
    obtain ⟨⟨rfl,b0_Net_Ties_f,rfl⟩,rfl,hT_b2,⟨_,b3_f,rfl⟩,hs⟩:=hs
    try rw [zan b0_Net_Ties_f] at hs
    try rw [zan b0_Net_Ties_f] at hk
    try rw [zds b3_f] at hs
    try rw [zds b3_f] at hk
    refine ⟨fun _ _=>[],fun _=>false,zjr,?_⟩
    show zkD Tryd.prog G92 zjr 92 _ K
    have hq:=q92 (⟨(⟨b0_Net_Nodes,(⟨b0_Net_Ties_n,b0_Net_Ties_f⟩:(Sl Tie))⟩:Net),(⟨b0_out_n,b0_out_F⟩:Mp)⟩:web) b1 (zaL (unX b2_cs)) (⟨b3_n,b3_f⟩:(Sl Use)) (fun x=>K x.1 x.2) hs
    dsimp only [e92] at hq
    rw [← hT_b2] at hq
    exact hq hk
  · cases h
abbrev T54:Tabs:=(((Tabs.nil.addF 74 zvn).addF 75 zyE).addM 92 zGv)
theorem zMc:TabsOk Tryd.prog T54:=(((TabsOk.nil.addF zK5).addF zLU).addM zN3)
abbrev G54:Ctrs:=csm T54 (fun _ _=>[]) (fun _=>false)
def zGw:Ann:=⟨45,[(0,zK [1,2,3] [3]),(1,zK [1,2,8,9] [8]),(2,zK [1,2,8,9,23] [8]),(3,zK [6,7] []),(4,zK [1,8,10] [8,10]),(5,zK [1,8,10,32] [8,10]),(6,zK [6,7] []),(7,zK [1,8,10,11] [8,10,11]),(8,zK [8,10,11,12] [8,10,11,12]),(9,zK [10,11,12,13] [8,10,11,12]),(10,zK [10,11,12,13,43] [8,10,11,12,5000]),(11,zK [6,7] [5000])],
 [(10,⟨[10,11,12,13],[8,10,11,12,5000],[],[(11,0,5000,75,fun _=>za3 default)],[],[],[]⟩)],
 [],
 [],[]⟩
abbrev R54:=((Sl Use)×Int)
abbrev e54 (r:R54):List PA:=[.one (.sl r.1.len 2 (fun i=>za3 (r.1.get i))),.one (.int .i64 r.2)]
@[irreducible] def z54:=ptF Tryd.prog G54 zGw Tryd.f54
def zDC (n:Net) (from_a1:Int) (to:Int) (zhk:Int) (zba:(Sl Use)) (dt0:Tab) (zdC:Nat→List PV):St:=⟨[(10,zp 10 0),(11,zp 11 0),(12,zp 12 0),(13,.one (.c (.clo 92 [.b 8,.b 12,.b 10,.b 11])))],[(8,.box 102 [.p (.fp (zaD (⟨(s74 n (⟨2,zaA (zbU [(enc_3 from_a1),(enc_3 to)])⟩:(Sl Int))).1.Net,((s74 n (⟨2,zaA (zbU [(enc_3 from_a1),(enc_3 to)])⟩:(Sl Int))).1.out)⟩:web)) 0)]),(10,.box 116 (zm (zac dt0))),(11,.box 67 [.vec 5000]),(12,.box 3 [zi zhk]),(5000,.vec 75 2 16 zba.len zdC)],[]⟩
abbrev zJT (K:List PA→Prop) (n:Net) (from_a1:Int) (to:Int) (X:St→Prop) (P:Int→(Sl Use)→Tab→Bool) (S:Int→(Sl Use)→Tab→((Sl Use)×Int)):Prop:=∀ ⦃zhk:Int⦄ ⦃zba:(Sl Use)⦄ ⦃dt0:Tab⦄ ⦃zdC:Nat→List PV⦄,P zhk zba dt0=true→K (e54 (S zhk zba dt0))→zdC=zg za3 zba→X (zDC n from_a1 to zhk zba dt0 zdC)
section
variable {K:List PA→Prop} {n:Net} {from_a1:Int} {to:Int} {zhk:Int} {zba:(Sl Use)} {dt0:Tab} {zdC:Nat→List PV} {X0:St→Prop} {P0:Int→(Sl Use)→Tab→Bool} {S0:Int→(Sl Use)→Tab→((Sl Use)×Int)}
def zzH (n:Net) (from_a1:Int) (to:Int) (S0:Int→(Sl Use)→Tab→((Sl Use)×Int)) (zhk:Int) (zba:(Sl Use)) (dt0:Tab):((Sl Use)×Int) :=
  (cond (decide ((tg 80 dt0 (0 + zhk.toNat * 2 + 1)) > (0:Int)))
 (cond ((s92 (⟨(s74 n (⟨2, zaA (zbU [(enc_3 from_a1), (enc_3 to)])⟩ : (Sl Int))).1.Net, ((s74 n (⟨2, zaA (zbU [(enc_3 from_a1), (enc_3 to)])⟩ : (Sl Int))).1.out)⟩ : web) zhk (zaL (unX (xcm (zac dt0)))) (⟨zba.len, zba.get⟩ : (Sl Use))).1)
 (S0 ((s92 (⟨(s74 n (⟨2,zaA (zbU [(enc_3 from_a1),(enc_3 to)])⟩:(Sl Int))).1.Net,((s74 n (⟨2,zaA (zbU [(enc_3 from_a1),(enc_3 to)])⟩:(Sl Int))).1.out)⟩:web) zhk (zaL (unX (xcm (zac dt0)))) (⟨zba.len,zba.get⟩:(Sl Use))).2.1) ((s92 (⟨(s74 n (⟨2,zaA (zbU [(enc_3 from_a1),(enc_3 to)])⟩:(Sl Int))).1.Net,((s74 n (⟨2,zaA (zbU [(enc_3 from_a1),(enc_3 to)])⟩:(Sl Int))).1.out)⟩:web) zhk (zaL (unX (xcm (zac dt0)))) (⟨zba.len,zba.get⟩:(Sl Use))).2.2) dt0)
 (((s92 (⟨(s74 n (⟨2,zaA (zbU [(enc_3 from_a1),(enc_3 to)])⟩:(Sl Int))).1.Net,((s74 n (⟨2,zaA (zbU [(enc_3 from_a1),(enc_3 to)])⟩:(Sl Int))).1.out)⟩:web) zhk (zaL (unX (xcm (zac dt0)))) (⟨zba.len,zba.get⟩:(Sl Use))).2.2),(0:Int)))
 (zba,(0:Int)))
def zzI (n:Net) (from_a1:Int) (to:Int) (P0:Int→(Sl Use)→Tab→Bool) (zhk:Int) (zba:(Sl Use)) (dt0:Tab):Bool :=
  (decide ((0≤zhk∧zhk < (40:Int))) &&
 (cond (decide ((tg 80 dt0 (0 + zhk.toNat * 2 + 1)) > (0:Int)))
 (decide ((p92 (⟨(s74 n (⟨2,zaA (zbU [(enc_3 from_a1),(enc_3 to)])⟩:(Sl Int))).1.Net,((s74 n (⟨2,zaA (zbU [(enc_3 from_a1),(enc_3 to)])⟩:(Sl Int))).1.out)⟩:web) zhk (zaL (unX (xcm (zac dt0)))) (⟨zba.len,zba.get⟩:(Sl Use))=true)) &&
 (cond ((s92 (⟨(s74 n (⟨2, zaA (zbU [(enc_3 from_a1), (enc_3 to)])⟩ : (Sl Int))).1.Net, ((s74 n (⟨2, zaA (zbU [(enc_3 from_a1), (enc_3 to)])⟩ : (Sl Int))).1.out)⟩ : web) zhk (zaL (unX (xcm (zac dt0)))) (⟨zba.len, zba.get⟩ : (Sl Use))).1)
 (P0 ((s92 (⟨(s74 n (⟨2,zaA (zbU [(enc_3 from_a1),(enc_3 to)])⟩:(Sl Int))).1.Net,((s74 n (⟨2,zaA (zbU [(enc_3 from_a1),(enc_3 to)])⟩:(Sl Int))).1.out)⟩:web) zhk (zaL (unX (xcm (zac dt0)))) (⟨zba.len,zba.get⟩:(Sl Use))).2.1) ((s92 (⟨(s74 n (⟨2,zaA (zbU [(enc_3 from_a1),(enc_3 to)])⟩:(Sl Int))).1.Net,((s74 n (⟨2,zaA (zbU [(enc_3 from_a1),(enc_3 to)])⟩:(Sl Int))).1.out)⟩:web) zhk (zaL (unX (xcm (zac dt0)))) (⟨zba.len,zba.get⟩:(Sl Use))).2.2) dt0)
 true))
 true))
def zzJ (n:Net) (from_a1:Int) (to:Int):Nat→Int→(Sl Use)→Tab→((Sl Use)×Int):=lpO (fun _ _ _=>default) (zzH n from_a1 to)
def zzK (n:Net) (from_a1:Int) (to:Int):Nat→Int→(Sl Use)→Tab→Bool:=lpO (fun _ _ _=>false) (zzI n from_a1 to)
def zzL (n:Net) (from_a1:Int) (to:Int) (zhk:Int) (zba:(Sl Use)) (dt0:Tab):((Sl Use)×Int):=zzJ n from_a1 to Fuel zhk zba dt0
def zzM (n:Net) (from_a1:Int) (to:Int) (zhk:Int) (zba:(Sl Use)) (dt0:Tab):Bool:=zzK n from_a1 to Fuel zhk zba dt0
theorem zGx (hs:zzM n from_a1 to zhk zba dt0=true) (hk:K (e54 (zzL n from_a1 to zhk zba dt0))) (zlH:zdC=zg za3 zba):z54 (Wk K) [1,1,1,1,1,1,1,1,0,0] [] (zDC n from_a1 to zhk zba dt0 zdC) :=
  zl (fun X=>z54 (Wk K) [1,1,1,1,1,1,1,1,0,0,0] [X]) (by kernel_rfl) fun X0 hX =>
  (show ∀ k, zJT K n from_a1 to X0 (zzK n from_a1 to k) (zzJ n from_a1 to k) from zh4 _ _ (zzI n from_a1 to) (zzH n from_a1 to) (zJT K n from_a1 to X0)
 (by intro _ _ _ _ hs;exact absurd hs Bool.false_ne_true)
 (by intro P0 S0 hX0 zhk zba dt0 zdC hs hk zlH;subst zlH;exact hX _ (zbb (by kernel_rfl) (zaU hs fun hc hs=>And.intro hc (zc hs hk (fun hs hk=>(zaU hs fun hc hs=>And.intro (And.intro (zE enc_40 4 ((s74 n (⟨2,zaA (zbU [(enc_3 from_a1),(enc_3 to)])⟩:(Sl Int))).1.Net.Ties.get)) (And.intro (rfl:((false,1,false,[none]):MQ)=(false,1,false,[none])) (And.intro (zED:xcm (zac dt0)=xcm (zac (zaL (unX (xcm (zac dt0)))))) (And.intro (zE za3 2 zba.get) hc)))) (zc hs hk (fun hs hk=>(hX0 hs hk rfl)) (fun hs hk=>((zgR hk):Wk K [.one (.sl (((s92 (⟨(s74 n (⟨2,zaA (zbU [(enc_3 from_a1),(enc_3 to)])⟩:(Sl Int))).1.Net,((s74 n (⟨2,zaA (zbU [(enc_3 from_a1),(enc_3 to)])⟩:(Sl Int))).1.out)⟩:web) zhk (zaL (unX (xcm (zac dt0)))) (⟨zba.len,zba.get⟩:(Sl Use))).2.2).len) 2 (fun i=>za3 (((s92 (⟨(s74 n (⟨2,zaA (zbU [(enc_3 from_a1),(enc_3 to)])⟩:(Sl Int))).1.Net,((s74 n (⟨2,zaA (zbU [(enc_3 from_a1),(enc_3 to)])⟩:(Sl Int))).1.out)⟩:web) zhk (zaL (unX (xcm (zac dt0)))) (⟨zba.len,zba.get⟩:(Sl Use))).2.2).get i))),.one (.int .i64 (0:Int))]))))) (fun hs hk=>((zgR hk):Wk K [.one (.sl zba.len 2 (fun i=>za3 (zba.get i))),.one (.int .i64 (0:Int))]))))))) _ hs hk zlH
def s54 (n:Net) (from_a1:Int) (to:Int):((Sl Use)×Int) :=
  (cond ((s74 n (⟨2, zaA (zbU [(enc_3 from_a1), (enc_3 to)])⟩ : (Sl Int))).2 == 0)
 (cond ((0:Int) != (0:Int))
 ((⟨0,fun _=>default⟩:(Sl Use)),(0:Int))
 (cond (match ((tg 80 (s75 (⟨(s74 n (⟨2, zaA (zbU [(enc_3 from_a1), (enc_3 to)])⟩ : (Sl Int))).1.Net, ((s74 n (⟨2, zaA (zbU [(enc_3 from_a1), (enc_3 to)])⟩ : (Sl Int))).1.out)⟩ : web) to) (0 + from_a1.toNat * 2 + 0)) == (1000000000000:Int)) with | true => (match ((tg 80 (s75 (⟨(s74 n (⟨2, zaA (zbU [(enc_3 from_a1), (enc_3 to)])⟩ : (Sl Int))).1.Net, ((s74 n (⟨2, zaA (zbU [(enc_3 from_a1), (enc_3 to)])⟩ : (Sl Int))).1.out)⟩ : web) to) (0 + from_a1.toNat * 2 + 0 + 1)) == (0:Int)) with | true => true | false => false) | false => false)
 ((⟨0,fun _=>default⟩:(Sl Use)),(6:Int))
 (zzL n from_a1 to from_a1 (⟨0,(fun _=>default)⟩:Sl Use) (s75 (⟨(s74 n (⟨2,zaA (zbU [(enc_3 from_a1),(enc_3 to)])⟩:(Sl Int))).1.Net,((s74 n (⟨2,zaA (zbU [(enc_3 from_a1),(enc_3 to)])⟩:(Sl Int))).1.out)⟩:web) to))))
 (cond ((s74 n (⟨2, zaA (zbU [(enc_3 from_a1), (enc_3 to)])⟩ : (Sl Int))).2 != (0:Int))
 ((⟨0,fun _=>default⟩:(Sl Use)),(s74 n (⟨2,zaA (zbU [(enc_3 from_a1),(enc_3 to)])⟩:(Sl Int))).2)
 default))
def p54 (n:Net) (from_a1:Int) (to:Int):Bool :=
  (cond ((s74 n (⟨2, zaA (zbU [(enc_3 from_a1), (enc_3 to)])⟩ : (Sl Int))).2 == 0)
 (decide ((p74 n (⟨2,zaA (zbU [(enc_3 from_a1),(enc_3 to)])⟩:(Sl Int))=true)) &&
 (cond ((0:Int) != (0:Int))
 true
 (decide ((p75 (⟨(s74 n (⟨2,zaA (zbU [(enc_3 from_a1),(enc_3 to)])⟩:(Sl Int))).1.Net,((s74 n (⟨2,zaA (zbU [(enc_3 from_a1),(enc_3 to)])⟩:(Sl Int))).1.out)⟩:web) to=true)) &&
 (decide ((0≤from_a1∧from_a1 < (40:Int))) &&
 (cond (match ((tg 80 (s75 (⟨(s74 n (⟨2, zaA (zbU [(enc_3 from_a1), (enc_3 to)])⟩ : (Sl Int))).1.Net, ((s74 n (⟨2, zaA (zbU [(enc_3 from_a1), (enc_3 to)])⟩ : (Sl Int))).1.out)⟩ : web) to) (0 + from_a1.toNat * 2 + 0)) == (1000000000000:Int)) with | true => (match ((tg 80 (s75 (⟨(s74 n (⟨2, zaA (zbU [(enc_3 from_a1), (enc_3 to)])⟩ : (Sl Int))).1.Net, ((s74 n (⟨2, zaA (zbU [(enc_3 from_a1), (enc_3 to)])⟩ : (Sl Int))).1.out)⟩ : web) to) (0 + from_a1.toNat * 2 + 0 + 1)) == (0:Int)) with | true => true | false => false) | false => false)
 true
 (zzM n from_a1 to from_a1 (⟨0,(fun _=>default)⟩:Sl Use) (s75 (⟨(s74 n (⟨2,zaA (zbU [(enc_3 from_a1),(enc_3 to)])⟩:(Sl Int))).1.Net,((s74 n (⟨2,zaA (zbU [(enc_3 from_a1),(enc_3 to)])⟩:(Sl Int))).1.out)⟩:web) to)))))))
 (decide ((p74 n (⟨2,zaA (zbU [(enc_3 from_a1),(enc_3 to)])⟩:(Sl Int))=true)) &&
 (cond ((s74 n (⟨2, zaA (zbU [(enc_3 from_a1), (enc_3 to)])⟩ : (Sl Int))).2 != (0:Int))
 true
 false)))
end
theorem q54 (n:Net) (from_a1:Int) (to:Int) (K:List PA→Prop) (hs:p54 n from_a1 to=true) (hk:K (e54 (s54 n from_a1 to))):vcFun Tryd.prog G54 zGw 54 [.agg (enc_24 n),.one (.int .i64 from_a1),.one (.int .i64 to)] (Wk K) :=
  zbb (by kernel_rfl) (zc hs hk (fun hs hk=>(zaU hs fun hc hs=>And.intro (And.intro (zE enc_40 4 n.Ties.get) (And.intro ((zeC []):IsE enc_3 1 1 (zbU [(enc_3 from_a1),(enc_3 to)])) hc)) (zc hs hk (fun hs hk=>((wk hk (zh3 (.one (.nil _ _)) (zh3 (.one (.rfl _)) zo4))):Wk K [.one (.nils),.one (.int .i64 (0:Int))])) (fun hs hk=>(zaU hs fun hc hs=>And.intro (And.intro (zE enc_40 4 ((s74 n (⟨2,zaA (zbU [(enc_3 from_a1),(enc_3 to)])⟩:(Sl Int))).1.Net.Ties.get)) (And.intro (rfl:((false,1,false,[none]):MQ)=(false,1,false,[none])) hc)) (zaU hs fun hc hs=>And.intro hc (zc hs hk (fun hs hk=>((wk hk (zh3 (.one (.nil _ _)) (zh3 (.one (.rfl _)) zo4))):Wk K [.one (.nils),.one (.int .i64 (6:Int))])) (fun hs hk=>(zGx hs hk rfl))))))))) (fun hs hk=>(zaU hs fun hc hs=>And.intro (And.intro (zE enc_40 4 n.Ties.get) (And.intro ((zeC []):IsE enc_3 1 1 (zbU [(enc_3 from_a1),(enc_3 to)])) hc)) (zc hs hk (fun hs hk=>((wk hk (zh3 (.one (.nil _ _)) (zh3 (.one (.rfl _)) zo4))):Wk K [.one (.nils),.one (.int .i64 ((s74 n (⟨2,zaA (zbU [(enc_3 from_a1),(enc_3 to)])⟩:(Sl Int))).2))])) (fun hs hk=>(absurd hs Bool.false_ne_true:False))))))
def zGy : List PA → COut
  | [.agg [.int .i64 zah,.sl zae zaz zad],.one (.int .i64 a1),.one (.int .i64 a2)]=>.det (IsE enc_40 4 zaz zad∧p54 (⟨zah,(⟨zae,zao zad⟩:(Sl Tie))⟩:Net) a1 a2=true) [.one (.sl (((s54 (⟨zah,(⟨zae,zao zad⟩:(Sl Tie))⟩:Net) a1 a2).1).len) 2 (fun i=>za3 (((s54 (⟨zah,(⟨zae,zao zad⟩:(Sl Tie))⟩:Net) a1 a2).1).get i))),.one (.int .i64 ((s54 (⟨zah,(⟨zae,zao zad⟩:(Sl Tie))⟩:Net) a1 a2).2))]
  | _=>.no
theorem zJU:zax Tryd.prog 54:=⟨_,rfl,rfl,by kernel_rfl⟩
theorem zN4:Ok Tryd.prog 54 zGy:=zij zMc zJU fun args K h=>by
  unfold zGy at h
  split at h
  · rename_i zah zae zaz zad a1 a2
    obtain ⟨⟨⟨rfl,zar,rfl⟩,hs⟩,hk⟩:=h
    try rw [zan zar] at hs
    try rw [zan zar] at hk
    exact ⟨_,zfU zgQ _,(fun _ _=>[]),(fun _=>false),zGw,q54 (⟨zah,(⟨zae,zar⟩:(Sl Tie))⟩:Net) a1 a2 K hs hk⟩
  · exact h.elim
abbrev T66:Tabs:=Tabs.nil
theorem zMd:TabsOk Tryd.prog T66:=TabsOk.nil
abbrev G66:Ctrs:=csm T66 (fun _ _=>[]) (fun _=>false)
def zJV:Ann:=⟨6,[(0,zK [0] [0]),(1,zK [0] [0,4])],
 [],
 [],
 [],[]⟩
abbrev R66:=Net
abbrev e66 (r:R66):List PA:=[.agg [.int .i64 r.Nodes,.sl r.Ties.len 4 (fun i=>enc_40 (r.Ties.get i))]]
section
variable {K:List PA→Prop}
def s66:Net :=
  (⟨(3:Int),(⟨3,(zp8 (⟨(0:Int),(1:Int),(5:Int),(8:Int)⟩:Tie) [(⟨(0:Int),(1:Int),(5:Int),(8:Int)⟩:Tie),(⟨(1:Int),(2:Int),(-2:Int),(3:Int)⟩:Tie),(⟨(2:Int),(0:Int),(-9:Int),(1000000000000:Int)⟩:Tie)])⟩:(Sl Tie))⟩:Net)
end
theorem q66 (K:List PA→Prop) (hk:K (e66 (s66))):vcFun Tryd.prog G66 zJV 66 [] K :=
  zbb (by kernel_rfl) (Eq.mpr (congrArg K (congrArg (fun (g_:Nat→List PV)=>([.agg [.int .i64 (3:Int),.sl 3 4 g_]]:List PA)) (ztz (enc:=enc_40) (x:=(⟨(0:Int),(1:Int),(5:Int),(8:Int)⟩:Tie)) (y:=(⟨(1:Int),(2:Int),(-2:Int),(3:Int)⟩:Tie)) (r:=[(⟨(2:Int),(0:Int),(-9:Int),(1000000000000:Int)⟩:Tie)])))) hk)
def zGz : List PA → COut
  | []=>.tot [.agg [.int .i64 ((s66).Nodes),.sl ((s66).Ties.len) 4 (fun i=>enc_40 ((s66).Ties.get i))]]
  | _=>.no
theorem zJW:zax Tryd.prog 66:=⟨_,rfl,rfl,by kernel_rfl⟩
theorem zN5:Ok Tryd.prog 66 zGz:=zbv zMd zJW fun args K h=>by
  unfold zGz at h
  split at h
  · have hk := h
    exact ⟨(fun _ _=>[]),(fun _=>false),zJV,q66 K hk⟩
  · exact h.elim
abbrev T21:Tabs:=((((((((((Tabs.nil.addF 22 zFA).addF 25 zFE).addF 26 zFZ).addF 29 zF0).addF 32 zF4).addF 45 zGf).addF 49 zGo).addF 53 zGs).addF 54 zGy).addF 66 zGz)
theorem zMe:TabsOk Tryd.prog T21:=((((((((((TabsOk.nil.addF zNN).addF zNO).addF zNP).addF zNQ).addF ok32).addF zN0).addF zN1).addF zN2).addF zN4).addF zN5)
abbrev G21:Ctrs:=csm T21 (fun _ _=>[]) (fun _=>false)
def zGA:Ann:=⟨87,[(0,zK [] []),(1,zK [1,2] []),(2,zK [1,2,3,4] []),(3,zK [1,2,3,4,5,6] []),(4,zK [1,2,3,4,5,6,7] [7]),(5,zK [1,2,3,4,5,6,7,8,9] [7]),(6,zK [1,2,3,4,5,6,8,9,10,11] []),(7,zK [1,3,5,8,10,57] []),(8,zK [0] []),(9,zK [0] [])],
 [],
 [(2,zK [1,2] []),(3,zK [1,2,3,4] []),(4,zK [1,2,3,4,5,6] []),(5,zK [1,2,3,4,5,6,7] [7]),(6,zK [1,2,3,4,5,6,7,8,9] [7]),(7,zK [1,2,3,4,5,6,8,9,10,11] []),(9,zK [1,3,5,8,10] [])],
 [],[]⟩
abbrev R21:=Bool
abbrev e21 (r:R21):List PA:=[.one (.bool r)]
@[irreducible] def z21:=ptF Tryd.prog G21 zGA Tryd.f21
section
variable {K:List PA→Prop} {bv0:(Sl Span)} {ev0:Int} {zJX:Nat→List PV} {cv1:(Sl Use)} {fv1:Int} {zJY:Nat→List PV} {vv2:(Sl Int)} {gv2:Int} {zJZ:Nat→List PV} {zet:Int} {zdH:(Sl Tie)} {zzN:Nat→List PV} {xv4:(Sl Use)} {hv4:Int} {zJ0:Nat→List PV} {lv5:(Sl Int)} {iv5:Int} {zJ1:Nat→List PV}
def zzO (bv0:(Sl Span)) (cv1:(Sl Use)) (vv2:(Sl Int)) (xv4:(Sl Use)) (lv5:(Sl Int)):Bool :=
  (cond (s32 bv0 (⟨3, zfV (zbU [(zbQ (⟨(0:Int), (0:Int)⟩ : Span)), (zbQ (⟨(5:Int), (8:Int)⟩ : Span)), (zbQ (⟨(3:Int), (9:Int)⟩ : Span))])⟩ : (Sl Span)))
 (cond (s53 cv1 (⟨1, fun _ => (⟨(2:Int), true⟩ : Use)⟩ : (Sl Use)))
 (cond (s25 vv2 (⟨3, zaA (zbU [(enc_3 (0:Int)), (enc_3 (5:Int)), (enc_3 (8:Int))])⟩ : (Sl Int)))
 (cond (s53 xv4 (⟨2, zdr (zbU [(za3 (⟨(2:Int), true⟩ : Use)), (za3 (⟨(3:Int), true⟩ : Use))])⟩ : (Sl Use)))
 (s25 lv5 (⟨1,fun _=>(2:Int)⟩:(Sl Int)))
 false)
 false)
 false)
 false)
def zzP (bv0:(Sl Span)) (cv1:(Sl Use)) (vv2:(Sl Int)) (xv4:(Sl Use)) (lv5:(Sl Int)):Bool :=
  (decide ((p32 bv0 (⟨3,zfV (zbU [(zbQ (⟨(0:Int),(0:Int)⟩:Span)),(zbQ (⟨(5:Int),(8:Int)⟩:Span)),(zbQ (⟨(3:Int),(9:Int)⟩:Span))])⟩:(Sl Span))=true)) &&
 (cond (s32 bv0 (⟨3, zfV (zbU [(zbQ (⟨(0:Int), (0:Int)⟩ : Span)), (zbQ (⟨(5:Int), (8:Int)⟩ : Span)), (zbQ (⟨(3:Int), (9:Int)⟩ : Span))])⟩ : (Sl Span)))
 (decide ((p53 cv1 (⟨1,fun _=>(⟨(2:Int),true⟩:Use)⟩:(Sl Use))=true)) &&
 (cond (s53 cv1 (⟨1, fun _ => (⟨(2:Int), true⟩ : Use)⟩ : (Sl Use)))
 (decide ((p25 vv2 (⟨3,zaA (zbU [(enc_3 (0:Int)),(enc_3 (5:Int)),(enc_3 (8:Int))])⟩:(Sl Int))=true)) &&
 (cond (s25 vv2 (⟨3, zaA (zbU [(enc_3 (0:Int)), (enc_3 (5:Int)), (enc_3 (8:Int))])⟩ : (Sl Int)))
 (decide ((p53 xv4 (⟨2,zdr (zbU [(za3 (⟨(2:Int),true⟩:Use)),(za3 (⟨(3:Int),true⟩:Use))])⟩:(Sl Use))=true)) &&
 (cond (s53 xv4 (⟨2, zdr (zbU [(za3 (⟨(2:Int), true⟩ : Use)), (za3 (⟨(3:Int), true⟩ : Use))])⟩ : (Sl Use)))
 (decide ((p25 lv5 (⟨1,fun _=>(2:Int)⟩:(Sl Int))=true)) &&
 true)
 true))
 true))
 true))
 true))
theorem zGB (hs:zzP bv0 cv1 vv2 xv4 lv5=true) (hk:K (e21 (zzO bv0 cv1 vv2 xv4 lv5))):z21 K [1,1,1,1,1,1,1,1] [] ⟨[(1,zS zbQ 2 bv0),(3,zS za3 2 cv1),(5,zS enc_3 1 vv2),(8,zS za3 2 xv4),(10,zS enc_3 1 lv5)],[],[]⟩:=zbb (by kernel_rfl) (zaU hs fun hc hs=>And.intro (And.intro (zE zbQ 2 bv0.get) (And.intro ((zeC [(⟨(3:Int),(9:Int)⟩:Span)]):IsE zbQ 2 2 (zbU [(zbQ (⟨(0:Int),(0:Int)⟩:Span)),(zbQ (⟨(5:Int),(8:Int)⟩:Span)),(zbQ (⟨(3:Int),(9:Int)⟩:Span))])) hc)) (zc hs hk (fun hs hk=>(zaU hs fun hc hs=>And.intro (And.intro (zE za3 2 cv1.get) (And.intro (zwZ:IsE za3 2 2 (fun _=>(za3 (⟨(2:Int),true⟩:Use)))) hc)) (zc hs hk (fun hs hk=>(zaU hs fun hc hs=>And.intro (And.intro (zE enc_3 1 vv2.get) (And.intro ((zeC [(8:Int)]):IsE enc_3 1 1 (zbU [(enc_3 (0:Int)),(enc_3 (5:Int)),(enc_3 (8:Int))])) hc)) (zc hs hk (fun hs hk=>(zaU hs fun hc hs=>And.intro (And.intro (zE za3 2 xv4.get) (And.intro ((zeC []):IsE za3 2 2 (zbU [(za3 (⟨(2:Int),true⟩:Use)),(za3 (⟨(3:Int),true⟩:Use))])) hc)) (zc hs hk (fun hs hk=>(zaU hs fun hc hs=>And.intro (And.intro (zE enc_3 1 lv5.get) (And.intro (zwZ:IsE enc_3 1 1 (fun _=>(enc_3 (2:Int)))) hc)) hk)) (fun hs hk=>hk)))) (fun hs hk=>hk)))) (fun hs hk=>hk)))) (fun hs hk=>hk)))
def zzQ (bv0:(Sl Span)) (ev0:Int) (cv1:(Sl Use)) (fv1:Int) (vv2:(Sl Int)) (gv2:Int) (xv4:(Sl Use)) (hv4:Int) (lv5:(Sl Int)) (iv5:Int):Bool :=
  (cond (ev0 != (0:Int))
 false
 (cond (fv1 != (0:Int))
 false
 (cond (gv2 != (0:Int))
 false
 (cond (hv4 != (0:Int))
 false
 (cond (iv5 != (0:Int))
 false
 (zzO bv0 cv1 vv2 xv4 lv5))))))
def zzR (bv0:(Sl Span)) (ev0:Int) (cv1:(Sl Use)) (fv1:Int) (vv2:(Sl Int)) (gv2:Int) (xv4:(Sl Use)) (hv4:Int) (lv5:(Sl Int)) (iv5:Int):Bool :=
  (cond (ev0 != (0:Int))
 true
 (cond (fv1 != (0:Int))
 true
 (cond (gv2 != (0:Int))
 true
 (cond (hv4 != (0:Int))
 true
 (cond (iv5 != (0:Int))
 true
 (zzP bv0 cv1 vv2 xv4 lv5))))))
theorem zGC (hs:zzR bv0 ev0 cv1 fv1 vv2 gv2 xv4 hv4 lv5 iv5=true) (hk:K (e21 (zzQ bv0 ev0 cv1 fv1 vv2 gv2 xv4 hv4 lv5 iv5))) (zMf:zJ1=zg enc_3 lv5):z21 K [1,1,1,1,1,1,1] [] ⟨[(1,zS zbQ 2 bv0),(2,zI ev0),(3,zS za3 2 cv1),(4,zI fv1),(5,zS enc_3 1 vv2),(6,zI gv2),(8,zS za3 2 xv4),(9,zI hv4),(10,zP (.sl lv5.len 1 zJ1)),(11,zI iv5)],[],[]⟩:=by subst zMf;exact zbb (by kernel_rfl) (zc hs hk (fun hs hk=>hk) (fun hs hk=>(zc hs hk (fun hs hk=>hk) (fun hs hk=>(zc hs hk (fun hs hk=>hk) (fun hs hk=>(zc hs hk (fun hs hk=>hk) (fun hs hk=>(zc hs hk (fun hs hk=>hk) (fun hs hk=>(zGB hs hk)))))))))))
def zzS (bv0:(Sl Span)) (ev0:Int) (cv1:(Sl Use)) (fv1:Int) (vv2:(Sl Int)) (gv2:Int) (zet:Int) (zdH:(Sl Tie)) (xv4:(Sl Use)) (hv4:Int):Bool :=
  (zzQ bv0 ev0 cv1 fv1 vv2 gv2 xv4 hv4 ((s22 (⟨zet,zdH⟩:Net)).1) ((s22 (⟨zet,zdH⟩:Net)).2))
def zzT (bv0:(Sl Span)) (ev0:Int) (cv1:(Sl Use)) (fv1:Int) (vv2:(Sl Int)) (gv2:Int) (zet:Int) (zdH:(Sl Tie)) (xv4:(Sl Use)) (hv4:Int):Bool :=
  (decide ((p22 (⟨zet,zdH⟩:Net)=true)) &&
 (zzR bv0 ev0 cv1 fv1 vv2 gv2 xv4 hv4 ((s22 (⟨zet,zdH⟩:Net)).1) ((s22 (⟨zet,zdH⟩:Net)).2)))
theorem zGD (hs:zzT bv0 ev0 cv1 fv1 vv2 gv2 zet zdH xv4 hv4=true) (hk:K (e21 (zzS bv0 ev0 cv1 fv1 vv2 gv2 zet zdH xv4 hv4))) (zMg:zJ0=zg za3 xv4):z21 K [1,1,1,1,1,1] [] ⟨[(1,zS zbQ 2 bv0),(2,zI ev0),(3,zS za3 2 cv1),(4,zI fv1),(5,zS enc_3 1 vv2),(6,zI gv2),(7,zp 7 0),(8,zP (.sl xv4.len 2 zJ0)),(9,zI hv4)],[(7,.box 24 (zm (enc_24 (⟨zet,zdH⟩:Net))))],[]⟩:=by subst zMg;exact zbb (by kernel_rfl) (zaU hs fun hc hs=>And.intro (And.intro (zE enc_40 4 zdH.get) hc) (zGC hs hk rfl))
def zzU (bv0:(Sl Span)) (ev0:Int) (cv1:(Sl Use)) (fv1:Int) (vv2:(Sl Int)) (gv2:Int) (zet:Int) (zdH:(Sl Tie)):Bool :=
  (zzS bv0 ev0 cv1 fv1 vv2 gv2 zet zdH ((s49 (⟨zet,zdH⟩:Net)).1) ((s49 (⟨zet,zdH⟩:Net)).2))
def zzV (bv0:(Sl Span)) (ev0:Int) (cv1:(Sl Use)) (fv1:Int) (vv2:(Sl Int)) (gv2:Int) (zet:Int) (zdH:(Sl Tie)):Bool :=
  (decide ((p49 (⟨zet,zdH⟩:Net)=true)) &&
 (zzT bv0 ev0 cv1 fv1 vv2 gv2 zet zdH ((s49 (⟨zet,zdH⟩:Net)).1) ((s49 (⟨zet,zdH⟩:Net)).2)))
theorem zGE (hs:zzV bv0 ev0 cv1 fv1 vv2 gv2 zet zdH=true) (hk:K (e21 (zzU bv0 ev0 cv1 fv1 vv2 gv2 zet zdH))) (zGF:zzN=zg enc_40 zdH):z21 K [1,1,1,1,1] [] ⟨[(1,zS zbQ 2 bv0),(2,zI ev0),(3,zS za3 2 cv1),(4,zI fv1),(5,zS enc_3 1 vv2),(6,zI gv2),(7,zp 7 0)],[(7,.box 24 [zi zet,.p (.sl zdH.len 4 zzN)])],[]⟩:=by subst zGF;exact zbb (by kernel_rfl) (zaU hs fun hc hs=>And.intro (And.intro (zE enc_40 4 zdH.get) hc) (zGD hs hk rfl))
def zzW (bv0:(Sl Span)) (ev0:Int) (cv1:(Sl Use)) (fv1:Int) (vv2:(Sl Int)) (gv2:Int):Bool :=
  (zzU bv0 ev0 cv1 fv1 vv2 gv2 ((s29 s66 (⟨(0:Int),(2:Int),(10:Int),(12:Int)⟩:Tie)).Nodes) ((s29 s66 (⟨(0:Int),(2:Int),(10:Int),(12:Int)⟩:Tie)).Ties))
def zzX (bv0:(Sl Span)) (ev0:Int) (cv1:(Sl Use)) (fv1:Int) (vv2:(Sl Int)) (gv2:Int):Bool :=
  (decide ((p29 s66 (⟨(0:Int),(2:Int),(10:Int),(12:Int)⟩:Tie)=true)) &&
 (zzV bv0 ev0 cv1 fv1 vv2 gv2 ((s29 s66 (⟨(0:Int),(2:Int),(10:Int),(12:Int)⟩:Tie)).Nodes) ((s29 s66 (⟨(0:Int),(2:Int),(10:Int),(12:Int)⟩:Tie)).Ties)))
theorem zGG (hs:zzX bv0 ev0 cv1 fv1 vv2 gv2=true) (hk:K (e21 (zzW bv0 ev0 cv1 fv1 vv2 gv2))) (zMh:zJZ=zg enc_3 vv2):z21 K [1,1,1,1] [] ⟨[(1,zS zbQ 2 bv0),(2,zI ev0),(3,zS za3 2 cv1),(4,zI fv1),(5,zP (.sl vv2.len 1 zJZ)),(6,zI gv2)],[],[]⟩:=by subst zMh;exact zbb (by kernel_rfl) (zaU hs fun hc hs=>And.intro (And.intro (zE enc_40 4 s66.Ties.get) hc) (zGE hs hk rfl))
def zzY (bv0:(Sl Span)) (ev0:Int) (cv1:(Sl Use)) (fv1:Int):Bool :=
  (zzW bv0 ev0 cv1 fv1 ((s45 s66 (1:Int) (0:Int)).1) ((s45 s66 (1:Int) (0:Int)).2))
def zzZ (bv0:(Sl Span)) (ev0:Int) (cv1:(Sl Use)) (fv1:Int):Bool :=
  (decide ((p45 s66 (1:Int) (0:Int)=true)) &&
 (zzX bv0 ev0 cv1 fv1 ((s45 s66 (1:Int) (0:Int)).1) ((s45 s66 (1:Int) (0:Int)).2)))
theorem zGH (hs:zzZ bv0 ev0 cv1 fv1=true) (hk:K (e21 (zzY bv0 ev0 cv1 fv1))) (zMi:zJY=zg za3 cv1):z21 K [1,1,1] [] ⟨[(1,zS zbQ 2 bv0),(2,zI ev0),(3,zP (.sl cv1.len 2 zJY)),(4,zI fv1)],[],[]⟩:=by subst zMi;exact zbb (by kernel_rfl) (zaU hs fun hc hs=>And.intro (And.intro (zE enc_40 4 s66.Ties.get) hc) (zGG hs hk rfl))
def zz0 (bv0:(Sl Span)) (ev0:Int):Bool :=
  (zzY bv0 ev0 ((s54 s66 (0:Int) (2:Int)).1) ((s54 s66 (0:Int) (2:Int)).2))
def zz1 (bv0:(Sl Span)) (ev0:Int):Bool :=
  (decide ((p54 s66 (0:Int) (2:Int)=true)) &&
 (zzZ bv0 ev0 ((s54 s66 (0:Int) (2:Int)).1) ((s54 s66 (0:Int) (2:Int)).2)))
theorem zGI (hs:zz1 bv0 ev0=true) (hk:K (e21 (zz0 bv0 ev0))) (zMj:zJX=zg zbQ bv0):z21 K [1,1] [] ⟨[(1,zP (.sl bv0.len 2 zJX)),(2,zI ev0)],[],[]⟩:=by subst zMj;exact zbb (by kernel_rfl) (zaU hs fun hc hs=>And.intro (And.intro (zE enc_40 4 s66.Ties.get) hc) (zGH hs hk rfl))
def s21:Bool :=
  (zz0 ((s26 s66).1) ((s26 s66).2))
def p21:Bool :=
  (decide ((p26 s66=true)) &&
 (zz1 ((s26 s66).1) ((s26 s66).2)))
end
theorem q21 (K:List PA→Prop) (hs:p21=true) (hk:K (e21 (s21))):vcFun Tryd.prog G21 zGA 21 [] K :=
  zbb (by kernel_rfl) (zaU hs fun hc hs=>And.intro (And.intro (zE enc_40 4 s66.Ties.get) hc) (zGI hs hk rfl))
theorem zJ2:p21=true:=by kernel_rfl
theorem zJ3:s21=true:=by kernel_rfl
def zGJ : List PA → COut
  | []=>.tot [.one (.bool true)]
  | _=>.no
theorem zJ4:zax Tryd.prog 21:=⟨_,rfl,rfl,by kernel_rfl⟩
theorem zN6:Ok Tryd.prog 21 zGJ:=zbv zMe zJ4 fun args K h=>by
  unfold zGJ at h
  split at h
  · refine ⟨fun _ _ => [], fun _ => false, zGA, q21 K zJ2 ?_⟩
    show K [.one (.bool s21)]
    rw [zJ3];exact h
  · exact h.elim
abbrev T20:Tabs:=Tabs.nil
theorem zMk:TabsOk Tryd.prog T20:=TabsOk.nil
abbrev G20:Ctrs:=csm T20 (fun _ _=>[]) (fun _=>false)
def zJ5:Ann:=⟨32,[(0,zK [1,2] [2]),(1,zK [4] [])],
 [],
 [],
 [],[]⟩
abbrev R20:=Bool
abbrev e20 (r:R20):List PA:=[.one (.bool r)]
section
variable {K:List PA→Prop} {n:Net} {ties:Int}
def s20 (n:Net) (ties:Int):Bool :=
  (cond (decide (n.Nodes ≤ (7:Int)))
 (cond (decide ((n.Ties.len : Int) ≤ ties))
 true
 (cond (decide ((n.Ties.len : Int) > (200:Int)))
 (decide ((n.Ties.len:Int)≤(210:Int)))
 false))
 (cond (decide (n.Nodes > (40:Int)))
 (cond (decide ((n.Ties.len : Int) ≤ ties))
 true
 (cond (decide ((n.Ties.len : Int) > (200:Int)))
 (decide ((n.Ties.len:Int)≤(210:Int)))
 false))
 false))
end
theorem q20 (n:Net) (ties:Int) (K:List PA→Prop) (hk:K (e20 (s20 n ties))):vcFun Tryd.prog G20 zJ5 20 [.agg (enc_24 n),.one (.int .i64 ties)] K :=
  zbb (by kernel_rfl) (zt hk (fun hk=>(zt hk (fun hk=>hk) (fun hk=>(zt hk (fun hk=>hk) (fun hk=>hk))))) (fun hk=>(zt hk (fun hk=>(zt hk (fun hk=>hk) (fun hk=>(zt hk (fun hk=>hk) (fun hk=>hk))))) (fun hk=>hk))))
def zGK : List PA → COut
  | [.agg [.int .i64 zah,.sl zae zaz zad],.one (.int .i64 a1)]=>.det (IsE enc_40 4 zaz zad) [.one (.bool (s20 (⟨zah,(⟨zae,zao zad⟩:(Sl Tie))⟩:Net) a1))]
  | _=>.no
theorem zJ6:zax Tryd.prog 20:=⟨_,rfl,rfl,by kernel_rfl⟩
theorem zN7:Ok Tryd.prog 20 zGK:=zbv zMk zJ6 fun args K h=>by
  unfold zGK at h
  split at h
  · rename_i zah zae zaz zad a1
    obtain ⟨⟨rfl,zar,rfl⟩,hk⟩:=h
    try rw [zan zar] at hk
    exact ⟨(fun _ _=>[]),(fun _=>false),zJ5,q20 (⟨zah,(⟨zae,zar⟩:(Sl Tie))⟩:Net) a1 K hk⟩
  · exact h.elim
abbrev T72:Tabs:=Tabs.nil
theorem zMl:TabsOk Tryd.prog T72:=TabsOk.nil
abbrev G72:Ctrs:=csm T72 (fun _ _=>[]) (fun _=>false)
def zJ7:Ann:=⟨15,[(0,zK [0,1,2] []),(1,zK [6] [])],
 [],
 [],
 [],[]⟩
abbrev R72:=Bool
abbrev e72 (r:R72):List PA:=[.one (.bool r)]
section
variable {K:List PA→Prop} {x:Int} {low:Int} {high:Int}
def s72 (x:Int) (low:Int) (high:Int):Bool :=
  (cond (decide (x ≥ low))
 (decide (x≤high))
 false)
end
theorem q72 (x:Int) (low:Int) (high:Int) (K:List PA→Prop) (hk:K (e72 (s72 x low high))):vcFun Tryd.prog G72 zJ7 72 [.one (.int .i64 x),.one (.int .i64 low),.one (.int .i64 high)] K :=
  zbb (by kernel_rfl) (zt hk (fun hk=>hk) (fun hk=>hk))
def zz2 : List PA → COut
  | [.one (.int .i64 a0),.one (.int .i64 a1),.one (.int .i64 a2)]=>.tot [.one (.bool (s72 a0 a1 a2))]
  | _=>.no
theorem zJ8:zax Tryd.prog 72:=⟨_,rfl,rfl,by kernel_rfl⟩
theorem zMm:Ok Tryd.prog 72 zz2:=zbv zMl zJ8 fun args K h=>by
  unfold zz2 at h
  split at h
  · rename_i a0 a1 a2
    have hk:=h
    exact ⟨(fun _ _=>[]),(fun _=>false),zJ7,q72 a0 a1 a2 K hk⟩
  · exact h.elim
abbrev T36:Tabs:=(Tabs.nil.addF 72 zz2)
theorem zMn:TabsOk Tryd.prog T36:=(TabsOk.nil.addF zMm)
abbrev G36:Ctrs:=csm T36 (fun _ _=>[]) (fun _=>false)
def zGL:Ann:=⟨51,[(0,zK [0,3] [3]),(1,zK [3,32] [3]),(2,zK [4] []),(3,zK [4] [])],
 [],
 [(2,zK [3,32] [3]),(3,zK [3] [3])],
 [],[]⟩
abbrev R36:=Bool
abbrev e36 (r:R36):List PA:=[.one (.bool r)]
@[irreducible] def z36:=ptF Tryd.prog G36 zGL Tryd.f36
section
variable {K:List PA→Prop} {nodes:Int} {t:Tie} {zCu:Bool}
def zsf (t:Tie):Bool :=
  (cond (t.Low == (-1000000000000:Int))
 (cond (t.High == (1000000000000:Int))
 true
 (s72 t.High (-1000000000:Int) (1000000000:Int)))
 (cond (s72 t.Low (-1000000000:Int) (1000000000:Int))
 (cond (t.High == (1000000000000:Int))
 true
 (s72 t.High (-1000000000:Int) (1000000000:Int)))
 false))
theorem zGM (hk:K (e36 (zsf t))):z36 K [1,1] [] ⟨[(3,zp 3 0)],[(3,.box 40 (zm (enc_40 t)))],[]⟩:=zbb (by kernel_rfl) (zt hk (fun hk=>(zt hk (fun hk=>hk) (fun hk=>hk))) (fun hk=>(zt hk (fun hk=>(zt hk (fun hk=>hk) (fun hk=>hk))) (fun hk=>hk))))
def ziD (t:Tie) (zCu:Bool):Bool :=
  (cond zCu
 false
 (zsf t))
theorem znX (hk:K (e36 (ziD t zCu))):z36 K [1,0,1] [] ⟨[(3,zp 3 0),(32,zB zCu)],[(3,.box 40 (zm (enc_40 t)))],[]⟩:=zbb (by kernel_rfl) (zt hk (fun hk=>hk) (fun hk=>(zGM hk)))
def s36 (nodes:Int) (t:Tie):Bool :=
  (cond (!(s72 t.From (0:Int) (w64 (nodes - (1:Int)))))
 (ziD t true)
 (cond (!(s72 t.To (0:Int) (w64 (nodes - (1:Int)))))
 (ziD t true)
 (cond (t.From == t.To)
 (ziD t true)
 (ziD t (decide (t.Low > t.High))))))
end
theorem q36 (nodes:Int) (t:Tie) (K:List PA→Prop) (hk:K (e36 (s36 nodes t))):vcFun Tryd.prog G36 zGL 36 [.one (.int .i64 nodes),.agg (enc_40 t)] K :=
  zbb (by kernel_rfl) (zt hk (fun hk=>(znX hk)) (fun hk=>(zt hk (fun hk=>(znX hk)) (fun hk=>(zt hk (fun hk=>(znX hk)) (fun hk=>(znX hk)))))))
def zCv : List PA → COut
  | [.one (.int .i64 a0),.agg [.int .i64 zbI,.int .i64 zda,.int .i64 zcd,.int .i64 zbJ]]=>.tot [.one (.bool (s36 a0 (⟨zbI,zda,zcd,zbJ⟩:Tie)))]
  | _=>.no
theorem zJ9:zax Tryd.prog 36:=⟨_,rfl,rfl,by kernel_rfl⟩
theorem zM7:Ok Tryd.prog 36 zCv:=zbv zMn zJ9 fun args K h=>by
  unfold zCv at h
  split at h
  · rename_i a0 zbI zda zcd zbJ
    have hk:=h
    exact ⟨(fun _ _=>[]),(fun _=>false),zGL,q36 a0 (⟨zbI,zda,zcd,zbJ⟩:Tie) K hk⟩
  · exact h.elim
abbrev T23:Tabs:=((Tabs.nil.addF 36 zCv).addF 72 zz2)
theorem zMo:TabsOk Tryd.prog T23:=((TabsOk.nil.addF zM7).addF zMm)
abbrev G23:Ctrs:=csm T23 (fun _ _=>[]) (fun _=>false)
def zGN:Ann:=⟨30,[(0,zK [1] [1]),(1,zK [1,13] [1]),(2,zK [2] []),(3,zK [1,3] [1]),(4,zK [1,3,18] [1]),(5,zK [1,3] [1]),(6,zK [1,3,29] [1]),(7,zK [2] []),(8,zK [2] [])],
 [(4,zK [1,3] [1])],
 [(2,zK [1,13] [1]),(3,zK [1] [1]),(7,zK [1,3,29] [1])],
 [],[]⟩
abbrev R23:=Bool
abbrev e23 (r:R23):List PA:=[.one (.bool r)]
@[irreducible] def z23:=ptF Tryd.prog G23 zGN Tryd.f23
def zDD (n:Net) (iv2:Int):St:=⟨[(1,zp 1 0),(3,zI iv2)],[(1,.box 24 (zm (enc_24 n)))],[]⟩
abbrev zGO (K:List PA→Prop) (n:Net) (X:St→Prop) (P:Int→Bool) (S:Int→Bool):Prop:=∀ ⦃iv2:Int⦄,P iv2=true→K (e23 (S iv2))→X (zDD n iv2)
section
variable {K:List PA→Prop} {n:Net} {zcl:Bool} {iv2:Int} {X2:St→Prop} {P2:Int→Bool} {S2:Int→Bool} {iv3:Int} {zsg:Bool}
def zsh (S2:Int→Bool) (n:Net) (iv3:Int) (zsg:Bool):Bool :=
  (cond zsg
 false
 (S2 (w64 (iv3+(1:Int)))))
def zsi (P2:Int→Bool) (n:Net) (iv3:Int) (zsg:Bool):Bool :=
  (cond zsg
 true
 (P2 (w64 (iv3+(1:Int)))))
theorem zGP (hX2:zGO K n X2 P2 S2) (hs:zsi P2 n iv3 zsg=true) (hk:K (e23 (zsh S2 n iv3 zsg))):z23 K [1,1,0,1,0,0,1,0,0,1] [X2] ⟨[(1,zp 1 0),(3,zI iv3),(29,zB zsg)],[(1,.box 24 (zm (enc_24 n)))],[]⟩:=zbb (by kernel_rfl) (zc hs hk (fun hs hk=>hk) (fun hs hk=>(hX2 hs hk)))
def ziE (n:Net) (S2:Int→Bool) (iv2:Int):Bool :=
  (cond (decide (iv2 < (n.Ties.len : Int)))
 (zsh S2 n iv2 (!(s36 n.Nodes (n.Ties.get iv2.toNat))))
 true)
def ziF (n:Net) (P2:Int→Bool) (iv2:Int):Bool :=
  (cond (decide (iv2 < (n.Ties.len : Int)))
 (decide ((0≤iv2∧iv2 < (n.Ties.len:Int))) &&
 (zsi P2 n iv2 (!(s36 n.Nodes (n.Ties.get iv2.toNat)))))
 true)
def zhf (n:Net):Nat→Int→Bool:=lpO (fun _=>default) (ziE n)
def ziG (n:Net):Nat→Int→Bool:=lpO (fun _=>false) (ziF n)
def zsj (n:Net) (iv2:Int):Bool:=zhf n Fuel iv2
def zsk (n:Net) (iv2:Int):Bool:=ziG n Fuel iv2
theorem zGQ (hs:zsk n iv2=true) (hk:K (e23 (zsj n iv2))):z23 K [1,1,0,1,0] [] (zDD n iv2) :=
  zl (fun X=>z23 K [1,1,0,1,0,0] [X]) (by kernel_rfl) fun X2 hX =>
  (show ∀ k, zGO K n X2 (ziG n k) (zhf n k) from zh4 _ _ (ziF n) (ziE n) (zGO K n X2)
 (by intro _ hs;exact absurd hs Bool.false_ne_true)
 (by intro P2 S2 hX2 iv2 hs hk;exact hX _ (zbb (by kernel_rfl) (zc hs hk (fun hs hk=>(zaU hs fun hc hs=>And.intro hc (zGP hX2 hs hk))) (fun hs hk=>hk))))) _ hs hk
def zsl (n:Net):Bool :=
  (zsj n (0:Int))
def zsm (n:Net):Bool :=
  (zsk n (0:Int))
theorem zGR (hs:zsm n=true) (hk:K (e23 (zsl n))):z23 K [1,1] [] ⟨[(1,zp 1 0)],[(1,.box 24 (zm (enc_24 n)))],[]⟩:=zbb (by kernel_rfl) (zGQ hs hk)
def znY (n:Net) (zcl:Bool):Bool :=
  (cond zcl
 false
 (zsl n))
def znZ (n:Net) (zcl:Bool):Bool :=
  (cond zcl
 true
 (zsm n))
theorem zz3 (hs:znZ n zcl=true) (hk:K (e23 (znY n zcl))):z23 K [1,0,1] [] ⟨[(1,zp 1 0),(13,zB zcl)],[(1,.box 24 (zm (enc_24 n)))],[]⟩:=zbb (by kernel_rfl) (zc hs hk (fun hs hk=>hk) (fun hs hk=>(zGR hs hk)))
def s23 (n:Net):Bool :=
  (cond (!(s72 n.Nodes (1:Int) (40:Int)))
 (znY n true)
 (znY n (decide ((n.Ties.len:Int) > (200:Int)))))
def p23 (n:Net):Bool :=
  (cond (!(s72 n.Nodes (1:Int) (40:Int)))
 (znZ n true)
 (znZ n (decide ((n.Ties.len:Int) > (200:Int)))))
end
theorem q23 (n:Net) (K:List PA→Prop) (hs:p23 n=true) (hk:K (e23 (s23 n))):vcFun Tryd.prog G23 zGN 23 [.agg (enc_24 n)] K :=
  zbb (by kernel_rfl) (zc hs hk (fun hs hk=>(zz3 hs hk)) (fun hs hk=>(zz3 hs hk)))
def zGS : List PA → COut
  | [.agg [.int .i64 zah,.sl zae zaz zad]]=>.det (IsE enc_40 4 zaz zad∧p23 (⟨zah,(⟨zae,zao zad⟩:(Sl Tie))⟩:Net)=true) [.one (.bool (s23 (⟨zah,(⟨zae,zao zad⟩:(Sl Tie))⟩:Net)))]
  | _=>.no
theorem zKa:zax Tryd.prog 23:=⟨_,rfl,rfl,by kernel_rfl⟩
theorem zN8:Ok Tryd.prog 23 zGS:=zbv zMo zKa fun args K h=>by
  unfold zGS at h
  split at h
  · rename_i zah zae zaz zad
    obtain ⟨⟨⟨rfl,zar,rfl⟩,hs⟩,hk⟩:=h
    try rw [zan zar] at hs
    try rw [zan zar] at hk
    exact ⟨(fun _ _=>[]),(fun _=>false),zGN,q23 (⟨zah,(⟨zae,zar⟩:(Sl Tie))⟩:Net) K hs hk⟩
  · exact h.elim
abbrev T77:Tabs:=Tabs.nil
theorem zMp:TabsOk Tryd.prog T77:=TabsOk.nil
abbrev G77:Ctrs:=csm T77 (fun _ _=>[]) (fun _=>false)
def zGT:Ann:=⟨50,[(0,zK [1] [1]),(1,zK [1,3] [1]),(2,zK [1,3,4] [1]),(3,zK [1,3,4,10] [1,32]),(4,zK [1,3,4] [1,32]),(5,zK [1,3,4,5] [1,5,32]),(6,zK [1,3,4,5,20] [1,5,32]),(7,zK [1,3,4,5] [1,5,32]),(8,zK [1,3,4,5,35] [1,5,32]),(9,zK [1,3,4] [1,32]),(10,zK [2] [32])],
 [(3,⟨[1,3,4],[1,32],[(3,32,121,fun _=>zcW default)],[],[],[],[]⟩)],
 [(8,⟨[1,3,4,5],[1,5,32],[(3,32,121,fun _=>zcW default)],[],[],[],[]⟩)],
 [],[]⟩
abbrev R77:=(Sl Step)
abbrev e77 (r:R77):List PA:=[.one (.sl r.len 5 (fun i=>zcW (r.get i)))]
@[irreducible] def z77:=ptF Tryd.prog G77 zGT Tryd.f77
def zDE (n:Net) (iv0:Int) (zdi:(Sl Step)) (zgl:Nat→List PV):St:=⟨[(1,zp 1 0),(3,zv 32),(4,zI iv0)],[(1,.box 24 (zm (enc_24 n))),(32,.vec 121 5 40 zdi.len zgl)],[]⟩
abbrev zGU (K:List PA→Prop) (n:Net) (X:St→Prop) (P:Int→(Sl Step)→Bool) (S:Int→(Sl Step)→(Sl Step)):Prop:=∀ ⦃iv0:Int⦄ ⦃zdi:(Sl Step)⦄ ⦃zgl:Nat→List PV⦄,P iv0 zdi=true→K (e77 (S iv0 zdi))→zgl=zg zcW zdi→X (zDE n iv0 zdi zgl)
section
variable {K:List PA→Prop} {n:Net} {iv0:Int} {zdi:(Sl Step)} {zgl:Nat→List PV} {X0:St→Prop} {P0:Int→(Sl Step)→Bool} {S0:Int→(Sl Step)→(Sl Step)} {iv1:Int} {zpM:Int} {zpN:Int} {zlZ:Int} {zz4:Int} {zgm:(Sl Step)} {zz5:Nat→List PV}
def zn0 (S0:Int→(Sl Step)→(Sl Step)) (n:Net) (iv1:Int) (zpM:Int) (zpN:Int) (zlZ:Int) (zz4:Int) (zgm:(Sl Step)):(Sl Step) :=
  (cond (zlZ != (-1000000000000:Int))
 (S0 (w64 (iv1+(1:Int))) (⟨(zgm.len+1),(zg6 zgm.len zgm.get (fun _=>(⟨zpN,zpM,(w64 (0 - zlZ)),(⟨iv1,true⟩:Use)⟩:Step)))⟩:Sl Step))
 (S0 (w64 (iv1+(1:Int))) zgm))
def zn1 (P0:Int→(Sl Step)→Bool) (n:Net) (iv1:Int) (zpM:Int) (zpN:Int) (zlZ:Int) (zz4:Int) (zgm:(Sl Step)):Bool :=
  (cond (zlZ != (-1000000000000:Int))
 (decide (((zgm.len+1) * 40≤140737488355328∧zgm.len+1≤9223372036854775807)) &&
 (P0 (w64 (iv1+(1:Int))) (⟨(zgm.len+1),(zg6 zgm.len zgm.get (fun _=>(⟨zpN,zpM,(w64 (0 - zlZ)),(⟨iv1,true⟩:Use)⟩:Step)))⟩:Sl Step)))
 (P0 (w64 (iv1+(1:Int))) zgm))
theorem zz6 (hX0:zGU K n X0 P0 S0) (hs:zn1 P0 n iv1 zpM zpN zlZ zz4 zgm=true) (hk:K (e77 (zn0 S0 n iv1 zpM zpN zlZ zz4 zgm))) (zGV:zz5=zg zcW zgm):z77 K [1,1,0,1,0,0,1,0,0,1,1] [X0] ⟨[(1,zp 1 0),(3,zv 32),(4,zI iv1),(5,zp 5 0)],[(1,.box 24 (zm (enc_24 n))),(5,.box 40 (zm (enc_40 (⟨zpM,zpN,zlZ,zz4⟩:Tie)))),(32,.vec 121 5 40 zgm.len zz5)],[]⟩:=by subst zGV;exact zbb (by kernel_rfl) (zc hs hk (fun hs hk=>(zaU hs fun hc hs=>And.intro hc (hX0 hs hk (zkH (enc:=zcW) (f:=zgm.get) (h:=(fun _=>(⟨zpN,zpM,(w64 (0 - zlZ)),(⟨iv1,true⟩:Use)⟩:Step))) rfl rfl)))) (fun hs hk=>(hX0 hs hk rfl)))
def ziH (n:Net) (S0:Int→(Sl Step)→(Sl Step)) (iv0:Int) (zdi:(Sl Step)):(Sl Step) :=
  (cond (decide (iv0 < (n.Ties.len : Int)))
 (cond ((n.Ties.get iv0.toNat).High != (1000000000000:Int))
 (zn0 S0 n iv0 ((n.Ties.get iv0.toNat).From) ((n.Ties.get iv0.toNat).To) ((n.Ties.get iv0.toNat).Low) ((n.Ties.get iv0.toNat).High) (⟨(zdi.len+1),(zg6 zdi.len zdi.get (fun _=>(⟨(n.Ties.get iv0.toNat).From,(n.Ties.get iv0.toNat).To,(n.Ties.get iv0.toNat).High,(⟨iv0,false⟩:Use)⟩:Step)))⟩:Sl Step))
 (zn0 S0 n iv0 ((n.Ties.get iv0.toNat).From) ((n.Ties.get iv0.toNat).To) ((n.Ties.get iv0.toNat).Low) ((n.Ties.get iv0.toNat).High) zdi))
 zdi)
def ziI (n:Net) (P0:Int→(Sl Step)→Bool) (iv0:Int) (zdi:(Sl Step)):Bool :=
  (cond (decide (iv0 < (n.Ties.len : Int)))
 (decide ((0≤iv0∧iv0 < (n.Ties.len:Int))) &&
 (cond ((n.Ties.get iv0.toNat).High != (1000000000000:Int))
 (decide (((zdi.len+1) * 40≤140737488355328∧zdi.len+1≤9223372036854775807)) &&
 (zn1 P0 n iv0 ((n.Ties.get iv0.toNat).From) ((n.Ties.get iv0.toNat).To) ((n.Ties.get iv0.toNat).Low) ((n.Ties.get iv0.toNat).High) (⟨(zdi.len+1),(zg6 zdi.len zdi.get (fun _=>(⟨(n.Ties.get iv0.toNat).From,(n.Ties.get iv0.toNat).To,(n.Ties.get iv0.toNat).High,(⟨iv0,false⟩:Use)⟩:Step)))⟩:Sl Step)))
 (zn1 P0 n iv0 ((n.Ties.get iv0.toNat).From) ((n.Ties.get iv0.toNat).To) ((n.Ties.get iv0.toNat).Low) ((n.Ties.get iv0.toNat).High) zdi)))
 true)
def zdI (n:Net):Nat→Int→(Sl Step)→(Sl Step):=lpO (fun _ _=>default) (ziH n)
def zdJ (n:Net):Nat→Int→(Sl Step)→Bool:=lpO (fun _ _=>false) (ziI n)
def zz7 (n:Net) (iv0:Int) (zdi:(Sl Step)):(Sl Step):=zdI n Fuel iv0 zdi
def zz8 (n:Net) (iv0:Int) (zdi:(Sl Step)):Bool:=zdJ n Fuel iv0 zdi
theorem zGW (hs:zz8 n iv0 zdi=true) (hk:K (e77 (zz7 n iv0 zdi))) (zsn:zgl=zg zcW zdi):z77 K [1,1,0,1,0] [] (zDE n iv0 zdi zgl) :=
  zl (fun X=>z77 K [1,1,0,1,0,0] [X]) (by kernel_rfl) fun X0 hX =>
  (show ∀ k, zGU K n X0 (zdJ n k) (zdI n k) from zh4 _ _ (ziI n) (ziH n) (zGU K n X0)
 (by intro _ _ _ hs;exact absurd hs Bool.false_ne_true)
 (by intro P0 S0 hX0 iv0 zdi zgl hs hk zsn;subst zsn;exact hX _ (zbb (by kernel_rfl) (zc hs hk (fun hs hk=>(zaU hs fun hc hs=>And.intro hc (zc hs hk (fun hs hk=>(zaU hs fun hc hs=>And.intro hc (zz6 hX0 hs hk (zkH (enc:=zcW) (f:=zdi.get) (h:=(fun _=>(⟨(n.Ties.get iv0.toNat).From,(n.Ties.get iv0.toNat).To,(n.Ties.get iv0.toNat).High,(⟨iv0,false⟩:Use)⟩:Step))) rfl rfl)))) (fun hs hk=>(zz6 hX0 hs hk rfl))))) (fun hs hk=>hk))))) _ hs hk zsn
def s77 (n:Net):(Sl Step) :=
  (zz7 n (0:Int) (⟨0,(fun _=>default)⟩:Sl Step))
def p77 (n:Net):Bool :=
  (zz8 n (0:Int) (⟨0,(fun _=>default)⟩:Sl Step))
end
theorem q77 (n:Net) (K:List PA→Prop) (hs:p77 n=true) (hk:K (e77 (s77 n))):vcFun Tryd.prog G77 zGT 77 [.agg (enc_24 n)] K :=
  zbb (by kernel_rfl) (zGW hs hk rfl)
def zCw : List PA → COut
  | [.agg [.int .i64 zah,.sl zae zaz zad]]=>.det (IsE enc_40 4 zaz zad∧p77 (⟨zah,(⟨zae,zao zad⟩:(Sl Tie))⟩:Net)=true) [.one (.sl ((s77 (⟨zah,(⟨zae,zao zad⟩:(Sl Tie))⟩:Net)).len) 5 (fun i=>zcW ((s77 (⟨zah,(⟨zae,zao zad⟩:(Sl Tie))⟩:Net)).get i)))]
  | _=>.no
theorem zKb:zax Tryd.prog 77:=⟨_,rfl,rfl,by kernel_rfl⟩
theorem zM8:Ok Tryd.prog 77 zCw:=zbv zMp zKb fun args K h=>by
  unfold zCw at h
  split at h
  · rename_i zah zae zaz zad
    obtain ⟨⟨⟨rfl,zar,rfl⟩,hs⟩,hk⟩:=h
    try rw [zan zar] at hs
    try rw [zan zar] at hk
    exact ⟨(fun _ _=>[]),(fun _=>false),zGT,q77 (⟨zah,(⟨zae,zar⟩:(Sl Tie))⟩:Net) K hs hk⟩
  · exact h.elim
abbrev T31:Tabs:=(Tabs.nil.addF 77 zCw)
theorem zMq:TabsOk Tryd.prog T31:=(TabsOk.nil.addF zM8)
abbrev G31:Ctrs:=csm T31 (fun _ _=>[]) (fun _=>false)
def zGX:Ann:=⟨67,[(0,zK [1] [1]),(1,zK [1,3] [1]),(2,zK [1,3,4] [1,14]),(3,zK [1,3,4,5] [1,14]),(4,zK [1,3,4,5,6] [1,14]),(5,zK [1,3,4,5,6,21] [1]),(6,zK [1,3,4,5,6] [1,25]),(7,zK [1,3,4,5,6] [1]),(8,zK [1,3,4,5,6,7] [1,25]),(9,zK [1,3,4,5,6,7,8] [1,25]),(10,zK [1,3,4,5,6,7,8,29] [1,25]),(11,zK [1,3,4,5,6,7,8] [1,25]),(12,zK [1,3,4,5,6,7,8,9] [1,25]),(13,zK [1,3,4,5,6,7,8,9,55] [1,25]),(14,zK [1,3,4,5,6,7,8] [1,25]),(15,zK [1,3,4,5,6] [1,25]),(16,zK [2] [])],
 [(5,⟨[1,3,4,5,6],[1],[],[],[],[],[(4,1,fun _=>enc_3 default)]⟩),(10,zK [1,3,4,5,6,7,8] [1,25])],
 [(2,zK [1,3] [1])],
 [],[]⟩
abbrev R31:=Bool
abbrev e31 (r:R31):List PA:=[.one (.bool r)]
@[irreducible] def z31:=ptF Tryd.prog G31 zGX Tryd.f31
def zDF (n:Net) (lv0:(Sl Step)) (zcR:(Sl Int)) (zaq:Bool) (rv1:Int) (zeN:Nat→List PV):St:=⟨[(1,zp 1 0),(3,zS zcW 5 lv0),(4,zP (.sl zcR.len 1 zeN)),(5,zB zaq),(6,zI rv1)],[(1,.box 24 (zm (enc_24 n)))],[]⟩
abbrev zGY (K:List PA→Prop) (n:Net) (lv0:(Sl Step)) (X:St→Prop) (P:(Sl Int)→Bool→Int→Bool) (S:(Sl Int)→Bool→Int→Bool):Prop:=∀ ⦃zcR:(Sl Int)⦄ ⦃zaq:Bool⦄ ⦃rv1:Int⦄ ⦃zeN:Nat→List PV⦄,P zcR zaq rv1=true→K (e31 (S zcR zaq rv1))→zeN=zg enc_3 zcR→X (zDF n lv0 zcR zaq rv1 zeN)
def zDG (n:Net) (lv0:(Sl Step)) (zcm:(Sl Int)) (zaf:Bool) (rv2:Int) (iv2:Int) (zc5:(Sl Int)) (zeO:Nat→List PV) (zgn:Nat→List PV):St:=⟨[(1,zp 1 0),(3,zS zcW 5 lv0),(4,zP (.sl zcm.len 1 zeO)),(5,zB zaf),(6,zI rv2),(7,zv 25),(8,zI iv2)],[(1,.box 24 (zm (enc_24 n))),(25,.vec 3 1 8 zc5.len zgn)],[]⟩
abbrev zKc (K:List PA→Prop) (n:Net) (lv0:(Sl Step)) (X:St→Prop) (P:(Sl Int)→Bool→Int→Int→(Sl Int)→Bool) (S:(Sl Int)→Bool→Int→Int→(Sl Int)→Bool):Prop:=∀ ⦃zcm:(Sl Int)⦄ ⦃zaf:Bool⦄ ⦃rv2:Int⦄ ⦃iv2:Int⦄ ⦃zc5:(Sl Int)⦄ ⦃zeO:Nat→List PV⦄ ⦃zgn:Nat→List PV⦄,P zcm zaf rv2 iv2 zc5=true→K (e31 (S zcm zaf rv2 iv2 zc5))→zeO=zg enc_3 zcm→zgn=zg enc_3 zc5→X (zDG n lv0 zcm zaf rv2 iv2 zc5 zeO zgn)
section
variable {K:List PA→Prop} {n:Net} {lv0:(Sl Step)} {zz9:Nat→List PV} {zcR:(Sl Int)} {zaq:Bool} {rv1:Int} {zeN:Nat→List PV} {X1:St→Prop} {P1:(Sl Int)→Bool→Int→Bool} {S1:(Sl Int)→Bool→Int→Bool} {zcm:(Sl Int)} {zaf:Bool} {rv2:Int} {iv2:Int} {zc5:(Sl Int)} {zeO:Nat→List PV} {zgn:Nat→List PV} {X2:St→Prop} {P2:(Sl Int)→Bool→Int→Int→(Sl Int)→Bool} {S2:(Sl Int)→Bool→Int→Int→(Sl Int)→Bool}
def ziJ (S1:(Sl Int)→Bool→Int→Bool) (n:Net) (lv0:(Sl Step)) (S2:(Sl Int)→Bool→Int→Int→(Sl Int)→Bool) (zcm:(Sl Int)) (zaf:Bool) (rv2:Int) (iv2:Int) (zc5:(Sl Int)):Bool :=
  (cond (decide (iv2 < (lv0.len : Int)))
 (cond (decide ((w64 ((zcm.get (((lv0.get iv2.toNat).From).toNat)) + (lv0.get iv2.toNat).Length)) < (zc5.get (((lv0.get iv2.toNat).To).toNat))))
 (S2 zcm true rv2 (w64 (iv2+(1:Int))) (⟨zc5.len,(setT (((lv0.get iv2.toNat).To).toNat) (w64 ((zcm.get (((lv0.get iv2.toNat).From).toNat))+(lv0.get iv2.toNat).Length)) zc5.get)⟩:Sl Int))
 (S2 zcm zaf rv2 (w64 (iv2+(1:Int))) zc5))
 (S1 zc5 zaf (w64 (rv2+(1:Int)))))
def ziK (P1:(Sl Int)→Bool→Int→Bool) (n:Net) (lv0:(Sl Step)) (P2:(Sl Int)→Bool→Int→Int→(Sl Int)→Bool) (zcm:(Sl Int)) (zaf:Bool) (rv2:Int) (iv2:Int) (zc5:(Sl Int)):Bool :=
  (cond (decide (iv2 < (lv0.len : Int)))
 (decide ((0≤iv2∧iv2 < (lv0.len:Int))) &&
 (decide ((0≤(lv0.get iv2.toNat).From∧(lv0.get iv2.toNat).From < (zcm.len:Int))) &&
 (decide ((0≤iv2∧iv2 < (lv0.len:Int))) &&
 (decide ((0≤iv2∧iv2 < (lv0.len:Int))) &&
 (decide ((0≤(lv0.get iv2.toNat).To∧(lv0.get iv2.toNat).To < (zc5.len:Int))) &&
 (decide ((((lv0.get iv2.toNat).To).toNat < zc5.len)) &&
 (cond (decide ((w64 ((zcm.get (((lv0.get iv2.toNat).From).toNat)) + (lv0.get iv2.toNat).Length)) < (zc5.get (((lv0.get iv2.toNat).To).toNat))))
 (decide ((0≤iv2∧iv2 < (lv0.len:Int))) &&
 (decide ((0≤(lv0.get iv2.toNat).To∧(lv0.get iv2.toNat).To < (zc5.len:Int))) &&
 (decide ((((lv0.get iv2.toNat).To).toNat < zc5.len)) &&
 (P2 zcm true rv2 (w64 (iv2+(1:Int))) (⟨zc5.len,(setT (((lv0.get iv2.toNat).To).toNat) (w64 ((zcm.get (((lv0.get iv2.toNat).From).toNat))+(lv0.get iv2.toNat).Length)) zc5.get)⟩:Sl Int)))))
 (P2 zcm zaf rv2 (w64 (iv2+(1:Int))) zc5))))))))
 (P1 zc5 zaf (w64 (rv2+(1:Int)))))
def zfu (S1:(Sl Int)→Bool→Int→Bool) (n:Net) (lv0:(Sl Step)):Nat→(Sl Int)→Bool→Int→Int→(Sl Int)→Bool:=lpO (fun _ _ _ _ _=>default) (ziJ S1 n lv0)
def zfv (P1:(Sl Int)→Bool→Int→Bool) (n:Net) (lv0:(Sl Step)):Nat→(Sl Int)→Bool→Int→Int→(Sl Int)→Bool:=lpO (fun _ _ _ _ _=>false) (ziK P1 n lv0)
def zAa (S1:(Sl Int)→Bool→Int→Bool) (n:Net) (lv0:(Sl Step)) (zcm:(Sl Int)) (zaf:Bool) (rv2:Int) (iv2:Int) (zc5:(Sl Int)):Bool:=zfu S1 n lv0 Fuel zcm zaf rv2 iv2 zc5
def zAb (P1:(Sl Int)→Bool→Int→Bool) (n:Net) (lv0:(Sl Step)) (zcm:(Sl Int)) (zaf:Bool) (rv2:Int) (iv2:Int) (zc5:(Sl Int)):Bool:=zfv P1 n lv0 Fuel zcm zaf rv2 iv2 zc5
theorem zGZ (hX1:zGY K n lv0 X1 P1 S1) (hs:zAb P1 n lv0 zcm zaf rv2 iv2 zc5=true) (hk:K (e31 (zAa S1 n lv0 zcm zaf rv2 iv2 zc5))) (zn2:zeO=zg enc_3 zcm) (zso:zgn=zg enc_3 zc5):z31 K [1,1,1,1,0,1,0,0,1,0,0,1,1,0,1,0] [X1] (zDG n lv0 zcm zaf rv2 iv2 zc5 zeO zgn) :=
  zl (fun X=>z31 K [1,1,1,1,0,1,0,0,1,0,0,1,1,0,1,0,0] [X1,X]) (by kernel_rfl) fun X2 hX =>
  (show ∀ k, zKc K n lv0 X2 (zfv P1 n lv0 k) (zfu S1 n lv0 k) from zh4 _ _ (ziK P1 n lv0) (ziJ S1 n lv0) (zKc K n lv0 X2)
 (by intro _ _ _ _ _ _ _ hs;exact absurd hs Bool.false_ne_true)
 (by intro P2 S2 hX2 zcm zaf rv2 iv2 zc5 zeO zgn hs hk zn2 zso;subst zn2;subst zso;exact hX _ (zbb (by kernel_rfl) (zc hs hk (fun hs hk=>(zaU hs fun hc hs=>And.intro hc (zaU hs fun hc hs=>And.intro hc (zaU hs fun hc hs=>And.intro hc (zaU hs fun hc hs=>And.intro hc (zaU hs fun hc hs=>And.intro hc (zaU hs fun hc hs=>And.intro hc (zc hs hk (fun hs hk=>(zaU hs fun hc hs=>And.intro hc (zaU hs fun hc hs=>And.intro hc (zaU hs fun hc hs=>And.intro hc (hX2 hs hk rfl (zfz (enc:=enc_3) (i:=((lv0.get iv2.toNat).To).toNat) (k:=0) (f:=zc5.get) (new:=(enc_3 (w64 ((zcm.get (((lv0.get iv2.toNat).From).toNat))+(lv0.get iv2.toNat).Length)))) (v:=(w64 ((zcm.get (((lv0.get iv2.toNat).From).toNat))+(lv0.get iv2.toNat).Length))) rfl rfl)))))) (fun hs hk=>(hX2 hs hk rfl rfl)))))))))) (fun hs hk=>(hX1 hs hk rfl)))))) _ hs hk zn2 zso
def zgo (n:Net) (lv0:(Sl Step)) (S1:(Sl Int)→Bool→Int→Bool) (zcR:(Sl Int)) (zaq:Bool) (rv1:Int):Bool :=
  (cond (decide (rv1 < n.Nodes))
 (cond zaq
 (zAa S1 n lv0 zcR false rv1 (0:Int) zcR)
 (!zaq))
 (!zaq))
def zgp (n:Net) (lv0:(Sl Step)) (P1:(Sl Int)→Bool→Int→Bool) (zcR:(Sl Int)) (zaq:Bool) (rv1:Int):Bool :=
  (cond (decide (rv1 < n.Nodes))
 (cond zaq
 (decide ((zcR.len * 8≤140737488355328∧zcR.len≤9223372036854775807)) &&
 (zAb P1 n lv0 zcR false rv1 (0:Int) zcR))
 true)
 true)
def zhg (n:Net) (lv0:(Sl Step)):Nat→(Sl Int)→Bool→Int→Bool:=lpO (fun _ _ _=>default) (zgo n lv0)
def zhh (n:Net) (lv0:(Sl Step)):Nat→(Sl Int)→Bool→Int→Bool:=lpO (fun _ _ _=>false) (zgp n lv0)
def zAc (n:Net) (lv0:(Sl Step)) (zcR:(Sl Int)) (zaq:Bool) (rv1:Int):Bool:=zhg n lv0 Fuel zcR zaq rv1
def zAd (n:Net) (lv0:(Sl Step)) (zcR:(Sl Int)) (zaq:Bool) (rv1:Int):Bool:=zhh n lv0 Fuel zcR zaq rv1
theorem zG0 (hs:zAd n lv0 zcR zaq rv1=true) (hk:K (e31 (zAc n lv0 zcR zaq rv1))) (zn3:zeN=zg enc_3 zcR):z31 K [1,1,1,1,0,1,0] [] (zDF n lv0 zcR zaq rv1 zeN) :=
  zl (fun X=>z31 K [1,1,1,1,0,1,0,0] [X]) (by kernel_rfl) fun X1 hX =>
  (show ∀ k, zGY K n lv0 X1 (zhh n lv0 k) (zhg n lv0 k) from zh4 _ _ (zgp n lv0) (zgo n lv0) (zGY K n lv0 X1)
 (by intro _ _ _ _ hs;exact absurd hs Bool.false_ne_true)
 (by intro P1 S1 hX1 zcR zaq rv1 zeN hs hk zn3;subst zn3;exact hX _ (zbb (by kernel_rfl) (zc hs hk (fun hs hk=>(zc hs hk (fun hs hk=>(zaU hs fun hc hs=>And.intro hc (zGZ hX1 hs hk rfl rfl))) (fun hs hk=>hk))) (fun hs hk=>hk))))) _ hs hk zn3
def zAe (n:Net) (lv0:(Sl Step)):Bool :=
  (zAc n lv0 (⟨n.Nodes.toNat,(fun _=>(0:Int))⟩:Sl Int) true (0:Int))
def zsp (n:Net) (lv0:(Sl Step)):Bool :=
  (decide ((0≤n.Nodes∧n.Nodes=n.Nodes∧n.Nodes≤1000000)) &&
 (zAd n lv0 (⟨n.Nodes.toNat,(fun _=>(0:Int))⟩:Sl Int) true (0:Int)))
theorem zG1 (hs:zsp n lv0=true) (hk:K (e31 (zAe n lv0))) (zG2:zz9=zg zcW lv0):z31 K [1,1] [] ⟨[(1,zp 1 0),(3,zP (.sl lv0.len 5 zz9))],[(1,.box 24 (zm (enc_24 n)))],[]⟩:=by subst zG2;exact zbb (by kernel_rfl) (zaU hs fun hc hs=>And.intro hc (zG0 hs hk rfl))
def s31 (n:Net):Bool :=
  (zAe n (s77 n))
def p31 (n:Net):Bool :=
  (decide ((p77 n=true)) &&
 (zsp n (s77 n)))
end
theorem q31 (n:Net) (K:List PA→Prop) (hs:p31 n=true) (hk:K (e31 (s31 n))):vcFun Tryd.prog G31 zGX 31 [.agg (enc_24 n)] K :=
  zbb (by kernel_rfl) (zaU hs fun hc hs=>And.intro (And.intro (zE enc_40 4 n.Ties.get) hc) (zG1 hs hk rfl))
def zG3 : List PA → COut
  | [.agg [.int .i64 zah,.sl zae zaz zad]]=>.det (IsE enc_40 4 zaz zad∧p31 (⟨zah,(⟨zae,zao zad⟩:(Sl Tie))⟩:Net)=true) [.one (.bool (s31 (⟨zah,(⟨zae,zao zad⟩:(Sl Tie))⟩:Net)))]
  | _=>.no
theorem zKd:zax Tryd.prog 31:=⟨_,rfl,rfl,by kernel_rfl⟩
theorem zN9:Ok Tryd.prog 31 zG3:=zbv zMq zKd fun args K h=>by
  unfold zG3 at h
  split at h
  · rename_i zah zae zaz zad
    obtain ⟨⟨⟨rfl,zar,rfl⟩,hs⟩,hk⟩:=h
    try rw [zan zar] at hs
    try rw [zan zar] at hk
    exact ⟨(fun _ _=>[]),(fun _=>false),zGX,q31 (⟨zah,(⟨zae,zar⟩:(Sl Tie))⟩:Net) K hs hk⟩
  · exact h.elim
abbrev T79:Tabs:=(Tabs.nil.addF 76 zvo)
theorem zMr:TabsOk Tryd.prog T79:=(TabsOk.nil.addF zK6)
abbrev G79:Ctrs:=csm T79 (fun _ _=>[]) (fun _=>false)
def zKe:Ann:=⟨40,[(0,zK [0,3] [3]),(1,zK [4] [])],
 [],
 [],
 [],[]⟩
abbrev R79:=Bool
abbrev e79 (r:R79):List PA:=[.one (.bool r)]
section
variable {K:List PA→Prop} {w:web} {t:Tie}
def s79 (w:web) (t:Tie):Bool :=
  (cond (t.High == (1000000000000:Int))
 (cond (t.Low == (-1000000000000:Int))
 true
 (decide ((tg 80 (s76 w t.To) (0+t.From.toNat * 2+0))≤(w64 (0 - t.Low)))))
 (cond (decide ((tg 80 (s76 w t.From) (0 + t.To.toNat * 2 + 0)) ≤ t.High))
 (cond (t.Low == (-1000000000000:Int))
 true
 (decide ((tg 80 (s76 w t.To) (0+t.From.toNat * 2+0))≤(w64 (0 - t.Low)))))
 false))
def p79 (w:web) (t:Tie):Bool :=
  (cond (t.High == (1000000000000:Int))
 (cond (t.Low == (-1000000000000:Int))
 true
 (decide ((p76 w t.To=true)) &&
 (decide ((0≤t.From∧t.From < (40:Int))) &&
 true)))
 (decide ((p76 w t.From=true)) &&
 (decide ((0≤t.To∧t.To < (40:Int))) &&
 (cond (decide ((tg 80 (s76 w t.From) (0 + t.To.toNat * 2 + 0)) ≤ t.High))
 (cond (t.Low == (-1000000000000:Int))
 true
 (decide ((p76 w t.To=true)) &&
 (decide ((0≤t.From∧t.From < (40:Int))) &&
 true)))
 true))))
end
theorem q79 (w:web) (t:Tie) (K:List PA→Prop) (hs:p79 w t=true) (hk:K (e79 (s79 w t))):vcFun Tryd.prog G79 zKe 79 [.one (.fp (zaD w) 0),.agg (enc_40 t)] K :=
  zbb (by kernel_rfl) (zc hs hk (fun hs hk=>(zc hs hk (fun hs hk=>hk) (fun hs hk=>(zaU hs fun hc hs=>And.intro (And.intro (zE enc_40 4 w.Net.Ties.get) (And.intro (rfl:((false,1,false,[none]):MQ)=(false,1,false,[none])) hc)) (zaU hs fun hc hs=>And.intro hc hk))))) (fun hs hk=>(zaU hs fun hc hs=>And.intro (And.intro (zE enc_40 4 w.Net.Ties.get) (And.intro (rfl:((false,1,false,[none]):MQ)=(false,1,false,[none])) hc)) (zaU hs fun hc hs=>And.intro hc (zc hs hk (fun hs hk=>(zc hs hk (fun hs hk=>hk) (fun hs hk=>(zaU hs fun hc hs=>And.intro (And.intro (zE enc_40 4 w.Net.Ties.get) (And.intro (rfl:((false,1,false,[none]):MQ)=(false,1,false,[none])) hc)) (zaU hs fun hc hs=>And.intro hc hk))))) (fun hs hk=>hk))))))
def zG4 : List PA → COut
  | [.one (.fp [.int .i64 zam,.sl zaj zaB zak,.fm zbd zaE zaF] 0),.agg [.int .i64 zbI,.int .i64 zda,.int .i64 zcd,.int .i64 zbJ]]=>.det (IsE enc_40 4 zaB zak∧zbd=(false,1,false,[none])∧p79 (⟨(⟨zam,(⟨zaj,zao zak⟩:(Sl Tie))⟩:Net),(⟨zaE,zaF⟩:Mp)⟩:web) (⟨zbI,zda,zcd,zbJ⟩:Tie)=true) [.one (.bool (s79 (⟨(⟨zam,(⟨zaj,zao zak⟩:(Sl Tie))⟩:Net),(⟨zaE,zaF⟩:Mp)⟩:web) (⟨zbI,zda,zcd,zbJ⟩:Tie)))]
  | _=>.no
theorem zKf:zax Tryd.prog 79:=⟨_,rfl,rfl,by kernel_rfl⟩
theorem zOa:Ok Tryd.prog 79 zG4:=zbv zMr zKf fun args K h=>by
  unfold zG4 at h
  split at h
  · rename_i zam zaj zaB zak zbd zaE zaF zbI zda zcd zbJ
    obtain ⟨⟨⟨rfl,zat,rfl⟩,rfl,hs⟩,hk⟩:=h
    try rw [zan zat] at hs
    try rw [zan zat] at hk
    exact ⟨(fun _ _=>[]),(fun _=>false),zKe,q79 (⟨(⟨zam,(⟨zaj,zat⟩:(Sl Tie))⟩:Net),(⟨zaE,zaF⟩:Mp)⟩:web) (⟨zbI,zda,zcd,zbJ⟩:Tie) K hs hk⟩
  · exact h.elim
abbrev T35:Tabs:=((((Tabs.nil.addF 67 zva).addF 74 zvn).addF 78 zBW).addF 79 zG4)
theorem zMs:TabsOk Tryd.prog T35:=((((TabsOk.nil.addF zKZ).addF zK5).addF zMO).addF zOa)
abbrev G35:Ctrs:=csm T35 (fun _ _=>[]) (fun _=>false)
def zG5:Ann:=⟨29,[(0,zK [2,3] [2,3]),(1,zK [2,3,17] [2,3]),(2,zK [4,5] []),(3,zK [3,6,7] [3]),(4,zK [3,6,7,24] [3]),(5,zK [4,5] []),(6,zK [4,5] [])],
 [],
 [(3,zK [2,3] [2,3])],
 [],[]⟩
abbrev R35:=(Bool×Int)
abbrev e35 (r:R35):List PA:=[.one (.bool r.1),.one (.int .i64 r.2)]
@[irreducible] def z35:=ptF Tryd.prog G35 zG5 Tryd.f35
section
variable {K:List PA→Prop} {n:Net} {t:Tie}
def zsq (n:Net) (t:Tie):(Bool×Int) :=
  (cond ((s74 n (⟨0, fun _ => default⟩ : (Sl Int))).2 == 0)
 (cond ((0:Int) != (0:Int))
 (false,(0:Int))
 ((s79 (⟨(s74 n (⟨0,fun _=>default⟩:(Sl Int))).1.Net,((s74 n (⟨0,fun _=>default⟩:(Sl Int))).1.out)⟩:web) t),(0:Int)))
 (cond ((s74 n (⟨0, fun _ => default⟩ : (Sl Int))).2 != (0:Int))
 (false,(s74 n (⟨0,fun _=>default⟩:(Sl Int))).2)
 default))
def zsr (n:Net) (t:Tie):Bool :=
  (cond ((s74 n (⟨0, fun _ => default⟩ : (Sl Int))).2 == 0)
 (decide ((p74 n (⟨0,fun _=>default⟩:(Sl Int))=true)) &&
 (cond ((0:Int) != (0:Int))
 true
 (decide ((p79 (⟨(s74 n (⟨0,fun _=>default⟩:(Sl Int))).1.Net,((s74 n (⟨0,fun _=>default⟩:(Sl Int))).1.out)⟩:web) t=true)) &&
 true)))
 (decide ((p74 n (⟨0,fun _=>default⟩:(Sl Int))=true)) &&
 (cond ((s74 n (⟨0, fun _ => default⟩ : (Sl Int))).2 != (0:Int))
 true
 false)))
theorem zG6 (hs:zsr n t=true) (hk:K (e35 (zsq n t))):z35 K [1,1] [] ⟨[(2,zp 2 0),(3,zp 3 0)],[(2,.box 24 (zm (enc_24 n))),(3,.box 40 (zm (enc_40 t)))],[]⟩:=zbb (by kernel_rfl) (zc hs hk (fun hs hk=>(zaU hs fun hc hs=>And.intro (And.intro (zE enc_40 4 n.Ties.get) hc) (zc hs hk (fun hs hk=>hk) (fun hs hk=>(zaU hs fun hc hs=>And.intro (And.intro (zE enc_40 4 ((s74 n (⟨0,fun _=>default⟩:(Sl Int))).1.Net.Ties.get)) (And.intro (rfl:((false,1,false,[none]):MQ)=(false,1,false,[none])) hc)) hk))))) (fun hs hk=>(zaU hs fun hc hs=>And.intro (And.intro (zE enc_40 4 n.Ties.get) hc) (zc hs hk (fun hs hk=>hk) (fun hs hk=>(absurd hs Bool.false_ne_true:False))))))
def s35 (n:Net) (t:Tie):(Bool×Int) :=
  (cond (!(s67 n))
 (false,(2:Int))
 (cond (!(s78 t n.Nodes))
 (false,(2:Int))
 (zsq n t)))
def p35 (n:Net) (t:Tie):Bool :=
  (decide ((p67 n=true)) &&
 (cond (!(s67 n))
 true
 (cond (!(s78 t n.Nodes))
 true
 (zsr n t))))
end
theorem q35 (n:Net) (t:Tie) (K:List PA→Prop) (hs:p35 n t=true) (hk:K (e35 (s35 n t))):vcFun Tryd.prog G35 zG5 35 [.agg (enc_24 n),.agg (enc_40 t)] K :=
  zbb (by kernel_rfl) (zaU hs fun hc hs=>And.intro (And.intro (zE enc_40 4 n.Ties.get) hc) (zc hs hk (fun hs hk=>hk) (fun hs hk=>(zc hs hk (fun hs hk=>hk) (fun hs hk=>(zG6 hs hk))))))
def zG7 : List PA → COut
  | [.agg [.int .i64 zah,.sl zae zaz zad],.agg [.int .i64 zbI,.int .i64 zda,.int .i64 zcd,.int .i64 zbJ]]=>.det (IsE enc_40 4 zaz zad∧p35 (⟨zah,(⟨zae,zao zad⟩:(Sl Tie))⟩:Net) (⟨zbI,zda,zcd,zbJ⟩:Tie)=true) [.one (.bool ((s35 (⟨zah,(⟨zae,zao zad⟩:(Sl Tie))⟩:Net) (⟨zbI,zda,zcd,zbJ⟩:Tie)).1)),.one (.int .i64 ((s35 (⟨zah,(⟨zae,zao zad⟩:(Sl Tie))⟩:Net) (⟨zbI,zda,zcd,zbJ⟩:Tie)).2))]
  | _=>.no
theorem zKg:zax Tryd.prog 35:=⟨_,rfl,rfl,by kernel_rfl⟩
theorem zOb:Ok Tryd.prog 35 zG7:=zbv zMs zKg fun args K h=>by
  unfold zG7 at h
  split at h
  · rename_i zah zae zaz zad zbI zda zcd zbJ
    obtain ⟨⟨⟨rfl,zar,rfl⟩,hs⟩,hk⟩:=h
    try rw [zan zar] at hs
    try rw [zan zar] at hk
    exact ⟨(fun _ _=>[]),(fun _=>false),zG5,q35 (⟨zah,(⟨zae,zar⟩:(Sl Tie))⟩:Net) (⟨zbI,zda,zcd,zbJ⟩:Tie) K hs hk⟩
  · exact h.elim
abbrev T46:Tabs:=(Tabs.nil.addF 77 zCw)
theorem zMt:TabsOk Tryd.prog T46:=(TabsOk.nil.addF zM8)
abbrev G46:Ctrs:=csm T46 (fun _ _=>[]) (fun _=>false)
def zG8:Ann:=⟨79,[(0,zK [1,2] [2]),(1,zK [1,2,5] [2]),(2,zK [1,2,5,6] [2,15]),(3,zK [1,2,5,6,7] [2,15]),(4,zK [1,2,5,6,7,19] [2,15]),(5,zK [1,2,5,6,7] [2,15]),(6,zK [1,2,5,6,7] [2,15]),(7,zK [5,6] [15]),(8,zK [5,6,8] [15]),(9,zK [5,6,28] [15]),(10,zK [5,6,8] [15]),(11,zK [5,6,8,9] [15]),(12,zK [5,6,8,9,32] [15]),(13,zK [5,6,8,9] [15]),(14,zK [5,6,8,9,10] [15]),(15,zK [5,6,8,9,10,69] [15]),(16,zK [5,6,8,9] [15]),(17,zK [4] [15])],
 [(4,zK [1,2,5,6,7] [2,15]),(9,zK [5,6,8] [15]),(12,zK [5,6,8,9] [15])],
 [(2,zK [1,2,5] [2]),(7,zK [1,5,6] [15])],
 [],[]⟩
abbrev R46:=(Sl Int)
abbrev e46 (r:R46):List PA:=[.one (.sl r.len 1 (fun i=>enc_3 (r.get i)))]
@[irreducible] def z46:=ptF Tryd.prog G46 zG8 Tryd.f46
def zDH (n:Net) (from_a1:Int) (lv0:(Sl Step)) (iv1:Int) (za5:(Sl Int)) (zbW:Nat→List PV):St:=⟨[(1,zI from_a1),(2,zp 2 0),(5,zS zcW 5 lv0),(6,zv 15),(7,zI iv1)],[(2,.box 24 (zm (enc_24 n))),(15,.vec 3 1 8 za5.len zbW)],[]⟩
abbrev zKh (K:List PA→Prop) (n:Net) (from_a1:Int) (lv0:(Sl Step)) (X:St→Prop) (P:Int→(Sl Int)→Bool) (S:Int→(Sl Int)→(Sl Int)):Prop:=∀ ⦃iv1:Int⦄ ⦃za5:(Sl Int)⦄ ⦃zbW:Nat→List PV⦄,P iv1 za5=true→K (e46 (S iv1 za5))→zbW=zg enc_3 za5→X (zDH n from_a1 lv0 iv1 za5 zbW)
def zDI (lv0:(Sl Step)) (zaa:Bool) (zbw:(Sl Int)) (zbL:Nat→List PV):St:=⟨[(5,zS zcW 5 lv0),(6,zv 15),(8,zB zaa)],[(15,.vec 3 1 8 zbw.len zbL)],[]⟩
abbrev zG9 (K:List PA→Prop) (lv0:(Sl Step)) (X:St→Prop) (P:Bool→(Sl Int)→Bool) (S:Bool→(Sl Int)→(Sl Int)):Prop:=∀ ⦃zaa:Bool⦄ ⦃zbw:(Sl Int)⦄ ⦃zbL:Nat→List PV⦄,P zaa zbw=true→K (e46 (S zaa zbw))→zbL=zg enc_3 zbw→X (zDI lv0 zaa zbw zbL)
def zDJ (lv0:(Sl Step)) (zbz:Bool) (iv4:Int) (zau:(Sl Int)) (zbX:Nat→List PV):St:=⟨[(5,zS zcW 5 lv0),(6,zv 15),(8,zB zbz),(9,zI iv4)],[(15,.vec 3 1 8 zau.len zbX)],[]⟩
abbrev zKi (K:List PA→Prop) (lv0:(Sl Step)) (X:St→Prop) (P:Bool→Int→(Sl Int)→Bool) (S:Bool→Int→(Sl Int)→(Sl Int)):Prop:=∀ ⦃zbz:Bool⦄ ⦃iv4:Int⦄ ⦃zau:(Sl Int)⦄ ⦃zbX:Nat→List PV⦄,P zbz iv4 zau=true→K (e46 (S zbz iv4 zau))→zbX=zg enc_3 zau→X (zDJ lv0 zbz iv4 zau zbX)
section
variable {K:List PA→Prop} {n:Net} {from_a1:Int} {lv0:(Sl Step)} {zz9:Nat→List PV} {iv1:Int} {za5:(Sl Int)} {zbW:Nat→List PV} {X1:St→Prop} {P1:Int→(Sl Int)→Bool} {S1:Int→(Sl Int)→(Sl Int)} {zch:(Sl Int)} {zfp:Nat→List PV} {zaa:Bool} {zbw:(Sl Int)} {zbL:Nat→List PV} {X3:St→Prop} {P3:Bool→(Sl Int)→Bool} {S3:Bool→(Sl Int)→(Sl Int)} {zbz:Bool} {iv4:Int} {zau:(Sl Int)} {zbX:Nat→List PV} {X4:St→Prop} {P4:Bool→Int→(Sl Int)→Bool} {S4:Bool→Int→(Sl Int)→(Sl Int)}
def ziL (S3:Bool→(Sl Int)→(Sl Int)) (lv0:(Sl Step)) (S4:Bool→Int→(Sl Int)→(Sl Int)) (zbz:Bool) (iv4:Int) (zau:(Sl Int)):(Sl Int) :=
  (cond (decide (iv4 < (lv0.len : Int)))
 (cond ((zau.get (((lv0.get iv4.toNat).From).toNat)) != (1000000000000:Int))
 (cond (decide ((w64 ((zau.get (((lv0.get iv4.toNat).From).toNat)) + (lv0.get iv4.toNat).Length)) < (zau.get (((lv0.get iv4.toNat).To).toNat))))
 (S4 true (w64 (iv4+(1:Int))) (⟨zau.len,(setT (((lv0.get iv4.toNat).To).toNat) (w64 ((zau.get (((lv0.get iv4.toNat).From).toNat))+(lv0.get iv4.toNat).Length)) zau.get)⟩:Sl Int))
 (S4 zbz (w64 (iv4+(1:Int))) zau))
 (S4 zbz (w64 (iv4+(1:Int))) zau))
 (S3 zbz zau))
def ziM (P3:Bool→(Sl Int)→Bool) (lv0:(Sl Step)) (P4:Bool→Int→(Sl Int)→Bool) (zbz:Bool) (iv4:Int) (zau:(Sl Int)):Bool :=
  (cond (decide (iv4 < (lv0.len : Int)))
 (decide ((0≤iv4∧iv4 < (lv0.len:Int))) &&
 (decide ((0≤(lv0.get iv4.toNat).From∧(lv0.get iv4.toNat).From < (zau.len:Int))) &&
 (decide ((((lv0.get iv4.toNat).From).toNat < zau.len)) &&
 (decide ((0≤iv4∧iv4 < (lv0.len:Int))) &&
 (decide ((0≤iv4∧iv4 < (lv0.len:Int))) &&
 (decide ((0≤(lv0.get iv4.toNat).From∧(lv0.get iv4.toNat).From < (zau.len:Int))) &&
 (decide ((((lv0.get iv4.toNat).From).toNat < zau.len)) &&
 (cond ((zau.get (((lv0.get iv4.toNat).From).toNat)) != (1000000000000:Int))
 (decide ((0≤iv4∧iv4 < (lv0.len:Int))) &&
 (decide ((0≤(lv0.get iv4.toNat).To∧(lv0.get iv4.toNat).To < (zau.len:Int))) &&
 (decide ((((lv0.get iv4.toNat).To).toNat < zau.len)) &&
 (cond (decide ((w64 ((zau.get (((lv0.get iv4.toNat).From).toNat)) + (lv0.get iv4.toNat).Length)) < (zau.get (((lv0.get iv4.toNat).To).toNat))))
 (decide ((0≤iv4∧iv4 < (lv0.len:Int))) &&
 (decide ((0≤(lv0.get iv4.toNat).To∧(lv0.get iv4.toNat).To < (zau.len:Int))) &&
 (decide ((((lv0.get iv4.toNat).To).toNat < zau.len)) &&
 (P4 true (w64 (iv4+(1:Int))) (⟨zau.len,(setT (((lv0.get iv4.toNat).To).toNat) (w64 ((zau.get (((lv0.get iv4.toNat).From).toNat))+(lv0.get iv4.toNat).Length)) zau.get)⟩:Sl Int)))))
 (P4 zbz (w64 (iv4+(1:Int))) zau)))))
 (P4 zbz (w64 (iv4+(1:Int))) zau)))))))))
 (P3 zbz zau))
def zeo (S3:Bool→(Sl Int)→(Sl Int)) (lv0:(Sl Step)):Nat→Bool→Int→(Sl Int)→(Sl Int):=lpO (fun _ _ _=>default) (ziL S3 lv0)
def zep (P3:Bool→(Sl Int)→Bool) (lv0:(Sl Step)):Nat→Bool→Int→(Sl Int)→Bool:=lpO (fun _ _ _=>false) (ziM P3 lv0)
def zss (S3:Bool→(Sl Int)→(Sl Int)) (lv0:(Sl Step)) (zbz:Bool) (iv4:Int) (zau:(Sl Int)):(Sl Int):=zeo S3 lv0 Fuel zbz iv4 zau
def zst (P3:Bool→(Sl Int)→Bool) (lv0:(Sl Step)) (zbz:Bool) (iv4:Int) (zau:(Sl Int)):Bool:=zep P3 lv0 Fuel zbz iv4 zau
theorem zHa (hX3:zG9 K lv0 X3 P3 S3) (hs:zst P3 lv0 zbz iv4 zau=true) (hk:K (e46 (zss S3 lv0 zbz iv4 zau))) (zeR:zbX=zg enc_3 zau):z46 K [1,1,1,1,1,0,1,0,0,1,0,1,1,0] [X3] (zDJ lv0 zbz iv4 zau zbX) :=
  zl (fun X=>z46 K [1,1,1,1,1,0,1,0,0,1,0,1,1,0,0] [X3,X]) (by kernel_rfl) fun X4 hX =>
  (show ∀ k, zKi K lv0 X4 (zep P3 lv0 k) (zeo S3 lv0 k) from zh4 _ _ (ziM P3 lv0) (ziL S3 lv0) (zKi K lv0 X4)
 (by intro _ _ _ _ hs;exact absurd hs Bool.false_ne_true)
 (by intro P4 S4 hX4 zbz iv4 zau zbX hs hk zeR;subst zeR;exact hX _ (zbb (by kernel_rfl) (zc hs hk (fun hs hk=>(zaU hs fun hc hs=>And.intro hc (zaU hs fun hc hs=>And.intro hc (zaU hs fun hc hs=>And.intro hc (zaU hs fun hc hs=>And.intro hc (zaU hs fun hc hs=>And.intro hc (zaU hs fun hc hs=>And.intro hc (zaU hs fun hc hs=>And.intro hc (zc hs hk (fun hs hk=>(zaU hs fun hc hs=>And.intro hc (zaU hs fun hc hs=>And.intro hc (zaU hs fun hc hs=>And.intro hc (zc hs hk (fun hs hk=>(zaU hs fun hc hs=>And.intro hc (zaU hs fun hc hs=>And.intro hc (zaU hs fun hc hs=>And.intro hc (hX4 hs hk (zfz (enc:=enc_3) (i:=((lv0.get iv4.toNat).To).toNat) (k:=0) (f:=zau.get) (new:=(enc_3 (w64 ((zau.get (((lv0.get iv4.toNat).From).toNat))+(lv0.get iv4.toNat).Length)))) (v:=(w64 ((zau.get (((lv0.get iv4.toNat).From).toNat))+(lv0.get iv4.toNat).Length))) rfl rfl)))))) (fun hs hk=>(hX4 hs hk rfl))))))) (fun hs hk=>(hX4 hs hk rfl))))))))))) (fun hs hk=>(hX3 hs hk rfl)))))) _ hs hk zeR
def zlI (lv0:(Sl Step)) (S3:Bool→(Sl Int)→(Sl Int)) (zaa:Bool) (zbw:(Sl Int)):(Sl Int) :=
  (cond zaa
 (zss S3 lv0 false (0:Int) zbw)
 zbw)
def zlJ (lv0:(Sl Step)) (P3:Bool→(Sl Int)→Bool) (zaa:Bool) (zbw:(Sl Int)):Bool :=
  (cond zaa
 (zst P3 lv0 false (0:Int) zbw)
 true)
def zdk (lv0:(Sl Step)):Nat→Bool→(Sl Int)→(Sl Int):=lpO (fun _ _=>default) (zlI lv0)
def zdt (lv0:(Sl Step)):Nat→Bool→(Sl Int)→Bool:=lpO (fun _ _=>false) (zlJ lv0)
def zAf (lv0:(Sl Step)) (zaa:Bool) (zbw:(Sl Int)):(Sl Int):=zdk lv0 Fuel zaa zbw
def zsu (lv0:(Sl Step)) (zaa:Bool) (zbw:(Sl Int)):Bool:=zdt lv0 Fuel zaa zbw
theorem zHb (hs:zsu lv0 zaa zbw=true) (hk:K (e46 (zAf lv0 zaa zbw))) (zeQ:zbL=zg enc_3 zbw):z46 K [1,1,1,1,1,0,1,0] [] (zDI lv0 zaa zbw zbL) :=
  zl (fun X=>z46 K [1,1,1,1,1,0,1,0,0] [X]) (by kernel_rfl) fun X3 hX =>
  (show ∀ k, zG9 K lv0 X3 (zdt lv0 k) (zdk lv0 k) from zh4 _ _ (zlJ lv0) (zlI lv0) (zG9 K lv0 X3)
 (by intro _ _ _ hs;exact absurd hs Bool.false_ne_true)
 (by intro P3 S3 hX3 zaa zbw zbL hs hk zeQ;subst zeQ;exact hX _ (zbb (by kernel_rfl) (zc hs hk (fun hs hk=>(zHa hX3 hs hk rfl)) (fun hs hk=>hk))))) _ hs hk zeQ
def zsv (from_a1:Int) (lv0:(Sl Step)) (zch:(Sl Int)):(Sl Int) :=
  (zAf lv0 true (⟨zch.len,(setT from_a1.toNat (0:Int) zch.get)⟩:Sl Int))
def zn4 (from_a1:Int) (lv0:(Sl Step)) (zch:(Sl Int)):Bool :=
  (decide ((0≤from_a1∧from_a1 < (zch.len:Int))) &&
 (decide ((from_a1.toNat < zch.len)) &&
 (zsu lv0 true (⟨zch.len,(setT from_a1.toNat (0:Int) zch.get)⟩:Sl Int))))
theorem zHc (hs:zn4 from_a1 lv0 zch=true) (hk:K (e46 (zsv from_a1 lv0 zch))) (zqU:zfp=zg enc_3 zch):z46 K [1,1,1,1] [] ⟨[(1,zI from_a1),(5,zS zcW 5 lv0),(6,zv 15)],[(15,.vec 3 1 8 zch.len zfp)],[]⟩:=by subst zqU;exact zbb (by kernel_rfl) (zaU hs fun hc hs=>And.intro hc (zaU hs fun hc hs=>And.intro hc (zHb hs hk (zfz (enc:=enc_3) (i:=from_a1.toNat) (k:=0) (f:=zch.get) (new:=(enc_3 (0:Int))) (v:=(0:Int)) rfl rfl))))
def ziN (n:Net) (from_a1:Int) (lv0:(Sl Step)) (S1:Int→(Sl Int)→(Sl Int)) (iv1:Int) (za5:(Sl Int)):(Sl Int) :=
  (cond (decide (iv1 < n.Nodes))
 (S1 (w64 (iv1+(1:Int))) (⟨za5.len,(setT iv1.toNat (1000000000000:Int) za5.get)⟩:Sl Int))
 (zsv from_a1 lv0 za5))
def ziO (n:Net) (from_a1:Int) (lv0:(Sl Step)) (P1:Int→(Sl Int)→Bool) (iv1:Int) (za5:(Sl Int)):Bool :=
  (cond (decide (iv1 < n.Nodes))
 (decide ((0≤iv1∧iv1 < (za5.len:Int))) &&
 (decide ((iv1.toNat < za5.len)) &&
 (P1 (w64 (iv1+(1:Int))) (⟨za5.len,(setT iv1.toNat (1000000000000:Int) za5.get)⟩:Sl Int))))
 (zn4 from_a1 lv0 za5))
def ziP (n:Net) (from_a1:Int) (lv0:(Sl Step)):Nat→Int→(Sl Int)→(Sl Int):=lpO (fun _ _=>default) (ziN n from_a1 lv0)
def ziQ (n:Net) (from_a1:Int) (lv0:(Sl Step)):Nat→Int→(Sl Int)→Bool:=lpO (fun _ _=>false) (ziO n from_a1 lv0)
def zAg (n:Net) (from_a1:Int) (lv0:(Sl Step)) (iv1:Int) (za5:(Sl Int)):(Sl Int):=ziP n from_a1 lv0 Fuel iv1 za5
def zAh (n:Net) (from_a1:Int) (lv0:(Sl Step)) (iv1:Int) (za5:(Sl Int)):Bool:=ziQ n from_a1 lv0 Fuel iv1 za5
theorem zHd (hs:zAh n from_a1 lv0 iv1 za5=true) (hk:K (e46 (zAg n from_a1 lv0 iv1 za5))) (zfq:zbW=zg enc_3 za5):z46 K [1,1,1,0,1,0] [] (zDH n from_a1 lv0 iv1 za5 zbW) :=
  zl (fun X=>z46 K [1,1,1,0,1,0,0] [X]) (by kernel_rfl) fun X1 hX =>
  (show ∀ k, zKh K n from_a1 lv0 X1 (ziQ n from_a1 lv0 k) (ziP n from_a1 lv0 k) from zh4 _ _ (ziO n from_a1 lv0) (ziN n from_a1 lv0) (zKh K n from_a1 lv0 X1)
 (by intro _ _ _ hs;exact absurd hs Bool.false_ne_true)
 (by intro P1 S1 hX1 iv1 za5 zbW hs hk zfq;subst zfq;exact hX _ (zbb (by kernel_rfl) (zc hs hk (fun hs hk=>(zaU hs fun hc hs=>And.intro hc (zaU hs fun hc hs=>And.intro hc (hX1 hs hk (zfz (enc:=enc_3) (i:=iv1.toNat) (k:=0) (f:=za5.get) (new:=(enc_3 (1000000000000:Int))) (v:=(1000000000000:Int)) rfl rfl))))) (fun hs hk=>(zHc hs hk rfl)))))) _ hs hk zfq
def zAi (n:Net) (from_a1:Int) (lv0:(Sl Step)):(Sl Int) :=
  (zAg n from_a1 lv0 (0:Int) (⟨n.Nodes.toNat,(fun _=>(0:Int))⟩:Sl Int))
def zsw (n:Net) (from_a1:Int) (lv0:(Sl Step)):Bool :=
  (decide ((0≤n.Nodes∧n.Nodes=n.Nodes∧n.Nodes≤1000000)) &&
 (zAh n from_a1 lv0 (0:Int) (⟨n.Nodes.toNat,(fun _=>(0:Int))⟩:Sl Int)))
theorem zHe (hs:zsw n from_a1 lv0=true) (hk:K (e46 (zAi n from_a1 lv0))) (zG2:zz9=zg zcW lv0):z46 K [1,1] [] ⟨[(1,zI from_a1),(2,zp 2 0),(5,zP (.sl lv0.len 5 zz9))],[(2,.box 24 (zm (enc_24 n)))],[]⟩:=by subst zG2;exact zbb (by kernel_rfl) (zaU hs fun hc hs=>And.intro hc (zHd hs hk rfl))
def s46 (n:Net) (from_a1:Int):(Sl Int) :=
  (zAi n from_a1 (s77 n))
def p46 (n:Net) (from_a1:Int):Bool :=
  (decide ((p77 n=true)) &&
 (zsw n from_a1 (s77 n)))
end
theorem q46 (n:Net) (from_a1:Int) (K:List PA→Prop) (hs:p46 n from_a1=true) (hk:K (e46 (s46 n from_a1))):vcFun Tryd.prog G46 zG8 46 [.agg (enc_24 n),.one (.int .i64 from_a1)] K :=
  zbb (by kernel_rfl) (zaU hs fun hc hs=>And.intro (And.intro (zE enc_40 4 n.Ties.get) hc) (zHe hs hk rfl))
def zHf : List PA → COut
  | [.agg [.int .i64 zah,.sl zae zaz zad],.one (.int .i64 a1)]=>.det (IsE enc_40 4 zaz zad∧p46 (⟨zah,(⟨zae,zao zad⟩:(Sl Tie))⟩:Net) a1=true) [.one (.sl ((s46 (⟨zah,(⟨zae,zao zad⟩:(Sl Tie))⟩:Net) a1).len) 1 (fun i=>enc_3 ((s46 (⟨zah,(⟨zae,zao zad⟩:(Sl Tie))⟩:Net) a1).get i)))]
  | _=>.no
theorem zKj:zax Tryd.prog 46:=⟨_,rfl,rfl,by kernel_rfl⟩
theorem zOc:Ok Tryd.prog 46 zHf:=zbv zMt zKj fun args K h=>by
  unfold zHf at h
  split at h
  · rename_i zah zae zaz zad a1
    obtain ⟨⟨⟨rfl,zar,rfl⟩,hs⟩,hk⟩:=h
    try rw [zan zar] at hs
    try rw [zan zar] at hk
    exact ⟨(fun _ _=>[]),(fun _=>false),zG8,q46 (⟨zah,(⟨zae,zar⟩:(Sl Tie))⟩:Net) a1 K hs hk⟩
  · exact h.elim
abbrev T34:Tabs:=(Tabs.nil.addF 46 zHf)
theorem zMu:TabsOk Tryd.prog T34:=(TabsOk.nil.addF zOc)
abbrev G34:Ctrs:=csm T34 (fun _ _=>[]) (fun _=>false)
def zKk:Ann:=⟨21,[(0,zK [1,2,3,6] [3,6]),(1,zK [6] [6])],
 [],
 [],
 [],[]⟩
abbrev R34:=Span
abbrev e34 (r:R34):List PA:=[.agg [.int .i64 r.Low,.int .i64 r.High]]
section
variable {K:List PA→Prop} {n:Net} {from_a1:Int} {to:Int}
def s34 (n:Net) (from_a1:Int) (to:Int):Span :=
  (⟨(w64 (0 - ((s46 n to).get from_a1.toNat))),((s46 n from_a1).get to.toNat)⟩:Span)
def p34 (n:Net) (from_a1:Int) (to:Int):Bool :=
  (decide ((p46 n to=true)) &&
 (decide ((0≤from_a1∧from_a1 < ((s46 n to).len:Int))) &&
 (decide ((p46 n from_a1=true)) &&
 (decide ((0≤to∧to < ((s46 n from_a1).len:Int))) &&
 true))))
end
theorem q34 (n:Net) (from_a1:Int) (to:Int) (K:List PA→Prop) (hs:p34 n from_a1 to=true) (hk:K (e34 (s34 n from_a1 to))):vcFun Tryd.prog G34 zKk 34 [.agg (enc_24 n),.one (.int .i64 from_a1),.one (.int .i64 to)] K :=
  zbb (by kernel_rfl) (zaU hs fun hc hs=>And.intro (And.intro (zE enc_40 4 n.Ties.get) hc) (zaU hs fun hc hs=>And.intro hc (zaU hs fun hc hs=>And.intro (And.intro (zE enc_40 4 n.Ties.get) hc) (zaU hs fun hc hs=>And.intro hc hk))))
def zHg : List PA → COut
  | [.agg [.int .i64 zah,.sl zae zaz zad],.one (.int .i64 a1),.one (.int .i64 a2)]=>.det (IsE enc_40 4 zaz zad∧p34 (⟨zah,(⟨zae,zao zad⟩:(Sl Tie))⟩:Net) a1 a2=true) [.agg [.int .i64 ((s34 (⟨zah,(⟨zae,zao zad⟩:(Sl Tie))⟩:Net) a1 a2).Low),.int .i64 ((s34 (⟨zah,(⟨zae,zao zad⟩:(Sl Tie))⟩:Net) a1 a2).High)]]
  | _=>.no
theorem zKl:zax Tryd.prog 34:=⟨_,rfl,rfl,by kernel_rfl⟩
theorem zOd:Ok Tryd.prog 34 zHg:=zbv zMu zKl fun args K h=>by
  unfold zHg at h
  split at h
  · rename_i zah zae zaz zad a1 a2
    obtain ⟨⟨⟨rfl,zar,rfl⟩,hs⟩,hk⟩:=h
    try rw [zan zar] at hs
    try rw [zan zar] at hk
    exact ⟨(fun _ _=>[]),(fun _=>false),zKk,q34 (⟨zah,(⟨zae,zar⟩:(Sl Tie))⟩:Net) a1 a2 K hs hk⟩
  · exact h.elim
abbrev T37:Tabs:=(Tabs.nil.addF 34 zHg)
theorem zMv:TabsOk Tryd.prog T37:=(TabsOk.nil.addF zOd)
abbrev G37:Ctrs:=csm T37 (fun _ _=>[]) (fun _=>false)
def zKm:Ann:=⟨34,[(0,zK [2,3] [2,3]),(1,zK [3,5] [3,5]),(2,zK [4] [])],
 [],
 [],
 [],[]⟩
abbrev R37:=Bool
abbrev e37 (r:R37):List PA:=[.one (.bool r)]
section
variable {K:List PA→Prop} {n:Net} {t:Tie}
def s37 (n:Net) (t:Tie):Bool :=
  (cond (t.Low == (-1000000000000:Int))
 (cond (t.High == (1000000000000:Int))
 true
 (decide ((s34 n t.From t.To).High≤t.High)))
 (cond (decide ((s34 n t.From t.To).Low ≥ t.Low))
 (cond (t.High == (1000000000000:Int))
 true
 (decide ((s34 n t.From t.To).High≤t.High)))
 false))
def p37 (n:Net) (t:Tie):Bool :=
  (decide ((p34 n t.From t.To=true)) &&
 true)
end
theorem q37 (n:Net) (t:Tie) (K:List PA→Prop) (hs:p37 n t=true) (hk:K (e37 (s37 n t))):vcFun Tryd.prog G37 zKm 37 [.agg (enc_24 n),.agg (enc_40 t)] K :=
  zbb (by kernel_rfl) (zaU hs fun hc hs=>And.intro (And.intro (zE enc_40 4 n.Ties.get) hc) (zt hk (fun hk=>(zt hk (fun hk=>hk) (fun hk=>hk))) (fun hk=>(zt hk (fun hk=>(zt hk (fun hk=>hk) (fun hk=>hk))) (fun hk=>hk)))))
def zHh : List PA → COut
  | [.agg [.int .i64 zah,.sl zae zaz zad],.agg [.int .i64 zbI,.int .i64 zda,.int .i64 zcd,.int .i64 zbJ]]=>.det (IsE enc_40 4 zaz zad∧p37 (⟨zah,(⟨zae,zao zad⟩:(Sl Tie))⟩:Net) (⟨zbI,zda,zcd,zbJ⟩:Tie)=true) [.one (.bool (s37 (⟨zah,(⟨zae,zao zad⟩:(Sl Tie))⟩:Net) (⟨zbI,zda,zcd,zbJ⟩:Tie)))]
  | _=>.no
theorem zKn:zax Tryd.prog 37:=⟨_,rfl,rfl,by kernel_rfl⟩
theorem zOe:Ok Tryd.prog 37 zHh:=zbv zMv zKn fun args K h=>by
  unfold zHh at h
  split at h
  · rename_i zah zae zaz zad zbI zda zcd zbJ
    obtain ⟨⟨⟨rfl,zar,rfl⟩,hs⟩,hk⟩:=h
    try rw [zan zar] at hs
    try rw [zan zar] at hk
    exact ⟨(fun _ _=>[]),(fun _=>false),zKm,q37 (⟨zah,(⟨zae,zar⟩:(Sl Tie))⟩:Net) (⟨zbI,zda,zcd,zbJ⟩:Tie) K hs hk⟩
  · exact h.elim
abbrev T39:Tabs:=Tabs.nil
theorem zMw:TabsOk Tryd.prog T39:=TabsOk.nil
abbrev G39:Ctrs:=csm T39 (fun _ _=>[]) (fun _=>false)
def zKo:Ann:=⟨37,[(0,zK [1,2] [2]),(1,zK [2,5] [2]),(2,zK [4] [])],
 [],
 [],
 [],[]⟩
abbrev R39:=Bool
abbrev e39 (r:R39):List PA:=[.one (.bool r)]
section
variable {K:List PA→Prop} {t:Tie} {values:(Sl Int)}
def s39 (t:Tie) (values:(Sl Int)):Bool :=
  (cond (t.Low == (-1000000000000:Int))
 (cond (t.High == (1000000000000:Int))
 true
 (decide ((w64 ((values.get t.To.toNat) - (values.get t.From.toNat)))≤t.High)))
 (cond (decide ((w64 ((values.get t.To.toNat) - (values.get t.From.toNat))) ≥ t.Low))
 (cond (t.High == (1000000000000:Int))
 true
 (decide ((w64 ((values.get t.To.toNat) - (values.get t.From.toNat)))≤t.High)))
 false))
def p39 (t:Tie) (values:(Sl Int)):Bool :=
  (decide ((0≤t.To∧t.To < (values.len:Int))) &&
 (decide ((0≤t.From∧t.From < (values.len:Int))) &&
 true))
end
theorem q39 (t:Tie) (values:(Sl Int)) (K:List PA→Prop) (hs:p39 t values=true) (hk:K (e39 (s39 t values))):vcFun Tryd.prog G39 zKo 39 [.agg (enc_40 t),.one (.sl values.len 1 (fun i=>enc_3 (values.get i)))] K :=
  zbb (by kernel_rfl) (zaU hs fun hc hs=>And.intro hc (zaU hs fun hc hs=>And.intro hc (zt hk (fun hk=>(zt hk (fun hk=>hk) (fun hk=>hk))) (fun hk=>(zt hk (fun hk=>(zt hk (fun hk=>hk) (fun hk=>hk))) (fun hk=>hk))))))
def zCx : List PA → COut
  | [.agg [.int .i64 zfW,.int .i64 zo6,.int .i64 zi8,.int .i64 zfX],.one (.sl zd5 zit zdV)]=>.det (IsE enc_3 1 zit zdV∧p39 (⟨zfW,zo6,zi8,zfX⟩:Tie) (⟨zd5,zaA zdV⟩:(Sl Int))=true) [.one (.bool (s39 (⟨zfW,zo6,zi8,zfX⟩:Tie) (⟨zd5,zaA zdV⟩:(Sl Int))))]
  | _=>.no
theorem zKp:zax Tryd.prog 39:=⟨_,rfl,rfl,by kernel_rfl⟩
theorem zM9:Ok Tryd.prog 39 zCx:=zbv zMw zKp fun args K h=>by
  unfold zCx at h
  split at h
  · rename_i zfW zo6 zi8 zfX zd5 zit zdV
    obtain ⟨⟨⟨rfl,zf7,rfl⟩,hs⟩,hk⟩:=h
    try rw [zbp zf7] at hs
    try rw [zbp zf7] at hk
    exact ⟨(fun _ _=>[]),(fun _=>false),zKo,q39 (⟨zfW,zo6,zi8,zfX⟩:Tie) (⟨zd5,zf7⟩:(Sl Int)) K hs hk⟩
  · exact h.elim
abbrev T80:Tabs:=(Tabs.nil.addF 72 zz2)
theorem zMx:TabsOk Tryd.prog T80:=(TabsOk.nil.addF zMm)
abbrev G80:Ctrs:=csm T80 (fun _ _=>[]) (fun _=>false)
def zHi:Ann:=⟨29,[(0,zK [1,2] [2]),(1,zK [1,16] []),(2,zK [4] []),(3,zK [1,5] []),(4,zK [1,5,20] []),(5,zK [1,5] []),(6,zK [1,5,28] []),(7,zK [4] []),(8,zK [4] [])],
 [(4,zK [1,5] [])],
 [(3,zK [1] []),(7,zK [1,5,28] [])],
 [],[]⟩
abbrev R80:=Bool
abbrev e80 (r:R80):List PA:=[.one (.bool r)]
@[irreducible] def z80:=ptF Tryd.prog G80 zHi Tryd.f80
def zDK (values:(Sl Int)) (iv1:Int):St:=⟨[(1,zS enc_3 1 values),(5,zI iv1)],[],[]⟩
abbrev zHj (K:List PA→Prop) (values:(Sl Int)) (X:St→Prop) (P:Int→Bool) (S:Int→Bool):Prop:=∀ ⦃iv1:Int⦄,P iv1=true→K (e80 (S iv1))→X (zDK values iv1)
section
variable {K:List PA→Prop} {n:Net} {values:(Sl Int)} {iv1:Int} {X1:St→Prop} {P1:Int→Bool} {S1:Int→Bool} {iv2:Int} {zpO:Bool}
def zsx (S1:Int→Bool) (values:(Sl Int)) (iv2:Int) (zpO:Bool):Bool :=
  (cond zpO
 false
 (S1 (w64 (iv2+(1:Int)))))
def zsy (P1:Int→Bool) (values:(Sl Int)) (iv2:Int) (zpO:Bool):Bool :=
  (cond zpO
 true
 (P1 (w64 (iv2+(1:Int)))))
theorem zHk (hX1:zHj K values X1 P1 S1) (hs:zsy P1 values iv2 zpO=true) (hk:K (e80 (zsx S1 values iv2 zpO))):z80 K [1,1,0,1,0,0,1,0,0,1] [X1] ⟨[(1,zS enc_3 1 values),(5,zI iv2),(28,zB zpO)],[],[]⟩:=zbb (by kernel_rfl) (zc hs hk (fun hs hk=>hk) (fun hs hk=>(hX1 hs hk)))
def ziR (values:(Sl Int)) (S1:Int→Bool) (iv1:Int):Bool :=
  (cond (decide (iv1 < (values.len : Int)))
 (zsx S1 values iv1 (!(s72 (values.get iv1.toNat) (-1000000000000:Int) (1000000000000:Int))))
 true)
def ziS (values:(Sl Int)) (P1:Int→Bool) (iv1:Int):Bool :=
  (cond (decide (iv1 < (values.len : Int)))
 (decide ((0≤iv1∧iv1 < (values.len:Int))) &&
 (zsy P1 values iv1 (!(s72 (values.get iv1.toNat) (-1000000000000:Int) (1000000000000:Int)))))
 true)
def zhi (values:(Sl Int)):Nat→Int→Bool:=lpO (fun _=>default) (ziR values)
def ziT (values:(Sl Int)):Nat→Int→Bool:=lpO (fun _=>false) (ziS values)
def zsz (values:(Sl Int)) (iv1:Int):Bool:=zhi values Fuel iv1
def zsA (values:(Sl Int)) (iv1:Int):Bool:=ziT values Fuel iv1
theorem zHl (hs:zsA values iv1=true) (hk:K (e80 (zsz values iv1))):z80 K [1,1,0,1,0] [] (zDK values iv1) :=
  zl (fun X=>z80 K [1,1,0,1,0,0] [X]) (by kernel_rfl) fun X1 hX =>
  (show ∀ k, zHj K values X1 (ziT values k) (zhi values k) from zh4 _ _ (ziS values) (ziR values) (zHj K values X1)
 (by intro _ hs;exact absurd hs Bool.false_ne_true)
 (by intro P1 S1 hX1 iv1 hs hk;exact hX _ (zbb (by kernel_rfl) (zc hs hk (fun hs hk=>(zaU hs fun hc hs=>And.intro hc (zHk hX1 hs hk))) (fun hs hk=>hk))))) _ hs hk
def zsB (values:(Sl Int)):Bool :=
  (zsz values (0:Int))
def zsC (values:(Sl Int)):Bool :=
  (zsA values (0:Int))
theorem zHm (hs:zsC values=true) (hk:K (e80 (zsB values))):z80 K [1,1] [] ⟨[(1,zS enc_3 1 values)],[],[]⟩:=zbb (by kernel_rfl) (zHl hs hk)
def s80 (n:Net) (values:(Sl Int)):Bool :=
  (cond ((values.len : Int) != n.Nodes)
 false
 (cond ((values.get 0) != (0:Int))
 false
 (zsB values)))
def p80 (n:Net) (values:(Sl Int)):Bool :=
  (cond ((values.len : Int) != n.Nodes)
 true
 (decide ((0≤(0:Int)∧(0:Int) < (values.len:Int))) &&
 (cond ((values.get 0) != (0:Int))
 true
 (zsC values))))
end
theorem q80 (n:Net) (values:(Sl Int)) (K:List PA→Prop) (hs:p80 n values=true) (hk:K (e80 (s80 n values))):vcFun Tryd.prog G80 zHi 80 [.agg (enc_24 n),.one (.sl values.len 1 (fun i=>enc_3 (values.get i)))] K :=
  zbb (by kernel_rfl) (zc hs hk (fun hs hk=>hk) (fun hs hk=>(zaU hs fun hc hs=>And.intro hc (zc hs hk (fun hs hk=>hk) (fun hs hk=>(zHm hs hk))))))
def zHn : List PA → COut
  | [.agg [.int .i64 zah,.sl zae zaz zad],.one (.sl zd5 zit zdV)]=>.det (IsE enc_40 4 zaz zad∧IsE enc_3 1 zit zdV∧p80 (⟨zah,(⟨zae,zao zad⟩:(Sl Tie))⟩:Net) (⟨zd5,zaA zdV⟩:(Sl Int))=true) [.one (.bool (s80 (⟨zah,(⟨zae,zao zad⟩:(Sl Tie))⟩:Net) (⟨zd5,zaA zdV⟩:(Sl Int))))]
  | _=>.no
theorem zKq:zax Tryd.prog 80:=⟨_,rfl,rfl,by kernel_rfl⟩
theorem zOf:Ok Tryd.prog 80 zHn:=zbv zMx zKq fun args K h=>by
  unfold zHn at h
  split at h
  · rename_i zah zae zaz zad zd5 zit zdV
    obtain ⟨⟨⟨rfl,zar,rfl⟩,⟨rfl,zf7,rfl⟩,hs⟩,hk⟩:=h
    try rw [zan zar] at hs
    try rw [zan zar] at hk
    try rw [zbp zf7] at hs
    try rw [zbp zf7] at hk
    exact ⟨(fun _ _=>[]),(fun _=>false),zHi,q80 (⟨zah,(⟨zae,zar⟩:(Sl Tie))⟩:Net) (⟨zd5,zf7⟩:(Sl Int)) K hs hk⟩
  · exact h.elim
abbrev T38:Tabs:=((Tabs.nil.addF 39 zCx).addF 80 zHn)
theorem zMy:TabsOk Tryd.prog T38:=((TabsOk.nil.addF zM9).addF zOf)
abbrev G38:Ctrs:=csm T38 (fun _ _=>[]) (fun _=>false)
def zHo:Ann:=⟨25,[(0,zK [1,2] [2]),(1,zK [1,2,9] [2]),(2,zK [4] []),(3,zK [1,2,5] [2]),(4,zK [1,2,5,14] [2]),(5,zK [1,2,5] [2]),(6,zK [1,2,5,24] [2]),(7,zK [4] []),(8,zK [4] [])],
 [(4,zK [1,2,5] [2])],
 [(2,zK [1,2,9] [2]),(3,zK [1,2] [2]),(7,zK [1,2,5,24] [2])],
 [],[]⟩
abbrev R38:=Bool
abbrev e38 (r:R38):List PA:=[.one (.bool r)]
@[irreducible] def z38:=ptF Tryd.prog G38 zHo Tryd.f38
def zDL (n:Net) (values:(Sl Int)) (iv2:Int):St:=⟨[(1,zS enc_3 1 values),(2,zp 2 0),(5,zI iv2)],[(2,.box 24 (zm (enc_24 n)))],[]⟩
abbrev zHp (K:List PA→Prop) (n:Net) (values:(Sl Int)) (X:St→Prop) (P:Int→Bool) (S:Int→Bool):Prop:=∀ ⦃iv2:Int⦄,P iv2=true→K (e38 (S iv2))→X (zDL n values iv2)
section
variable {K:List PA→Prop} {n:Net} {values:(Sl Int)} {zha:Bool} {iv2:Int} {X2:St→Prop} {P2:Int→Bool} {S2:Int→Bool} {iv3:Int} {zsD:Bool}
def zsE (S2:Int→Bool) (n:Net) (values:(Sl Int)) (iv3:Int) (zsD:Bool):Bool :=
  (cond zsD
 false
 (S2 (w64 (iv3+(1:Int)))))
def zsF (P2:Int→Bool) (n:Net) (values:(Sl Int)) (iv3:Int) (zsD:Bool):Bool :=
  (cond zsD
 true
 (P2 (w64 (iv3+(1:Int)))))
theorem zHq (hX2:zHp K n values X2 P2 S2) (hs:zsF P2 n values iv3 zsD=true) (hk:K (e38 (zsE S2 n values iv3 zsD))):z38 K [1,1,0,1,0,0,1,0,0,1] [X2] ⟨[(1,zS enc_3 1 values),(2,zp 2 0),(5,zI iv3),(24,zB zsD)],[(2,.box 24 (zm (enc_24 n)))],[]⟩:=zbb (by kernel_rfl) (zc hs hk (fun hs hk=>hk) (fun hs hk=>(hX2 hs hk)))
def ziU (n:Net) (values:(Sl Int)) (S2:Int→Bool) (iv2:Int):Bool :=
  (cond (decide (iv2 < (n.Ties.len : Int)))
 (zsE S2 n values iv2 (!(s39 (n.Ties.get iv2.toNat) values)))
 true)
def ziV (n:Net) (values:(Sl Int)) (P2:Int→Bool) (iv2:Int):Bool :=
  (cond (decide (iv2 < (n.Ties.len : Int)))
 (decide ((0≤iv2∧iv2 < (n.Ties.len:Int))) &&
 (decide ((p39 (n.Ties.get iv2.toNat) values=true)) &&
 (zsF P2 n values iv2 (!(s39 (n.Ties.get iv2.toNat) values)))))
 true)
def ziW (n:Net) (values:(Sl Int)):Nat→Int→Bool:=lpO (fun _=>default) (ziU n values)
def ziX (n:Net) (values:(Sl Int)):Nat→Int→Bool:=lpO (fun _=>false) (ziV n values)
def zsG (n:Net) (values:(Sl Int)) (iv2:Int):Bool:=ziW n values Fuel iv2
def zsH (n:Net) (values:(Sl Int)) (iv2:Int):Bool:=ziX n values Fuel iv2
theorem zHr (hs:zsH n values iv2=true) (hk:K (e38 (zsG n values iv2))):z38 K [1,1,0,1,0] [] (zDL n values iv2) :=
  zl (fun X=>z38 K [1,1,0,1,0,0] [X]) (by kernel_rfl) fun X2 hX =>
  (show ∀ k, zHp K n values X2 (ziX n values k) (ziW n values k) from zh4 _ _ (ziV n values) (ziU n values) (zHp K n values X2)
 (by intro _ hs;exact absurd hs Bool.false_ne_true)
 (by intro P2 S2 hX2 iv2 hs hk;exact hX _ (zbb (by kernel_rfl) (zc hs hk (fun hs hk=>(zaU hs fun hc hs=>And.intro hc (zaU hs fun hc hs=>And.intro (And.intro (zE enc_3 1 values.get) hc) (zHq hX2 hs hk)))) (fun hs hk=>hk))))) _ hs hk
def zsI (n:Net) (values:(Sl Int)):Bool :=
  (zsG n values (0:Int))
def zsJ (n:Net) (values:(Sl Int)):Bool :=
  (zsH n values (0:Int))
theorem zHs (hs:zsJ n values=true) (hk:K (e38 (zsI n values))):z38 K [1,1] [] ⟨[(1,zS enc_3 1 values),(2,zp 2 0)],[(2,.box 24 (zm (enc_24 n)))],[]⟩:=zbb (by kernel_rfl) (zHr hs hk)
def zsK (n:Net) (values:(Sl Int)) (zha:Bool):Bool :=
  (cond zha
 false
 (zsI n values))
def zsL (n:Net) (values:(Sl Int)) (zha:Bool):Bool :=
  (cond zha
 true
 (zsJ n values))
theorem zHt (hs:zsL n values zha=true) (hk:K (e38 (zsK n values zha))):z38 K [1,0,1] [] ⟨[(1,zS enc_3 1 values),(2,zp 2 0),(9,zB zha)],[(2,.box 24 (zm (enc_24 n)))],[]⟩:=zbb (by kernel_rfl) (zc hs hk (fun hs hk=>hk) (fun hs hk=>(zHs hs hk)))
def s38 (n:Net) (values:(Sl Int)):Bool :=
  (zsK n values (!(s80 n values)))
def p38 (n:Net) (values:(Sl Int)):Bool :=
  (decide ((p80 n values=true)) &&
 (zsL n values (!(s80 n values))))
end
theorem q38 (n:Net) (values:(Sl Int)) (K:List PA→Prop) (hs:p38 n values=true) (hk:K (e38 (s38 n values))):vcFun Tryd.prog G38 zHo 38 [.agg (enc_24 n),.one (.sl values.len 1 (fun i=>enc_3 (values.get i)))] K :=
  zbb (by kernel_rfl) (zaU hs fun hc hs=>And.intro (And.intro (zE enc_40 4 n.Ties.get) (And.intro (zE enc_3 1 values.get) hc)) (zHt hs hk))
def zHu : List PA → COut
  | [.agg [.int .i64 zah,.sl zae zaz zad],.one (.sl zd5 zit zdV)]=>.det (IsE enc_40 4 zaz zad∧IsE enc_3 1 zit zdV∧p38 (⟨zah,(⟨zae,zao zad⟩:(Sl Tie))⟩:Net) (⟨zd5,zaA zdV⟩:(Sl Int))=true) [.one (.bool (s38 (⟨zah,(⟨zae,zao zad⟩:(Sl Tie))⟩:Net) (⟨zd5,zaA zdV⟩:(Sl Int))))]
  | _=>.no
theorem zKr:zax Tryd.prog 38:=⟨_,rfl,rfl,by kernel_rfl⟩
theorem zOg:Ok Tryd.prog 38 zHu:=zbv zMy zKr fun args K h=>by
  unfold zHu at h
  split at h
  · rename_i zah zae zaz zad zd5 zit zdV
    obtain ⟨⟨⟨rfl,zar,rfl⟩,⟨rfl,zf7,rfl⟩,hs⟩,hk⟩:=h
    try rw [zan zar] at hs
    try rw [zan zar] at hk
    try rw [zbp zf7] at hs
    try rw [zbp zf7] at hk
    exact ⟨(fun _ _=>[]),(fun _=>false),zHo,q38 (⟨zah,(⟨zae,zar⟩:(Sl Tie))⟩:Net) (⟨zd5,zf7⟩:(Sl Int)) K hs hk⟩
  · exact h.elim
abbrev T7:Tabs:=(((((((((Tabs.nil.addF 20 zGK).addF 21 zGJ).addF 23 zGS).addF 31 zG3).addF 35 zG7).addF 36 zCv).addF 37 zHh).addF 38 zHu).addF 39 zCx)
theorem zOh:TabsOk Tryd.prog T7:=(((((((((TabsOk.nil.addF zN7).addF zN6).addF zN8).addF zN9).addF zOb).addF zM7).addF zOe).addF zOg).addF zM9)
abbrev G7:Ctrs:=csm T7 (fun _ _=>[]) (fun _=>false)
def zMz:Ann:=⟨80,[(0,zK [2,3,4] [3,4]),(1,zK [2,3,4,16] [3,4]),(2,zK [6] []),(3,zK [2,3,4,7,8] [3,4]),(4,zK [2,3,4,7,8,33] [3,4]),(5,zK [6] []),(6,zK [2,3,4,7,8,45] [3,4]),(7,zK [6] []),(8,zK [2,3,4,7,63] [3,4]),(9,zK [6] []),(10,zK [6] [])],
 [],
 [(2,zK [2,3,4,16] [3,4]),(3,zK [2,3,4] [3,4]),(4,zK [2,3,4,7,8] [3,4]),(5,zK [2,3,4,7,8,33] [3,4]),(6,zK [2,3,4,7,8] [3,4]),(7,zK [2,3,4,7,8,45] [3,4]),(8,zK [2,3,4,7,8] [3,4]),(9,zK [2,3,4,7,63] [3,4]),(10,zK [2,3,4,7] [3,4])],
 [],[]⟩
abbrev R7:=Bool
abbrev e7 (r:R7):List PA:=[.one (.bool r)]
@[irreducible] def z7:=ptF Tryd.prog G7 zMz Tryd.f7
section
variable {K:List PA→Prop} {n:Net} {t:Tie} {values:(Sl Int)} {zaQ:Bool} {zdn:Bool} {ev2:Int} {zsM:Bool} {zsN:Bool} {zsO:Bool}
def zAj (n:Net) (t:Tie) (values:(Sl Int)) (zdn:Bool):Bool :=
  (cond (!zdn)
 true
 (cond (!(s38 n values))
 true
 (cond (s39 t values)
 true
 false)))
def zAk (n:Net) (t:Tie) (values:(Sl Int)) (zdn:Bool):Bool :=
  (cond (!zdn)
 true
 (decide ((p38 n values=true)) &&
 (cond (!(s38 n values))
 true
 (decide ((p39 t values=true)) &&
 true))))
theorem zKs (hs:zAk n t values zdn=true) (hk:K (e7 (zAj n t values zdn))):z7 K [1,1,1,1,1,1] [] ⟨[(2,zS enc_3 1 values),(3,zp 3 0),(4,zp 4 0),(7,zB zdn)],[(3,.box 24 (zm (enc_24 n))),(4,.box 40 (zm (enc_40 t)))],[]⟩:=zbb (by kernel_rfl) (zc hs hk (fun hs hk=>hk) (fun hs hk=>(zaU hs fun hc hs=>And.intro (And.intro (zE enc_40 4 n.Ties.get) (And.intro (zE enc_3 1 values.get) hc)) (zc hs hk (fun hs hk=>hk) (fun hs hk=>(zaU hs fun hc hs=>And.intro (And.intro (zE enc_3 1 values.get) hc) (zt hk (fun hk=>hk) (fun hk=>hk))))))))
def zum (n:Net) (t:Tie) (values:(Sl Int)) (zdn:Bool) (zsO:Bool):Bool :=
  (cond zsO
 false
 (zAj n t values zdn))
def zun (n:Net) (t:Tie) (values:(Sl Int)) (zdn:Bool) (zsO:Bool):Bool :=
  (cond zsO
 true
 (zAk n t values zdn))
theorem zDM (hs:zun n t values zdn zsO=true) (hk:K (e7 (zum n t values zdn zsO))):z7 K [1,1,1,1,1,0,1] [] ⟨[(2,zS enc_3 1 values),(3,zp 3 0),(4,zp 4 0),(7,zB zdn),(63,zB zsO)],[(3,.box 24 (zm (enc_24 n))),(4,.box 40 (zm (enc_40 t)))],[]⟩:=zbb (by kernel_rfl) (zc hs hk (fun hs hk=>hk) (fun hs hk=>(zKs hs hk)))
def zAl (n:Net) (t:Tie) (values:(Sl Int)) (zdn:Bool) (ev2:Int):Bool :=
  (cond (ev2 != (0:Int))
 (zum n t values zdn true)
 (zum n t values zdn (zdn != (s37 n t))))
def zAm (n:Net) (t:Tie) (values:(Sl Int)) (zdn:Bool) (ev2:Int):Bool :=
  (cond (ev2 != (0:Int))
 (zun n t values zdn true)
 (decide ((p37 n t=true)) &&
 (zun n t values zdn (zdn != (s37 n t)))))
theorem zKt (hs:zAm n t values zdn ev2=true) (hk:K (e7 (zAl n t values zdn ev2))):z7 K [1,1,1,1,1] [] ⟨[(2,zS enc_3 1 values),(3,zp 3 0),(4,zp 4 0),(7,zB zdn),(8,zI ev2)],[(3,.box 24 (zm (enc_24 n))),(4,.box 40 (zm (enc_40 t)))],[]⟩:=zbb (by kernel_rfl) (zc hs hk (fun hs hk=>(zDM hs hk)) (fun hs hk=>(zaU hs fun hc hs=>And.intro (And.intro (zE enc_40 4 n.Ties.get) hc) (zDM hs hk))))
def zpP (n:Net) (t:Tie) (values:(Sl Int)) (zdn:Bool) (ev2:Int) (zsN:Bool):Bool :=
  (cond zsN
 (cond (ev2 == (5:Int))
 (cond (!zdn)
 true
 false)
 false)
 (zAl n t values zdn ev2))
def zpQ (n:Net) (t:Tie) (values:(Sl Int)) (zdn:Bool) (ev2:Int) (zsN:Bool):Bool :=
  (cond zsN
 true
 (zAm n t values zdn ev2))
theorem zKu (hs:zpQ n t values zdn ev2 zsN=true) (hk:K (e7 (zpP n t values zdn ev2 zsN))):z7 K [1,1,1,1,0,1] [] ⟨[(2,zS enc_3 1 values),(3,zp 3 0),(4,zp 4 0),(7,zB zdn),(8,zI ev2),(45,zB zsN)],[(3,.box 24 (zm (enc_24 n))),(4,.box 40 (zm (enc_40 t)))],[]⟩:=zbb (by kernel_rfl) (zc hs hk (fun hs hk=>(zt hk (fun hk=>(zt hk (fun hk=>hk) (fun hk=>hk))) (fun hk=>hk))) (fun hs hk=>(zKt hs hk)))
def zAn (n:Net) (t:Tie) (values:(Sl Int)) (zdn:Bool) (ev2:Int):Bool :=
  (zpP n t values zdn ev2 (!(s31 n)))
def zAo (n:Net) (t:Tie) (values:(Sl Int)) (zdn:Bool) (ev2:Int):Bool :=
  (decide ((p31 n=true)) &&
 (zpQ n t values zdn ev2 (!(s31 n))))
theorem zKv (hs:zAo n t values zdn ev2=true) (hk:K (e7 (zAn n t values zdn ev2))):z7 K [1,1,1,1] [] ⟨[(2,zS enc_3 1 values),(3,zp 3 0),(4,zp 4 0),(7,zB zdn),(8,zI ev2)],[(3,.box 24 (zm (enc_24 n))),(4,.box 40 (zm (enc_40 t)))],[]⟩:=zbb (by kernel_rfl) (zaU hs fun hc hs=>And.intro (And.intro (zE enc_40 4 n.Ties.get) hc) (zKu hs hk))
def zuo (n:Net) (t:Tie) (values:(Sl Int)) (zdn:Bool) (ev2:Int) (zsM:Bool):Bool :=
  (cond zsM
 (cond (ev2 == (2:Int))
 (cond (!zdn)
 true
 false)
 false)
 (zAn n t values zdn ev2))
def zup (n:Net) (t:Tie) (values:(Sl Int)) (zdn:Bool) (ev2:Int) (zsM:Bool):Bool :=
  (cond zsM
 true
 (zAo n t values zdn ev2))
theorem zDN (hs:zup n t values zdn ev2 zsM=true) (hk:K (e7 (zuo n t values zdn ev2 zsM))):z7 K [1,1,1,0,1] [] ⟨[(2,zS enc_3 1 values),(3,zp 3 0),(4,zp 4 0),(7,zB zdn),(8,zI ev2),(33,zB zsM)],[(3,.box 24 (zm (enc_24 n))),(4,.box 40 (zm (enc_40 t)))],[]⟩:=zbb (by kernel_rfl) (zc hs hk (fun hs hk=>(zt hk (fun hk=>(zt hk (fun hk=>hk) (fun hk=>hk))) (fun hk=>hk))) (fun hs hk=>(zKv hs hk)))
def zAp (n:Net) (t:Tie) (values:(Sl Int)) (zdn:Bool) (ev2:Int):Bool :=
  (cond (!(s23 n))
 (zuo n t values zdn ev2 true)
 (zuo n t values zdn ev2 (!(s36 n.Nodes t))))
def zAq (n:Net) (t:Tie) (values:(Sl Int)) (zdn:Bool) (ev2:Int):Bool :=
  (decide ((p23 n=true)) &&
 (cond (!(s23 n))
 (zup n t values zdn ev2 true)
 (zup n t values zdn ev2 (!(s36 n.Nodes t)))))
theorem zKw (hs:zAq n t values zdn ev2=true) (hk:K (e7 (zAp n t values zdn ev2))):z7 K [1,1,1] [] ⟨[(2,zS enc_3 1 values),(3,zp 3 0),(4,zp 4 0),(7,zB zdn),(8,zI ev2)],[(3,.box 24 (zm (enc_24 n))),(4,.box 40 (zm (enc_40 t)))],[]⟩:=zbb (by kernel_rfl) (zaU hs fun hc hs=>And.intro (And.intro (zE enc_40 4 n.Ties.get) hc) (zc hs hk (fun hs hk=>(zDN hs hk)) (fun hs hk=>(zDN hs hk))))
def zuq (n:Net) (t:Tie) (values:(Sl Int)):Bool :=
  (zAp n t values ((s35 n t).1) ((s35 n t).2))
def zur (n:Net) (t:Tie) (values:(Sl Int)):Bool :=
  (decide ((p35 n t=true)) &&
 (zAq n t values ((s35 n t).1) ((s35 n t).2)))
theorem zKx (hs:zur n t values=true) (hk:K (e7 (zuq n t values))):z7 K [1,1] [] ⟨[(2,zS enc_3 1 values),(3,zp 3 0),(4,zp 4 0)],[(3,.box 24 (zm (enc_24 n))),(4,.box 40 (zm (enc_40 t)))],[]⟩:=zbb (by kernel_rfl) (zaU hs fun hc hs=>And.intro (And.intro (zE enc_40 4 n.Ties.get) hc) (zKw hs hk))
def zus (n:Net) (t:Tie) (values:(Sl Int)) (zaQ:Bool):Bool :=
  (cond zaQ
 true
 (zuq n t values))
def zut (n:Net) (t:Tie) (values:(Sl Int)) (zaQ:Bool):Bool :=
  (cond zaQ
 true
 (zur n t values))
theorem zDO (hs:zut n t values zaQ=true) (hk:K (e7 (zus n t values zaQ))):z7 K [1,0,1] [] ⟨[(2,zS enc_3 1 values),(3,zp 3 0),(4,zp 4 0),(16,zB zaQ)],[(3,.box 24 (zm (enc_24 n))),(4,.box 40 (zm (enc_40 t)))],[]⟩:=zbb (by kernel_rfl) (zc hs hk (fun hs hk=>hk) (fun hs hk=>(zKx hs hk)))
def s7 (n:Net) (t:Tie) (values:(Sl Int)):Bool :=
  (cond (!(s20 n (14:Int)))
 (zus n t values true)
 (zus n t values (decide ((values.len:Int) > (50:Int)))))
def p7 (n:Net) (t:Tie) (values:(Sl Int)):Bool :=
  (cond (!(s20 n (14:Int)))
 (zut n t values true)
 (zut n t values (decide ((values.len:Int) > (50:Int)))))
end
theorem q7 (n:Net) (t:Tie) (values:(Sl Int)) (K:List PA→Prop) (hs:p7 n t values=true) (hk:K (e7 (s7 n t values))):vcFun Tryd.prog G7 zMz 7 [.agg (enc_24 n),.agg (enc_40 t),.one (.sl values.len 1 (fun i=>enc_3 (values.get i)))] K :=
  zbb (by kernel_rfl) (And.intro (zE enc_40 4 n.Ties.get) (zc hs hk (fun hs hk=>(zDO hs hk)) (fun hs hk=>(zDO hs hk))))
def zNa : List PA → COut
  | [.agg [.int .i64 zah,.sl zae zaz zad],.agg [.int .i64 zbI,.int .i64 zda,.int .i64 zcd,.int .i64 zbJ],.one (.sl zAW zIY zAX)]=>.det (IsE enc_40 4 zaz zad∧IsE enc_3 1 zIY zAX∧p7 (⟨zah,(⟨zae,zao zad⟩:(Sl Tie))⟩:Net) (⟨zbI,zda,zcd,zbJ⟩:Tie) (⟨zAW,zaA zAX⟩:(Sl Int))=true) [.one (.bool (s7 (⟨zah,(⟨zae,zao zad⟩:(Sl Tie))⟩:Net) (⟨zbI,zda,zcd,zbJ⟩:Tie) (⟨zAW,zaA zAX⟩:(Sl Int))))]
  | _=>.no
theorem call7:zax Tryd.prog 7:=⟨_,rfl,rfl,by kernel_rfl⟩
theorem ok7:Ok Tryd.prog 7 zNa:=zbv zOh call7 fun args K h=>by
  unfold zNa at h
  split at h
  · rename_i zah zae zaz zad zbI zda zcd zbJ zAW zIY zAX
    obtain ⟨⟨⟨rfl,zar,rfl⟩,⟨rfl,zEX,rfl⟩,hs⟩,hk⟩:=h
    try rw [zan zar] at hs
    try rw [zan zar] at hk
    try rw [zbp zEX] at hs
    try rw [zbp zEX] at hk
    exact ⟨(fun _ _=>[]),(fun _=>false),zMz,q7 (⟨zah,(⟨zae,zar⟩:(Sl Tie))⟩:Net) (⟨zbI,zda,zcd,zbJ⟩:Tie) (⟨zAW,zEX⟩:(Sl Int)) K hs hk⟩
  · exact h.elim
end Go.Proofs
namespace Go.Proofs.YtedhjaaikeakoaaDoor
open Go Go.Pm Go.ChangeShapes
set_option maxRecDepth 100000
abbrev laid1 : List (String × DataW Unit) := [("overburden/align.never", Rows.laid_overburden_align_never)]
theorem zDP : Tryd.prog.globalNamed "overburden/align.never" = some 0 := by kernel_rfl
theorem zKz:(Tryd.prog.globals[0]?).map (·.type)=some 114:=by kernel_rfl
theorem zKA:Tryd.prog.cellsOf 114=2:=by kernel_rfl
theorem zNb:Tryd.prog.cellsOf 3=1:=by kernel_rfl
theorem door_met (os:Os) (args:Array Value):laidMetH Tryd.prog laid1 ((World.doorLaid Tryd.prog 400 os).forCall (fun _ _=>0) ⟨#[],args,[]⟩).memory :=
 laidMetH_of_parts3 (fuel:=8) (laidMet_of_run' 8 (by kernel_rfl) (by kernel_rfl)) (by kernel_rfl) (by kernel_rfl)
theorem gl_of {W:World} (h:laidMetH Tryd.prog laid1 W):zer (H0 W):=by
 rw [MakeChecks.laidMetH_plain _ _ _ (by kernel_rfl)] at h
 obtain ⟨ps,⟨g0,t0,cs0,f0,p0,q0,hg0,ht0,hv0,hd0,_,_⟩,_,_⟩:=h
 obtain rfl:=Option.some.inj (zDP.symm.trans hg0)
 obtain rfl:=Option.some.inj (zKz.symm.trans ht0)
 obtain ⟨y0,y1,n,hx,hl,h0,h1⟩:=trod_struct2 Tryd.underlying114 hd0
 simp only [Prod.mk.injEq] at hx
 obtain ⟨hx,-⟩:=hx
 simp only [Rows.laid_overburden_align_never,DataW.agg.injEq,List.cons.injEq,and_true] at hx
 obtain ⟨k0,e0,d0,_⟩:=DataW.trod_int Tryd.underlying3 h0
 obtain ⟨k1,e1,d1,_⟩:=DataW.trod_int Tryd.underlying3 h1
 rw [zKA] at hl
 have e0':cs0.toList.take 1=[.int .i64 k0]:=by
  have:=e0
  rw [show Tryd.prog.cellsOf _=1 from zNb] at this
  simpa using this
 have e1':(cs0.toList.drop 1).take 1=[.int .i64 k1]:=by
  have:=e1
  rw [show Tryd.prog.cellsOf _=1 from zNb] at this
  simpa using this
 have hk0:k0=1000000000000:=by have:=hx.1;rw [d0] at this;injection this with a;injection a with _ a;exact a.symm
 have hk1:k1=0:=by have:=hx.2;rw [d1] at this;injection this with a;injection a with _ a;exact a.symm
 have hC:cs0.toList=[.int .i64 1000000000000,.int .i64 0]:=by
  have h2:cs0.toList=cs0.toList.take 1 ++ (cs0.toList.drop 1).take 1:=by
   rw [← List.take_add,List.take_of_length_le (by omega)]
  rw [h2,e0',e1',hk0,hk1];rfl
 intro k l hk
 unfold World.var? at hv0
 rw [zDP] at hv0
 simp only [Option.bind_some] at hv0
 cases k with
 | succ k=>cases hk
 | zero =>
  obtain rfl:[PV.int .i64 1000000000000,.int .i64 0]=l:=Option.some.inj hk
  cases eo:W.heap[0]? with
  | none=>rw [eo] at hv0;cases hv0
  | some o =>
   rw [eo] at hv0
   cases o with
   | cells C ty fr =>
    simp only [Option.some.injEq] at hv0
    subst hv0
    exact ⟨_,ty,fr,by unfold H0;rw [eo];rfl,by rw [hC];exact ⟨.int _ _,.int _ _,trivial⟩⟩
   | _=>cases hv0
end Go.Proofs.YtedhjaaikeakoaaDoor
namespace Go.Proofs.YtedhjaaikeakoaaDoor
set_option maxRecDepth 100000
def dc : Nat → Nat → List Char
  | 0,_=>[]
  | k+1,n=>Char.ofNat (n % 128) :: dc k (n / 128)
def ioR:List (List Char):=[dc 2 14945,dc 38 107265865644741724912243125268531249640326942553430557205577479631290979090791279,dc 38 108293077817484906734254386447616441263814988321737617043972465573863363972791151,dc 38 93370879016013017278412803021783510280543711028000410236402271261457424383048559,dc 38 107258694022858408970435192345127867927486736974969802526482043864463718682819439,dc 39 13746719959472648153406769131206406626558510298776447130317981093147086104311724911,dc 38 107266209769642888316488957616301258915172789321380384129051881327065490379078511,dc 39 13738338888634744287462113483281891133786406809494667074737303271467843731645365103,dc 38 107308724040215521434011850380931925905298338556088488294726402895071789331348335,dc 43 3689337697451499537899652006011379275272339788637320245734945509069109267079825879406836591,dc 38 106339254617564648824502995819756623291246721172574690728430612464564447869500271,dc 38 107330772524736890892060720350443696785457349727637599143704802418857719933533039,dc 38 107266380701743786104986999119182321999123657451770743386930499759721679104342895,dc 38 107308728471136676073553801914045189487148679029700448428114571309412341010496367,dc 37 837954515553292543489687687552621780150771894250034810644180755742461368302447,dc 38 107287017468262091873827311208814906259154281073825133055543027267698112966785903,dc 38 107374028509112486977837548216825331243033985081330090052312008930171490580134767,dc 38 107265533895345759970156929786145176805363222797160045994169685653949991330872175]
def ioN:List Char:=dc 748 14110378018767575964226655308004126793045208087310171201555892242252648960690434620806224759478349222793457564936136773140206884019406577404308477398112682127111429688458091804136369451876026010391452929509304596612007749348823331848074321521876163367611471766311661795807971626777430789606670518996161301806853738256348343737238826384171739901612950230839336053519876648582653265928992265003442337249315020340640568624042171724319570015876863120612063908539839480788963015814409324055605425425582212723687691771037045010066064867754736841809752569547023397197010564985861497252960727260554984899190782686002829257997185443421456271698218584945985148990383891392482548262956659989814614329905290488435125286744085629934720469444029598243369313538259143807170350259387234145666063103371643809341342441092158617040725699310351084585854817129011753246127748964030413854525633190715875548631480060648955255476518703717934493416584654287151545453027212072361023366870608725576042669368667333719675724995494706645777621137060304017521484702088503639607947747215026989263530504204523251982333933107210391579300884546305432560571086131943194743723205005815139772394062686780566686930384812217785365992657908782936586832589627342388339882126362151219006413773645814561079952905486963953952063552645778936398310246717058410743450648594152841163565946295251582585294350653230459132165827590128826417871324965536217148578987470925657879977171716100377657863588641203253643922875913460814715430695689192746980757875303892414899783421563436119681070640173712093473782554642421452415184974056
theorem ioS:Tryd.prog.initOrder=String.ofList ioN:=by kernel_rfl
theorem ioL:Tryd.prog.initOrder.toList=ioN:=(congrArg String.toList ioS).trans String.toList_ofList
theorem ioW:wordsSigns Tryd.prog.initOrder.toList=(dc 7 509754063237352) :: (dc 64 583581952082889979719035725534559484815115086455805852996510235646750355970935781905203483690318741732481452225105900421668580921071669) :: (dc 3 1915619) :: ioR:=(congrArg wordsSigns ioL).trans (by kernel_rfl)
theorem ioB:behindMainWord (wordsSigns Tryd.prog.initOrder.toList)=(dc 3 1915619) :: ioR:=(congrArg behindMainWord ioW).trans (by kernel_rfl)
theorem zpR {P : Program} {l : List (List Char)} (h : behindMainWord (wordsSigns P.initOrder.toList) = l) : P.headLifts = (if (stripLifts liftWords l).2.head? == some "cut".toList then (stripLifts liftWords l).1 else []) := by subst h; rfl
theorem zHv {P:Program} {rest:List (List Char)} (h:behindMainWord (wordsSigns P.initOrder.toList)=(dc 3 1915619) :: rest):P.make=some .cut:=by unfold Program.make;rw [h];rfl
theorem zCy {P:Program} {rest:List (List Char)} (h:behindMainWord (wordsSigns P.initOrder.toList)=(dc 3 1915619) :: rest) (hl:P.headLifts=[]):P.liftsFinal=false:=by unfold Program.liftsFinal;rw [h,hl];rfl
theorem zHw {P : Program} {a b : List Char} {rest : List (List Char)} (h : wordsSigns P.initOrder.toList = a :: b :: rest) (hs : isSumSigns b = true) (ha : (a == "harness".toList) = true) : P.mainIs = some (true, b) := by unfold Program.mainIs; rw [h]; simp only [hs, ha]; rfl
theorem zCz {P : Program} {c : List Char} {rest : List (List Char)} (h : behindMainWord (wordsSigns P.initOrder.toList) = c :: rest) (hst : (stripLifts liftWords (c :: rest)).2.head? = some "cut".toList)
    (hs1:(stripLifts liftWords (c :: rest)).1=[]) (hlay:P.laysLater=false) (hb:P.bearsReflect=false) (hd:P.doorFits []=true):P.mayEnter=true:=by
  unfold Program.mayEnter
  rw [h]
  simp [hst,hs1,hlay,hb,hd]
theorem ioH:Tryd.prog.headLifts=[]:=(zpR ioB).trans (by kernel_rfl)
theorem ioK:Tryd.prog.make=some .cut:=zHv ioB
theorem ioF:Tryd.prog.liftsFinal=false:=zCy ioB ioH
theorem ioM : Tryd.prog.mainIs = some (true, "5097d02014b7f9bdc457588f16a61179f96daee4a085c0a2c5462d863db43dbf".toList) := (zHw ioW (by kernel_rfl) (by kernel_rfl)).trans (by kernel_rfl)
theorem ioE:Tryd.prog.mayEnter=true:=zCz ioB (by kernel_rfl) (by kernel_rfl) (by kernel_rfl) (by kernel_rfl) (by kernel_rfl)
end Go.Proofs.YtedhjaaikeakoaaDoor
namespace Go.Pm
open Go

theorem zcZ {x:Int} (h1 : -9223372036854775808≤x) (h2:x≤9223372036854775807):w64 x=x:=by
 have hb:IntKind.i64.bits=64:=rfl
 have hs:IntKind.i64.signed=true:=rfl
 unfold w64 IntKind.wrap
 rw [hb,hs]
 simp only [Bool.true_and,decide_eq_true_eq]
 split <;> omega
def zNc (c : Nat → Bool) : Nat → Nat → Nat
  | 0,i=>i
  | m+1,i=>match c i with | true=>i | false=>zNc c m (i+1)
def fst (c:Nat→Bool) (n:Nat):Nat:=zNc c n 0
theorem zjI {good : Nat → Bool} {fin : Bool} {n : Nat} {lpS lpP : Nat → Int → Bool}
    (hS:∀ (k i:Nat),i < n→lpS (k+1) (i:Int)=cond (good i) (lpS k (w64 ((i:Int)+(1:Int)))) false)
    (hE:∀ k,lpS (k+1) (n:Int)=fin)
    (hP:∀ (k i:Nat),i < n→lpP (k+1) (i:Int)=cond (good i) (lpP k (w64 ((i:Int)+(1:Int)))) true)
    (hPE:∀ k,lpP (k+1) (n:Int)=true) (hn:n≤9223372036854775807) :
    lpP Fuel 0=true∧(lpS Fuel 0=true↔(∀ i,i < n→good i=true)∧fin=true):=by
  have key:∀ (m k i:Nat),i+m=n→m < k→lpP k (i:Int)=true∧(lpS k (i:Int)=true↔(∀ j,i≤j→j < n→good j=true)∧fin=true):=by
    intro m
    induction m with
    | zero =>
      intro k i hi hk
      obtain ⟨k,rfl⟩:∃ k',k=k'+1:=⟨k - 1,by omega⟩
      have:i=n:=by omega
      subst this
      rw [hE,hPE]
      exact ⟨rfl,⟨fun h=>⟨fun j h1 h2=>absurd h2 (by omega),h⟩,fun h=>h.2⟩⟩
    | succ m ih =>
      intro k i hi hk
      obtain ⟨k,rfl⟩:∃ k',k=k'+1:=⟨k - 1,by omega⟩
      rw [hS k i (by omega),hP k i (by omega)]
      have e3:w64 ((i:Int)+1)=((i+1:Nat):Int):=by rw [zcZ (by omega) (by omega)];omega
      rw [e3]
      obtain ⟨h1,h2⟩:=ih k (i+1) (by omega) (by omega)
      cases hg:good i
      · refine ⟨rfl, ⟨fun h => (by cases h), fun h => ?_⟩⟩
        have:=h.1 i (Nat.le_refl _) (by omega)
        rw [hg] at this;cases this
      · refine ⟨h1, h2.trans ⟨fun h => ⟨fun j hj1 hj2 => ?_, h.2⟩, fun h => ⟨fun j hj1 hj2 => h.1 j (by omega) hj2, h.2⟩⟩⟩
        by_cases hji:j=i
        · rw [hji];exact hg
        · exact h.1 j (by omega) hj2
  have:=key n Fuel 0 (by omega) (by simp only [Fuel];omega)
  simpa using this

end Go.Pm
namespace Go.Pm
open Go
theorem zn5 {i n:Nat} (h:i < n) (hn:n≤9223372036854775807):w64 ((i:Int)+(1:Int))=((i+1:Nat):Int):=by
 rw [zcZ (by omega) (by omega)];omega
theorem zHx {β : Type} {good : Nat → Bool} {bad fin : β} {finP : Bool} {n : Nat} {lpS : Nat → Int → β} {lpP : Nat → Int → Bool}
    (hS:∀ (k i:Nat),i < n→lpS (k+1) (i:Int)=cond (good i) (lpS k (w64 ((i:Int)+(1:Int)))) bad)
    (hE:∀ k,lpS (k+1) (n:Int)=fin)
    (hP:∀ (k i:Nat),i < n→lpP (k+1) (i:Int)=cond (good i) (lpP k (w64 ((i:Int)+(1:Int)))) true)
    (hPE:∀ k,lpP (k+1) (n:Int)=finP) (hn:n≤9223372036854775807) :
    ((∀ i,i < n→good i=true)→lpP Fuel 0=finP∧lpS Fuel 0=fin)∧((¬ ∀ i,i < n→good i=true)→lpP Fuel 0=true∧lpS Fuel 0=bad):=by
  have key:∀ (m k i:Nat),i+m=n→m < k→((∀ j,i≤j→j < n→good j=true)→lpP k (i:Int)=finP∧lpS k (i:Int)=fin)∧((¬ ∀ j,i≤j→j < n→good j=true)→lpP k (i:Int)=true∧lpS k (i:Int)=bad):=by
    intro m
    induction m with
    | zero =>
      intro k i hi hk
      obtain ⟨k,rfl⟩:∃ k',k=k'+1:=⟨k - 1,by omega⟩
      have:i=n:=by omega
      subst this
      rw [hE,hPE]
      exact ⟨fun _=>⟨rfl,rfl⟩,fun h=>absurd (fun j h1 h2=>absurd h2 (by omega)) h⟩
    | succ m ih =>
      intro k i hi hk
      obtain ⟨k,rfl⟩:∃ k',k=k'+1:=⟨k - 1,by omega⟩
      rw [hS k i (by omega),hP k i (by omega),zn5 (n:=n) (by omega) hn]
      obtain ⟨h1,h2⟩:=ih k (i+1) (by omega) (by omega)
      cases hg:good i
      · refine ⟨fun h => ?_, fun _ => ⟨rfl, rfl⟩⟩
        have:=h i (Nat.le_refl _) (by omega)
        rw [hg] at this;cases this
      · refine ⟨fun h => h1 fun j a b => h j (by omega) b, fun h => h2 fun h' => h fun j a b => ?_⟩
        by_cases hji:j=i
        · rw [hji];exact hg
        · exact h' j (by omega) b
  have:=key n Fuel 0 (by omega) (by simp only [Fuel];omega)
  simpa using this
end Go.Pm
namespace Go.Proofs
open Go Go.Pm
set_option maxRecDepth 100000
set_option linter.unusedVariables false
attribute [local irreducible] Go.Pm.vcFun Go.Pm.vc Go.Pm.vcIter
end Go.Proofs
namespace Go.Proofs
open Go Go.Pm
set_option maxRecDepth 100000
theorem zpS (n a b:Int):s81 n a b=decide (a≤n∧n≤b):=by
 unfold s81
 by_cases h:a≤n
 ·rw [decide_eq_true (show n ≥ a from h),cond_true];exact decide_eq_decide.2 ⟨fun k=>⟨h,k⟩,fun k=>k.2⟩
 ·rw [decide_eq_false (show ¬ n ≥ a from h),cond_false];exact (decide_eq_false (fun k=>h k.1)).symm
theorem zuu (n a b:Int):s72 n a b=decide (a≤n∧n≤b):=zpS n a b
theorem zDQ (n:Net) (hn:n.Ties.len≤9223372036854775807):p67 n=true∧(s67 n=true↔(∀ i,i < n.Ties.len→s78 (n.Ties.get i) n.Nodes=true)∧(1≤n.Nodes∧n.Nodes≤40)∧n.Ties.len≤200):=by
  have := zjI (good := fun i => s78 (n.Ties.get i) n.Nodes) (fin := cond (s81 n.Nodes (1:Int) (40:Int)) (decide ((n.Ties.len : Int) ≤ (200:Int))) false) (n := n.Ties.len) (lpS := zim n) (lpP := zin n)
    (fun k i hi=>by
      show zik n (zim n k) (i:Int)=_
      generalize zim n k=S
      unfold zik zqK
      rw [decide_eq_true (show (i:Int) < (n.Ties.len:Int) by omega),cond_true,Int.toNat_natCast]
      cases s78 (n.Ties.get i) n.Nodes <;> rfl)
    (fun k=>by
      show zik n (zim n k) (n.Ties.len:Int)=_
      unfold zik
      rw [decide_eq_false (show ¬ (n.Ties.len:Int) < (n.Ties.len:Int) by omega),cond_false])
    (fun k i hi=>by
      show zil n (zin n k) (i:Int)=_
      generalize zin n k=S
      unfold zil zqL
      rw [decide_eq_true (show (i:Int) < (n.Ties.len:Int) by omega),cond_true,Int.toNat_natCast,decide_eq_true (show 0≤(i:Int)∧(i:Int) < (n.Ties.len:Int) by omega),Bool.true_and]
      cases s78 (n.Ties.get i) n.Nodes <;> rfl)
    (fun k=>by
      show zil n (zin n k) (n.Ties.len:Int)=_
      unfold zil
      rw [decide_eq_false (show ¬ (n.Ties.len:Int) < (n.Ties.len:Int) by omega),cond_false])
    hn
  refine ⟨this.1,this.2.trans ?_⟩
  rw [zpS]
  by_cases h:1≤n.Nodes∧n.Nodes≤40
  · rw [decide_eq_true h,cond_true,decide_eq_true_eq];exact ⟨fun k=>⟨k.1,h,by omega⟩,fun k=>⟨k.1,by omega⟩⟩
  · rw [decide_eq_false h,cond_false];exact ⟨fun k=>absurd k.2 (by decide),fun k=>absurd k.2.1 h⟩
end Go.Proofs
namespace Go.Proofs
open Go Go.Pm
set_option maxRecDepth 100000
set_option linter.unusedVariables false
attribute [local irreducible] Go.Pm.vcFun Go.Pm.vc Go.Pm.vcIter
section
variable {K:List PA→Prop} {n:Net} {values:(Sl Int)} {zOi:Bool} {zpO:Int} {X2:St→Prop} {P2:Int→Bool} {S2:Int→Bool} {zOj:Int} {zOk:Bool} {zOl:Int} {X5:St→Prop} {P5:Int→Bool} {S5:Int→Bool}
end
section
variable {K:List PA→Prop} {n:Net}
end
end Go.Proofs
