/- Part 5 of what the proof rests on: a machine that runs functions of the program on pure values, proved sound; the functions that the law reaches, and what they compute. -/
import Derived.Test.YtkpjhhoafenogaaQ4
set_option linter.all false
namespace Go.Proofs
open Go Go.Pm
set_option maxRecDepth 100000
set_option linter.unusedVariables false
attribute [local irreducible] Go.Pm.vcFun Go.Pm.vc Go.Pm.vcIter
abbrev T78:Tabs:=(((Tabs.nil.addO 105 zBg).addO 106 zBh).addF 107 znS)
theorem zLl:TabsOk Try.prog T78:=(((TabsOk.nil.addO zLh).addO zLi).addF zLk)
abbrev G78:Ctrs:=csm T78 (fun _ _=>[]) (fun _=>false)
def zIi:Ann:=⟨11,[(0,zK [1] [1]),(1,zK [1,3] [1,6]),(2,zK [3] [6]),(3,zK [2] [6])],
 [],
 [],
 [],[]⟩
abbrev R78:=(Sl straight)
abbrev e78 (r:R78):List PA:=[.one (.sl r.len 3 (fun i=>zah (r.get i)))]
section
variable {K:List PA→Prop} {s:set}
def s78 (s:set):(Sl straight) :=
  (⟨s.corners.len,(zoe s.corners.len (fun i j=>(zJ7 s (s.corners.get i) (s.corners.get j))) s.corners.get)⟩:(Sl straight))
def p78 (s:set):Bool :=
  (decide ((s.corners.len * 24≤140737488355328∧s.corners.len≤9223372036854775807)) &&
 (decide ((s.corners.len≤4611686018427387)∧(sortB s.corners.len (fun i j=>decide (zJ8 s (s.corners.get i) (s.corners.get j)=true)) (fun i j=>(zJ7 s (s.corners.get i) (s.corners.get j)))=true)) &&
 true))
end
theorem q78 (s:set) (K:List PA→Prop) (hs:p78 s=true) (hk:K (e78 (s78 s))):vcFun Try.prog G78 zIi 78 [.agg (zaS s)] K :=
  zau (by kernel_rfl) (zat hs fun hc hs=>And.intro hc (zat hs fun hc hs=>And.intro (And.intro (hc.1) ((zzw (hc.2) (fun i j h=>(show IsE enc_55 3 3 (fun i=>enc_55 (s.list.Gates.get i))∧IsE zah 3 3 (fun i=>zah (s.corners.get i))∧(zJ8 s (s.corners.get i) (s.corners.get j)=true) from ⟨isE,isE,(of_decide_eq_true h)⟩)) rfl):(∀ i j,i < s.corners.len→j < s.corners.len→zGl (znS) [.fp (zaS s) 0] true (fun i=>zah (s.corners.get i)) i j)∧STO s.corners.len (zs4 (znS) [.fp (zaS s) 0] true (fun i=>zah (s.corners.get i))))) hk))
def zDZ : List PA → COut
  | [.agg [.sl a0_list_Gates_n a0_list_Gates_s a0_list_Gates_g,.sl a0_corners_n a0_corners_s a0_corners_g]]=>.det (IsE enc_55 3 a0_list_Gates_s a0_list_Gates_g∧IsE zah 3 a0_corners_s a0_corners_g∧p78 (⟨(⟨(⟨a0_list_Gates_n,zad a0_list_Gates_g⟩:(Sl Gate))⟩:list),(⟨a0_corners_n,zaO a0_corners_g⟩:(Sl straight))⟩:set)=true) [.one (.sl ((s78 (⟨(⟨(⟨a0_list_Gates_n,zad a0_list_Gates_g⟩:(Sl Gate))⟩:list),(⟨a0_corners_n,zaO a0_corners_g⟩:(Sl straight))⟩:set)).len) 3 (fun i=>zah ((s78 (⟨(⟨(⟨a0_list_Gates_n,zad a0_list_Gates_g⟩:(Sl Gate))⟩:list),(⟨a0_corners_n,zaO a0_corners_g⟩:(Sl straight))⟩:set)).get i)))]
  | _=>.no
theorem zIj:zaf Try.prog 78:=⟨_,rfl,rfl,by kernel_rfl⟩
theorem zN7:Ok Try.prog 78 zDZ:=zax zLl zIj fun args K h=>by
  unfold zDZ at h
  split at h
  · rename_i a0_list_Gates_n a0_list_Gates_s a0_list_Gates_g a0_corners_n a0_corners_s a0_corners_g
    obtain ⟨⟨⟨rfl,a0_list_Gates_f,rfl⟩,⟨rfl,a0_corners_f,rfl⟩,hs⟩,hk⟩:=h
    try rw [zac a0_list_Gates_f] at hs
    try rw [zac a0_list_Gates_f] at hk
    try rw [zaJ a0_corners_f] at hs
    try rw [zaJ a0_corners_f] at hk
    exact ⟨(fun _ _=>[]),(fun _=>false),zIi,q78 (⟨(⟨(⟨a0_list_Gates_n,a0_list_Gates_f⟩:(Sl Gate))⟩:list),(⟨a0_corners_n,a0_corners_f⟩:(Sl straight))⟩:set) K hs hk⟩
  · exact h.elim
abbrev T31:Tabs:=(((Tabs.nil.addF 75 zz7).addF 78 zDZ).addF 79 zzH)
theorem zLm:TabsOk Try.prog T31:=(((TabsOk.nil.addF zMz).addF zN7).addF zMc)
abbrev G31:Ctrs:=csm T31 (fun _ _=>[]) (fun _=>false)
def zD0:Ann:=⟨31,[(0,zK [0] []),(1,zK [4,5] [4]),(2,zK [4,5,15] [4]),(3,zK [2,3] []),(4,zK [4,6] [4]),(5,zK [6,18,19,20] []),(6,zK [6,18,19,20,21] [28]),(7,zK [6,8,18,19,20] [8,28]),(8,zK [6,18,19,20] [28]),(9,zK [6,18,19,20] [28]),(10,zK [2,3] [28])],
 [(6,⟨[6,18,19,20],[28],[(6,28,37,fun _=>zaw default)],[],[],[],[]⟩)],
 [(2,zK [4,5] [4]),(4,zK [4] [4]),(6,zK [6,18,19,20] [])],
 [],[]⟩
abbrev R31:=((Sl Line)×Int)
abbrev e31 (r:R31):List PA:=[.one (.sl r.1.len 4 (fun i=>zaw (r.1.get i))),.one (.int .i64 r.2)]
@[irreducible] def z31:=ptF Try.prog G31 zD0 Try.f31
def zBl (zaM:(Sl straight)) (zcm:Int) (zc5:Int) (zcz:(Sl Line)) (zeU:Nat→List PV):St:=⟨[(6,zv 28),(18,zS zah 3 zaM),(19,zI zcm),(20,zI zc5)],[(28,.vec 37 4 32 zcz.len zeU)],[]⟩
abbrev zIk (K:List PA→Prop) (zaM:(Sl straight)) (zcm:Int) (X:St→Prop) (P:Int→(Sl Line)→Bool) (S:Int→(Sl Line)→((Sl Line)×Int)):Prop:=∀ ⦃zc5:Int⦄ ⦃zcz:(Sl Line)⦄ ⦃zeU:Nat→List PV⦄,P zc5 zcz=true→K (e31 (S zc5 zcz))→zeU=zg zaw zcz→X (zBl zaM zcm zc5 zcz zeU)
section
variable {K:List PA→Prop} {zaa:(Sl Gate)} {ev0:Int} {znT:(Sl Gate)} {znU:(Sl straight)} {zv4:Nat→List PV} {zv5:Nat→List PV} {ziM:(Sl Gate)} {ziN:(Sl straight)} {zv6:Nat→List PV} {zv7:Nat→List PV} {zaM:(Sl straight)} {zcm:Int} {zv8:Nat→List PV} {zc5:Int} {zcz:(Sl Line)} {zeU:Nat→List PV} {X3:St→Prop} {P3:Int→(Sl Line)→Bool} {S3:Int→(Sl Line)→((Sl Line)×Int)}
def zv9 (zaM:(Sl straight)) (zcm:Int) (S3:Int→(Sl Line)→((Sl Line)×Int)) (zc5:Int) (zcz:(Sl Line)):((Sl Line)×Int) :=
  (cond (decide (zc5 < zcm))
 (S3 (w64 (zc5+(1:Int))) (⟨(zcz.len+1),(zdi zcz.len zcz.get (fun _=>(s79 (zaM.get zc5.toNat))))⟩:Sl Line))
 (zcz,(0:Int)))
def zwa (zaM:(Sl straight)) (zcm:Int) (P3:Int→(Sl Line)→Bool) (zc5:Int) (zcz:(Sl Line)):Bool :=
  (cond (decide (zc5 < zcm))
 (decide ((0≤zc5∧zc5 < (zaM.len:Int))) &&
 (decide ((p79 (zaM.get zc5.toNat)=true)) &&
 (decide (((zcz.len+1) * 32≤140737488355328∧zcz.len+1≤9223372036854775807)) &&
 (P3 (w64 (zc5+(1:Int))) (⟨(zcz.len+1),(zdi zcz.len zcz.get (fun _=>(s79 (zaM.get zc5.toNat))))⟩:Sl Line)))))
 true)
def zwb (zaM:(Sl straight)) (zcm:Int):Nat→Int→(Sl Line)→((Sl Line)×Int):=lpO (fun _ _=>default) (zv9 zaM zcm)
def zwc (zaM:(Sl straight)) (zcm:Int):Nat→Int→(Sl Line)→Bool:=lpO (fun _ _=>false) (zwa zaM zcm)
def zwd (zaM:(Sl straight)) (zcm:Int) (zc5:Int) (zcz:(Sl Line)):((Sl Line)×Int):=zwb zaM zcm Fuel zc5 zcz
def zwe (zaM:(Sl straight)) (zcm:Int) (zc5:Int) (zcz:(Sl Line)):Bool:=zwc zaM zcm Fuel zc5 zcz
theorem zD1 (hs:zwe zaM zcm zc5 zcz=true) (hk:K (e31 (zwd zaM zcm zc5 zcz))) (zpv:zeU=zg zaw zcz):z31 (Wk K) [1,1,1,1,0,1,0] [] (zBl zaM zcm zc5 zcz zeU) :=
  zl (fun X=>z31 (Wk K) [1,1,1,1,0,1,0,0] [X]) (by kernel_rfl) fun X3 hX =>
  (show ∀ k, zIk K zaM zcm X3 (zwc zaM zcm k) (zwb zaM zcm k) from zdJ _ _ (zwa zaM zcm) (zv9 zaM zcm) (zIk K zaM zcm X3)
 (by intro _ _ _ hs;exact absurd hs Bool.false_ne_true)
 (by intro P3 S3 hX3 zc5 zcz zeU hs hk zpv;subst zpv;exact hX _ (zau (by kernel_rfl) (zc hs hk (fun hs hk=>(zat hs fun hc hs=>And.intro hc (zat hs fun hc hs=>And.intro hc (zat hs fun hc hs=>And.intro hc (hX3 hs hk (zd2 (enc:=zaw) (f:=zcz.get) (h:=(fun _=>(s79 (zaM.get zc5.toNat)))) rfl rfl)))))) (fun hs hk=>((zdA hk):Wk K [.one (.sl zcz.len 4 (fun i=>zaw (zcz.get i))),.one (.int .i64 (0:Int))])))))) _ hs hk zpv
def zwf (zaM:(Sl straight)) (zcm:Int):((Sl Line)×Int) :=
  (zwd zaM zcm (0:Int) (⟨0,(fun _=>default)⟩:Sl Line))
def zwg (zaM:(Sl straight)) (zcm:Int):Bool :=
  (zwe zaM zcm (0:Int) (⟨0,(fun _=>default)⟩:Sl Line))
theorem zD2 (hs:zwg zaM zcm=true) (hk:K (e31 (zwf zaM zcm))) (zD3:zv8=zg zah zaM):z31 (Wk K) [1,1,1,1,0,1] [] ⟨[(6,zP (.nils)),(18,zP (.sl zaM.len 3 zv8)),(19,zI zcm),(20,zI (0:Int))],[],[]⟩:=by subst zD3;exact zau (by kernel_rfl) (zD1 hs hk rfl)
def zwh (ziM:(Sl Gate)) (ziN:(Sl straight)):((Sl Line)×Int) :=
  (zwf (s78 (⟨(⟨ziM⟩:list),ziN⟩:set)) ((s78 (⟨(⟨ziM⟩:list),ziN⟩:set)).len:Int))
def zwi (ziM:(Sl Gate)) (ziN:(Sl straight)):Bool :=
  (decide ((p78 (⟨(⟨ziM⟩:list),ziN⟩:set)=true)) &&
 (zwg (s78 (⟨(⟨ziM⟩:list),ziN⟩:set)) ((s78 (⟨(⟨ziM⟩:list),ziN⟩:set)).len:Int)))
theorem zD4 (hs:zwi ziM ziN=true) (hk:K (e31 (zwh ziM ziN))) (zD5:zv6=zg enc_55 ziM) (zD6:zv7=zg zah ziN):z31 (Wk K) [1,1,1] [] ⟨[(4,zp 4 0)],[(4,.box 104 [.p (.sl ziM.len 3 zv6),.p (.sl ziN.len 3 zv7)])],[]⟩:=by subst zD5;subst zD6;exact zau (by kernel_rfl) (zat hs fun hc hs=>And.intro (And.intro (zE enc_55 3 ziM.get) (And.intro (zE zah 3 ziN.get) hc)) (zD2 hs hk rfl))
def zwj (ev0:Int) (znT:(Sl Gate)) (znU:(Sl straight)):((Sl Line)×Int) :=
  (cond (ev0 != (0:Int))
 ((⟨0,fun _=>default⟩:(Sl Line)),ev0)
 (zwh znT znU))
def zwk (ev0:Int) (znT:(Sl Gate)) (znU:(Sl straight)):Bool :=
  (cond (ev0 != (0:Int))
 true
 (zwi znT znU))
theorem zD7 (hs:zwk ev0 znT znU=true) (hk:K (e31 (zwj ev0 znT znU))) (zD8:zv4=zg enc_55 znT) (zD9:zv5=zg zah znU):z31 (Wk K) [1,1] [] ⟨[(4,zp 4 0),(5,zI ev0)],[(4,.box 104 [.p (.sl znT.len 3 zv4),.p (.sl znU.len 3 zv5)])],[]⟩:=by subst zD8;subst zD9;exact zau (by kernel_rfl) (zc hs hk (fun hs hk=>((wk hk (zc3 (.one (.nil _ _)) (zc3 (.one (.rfl _)) zgG))):Wk K [.one (.nils),.one (.int .i64 ev0)])) (fun hs hk=>(zD4 hs hk rfl rfl)))
def s31 (zaa:(Sl Gate)):((Sl Line)×Int) :=
  (zwj ((s75 zaa).2) (((s75 zaa).1).list.Gates) (((s75 zaa).1).corners))
def p31 (zaa:(Sl Gate)):Bool :=
  (decide ((p75 zaa=true)) &&
 (zwk ((s75 zaa).2) (((s75 zaa).1).list.Gates) (((s75 zaa).1).corners)))
end
theorem q31 (zaa:(Sl Gate)) (K:List PA→Prop) (hs:p31 zaa=true) (hk:K (e31 (s31 zaa))):vcFun Try.prog G31 zD0 31 [.one (.sl zaa.len 3 (fun i=>enc_55 (zaa.get i)))] (Wk K) :=
  zau (by kernel_rfl) (zat hs fun hc hs=>And.intro (And.intro (zE enc_55 3 zaa.get) hc) (zD7 hs hk rfl rfl))
def zEa : List PA → COut
  | [.one (.sl a0_n a0_s a0_g)]=>.det (IsE enc_55 3 a0_s a0_g∧p31 (⟨a0_n,zad a0_g⟩:(Sl Gate))=true) [.one (.sl (((s31 (⟨a0_n,zad a0_g⟩:(Sl Gate))).1).len) 4 (fun i=>zaw (((s31 (⟨a0_n,zad a0_g⟩:(Sl Gate))).1).get i))),.one (.int .i64 ((s31 (⟨a0_n,zad a0_g⟩:(Sl Gate))).2))]
  | _=>.no
theorem zIl:zaf Try.prog 31:=⟨_,rfl,rfl,by kernel_rfl⟩
theorem zN8:Ok Try.prog 31 zEa:=zfG zLm zIl fun args K h=>by
  unfold zEa at h
  split at h
  · rename_i a0_n a0_s a0_g
    obtain ⟨⟨⟨rfl,a0_f,rfl⟩,hs⟩,hk⟩:=h
    try rw [zac a0_f] at hs
    try rw [zac a0_f] at hk
    exact ⟨_,zex zeH _,(fun _ _=>[]),(fun _=>false),zD0,q31 (⟨a0_n,a0_f⟩:(Sl Gate)) K hs hk⟩
  · exact h.elim
abbrev T34:Tabs:=Tabs.nil
theorem zLn:TabsOk Try.prog T34:=TabsOk.nil
abbrev G34:Ctrs:=csm T34 (fun _ _=>[]) (fun _=>false)
def zEb:Ann:=⟨26,[(0,zK [0,1] []),(1,zK [0,1,10] []),(2,zK [4] []),(3,zK [0,1,5] []),(4,zK [0,1,5,14] []),(5,zK [0,1,5] []),(6,zK [0,1,5,25] []),(7,zK [4] []),(8,zK [4] [])],
 [(4,zK [0,1,5] [])],
 [(3,zK [0,1] [])],
 [],[]⟩
abbrev R34:=Bool
abbrev e34 (r:R34):List PA:=[.one (.bool r)]
@[irreducible] def z34:=ptF Try.prog G34 zEb Try.f34
def zBm (a:(Sl Line)) (b:(Sl Line)) (iv1:Int):St:=⟨[(0,zS zaw 4 a),(1,zS zaw 4 b),(5,zI iv1)],[],[]⟩
abbrev zIm (K:List PA→Prop) (a:(Sl Line)) (b:(Sl Line)) (X:St→Prop) (P:Int→Bool) (S:Int→Bool):Prop:=∀ ⦃iv1:Int⦄,P iv1=true→K (e34 (S iv1))→X (zBm a b iv1)
section
variable {K:List PA→Prop} {a:(Sl Line)} {b:(Sl Line)} {iv1:Int} {X1:St→Prop} {P1:Int→Bool} {S1:Int→Bool}
def zwl (a:(Sl Line)) (b:(Sl Line)) (S1:Int→Bool) (iv1:Int):Bool :=
  (cond (decide (iv1 < (a.len : Int)))
 (cond (!(match (match ((a.get iv1.toNat).Slope.Num == (b.get iv1.toNat).Slope.Num) with | true => (match ((a.get iv1.toNat).Slope.Den == (b.get iv1.toNat).Slope.Den) with | true => true | false => false) | false => false) with | true => (match (match ((a.get iv1.toNat).Start.Num == (b.get iv1.toNat).Start.Num) with | true => (match ((a.get iv1.toNat).Start.Den == (b.get iv1.toNat).Start.Den) with | true => true | false => false) | false => false) with | true => true | false => false) | false => false))
 false
 (S1 (w64 (iv1+(1:Int)))))
 true)
def zwm (a:(Sl Line)) (b:(Sl Line)) (P1:Int→Bool) (iv1:Int):Bool :=
  (cond (decide (iv1 < (a.len : Int)))
 (decide ((0≤iv1∧iv1 < (a.len:Int))) &&
 (decide ((0≤iv1∧iv1 < (b.len:Int))) &&
 (cond (!(match (match ((a.get iv1.toNat).Slope.Num == (b.get iv1.toNat).Slope.Num) with | true => (match ((a.get iv1.toNat).Slope.Den == (b.get iv1.toNat).Slope.Den) with | true => true | false => false) | false => false) with | true => (match (match ((a.get iv1.toNat).Start.Num == (b.get iv1.toNat).Start.Num) with | true => (match ((a.get iv1.toNat).Start.Den == (b.get iv1.toNat).Start.Den) with | true => true | false => false) | false => false) with | true => true | false => false) | false => false))
 true
 (P1 (w64 (iv1+(1:Int)))))))
 true)
def zwn (a:(Sl Line)) (b:(Sl Line)):Nat→Int→Bool:=lpO (fun _=>default) (zwl a b)
def zwo (a:(Sl Line)) (b:(Sl Line)):Nat→Int→Bool:=lpO (fun _=>false) (zwm a b)
def zwp (a:(Sl Line)) (b:(Sl Line)) (iv1:Int):Bool:=zwn a b Fuel iv1
def zwq (a:(Sl Line)) (b:(Sl Line)) (iv1:Int):Bool:=zwo a b Fuel iv1
theorem zEc (hs:zwq a b iv1=true) (hk:K (e34 (zwp a b iv1))):z34 K [1,1,0,1,0] [] (zBm a b iv1) :=
  zl (fun X=>z34 K [1,1,0,1,0,0] [X]) (by kernel_rfl) fun X1 hX =>
  (show ∀ k, zIm K a b X1 (zwo a b k) (zwn a b k) from zdJ _ _ (zwm a b) (zwl a b) (zIm K a b X1)
 (by intro _ hs;exact absurd hs Bool.false_ne_true)
 (by intro P1 S1 hX1 iv1 hs hk;exact hX _ (zau (by kernel_rfl) (zc hs hk (fun hs hk=>(zat hs fun hc hs=>And.intro hc (zat hs fun hc hs=>And.intro hc (zc hs hk (fun hs hk=>hk) (fun hs hk=>(hX1 hs hk)))))) (fun hs hk=>hk))))) _ hs hk
def zwr (a:(Sl Line)) (b:(Sl Line)):Bool :=
  (zwp a b (0:Int))
def zwt (a:(Sl Line)) (b:(Sl Line)):Bool :=
  (zwq a b (0:Int))
theorem zEd (hs:zwt a b=true) (hk:K (e34 (zwr a b))):z34 K [1,1] [] ⟨[(0,zS zaw 4 a),(1,zS zaw 4 b)],[],[]⟩:=zau (by kernel_rfl) (zEc hs hk)
def s34 (a:(Sl Line)) (b:(Sl Line)):Bool :=
  (cond ((a.len : Int) != (b.len : Int))
 false
 (zwr a b))
def p34 (a:(Sl Line)) (b:(Sl Line)):Bool :=
  (cond ((a.len : Int) != (b.len : Int))
 true
 (zwt a b))
end
theorem q34 (a:(Sl Line)) (b:(Sl Line)) (K:List PA→Prop) (hs:p34 a b=true) (hk:K (e34 (s34 a b))):vcFun Try.prog G34 zEb 34 [.one (.sl a.len 4 (fun i=>zaw (a.get i))),.one (.sl b.len 4 (fun i=>zaw (b.get i)))] K :=
  zau (by kernel_rfl) (zc hs hk (fun hs hk=>hk) (fun hs hk=>(zEd hs hk)))
def zEe : List PA → COut
  | [.one (.sl a0_n a0_s a0_g),.one (.sl a1_n a1_s a1_g)]=>.det (IsE zaw 4 a0_s a0_g∧IsE zaw 4 a1_s a1_g∧p34 (⟨a0_n,zjP a0_g⟩:(Sl Line)) (⟨a1_n,zjP a1_g⟩:(Sl Line))=true) [.one (.bool (s34 (⟨a0_n,zjP a0_g⟩:(Sl Line)) (⟨a1_n,zjP a1_g⟩:(Sl Line))))]
  | _=>.no
theorem zIn:zaf Try.prog 34:=⟨_,rfl,rfl,by kernel_rfl⟩
theorem zN9:Ok Try.prog 34 zEe:=zax zLn zIn fun args K h=>by
  unfold zEe at h
  split at h
  · rename_i a0_n a0_s a0_g a1_n a1_s a1_g
    obtain ⟨⟨⟨rfl,a0_f,rfl⟩,⟨rfl,a1_f,rfl⟩,hs⟩,hk⟩:=h
    try rw [zej a0_f] at hs
    try rw [zej a0_f] at hk
    try rw [zej a1_f] at hs
    try rw [zej a1_f] at hk
    exact ⟨(fun _ _=>[]),(fun _=>false),zEb,q34 (⟨a0_n,a0_f⟩:(Sl Line)) (⟨a1_n,a1_f⟩:(Sl Line)) K hs hk⟩
  · exact h.elim
abbrev T73:Tabs:=Tabs.nil
theorem zLo:TabsOk Try.prog T73:=TabsOk.nil
abbrev G73:Ctrs:=csm T73 (fun _ _=>[]) (fun _=>false)
def zEf:Ann:=⟨12,[(0,zK [0,1] []),(1,zK [0,1,6] []),(2,zK [0,1] []),(3,zK [4] [])],
 [(1,zK [0,1] [])],
 [],
 [],[]⟩
abbrev R73:=Int
abbrev e73 (r:R73):List PA:=[.one (.int .i64 r)]
@[irreducible] def z73:=ptF Try.prog G73 zEf Try.f73
def zBn (av0:Int) (bv0:Int):St:=⟨[(0,zI av0),(1,zI bv0)],[],[]⟩
abbrev zIo (K:List PA→Prop) (X:St→Prop) (P:Int→Int→Bool) (S:Int→Int→Int):Prop:=∀ ⦃av0:Int⦄ ⦃bv0:Int⦄,P av0 bv0=true→K (e73 (S av0 bv0))→X (zBn av0 bv0)
section
variable {K:List PA→Prop} {a:Int} {b:Int} {av0:Int} {bv0:Int} {X0:St→Prop} {P0:Int→Int→Bool} {S0:Int→Int→Int}
def zmk (S0:Int→Int→Int) (av0:Int) (bv0:Int):Int :=
  (cond (bv0 != (0:Int))
 (S0 bv0 (av0.tmod bv0))
 av0)
def zml (P0:Int→Int→Bool) (av0:Int) (bv0:Int):Bool :=
  (cond (bv0 != (0:Int))
 (decide ((bv0 ≠ 0)) &&
 (P0 bv0 (av0.tmod bv0)))
 true)
def zmm:Nat→Int→Int→Int:=lpO (fun _ _=>default) (zmk)
def zmn:Nat→Int→Int→Bool:=lpO (fun _ _=>false) (zml)
def zwu (av0:Int) (bv0:Int):Int:=zmm Fuel av0 bv0
def zwv (av0:Int) (bv0:Int):Bool:=zmn Fuel av0 bv0
theorem zEg (hs:zwv av0 bv0=true) (hk:K (e73 (zwu av0 bv0))):z73 K [1,0,0] [] (zBn av0 bv0) :=
  zl (fun X=>z73 K [1,0,0,0] [X]) (by kernel_rfl) fun X0 hX =>
  (show ∀ k, zIo K X0 (zmn k) (zmm k) from zdJ _ _ (zml) (zmk) (zIo K X0)
 (by intro _ _ hs;exact absurd hs Bool.false_ne_true)
 (by intro P0 S0 hX0 av0 bv0 hs hk;exact hX _ (zau (by kernel_rfl) (zc hs hk (fun hs hk=>(zat hs fun hc hs=>And.intro hc (hX0 hs hk))) (fun hs hk=>hk))))) _ hs hk
def s73 (a:Int) (b:Int):Int :=
  (zwu a b)
def p73 (a:Int) (b:Int):Bool :=
  (zwv a b)
end
theorem q73 (a:Int) (b:Int) (K:List PA→Prop) (hs:p73 a b=true) (hk:K (e73 (s73 a b))):vcFun Try.prog G73 zEf 73 [.one (.int .i64 a),.one (.int .i64 b)] K :=
  zau (by kernel_rfl) (zEg hs hk)
def zEh : List PA → COut
  | [.one (.int .i64 a0),.one (.int .i64 a1)]=>.det (p73 a0 a1=true) [.one (.int .i64 (s73 a0 a1))]
  | _=>.no
theorem zIp:zaf Try.prog 73:=⟨_,rfl,rfl,by kernel_rfl⟩
theorem zOa:Ok Try.prog 73 zEh:=zax zLo zIp fun args K h=>by
  unfold zEh at h
  split at h
  · rename_i a0 a1
    obtain ⟨hs,hk⟩:=h
    exact ⟨(fun _ _=>[]),(fun _=>false),zEf,q73 a0 a1 K hs hk⟩
  · exact h.elim
abbrev T40:Tabs:=(Tabs.nil.addF 73 zEh)
theorem zLp:TabsOk Try.prog T40:=(TabsOk.nil.addF zOa)
abbrev G40:Ctrs:=csm T40 (fun _ _=>[]) (fun _=>false)
def zIq:Ann:=⟨19,[(0,zK [0,1,4] [4]),(1,zK [0,1,4,5] [4]),(2,zK [4] [4])],
 [],
 [],
 [],[]⟩
abbrev R40:=Frac
abbrev e40 (r:R40):List PA:=[.agg [.int .i64 r.Num,.int .i64 r.Den]]
section
variable {K:List PA→Prop} {num:Int} {den:Int}
def s40 (num:Int) (den:Int):Frac :=
  (⟨(w64 (num.tdiv (s73 (if (w64 (0 - num)) > num then (w64 (0 - num)) else num) den))),(w64 (den.tdiv (s73 (if (w64 (0 - num)) > num then (w64 (0 - num)) else num) den)))⟩:Frac)
def p40 (num:Int) (den:Int):Bool :=
  (decide ((p73 (if (w64 (0 - num)) > num then (w64 (0 - num)) else num) den=true)) &&
 (decide (((s73 (if (w64 (0 - num)) > num then (w64 (0 - num)) else num) den) ≠ 0)) &&
 (decide (((s73 (if (w64 (0 - num)) > num then (w64 (0 - num)) else num) den) ≠ 0)) &&
 true)))
end
theorem q40 (num:Int) (den:Int) (K:List PA→Prop) (hs:p40 num den=true) (hk:K (e40 (s40 num den))):vcFun Try.prog G40 zIq 40 [.one (.int .i64 num),.one (.int .i64 den)] K :=
  zau (by kernel_rfl) (zat hs fun hc hs=>And.intro hc (zat hs fun hc hs=>And.intro hc (zat hs fun hc hs=>And.intro hc hk)))
def zz9 : List PA → COut
  | [.one (.int .i64 a0),.one (.int .i64 a1)]=>.det (p40 a0 a1=true) [.agg [.int .i64 ((s40 a0 a1).Num),.int .i64 ((s40 a0 a1).Den)]]
  | _=>.no
theorem zIr:zaf Try.prog 40:=⟨_,rfl,rfl,by kernel_rfl⟩
theorem zME:Ok Try.prog 40 zz9:=zax zLp zIr fun args K h=>by
  unfold zz9 at h
  split at h
  · rename_i a0 a1
    obtain ⟨hs,hk⟩:=h
    exact ⟨(fun _ _=>[]),(fun _=>false),zIq,q40 a0 a1 K hs hk⟩
  · exact h.elim
abbrev T85:Tabs:=Tabs.nil
theorem zLq:TabsOk Try.prog T85:=TabsOk.nil
abbrev G85:Ctrs:=csm T85 (fun _ _=>[]) (fun _=>false)
def zIs:Ann:=⟨47,[(0,zK [0,1,2,3,4,5] []),(1,zK [0,1,2,13] []),(2,zK [13,14] []),(3,zK [12] [])],
 [],
 [],
 [],[]⟩
abbrev R85:=Int
abbrev e85 (r:R85):List PA:=[.one (.int .i64 r)]
section
variable {K:List PA→Prop} {u:Int} {v:Int} {w:Int} {p:Int} {q:Int} {r_a5:Int}
def s85 (u:Int) (v:Int) (w:Int) (p:Int) (q:Int) (r_a5:Int):Int :=
  (w64 ((w64 ((w64 ((w64 ((1000:Int) * (if (w64 (0 - (w64 ((w64 ((w64 (r_a5 - q)) * (w64 (v - u)))) - (w64 ((w64 (q - p)) * (w64 (w - v)))))))) > (w64 ((w64 ((w64 (r_a5 - q)) * (w64 (v - u)))) - (w64 ((w64 (q - p)) * (w64 (w - v)))))) then (w64 (0 - (w64 ((w64 ((w64 (r_a5 - q)) * (w64 (v - u)))) - (w64 ((w64 (q - p)) * (w64 (w - v)))))))) else (w64 ((w64 ((w64 (r_a5 - q)) * (w64 (v - u)))) - (w64 ((w64 (q - p)) * (w64 (w - v)))))))))+(w64 ((w64 (v - u)) * (w64 (w - v)))))) - (1:Int))).tdiv (w64 ((w64 (v - u)) * (w64 (w - v))))))
def p85 (u:Int) (v:Int) (w:Int) (p:Int) (q:Int) (r_a5:Int):Bool :=
  (decide (((w64 ((w64 (v - u)) * (w64 (w - v)))) ≠ 0)) &&
 true)
end
theorem q85 (u:Int) (v:Int) (w:Int) (p:Int) (q:Int) (r_a5:Int) (K:List PA→Prop) (hs:p85 u v w p q r_a5=true) (hk:K (e85 (s85 u v w p q r_a5))):vcFun Try.prog G85 zIs 85 [.one (.int .i64 u),.one (.int .i64 v),.one (.int .i64 w),.one (.int .i64 p),.one (.int .i64 q),.one (.int .i64 r_a5)] K :=
  zau (by kernel_rfl) (zat hs fun hc hs=>And.intro hc hk)
def zAa : List PA → COut
  | [.one (.int .i64 a0),.one (.int .i64 a1),.one (.int .i64 a2),.one (.int .i64 a3),.one (.int .i64 a4),.one (.int .i64 a5)]=>.det (p85 a0 a1 a2 a3 a4 a5=true) [.one (.int .i64 (s85 a0 a1 a2 a3 a4 a5))]
  | _=>.no
theorem zIt:zaf Try.prog 85:=⟨_,rfl,rfl,by kernel_rfl⟩
theorem zMF:Ok Try.prog 85 zAa:=zax zLq zIt fun args K h=>by
  unfold zAa at h
  split at h
  · rename_i a0 a1 a2 a3 a4 a5
    obtain ⟨hs,hk⟩:=h
    exact ⟨(fun _ _=>[]),(fun _=>false),zIs,q85 a0 a1 a2 a3 a4 a5 K hs hk⟩
  · exact h.elim
abbrev T92:Tabs:=((Tabs.nil.addF 64 zoO).addF 74 zns)
theorem zLr:TabsOk Try.prog T92:=((TabsOk.nil.addF zHd).addF zGo)
abbrev G92:Ctrs:=csm T92 (fun _ _=>[]) (fun _=>false)
def zEi:Ann:=⟨41,[(0,zK [0] []),(1,zK [0,5,6,7] []),(2,zK [0,5,6,7,8] []),(3,zK [0,3,4,5,6,7] [4]),(4,zK [0,5,6,7,32] []),(5,zK [2] []),(6,zK [0,5,6,7] []),(7,zK [2] [])],
 [(2,zK [0,5,6,7] [])],
 [],
 [],[]⟩
abbrev R92:=Bool
abbrev e92 (r:R92):List PA:=[.one (.bool r)]
@[irreducible] def z92:=ptF Try.prog G92 zEi Try.f92
def zBo (zaa:(Sl Gate)) (zaW:Int):St:=⟨[(0,zS enc_55 3 zaa),(5,zS enc_55 3 zaa),(6,zI (zaa.len:Int)),(7,zI zaW)],[],[]⟩
abbrev zIu (K:List PA→Prop) (zaa:(Sl Gate)) (X:St→Prop) (P:Int→Bool) (S:Int→Bool):Prop:=∀ ⦃zaW:Int⦄,P zaW=true→K (e92 (S zaW))→X (zBo zaa zaW)
section
variable {K:List PA→Prop} {zaa:(Sl Gate)} {zaW:Int} {X0:St→Prop} {P0:Int→Bool} {S0:Int→Bool}
def zww (zaa:(Sl Gate)) (S0:Int→Bool) (zaW:Int):Bool :=
  (cond (decide (zaW < (zaa.len : Int)))
 (cond (decide ((w64 ((zaa.get zaW.toNat).High - (zaa.get zaW.toNat).Low)) > (60:Int)))
 false
 (cond (decide (zaW > (0:Int)))
 (cond (decide ((zaa.get zaW.toNat).Z ≤ (zaa.get ((w64 (zaW - (1:Int))).toNat)).Z))
 false
 (S0 (w64 (zaW+(1:Int)))))
 (S0 (w64 (zaW+(1:Int))))))
 (cond (s74 (zaa.len : Int) (2:Int) (8:Int))
 (s64 zaa)
 false))
def zwx (zaa:(Sl Gate)) (P0:Int→Bool) (zaW:Int):Bool :=
  (cond (decide (zaW < (zaa.len : Int)))
 (decide ((0≤zaW∧zaW < (zaa.len:Int))) &&
 (cond (decide ((w64 ((zaa.get zaW.toNat).High - (zaa.get zaW.toNat).Low)) > (60:Int)))
 true
 (cond (decide (zaW > (0:Int)))
 (decide ((0≤(w64 (zaW - (1:Int)))∧(w64 (zaW - (1:Int))) < (zaa.len:Int))) &&
 (cond (decide ((zaa.get zaW.toNat).Z ≤ (zaa.get ((w64 (zaW - (1:Int))).toNat)).Z))
 true
 (P0 (w64 (zaW+(1:Int))))))
 (P0 (w64 (zaW+(1:Int)))))))
 (cond (s74 (zaa.len : Int) (2:Int) (8:Int))
 (decide ((p64 zaa=true)) &&
 true)
 true))
def zwy (zaa:(Sl Gate)):Nat→Int→Bool:=lpO (fun _=>default) (zww zaa)
def zwz (zaa:(Sl Gate)):Nat→Int→Bool:=lpO (fun _=>false) (zwx zaa)
def zwA (zaa:(Sl Gate)) (zaW:Int):Bool:=zwy zaa Fuel zaW
def zwB (zaa:(Sl Gate)) (zaW:Int):Bool:=zwz zaa Fuel zaW
theorem zEj (hs:zwB zaa zaW=true) (hk:K (e92 (zwA zaa zaW))):z92 K [1,0,1,0] [] (zBo zaa zaW) :=
  zl (fun X=>z92 K [1,0,1,0,0] [X]) (by kernel_rfl) fun X0 hX =>
  (show ∀ k, zIu K zaa X0 (zwz zaa k) (zwy zaa k) from zdJ _ _ (zwx zaa) (zww zaa) (zIu K zaa X0)
 (by intro _ hs;exact absurd hs Bool.false_ne_true)
 (by intro P0 S0 hX0 zaW hs hk;exact hX _ (zau (by kernel_rfl) (zc hs hk (fun hs hk=>(zat hs fun hc hs=>And.intro hc (zc hs hk (fun hs hk=>hk) (fun hs hk=>(zc hs hk (fun hs hk=>(zat hs fun hc hs=>And.intro hc (zc hs hk (fun hs hk=>hk) (fun hs hk=>(hX0 hs hk))))) (fun hs hk=>(hX0 hs hk))))))) (fun hs hk=>(zc hs hk (fun hs hk=>(zat hs fun hc hs=>And.intro (And.intro (zE enc_55 3 zaa.get) hc) hk)) (fun hs hk=>hk))))))) _ hs hk
def s92 (zaa:(Sl Gate)):Bool :=
  (zwA zaa (0:Int))
def p92 (zaa:(Sl Gate)):Bool :=
  (zwB zaa (0:Int))
end
theorem q92 (zaa:(Sl Gate)) (K:List PA→Prop) (hs:p92 zaa=true) (hk:K (e92 (s92 zaa))):vcFun Try.prog G92 zEi 92 [.one (.sl zaa.len 3 (fun i=>enc_55 (zaa.get i)))] K :=
  zau (by kernel_rfl) (zEj hs hk)
def zEk : List PA → COut
  | [.one (.sl a0_n a0_s a0_g)]=>.det (IsE enc_55 3 a0_s a0_g∧p92 (⟨a0_n,zad a0_g⟩:(Sl Gate))=true) [.one (.bool (s92 (⟨a0_n,zad a0_g⟩:(Sl Gate))))]
  | _=>.no
theorem zIv:zaf Try.prog 92:=⟨_,rfl,rfl,by kernel_rfl⟩
theorem zOb:Ok Try.prog 92 zEk:=zax zLr zIv fun args K h=>by
  unfold zEk at h
  split at h
  · rename_i a0_n a0_s a0_g
    obtain ⟨⟨⟨rfl,a0_f,rfl⟩,hs⟩,hk⟩:=h
    try rw [zac a0_f] at hs
    try rw [zac a0_f] at hk
    exact ⟨(fun _ _=>[]),(fun _=>false),zEi,q92 (⟨a0_n,a0_f⟩:(Sl Gate)) K hs hk⟩
  · exact h.elim
abbrev T93:Tabs:=(Tabs.nil.addF 85 zAa)
theorem zLs:TabsOk Try.prog T93:=(TabsOk.nil.addF zMF)
abbrev G93:Ctrs:=csm T93 (fun _ _=>[]) (fun l=>Nat.beq l 15 || Nat.beq l 24)
def zEl:Ann:=⟨131,[(0,zK [0] []),(1,zK [0,3] []),(2,zK [0,3,4] [15]),(3,zK [0,3,4,5] [15]),(4,zK [0,3,4,5,19] [15]),(5,zK [0,3,4,5] [15]),(6,zK [0,3,4,5] [15]),(7,zK [0,3,4,5,6] [15]),(8,zK [0,3,4,5,6,37] [15]),(9,zK [0,3,4,5,6] [15]),(10,zK [0,3,4,5,6,7] [15]),(11,zK [0,3,4,5,6,7,53] [15]),(12,zK [0,3,4,5,6,7] [15]),(13,zK [0,3,4,5,6,7,59] [15]),(14,zK [0,3,4,5,6,7] [15]),(15,zK [0,3,4,5,6,7,8] [15]),(16,zK [0,3,4,5,6,7,8,9] [15]),(17,zK [0,3,4,5,6,7,8,9,80] [15]),(18,zK [0,3,4,5,6,7,8,9] [15]),(19,zK [0,3,4,5,6,7,8,9,10] [15]),(20,zK [0,3,4,5,6,7,8,9,10,120] [15]),(21,zK [0,3,4,5,6,7,8,9] [15]),(22,zK [0,3,4,5,6,7] [15]),(23,zK [2] [15])],
 [(4,zK [0,3,4,5] [15]),(8,zK [0,3,4,5,6] [15]),(11,zK [0,3,4,5,6,7] [15]),(17,zK [0,3,4,5,6,7,8,9] [15])],
 [(15,zK [0,3,4,5,6,7] [15]),(20,zK [0,3,4,5,6,7,8,9,10] [15])],
 [],[]⟩
abbrev R93:=(Sl Mp)
abbrev e93 (r:R93):List PA:=[.one (.sl r.len 1 (fun i=>zcD (r.get i)))]
@[irreducible] def z93:=ptF Try.prog G93 zEl Try.f93
def zBp (zaa:(Sl Gate)) (iv0:Int) (zbH:Nat) (zbz:(Nat→Bool)) (zbA:(Nat→Nat)) (zbW:(Nat→List Int→Option (List Int))):St:=⟨[(0,zS enc_55 3 zaa),(3,zI (zaa.len:Int)),(4,zv 15),(5,zI iv0)],[(15,.vm 129 8 131 3 (true,2,false,[some .i64]) zbH zbz zbA zbW)],[]⟩
abbrev zpw (K:List PA→Prop) (zaa:(Sl Gate)) (X:St→Prop) (P:Int→Nat→(Nat→Bool)→(Nat→Nat)→(Nat→List Int→Option (List Int))→Bool) (S:Int→Nat→(Nat→Bool)→(Nat→Nat)→(Nat→List Int→Option (List Int))→(Sl Mp)):Prop:=∀ ⦃iv0:Int⦄ ⦃zbH:Nat⦄ ⦃zbz:(Nat→Bool)⦄ ⦃zbA:(Nat→Nat)⦄ ⦃zbW:(Nat→List Int→Option (List Int))⦄,P iv0 zbH zbz zbA zbW=true→K (e93 (S iv0 zbH zbz zbA zbW))→X (zBp zaa iv0 zbH zbz zbA zbW)
def zBq (zaa:(Sl Gate)) (iv1:Int) (pv1:Int) (zbO:Nat) (zbq:(Nat→Bool)) (zbr:(Nat→Nat)) (zbP:(Nat→List Int→Option (List Int))):St:=⟨[(0,zS enc_55 3 zaa),(3,zI (zaa.len:Int)),(4,zv 15),(5,zI iv1),(6,zI pv1)],[(15,.vm 129 8 131 3 (true,2,false,[some .i64]) zbO zbq zbr zbP)],[]⟩
abbrev zsW (K:List PA→Prop) (zaa:(Sl Gate)) (X:St→Prop) (P:Int→Int→Nat→(Nat→Bool)→(Nat→Nat)→(Nat→List Int→Option (List Int))→Bool) (S:Int→Int→Nat→(Nat→Bool)→(Nat→Nat)→(Nat→List Int→Option (List Int))→(Sl Mp)):Prop:=∀ ⦃iv1:Int⦄ ⦃pv1:Int⦄ ⦃zbO:Nat⦄ ⦃zbq:(Nat→Bool)⦄ ⦃zbr:(Nat→Nat)⦄ ⦃zbP:(Nat→List Int→Option (List Int))⦄,P iv1 pv1 zbO zbq zbr zbP=true→K (e93 (S iv1 pv1 zbO zbq zbr zbP))→X (zBq zaa iv1 pv1 zbO zbq zbr zbP)
def zBr (zaa:(Sl Gate)) (iv2:Int) (pv2:Int) (qv2:Int) (zbt:Nat) (za5:(Nat→Bool)) (zaX:(Nat→Nat)) (zbj:(Nat→List Int→Option (List Int))):St:=⟨[(0,zS enc_55 3 zaa),(3,zI (zaa.len:Int)),(4,zv 15),(5,zI iv2),(6,zI pv2),(7,zI qv2)],[(15,.vm 129 8 131 3 (true,2,false,[some .i64]) zbt za5 zaX zbj)],[]⟩
abbrev zwC (K:List PA→Prop) (zaa:(Sl Gate)) (X:St→Prop) (P:Int→Int→Int→Nat→(Nat→Bool)→(Nat→Nat)→(Nat→List Int→Option (List Int))→Bool) (S:Int→Int→Int→Nat→(Nat→Bool)→(Nat→Nat)→(Nat→List Int→Option (List Int))→(Sl Mp)):Prop:=∀ ⦃iv2:Int⦄ ⦃pv2:Int⦄ ⦃qv2:Int⦄ ⦃zbt:Nat⦄ ⦃za5:(Nat→Bool)⦄ ⦃zaX:(Nat→Nat)⦄ ⦃zbj:(Nat→List Int→Option (List Int))⦄,P iv2 pv2 qv2 zbt za5 zaX zbj=true→K (e93 (S iv2 pv2 qv2 zbt za5 zaX zbj))→X (zBr zaa iv2 pv2 qv2 zbt za5 zaX zbj)
def zBs (zaa:(Sl Gate)) (qv3:Int) (iv4:Int) (pv4:Int) (zcx:Int) (rv4:Int) (zbk:Nat) (za9:(Nat→Bool)) (zba:(Nat→Nat)) (za8:(Nat→List Int→Option (List Int))):St:=⟨[(0,zS enc_55 3 zaa),(3,zI (zaa.len:Int)),(4,zv 15),(5,zI iv4),(6,zI pv4),(7,zI qv3),(8,zI zcx),(9,zI rv4)],[(15,.vm 129 8 131 3 (true,2,false,[some .i64]) zbk za9 zba za8)],[]⟩
abbrev zEm (K:List PA→Prop) (zaa:(Sl Gate)) (qv3:Int) (X:St→Prop) (P:Int→Int→Int→Int→Nat→(Nat→Bool)→(Nat→Nat)→(Nat→List Int→Option (List Int))→Bool) (S:Int→Int→Int→Int→Nat→(Nat→Bool)→(Nat→Nat)→(Nat→List Int→Option (List Int))→(Sl Mp)):Prop:=∀ ⦃iv4:Int⦄ ⦃pv4:Int⦄ ⦃zcx:Int⦄ ⦃rv4:Int⦄ ⦃zbk:Nat⦄ ⦃za9:(Nat→Bool)⦄ ⦃zba:(Nat→Nat)⦄ ⦃za8:(Nat→List Int→Option (List Int))⦄,P iv4 pv4 zcx rv4 zbk za9 zba za8=true→K (e93 (S iv4 pv4 zcx rv4 zbk za9 zba za8))→X (zBs zaa qv3 iv4 pv4 zcx rv4 zbk za9 zba za8)
section
variable {K:List PA→Prop} {zaa:(Sl Gate)} {iv0:Int} {zbH:Nat} {zbz:(Nat→Bool)} {zbA:(Nat→Nat)} {zbW:(Nat→List Int→Option (List Int))} {X0:St→Prop} {P0:Int→Nat→(Nat→Bool)→(Nat→Nat)→(Nat→List Int→Option (List Int))→Bool} {S0:Int→Nat→(Nat→Bool)→(Nat→Nat)→(Nat→List Int→Option (List Int))→(Sl Mp)} {iv1:Int} {pv1:Int} {zbO:Nat} {zbq:(Nat→Bool)} {zbr:(Nat→Nat)} {zbP:(Nat→List Int→Option (List Int))} {X1:St→Prop} {P1:Int→Int→Nat→(Nat→Bool)→(Nat→Nat)→(Nat→List Int→Option (List Int))→Bool} {S1:Int→Int→Nat→(Nat→Bool)→(Nat→Nat)→(Nat→List Int→Option (List Int))→(Sl Mp)} {iv2:Int} {pv2:Int} {qv2:Int} {zbt:Nat} {za5:(Nat→Bool)} {zaX:(Nat→Nat)} {zbj:(Nat→List Int→Option (List Int))} {X2:St→Prop} {P2:Int→Int→Int→Nat→(Nat→Bool)→(Nat→Nat)→(Nat→List Int→Option (List Int))→Bool} {S2:Int→Int→Int→Nat→(Nat→Bool)→(Nat→Nat)→(Nat→List Int→Option (List Int))→(Sl Mp)} {iv3:Int} {pv3:Int} {qv3:Int} {zfR:Nat} {zeq:(Nat→Bool)} {zer:(Nat→Nat)} {zfS:(Nat→List Int→Option (List Int))} {iv4:Int} {pv4:Int} {zcx:Int} {rv4:Int} {zbk:Nat} {za9:(Nat→Bool)} {zba:(Nat→Nat)} {za8:(Nat→List Int→Option (List Int))} {X4:St→Prop} {P4:Int→Int→Int→Int→Nat→(Nat→Bool)→(Nat→Nat)→(Nat→List Int→Option (List Int))→Bool} {S4:Int→Int→Int→Int→Nat→(Nat→Bool)→(Nat→Nat)→(Nat→List Int→Option (List Int))→(Sl Mp)} {iv5:Int} {pv5:Int} {zeV:Int} {rv5:Int} {kv5:Int} {zdE:Nat} {zcI:(Nat→Bool)} {zcJ:(Nat→Nat)} {zdF:(Nat→List Int→Option (List Int))}
def zwD (S0:Int→Nat→(Nat→Bool)→(Nat→Nat)→(Nat→List Int→Option (List Int))→(Sl Mp)) (S1:Int→Int→Nat→(Nat→Bool)→(Nat→Nat)→(Nat→List Int→Option (List Int))→(Sl Mp)) (S2:Int→Int→Int→Nat→(Nat→Bool)→(Nat→Nat)→(Nat→List Int→Option (List Int))→(Sl Mp)) (S4:Int→Int→Int→Int→Nat→(Nat→Bool)→(Nat→Nat)→(Nat→List Int→Option (List Int))→(Sl Mp)) (zaa:(Sl Gate)) (qv3:Int) (iv5:Int) (pv5:Int) (zeV:Int) (rv5:Int) (kv5:Int) (zdE:Nat) (zcI:(Nat→Bool)) (zcJ:(Nat→Nat)) (zdF:(Nat→List Int→Option (List Int))):(Sl Mp) :=
  (cond (decide (zeV < (0:Int)))
 (S4 iv5 pv5 kv5 (w64 (rv5+(1:Int))) zdE zcI zcJ zdF)
 (cond (decide (kv5 < zeV))
 (S4 iv5 pv5 kv5 (w64 (rv5+(1:Int))) zdE zcI zcJ zdF)
 (S4 iv5 pv5 zeV (w64 (rv5+(1:Int))) zdE zcI zcJ zdF)))
def zwE (P0:Int→Nat→(Nat→Bool)→(Nat→Nat)→(Nat→List Int→Option (List Int))→Bool) (P1:Int→Int→Nat→(Nat→Bool)→(Nat→Nat)→(Nat→List Int→Option (List Int))→Bool) (P2:Int→Int→Int→Nat→(Nat→Bool)→(Nat→Nat)→(Nat→List Int→Option (List Int))→Bool) (P4:Int→Int→Int→Int→Nat→(Nat→Bool)→(Nat→Nat)→(Nat→List Int→Option (List Int))→Bool) (zaa:(Sl Gate)) (qv3:Int) (iv5:Int) (pv5:Int) (zeV:Int) (rv5:Int) (kv5:Int) (zdE:Nat) (zcI:(Nat→Bool)) (zcJ:(Nat→Nat)) (zdF:(Nat→List Int→Option (List Int))):Bool :=
  (cond (decide (zeV < (0:Int)))
 (P4 iv5 pv5 kv5 (w64 (rv5+(1:Int))) zdE zcI zcJ zdF)
 (cond (decide (kv5 < zeV))
 (P4 iv5 pv5 kv5 (w64 (rv5+(1:Int))) zdE zcI zcJ zdF)
 (P4 iv5 pv5 zeV (w64 (rv5+(1:Int))) zdE zcI zcJ zdF)))
theorem zEn (hX0:zpw K zaa X0 P0 S0) (hX1:zsW K zaa X1 P1 S1) (hX2:zwC K zaa X2 P2 S2) (hX4:zEm K zaa qv3 X4 P4 S4) (hs:zwE P0 P1 P2 P4 zaa qv3 iv5 pv5 zeV rv5 kv5 zdE zcI zcJ zdF=true) (hk:K (e93 (zwD S0 S1 S2 S4 zaa qv3 iv5 pv5 zeV rv5 kv5 zdE zcI zcJ zdF))):z93 K [1,1,1,0,1,0,0,1,0,0,1,1,0,0,1,0,0,1,0,0,1,0,0,1,1,0,1,0,0,1,0,0,1] [X0,X1,X2,X4] ⟨[(0,zS enc_55 3 zaa),(3,zI (zaa.len:Int)),(4,zv 15),(5,zI iv5),(6,zI pv5),(7,zI qv3),(8,zI zeV),(9,zI rv5),(10,zI kv5)],[(15,.vm 129 8 131 3 (true,2,false,[some .i64]) zdE zcI zcJ zdF)],[]⟩:=zau (by kernel_rfl) (zc hs hk (fun hs hk=>(hX4 hs hk)) (fun hs hk=>(zc hs hk (fun hs hk=>(hX4 hs hk)) (fun hs hk=>(hX4 hs hk)))))
def zwF (S0:Int→Nat→(Nat→Bool)→(Nat→Nat)→(Nat→List Int→Option (List Int))→(Sl Mp)) (S1:Int→Int→Nat→(Nat→Bool)→(Nat→Nat)→(Nat→List Int→Option (List Int))→(Sl Mp)) (S2:Int→Int→Int→Nat→(Nat→Bool)→(Nat→Nat)→(Nat→List Int→Option (List Int))→(Sl Mp)) (zaa:(Sl Gate)) (qv3:Int) (S4:Int→Int→Int→Int→Nat→(Nat→Bool)→(Nat→Nat)→(Nat→List Int→Option (List Int))→(Sl Mp)) (iv4:Int) (pv4:Int) (zcx:Int) (rv4:Int) (zbk:Nat) (za9:(Nat→Bool)) (zba:(Nat→Nat)) (za8:(Nat→List Int→Option (List Int))):(Sl Mp) :=
  (cond (decide (rv4 ≤ (zaa.get ((w64 (iv4 + (2:Int))).toNat)).High))
 (zwD S0 S1 S2 S4 zaa qv3 iv4 pv4 zcx rv4 (if (zdL ((za8 ((w64 (iv4+(1:Int))).toNat)) [qv3,rv4]) 0) > (s85 ((zaa.get iv4.toNat).Z) ((zaa.get ((w64 (iv4+(1:Int))).toNat)).Z) ((zaa.get ((w64 (iv4+(2:Int))).toNat)).Z) pv4 qv3 rv4) then (zdL ((za8 ((w64 (iv4+(1:Int))).toNat)) [qv3,rv4]) 0) else (s85 ((zaa.get iv4.toNat).Z) ((zaa.get ((w64 (iv4+(1:Int))).toNat)).Z) ((zaa.get ((w64 (iv4+(2:Int))).toNat)).Z) pv4 qv3 rv4)) zbk za9 zba za8)
 (S2 iv4 pv4 (w64 (qv3+(1:Int))) zbk za9 (zcR iv4.toNat (addN ((za8 iv4.toNat) [pv4,qv3]) (zba iv4.toNat)) zba) (zcR iv4.toNat (zkS [pv4,qv3] [zcx] (za8 iv4.toNat)) za8)))
def zwG (P0:Int→Nat→(Nat→Bool)→(Nat→Nat)→(Nat→List Int→Option (List Int))→Bool) (P1:Int→Int→Nat→(Nat→Bool)→(Nat→Nat)→(Nat→List Int→Option (List Int))→Bool) (P2:Int→Int→Int→Nat→(Nat→Bool)→(Nat→Nat)→(Nat→List Int→Option (List Int))→Bool) (zaa:(Sl Gate)) (qv3:Int) (P4:Int→Int→Int→Int→Nat→(Nat→Bool)→(Nat→Nat)→(Nat→List Int→Option (List Int))→Bool) (iv4:Int) (pv4:Int) (zcx:Int) (rv4:Int) (zbk:Nat) (za9:(Nat→Bool)) (zba:(Nat→Nat)) (za8:(Nat→List Int→Option (List Int))):Bool :=
  (decide ((0≤(w64 (iv4+(2:Int)))∧(w64 (iv4+(2:Int))) < (zaa.len:Int))) &&
 (cond (decide (rv4 ≤ (zaa.get ((w64 (iv4 + (2:Int))).toNat)).High))
 (decide ((0≤iv4∧iv4 < (zaa.len:Int))) &&
 (decide ((0≤(w64 (iv4+(1:Int)))∧(w64 (iv4+(1:Int))) < (zaa.len:Int))) &&
 (decide ((0≤(w64 (iv4+(2:Int)))∧(w64 (iv4+(2:Int))) < (zaa.len:Int))) &&
 (decide ((p85 ((zaa.get iv4.toNat).Z) ((zaa.get ((w64 (iv4+(1:Int))).toNat)).Z) ((zaa.get ((w64 (iv4+(2:Int))).toNat)).Z) pv4 qv3 rv4=true)) &&
 (decide ((0≤(w64 (iv4+(1:Int)))∧(w64 (iv4+(1:Int))) < (zbk:Int))) &&
 (decide (((w64 (iv4+(1:Int))).toNat < zbk∧za9 ((w64 (iv4+(1:Int))).toNat)=true)) &&
 (decide (((w64 (iv4+(1:Int))).toNat < zbk)) &&
 (zwE P0 P1 P2 P4 zaa qv3 iv4 pv4 zcx rv4 (if (zdL ((za8 ((w64 (iv4+(1:Int))).toNat)) [qv3,rv4]) 0) > (s85 ((zaa.get iv4.toNat).Z) ((zaa.get ((w64 (iv4+(1:Int))).toNat)).Z) ((zaa.get ((w64 (iv4+(2:Int))).toNat)).Z) pv4 qv3 rv4) then (zdL ((za8 ((w64 (iv4+(1:Int))).toNat)) [qv3,rv4]) 0) else (s85 ((zaa.get iv4.toNat).Z) ((zaa.get ((w64 (iv4+(1:Int))).toNat)).Z) ((zaa.get ((w64 (iv4+(2:Int))).toNat)).Z) pv4 qv3 rv4)) zbk za9 zba za8))))))))
 (decide ((0≤iv4∧iv4 < (zbk:Int))) &&
 (decide ((iv4.toNat < zbk∧za9 iv4.toNat=true)) &&
 (decide ((iv4.toNat < zbk)) &&
 (P2 iv4 pv4 (w64 (qv3+(1:Int))) zbk za9 (zcR iv4.toNat (addN ((za8 iv4.toNat) [pv4,qv3]) (zba iv4.toNat)) zba) (zcR iv4.toNat (zkS [pv4,qv3] [zcx] (za8 iv4.toNat)) za8)))))))
def zwH (S0:Int→Nat→(Nat→Bool)→(Nat→Nat)→(Nat→List Int→Option (List Int))→(Sl Mp)) (S1:Int→Int→Nat→(Nat→Bool)→(Nat→Nat)→(Nat→List Int→Option (List Int))→(Sl Mp)) (S2:Int→Int→Int→Nat→(Nat→Bool)→(Nat→Nat)→(Nat→List Int→Option (List Int))→(Sl Mp)) (zaa:(Sl Gate)) (qv3:Int):Nat→Int→Int→Int→Int→Nat→(Nat→Bool)→(Nat→Nat)→(Nat→List Int→Option (List Int))→(Sl Mp):=lpO (fun _ _ _ _ _ _ _ _=>default) (zwF S0 S1 S2 zaa qv3)
def zwI (P0:Int→Nat→(Nat→Bool)→(Nat→Nat)→(Nat→List Int→Option (List Int))→Bool) (P1:Int→Int→Nat→(Nat→Bool)→(Nat→Nat)→(Nat→List Int→Option (List Int))→Bool) (P2:Int→Int→Int→Nat→(Nat→Bool)→(Nat→Nat)→(Nat→List Int→Option (List Int))→Bool) (zaa:(Sl Gate)) (qv3:Int):Nat→Int→Int→Int→Int→Nat→(Nat→Bool)→(Nat→Nat)→(Nat→List Int→Option (List Int))→Bool:=lpO (fun _ _ _ _ _ _ _ _=>false) (zwG P0 P1 P2 zaa qv3)
def zwJ (S0:Int→Nat→(Nat→Bool)→(Nat→Nat)→(Nat→List Int→Option (List Int))→(Sl Mp)) (S1:Int→Int→Nat→(Nat→Bool)→(Nat→Nat)→(Nat→List Int→Option (List Int))→(Sl Mp)) (S2:Int→Int→Int→Nat→(Nat→Bool)→(Nat→Nat)→(Nat→List Int→Option (List Int))→(Sl Mp)) (zaa:(Sl Gate)) (qv3:Int) (iv4:Int) (pv4:Int) (zcx:Int) (rv4:Int) (zbk:Nat) (za9:(Nat→Bool)) (zba:(Nat→Nat)) (za8:(Nat→List Int→Option (List Int))):(Sl Mp):=zwH S0 S1 S2 zaa qv3 Fuel iv4 pv4 zcx rv4 zbk za9 zba za8
def zwK (P0:Int→Nat→(Nat→Bool)→(Nat→Nat)→(Nat→List Int→Option (List Int))→Bool) (P1:Int→Int→Nat→(Nat→Bool)→(Nat→Nat)→(Nat→List Int→Option (List Int))→Bool) (P2:Int→Int→Int→Nat→(Nat→Bool)→(Nat→Nat)→(Nat→List Int→Option (List Int))→Bool) (zaa:(Sl Gate)) (qv3:Int) (iv4:Int) (pv4:Int) (zcx:Int) (rv4:Int) (zbk:Nat) (za9:(Nat→Bool)) (zba:(Nat→Nat)) (za8:(Nat→List Int→Option (List Int))):Bool:=zwI P0 P1 P2 zaa qv3 Fuel iv4 pv4 zcx rv4 zbk za9 zba za8
theorem zEo (hX0:zpw K zaa X0 P0 S0) (hX1:zsW K zaa X1 P1 S1) (hX2:zwC K zaa X2 P2 S2) (hs:zwK P0 P1 P2 zaa qv3 iv4 pv4 zcx rv4 zbk za9 zba za8=true) (hk:K (e93 (zwJ S0 S1 S2 zaa qv3 iv4 pv4 zcx rv4 zbk za9 zba za8))):z93 K [1,1,1,0,1,0,0,1,0,0,1,1,0,0,1,0,0,1,0,0,1,0,0,1,1,0,1,0] [X0,X1,X2] (zBs zaa qv3 iv4 pv4 zcx rv4 zbk za9 zba za8) :=
  zl (fun X=>z93 K [1,1,1,0,1,0,0,1,0,0,1,1,0,0,1,0,0,1,0,0,1,0,0,1,1,0,1,0,0] [X0,X1,X2,X]) (by kernel_rfl) fun X4 hX =>
  (show ∀ k, zEm K zaa qv3 X4 (zwI P0 P1 P2 zaa qv3 k) (zwH S0 S1 S2 zaa qv3 k) from zdJ _ _ (zwG P0 P1 P2 zaa qv3) (zwF S0 S1 S2 zaa qv3) (zEm K zaa qv3 X4)
 (by intro _ _ _ _ _ _ _ _ hs;exact absurd hs Bool.false_ne_true)
 (by intro P4 S4 hX4 iv4 pv4 zcx rv4 zbk za9 zba za8 hs hk;exact hX _ (zau (by kernel_rfl) (zat hs fun hc hs=>And.intro hc (zc hs hk (fun hs hk=>(zat hs fun hc hs=>And.intro hc (zat hs fun hc hs=>And.intro hc (zat hs fun hc hs=>And.intro hc (zat hs fun hc hs=>And.intro hc (zat hs fun hc hs=>And.intro hc (zat hs fun hc hs=>And.intro hc (zat hs fun hc hs=>And.intro hc (zEn hX0 hX1 hX2 hX4 hs hk))))))))) (fun hs hk=>(zat hs fun hc hs=>And.intro hc (zat hs fun hc hs=>And.intro hc (zat hs fun hc hs=>And.intro hc (hX2 hs hk)))))))))) _ hs hk
def zwL (S0:Int→Nat→(Nat→Bool)→(Nat→Nat)→(Nat→List Int→Option (List Int))→(Sl Mp)) (S1:Int→Int→Nat→(Nat→Bool)→(Nat→Nat)→(Nat→List Int→Option (List Int))→(Sl Mp)) (S2:Int→Int→Int→Nat→(Nat→Bool)→(Nat→Nat)→(Nat→List Int→Option (List Int))→(Sl Mp)) (zaa:(Sl Gate)) (iv3:Int) (pv3:Int) (qv3:Int) (zfR:Nat) (zeq:(Nat→Bool)) (zer:(Nat→Nat)) (zfS:(Nat→List Int→Option (List Int))):(Sl Mp) :=
  (zwJ S0 S1 S2 zaa qv3 iv3 pv3 (-1:Int) ((zaa.get ((w64 (iv3+(2:Int))).toNat)).Low) zfR zeq zer zfS)
def zwM (P0:Int→Nat→(Nat→Bool)→(Nat→Nat)→(Nat→List Int→Option (List Int))→Bool) (P1:Int→Int→Nat→(Nat→Bool)→(Nat→Nat)→(Nat→List Int→Option (List Int))→Bool) (P2:Int→Int→Int→Nat→(Nat→Bool)→(Nat→Nat)→(Nat→List Int→Option (List Int))→Bool) (zaa:(Sl Gate)) (iv3:Int) (pv3:Int) (qv3:Int) (zfR:Nat) (zeq:(Nat→Bool)) (zer:(Nat→Nat)) (zfS:(Nat→List Int→Option (List Int))):Bool :=
  (decide ((0≤(w64 (iv3+(2:Int)))∧(w64 (iv3+(2:Int))) < (zaa.len:Int))) &&
 (zwK P0 P1 P2 zaa qv3 iv3 pv3 (-1:Int) ((zaa.get ((w64 (iv3+(2:Int))).toNat)).Low) zfR zeq zer zfS))
theorem zEp (hX0:zpw K zaa X0 P0 S0) (hX1:zsW K zaa X1 P1 S1) (hX2:zwC K zaa X2 P2 S2) (hs:zwM P0 P1 P2 zaa iv3 pv3 qv3 zfR zeq zer zfS=true) (hk:K (e93 (zwL S0 S1 S2 zaa iv3 pv3 qv3 zfR zeq zer zfS))):z93 K [1,1,1,0,1,0,0,1,0,0,1,1,0,0,1,0,0,1,0,0,1,0,0,1] [X0,X1,X2] ⟨[(0,zS enc_55 3 zaa),(3,zI (zaa.len:Int)),(4,zv 15),(5,zI iv3),(6,zI pv3),(7,zI qv3)],[(15,.vm 129 8 131 3 (true,2,false,[some .i64]) zfR zeq zer zfS)],[]⟩:=zau (by kernel_rfl) (zat hs fun hc hs=>And.intro hc (zEo hX0 hX1 hX2 hs hk))
def zwN (S0:Int→Nat→(Nat→Bool)→(Nat→Nat)→(Nat→List Int→Option (List Int))→(Sl Mp)) (S1:Int→Int→Nat→(Nat→Bool)→(Nat→Nat)→(Nat→List Int→Option (List Int))→(Sl Mp)) (zaa:(Sl Gate)) (S2:Int→Int→Int→Nat→(Nat→Bool)→(Nat→Nat)→(Nat→List Int→Option (List Int))→(Sl Mp)) (iv2:Int) (pv2:Int) (qv2:Int) (zbt:Nat) (za5:(Nat→Bool)) (zaX:(Nat→Nat)) (zbj:(Nat→List Int→Option (List Int))):(Sl Mp) :=
  (cond (decide (qv2 ≤ (zaa.get ((w64 (iv2 + (1:Int))).toNat)).High))
 (cond (iv2 == (w64 ((zaa.len : Int) - (2:Int))))
 (S2 iv2 pv2 (w64 (qv2+(1:Int))) zbt za5 (zcR iv2.toNat (addN ((zbj iv2.toNat) [pv2,qv2]) (zaX iv2.toNat)) zaX) (zcR iv2.toNat (zkS [pv2,qv2] [(0:Int)] (zbj iv2.toNat)) zbj))
 (zwL S0 S1 S2 zaa iv2 pv2 qv2 zbt za5 zaX zbj))
 (S1 iv2 (w64 (pv2+(1:Int))) zbt za5 zaX zbj))
def zwO (P0:Int→Nat→(Nat→Bool)→(Nat→Nat)→(Nat→List Int→Option (List Int))→Bool) (P1:Int→Int→Nat→(Nat→Bool)→(Nat→Nat)→(Nat→List Int→Option (List Int))→Bool) (zaa:(Sl Gate)) (P2:Int→Int→Int→Nat→(Nat→Bool)→(Nat→Nat)→(Nat→List Int→Option (List Int))→Bool) (iv2:Int) (pv2:Int) (qv2:Int) (zbt:Nat) (za5:(Nat→Bool)) (zaX:(Nat→Nat)) (zbj:(Nat→List Int→Option (List Int))):Bool :=
  (decide ((0≤(w64 (iv2+(1:Int)))∧(w64 (iv2+(1:Int))) < (zaa.len:Int))) &&
 (cond (decide (qv2 ≤ (zaa.get ((w64 (iv2 + (1:Int))).toNat)).High))
 (cond (iv2 == (w64 ((zaa.len : Int) - (2:Int))))
 (decide ((0≤iv2∧iv2 < (zbt:Int))) &&
 (decide ((iv2.toNat < zbt∧za5 iv2.toNat=true)) &&
 (decide ((iv2.toNat < zbt)) &&
 (P2 iv2 pv2 (w64 (qv2+(1:Int))) zbt za5 (zcR iv2.toNat (addN ((zbj iv2.toNat) [pv2,qv2]) (zaX iv2.toNat)) zaX) (zcR iv2.toNat (zkS [pv2,qv2] [(0:Int)] (zbj iv2.toNat)) zbj)))))
 (zwM P0 P1 P2 zaa iv2 pv2 qv2 zbt za5 zaX zbj))
 (P1 iv2 (w64 (pv2+(1:Int))) zbt za5 zaX zbj)))
def zwP (S0:Int→Nat→(Nat→Bool)→(Nat→Nat)→(Nat→List Int→Option (List Int))→(Sl Mp)) (S1:Int→Int→Nat→(Nat→Bool)→(Nat→Nat)→(Nat→List Int→Option (List Int))→(Sl Mp)) (zaa:(Sl Gate)):Nat→Int→Int→Int→Nat→(Nat→Bool)→(Nat→Nat)→(Nat→List Int→Option (List Int))→(Sl Mp):=lpO (fun _ _ _ _ _ _ _=>default) (zwN S0 S1 zaa)
def zwQ (P0:Int→Nat→(Nat→Bool)→(Nat→Nat)→(Nat→List Int→Option (List Int))→Bool) (P1:Int→Int→Nat→(Nat→Bool)→(Nat→Nat)→(Nat→List Int→Option (List Int))→Bool) (zaa:(Sl Gate)):Nat→Int→Int→Int→Nat→(Nat→Bool)→(Nat→Nat)→(Nat→List Int→Option (List Int))→Bool:=lpO (fun _ _ _ _ _ _ _=>false) (zwO P0 P1 zaa)
def zwR (S0:Int→Nat→(Nat→Bool)→(Nat→Nat)→(Nat→List Int→Option (List Int))→(Sl Mp)) (S1:Int→Int→Nat→(Nat→Bool)→(Nat→Nat)→(Nat→List Int→Option (List Int))→(Sl Mp)) (zaa:(Sl Gate)) (iv2:Int) (pv2:Int) (qv2:Int) (zbt:Nat) (za5:(Nat→Bool)) (zaX:(Nat→Nat)) (zbj:(Nat→List Int→Option (List Int))):(Sl Mp):=zwP S0 S1 zaa Fuel iv2 pv2 qv2 zbt za5 zaX zbj
def zwS (P0:Int→Nat→(Nat→Bool)→(Nat→Nat)→(Nat→List Int→Option (List Int))→Bool) (P1:Int→Int→Nat→(Nat→Bool)→(Nat→Nat)→(Nat→List Int→Option (List Int))→Bool) (zaa:(Sl Gate)) (iv2:Int) (pv2:Int) (qv2:Int) (zbt:Nat) (za5:(Nat→Bool)) (zaX:(Nat→Nat)) (zbj:(Nat→List Int→Option (List Int))):Bool:=zwQ P0 P1 zaa Fuel iv2 pv2 qv2 zbt za5 zaX zbj
theorem zEq (hX0:zpw K zaa X0 P0 S0) (hX1:zsW K zaa X1 P1 S1) (hs:zwS P0 P1 zaa iv2 pv2 qv2 zbt za5 zaX zbj=true) (hk:K (e93 (zwR S0 S1 zaa iv2 pv2 qv2 zbt za5 zaX zbj))):z93 K [1,1,1,0,1,0,0,1,0,0,1,1,0,0,1,0,0,1,0] [X0,X1] (zBr zaa iv2 pv2 qv2 zbt za5 zaX zbj) :=
  zl (fun X=>z93 K [1,1,1,0,1,0,0,1,0,0,1,1,0,0,1,0,0,1,0,0] [X0,X1,X]) (by kernel_rfl) fun X2 hX =>
  (show ∀ k, zwC K zaa X2 (zwQ P0 P1 zaa k) (zwP S0 S1 zaa k) from zdJ _ _ (zwO P0 P1 zaa) (zwN S0 S1 zaa) (zwC K zaa X2)
 (by intro _ _ _ _ _ _ _ hs;exact absurd hs Bool.false_ne_true)
 (by intro P2 S2 hX2 iv2 pv2 qv2 zbt za5 zaX zbj hs hk;exact hX _ (zau (by kernel_rfl) (zat hs fun hc hs=>And.intro hc (zc hs hk (fun hs hk=>(zc hs hk (fun hs hk=>(zat hs fun hc hs=>And.intro hc (zat hs fun hc hs=>And.intro hc (zat hs fun hc hs=>And.intro hc (hX2 hs hk))))) (fun hs hk=>(zEp hX0 hX1 hX2 hs hk)))) (fun hs hk=>(hX1 hs hk))))))) _ hs hk
def zwT (S0:Int→Nat→(Nat→Bool)→(Nat→Nat)→(Nat→List Int→Option (List Int))→(Sl Mp)) (zaa:(Sl Gate)) (S1:Int→Int→Nat→(Nat→Bool)→(Nat→Nat)→(Nat→List Int→Option (List Int))→(Sl Mp)) (iv1:Int) (pv1:Int) (zbO:Nat) (zbq:(Nat→Bool)) (zbr:(Nat→Nat)) (zbP:(Nat→List Int→Option (List Int))):(Sl Mp) :=
  (cond (decide (pv1 ≤ (zaa.get iv1.toNat).High))
 (zwR S0 S1 zaa iv1 pv1 ((zaa.get ((w64 (iv1+(1:Int))).toNat)).Low) zbO zbq zbr zbP)
 (S0 (w64 (iv1 - (1:Int))) zbO zbq zbr zbP))
def zwU (P0:Int→Nat→(Nat→Bool)→(Nat→Nat)→(Nat→List Int→Option (List Int))→Bool) (zaa:(Sl Gate)) (P1:Int→Int→Nat→(Nat→Bool)→(Nat→Nat)→(Nat→List Int→Option (List Int))→Bool) (iv1:Int) (pv1:Int) (zbO:Nat) (zbq:(Nat→Bool)) (zbr:(Nat→Nat)) (zbP:(Nat→List Int→Option (List Int))):Bool :=
  (decide ((0≤iv1∧iv1 < (zaa.len:Int))) &&
 (cond (decide (pv1 ≤ (zaa.get iv1.toNat).High))
 (decide ((0≤(w64 (iv1+(1:Int)))∧(w64 (iv1+(1:Int))) < (zaa.len:Int))) &&
 (zwS P0 P1 zaa iv1 pv1 ((zaa.get ((w64 (iv1+(1:Int))).toNat)).Low) zbO zbq zbr zbP))
 (P0 (w64 (iv1 - (1:Int))) zbO zbq zbr zbP)))
def zwV (S0:Int→Nat→(Nat→Bool)→(Nat→Nat)→(Nat→List Int→Option (List Int))→(Sl Mp)) (zaa:(Sl Gate)):Nat→Int→Int→Nat→(Nat→Bool)→(Nat→Nat)→(Nat→List Int→Option (List Int))→(Sl Mp):=lpO (fun _ _ _ _ _ _=>default) (zwT S0 zaa)
def zwW (P0:Int→Nat→(Nat→Bool)→(Nat→Nat)→(Nat→List Int→Option (List Int))→Bool) (zaa:(Sl Gate)):Nat→Int→Int→Nat→(Nat→Bool)→(Nat→Nat)→(Nat→List Int→Option (List Int))→Bool:=lpO (fun _ _ _ _ _ _=>false) (zwU P0 zaa)
def zwX (S0:Int→Nat→(Nat→Bool)→(Nat→Nat)→(Nat→List Int→Option (List Int))→(Sl Mp)) (zaa:(Sl Gate)) (iv1:Int) (pv1:Int) (zbO:Nat) (zbq:(Nat→Bool)) (zbr:(Nat→Nat)) (zbP:(Nat→List Int→Option (List Int))):(Sl Mp):=zwV S0 zaa Fuel iv1 pv1 zbO zbq zbr zbP
def zwY (P0:Int→Nat→(Nat→Bool)→(Nat→Nat)→(Nat→List Int→Option (List Int))→Bool) (zaa:(Sl Gate)) (iv1:Int) (pv1:Int) (zbO:Nat) (zbq:(Nat→Bool)) (zbr:(Nat→Nat)) (zbP:(Nat→List Int→Option (List Int))):Bool:=zwW P0 zaa Fuel iv1 pv1 zbO zbq zbr zbP
theorem zEr (hX0:zpw K zaa X0 P0 S0) (hs:zwY P0 zaa iv1 pv1 zbO zbq zbr zbP=true) (hk:K (e93 (zwX S0 zaa iv1 pv1 zbO zbq zbr zbP))):z93 K [1,1,1,0,1,0,0,1,0,0,1,1,0] [X0] (zBq zaa iv1 pv1 zbO zbq zbr zbP) :=
  zl (fun X=>z93 K [1,1,1,0,1,0,0,1,0,0,1,1,0,0] [X0,X]) (by kernel_rfl) fun X1 hX =>
  (show ∀ k, zsW K zaa X1 (zwW P0 zaa k) (zwV S0 zaa k) from zdJ _ _ (zwU P0 zaa) (zwT S0 zaa) (zsW K zaa X1)
 (by intro _ _ _ _ _ _ hs;exact absurd hs Bool.false_ne_true)
 (by intro P1 S1 hX1 iv1 pv1 zbO zbq zbr zbP hs hk;exact hX _ (zau (by kernel_rfl) (zat hs fun hc hs=>And.intro hc (zc hs hk (fun hs hk=>(zat hs fun hc hs=>And.intro hc (zEq hX0 hX1 hs hk))) (fun hs hk=>(hX0 hs hk))))))) _ hs hk
def zwZ (zaa:(Sl Gate)) (S0:Int→Nat→(Nat→Bool)→(Nat→Nat)→(Nat→List Int→Option (List Int))→(Sl Mp)) (iv0:Int) (zbH:Nat) (zbz:(Nat→Bool)) (zbA:(Nat→Nat)) (zbW:(Nat→List Int→Option (List Int))):(Sl Mp) :=
  (cond (decide (iv0 ≥ (0:Int)))
 (zwX S0 zaa iv0 ((zaa.get iv0.toNat).Low) zbH (zcR iv0.toNat true zbz) (zcR iv0.toNat 0 zbA) (zcR iv0.toNat (fun _=>none) zbW))
 (⟨zbH,(fun i=>(⟨zbA i,zbW i⟩:Mp))⟩:(Sl Mp)))
def zw0 (zaa:(Sl Gate)) (P0:Int→Nat→(Nat→Bool)→(Nat→Nat)→(Nat→List Int→Option (List Int))→Bool) (iv0:Int) (zbH:Nat) (zbz:(Nat→Bool)) (zbA:(Nat→Nat)) (zbW:(Nat→List Int→Option (List Int))):Bool :=
  (cond (decide (iv0 ≥ (0:Int)))
 (decide ((0≤iv0∧iv0 < (zbH:Int))) &&
 (decide ((iv0.toNat < zbH∧zbz iv0.toNat=false)) &&
 (decide ((0≤iv0∧iv0 < (zaa.len:Int))) &&
 (zwY P0 zaa iv0 ((zaa.get iv0.toNat).Low) zbH (zcR iv0.toNat true zbz) (zcR iv0.toNat 0 zbA) (zcR iv0.toNat (fun _=>none) zbW)))))
 true)
def zw1 (zaa:(Sl Gate)):Nat→Int→Nat→(Nat→Bool)→(Nat→Nat)→(Nat→List Int→Option (List Int))→(Sl Mp):=lpO (fun _ _ _ _ _=>default) (zwZ zaa)
def zw2 (zaa:(Sl Gate)):Nat→Int→Nat→(Nat→Bool)→(Nat→Nat)→(Nat→List Int→Option (List Int))→Bool:=lpO (fun _ _ _ _ _=>false) (zw0 zaa)
def zw3 (zaa:(Sl Gate)) (iv0:Int) (zbH:Nat) (zbz:(Nat→Bool)) (zbA:(Nat→Nat)) (zbW:(Nat→List Int→Option (List Int))):(Sl Mp):=zw1 zaa Fuel iv0 zbH zbz zbA zbW
def zw4 (zaa:(Sl Gate)) (iv0:Int) (zbH:Nat) (zbz:(Nat→Bool)) (zbA:(Nat→Nat)) (zbW:(Nat→List Int→Option (List Int))):Bool:=zw2 zaa Fuel iv0 zbH zbz zbA zbW
theorem zEs (hs:zw4 zaa iv0 zbH zbz zbA zbW=true) (hk:K (e93 (zw3 zaa iv0 zbH zbz zbA zbW))):z93 K [1,1,1,0,1,0] [] (zBp zaa iv0 zbH zbz zbA zbW) :=
  zl (fun X=>z93 K [1,1,1,0,1,0,0] [X]) (by kernel_rfl) fun X0 hX =>
  (show ∀ k, zpw K zaa X0 (zw2 zaa k) (zw1 zaa k) from zdJ _ _ (zw0 zaa) (zwZ zaa) (zpw K zaa X0)
 (by intro _ _ _ _ _ hs;exact absurd hs Bool.false_ne_true)
 (by intro P0 S0 hX0 iv0 zbH zbz zbA zbW hs hk;exact hX _ (zau (by kernel_rfl) (zc hs hk (fun hs hk=>(zat hs fun hc hs=>And.intro hc (zat hs fun hc hs=>And.intro hc (zat hs fun hc hs=>And.intro hc (zEr hX0 hs hk))))) (fun hs hk=>hk))))) _ hs hk
def s93 (zaa:(Sl Gate)):(Sl Mp) :=
  (zw3 zaa (w64 ((zaa.len:Int) - (2:Int))) ((w64 ((zaa.len:Int) - (1:Int))).toNat) (fun _=>false) (fun _=>0) (fun _ _=>none))
def p93 (zaa:(Sl Gate)):Bool :=
  (decide ((0≤(w64 ((zaa.len:Int) - (1:Int)))∧(w64 ((zaa.len:Int) - (1:Int)))=(w64 ((zaa.len:Int) - (1:Int)))∧(w64 ((zaa.len:Int) - (1:Int)))≤1000000)) &&
 (zw4 zaa (w64 ((zaa.len:Int) - (2:Int))) ((w64 ((zaa.len:Int) - (1:Int))).toNat) (fun _=>false) (fun _=>0) (fun _ _=>none)))
end
theorem q93 (zaa:(Sl Gate)) (K:List PA→Prop) (hs:p93 zaa=true) (hk:K (e93 (s93 zaa))):vcFun Try.prog G93 zEl 93 [.one (.sl zaa.len 3 (fun i=>enc_55 (zaa.get i)))] K :=
  zau (by kernel_rfl) (zat hs fun hc hs=>And.intro hc (zEs hs hk))
def zEt : List PA → COut
  | [.one (.sl a0_n a0_s a0_g)]=>.det (IsE enc_55 3 a0_s a0_g∧p93 (⟨a0_n,zad a0_g⟩:(Sl Gate))=true) [.one (.sl ((s93 (⟨a0_n,zad a0_g⟩:(Sl Gate))).len) 1 (fun i=>zcD ((s93 (⟨a0_n,zad a0_g⟩:(Sl Gate))).get i)))]
  | _=>.no
theorem zIw:zaf Try.prog 93:=⟨_,rfl,rfl,by kernel_rfl⟩
theorem zOc:Ok Try.prog 93 zEt:=zax zLs zIw fun args K h=>by
  unfold zEt at h
  split at h
  · rename_i a0_n a0_s a0_g
    obtain ⟨⟨⟨rfl,a0_f,rfl⟩,hs⟩,hk⟩:=h
    try rw [zac a0_f] at hs
    try rw [zac a0_f] at hk
    exact ⟨(fun _ _=>[]),(fun l=>Nat.beq l 15 || Nat.beq l 24),zEl,q93 (⟨a0_n,a0_f⟩:(Sl Gate)) K hs hk⟩
  · exact h.elim
def zMG (a b:Int):List Int:=(List.range (b - a+1).toNat).map fun (i:Nat)=>a+i
def znV (zaa:Sl Gate):List (List Int):=(zMG (zaa.get 0).Low (zaa.get 0).High).flatMap fun p=>(zMG (zaa.get 1).Low (zaa.get 1).High).map fun q=>[p,q]
abbrev T55:Tabs:=(((Tabs.nil.addF 85 zAa).addF 92 zEk).addF 93 zEt)
theorem zLt:TabsOk Try.prog T55:=(((TabsOk.nil.addF zMF).addF zOb).addF zOc)
abbrev G55:Ctrs:=csm T55 (fun _ _=>[]) (fun _=>false)
def zaQ:Ann:=⟨145,[(0,⟨[0],[],[],[],[],[],[]⟩),(1,⟨[0,18],[],[],[],[],[],[]⟩),(2,⟨[2,3,4],[],[],[],[],[],[]⟩),(3,⟨[0,5],[],[],[],[],[],[]⟩),(4,⟨[0,5,6],[],[],[],[],[],[]⟩),(5,⟨[0,5,6,24],[24],[],[],[],[],[]⟩),(6,⟨[0,5,6,24,26],[24],[],[],[],[],[]⟩),(7,⟨[0,5,6,8,24],[24],[],[],[],[],[]⟩),(8,⟨[0,5,6,8,24,35],[24],[],[],[],[],[]⟩),(9,⟨[0,5,6,24],[24],[],[],[],[],[]⟩),(10,⟨[0,5,6,9],[],[],[],[],[],[]⟩),(11,⟨[0,5,6,9,10],[],[],[],[],[],[]⟩),(12,⟨[0,5,6,9,10,46],[],[],[],[],[],[]⟩),(13,⟨[0,5,6,9,10],[],[],[],[],[],[]⟩),(14,⟨[0,5,6,9,10,11],[],[],[],[],[],[]⟩),(15,⟨[0,5,6,9,10,11,58],[],[],[],[],[],[]⟩),(16,⟨[0,5,6,9,10,11],[],[],[],[],[],[]⟩),(17,⟨[0,5,6,9,10,11,69],[],[],[],[],[],[]⟩),(18,⟨[0,5,6,9],[72],[],[],[],[],[]⟩),(19,⟨[0,5,6,9,12],[72],[],[],[],[],[]⟩),(20,⟨[0,5,6,9,12,76],[72],[],[],[],[],[]⟩),(21,⟨[0,5,6,9,12],[72],[],[],[],[],[]⟩),(22,⟨[0,5,6,9,12,13,14],[72],[],[],[],[],[]⟩),(23,⟨[0,5,6,9,12,13,14,15],[72],[],[],[],[],[]⟩),(24,⟨[0,5,6,9,12,13,14,15,100],[72],[],[],[],[],[]⟩),(25,⟨[0,5,6,9,12,13,14,15],[72],[],[],[],[],[]⟩),(26,⟨[0,5,6,9,12,13,14,15,138],[72],[],[],[],[],[]⟩),(27,⟨[0,5,6,9,12],[72],[],[],[],[],[]⟩),(28,⟨[2,3,4],[72],[],[],[],[],[]⟩)],
 [(6,⟨[0,5,6,24],[24],[],[],[],[],[]⟩),(12,⟨[0,5,6,9,10],[],[],[],[],[],[]⟩),(15,⟨[0,5,6,9,10,11],[],[],[],[],[],[]⟩),(20,⟨[0,5,6,9,12],[72],[],[],[],[],[]⟩),(24,⟨[0,5,6,9,12,13,14,15],[72],[],[],[],[],[]⟩)],
 [(2,⟨[0,18],[],[],[],[],[],[]⟩),(3,⟨[0],[],[],[],[],[],[]⟩),(4,⟨[0,5],[],[],[],[],[],[]⟩),(10,⟨[0,5,6],[],[],[],[],[],[]⟩),(19,⟨[0,5,6,9],[72],[(9,72,3,fun _=>enc_3 default)],[],[],[],[]⟩),(27,⟨[0,5,6,9,12,13,14,15,138],[72],[],[],[],[],[]⟩)],
 [],[]⟩
def zIx (zaa:(Sl Gate)) (zfT:Bool):St:=⟨[(0,.one (.c (.p (.sl zaa.len 3 (fun i=>enc_55 (zaa.get i)))))),(18,.one (.c (.p (.bool zfT))))],[],[]⟩
def zmo (K:List PA→Prop) (zaa:(Sl Gate)) (zfT:Bool):Prop:=vc Try.prog G55 zaQ (cdF Try.f55 [1,0,0,1]) (sqK Try.prog G55 zaQ (cdF Try.f55 [1,0,1]) (zb8 (zco Try.prog Try.f55 K))) (zIx zaa zfT)
def zIy (zaa:(Sl Gate)):St:=⟨[(0,.one (.c (.p (.sl zaa.len 3 (fun i=>enc_55 (zaa.get i))))))],[],[]⟩
def zmp (K:List PA→Prop) (zaa:(Sl Gate)):Prop:=vc Try.prog G55 zaQ (cdF Try.f55 [1,0,1]) (zb8 (zco Try.prog Try.f55 K)) (zIy zaa)
def zIz (zaa:(Sl Gate)) (zka:Nat) (zd5:Nat→List PV):St:=⟨[(0,.one (.c (.p (.sl zaa.len 3 (fun i=>enc_55 (zaa.get i)))))),(5,.one (.c (.p (.sl zka 1 zd5))))],[],[]⟩
def zmq (K:List PA→Prop) (zaa:(Sl Gate)) (zka:Nat) (zd5:Nat→List PV):Prop:=vc Try.prog G55 zaQ (cdF Try.f55 [1,0,1,1]) (zb8 (zco Try.prog Try.f55 K)) (zIz zaa zka zd5)
def zgA (zaa:(Sl Gate)) (zab:(Sl Mp)) (zbb:(List (List Int))) (zaA:Int):St:=⟨[(0,.one (.c (.p (.sl zaa.len 3 (fun i=>enc_55 (zaa.get i)))))),(5,.one (.c (.p (.sl zab.len 1 (fun i=>zcD (zab.get i)))))),(6,.one (.c (.p (.int .i64 zaA)))),(24,.one (.c (.ptr 24 0)))],[(24,.mit (true,2,false,[some .i64]) ((zab.get 0).n) ((zab.get 0).F) zbb)],[]⟩
def zkb (K:List PA→Prop) (zaa:(Sl Gate)) (zab:(Sl Mp)) (zbb:(List (List Int))) (zaA:Int):Prop:=vc Try.prog G55 zaQ (cdF Try.f55 [1,0,1,1,1,0,1,0]) (zaZ 0 (sqK Try.prog G55 zaQ (cdF Try.f55 [1,0,1,1,1,1]) (zb8 (zco Try.prog Try.f55 K)))) (zgA zaa zab zbb zaA)
def zIA (zaa:(Sl Gate)) (zab:(Sl Mp)) (zdd:Int):St:=⟨[(0,.one (.c (.p (.sl zaa.len 3 (fun i=>enc_55 (zaa.get i)))))),(5,.one (.c (.p (.sl zab.len 1 (fun i=>zcD (zab.get i)))))),(6,.one (.c (.p (.int .i64 zdd))))],[],[]⟩
def zmr (K:List PA→Prop) (zaa:(Sl Gate)) (zab:(Sl Mp)) (zdd:Int):Prop:=vc Try.prog G55 zaQ (cdF Try.f55 [1,0,1,1,1,1]) (zb8 (zco Try.prog Try.f55 K)) (zIA zaa zab zdd)
def ziE (zaa:(Sl Gate)) (zab:(Sl Mp)) (zaK:Int) (pv5:Int):St:=⟨[(0,.one (.c (.p (.sl zaa.len 3 (fun i=>enc_55 (zaa.get i)))))),(5,.one (.c (.p (.sl zab.len 1 (fun i=>zcD (zab.get i)))))),(6,.one (.c (.p (.int .i64 zaK)))),(9,.one (.c (.p (.nils)))),(10,.one (.c (.p (.int .i64 pv5))))],[],[]⟩
def zkc (K:List PA→Prop) (zaa:(Sl Gate)) (zab:(Sl Mp)) (zaK:Int) (pv5:Int):Prop:=vc Try.prog G55 zaQ (cdF Try.f55 [1,0,1,1,1,1,1,1,0,1,0]) (zaZ 2 (sqK Try.prog G55 zaQ (cdF Try.f55 [1,0,1,1,1,1,1,1,1]) (zb8 (zco Try.prog Try.f55 K)))) (ziE zaa zab zaK pv5)
def zkd (zaa:(Sl Gate)) (zab:(Sl Mp)) (zaG:Int) (pv6:Int) (qv6:Int):St:=⟨[(0,.one (.c (.p (.sl zaa.len 3 (fun i=>enc_55 (zaa.get i)))))),(5,.one (.c (.p (.sl zab.len 1 (fun i=>zcD (zab.get i)))))),(6,.one (.c (.p (.int .i64 zaG)))),(9,.one (.c (.p (.nils)))),(10,.one (.c (.p (.int .i64 pv6)))),(11,.one (.c (.p (.int .i64 qv6))))],[],[]⟩
def zke (K:List PA→Prop) (X5:St→Prop) (zaa:(Sl Gate)) (zab:(Sl Mp)) (zaG:Int) (pv6:Int) (qv6:Int):Prop:=vc Try.prog G55 zaQ (cdF Try.f55 [1,0,1,1,1,1,1,1,0,1,0,0,1,0,0,1,0]) (zaZ 4 (zaZ 3 (sqK Try.prog G55 zaQ (cdF Try.f55 [1,0,1,1,1,1,1,1,0,1,0,0,1,1]) (zdQ Try.prog zaQ 12 X5 (zaZ 2 (sqK Try.prog G55 zaQ (cdF Try.f55 [1,0,1,1,1,1,1,1,1]) (zb8 (zco Try.prog Try.f55 K)))))))) (zkd zaa zab zaG pv6 qv6)
def zIB (zaa:(Sl Gate)) (zab:(Sl Mp)) (zde:Int) (zpx:Nat) (zhv:Nat→List PV):St:=⟨[(0,.one (.c (.p (.sl zaa.len 3 (fun i=>enc_55 (zaa.get i)))))),(5,.one (.c (.p (.sl zab.len 1 (fun i=>zcD (zab.get i)))))),(6,.one (.c (.p (.int .i64 zde)))),(9,.one (.c (.vec 72)))],[(72,.vec 3 1 8 zpx zhv)],[]⟩
def zkf (K:List PA→Prop) (zaa:(Sl Gate)) (zab:(Sl Mp)) (zde:Int) (zpx:Nat) (zhv:Nat→List PV):Prop:=vc Try.prog G55 zaQ (cdF Try.f55 [1,0,1,1,1,1,1,1,1]) (zb8 (zco Try.prog Try.f55 K)) (zIB zaa zab zde zpx zhv)
def zfu (zaa:(Sl Gate)) (zab:(Sl Mp)) (zaI:Int) (iv8:Int) (zeW:Nat) (zbB:Nat→List PV):St:=⟨[(0,.one (.c (.p (.sl zaa.len 3 (fun i=>enc_55 (zaa.get i)))))),(5,.one (.c (.p (.sl zab.len 1 (fun i=>zcD (zab.get i)))))),(6,.one (.c (.p (.int .i64 zaI)))),(9,.one (.c (.vec 72))),(12,.one (.c (.p (.int .i64 iv8))))],[(72,.vec 3 1 8 zeW zbB)],[]⟩
def zkg (K:List PA→Prop) (zaa:(Sl Gate)) (zab:(Sl Mp)) (zaI:Int) (iv8:Int) (zeW:Nat) (zbB:Nat→List PV):Prop:=vc Try.prog G55 zaQ (cdF Try.f55 [1,0,1,1,1,1,1,1,1,0,1,0]) (zaZ 6 (sqK Try.prog G55 zaQ (cdF Try.f55 [1,0,1,1,1,1,1,1,1,1]) (zb8 (zco Try.prog Try.f55 K)))) (zfu zaa zab zaI iv8 zeW zbB)
def ziF (zaa:(Sl Gate)) (zab:(Sl Mp)) (zay:Int) (iv9:Int) (pv9:Int) (qv9:Int) (rv9:Int) (zeX:Nat) (zbI:Nat→List PV):St:=⟨[(0,.one (.c (.p (.sl zaa.len 3 (fun i=>enc_55 (zaa.get i)))))),(5,.one (.c (.p (.sl zab.len 1 (fun i=>zcD (zab.get i)))))),(6,.one (.c (.p (.int .i64 zay)))),(9,.one (.c (.vec 72))),(12,.one (.c (.p (.int .i64 iv9)))),(13,.one (.c (.p (.int .i64 pv9)))),(14,.one (.c (.p (.int .i64 qv9)))),(15,.one (.c (.p (.int .i64 rv9))))],[(72,.vec 3 1 8 zeX zbI)],[]⟩
def zkh (K:List PA→Prop) (X8:St→Prop) (zaa:(Sl Gate)) (zab:(Sl Mp)) (zay:Int) (iv9:Int) (pv9:Int) (qv9:Int) (rv9:Int) (zeX:Nat) (zbI:Nat→List PV):Prop:=vc Try.prog G55 zaQ (cdF Try.f55 [1,0,1,1,1,1,1,1,1,0,1,0,0,1,0,0,1,1,0]) (zaZ 8 (zaZ 7 (sqK Try.prog G55 zaQ (cdF Try.f55 [1,0,1,1,1,1,1,1,1,0,1,0,0,1,1]) (zdQ Try.prog zaQ 20 X8 (zaZ 6 (sqK Try.prog G55 zaQ (cdF Try.f55 [1,0,1,1,1,1,1,1,1,1]) (zb8 (zco Try.prog Try.f55 K)))))))) (ziF zaa zab zay iv9 pv9 qv9 rv9 zeX zbI)
def zEu (zaa:(Sl Gate)) (zab:(Sl Mp)) (zbQ:Int) (zgH:Int) (zn5:Int) (zn6:Int) (zkI:Int) (zct:Bool) (zms:Nat) (zfg:Nat→List PV):St:=⟨[(0,.one (.c (.p (.sl zaa.len 3 (fun i=>enc_55 (zaa.get i)))))),(5,.one (.c (.p (.sl zab.len 1 (fun i=>zcD (zab.get i)))))),(6,.one (.c (.p (.int .i64 zbQ)))),(9,.one (.c (.vec 72))),(12,.one (.c (.p (.int .i64 zgH)))),(13,.one (.c (.p (.int .i64 zn5)))),(14,.one (.c (.p (.int .i64 zn6)))),(15,.one (.c (.p (.int .i64 zkI)))),(138,.one (.c (.p (.bool zct))))],[(72,.vec 3 1 8 zms zfg)],[]⟩
def zgB (K:List PA→Prop) (X8:St→Prop) (X9:St→Prop) (zaa:(Sl Gate)) (zab:(Sl Mp)) (zbQ:Int) (zgH:Int) (zn5:Int) (zn6:Int) (zkI:Int) (zct:Bool) (zms:Nat) (zfg:Nat→List PV):Prop:=vc Try.prog G55 zaQ (cdF Try.f55 [1,0,1,1,1,1,1,1,1,0,1,0,0,1,0,0,1,1,0,0,1,0,0,1]) (zaZ 9 (sqK Try.prog G55 zaQ (cdF Try.f55 [1,0,1,1,1,1,1,1,1,0,1,0,0,1,0,0,1,1,0,0,1,1]) (zdQ Try.prog zaQ 24 X9 (zaZ 8 (zaZ 7 (sqK Try.prog G55 zaQ (cdF Try.f55 [1,0,1,1,1,1,1,1,1,0,1,0,0,1,1]) (zdQ Try.prog zaQ 20 X8 (zaZ 6 (sqK Try.prog G55 zaQ (cdF Try.f55 [1,0,1,1,1,1,1,1,1,1]) (zb8 (zco Try.prog Try.f55 K))))))))))) (zEu zaa zab zbQ zgH zn5 zn6 zkI zct zms zfg)
theorem zEv (zaa : (Sl Gate)) (K : List PA → Prop) :
  vcFun Try.prog G55 zaQ 55 [.one (.sl zaa.len 3 (fun i=>enc_55 (zaa.get i)))] K =
  ((IsE enc_55 3 3 (fun i=>enc_55 (zaa.get i))∧(p92 zaa=true)) ∧
 (zmo K zaa (!(s92 zaa)))):=by kernel_rfl
theorem zEw (K : List PA → Prop) (zaa : (Sl Gate)) (zfT : Bool) :
  zmo K zaa zfT =
  (zcY zfT
 (K [.one (.nils),.one (.int .i64 (0:Int)),.one (.int .i64 (2:Int))])
 (zmp K zaa)):=by kernel_rfl
theorem zEx (K : List PA → Prop) (zaa : (Sl Gate)) :
  zmp K zaa =
  ((IsE enc_55 3 3 (fun i=>enc_55 (zaa.get i))∧(p93 zaa=true)) ∧
 (zmq K zaa ((s93 zaa).len) (fun i=>zcD ((s93 zaa).get i)))):=by kernel_rfl
theorem zEy (K : List PA → Prop) (zaa : (Sl Gate)) (zab : (Sl Mp)) :
  zmq K zaa zab.len (fun i=>zcD (zab.get i)) =
  (((0≤(0:Int)∧(0:Int) < (zab.len:Int))) ∧
 (zkb K zaa zab ([]) (-1:Int))):=by kernel_rfl
def znW (K:List PA→Prop) (X3:St→Prop) (zaa:(Sl Gate)) (zab:(Sl Mp)) (zbb:(List (List Int))) (zaA:Int):Prop :=
  (zGA 2 ((zab.get 0).n) ((zab.get 0).F) →
 ((∀ c:List Int,c.length=2→((zab.get 0).F) c ≠ none→c∈zbb) →
 (zmr K zaa zab zaA))∧∀ k24_0 k24_1:Int,((zab.get 0).F) [k24_0,k24_1] ≠ none→[k24_0,k24_1] ∉ zbb →
 (zcY (decide (zaA < (0:Int)))
 (X3 (zgA zaa zab ([k24_0,k24_1] :: zbb) (zdL (((zab.get 0).F) [k24_0,k24_1]) 0)))
 (zcY (decide ((zdL (((zab.get 0).F) [k24_0, k24_1]) 0) < zaA))
 (X3 (zgA zaa zab ([k24_0,k24_1] :: zbb) (zdL (((zab.get 0).F) [k24_0,k24_1]) 0)))
 (X3 (zgA zaa zab ([k24_0,k24_1] :: zbb) zaA)))))
theorem zpy (K : List PA → Prop) (X3 : St → Prop) (zaa : (Sl Gate)) (zab : (Sl Mp)) (zbb : (List (List Int))) (zaA : Int) :
  vc Try.prog G55 zaQ (cd (cdF Try.f55 [1,0,1,1,1,0,1,0]) [0]) (zdQ Try.prog zaQ 6 X3 (zaZ 0 (sqK Try.prog G55 zaQ (cdF Try.f55 [1,0,1,1,1,1]) (zb8 (zco Try.prog Try.f55 K))))) (zgA zaa zab zbb zaA) =
  znW K X3 zaa zab zbb zaA:=by kernel_rfl
theorem zw5 (K : List PA → Prop) (zaa : (Sl Gate)) (zab : (Sl Mp)) (zbb : (List (List Int))) (zaA : Int)
  (h:∀ X3:St→Prop,(∀ (zbb:(List (List Int))) (zaA:Int),znW K X3 zaa zab zbb zaA→X3 (zgA zaa zab zbb zaA))→X3 (zgA zaa zab zbb zaA)) :
  zkb K zaa zab zbb zaA:=by
  have e:zkb K zaa zab zbb zaA=(∀ X:St→Prop,(∀ s,vc Try.prog G55 zaQ (cd (cdF Try.f55 [1,0,1,1,1,0,1,0]) [0]) (zdQ Try.prog zaQ 6 X (zaZ 0 (sqK Try.prog G55 zaQ (cdF Try.f55 [1,0,1,1,1,1]) (zb8 (zco Try.prog Try.f55 K))))) s→X s)→X (zgA zaa zab zbb zaA)):=by kernel_rfl
  refine zau e ?_
  intro X hX
  refine h X ?_
  intro zbb zaA hs
  refine hX _ ?_
  have e2:=zpy K X zaa zab zbb zaA
  rw [e2]
  exact hs
theorem zEz (K : List PA → Prop) (zaa : (Sl Gate)) (zab : (Sl Mp)) (zdd : Int) :
  zmr K zaa zab zdd =
  (((0≤(0:Int)∧(0:Int) < (zaa.len:Int))) ∧
 (zkc K zaa zab zdd ((zaa.get 0).Low))):=by kernel_rfl
def znX (K:List PA→Prop) (X5:St→Prop) (zaa:(Sl Gate)) (zab:(Sl Mp)) (zaK:Int) (pv5:Int):Prop :=
  (((0≤(0:Int)∧(0:Int) < (zaa.len:Int))) ∧
 (zcY (decide (pv5 ≤ (zaa.get 0).High))
 (((0≤(1:Int)∧(1:Int) < (zaa.len:Int))) ∧
 (zke K X5 zaa zab zaK pv5 ((zaa.get 1).Low)))
 (zkf K zaa zab zaK 0 (fun i=>enc_3 ((fun _=>default) i)))))
theorem zpz (K : List PA → Prop) (X5 : St → Prop) (zaa : (Sl Gate)) (zab : (Sl Mp)) (zaK : Int) (pv5 : Int) :
  vc Try.prog G55 zaQ (cd (cdF Try.f55 [1,0,1,1,1,1,1,1,0,1,0]) [0]) (zdQ Try.prog zaQ 12 X5 (zaZ 2 (sqK Try.prog G55 zaQ (cdF Try.f55 [1,0,1,1,1,1,1,1,1]) (zb8 (zco Try.prog Try.f55 K))))) (ziE zaa zab zaK pv5) =
  znX K X5 zaa zab zaK pv5:=by kernel_rfl
theorem zw6 (K : List PA → Prop) (zaa : (Sl Gate)) (zab : (Sl Mp)) (zaK : Int) (pv5 : Int)
  (h:∀ X5:St→Prop,(∀ (zaK:Int) (pv5:Int),znX K X5 zaa zab zaK pv5→X5 (ziE zaa zab zaK pv5))→X5 (ziE zaa zab zaK pv5)) :
  zkc K zaa zab zaK pv5:=by
  have e:zkc K zaa zab zaK pv5=(∀ X:St→Prop,(∀ s,vc Try.prog G55 zaQ (cd (cdF Try.f55 [1,0,1,1,1,1,1,1,0,1,0]) [0]) (zdQ Try.prog zaQ 12 X (zaZ 2 (sqK Try.prog G55 zaQ (cdF Try.f55 [1,0,1,1,1,1,1,1,1]) (zb8 (zco Try.prog Try.f55 K))))) s→X s)→X (ziE zaa zab zaK pv5)):=by kernel_rfl
  refine zau e ?_
  intro X hX
  refine h X ?_
  intro zaK pv5 hs
  refine hX _ ?_
  have e2:=zpz K X zaa zab zaK pv5
  rw [e2]
  exact hs
def znY (K:List PA→Prop) (X5:St→Prop) (X6:St→Prop) (zaa:(Sl Gate)) (zab:(Sl Mp)) (zaG:Int) (pv6:Int) (qv6:Int):Prop :=
  (((0≤(1:Int)∧(1:Int) < (zaa.len:Int))) ∧
 (zcY (decide (qv6 ≤ (zaa.get 1).High))
 (((0≤(0:Int)∧(0:Int) < (zab.len:Int))) ∧
 (zcY ((zdL (((zab.get 0).F) [pv6, qv6]) 0) == zaG)
 (zkf K zaa zab zaG 2 (zcj [(enc_3 pv6),(enc_3 qv6)]))
 (X6 (zkd zaa zab zaG pv6 (w64 (qv6+(1:Int)))))))
 (X5 (ziE zaa zab zaG (w64 (pv6+(1:Int)))))))
theorem zpA (K : List PA → Prop) (X5 : St → Prop) (X6 : St → Prop) (zaa : (Sl Gate)) (zab : (Sl Mp)) (zaG : Int) (pv6 : Int) (qv6 : Int) :
  vc Try.prog G55 zaQ (cd (cdF Try.f55 [1,0,1,1,1,1,1,1,0,1,0,0,1,0,0,1,0]) [0]) (zdQ Try.prog zaQ 15 X6 (zaZ 4 (zaZ 3 (sqK Try.prog G55 zaQ (cdF Try.f55 [1,0,1,1,1,1,1,1,0,1,0,0,1,1]) (zdQ Try.prog zaQ 12 X5 (zaZ 2 (sqK Try.prog G55 zaQ (cdF Try.f55 [1,0,1,1,1,1,1,1,1]) (zb8 (zco Try.prog Try.f55 K))))))))) (zkd zaa zab zaG pv6 qv6) =
  znY K X5 X6 zaa zab zaG pv6 qv6:=by kernel_rfl
theorem zw7 (K : List PA → Prop) (X5 : St → Prop) (zaa : (Sl Gate)) (zab : (Sl Mp)) (zaG : Int) (pv6 : Int) (qv6 : Int)
  (h:∀ X6:St→Prop,(∀ (zaG:Int) (pv6:Int) (qv6:Int),znY K X5 X6 zaa zab zaG pv6 qv6→X6 (zkd zaa zab zaG pv6 qv6))→X6 (zkd zaa zab zaG pv6 qv6)) :
  zke K X5 zaa zab zaG pv6 qv6:=by
  have e:zke K X5 zaa zab zaG pv6 qv6=(∀ X:St→Prop,(∀ s,vc Try.prog G55 zaQ (cd (cdF Try.f55 [1,0,1,1,1,1,1,1,0,1,0,0,1,0,0,1,0]) [0]) (zdQ Try.prog zaQ 15 X (zaZ 4 (zaZ 3 (sqK Try.prog G55 zaQ (cdF Try.f55 [1,0,1,1,1,1,1,1,0,1,0,0,1,1]) (zdQ Try.prog zaQ 12 X5 (zaZ 2 (sqK Try.prog G55 zaQ (cdF Try.f55 [1,0,1,1,1,1,1,1,1]) (zb8 (zco Try.prog Try.f55 K))))))))) s→X s)→X (zkd zaa zab zaG pv6 qv6)):=by kernel_rfl
  refine zau e ?_
  intro X hX
  refine h X ?_
  intro zaG pv6 qv6 hs
  refine hX _ ?_
  have e2:=zpA K X5 X zaa zab zaG pv6 qv6
  rw [e2]
  exact hs
theorem zEA (K : List PA → Prop) (zaa : (Sl Gate)) (zab : (Sl Mp)) (zde : Int) (zfo : (Sl Int)) :
  zkf K zaa zab zde zfo.len (fun i=>enc_3 (zfo.get i)) =
  (zkg K zaa zab zde (2:Int) zfo.len (fun i=>enc_3 (zfo.get i))):=by kernel_rfl
def znZ (K:List PA→Prop) (X8:St→Prop) (zaa:(Sl Gate)) (zab:(Sl Mp)) (zaI:Int) (iv8:Int) (zaP:(Sl Int)):Prop :=
  (zcY (decide (iv8 < (zaa.len : Int)))
 (((0≤(w64 (iv8 - (2:Int)))∧(w64 (iv8 - (2:Int))) < (zaP.len:Int))) ∧
 ((((w64 (iv8 - (2:Int))).toNat < zaP.len)) ∧
 (((0≤(w64 (iv8 - (1:Int)))∧(w64 (iv8 - (1:Int))) < (zaP.len:Int))) ∧
 ((((w64 (iv8 - (1:Int))).toNat < zaP.len)) ∧
 (((0≤iv8∧iv8 < (zaa.len:Int))) ∧
 (zkh K X8 zaa zab zaI iv8 (zaP.get ((w64 (iv8 - (2:Int))).toNat)) (zaP.get ((w64 (iv8 - (1:Int))).toNat)) ((zaa.get iv8.toNat).Low) zaP.len (fun i=>enc_3 (zaP.get i))))))))
 (K [.one (.sl zaP.len 1 (fun i=>enc_3 (zaP.get i))),.one (.int .i64 zaI),.one (.int .i64 (0:Int))]))
theorem zpB (K : List PA → Prop) (X8 : St → Prop) (zaa : (Sl Gate)) (zab : (Sl Mp)) (zaI : Int) (iv8 : Int) (zaP : (Sl Int)) :
  vc Try.prog G55 zaQ (cd (cdF Try.f55 [1,0,1,1,1,1,1,1,1,0,1,0]) [0]) (zdQ Try.prog zaQ 20 X8 (zaZ 6 (sqK Try.prog G55 zaQ (cdF Try.f55 [1,0,1,1,1,1,1,1,1,1]) (zb8 (zco Try.prog Try.f55 K))))) (zfu zaa zab zaI iv8 zaP.len (fun i=>enc_3 (zaP.get i))) =
  znZ K X8 zaa zab zaI iv8 zaP:=by kernel_rfl
theorem zw8 (K : List PA → Prop) (zaa : (Sl Gate)) (zab : (Sl Mp)) (zaI : Int) (iv8 : Int) (zeW : Nat) (zbB : Nat → List PV)
  (h:∀ X8:St→Prop,(∀ (zaI:Int) (iv8:Int) (zaP:(Sl Int)),znZ K X8 zaa zab zaI iv8 zaP→X8 (zfu zaa zab zaI iv8 zaP.len (fun i=>enc_3 (zaP.get i))))→X8 (zfu zaa zab zaI iv8 zeW zbB)) :
  zkg K zaa zab zaI iv8 zeW zbB:=by
  have e:zkg K zaa zab zaI iv8 zeW zbB=(∀ X:St→Prop,(∀ s,vc Try.prog G55 zaQ (cd (cdF Try.f55 [1,0,1,1,1,1,1,1,1,0,1,0]) [0]) (zdQ Try.prog zaQ 20 X (zaZ 6 (sqK Try.prog G55 zaQ (cdF Try.f55 [1,0,1,1,1,1,1,1,1,1]) (zb8 (zco Try.prog Try.f55 K))))) s→X s)→X (zfu zaa zab zaI iv8 zeW zbB)):=by kernel_rfl
  refine zau e ?_
  intro X hX
  refine h X ?_
  intro zaI iv8 zaP hs
  refine hX _ ?_
  have e2:=zpB K X zaa zab zaI iv8 zaP
  rw [e2]
  exact hs
def zn0 (K:List PA→Prop) (X8:St→Prop) (X9:St→Prop) (zaa:(Sl Gate)) (zab:(Sl Mp)) (zay:Int) (iv9:Int) (pv9:Int) (qv9:Int) (rv9:Int) (zbd:(Sl Int)):Prop :=
  (((0≤iv9∧iv9 < (zaa.len:Int))) ∧
 (zcY (decide (rv9 ≤ (zaa.get iv9.toNat).High))
 (((0≤(w64 (iv9 - (2:Int)))∧(w64 (iv9 - (2:Int))) < (zaa.len:Int))) ∧
 (((0≤(w64 (iv9 - (1:Int)))∧(w64 (iv9 - (1:Int))) < (zaa.len:Int))) ∧
 (((0≤iv9∧iv9 < (zaa.len:Int))) ∧
 (((p85 ((zaa.get ((w64 (iv9 - (2:Int))).toNat)).Z) ((zaa.get ((w64 (iv9 - (1:Int))).toNat)).Z) ((zaa.get iv9.toNat).Z) pv9 qv9 rv9=true)) ∧
 (zcY (decide ((s85 ((zaa.get ((w64 (iv9 - (2:Int))).toNat)).Z) ((zaa.get ((w64 (iv9 - (1:Int))).toNat)).Z) ((zaa.get iv9.toNat).Z) pv9 qv9 rv9) ≤ zay))
 (((0≤(w64 (iv9 - (1:Int)))∧(w64 (iv9 - (1:Int))) < (zab.len:Int))) ∧
 (zgB K X8 X9 zaa zab zay iv9 pv9 qv9 rv9 (decide ((zdL (((zab.get ((w64 (iv9 - (1:Int))).toNat)).F) [qv9,rv9]) 0)≤zay)) zbd.len (fun i=>enc_3 (zbd.get i))))
 (zgB K X8 X9 zaa zab zay iv9 pv9 qv9 rv9 false zbd.len (fun i=>enc_3 (zbd.get i))))))))
 (X8 (zfu zaa zab zay (w64 (iv9+(1:Int))) zbd.len (fun i=>enc_3 (zbd.get i))))))
theorem zpC (K : List PA → Prop) (X8 : St → Prop) (X9 : St → Prop) (zaa : (Sl Gate)) (zab : (Sl Mp)) (zay : Int) (iv9 : Int) (pv9 : Int) (qv9 : Int) (rv9 : Int) (zbd : (Sl Int)) :
  vc Try.prog G55 zaQ (cd (cdF Try.f55 [1,0,1,1,1,1,1,1,1,0,1,0,0,1,0,0,1,1,0]) [0]) (zdQ Try.prog zaQ 24 X9 (zaZ 8 (zaZ 7 (sqK Try.prog G55 zaQ (cdF Try.f55 [1,0,1,1,1,1,1,1,1,0,1,0,0,1,1]) (zdQ Try.prog zaQ 20 X8 (zaZ 6 (sqK Try.prog G55 zaQ (cdF Try.f55 [1,0,1,1,1,1,1,1,1,1]) (zb8 (zco Try.prog Try.f55 K))))))))) (ziF zaa zab zay iv9 pv9 qv9 rv9 zbd.len (fun i=>enc_3 (zbd.get i))) =
  zn0 K X8 X9 zaa zab zay iv9 pv9 qv9 rv9 zbd:=by kernel_rfl
theorem zw9 (K : List PA → Prop) (X8 : St → Prop) (zaa : (Sl Gate)) (zab : (Sl Mp)) (zay : Int) (iv9 : Int) (pv9 : Int) (qv9 : Int) (rv9 : Int) (zeX : Nat) (zbI : Nat → List PV)
  (h:∀ X9:St→Prop,(∀ (zay:Int) (iv9:Int) (pv9:Int) (qv9:Int) (rv9:Int) (zbd:(Sl Int)),zn0 K X8 X9 zaa zab zay iv9 pv9 qv9 rv9 zbd→X9 (ziF zaa zab zay iv9 pv9 qv9 rv9 zbd.len (fun i=>enc_3 (zbd.get i))))→X9 (ziF zaa zab zay iv9 pv9 qv9 rv9 zeX zbI)) :
  zkh K X8 zaa zab zay iv9 pv9 qv9 rv9 zeX zbI:=by
  have e:zkh K X8 zaa zab zay iv9 pv9 qv9 rv9 zeX zbI=(∀ X:St→Prop,(∀ s,vc Try.prog G55 zaQ (cd (cdF Try.f55 [1,0,1,1,1,1,1,1,1,0,1,0,0,1,0,0,1,1,0]) [0]) (zdQ Try.prog zaQ 24 X (zaZ 8 (zaZ 7 (sqK Try.prog G55 zaQ (cdF Try.f55 [1,0,1,1,1,1,1,1,1,0,1,0,0,1,1]) (zdQ Try.prog zaQ 20 X8 (zaZ 6 (sqK Try.prog G55 zaQ (cdF Try.f55 [1,0,1,1,1,1,1,1,1,1]) (zb8 (zco Try.prog Try.f55 K))))))))) s→X s)→X (ziF zaa zab zay iv9 pv9 qv9 rv9 zeX zbI)):=by kernel_rfl
  refine zau e ?_
  intro X hX
  refine h X ?_
  intro zay iv9 pv9 qv9 rv9 zbd hs
  refine hX _ ?_
  have e2:=zpC K X8 X zaa zab zay iv9 pv9 qv9 rv9 zbd
  rw [e2]
  exact hs
theorem zAb (K : List PA → Prop) (X8 : St → Prop) (X9 : St → Prop) (zaa : (Sl Gate)) (zab : (Sl Mp)) (zbQ : Int) (zgH : Int) (zn5 : Int) (zn6 : Int) (zkI : Int) (zct : Bool) (zbl : (Sl Int)) :
  zgB K X8 X9 zaa zab zbQ zgH zn5 zn6 zkI zct zbl.len (fun i=>enc_3 (zbl.get i)) =
  (zcY zct
 ((((zbl.len+1) * 8≤140737488355328∧zbl.len+1≤9223372036854775807)) ∧
 (X8 (zfu zaa zab zbQ (w64 (zgH+(1:Int))) (zbl.len+1) (appG zbl.len (fun i=>enc_3 (zbl.get i)) (fun _=>(enc_3 zkI))))))
 (X9 (ziF zaa zab zbQ zgH zn5 zn6 (w64 (zkI+(1:Int))) zbl.len (fun i=>enc_3 (zbl.get i))))):=by kernel_rfl
abbrev e55 (r:((Sl Int)×Int×Int)):List PA:=[.one (.sl r.1.len 1 (fun i=>enc_3 (r.1.get i))),.one (.int .i64 r.2.1),.one (.int .i64 r.2.2)]
attribute [irreducible] zmo zmp zmq zkb zmr zkc zke zkf zkg zkh zgB
def zi7 (S8:Int→Int→(Sl Int)→((Sl Int)×Int×Int)) (S9:Int→Int→Int→Int→Int→(Sl Int)→((Sl Int)×Int×Int)) (zaa:(Sl Gate)) (zab:(Sl Mp)) (zbQ:Int) (zgH:Int) (zn5:Int) (zn6:Int) (zkI:Int) (zct:Bool) (zbl:(Sl Int)):((Sl Int)×Int×Int) :=
  (cond zct
 (S8 zbQ (w64 (zgH+(1:Int))) (⟨(zbl.len+1),(zdi zbl.len zbl.get (fun _=>zkI))⟩:Sl Int))
 (S9 zbQ zgH zn5 zn6 (w64 (zkI+(1:Int))) zbl))
def zi8 (P8:Int→Int→(Sl Int)→Bool) (P9:Int→Int→Int→Int→Int→(Sl Int)→Bool) (zaa:(Sl Gate)) (zab:(Sl Mp)) (zbQ:Int) (zgH:Int) (zn5:Int) (zn6:Int) (zkI:Int) (zct:Bool) (zbl:(Sl Int)):Bool :=
  (cond zct
 (decide (((zbl.len+1) * 8≤140737488355328∧zbl.len+1≤9223372036854775807)) &&
 (P8 zbQ (w64 (zgH+(1:Int))) (⟨(zbl.len+1),(zdi zbl.len zbl.get (fun _=>zkI))⟩:Sl Int)))
 (P9 zbQ zgH zn5 zn6 (w64 (zkI+(1:Int))) zbl))
theorem zr0 (K : List PA → Prop) (zaa : (Sl Gate)) (zab : (Sl Mp))
  (X8:St→Prop) (P8:Int→Int→(Sl Int)→Bool) (S8:Int→Int→(Sl Int)→((Sl Int)×Int×Int))
  (hX8:∀ (zaI:Int) (iv8:Int) (zaP:(Sl Int)) (zbB:Nat→List PV) (zfU:zbB=fun i=>enc_3 (zaP.get i)),P8 zaI iv8 zaP=true→K (e55 (S8 zaI iv8 zaP))→X8 (zfu zaa zab zaI iv8 zaP.len zbB))
  (X9:St→Prop) (P9:Int→Int→Int→Int→Int→(Sl Int)→Bool) (S9:Int→Int→Int→Int→Int→(Sl Int)→((Sl Int)×Int×Int))
  (hX9:∀ (zay:Int) (iv9:Int) (pv9:Int) (qv9:Int) (rv9:Int) (zbd:(Sl Int)) (zbI:Nat→List PV) (zhw:zbI=fun i=>enc_3 (zbd.get i)),P9 zay iv9 pv9 qv9 rv9 zbd=true→K (e55 (S9 zay iv9 pv9 qv9 rv9 zbd))→X9 (ziF zaa zab zay iv9 pv9 qv9 rv9 zbd.len zbI)) (zbQ:Int) (zgH:Int) (zn5:Int) (zn6:Int) (zkI:Int) (zct:Bool) (zbl:(Sl Int)) (zfg:Nat→List PV) (zAc:zfg=fun i=>enc_3 (zbl.get i)) (hs:zi8 P8 P9 zaa zab zbQ zgH zn5 zn6 zkI zct zbl=true) (hk:K (e55 (zi7 S8 S9 zaa zab zbQ zgH zn5 zn6 zkI zct zbl))):zgB (Wk K) X8 X9 zaa zab zbQ zgH zn5 zn6 zkI zct zbl.len zfg:=by
  subst zAc
  refine zau (zAb (Wk K) X8 X9 zaa zab zbQ zgH zn5 zn6 zkI zct zbl) ?_
  unfold zi8 at hs
  unfold zi7 at hk
  exact (zcg (K := fun r => K (e55 r))
 (fun hs hk=>(zat hs fun hc hs=>⟨hc,(hX8 zbQ (w64 (zgH+(1:Int))) (⟨(zbl.len+1),(zdi zbl.len zbl.get (fun _=>zkI))⟩:Sl Int) (appG zbl.len (fun i=>enc_3 (zbl.get i)) (fun _=>(enc_3 zkI))) (zd2 (enc:=enc_3) (f:=zbl.get) (h:=(fun _=>zkI)) rfl rfl) hs hk)⟩))
 (fun hs hk=>(hX9 zbQ zgH zn5 zn6 (w64 (zkI+(1:Int))) zbl (fun i=>enc_3 (zbl.get i)) rfl hs hk)) hs hk)
def zpD (S8:Int→Int→(Sl Int)→((Sl Int)×Int×Int)) (zaa:(Sl Gate)) (zab:(Sl Mp)) (S9:Int→Int→Int→Int→Int→(Sl Int)→((Sl Int)×Int×Int)) (zay:Int) (iv9:Int) (pv9:Int) (qv9:Int) (rv9:Int) (zbd:(Sl Int)):((Sl Int)×Int×Int) :=
  (cond (decide (rv9 ≤ (zaa.get iv9.toNat).High))
 (cond (decide ((s85 ((zaa.get ((w64 (iv9 - (2:Int))).toNat)).Z) ((zaa.get ((w64 (iv9 - (1:Int))).toNat)).Z) ((zaa.get iv9.toNat).Z) pv9 qv9 rv9) ≤ zay))
 (zi7 S8 S9 zaa zab zay iv9 pv9 qv9 rv9 (decide ((zdL (((zab.get ((w64 (iv9 - (1:Int))).toNat)).F) [qv9,rv9]) 0)≤zay)) zbd)
 (zi7 S8 S9 zaa zab zay iv9 pv9 qv9 rv9 false zbd))
 (S8 zay (w64 (iv9+(1:Int))) zbd))
def zpE (P8:Int→Int→(Sl Int)→Bool) (zaa:(Sl Gate)) (zab:(Sl Mp)) (P9:Int→Int→Int→Int→Int→(Sl Int)→Bool) (zay:Int) (iv9:Int) (pv9:Int) (qv9:Int) (rv9:Int) (zbd:(Sl Int)):Bool :=
  (decide ((0≤iv9∧iv9 < (zaa.len:Int))) &&
 (cond (decide (rv9 ≤ (zaa.get iv9.toNat).High))
 (decide ((0≤(w64 (iv9 - (2:Int)))∧(w64 (iv9 - (2:Int))) < (zaa.len:Int))) &&
 (decide ((0≤(w64 (iv9 - (1:Int)))∧(w64 (iv9 - (1:Int))) < (zaa.len:Int))) &&
 (decide ((0≤iv9∧iv9 < (zaa.len:Int))) &&
 (decide ((p85 ((zaa.get ((w64 (iv9 - (2:Int))).toNat)).Z) ((zaa.get ((w64 (iv9 - (1:Int))).toNat)).Z) ((zaa.get iv9.toNat).Z) pv9 qv9 rv9=true)) &&
 (cond (decide ((s85 ((zaa.get ((w64 (iv9 - (2:Int))).toNat)).Z) ((zaa.get ((w64 (iv9 - (1:Int))).toNat)).Z) ((zaa.get iv9.toNat).Z) pv9 qv9 rv9) ≤ zay))
 (decide ((0≤(w64 (iv9 - (1:Int)))∧(w64 (iv9 - (1:Int))) < (zab.len:Int))) &&
 (zi8 P8 P9 zaa zab zay iv9 pv9 qv9 rv9 (decide ((zdL (((zab.get ((w64 (iv9 - (1:Int))).toNat)).F) [qv9,rv9]) 0)≤zay)) zbd))
 (zi8 P8 P9 zaa zab zay iv9 pv9 qv9 rv9 false zbd))))))
 (P8 zay (w64 (iv9+(1:Int))) zbd)))
def zki (S8 : Int → Int → (Sl Int) → ((Sl Int) × Int × Int)) (zaa : (Sl Gate)) (zab : (Sl Mp)) : Nat → Int → Int → Int → Int → Int → (Sl Int) → ((Sl Int) × Int × Int)
  | 0=>fun _ _ _ _ _ _=>default
  | k+1=>zpD S8 zaa zab (zki S8 zaa zab k)
def zkj (P8 : Int → Int → (Sl Int) → Bool) (zaa : (Sl Gate)) (zab : (Sl Mp)) : Nat → Int → Int → Int → Int → Int → (Sl Int) → Bool
  | 0=>fun _ _ _ _ _ _=>false
  | k+1=>zpE P8 zaa zab (zkj P8 zaa zab k)
def zxa (S8:Int→Int→(Sl Int)→((Sl Int)×Int×Int)) (zaa:(Sl Gate)) (zab:(Sl Mp)) (zay:Int) (iv9:Int) (pv9:Int) (qv9:Int) (rv9:Int) (zbd:(Sl Int)):((Sl Int)×Int×Int):=zki S8 zaa zab Fuel zay iv9 pv9 qv9 rv9 zbd
def zxb (P8:Int→Int→(Sl Int)→Bool) (zaa:(Sl Gate)) (zab:(Sl Mp)) (zay:Int) (iv9:Int) (pv9:Int) (qv9:Int) (rv9:Int) (zbd:(Sl Int)):Bool:=zkj P8 zaa zab Fuel zay iv9 pv9 qv9 rv9 zbd
theorem zEB (K : List PA → Prop) (zaa : (Sl Gate)) (zab : (Sl Mp))
  (X8:St→Prop) (P8:Int→Int→(Sl Int)→Bool) (S8:Int→Int→(Sl Int)→((Sl Int)×Int×Int))
  (hX8:∀ (zaI:Int) (iv8:Int) (zaP:(Sl Int)) (zbB:Nat→List PV) (zfU:zbB=fun i=>enc_3 (zaP.get i)),P8 zaI iv8 zaP=true→K (e55 (S8 zaI iv8 zaP))→X8 (zfu zaa zab zaI iv8 zaP.len zbB)) (zay:Int) (iv9:Int) (pv9:Int) (qv9:Int) (rv9:Int) (zbd:(Sl Int)) (zbI:Nat→List PV) (zhw:zbI=fun i=>enc_3 (zbd.get i)) (hs:zxb P8 zaa zab zay iv9 pv9 qv9 rv9 zbd=true) (hk:K (e55 (zxa S8 zaa zab zay iv9 pv9 qv9 rv9 zbd))):zkh (Wk K) X8 zaa zab zay iv9 pv9 qv9 rv9 zbd.len zbI:=by
  refine zw9 (Wk K) X8 zaa zab zay iv9 pv9 qv9 rv9 zbd.len zbI ?_
  intro X9 hstep
  have key:∀ (k:Nat) (zay:Int) (iv9:Int) (pv9:Int) (qv9:Int) (rv9:Int) (zbd:(Sl Int)) (zbI:Nat→List PV) (zhw:zbI=fun i=>enc_3 (zbd.get i)),zkj P8 zaa zab k zay iv9 pv9 qv9 rv9 zbd=true→K (e55 (zki S8 zaa zab k zay iv9 pv9 qv9 rv9 zbd))→X9 (ziF zaa zab zay iv9 pv9 qv9 rv9 zbd.len zbI):=by
    intro k
    induction k with
    | zero=>intro zay iv9 pv9 qv9 rv9 zbd zbI zhw hs;exact absurd hs Bool.false_ne_true
    | succ k ih =>
      intro zay iv9 pv9 qv9 rv9 zbd zbI zhw hs hk
      subst zhw
      refine hstep zay iv9 pv9 qv9 rv9 zbd ?_
      have hs:zpE P8 zaa zab (zkj P8 zaa zab k) zay iv9 pv9 qv9 rv9 zbd=true:=hs
      have hk:K (e55 (zpD S8 zaa zab (zki S8 zaa zab k) zay iv9 pv9 qv9 rv9 zbd)):=hk
      unfold zpE at hs
      unfold zpD at hk
      generalize zki S8 zaa zab k=S9 at hk ih
      generalize zkj P8 zaa zab k=P9 at hs ih
      have hX9:=ih
      exact (zat hs fun hc hs => ⟨hc, (zcg (K := fun r => K (e55 r))
 (fun hs hk => (zat hs fun hc hs => ⟨hc, (zat hs fun hc hs => ⟨hc, (zat hs fun hc hs => ⟨hc, (zat hs fun hc hs => ⟨hc, (zcg (K := fun r => K (e55 r))
 (fun hs hk=>(zat hs fun hc hs=>⟨hc,(zr0 K zaa zab X8 P8 S8 hX8 X9 P9 S9 hX9 zay iv9 pv9 qv9 rv9 (decide ((zdL (((zab.get ((w64 (iv9 - (1:Int))).toNat)).F) [qv9,rv9]) 0)≤zay)) zbd (fun i=>enc_3 (zbd.get i)) rfl hs hk)⟩))
 (fun hs hk=>(zr0 K zaa zab X8 P8 S8 hX8 X9 P9 S9 hX9 zay iv9 pv9 qv9 rv9 false zbd (fun i=>enc_3 (zbd.get i)) rfl hs hk)) hs hk)⟩)⟩)⟩)⟩))
 (fun hs hk=>(hX8 zay (w64 (iv9+(1:Int))) zbd (fun i=>enc_3 (zbd.get i)) rfl hs hk)) hs hk)⟩)
  exact key _ zay iv9 pv9 qv9 rv9 zbd zbI zhw hs hk
def zpF (zaa:(Sl Gate)) (zab:(Sl Mp)) (S8:Int→Int→(Sl Int)→((Sl Int)×Int×Int)) (zaI:Int) (iv8:Int) (zaP:(Sl Int)):((Sl Int)×Int×Int) :=
  (cond (decide (iv8 < (zaa.len : Int)))
 (zxa S8 zaa zab zaI iv8 (zaP.get ((w64 (iv8 - (2:Int))).toNat)) (zaP.get ((w64 (iv8 - (1:Int))).toNat)) ((zaa.get iv8.toNat).Low) zaP)
 (zaP,zaI,(0:Int)))
def zpG (zaa:(Sl Gate)) (zab:(Sl Mp)) (P8:Int→Int→(Sl Int)→Bool) (zaI:Int) (iv8:Int) (zaP:(Sl Int)):Bool :=
  (cond (decide (iv8 < (zaa.len : Int)))
 (decide ((0≤(w64 (iv8 - (2:Int)))∧(w64 (iv8 - (2:Int))) < (zaP.len:Int))) &&
 (decide (((w64 (iv8 - (2:Int))).toNat < zaP.len)) &&
 (decide ((0≤(w64 (iv8 - (1:Int)))∧(w64 (iv8 - (1:Int))) < (zaP.len:Int))) &&
 (decide (((w64 (iv8 - (1:Int))).toNat < zaP.len)) &&
 (decide ((0≤iv8∧iv8 < (zaa.len:Int))) &&
 (zxb P8 zaa zab zaI iv8 (zaP.get ((w64 (iv8 - (2:Int))).toNat)) (zaP.get ((w64 (iv8 - (1:Int))).toNat)) ((zaa.get iv8.toNat).Low) zaP))))))
 true)
def zkk (zaa : (Sl Gate)) (zab : (Sl Mp)) : Nat → Int → Int → (Sl Int) → ((Sl Int) × Int × Int)
  | 0=>fun _ _ _=>default
  | k+1=>zpF zaa zab (zkk zaa zab k)
def zkl (zaa : (Sl Gate)) (zab : (Sl Mp)) : Nat → Int → Int → (Sl Int) → Bool
  | 0=>fun _ _ _=>false
  | k+1=>zpG zaa zab (zkl zaa zab k)
def zxc (zaa:(Sl Gate)) (zab:(Sl Mp)) (zaI:Int) (iv8:Int) (zaP:(Sl Int)):((Sl Int)×Int×Int):=zkk zaa zab Fuel zaI iv8 zaP
def zxd (zaa:(Sl Gate)) (zab:(Sl Mp)) (zaI:Int) (iv8:Int) (zaP:(Sl Int)):Bool:=zkl zaa zab Fuel zaI iv8 zaP
theorem zEC (K:List PA→Prop) (zaa:(Sl Gate)) (zab:(Sl Mp)) (zaI:Int) (iv8:Int) (zaP:(Sl Int)) (zbB:Nat→List PV) (zfU:zbB=fun i=>enc_3 (zaP.get i)) (hs:zxd zaa zab zaI iv8 zaP=true) (hk:K (e55 (zxc zaa zab zaI iv8 zaP))):zkg (Wk K) zaa zab zaI iv8 zaP.len zbB:=by
  refine zw8 (Wk K) zaa zab zaI iv8 zaP.len zbB ?_
  intro X8 hstep
  have key:∀ (k:Nat) (zaI:Int) (iv8:Int) (zaP:(Sl Int)) (zbB:Nat→List PV) (zfU:zbB=fun i=>enc_3 (zaP.get i)),zkl zaa zab k zaI iv8 zaP=true→K (e55 (zkk zaa zab k zaI iv8 zaP))→X8 (zfu zaa zab zaI iv8 zaP.len zbB):=by
    intro k
    induction k with
    | zero=>intro zaI iv8 zaP zbB zfU hs;exact absurd hs Bool.false_ne_true
    | succ k ih =>
      intro zaI iv8 zaP zbB zfU hs hk
      subst zfU
      refine hstep zaI iv8 zaP ?_
      have hs:zpG zaa zab (zkl zaa zab k) zaI iv8 zaP=true:=hs
      have hk:K (e55 (zpF zaa zab (zkk zaa zab k) zaI iv8 zaP)):=hk
      unfold zpG at hs
      unfold zpF at hk
      generalize zkk zaa zab k=S8 at hk ih
      generalize zkl zaa zab k=P8 at hs ih
      have hX8:=ih
      exact (zcg (K := fun r => K (e55 r))
 (fun hs hk=>(zat hs fun hc hs=>⟨hc,(zat hs fun hc hs=>⟨hc,(zat hs fun hc hs=>⟨hc,(zat hs fun hc hs=>⟨hc,(zat hs fun hc hs=>⟨hc,(zEB K zaa zab X8 P8 S8 hX8 zaI iv8 (zaP.get ((w64 (iv8 - (2:Int))).toNat)) (zaP.get ((w64 (iv8 - (1:Int))).toNat)) ((zaa.get iv8.toNat).Low) zaP (fun i=>enc_3 (zaP.get i)) rfl hs hk)⟩)⟩)⟩)⟩)⟩))
 (fun hs hk=>(zdA hk)) hs hk)
  exact key _ zaI iv8 zaP zbB zfU hs hk
def zmt (zaa:(Sl Gate)) (zab:(Sl Mp)) (zde:Int) (zfo:(Sl Int)):((Sl Int)×Int×Int) :=
  (zxc zaa zab zde (2:Int) zfo)
def zmu (zaa:(Sl Gate)) (zab:(Sl Mp)) (zde:Int) (zfo:(Sl Int)):Bool :=
  (zxd zaa zab zde (2:Int) zfo)
theorem zxe (K:List PA→Prop) (zaa:(Sl Gate)) (zab:(Sl Mp)) (zde:Int) (zfo:(Sl Int)) (zhv:Nat→List PV) (zED:zhv=fun i=>enc_3 (zfo.get i)) (hs:zmu zaa zab zde zfo=true) (hk:K (e55 (zmt zaa zab zde zfo))):zkf (Wk K) zaa zab zde zfo.len zhv:=by
  subst zED
  refine zau (zEA (Wk K) zaa zab zde zfo) ?_
  unfold zmu at hs
  unfold zmt at hk
  exact (zEC K zaa zab zde (2:Int) zfo (fun i=>enc_3 (zfo.get i)) rfl hs hk)
def zpH (S5:Int→Int→((Sl Int)×Int×Int)) (zaa:(Sl Gate)) (zab:(Sl Mp)) (S6:Int→Int→Int→((Sl Int)×Int×Int)) (zaG:Int) (pv6:Int) (qv6:Int):((Sl Int)×Int×Int) :=
  (cond (decide (qv6 ≤ (zaa.get 1).High))
 (cond ((zdL (((zab.get 0).F) [pv6, qv6]) 0) == zaG)
 (zmt zaa zab zaG (⟨2,(ziG pv6 [pv6,qv6])⟩:Sl Int))
 (S6 zaG pv6 (w64 (qv6+(1:Int)))))
 (S5 zaG (w64 (pv6+(1:Int)))))
def zpI (P5:Int→Int→Bool) (zaa:(Sl Gate)) (zab:(Sl Mp)) (P6:Int→Int→Int→Bool) (zaG:Int) (pv6:Int) (qv6:Int):Bool :=
  (decide ((0≤(1:Int)∧(1:Int) < (zaa.len:Int))) &&
 (cond (decide (qv6 ≤ (zaa.get 1).High))
 (decide ((0≤(0:Int)∧(0:Int) < (zab.len:Int))) &&
 (cond ((zdL (((zab.get 0).F) [pv6, qv6]) 0) == zaG)
 (zmu zaa zab zaG (⟨2,(ziG pv6 [pv6,qv6])⟩:Sl Int))
 (P6 zaG pv6 (w64 (qv6+(1:Int))))))
 (P5 zaG (w64 (pv6+(1:Int))))))
def zkm (S5 : Int → Int → ((Sl Int) × Int × Int)) (zaa : (Sl Gate)) (zab : (Sl Mp)) : Nat → Int → Int → Int → ((Sl Int) × Int × Int)
  | 0=>fun _ _ _=>default
  | k+1=>zpH S5 zaa zab (zkm S5 zaa zab k)
def zkn (P5 : Int → Int → Bool) (zaa : (Sl Gate)) (zab : (Sl Mp)) : Nat → Int → Int → Int → Bool
  | 0=>fun _ _ _=>false
  | k+1=>zpI P5 zaa zab (zkn P5 zaa zab k)
def zxf (S5:Int→Int→((Sl Int)×Int×Int)) (zaa:(Sl Gate)) (zab:(Sl Mp)) (zaG:Int) (pv6:Int) (qv6:Int):((Sl Int)×Int×Int):=zkm S5 zaa zab Fuel zaG pv6 qv6
def zxg (P5:Int→Int→Bool) (zaa:(Sl Gate)) (zab:(Sl Mp)) (zaG:Int) (pv6:Int) (qv6:Int):Bool:=zkn P5 zaa zab Fuel zaG pv6 qv6
theorem zEE (K : List PA → Prop) (zaa : (Sl Gate)) (zab : (Sl Mp))
  (X5:St→Prop) (P5:Int→Int→Bool) (S5:Int→Int→((Sl Int)×Int×Int))
  (hX5:∀ (zaK:Int) (pv5:Int),P5 zaK pv5=true→K (e55 (S5 zaK pv5))→X5 (ziE zaa zab zaK pv5)) (zaG:Int) (pv6:Int) (qv6:Int) (hs:zxg P5 zaa zab zaG pv6 qv6=true) (hk:K (e55 (zxf S5 zaa zab zaG pv6 qv6))):zke (Wk K) X5 zaa zab zaG pv6 qv6:=by
  refine zw7 (Wk K) X5 zaa zab zaG pv6 qv6 ?_
  intro X6 hstep
  have key:∀ (k:Nat) (zaG:Int) (pv6:Int) (qv6:Int),zkn P5 zaa zab k zaG pv6 qv6=true→K (e55 (zkm S5 zaa zab k zaG pv6 qv6))→X6 (zkd zaa zab zaG pv6 qv6):=by
    intro k
    induction k with
    | zero=>intro zaG pv6 qv6 hs;exact absurd hs Bool.false_ne_true
    | succ k ih =>
      intro zaG pv6 qv6 hs hk
      refine hstep zaG pv6 qv6 ?_
      have hs:zpI P5 zaa zab (zkn P5 zaa zab k) zaG pv6 qv6=true:=hs
      have hk:K (e55 (zpH S5 zaa zab (zkm S5 zaa zab k) zaG pv6 qv6)):=hk
      unfold zpI at hs
      unfold zpH at hk
      generalize zkm S5 zaa zab k=S6 at hk ih
      generalize zkn P5 zaa zab k=P6 at hs ih
      have hX6:=ih
      exact (zat hs fun hc hs => ⟨hc, (zcg (K := fun r => K (e55 r))
 (fun hs hk => (zat hs fun hc hs => ⟨hc, (zcg (K := fun r => K (e55 r))
 (fun hs hk=>(zxe K zaa zab zaG (⟨2,(ziG pv6 [pv6,qv6])⟩:Sl Int) (zcj [(enc_3 pv6),(enc_3 qv6)]) (zdj (enc:=enc_3) (x:=pv6) (y:=qv6) (r:=[])) hs hk))
 (fun hs hk=>(hX6 zaG pv6 (w64 (qv6+(1:Int))) hs hk)) hs hk)⟩))
 (fun hs hk=>(hX5 zaG (w64 (pv6+(1:Int))) hs hk)) hs hk)⟩)
  exact key _ zaG pv6 qv6 hs hk
def zpJ (zaa:(Sl Gate)) (zab:(Sl Mp)) (S5:Int→Int→((Sl Int)×Int×Int)) (zaK:Int) (pv5:Int):((Sl Int)×Int×Int) :=
  (cond (decide (pv5 ≤ (zaa.get 0).High))
 (zxf S5 zaa zab zaK pv5 ((zaa.get 1).Low))
 (zmt zaa zab zaK (⟨0,(fun _=>default)⟩:Sl Int)))
def zpK (zaa:(Sl Gate)) (zab:(Sl Mp)) (P5:Int→Int→Bool) (zaK:Int) (pv5:Int):Bool :=
  (decide ((0≤(0:Int)∧(0:Int) < (zaa.len:Int))) &&
 (cond (decide (pv5 ≤ (zaa.get 0).High))
 (decide ((0≤(1:Int)∧(1:Int) < (zaa.len:Int))) &&
 (zxg P5 zaa zab zaK pv5 ((zaa.get 1).Low)))
 (zmu zaa zab zaK (⟨0,(fun _=>default)⟩:Sl Int))))
def zko (zaa : (Sl Gate)) (zab : (Sl Mp)) : Nat → Int → Int → ((Sl Int) × Int × Int)
  | 0=>fun _ _=>default
  | k+1=>zpJ zaa zab (zko zaa zab k)
def zkp (zaa : (Sl Gate)) (zab : (Sl Mp)) : Nat → Int → Int → Bool
  | 0=>fun _ _=>false
  | k+1=>zpK zaa zab (zkp zaa zab k)
def zxh (zaa:(Sl Gate)) (zab:(Sl Mp)) (zaK:Int) (pv5:Int):((Sl Int)×Int×Int):=zko zaa zab Fuel zaK pv5
def zxi (zaa:(Sl Gate)) (zab:(Sl Mp)) (zaK:Int) (pv5:Int):Bool:=zkp zaa zab Fuel zaK pv5
theorem zEF (K:List PA→Prop) (zaa:(Sl Gate)) (zab:(Sl Mp)) (zaK:Int) (pv5:Int) (hs:zxi zaa zab zaK pv5=true) (hk:K (e55 (zxh zaa zab zaK pv5))):zkc (Wk K) zaa zab zaK pv5:=by
  refine zw6 (Wk K) zaa zab zaK pv5 ?_
  intro X5 hstep
  have key:∀ (k:Nat) (zaK:Int) (pv5:Int),zkp zaa zab k zaK pv5=true→K (e55 (zko zaa zab k zaK pv5))→X5 (ziE zaa zab zaK pv5):=by
    intro k
    induction k with
    | zero=>intro zaK pv5 hs;exact absurd hs Bool.false_ne_true
    | succ k ih =>
      intro zaK pv5 hs hk
      refine hstep zaK pv5 ?_
      have hs:zpK zaa zab (zkp zaa zab k) zaK pv5=true:=hs
      have hk:K (e55 (zpJ zaa zab (zko zaa zab k) zaK pv5)):=hk
      unfold zpK at hs
      unfold zpJ at hk
      generalize zko zaa zab k=S5 at hk ih
      generalize zkp zaa zab k=P5 at hs ih
      have hX5:=ih
      exact (zat hs fun hc hs => ⟨hc, (zcg (K := fun r => K (e55 r))
 (fun hs hk=>(zat hs fun hc hs=>⟨hc,(zEE K zaa zab X5 P5 S5 hX5 zaK pv5 ((zaa.get 1).Low) hs hk)⟩))
 (fun hs hk=>(zxe K zaa zab zaK (⟨0,(fun _=>default)⟩:Sl Int) (fun i=>enc_3 ((fun _=>default) i)) rfl hs hk)) hs hk)⟩)
  exact key _ zaK pv5 hs hk
def zpL (zaa:(Sl Gate)) (zab:(Sl Mp)) (zdd:Int):((Sl Int)×Int×Int) :=
  (zxh zaa zab zdd ((zaa.get 0).Low))
def zpM (zaa:(Sl Gate)) (zab:(Sl Mp)) (zdd:Int):Bool :=
  (decide ((0≤(0:Int)∧(0:Int) < (zaa.len:Int))) &&
 (zxi zaa zab zdd ((zaa.get 0).Low)))
theorem zEG (K:List PA→Prop) (zaa:(Sl Gate)) (zab:(Sl Mp)) (zdd:Int) (hs:zpM zaa zab zdd=true) (hk:K (e55 (zpL zaa zab zdd))):zmr (Wk K) zaa zab zdd:=by
  refine zau (zEz (Wk K) zaa zab zdd) ?_
  unfold zpM at hs
  unfold zpL at hk
  exact (zat hs fun hc hs=>⟨hc,(zEF K zaa zab zdd ((zaa.get 0).Low) hs hk)⟩)
def zmv (zaa:(Sl Gate)) (zab:(Sl Mp)) (zaA:Int):((Sl Int)×Int×Int) :=
  (zpL zaa zab zaA)
def zmw (zaa:(Sl Gate)) (zab:(Sl Mp)) (zaA:Int):Bool :=
  (zpM zaa zab zaA)
def zkq (zaa:(Sl Gate)) (zab:(Sl Mp)) (k24_0:Int) (k24_1:Int) (S3:Int→((Sl Int)×Int×Int)) (zaA:Int):((Sl Int)×Int×Int) :=
  (cond (decide (zaA < (0:Int)))
 (S3 (zdL (((zab.get 0).F) [k24_0,k24_1]) 0))
 (cond (decide ((zdL (((zab.get 0).F) [k24_0, k24_1]) 0) < zaA))
 (S3 (zdL (((zab.get 0).F) [k24_0,k24_1]) 0))
 (S3 zaA)))
def zkr (zaa:(Sl Gate)) (zab:(Sl Mp)) (k24_0:Int) (k24_1:Int) (P3:Int→Bool) (zaA:Int):Bool :=
  (cond (decide (zaA < (0:Int)))
 (P3 (zdL (((zab.get 0).F) [k24_0,k24_1]) 0))
 (cond (decide ((zdL (((zab.get 0).F) [k24_0, k24_1]) 0) < zaA))
 (P3 (zdL (((zab.get 0).F) [k24_0,k24_1]) 0))
 (P3 zaA)))
def zes (zaa : (Sl Gate)) (zab : (Sl Mp)) : List (List Int) → Int → ((Sl Int) × Int × Int)
  | []=>zmv zaa zab
  | y :: r=>zkq zaa zab (y.getD 0 0) (y.getD 1 0) (zes zaa zab r)
def zet (zaa : (Sl Gate)) (zab : (Sl Mp)) : List (List Int) → Int → Bool
  | []=>zmw zaa zab
  | y :: r=>zkr zaa zab (y.getD 0 0) (y.getD 1 0) (zet zaa zab r)
def zeY (_gates:Sl Gate) (t:Sl Mp) (ys:List (List Int)):Bool:=ys.all fun y=>decide (0≤zdL ((t.get 0).F y) 0)
theorem zEH (zaa:Sl Gate) (t:Sl Mp):∀ (y:List Int) (r:List (List Int)),zeY zaa t (y :: r)=true→zeY zaa t r=true:=fun y r h=>by
  simp only [zeY,List.all_cons,Bool.and_eq_true] at h ⊢;exact h.2
def kst (F:List Int→Option (List Int)) (k:Int) (y:List Int):Int:=if k < 0 then zdL (F y) 0 else if zdL (F y) 0 < k then zdL (F y) 0 else k
theorem zr1 (F:List Int→Option (List Int)) {ys zs:List (List Int)} (h:∀ y∈ys,0≤zdL (F y) 0) (hp:ys.Perm zs) (k:Int):ys.foldl (kst F) k=zs.foldl (kst F) k:=by
  refine hp.foldl_eq' (fun x hx y hy z=>?_) k
  have h1:=h x hx
  have h2:=h y hy
  unfold kst
  repeat' split
  all_goals omega
theorem zpN (zaa : Sl Gate) (t : Sl Mp) : ∀ (ys : List (List Int)) (k : Int), (∀ y ∈ ys, y.length = 2) → zes zaa t ys k = zmv zaa t (ys.foldl (kst (t.get 0).F) k)
  | [],k,_=>rfl
  | y :: r,k,h=>by
    have hy:=h y List.mem_cons_self
    match y,hy with
    | [a,b],_ =>
    have ih:=fun k=>zpN zaa t r k (fun z hz=>h z (List.mem_cons_of_mem _ hz))
    show zkq zaa t a b (zes zaa t r) k=_
    rw [List.foldl_cons]
    unfold zkq
    by_cases h1:k < 0
    · rw [decide_eq_true h1,cond_true,ih,show kst (t.get 0).F k [a,b]=zdL ((t.get 0).F [a,b]) 0 from if_pos h1]
    · rw [decide_eq_false h1, cond_false]
      by_cases h2:zdL ((t.get 0).F [a,b]) 0 < k
      · rw [decide_eq_true h2,cond_true,ih,show kst (t.get 0).F k [a,b]=zdL ((t.get 0).F [a,b]) 0 from (if_neg h1).trans (if_pos h2)]
      · rw [decide_eq_false h2,cond_false,ih,show kst (t.get 0).F k [a,b]=k from (if_neg h1).trans (if_neg h2)]
theorem zpO (zaa : Sl Gate) (t : Sl Mp) : ∀ (ys : List (List Int)) (k : Int), (∀ y ∈ ys, y.length = 2) → zet zaa t ys k = zmw zaa t (ys.foldl (kst (t.get 0).F) k)
  | [],k,_=>rfl
  | y :: r,k,h=>by
    have hy:=h y List.mem_cons_self
    match y,hy with
    | [a,b],_ =>
    have ih:=fun k=>zpO zaa t r k (fun z hz=>h z (List.mem_cons_of_mem _ hz))
    show zkr zaa t a b (zet zaa t r) k=_
    rw [List.foldl_cons]
    unfold zkr
    by_cases h1:k < 0
    · rw [decide_eq_true h1,cond_true,ih,show kst (t.get 0).F k [a,b]=zdL ((t.get 0).F [a,b]) 0 from if_pos h1]
    · rw [decide_eq_false h1, cond_false]
      by_cases h2:zdL ((t.get 0).F [a,b]) 0 < k
      · rw [decide_eq_true h2,cond_true,ih,show kst (t.get 0).F k [a,b]=zdL ((t.get 0).F [a,b]) 0 from (if_neg h1).trans (if_pos h2)]
      · rw [decide_eq_false h2,cond_false,ih,show kst (t.get 0).F k [a,b]=k from (if_neg h1).trans (if_neg h2)]
theorem zEI (zaa : Sl Gate) (t : Sl Mp) (ys zs : List (List Int)) (hl : ∀ y ∈ ys, y.length = 2) (h : zeY zaa t ys = true) (hp : ys.Perm zs) :
    zeY zaa t zs=true∧zes zaa t ys=zes zaa t zs∧zet zaa t ys=zet zaa t zs:=by
  simp only [zeY,List.all_eq_true,decide_eq_true_eq] at h ⊢
  have hl2:∀ y∈zs,y.length=2:=fun y hy=>hl y (hp.mem_iff.2 hy)
  refine ⟨fun y hy=>h y (hp.mem_iff.2 hy),funext fun k=>?_,funext fun k=>?_⟩
  · rw [zpN zaa t ys k hl,zpN zaa t zs k hl2,zr1 _ h hp]
  · rw [zpO zaa t ys k hl,zpO zaa t zs k hl2,zr1 _ h hp]
def zpP (zaa:(Sl Gate)) (zab:(Sl Mp)) (zaA:Int):((Sl Int)×Int×Int):=zes zaa zab (znV zaa) zaA
def zpQ (zaa:(Sl Gate)) (zab:(Sl Mp)) (zaA:Int):Bool:=keysB 2 ((zab.get 0).n) ((zab.get 0).F) (znV zaa) && zeY zaa zab (znV zaa) && zet zaa zab (znV zaa) zaA
theorem zEJ (K:List PA→Prop) (zaa:(Sl Gate)) (zab:(Sl Mp)) (zaA:Int) (hs:zpQ zaa zab zaA=true) (hk:K (e55 (zpP zaa zab zaA))):zkb (Wk K) zaa zab [] zaA:=by
  unfold zpQ at hs
  rw [Bool.and_eq_true,Bool.and_eq_true] at hs
  obtain ⟨⟨hkeys,hI⟩,hs⟩:=hs
  unfold zpP at hk
  generalize hys:znV zaa=ys0 at hkeys hI hs hk
  refine zw5 (Wk K) zaa zab [] zaA ?_
  intro X3 hstep
  have key:∀ (N:Nat) (ys:List (List Int)) (seen:List (List Int)) (zaA:Int),ys.length=N→(zGA 2 ((zab.get 0).n) ((zab.get 0).F)→zG1 2 ((zab.get 0).F) seen ys)→zeY zaa zab ys=true→zet zaa zab ys zaA=true→K (e55 (zes zaa zab ys zaA))→X3 (zgA zaa zab seen zaA):=by
    intro N
    induction N with
    | zero =>
      intro ys seen zaA hN hrem hI hs hk
      obtain rfl:=List.eq_nil_of_length_eq_zero hN
      refine hstep seen zaA ?_
      intro hfin
      have hrem:=hrem hfin
      refine ⟨fun _=>?_,fun k24_0 k24_1 hF hns=>absurd (hrem.2.2 [k24_0,k24_1] rfl hF hns) (by simp)⟩
      have hs:zmw zaa zab zaA=true:=hs
      have hk:K (e55 (zmv zaa zab zaA)):=hk
      unfold zmw at hs
      unfold zmv at hk
      exact (zEG K zaa zab zaA hs hk)
    | succ N ih =>
      intro ys seen zaA hN hrem hI hs hk
      refine hstep seen zaA ?_
      intro hfin
      have hrem:=hrem hfin
      refine ⟨fun hend=>?_,fun k24_0 k24_1 hF hns=>?_⟩
      · exact absurd (zCn hrem hend) (fun e=>by rw [e] at hN;simp at hN)
      · obtain ⟨hperm, hrem2, hlen⟩ := zzy hrem (c := [k24_0, k24_1]) rfl hF hns
        obtain ⟨hI2,e1,e2⟩:=zEI zaa zab ys _ (fun y hy=>(hrem.2.1 y hy).1) hI hperm
        have hI3:=zEH zaa zab _ _ hI2
        rw [e2] at hs
        rw [e1] at hk
        have hs:zkr zaa zab k24_0 k24_1 (zet zaa zab (ys.erase [k24_0,k24_1])) zaA=true:=hs
        have hk:K (e55 (zkq zaa zab k24_0 k24_1 (zes zaa zab (ys.erase [k24_0,k24_1])) zaA)):=hk
        have ih:=fun (zaA:Int)=>ih (ys.erase [k24_0,k24_1]) ([k24_0,k24_1] :: seen) zaA (by omega) (fun _=>hrem2) hI3
        unfold zkr at hs
        unfold zkq at hk
        generalize zes zaa zab (ys.erase [k24_0,k24_1])=S3 at hk ih
        generalize zet zaa zab (ys.erase [k24_0,k24_1])=P3 at hs ih
        have hX3:=ih
        exact (zcg (K := fun r => K (e55 r))
 (fun hs hk=>(hX3 (zdL (((zab.get 0).F) [k24_0,k24_1]) 0) hs hk))
 (fun hs hk => (zcg (K := fun r => K (e55 r))
 (fun hs hk=>(hX3 (zdL (((zab.get 0).F) [k24_0,k24_1]) 0) hs hk))
 (fun hs hk=>(hX3 zaA hs hk)) hs hk)) hs hk)
  exact key _ ys0 [] zaA rfl (fun hf=>zt6 hkeys hf) hI hs hk
def zpR (zaa:(Sl Gate)) (zab:(Sl Mp)):((Sl Int)×Int×Int) :=
  (zpP zaa zab (-1:Int))
def zpS (zaa:(Sl Gate)) (zab:(Sl Mp)):Bool :=
  (decide ((0≤(0:Int)∧(0:Int) < (zab.len:Int))) &&
 (zpQ zaa zab (-1:Int)))
theorem zEK (K:List PA→Prop) (zaa:(Sl Gate)) (zab:(Sl Mp)) (zd5:Nat→List PV) (zxj:zd5=fun i=>zcD (zab.get i)) (hs:zpS zaa zab=true) (hk:K (e55 (zpR zaa zab))):zmq (Wk K) zaa zab.len zd5:=by
  subst zxj
  refine zau (zEy (Wk K) zaa zab) ?_
  unfold zpS at hs
  unfold zpR at hk
  exact (zat hs fun hc hs=>⟨hc,(zEJ K zaa zab (-1:Int) hs hk)⟩)
def zpT (zaa:(Sl Gate)):((Sl Int)×Int×Int) :=
  (zpR zaa (s93 zaa))
def zpU (zaa:(Sl Gate)):Bool :=
  (decide ((p93 zaa=true)) &&
 (zpS zaa (s93 zaa)))
theorem zEL (K:List PA→Prop) (zaa:(Sl Gate)) (hs:zpU zaa=true) (hk:K (e55 (zpT zaa))):zmp (Wk K) zaa:=by
  refine zau (zEx (Wk K) zaa) ?_
  unfold zpU at hs
  unfold zpT at hk
  exact (zat hs fun hc hs=>⟨⟨isE,hc⟩,(zEK K zaa (s93 zaa) (fun i=>zcD ((s93 zaa).get i)) rfl hs hk)⟩)
def zpV (zaa:(Sl Gate)) (zfT:Bool):((Sl Int)×Int×Int) :=
  (cond zfT
 ((⟨0,fun _=>default⟩:(Sl Int)),(0:Int),(2:Int))
 (zpT zaa))
def zpW (zaa:(Sl Gate)) (zfT:Bool):Bool :=
  (cond zfT
 true
 (zpU zaa))
theorem zEM (K:List PA→Prop) (zaa:(Sl Gate)) (zfT:Bool) (hs:zpW zaa zfT=true) (hk:K (e55 (zpV zaa zfT))):zmo (Wk K) zaa zfT:=by
  refine zau (zEw (Wk K) zaa zfT) ?_
  unfold zpW at hs
  unfold zpV at hk
  exact (zcg (K := fun r => K (e55 r))
 (fun hs hk=>(wk hk (zc3 (.one (.nil _ _)) (zc3 (.one (.rfl _)) (zc3 (.one (.rfl _)) zgG)))))
 (fun hs hk=>(zEL K zaa hs hk)) hs hk)
def s55 (zaa:(Sl Gate)):((Sl Int)×Int×Int) :=
  (zpV zaa (!(s92 zaa)))
def p55 (zaa:(Sl Gate)):Bool :=
  (decide ((p92 zaa=true)) &&
 (zpW zaa (!(s92 zaa))))
theorem q55 (zaa:(Sl Gate)) (K:List PA→Prop) (hs:p55 zaa=true) (hk:K (e55 (s55 zaa))):vcFun Try.prog G55 zaQ 55 [.one (.sl zaa.len 3 (fun i=>enc_55 (zaa.get i)))] (Wk K):=by
  refine zau (zEv zaa (Wk K)) ?_
  unfold p55 at hs
  unfold s55 at hk
  exact (zat hs fun hc hs=>⟨⟨isE,hc⟩,(zEM K zaa (!(s92 zaa)) hs hk)⟩)
def zEN : List PA → COut
  | [.one (.sl a0_n a0_s a0_g)]=>.det (IsE enc_55 3 a0_s a0_g∧p55 (⟨a0_n,zad a0_g⟩:(Sl Gate))=true) [.one (.sl (((s55 (⟨a0_n,zad a0_g⟩:(Sl Gate))).1).len) 1 (fun i=>enc_3 (((s55 (⟨a0_n,zad a0_g⟩:(Sl Gate))).1).get i))),.one (.int .i64 ((s55 (⟨a0_n,zad a0_g⟩:(Sl Gate))).2.1)),.one (.int .i64 ((s55 (⟨a0_n,zad a0_g⟩:(Sl Gate))).2.2))]
  | _=>.no
theorem zIC:zaf Try.prog 55:=⟨_,rfl,rfl,by kernel_rfl⟩
theorem zOd:Ok Try.prog 55 zEN:=zfG zLt zIC fun args K h=>by
  unfold zEN at h
  split at h
  · rename_i a0_n a0_s a0_g
    obtain ⟨⟨⟨rfl,a0_f,rfl⟩,hs⟩,hk⟩:=h
    try rw [zac a0_f] at hs
    try rw [zac a0_f] at hk
    exact ⟨_,zex zeH _,(fun _ _=>[]),(fun _=>false),zaQ,q55 (⟨a0_n,a0_f⟩:(Sl Gate)) K hs hk⟩
  · exact h.elim
abbrev T62:Tabs:=Tabs.nil
theorem zLu:TabsOk Try.prog T62:=TabsOk.nil
abbrev G62:Ctrs:=csm T62 (fun _ _=>[]) (fun _=>false)
def zID:Ann:=⟨5,[(0,zK [] []),(1,zK [0] [4])],
 [],
 [],
 [],[]⟩
abbrev R62:=(Sl Gate)
abbrev e62 (r:R62):List PA:=[.one (.sl r.len 3 (fun i=>enc_55 (r.get i)))]
section
variable {K:List PA→Prop}
def s62:(Sl Gate) :=
  (⟨3,(ziG (⟨(0:Int),(0:Int),(10:Int)⟩:Gate) [(⟨(0:Int),(0:Int),(10:Int)⟩:Gate),(⟨(100:Int),(20:Int),(30:Int)⟩:Gate),(⟨(200:Int),(30:Int),(60:Int)⟩:Gate)])⟩:(Sl Gate))
end
theorem q62 (K:List PA→Prop) (hk:K (e62 (s62))):vcFun Try.prog G62 zID 62 [] K :=
  zau (by kernel_rfl) (Eq.mpr (congrArg K (congrArg (fun (g_:Nat→List PV)=>([.one (.sl 3 3 g_)]:List PA)) (zdj (enc:=enc_55) (x:=(⟨(0:Int),(0:Int),(10:Int)⟩:Gate)) (y:=(⟨(100:Int),(20:Int),(30:Int)⟩:Gate)) (r:=[(⟨(200:Int),(30:Int),(60:Int)⟩:Gate)])))) hk)
def zEO : List PA → COut
  | []=>.tot [.one (.sl ((s62).len) 3 (fun i=>enc_55 ((s62).get i)))]
  | _=>.no
theorem zIE:zaf Try.prog 62:=⟨_,rfl,rfl,by kernel_rfl⟩
theorem zOe:Ok Try.prog 62 zEO:=zax zLu zIE fun args K h=>by
  unfold zEO at h
  split at h
  · have hk := h
    exact ⟨(fun _ _=>[]),(fun _=>false),zID,q62 K hk⟩
  · exact h.elim
abbrev T63:Tabs:=Tabs.nil
theorem zLv:TabsOk Try.prog T63:=TabsOk.nil
abbrev G63:Ctrs:=csm T63 (fun _ _=>[]) (fun _=>false)
def zIF:Ann:=⟨5,[(0,zK [] []),(1,zK [0] [4])],
 [],
 [],
 [],[]⟩
abbrev R63:=(Sl Gate)
abbrev e63 (r:R63):List PA:=[.one (.sl r.len 3 (fun i=>enc_55 (r.get i)))]
section
variable {K:List PA→Prop}
def s63:(Sl Gate) :=
  (⟨3,(ziG (⟨(0:Int),(0:Int),(10:Int)⟩:Gate) [(⟨(0:Int),(0:Int),(10:Int)⟩:Gate),(⟨(100:Int),(20:Int),(30:Int)⟩:Gate),(⟨(200:Int),(0:Int),(9:Int)⟩:Gate)])⟩:(Sl Gate))
end
theorem q63 (K:List PA→Prop) (hk:K (e63 (s63))):vcFun Try.prog G63 zIF 63 [] K :=
  zau (by kernel_rfl) (Eq.mpr (congrArg K (congrArg (fun (g_:Nat→List PV)=>([.one (.sl 3 3 g_)]:List PA)) (zdj (enc:=enc_55) (x:=(⟨(0:Int),(0:Int),(10:Int)⟩:Gate)) (y:=(⟨(100:Int),(20:Int),(30:Int)⟩:Gate)) (r:=[(⟨(200:Int),(0:Int),(9:Int)⟩:Gate)])))) hk)
def zEP : List PA → COut
  | []=>.tot [.one (.sl ((s63).len) 3 (fun i=>enc_55 ((s63).get i)))]
  | _=>.no
theorem zIG:zaf Try.prog 63:=⟨_,rfl,rfl,by kernel_rfl⟩
theorem zOf:Ok Try.prog 63 zEP:=zax zLv zIG fun args K h=>by
  unfold zEP at h
  split at h
  · have hk := h
    exact ⟨(fun _ _=>[]),(fun _=>false),zIF,q63 K hk⟩
  · exact h.elim
abbrev T18:Tabs:=((((((((((Tabs.nil.addF 19 zDF).addF 30 zDV).addF 31 zEa).addF 34 zEe).addF 38 zzP).addF 39 zzQ).addF 40 zz9).addF 55 zEN).addF 62 zEO).addF 63 zEP)
theorem zLw:TabsOk Try.prog T18:=((((((((((TabsOk.nil.addF zNR).addF zNZ).addF zN8).addF zN9).addF zMi).addF zMj).addF zME).addF zOd).addF zOe).addF zOf)
abbrev G18:Ctrs:=csm T18 (fun _ _=>[]) (fun _=>false)
def zEQ:Ann:=⟨125,[(0,zK [] []),(1,zK [1,2] []),(2,zK [1,2,3,4,5] [3,4]),(3,zK [1,2,3,4,5,6,7] [3,4]),(4,zK [1,2,3,4,5,6,7,8,9,10,11] [3,4,9,10]),(5,zK [1,2,3,4,5,6,7,8,9,10,11,12,13,14] [3,4,9,10]),(6,zK [1,3,4,6,9,10,12,76] [3,4,9,10]),(7,zK [0] []),(8,zK [1,3,4,6,9,10,12,15] [3,4,9,10,89]),(9,zK [0] [])],
 [],
 [(2,zK [1,2] []),(3,zK [1,2,3,4,5] [3,4]),(4,zK [1,2,3,4,5,6,7] [3,4]),(5,zK [1,2,3,4,5,6,7,8,9,10,11] [3,4,9,10]),(6,zK [1,2,3,4,5,6,7,8,9,10,11,12,13,14] [3,4,9,10]),(8,zK [1,3,4,6,9,10,12] [3,4,9,10]),(9,zK [1,3,4,6,9,10,12,15] [3,4,9,10,89])],
 [],[]⟩
abbrev R18:=Bool
abbrev e18 (r:R18):List PA:=[.one (.bool r)]
@[irreducible] def z18:=ptF Try.prog G18 zEQ Try.f18
section
variable {K:List PA→Prop} {cv0:(Sl Line)} {ev0:Int} {zIH:Nat→List PV} {fv1:Int} {zbK:Int} {zbL:Int} {zbM:Int} {zbN:Int} {sv2:(Sl Int)} {gv2:Int} {zxk:Nat→List PV} {sv3:(Sl Int)} {zv3:Int} {hv3:Int} {zcN:Int} {zcO:Int} {zcP:Int} {zcQ:Int} {zxl:Nat→List PV} {sv4:(Sl Int)} {lv4:(Sl Int)} {kv4:Int} {iv4:Int} {zxm:Nat→List PV} {zII:Nat→List PV} {sv5:(Sl Int)} {zxn:Nat→List PV} {sv6:(Sl Int)} {zkQ:(Sl Line)} {zxo:Nat→List PV} {zxp:Nat→List PV}
def zxq (cv0:(Sl Line)) (zbK:Int) (zbL:Int) (zbM:Int) (zbN:Int) (zcN:Int) (zcO:Int) (zcP:Int) (zcQ:Int) (lv4:(Sl Int)) (sv6:(Sl Int)) (zkQ:(Sl Line)):Bool :=
  (cond (s34 cv0 zkQ)
 (cond (match (zbK == (s40 (40:Int) (1:Int)).Num) with | true => (match (zbL == (s40 (40:Int) (1:Int)).Den) with | true => true | false => false) | false => false)
 (cond (match (zbM == (s40 (90:Int) (1:Int)).Num) with | true => (match (zbN == (s40 (90:Int) (1:Int)).Den) with | true => true | false => false) | false => false)
 (cond ((s39 sv6 (⟨3, zaU (zcj [(enc_3 (0:Int)), (enc_3 (1:Int)), (enc_3 (2:Int))])⟩ : (Sl Int))) == (0:Int))
 (cond (match (zcN == (s40 (499:Int) (10:Int)).Num) with | true => (match (zcO == (s40 (499:Int) (10:Int)).Den) with | true => true | false => false) | false => false)
 (cond (match (zcP == (s40 (501:Int) (10:Int)).Num) with | true => (match (zcQ == (s40 (501:Int) (10:Int)).Den) with | true => true | false => false) | false => false)
 ((s39 lv4 (⟨3,zaU (zcj [(enc_3 (2:Int)),(enc_3 (5:Int)),(enc_3 (2:Int))])⟩:(Sl Int))) == (0:Int))
 false)
 false)
 false)
 false)
 false)
 false)
def zxr (cv0:(Sl Line)) (zbK:Int) (zbL:Int) (zbM:Int) (zbN:Int) (zcN:Int) (zcO:Int) (zcP:Int) (zcQ:Int) (lv4:(Sl Int)) (sv6:(Sl Int)) (zkQ:(Sl Line)):Bool :=
  (decide ((p34 cv0 zkQ=true)) &&
 (cond (s34 cv0 zkQ)
 (decide ((p40 (40:Int) (1:Int)=true)) &&
 (cond (match (zbK == (s40 (40:Int) (1:Int)).Num) with | true => (match (zbL == (s40 (40:Int) (1:Int)).Den) with | true => true | false => false) | false => false)
 (decide ((p40 (90:Int) (1:Int)=true)) &&
 (cond (match (zbM == (s40 (90:Int) (1:Int)).Num) with | true => (match (zbN == (s40 (90:Int) (1:Int)).Den) with | true => true | false => false) | false => false)
 (decide ((p39 sv6 (⟨3,zaU (zcj [(enc_3 (0:Int)),(enc_3 (1:Int)),(enc_3 (2:Int))])⟩:(Sl Int))=true)) &&
 (cond ((s39 sv6 (⟨3, zaU (zcj [(enc_3 (0:Int)), (enc_3 (1:Int)), (enc_3 (2:Int))])⟩ : (Sl Int))) == (0:Int))
 (decide ((p40 (499:Int) (10:Int)=true)) &&
 (cond (match (zcN == (s40 (499:Int) (10:Int)).Num) with | true => (match (zcO == (s40 (499:Int) (10:Int)).Den) with | true => true | false => false) | false => false)
 (decide ((p40 (501:Int) (10:Int)=true)) &&
 (cond (match (zcP == (s40 (501:Int) (10:Int)).Num) with | true => (match (zcQ == (s40 (501:Int) (10:Int)).Den) with | true => true | false => false) | false => false)
 (decide ((p39 lv4 (⟨3,zaU (zcj [(enc_3 (2:Int)),(enc_3 (5:Int)),(enc_3 (2:Int))])⟩:(Sl Int))=true)) &&
 true)
 true))
 true))
 true))
 true))
 true))
 true))
theorem zER (hs:zxr cv0 zbK zbL zbM zbN zcN zcO zcP zcQ lv4 sv6 zkQ=true) (hk:K (e18 (zxq cv0 zbK zbL zbM zbN zcN zcO zcP zcQ lv4 sv6 zkQ))) (zES:zxo=zg enc_3 sv6) (zET:zxp=zg zaw zkQ):z18 K [1,1,1,1,1,1,1,1] [] ⟨[(1,zS zaw 4 cv0),(3,zp 3 0),(4,zp 4 0),(6,zP (.sl sv6.len 1 zxo)),(9,zp 9 0),(10,zp 10 0),(12,zS enc_3 1 lv4),(15,zv 89)],[(3,.box 25 (zm (zae (⟨zbK,zbL⟩:Frac)))),(4,.box 25 (zm (zae (⟨zbM,zbN⟩:Frac)))),(9,.box 25 (zm (zae (⟨zcN,zcO⟩:Frac)))),(10,.box 25 (zm (zae (⟨zcP,zcQ⟩:Frac)))),(89,.vec 37 4 32 zkQ.len zxp)],[]⟩:=by subst zES;subst zET;exact zau (by kernel_rfl) (zat hs fun hc hs=>And.intro (And.intro (zE zaw 4 cv0.get) (And.intro (zE zaw 4 zkQ.get) hc)) (zc hs hk (fun hs hk=>(zat hs fun hc hs=>And.intro hc (zc hs hk (fun hs hk=>(zat hs fun hc hs=>And.intro hc (zc hs hk (fun hs hk=>(zat hs fun hc hs=>And.intro (And.intro (zE enc_3 1 sv6.get) (And.intro ((zdP [(2:Int)]):IsE enc_3 1 1 (zcj [(enc_3 (0:Int)),(enc_3 (1:Int)),(enc_3 (2:Int))])) hc)) (zc hs hk (fun hs hk=>(zat hs fun hc hs=>And.intro hc (zc hs hk (fun hs hk=>(zat hs fun hc hs=>And.intro hc (zc hs hk (fun hs hk=>(zat hs fun hc hs=>And.intro (And.intro (zE enc_3 1 lv4.get) (And.intro ((zdP [(2:Int)]):IsE enc_3 1 1 (zcj [(enc_3 (2:Int)),(enc_3 (5:Int)),(enc_3 (2:Int))])) hc)) hk)) (fun hs hk=>hk)))) (fun hs hk=>hk)))) (fun hs hk=>hk)))) (fun hs hk=>hk)))) (fun hs hk=>hk)))) (fun hs hk=>hk)))
def zxs (cv0:(Sl Line)) (zbK:Int) (zbL:Int) (zbM:Int) (zbN:Int) (zcN:Int) (zcO:Int) (zcP:Int) (zcQ:Int) (lv4:(Sl Int)) (sv5:(Sl Int)):Bool :=
  (zxq cv0 zbK zbL zbM zbN zcN zcO zcP zcQ lv4 sv5 (⟨4,(ziG (⟨(s40 (1:Int) (10:Int)),(s40 (10:Int) (1:Int))⟩:Line) [(⟨(s40 (1:Int) (10:Int)),(s40 (10:Int) (1:Int))⟩:Line),(⟨(s40 (1:Int) (5:Int)),(s40 (0:Int) (1:Int))⟩:Line),(⟨(s40 (3:Int) (10:Int)),(s40 (0:Int) (1:Int))⟩:Line),(⟨(s40 (1:Int) (5:Int)),(s40 (10:Int) (1:Int))⟩:Line)])⟩:Sl Line))
def zxt (cv0:(Sl Line)) (zbK:Int) (zbL:Int) (zbM:Int) (zbN:Int) (zcN:Int) (zcO:Int) (zcP:Int) (zcQ:Int) (lv4:(Sl Int)) (sv5:(Sl Int)):Bool :=
  (decide ((p40 (1:Int) (10:Int)=true)) &&
 (decide ((p40 (10:Int) (1:Int)=true)) &&
 (decide ((p40 (1:Int) (5:Int)=true)) &&
 (decide ((p40 (0:Int) (1:Int)=true)) &&
 (decide ((p40 (3:Int) (10:Int)=true)) &&
 (decide ((p40 (0:Int) (1:Int)=true)) &&
 (decide ((p40 (1:Int) (5:Int)=true)) &&
 (decide ((p40 (10:Int) (1:Int)=true)) &&
 (zxr cv0 zbK zbL zbM zbN zcN zcO zcP zcQ lv4 sv5 (⟨4,(ziG (⟨(s40 (1:Int) (10:Int)),(s40 (10:Int) (1:Int))⟩:Line) [(⟨(s40 (1:Int) (10:Int)),(s40 (10:Int) (1:Int))⟩:Line),(⟨(s40 (1:Int) (5:Int)),(s40 (0:Int) (1:Int))⟩:Line),(⟨(s40 (3:Int) (10:Int)),(s40 (0:Int) (1:Int))⟩:Line),(⟨(s40 (1:Int) (5:Int)),(s40 (10:Int) (1:Int))⟩:Line)])⟩:Sl Line))))))))))
theorem zEU (hs:zxt cv0 zbK zbL zbM zbN zcN zcO zcP zcQ lv4 sv5=true) (hk:K (e18 (zxs cv0 zbK zbL zbM zbN zcN zcO zcP zcQ lv4 sv5))) (zEV:zxn=zg enc_3 sv5):z18 K [1,1,1,1,1,1,1] [] ⟨[(1,zS zaw 4 cv0),(3,zp 3 0),(4,zp 4 0),(6,zP (.sl sv5.len 1 zxn)),(9,zp 9 0),(10,zp 10 0),(12,zS enc_3 1 lv4)],[(3,.box 25 (zm (zae (⟨zbK,zbL⟩:Frac)))),(4,.box 25 (zm (zae (⟨zbM,zbN⟩:Frac)))),(9,.box 25 (zm (zae (⟨zcN,zcO⟩:Frac)))),(10,.box 25 (zm (zae (⟨zcP,zcQ⟩:Frac))))],[]⟩:=by subst zEV;exact zau (by kernel_rfl) (zat hs fun hc hs=>And.intro hc (zat hs fun hc hs=>And.intro hc (zat hs fun hc hs=>And.intro hc (zat hs fun hc hs=>And.intro hc (zat hs fun hc hs=>And.intro hc (zat hs fun hc hs=>And.intro hc (zat hs fun hc hs=>And.intro hc (zat hs fun hc hs=>And.intro hc (zER hs hk rfl (zdj (enc:=zaw) (x:=(⟨(s40 (1:Int) (10:Int)),(s40 (10:Int) (1:Int))⟩:Line)) (y:=(⟨(s40 (1:Int) (5:Int)),(s40 (0:Int) (1:Int))⟩:Line)) (r:=[(⟨(s40 (3:Int) (10:Int)),(s40 (0:Int) (1:Int))⟩:Line),(⟨(s40 (1:Int) (5:Int)),(s40 (10:Int) (1:Int))⟩:Line)])))))))))))
def zxu (cv0:(Sl Line)) (ev0:Int) (fv1:Int) (zbK:Int) (zbL:Int) (zbM:Int) (zbN:Int) (gv2:Int) (zv3:Int) (hv3:Int) (zcN:Int) (zcO:Int) (zcP:Int) (zcQ:Int) (sv4:(Sl Int)) (lv4:(Sl Int)) (kv4:Int) (iv4:Int):Bool :=
  (cond (ev0 != (0:Int))
 false
 (cond (fv1 != (0:Int))
 false
 (cond (gv2 != (0:Int))
 false
 (cond (hv3 != (0:Int))
 false
 (cond (iv4 != (0:Int))
 false
 (cond (kv4 != (600:Int))
 false
 (cond (zv3 != (167:Int))
 false
 (zxs cv0 zbK zbL zbM zbN zcN zcO zcP zcQ lv4 sv4))))))))
def zxv (cv0:(Sl Line)) (ev0:Int) (fv1:Int) (zbK:Int) (zbL:Int) (zbM:Int) (zbN:Int) (gv2:Int) (zv3:Int) (hv3:Int) (zcN:Int) (zcO:Int) (zcP:Int) (zcQ:Int) (sv4:(Sl Int)) (lv4:(Sl Int)) (kv4:Int) (iv4:Int):Bool :=
  (cond (ev0 != (0:Int))
 true
 (cond (fv1 != (0:Int))
 true
 (cond (gv2 != (0:Int))
 true
 (cond (hv3 != (0:Int))
 true
 (cond (iv4 != (0:Int))
 true
 (cond (kv4 != (600:Int))
 true
 (cond (zv3 != (167:Int))
 true
 (zxt cv0 zbK zbL zbM zbN zcN zcO zcP zcQ lv4 sv4))))))))
theorem zEW (hs:zxv cv0 ev0 fv1 zbK zbL zbM zbN gv2 zv3 hv3 zcN zcO zcP zcQ sv4 lv4 kv4 iv4=true) (hk:K (e18 (zxu cv0 ev0 fv1 zbK zbL zbM zbN gv2 zv3 hv3 zcN zcO zcP zcQ sv4 lv4 kv4 iv4))) (zEX:zxm=zg enc_3 sv4) (zLx:zII=zg enc_3 lv4):z18 K [1,1,1,1,1,1] [] ⟨[(1,zS zaw 4 cv0),(2,zI ev0),(3,zp 3 0),(4,zp 4 0),(5,zI fv1),(6,zP (.sl sv4.len 1 zxm)),(7,zI gv2),(8,zI zv3),(9,zp 9 0),(10,zp 10 0),(11,zI hv3),(12,zP (.sl lv4.len 1 zII)),(13,zI kv4),(14,zI iv4)],[(3,.box 25 (zm (zae (⟨zbK,zbL⟩:Frac)))),(4,.box 25 (zm (zae (⟨zbM,zbN⟩:Frac)))),(9,.box 25 (zm (zae (⟨zcN,zcO⟩:Frac)))),(10,.box 25 (zm (zae (⟨zcP,zcQ⟩:Frac))))],[]⟩:=by subst zEX;subst zLx;exact zau (by kernel_rfl) (zc hs hk (fun hs hk=>hk) (fun hs hk=>(zc hs hk (fun hs hk=>hk) (fun hs hk=>(zc hs hk (fun hs hk=>hk) (fun hs hk=>(zc hs hk (fun hs hk=>hk) (fun hs hk=>(zc hs hk (fun hs hk=>hk) (fun hs hk=>(zc hs hk (fun hs hk=>hk) (fun hs hk=>(zc hs hk (fun hs hk=>hk) (fun hs hk=>(zEU hs hk rfl)))))))))))))))
def zxw (cv0:(Sl Line)) (ev0:Int) (fv1:Int) (zbK:Int) (zbL:Int) (zbM:Int) (zbN:Int) (gv2:Int) (sv3:(Sl Int)) (zv3:Int) (hv3:Int) (zcN:Int) (zcO:Int) (zcP:Int) (zcQ:Int):Bool :=
  (zxu cv0 ev0 fv1 zbK zbL zbM zbN gv2 zv3 hv3 zcN zcO zcP zcQ sv3 ((s55 (⟨3,zad (zcj [(enc_55 (⟨(0:Int),(0:Int),(2:Int)⟩:Gate)),(enc_55 (⟨(10:Int),(5:Int),(6:Int)⟩:Gate)),(enc_55 (⟨(20:Int),(0:Int),(2:Int)⟩:Gate))])⟩:(Sl Gate))).1) ((s55 (⟨3,zad (zcj [(enc_55 (⟨(0:Int),(0:Int),(2:Int)⟩:Gate)),(enc_55 (⟨(10:Int),(5:Int),(6:Int)⟩:Gate)),(enc_55 (⟨(20:Int),(0:Int),(2:Int)⟩:Gate))])⟩:(Sl Gate))).2.1) ((s55 (⟨3,zad (zcj [(enc_55 (⟨(0:Int),(0:Int),(2:Int)⟩:Gate)),(enc_55 (⟨(10:Int),(5:Int),(6:Int)⟩:Gate)),(enc_55 (⟨(20:Int),(0:Int),(2:Int)⟩:Gate))])⟩:(Sl Gate))).2.2))
def zxx (cv0:(Sl Line)) (ev0:Int) (fv1:Int) (zbK:Int) (zbL:Int) (zbM:Int) (zbN:Int) (gv2:Int) (sv3:(Sl Int)) (zv3:Int) (hv3:Int) (zcN:Int) (zcO:Int) (zcP:Int) (zcQ:Int):Bool :=
  (decide ((p55 (⟨3,zad (zcj [(enc_55 (⟨(0:Int),(0:Int),(2:Int)⟩:Gate)),(enc_55 (⟨(10:Int),(5:Int),(6:Int)⟩:Gate)),(enc_55 (⟨(20:Int),(0:Int),(2:Int)⟩:Gate))])⟩:(Sl Gate))=true)) &&
 (zxv cv0 ev0 fv1 zbK zbL zbM zbN gv2 zv3 hv3 zcN zcO zcP zcQ sv3 ((s55 (⟨3,zad (zcj [(enc_55 (⟨(0:Int),(0:Int),(2:Int)⟩:Gate)),(enc_55 (⟨(10:Int),(5:Int),(6:Int)⟩:Gate)),(enc_55 (⟨(20:Int),(0:Int),(2:Int)⟩:Gate))])⟩:(Sl Gate))).1) ((s55 (⟨3,zad (zcj [(enc_55 (⟨(0:Int),(0:Int),(2:Int)⟩:Gate)),(enc_55 (⟨(10:Int),(5:Int),(6:Int)⟩:Gate)),(enc_55 (⟨(20:Int),(0:Int),(2:Int)⟩:Gate))])⟩:(Sl Gate))).2.1) ((s55 (⟨3,zad (zcj [(enc_55 (⟨(0:Int),(0:Int),(2:Int)⟩:Gate)),(enc_55 (⟨(10:Int),(5:Int),(6:Int)⟩:Gate)),(enc_55 (⟨(20:Int),(0:Int),(2:Int)⟩:Gate))])⟩:(Sl Gate))).2.2)))
theorem zEY (hs:zxx cv0 ev0 fv1 zbK zbL zbM zbN gv2 sv3 zv3 hv3 zcN zcO zcP zcQ=true) (hk:K (e18 (zxw cv0 ev0 fv1 zbK zbL zbM zbN gv2 sv3 zv3 hv3 zcN zcO zcP zcQ))) (zEZ:zxl=zg enc_3 sv3):z18 K [1,1,1,1,1] [] ⟨[(1,zS zaw 4 cv0),(2,zI ev0),(3,zp 3 0),(4,zp 4 0),(5,zI fv1),(6,zP (.sl sv3.len 1 zxl)),(7,zI gv2),(8,zI zv3),(9,zp 9 0),(10,zp 10 0),(11,zI hv3)],[(3,.box 25 (zm (zae (⟨zbK,zbL⟩:Frac)))),(4,.box 25 (zm (zae (⟨zbM,zbN⟩:Frac)))),(9,.box 25 (zm (zae (⟨zcN,zcO⟩:Frac)))),(10,.box 25 (zm (zae (⟨zcP,zcQ⟩:Frac))))],[]⟩:=by subst zEZ;exact zau (by kernel_rfl) (zat hs fun hc hs=>And.intro (And.intro ((zdP [(⟨(20:Int),(0:Int),(2:Int)⟩:Gate)]):IsE enc_55 3 3 (zcj [(enc_55 (⟨(0:Int),(0:Int),(2:Int)⟩:Gate)),(enc_55 (⟨(10:Int),(5:Int),(6:Int)⟩:Gate)),(enc_55 (⟨(20:Int),(0:Int),(2:Int)⟩:Gate))])) hc) (zEW hs hk rfl rfl))
def zxy (cv0:(Sl Line)) (ev0:Int) (fv1:Int) (zbK:Int) (zbL:Int) (zbM:Int) (zbN:Int) (sv2:(Sl Int)) (gv2:Int):Bool :=
  (zxw cv0 ev0 fv1 zbK zbL zbM zbN gv2 sv2 ((s19 s62 (⟨2,zad (zcj [(enc_55 (⟨(0:Int),(100:Int),(110:Int)⟩:Gate)),(enc_55 (⟨(200:Int),(40:Int),(50:Int)⟩:Gate))])⟩:(Sl Gate)) (0:Int) (300:Int)).1) ((s19 s62 (⟨2,zad (zcj [(enc_55 (⟨(0:Int),(100:Int),(110:Int)⟩:Gate)),(enc_55 (⟨(200:Int),(40:Int),(50:Int)⟩:Gate))])⟩:(Sl Gate)) (0:Int) (300:Int)).2.2.2) (((s19 s62 (⟨2,zad (zcj [(enc_55 (⟨(0:Int),(100:Int),(110:Int)⟩:Gate)),(enc_55 (⟨(200:Int),(40:Int),(50:Int)⟩:Gate))])⟩:(Sl Gate)) (0:Int) (300:Int)).2.1).Num) (((s19 s62 (⟨2,zad (zcj [(enc_55 (⟨(0:Int),(100:Int),(110:Int)⟩:Gate)),(enc_55 (⟨(200:Int),(40:Int),(50:Int)⟩:Gate))])⟩:(Sl Gate)) (0:Int) (300:Int)).2.1).Den) (((s19 s62 (⟨2,zad (zcj [(enc_55 (⟨(0:Int),(100:Int),(110:Int)⟩:Gate)),(enc_55 (⟨(200:Int),(40:Int),(50:Int)⟩:Gate))])⟩:(Sl Gate)) (0:Int) (300:Int)).2.2.1).Num) (((s19 s62 (⟨2,zad (zcj [(enc_55 (⟨(0:Int),(100:Int),(110:Int)⟩:Gate)),(enc_55 (⟨(200:Int),(40:Int),(50:Int)⟩:Gate))])⟩:(Sl Gate)) (0:Int) (300:Int)).2.2.1).Den))
def zxz (cv0:(Sl Line)) (ev0:Int) (fv1:Int) (zbK:Int) (zbL:Int) (zbM:Int) (zbN:Int) (sv2:(Sl Int)) (gv2:Int):Bool :=
  (decide ((p19 s62 (⟨2,zad (zcj [(enc_55 (⟨(0:Int),(100:Int),(110:Int)⟩:Gate)),(enc_55 (⟨(200:Int),(40:Int),(50:Int)⟩:Gate))])⟩:(Sl Gate)) (0:Int) (300:Int)=true)) &&
 (zxx cv0 ev0 fv1 zbK zbL zbM zbN gv2 sv2 ((s19 s62 (⟨2,zad (zcj [(enc_55 (⟨(0:Int),(100:Int),(110:Int)⟩:Gate)),(enc_55 (⟨(200:Int),(40:Int),(50:Int)⟩:Gate))])⟩:(Sl Gate)) (0:Int) (300:Int)).1) ((s19 s62 (⟨2,zad (zcj [(enc_55 (⟨(0:Int),(100:Int),(110:Int)⟩:Gate)),(enc_55 (⟨(200:Int),(40:Int),(50:Int)⟩:Gate))])⟩:(Sl Gate)) (0:Int) (300:Int)).2.2.2) (((s19 s62 (⟨2,zad (zcj [(enc_55 (⟨(0:Int),(100:Int),(110:Int)⟩:Gate)),(enc_55 (⟨(200:Int),(40:Int),(50:Int)⟩:Gate))])⟩:(Sl Gate)) (0:Int) (300:Int)).2.1).Num) (((s19 s62 (⟨2,zad (zcj [(enc_55 (⟨(0:Int),(100:Int),(110:Int)⟩:Gate)),(enc_55 (⟨(200:Int),(40:Int),(50:Int)⟩:Gate))])⟩:(Sl Gate)) (0:Int) (300:Int)).2.1).Den) (((s19 s62 (⟨2,zad (zcj [(enc_55 (⟨(0:Int),(100:Int),(110:Int)⟩:Gate)),(enc_55 (⟨(200:Int),(40:Int),(50:Int)⟩:Gate))])⟩:(Sl Gate)) (0:Int) (300:Int)).2.2.1).Num) (((s19 s62 (⟨2,zad (zcj [(enc_55 (⟨(0:Int),(100:Int),(110:Int)⟩:Gate)),(enc_55 (⟨(200:Int),(40:Int),(50:Int)⟩:Gate))])⟩:(Sl Gate)) (0:Int) (300:Int)).2.2.1).Den)))
theorem zE0 (hs:zxz cv0 ev0 fv1 zbK zbL zbM zbN sv2 gv2=true) (hk:K (e18 (zxy cv0 ev0 fv1 zbK zbL zbM zbN sv2 gv2))) (zE1:zxk=zg enc_3 sv2):z18 K [1,1,1,1] [] ⟨[(1,zS zaw 4 cv0),(2,zI ev0),(3,zp 3 0),(4,zp 4 0),(5,zI fv1),(6,zP (.sl sv2.len 1 zxk)),(7,zI gv2)],[(3,.box 25 (zm (zae (⟨zbK,zbL⟩:Frac)))),(4,.box 25 (zm (zae (⟨zbM,zbN⟩:Frac))))],[]⟩:=by subst zE1;exact zau (by kernel_rfl) (zat hs fun hc hs=>And.intro (And.intro (zE enc_55 3 s62.get) (And.intro ((zdP []):IsE enc_55 3 3 (zcj [(enc_55 (⟨(0:Int),(100:Int),(110:Int)⟩:Gate)),(enc_55 (⟨(200:Int),(40:Int),(50:Int)⟩:Gate))])) hc)) (zEY hs hk rfl))
def zxA (cv0:(Sl Line)) (ev0:Int) (fv1:Int) (zbK:Int) (zbL:Int) (zbM:Int) (zbN:Int):Bool :=
  (zxy cv0 ev0 fv1 zbK zbL zbM zbN ((s38 s63).1) ((s38 s63).2))
def zxB (cv0:(Sl Line)) (ev0:Int) (fv1:Int) (zbK:Int) (zbL:Int) (zbM:Int) (zbN:Int):Bool :=
  (decide ((p38 s63=true)) &&
 (zxz cv0 ev0 fv1 zbK zbL zbM zbN ((s38 s63).1) ((s38 s63).2)))
theorem zE2 (hs:zxB cv0 ev0 fv1 zbK zbL zbM zbN=true) (hk:K (e18 (zxA cv0 ev0 fv1 zbK zbL zbM zbN))):z18 K [1,1,1] [] ⟨[(1,zS zaw 4 cv0),(2,zI ev0),(3,zp 3 0),(4,zp 4 0),(5,zI fv1)],[(3,.box 25 (zm (zae (⟨zbK,zbL⟩:Frac)))),(4,.box 25 (zm (zae (⟨zbM,zbN⟩:Frac))))],[]⟩:=zau (by kernel_rfl) (zat hs fun hc hs=>And.intro (And.intro (zE enc_55 3 s63.get) hc) (zE0 hs hk rfl))
def zxC (cv0:(Sl Line)) (ev0:Int):Bool :=
  (zxA cv0 ev0 ((s30 s62 (300:Int)).2.2) (((s30 s62 (300:Int)).1).Num) (((s30 s62 (300:Int)).1).Den) (((s30 s62 (300:Int)).2.1).Num) (((s30 s62 (300:Int)).2.1).Den))
def zxD (cv0:(Sl Line)) (ev0:Int):Bool :=
  (decide ((p30 s62 (300:Int)=true)) &&
 (zxB cv0 ev0 ((s30 s62 (300:Int)).2.2) (((s30 s62 (300:Int)).1).Num) (((s30 s62 (300:Int)).1).Den) (((s30 s62 (300:Int)).2.1).Num) (((s30 s62 (300:Int)).2.1).Den)))
theorem zE3 (hs:zxD cv0 ev0=true) (hk:K (e18 (zxC cv0 ev0))) (zLy:zIH=zg zaw cv0):z18 K [1,1] [] ⟨[(1,zP (.sl cv0.len 4 zIH)),(2,zI ev0)],[],[]⟩:=by subst zLy;exact zau (by kernel_rfl) (zat hs fun hc hs=>And.intro (And.intro (zE enc_55 3 s62.get) hc) (zE2 hs hk))
def s18:Bool :=
  (zxC ((s31 s62).1) ((s31 s62).2))
def p18:Bool :=
  (decide ((p31 s62=true)) &&
 (zxD ((s31 s62).1) ((s31 s62).2)))
end
theorem q18 (K:List PA→Prop) (hs:p18=true) (hk:K (e18 (s18))):vcFun Try.prog G18 zEQ 18 [] K :=
  zau (by kernel_rfl) (zat hs fun hc hs=>And.intro (And.intro (zE enc_55 3 s62.get) hc) (zE3 hs hk rfl))
theorem zIJ:p18=true:=by kernel_rfl
theorem zIK:s18=true:=by kernel_rfl
def zE4 : List PA → COut
  | []=>.tot [.one (.bool true)]
  | _=>.no
theorem zIL:zaf Try.prog 18:=⟨_,rfl,rfl,by kernel_rfl⟩
theorem zOg:Ok Try.prog 18 zE4:=zax zLw zIL fun args K h=>by
  unfold zE4 at h
  split at h
  · refine ⟨fun _ _ => [], fun _ => false, zEQ, q18 K zIJ ?_⟩
    show K [.one (.bool s18)]
    rw [zIK];exact h
  · exact h.elim
abbrev T70:Tabs:=Tabs.nil
theorem zLz:TabsOk Try.prog T70:=TabsOk.nil
abbrev G70:Ctrs:=csm T70 (fun _ _=>[]) (fun _=>false)
def zIM:Ann:=⟨15,[(0,zK [0,1,2] []),(1,zK [6] [])],
 [],
 [],
 [],[]⟩
abbrev R70:=Bool
abbrev e70 (r:R70):List PA:=[.one (.bool r)]
section
variable {K:List PA→Prop} {n:Int} {low:Int} {high:Int}
def s70 (n:Int) (low:Int) (high:Int):Bool :=
  (cond (decide (n ≥ low))
 (decide (n≤high))
 false)
end
theorem q70 (n:Int) (low:Int) (high:Int) (K:List PA→Prop) (hk:K (e70 (s70 n low high))):vcFun Try.prog G70 zIM 70 [.one (.int .i64 n),.one (.int .i64 low),.one (.int .i64 high)] K :=
  zau (by kernel_rfl) (zt hk (fun hk=>hk) (fun hk=>hk))
def zxE : List PA → COut
  | [.one (.int .i64 a0),.one (.int .i64 a1),.one (.int .i64 a2)]=>.tot [.one (.bool (s70 a0 a1 a2))]
  | _=>.no
theorem zIN:zaf Try.prog 70:=⟨_,rfl,rfl,by kernel_rfl⟩
theorem zLA:Ok Try.prog 70 zxE:=zax zLz zIN fun args K h=>by
  unfold zxE at h
  split at h
  · rename_i a0 a1 a2
    have hk:=h
    exact ⟨(fun _ _=>[]),(fun _=>false),zIM,q70 a0 a1 a2 K hk⟩
  · exact h.elim
abbrev T49:Tabs:=(Tabs.nil.addF 70 zxE)
theorem zLB:TabsOk Try.prog T49:=(TabsOk.nil.addF zLA)
abbrev G49:Ctrs:=csm T49 (fun _ _=>[]) (fun _=>false)
def zIO:Ann:=⟨18,[(0,zK [1] [1]),(1,zK [2] [])],
 [],
 [],
 [],[]⟩
abbrev R49:=Bool
abbrev e49 (r:R49):List PA:=[.one (.bool r)]
section
variable {K:List PA→Prop} {g:Gate}
def s49 (g:Gate):Bool :=
  (cond (s70 g.Z (0:Int) (100000:Int))
 (cond (s70 g.Low (-1000000:Int) g.High)
 (decide (g.High≤(1000000:Int)))
 false)
 false)
end
theorem q49 (g:Gate) (K:List PA→Prop) (hk:K (e49 (s49 g))):vcFun Try.prog G49 zIO 49 [.agg (enc_55 g)] K :=
  zau (by kernel_rfl) (zt hk (fun hk=>(zt hk (fun hk=>hk) (fun hk=>hk))) (fun hk=>hk))
def zE5 : List PA → COut
  | [.agg [.int .i64 a0_Z,.int .i64 a0_Low,.int .i64 a0_High]]=>.tot [.one (.bool (s49 (⟨a0_Z,a0_Low,a0_High⟩:Gate)))]
  | _=>.no
theorem zIP:zaf Try.prog 49:=⟨_,rfl,rfl,by kernel_rfl⟩
theorem zOh:Ok Try.prog 49 zE5:=zax zLB zIP fun args K h=>by
  unfold zE5 at h
  split at h
  · rename_i a0_Z a0_Low a0_High
    have hk:=h
    exact ⟨(fun _ _=>[]),(fun _=>false),zIO,q49 (⟨a0_Z,a0_Low,a0_High⟩:Gate) K hk⟩
  · exact h.elim
abbrev T20:Tabs:=((Tabs.nil.addF 49 zE5).addF 70 zxE)
theorem zLC:TabsOk Try.prog T20:=((TabsOk.nil.addF zOh).addF zLA)
abbrev G20:Ctrs:=csm T20 (fun _ _=>[]) (fun _=>false)
def zE6:Ann:=⟨19,[(0,zK [0] []),(1,zK [0,3] []),(2,zK [0,3,7] []),(3,zK [0,3] []),(4,zK [0,3,15] []),(5,zK [2] []),(6,zK [2] [])],
 [(2,zK [0,3] [])],
 [(5,zK [0,3,15] [])],
 [],[]⟩
abbrev R20:=Bool
abbrev e20 (r:R20):List PA:=[.one (.bool r)]
@[irreducible] def z20:=ptF Try.prog G20 zE6 Try.f20
def zBt (l_a0:(Sl Gate)) (iv0:Int):St:=⟨[(0,zS enc_55 3 l_a0),(3,zI iv0)],[],[]⟩
abbrev zE7 (K:List PA→Prop) (l_a0:(Sl Gate)) (X:St→Prop) (P:Int→Bool) (S:Int→Bool):Prop:=∀ ⦃iv0:Int⦄,P iv0=true→K (e20 (S iv0))→X (zBt l_a0 iv0)
section
variable {K:List PA→Prop} {l_a0:(Sl Gate)} {iv0:Int} {X0:St→Prop} {P0:Int→Bool} {S0:Int→Bool} {iv1:Int} {zpX:Bool}
def zpY (S0:Int→Bool) (l_a0:(Sl Gate)) (iv1:Int) (zpX:Bool):Bool :=
  (cond zpX
 false
 (S0 (w64 (iv1+(1:Int)))))
def zpZ (P0:Int→Bool) (l_a0:(Sl Gate)) (iv1:Int) (zpX:Bool):Bool :=
  (cond zpX
 true
 (P0 (w64 (iv1+(1:Int)))))
theorem zE8 (hX0:zE7 K l_a0 X0 P0 S0) (hs:zpZ P0 l_a0 iv1 zpX=true) (hk:K (e20 (zpY S0 l_a0 iv1 zpX))):z20 K [1,0,1,0,0,1,0,0,1] [X0] ⟨[(0,zS enc_55 3 l_a0),(3,zI iv1),(15,zB zpX)],[],[]⟩:=zau (by kernel_rfl) (zc hs hk (fun hs hk=>hk) (fun hs hk=>(hX0 hs hk)))
def zhx (l_a0:(Sl Gate)) (S0:Int→Bool) (iv0:Int):Bool :=
  (cond (decide (iv0 < (l_a0.len : Int)))
 (zpY S0 l_a0 iv0 (!(s49 (l_a0.get iv0.toNat))))
 (s70 (l_a0.len:Int) (1:Int) (24:Int)))
def zhy (l_a0:(Sl Gate)) (P0:Int→Bool) (iv0:Int):Bool :=
  (cond (decide (iv0 < (l_a0.len : Int)))
 (decide ((0≤iv0∧iv0 < (l_a0.len:Int))) &&
 (zpZ P0 l_a0 iv0 (!(s49 (l_a0.get iv0.toNat)))))
 true)
def zhz (l_a0:(Sl Gate)):Nat→Int→Bool:=lpO (fun _=>default) (zhx l_a0)
def zhA (l_a0:(Sl Gate)):Nat→Int→Bool:=lpO (fun _=>false) (zhy l_a0)
def zxF (l_a0:(Sl Gate)) (iv0:Int):Bool:=zhz l_a0 Fuel iv0
def zxG (l_a0:(Sl Gate)) (iv0:Int):Bool:=zhA l_a0 Fuel iv0
theorem zE9 (hs:zxG l_a0 iv0=true) (hk:K (e20 (zxF l_a0 iv0))):z20 K [1,0,1,0] [] (zBt l_a0 iv0) :=
  zl (fun X=>z20 K [1,0,1,0,0] [X]) (by kernel_rfl) fun X0 hX =>
  (show ∀ k, zE7 K l_a0 X0 (zhA l_a0 k) (zhz l_a0 k) from zdJ _ _ (zhy l_a0) (zhx l_a0) (zE7 K l_a0 X0)
 (by intro _ hs;exact absurd hs Bool.false_ne_true)
 (by intro P0 S0 hX0 iv0 hs hk;exact hX _ (zau (by kernel_rfl) (zc hs hk (fun hs hk=>(zat hs fun hc hs=>And.intro hc (zE8 hX0 hs hk))) (fun hs hk=>hk))))) _ hs hk
def s20 (l_a0:(Sl Gate)):Bool :=
  (zxF l_a0 (0:Int))
def p20 (l_a0:(Sl Gate)):Bool :=
  (zxG l_a0 (0:Int))
end
theorem q20 (l_a0:(Sl Gate)) (K:List PA→Prop) (hs:p20 l_a0=true) (hk:K (e20 (s20 l_a0))):vcFun Try.prog G20 zE6 20 [.one (.sl l_a0.len 3 (fun i=>enc_55 (l_a0.get i)))] K :=
  zau (by kernel_rfl) (zE9 hs hk)
def zFa : List PA → COut
  | [.one (.sl a0_n a0_s a0_g)]=>.det (IsE enc_55 3 a0_s a0_g∧p20 (⟨a0_n,zad a0_g⟩:(Sl Gate))=true) [.one (.bool (s20 (⟨a0_n,zad a0_g⟩:(Sl Gate))))]
  | _=>.no
theorem zIQ:zaf Try.prog 20:=⟨_,rfl,rfl,by kernel_rfl⟩
theorem zOi:Ok Try.prog 20 zFa:=zax zLC zIQ fun args K h=>by
  unfold zFa at h
  split at h
  · rename_i a0_n a0_s a0_g
    obtain ⟨⟨⟨rfl,a0_f,rfl⟩,hs⟩,hk⟩:=h
    try rw [zac a0_f] at hs
    try rw [zac a0_f] at hk
    exact ⟨(fun _ _=>[]),(fun _=>false),zE6,q20 (⟨a0_n,a0_f⟩:(Sl Gate)) K hs hk⟩
  · exact h.elim
abbrev T41:Tabs:=(((Tabs.nil.addF 64 zoO).addF 74 zns).addF 84 zzM)
theorem zLD:TabsOk Try.prog T41:=(((TabsOk.nil.addF zHd).addF zGo).addF zMh)
abbrev G41:Ctrs:=csm T41 (fun _ _=>[]) (fun _=>false)
def zFb:Ann:=⟨47,[(0,zK [0,1] []),(1,zK [0,1,15] []),(2,zK [4] []),(3,zK [0,1,16,17,18] []),(4,zK [0,1,16,17,18,19] []),(5,zK [0,1,5,6,16,17,18] []),(6,zK [0,1,16,17,18,41] []),(7,zK [4] []),(8,zK [0,1,16,17,18] []),(9,zK [4] [])],
 [(4,zK [0,1,16,17,18] [])],
 [(2,zK [0,1,15] []),(3,zK [0,1] []),(7,zK [0,1,16,17,18,41] [])],
 [],[]⟩
abbrev R41:=Bool
abbrev e41 (r:R41):List PA:=[.one (.bool r)]
@[irreducible] def z41:=ptF Try.prog G41 zFb Try.f41
def zBu (zaa:(Sl Gate)) (zbX:(Sl Int)) (zbh:(Sl Int)) (zdp:Int) (zaM:Int) (zdG:Nat→List PV) (zeZ:Nat→List PV):St:=⟨[(0,zS enc_55 3 zaa),(1,zP (.sl zbX.len 1 zdG)),(16,zP (.sl zbh.len 1 zeZ)),(17,zI zdp),(18,zI zaM)],[],[]⟩
abbrev zFc (K:List PA→Prop) (zaa:(Sl Gate)) (X:St→Prop) (P:(Sl Int)→(Sl Int)→Int→Int→Bool) (S:(Sl Int)→(Sl Int)→Int→Int→Bool):Prop:=∀ ⦃zbX:(Sl Int)⦄ ⦃zbh:(Sl Int)⦄ ⦃zdp:Int⦄ ⦃zaM:Int⦄ ⦃zdG:Nat→List PV⦄ ⦃zeZ:Nat→List PV⦄,P zbX zbh zdp zaM=true→K (e41 (S zbX zbh zdp zaM))→zdG=zg enc_3 zbX→zeZ=zg enc_3 zbh→X (zBu zaa zbX zbh zdp zaM zdG zeZ)
section
variable {K:List PA→Prop} {zaa:(Sl Gate)} {set_a1:(Sl Int)} {zaV:(Sl Int)} {zp0:Bool} {zcK:Nat→List PV} {zch:(Sl Int)} {ze0:Nat→List PV} {zbX:(Sl Int)} {zbh:(Sl Int)} {zdp:Int} {zaM:Int} {zdG:Nat→List PV} {zeZ:Nat→List PV} {X2:St→Prop} {P2:(Sl Int)→(Sl Int)→Int→Int→Bool} {S2:(Sl Int)→(Sl Int)→Int→Int→Bool} {ze1:(Sl Int)} {zcE:(Sl Int)} {zp1:Int} {zp2:Int} {zp3:Bool} {zks:Nat→List PV} {zxH:Nat→List PV}
def zkt (S2:(Sl Int)→(Sl Int)→Int→Int→Bool) (zaa:(Sl Gate)) (ze1:(Sl Int)) (zcE:(Sl Int)) (zp1:Int) (zp2:Int) (zp3:Bool):Bool :=
  (cond zp3
 false
 (S2 ze1 zcE zp1 (w64 (zp2+(1:Int)))))
def zku (P2:(Sl Int)→(Sl Int)→Int→Int→Bool) (zaa:(Sl Gate)) (ze1:(Sl Int)) (zcE:(Sl Int)) (zp1:Int) (zp2:Int) (zp3:Bool):Bool :=
  (cond zp3
 true
 (P2 ze1 zcE zp1 (w64 (zp2+(1:Int)))))
theorem zp4 (hX2:zFc K zaa X2 P2 S2) (hs:zku P2 zaa ze1 zcE zp1 zp2 zp3=true) (hk:K (e41 (zkt S2 zaa ze1 zcE zp1 zp2 zp3))) (zp5:zks=zg enc_3 ze1) (zFd:zxH=zg enc_3 zcE):z41 K [1,1,0,1,0,0,1,1,0,0,1,1] [X2] ⟨[(0,zS enc_55 3 zaa),(1,zP (.sl ze1.len 1 zks)),(16,zP (.sl zcE.len 1 zxH)),(17,zI zp1),(18,zI zp2),(41,zB zp3)],[],[]⟩:=by subst zp5;subst zFd;exact zau (by kernel_rfl) (zc hs hk (fun hs hk=>hk) (fun hs hk=>(hX2 hs hk rfl rfl)))
def zhB (zaa:(Sl Gate)) (S2:(Sl Int)→(Sl Int)→Int→Int→Bool) (zbX:(Sl Int)) (zbh:(Sl Int)) (zdp:Int) (zaM:Int):Bool :=
  (cond (decide (zaM < zdp))
 (cond (!(s74 (zbh.get zaM.toNat) (0:Int) (w64 ((zaa.len : Int) - (1:Int)))))
 (zkt S2 zaa zbX zbh zdp zaM true)
 (cond (decide (zaM > (0:Int)))
 (zkt S2 zaa zbX zbh zdp zaM (decide ((zbh.get zaM.toNat)≤(zbX.get ((w64 (zaM - (1:Int))).toNat)))))
 (zkt S2 zaa zbX zbh zdp zaM false)))
 (!(s84 zaa zbX)))
def zhC (zaa:(Sl Gate)) (P2:(Sl Int)→(Sl Int)→Int→Int→Bool) (zbX:(Sl Int)) (zbh:(Sl Int)) (zdp:Int) (zaM:Int):Bool :=
  (cond (decide (zaM < zdp))
 (decide ((0≤zaM∧zaM < (zbh.len:Int))) &&
 (cond (!(s74 (zbh.get zaM.toNat) (0:Int) (w64 ((zaa.len : Int) - (1:Int)))))
 (zku P2 zaa zbX zbh zdp zaM true)
 (cond (decide (zaM > (0:Int)))
 (decide ((0≤(w64 (zaM - (1:Int)))∧(w64 (zaM - (1:Int))) < (zbX.len:Int))) &&
 (zku P2 zaa zbX zbh zdp zaM (decide ((zbh.get zaM.toNat)≤(zbX.get ((w64 (zaM - (1:Int))).toNat))))))
 (zku P2 zaa zbX zbh zdp zaM false))))
 (decide ((p84 zaa zbX=true)) &&
 true))
def zfV (zaa:(Sl Gate)):Nat→(Sl Int)→(Sl Int)→Int→Int→Bool:=lpO (fun _ _ _ _=>default) (zhB zaa)
def zfW (zaa:(Sl Gate)):Nat→(Sl Int)→(Sl Int)→Int→Int→Bool:=lpO (fun _ _ _ _=>false) (zhC zaa)
def zxI (zaa:(Sl Gate)) (zbX:(Sl Int)) (zbh:(Sl Int)) (zdp:Int) (zaM:Int):Bool:=zfV zaa Fuel zbX zbh zdp zaM
def zxJ (zaa:(Sl Gate)) (zbX:(Sl Int)) (zbh:(Sl Int)) (zdp:Int) (zaM:Int):Bool:=zfW zaa Fuel zbX zbh zdp zaM
theorem zFe (hs:zxJ zaa zbX zbh zdp zaM=true) (hk:K (e41 (zxI zaa zbX zbh zdp zaM))) (zkv:zdG=zg enc_3 zbX) (zp6:zeZ=zg enc_3 zbh):z41 K [1,1,0,1,0] [] (zBu zaa zbX zbh zdp zaM zdG zeZ) :=
  zl (fun X=>z41 K [1,1,0,1,0,0] [X]) (by kernel_rfl) fun X2 hX =>
  (show ∀ k, zFc K zaa X2 (zfW zaa k) (zfV zaa k) from zdJ _ _ (zhC zaa) (zhB zaa) (zFc K zaa X2)
 (by intro _ _ _ _ _ _ hs;exact absurd hs Bool.false_ne_true)
 (by intro P2 S2 hX2 zbX zbh zdp zaM zdG zeZ hs hk zkv zp6;subst zkv;subst zp6;exact hX _ (zau (by kernel_rfl) (zc hs hk (fun hs hk=>(zat hs fun hc hs=>And.intro hc (zc hs hk (fun hs hk=>(zp4 hX2 hs hk rfl rfl)) (fun hs hk=>(zc hs hk (fun hs hk=>(zat hs fun hc hs=>And.intro hc (zp4 hX2 hs hk rfl rfl))) (fun hs hk=>(zp4 hX2 hs hk rfl rfl))))))) (fun hs hk=>(zat hs fun hc hs=>And.intro (And.intro (zE enc_55 3 zaa.get) (And.intro (zE enc_3 1 zbX.get) hc)) hk)))))) _ hs hk zkv zp6
def zmx (zaa:(Sl Gate)) (zch:(Sl Int)):Bool :=
  (zxI zaa zch zch (zch.len:Int) (0:Int))
def zmy (zaa:(Sl Gate)) (zch:(Sl Int)):Bool :=
  (zxJ zaa zch zch (zch.len:Int) (0:Int))
theorem zFf (hs:zmy zaa zch=true) (hk:K (e41 (zmx zaa zch))) (zkw:ze0=zg enc_3 zch):z41 K [1,1] [] ⟨[(0,zS enc_55 3 zaa),(1,zP (.sl zch.len 1 ze0))],[],[]⟩:=by subst zkw;exact zau (by kernel_rfl) (zFe hs hk rfl rfl)
def zhD (zaa:(Sl Gate)) (zaV:(Sl Int)) (zp0:Bool):Bool :=
  (cond zp0
 false
 (zmx zaa zaV))
def zhE (zaa:(Sl Gate)) (zaV:(Sl Int)) (zp0:Bool):Bool :=
  (cond zp0
 true
 (zmy zaa zaV))
theorem zxK (hs:zhE zaa zaV zp0=true) (hk:K (e41 (zhD zaa zaV zp0))) (zfX:zcK=zg enc_3 zaV):z41 K [1,0,1] [] ⟨[(0,zS enc_55 3 zaa),(1,zP (.sl zaV.len 1 zcK)),(15,zB zp0)],[],[]⟩:=by subst zfX;exact zau (by kernel_rfl) (zc hs hk (fun hs hk=>hk) (fun hs hk=>(zFf hs hk rfl)))
def s41 (zaa:(Sl Gate)) (set_a1:(Sl Int)):Bool :=
  (cond (!(s64 zaa))
 (zhD zaa set_a1 true)
 (zhD zaa set_a1 (!(s74 (set_a1.len:Int) (2:Int) (3:Int)))))
def p41 (zaa:(Sl Gate)) (set_a1:(Sl Int)):Bool :=
  (decide ((p64 zaa=true)) &&
 (cond (!(s64 zaa))
 (zhE zaa set_a1 true)
 (zhE zaa set_a1 (!(s74 (set_a1.len:Int) (2:Int) (3:Int))))))
end
theorem q41 (zaa:(Sl Gate)) (set_a1:(Sl Int)) (K:List PA→Prop) (hs:p41 zaa set_a1=true) (hk:K (e41 (s41 zaa set_a1))):vcFun Try.prog G41 zFb 41 [.one (.sl zaa.len 3 (fun i=>enc_55 (zaa.get i))),.one (.sl set_a1.len 1 (fun i=>enc_3 (set_a1.get i)))] K :=
  zau (by kernel_rfl) (zat hs fun hc hs=>And.intro (And.intro (zE enc_55 3 zaa.get) hc) (zc hs hk (fun hs hk=>(zxK hs hk rfl)) (fun hs hk=>(zxK hs hk rfl))))
def zFg : List PA → COut
  | [.one (.sl a0_n a0_s a0_g),.one (.sl a1_n a1_s a1_g)]=>.det (IsE enc_55 3 a0_s a0_g∧IsE enc_3 1 a1_s a1_g∧p41 (⟨a0_n,zad a0_g⟩:(Sl Gate)) (⟨a1_n,zaU a1_g⟩:(Sl Int))=true) [.one (.bool (s41 (⟨a0_n,zad a0_g⟩:(Sl Gate)) (⟨a1_n,zaU a1_g⟩:(Sl Int))))]
  | _=>.no
theorem zIR:zaf Try.prog 41:=⟨_,rfl,rfl,by kernel_rfl⟩
theorem zOj:Ok Try.prog 41 zFg:=zax zLD zIR fun args K h=>by
  unfold zFg at h
  split at h
  · rename_i a0_n a0_s a0_g a1_n a1_s a1_g
    obtain ⟨⟨⟨rfl,a0_f,rfl⟩,⟨rfl,a1_f,rfl⟩,hs⟩,hk⟩:=h
    try rw [zac a0_f] at hs
    try rw [zac a0_f] at hk
    try rw [zbn a1_f] at hs
    try rw [zbn a1_f] at hk
    exact ⟨(fun _ _=>[]),(fun _=>false),zFb,q41 (⟨a0_n,a0_f⟩:(Sl Gate)) (⟨a1_n,a1_f⟩:(Sl Int)) K hs hk⟩
  · exact h.elim
abbrev T22:Tabs:=Tabs.nil
theorem zLE:TabsOk Try.prog T22:=TabsOk.nil
abbrev G22:Ctrs:=csm T22 (fun _ _=>[]) (fun _=>false)
def zFh:Ann:=⟨20,[(0,zK [0] []),(1,zK [0,3] []),(2,zK [0,3,7] []),(3,zK [0,3] []),(4,zK [0,3,19] []),(5,zK [2] []),(6,zK [2] [])],
 [(2,zK [0,3] [])],
 [],
 [],[]⟩
abbrev R22:=Bool
abbrev e22 (r:R22):List PA:=[.one (.bool r)]
@[irreducible] def z22:=ptF Try.prog G22 zFh Try.f22
def zBv (zaa:(Sl Gate)) (iv0:Int):St:=⟨[(0,zS enc_55 3 zaa),(3,zI iv0)],[],[]⟩
abbrev zIS (K:List PA→Prop) (zaa:(Sl Gate)) (X:St→Prop) (P:Int→Bool) (S:Int→Bool):Prop:=∀ ⦃iv0:Int⦄,P iv0=true→K (e22 (S iv0))→X (zBv zaa iv0)
section
variable {K:List PA→Prop} {zaa:(Sl Gate)} {iv0:Int} {X0:St→Prop} {P0:Int→Bool} {S0:Int→Bool}
def zhF (zaa:(Sl Gate)) (S0:Int→Bool) (iv0:Int):Bool :=
  (cond (decide (iv0 < (zaa.len : Int)))
 (cond ((zaa.get iv0.toNat).Z != (zaa.get 0).Z)
 false
 (S0 (w64 (iv0+(1:Int)))))
 true)
def zhG (zaa:(Sl Gate)) (P0:Int→Bool) (iv0:Int):Bool :=
  (cond (decide (iv0 < (zaa.len : Int)))
 (decide ((0≤iv0∧iv0 < (zaa.len:Int))) &&
 (decide ((0≤(0:Int)∧(0:Int) < (zaa.len:Int))) &&
 (cond ((zaa.get iv0.toNat).Z != (zaa.get 0).Z)
 true
 (P0 (w64 (iv0+(1:Int)))))))
 true)
def zhH (zaa:(Sl Gate)):Nat→Int→Bool:=lpO (fun _=>default) (zhF zaa)
def zhI (zaa:(Sl Gate)):Nat→Int→Bool:=lpO (fun _=>false) (zhG zaa)
def zxL (zaa:(Sl Gate)) (iv0:Int):Bool:=zhH zaa Fuel iv0
def zxM (zaa:(Sl Gate)) (iv0:Int):Bool:=zhI zaa Fuel iv0
theorem zFi (hs:zxM zaa iv0=true) (hk:K (e22 (zxL zaa iv0))):z22 K [1,0,1,0] [] (zBv zaa iv0) :=
  zl (fun X=>z22 K [1,0,1,0,0] [X]) (by kernel_rfl) fun X0 hX =>
  (show ∀ k, zIS K zaa X0 (zhI zaa k) (zhH zaa k) from zdJ _ _ (zhG zaa) (zhF zaa) (zIS K zaa X0)
 (by intro _ hs;exact absurd hs Bool.false_ne_true)
 (by intro P0 S0 hX0 iv0 hs hk;exact hX _ (zau (by kernel_rfl) (zc hs hk (fun hs hk=>(zat hs fun hc hs=>And.intro hc (zat hs fun hc hs=>And.intro hc (zc hs hk (fun hs hk=>hk) (fun hs hk=>(hX0 hs hk)))))) (fun hs hk=>hk))))) _ hs hk
def s22 (zaa:(Sl Gate)):Bool :=
  (zxL zaa (1:Int))
def p22 (zaa:(Sl Gate)):Bool :=
  (zxM zaa (1:Int))
end
theorem q22 (zaa:(Sl Gate)) (K:List PA→Prop) (hs:p22 zaa=true) (hk:K (e22 (s22 zaa))):vcFun Try.prog G22 zFh 22 [.one (.sl zaa.len 3 (fun i=>enc_55 (zaa.get i)))] K :=
  zau (by kernel_rfl) (zFi hs hk)
def zFj : List PA → COut
  | [.one (.sl a0_n a0_s a0_g)]=>.det (IsE enc_55 3 a0_s a0_g∧p22 (⟨a0_n,zad a0_g⟩:(Sl Gate))=true) [.one (.bool (s22 (⟨a0_n,zad a0_g⟩:(Sl Gate))))]
  | _=>.no
theorem zIT:zaf Try.prog 22:=⟨_,rfl,rfl,by kernel_rfl⟩
theorem zOk:Ok Try.prog 22 zFj:=zax zLE zIT fun args K h=>by
  unfold zFj at h
  split at h
  · rename_i a0_n a0_s a0_g
    obtain ⟨⟨⟨rfl,a0_f,rfl⟩,hs⟩,hk⟩:=h
    try rw [zac a0_f] at hs
    try rw [zac a0_f] at hk
    exact ⟨(fun _ _=>[]),(fun _=>false),zFh,q22 (⟨a0_n,a0_f⟩:(Sl Gate)) K hs hk⟩
  · exact h.elim
abbrev zMH:Tabs:=Tabs.nil
theorem zIU:TabsOk Try.prog zMH:=TabsOk.nil
abbrev zOl:Ctrs:=csm zMH (fun _ _=>[]) (fun _=>false)
def zBw:Ann:=⟨30,[(0,zK [1,2] [2]),(1,zK [4,5] [])],
 [],
 [],
 [],[]⟩
abbrev zOm:=(Int×Int)
abbrev zOn (r:zOm):List PA:=[.one (.int .i64 r.1),.one (.int .i64 r.2)]
section
variable {K:List PA→Prop} {l_a0:Line} {z:Int}
def zp7 (l_a0:Line) (z:Int):(Int×Int) :=
  ((w64 ((w64 (l_a0.Start.Num * l_a0.Slope.Den))+(w64 ((w64 (l_a0.Slope.Num * z)) * l_a0.Start.Den)))),(w64 (l_a0.Start.Den * l_a0.Slope.Den)))
end
theorem zOo (l_a0:Line) (z:Int) (K:List PA→Prop) (hk:K (zOn (zp7 l_a0 z))):vcFun Try.prog zOl zBw 104 [.agg (zaw l_a0),.one (.int .i64 z)] K :=
  zau (by kernel_rfl) hk
def zr2 : List PA → COut
  | [.agg [.int .i64 a0_Slope_Num,.int .i64 a0_Slope_Den,.int .i64 a0_Start_Num,.int .i64 a0_Start_Den],.one (.int .i64 a1)]=>.tot [.one (.int .i64 ((zp7 (⟨(⟨a0_Slope_Num,a0_Slope_Den⟩:Frac),(⟨a0_Start_Num,a0_Start_Den⟩:Frac)⟩:Line) a1).1)),.one (.int .i64 ((zp7 (⟨(⟨a0_Slope_Num,a0_Slope_Den⟩:Frac),(⟨a0_Start_Num,a0_Start_Den⟩:Frac)⟩:Line) a1).2))]
  | _=>.no
theorem zFk:zaf Try.prog 104:=⟨_,rfl,rfl,by kernel_rfl⟩
theorem zIV:Ok Try.prog 104 zr2:=zax zIU zFk fun args K h=>by
  unfold zr2 at h
  split at h
  · rename_i a0_Slope_Num a0_Slope_Den a0_Start_Num a0_Start_Den a1
    have hk:=h
    exact ⟨(fun _ _=>[]),(fun _=>false),zBw,zOo (⟨(⟨a0_Slope_Num,a0_Slope_Den⟩:Frac),(⟨a0_Start_Num,a0_Start_Den⟩:Frac)⟩:Line) a1 K hk⟩
  · exact h.elim
abbrev T72:Tabs:=(Tabs.nil.addF 104 zr2)
theorem zLF:TabsOk Try.prog T72:=(TabsOk.nil.addF zIV)
abbrev G72:Ctrs:=csm T72 (fun _ _=>[]) (fun _=>false)
def zIW:Ann:=⟨28,[(0,zK [2,3] [2,3]),(1,zK [3,5,6] [3]),(2,zK [4] [])],
 [],
 [],
 [],[]⟩
abbrev R72:=Bool
abbrev e72 (r:R72):List PA:=[.one (.bool r)]
section
variable {K:List PA→Prop} {l_a0:Line} {g:Gate}
def s72 (l_a0:Line) (g:Gate):Bool :=
  (cond (decide ((w64 (g.Low * ((zp7 l_a0 g.Z).2))) ≤ ((zp7 l_a0 g.Z).1)))
 (decide (((zp7 l_a0 g.Z).1)≤(w64 (g.High * ((zp7 l_a0 g.Z).2)))))
 false)
end
theorem q72 (l_a0:Line) (g:Gate) (K:List PA→Prop) (hk:K (e72 (s72 l_a0 g))):vcFun Try.prog G72 zIW 72 [.agg (zaw l_a0),.agg (enc_55 g)] K :=
  zau (by kernel_rfl) (zt hk (fun hk=>hk) (fun hk=>hk))
def zFl : List PA → COut
  | [.agg [.int .i64 a0_Slope_Num,.int .i64 a0_Slope_Den,.int .i64 a0_Start_Num,.int .i64 a0_Start_Den],.agg [.int .i64 a1_Z,.int .i64 a1_Low,.int .i64 a1_High]]=>.tot [.one (.bool (s72 (⟨(⟨a0_Slope_Num,a0_Slope_Den⟩:Frac),(⟨a0_Start_Num,a0_Start_Den⟩:Frac)⟩:Line) (⟨a1_Z,a1_Low,a1_High⟩:Gate)))]
  | _=>.no
theorem zIX:zaf Try.prog 72:=⟨_,rfl,rfl,by kernel_rfl⟩
theorem zOp:Ok Try.prog 72 zFl:=zax zLF zIX fun args K h=>by
  unfold zFl at h
  split at h
  · rename_i a0_Slope_Num a0_Slope_Den a0_Start_Num a0_Start_Den a1_Z a1_Low a1_High
    have hk:=h
    exact ⟨(fun _ _=>[]),(fun _=>false),zIW,q72 (⟨(⟨a0_Slope_Num,a0_Slope_Den⟩:Frac),(⟨a0_Start_Num,a0_Start_Den⟩:Frac)⟩:Line) (⟨a1_Z,a1_Low,a1_High⟩:Gate) K hk⟩
  · exact h.elim
abbrev T27:Tabs:=(Tabs.nil.addF 72 zFl)
theorem zLG:TabsOk Try.prog T27:=(TabsOk.nil.addF zOp)
abbrev G27:Ctrs:=csm T27 (fun _ _=>[]) (fun _=>false)
def zFm:Ann:=⟨24,[(0,zK [1,2] [2]),(1,zK [1,2,5] [2]),(2,zK [1,2,5,6] [2]),(3,zK [1,2,5,6,10] [2,22]),(4,zK [1,2,5,6] [2,22]),(5,zK [1,2,5,6,18] [2,22]),(6,zK [1,2,5,6] [2,22]),(7,zK [4] [22])],
 [(3,⟨[1,2,5,6],[2,22],[(5,22,3,fun _=>enc_3 default)],[],[],[],[]⟩)],
 [(6,zK [1,2,5,6,18] [2,22])],
 [],[]⟩
abbrev R27:=(Sl Int)
abbrev e27 (r:R27):List PA:=[.one (.sl r.len 1 (fun i=>enc_3 (r.get i)))]
@[irreducible] def z27:=ptF Try.prog G27 zFm Try.f27
def zBx (l_a0:Line) (zaa:(Sl Gate)) (iv0:Int) (zbu:(Sl Int)) (zce:Nat→List PV):St:=⟨[(1,zS enc_55 3 zaa),(2,zp 2 0),(5,zv 22),(6,zI iv0)],[(2,.box 37 (zm (zaw l_a0))),(22,.vec 3 1 8 zbu.len zce)],[]⟩
abbrev zFn (K:List PA→Prop) (l_a0:Line) (zaa:(Sl Gate)) (X:St→Prop) (P:Int→(Sl Int)→Bool) (S:Int→(Sl Int)→(Sl Int)):Prop:=∀ ⦃iv0:Int⦄ ⦃zbu:(Sl Int)⦄ ⦃zce:Nat→List PV⦄,P iv0 zbu=true→K (e27 (S iv0 zbu))→zce=zg enc_3 zbu→X (zBx l_a0 zaa iv0 zbu zce)
section
variable {K:List PA→Prop} {l_a0:Line} {zaa:(Sl Gate)} {iv0:Int} {zbu:(Sl Int)} {zce:Nat→List PV} {X0:St→Prop} {P0:Int→(Sl Int)→Bool} {S0:Int→(Sl Int)→(Sl Int)} {iv1:Int} {zp8:Bool} {ze2:(Sl Int)} {zxN:Nat→List PV}
def zp9 (S0:Int→(Sl Int)→(Sl Int)) (l_a0:Line) (zaa:(Sl Gate)) (iv1:Int) (zp8:Bool) (ze2:(Sl Int)):(Sl Int) :=
  (cond zp8
 (S0 (w64 (iv1+(1:Int))) (⟨(ze2.len+1),(zdi ze2.len ze2.get (fun _=>iv1))⟩:Sl Int))
 (S0 (w64 (iv1+(1:Int))) ze2))
def zqa (P0:Int→(Sl Int)→Bool) (l_a0:Line) (zaa:(Sl Gate)) (iv1:Int) (zp8:Bool) (ze2:(Sl Int)):Bool :=
  (cond zp8
 (decide (((ze2.len+1) * 8≤140737488355328∧ze2.len+1≤9223372036854775807)) &&
 (P0 (w64 (iv1+(1:Int))) (⟨(ze2.len+1),(zdi ze2.len ze2.get (fun _=>iv1))⟩:Sl Int)))
 (P0 (w64 (iv1+(1:Int))) ze2))
theorem zFo (hX0:zFn K l_a0 zaa X0 P0 S0) (hs:zqa P0 l_a0 zaa iv1 zp8 ze2=true) (hk:K (e27 (zp9 S0 l_a0 zaa iv1 zp8 ze2))) (zFp:zxN=zg enc_3 ze2):z27 K [1,1,0,1,0,0,1,0,0,1] [X0] ⟨[(1,zS enc_55 3 zaa),(2,zp 2 0),(5,zv 22),(6,zI iv1),(18,zB zp8)],[(2,.box 37 (zm (zaw l_a0))),(22,.vec 3 1 8 ze2.len zxN)],[]⟩:=by subst zFp;exact zau (by kernel_rfl) (zc hs hk (fun hs hk=>(zat hs fun hc hs=>And.intro hc (hX0 hs hk (zd2 (enc:=enc_3) (f:=ze2.get) (h:=(fun _=>iv1)) rfl rfl)))) (fun hs hk=>(hX0 hs hk rfl)))
def zhJ (l_a0:Line) (zaa:(Sl Gate)) (S0:Int→(Sl Int)→(Sl Int)) (iv0:Int) (zbu:(Sl Int)):(Sl Int) :=
  (cond (decide (iv0 < (zaa.len : Int)))
 (zp9 S0 l_a0 zaa iv0 (s72 l_a0 (zaa.get iv0.toNat)) zbu)
 zbu)
def zhK (l_a0:Line) (zaa:(Sl Gate)) (P0:Int→(Sl Int)→Bool) (iv0:Int) (zbu:(Sl Int)):Bool :=
  (cond (decide (iv0 < (zaa.len : Int)))
 (decide ((0≤iv0∧iv0 < (zaa.len:Int))) &&
 (zqa P0 l_a0 zaa iv0 (s72 l_a0 (zaa.get iv0.toNat)) zbu))
 true)
def zhL (l_a0:Line) (zaa:(Sl Gate)):Nat→Int→(Sl Int)→(Sl Int):=lpO (fun _ _=>default) (zhJ l_a0 zaa)
def zhM (l_a0:Line) (zaa:(Sl Gate)):Nat→Int→(Sl Int)→Bool:=lpO (fun _ _=>false) (zhK l_a0 zaa)
def zxO (l_a0:Line) (zaa:(Sl Gate)) (iv0:Int) (zbu:(Sl Int)):(Sl Int):=zhL l_a0 zaa Fuel iv0 zbu
def zxP (l_a0:Line) (zaa:(Sl Gate)) (iv0:Int) (zbu:(Sl Int)):Bool:=zhM l_a0 zaa Fuel iv0 zbu
theorem zFq (hs:zxP l_a0 zaa iv0 zbu=true) (hk:K (e27 (zxO l_a0 zaa iv0 zbu))) (zfY:zce=zg enc_3 zbu):z27 K [1,1,0,1,0] [] (zBx l_a0 zaa iv0 zbu zce) :=
  zl (fun X=>z27 K [1,1,0,1,0,0] [X]) (by kernel_rfl) fun X0 hX =>
  (show ∀ k, zFn K l_a0 zaa X0 (zhM l_a0 zaa k) (zhL l_a0 zaa k) from zdJ _ _ (zhK l_a0 zaa) (zhJ l_a0 zaa) (zFn K l_a0 zaa X0)
 (by intro _ _ _ hs;exact absurd hs Bool.false_ne_true)
 (by intro P0 S0 hX0 iv0 zbu zce hs hk zfY;subst zfY;exact hX _ (zau (by kernel_rfl) (zc hs hk (fun hs hk=>(zat hs fun hc hs=>And.intro hc (zFo hX0 hs hk rfl))) (fun hs hk=>hk))))) _ hs hk zfY
def s27 (l_a0:Line) (zaa:(Sl Gate)):(Sl Int) :=
  (zxO l_a0 zaa (0:Int) (⟨0,(fun _=>default)⟩:Sl Int))
def p27 (l_a0:Line) (zaa:(Sl Gate)):Bool :=
  (zxP l_a0 zaa (0:Int) (⟨0,(fun _=>default)⟩:Sl Int))
end
theorem q27 (l_a0:Line) (zaa:(Sl Gate)) (K:List PA→Prop) (hs:p27 l_a0 zaa=true) (hk:K (e27 (s27 l_a0 zaa))):vcFun Try.prog G27 zFm 27 [.agg (zaw l_a0),.one (.sl zaa.len 3 (fun i=>enc_55 (zaa.get i)))] K :=
  zau (by kernel_rfl) (zFq hs hk rfl)
def zFr : List PA → COut
  | [.agg [.int .i64 a0_Slope_Num,.int .i64 a0_Slope_Den,.int .i64 a0_Start_Num,.int .i64 a0_Start_Den],.one (.sl a1_n a1_s a1_g)]=>.det (IsE enc_55 3 a1_s a1_g∧p27 (⟨(⟨a0_Slope_Num,a0_Slope_Den⟩:Frac),(⟨a0_Start_Num,a0_Start_Den⟩:Frac)⟩:Line) (⟨a1_n,zad a1_g⟩:(Sl Gate))=true) [.one (.sl ((s27 (⟨(⟨a0_Slope_Num,a0_Slope_Den⟩:Frac),(⟨a0_Start_Num,a0_Start_Den⟩:Frac)⟩:Line) (⟨a1_n,zad a1_g⟩:(Sl Gate))).len) 1 (fun i=>enc_3 ((s27 (⟨(⟨a0_Slope_Num,a0_Slope_Den⟩:Frac),(⟨a0_Start_Num,a0_Start_Den⟩:Frac)⟩:Line) (⟨a1_n,zad a1_g⟩:(Sl Gate))).get i)))]
  | _=>.no
theorem zIY:zaf Try.prog 27:=⟨_,rfl,rfl,by kernel_rfl⟩
theorem zOq:Ok Try.prog 27 zFr:=zax zLG zIY fun args K h=>by
  unfold zFr at h
  split at h
  · rename_i a0_Slope_Num a0_Slope_Den a0_Start_Num a0_Start_Den a1_n a1_s a1_g
    obtain ⟨⟨⟨rfl,a1_f,rfl⟩,hs⟩,hk⟩:=h
    try rw [zac a1_f] at hs
    try rw [zac a1_f] at hk
    exact ⟨(fun _ _=>[]),(fun _=>false),zFm,q27 (⟨(⟨a0_Slope_Num,a0_Slope_Den⟩:Frac),(⟨a0_Start_Num,a0_Start_Den⟩:Frac)⟩:Line) (⟨a1_n,a1_f⟩:(Sl Gate)) K hs hk⟩
  · exact h.elim
abbrev T26:Tabs:=(Tabs.nil.addF 40 zz9)
theorem zLH:TabsOk Try.prog T26:=(TabsOk.nil.addF zME)
abbrev G26:Ctrs:=csm T26 (fun _ _=>[]) (fun _=>false)
def zFs:Ann:=⟨35,[(0,zK [0,1,2,3,8] [8]),(1,zK [0,1,2,3,8,11] [8]),(2,zK [0,1,2,3,8] [8]),(3,zK [8] [8])],
 [],
 [(3,zK [0,1,2,3,8] [8])],
 [],[]⟩
abbrev R26:=Line
abbrev e26 (r:R26):List PA:=[.agg [.int .i64 r.Slope.Num,.int .i64 r.Slope.Den,.int .i64 r.Start.Num,.int .i64 r.Start.Den]]
@[irreducible] def z26:=ptF Try.prog G26 zFs Try.f26
section
variable {K:List PA→Prop} {z:Int} {x:Int} {w:Int} {y_a3:Int} {zv0:Int} {xv0:Int} {wv0:Int} {yv0:Int}
def zmz (zv0:Int) (xv0:Int) (wv0:Int) (yv0:Int):Line :=
  (⟨(s40 (w64 (yv0 - xv0)) (w64 (wv0 - zv0))),(s40 (w64 ((w64 (xv0 * wv0)) - (w64 (yv0 * zv0)))) (w64 (wv0 - zv0)))⟩:Line)
def zmA (zv0:Int) (xv0:Int) (wv0:Int) (yv0:Int):Bool :=
  (decide ((p40 (w64 (yv0 - xv0)) (w64 (wv0 - zv0))=true)) &&
 (decide ((p40 (w64 ((w64 (xv0 * wv0)) - (w64 (yv0 * zv0)))) (w64 (wv0 - zv0))=true)) &&
 true))
theorem zxQ (hs:zmA zv0 xv0 wv0 yv0=true) (hk:K (e26 (zmz zv0 xv0 wv0 yv0))):z26 K [1,1] [] ⟨[(0,zI zv0),(1,zI xv0),(2,zI wv0),(3,zI yv0),(8,zp 8 0)],[(8,.box 37 (zm (zaw (⟨(⟨(0:Int),(0:Int)⟩:Frac),(⟨(0:Int),(0:Int)⟩:Frac)⟩:Line))))],[]⟩:=zau (by kernel_rfl) (zat hs fun hc hs=>And.intro hc (zat hs fun hc hs=>And.intro hc hk))
def s26 (z:Int) (x:Int) (w:Int) (y_a3:Int):Line :=
  (cond (decide (w < z))
 (zmz w y_a3 z x)
 (zmz z x w y_a3))
def p26 (z:Int) (x:Int) (w:Int) (y_a3:Int):Bool :=
  (cond (decide (w < z))
 (zmA w y_a3 z x)
 (zmA z x w y_a3))
end
theorem q26 (z:Int) (x:Int) (w:Int) (y_a3:Int) (K:List PA→Prop) (hs:p26 z x w y_a3=true) (hk:K (e26 (s26 z x w y_a3))):vcFun Try.prog G26 zFs 26 [.one (.int .i64 z),.one (.int .i64 x),.one (.int .i64 w),.one (.int .i64 y_a3)] K :=
  zau (by kernel_rfl) (zc hs hk (fun hs hk=>(zxQ hs hk)) (fun hs hk=>(zxQ hs hk)))
def zFt : List PA → COut
  | [.one (.int .i64 a0),.one (.int .i64 a1),.one (.int .i64 a2),.one (.int .i64 a3)]=>.det (p26 a0 a1 a2 a3=true) [.agg [.int .i64 ((s26 a0 a1 a2 a3).Slope.Num),.int .i64 ((s26 a0 a1 a2 a3).Slope.Den),.int .i64 ((s26 a0 a1 a2 a3).Start.Num),.int .i64 ((s26 a0 a1 a2 a3).Start.Den)]]
  | _=>.no
theorem zIZ:zaf Try.prog 26:=⟨_,rfl,rfl,by kernel_rfl⟩
theorem zOr:Ok Try.prog 26 zFt:=zax zLH zIZ fun args K h=>by
  unfold zFt at h
  split at h
  · rename_i a0 a1 a2 a3
    obtain ⟨hs,hk⟩:=h
    exact ⟨(fun _ _=>[]),(fun _=>false),zFs,q26 a0 a1 a2 a3 K hs hk⟩
  · exact h.elim
abbrev zMI:Tabs:=Tabs.nil
theorem zI0:TabsOk Try.prog zMI:=TabsOk.nil
abbrev zOs:Ctrs:=csm zMI (fun _ _=>[]) (fun _=>false)
def zBy:Ann:=⟨11,[(0,zK [1,2] [2]),(1,zK [2,6] [2]),(2,zK [4] []),(3,zK [4] [])],
 [],
 [],
 [],[]⟩
abbrev zOt:=Int
abbrev e109 (r:zOt):List PA:=[.one (.int .i64 r)]
section
variable {K:List PA→Prop} {g:Gate} {which:Int}
def zr3 (g:Gate) (which:Int):Int :=
  (cond (which == (0:Int))
 g.Low
 g.High)
end
theorem zOu (g:Gate) (which:Int) (K:List PA→Prop) (hk:K (e109 (zr3 g which))):vcFun Try.prog zOs zBy 109 [.agg (enc_55 g),.one (.int .i64 which)] K :=
  zau (by kernel_rfl) (zt hk (fun hk=>hk) (fun hk=>hk))
def zxR : List PA → COut
  | [.agg [.int .i64 a0_Z,.int .i64 a0_Low,.int .i64 a0_High],.one (.int .i64 a1)]=>.tot [.one (.int .i64 (zr3 (⟨a0_Z,a0_Low,a0_High⟩:Gate) a1))]
  | _=>.no
theorem zFu:zaf Try.prog 109:=⟨_,rfl,rfl,by kernel_rfl⟩
theorem zLI:Ok Try.prog 109 zxR:=zax zI0 zFu fun args K h=>by
  unfold zxR at h
  split at h
  · rename_i a0_Z a0_Low a0_High a1
    have hk:=h
    exact ⟨(fun _ _=>[]),(fun _=>false),zBy,zOu (⟨a0_Z,a0_Low,a0_High⟩:Gate) a1 K hk⟩
  · exact h.elim
abbrev T80:Tabs:=((Tabs.nil.addF 26 zFt).addF 109 zxR)
theorem zLJ:TabsOk Try.prog T80:=((TabsOk.nil.addF zOr).addF zLI)
abbrev G80:Ctrs:=csm T80 (fun _ _=>[]) (fun _=>false)
def zFv:Ann:=⟨67,[(0,zK [0] []),(1,zK [0,3] []),(2,zK [0,3,4] []),(3,zK [0,3,4,10] [65]),(4,zK [0,3,4] [65]),(5,zK [0,3,4,5] [65]),(6,zK [0,3,4,5,18] [65]),(7,zK [0,3,4,5] [65]),(8,zK [0,3,4,5,6] [65]),(9,zK [0,3,4,5,6,35] [65]),(10,zK [0,3,4,5,6] [65]),(11,zK [0,3,4,5,6] [65]),(12,zK [2] [65])],
 [(3,⟨[0,3,4],[65],[(3,65,37,fun _=>zaw default)],[],[],[],[]⟩),(6,⟨[0,3,4,5],[65],[(3,65,37,fun _=>zaw default)],[],[],[],[]⟩),(9,⟨[0,3,4,5,6],[65],[(3,65,37,fun _=>zaw default)],[],[],[],[]⟩)],
 [],
 [],[]⟩
abbrev R80:=(Sl Line)
abbrev e80 (r:R80):List PA:=[.one (.sl r.len 4 (fun i=>zaw (r.get i)))]
@[irreducible] def z80:=ptF Try.prog G80 zFv Try.f80
def zBz (zaa:(Sl Gate)) (iv0:Int) (zdT:(Sl Line)) (ze3:Nat→List PV):St:=⟨[(0,zS enc_55 3 zaa),(3,zv 65),(4,zI iv0)],[(65,.vec 37 4 32 zdT.len ze3)],[]⟩
abbrev zAd (K:List PA→Prop) (zaa:(Sl Gate)) (X:St→Prop) (P:Int→(Sl Line)→Bool) (S:Int→(Sl Line)→(Sl Line)):Prop:=∀ ⦃iv0:Int⦄ ⦃zdT:(Sl Line)⦄ ⦃ze3:Nat→List PV⦄,P iv0 zdT=true→K (e80 (S iv0 zdT))→ze3=zg zaw zdT→X (zBz zaa iv0 zdT ze3)
def zBA (zaa:(Sl Gate)) (iv1:Int) (kv1:Int) (zdK:(Sl Line)) (ze4:Nat→List PV):St:=⟨[(0,zS enc_55 3 zaa),(3,zv 65),(4,zI iv1),(5,zI kv1)],[(65,.vec 37 4 32 zdK.len ze4)],[]⟩
abbrev zFw (K:List PA→Prop) (zaa:(Sl Gate)) (X:St→Prop) (P:Int→Int→(Sl Line)→Bool) (S:Int→Int→(Sl Line)→(Sl Line)):Prop:=∀ ⦃iv1:Int⦄ ⦃kv1:Int⦄ ⦃zdK:(Sl Line)⦄ ⦃ze4:Nat→List PV⦄,P iv1 kv1 zdK=true→K (e80 (S iv1 kv1 zdK))→ze4=zg zaw zdK→X (zBA zaa iv1 kv1 zdK ze4)
def zBB (zaa:(Sl Gate)) (iv2:Int) (kv2:Int) (ev2:Int) (zcu:(Sl Line)) (ze5:Nat→List PV):St:=⟨[(0,zS enc_55 3 zaa),(3,zv 65),(4,zI iv2),(5,zI kv2),(6,zI ev2)],[(65,.vec 37 4 32 zcu.len ze5)],[]⟩
abbrev zI1 (K:List PA→Prop) (zaa:(Sl Gate)) (X:St→Prop) (P:Int→Int→Int→(Sl Line)→Bool) (S:Int→Int→Int→(Sl Line)→(Sl Line)):Prop:=∀ ⦃iv2:Int⦄ ⦃kv2:Int⦄ ⦃ev2:Int⦄ ⦃zcu:(Sl Line)⦄ ⦃ze5:Nat→List PV⦄,P iv2 kv2 ev2 zcu=true→K (e80 (S iv2 kv2 ev2 zcu))→ze5=zg zaw zcu→X (zBB zaa iv2 kv2 ev2 zcu ze5)
section
variable {K:List PA→Prop} {zaa:(Sl Gate)} {iv0:Int} {zdT:(Sl Line)} {ze3:Nat→List PV} {X0:St→Prop} {P0:Int→(Sl Line)→Bool} {S0:Int→(Sl Line)→(Sl Line)} {iv1:Int} {kv1:Int} {zdK:(Sl Line)} {ze4:Nat→List PV} {X1:St→Prop} {P1:Int→Int→(Sl Line)→Bool} {S1:Int→Int→(Sl Line)→(Sl Line)} {iv2:Int} {kv2:Int} {ev2:Int} {zcu:(Sl Line)} {ze5:Nat→List PV} {X2:St→Prop} {P2:Int→Int→Int→(Sl Line)→Bool} {S2:Int→Int→Int→(Sl Line)→(Sl Line)}
def ze6 (S0:Int→(Sl Line)→(Sl Line)) (S1:Int→Int→(Sl Line)→(Sl Line)) (zaa:(Sl Gate)) (S2:Int→Int→Int→(Sl Line)→(Sl Line)) (iv2:Int) (kv2:Int) (ev2:Int) (zcu:(Sl Line)):(Sl Line) :=
  (cond (decide (ev2 < (4:Int)))
 (cond ((zaa.get iv2.toNat).Z != (zaa.get kv2.toNat).Z)
 (S2 iv2 kv2 (w64 (ev2+(1:Int))) (⟨(zcu.len+1),(zdi zcu.len zcu.get (fun _=>(s26 ((zaa.get iv2.toNat).Z) (zr3 (zaa.get iv2.toNat) (w64 (ev2.tdiv (2:Int)))) ((zaa.get kv2.toNat).Z) (zr3 (zaa.get kv2.toNat) (ev2.tmod (2:Int))))))⟩:Sl Line))
 (S1 iv2 (w64 (kv2+(1:Int))) zcu))
 (S1 iv2 (w64 (kv2+(1:Int))) zcu))
def ze7 (P0:Int→(Sl Line)→Bool) (P1:Int→Int→(Sl Line)→Bool) (zaa:(Sl Gate)) (P2:Int→Int→Int→(Sl Line)→Bool) (iv2:Int) (kv2:Int) (ev2:Int) (zcu:(Sl Line)):Bool :=
  (cond (decide (ev2 < (4:Int)))
 (decide ((0≤iv2∧iv2 < (zaa.len:Int))) &&
 (decide ((0≤kv2∧kv2 < (zaa.len:Int))) &&
 (cond ((zaa.get iv2.toNat).Z != (zaa.get kv2.toNat).Z)
 (decide ((0≤iv2∧iv2 < (zaa.len:Int))) &&
 (decide ((0≤iv2∧iv2 < (zaa.len:Int))) &&
 (decide (((2:Int) ≠ 0)) &&
 (decide ((0≤kv2∧kv2 < (zaa.len:Int))) &&
 (decide ((0≤kv2∧kv2 < (zaa.len:Int))) &&
 (decide (((2:Int) ≠ 0)) &&
 (decide ((p26 ((zaa.get iv2.toNat).Z) (zr3 (zaa.get iv2.toNat) (w64 (ev2.tdiv (2:Int)))) ((zaa.get kv2.toNat).Z) (zr3 (zaa.get kv2.toNat) (ev2.tmod (2:Int)))=true)) &&
 (decide (((zcu.len+1) * 32≤140737488355328∧zcu.len+1≤9223372036854775807)) &&
 (P2 iv2 kv2 (w64 (ev2+(1:Int))) (⟨(zcu.len+1),(zdi zcu.len zcu.get (fun _=>(s26 ((zaa.get iv2.toNat).Z) (zr3 (zaa.get iv2.toNat) (w64 (ev2.tdiv (2:Int)))) ((zaa.get kv2.toNat).Z) (zr3 (zaa.get kv2.toNat) (ev2.tmod (2:Int))))))⟩:Sl Line))))))))))
 (P1 iv2 (w64 (kv2+(1:Int))) zcu))))
 (P1 iv2 (w64 (kv2+(1:Int))) zcu))
def zc9 (S0:Int→(Sl Line)→(Sl Line)) (S1:Int→Int→(Sl Line)→(Sl Line)) (zaa:(Sl Gate)):Nat→Int→Int→Int→(Sl Line)→(Sl Line):=lpO (fun _ _ _ _=>default) (ze6 S0 S1 zaa)
def zda (P0:Int→(Sl Line)→Bool) (P1:Int→Int→(Sl Line)→Bool) (zaa:(Sl Gate)):Nat→Int→Int→Int→(Sl Line)→Bool:=lpO (fun _ _ _ _=>false) (ze7 P0 P1 zaa)
def zqb (S0:Int→(Sl Line)→(Sl Line)) (S1:Int→Int→(Sl Line)→(Sl Line)) (zaa:(Sl Gate)) (iv2:Int) (kv2:Int) (ev2:Int) (zcu:(Sl Line)):(Sl Line):=zc9 S0 S1 zaa Fuel iv2 kv2 ev2 zcu
def zqc (P0:Int→(Sl Line)→Bool) (P1:Int→Int→(Sl Line)→Bool) (zaa:(Sl Gate)) (iv2:Int) (kv2:Int) (ev2:Int) (zcu:(Sl Line)):Bool:=zda P0 P1 zaa Fuel iv2 kv2 ev2 zcu
theorem zFx (hX0:zAd K zaa X0 P0 S0) (hX1:zFw K zaa X1 P1 S1) (hs:zqc P0 P1 zaa iv2 kv2 ev2 zcu=true) (hk:K (e80 (zqb S0 S1 zaa iv2 kv2 ev2 zcu))) (zqd:ze5=zg zaw zcu):z80 K [1,1,0,1,0,0,1,0,0,1,0,0,1,0,0,1,0] [X0,X1] (zBB zaa iv2 kv2 ev2 zcu ze5) :=
  zl (fun X=>z80 K [1,1,0,1,0,0,1,0,0,1,0,0,1,0,0,1,0,0] [X0,X1,X]) (by kernel_rfl) fun X2 hX =>
  (show ∀ k, zI1 K zaa X2 (zda P0 P1 zaa k) (zc9 S0 S1 zaa k) from zdJ _ _ (ze7 P0 P1 zaa) (ze6 S0 S1 zaa) (zI1 K zaa X2)
 (by intro _ _ _ _ _ hs;exact absurd hs Bool.false_ne_true)
 (by intro P2 S2 hX2 iv2 kv2 ev2 zcu ze5 hs hk zqd;subst zqd;exact hX _ (zau (by kernel_rfl) (zc hs hk (fun hs hk=>(zat hs fun hc hs=>And.intro hc (zat hs fun hc hs=>And.intro hc (zc hs hk (fun hs hk=>(zat hs fun hc hs=>And.intro hc (zat hs fun hc hs=>And.intro hc (zat hs fun hc hs=>And.intro hc (zat hs fun hc hs=>And.intro hc (zat hs fun hc hs=>And.intro hc (zat hs fun hc hs=>And.intro hc (zat hs fun hc hs=>And.intro hc (zat hs fun hc hs=>And.intro hc (hX2 hs hk (zd2 (enc:=zaw) (f:=zcu.get) (h:=(fun _=>(s26 ((zaa.get iv2.toNat).Z) (zr3 (zaa.get iv2.toNat) (w64 (ev2.tdiv (2:Int)))) ((zaa.get kv2.toNat).Z) (zr3 (zaa.get kv2.toNat) (ev2.tmod (2:Int)))))) rfl rfl))))))))))) (fun hs hk=>(hX1 hs hk rfl)))))) (fun hs hk=>(hX1 hs hk rfl)))))) _ hs hk zqd
def zhN (S0:Int→(Sl Line)→(Sl Line)) (zaa:(Sl Gate)) (S1:Int→Int→(Sl Line)→(Sl Line)) (iv1:Int) (kv1:Int) (zdK:(Sl Line)):(Sl Line) :=
  (cond (decide (kv1 < (zaa.len : Int)))
 (zqb S0 S1 zaa iv1 kv1 (0:Int) zdK)
 (S0 (w64 (iv1+(1:Int))) zdK))
def zhO (P0:Int→(Sl Line)→Bool) (zaa:(Sl Gate)) (P1:Int→Int→(Sl Line)→Bool) (iv1:Int) (kv1:Int) (zdK:(Sl Line)):Bool :=
  (cond (decide (kv1 < (zaa.len : Int)))
 (zqc P0 P1 zaa iv1 kv1 (0:Int) zdK)
 (P0 (w64 (iv1+(1:Int))) zdK))
def zfZ (S0:Int→(Sl Line)→(Sl Line)) (zaa:(Sl Gate)):Nat→Int→Int→(Sl Line)→(Sl Line):=lpO (fun _ _ _=>default) (zhN S0 zaa)
def zf0 (P0:Int→(Sl Line)→Bool) (zaa:(Sl Gate)):Nat→Int→Int→(Sl Line)→Bool:=lpO (fun _ _ _=>false) (zhO P0 zaa)
def zqe (S0:Int→(Sl Line)→(Sl Line)) (zaa:(Sl Gate)) (iv1:Int) (kv1:Int) (zdK:(Sl Line)):(Sl Line):=zfZ S0 zaa Fuel iv1 kv1 zdK
def zqf (P0:Int→(Sl Line)→Bool) (zaa:(Sl Gate)) (iv1:Int) (kv1:Int) (zdK:(Sl Line)):Bool:=zf0 P0 zaa Fuel iv1 kv1 zdK
theorem zFy (hX0:zAd K zaa X0 P0 S0) (hs:zqf P0 zaa iv1 kv1 zdK=true) (hk:K (e80 (zqe S0 zaa iv1 kv1 zdK))) (zqg:ze4=zg zaw zdK):z80 K [1,1,0,1,0,0,1,0,0,1,0] [X0] (zBA zaa iv1 kv1 zdK ze4) :=
  zl (fun X=>z80 K [1,1,0,1,0,0,1,0,0,1,0,0] [X0,X]) (by kernel_rfl) fun X1 hX =>
  (show ∀ k, zFw K zaa X1 (zf0 P0 zaa k) (zfZ S0 zaa k) from zdJ _ _ (zhO P0 zaa) (zhN S0 zaa) (zFw K zaa X1)
 (by intro _ _ _ _ hs;exact absurd hs Bool.false_ne_true)
 (by intro P1 S1 hX1 iv1 kv1 zdK ze4 hs hk zqg;subst zqg;exact hX _ (zau (by kernel_rfl) (zc hs hk (fun hs hk=>(zFx hX0 hX1 hs hk rfl)) (fun hs hk=>(hX0 hs hk rfl)))))) _ hs hk zqg
def zhP (zaa:(Sl Gate)) (S0:Int→(Sl Line)→(Sl Line)) (iv0:Int) (zdT:(Sl Line)):(Sl Line) :=
  (cond (decide (iv0 < (zaa.len : Int)))
 (zqe S0 zaa iv0 (w64 (iv0+(1:Int))) zdT)
 zdT)
def zhQ (zaa:(Sl Gate)) (P0:Int→(Sl Line)→Bool) (iv0:Int) (zdT:(Sl Line)):Bool :=
  (cond (decide (iv0 < (zaa.len : Int)))
 (zqf P0 zaa iv0 (w64 (iv0+(1:Int))) zdT)
 true)
def zhR (zaa:(Sl Gate)):Nat→Int→(Sl Line)→(Sl Line):=lpO (fun _ _=>default) (zhP zaa)
def zhS (zaa:(Sl Gate)):Nat→Int→(Sl Line)→Bool:=lpO (fun _ _=>false) (zhQ zaa)
def zxS (zaa:(Sl Gate)) (iv0:Int) (zdT:(Sl Line)):(Sl Line):=zhR zaa Fuel iv0 zdT
def zxT (zaa:(Sl Gate)) (iv0:Int) (zdT:(Sl Line)):Bool:=zhS zaa Fuel iv0 zdT
theorem zFz (hs:zxT zaa iv0 zdT=true) (hk:K (e80 (zxS zaa iv0 zdT))) (zqh:ze3=zg zaw zdT):z80 K [1,1,0,1,0] [] (zBz zaa iv0 zdT ze3) :=
  zl (fun X=>z80 K [1,1,0,1,0,0] [X]) (by kernel_rfl) fun X0 hX =>
  (show ∀ k, zAd K zaa X0 (zhS zaa k) (zhR zaa k) from zdJ _ _ (zhQ zaa) (zhP zaa) (zAd K zaa X0)
 (by intro _ _ _ hs;exact absurd hs Bool.false_ne_true)
 (by intro P0 S0 hX0 iv0 zdT ze3 hs hk zqh;subst zqh;exact hX _ (zau (by kernel_rfl) (zc hs hk (fun hs hk=>(zFy hX0 hs hk rfl)) (fun hs hk=>hk))))) _ hs hk zqh
def s80 (zaa:(Sl Gate)):(Sl Line) :=
  (zxS zaa (0:Int) (⟨0,(fun _=>default)⟩:Sl Line))
def p80 (zaa:(Sl Gate)):Bool :=
  (zxT zaa (0:Int) (⟨0,(fun _=>default)⟩:Sl Line))
end
theorem q80 (zaa:(Sl Gate)) (K:List PA→Prop) (hs:p80 zaa=true) (hk:K (e80 (s80 zaa))):vcFun Try.prog G80 zFv 80 [.one (.sl zaa.len 3 (fun i=>enc_55 (zaa.get i)))] K :=
  zau (by kernel_rfl) (zFz hs hk rfl)
def zFA : List PA → COut
  | [.one (.sl a0_n a0_s a0_g)]=>.det (IsE enc_55 3 a0_s a0_g∧p80 (⟨a0_n,zad a0_g⟩:(Sl Gate))=true) [.one (.sl ((s80 (⟨a0_n,zad a0_g⟩:(Sl Gate))).len) 4 (fun i=>zaw ((s80 (⟨a0_n,zad a0_g⟩:(Sl Gate))).get i)))]
  | _=>.no
theorem zI2:zaf Try.prog 80:=⟨_,rfl,rfl,by kernel_rfl⟩
theorem zOv:Ok Try.prog 80 zFA:=zax zLJ zI2 fun args K h=>by
  unfold zFA at h
  split at h
  · rename_i a0_n a0_s a0_g
    obtain ⟨⟨⟨rfl,a0_f,rfl⟩,hs⟩,hk⟩:=h
    try rw [zac a0_f] at hs
    try rw [zac a0_f] at hk
    exact ⟨(fun _ _=>[]),(fun _=>false),zFv,q80 (⟨a0_n,a0_f⟩:(Sl Gate)) K hs hk⟩
  · exact h.elim
abbrev T29:Tabs:=Tabs.nil
theorem zLK:TabsOk Try.prog T29:=TabsOk.nil
abbrev G29:Ctrs:=csm T29 (fun _ _=>[]) (fun _=>false)
def zI3:Ann:=⟨16,[(0,zK [2,3] [2,3]),(1,zK [4] [])],
 [],
 [],
 [],[]⟩
abbrev R29:=Bool
abbrev e29 (r:R29):List PA:=[.one (.bool r)]
section
variable {K:List PA→Prop} {a:Frac} {b:Frac}
def s29 (a:Frac) (b:Frac):Bool :=
  (decide ((w64 (a.Num * b.Den)) < (w64 (b.Num * a.Den))))
end
theorem q29 (a:Frac) (b:Frac) (K:List PA→Prop) (hk:K (e29 (s29 a b))):vcFun Try.prog G29 zI3 29 [.agg (zae a),.agg (zae b)] K :=
  zau (by kernel_rfl) hk
def zFB : List PA → COut
  | [.agg [.int .i64 a0_Num,.int .i64 a0_Den],.agg [.int .i64 a1_Num,.int .i64 a1_Den]]=>.tot [.one (.bool (s29 (⟨a0_Num,a0_Den⟩:Frac) (⟨a1_Num,a1_Den⟩:Frac)))]
  | _=>.no
theorem zI4:zaf Try.prog 29:=⟨_,rfl,rfl,by kernel_rfl⟩
theorem zOw:Ok Try.prog 29 zFB:=zax zLK zI4 fun args K h=>by
  unfold zFB at h
  split at h
  · rename_i a0_Num a0_Den a1_Num a1_Den
    have hk:=h
    exact ⟨(fun _ _=>[]),(fun _=>false),zI3,q29 (⟨a0_Num,a0_Den⟩:Frac) (⟨a1_Num,a1_Den⟩:Frac) K hk⟩
  · exact h.elim
abbrev zMJ:Tabs:=(Tabs.nil.addF 104 zr2)
theorem zI5:TabsOk Try.prog zMJ:=(TabsOk.nil.addF zIV)
abbrev zMK:Ctrs:=csm zMJ (fun _ _=>[]) (fun _=>false)
def zxU:Ann:=⟨33,[(0,zK [1,2] [2]),(1,zK [1,2,5] [2]),(2,zK [1,2,5,11] [2]),(3,zK [1,2,5] [2]),(4,zK [1,2,5,6,7] [2]),(5,zK [1,2,5,32] [2]),(6,zK [4] []),(7,zK [4] [])],
 [(2,zK [1,2,5] [2])],
 [(5,zK [1,2,5,6,7] [2])],
 [],[]⟩
abbrev zOx:=Bool
abbrev zJ9 (r:zOx):List PA:=[.one (.bool r)]
@[irreducible] def z110:=ptF Try.prog zMK zxU Try.f110
def zxV (l_a0:Line) (zaa:(Sl Gate)) (iv0:Int):St:=⟨[(1,zS enc_55 3 zaa),(2,zp 2 0),(5,zI iv0)],[(2,.box 37 (zm (zaw l_a0)))],[]⟩
abbrev zxW (K:List PA→Prop) (l_a0:Line) (zaa:(Sl Gate)) (X:St→Prop) (P:Int→Bool) (S:Int→Bool):Prop:=∀ ⦃iv0:Int⦄,P iv0=true→K (zJ9 (S iv0))→X (zxV l_a0 zaa iv0)
section
variable {K:List PA→Prop} {l_a0:Line} {zaa:(Sl Gate)} {iv0:Int} {X0:St→Prop} {P0:Int→Bool} {S0:Int→Bool} {iv1:Int} {nv1:Int} {dv1:Int}
def zmB (S0:Int→Bool) (l_a0:Line) (zaa:(Sl Gate)) (iv1:Int) (nv1:Int) (dv1:Int):Bool :=
  (cond (nv1 == (w64 ((zaa.get iv1.toNat).Low * dv1)))
 true
 (S0 (w64 (iv1+(1:Int)))))
def zmC (P0:Int→Bool) (l_a0:Line) (zaa:(Sl Gate)) (iv1:Int) (nv1:Int) (dv1:Int):Bool :=
  (decide ((0≤iv1∧iv1 < (zaa.len:Int))) &&
 (cond (nv1 == (w64 ((zaa.get iv1.toNat).Low * dv1)))
 true
 (P0 (w64 (iv1+(1:Int))))))
theorem zAe (hX0:zxW K l_a0 zaa X0 P0 S0) (hs:zmC P0 l_a0 zaa iv1 nv1 dv1=true) (hk:K (zJ9 (zmB S0 l_a0 zaa iv1 nv1 dv1))):z110 K [1,0,1,0,0,1,0,0,1] [X0] ⟨[(1,zS enc_55 3 zaa),(2,zp 2 0),(5,zI iv1),(6,zI nv1),(7,zI dv1)],[(2,.box 37 (zm (zaw l_a0)))],[]⟩:=zau (by kernel_rfl) (zat hs fun hc hs=>And.intro hc (zc hs hk (fun hs hk=>hk) (fun hs hk=>(hX0 hs hk))))
def zfh (l_a0:Line) (zaa:(Sl Gate)) (S0:Int→Bool) (iv0:Int):Bool :=
  (cond (decide (iv0 < (zaa.len : Int)))
 (zmB S0 l_a0 zaa iv0 ((zp7 l_a0 ((zaa.get iv0.toNat).Z)).1) ((zp7 l_a0 ((zaa.get iv0.toNat).Z)).2))
 false)
def zfi (l_a0:Line) (zaa:(Sl Gate)) (P0:Int→Bool) (iv0:Int):Bool :=
  (cond (decide (iv0 < (zaa.len : Int)))
 (decide ((0≤iv0∧iv0 < (zaa.len:Int))) &&
 (zmC P0 l_a0 zaa iv0 ((zp7 l_a0 ((zaa.get iv0.toNat).Z)).1) ((zp7 l_a0 ((zaa.get iv0.toNat).Z)).2)))
 true)
def zfj (l_a0:Line) (zaa:(Sl Gate)):Nat→Int→Bool:=lpO (fun _=>default) (zfh l_a0 zaa)
def zfk (l_a0:Line) (zaa:(Sl Gate)):Nat→Int→Bool:=lpO (fun _=>false) (zfi l_a0 zaa)
def zr4 (l_a0:Line) (zaa:(Sl Gate)) (iv0:Int):Bool:=zfj l_a0 zaa Fuel iv0
def zr5 (l_a0:Line) (zaa:(Sl Gate)) (iv0:Int):Bool:=zfk l_a0 zaa Fuel iv0
theorem zAf (hs:zr5 l_a0 zaa iv0=true) (hk:K (zJ9 (zr4 l_a0 zaa iv0))):z110 K [1,0,1,0] [] (zxV l_a0 zaa iv0) :=
  zl (fun X=>z110 K [1,0,1,0,0] [X]) (by kernel_rfl) fun X0 hX =>
  (show ∀ k, zxW K l_a0 zaa X0 (zfk l_a0 zaa k) (zfj l_a0 zaa k) from zdJ _ _ (zfi l_a0 zaa) (zfh l_a0 zaa) (zxW K l_a0 zaa X0)
 (by intro _ hs;exact absurd hs Bool.false_ne_true)
 (by intro P0 S0 hX0 iv0 hs hk;exact hX _ (zau (by kernel_rfl) (zc hs hk (fun hs hk=>(zat hs fun hc hs=>And.intro hc (zAe hX0 hs hk))) (fun hs hk=>hk))))) _ hs hk
def zsX (l_a0:Line) (zaa:(Sl Gate)):Bool :=
  (zr4 l_a0 zaa (0:Int))
def zFC (l_a0:Line) (zaa:(Sl Gate)):Bool :=
  (zr5 l_a0 zaa (0:Int))
end
theorem zOy (l_a0:Line) (zaa:(Sl Gate)) (K:List PA→Prop) (hs:zFC l_a0 zaa=true) (hk:K (zJ9 (zsX l_a0 zaa))):vcFun Try.prog zMK zxU 110 [.agg (zaw l_a0),.one (.sl zaa.len 3 (fun i=>enc_55 (zaa.get i)))] K :=
  zau (by kernel_rfl) (zAf hs hk)
def zxX : List PA → COut
  | [.agg [.int .i64 a0_Slope_Num,.int .i64 a0_Slope_Den,.int .i64 a0_Start_Num,.int .i64 a0_Start_Den],.one (.sl a1_n a1_s a1_g)]=>.det (IsE enc_55 3 a1_s a1_g∧zFC (⟨(⟨a0_Slope_Num,a0_Slope_Den⟩:Frac),(⟨a0_Start_Num,a0_Start_Den⟩:Frac)⟩:Line) (⟨a1_n,zad a1_g⟩:(Sl Gate))=true) [.one (.bool (zsX (⟨(⟨a0_Slope_Num,a0_Slope_Den⟩:Frac),(⟨a0_Start_Num,a0_Start_Den⟩:Frac)⟩:Line) (⟨a1_n,zad a1_g⟩:(Sl Gate))))]
  | _=>.no
theorem zFD:zaf Try.prog 110:=⟨_,rfl,rfl,by kernel_rfl⟩
theorem zLL:Ok Try.prog 110 zxX:=zax zI5 zFD fun args K h=>by
  unfold zxX at h
  split at h
  · rename_i a0_Slope_Num a0_Slope_Den a0_Start_Num a0_Start_Den a1_n a1_s a1_g
    obtain ⟨⟨⟨rfl,a1_f,rfl⟩,hs⟩,hk⟩:=h
    try rw [zac a1_f] at hs
    try rw [zac a1_f] at hk
    exact ⟨(fun _ _=>[]),(fun _=>false),zxU,zOy (⟨(⟨a0_Slope_Num,a0_Slope_Den⟩:Frac),(⟨a0_Start_Num,a0_Start_Den⟩:Frac)⟩:Line) (⟨a1_n,a1_f⟩:(Sl Gate)) K hs hk⟩
  · exact h.elim
abbrev T81:Tabs:=((Tabs.nil.addF 29 zFB).addF 110 zxX)
theorem zLM:TabsOk Try.prog T81:=((TabsOk.nil.addF zOw).addF zLL)
abbrev G81:Ctrs:=csm T81 (fun _ _=>[]) (fun _=>false)
def zFE:Ann:=⟨30,[(0,zK [2,3,4] [3,4]),(1,zK [2,3,4,13] [3,4]),(2,zK [6] []),(3,zK [3,4,19] [3,4]),(4,zK [6] []),(5,zK [6] [])],
 [],
 [(3,zK [2,3,4] [3,4])],
 [],[]⟩
abbrev R81:=Bool
abbrev e81 (r:R81):List PA:=[.one (.bool r)]
@[irreducible] def z81:=ptF Try.prog G81 zFE Try.f81
section
variable {K:List PA→Prop} {a:Line} {b:Line} {zaa:(Sl Gate)}
def zxY (a:Line) (b:Line) (zaa:(Sl Gate)):Bool :=
  (cond (zsX a zaa)
 (s29 a.Slope b.Slope)
 (s29 b.Slope a.Slope))
def zqi (a:Line) (b:Line) (zaa:(Sl Gate)):Bool :=
  (decide ((zFC a zaa=true)) &&
 true)
theorem zFF (hs:zqi a b zaa=true) (hk:K (e81 (zxY a b zaa))):z81 K [1,1] [] ⟨[(2,zS enc_55 3 zaa),(3,zp 3 0),(4,zp 4 0)],[(3,.box 37 (zm (zaw a))),(4,.box 37 (zm (zaw b)))],[]⟩:=zau (by kernel_rfl) (zat hs fun hc hs=>And.intro (And.intro (zE enc_55 3 zaa.get) hc) (zt hk (fun hk=>hk) (fun hk=>hk)))
def s81 (a:Line) (b:Line) (zaa:(Sl Gate)):Bool :=
  (cond ((zsX a zaa) != (zsX b zaa))
 (zsX a zaa)
 (zxY a b zaa))
def p81 (a:Line) (b:Line) (zaa:(Sl Gate)):Bool :=
  (decide ((zFC a zaa=true)) &&
 (decide ((zFC b zaa=true)) &&
 (cond ((zsX a zaa) != (zsX b zaa))
 (decide ((zFC a zaa=true)) &&
 true)
 (zqi a b zaa))))
end
theorem q81 (a:Line) (b:Line) (zaa:(Sl Gate)) (K:List PA→Prop) (hs:p81 a b zaa=true) (hk:K (e81 (s81 a b zaa))):vcFun Try.prog G81 zFE 81 [.agg (zaw a),.agg (zaw b),.one (.sl zaa.len 3 (fun i=>enc_55 (zaa.get i)))] K :=
  zau (by kernel_rfl) (zat hs fun hc hs=>And.intro (And.intro (zE enc_55 3 zaa.get) hc) (zat hs fun hc hs=>And.intro (And.intro (zE enc_55 3 zaa.get) hc) (zc hs hk (fun hs hk=>(zat hs fun hc hs=>And.intro (And.intro (zE enc_55 3 zaa.get) hc) hk)) (fun hs hk=>(zFF hs hk)))))
def zFG : List PA → COut
  | [.agg [.int .i64 a0_Slope_Num,.int .i64 a0_Slope_Den,.int .i64 a0_Start_Num,.int .i64 a0_Start_Den],.agg [.int .i64 a1_Slope_Num,.int .i64 a1_Slope_Den,.int .i64 a1_Start_Num,.int .i64 a1_Start_Den],.one (.sl a2_n a2_s a2_g)]=>.det (IsE enc_55 3 a2_s a2_g∧p81 (⟨(⟨a0_Slope_Num,a0_Slope_Den⟩:Frac),(⟨a0_Start_Num,a0_Start_Den⟩:Frac)⟩:Line) (⟨(⟨a1_Slope_Num,a1_Slope_Den⟩:Frac),(⟨a1_Start_Num,a1_Start_Den⟩:Frac)⟩:Line) (⟨a2_n,zad a2_g⟩:(Sl Gate))=true) [.one (.bool (s81 (⟨(⟨a0_Slope_Num,a0_Slope_Den⟩:Frac),(⟨a0_Start_Num,a0_Start_Den⟩:Frac)⟩:Line) (⟨(⟨a1_Slope_Num,a1_Slope_Den⟩:Frac),(⟨a1_Start_Num,a1_Start_Den⟩:Frac)⟩:Line) (⟨a2_n,zad a2_g⟩:(Sl Gate))))]
  | _=>.no
theorem zI6:zaf Try.prog 81:=⟨_,rfl,rfl,by kernel_rfl⟩
theorem zOz:Ok Try.prog 81 zFG:=zax zLM zI6 fun args K h=>by
  unfold zFG at h
  split at h
  · rename_i a0_Slope_Num a0_Slope_Den a0_Start_Num a0_Start_Den a1_Slope_Num a1_Slope_Den a1_Start_Num a1_Start_Den a2_n a2_s a2_g
    obtain ⟨⟨⟨rfl,a2_f,rfl⟩,hs⟩,hk⟩:=h
    try rw [zac a2_f] at hs
    try rw [zac a2_f] at hk
    exact ⟨(fun _ _=>[]),(fun _=>false),zFE,q81 (⟨(⟨a0_Slope_Num,a0_Slope_Den⟩:Frac),(⟨a0_Start_Num,a0_Start_Den⟩:Frac)⟩:Line) (⟨(⟨a1_Slope_Num,a1_Slope_Den⟩:Frac),(⟨a1_Start_Num,a1_Start_Den⟩:Frac)⟩:Line) (⟨a2_n,a2_f⟩:(Sl Gate)) K hs hk⟩
  · exact h.elim
abbrev T33:Tabs:=(((Tabs.nil.addF 27 zFr).addF 80 zFA).addF 81 zFG)
theorem zLN:TabsOk Try.prog T33:=(((TabsOk.nil.addF zOq).addF zOv).addF zOz)
abbrev G33:Ctrs:=csm T33 (fun _ _=>[]) (fun _=>false)
def zFH:Ann:=⟨73,[(0,zK [0] []),(1,zK [0,3] []),(2,zK [0,3,4] []),(3,zK [0,3,4,5] []),(4,zK [0,3,4,5,12] []),(5,zK [0,3,4,5] [61]),(6,zK [0,3,4,5,24] []),(7,zK [0,3,4,5,6] []),(8,zK [0,3,4,5,6,40] []),(9,zK [0,3,4,5,6] []),(10,zK [0,3,4,5,6,57] []),(11,zK [0,3,4,5] [61]),(12,zK [2] [])],
 [(4,⟨[0,3,4,5],[],[],[],[],[],[(3,4,fun _=>zaw default)]⟩),(8,zK [0,3,4,5,6] [])],
 [(3,zK [0,3,4] []),(10,zK [0,3,4,5,6] [])],
 [],[]⟩
abbrev R33:=(Sl Line)
abbrev e33 (r:R33):List PA:=[.one (.sl r.len 4 (fun i=>zaw (r.get i)))]
@[irreducible] def z33:=ptF Try.prog G33 zFH Try.f33
def zBC (zaa:(Sl Gate)) (lv0:(Sl Line)) (zdH:(Sl Line)) (iv1:Int) (ze8:Nat→List PV):St:=⟨[(0,zS enc_55 3 zaa),(3,zP (.sl zdH.len 4 ze8)),(4,zS zaw 4 lv0),(5,zI iv1)],[],[]⟩
abbrev zAg (K:List PA→Prop) (zaa:(Sl Gate)) (lv0:(Sl Line)) (X:St→Prop) (P:(Sl Line)→Int→Bool) (S:(Sl Line)→Int→(Sl Line)):Prop:=∀ ⦃zdH:(Sl Line)⦄ ⦃iv1:Int⦄ ⦃ze8:Nat→List PV⦄,P zdH iv1=true→K (e33 (S zdH iv1))→ze8=zg zaw zdH→X (zBC zaa lv0 zdH iv1 ze8)
def zBD (zaa:(Sl Gate)) (lv0:(Sl Line)) (zcA:(Sl Line)) (iv2:Int) (zgC:Int) (ze9:Nat→List PV):St:=⟨[(0,zS enc_55 3 zaa),(3,zP (.sl zcA.len 4 ze9)),(4,zS zaw 4 lv0),(5,zI iv2),(6,zI zgC)],[],[]⟩
abbrev zI7 (K:List PA→Prop) (zaa:(Sl Gate)) (lv0:(Sl Line)) (X:St→Prop) (P:(Sl Line)→Int→Int→Bool) (S:(Sl Line)→Int→Int→(Sl Line)):Prop:=∀ ⦃zcA:(Sl Line)⦄ ⦃iv2:Int⦄ ⦃zgC:Int⦄ ⦃ze9:Nat→List PV⦄,P zcA iv2 zgC=true→K (e33 (S zcA iv2 zgC))→ze9=zg zaw zcA→X (zBD zaa lv0 zcA iv2 zgC ze9)
section
variable {K:List PA→Prop} {zaa:(Sl Gate)} {lv0:(Sl Line)} {zI8:Nat→List PV} {zdH:(Sl Line)} {iv1:Int} {ze8:Nat→List PV} {X1:St→Prop} {P1:(Sl Line)→Int→Bool} {S1:(Sl Line)→Int→(Sl Line)} {zcA:(Sl Line)} {iv2:Int} {zgC:Int} {ze9:Nat→List PV} {X2:St→Prop} {P2:(Sl Line)→Int→Int→Bool} {S2:(Sl Line)→Int→Int→(Sl Line)} {zbC:(Sl Line)} {iv3:Int} {zcn:Int} {zxZ:Nat→List PV}
def zkx (S1:(Sl Line)→Int→(Sl Line)) (zaa:(Sl Gate)) (lv0:(Sl Line)) (zbC:(Sl Line)) (iv3:Int) (zcn:Int):(Sl Line) :=
  (cond (decide (zcn < (zbC.len : Int)))
 (cond (match (match ((zbC.get zcn.toNat).Slope.Num == (lv0.get iv3.toNat).Slope.Num) with | true => (match ((zbC.get zcn.toNat).Slope.Den == (lv0.get iv3.toNat).Slope.Den) with | true => true | false => false) | false => false) with | true => (match (match ((zbC.get zcn.toNat).Start.Num == (lv0.get iv3.toNat).Start.Num) with | true => (match ((zbC.get zcn.toNat).Start.Den == (lv0.get iv3.toNat).Start.Den) with | true => true | false => false) | false => false) with | true => true | false => false) | false => false)
 (S1 zbC (w64 (iv3+(1:Int))))
 (S1 (⟨(((zcn - (0:Int)).toNat+1)+((zbC.len:Int) - zcn).toNat),(zdi ((zcn - (0:Int)).toNat+1) (zdi ((zcn - (0:Int)).toNat) (fun i=>zbC.get (i+((0:Int).toNat))) (fun _=>(lv0.get iv3.toNat))) (fun i=>zbC.get (i+zcn.toNat)))⟩:Sl Line) (w64 (iv3+(1:Int)))))
 (S1 (⟨(((zcn - (0:Int)).toNat+1)+((zbC.len:Int) - zcn).toNat),(zdi ((zcn - (0:Int)).toNat+1) (zdi ((zcn - (0:Int)).toNat) (fun i=>zbC.get (i+((0:Int).toNat))) (fun _=>(lv0.get iv3.toNat))) (fun i=>zbC.get (i+zcn.toNat)))⟩:Sl Line) (w64 (iv3+(1:Int)))))
def zky (P1:(Sl Line)→Int→Bool) (zaa:(Sl Gate)) (lv0:(Sl Line)) (zbC:(Sl Line)) (iv3:Int) (zcn:Int):Bool :=
  (cond (decide (zcn < (zbC.len : Int)))
 (decide ((0≤zcn∧zcn < (zbC.len:Int))) &&
 (decide ((0≤iv3∧iv3 < (lv0.len:Int))) &&
 (cond (match (match ((zbC.get zcn.toNat).Slope.Num == (lv0.get iv3.toNat).Slope.Num) with | true => (match ((zbC.get zcn.toNat).Slope.Den == (lv0.get iv3.toNat).Slope.Den) with | true => true | false => false) | false => false) with | true => (match (match ((zbC.get zcn.toNat).Start.Num == (lv0.get iv3.toNat).Start.Num) with | true => (match ((zbC.get zcn.toNat).Start.Den == (lv0.get iv3.toNat).Start.Den) with | true => true | false => false) | false => false) with | true => true | false => false) | false => false)
 (P1 zbC (w64 (iv3+(1:Int))))
 (decide ((0≤(0:Int)∧(0:Int)≤zcn∧zcn≤(zbC.len:Int))) &&
 (decide (((zcn - (0:Int)).toNat * 32≤140737488355328∧(zcn - (0:Int)).toNat≤9223372036854775807)) &&
 (decide ((0≤iv3∧iv3 < (lv0.len:Int))) &&
 (decide ((((zcn - (0:Int)).toNat+1) * 32≤140737488355328∧(zcn - (0:Int)).toNat+1≤9223372036854775807)) &&
 (decide ((0≤zcn∧zcn≤(zbC.len:Int)∧(zbC.len:Int)≤(zbC.len:Int))) &&
 (decide (((((zcn - (0:Int)).toNat+1)+((zbC.len:Int) - zcn).toNat) * 32≤140737488355328∧((zcn - (0:Int)).toNat+1)+((zbC.len:Int) - zcn).toNat≤9223372036854775807)) &&
 (P1 (⟨(((zcn - (0:Int)).toNat+1)+((zbC.len:Int) - zcn).toNat),(zdi ((zcn - (0:Int)).toNat+1) (zdi ((zcn - (0:Int)).toNat) (fun i=>zbC.get (i+((0:Int).toNat))) (fun _=>(lv0.get iv3.toNat))) (fun i=>zbC.get (i+zcn.toNat)))⟩:Sl Line) (w64 (iv3+(1:Int)))))))))))))
 (decide ((0≤(0:Int)∧(0:Int)≤zcn∧zcn≤(zbC.len:Int))) &&
 (decide (((zcn - (0:Int)).toNat * 32≤140737488355328∧(zcn - (0:Int)).toNat≤9223372036854775807)) &&
 (decide ((0≤iv3∧iv3 < (lv0.len:Int))) &&
 (decide ((((zcn - (0:Int)).toNat+1) * 32≤140737488355328∧(zcn - (0:Int)).toNat+1≤9223372036854775807)) &&
 (decide ((0≤zcn∧zcn≤(zbC.len:Int)∧(zbC.len:Int)≤(zbC.len:Int))) &&
 (decide (((((zcn - (0:Int)).toNat+1)+((zbC.len:Int) - zcn).toNat) * 32≤140737488355328∧((zcn - (0:Int)).toNat+1)+((zbC.len:Int) - zcn).toNat≤9223372036854775807)) &&
 (P1 (⟨(((zcn - (0:Int)).toNat+1)+((zbC.len:Int) - zcn).toNat),(zdi ((zcn - (0:Int)).toNat+1) (zdi ((zcn - (0:Int)).toNat) (fun i=>zbC.get (i+((0:Int).toNat))) (fun _=>(lv0.get iv3.toNat))) (fun i=>zbC.get (i+zcn.toNat)))⟩:Sl Line) (w64 (iv3+(1:Int)))))))))))
theorem zx0 (hX1:zAg K zaa lv0 X1 P1 S1) (hs:zky P1 zaa lv0 zbC iv3 zcn=true) (hk:K (e33 (zkx S1 zaa lv0 zbC iv3 zcn))) (zFI:zxZ=zg zaw zbC):z33 K [1,1,1,0,1,0,0,1,0,0,1,1,1] [X1] ⟨[(0,zS enc_55 3 zaa),(3,zP (.sl zbC.len 4 zxZ)),(4,zS zaw 4 lv0),(5,zI iv3),(6,zI zcn)],[],[]⟩:=by subst zFI;exact zau (by kernel_rfl) (zc hs hk (fun hs hk=>(zat hs fun hc hs=>And.intro hc (zat hs fun hc hs=>And.intro hc (zc hs hk (fun hs hk=>(hX1 hs hk rfl)) (fun hs hk=>(zat hs fun hc hs=>And.intro hc (zat hs fun hc hs=>And.intro hc (zat hs fun hc hs=>And.intro hc (zat hs fun hc hs=>And.intro hc (zat hs fun hc hs=>And.intro hc (zat hs fun hc hs=>And.intro hc (hX1 hs hk (zd2 (enc:=zaw) (f:=(zdi ((zcn - (0:Int)).toNat) (fun i=>zbC.get (i+((0:Int).toNat))) (fun _=>(lv0.get iv3.toNat)))) (h:=(fun i=>zbC.get (i+zcn.toNat))) (zd2 (enc:=zaw) (f:=(fun i=>zbC.get (i+((0:Int).toNat)))) (h:=(fun _=>(lv0.get iv3.toNat))) rfl rfl) rfl))))))))))))) (fun hs hk=>(zat hs fun hc hs=>And.intro hc (zat hs fun hc hs=>And.intro hc (zat hs fun hc hs=>And.intro hc (zat hs fun hc hs=>And.intro hc (zat hs fun hc hs=>And.intro hc (zat hs fun hc hs=>And.intro hc (hX1 hs hk (zd2 (enc:=zaw) (f:=(zdi ((zcn - (0:Int)).toNat) (fun i=>zbC.get (i+((0:Int).toNat))) (fun _=>(lv0.get iv3.toNat)))) (h:=(fun i=>zbC.get (i+zcn.toNat))) (zd2 (enc:=zaw) (f:=(fun i=>zbC.get (i+((0:Int).toNat)))) (h:=(fun _=>(lv0.get iv3.toNat))) rfl rfl) rfl))))))))))
def zhT (S1:(Sl Line)→Int→(Sl Line)) (zaa:(Sl Gate)) (lv0:(Sl Line)) (S2:(Sl Line)→Int→Int→(Sl Line)) (zcA:(Sl Line)) (iv2:Int) (zgC:Int):(Sl Line) :=
  (cond (decide (zgC < (zcA.len : Int)))
 (cond (s81 (zcA.get zgC.toNat) (lv0.get iv2.toNat) zaa)
 (S2 zcA iv2 (w64 (zgC+(1:Int))))
 (zkx S1 zaa lv0 zcA iv2 zgC))
 (zkx S1 zaa lv0 zcA iv2 zgC))
def zhU (P1:(Sl Line)→Int→Bool) (zaa:(Sl Gate)) (lv0:(Sl Line)) (P2:(Sl Line)→Int→Int→Bool) (zcA:(Sl Line)) (iv2:Int) (zgC:Int):Bool :=
  (cond (decide (zgC < (zcA.len : Int)))
 (decide ((0≤zgC∧zgC < (zcA.len:Int))) &&
 (decide ((0≤iv2∧iv2 < (lv0.len:Int))) &&
 (decide ((p81 (zcA.get zgC.toNat) (lv0.get iv2.toNat) zaa=true)) &&
 (cond (s81 (zcA.get zgC.toNat) (lv0.get iv2.toNat) zaa)
 (P2 zcA iv2 (w64 (zgC+(1:Int))))
 (zky P1 zaa lv0 zcA iv2 zgC)))))
 (zky P1 zaa lv0 zcA iv2 zgC))
def zf1 (S1:(Sl Line)→Int→(Sl Line)) (zaa:(Sl Gate)) (lv0:(Sl Line)):Nat→(Sl Line)→Int→Int→(Sl Line):=lpO (fun _ _ _=>default) (zhT S1 zaa lv0)
def zhV (P1:(Sl Line)→Int→Bool) (zaa:(Sl Gate)) (lv0:(Sl Line)):Nat→(Sl Line)→Int→Int→Bool:=lpO (fun _ _ _=>false) (zhU P1 zaa lv0)
def zqj (S1:(Sl Line)→Int→(Sl Line)) (zaa:(Sl Gate)) (lv0:(Sl Line)) (zcA:(Sl Line)) (iv2:Int) (zgC:Int):(Sl Line):=zf1 S1 zaa lv0 Fuel zcA iv2 zgC
def zqk (P1:(Sl Line)→Int→Bool) (zaa:(Sl Gate)) (lv0:(Sl Line)) (zcA:(Sl Line)) (iv2:Int) (zgC:Int):Bool:=zhV P1 zaa lv0 Fuel zcA iv2 zgC
theorem zFJ (hX1:zAg K zaa lv0 X1 P1 S1) (hs:zqk P1 zaa lv0 zcA iv2 zgC=true) (hk:K (e33 (zqj S1 zaa lv0 zcA iv2 zgC))) (zql:ze9=zg zaw zcA):z33 K [1,1,1,0,1,0,0,1,0,0,1,1,0,0] [X1] (zBD zaa lv0 zcA iv2 zgC ze9) :=
  zl (fun X=>z33 K [1,1,1,0,1,0,0,1,0,0,1,1,0,0,0] [X1,X]) (by kernel_rfl) fun X2 hX =>
  (show ∀ k, zI7 K zaa lv0 X2 (zhV P1 zaa lv0 k) (zf1 S1 zaa lv0 k) from zdJ _ _ (zhU P1 zaa lv0) (zhT S1 zaa lv0) (zI7 K zaa lv0 X2)
 (by intro _ _ _ _ hs;exact absurd hs Bool.false_ne_true)
 (by intro P2 S2 hX2 zcA iv2 zgC ze9 hs hk zql;subst zql;exact hX _ (zau (by kernel_rfl) (zc hs hk (fun hs hk=>(zat hs fun hc hs=>And.intro hc (zat hs fun hc hs=>And.intro hc (zat hs fun hc hs=>And.intro (And.intro (zE enc_55 3 zaa.get) hc) (zc hs hk (fun hs hk=>(hX2 hs hk rfl)) (fun hs hk=>(zx0 hX1 hs hk rfl))))))) (fun hs hk=>(zx0 hX1 hs hk rfl)))))) _ hs hk zql
def zhW (zaa:(Sl Gate)) (lv0:(Sl Line)) (S1:(Sl Line)→Int→(Sl Line)) (zdH:(Sl Line)) (iv1:Int):(Sl Line) :=
  (cond (decide (iv1 < (lv0.len : Int)))
 (cond (decide (((s27 (lv0.get iv1.toNat) zaa).len : Int) < (zaa.len : Int)))
 (S1 zdH (w64 (iv1+(1:Int))))
 (zqj S1 zaa lv0 zdH iv1 (0:Int)))
 zdH)
def zhX (zaa:(Sl Gate)) (lv0:(Sl Line)) (P1:(Sl Line)→Int→Bool) (zdH:(Sl Line)) (iv1:Int):Bool :=
  (cond (decide (iv1 < (lv0.len : Int)))
 (decide ((0≤iv1∧iv1 < (lv0.len:Int))) &&
 (decide ((p27 (lv0.get iv1.toNat) zaa=true)) &&
 (cond (decide (((s27 (lv0.get iv1.toNat) zaa).len : Int) < (zaa.len : Int)))
 (P1 zdH (w64 (iv1+(1:Int))))
 (zqk P1 zaa lv0 zdH iv1 (0:Int)))))
 true)
def zf2 (zaa:(Sl Gate)) (lv0:(Sl Line)):Nat→(Sl Line)→Int→(Sl Line):=lpO (fun _ _=>default) (zhW zaa lv0)
def zhY (zaa:(Sl Gate)) (lv0:(Sl Line)):Nat→(Sl Line)→Int→Bool:=lpO (fun _ _=>false) (zhX zaa lv0)
def zx1 (zaa:(Sl Gate)) (lv0:(Sl Line)) (zdH:(Sl Line)) (iv1:Int):(Sl Line):=zf2 zaa lv0 Fuel zdH iv1
def zx2 (zaa:(Sl Gate)) (lv0:(Sl Line)) (zdH:(Sl Line)) (iv1:Int):Bool:=zhY zaa lv0 Fuel zdH iv1
theorem zFK (hs:zx2 zaa lv0 zdH iv1=true) (hk:K (e33 (zx1 zaa lv0 zdH iv1))) (zqm:ze8=zg zaw zdH):z33 K [1,1,1,0,1,0] [] (zBC zaa lv0 zdH iv1 ze8) :=
  zl (fun X=>z33 K [1,1,1,0,1,0,0] [X]) (by kernel_rfl) fun X1 hX =>
  (show ∀ k, zAg K zaa lv0 X1 (zhY zaa lv0 k) (zf2 zaa lv0 k) from zdJ _ _ (zhX zaa lv0) (zhW zaa lv0) (zAg K zaa lv0 X1)
 (by intro _ _ _ hs;exact absurd hs Bool.false_ne_true)
 (by intro P1 S1 hX1 zdH iv1 ze8 hs hk zqm;subst zqm;exact hX _ (zau (by kernel_rfl) (zc hs hk (fun hs hk=>(zat hs fun hc hs=>And.intro hc (zat hs fun hc hs=>And.intro (And.intro (zE enc_55 3 zaa.get) hc) (zc hs hk (fun hs hk=>(hX1 hs hk rfl)) (fun hs hk=>(zFJ hX1 hs hk rfl)))))) (fun hs hk=>hk))))) _ hs hk zqm
def zx3 (zaa:(Sl Gate)) (lv0:(Sl Line)):(Sl Line) :=
  (zx1 zaa lv0 (⟨0,(fun _=>default)⟩:Sl Line) (0:Int))
def zx4 (zaa:(Sl Gate)) (lv0:(Sl Line)):Bool :=
  (zx2 zaa lv0 (⟨0,(fun _=>default)⟩:Sl Line) (0:Int))
theorem zFL (hs:zx4 zaa lv0=true) (hk:K (e33 (zx3 zaa lv0))) (zLO:zI8=zg zaw lv0):z33 K [1,1,1] [] ⟨[(0,zS enc_55 3 zaa),(3,zP (.nils)),(4,zP (.sl lv0.len 4 zI8))],[],[]⟩:=by subst zLO;exact zau (by kernel_rfl) (zFK hs hk rfl)
def s33 (zaa:(Sl Gate)):(Sl Line) :=
  (zx3 zaa (s80 zaa))
def p33 (zaa:(Sl Gate)):Bool :=
  (decide ((p80 zaa=true)) &&
 (zx4 zaa (s80 zaa)))
end
theorem q33 (zaa:(Sl Gate)) (K:List PA→Prop) (hs:p33 zaa=true) (hk:K (e33 (s33 zaa))):vcFun Try.prog G33 zFH 33 [.one (.sl zaa.len 3 (fun i=>enc_55 (zaa.get i)))] K :=
  zau (by kernel_rfl) (zat hs fun hc hs=>And.intro (And.intro (zE enc_55 3 zaa.get) hc) (zFL hs hk rfl))
def zFM : List PA → COut
  | [.one (.sl a0_n a0_s a0_g)]=>.det (IsE enc_55 3 a0_s a0_g∧p33 (⟨a0_n,zad a0_g⟩:(Sl Gate))=true) [.one (.sl ((s33 (⟨a0_n,zad a0_g⟩:(Sl Gate))).len) 4 (fun i=>zaw ((s33 (⟨a0_n,zad a0_g⟩:(Sl Gate))).get i)))]
  | _=>.no
theorem zI9:zaf Try.prog 33:=⟨_,rfl,rfl,by kernel_rfl⟩
theorem zOA:Ok Try.prog 33 zFM:=zax zLN zI9 fun args K h=>by
  unfold zFM at h
  split at h
  · rename_i a0_n a0_s a0_g
    obtain ⟨⟨⟨rfl,a0_f,rfl⟩,hs⟩,hk⟩:=h
    try rw [zac a0_f] at hs
    try rw [zac a0_f] at hk
    exact ⟨(fun _ _=>[]),(fun _=>false),zFH,q33 (⟨a0_n,a0_f⟩:(Sl Gate)) K hs hk⟩
  · exact h.elim
abbrev T71:Tabs:=Tabs.nil
theorem zLP:TabsOk Try.prog T71:=TabsOk.nil
abbrev G71:Ctrs:=csm T71 (fun _ _=>[]) (fun _=>false)
def zFN:Ann:=⟨41,[(0,zK [0] []),(1,zK [0,5,6] []),(2,zK [0,5,6,7] []),(3,zK [0,5,6,7,19] []),(4,zK [0,5,6,7] []),(5,zK [0,5,6,7] []),(6,zK [2,3,4] [])],
 [(3,zK [0,5,6,7] [])],
 [],
 [],[]⟩
abbrev R71:=(Int×Int×Bool)
abbrev e71 (r:R71):List PA:=[.one (.int .i64 r.1),.one (.int .i64 r.2.1),.one (.bool r.2.2)]
@[irreducible] def z71:=ptF Try.prog G71 zFN Try.f71
def zBE (zaa:(Sl Gate)) (av0:Int) (bv0:Int) (iv0:Int):St:=⟨[(0,zS enc_55 3 zaa),(5,zI av0),(6,zI bv0),(7,zI iv0)],[],[]⟩
abbrev zJa (K:List PA→Prop) (zaa:(Sl Gate)) (X:St→Prop) (P:Int→Int→Int→Bool) (S:Int→Int→Int→(Int×Int×Bool)):Prop:=∀ ⦃av0:Int⦄ ⦃bv0:Int⦄ ⦃iv0:Int⦄,P av0 bv0 iv0=true→K (e71 (S av0 bv0 iv0))→X (zBE zaa av0 bv0 iv0)
section
variable {K:List PA→Prop} {zaa:(Sl Gate)} {av0:Int} {bv0:Int} {iv0:Int} {X0:St→Prop} {P0:Int→Int→Int→Bool} {S0:Int→Int→Int→(Int×Int×Bool)}
def zhZ (zaa:(Sl Gate)) (S0:Int→Int→Int→(Int×Int×Bool)) (av0:Int) (bv0:Int) (iv0:Int):(Int×Int×Bool) :=
  (cond (decide (iv0 < (zaa.len : Int)))
 (S0 (if (zaa.get iv0.toNat).Low > av0 then (zaa.get iv0.toNat).Low else av0) (if (zaa.get iv0.toNat).High < bv0 then (zaa.get iv0.toNat).High else bv0) (w64 (iv0+(1:Int))))
 (av0,bv0,(decide (av0≤bv0))))
def zh0 (zaa:(Sl Gate)) (P0:Int→Int→Int→Bool) (av0:Int) (bv0:Int) (iv0:Int):Bool :=
  (cond (decide (iv0 < (zaa.len : Int)))
 (decide ((0≤iv0∧iv0 < (zaa.len:Int))) &&
 (decide ((0≤iv0∧iv0 < (zaa.len:Int))) &&
 (P0 (if (zaa.get iv0.toNat).Low > av0 then (zaa.get iv0.toNat).Low else av0) (if (zaa.get iv0.toNat).High < bv0 then (zaa.get iv0.toNat).High else bv0) (w64 (iv0+(1:Int))))))
 true)
def zh1 (zaa:(Sl Gate)):Nat→Int→Int→Int→(Int×Int×Bool):=lpO (fun _ _ _=>default) (zhZ zaa)
def zh2 (zaa:(Sl Gate)):Nat→Int→Int→Int→Bool:=lpO (fun _ _ _=>false) (zh0 zaa)
def zx5 (zaa:(Sl Gate)) (av0:Int) (bv0:Int) (iv0:Int):(Int×Int×Bool):=zh1 zaa Fuel av0 bv0 iv0
def zx6 (zaa:(Sl Gate)) (av0:Int) (bv0:Int) (iv0:Int):Bool:=zh2 zaa Fuel av0 bv0 iv0
theorem zFO (hs:zx6 zaa av0 bv0 iv0=true) (hk:K (e71 (zx5 zaa av0 bv0 iv0))):z71 K [1,1,0,1,0] [] (zBE zaa av0 bv0 iv0) :=
  zl (fun X=>z71 K [1,1,0,1,0,0] [X]) (by kernel_rfl) fun X0 hX =>
  (show ∀ k, zJa K zaa X0 (zh2 zaa k) (zh1 zaa k) from zdJ _ _ (zh0 zaa) (zhZ zaa) (zJa K zaa X0)
 (by intro _ _ _ hs;exact absurd hs Bool.false_ne_true)
 (by intro P0 S0 hX0 av0 bv0 iv0 hs hk;exact hX _ (zau (by kernel_rfl) (zc hs hk (fun hs hk=>(zat hs fun hc hs=>And.intro hc (zat hs fun hc hs=>And.intro hc (hX0 hs hk)))) (fun hs hk=>hk))))) _ hs hk
def s71 (zaa:(Sl Gate)):(Int×Int×Bool) :=
  (zx5 zaa ((zaa.get 0).Low) ((zaa.get 0).High) (1:Int))
def p71 (zaa:(Sl Gate)):Bool :=
  (decide ((0≤(0:Int)∧(0:Int) < (zaa.len:Int))) &&
 (decide ((0≤(0:Int)∧(0:Int) < (zaa.len:Int))) &&
 (zx6 zaa ((zaa.get 0).Low) ((zaa.get 0).High) (1:Int))))
end
theorem q71 (zaa:(Sl Gate)) (K:List PA→Prop) (hs:p71 zaa=true) (hk:K (e71 (s71 zaa))):vcFun Try.prog G71 zFN 71 [.one (.sl zaa.len 3 (fun i=>enc_55 (zaa.get i)))] K :=
  zau (by kernel_rfl) (zat hs fun hc hs=>And.intro hc (zat hs fun hc hs=>And.intro hc (zFO hs hk)))
def zFP : List PA → COut
  | [.one (.sl a0_n a0_s a0_g)]=>.det (IsE enc_55 3 a0_s a0_g∧p71 (⟨a0_n,zad a0_g⟩:(Sl Gate))=true) [.one (.int .i64 ((s71 (⟨a0_n,zad a0_g⟩:(Sl Gate))).1)),.one (.int .i64 ((s71 (⟨a0_n,zad a0_g⟩:(Sl Gate))).2.1)),.one (.bool ((s71 (⟨a0_n,zad a0_g⟩:(Sl Gate))).2.2))]
  | _=>.no
theorem zJb:zaf Try.prog 71:=⟨_,rfl,rfl,by kernel_rfl⟩
theorem zOB:Ok Try.prog 71 zFP:=zax zLP zJb fun args K h=>by
  unfold zFP at h
  split at h
  · rename_i a0_n a0_s a0_g
    obtain ⟨⟨⟨rfl,a0_f,rfl⟩,hs⟩,hk⟩:=h
    try rw [zac a0_f] at hs
    try rw [zac a0_f] at hk
    exact ⟨(fun _ _=>[]),(fun _=>false),zFN,q71 (⟨a0_n,a0_f⟩:(Sl Gate)) K hs hk⟩
  · exact h.elim
abbrev T21:Tabs:=(((Tabs.nil.addF 22 zFj).addF 33 zFM).addF 71 zFP)
theorem zLQ:TabsOk Try.prog T21:=(((TabsOk.nil.addF zOk).addF zOA).addF zOB)
abbrev G21:Ctrs:=csm T21 (fun _ _=>[]) (fun _=>false)
def zJc:Ann:=⟨19,[(0,zK [0] []),(1,zK [0,7] []),(2,zK [5] []),(3,zK [2] []),(4,zK [2] [])],
 [],
 [],
 [],[]⟩
abbrev R21:=Bool
abbrev e21 (r:R21):List PA:=[.one (.bool r)]
section
variable {K:List PA→Prop} {zaa:(Sl Gate)}
def s21 (zaa:(Sl Gate)):Bool :=
  (cond (s22 zaa)
 ((s71 zaa).2.2)
 (decide (((s33 zaa).len:Int) > (0:Int))))
def p21 (zaa:(Sl Gate)):Bool :=
  (decide ((p22 zaa=true)) &&
 (cond (s22 zaa)
 (decide ((p71 zaa=true)) &&
 true)
 (decide ((p33 zaa=true)) &&
 true)))
end
theorem q21 (zaa:(Sl Gate)) (K:List PA→Prop) (hs:p21 zaa=true) (hk:K (e21 (s21 zaa))):vcFun Try.prog G21 zJc 21 [.one (.sl zaa.len 3 (fun i=>enc_55 (zaa.get i)))] K :=
  zau (by kernel_rfl) (zat hs fun hc hs=>And.intro (And.intro (zE enc_55 3 zaa.get) hc) (zc hs hk (fun hs hk=>(zat hs fun hc hs=>And.intro (And.intro (zE enc_55 3 zaa.get) hc) hk)) (fun hs hk=>(zat hs fun hc hs=>And.intro (And.intro (zE enc_55 3 zaa.get) hc) hk))))
def zAh : List PA → COut
  | [.one (.sl a0_n a0_s a0_g)]=>.det (IsE enc_55 3 a0_s a0_g∧p21 (⟨a0_n,zad a0_g⟩:(Sl Gate))=true) [.one (.bool (s21 (⟨a0_n,zad a0_g⟩:(Sl Gate))))]
  | _=>.no
theorem zJd:zaf Try.prog 21:=⟨_,rfl,rfl,by kernel_rfl⟩
theorem zML:Ok Try.prog 21 zAh:=zax zLQ zJd fun args K h=>by
  unfold zAh at h
  split at h
  · rename_i a0_n a0_s a0_g
    obtain ⟨⟨⟨rfl,a0_f,rfl⟩,hs⟩,hk⟩:=h
    try rw [zac a0_f] at hs
    try rw [zac a0_f] at hk
    exact ⟨(fun _ _=>[]),(fun _=>false),zJc,q21 (⟨a0_n,a0_f⟩:(Sl Gate)) K hs hk⟩
  · exact h.elim
abbrev T47:Tabs:=Tabs.nil
theorem zLR:TabsOk Try.prog T47:=TabsOk.nil
abbrev G47:Ctrs:=csm T47 (fun _ _=>[]) (fun _=>false)
def zFQ:Ann:=⟨24,[(0,zK [0,1] []),(1,zK [0,1,5] []),(2,zK [0,1,5,6] []),(3,zK [0,1,5,6,10] [22]),(4,zK [0,1,5,6] [22]),(5,zK [0,1,5,6] [22]),(6,zK [4] [22])],
 [(3,⟨[0,1,5,6],[22],[(5,22,55,fun _=>enc_55 default)],[],[],[],[]⟩)],
 [],
 [],[]⟩
abbrev R47:=(Sl Gate)
abbrev e47 (r:R47):List PA:=[.one (.sl r.len 3 (fun i=>enc_55 (r.get i)))]
@[irreducible] def z47:=ptF Try.prog G47 zFQ Try.f47
def zBF (zaa:(Sl Gate)) (set_a1:(Sl Int)) (iv0:Int) (zbu:(Sl Gate)) (zce:Nat→List PV):St:=⟨[(0,zS enc_55 3 zaa),(1,zS enc_3 1 set_a1),(5,zv 22),(6,zI iv0)],[(22,.vec 55 3 24 zbu.len zce)],[]⟩
abbrev zJe (K:List PA→Prop) (zaa:(Sl Gate)) (set_a1:(Sl Int)) (X:St→Prop) (P:Int→(Sl Gate)→Bool) (S:Int→(Sl Gate)→(Sl Gate)):Prop:=∀ ⦃iv0:Int⦄ ⦃zbu:(Sl Gate)⦄ ⦃zce:Nat→List PV⦄,P iv0 zbu=true→K (e47 (S iv0 zbu))→zce=zg enc_55 zbu→X (zBF zaa set_a1 iv0 zbu zce)
section
variable {K:List PA→Prop} {zaa:(Sl Gate)} {set_a1:(Sl Int)} {iv0:Int} {zbu:(Sl Gate)} {zce:Nat→List PV} {X0:St→Prop} {P0:Int→(Sl Gate)→Bool} {S0:Int→(Sl Gate)→(Sl Gate)}
def zh3 (zaa:(Sl Gate)) (set_a1:(Sl Int)) (S0:Int→(Sl Gate)→(Sl Gate)) (iv0:Int) (zbu:(Sl Gate)):(Sl Gate) :=
  (cond (decide (iv0 < (set_a1.len : Int)))
 (S0 (w64 (iv0+(1:Int))) (⟨(zbu.len+1),(zdi zbu.len zbu.get (fun _=>(zaa.get ((set_a1.get iv0.toNat).toNat))))⟩:Sl Gate))
 zbu)
def zh4 (zaa:(Sl Gate)) (set_a1:(Sl Int)) (P0:Int→(Sl Gate)→Bool) (iv0:Int) (zbu:(Sl Gate)):Bool :=
  (cond (decide (iv0 < (set_a1.len : Int)))
 (decide ((0≤iv0∧iv0 < (set_a1.len:Int))) &&
 (decide ((0≤(set_a1.get iv0.toNat)∧(set_a1.get iv0.toNat) < (zaa.len:Int))) &&
 (decide (((zbu.len+1) * 24≤140737488355328∧zbu.len+1≤9223372036854775807)) &&
 (P0 (w64 (iv0+(1:Int))) (⟨(zbu.len+1),(zdi zbu.len zbu.get (fun _=>(zaa.get ((set_a1.get iv0.toNat).toNat))))⟩:Sl Gate)))))
 true)
def zh5 (zaa:(Sl Gate)) (set_a1:(Sl Int)):Nat→Int→(Sl Gate)→(Sl Gate):=lpO (fun _ _=>default) (zh3 zaa set_a1)
def zh6 (zaa:(Sl Gate)) (set_a1:(Sl Int)):Nat→Int→(Sl Gate)→Bool:=lpO (fun _ _=>false) (zh4 zaa set_a1)
def zx7 (zaa:(Sl Gate)) (set_a1:(Sl Int)) (iv0:Int) (zbu:(Sl Gate)):(Sl Gate):=zh5 zaa set_a1 Fuel iv0 zbu
def zx8 (zaa:(Sl Gate)) (set_a1:(Sl Int)) (iv0:Int) (zbu:(Sl Gate)):Bool:=zh6 zaa set_a1 Fuel iv0 zbu
theorem zFR (hs:zx8 zaa set_a1 iv0 zbu=true) (hk:K (e47 (zx7 zaa set_a1 iv0 zbu))) (zfY:zce=zg enc_55 zbu):z47 K [1,1,0,1,0] [] (zBF zaa set_a1 iv0 zbu zce) :=
  zl (fun X=>z47 K [1,1,0,1,0,0] [X]) (by kernel_rfl) fun X0 hX =>
  (show ∀ k, zJe K zaa set_a1 X0 (zh6 zaa set_a1 k) (zh5 zaa set_a1 k) from zdJ _ _ (zh4 zaa set_a1) (zh3 zaa set_a1) (zJe K zaa set_a1 X0)
 (by intro _ _ _ hs;exact absurd hs Bool.false_ne_true)
 (by intro P0 S0 hX0 iv0 zbu zce hs hk zfY;subst zfY;exact hX _ (zau (by kernel_rfl) (zc hs hk (fun hs hk=>(zat hs fun hc hs=>And.intro hc (zat hs fun hc hs=>And.intro hc (zat hs fun hc hs=>And.intro hc (hX0 hs hk (zd2 (enc:=enc_55) (f:=zbu.get) (h:=(fun _=>(zaa.get ((set_a1.get iv0.toNat).toNat)))) rfl rfl)))))) (fun hs hk=>hk))))) _ hs hk zfY
def s47 (zaa:(Sl Gate)) (set_a1:(Sl Int)):(Sl Gate) :=
  (zx7 zaa set_a1 (0:Int) (⟨0,(fun _=>default)⟩:Sl Gate))
def p47 (zaa:(Sl Gate)) (set_a1:(Sl Int)):Bool :=
  (zx8 zaa set_a1 (0:Int) (⟨0,(fun _=>default)⟩:Sl Gate))
end
theorem q47 (zaa:(Sl Gate)) (set_a1:(Sl Int)) (K:List PA→Prop) (hs:p47 zaa set_a1=true) (hk:K (e47 (s47 zaa set_a1))):vcFun Try.prog G47 zFQ 47 [.one (.sl zaa.len 3 (fun i=>enc_55 (zaa.get i))),.one (.sl set_a1.len 1 (fun i=>enc_3 (set_a1.get i)))] K :=
  zau (by kernel_rfl) (zFR hs hk rfl)
def zAi : List PA → COut
  | [.one (.sl a0_n a0_s a0_g),.one (.sl a1_n a1_s a1_g)]=>.det (IsE enc_55 3 a0_s a0_g∧IsE enc_3 1 a1_s a1_g∧p47 (⟨a0_n,zad a0_g⟩:(Sl Gate)) (⟨a1_n,zaU a1_g⟩:(Sl Int))=true) [.one (.sl ((s47 (⟨a0_n,zad a0_g⟩:(Sl Gate)) (⟨a1_n,zaU a1_g⟩:(Sl Int))).len) 3 (fun i=>enc_55 ((s47 (⟨a0_n,zad a0_g⟩:(Sl Gate)) (⟨a1_n,zaU a1_g⟩:(Sl Int))).get i)))]
  | _=>.no
theorem zJf:zaf Try.prog 47:=⟨_,rfl,rfl,by kernel_rfl⟩
theorem zMM:Ok Try.prog 47 zAi:=zax zLR zJf fun args K h=>by
  unfold zAi at h
  split at h
  · rename_i a0_n a0_s a0_g a1_n a1_s a1_g
    obtain ⟨⟨⟨rfl,a0_f,rfl⟩,⟨rfl,a1_f,rfl⟩,hs⟩,hk⟩:=h
    try rw [zac a0_f] at hs
    try rw [zac a0_f] at hk
    try rw [zbn a1_f] at hs
    try rw [zbn a1_f] at hk
    exact ⟨(fun _ _=>[]),(fun _=>false),zFQ,q47 (⟨a0_n,a0_f⟩:(Sl Gate)) (⟨a1_n,a1_f⟩:(Sl Int)) K hs hk⟩
  · exact h.elim
abbrev T42:Tabs:=(((Tabs.nil.addF 21 zAh).addF 47 zAi).addF 70 zxE)
theorem zLS:TabsOk Try.prog T42:=(((TabsOk.nil.addF zML).addF zMM).addF zLA)
abbrev G42:Ctrs:=csm T42 (fun _ _=>[]) (fun _=>false)
def zFS:Ann:=⟨47,[(0,zK [0,1] []),(1,zK [0,1,5] []),(2,zK [0,1,5,9] []),(3,zK [0,1,5] []),(4,zK [0,1,5,36] []),(5,zK [4] []),(6,zK [4] [])],
 [(2,zK [0,1,5] [])],
 [(5,zK [0,1,5,36] [])],
 [],[]⟩
abbrev R42:=Bool
abbrev e42 (r:R42):List PA:=[.one (.bool r)]
@[irreducible] def z42:=ptF Try.prog G42 zFS Try.f42
def zBG (zaa:(Sl Gate)) (zaV:(Sl Int)) (iv0:Int) (zcK:Nat→List PV):St:=⟨[(0,zS enc_55 3 zaa),(1,zP (.sl zaV.len 1 zcK)),(5,zI iv0)],[],[]⟩
abbrev zFT (K:List PA→Prop) (zaa:(Sl Gate)) (X:St→Prop) (P:(Sl Int)→Int→Bool) (S:(Sl Int)→Int→Bool):Prop:=∀ ⦃zaV:(Sl Int)⦄ ⦃iv0:Int⦄ ⦃zcK:Nat→List PV⦄,P zaV iv0=true→K (e42 (S zaV iv0))→zcK=zg enc_3 zaV→X (zBG zaa zaV iv0 zcK)
section
variable {K:List PA→Prop} {zaa:(Sl Gate)} {set_a1:(Sl Int)} {zaV:(Sl Int)} {iv0:Int} {zcK:Nat→List PV} {X0:St→Prop} {P0:(Sl Int)→Int→Bool} {S0:(Sl Int)→Int→Bool} {zch:(Sl Int)} {iv1:Int} {zqn:Bool} {ze0:Nat→List PV}
def zkz (S0:(Sl Int)→Int→Bool) (zaa:(Sl Gate)) (zch:(Sl Int)) (iv1:Int) (zqn:Bool):Bool :=
  (cond zqn
 false
 (S0 zch (w64 (iv1+(1:Int)))))
def zkA (P0:(Sl Int)→Int→Bool) (zaa:(Sl Gate)) (zch:(Sl Int)) (iv1:Int) (zqn:Bool):Bool :=
  (cond zqn
 true
 (P0 zch (w64 (iv1+(1:Int)))))
theorem zqo (hX0:zFT K zaa X0 P0 S0) (hs:zkA P0 zaa zch iv1 zqn=true) (hk:K (e42 (zkz S0 zaa zch iv1 zqn))) (zkw:ze0=zg enc_3 zch):z42 K [1,0,1,0,0,1,0,0,1] [X0] ⟨[(0,zS enc_55 3 zaa),(1,zP (.sl zch.len 1 ze0)),(5,zI iv1),(36,zB zqn)],[],[]⟩:=by subst zkw;exact zau (by kernel_rfl) (zc hs hk (fun hs hk=>hk) (fun hs hk=>(hX0 hs hk rfl)))
def zh7 (zaa:(Sl Gate)) (S0:(Sl Int)→Int→Bool) (zaV:(Sl Int)) (iv0:Int):Bool :=
  (cond (decide (iv0 < (zaV.len : Int)))
 (cond (!(s70 (zaV.get iv0.toNat) (0:Int) (w64 ((zaa.len : Int) - (1:Int)))))
 (zkz S0 zaa zaV iv0 true)
 (cond (decide (iv0 > (0:Int)))
 (zkz S0 zaa zaV iv0 (decide ((zaV.get iv0.toNat)≤(zaV.get ((w64 (iv0 - (1:Int))).toNat)))))
 (zkz S0 zaa zaV iv0 false)))
 (cond (s70 (zaV.len : Int) (2:Int) (3:Int))
 (!(s21 (s47 zaa zaV)))
 false))
def zh8 (zaa:(Sl Gate)) (P0:(Sl Int)→Int→Bool) (zaV:(Sl Int)) (iv0:Int):Bool :=
  (cond (decide (iv0 < (zaV.len : Int)))
 (decide ((0≤iv0∧iv0 < (zaV.len:Int))) &&
 (cond (!(s70 (zaV.get iv0.toNat) (0:Int) (w64 ((zaa.len : Int) - (1:Int)))))
 (zkA P0 zaa zaV iv0 true)
 (cond (decide (iv0 > (0:Int)))
 (decide ((0≤iv0∧iv0 < (zaV.len:Int))) &&
 (decide ((0≤(w64 (iv0 - (1:Int)))∧(w64 (iv0 - (1:Int))) < (zaV.len:Int))) &&
 (zkA P0 zaa zaV iv0 (decide ((zaV.get iv0.toNat)≤(zaV.get ((w64 (iv0 - (1:Int))).toNat)))))))
 (zkA P0 zaa zaV iv0 false))))
 (cond (s70 (zaV.len : Int) (2:Int) (3:Int))
 (decide ((p47 zaa zaV=true)) &&
 (decide ((p21 (s47 zaa zaV)=true)) &&
 true))
 true))
def zf3 (zaa:(Sl Gate)):Nat→(Sl Int)→Int→Bool:=lpO (fun _ _=>default) (zh7 zaa)
def zf4 (zaa:(Sl Gate)):Nat→(Sl Int)→Int→Bool:=lpO (fun _ _=>false) (zh8 zaa)
def zx9 (zaa:(Sl Gate)) (zaV:(Sl Int)) (iv0:Int):Bool:=zf3 zaa Fuel zaV iv0
def zya (zaa:(Sl Gate)) (zaV:(Sl Int)) (iv0:Int):Bool:=zf4 zaa Fuel zaV iv0
theorem zFU (hs:zya zaa zaV iv0=true) (hk:K (e42 (zx9 zaa zaV iv0))) (zfX:zcK=zg enc_3 zaV):z42 K [1,0,1,0] [] (zBG zaa zaV iv0 zcK) :=
  zl (fun X=>z42 K [1,0,1,0,0] [X]) (by kernel_rfl) fun X0 hX =>
  (show ∀ k, zFT K zaa X0 (zf4 zaa k) (zf3 zaa k) from zdJ _ _ (zh8 zaa) (zh7 zaa) (zFT K zaa X0)
 (by intro _ _ _ hs;exact absurd hs Bool.false_ne_true)
 (by intro P0 S0 hX0 zaV iv0 zcK hs hk zfX;subst zfX;exact hX _ (zau (by kernel_rfl) (zc hs hk (fun hs hk=>(zat hs fun hc hs=>And.intro hc (zc hs hk (fun hs hk=>(zqo hX0 hs hk rfl)) (fun hs hk=>(zc hs hk (fun hs hk=>(zat hs fun hc hs=>And.intro hc (zat hs fun hc hs=>And.intro hc (zqo hX0 hs hk rfl)))) (fun hs hk=>(zqo hX0 hs hk rfl))))))) (fun hs hk=>(zc hs hk (fun hs hk=>(zat hs fun hc hs=>And.intro (And.intro (zE enc_55 3 zaa.get) (And.intro (zE enc_3 1 zaV.get) hc)) (zat hs fun hc hs=>And.intro (And.intro (zE enc_55 3 ((s47 zaa zaV).get)) (zy (y:=s47 zaa zaV) (P:=fun y=>p21 y=true) hc)) (zy (y:=s47 zaa zaV) (P:=fun y=>K (e42 (!(s21 y)))) hk)))) (fun hs hk=>hk))))))) _ hs hk zfX
def s42 (zaa:(Sl Gate)) (set_a1:(Sl Int)):Bool :=
  (zx9 zaa set_a1 (0:Int))
def p42 (zaa:(Sl Gate)) (set_a1:(Sl Int)):Bool :=
  (zya zaa set_a1 (0:Int))
end
theorem q42 (zaa:(Sl Gate)) (set_a1:(Sl Int)) (K:List PA→Prop) (hs:p42 zaa set_a1=true) (hk:K (e42 (s42 zaa set_a1))):vcFun Try.prog G42 zFS 42 [.one (.sl zaa.len 3 (fun i=>enc_55 (zaa.get i))),.one (.sl set_a1.len 1 (fun i=>enc_3 (set_a1.get i)))] K :=
  zau (by kernel_rfl) (zFU hs hk rfl)
def zFV : List PA → COut
  | [.one (.sl a0_n a0_s a0_g),.one (.sl a1_n a1_s a1_g)]=>.det (IsE enc_55 3 a0_s a0_g∧IsE enc_3 1 a1_s a1_g∧p42 (⟨a0_n,zad a0_g⟩:(Sl Gate)) (⟨a1_n,zaU a1_g⟩:(Sl Int))=true) [.one (.bool (s42 (⟨a0_n,zad a0_g⟩:(Sl Gate)) (⟨a1_n,zaU a1_g⟩:(Sl Int))))]
  | _=>.no
theorem zJg:zaf Try.prog 42:=⟨_,rfl,rfl,by kernel_rfl⟩
theorem zOC:Ok Try.prog 42 zFV:=zax zLS zJg fun args K h=>by
  unfold zFV at h
  split at h
  · rename_i a0_n a0_s a0_g a1_n a1_s a1_g
    obtain ⟨⟨⟨rfl,a0_f,rfl⟩,⟨rfl,a1_f,rfl⟩,hs⟩,hk⟩:=h
    try rw [zac a0_f] at hs
    try rw [zac a0_f] at hk
    try rw [zbn a1_f] at hs
    try rw [zbn a1_f] at hk
    exact ⟨(fun _ _=>[]),(fun _=>false),zFS,q42 (⟨a0_n,a0_f⟩:(Sl Gate)) (⟨a1_n,a1_f⟩:(Sl Int)) K hs hk⟩
  · exact h.elim
abbrev T43:Tabs:=((Tabs.nil.addF 21 zAh).addF 47 zAi)
theorem zLT:TabsOk Try.prog T43:=((TabsOk.nil.addF zML).addF zMM)
abbrev G43:Ctrs:=csm T43 (fun _ _=>[]) (fun _=>false)
def zFW:Ann:=⟨64,[(0,zK [0] []),(1,zK [0,3] []),(2,zK [0,3,4] []),(3,zK [0,3,4,13] []),(4,zK [0,3,4] []),(5,zK [0,3,4,5] []),(6,zK [0,3,4,5,20] []),(7,zK [0,3,4,5] []),(8,zK [0,3,4,5,29] []),(9,zK [2] [32]),(10,zK [0,3,6] []),(11,zK [0,3,6,35] []),(12,zK [0,3,6] []),(13,zK [0,3,6,7] []),(14,zK [0,3,6,7,42] []),(15,zK [0,3,6,7] []),(16,zK [0,3,6,7,8] []),(17,zK [0,3,6,7,8,49] []),(18,zK [0,3,6,7,8] []),(19,zK [0,3,6,7,8,59] []),(20,zK [2] [63]),(21,zK [2] [])],
 [(3,zK [0,3,4] []),(6,zK [0,3,4,5] []),(11,zK [0,3,6] []),(14,zK [0,3,6,7] []),(17,zK [0,3,6,7,8] [])],
 [(10,zK [0,3] []),(9,zK [0,3,4,5,29] []),(20,zK [0,3,6,7,8,59] [])],
 [],[]⟩
abbrev R43:=(Sl Int)
abbrev e43 (r:R43):List PA:=[.one (.sl r.len 1 (fun i=>enc_3 (r.get i)))]
@[irreducible] def z43:=ptF Try.prog G43 zFW Try.f43
def zBH (zaa:(Sl Gate)) (iv0:Int):St:=⟨[(0,zS enc_55 3 zaa),(3,zI (zaa.len:Int)),(4,zI iv0)],[],[]⟩
abbrev zAj (K:List PA→Prop) (zaa:(Sl Gate)) (X:St→Prop) (P:Int→Bool) (S:Int→(Sl Int)):Prop:=∀ ⦃iv0:Int⦄,P iv0=true→K (e43 (S iv0))→X (zBH zaa iv0)
def zBI (zaa:(Sl Gate)) (iv1:Int) (kv1:Int):St:=⟨[(0,zS enc_55 3 zaa),(3,zI (zaa.len:Int)),(4,zI iv1),(5,zI kv1)],[],[]⟩
abbrev zFX (K:List PA→Prop) (zaa:(Sl Gate)) (X:St→Prop) (P:Int→Int→Bool) (S:Int→Int→(Sl Int)):Prop:=∀ ⦃iv1:Int⦄ ⦃kv1:Int⦄,P iv1 kv1=true→K (e43 (S iv1 kv1))→X (zBI zaa iv1 kv1)
def zBJ (zaa:(Sl Gate)) (iv4:Int):St:=⟨[(0,zS enc_55 3 zaa),(3,zI (zaa.len:Int)),(6,zI iv4)],[],[]⟩
abbrev zyb (K:List PA→Prop) (zaa:(Sl Gate)) (X:St→Prop) (P:Int→Bool) (S:Int→(Sl Int)):Prop:=∀ ⦃iv4:Int⦄,P iv4=true→K (e43 (S iv4))→X (zBJ zaa iv4)
def zBK (zaa:(Sl Gate)) (iv5:Int) (kv5:Int):St:=⟨[(0,zS enc_55 3 zaa),(3,zI (zaa.len:Int)),(6,zI iv5),(7,zI kv5)],[],[]⟩
abbrev zAk (K:List PA→Prop) (zaa:(Sl Gate)) (X:St→Prop) (P:Int→Int→Bool) (S:Int→Int→(Sl Int)):Prop:=∀ ⦃iv5:Int⦄ ⦃kv5:Int⦄,P iv5 kv5=true→K (e43 (S iv5 kv5))→X (zBK zaa iv5 kv5)
def zBL (zaa:(Sl Gate)) (iv6:Int) (kv6:Int) (jv6:Int):St:=⟨[(0,zS enc_55 3 zaa),(3,zI (zaa.len:Int)),(6,zI iv6),(7,zI kv6),(8,zI jv6)],[],[]⟩
abbrev zFY (K:List PA→Prop) (zaa:(Sl Gate)) (X:St→Prop) (P:Int→Int→Int→Bool) (S:Int→Int→Int→(Sl Int)):Prop:=∀ ⦃iv6:Int⦄ ⦃kv6:Int⦄ ⦃jv6:Int⦄,P iv6 kv6 jv6=true→K (e43 (S iv6 kv6 jv6))→X (zBL zaa iv6 kv6 jv6)
section
variable {K:List PA→Prop} {zaa:(Sl Gate)} {iv0:Int} {X0:St→Prop} {P0:Int→Bool} {S0:Int→(Sl Int)} {iv1:Int} {kv1:Int} {X1:St→Prop} {P1:Int→Int→Bool} {S1:Int→Int→(Sl Int)} {iv3:Int} {kv3:Int} {zqp:Bool} {iv4:Int} {X4:St→Prop} {P4:Int→Bool} {S4:Int→(Sl Int)} {iv5:Int} {kv5:Int} {X5:St→Prop} {P5:Int→Int→Bool} {S5:Int→Int→(Sl Int)} {iv6:Int} {kv6:Int} {jv6:Int} {X6:St→Prop} {P6:Int→Int→Int→Bool} {S6:Int→Int→Int→(Sl Int)} {iv7:Int} {kv7:Int} {jv7:Int} {zqq:Bool}
def zqr (S4:Int→(Sl Int)) (S5:Int→Int→(Sl Int)) (S6:Int→Int→Int→(Sl Int)) (zaa:(Sl Gate)) (iv7:Int) (kv7:Int) (jv7:Int) (zqq:Bool):(Sl Int) :=
  (cond zqq
 (⟨3,(ziG iv7 [iv7,kv7,jv7])⟩:(Sl Int))
 (S6 iv7 kv7 (w64 (jv7+(1:Int)))))
def zqs (P4:Int→Bool) (P5:Int→Int→Bool) (P6:Int→Int→Int→Bool) (zaa:(Sl Gate)) (iv7:Int) (kv7:Int) (jv7:Int) (zqq:Bool):Bool :=
  (cond zqq
 true
 (P6 iv7 kv7 (w64 (jv7+(1:Int)))))
theorem zFZ (hX4:zyb K zaa X4 P4 S4) (hX5:zAk K zaa X5 P5 S5) (hX6:zFY K zaa X6 P6 S6) (hs:zqs P4 P5 P6 zaa iv7 kv7 jv7 zqq=true) (hk:K (e43 (zqr S4 S5 S6 zaa iv7 kv7 jv7 zqq))):z43 (Wk K) [1,1,1,0,1,0,0,1,0,0,1,0,0,1,0,0,1,0,0,1,0,0,1] [X4,X5,X6] ⟨[(0,zS enc_55 3 zaa),(3,zI (zaa.len:Int)),(6,zI iv7),(7,zI kv7),(8,zI jv7),(59,zB zqq)],[],[]⟩:=zau (by kernel_rfl) (zc hs hk (fun hs hk=>((zdA (Eq.mpr (congrArg K (congrArg (fun (g_:Nat→List PV)=>([.one (.sl 3 1 g_)]:List PA)) (zdj (enc:=enc_3) (x:=iv7) (y:=kv7) (r:=[jv7])))) hk)):Wk K [.one (.sl 3 1 (zcj [(enc_3 iv7),(enc_3 kv7),(enc_3 jv7)]))])) (fun hs hk=>(hX6 hs hk)))
def zh9 (S4:Int→(Sl Int)) (S5:Int→Int→(Sl Int)) (zaa:(Sl Gate)) (S6:Int→Int→Int→(Sl Int)) (iv6:Int) (kv6:Int) (jv6:Int):(Sl Int) :=
  (cond (decide (jv6 < (zaa.len : Int)))
 (zqr S4 S5 S6 zaa iv6 kv6 jv6 (!(s21 (s47 zaa (⟨3,zaU (zcj [(enc_3 iv6),(enc_3 kv6),(enc_3 jv6)])⟩:(Sl Int))))))
 (S5 iv6 (w64 (kv6+(1:Int)))))
def zia (P4:Int→Bool) (P5:Int→Int→Bool) (zaa:(Sl Gate)) (P6:Int→Int→Int→Bool) (iv6:Int) (kv6:Int) (jv6:Int):Bool :=
  (cond (decide (jv6 < (zaa.len : Int)))
 (decide ((p47 zaa (⟨3,zaU (zcj [(enc_3 iv6),(enc_3 kv6),(enc_3 jv6)])⟩:(Sl Int))=true)) &&
 (decide ((p21 (s47 zaa (⟨3,zaU (zcj [(enc_3 iv6),(enc_3 kv6),(enc_3 jv6)])⟩:(Sl Int)))=true)) &&
 (zqs P4 P5 P6 zaa iv6 kv6 jv6 (!(s21 (s47 zaa (⟨3,zaU (zcj [(enc_3 iv6),(enc_3 kv6),(enc_3 jv6)])⟩:(Sl Int))))))))
 (P5 iv6 (w64 (kv6+(1:Int)))))
def zib (S4:Int→(Sl Int)) (S5:Int→Int→(Sl Int)) (zaa:(Sl Gate)):Nat→Int→Int→Int→(Sl Int):=lpO (fun _ _ _=>default) (zh9 S4 S5 zaa)
def zic (P4:Int→Bool) (P5:Int→Int→Bool) (zaa:(Sl Gate)):Nat→Int→Int→Int→Bool:=lpO (fun _ _ _=>false) (zia P4 P5 zaa)
def zqu (S4:Int→(Sl Int)) (S5:Int→Int→(Sl Int)) (zaa:(Sl Gate)) (iv6:Int) (kv6:Int) (jv6:Int):(Sl Int):=zib S4 S5 zaa Fuel iv6 kv6 jv6
def zqv (P4:Int→Bool) (P5:Int→Int→Bool) (zaa:(Sl Gate)) (iv6:Int) (kv6:Int) (jv6:Int):Bool:=zic P4 P5 zaa Fuel iv6 kv6 jv6
theorem zF0 (hX4:zyb K zaa X4 P4 S4) (hX5:zAk K zaa X5 P5 S5) (hs:zqv P4 P5 zaa iv6 kv6 jv6=true) (hk:K (e43 (zqu S4 S5 zaa iv6 kv6 jv6))):z43 (Wk K) [1,1,1,0,1,0,0,1,0,0,1,0,0,1,0,0,1,0] [X4,X5] (zBL zaa iv6 kv6 jv6) :=
  zl (fun X=>z43 (Wk K) [1,1,1,0,1,0,0,1,0,0,1,0,0,1,0,0,1,0,0] [X4,X5,X]) (by kernel_rfl) fun X6 hX =>
  (show ∀ k, zFY K zaa X6 (zic P4 P5 zaa k) (zib S4 S5 zaa k) from zdJ _ _ (zia P4 P5 zaa) (zh9 S4 S5 zaa) (zFY K zaa X6)
 (by intro _ _ _ hs;exact absurd hs Bool.false_ne_true)
 (by intro P6 S6 hX6 iv6 kv6 jv6 hs hk;exact hX _ (zau (by kernel_rfl) (zc hs hk (fun hs hk=>(zat hs fun hc hs=>And.intro (And.intro (zE enc_55 3 zaa.get) (And.intro ((zdP [jv6]):IsE enc_3 1 1 (zcj [(enc_3 iv6),(enc_3 kv6),(enc_3 jv6)])) hc)) (zat hs fun hc hs=>And.intro (And.intro (zE enc_55 3 ((s47 zaa (⟨3,zaU (zcj [(enc_3 iv6),(enc_3 kv6),(enc_3 jv6)])⟩:(Sl Int))).get)) hc) (zFZ hX4 hX5 hX6 hs hk)))) (fun hs hk=>(hX5 hs hk)))))) _ hs hk
def zid (S4:Int→(Sl Int)) (zaa:(Sl Gate)) (S5:Int→Int→(Sl Int)) (iv5:Int) (kv5:Int):(Sl Int) :=
  (cond (decide (kv5 < (zaa.len : Int)))
 (zqu S4 S5 zaa iv5 kv5 (w64 (kv5+(1:Int))))
 (S4 (w64 (iv5+(1:Int)))))
def zie (P4:Int→Bool) (zaa:(Sl Gate)) (P5:Int→Int→Bool) (iv5:Int) (kv5:Int):Bool :=
  (cond (decide (kv5 < (zaa.len : Int)))
 (zqv P4 P5 zaa iv5 kv5 (w64 (kv5+(1:Int))))
 (P4 (w64 (iv5+(1:Int)))))
def zif (S4:Int→(Sl Int)) (zaa:(Sl Gate)):Nat→Int→Int→(Sl Int):=lpO (fun _ _=>default) (zid S4 zaa)
def zih (P4:Int→Bool) (zaa:(Sl Gate)):Nat→Int→Int→Bool:=lpO (fun _ _=>false) (zie P4 zaa)
def zqw (S4:Int→(Sl Int)) (zaa:(Sl Gate)) (iv5:Int) (kv5:Int):(Sl Int):=zif S4 zaa Fuel iv5 kv5
def zqx (P4:Int→Bool) (zaa:(Sl Gate)) (iv5:Int) (kv5:Int):Bool:=zih P4 zaa Fuel iv5 kv5
theorem zF1 (hX4:zyb K zaa X4 P4 S4) (hs:zqx P4 zaa iv5 kv5=true) (hk:K (e43 (zqw S4 zaa iv5 kv5))):z43 (Wk K) [1,1,1,0,1,0,0,1,0,0,1,0] [X4] (zBK zaa iv5 kv5) :=
  zl (fun X=>z43 (Wk K) [1,1,1,0,1,0,0,1,0,0,1,0,0] [X4,X]) (by kernel_rfl) fun X5 hX =>
  (show ∀ k, zAk K zaa X5 (zih P4 zaa k) (zif S4 zaa k) from zdJ _ _ (zie P4 zaa) (zid S4 zaa) (zAk K zaa X5)
 (by intro _ _ hs;exact absurd hs Bool.false_ne_true)
 (by intro P5 S5 hX5 iv5 kv5 hs hk;exact hX _ (zau (by kernel_rfl) (zc hs hk (fun hs hk=>(zF0 hX4 hX5 hs hk)) (fun hs hk=>(hX4 hs hk)))))) _ hs hk
def zii (zaa:(Sl Gate)) (S4:Int→(Sl Int)) (iv4:Int):(Sl Int) :=
  (cond (decide (iv4 < (zaa.len : Int)))
 (zqw S4 zaa iv4 (w64 (iv4+(1:Int))))
 (⟨0,fun _=>default⟩:(Sl Int)))
def zij (zaa:(Sl Gate)) (P4:Int→Bool) (iv4:Int):Bool :=
  (cond (decide (iv4 < (zaa.len : Int)))
 (zqx P4 zaa iv4 (w64 (iv4+(1:Int))))
 true)
def zik (zaa:(Sl Gate)):Nat→Int→(Sl Int):=lpO (fun _=>default) (zii zaa)
def zil (zaa:(Sl Gate)):Nat→Int→Bool:=lpO (fun _=>false) (zij zaa)
def zyc (zaa:(Sl Gate)) (iv4:Int):(Sl Int):=zik zaa Fuel iv4
def zyd (zaa:(Sl Gate)) (iv4:Int):Bool:=zil zaa Fuel iv4
theorem zF2 (hs:zyd zaa iv4=true) (hk:K (e43 (zyc zaa iv4))):z43 (Wk K) [1,1,1,0,1,0] [] (zBJ zaa iv4) :=
  zl (fun X=>z43 (Wk K) [1,1,1,0,1,0,0] [X]) (by kernel_rfl) fun X4 hX =>
  (show ∀ k, zyb K zaa X4 (zil zaa k) (zik zaa k) from zdJ _ _ (zij zaa) (zii zaa) (zyb K zaa X4)
 (by intro _ hs;exact absurd hs Bool.false_ne_true)
 (by intro P4 S4 hX4 iv4 hs hk;exact hX _ (zau (by kernel_rfl) (zc hs hk (fun hs hk=>(zF1 hX4 hs hk)) (fun hs hk=>((wk hk (zc3 (.one (.nil _ _)) zgG)):Wk K [.one (.nils)])))))) _ hs hk
def zqy (S0:Int→(Sl Int)) (S1:Int→Int→(Sl Int)) (zaa:(Sl Gate)) (iv3:Int) (kv3:Int) (zqp:Bool):(Sl Int) :=
  (cond zqp
 (⟨2,(ziG iv3 [iv3,kv3])⟩:(Sl Int))
 (S1 iv3 (w64 (kv3+(1:Int)))))
def zqz (P0:Int→Bool) (P1:Int→Int→Bool) (zaa:(Sl Gate)) (iv3:Int) (kv3:Int) (zqp:Bool):Bool :=
  (cond zqp
 true
 (P1 iv3 (w64 (kv3+(1:Int)))))
theorem zF3 (hX0:zAj K zaa X0 P0 S0) (hX1:zFX K zaa X1 P1 S1) (hs:zqz P0 P1 zaa iv3 kv3 zqp=true) (hk:K (e43 (zqy S0 S1 zaa iv3 kv3 zqp))):z43 (Wk K) [1,1,0,1,0,0,1,0,0,1,0,0,1,0,0,1] [X0,X1] ⟨[(0,zS enc_55 3 zaa),(3,zI (zaa.len:Int)),(4,zI iv3),(5,zI kv3),(29,zB zqp)],[],[]⟩:=zau (by kernel_rfl) (zc hs hk (fun hs hk=>((zdA (Eq.mpr (congrArg K (congrArg (fun (g_:Nat→List PV)=>([.one (.sl 2 1 g_)]:List PA)) (zdj (enc:=enc_3) (x:=iv3) (y:=kv3) (r:=[])))) hk)):Wk K [.one (.sl 2 1 (zcj [(enc_3 iv3),(enc_3 kv3)]))])) (fun hs hk=>(hX1 hs hk)))
def zye (zaa:(Sl Gate)):(Sl Int) :=
  (zyc zaa (0:Int))
def zyf (zaa:(Sl Gate)):Bool :=
  (zyd zaa (0:Int))
theorem zF4 (hs:zyf zaa=true) (hk:K (e43 (zye zaa))):z43 (Wk K) [1,1,1] [] ⟨[(0,zS enc_55 3 zaa),(3,zI (zaa.len:Int))],[],[]⟩:=zau (by kernel_rfl) (zF2 hs hk)
def zim (S0:Int→(Sl Int)) (zaa:(Sl Gate)) (S1:Int→Int→(Sl Int)) (iv1:Int) (kv1:Int):(Sl Int) :=
  (cond (decide (kv1 < (zaa.len : Int)))
 (zqy S0 S1 zaa iv1 kv1 (!(s21 (s47 zaa (⟨2,zaU (zcj [(enc_3 iv1),(enc_3 kv1)])⟩:(Sl Int))))))
 (S0 (w64 (iv1+(1:Int)))))
def zin (P0:Int→Bool) (zaa:(Sl Gate)) (P1:Int→Int→Bool) (iv1:Int) (kv1:Int):Bool :=
  (cond (decide (kv1 < (zaa.len : Int)))
 (decide ((p47 zaa (⟨2,zaU (zcj [(enc_3 iv1),(enc_3 kv1)])⟩:(Sl Int))=true)) &&
 (decide ((p21 (s47 zaa (⟨2,zaU (zcj [(enc_3 iv1),(enc_3 kv1)])⟩:(Sl Int)))=true)) &&
 (zqz P0 P1 zaa iv1 kv1 (!(s21 (s47 zaa (⟨2,zaU (zcj [(enc_3 iv1),(enc_3 kv1)])⟩:(Sl Int))))))))
 (P0 (w64 (iv1+(1:Int)))))
def zio (S0:Int→(Sl Int)) (zaa:(Sl Gate)):Nat→Int→Int→(Sl Int):=lpO (fun _ _=>default) (zim S0 zaa)
def ziq (P0:Int→Bool) (zaa:(Sl Gate)):Nat→Int→Int→Bool:=lpO (fun _ _=>false) (zin P0 zaa)
def zqA (S0:Int→(Sl Int)) (zaa:(Sl Gate)) (iv1:Int) (kv1:Int):(Sl Int):=zio S0 zaa Fuel iv1 kv1
def zqB (P0:Int→Bool) (zaa:(Sl Gate)) (iv1:Int) (kv1:Int):Bool:=ziq P0 zaa Fuel iv1 kv1
theorem zF5 (hX0:zAj K zaa X0 P0 S0) (hs:zqB P0 zaa iv1 kv1=true) (hk:K (e43 (zqA S0 zaa iv1 kv1))):z43 (Wk K) [1,1,0,1,0,0,1,0,0,1,0] [X0] (zBI zaa iv1 kv1) :=
  zl (fun X=>z43 (Wk K) [1,1,0,1,0,0,1,0,0,1,0,0] [X0,X]) (by kernel_rfl) fun X1 hX =>
  (show ∀ k, zFX K zaa X1 (ziq P0 zaa k) (zio S0 zaa k) from zdJ _ _ (zin P0 zaa) (zim S0 zaa) (zFX K zaa X1)
 (by intro _ _ hs;exact absurd hs Bool.false_ne_true)
 (by intro P1 S1 hX1 iv1 kv1 hs hk;exact hX _ (zau (by kernel_rfl) (zc hs hk (fun hs hk=>(zat hs fun hc hs=>And.intro (And.intro (zE enc_55 3 zaa.get) (And.intro ((zdP []):IsE enc_3 1 1 (zcj [(enc_3 iv1),(enc_3 kv1)])) hc)) (zat hs fun hc hs=>And.intro (And.intro (zE enc_55 3 ((s47 zaa (⟨2,zaU (zcj [(enc_3 iv1),(enc_3 kv1)])⟩:(Sl Int))).get)) hc) (zF3 hX0 hX1 hs hk)))) (fun hs hk=>(hX0 hs hk)))))) _ hs hk
def zir (zaa:(Sl Gate)) (S0:Int→(Sl Int)) (iv0:Int):(Sl Int) :=
  (cond (decide (iv0 < (zaa.len : Int)))
 (zqA S0 zaa iv0 (w64 (iv0+(1:Int))))
 (zye zaa))
def zis (zaa:(Sl Gate)) (P0:Int→Bool) (iv0:Int):Bool :=
  (cond (decide (iv0 < (zaa.len : Int)))
 (zqB P0 zaa iv0 (w64 (iv0+(1:Int))))
 (zyf zaa))
def zit (zaa:(Sl Gate)):Nat→Int→(Sl Int):=lpO (fun _=>default) (zir zaa)
def ziu (zaa:(Sl Gate)):Nat→Int→Bool:=lpO (fun _=>false) (zis zaa)
def zyg (zaa:(Sl Gate)) (iv0:Int):(Sl Int):=zit zaa Fuel iv0
def zyh (zaa:(Sl Gate)) (iv0:Int):Bool:=ziu zaa Fuel iv0
theorem zF6 (hs:zyh zaa iv0=true) (hk:K (e43 (zyg zaa iv0))):z43 (Wk K) [1,1,0,1,0] [] (zBH zaa iv0) :=
  zl (fun X=>z43 (Wk K) [1,1,0,1,0,0] [X]) (by kernel_rfl) fun X0 hX =>
  (show ∀ k, zAj K zaa X0 (ziu zaa k) (zit zaa k) from zdJ _ _ (zis zaa) (zir zaa) (zAj K zaa X0)
 (by intro _ hs;exact absurd hs Bool.false_ne_true)
 (by intro P0 S0 hX0 iv0 hs hk;exact hX _ (zau (by kernel_rfl) (zc hs hk (fun hs hk=>(zF5 hX0 hs hk)) (fun hs hk=>(zF4 hs hk)))))) _ hs hk
def s43 (zaa:(Sl Gate)):(Sl Int) :=
  (zyg zaa (0:Int))
def p43 (zaa:(Sl Gate)):Bool :=
  (zyh zaa (0:Int))
end
theorem q43 (zaa:(Sl Gate)) (K:List PA→Prop) (hs:p43 zaa=true) (hk:K (e43 (s43 zaa))):vcFun Try.prog G43 zFW 43 [.one (.sl zaa.len 3 (fun i=>enc_55 (zaa.get i)))] (Wk K) :=
  zau (by kernel_rfl) (zF6 hs hk)
def zF7 : List PA → COut
  | [.one (.sl a0_n a0_s a0_g)]=>.det (IsE enc_55 3 a0_s a0_g∧p43 (⟨a0_n,zad a0_g⟩:(Sl Gate))=true) [.one (.sl ((s43 (⟨a0_n,zad a0_g⟩:(Sl Gate))).len) 1 (fun i=>enc_3 ((s43 (⟨a0_n,zad a0_g⟩:(Sl Gate))).get i)))]
  | _=>.no
theorem zJh:zaf Try.prog 43:=⟨_,rfl,rfl,by kernel_rfl⟩
theorem zOD:Ok Try.prog 43 zF7:=zfG zLT zJh fun args K h=>by
  unfold zF7 at h
  split at h
  · rename_i a0_n a0_s a0_g
    obtain ⟨⟨⟨rfl,a0_f,rfl⟩,hs⟩,hk⟩:=h
    try rw [zac a0_f] at hs
    try rw [zac a0_f] at hk
    exact ⟨_,zex zeH _,(fun _ _=>[]),(fun _=>false),zFW,q43 (⟨a0_n,a0_f⟩:(Sl Gate)) K hs hk⟩
  · exact h.elim
abbrev T8:Tabs:=(((((((Tabs.nil.addF 18 zE4).addF 20 zFa).addF 38 zzP).addF 39 zzQ).addF 41 zFg).addF 42 zFV).addF 43 zF7)
theorem zOE:TabsOk Try.prog T8:=(((((((TabsOk.nil.addF zOg).addF zOi).addF zMi).addF zMj).addF zOj).addF zOC).addF zOD)
abbrev G8:Ctrs:=csm T8 (fun _ _=>[]) (fun _=>false)
def zLU:Ann:=⟨84,[(0,zK [0,1] []),(1,zK [0,1,26] []),(2,zK [4] []),(3,zK [0,1,5,6] []),(4,zK [0,1,5,6,7] []),(5,zK [0,1,5,6,7,38] []),(6,zK [4] []),(7,zK [0,5,6,57] []),(8,zK [4] []),(9,zK [5,6,8] []),(10,zK [5,6,8,62] []),(11,zK [4] []),(12,zK [4] [])],
 [],
 [(3,zK [0,1] []),(4,zK [0,1,5,6] []),(5,zK [0,1,5,6,7] []),(6,zK [0,1,5,6,7,38] []),(7,zK [0,1,5,6,7] []),(8,zK [0,5,6,57] []),(9,zK [0,5,6] []),(10,zK [5,6,8] []),(12,zK [5,6,8] [])],
 [],[]⟩
abbrev R8:=Bool
abbrev e8 (r:R8):List PA:=[.one (.bool r)]
@[irreducible] def z8:=ptF Try.prog G8 zLU Try.f8
section
variable {K:List PA→Prop} {zaa:(Sl Gate)} {set_a1:(Sl Int)} {zaV:(Sl Int)} {zcK:Nat→List PV} {zch:(Sl Int)} {sv1:(Sl Int)} {ev1:Int} {ze0:Nat→List PV} {zjR:Nat→List PV} {zbX:(Sl Int)} {sv2:(Sl Int)} {zkJ:Bool} {zdG:Nat→List PV} {zxk:Nat→List PV} {ze1:(Sl Int)} {sv3:(Sl Int)} {zqC:Bool} {zks:Nat→List PV} {zxl:Nat→List PV} {zkR:(Sl Int)} {sv4:(Sl Int)} {zyi:Nat→List PV} {zxm:Nat→List PV} {sv5:(Sl Int)} {zqD:Bool} {zxn:Nat→List PV} {sv6:(Sl Int)} {zxo:Nat→List PV} {sv7:(Sl Int)} {xv7:(Sl Int)} {zJi:Nat→List PV} {zJj:Nat→List PV} {sv8:(Sl Int)} {zJk:Nat→List PV}
def zyj (ev1:Int) (xv7:(Sl Int)) (sv8:(Sl Int)):Bool :=
  (cond (ev1 == (0:Int))
 (cond ((s39 sv8 xv7) == (0:Int))
 true
 false)
 false)
def zyk (ev1:Int) (xv7:(Sl Int)) (sv8:(Sl Int)):Bool :=
  (cond (ev1 == (0:Int))
 (decide ((p39 sv8 xv7=true)) &&
 true)
 true)
theorem zJl (hs:zyk ev1 xv7 sv8=true) (hk:K (e8 (zyj ev1 xv7 sv8))) (zLV:zJk=zg enc_3 sv8):z8 K [1,1,1,1,1,1,1,1] [] ⟨[(5,zP (.sl sv8.len 1 zJk)),(6,zI ev1),(8,zS enc_3 1 xv7)],[],[]⟩:=by subst zLV;exact zau (by kernel_rfl) (zc hs hk (fun hs hk=>(zat hs fun hc hs=>And.intro (And.intro (zE enc_3 1 sv8.get) (And.intro (zE enc_3 1 xv7.get) hc)) (zt hk (fun hk=>hk) (fun hk=>hk)))) (fun hs hk=>hk))
def zyl (ev1:Int) (sv7:(Sl Int)) (xv7:(Sl Int)):Bool :=
  (cond ((xv7.len : Int) == (0:Int))
 (cond (ev1 == (7:Int))
 (cond ((sv7.len : Int) == (0:Int))
 true
 false)
 false)
 (zyj ev1 xv7 sv7))
def zym (ev1:Int) (sv7:(Sl Int)) (xv7:(Sl Int)):Bool :=
  (cond ((xv7.len : Int) == (0:Int))
 true
 (zyk ev1 xv7 sv7))
theorem zJm (hs:zym ev1 sv7 xv7=true) (hk:K (e8 (zyl ev1 sv7 xv7))) (zLW:zJi=zg enc_3 sv7) (zLX:zJj=zg enc_3 xv7):z8 K [1,1,1,1,1,1,1] [] ⟨[(5,zP (.sl sv7.len 1 zJi)),(6,zI ev1),(8,zP (.sl xv7.len 1 zJj))],[],[]⟩:=by subst zLW;subst zLX;exact zau (by kernel_rfl) (zc hs hk (fun hs hk=>(zt hk (fun hk=>(zt hk (fun hk=>hk) (fun hk=>hk))) (fun hk=>hk))) (fun hs hk=>(zJl hs hk rfl)))
def zyn (zaa:(Sl Gate)) (ev1:Int) (sv6:(Sl Int)):Bool :=
  (zyl ev1 sv6 (s43 zaa))
def zyo (zaa:(Sl Gate)) (ev1:Int) (sv6:(Sl Int)):Bool :=
  (decide ((p43 zaa=true)) &&
 (zym ev1 sv6 (s43 zaa)))
theorem zJn (hs:zyo zaa ev1 sv6=true) (hk:K (e8 (zyn zaa ev1 sv6))) (zES:zxo=zg enc_3 sv6):z8 K [1,1,1,1,1,1] [] ⟨[(0,zS enc_55 3 zaa),(5,zP (.sl sv6.len 1 zxo)),(6,zI ev1)],[],[]⟩:=by subst zES;exact zau (by kernel_rfl) (zat hs fun hc hs=>And.intro (And.intro (zE enc_55 3 zaa.get) hc) (zJm hs hk rfl rfl))
def zyp (zaa:(Sl Gate)) (ev1:Int) (sv5:(Sl Int)) (zqD:Bool):Bool :=
  (cond zqD
 false
 (zyn zaa ev1 sv5))
def zyq (zaa:(Sl Gate)) (ev1:Int) (sv5:(Sl Int)) (zqD:Bool):Bool :=
  (cond zqD
 true
 (zyo zaa ev1 sv5))
theorem zJo (hs:zyq zaa ev1 sv5 zqD=true) (hk:K (e8 (zyp zaa ev1 sv5 zqD))) (zEV:zxn=zg enc_3 sv5):z8 K [1,1,1,1,1,0,1] [] ⟨[(0,zS enc_55 3 zaa),(5,zP (.sl sv5.len 1 zxn)),(6,zI ev1),(57,zB zqD)],[],[]⟩:=by subst zEV;exact zau (by kernel_rfl) (zc hs hk (fun hs hk=>hk) (fun hs hk=>(zJn hs hk rfl)))
def zyr (zaa:(Sl Gate)) (ev1:Int) (zkJ:Bool) (zkR:(Sl Int)) (sv4:(Sl Int)):Bool :=
  (zyp zaa ev1 sv4 (zkJ != (s42 zaa zkR)))
def zys (zaa:(Sl Gate)) (ev1:Int) (zkJ:Bool) (zkR:(Sl Int)) (sv4:(Sl Int)):Bool :=
  (decide ((p42 zaa zkR=true)) &&
 (zyq zaa ev1 sv4 (zkJ != (s42 zaa zkR))))
theorem zJp (hs:zys zaa ev1 zkJ zkR sv4=true) (hk:K (e8 (zyr zaa ev1 zkJ zkR sv4))) (zF8:zyi=zg enc_3 zkR) (zEX:zxm=zg enc_3 sv4):z8 K [1,1,1,1,1] [] ⟨[(0,zS enc_55 3 zaa),(1,zP (.sl zkR.len 1 zyi)),(5,zP (.sl sv4.len 1 zxm)),(6,zI ev1),(7,zB zkJ)],[],[]⟩:=by subst zF8;subst zEX;exact zau (by kernel_rfl) (zat hs fun hc hs=>And.intro (And.intro (zE enc_55 3 zaa.get) (And.intro (zE enc_3 1 zkR.get) hc)) (zJo hs hk rfl))
def zr6 (zaa:(Sl Gate)) (ev1:Int) (zkJ:Bool) (ze1:(Sl Int)) (sv3:(Sl Int)) (zqC:Bool):Bool :=
  (cond zqC
 (cond (ev1 == (2:Int))
 (cond ((sv3.len : Int) == (0:Int))
 (cond (!zkJ)
 true
 false)
 false)
 false)
 (zyr zaa ev1 zkJ ze1 sv3))
def zr7 (zaa:(Sl Gate)) (ev1:Int) (zkJ:Bool) (ze1:(Sl Int)) (sv3:(Sl Int)) (zqC:Bool):Bool :=
  (cond zqC
 true
 (zys zaa ev1 zkJ ze1 sv3))
theorem zJq (hs:zr7 zaa ev1 zkJ ze1 sv3 zqC=true) (hk:K (e8 (zr6 zaa ev1 zkJ ze1 sv3 zqC))) (zp5:zks=zg enc_3 ze1) (zEZ:zxl=zg enc_3 sv3):z8 K [1,1,1,1,0,1] [] ⟨[(0,zS enc_55 3 zaa),(1,zP (.sl ze1.len 1 zks)),(5,zP (.sl sv3.len 1 zxl)),(6,zI ev1),(7,zB zkJ),(38,zB zqC)],[],[]⟩:=by subst zp5;subst zEZ;exact zau (by kernel_rfl) (zc hs hk (fun hs hk=>(zt hk (fun hk=>(zt hk (fun hk=>(zt hk (fun hk=>hk) (fun hk=>hk))) (fun hk=>hk))) (fun hk=>hk))) (fun hs hk=>(zJp hs hk rfl rfl)))
def zyt (zaa:(Sl Gate)) (ev1:Int) (zbX:(Sl Int)) (sv2:(Sl Int)) (zkJ:Bool):Bool :=
  (zr6 zaa ev1 zkJ zbX sv2 (!(s20 zaa)))
def zyu (zaa:(Sl Gate)) (ev1:Int) (zbX:(Sl Int)) (sv2:(Sl Int)) (zkJ:Bool):Bool :=
  (decide ((p20 zaa=true)) &&
 (zr7 zaa ev1 zkJ zbX sv2 (!(s20 zaa))))
theorem zJr (hs:zyu zaa ev1 zbX sv2 zkJ=true) (hk:K (e8 (zyt zaa ev1 zbX sv2 zkJ))) (zkv:zdG=zg enc_3 zbX) (zE1:zxk=zg enc_3 sv2):z8 K [1,1,1,1] [] ⟨[(0,zS enc_55 3 zaa),(1,zP (.sl zbX.len 1 zdG)),(5,zP (.sl sv2.len 1 zxk)),(6,zI ev1),(7,zB zkJ)],[],[]⟩:=by subst zkv;subst zE1;exact zau (by kernel_rfl) (zat hs fun hc hs=>And.intro (And.intro (zE enc_55 3 zaa.get) hc) (zJq hs hk rfl rfl))
def zyv (zaa:(Sl Gate)) (zch:(Sl Int)) (sv1:(Sl Int)) (ev1:Int):Bool :=
  (zyt zaa ev1 zch sv1 (s41 zaa zch))
def zyw (zaa:(Sl Gate)) (zch:(Sl Int)) (sv1:(Sl Int)) (ev1:Int):Bool :=
  (decide ((p41 zaa zch=true)) &&
 (zyu zaa ev1 zch sv1 (s41 zaa zch)))
theorem zJs (hs:zyw zaa zch sv1 ev1=true) (hk:K (e8 (zyv zaa zch sv1 ev1))) (zkw:ze0=zg enc_3 zch) (zoP:zjR=zg enc_3 sv1):z8 K [1,1,1] [] ⟨[(0,zS enc_55 3 zaa),(1,zP (.sl zch.len 1 ze0)),(5,zP (.sl sv1.len 1 zjR)),(6,zI ev1)],[],[]⟩:=by subst zkw;subst zoP;exact zau (by kernel_rfl) (zat hs fun hc hs=>And.intro (And.intro (zE enc_55 3 zaa.get) (And.intro (zE enc_3 1 zch.get) hc)) (zJr hs hk rfl rfl))
def zn1 (zaa:(Sl Gate)) (zaV:(Sl Int)):Bool :=
  (zyv zaa zaV ((s38 zaa).1) ((s38 zaa).2))
def zn2 (zaa:(Sl Gate)) (zaV:(Sl Int)):Bool :=
  (decide ((p38 zaa=true)) &&
 (zyw zaa zaV ((s38 zaa).1) ((s38 zaa).2)))
theorem zBM (hs:zn2 zaa zaV=true) (hk:K (e8 (zn1 zaa zaV))) (zfX:zcK=zg enc_3 zaV):z8 K [1,1] [] ⟨[(0,zS enc_55 3 zaa),(1,zP (.sl zaV.len 1 zcK))],[],[]⟩:=by subst zfX;exact zau (by kernel_rfl) (zat hs fun hc hs=>And.intro (And.intro (zE enc_55 3 zaa.get) hc) (zJs hs hk rfl rfl))
def s8 (zaa:(Sl Gate)) (set_a1:(Sl Int)):Bool :=
  (cond (decide ((zaa.len : Int) > (14:Int)))
 (cond (decide ((zaa.len : Int) ≤ (24:Int)))
 true
 (cond (decide ((zaa.len : Int) > (40:Int)))
 true
 (cond (decide ((set_a1.len : Int) > (10:Int)))
 true
 (zn1 zaa set_a1))))
 (cond (decide ((zaa.len : Int) > (40:Int)))
 true
 (cond (decide ((set_a1.len : Int) > (10:Int)))
 true
 (zn1 zaa set_a1))))
def p8 (zaa:(Sl Gate)) (set_a1:(Sl Int)):Bool :=
  (cond (decide ((zaa.len : Int) > (14:Int)))
 (cond (decide ((zaa.len : Int) ≤ (24:Int)))
 true
 (cond (decide ((zaa.len : Int) > (40:Int)))
 true
 (cond (decide ((set_a1.len : Int) > (10:Int)))
 true
 (zn2 zaa set_a1))))
 (cond (decide ((zaa.len : Int) > (40:Int)))
 true
 (cond (decide ((set_a1.len : Int) > (10:Int)))
 true
 (zn2 zaa set_a1))))
end
theorem q8 (zaa:(Sl Gate)) (set_a1:(Sl Int)) (K:List PA→Prop) (hs:p8 zaa set_a1=true) (hk:K (e8 (s8 zaa set_a1))):vcFun Try.prog G8 zLU 8 [.one (.sl zaa.len 3 (fun i=>enc_55 (zaa.get i))),.one (.sl set_a1.len 1 (fun i=>enc_3 (set_a1.get i)))] K :=
  zau (by kernel_rfl) (zc hs hk (fun hs hk=>(zc hs hk (fun hs hk=>hk) (fun hs hk=>(zc hs hk (fun hs hk=>hk) (fun hs hk=>(zc hs hk (fun hs hk=>hk) (fun hs hk=>(zBM hs hk rfl)))))))) (fun hs hk=>(zc hs hk (fun hs hk=>hk) (fun hs hk=>(zc hs hk (fun hs hk=>hk) (fun hs hk=>(zBM hs hk rfl)))))))
def zMN : List PA → COut
  | [.one (.sl a0_n a0_s a0_g),.one (.sl a1_n a1_s a1_g)]=>.det (IsE enc_55 3 a0_s a0_g∧IsE enc_3 1 a1_s a1_g∧p8 (⟨a0_n,zad a0_g⟩:(Sl Gate)) (⟨a1_n,zaU a1_g⟩:(Sl Int))=true) [.one (.bool (s8 (⟨a0_n,zad a0_g⟩:(Sl Gate)) (⟨a1_n,zaU a1_g⟩:(Sl Int))))]
  | _=>.no
theorem call8:zaf Try.prog 8:=⟨_,rfl,rfl,by kernel_rfl⟩
theorem ok8:Ok Try.prog 8 zMN:=zax zOE call8 fun args K h=>by
  unfold zMN at h
  split at h
  · rename_i a0_n a0_s a0_g a1_n a1_s a1_g
    obtain ⟨⟨⟨rfl,a0_f,rfl⟩,⟨rfl,a1_f,rfl⟩,hs⟩,hk⟩:=h
    try rw [zac a0_f] at hs
    try rw [zac a0_f] at hk
    try rw [zbn a1_f] at hs
    try rw [zbn a1_f] at hk
    exact ⟨(fun _ _=>[]),(fun _=>false),zLU,q8 (⟨a0_n,a0_f⟩:(Sl Gate)) (⟨a1_n,a1_f⟩:(Sl Int)) K hs hk⟩
  · exact h.elim
end Go.Proofs
namespace Go.Proofs
open Go Go.Pm
set_option maxRecDepth 100000
set_option linter.unusedVariables false
attribute [local irreducible] Go.Pm.vcFun Go.Pm.vc Go.Pm.vcIter
theorem C_3:Try.prog.cellsOf 3=1:=by kernel_rfl
theorem zMO:Try.prog.cellsOf 55=3:=by kernel_rfl
abbrev zJt (x:Int):Prop:=wfI x
theorem zKa {H:Type} {en:TypeId×Value→H} {w:World} {sp:Nat→Bool} {held:Bool} : Rd H en Try.prog w sp held 3 enc_3 zJt:=zG2 Try.underlying3
def zJu (x:Gate):Prop:=zJt x.Z∧zJt x.Low∧zJt x.High
theorem zLY {H:Type} {en:TypeId×Value→H} {w:World} {sp:Nat→Bool} {held:Bool} : Rd H en Try.prog w sp held 55 enc_55 zJu:=by
  intro fuel cs x h
  obtain ⟨hl,hf⟩:=zt9 Try.underlying55 h
  rw [zMO] at hl
  obtain ⟨n0,y0,g0⟩:=hf 0 _ rfl
  have g0:DataW.trod en Try.prog w 0 sp held n0 3 ((cs.drop 0).take (Try.prog.cellsOf 3))=some y0:=g0
  rw [C_3] at g0
  obtain ⟨a0,r0,w0⟩:=zKa _ _ _ g0
  obtain ⟨n1,y1,g1⟩:=hf 1 _ rfl
  have g1:DataW.trod en Try.prog w 0 sp held n1 3 ((cs.drop 1).take (Try.prog.cellsOf 3))=some y1:=g1
  rw [C_3] at g1
  obtain ⟨a1,r1,w1⟩:=zKa _ _ _ g1
  obtain ⟨n2,y2,g2⟩:=hf 2 _ rfl
  have g2:DataW.trod en Try.prog w 0 sp held n2 3 ((cs.drop 2).take (Try.prog.cellsOf 3))=some y2:=g2
  rw [C_3] at g2
  obtain ⟨a2,r2,w2⟩:=zKa _ _ _ g2
  have z:cs.drop 3=[]:=List.drop_eq_nil_of_le (by omega)
  have R:=(r0.append (r1.append (r2.append (show RL (Rep (H0 w)) [] (cs.drop 3) by rw [z];exact zgG))))
  rw [← (show cs.drop 2=(cs.drop 2).take 1 ++ cs.drop 3 from zgR cs 2 1)] at R
  rw [← (show cs.drop 1=(cs.drop 1).take 1 ++ cs.drop 2 from zgR cs 1 1)] at R
  rw [← (show cs.drop 0=(cs.drop 0).take 1 ++ cs.drop 1 from zgR cs 0 1)] at R
  exact ⟨⟨a0,a1,a2⟩,R,⟨w0,w1,w2⟩⟩
def wf_22 (x:(Sl Gate)):Prop:=x.len≤9223372036854775807∧∀ i,i < x.len→zJu (x.get i)
theorem rd_22 {H:Type} {en:TypeId×Value→H} {w:World} {sp:Nat→Bool} {held:Bool} : Rd H en Try.prog w sp held 22 zG4 wf_22:=zrf Try.underlying22 zMO (by decide) (fun _=>rfl) zLY
def wf_39 (x:(Sl Int)):Prop:=x.len≤9223372036854775807∧∀ i,i < x.len→zJt (x.get i)
theorem rd_39 {H:Type} {en:TypeId×Value→H} {w:World} {sp:Nat→Bool} {held:Bool} : Rd H en Try.prog w sp held 39 zG7 wf_39:=zrf Try.underlying39 C_3 (by decide) (fun _=>rfl) zKa
end Go.Proofs
namespace Go.Pm
open Go
theorem zbs {i n:Nat} (h:i < n) (hn:n≤9223372036854775807):w64 ((i:Int)+(1:Int))=((i+1:Nat):Int):=by
 rw [zaY (by omega) (by omega)];omega
theorem zmD {β : Type} {good : Nat → Bool} {bad fin : β} {finP : Bool} {n : Nat} {lpS : Nat → Int → β} {lpP : Nat → Int → Bool}
    (hS:∀ (k i:Nat),i < n→lpS (k+1) (i:Int)=cond (good i) (lpS k (w64 ((i:Int)+(1:Int)))) bad)
    (hE:∀ k,lpS (k+1) (n:Int)=fin)
    (hP:∀ (k i:Nat),i < n→lpP (k+1) (i:Int)=cond (good i) (lpP k (w64 ((i:Int)+(1:Int)))) true)
    (hPE:∀ k,lpP (k+1) (n:Int)=finP) (hn:n≤9223372036854775807) :
    ((∀ i,i < n→good i=true)→lpP Fuel 0=finP∧lpS Fuel 0=fin)∧((¬ ∀ i,i < n→good i=true)→lpP Fuel 0=true∧lpS Fuel 0=bad):=by
  have key:∀ (m k i:Nat),i+m=n→m < k→((∀ j,i≤j→j < n→good j=true)→lpP k (i:Int)=finP∧lpS k (i:Int)=fin)∧((¬ ∀ j,i≤j→j < n→good j=true)→lpP k (i:Int)=true∧lpS k (i:Int)=bad):=by
    intro m
    induction m with
    | zero =>
      intro k i hi hk
      obtain ⟨k,rfl⟩:∃ k',k=k'+1:=⟨k - 1,by omega⟩
      have:i=n:=by omega
      subst this
      rw [hE,hPE]
      exact ⟨fun _=>⟨rfl,rfl⟩,fun h=>absurd (fun j h1 h2=>absurd h2 (by omega)) h⟩
    | succ m ih =>
      intro k i hi hk
      obtain ⟨k,rfl⟩:∃ k',k=k'+1:=⟨k - 1,by omega⟩
      rw [hS k i (by omega),hP k i (by omega),zbs (n:=n) (by omega) hn]
      obtain ⟨h1,h2⟩:=ih k (i+1) (by omega) (by omega)
      cases hg:good i
      · refine ⟨fun h => ?_, fun _ => ⟨rfl, rfl⟩⟩
        have:=h i (Nat.le_refl _) (by omega)
        rw [hg] at this;cases this
      · refine ⟨fun h => h1 fun j a b => h j (by omega) b, fun h => h2 fun h' => h fun j a b => ?_⟩
        by_cases hji:j=i
        · rw [hji];exact hg
        · exact h' j (by omega) b
  have:=key n Fuel 0 (by omega) (by simp only [Fuel];omega)
  simpa using this
def zgD {σ : Type} (step : Nat → σ → σ) : Nat → Nat → σ → σ
  | 0,_,s=>s
  | m+1,i,s=>zgD step m (i+1) (step i s)
theorem zfa {σ β : Type} {step : Nat → σ → σ} {E : σ → β} {EP : σ → Bool} {Inv : Nat → σ → Prop} {a n : Nat} {lpS : Nat → σ → Int → β} {lpP : Nat → σ → Int → Bool}
    (hS:∀ (k i:Nat) (s:σ),a≤i→i < n→Inv i s→lpS (k+1) s (i:Int)=lpS k (step i s) (w64 ((i:Int)+(1:Int))))
    (hE:∀ k s,lpS (k+1) s (n:Int)=E s)
    (hP:∀ (k i:Nat) (s:σ),a≤i→i < n→Inv i s→lpP (k+1) s (i:Int)=lpP k (step i s) (w64 ((i:Int)+(1:Int))))
    (hPE:∀ k s,lpP (k+1) s (n:Int)=EP s)
    (hI:∀ i s,a≤i→i < n→Inv i s→Inv (i+1) (step i s)) (ha:a≤n) (hn:n≤9223372036854775807) (s:σ) (h0:Inv a s) :
    lpP Fuel s (a:Int)=EP (zgD step (n - a) a s)∧lpS Fuel s (a:Int)=E (zgD step (n - a) a s):=by
  have key:∀ (m k i:Nat) (s:σ),a≤i→i+m=n→m < k→Inv i s→lpP k s (i:Int)=EP (zgD step m i s)∧lpS k s (i:Int)=E (zgD step m i s):=by
    intro m
    induction m with
    | zero =>
      intro k i s h1 hi hk _
      obtain ⟨k,rfl⟩:∃ k',k=k'+1:=⟨k - 1,by omega⟩
      have:i=n:=by omega
      subst this
      rw [hE,hPE]
      exact ⟨rfl,rfl⟩
    | succ m ih =>
      intro k i s h1 hi hk hs
      obtain ⟨k,rfl⟩:∃ k',k=k'+1:=⟨k - 1,by omega⟩
      rw [hS k i s h1 (by omega) hs,hP k i s h1 (by omega) hs,zbs (n:=n) (by omega) hn]
      exact ih k (i+1) (step i s) (by omega) (by omega) (by omega) (hI i s h1 (by omega) hs)
  exact key (n - a) Fuel a s (Nat.le_refl _) (by omega) (by simp only [Fuel];omega) h0
end Go.Pm
namespace Go.Proofs
open Go Go.Pm
set_option maxRecDepth 100000
theorem zkB (n a b:Int):s70 n a b=decide (a≤n∧n≤b):=by
 unfold s70;by_cases h:n ≥ a
 ·rw [decide_eq_true h,cond_true];exact decide_eq_decide.2 ⟨fun k=>⟨h,k⟩,fun k=>k.2⟩
 ·rw [decide_eq_false h,cond_false];exact (decide_eq_false fun k=>h k.1).symm
theorem zkC (n a b:Int):s74 n a b=decide (a≤n∧n≤b):=zkB n a b
def zd6 (g:Gate):Prop:=(0≤g.Z∧g.Z≤100000)∧-1000000≤g.Low∧g.Low≤g.High∧g.High≤1000000
def zaR (l:Sl Gate):Prop:=(∀ i,i < l.len→zd6 (l.get i))∧1≤l.len∧l.len≤24
theorem zfl (a b:Bool):cond a b false=(a && b):=by cases a <;> rfl
theorem zBN (g:Gate):s87 g=true↔zd6 g:=by
 unfold s87 zd6
 rw [zkC,zfl,zfl,zfl,Bool.and_eq_true,Bool.and_eq_true,Bool.and_eq_true,decide_eq_true_eq,decide_eq_true_eq,decide_eq_true_eq,decide_eq_true_eq]
theorem zBO (g:Gate):s49 g=true↔zd6 g:=by
 unfold s49 zd6
 rw [zkB,zkB,zfl,zfl,Bool.and_eq_true,Bool.and_eq_true,decide_eq_true_eq,decide_eq_true_eq,decide_eq_true_eq]
 omega
theorem zJv (l:Sl Gate) (hn:l.len≤9223372036854775807):p64 l=true∧(s64 l=true↔zaR l):=by
  have := zre (good := fun i => s87 (l.get i)) (fin := s74 (l.len : Int) 1 24) (n := l.len) (lpS := zgU l) (lpP := zgV l)
    (fun k i hi=>by
      show zgS l (zgU l k) (i:Int)=_
      generalize zgU l k=S
      unfold zgS zoM
      rw [decide_eq_true (show (i:Int) < (l.len:Int) by omega),cond_true,Int.toNat_natCast]
      cases s87 (l.get i) <;> rfl)
    (fun k=>by
      show zgS l (zgU l k) (l.len:Int)=_
      unfold zgS
      rw [decide_eq_false (show ¬ (l.len:Int) < (l.len:Int) by omega),cond_false])
    (fun k i hi=>by
      show zgT l (zgV l k) (i:Int)=_
      generalize zgV l k=S
      unfold zgT zoN
      rw [decide_eq_true (show (i:Int) < (l.len:Int) by omega),cond_true,Int.toNat_natCast,decide_eq_true (show 0≤(i:Int)∧(i:Int) < (l.len:Int) by omega),Bool.true_and]
      cases s87 (l.get i) <;> rfl)
    (fun k=>by
      show zgT l (zgV l k) (l.len:Int)=_
      unfold zgT
      rw [decide_eq_false (show ¬ (l.len:Int) < (l.len:Int) by omega),cond_false])
    hn
  refine ⟨this.1,this.2.trans ?_⟩
  rw [zkC,decide_eq_true_eq]
  exact ⟨fun k=>⟨fun i hi=>(zBN _).1 (k.1 i hi),by omega,by omega⟩,fun k=>⟨fun i hi=>(zBN _).2 (k.1 i hi),by have:=k.2;omega⟩⟩
theorem zJw (l:Sl Gate) (hn:l.len≤9223372036854775807):p20 l=true∧(s20 l=true↔zaR l):=by
  have := zre (good := fun i => s49 (l.get i)) (fin := s70 (l.len : Int) 1 24) (n := l.len) (lpS := zhz l) (lpP := zhA l)
    (fun k i hi=>by
      show zhx l (zhz l k) (i:Int)=_
      generalize zhz l k=S
      unfold zhx zpY
      rw [decide_eq_true (show (i:Int) < (l.len:Int) by omega),cond_true,Int.toNat_natCast]
      cases s49 (l.get i) <;> rfl)
    (fun k=>by
      show zhx l (zhz l k) (l.len:Int)=_
      unfold zhx
      rw [decide_eq_false (show ¬ (l.len:Int) < (l.len:Int) by omega),cond_false])
    (fun k i hi=>by
      show zhy l (zhA l k) (i:Int)=_
      generalize zhA l k=S
      unfold zhy zpZ
      rw [decide_eq_true (show (i:Int) < (l.len:Int) by omega),cond_true,Int.toNat_natCast,decide_eq_true (show 0≤(i:Int)∧(i:Int) < (l.len:Int) by omega),Bool.true_and]
      cases s49 (l.get i) <;> rfl)
    (fun k=>by
      show zhy l (zhA l k) (l.len:Int)=_
      unfold zhy
      rw [decide_eq_false (show ¬ (l.len:Int) < (l.len:Int) by omega),cond_false])
    hn
  refine ⟨this.1,this.2.trans ?_⟩
  rw [zkB,decide_eq_true_eq]
  exact ⟨fun k=>⟨fun i hi=>(zBO _).1 (k.1 i hi),by omega,by omega⟩,fun k=>⟨fun i hi=>(zBO _).2 (k.1 i hi),by have:=k.2;omega⟩⟩
theorem zyx:∀ (k:Nat) (a b:Int),0≤a→0≤b→b < (k:Int) →
  (zi1 k a b=true∧zi0 k a b=(Int.gcd a b:Int))∧(zmn k a b=true∧zmm k a b=(Int.gcd a b:Int)):=by
 intro k
 induction k with
 | zero=>intro a b _ h1 h2;omega
 | succ k ih =>
  intro a b ha hb hk
  show (ziZ (zi1 k) a b=true∧ziY (zi0 k) a b=_)∧(zml (zmn k) a b=true∧zmk (zmm k) a b=_)
  unfold ziZ ziY zml zmk
  by_cases h0:b=0
  ·subst h0
   simp [Int.natAbs_of_nonneg ha]
  ·have hb0 : b > 0 := by omega
   have e1:(b != (0:Int))=true:=by simpa using h0
   have m0:0≤a.tmod b:=Int.tmod_nonneg b ha
   have m1:a.tmod b < b:=Int.tmod_lt_of_pos a hb0
   have g:Int.gcd b (a.tmod b)=Int.gcd a b:=by
    obtain ⟨m,rfl⟩:=Int.eq_ofNat_of_zero_le ha
    obtain ⟨n,rfl⟩:=Int.eq_ofNat_of_zero_le hb
    show Nat.gcd n (m % n)=Nat.gcd m n
    rw [Nat.gcd_comm m n,Nat.gcd_rec n m,Nat.gcd_comm]
   obtain ⟨⟨i1,i2⟩,i3,i4⟩:=ih b (a.tmod b) hb m0 (by omega)
   rw [decide_eq_true hb0,e1,decide_eq_true (show b ≠ 0 from h0),cond_true,cond_true,cond_true,cond_true,Bool.true_and,Bool.true_and,i1,i2,i3,i4,g]
   exact ⟨⟨rfl,rfl⟩,rfl,rfl⟩
theorem zF9 (a b:Int) (ha:0≤a) (hb:0≤b) (hk:b≤9223372036854775807):zJY a b=true∧zCF a b=(Int.gcd a b:Int) :=
 (zyx Fuel a b ha hb (by simp only [Fuel];omega)).1
theorem zJx (a b:Int) (ha:0≤a) (hb:0≤b) (hk:b≤9223372036854775807):p73 a b=true∧s73 a b=(Int.gcd a b:Int) :=
 (zyx Fuel a b ha hb (by simp only [Fuel];omega)).2
-- the order of equal lists
def SEq {α:Type} (a b:Sl α):Prop:=a.len=b.len∧∀ i,i < a.len→a.get i=b.get i
theorem zAl (a b:Sl Int) (h:SEq a b) (hn:a.len≤9223372036854775807):p39 a b=true∧s39 a b=0:=by
  obtain ⟨h1,h2⟩:=h
  have e := zmD (good := fun _ => true) (bad := (0:Int)) (fin := 0) (finP := true) (n := a.len) (lpS := zhr a b) (lpP := zhs a b)
    (fun k i hi=>by
      show zhp a b (zhr a b k) (i:Int)=_
      generalize zhr a b k=S
      unfold zhp
      rw [← h1,decide_eq_true (show (i:Int) < (a.len:Int) by omega),cond_true,cond_true,Int.toNat_natCast,h2 i hi,decide_eq_false (show ¬ b.get i < b.get i by omega)]
      rfl)
    (fun k=>by
      show zhp a b (zhr a b k) (a.len:Int)=_
      unfold zhp zmd
      rw [← h1,decide_eq_false (show ¬ (a.len:Int) < (a.len:Int) by omega)]
      rfl)
    (fun k i hi=>by
      show zhq a b (zhs a b k) (i:Int)=_
      generalize zhs a b k=S
      unfold zhq
      rw [← h1,decide_eq_true (show (i:Int) < (a.len:Int) by omega),decide_eq_true (show 0≤(i:Int)∧(i:Int) < (a.len:Int) by omega),cond_true,cond_true,Int.toNat_natCast,h2 i hi,decide_eq_false (show ¬ b.get i < b.get i by omega)]
      rfl)
    (fun k=>by
      show zhq a b (zhs a b k) (a.len:Int)=_
      unfold zhq
      rw [decide_eq_false (show ¬ (a.len:Int) < (a.len:Int) by omega)]
      rfl)
    hn
  exact e.1 fun _ _=>rfl
end Go.Proofs
namespace Go.Proofs
open Go Go.Pm
set_option maxRecDepth 100000
theorem zyy {σ : Type} {step : Nat → σ → σ} {Inv : Nat → σ → Prop} {n : Nat} (hI : ∀ i s, i < n → Inv i s → Inv (i + 1) (step i s)) :
    ∀ (m i:Nat) (s:σ),i+m=n→Inv i s→Inv n (zgD step m i s):=by
  intro m
  induction m with
  | zero => intro i s h hs; have : i = n := by omega
            subst this;exact hs
  | succ m ih=>intro i s h hs;exact ih (i+1) (step i s) (by omega) (hI i s (by omega) hs)
def addI (l:Line) (zaa:Sl Gate) (i:Nat) (v:Sl Int):Sl Int:=cond (s72 l (zaa.get i)) (⟨v.len+1,zdi v.len v.get (fun _=>(i:Int))⟩:Sl Int) v
def zKb (l:Line) (zaa:Sl Gate):Sl Int:=zgD (addI l zaa) zaa.len 0 (⟨0,fun _=>default⟩:Sl Int)
theorem zr8 (l:Line) (zaa:Sl Gate) (i:Nat) (v:Sl Int) (h:v.len≤i):(addI l zaa i v).len≤i+1:=by
 unfold addI;cases s72 l (zaa.get i)
 ·exact Nat.le_succ_of_le h
 ·exact Nat.succ_le_succ h
theorem zJy (l:Line) (zaa:Sl Gate) (hn:zaa.len≤40):p27 l zaa=true∧s27 l zaa=zKb l zaa:=by
  have := zfa (σ := Sl Int) (step := addI l zaa) (E := id) (EP := fun _ => true) (Inv := fun i v => v.len ≤ i) (a := 0) (n := zaa.len) (lpS := fun k v i => zhL l zaa k i v) (lpP := fun k v i => zhM l zaa k i v)
    (fun k i v _ hi _=>by
      show zhJ l zaa (zhL l zaa k) (i:Int) v=_
      generalize zhL l zaa k=S
      unfold zhJ zp9 addI
      rw [decide_eq_true (show (i:Int) < (zaa.len:Int) by omega),cond_true,Int.toNat_natCast]
      cases s72 l (zaa.get i) <;> rfl)
    (fun k v=>by
      show zhJ l zaa (zhL l zaa k) (zaa.len:Int) v=_
      unfold zhJ
      rw [decide_eq_false (show ¬ (zaa.len:Int) < (zaa.len:Int) by omega),cond_false];rfl)
    (fun k i v _ hi hv=>by
      show zhK l zaa (zhM l zaa k) (i:Int) v=_
      generalize zhM l zaa k=S
      unfold zhK zqa addI
      rw [decide_eq_true (show (i:Int) < (zaa.len:Int) by omega),cond_true,Int.toNat_natCast,decide_eq_true (show 0≤(i:Int)∧(i:Int) < (zaa.len:Int) by omega),decide_eq_true (show (v.len+1) * 8≤140737488355328∧v.len+1≤9223372036854775807 by omega)]
      cases s72 l (zaa.get i) <;> rfl)
    (fun k v=>by
      show zhK l zaa (zhM l zaa k) (zaa.len:Int) v=_
      unfold zhK
      rw [decide_eq_false (show ¬ (zaa.len:Int) < (zaa.len:Int) by omega),cond_false])
    (fun i v _ _ h=>zr8 l zaa i v h) (Nat.zero_le _) (by omega) (⟨0,fun _=>default⟩:Sl Int) (Nat.le_refl _)
  exact this
end Go.Proofs
namespace Go.Proofs
open Go Go.Pm
set_option maxRecDepth 100000
def red (num den:Int):Frac:=⟨num.tdiv (Int.gcd num den:Int),den.tdiv (Int.gcd num den:Int)⟩
theorem zBP (num:Int):(if -num > num then -num else num)=(num.natAbs:Int):=by split <;> omega
theorem zyz (num den:Int):Int.gcd (num.natAbs:Int) den=Int.gcd num den:=by
 unfold Int.gcd;rw [Int.natAbs_natCast]
theorem zeu {num den:Int} (hd:0 < den):0 < (Int.gcd num den:Int):=by
 have:Int.gcd num den ≠ 0:=fun h=>by have:=(Int.gcd_eq_zero_iff.1 h).2;omega
 omega
theorem zOF (num den:Int):∃ a,num=(Int.gcd num den:Int) * a:=Int.gcd_dvd_left num den
theorem zOG (num den:Int):∃ a,den=(Int.gcd num den:Int) * a:=Int.gcd_dvd_right num den
theorem zqE {num den:Int} (hd:0 < den):(Int.gcd num den:Int) * (red num den).Num=num:=by
 have hg:=zeu (num:=num) hd
 obtain ⟨a,ha⟩:=zOF num den
 show (Int.gcd num den:Int) * num.tdiv (Int.gcd num den:Int)=num
 generalize (Int.gcd num den:Int)=g at ha hg ⊢
 rw [ha,Int.mul_tdiv_cancel_left _ (by omega)]
theorem zmE {num den:Int} (hd:0 < den):(Int.gcd num den:Int) * (red num den).Den=den:=by
 have hg:=zeu (num:=num) hd
 obtain ⟨a,ha⟩:=zOG num den
 show (Int.gcd num den:Int) * den.tdiv (Int.gcd num den:Int)=den
 generalize (Int.gcd num den:Int)=g at ha hg ⊢
 rw [ha,Int.mul_tdiv_cancel_left _ (by omega)]
theorem zkD {num den:Int} (hd:0 < den):0 < (red num den).Den:=by
 have h1:=zmE (num:=num) hd
 have hg:=zeu (num:=num) hd
 rcases Int.lt_or_le 0 (red num den).Den with h | h
 ·exact h
 ·have := Int.mul_le_mul_of_nonneg_left h (Int.le_of_lt hg)
  rw [h1,Int.mul_zero] at this
  omega
theorem zr9 {num den:Int} (hd:0 < den):(red num den).Den≤den:=by
 have h1:=zmE (num:=num) hd
 have hg:=zeu (num:=num) hd
 have:=Int.mul_le_mul_of_nonneg_right (show (1:Int)≤(Int.gcd num den:Int) by omega) (Int.le_of_lt (zkD (num:=num) hd))
 omega
theorem zmF {num den:Int} (hd:0 < den) : -(num.natAbs:Int)≤(red num den).Num∧(red num den).Num≤(num.natAbs:Int):=by
 have h1:=zqE (num:=num) hd
 have hg:=zeu (num:=num) hd
 have h2:num.natAbs=(Int.gcd num den) * (red num den).Num.natAbs:=by
  have:=congrArg Int.natAbs h1
  rw [Int.natAbs_mul] at this
  simpa using this.symm
 have h3:(red num den).Num.natAbs≤num.natAbs:=by
  rw [h2];exact Nat.le_mul_of_pos_left _ (by omega)
 omega
theorem zBQ {num den:Int} (h1 : -4611686018427387904≤num) (h2:num≤4611686018427387904) (hd:0 < den) (hd2:den≤4611686018427387904):p89 num den=true∧s89 num den=red num den:=by
 have e:w64 (0 - num) = -num:=by rw [zaY (by omega) (by omega)];omega
 obtain ⟨g1,g2⟩:=zF9 (num.natAbs:Int) den (by omega) (by omega) (by omega)
 have hg:=zeu (num:=num) hd
 have r1:=zmF (num:=num) hd
 have r2:=zr9 (num:=num) hd
 have r3:=zkD (num:=num) hd
 unfold p89 s89
 rw [e,zBP,g1,g2,zyz]
 have w1:w64 (num.tdiv (Int.gcd num den:Int))=(red num den).Num:=zaY (by show _≤(red num den).Num;omega) (by show (red num den).Num≤_;omega)
 have w2:w64 (den.tdiv (Int.gcd num den:Int))=(red num den).Den:=zaY (by show _≤(red num den).Den;omega) (by show (red num den).Den≤_;omega)
 rw [w1,w2,decide_eq_true (show (Int.gcd num den:Int) ≠ 0 by omega)]
 exact ⟨by simp only [decide_true,Bool.and_self],by cases red num den;simp only⟩
theorem zsa {num den:Int} (h1 : -4611686018427387904≤num) (h2:num≤4611686018427387904) (hd:0 < den) (hd2:den≤4611686018427387904):p40 num den=true∧s40 num den=red num den:=by
 have e:w64 (0 - num) = -num:=by rw [zaY (by omega) (by omega)];omega
 obtain ⟨g1,g2⟩:=zJx (num.natAbs:Int) den (by omega) (by omega) (by omega)
 have hg:=zeu (num:=num) hd
 have r1:=zmF (num:=num) hd
 have r2:=zr9 (num:=num) hd
 have r3:=zkD (num:=num) hd
 unfold p40 s40
 rw [e,zBP,g1,g2,zyz]
 have w1:w64 (num.tdiv (Int.gcd num den:Int))=(red num den).Num:=zaY (by show _≤(red num den).Num;omega) (by show (red num den).Num≤_;omega)
 have w2:w64 (den.tdiv (Int.gcd num den:Int))=(red num den).Den:=zaY (by show _≤(red num den).Den;omega) (by show (red num den).Den≤_;omega)
 rw [w1,w2,decide_eq_true (show (Int.gcd num den:Int) ≠ 0 by omega)]
 exact ⟨by simp only [decide_true,Bool.and_self],by cases red num den;simp only⟩
end Go.Proofs
namespace Go.Proofs
open Go Go.Pm
set_option maxRecDepth 100000
theorem zn7 {x y X Y:Int} (h1 : -X≤x) (h2:x≤X) (h3:0≤y) (h4:y≤Y) : -(X * Y)≤x * y∧x * y≤X * Y:=by
 have hX:0≤X:=by omega
 have a:=Int.mul_le_mul_of_nonneg_right h2 h3
 have b:=Int.mul_le_mul_of_nonneg_left h4 hX
 have c:=Int.mul_le_mul_of_nonneg_right h1 h3
 rw [Int.neg_mul] at c
 omega
def thr (z p y q:Int):straight:=if z > y then ⟨p - q,q * z - p * y,z - y⟩ else ⟨q - p,p * y - q * z,y - z⟩
def toL (s:straight):Line:=⟨red s.slope s.den,red s.start s.den⟩
theorem zmG {z p y q:Int} (hz:0≤z∧z≤100000) (hy:0≤y∧y≤100000) (hp : -1000000≤p∧p≤1000000) (hq : -1000000≤q∧q≤1000000):zkH z p y q=thr z p y q:=by
 have b1:=zn7 hp.1 hp.2 hy.1 hy.2
 have b2:=zn7 hq.1 hq.2 hz.1 hz.2
 unfold zkH zi2 thr
 rw [zaY (x:=p * y) (by omega) (by omega),zaY (x:=q * z) (by omega) (by omega)]
 by_cases h:z > y
 ·rw [decide_eq_true h,cond_true,if_pos h,zaY (by omega) (by omega),zaY (by omega) (by omega),zaY (by omega) (by omega)]
 ·rw [decide_eq_false h,cond_false,if_neg h,zaY (by omega) (by omega),zaY (by omega) (by omega),zaY (by omega) (by omega)]
theorem zJz {z p y q:Int} (hz:0≤z∧z≤100000) (hy:0≤y∧y≤100000) (hp : -1000000≤p∧p≤1000000) (hq : -1000000≤q∧q≤1000000) (hn:z ≠ y):p26 z p y q=true∧s26 z p y q=toL (thr z p y q):=by
 have b1:=zn7 hp.1 hp.2 hy.1 hy.2
 have b2:=zn7 hq.1 hq.2 hz.1 hz.2
 unfold p26 s26 zmA zmz thr toL
 rw [zaY (x:=p * y) (by omega) (by omega),zaY (x:=q * z) (by omega) (by omega)]
 by_cases h:z > y
 ·rw [decide_eq_true (show y < z from h), cond_true, cond_true, if_pos h, zaY (x := p - q) (by omega) (by omega), zaY (x := z - y) (by omega) (by omega), zaY (x := q * z - p * y) (by omega) (by omega)]
  obtain ⟨c1,c2⟩:=zsa (num:=p - q) (den:=z - y) (by omega) (by omega) (by omega) (by omega)
  obtain ⟨d1,d2⟩:=zsa (num:=q * z - p * y) (den:=z - y) (by omega) (by omega) (by omega) (by omega)
  rw [c1,c2,d1,d2]
  exact ⟨by simp only [decide_true,Bool.and_self],rfl⟩
 ·rw [decide_eq_false (show ¬ y < z from h), cond_false, cond_false, if_neg h, zaY (x := q - p) (by omega) (by omega), zaY (x := y - z) (by omega) (by omega), zaY (x := p * y - q * z) (by omega) (by omega)]
  obtain ⟨c1,c2⟩:=zsa (num:=q - p) (den:=y - z) (by omega) (by omega) (by omega) (by omega)
  obtain ⟨d1,d2⟩:=zsa (num:=p * y - q * z) (den:=y - z) (by omega) (by omega) (by omega) (by omega)
  rw [c1,c2,d1,d2]
  exact ⟨by simp only [decide_true,Bool.and_self],rfl⟩
def zsb (a b:Gate):List straight:=if a.Z=b.Z then [] else [thr a.Z a.Low b.Z b.Low,thr a.Z a.Low b.Z b.High,thr a.Z a.High b.Z b.Low,thr a.Z a.High b.Z b.High]
def zsY (g : Sl Gate) (i : Nat) : Nat → Nat → List straight
  | 0,_=>[]
  | m+1,k=>zsb (g.get i) (g.get k) ++ zsY g i m (k+1)
def zBR (g : Sl Gate) : Nat → Nat → List straight
  | 0,_=>[]
  | m+1,i=>zsY g i (g.len - (i+1)) (i+1) ++ zBR g m (i+1)
def cst (g:Sl Gate):List straight:=zBR g g.len 0
theorem zfp {g:Gate} (h:zd6 g) : -1000000≤g.Low∧g.Low≤1000000:=⟨h.2.1,by have:=h.2;omega⟩
theorem zgE {g:Gate} (h:zd6 g) : -1000000≤g.High∧g.High≤1000000:=⟨by have:=h.2;omega,h.2.2.2⟩
theorem zLZ (g : Sl Gate) (G : zaR g) (i : Nat) (hi : i < g.len) (sl : Sl Gate) (hs : sl.len = g.len - (i + 1)) (hg : ∀ x, sl.get x = g.get (x + (i + 1)))
    (S0:Int→List straight) (P0:Int→Bool):∀ (m k j:Nat),j+m=sl.len→m < k →
    zdl P0 ⟨g⟩ k (i:Int) sl (sl.len:Int) (j:Int) (g.get i).Z (g.get i).Low (g.get i).High=P0 ((i+1:Nat):Int) ∧
    zdk S0 ⟨g⟩ k (i:Int) sl (sl.len:Int) (j:Int) (g.get i).Z (g.get i).Low (g.get i).High=zsY g i m (j+(i+1)) ++ S0 ((i+1:Nat):Int):=by
  have hl:=G.2.2
  intro m
  induction m with
  | zero =>
    intro k j hj hk
    obtain ⟨k,rfl⟩:∃ k',k=k'+1:=⟨k - 1,by omega⟩
    show zel P0 ⟨g⟩ (zdl P0 ⟨g⟩ k) _ _ _ _ _ _ _=_∧zek S0 ⟨g⟩ (zdk S0 ⟨g⟩ k) _ _ _ _ _ _ _=_
    unfold zel zek
    rw [decide_eq_false (show ¬ (j:Int) < (sl.len:Int) by omega),cond_false,cond_false,zbs (n:=g.len) hi (by omega)]
    exact ⟨rfl,rfl⟩
  | succ m ih =>
    intro k j hj hk
    obtain ⟨k,rfl⟩:∃ k',k=k'+1:=⟨k - 1,by omega⟩
    obtain ⟨i1,i2⟩:=ih k (j+1) (by omega) (by omega)
    show zel P0 ⟨g⟩ (zdl P0 ⟨g⟩ k) _ _ _ _ _ _ _=_∧zek S0 ⟨g⟩ (zdk S0 ⟨g⟩ k) _ _ _ _ _ _ _=zsY g i (m+1) (j+(i+1)) ++ _
    generalize zdl P0 ⟨g⟩ k=P at i1
    generalize zdk S0 ⟨g⟩ k=S at i2
    unfold zel zek
    have gi:=G.1 i hi
    have gk:=G.1 (j+(i+1)) (by omega)
    rw [decide_eq_true (show (j:Int) < (sl.len:Int) by omega),decide_eq_true (show 0≤(j:Int)∧(j:Int) < (sl.len:Int) by omega),cond_true,cond_true,Bool.true_and,Int.toNat_natCast,hg,
      zbs (n:=sl.len) (by omega) (by omega),i1,i2,zmG gi.1 gk.1 (zfp gi) (zfp gk),zmG gi.1 gk.1 (zfp gi) (zgE gk),zmG gi.1 gk.1 (zgE gi) (zfp gk),zmG gi.1 gk.1 (zgE gi) (zgE gk)]
    show _∧_=(zsb (g.get i) (g.get (j+(i+1))) ++ zsY g i m (j+(i+1)+1)) ++ _
    rw [show j+1+(i+1)=j+(i+1)+1 by omega]
    unfold zsb
    by_cases hz:(g.get i).Z=(g.get (j+(i+1))).Z
    · rw [if_pos hz, show ((g.get i).Z == (g.get (j + (i + 1))).Z) = true by simpa using hz]
      exact ⟨rfl,rfl⟩
    · rw [if_neg hz, show ((g.get i).Z == (g.get (j + (i + 1))).Z) = false by simpa using hz]
      exact ⟨rfl,rfl⟩
theorem zGa (g:Sl Gate) (G:zaR g):zCN ⟨g⟩=true∧zAY ⟨g⟩=cst g:=by
 have hl:=G.2.2
 have key:∀ (m k i:Nat),i+m=g.len→m < k→zdn ⟨g⟩ k (i:Int)=true∧zdm ⟨g⟩ k (i:Int)=zBR g m i:=by
  intro m
  induction m with
  | zero =>
   intro k i hi hk
   obtain ⟨k,rfl⟩:∃ k',k=k'+1:=⟨k - 1,by omega⟩
   show zen ⟨g⟩ (zdn ⟨g⟩ k) _=_∧zem ⟨g⟩ (zdm ⟨g⟩ k) _=_
   unfold zen zem
   rw [decide_eq_false (show ¬ (i:Int) < (g.len:Int) by omega),cond_false,cond_false]
   exact ⟨rfl,rfl⟩
  | succ m ih =>
   intro k i hi hk
   obtain ⟨k,rfl⟩:∃ k',k=k'+1:=⟨k - 1,by omega⟩
   obtain ⟨i1,i2⟩:=ih k (i+1) (by omega) (by omega)
   show zen ⟨g⟩ (zdn ⟨g⟩ k) _=_∧zem ⟨g⟩ (zdm ⟨g⟩ k) _=zsY g i (g.len - (i+1)) (i+1) ++ zBR g m (i+1)
   generalize zdn ⟨g⟩ k=P at i1
   generalize zdm ⟨g⟩ k=S at i2
   unfold zen zem zl2 zl1
   rw [zbs (n:=g.len) (by omega) (by omega)]
   rw [decide_eq_true (show (i:Int) < (g.len:Int) by omega),decide_eq_true (show 0≤(i:Int)∧(i:Int) < (g.len:Int) by omega),decide_eq_true (show 0≤((i+1:Nat):Int)∧((i+1:Nat):Int)≤(g.len:Int)∧(g.len:Int)≤(g.len:Int) by omega),
    cond_true,cond_true,Bool.true_and,Bool.true_and,Int.toNat_natCast,Int.toNat_natCast]
   have hs:((g.len:Int) - ((i+1:Nat):Int)).toNat=g.len - (i+1):=by omega
   have:=zLZ g G i (by omega) (⟨((g.len:Int) - ((i+1:Nat):Int)).toNat,fun x=>g.get (x+(i+1))⟩:Sl Gate) hs (fun _=>rfl) S P (g.len - (i+1)) Fuel 0 (by show 0+(g.len - (i+1))=((g.len:Int) - ((i+1:Nat):Int)).toNat;omega) (by simp only [Fuel];omega)
   rw [i1,i2,Nat.zero_add] at this
   exact this
 exact key g.len Fuel 0 (by omega) (by simp only [Fuel];omega)
end Go.Proofs
