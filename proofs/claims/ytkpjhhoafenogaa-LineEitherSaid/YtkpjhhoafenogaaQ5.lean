/- Part 5 of what the proof rests on: a machine that runs functions of the program on pure values, proved sound; the functions that the law reaches, and what they compute. -/
import Derived.Test.YtkpjhhoafenogaaQ4
set_option linter.all false
namespace Go.Proofs
open Go Go.Pm
set_option maxRecDepth 100000
set_option linter.unusedVariables false
attribute [local irreducible] Go.Pm.vcFun Go.Pm.vc Go.Pm.vcIter
abbrev T31:Tabs:=(((Tabs.nil.addF 75 ztW).addF 78 zEQ).addF 79 zAx)
theorem zL9:TabsOk Try.prog T31:=(((TabsOk.nil.addF zNB).addF zPa).addF zNg)
abbrev G31:Ctrs:=csm T31 (fun _ _=>[]) (fun _=>false)
def zER:Ann:=⟨31,[(0,zK [0] []),(1,zK [4,5] [4]),(2,zK [4,5,15] [4]),(3,zK [2,3] []),(4,zK [4,6] [4]),(5,zK [6,18,19,20] []),(6,zK [6,18,19,20,21] [28]),(7,zK [6,8,18,19,20] [8,28]),(8,zK [6,18,19,20] [28]),(9,zK [6,18,19,20] [28]),(10,zK [2,3] [28])],
 [(6,⟨[6,18,19,20],[28],[(6,28,37,fun _=>zbs default)],[],[],[],[]⟩)],
 [(2,zK [4,5] [4]),(4,zK [4] [4]),(6,zK [6,18,19,20] [])],
 [],[]⟩
abbrev R31:=((Sl Line)×Int)
abbrev e31 (r:R31):List PA:=[.one (.sl r.1.len 4 (fun i=>zbs (r.1.get i))),.one (.int .i64 r.2)]
@[irreducible] def z31:=ptF Try.prog G31 zER Try.f31
def zCk (zaO:(Sl straight)) (zcl:Int) (zc3:Int) (zcy:(Sl Line)) (ze6:Nat→List PV):St:=⟨[(6,zv 28),(18,zS zaf 3 zaO),(19,zI zcl),(20,zI zc3)],[(28,.vec 37 4 32 zcy.len ze6)],[]⟩
abbrev zJw (K:List PA→Prop) (zaO:(Sl straight)) (zcl:Int) (X:St→Prop) (P:Int→(Sl Line)→Bool) (S:Int→(Sl Line)→((Sl Line)×Int)):Prop:=∀ ⦃zc3:Int⦄ ⦃zcy:(Sl Line)⦄ ⦃ze6:Nat→List PV⦄,P zc3 zcy=true→K (e31 (S zc3 zcy))→ze6=zg zbs zcy→X (zCk zaO zcl zc3 zcy ze6)
section
variable {K:List PA→Prop} {zaa:(Sl Gate)} {ev0:Int} {zmP:(Sl Gate)} {zmQ:(Sl straight)} {zqr:Nat→List PV} {zqs:Nat→List PV} {ziu:(Sl Gate)} {ziv:(Sl straight)} {zwZ:Nat→List PV} {zw0:Nat→List PV} {zaO:(Sl straight)} {zcl:Int} {zw1:Nat→List PV} {zc3:Int} {zcy:(Sl Line)} {ze6:Nat→List PV} {X3:St→Prop} {P3:Int→(Sl Line)→Bool} {S3:Int→(Sl Line)→((Sl Line)×Int)}
def zhx (zaO:(Sl straight)) (zcl:Int) (S3:Int→(Sl Line)→((Sl Line)×Int)) (zc3:Int) (zcy:(Sl Line)):((Sl Line)×Int) :=
  (cond (decide (zc3 < zcl))
 (S3 (w64 (zc3+(1:Int))) (⟨(zcy.len+1),(zc7 zcy.len zcy.get (fun _=>(s79 (zaO.get zc3.toNat))))⟩:Sl Line))
 (zcy,(0:Int)))
def zhy (zaO:(Sl straight)) (zcl:Int) (P3:Int→(Sl Line)→Bool) (zc3:Int) (zcy:(Sl Line)):Bool :=
  (cond (decide (zc3 < zcl))
 (decide ((0≤zc3∧zc3 < (zaO.len:Int))) &&
 (decide ((p79 (zaO.get zc3.toNat)=true)) &&
 (decide (((zcy.len+1) * 32≤140737488355328∧zcy.len+1≤9223372036854775807)) &&
 (P3 (w64 (zc3+(1:Int))) (⟨(zcy.len+1),(zc7 zcy.len zcy.get (fun _=>(s79 (zaO.get zc3.toNat))))⟩:Sl Line)))))
 true)
def zhz (zaO:(Sl straight)) (zcl:Int):Nat→Int→(Sl Line)→((Sl Line)×Int):=lpO (fun _ _=>default) (zhx zaO zcl)
def zhA (zaO:(Sl straight)) (zcl:Int):Nat→Int→(Sl Line)→Bool:=lpO (fun _ _=>false) (zhy zaO zcl)
def zqu (zaO:(Sl straight)) (zcl:Int) (zc3:Int) (zcy:(Sl Line)):((Sl Line)×Int):=zhz zaO zcl Fuel zc3 zcy
def zmR (zaO:(Sl straight)) (zcl:Int) (zc3:Int) (zcy:(Sl Line)):Bool:=zhA zaO zcl Fuel zc3 zcy
theorem zES (hs:zmR zaO zcl zc3 zcy=true) (hk:K (e31 (zqu zaO zcl zc3 zcy))) (zqv:ze6=zg zbs zcy):z31 (Wk K) [1,1,1,1,0,1,0] [] (zCk zaO zcl zc3 zcy ze6) :=
  zl (fun X=>z31 (Wk K) [1,1,1,1,0,1,0,0] [X]) (by kernel_rfl) fun X3 hX =>
  (show ∀ k, zJw K zaO zcl X3 (zhA zaO zcl k) (zhz zaO zcl k) from zfu _ _ (zhy zaO zcl) (zhx zaO zcl) (zJw K zaO zcl X3)
 (by intro _ _ _ hs;exact absurd hs Bool.false_ne_true)
 (by intro P3 S3 hX3 zc3 zcy ze6 hs hk zqv;subst zqv;exact hX _ (zax (by kernel_rfl) (zc hs hk (fun hs hk=>(zaw hs fun hc hs=>And.intro hc (zaw hs fun hc hs=>And.intro hc (zaw hs fun hc hs=>And.intro hc (hX3 hs hk (zim (enc:=zbs) (f:=zcy.get) (h:=(fun _=>(s79 (zaO.get zc3.toNat)))) rfl rfl)))))) (fun hs hk=>((zea hk):Wk K [.one (.sl zcy.len 4 (fun i=>zbs (zcy.get i))),.one (.int .i64 (0:Int))])))))) _ hs hk zqv
def zqw (zaO:(Sl straight)) (zcl:Int):((Sl Line)×Int) :=
  (zqu zaO zcl (0:Int) (⟨0,(fun _=>default)⟩:Sl Line))
def zqx (zaO:(Sl straight)) (zcl:Int):Bool :=
  (zmR zaO zcl (0:Int) (⟨0,(fun _=>default)⟩:Sl Line))
theorem zET (hs:zqx zaO zcl=true) (hk:K (e31 (zqw zaO zcl))) (zEU:zw1=zg zaf zaO):z31 (Wk K) [1,1,1,1,0,1] [] ⟨[(6,zP (.nils)),(18,zP (.sl zaO.len 3 zw1)),(19,zI zcl),(20,zI (0:Int))],[],[]⟩:=by subst zEU;exact zax (by kernel_rfl) (zES hs hk rfl)
def zqy (ziu:(Sl Gate)) (ziv:(Sl straight)):((Sl Line)×Int) :=
  (zqw (s78 (⟨(⟨ziu⟩:list),ziv⟩:set)) ((s78 (⟨(⟨ziu⟩:list),ziv⟩:set)).len:Int))
def zqz (ziu:(Sl Gate)) (ziv:(Sl straight)):Bool :=
  (decide ((p78 (⟨(⟨ziu⟩:list),ziv⟩:set)=true)) &&
 (zqx (s78 (⟨(⟨ziu⟩:list),ziv⟩:set)) ((s78 (⟨(⟨ziu⟩:list),ziv⟩:set)).len:Int)))
theorem zEV (hs:zqz ziu ziv=true) (hk:K (e31 (zqy ziu ziv))) (zEW:zwZ=zg enc_55 ziu) (zEX:zw0=zg zaf ziv):z31 (Wk K) [1,1,1] [] ⟨[(4,zp 4 0)],[(4,.box 104 [.p (.sl ziu.len 3 zwZ),.p (.sl ziv.len 3 zw0)])],[]⟩:=by subst zEW;subst zEX;exact zax (by kernel_rfl) (zaw hs fun hc hs=>And.intro (And.intro (zE enc_55 3 ziu.get) (And.intro (zE zaf 3 ziv.get) hc)) (zET hs hk rfl))
def zmS (ev0:Int) (zmP:(Sl Gate)) (zmQ:(Sl straight)):((Sl Line)×Int) :=
  (cond (ev0 != (0:Int))
 ((⟨0,fun _=>default⟩:(Sl Line)),ev0)
 (zqy zmP zmQ))
def zmT (ev0:Int) (zmP:(Sl Gate)) (zmQ:(Sl straight)):Bool :=
  (cond (ev0 != (0:Int))
 true
 (zqz zmP zmQ))
theorem zEY (hs:zmT ev0 zmP zmQ=true) (hk:K (e31 (zmS ev0 zmP zmQ))) (zEZ:zqr=zg enc_55 zmP) (zE0:zqs=zg zaf zmQ):z31 (Wk K) [1,1] [] ⟨[(4,zp 4 0),(5,zI ev0)],[(4,.box 104 [.p (.sl zmP.len 3 zqr),.p (.sl zmQ.len 3 zqs)])],[]⟩:=by subst zEZ;subst zE0;exact zax (by kernel_rfl) (zc hs hk (fun hs hk=>((wk hk (zc4 (.one (.nil _ _)) (zc4 (.one (.rfl _)) zg2))):Wk K [.one (.nils),.one (.int .i64 ev0)])) (fun hs hk=>(zEV hs hk rfl rfl)))
def s31 (zaa:(Sl Gate)):((Sl Line)×Int) :=
  (zmS ((s75 zaa).2) (((s75 zaa).1).list.Gates) (((s75 zaa).1).corners))
def p31 (zaa:(Sl Gate)):Bool :=
  (decide ((p75 zaa=true)) &&
 (zmT ((s75 zaa).2) (((s75 zaa).1).list.Gates) (((s75 zaa).1).corners)))
end
theorem q31 (zaa:(Sl Gate)) (K:List PA→Prop) (hs:p31 zaa=true) (hk:K (e31 (s31 zaa))):vcFun Try.prog G31 zER 31 [.one (.sl zaa.len 3 (fun i=>enc_55 (zaa.get i)))] (Wk K) :=
  zax (by kernel_rfl) (zaw hs fun hc hs=>And.intro (And.intro (zE enc_55 3 zaa.get) hc) (zEY hs hk rfl rfl))
def zAX : List PA → COut
  | [.one (.sl a0_n a0_s a0_g)]=>.det (IsE enc_55 3 a0_s a0_g∧p31 (⟨a0_n,zad a0_g⟩:(Sl Gate))=true) [.one (.sl (((s31 (⟨a0_n,zad a0_g⟩:(Sl Gate))).1).len) 4 (fun i=>zbs (((s31 (⟨a0_n,zad a0_g⟩:(Sl Gate))).1).get i))),.one (.int .i64 ((s31 (⟨a0_n,zad a0_g⟩:(Sl Gate))).2))]
  | _=>.no
theorem zJx:zah Try.prog 31:=⟨_,rfl,rfl,by kernel_rfl⟩
theorem zNG:Ok Try.prog 31 zAX:=zg3 zL9 zJx fun args K h=>by
  unfold zAX at h
  split at h
  · rename_i a0_n a0_s a0_g
    obtain ⟨⟨⟨rfl,a0_f,rfl⟩,hs⟩,hk⟩:=h
    try rw [zac a0_f] at hs
    try rw [zac a0_f] at hk
    exact ⟨_,zeT zfA _,(fun _ _=>[]),(fun _=>false),zER,q31 (⟨a0_n,a0_f⟩:(Sl Gate)) K hs hk⟩
  · exact h.elim
abbrev T34:Tabs:=Tabs.nil
theorem zMa:TabsOk Try.prog T34:=TabsOk.nil
abbrev G34:Ctrs:=csm T34 (fun _ _=>[]) (fun _=>false)
def zE1:Ann:=⟨26,[(0,zK [0,1] []),(1,zK [0,1,10] []),(2,zK [4] []),(3,zK [0,1,5] []),(4,zK [0,1,5,14] []),(5,zK [0,1,5] []),(6,zK [0,1,5,25] []),(7,zK [4] []),(8,zK [4] [])],
 [(4,zK [0,1,5] [])],
 [(3,zK [0,1] [])],
 [],[]⟩
abbrev R34:=Bool
abbrev e34 (r:R34):List PA:=[.one (.bool r)]
@[irreducible] def z34:=ptF Try.prog G34 zE1 Try.f34
def zCl (a:(Sl Line)) (b:(Sl Line)) (iv1:Int):St:=⟨[(0,zS zbs 4 a),(1,zS zbs 4 b),(5,zI iv1)],[],[]⟩
abbrev zJy (K:List PA→Prop) (a:(Sl Line)) (b:(Sl Line)) (X:St→Prop) (P:Int→Bool) (S:Int→Bool):Prop:=∀ ⦃iv1:Int⦄,P iv1=true→K (e34 (S iv1))→X (zCl a b iv1)
section
variable {K:List PA→Prop} {a:(Sl Line)} {b:(Sl Line)} {iv1:Int} {X1:St→Prop} {P1:Int→Bool} {S1:Int→Bool}
def zw2 (a:(Sl Line)) (b:(Sl Line)) (S1:Int→Bool) (iv1:Int):Bool :=
  (cond (decide (iv1 < (a.len : Int)))
 (cond (!(match (match ((a.get iv1.toNat).Slope.Num == (b.get iv1.toNat).Slope.Num) with | true => (match ((a.get iv1.toNat).Slope.Den == (b.get iv1.toNat).Slope.Den) with | true => true | false => false) | false => false) with | true => (match (match ((a.get iv1.toNat).Start.Num == (b.get iv1.toNat).Start.Num) with | true => (match ((a.get iv1.toNat).Start.Den == (b.get iv1.toNat).Start.Den) with | true => true | false => false) | false => false) with | true => true | false => false) | false => false))
 false
 (S1 (w64 (iv1+(1:Int)))))
 true)
def zw3 (a:(Sl Line)) (b:(Sl Line)) (P1:Int→Bool) (iv1:Int):Bool :=
  (cond (decide (iv1 < (a.len : Int)))
 (decide ((0≤iv1∧iv1 < (a.len:Int))) &&
 (decide ((0≤iv1∧iv1 < (b.len:Int))) &&
 (cond (!(match (match ((a.get iv1.toNat).Slope.Num == (b.get iv1.toNat).Slope.Num) with | true => (match ((a.get iv1.toNat).Slope.Den == (b.get iv1.toNat).Slope.Den) with | true => true | false => false) | false => false) with | true => (match (match ((a.get iv1.toNat).Start.Num == (b.get iv1.toNat).Start.Num) with | true => (match ((a.get iv1.toNat).Start.Den == (b.get iv1.toNat).Start.Den) with | true => true | false => false) | false => false) with | true => true | false => false) | false => false))
 true
 (P1 (w64 (iv1+(1:Int)))))))
 true)
def zw4 (a:(Sl Line)) (b:(Sl Line)):Nat→Int→Bool:=lpO (fun _=>default) (zw2 a b)
def zw5 (a:(Sl Line)) (b:(Sl Line)):Nat→Int→Bool:=lpO (fun _=>false) (zw3 a b)
def zw6 (a:(Sl Line)) (b:(Sl Line)) (iv1:Int):Bool:=zw4 a b Fuel iv1
def zw7 (a:(Sl Line)) (b:(Sl Line)) (iv1:Int):Bool:=zw5 a b Fuel iv1
theorem zE2 (hs:zw7 a b iv1=true) (hk:K (e34 (zw6 a b iv1))):z34 K [1,1,0,1,0] [] (zCl a b iv1) :=
  zl (fun X=>z34 K [1,1,0,1,0,0] [X]) (by kernel_rfl) fun X1 hX =>
  (show ∀ k, zJy K a b X1 (zw5 a b k) (zw4 a b k) from zfu _ _ (zw3 a b) (zw2 a b) (zJy K a b X1)
 (by intro _ hs;exact absurd hs Bool.false_ne_true)
 (by intro P1 S1 hX1 iv1 hs hk;exact hX _ (zax (by kernel_rfl) (zc hs hk (fun hs hk=>(zaw hs fun hc hs=>And.intro hc (zaw hs fun hc hs=>And.intro hc (zc hs hk (fun hs hk=>hk) (fun hs hk=>(hX1 hs hk)))))) (fun hs hk=>hk))))) _ hs hk
def zw8 (a:(Sl Line)) (b:(Sl Line)):Bool :=
  (zw6 a b (0:Int))
def zw9 (a:(Sl Line)) (b:(Sl Line)):Bool :=
  (zw7 a b (0:Int))
theorem zE3 (hs:zw9 a b=true) (hk:K (e34 (zw8 a b))):z34 K [1,1] [] ⟨[(0,zS zbs 4 a),(1,zS zbs 4 b)],[],[]⟩:=zax (by kernel_rfl) (zE2 hs hk)
def s34 (a:(Sl Line)) (b:(Sl Line)):Bool :=
  (cond ((a.len : Int) != (b.len : Int))
 false
 (zw8 a b))
def p34 (a:(Sl Line)) (b:(Sl Line)):Bool :=
  (cond ((a.len : Int) != (b.len : Int))
 true
 (zw9 a b))
end
theorem q34 (a:(Sl Line)) (b:(Sl Line)) (K:List PA→Prop) (hs:p34 a b=true) (hk:K (e34 (s34 a b))):vcFun Try.prog G34 zE1 34 [.one (.sl a.len 4 (fun i=>zbs (a.get i))),.one (.sl b.len 4 (fun i=>zbs (b.get i)))] K :=
  zax (by kernel_rfl) (zc hs hk (fun hs hk=>hk) (fun hs hk=>(zE3 hs hk)))
def zE4 : List PA → COut
  | [.one (.sl a0_n a0_s a0_g),.one (.sl a1_n a1_s a1_g)]=>.det (IsE zbs 4 a0_s a0_g∧IsE zbs 4 a1_s a1_g∧p34 (⟨a0_n,zjz a0_g⟩:(Sl Line)) (⟨a1_n,zjz a1_g⟩:(Sl Line))=true) [.one (.bool (s34 (⟨a0_n,zjz a0_g⟩:(Sl Line)) (⟨a1_n,zjz a1_g⟩:(Sl Line))))]
  | _=>.no
theorem zJz:zah Try.prog 34:=⟨_,rfl,rfl,by kernel_rfl⟩
theorem zPb:Ok Try.prog 34 zE4:=zaz zMa zJz fun args K h=>by
  unfold zE4 at h
  split at h
  · rename_i a0_n a0_s a0_g a1_n a1_s a1_g
    obtain ⟨⟨⟨rfl,a0_f,rfl⟩,⟨rfl,a1_f,rfl⟩,hs⟩,hk⟩:=h
    try rw [zet a0_f] at hs
    try rw [zet a0_f] at hk
    try rw [zet a1_f] at hs
    try rw [zet a1_f] at hk
    exact ⟨(fun _ _=>[]),(fun _=>false),zE1,q34 (⟨a0_n,a0_f⟩:(Sl Line)) (⟨a1_n,a1_f⟩:(Sl Line)) K hs hk⟩
  · exact h.elim
abbrev T39:Tabs:=Tabs.nil
theorem zMb:TabsOk Try.prog T39:=TabsOk.nil
abbrev G39:Ctrs:=csm T39 (fun _ _=>[]) (fun _=>false)
def zE5:Ann:=⟨46,[(0,zK [0,1] []),(1,zK [0,1,5] []),(2,zK [0,1,5,15] []),(3,zK [0,1,5] []),(4,zK [0,1,5,26] []),(5,zK [4] []),(6,zK [0,1,5,35] []),(7,zK [4] []),(8,zK [0,1,40] []),(9,zK [4] []),(10,zK [45] []),(11,zK [4] []),(12,zK [4] [])],
 [(2,zK [0,1,5] [])],
 [(8,zK [0,1] [])],
 [],[]⟩
abbrev R39:=Int
abbrev e39 (r:R39):List PA:=[.one (.int .i64 r)]
@[irreducible] def z39:=ptF Try.prog G39 zE5 Try.f39
def zCm (a:(Sl Int)) (b:(Sl Int)) (iv0:Int):St:=⟨[(0,zS zaj 1 a),(1,zS zaj 1 b),(5,zI iv0)],[],[]⟩
abbrev zJA (K:List PA→Prop) (a:(Sl Int)) (b:(Sl Int)) (X:St→Prop) (P:Int→Bool) (S:Int→Int):Prop:=∀ ⦃iv0:Int⦄,P iv0=true→K (e39 (S iv0))→X (zCm a b iv0)
section
variable {K:List PA→Prop} {a:(Sl Int)} {b:(Sl Int)} {iv0:Int} {X0:St→Prop} {P0:Int→Bool} {S0:Int→Int}
def zqA (a:(Sl Int)) (b:(Sl Int)):Int :=
  (cond (decide ((a.len : Int) < (b.len : Int)))
 (-1:Int)
 (cond (decide ((a.len : Int) > (b.len : Int)))
 (1:Int)
 (0:Int)))
theorem zxa (hk:K (e39 (zqA a b))):z39 K [1,1] [] ⟨[(0,zS zaj 1 a),(1,zS zaj 1 b)],[],[]⟩:=zax (by kernel_rfl) (zt hk (fun hk=>hk) (fun hk=>(zt hk (fun hk=>hk) (fun hk=>hk))))
def zxb (a:(Sl Int)) (b:(Sl Int)) (S0:Int→Int) (iv0:Int):Int :=
  (cond (decide (iv0 < (a.len : Int)))
 (cond (decide (iv0 < (b.len : Int)))
 (cond (decide ((a.get iv0.toNat) < (b.get iv0.toNat)))
 (-1:Int)
 (cond (decide ((a.get iv0.toNat) > (b.get iv0.toNat)))
 (1:Int)
 (S0 (w64 (iv0+(1:Int))))))
 (zqA a b))
 (zqA a b))
def zxc (a:(Sl Int)) (b:(Sl Int)) (P0:Int→Bool) (iv0:Int):Bool :=
  (cond (decide (iv0 < (a.len : Int)))
 (cond (decide (iv0 < (b.len : Int)))
 (decide ((0≤iv0∧iv0 < (a.len:Int))) &&
 (decide ((0≤iv0∧iv0 < (b.len:Int))) &&
 (cond (decide ((a.get iv0.toNat) < (b.get iv0.toNat)))
 true
 (decide ((0≤iv0∧iv0 < (a.len:Int))) &&
 (decide ((0≤iv0∧iv0 < (b.len:Int))) &&
 (cond (decide ((a.get iv0.toNat) > (b.get iv0.toNat)))
 true
 (P0 (w64 (iv0+(1:Int))))))))))
 true)
 true)
def zxd (a:(Sl Int)) (b:(Sl Int)):Nat→Int→Int:=lpO (fun _=>default) (zxb a b)
def zxe (a:(Sl Int)) (b:(Sl Int)):Nat→Int→Bool:=lpO (fun _=>false) (zxc a b)
def zxf (a:(Sl Int)) (b:(Sl Int)) (iv0:Int):Int:=zxd a b Fuel iv0
def zxg (a:(Sl Int)) (b:(Sl Int)) (iv0:Int):Bool:=zxe a b Fuel iv0
theorem zE6 (hs:zxg a b iv0=true) (hk:K (e39 (zxf a b iv0))):z39 K [1,0,1,0] [] (zCm a b iv0) :=
  zl (fun X=>z39 K [1,0,1,0,0] [X]) (by kernel_rfl) fun X0 hX =>
  (show ∀ k, zJA K a b X0 (zxe a b k) (zxd a b k) from zfu _ _ (zxc a b) (zxb a b) (zJA K a b X0)
 (by intro _ hs;exact absurd hs Bool.false_ne_true)
 (by intro P0 S0 hX0 iv0 hs hk;exact hX _ (zax (by kernel_rfl) (zc hs hk (fun hs hk=>(zc hs hk (fun hs hk=>(zaw hs fun hc hs=>And.intro hc (zaw hs fun hc hs=>And.intro hc (zc hs hk (fun hs hk=>hk) (fun hs hk=>(zaw hs fun hc hs=>And.intro hc (zaw hs fun hc hs=>And.intro hc (zc hs hk (fun hs hk=>hk) (fun hs hk=>(hX0 hs hk)))))))))) (fun hs hk=>(zxa hk)))) (fun hs hk=>(zxa hk)))))) _ hs hk
def s39 (a:(Sl Int)) (b:(Sl Int)):Int :=
  (zxf a b (0:Int))
def p39 (a:(Sl Int)) (b:(Sl Int)):Bool :=
  (zxg a b (0:Int))
end
theorem q39 (a:(Sl Int)) (b:(Sl Int)) (K:List PA→Prop) (hs:p39 a b=true) (hk:K (e39 (s39 a b))):vcFun Try.prog G39 zE5 39 [.one (.sl a.len 1 (fun i=>zaj (a.get i))),.one (.sl b.len 1 (fun i=>zaj (b.get i)))] K :=
  zax (by kernel_rfl) (zE6 hs hk)
def zE7 : List PA → COut
  | [.one (.sl a0_n a0_s a0_g),.one (.sl a1_n a1_s a1_g)]=>.det (IsE zaj 1 a0_s a0_g∧IsE zaj 1 a1_s a1_g∧p39 (⟨a0_n,zbc a0_g⟩:(Sl Int)) (⟨a1_n,zbc a1_g⟩:(Sl Int))=true) [.one (.int .i64 (s39 (⟨a0_n,zbc a0_g⟩:(Sl Int)) (⟨a1_n,zbc a1_g⟩:(Sl Int))))]
  | _=>.no
theorem zJB:zah Try.prog 39:=⟨_,rfl,rfl,by kernel_rfl⟩
theorem zPc:Ok Try.prog 39 zE7:=zaz zMb zJB fun args K h=>by
  unfold zE7 at h
  split at h
  · rename_i a0_n a0_s a0_g a1_n a1_s a1_g
    obtain ⟨⟨⟨rfl,a0_f,rfl⟩,⟨rfl,a1_f,rfl⟩,hs⟩,hk⟩:=h
    try rw [zb0 a0_f] at hs
    try rw [zb0 a0_f] at hk
    try rw [zb0 a1_f] at hs
    try rw [zb0 a1_f] at hk
    exact ⟨(fun _ _=>[]),(fun _=>false),zE5,q39 (⟨a0_n,a0_f⟩:(Sl Int)) (⟨a1_n,a1_f⟩:(Sl Int)) K hs hk⟩
  · exact h.elim
abbrev T73:Tabs:=Tabs.nil
theorem zMc:TabsOk Try.prog T73:=TabsOk.nil
abbrev G73:Ctrs:=csm T73 (fun _ _=>[]) (fun _=>false)
def zE8:Ann:=⟨12,[(0,zK [0,1] []),(1,zK [0,1,6] []),(2,zK [0,1] []),(3,zK [4] [])],
 [(1,zK [0,1] [])],
 [],
 [],[]⟩
abbrev R73:=Int
abbrev e73 (r:R73):List PA:=[.one (.int .i64 r)]
@[irreducible] def z73:=ptF Try.prog G73 zE8 Try.f73
def zCn (av0:Int) (bv0:Int):St:=⟨[(0,zI av0),(1,zI bv0)],[],[]⟩
abbrev zJC (K:List PA→Prop) (X:St→Prop) (P:Int→Int→Bool) (S:Int→Int→Int):Prop:=∀ ⦃av0:Int⦄ ⦃bv0:Int⦄,P av0 bv0=true→K (e73 (S av0 bv0))→X (zCn av0 bv0)
section
variable {K:List PA→Prop} {a:Int} {b:Int} {av0:Int} {bv0:Int} {X0:St→Prop} {P0:Int→Int→Bool} {S0:Int→Int→Int}
def zmU (S0:Int→Int→Int) (av0:Int) (bv0:Int):Int :=
  (cond (bv0 != (0:Int))
 (S0 bv0 (av0.tmod bv0))
 av0)
def zmV (P0:Int→Int→Bool) (av0:Int) (bv0:Int):Bool :=
  (cond (bv0 != (0:Int))
 (decide ((bv0 ≠ 0)) &&
 (P0 bv0 (av0.tmod bv0)))
 true)
def zmW:Nat→Int→Int→Int:=lpO (fun _ _=>default) (zmU)
def zmX:Nat→Int→Int→Bool:=lpO (fun _ _=>false) (zmV)
def zxh (av0:Int) (bv0:Int):Int:=zmW Fuel av0 bv0
def zxi (av0:Int) (bv0:Int):Bool:=zmX Fuel av0 bv0
theorem zE9 (hs:zxi av0 bv0=true) (hk:K (e73 (zxh av0 bv0))):z73 K [1,0,0] [] (zCn av0 bv0) :=
  zl (fun X=>z73 K [1,0,0,0] [X]) (by kernel_rfl) fun X0 hX =>
  (show ∀ k, zJC K X0 (zmX k) (zmW k) from zfu _ _ (zmV) (zmU) (zJC K X0)
 (by intro _ _ hs;exact absurd hs Bool.false_ne_true)
 (by intro P0 S0 hX0 av0 bv0 hs hk;exact hX _ (zax (by kernel_rfl) (zc hs hk (fun hs hk=>(zaw hs fun hc hs=>And.intro hc (hX0 hs hk))) (fun hs hk=>hk))))) _ hs hk
def s73 (a:Int) (b:Int):Int :=
  (zxh a b)
def p73 (a:Int) (b:Int):Bool :=
  (zxi a b)
end
theorem q73 (a:Int) (b:Int) (K:List PA→Prop) (hs:p73 a b=true) (hk:K (e73 (s73 a b))):vcFun Try.prog G73 zE8 73 [.one (.int .i64 a),.one (.int .i64 b)] K :=
  zax (by kernel_rfl) (zE9 hs hk)
def zAY : List PA → COut
  | [.one (.int .i64 a0),.one (.int .i64 a1)]=>.det (p73 a0 a1=true) [.one (.int .i64 (s73 a0 a1))]
  | _=>.no
theorem zJD:zah Try.prog 73:=⟨_,rfl,rfl,by kernel_rfl⟩
theorem zPd:Ok Try.prog 73 zAY:=zaz zMc zJD fun args K h=>by
  unfold zAY at h
  split at h
  · rename_i a0 a1
    obtain ⟨hs,hk⟩:=h
    exact ⟨(fun _ _=>[]),(fun _=>false),zE8,q73 a0 a1 K hs hk⟩
  · exact h.elim
abbrev T40:Tabs:=(Tabs.nil.addF 73 zAY)
theorem zMd:TabsOk Try.prog T40:=(TabsOk.nil.addF zPd)
abbrev G40:Ctrs:=csm T40 (fun _ _=>[]) (fun _=>false)
def zJE:Ann:=⟨19,[(0,zK [0,1,4] [4]),(1,zK [0,1,4,5] [4]),(2,zK [4] [4])],
 [],
 [],
 [],[]⟩
abbrev R40:=Frac
abbrev e40 (r:R40):List PA:=[.agg [.int .i64 r.Num,.int .i64 r.Den]]
section
variable {K:List PA→Prop} {num:Int} {den:Int}
def s40 (num:Int) (den:Int):Frac :=
  (⟨(w64 (num.tdiv (s73 (if (w64 (0 - num)) > num then (w64 (0 - num)) else num) den))),(w64 (den.tdiv (s73 (if (w64 (0 - num)) > num then (w64 (0 - num)) else num) den)))⟩:Frac)
def p40 (num:Int) (den:Int):Bool :=
  (decide ((p73 (if (w64 (0 - num)) > num then (w64 (0 - num)) else num) den=true)) &&
 (decide (((s73 (if (w64 (0 - num)) > num then (w64 (0 - num)) else num) den) ≠ 0)) &&
 (decide (((s73 (if (w64 (0 - num)) > num then (w64 (0 - num)) else num) den) ≠ 0)) &&
 true)))
end
theorem q40 (num:Int) (den:Int) (K:List PA→Prop) (hs:p40 num den=true) (hk:K (e40 (s40 num den))):vcFun Try.prog G40 zJE 40 [.one (.int .i64 num),.one (.int .i64 den)] K :=
  zax (by kernel_rfl) (zaw hs fun hc hs=>And.intro hc (zaw hs fun hc hs=>And.intro hc (zaw hs fun hc hs=>And.intro hc hk)))
def ztX : List PA → COut
  | [.one (.int .i64 a0),.one (.int .i64 a1)]=>.det (p40 a0 a1=true) [.agg [.int .i64 ((s40 a0 a1).Num),.int .i64 ((s40 a0 a1).Den)]]
  | _=>.no
theorem zJF:zah Try.prog 40:=⟨_,rfl,rfl,by kernel_rfl⟩
theorem zNH:Ok Try.prog 40 ztX:=zaz zMd zJF fun args K h=>by
  unfold ztX at h
  split at h
  · rename_i a0 a1
    obtain ⟨hs,hk⟩:=h
    exact ⟨(fun _ _=>[]),(fun _=>false),zJE,q40 a0 a1 K hs hk⟩
  · exact h.elim
abbrev T85:Tabs:=Tabs.nil
theorem zMe:TabsOk Try.prog T85:=TabsOk.nil
abbrev G85:Ctrs:=csm T85 (fun _ _=>[]) (fun _=>false)
def zJG:Ann:=⟨47,[(0,zK [0,1,2,3,4,5] []),(1,zK [0,1,2,13] []),(2,zK [13,14] []),(3,zK [12] [])],
 [],
 [],
 [],[]⟩
abbrev R85:=Int
abbrev e85 (r:R85):List PA:=[.one (.int .i64 r)]
section
variable {K:List PA→Prop} {u:Int} {v:Int} {w:Int} {p:Int} {q:Int} {r_a5:Int}
def s85 (u:Int) (v:Int) (w:Int) (p:Int) (q:Int) (r_a5:Int):Int :=
  (w64 ((w64 ((w64 ((w64 ((1000:Int) * (if (w64 (0 - (w64 ((w64 ((w64 (r_a5 - q)) * (w64 (v - u)))) - (w64 ((w64 (q - p)) * (w64 (w - v)))))))) > (w64 ((w64 ((w64 (r_a5 - q)) * (w64 (v - u)))) - (w64 ((w64 (q - p)) * (w64 (w - v)))))) then (w64 (0 - (w64 ((w64 ((w64 (r_a5 - q)) * (w64 (v - u)))) - (w64 ((w64 (q - p)) * (w64 (w - v)))))))) else (w64 ((w64 ((w64 (r_a5 - q)) * (w64 (v - u)))) - (w64 ((w64 (q - p)) * (w64 (w - v)))))))))+(w64 ((w64 (v - u)) * (w64 (w - v)))))) - (1:Int))).tdiv (w64 ((w64 (v - u)) * (w64 (w - v))))))
def p85 (u:Int) (v:Int) (w:Int) (p:Int) (q:Int) (r_a5:Int):Bool :=
  (decide (((w64 ((w64 (v - u)) * (w64 (w - v)))) ≠ 0)) &&
 true)
end
theorem q85 (u:Int) (v:Int) (w:Int) (p:Int) (q:Int) (r_a5:Int) (K:List PA→Prop) (hs:p85 u v w p q r_a5=true) (hk:K (e85 (s85 u v w p q r_a5))):vcFun Try.prog G85 zJG 85 [.one (.int .i64 u),.one (.int .i64 v),.one (.int .i64 w),.one (.int .i64 p),.one (.int .i64 q),.one (.int .i64 r_a5)] K :=
  zax (by kernel_rfl) (zaw hs fun hc hs=>And.intro hc hk)
def zAZ : List PA → COut
  | [.one (.int .i64 a0),.one (.int .i64 a1),.one (.int .i64 a2),.one (.int .i64 a3),.one (.int .i64 a4),.one (.int .i64 a5)]=>.det (p85 a0 a1 a2 a3 a4 a5=true) [.one (.int .i64 (s85 a0 a1 a2 a3 a4 a5))]
  | _=>.no
theorem zJH:zah Try.prog 85:=⟨_,rfl,rfl,by kernel_rfl⟩
theorem zNI:Ok Try.prog 85 zAZ:=zaz zMe zJH fun args K h=>by
  unfold zAZ at h
  split at h
  · rename_i a0 a1 a2 a3 a4 a5
    obtain ⟨hs,hk⟩:=h
    exact ⟨(fun _ _=>[]),(fun _=>false),zJG,q85 a0 a1 a2 a3 a4 a5 K hs hk⟩
  · exact h.elim
abbrev T92:Tabs:=((Tabs.nil.addF 64 zpG).addF 74 zoj)
theorem zMf:TabsOk Try.prog T92:=((TabsOk.nil.addF zIs).addF zHB)
abbrev G92:Ctrs:=csm T92 (fun _ _=>[]) (fun _=>false)
def zFa:Ann:=⟨41,[(0,zK [0] []),(1,zK [0,5,6,7] []),(2,zK [0,5,6,7,8] []),(3,zK [0,3,4,5,6,7] [4]),(4,zK [0,5,6,7,32] []),(5,zK [2] []),(6,zK [0,5,6,7] []),(7,zK [2] [])],
 [(2,zK [0,5,6,7] [])],
 [],
 [],[]⟩
abbrev R92:=Bool
abbrev e92 (r:R92):List PA:=[.one (.bool r)]
@[irreducible] def z92:=ptF Try.prog G92 zFa Try.f92
def zCo (zaa:(Sl Gate)) (zaW:Int):St:=⟨[(0,zS enc_55 3 zaa),(5,zS enc_55 3 zaa),(6,zI (zaa.len:Int)),(7,zI zaW)],[],[]⟩
abbrev zJI (K:List PA→Prop) (zaa:(Sl Gate)) (X:St→Prop) (P:Int→Bool) (S:Int→Bool):Prop:=∀ ⦃zaW:Int⦄,P zaW=true→K (e92 (S zaW))→X (zCo zaa zaW)
section
variable {K:List PA→Prop} {zaa:(Sl Gate)} {zaW:Int} {X0:St→Prop} {P0:Int→Bool} {S0:Int→Bool}
def zxj (zaa:(Sl Gate)) (S0:Int→Bool) (zaW:Int):Bool :=
  (cond (decide (zaW < (zaa.len : Int)))
 (cond (decide ((w64 ((zaa.get zaW.toNat).High - (zaa.get zaW.toNat).Low)) > (60:Int)))
 false
 (cond (decide (zaW > (0:Int)))
 (cond (decide ((zaa.get zaW.toNat).Z ≤ (zaa.get ((w64 (zaW - (1:Int))).toNat)).Z))
 false
 (S0 (w64 (zaW+(1:Int)))))
 (S0 (w64 (zaW+(1:Int))))))
 (cond (s74 (zaa.len : Int) (2:Int) (8:Int))
 (s64 zaa)
 false))
def zxk (zaa:(Sl Gate)) (P0:Int→Bool) (zaW:Int):Bool :=
  (cond (decide (zaW < (zaa.len : Int)))
 (decide ((0≤zaW∧zaW < (zaa.len:Int))) &&
 (cond (decide ((w64 ((zaa.get zaW.toNat).High - (zaa.get zaW.toNat).Low)) > (60:Int)))
 true
 (cond (decide (zaW > (0:Int)))
 (decide ((0≤(w64 (zaW - (1:Int)))∧(w64 (zaW - (1:Int))) < (zaa.len:Int))) &&
 (cond (decide ((zaa.get zaW.toNat).Z ≤ (zaa.get ((w64 (zaW - (1:Int))).toNat)).Z))
 true
 (P0 (w64 (zaW+(1:Int))))))
 (P0 (w64 (zaW+(1:Int)))))))
 (cond (s74 (zaa.len : Int) (2:Int) (8:Int))
 (decide ((p64 zaa=true)) &&
 true)
 true))
def zxl (zaa:(Sl Gate)):Nat→Int→Bool:=lpO (fun _=>default) (zxj zaa)
def zxm (zaa:(Sl Gate)):Nat→Int→Bool:=lpO (fun _=>false) (zxk zaa)
def zxn (zaa:(Sl Gate)) (zaW:Int):Bool:=zxl zaa Fuel zaW
def zxo (zaa:(Sl Gate)) (zaW:Int):Bool:=zxm zaa Fuel zaW
theorem zFb (hs:zxo zaa zaW=true) (hk:K (e92 (zxn zaa zaW))):z92 K [1,0,1,0] [] (zCo zaa zaW) :=
  zl (fun X=>z92 K [1,0,1,0,0] [X]) (by kernel_rfl) fun X0 hX =>
  (show ∀ k, zJI K zaa X0 (zxm zaa k) (zxl zaa k) from zfu _ _ (zxk zaa) (zxj zaa) (zJI K zaa X0)
 (by intro _ hs;exact absurd hs Bool.false_ne_true)
 (by intro P0 S0 hX0 zaW hs hk;exact hX _ (zax (by kernel_rfl) (zc hs hk (fun hs hk=>(zaw hs fun hc hs=>And.intro hc (zc hs hk (fun hs hk=>hk) (fun hs hk=>(zc hs hk (fun hs hk=>(zaw hs fun hc hs=>And.intro hc (zc hs hk (fun hs hk=>hk) (fun hs hk=>(hX0 hs hk))))) (fun hs hk=>(hX0 hs hk))))))) (fun hs hk=>(zc hs hk (fun hs hk=>(zaw hs fun hc hs=>And.intro (And.intro (zE enc_55 3 zaa.get) hc) hk)) (fun hs hk=>hk))))))) _ hs hk
def s92 (zaa:(Sl Gate)):Bool :=
  (zxn zaa (0:Int))
def p92 (zaa:(Sl Gate)):Bool :=
  (zxo zaa (0:Int))
end
theorem q92 (zaa:(Sl Gate)) (K:List PA→Prop) (hs:p92 zaa=true) (hk:K (e92 (s92 zaa))):vcFun Try.prog G92 zFa 92 [.one (.sl zaa.len 3 (fun i=>enc_55 (zaa.get i)))] K :=
  zax (by kernel_rfl) (zFb hs hk)
def zFc : List PA → COut
  | [.one (.sl a0_n a0_s a0_g)]=>.det (IsE enc_55 3 a0_s a0_g∧p92 (⟨a0_n,zad a0_g⟩:(Sl Gate))=true) [.one (.bool (s92 (⟨a0_n,zad a0_g⟩:(Sl Gate))))]
  | _=>.no
theorem zJJ:zah Try.prog 92:=⟨_,rfl,rfl,by kernel_rfl⟩
theorem zPe:Ok Try.prog 92 zFc:=zaz zMf zJJ fun args K h=>by
  unfold zFc at h
  split at h
  · rename_i a0_n a0_s a0_g
    obtain ⟨⟨⟨rfl,a0_f,rfl⟩,hs⟩,hk⟩:=h
    try rw [zac a0_f] at hs
    try rw [zac a0_f] at hk
    exact ⟨(fun _ _=>[]),(fun _=>false),zFa,q92 (⟨a0_n,a0_f⟩:(Sl Gate)) K hs hk⟩
  · exact h.elim
abbrev T93:Tabs:=(Tabs.nil.addF 85 zAZ)
theorem zMg:TabsOk Try.prog T93:=(TabsOk.nil.addF zNI)
abbrev G93:Ctrs:=csm T93 (fun _ _=>[]) (fun l=>Nat.beq l 15 || Nat.beq l 24)
def zFd:Ann:=⟨131,[(0,zK [0] []),(1,zK [0,3] []),(2,zK [0,3,4] [15]),(3,zK [0,3,4,5] [15]),(4,zK [0,3,4,5,19] [15]),(5,zK [0,3,4,5] [15]),(6,zK [0,3,4,5] [15]),(7,zK [0,3,4,5,6] [15]),(8,zK [0,3,4,5,6,37] [15]),(9,zK [0,3,4,5,6] [15]),(10,zK [0,3,4,5,6,7] [15]),(11,zK [0,3,4,5,6,7,53] [15]),(12,zK [0,3,4,5,6,7] [15]),(13,zK [0,3,4,5,6,7,59] [15]),(14,zK [0,3,4,5,6,7] [15]),(15,zK [0,3,4,5,6,7,8] [15]),(16,zK [0,3,4,5,6,7,8,9] [15]),(17,zK [0,3,4,5,6,7,8,9,80] [15]),(18,zK [0,3,4,5,6,7,8,9] [15]),(19,zK [0,3,4,5,6,7,8,9,10] [15]),(20,zK [0,3,4,5,6,7,8,9,10,120] [15]),(21,zK [0,3,4,5,6,7,8,9] [15]),(22,zK [0,3,4,5,6,7] [15]),(23,zK [2] [15])],
 [(4,zK [0,3,4,5] [15]),(8,zK [0,3,4,5,6] [15]),(11,zK [0,3,4,5,6,7] [15]),(17,zK [0,3,4,5,6,7,8,9] [15])],
 [(15,zK [0,3,4,5,6,7] [15]),(20,zK [0,3,4,5,6,7,8,9,10] [15])],
 [],[]⟩
abbrev R93:=(Sl Mp)
abbrev e93 (r:R93):List PA:=[.one (.sl r.len 1 (fun i=>zcC (r.get i)))]
@[irreducible] def z93:=ptF Try.prog G93 zFd Try.f93
def zCp (zaa:(Sl Gate)) (iv0:Int) (zbF:Nat) (zby:(Nat→Bool)) (zbz:(Nat→Nat)) (zbU:(Nat→List Int→Option (List Int))):St:=⟨[(0,zS enc_55 3 zaa),(3,zI (zaa.len:Int)),(4,zv 15),(5,zI iv0)],[(15,.vm 129 8 131 3 (true,2,false,[some .i64]) zbF zby zbz zbU)],[]⟩
abbrev zqB (K:List PA→Prop) (zaa:(Sl Gate)) (X:St→Prop) (P:Int→Nat→(Nat→Bool)→(Nat→Nat)→(Nat→List Int→Option (List Int))→Bool) (S:Int→Nat→(Nat→Bool)→(Nat→Nat)→(Nat→List Int→Option (List Int))→(Sl Mp)):Prop:=∀ ⦃iv0:Int⦄ ⦃zbF:Nat⦄ ⦃zby:(Nat→Bool)⦄ ⦃zbz:(Nat→Nat)⦄ ⦃zbU:(Nat→List Int→Option (List Int))⦄,P iv0 zbF zby zbz zbU=true→K (e93 (S iv0 zbF zby zbz zbU))→X (zCp zaa iv0 zbF zby zbz zbU)
def zCq (zaa:(Sl Gate)) (iv1:Int) (pv1:Int) (zbM:Nat) (zbp:(Nat→Bool)) (zbq:(Nat→Nat)) (zbN:(Nat→List Int→Option (List Int))):St:=⟨[(0,zS enc_55 3 zaa),(3,zI (zaa.len:Int)),(4,zv 15),(5,zI iv1),(6,zI pv1)],[(15,.vm 129 8 131 3 (true,2,false,[some .i64]) zbM zbp zbq zbN)],[]⟩
abbrev ztY (K:List PA→Prop) (zaa:(Sl Gate)) (X:St→Prop) (P:Int→Int→Nat→(Nat→Bool)→(Nat→Nat)→(Nat→List Int→Option (List Int))→Bool) (S:Int→Int→Nat→(Nat→Bool)→(Nat→Nat)→(Nat→List Int→Option (List Int))→(Sl Mp)):Prop:=∀ ⦃iv1:Int⦄ ⦃pv1:Int⦄ ⦃zbM:Nat⦄ ⦃zbp:(Nat→Bool)⦄ ⦃zbq:(Nat→Nat)⦄ ⦃zbN:(Nat→List Int→Option (List Int))⦄,P iv1 pv1 zbM zbp zbq zbN=true→K (e93 (S iv1 pv1 zbM zbp zbq zbN))→X (zCq zaa iv1 pv1 zbM zbp zbq zbN)
def zCr (zaa:(Sl Gate)) (iv2:Int) (pv2:Int) (qv2:Int) (zbr:Nat) (za4:(Nat→Bool)) (zaX:(Nat→Nat)) (zbj:(Nat→List Int→Option (List Int))):St:=⟨[(0,zS enc_55 3 zaa),(3,zI (zaa.len:Int)),(4,zv 15),(5,zI iv2),(6,zI pv2),(7,zI qv2)],[(15,.vm 129 8 131 3 (true,2,false,[some .i64]) zbr za4 zaX zbj)],[]⟩
abbrev zxp (K:List PA→Prop) (zaa:(Sl Gate)) (X:St→Prop) (P:Int→Int→Int→Nat→(Nat→Bool)→(Nat→Nat)→(Nat→List Int→Option (List Int))→Bool) (S:Int→Int→Int→Nat→(Nat→Bool)→(Nat→Nat)→(Nat→List Int→Option (List Int))→(Sl Mp)):Prop:=∀ ⦃iv2:Int⦄ ⦃pv2:Int⦄ ⦃qv2:Int⦄ ⦃zbr:Nat⦄ ⦃za4:(Nat→Bool)⦄ ⦃zaX:(Nat→Nat)⦄ ⦃zbj:(Nat→List Int→Option (List Int))⦄,P iv2 pv2 qv2 zbr za4 zaX zbj=true→K (e93 (S iv2 pv2 qv2 zbr za4 zaX zbj))→X (zCr zaa iv2 pv2 qv2 zbr za4 zaX zbj)
def zCs (zaa:(Sl Gate)) (qv3:Int) (iv4:Int) (pv4:Int) (zcw:Int) (rv4:Int) (zbk:Nat) (za8:(Nat→Bool)) (za9:(Nat→Nat)) (za7:(Nat→List Int→Option (List Int))):St:=⟨[(0,zS enc_55 3 zaa),(3,zI (zaa.len:Int)),(4,zv 15),(5,zI iv4),(6,zI pv4),(7,zI qv3),(8,zI zcw),(9,zI rv4)],[(15,.vm 129 8 131 3 (true,2,false,[some .i64]) zbk za8 za9 za7)],[]⟩
abbrev zFe (K:List PA→Prop) (zaa:(Sl Gate)) (qv3:Int) (X:St→Prop) (P:Int→Int→Int→Int→Nat→(Nat→Bool)→(Nat→Nat)→(Nat→List Int→Option (List Int))→Bool) (S:Int→Int→Int→Int→Nat→(Nat→Bool)→(Nat→Nat)→(Nat→List Int→Option (List Int))→(Sl Mp)):Prop:=∀ ⦃iv4:Int⦄ ⦃pv4:Int⦄ ⦃zcw:Int⦄ ⦃rv4:Int⦄ ⦃zbk:Nat⦄ ⦃za8:(Nat→Bool)⦄ ⦃za9:(Nat→Nat)⦄ ⦃za7:(Nat→List Int→Option (List Int))⦄,P iv4 pv4 zcw rv4 zbk za8 za9 za7=true→K (e93 (S iv4 pv4 zcw rv4 zbk za8 za9 za7))→X (zCs zaa qv3 iv4 pv4 zcw rv4 zbk za8 za9 za7)
section
variable {K:List PA→Prop} {zaa:(Sl Gate)} {iv0:Int} {zbF:Nat} {zby:(Nat→Bool)} {zbz:(Nat→Nat)} {zbU:(Nat→List Int→Option (List Int))} {X0:St→Prop} {P0:Int→Nat→(Nat→Bool)→(Nat→Nat)→(Nat→List Int→Option (List Int))→Bool} {S0:Int→Nat→(Nat→Bool)→(Nat→Nat)→(Nat→List Int→Option (List Int))→(Sl Mp)} {iv1:Int} {pv1:Int} {zbM:Nat} {zbp:(Nat→Bool)} {zbq:(Nat→Nat)} {zbN:(Nat→List Int→Option (List Int))} {X1:St→Prop} {P1:Int→Int→Nat→(Nat→Bool)→(Nat→Nat)→(Nat→List Int→Option (List Int))→Bool} {S1:Int→Int→Nat→(Nat→Bool)→(Nat→Nat)→(Nat→List Int→Option (List Int))→(Sl Mp)} {iv2:Int} {pv2:Int} {qv2:Int} {zbr:Nat} {za4:(Nat→Bool)} {zaX:(Nat→Nat)} {zbj:(Nat→List Int→Option (List Int))} {X2:St→Prop} {P2:Int→Int→Int→Nat→(Nat→Bool)→(Nat→Nat)→(Nat→List Int→Option (List Int))→Bool} {S2:Int→Int→Int→Nat→(Nat→Bool)→(Nat→Nat)→(Nat→List Int→Option (List Int))→(Sl Mp)} {iv3:Int} {pv3:Int} {qv3:Int} {zfX:Nat} {zeA:(Nat→Bool)} {zeB:(Nat→Nat)} {zfY:(Nat→List Int→Option (List Int))} {iv4:Int} {pv4:Int} {zcw:Int} {rv4:Int} {zbk:Nat} {za8:(Nat→Bool)} {za9:(Nat→Nat)} {za7:(Nat→List Int→Option (List Int))} {X4:St→Prop} {P4:Int→Int→Int→Int→Nat→(Nat→Bool)→(Nat→Nat)→(Nat→List Int→Option (List Int))→Bool} {S4:Int→Int→Int→Int→Nat→(Nat→Bool)→(Nat→Nat)→(Nat→List Int→Option (List Int))→(Sl Mp)} {iv5:Int} {pv5:Int} {ze7:Int} {rv5:Int} {kv5:Int} {zdA:Nat} {zcH:(Nat→Bool)} {zcI:(Nat→Nat)} {zdB:(Nat→List Int→Option (List Int))}
def zxq (S0:Int→Nat→(Nat→Bool)→(Nat→Nat)→(Nat→List Int→Option (List Int))→(Sl Mp)) (S1:Int→Int→Nat→(Nat→Bool)→(Nat→Nat)→(Nat→List Int→Option (List Int))→(Sl Mp)) (S2:Int→Int→Int→Nat→(Nat→Bool)→(Nat→Nat)→(Nat→List Int→Option (List Int))→(Sl Mp)) (S4:Int→Int→Int→Int→Nat→(Nat→Bool)→(Nat→Nat)→(Nat→List Int→Option (List Int))→(Sl Mp)) (zaa:(Sl Gate)) (qv3:Int) (iv5:Int) (pv5:Int) (ze7:Int) (rv5:Int) (kv5:Int) (zdA:Nat) (zcH:(Nat→Bool)) (zcI:(Nat→Nat)) (zdB:(Nat→List Int→Option (List Int))):(Sl Mp) :=
  (cond (decide (ze7 < (0:Int)))
 (S4 iv5 pv5 kv5 (w64 (rv5+(1:Int))) zdA zcH zcI zdB)
 (cond (decide (kv5 < ze7))
 (S4 iv5 pv5 kv5 (w64 (rv5+(1:Int))) zdA zcH zcI zdB)
 (S4 iv5 pv5 ze7 (w64 (rv5+(1:Int))) zdA zcH zcI zdB)))
def zxr (P0:Int→Nat→(Nat→Bool)→(Nat→Nat)→(Nat→List Int→Option (List Int))→Bool) (P1:Int→Int→Nat→(Nat→Bool)→(Nat→Nat)→(Nat→List Int→Option (List Int))→Bool) (P2:Int→Int→Int→Nat→(Nat→Bool)→(Nat→Nat)→(Nat→List Int→Option (List Int))→Bool) (P4:Int→Int→Int→Int→Nat→(Nat→Bool)→(Nat→Nat)→(Nat→List Int→Option (List Int))→Bool) (zaa:(Sl Gate)) (qv3:Int) (iv5:Int) (pv5:Int) (ze7:Int) (rv5:Int) (kv5:Int) (zdA:Nat) (zcH:(Nat→Bool)) (zcI:(Nat→Nat)) (zdB:(Nat→List Int→Option (List Int))):Bool :=
  (cond (decide (ze7 < (0:Int)))
 (P4 iv5 pv5 kv5 (w64 (rv5+(1:Int))) zdA zcH zcI zdB)
 (cond (decide (kv5 < ze7))
 (P4 iv5 pv5 kv5 (w64 (rv5+(1:Int))) zdA zcH zcI zdB)
 (P4 iv5 pv5 ze7 (w64 (rv5+(1:Int))) zdA zcH zcI zdB)))
theorem zFf (hX0:zqB K zaa X0 P0 S0) (hX1:ztY K zaa X1 P1 S1) (hX2:zxp K zaa X2 P2 S2) (hX4:zFe K zaa qv3 X4 P4 S4) (hs:zxr P0 P1 P2 P4 zaa qv3 iv5 pv5 ze7 rv5 kv5 zdA zcH zcI zdB=true) (hk:K (e93 (zxq S0 S1 S2 S4 zaa qv3 iv5 pv5 ze7 rv5 kv5 zdA zcH zcI zdB))):z93 K [1,1,1,0,1,0,0,1,0,0,1,1,0,0,1,0,0,1,0,0,1,0,0,1,1,0,1,0,0,1,0,0,1] [X0,X1,X2,X4] ⟨[(0,zS enc_55 3 zaa),(3,zI (zaa.len:Int)),(4,zv 15),(5,zI iv5),(6,zI pv5),(7,zI qv3),(8,zI ze7),(9,zI rv5),(10,zI kv5)],[(15,.vm 129 8 131 3 (true,2,false,[some .i64]) zdA zcH zcI zdB)],[]⟩:=zax (by kernel_rfl) (zc hs hk (fun hs hk=>(hX4 hs hk)) (fun hs hk=>(zc hs hk (fun hs hk=>(hX4 hs hk)) (fun hs hk=>(hX4 hs hk)))))
def zxs (S0:Int→Nat→(Nat→Bool)→(Nat→Nat)→(Nat→List Int→Option (List Int))→(Sl Mp)) (S1:Int→Int→Nat→(Nat→Bool)→(Nat→Nat)→(Nat→List Int→Option (List Int))→(Sl Mp)) (S2:Int→Int→Int→Nat→(Nat→Bool)→(Nat→Nat)→(Nat→List Int→Option (List Int))→(Sl Mp)) (zaa:(Sl Gate)) (qv3:Int) (S4:Int→Int→Int→Int→Nat→(Nat→Bool)→(Nat→Nat)→(Nat→List Int→Option (List Int))→(Sl Mp)) (iv4:Int) (pv4:Int) (zcw:Int) (rv4:Int) (zbk:Nat) (za8:(Nat→Bool)) (za9:(Nat→Nat)) (za7:(Nat→List Int→Option (List Int))):(Sl Mp) :=
  (cond (decide (rv4 ≤ (zaa.get ((w64 (iv4 + (2:Int))).toNat)).High))
 (zxq S0 S1 S2 S4 zaa qv3 iv4 pv4 zcw rv4 (if (zdI ((za7 ((w64 (iv4+(1:Int))).toNat)) [qv3,rv4]) 0) > (s85 ((zaa.get iv4.toNat).Z) ((zaa.get ((w64 (iv4+(1:Int))).toNat)).Z) ((zaa.get ((w64 (iv4+(2:Int))).toNat)).Z) pv4 qv3 rv4) then (zdI ((za7 ((w64 (iv4+(1:Int))).toNat)) [qv3,rv4]) 0) else (s85 ((zaa.get iv4.toNat).Z) ((zaa.get ((w64 (iv4+(1:Int))).toNat)).Z) ((zaa.get ((w64 (iv4+(2:Int))).toNat)).Z) pv4 qv3 rv4)) zbk za8 za9 za7)
 (S2 iv4 pv4 (w64 (qv3+(1:Int))) zbk za8 (zcR iv4.toNat (addN ((za7 iv4.toNat) [pv4,qv3]) (za9 iv4.toNat)) za9) (zcR iv4.toNat (zle [pv4,qv3] [zcw] (za7 iv4.toNat)) za7)))
def zxt (P0:Int→Nat→(Nat→Bool)→(Nat→Nat)→(Nat→List Int→Option (List Int))→Bool) (P1:Int→Int→Nat→(Nat→Bool)→(Nat→Nat)→(Nat→List Int→Option (List Int))→Bool) (P2:Int→Int→Int→Nat→(Nat→Bool)→(Nat→Nat)→(Nat→List Int→Option (List Int))→Bool) (zaa:(Sl Gate)) (qv3:Int) (P4:Int→Int→Int→Int→Nat→(Nat→Bool)→(Nat→Nat)→(Nat→List Int→Option (List Int))→Bool) (iv4:Int) (pv4:Int) (zcw:Int) (rv4:Int) (zbk:Nat) (za8:(Nat→Bool)) (za9:(Nat→Nat)) (za7:(Nat→List Int→Option (List Int))):Bool :=
  (decide ((0≤(w64 (iv4+(2:Int)))∧(w64 (iv4+(2:Int))) < (zaa.len:Int))) &&
 (cond (decide (rv4 ≤ (zaa.get ((w64 (iv4 + (2:Int))).toNat)).High))
 (decide ((0≤iv4∧iv4 < (zaa.len:Int))) &&
 (decide ((0≤(w64 (iv4+(1:Int)))∧(w64 (iv4+(1:Int))) < (zaa.len:Int))) &&
 (decide ((0≤(w64 (iv4+(2:Int)))∧(w64 (iv4+(2:Int))) < (zaa.len:Int))) &&
 (decide ((p85 ((zaa.get iv4.toNat).Z) ((zaa.get ((w64 (iv4+(1:Int))).toNat)).Z) ((zaa.get ((w64 (iv4+(2:Int))).toNat)).Z) pv4 qv3 rv4=true)) &&
 (decide ((0≤(w64 (iv4+(1:Int)))∧(w64 (iv4+(1:Int))) < (zbk:Int))) &&
 (decide (((w64 (iv4+(1:Int))).toNat < zbk∧za8 ((w64 (iv4+(1:Int))).toNat)=true)) &&
 (decide (((w64 (iv4+(1:Int))).toNat < zbk)) &&
 (zxr P0 P1 P2 P4 zaa qv3 iv4 pv4 zcw rv4 (if (zdI ((za7 ((w64 (iv4+(1:Int))).toNat)) [qv3,rv4]) 0) > (s85 ((zaa.get iv4.toNat).Z) ((zaa.get ((w64 (iv4+(1:Int))).toNat)).Z) ((zaa.get ((w64 (iv4+(2:Int))).toNat)).Z) pv4 qv3 rv4) then (zdI ((za7 ((w64 (iv4+(1:Int))).toNat)) [qv3,rv4]) 0) else (s85 ((zaa.get iv4.toNat).Z) ((zaa.get ((w64 (iv4+(1:Int))).toNat)).Z) ((zaa.get ((w64 (iv4+(2:Int))).toNat)).Z) pv4 qv3 rv4)) zbk za8 za9 za7))))))))
 (decide ((0≤iv4∧iv4 < (zbk:Int))) &&
 (decide ((iv4.toNat < zbk∧za8 iv4.toNat=true)) &&
 (decide ((iv4.toNat < zbk)) &&
 (P2 iv4 pv4 (w64 (qv3+(1:Int))) zbk za8 (zcR iv4.toNat (addN ((za7 iv4.toNat) [pv4,qv3]) (za9 iv4.toNat)) za9) (zcR iv4.toNat (zle [pv4,qv3] [zcw] (za7 iv4.toNat)) za7)))))))
def zxu (S0:Int→Nat→(Nat→Bool)→(Nat→Nat)→(Nat→List Int→Option (List Int))→(Sl Mp)) (S1:Int→Int→Nat→(Nat→Bool)→(Nat→Nat)→(Nat→List Int→Option (List Int))→(Sl Mp)) (S2:Int→Int→Int→Nat→(Nat→Bool)→(Nat→Nat)→(Nat→List Int→Option (List Int))→(Sl Mp)) (zaa:(Sl Gate)) (qv3:Int):Nat→Int→Int→Int→Int→Nat→(Nat→Bool)→(Nat→Nat)→(Nat→List Int→Option (List Int))→(Sl Mp):=lpO (fun _ _ _ _ _ _ _ _=>default) (zxs S0 S1 S2 zaa qv3)
def zxv (P0:Int→Nat→(Nat→Bool)→(Nat→Nat)→(Nat→List Int→Option (List Int))→Bool) (P1:Int→Int→Nat→(Nat→Bool)→(Nat→Nat)→(Nat→List Int→Option (List Int))→Bool) (P2:Int→Int→Int→Nat→(Nat→Bool)→(Nat→Nat)→(Nat→List Int→Option (List Int))→Bool) (zaa:(Sl Gate)) (qv3:Int):Nat→Int→Int→Int→Int→Nat→(Nat→Bool)→(Nat→Nat)→(Nat→List Int→Option (List Int))→Bool:=lpO (fun _ _ _ _ _ _ _ _=>false) (zxt P0 P1 P2 zaa qv3)
def zxw (S0:Int→Nat→(Nat→Bool)→(Nat→Nat)→(Nat→List Int→Option (List Int))→(Sl Mp)) (S1:Int→Int→Nat→(Nat→Bool)→(Nat→Nat)→(Nat→List Int→Option (List Int))→(Sl Mp)) (S2:Int→Int→Int→Nat→(Nat→Bool)→(Nat→Nat)→(Nat→List Int→Option (List Int))→(Sl Mp)) (zaa:(Sl Gate)) (qv3:Int) (iv4:Int) (pv4:Int) (zcw:Int) (rv4:Int) (zbk:Nat) (za8:(Nat→Bool)) (za9:(Nat→Nat)) (za7:(Nat→List Int→Option (List Int))):(Sl Mp):=zxu S0 S1 S2 zaa qv3 Fuel iv4 pv4 zcw rv4 zbk za8 za9 za7
def zxx (P0:Int→Nat→(Nat→Bool)→(Nat→Nat)→(Nat→List Int→Option (List Int))→Bool) (P1:Int→Int→Nat→(Nat→Bool)→(Nat→Nat)→(Nat→List Int→Option (List Int))→Bool) (P2:Int→Int→Int→Nat→(Nat→Bool)→(Nat→Nat)→(Nat→List Int→Option (List Int))→Bool) (zaa:(Sl Gate)) (qv3:Int) (iv4:Int) (pv4:Int) (zcw:Int) (rv4:Int) (zbk:Nat) (za8:(Nat→Bool)) (za9:(Nat→Nat)) (za7:(Nat→List Int→Option (List Int))):Bool:=zxv P0 P1 P2 zaa qv3 Fuel iv4 pv4 zcw rv4 zbk za8 za9 za7
theorem zFg (hX0:zqB K zaa X0 P0 S0) (hX1:ztY K zaa X1 P1 S1) (hX2:zxp K zaa X2 P2 S2) (hs:zxx P0 P1 P2 zaa qv3 iv4 pv4 zcw rv4 zbk za8 za9 za7=true) (hk:K (e93 (zxw S0 S1 S2 zaa qv3 iv4 pv4 zcw rv4 zbk za8 za9 za7))):z93 K [1,1,1,0,1,0,0,1,0,0,1,1,0,0,1,0,0,1,0,0,1,0,0,1,1,0,1,0] [X0,X1,X2] (zCs zaa qv3 iv4 pv4 zcw rv4 zbk za8 za9 za7) :=
  zl (fun X=>z93 K [1,1,1,0,1,0,0,1,0,0,1,1,0,0,1,0,0,1,0,0,1,0,0,1,1,0,1,0,0] [X0,X1,X2,X]) (by kernel_rfl) fun X4 hX =>
  (show ∀ k, zFe K zaa qv3 X4 (zxv P0 P1 P2 zaa qv3 k) (zxu S0 S1 S2 zaa qv3 k) from zfu _ _ (zxt P0 P1 P2 zaa qv3) (zxs S0 S1 S2 zaa qv3) (zFe K zaa qv3 X4)
 (by intro _ _ _ _ _ _ _ _ hs;exact absurd hs Bool.false_ne_true)
 (by intro P4 S4 hX4 iv4 pv4 zcw rv4 zbk za8 za9 za7 hs hk;exact hX _ (zax (by kernel_rfl) (zaw hs fun hc hs=>And.intro hc (zc hs hk (fun hs hk=>(zaw hs fun hc hs=>And.intro hc (zaw hs fun hc hs=>And.intro hc (zaw hs fun hc hs=>And.intro hc (zaw hs fun hc hs=>And.intro hc (zaw hs fun hc hs=>And.intro hc (zaw hs fun hc hs=>And.intro hc (zaw hs fun hc hs=>And.intro hc (zFf hX0 hX1 hX2 hX4 hs hk))))))))) (fun hs hk=>(zaw hs fun hc hs=>And.intro hc (zaw hs fun hc hs=>And.intro hc (zaw hs fun hc hs=>And.intro hc (hX2 hs hk)))))))))) _ hs hk
def zxy (S0:Int→Nat→(Nat→Bool)→(Nat→Nat)→(Nat→List Int→Option (List Int))→(Sl Mp)) (S1:Int→Int→Nat→(Nat→Bool)→(Nat→Nat)→(Nat→List Int→Option (List Int))→(Sl Mp)) (S2:Int→Int→Int→Nat→(Nat→Bool)→(Nat→Nat)→(Nat→List Int→Option (List Int))→(Sl Mp)) (zaa:(Sl Gate)) (iv3:Int) (pv3:Int) (qv3:Int) (zfX:Nat) (zeA:(Nat→Bool)) (zeB:(Nat→Nat)) (zfY:(Nat→List Int→Option (List Int))):(Sl Mp) :=
  (zxw S0 S1 S2 zaa qv3 iv3 pv3 (-1:Int) ((zaa.get ((w64 (iv3+(2:Int))).toNat)).Low) zfX zeA zeB zfY)
def zxz (P0:Int→Nat→(Nat→Bool)→(Nat→Nat)→(Nat→List Int→Option (List Int))→Bool) (P1:Int→Int→Nat→(Nat→Bool)→(Nat→Nat)→(Nat→List Int→Option (List Int))→Bool) (P2:Int→Int→Int→Nat→(Nat→Bool)→(Nat→Nat)→(Nat→List Int→Option (List Int))→Bool) (zaa:(Sl Gate)) (iv3:Int) (pv3:Int) (qv3:Int) (zfX:Nat) (zeA:(Nat→Bool)) (zeB:(Nat→Nat)) (zfY:(Nat→List Int→Option (List Int))):Bool :=
  (decide ((0≤(w64 (iv3+(2:Int)))∧(w64 (iv3+(2:Int))) < (zaa.len:Int))) &&
 (zxx P0 P1 P2 zaa qv3 iv3 pv3 (-1:Int) ((zaa.get ((w64 (iv3+(2:Int))).toNat)).Low) zfX zeA zeB zfY))
theorem zFh (hX0:zqB K zaa X0 P0 S0) (hX1:ztY K zaa X1 P1 S1) (hX2:zxp K zaa X2 P2 S2) (hs:zxz P0 P1 P2 zaa iv3 pv3 qv3 zfX zeA zeB zfY=true) (hk:K (e93 (zxy S0 S1 S2 zaa iv3 pv3 qv3 zfX zeA zeB zfY))):z93 K [1,1,1,0,1,0,0,1,0,0,1,1,0,0,1,0,0,1,0,0,1,0,0,1] [X0,X1,X2] ⟨[(0,zS enc_55 3 zaa),(3,zI (zaa.len:Int)),(4,zv 15),(5,zI iv3),(6,zI pv3),(7,zI qv3)],[(15,.vm 129 8 131 3 (true,2,false,[some .i64]) zfX zeA zeB zfY)],[]⟩:=zax (by kernel_rfl) (zaw hs fun hc hs=>And.intro hc (zFg hX0 hX1 hX2 hs hk))
def zxA (S0:Int→Nat→(Nat→Bool)→(Nat→Nat)→(Nat→List Int→Option (List Int))→(Sl Mp)) (S1:Int→Int→Nat→(Nat→Bool)→(Nat→Nat)→(Nat→List Int→Option (List Int))→(Sl Mp)) (zaa:(Sl Gate)) (S2:Int→Int→Int→Nat→(Nat→Bool)→(Nat→Nat)→(Nat→List Int→Option (List Int))→(Sl Mp)) (iv2:Int) (pv2:Int) (qv2:Int) (zbr:Nat) (za4:(Nat→Bool)) (zaX:(Nat→Nat)) (zbj:(Nat→List Int→Option (List Int))):(Sl Mp) :=
  (cond (decide (qv2 ≤ (zaa.get ((w64 (iv2 + (1:Int))).toNat)).High))
 (cond (iv2 == (w64 ((zaa.len : Int) - (2:Int))))
 (S2 iv2 pv2 (w64 (qv2+(1:Int))) zbr za4 (zcR iv2.toNat (addN ((zbj iv2.toNat) [pv2,qv2]) (zaX iv2.toNat)) zaX) (zcR iv2.toNat (zle [pv2,qv2] [(0:Int)] (zbj iv2.toNat)) zbj))
 (zxy S0 S1 S2 zaa iv2 pv2 qv2 zbr za4 zaX zbj))
 (S1 iv2 (w64 (pv2+(1:Int))) zbr za4 zaX zbj))
def zxB (P0:Int→Nat→(Nat→Bool)→(Nat→Nat)→(Nat→List Int→Option (List Int))→Bool) (P1:Int→Int→Nat→(Nat→Bool)→(Nat→Nat)→(Nat→List Int→Option (List Int))→Bool) (zaa:(Sl Gate)) (P2:Int→Int→Int→Nat→(Nat→Bool)→(Nat→Nat)→(Nat→List Int→Option (List Int))→Bool) (iv2:Int) (pv2:Int) (qv2:Int) (zbr:Nat) (za4:(Nat→Bool)) (zaX:(Nat→Nat)) (zbj:(Nat→List Int→Option (List Int))):Bool :=
  (decide ((0≤(w64 (iv2+(1:Int)))∧(w64 (iv2+(1:Int))) < (zaa.len:Int))) &&
 (cond (decide (qv2 ≤ (zaa.get ((w64 (iv2 + (1:Int))).toNat)).High))
 (cond (iv2 == (w64 ((zaa.len : Int) - (2:Int))))
 (decide ((0≤iv2∧iv2 < (zbr:Int))) &&
 (decide ((iv2.toNat < zbr∧za4 iv2.toNat=true)) &&
 (decide ((iv2.toNat < zbr)) &&
 (P2 iv2 pv2 (w64 (qv2+(1:Int))) zbr za4 (zcR iv2.toNat (addN ((zbj iv2.toNat) [pv2,qv2]) (zaX iv2.toNat)) zaX) (zcR iv2.toNat (zle [pv2,qv2] [(0:Int)] (zbj iv2.toNat)) zbj)))))
 (zxz P0 P1 P2 zaa iv2 pv2 qv2 zbr za4 zaX zbj))
 (P1 iv2 (w64 (pv2+(1:Int))) zbr za4 zaX zbj)))
def zxC (S0:Int→Nat→(Nat→Bool)→(Nat→Nat)→(Nat→List Int→Option (List Int))→(Sl Mp)) (S1:Int→Int→Nat→(Nat→Bool)→(Nat→Nat)→(Nat→List Int→Option (List Int))→(Sl Mp)) (zaa:(Sl Gate)):Nat→Int→Int→Int→Nat→(Nat→Bool)→(Nat→Nat)→(Nat→List Int→Option (List Int))→(Sl Mp):=lpO (fun _ _ _ _ _ _ _=>default) (zxA S0 S1 zaa)
def zxD (P0:Int→Nat→(Nat→Bool)→(Nat→Nat)→(Nat→List Int→Option (List Int))→Bool) (P1:Int→Int→Nat→(Nat→Bool)→(Nat→Nat)→(Nat→List Int→Option (List Int))→Bool) (zaa:(Sl Gate)):Nat→Int→Int→Int→Nat→(Nat→Bool)→(Nat→Nat)→(Nat→List Int→Option (List Int))→Bool:=lpO (fun _ _ _ _ _ _ _=>false) (zxB P0 P1 zaa)
def zxE (S0:Int→Nat→(Nat→Bool)→(Nat→Nat)→(Nat→List Int→Option (List Int))→(Sl Mp)) (S1:Int→Int→Nat→(Nat→Bool)→(Nat→Nat)→(Nat→List Int→Option (List Int))→(Sl Mp)) (zaa:(Sl Gate)) (iv2:Int) (pv2:Int) (qv2:Int) (zbr:Nat) (za4:(Nat→Bool)) (zaX:(Nat→Nat)) (zbj:(Nat→List Int→Option (List Int))):(Sl Mp):=zxC S0 S1 zaa Fuel iv2 pv2 qv2 zbr za4 zaX zbj
def zxF (P0:Int→Nat→(Nat→Bool)→(Nat→Nat)→(Nat→List Int→Option (List Int))→Bool) (P1:Int→Int→Nat→(Nat→Bool)→(Nat→Nat)→(Nat→List Int→Option (List Int))→Bool) (zaa:(Sl Gate)) (iv2:Int) (pv2:Int) (qv2:Int) (zbr:Nat) (za4:(Nat→Bool)) (zaX:(Nat→Nat)) (zbj:(Nat→List Int→Option (List Int))):Bool:=zxD P0 P1 zaa Fuel iv2 pv2 qv2 zbr za4 zaX zbj
theorem zFi (hX0:zqB K zaa X0 P0 S0) (hX1:ztY K zaa X1 P1 S1) (hs:zxF P0 P1 zaa iv2 pv2 qv2 zbr za4 zaX zbj=true) (hk:K (e93 (zxE S0 S1 zaa iv2 pv2 qv2 zbr za4 zaX zbj))):z93 K [1,1,1,0,1,0,0,1,0,0,1,1,0,0,1,0,0,1,0] [X0,X1] (zCr zaa iv2 pv2 qv2 zbr za4 zaX zbj) :=
  zl (fun X=>z93 K [1,1,1,0,1,0,0,1,0,0,1,1,0,0,1,0,0,1,0,0] [X0,X1,X]) (by kernel_rfl) fun X2 hX =>
  (show ∀ k, zxp K zaa X2 (zxD P0 P1 zaa k) (zxC S0 S1 zaa k) from zfu _ _ (zxB P0 P1 zaa) (zxA S0 S1 zaa) (zxp K zaa X2)
 (by intro _ _ _ _ _ _ _ hs;exact absurd hs Bool.false_ne_true)
 (by intro P2 S2 hX2 iv2 pv2 qv2 zbr za4 zaX zbj hs hk;exact hX _ (zax (by kernel_rfl) (zaw hs fun hc hs=>And.intro hc (zc hs hk (fun hs hk=>(zc hs hk (fun hs hk=>(zaw hs fun hc hs=>And.intro hc (zaw hs fun hc hs=>And.intro hc (zaw hs fun hc hs=>And.intro hc (hX2 hs hk))))) (fun hs hk=>(zFh hX0 hX1 hX2 hs hk)))) (fun hs hk=>(hX1 hs hk))))))) _ hs hk
def zxG (S0:Int→Nat→(Nat→Bool)→(Nat→Nat)→(Nat→List Int→Option (List Int))→(Sl Mp)) (zaa:(Sl Gate)) (S1:Int→Int→Nat→(Nat→Bool)→(Nat→Nat)→(Nat→List Int→Option (List Int))→(Sl Mp)) (iv1:Int) (pv1:Int) (zbM:Nat) (zbp:(Nat→Bool)) (zbq:(Nat→Nat)) (zbN:(Nat→List Int→Option (List Int))):(Sl Mp) :=
  (cond (decide (pv1 ≤ (zaa.get iv1.toNat).High))
 (zxE S0 S1 zaa iv1 pv1 ((zaa.get ((w64 (iv1+(1:Int))).toNat)).Low) zbM zbp zbq zbN)
 (S0 (w64 (iv1 - (1:Int))) zbM zbp zbq zbN))
def zxH (P0:Int→Nat→(Nat→Bool)→(Nat→Nat)→(Nat→List Int→Option (List Int))→Bool) (zaa:(Sl Gate)) (P1:Int→Int→Nat→(Nat→Bool)→(Nat→Nat)→(Nat→List Int→Option (List Int))→Bool) (iv1:Int) (pv1:Int) (zbM:Nat) (zbp:(Nat→Bool)) (zbq:(Nat→Nat)) (zbN:(Nat→List Int→Option (List Int))):Bool :=
  (decide ((0≤iv1∧iv1 < (zaa.len:Int))) &&
 (cond (decide (pv1 ≤ (zaa.get iv1.toNat).High))
 (decide ((0≤(w64 (iv1+(1:Int)))∧(w64 (iv1+(1:Int))) < (zaa.len:Int))) &&
 (zxF P0 P1 zaa iv1 pv1 ((zaa.get ((w64 (iv1+(1:Int))).toNat)).Low) zbM zbp zbq zbN))
 (P0 (w64 (iv1 - (1:Int))) zbM zbp zbq zbN)))
def zxI (S0:Int→Nat→(Nat→Bool)→(Nat→Nat)→(Nat→List Int→Option (List Int))→(Sl Mp)) (zaa:(Sl Gate)):Nat→Int→Int→Nat→(Nat→Bool)→(Nat→Nat)→(Nat→List Int→Option (List Int))→(Sl Mp):=lpO (fun _ _ _ _ _ _=>default) (zxG S0 zaa)
def zxJ (P0:Int→Nat→(Nat→Bool)→(Nat→Nat)→(Nat→List Int→Option (List Int))→Bool) (zaa:(Sl Gate)):Nat→Int→Int→Nat→(Nat→Bool)→(Nat→Nat)→(Nat→List Int→Option (List Int))→Bool:=lpO (fun _ _ _ _ _ _=>false) (zxH P0 zaa)
def zxK (S0:Int→Nat→(Nat→Bool)→(Nat→Nat)→(Nat→List Int→Option (List Int))→(Sl Mp)) (zaa:(Sl Gate)) (iv1:Int) (pv1:Int) (zbM:Nat) (zbp:(Nat→Bool)) (zbq:(Nat→Nat)) (zbN:(Nat→List Int→Option (List Int))):(Sl Mp):=zxI S0 zaa Fuel iv1 pv1 zbM zbp zbq zbN
def zxL (P0:Int→Nat→(Nat→Bool)→(Nat→Nat)→(Nat→List Int→Option (List Int))→Bool) (zaa:(Sl Gate)) (iv1:Int) (pv1:Int) (zbM:Nat) (zbp:(Nat→Bool)) (zbq:(Nat→Nat)) (zbN:(Nat→List Int→Option (List Int))):Bool:=zxJ P0 zaa Fuel iv1 pv1 zbM zbp zbq zbN
theorem zFj (hX0:zqB K zaa X0 P0 S0) (hs:zxL P0 zaa iv1 pv1 zbM zbp zbq zbN=true) (hk:K (e93 (zxK S0 zaa iv1 pv1 zbM zbp zbq zbN))):z93 K [1,1,1,0,1,0,0,1,0,0,1,1,0] [X0] (zCq zaa iv1 pv1 zbM zbp zbq zbN) :=
  zl (fun X=>z93 K [1,1,1,0,1,0,0,1,0,0,1,1,0,0] [X0,X]) (by kernel_rfl) fun X1 hX =>
  (show ∀ k, ztY K zaa X1 (zxJ P0 zaa k) (zxI S0 zaa k) from zfu _ _ (zxH P0 zaa) (zxG S0 zaa) (ztY K zaa X1)
 (by intro _ _ _ _ _ _ hs;exact absurd hs Bool.false_ne_true)
 (by intro P1 S1 hX1 iv1 pv1 zbM zbp zbq zbN hs hk;exact hX _ (zax (by kernel_rfl) (zaw hs fun hc hs=>And.intro hc (zc hs hk (fun hs hk=>(zaw hs fun hc hs=>And.intro hc (zFi hX0 hX1 hs hk))) (fun hs hk=>(hX0 hs hk))))))) _ hs hk
def zxM (zaa:(Sl Gate)) (S0:Int→Nat→(Nat→Bool)→(Nat→Nat)→(Nat→List Int→Option (List Int))→(Sl Mp)) (iv0:Int) (zbF:Nat) (zby:(Nat→Bool)) (zbz:(Nat→Nat)) (zbU:(Nat→List Int→Option (List Int))):(Sl Mp) :=
  (cond (decide (iv0 ≥ (0:Int)))
 (zxK S0 zaa iv0 ((zaa.get iv0.toNat).Low) zbF (zcR iv0.toNat true zby) (zcR iv0.toNat 0 zbz) (zcR iv0.toNat (fun _=>none) zbU))
 (⟨zbF,(fun i=>(⟨zbz i,zbU i⟩:Mp))⟩:(Sl Mp)))
def zxN (zaa:(Sl Gate)) (P0:Int→Nat→(Nat→Bool)→(Nat→Nat)→(Nat→List Int→Option (List Int))→Bool) (iv0:Int) (zbF:Nat) (zby:(Nat→Bool)) (zbz:(Nat→Nat)) (zbU:(Nat→List Int→Option (List Int))):Bool :=
  (cond (decide (iv0 ≥ (0:Int)))
 (decide ((0≤iv0∧iv0 < (zbF:Int))) &&
 (decide ((iv0.toNat < zbF∧zby iv0.toNat=false)) &&
 (decide ((0≤iv0∧iv0 < (zaa.len:Int))) &&
 (zxL P0 zaa iv0 ((zaa.get iv0.toNat).Low) zbF (zcR iv0.toNat true zby) (zcR iv0.toNat 0 zbz) (zcR iv0.toNat (fun _=>none) zbU)))))
 true)
def zxO (zaa:(Sl Gate)):Nat→Int→Nat→(Nat→Bool)→(Nat→Nat)→(Nat→List Int→Option (List Int))→(Sl Mp):=lpO (fun _ _ _ _ _=>default) (zxM zaa)
def zxP (zaa:(Sl Gate)):Nat→Int→Nat→(Nat→Bool)→(Nat→Nat)→(Nat→List Int→Option (List Int))→Bool:=lpO (fun _ _ _ _ _=>false) (zxN zaa)
def zxQ (zaa:(Sl Gate)) (iv0:Int) (zbF:Nat) (zby:(Nat→Bool)) (zbz:(Nat→Nat)) (zbU:(Nat→List Int→Option (List Int))):(Sl Mp):=zxO zaa Fuel iv0 zbF zby zbz zbU
def zxR (zaa:(Sl Gate)) (iv0:Int) (zbF:Nat) (zby:(Nat→Bool)) (zbz:(Nat→Nat)) (zbU:(Nat→List Int→Option (List Int))):Bool:=zxP zaa Fuel iv0 zbF zby zbz zbU
theorem zFk (hs:zxR zaa iv0 zbF zby zbz zbU=true) (hk:K (e93 (zxQ zaa iv0 zbF zby zbz zbU))):z93 K [1,1,1,0,1,0] [] (zCp zaa iv0 zbF zby zbz zbU) :=
  zl (fun X=>z93 K [1,1,1,0,1,0,0] [X]) (by kernel_rfl) fun X0 hX =>
  (show ∀ k, zqB K zaa X0 (zxP zaa k) (zxO zaa k) from zfu _ _ (zxN zaa) (zxM zaa) (zqB K zaa X0)
 (by intro _ _ _ _ _ hs;exact absurd hs Bool.false_ne_true)
 (by intro P0 S0 hX0 iv0 zbF zby zbz zbU hs hk;exact hX _ (zax (by kernel_rfl) (zc hs hk (fun hs hk=>(zaw hs fun hc hs=>And.intro hc (zaw hs fun hc hs=>And.intro hc (zaw hs fun hc hs=>And.intro hc (zFj hX0 hs hk))))) (fun hs hk=>hk))))) _ hs hk
def s93 (zaa:(Sl Gate)):(Sl Mp) :=
  (zxQ zaa (w64 ((zaa.len:Int) - (2:Int))) ((w64 ((zaa.len:Int) - (1:Int))).toNat) (fun _=>false) (fun _=>0) (fun _ _=>none))
def p93 (zaa:(Sl Gate)):Bool :=
  (decide ((0≤(w64 ((zaa.len:Int) - (1:Int)))∧(w64 ((zaa.len:Int) - (1:Int)))=(w64 ((zaa.len:Int) - (1:Int)))∧(w64 ((zaa.len:Int) - (1:Int)))≤1000000)) &&
 (zxR zaa (w64 ((zaa.len:Int) - (2:Int))) ((w64 ((zaa.len:Int) - (1:Int))).toNat) (fun _=>false) (fun _=>0) (fun _ _=>none)))
end
theorem q93 (zaa:(Sl Gate)) (K:List PA→Prop) (hs:p93 zaa=true) (hk:K (e93 (s93 zaa))):vcFun Try.prog G93 zFd 93 [.one (.sl zaa.len 3 (fun i=>enc_55 (zaa.get i)))] K :=
  zax (by kernel_rfl) (zaw hs fun hc hs=>And.intro hc (zFk hs hk))
def zFl : List PA → COut
  | [.one (.sl a0_n a0_s a0_g)]=>.det (IsE enc_55 3 a0_s a0_g∧p93 (⟨a0_n,zad a0_g⟩:(Sl Gate))=true) [.one (.sl ((s93 (⟨a0_n,zad a0_g⟩:(Sl Gate))).len) 1 (fun i=>zcC ((s93 (⟨a0_n,zad a0_g⟩:(Sl Gate))).get i)))]
  | _=>.no
theorem zJK:zah Try.prog 93:=⟨_,rfl,rfl,by kernel_rfl⟩
theorem zPf:Ok Try.prog 93 zFl:=zaz zMg zJK fun args K h=>by
  unfold zFl at h
  split at h
  · rename_i a0_n a0_s a0_g
    obtain ⟨⟨⟨rfl,a0_f,rfl⟩,hs⟩,hk⟩:=h
    try rw [zac a0_f] at hs
    try rw [zac a0_f] at hk
    exact ⟨(fun _ _=>[]),(fun l=>Nat.beq l 15 || Nat.beq l 24),zFd,q93 (⟨a0_n,a0_f⟩:(Sl Gate)) K hs hk⟩
  · exact h.elim
def zNJ (a b:Int):List Int:=(List.range (b - a+1).toNat).map fun (i:Nat)=>a+i
def zoE (zaa:Sl Gate):List (List Int):=(zNJ (zaa.get 0).Low (zaa.get 0).High).flatMap fun p=>(zNJ (zaa.get 1).Low (zaa.get 1).High).map fun q=>[p,q]
abbrev T55:Tabs:=(((Tabs.nil.addF 85 zAZ).addF 92 zFc).addF 93 zFl)
theorem zMh:TabsOk Try.prog T55:=(((TabsOk.nil.addF zNI).addF zPe).addF zPf)
abbrev G55:Ctrs:=csm T55 (fun _ _=>[]) (fun _=>false)
def zaT:Ann:=⟨145,[(0,⟨[0],[],[],[],[],[],[]⟩),(1,⟨[0,18],[],[],[],[],[],[]⟩),(2,⟨[2,3,4],[],[],[],[],[],[]⟩),(3,⟨[0,5],[],[],[],[],[],[]⟩),(4,⟨[0,5,6],[],[],[],[],[],[]⟩),(5,⟨[0,5,6,24],[24],[],[],[],[],[]⟩),(6,⟨[0,5,6,24,26],[24],[],[],[],[],[]⟩),(7,⟨[0,5,6,8,24],[24],[],[],[],[],[]⟩),(8,⟨[0,5,6,8,24,35],[24],[],[],[],[],[]⟩),(9,⟨[0,5,6,24],[24],[],[],[],[],[]⟩),(10,⟨[0,5,6,9],[],[],[],[],[],[]⟩),(11,⟨[0,5,6,9,10],[],[],[],[],[],[]⟩),(12,⟨[0,5,6,9,10,46],[],[],[],[],[],[]⟩),(13,⟨[0,5,6,9,10],[],[],[],[],[],[]⟩),(14,⟨[0,5,6,9,10,11],[],[],[],[],[],[]⟩),(15,⟨[0,5,6,9,10,11,58],[],[],[],[],[],[]⟩),(16,⟨[0,5,6,9,10,11],[],[],[],[],[],[]⟩),(17,⟨[0,5,6,9,10,11,69],[],[],[],[],[],[]⟩),(18,⟨[0,5,6,9],[72],[],[],[],[],[]⟩),(19,⟨[0,5,6,9,12],[72],[],[],[],[],[]⟩),(20,⟨[0,5,6,9,12,76],[72],[],[],[],[],[]⟩),(21,⟨[0,5,6,9,12],[72],[],[],[],[],[]⟩),(22,⟨[0,5,6,9,12,13,14],[72],[],[],[],[],[]⟩),(23,⟨[0,5,6,9,12,13,14,15],[72],[],[],[],[],[]⟩),(24,⟨[0,5,6,9,12,13,14,15,100],[72],[],[],[],[],[]⟩),(25,⟨[0,5,6,9,12,13,14,15],[72],[],[],[],[],[]⟩),(26,⟨[0,5,6,9,12,13,14,15,138],[72],[],[],[],[],[]⟩),(27,⟨[0,5,6,9,12],[72],[],[],[],[],[]⟩),(28,⟨[2,3,4],[72],[],[],[],[],[]⟩)],
 [(6,⟨[0,5,6,24],[24],[],[],[],[],[]⟩),(12,⟨[0,5,6,9,10],[],[],[],[],[],[]⟩),(15,⟨[0,5,6,9,10,11],[],[],[],[],[],[]⟩),(20,⟨[0,5,6,9,12],[72],[],[],[],[],[]⟩),(24,⟨[0,5,6,9,12,13,14,15],[72],[],[],[],[],[]⟩)],
 [(2,⟨[0,18],[],[],[],[],[],[]⟩),(3,⟨[0],[],[],[],[],[],[]⟩),(4,⟨[0,5],[],[],[],[],[],[]⟩),(10,⟨[0,5,6],[],[],[],[],[],[]⟩),(19,⟨[0,5,6,9],[72],[(9,72,3,fun _=>zaj default)],[],[],[],[]⟩),(27,⟨[0,5,6,9,12,13,14,15,138],[72],[],[],[],[],[]⟩)],
 [],[]⟩
def zJL (zaa:(Sl Gate)) (zfZ:Bool):St:=⟨[(0,.one (.c (.p (.sl zaa.len 3 (fun i=>enc_55 (zaa.get i)))))),(18,.one (.c (.p (.bool zfZ))))],[],[]⟩
def zmY (K:List PA→Prop) (zaa:(Sl Gate)) (zfZ:Bool):Prop:=vc Try.prog G55 zaT (cdF Try.f55 [1,0,0,1]) (sqK Try.prog G55 zaT (cdF Try.f55 [1,0,1]) (zb8 (zco Try.prog Try.f55 K))) (zJL zaa zfZ)
def zJM (zaa:(Sl Gate)):St:=⟨[(0,.one (.c (.p (.sl zaa.len 3 (fun i=>enc_55 (zaa.get i))))))],[],[]⟩
def zmZ (K:List PA→Prop) (zaa:(Sl Gate)):Prop:=vc Try.prog G55 zaT (cdF Try.f55 [1,0,1]) (zb8 (zco Try.prog Try.f55 K)) (zJM zaa)
def zJN (zaa:(Sl Gate)) (zjV:Nat) (zed:Nat→List PV):St:=⟨[(0,.one (.c (.p (.sl zaa.len 3 (fun i=>enc_55 (zaa.get i)))))),(5,.one (.c (.p (.sl zjV 1 zed))))],[],[]⟩
def zm0 (K:List PA→Prop) (zaa:(Sl Gate)) (zjV:Nat) (zed:Nat→List PV):Prop:=vc Try.prog G55 zaT (cdF Try.f55 [1,0,1,1]) (zb8 (zco Try.prog Try.f55 K)) (zJN zaa zjV zed)
def zgF (zaa:(Sl Gate)) (zab:(Sl Mp)) (zba:(List (List Int))) (zaB:Int):St:=⟨[(0,.one (.c (.p (.sl zaa.len 3 (fun i=>enc_55 (zaa.get i)))))),(5,.one (.c (.p (.sl zab.len 1 (fun i=>zcC (zab.get i)))))),(6,.one (.c (.p (.int .i64 zaB)))),(24,.one (.c (.ptr 24 0)))],[(24,.mit (true,2,false,[some .i64]) ((zab.get 0).n) ((zab.get 0).F) zba)],[]⟩
def zjW (K:List PA→Prop) (zaa:(Sl Gate)) (zab:(Sl Mp)) (zba:(List (List Int))) (zaB:Int):Prop:=vc Try.prog G55 zaT (cdF Try.f55 [1,0,1,1,1,0,1,0]) (zaY 0 (sqK Try.prog G55 zaT (cdF Try.f55 [1,0,1,1,1,1]) (zb8 (zco Try.prog Try.f55 K)))) (zgF zaa zab zba zaB)
def zJO (zaa:(Sl Gate)) (zab:(Sl Mp)) (zdb:Int):St:=⟨[(0,.one (.c (.p (.sl zaa.len 3 (fun i=>enc_55 (zaa.get i)))))),(5,.one (.c (.p (.sl zab.len 1 (fun i=>zcC (zab.get i)))))),(6,.one (.c (.p (.int .i64 zdb))))],[],[]⟩
def zm1 (K:List PA→Prop) (zaa:(Sl Gate)) (zab:(Sl Mp)) (zdb:Int):Prop:=vc Try.prog G55 zaT (cdF Try.f55 [1,0,1,1,1,1]) (zb8 (zco Try.prog Try.f55 K)) (zJO zaa zab zdb)
def zin (zaa:(Sl Gate)) (zab:(Sl Mp)) (zaM:Int) (pv5:Int):St:=⟨[(0,.one (.c (.p (.sl zaa.len 3 (fun i=>enc_55 (zaa.get i)))))),(5,.one (.c (.p (.sl zab.len 1 (fun i=>zcC (zab.get i)))))),(6,.one (.c (.p (.int .i64 zaM)))),(9,.one (.c (.p (.nils)))),(10,.one (.c (.p (.int .i64 pv5))))],[],[]⟩
def zjX (K:List PA→Prop) (zaa:(Sl Gate)) (zab:(Sl Mp)) (zaM:Int) (pv5:Int):Prop:=vc Try.prog G55 zaT (cdF Try.f55 [1,0,1,1,1,1,1,1,0,1,0]) (zaY 2 (sqK Try.prog G55 zaT (cdF Try.f55 [1,0,1,1,1,1,1,1,1]) (zb8 (zco Try.prog Try.f55 K)))) (zin zaa zab zaM pv5)
def zjY (zaa:(Sl Gate)) (zab:(Sl Mp)) (zaH:Int) (pv6:Int) (qv6:Int):St:=⟨[(0,.one (.c (.p (.sl zaa.len 3 (fun i=>enc_55 (zaa.get i)))))),(5,.one (.c (.p (.sl zab.len 1 (fun i=>zcC (zab.get i)))))),(6,.one (.c (.p (.int .i64 zaH)))),(9,.one (.c (.p (.nils)))),(10,.one (.c (.p (.int .i64 pv6)))),(11,.one (.c (.p (.int .i64 qv6))))],[],[]⟩
def zjZ (K:List PA→Prop) (X5:St→Prop) (zaa:(Sl Gate)) (zab:(Sl Mp)) (zaH:Int) (pv6:Int) (qv6:Int):Prop:=vc Try.prog G55 zaT (cdF Try.f55 [1,0,1,1,1,1,1,1,0,1,0,0,1,0,0,1,0]) (zaY 4 (zaY 3 (sqK Try.prog G55 zaT (cdF Try.f55 [1,0,1,1,1,1,1,1,0,1,0,0,1,1]) (zdO Try.prog zaT 12 X5 (zaY 2 (sqK Try.prog G55 zaT (cdF Try.f55 [1,0,1,1,1,1,1,1,1]) (zb8 (zco Try.prog Try.f55 K)))))))) (zjY zaa zab zaH pv6 qv6)
def zJP (zaa:(Sl Gate)) (zab:(Sl Mp)) (zdc:Int) (zqC:Nat) (zhB:Nat→List PV):St:=⟨[(0,.one (.c (.p (.sl zaa.len 3 (fun i=>enc_55 (zaa.get i)))))),(5,.one (.c (.p (.sl zab.len 1 (fun i=>zcC (zab.get i)))))),(6,.one (.c (.p (.int .i64 zdc)))),(9,.one (.c (.vec 72)))],[(72,.vec 3 1 8 zqC zhB)],[]⟩
def zj0 (K:List PA→Prop) (zaa:(Sl Gate)) (zab:(Sl Mp)) (zdc:Int) (zqC:Nat) (zhB:Nat→List PV):Prop:=vc Try.prog G55 zaT (cdF Try.f55 [1,0,1,1,1,1,1,1,1]) (zb8 (zco Try.prog Try.f55 K)) (zJP zaa zab zdc zqC zhB)
def zfB (zaa:(Sl Gate)) (zab:(Sl Mp)) (zaJ:Int) (iv8:Int) (ze8:Nat) (zbA:Nat→List PV):St:=⟨[(0,.one (.c (.p (.sl zaa.len 3 (fun i=>enc_55 (zaa.get i)))))),(5,.one (.c (.p (.sl zab.len 1 (fun i=>zcC (zab.get i)))))),(6,.one (.c (.p (.int .i64 zaJ)))),(9,.one (.c (.vec 72))),(12,.one (.c (.p (.int .i64 iv8))))],[(72,.vec 3 1 8 ze8 zbA)],[]⟩
def zj1 (K:List PA→Prop) (zaa:(Sl Gate)) (zab:(Sl Mp)) (zaJ:Int) (iv8:Int) (ze8:Nat) (zbA:Nat→List PV):Prop:=vc Try.prog G55 zaT (cdF Try.f55 [1,0,1,1,1,1,1,1,1,0,1,0]) (zaY 6 (sqK Try.prog G55 zaT (cdF Try.f55 [1,0,1,1,1,1,1,1,1,1]) (zb8 (zco Try.prog Try.f55 K)))) (zfB zaa zab zaJ iv8 ze8 zbA)
def zio (zaa:(Sl Gate)) (zab:(Sl Mp)) (zay:Int) (iv9:Int) (pv9:Int) (qv9:Int) (rv9:Int) (ze9:Nat) (zbG:Nat→List PV):St:=⟨[(0,.one (.c (.p (.sl zaa.len 3 (fun i=>enc_55 (zaa.get i)))))),(5,.one (.c (.p (.sl zab.len 1 (fun i=>zcC (zab.get i)))))),(6,.one (.c (.p (.int .i64 zay)))),(9,.one (.c (.vec 72))),(12,.one (.c (.p (.int .i64 iv9)))),(13,.one (.c (.p (.int .i64 pv9)))),(14,.one (.c (.p (.int .i64 qv9)))),(15,.one (.c (.p (.int .i64 rv9))))],[(72,.vec 3 1 8 ze9 zbG)],[]⟩
def zj2 (K:List PA→Prop) (X8:St→Prop) (zaa:(Sl Gate)) (zab:(Sl Mp)) (zay:Int) (iv9:Int) (pv9:Int) (qv9:Int) (rv9:Int) (ze9:Nat) (zbG:Nat→List PV):Prop:=vc Try.prog G55 zaT (cdF Try.f55 [1,0,1,1,1,1,1,1,1,0,1,0,0,1,0,0,1,1,0]) (zaY 8 (zaY 7 (sqK Try.prog G55 zaT (cdF Try.f55 [1,0,1,1,1,1,1,1,1,0,1,0,0,1,1]) (zdO Try.prog zaT 20 X8 (zaY 6 (sqK Try.prog G55 zaT (cdF Try.f55 [1,0,1,1,1,1,1,1,1,1]) (zb8 (zco Try.prog Try.f55 K)))))))) (zio zaa zab zay iv9 pv9 qv9 rv9 ze9 zbG)
def zFm (zaa:(Sl Gate)) (zab:(Sl Mp)) (zbO:Int) (zgR:Int) (zoY:Int) (zoZ:Int) (zk2:Int) (zct:Bool) (zm2:Nat) (zfq:Nat→List PV):St:=⟨[(0,.one (.c (.p (.sl zaa.len 3 (fun i=>enc_55 (zaa.get i)))))),(5,.one (.c (.p (.sl zab.len 1 (fun i=>zcC (zab.get i)))))),(6,.one (.c (.p (.int .i64 zbO)))),(9,.one (.c (.vec 72))),(12,.one (.c (.p (.int .i64 zgR)))),(13,.one (.c (.p (.int .i64 zoY)))),(14,.one (.c (.p (.int .i64 zoZ)))),(15,.one (.c (.p (.int .i64 zk2)))),(138,.one (.c (.p (.bool zct))))],[(72,.vec 3 1 8 zm2 zfq)],[]⟩
def zgG (K:List PA→Prop) (X8:St→Prop) (X9:St→Prop) (zaa:(Sl Gate)) (zab:(Sl Mp)) (zbO:Int) (zgR:Int) (zoY:Int) (zoZ:Int) (zk2:Int) (zct:Bool) (zm2:Nat) (zfq:Nat→List PV):Prop:=vc Try.prog G55 zaT (cdF Try.f55 [1,0,1,1,1,1,1,1,1,0,1,0,0,1,0,0,1,1,0,0,1,0,0,1]) (zaY 9 (sqK Try.prog G55 zaT (cdF Try.f55 [1,0,1,1,1,1,1,1,1,0,1,0,0,1,0,0,1,1,0,0,1,1]) (zdO Try.prog zaT 24 X9 (zaY 8 (zaY 7 (sqK Try.prog G55 zaT (cdF Try.f55 [1,0,1,1,1,1,1,1,1,0,1,0,0,1,1]) (zdO Try.prog zaT 20 X8 (zaY 6 (sqK Try.prog G55 zaT (cdF Try.f55 [1,0,1,1,1,1,1,1,1,1]) (zb8 (zco Try.prog Try.f55 K))))))))))) (zFm zaa zab zbO zgR zoY zoZ zk2 zct zm2 zfq)
theorem zFn (zaa : (Sl Gate)) (K : List PA → Prop) :
  vcFun Try.prog G55 zaT 55 [.one (.sl zaa.len 3 (fun i=>enc_55 (zaa.get i)))] K =
  ((IsE enc_55 3 3 (fun i=>enc_55 (zaa.get i))∧(p92 zaa=true)) ∧
 (zmY K zaa (!(s92 zaa)))):=by kernel_rfl
theorem zFo (K : List PA → Prop) (zaa : (Sl Gate)) (zfZ : Bool) :
  zmY K zaa zfZ =
  (zcL zfZ
 (K [.one (.nils),.one (.int .i64 (0:Int)),.one (.int .i64 (2:Int))])
 (zmZ K zaa)):=by kernel_rfl
theorem zFp (K : List PA → Prop) (zaa : (Sl Gate)) :
  zmZ K zaa =
  ((IsE enc_55 3 3 (fun i=>enc_55 (zaa.get i))∧(p93 zaa=true)) ∧
 (zm0 K zaa ((s93 zaa).len) (fun i=>zcC ((s93 zaa).get i)))):=by kernel_rfl
theorem zFq (K : List PA → Prop) (zaa : (Sl Gate)) (zab : (Sl Mp)) :
  zm0 K zaa zab.len (fun i=>zcC (zab.get i)) =
  (((0≤(0:Int)∧(0:Int) < (zab.len:Int))) ∧
 (zjW K zaa zab ([]) (-1:Int))):=by kernel_rfl
def zoF (K:List PA→Prop) (X3:St→Prop) (zaa:(Sl Gate)) (zab:(Sl Mp)) (zba:(List (List Int))) (zaB:Int):Prop :=
  (zHQ 2 ((zab.get 0).n) ((zab.get 0).F) →
 ((∀ c:List Int,c.length=2→((zab.get 0).F) c ≠ none→c∈zba) →
 (zm1 K zaa zab zaB))∧∀ k24_0 k24_1:Int,((zab.get 0).F) [k24_0,k24_1] ≠ none→[k24_0,k24_1] ∉ zba →
 (zcL (decide (zaB < (0:Int)))
 (X3 (zgF zaa zab ([k24_0,k24_1] :: zba) (zdI (((zab.get 0).F) [k24_0,k24_1]) 0)))
 (zcL (decide ((zdI (((zab.get 0).F) [k24_0, k24_1]) 0) < zaB))
 (X3 (zgF zaa zab ([k24_0,k24_1] :: zba) (zdI (((zab.get 0).F) [k24_0,k24_1]) 0)))
 (X3 (zgF zaa zab ([k24_0,k24_1] :: zba) zaB)))))
theorem zqD (K : List PA → Prop) (X3 : St → Prop) (zaa : (Sl Gate)) (zab : (Sl Mp)) (zba : (List (List Int))) (zaB : Int) :
  vc Try.prog G55 zaT (cd (cdF Try.f55 [1,0,1,1,1,0,1,0]) [0]) (zdO Try.prog zaT 6 X3 (zaY 0 (sqK Try.prog G55 zaT (cdF Try.f55 [1,0,1,1,1,1]) (zb8 (zco Try.prog Try.f55 K))))) (zgF zaa zab zba zaB) =
  zoF K X3 zaa zab zba zaB:=by kernel_rfl
theorem zxS (K : List PA → Prop) (zaa : (Sl Gate)) (zab : (Sl Mp)) (zba : (List (List Int))) (zaB : Int)
  (h:∀ X3:St→Prop,(∀ (zba:(List (List Int))) (zaB:Int),zoF K X3 zaa zab zba zaB→X3 (zgF zaa zab zba zaB))→X3 (zgF zaa zab zba zaB)) :
  zjW K zaa zab zba zaB:=by
  have e:zjW K zaa zab zba zaB=(∀ X:St→Prop,(∀ s,vc Try.prog G55 zaT (cd (cdF Try.f55 [1,0,1,1,1,0,1,0]) [0]) (zdO Try.prog zaT 6 X (zaY 0 (sqK Try.prog G55 zaT (cdF Try.f55 [1,0,1,1,1,1]) (zb8 (zco Try.prog Try.f55 K))))) s→X s)→X (zgF zaa zab zba zaB)):=by kernel_rfl
  refine zax e ?_
  intro X hX
  refine h X ?_
  intro zba zaB hs
  refine hX _ ?_
  have e2:=zqD K X zaa zab zba zaB
  rw [e2]
  exact hs
theorem zFr (K : List PA → Prop) (zaa : (Sl Gate)) (zab : (Sl Mp)) (zdb : Int) :
  zm1 K zaa zab zdb =
  (((0≤(0:Int)∧(0:Int) < (zaa.len:Int))) ∧
 (zjX K zaa zab zdb ((zaa.get 0).Low))):=by kernel_rfl
def zoG (K:List PA→Prop) (X5:St→Prop) (zaa:(Sl Gate)) (zab:(Sl Mp)) (zaM:Int) (pv5:Int):Prop :=
  (((0≤(0:Int)∧(0:Int) < (zaa.len:Int))) ∧
 (zcL (decide (pv5 ≤ (zaa.get 0).High))
 (((0≤(1:Int)∧(1:Int) < (zaa.len:Int))) ∧
 (zjZ K X5 zaa zab zaM pv5 ((zaa.get 1).Low)))
 (zj0 K zaa zab zaM 0 (fun i=>zaj ((fun _=>default) i)))))
theorem zqE (K : List PA → Prop) (X5 : St → Prop) (zaa : (Sl Gate)) (zab : (Sl Mp)) (zaM : Int) (pv5 : Int) :
  vc Try.prog G55 zaT (cd (cdF Try.f55 [1,0,1,1,1,1,1,1,0,1,0]) [0]) (zdO Try.prog zaT 12 X5 (zaY 2 (sqK Try.prog G55 zaT (cdF Try.f55 [1,0,1,1,1,1,1,1,1]) (zb8 (zco Try.prog Try.f55 K))))) (zin zaa zab zaM pv5) =
  zoG K X5 zaa zab zaM pv5:=by kernel_rfl
theorem zxT (K : List PA → Prop) (zaa : (Sl Gate)) (zab : (Sl Mp)) (zaM : Int) (pv5 : Int)
  (h:∀ X5:St→Prop,(∀ (zaM:Int) (pv5:Int),zoG K X5 zaa zab zaM pv5→X5 (zin zaa zab zaM pv5))→X5 (zin zaa zab zaM pv5)) :
  zjX K zaa zab zaM pv5:=by
  have e:zjX K zaa zab zaM pv5=(∀ X:St→Prop,(∀ s,vc Try.prog G55 zaT (cd (cdF Try.f55 [1,0,1,1,1,1,1,1,0,1,0]) [0]) (zdO Try.prog zaT 12 X (zaY 2 (sqK Try.prog G55 zaT (cdF Try.f55 [1,0,1,1,1,1,1,1,1]) (zb8 (zco Try.prog Try.f55 K))))) s→X s)→X (zin zaa zab zaM pv5)):=by kernel_rfl
  refine zax e ?_
  intro X hX
  refine h X ?_
  intro zaM pv5 hs
  refine hX _ ?_
  have e2:=zqE K X zaa zab zaM pv5
  rw [e2]
  exact hs
def zoH (K:List PA→Prop) (X5:St→Prop) (X6:St→Prop) (zaa:(Sl Gate)) (zab:(Sl Mp)) (zaH:Int) (pv6:Int) (qv6:Int):Prop :=
  (((0≤(1:Int)∧(1:Int) < (zaa.len:Int))) ∧
 (zcL (decide (qv6 ≤ (zaa.get 1).High))
 (((0≤(0:Int)∧(0:Int) < (zab.len:Int))) ∧
 (zcL ((zdI (((zab.get 0).F) [pv6, qv6]) 0) == zaH)
 (zj0 K zaa zab zaH 2 (zcn [(zaj pv6),(zaj qv6)]))
 (X6 (zjY zaa zab zaH pv6 (w64 (qv6+(1:Int)))))))
 (X5 (zin zaa zab zaH (w64 (pv6+(1:Int)))))))
theorem zqF (K : List PA → Prop) (X5 : St → Prop) (X6 : St → Prop) (zaa : (Sl Gate)) (zab : (Sl Mp)) (zaH : Int) (pv6 : Int) (qv6 : Int) :
  vc Try.prog G55 zaT (cd (cdF Try.f55 [1,0,1,1,1,1,1,1,0,1,0,0,1,0,0,1,0]) [0]) (zdO Try.prog zaT 15 X6 (zaY 4 (zaY 3 (sqK Try.prog G55 zaT (cdF Try.f55 [1,0,1,1,1,1,1,1,0,1,0,0,1,1]) (zdO Try.prog zaT 12 X5 (zaY 2 (sqK Try.prog G55 zaT (cdF Try.f55 [1,0,1,1,1,1,1,1,1]) (zb8 (zco Try.prog Try.f55 K))))))))) (zjY zaa zab zaH pv6 qv6) =
  zoH K X5 X6 zaa zab zaH pv6 qv6:=by kernel_rfl
theorem zxU (K : List PA → Prop) (X5 : St → Prop) (zaa : (Sl Gate)) (zab : (Sl Mp)) (zaH : Int) (pv6 : Int) (qv6 : Int)
  (h:∀ X6:St→Prop,(∀ (zaH:Int) (pv6:Int) (qv6:Int),zoH K X5 X6 zaa zab zaH pv6 qv6→X6 (zjY zaa zab zaH pv6 qv6))→X6 (zjY zaa zab zaH pv6 qv6)) :
  zjZ K X5 zaa zab zaH pv6 qv6:=by
  have e:zjZ K X5 zaa zab zaH pv6 qv6=(∀ X:St→Prop,(∀ s,vc Try.prog G55 zaT (cd (cdF Try.f55 [1,0,1,1,1,1,1,1,0,1,0,0,1,0,0,1,0]) [0]) (zdO Try.prog zaT 15 X (zaY 4 (zaY 3 (sqK Try.prog G55 zaT (cdF Try.f55 [1,0,1,1,1,1,1,1,0,1,0,0,1,1]) (zdO Try.prog zaT 12 X5 (zaY 2 (sqK Try.prog G55 zaT (cdF Try.f55 [1,0,1,1,1,1,1,1,1]) (zb8 (zco Try.prog Try.f55 K))))))))) s→X s)→X (zjY zaa zab zaH pv6 qv6)):=by kernel_rfl
  refine zax e ?_
  intro X hX
  refine h X ?_
  intro zaH pv6 qv6 hs
  refine hX _ ?_
  have e2:=zqF K X5 X zaa zab zaH pv6 qv6
  rw [e2]
  exact hs
theorem zFs (K : List PA → Prop) (zaa : (Sl Gate)) (zab : (Sl Mp)) (zdc : Int) (zfv : (Sl Int)) :
  zj0 K zaa zab zdc zfv.len (fun i=>zaj (zfv.get i)) =
  (zj1 K zaa zab zdc (2:Int) zfv.len (fun i=>zaj (zfv.get i))):=by kernel_rfl
def zoI (K:List PA→Prop) (X8:St→Prop) (zaa:(Sl Gate)) (zab:(Sl Mp)) (zaJ:Int) (iv8:Int) (zaS:(Sl Int)):Prop :=
  (zcL (decide (iv8 < (zaa.len : Int)))
 (((0≤(w64 (iv8 - (2:Int)))∧(w64 (iv8 - (2:Int))) < (zaS.len:Int))) ∧
 ((((w64 (iv8 - (2:Int))).toNat < zaS.len)) ∧
 (((0≤(w64 (iv8 - (1:Int)))∧(w64 (iv8 - (1:Int))) < (zaS.len:Int))) ∧
 ((((w64 (iv8 - (1:Int))).toNat < zaS.len)) ∧
 (((0≤iv8∧iv8 < (zaa.len:Int))) ∧
 (zj2 K X8 zaa zab zaJ iv8 (zaS.get ((w64 (iv8 - (2:Int))).toNat)) (zaS.get ((w64 (iv8 - (1:Int))).toNat)) ((zaa.get iv8.toNat).Low) zaS.len (fun i=>zaj (zaS.get i))))))))
 (K [.one (.sl zaS.len 1 (fun i=>zaj (zaS.get i))),.one (.int .i64 zaJ),.one (.int .i64 (0:Int))]))
theorem zqG (K : List PA → Prop) (X8 : St → Prop) (zaa : (Sl Gate)) (zab : (Sl Mp)) (zaJ : Int) (iv8 : Int) (zaS : (Sl Int)) :
  vc Try.prog G55 zaT (cd (cdF Try.f55 [1,0,1,1,1,1,1,1,1,0,1,0]) [0]) (zdO Try.prog zaT 20 X8 (zaY 6 (sqK Try.prog G55 zaT (cdF Try.f55 [1,0,1,1,1,1,1,1,1,1]) (zb8 (zco Try.prog Try.f55 K))))) (zfB zaa zab zaJ iv8 zaS.len (fun i=>zaj (zaS.get i))) =
  zoI K X8 zaa zab zaJ iv8 zaS:=by kernel_rfl
theorem zxV (K : List PA → Prop) (zaa : (Sl Gate)) (zab : (Sl Mp)) (zaJ : Int) (iv8 : Int) (ze8 : Nat) (zbA : Nat → List PV)
  (h:∀ X8:St→Prop,(∀ (zaJ:Int) (iv8:Int) (zaS:(Sl Int)),zoI K X8 zaa zab zaJ iv8 zaS→X8 (zfB zaa zab zaJ iv8 zaS.len (fun i=>zaj (zaS.get i))))→X8 (zfB zaa zab zaJ iv8 ze8 zbA)) :
  zj1 K zaa zab zaJ iv8 ze8 zbA:=by
  have e:zj1 K zaa zab zaJ iv8 ze8 zbA=(∀ X:St→Prop,(∀ s,vc Try.prog G55 zaT (cd (cdF Try.f55 [1,0,1,1,1,1,1,1,1,0,1,0]) [0]) (zdO Try.prog zaT 20 X (zaY 6 (sqK Try.prog G55 zaT (cdF Try.f55 [1,0,1,1,1,1,1,1,1,1]) (zb8 (zco Try.prog Try.f55 K))))) s→X s)→X (zfB zaa zab zaJ iv8 ze8 zbA)):=by kernel_rfl
  refine zax e ?_
  intro X hX
  refine h X ?_
  intro zaJ iv8 zaS hs
  refine hX _ ?_
  have e2:=zqG K X zaa zab zaJ iv8 zaS
  rw [e2]
  exact hs
def zoJ (K:List PA→Prop) (X8:St→Prop) (X9:St→Prop) (zaa:(Sl Gate)) (zab:(Sl Mp)) (zay:Int) (iv9:Int) (pv9:Int) (qv9:Int) (rv9:Int) (zbd:(Sl Int)):Prop :=
  (((0≤iv9∧iv9 < (zaa.len:Int))) ∧
 (zcL (decide (rv9 ≤ (zaa.get iv9.toNat).High))
 (((0≤(w64 (iv9 - (2:Int)))∧(w64 (iv9 - (2:Int))) < (zaa.len:Int))) ∧
 (((0≤(w64 (iv9 - (1:Int)))∧(w64 (iv9 - (1:Int))) < (zaa.len:Int))) ∧
 (((0≤iv9∧iv9 < (zaa.len:Int))) ∧
 (((p85 ((zaa.get ((w64 (iv9 - (2:Int))).toNat)).Z) ((zaa.get ((w64 (iv9 - (1:Int))).toNat)).Z) ((zaa.get iv9.toNat).Z) pv9 qv9 rv9=true)) ∧
 (zcL (decide ((s85 ((zaa.get ((w64 (iv9 - (2:Int))).toNat)).Z) ((zaa.get ((w64 (iv9 - (1:Int))).toNat)).Z) ((zaa.get iv9.toNat).Z) pv9 qv9 rv9) ≤ zay))
 (((0≤(w64 (iv9 - (1:Int)))∧(w64 (iv9 - (1:Int))) < (zab.len:Int))) ∧
 (zgG K X8 X9 zaa zab zay iv9 pv9 qv9 rv9 (decide ((zdI (((zab.get ((w64 (iv9 - (1:Int))).toNat)).F) [qv9,rv9]) 0)≤zay)) zbd.len (fun i=>zaj (zbd.get i))))
 (zgG K X8 X9 zaa zab zay iv9 pv9 qv9 rv9 false zbd.len (fun i=>zaj (zbd.get i))))))))
 (X8 (zfB zaa zab zay (w64 (iv9+(1:Int))) zbd.len (fun i=>zaj (zbd.get i))))))
theorem zqH (K : List PA → Prop) (X8 : St → Prop) (X9 : St → Prop) (zaa : (Sl Gate)) (zab : (Sl Mp)) (zay : Int) (iv9 : Int) (pv9 : Int) (qv9 : Int) (rv9 : Int) (zbd : (Sl Int)) :
  vc Try.prog G55 zaT (cd (cdF Try.f55 [1,0,1,1,1,1,1,1,1,0,1,0,0,1,0,0,1,1,0]) [0]) (zdO Try.prog zaT 24 X9 (zaY 8 (zaY 7 (sqK Try.prog G55 zaT (cdF Try.f55 [1,0,1,1,1,1,1,1,1,0,1,0,0,1,1]) (zdO Try.prog zaT 20 X8 (zaY 6 (sqK Try.prog G55 zaT (cdF Try.f55 [1,0,1,1,1,1,1,1,1,1]) (zb8 (zco Try.prog Try.f55 K))))))))) (zio zaa zab zay iv9 pv9 qv9 rv9 zbd.len (fun i=>zaj (zbd.get i))) =
  zoJ K X8 X9 zaa zab zay iv9 pv9 qv9 rv9 zbd:=by kernel_rfl
theorem zxW (K : List PA → Prop) (X8 : St → Prop) (zaa : (Sl Gate)) (zab : (Sl Mp)) (zay : Int) (iv9 : Int) (pv9 : Int) (qv9 : Int) (rv9 : Int) (ze9 : Nat) (zbG : Nat → List PV)
  (h:∀ X9:St→Prop,(∀ (zay:Int) (iv9:Int) (pv9:Int) (qv9:Int) (rv9:Int) (zbd:(Sl Int)),zoJ K X8 X9 zaa zab zay iv9 pv9 qv9 rv9 zbd→X9 (zio zaa zab zay iv9 pv9 qv9 rv9 zbd.len (fun i=>zaj (zbd.get i))))→X9 (zio zaa zab zay iv9 pv9 qv9 rv9 ze9 zbG)) :
  zj2 K X8 zaa zab zay iv9 pv9 qv9 rv9 ze9 zbG:=by
  have e:zj2 K X8 zaa zab zay iv9 pv9 qv9 rv9 ze9 zbG=(∀ X:St→Prop,(∀ s,vc Try.prog G55 zaT (cd (cdF Try.f55 [1,0,1,1,1,1,1,1,1,0,1,0,0,1,0,0,1,1,0]) [0]) (zdO Try.prog zaT 24 X (zaY 8 (zaY 7 (sqK Try.prog G55 zaT (cdF Try.f55 [1,0,1,1,1,1,1,1,1,0,1,0,0,1,1]) (zdO Try.prog zaT 20 X8 (zaY 6 (sqK Try.prog G55 zaT (cdF Try.f55 [1,0,1,1,1,1,1,1,1,1]) (zb8 (zco Try.prog Try.f55 K))))))))) s→X s)→X (zio zaa zab zay iv9 pv9 qv9 rv9 ze9 zbG)):=by kernel_rfl
  refine zax e ?_
  intro X hX
  refine h X ?_
  intro zay iv9 pv9 qv9 rv9 zbd hs
  refine hX _ ?_
  have e2:=zqH K X8 X zaa zab zay iv9 pv9 qv9 rv9 zbd
  rw [e2]
  exact hs
theorem zA0 (K : List PA → Prop) (X8 : St → Prop) (X9 : St → Prop) (zaa : (Sl Gate)) (zab : (Sl Mp)) (zbO : Int) (zgR : Int) (zoY : Int) (zoZ : Int) (zk2 : Int) (zct : Bool) (zbl : (Sl Int)) :
  zgG K X8 X9 zaa zab zbO zgR zoY zoZ zk2 zct zbl.len (fun i=>zaj (zbl.get i)) =
  (zcL zct
 ((((zbl.len+1) * 8≤140737488355328∧zbl.len+1≤9223372036854775807)) ∧
 (X8 (zfB zaa zab zbO (w64 (zgR+(1:Int))) (zbl.len+1) (appG zbl.len (fun i=>zaj (zbl.get i)) (fun _=>(zaj zk2))))))
 (X9 (zio zaa zab zbO zgR zoY zoZ (w64 (zk2+(1:Int))) zbl.len (fun i=>zaj (zbl.get i))))):=by kernel_rfl
abbrev e55 (r:((Sl Int)×Int×Int)):List PA:=[.one (.sl r.1.len 1 (fun i=>zaj (r.1.get i))),.one (.int .i64 r.2.1),.one (.int .i64 r.2.2)]
attribute [irreducible] zmY zmZ zm0 zjW zm1 zjX zjZ zj0 zj1 zj2 zgG
def ziQ (S8:Int→Int→(Sl Int)→((Sl Int)×Int×Int)) (S9:Int→Int→Int→Int→Int→(Sl Int)→((Sl Int)×Int×Int)) (zaa:(Sl Gate)) (zab:(Sl Mp)) (zbO:Int) (zgR:Int) (zoY:Int) (zoZ:Int) (zk2:Int) (zct:Bool) (zbl:(Sl Int)):((Sl Int)×Int×Int) :=
  (cond zct
 (S8 zbO (w64 (zgR+(1:Int))) (⟨(zbl.len+1),(zc7 zbl.len zbl.get (fun _=>zk2))⟩:Sl Int))
 (S9 zbO zgR zoY zoZ (w64 (zk2+(1:Int))) zbl))
def ziR (P8:Int→Int→(Sl Int)→Bool) (P9:Int→Int→Int→Int→Int→(Sl Int)→Bool) (zaa:(Sl Gate)) (zab:(Sl Mp)) (zbO:Int) (zgR:Int) (zoY:Int) (zoZ:Int) (zk2:Int) (zct:Bool) (zbl:(Sl Int)):Bool :=
  (cond zct
 (decide (((zbl.len+1) * 8≤140737488355328∧zbl.len+1≤9223372036854775807)) &&
 (P8 zbO (w64 (zgR+(1:Int))) (⟨(zbl.len+1),(zc7 zbl.len zbl.get (fun _=>zk2))⟩:Sl Int)))
 (P9 zbO zgR zoY zoZ (w64 (zk2+(1:Int))) zbl))
theorem zsW (K : List PA → Prop) (zaa : (Sl Gate)) (zab : (Sl Mp))
  (X8:St→Prop) (P8:Int→Int→(Sl Int)→Bool) (S8:Int→Int→(Sl Int)→((Sl Int)×Int×Int))
  (hX8:∀ (zaJ:Int) (iv8:Int) (zaS:(Sl Int)) (zbA:Nat→List PV) (zf0:zbA=fun i=>zaj (zaS.get i)),P8 zaJ iv8 zaS=true→K (e55 (S8 zaJ iv8 zaS))→X8 (zfB zaa zab zaJ iv8 zaS.len zbA))
  (X9:St→Prop) (P9:Int→Int→Int→Int→Int→(Sl Int)→Bool) (S9:Int→Int→Int→Int→Int→(Sl Int)→((Sl Int)×Int×Int))
  (hX9:∀ (zay:Int) (iv9:Int) (pv9:Int) (qv9:Int) (rv9:Int) (zbd:(Sl Int)) (zbG:Nat→List PV) (zhC:zbG=fun i=>zaj (zbd.get i)),P9 zay iv9 pv9 qv9 rv9 zbd=true→K (e55 (S9 zay iv9 pv9 qv9 rv9 zbd))→X9 (zio zaa zab zay iv9 pv9 qv9 rv9 zbd.len zbG)) (zbO:Int) (zgR:Int) (zoY:Int) (zoZ:Int) (zk2:Int) (zct:Bool) (zbl:(Sl Int)) (zfq:Nat→List PV) (zA1:zfq=fun i=>zaj (zbl.get i)) (hs:ziR P8 P9 zaa zab zbO zgR zoY zoZ zk2 zct zbl=true) (hk:K (e55 (ziQ S8 S9 zaa zab zbO zgR zoY zoZ zk2 zct zbl))):zgG (Wk K) X8 X9 zaa zab zbO zgR zoY zoZ zk2 zct zbl.len zfq:=by
  subst zA1
  refine zax (zA0 (Wk K) X8 X9 zaa zab zbO zgR zoY zoZ zk2 zct zbl) ?_
  unfold ziR at hs
  unfold ziQ at hk
  exact (zcg (K := fun r => K (e55 r))
 (fun hs hk=>(zaw hs fun hc hs=>⟨hc,(hX8 zbO (w64 (zgR+(1:Int))) (⟨(zbl.len+1),(zc7 zbl.len zbl.get (fun _=>zk2))⟩:Sl Int) (appG zbl.len (fun i=>zaj (zbl.get i)) (fun _=>(zaj zk2))) (zim (enc:=zaj) (f:=zbl.get) (h:=(fun _=>zk2)) rfl rfl) hs hk)⟩))
 (fun hs hk=>(hX9 zbO zgR zoY zoZ (w64 (zk2+(1:Int))) zbl (fun i=>zaj (zbl.get i)) rfl hs hk)) hs hk)
def zqI (S8:Int→Int→(Sl Int)→((Sl Int)×Int×Int)) (zaa:(Sl Gate)) (zab:(Sl Mp)) (S9:Int→Int→Int→Int→Int→(Sl Int)→((Sl Int)×Int×Int)) (zay:Int) (iv9:Int) (pv9:Int) (qv9:Int) (rv9:Int) (zbd:(Sl Int)):((Sl Int)×Int×Int) :=
  (cond (decide (rv9 ≤ (zaa.get iv9.toNat).High))
 (cond (decide ((s85 ((zaa.get ((w64 (iv9 - (2:Int))).toNat)).Z) ((zaa.get ((w64 (iv9 - (1:Int))).toNat)).Z) ((zaa.get iv9.toNat).Z) pv9 qv9 rv9) ≤ zay))
 (ziQ S8 S9 zaa zab zay iv9 pv9 qv9 rv9 (decide ((zdI (((zab.get ((w64 (iv9 - (1:Int))).toNat)).F) [qv9,rv9]) 0)≤zay)) zbd)
 (ziQ S8 S9 zaa zab zay iv9 pv9 qv9 rv9 false zbd))
 (S8 zay (w64 (iv9+(1:Int))) zbd))
def zqJ (P8:Int→Int→(Sl Int)→Bool) (zaa:(Sl Gate)) (zab:(Sl Mp)) (P9:Int→Int→Int→Int→Int→(Sl Int)→Bool) (zay:Int) (iv9:Int) (pv9:Int) (qv9:Int) (rv9:Int) (zbd:(Sl Int)):Bool :=
  (decide ((0≤iv9∧iv9 < (zaa.len:Int))) &&
 (cond (decide (rv9 ≤ (zaa.get iv9.toNat).High))
 (decide ((0≤(w64 (iv9 - (2:Int)))∧(w64 (iv9 - (2:Int))) < (zaa.len:Int))) &&
 (decide ((0≤(w64 (iv9 - (1:Int)))∧(w64 (iv9 - (1:Int))) < (zaa.len:Int))) &&
 (decide ((0≤iv9∧iv9 < (zaa.len:Int))) &&
 (decide ((p85 ((zaa.get ((w64 (iv9 - (2:Int))).toNat)).Z) ((zaa.get ((w64 (iv9 - (1:Int))).toNat)).Z) ((zaa.get iv9.toNat).Z) pv9 qv9 rv9=true)) &&
 (cond (decide ((s85 ((zaa.get ((w64 (iv9 - (2:Int))).toNat)).Z) ((zaa.get ((w64 (iv9 - (1:Int))).toNat)).Z) ((zaa.get iv9.toNat).Z) pv9 qv9 rv9) ≤ zay))
 (decide ((0≤(w64 (iv9 - (1:Int)))∧(w64 (iv9 - (1:Int))) < (zab.len:Int))) &&
 (ziR P8 P9 zaa zab zay iv9 pv9 qv9 rv9 (decide ((zdI (((zab.get ((w64 (iv9 - (1:Int))).toNat)).F) [qv9,rv9]) 0)≤zay)) zbd))
 (ziR P8 P9 zaa zab zay iv9 pv9 qv9 rv9 false zbd))))))
 (P8 zay (w64 (iv9+(1:Int))) zbd)))
def zj3 (S8 : Int → Int → (Sl Int) → ((Sl Int) × Int × Int)) (zaa : (Sl Gate)) (zab : (Sl Mp)) : Nat → Int → Int → Int → Int → Int → (Sl Int) → ((Sl Int) × Int × Int)
  | 0=>fun _ _ _ _ _ _=>default
  | k+1=>zqI S8 zaa zab (zj3 S8 zaa zab k)
def zj4 (P8 : Int → Int → (Sl Int) → Bool) (zaa : (Sl Gate)) (zab : (Sl Mp)) : Nat → Int → Int → Int → Int → Int → (Sl Int) → Bool
  | 0=>fun _ _ _ _ _ _=>false
  | k+1=>zqJ P8 zaa zab (zj4 P8 zaa zab k)
def zxX (S8:Int→Int→(Sl Int)→((Sl Int)×Int×Int)) (zaa:(Sl Gate)) (zab:(Sl Mp)) (zay:Int) (iv9:Int) (pv9:Int) (qv9:Int) (rv9:Int) (zbd:(Sl Int)):((Sl Int)×Int×Int):=zj3 S8 zaa zab Fuel zay iv9 pv9 qv9 rv9 zbd
def zxY (P8:Int→Int→(Sl Int)→Bool) (zaa:(Sl Gate)) (zab:(Sl Mp)) (zay:Int) (iv9:Int) (pv9:Int) (qv9:Int) (rv9:Int) (zbd:(Sl Int)):Bool:=zj4 P8 zaa zab Fuel zay iv9 pv9 qv9 rv9 zbd
theorem zFt (K : List PA → Prop) (zaa : (Sl Gate)) (zab : (Sl Mp))
  (X8:St→Prop) (P8:Int→Int→(Sl Int)→Bool) (S8:Int→Int→(Sl Int)→((Sl Int)×Int×Int))
  (hX8:∀ (zaJ:Int) (iv8:Int) (zaS:(Sl Int)) (zbA:Nat→List PV) (zf0:zbA=fun i=>zaj (zaS.get i)),P8 zaJ iv8 zaS=true→K (e55 (S8 zaJ iv8 zaS))→X8 (zfB zaa zab zaJ iv8 zaS.len zbA)) (zay:Int) (iv9:Int) (pv9:Int) (qv9:Int) (rv9:Int) (zbd:(Sl Int)) (zbG:Nat→List PV) (zhC:zbG=fun i=>zaj (zbd.get i)) (hs:zxY P8 zaa zab zay iv9 pv9 qv9 rv9 zbd=true) (hk:K (e55 (zxX S8 zaa zab zay iv9 pv9 qv9 rv9 zbd))):zj2 (Wk K) X8 zaa zab zay iv9 pv9 qv9 rv9 zbd.len zbG:=by
  refine zxW (Wk K) X8 zaa zab zay iv9 pv9 qv9 rv9 zbd.len zbG ?_
  intro X9 hstep
  have key:∀ (k:Nat) (zay:Int) (iv9:Int) (pv9:Int) (qv9:Int) (rv9:Int) (zbd:(Sl Int)) (zbG:Nat→List PV) (zhC:zbG=fun i=>zaj (zbd.get i)),zj4 P8 zaa zab k zay iv9 pv9 qv9 rv9 zbd=true→K (e55 (zj3 S8 zaa zab k zay iv9 pv9 qv9 rv9 zbd))→X9 (zio zaa zab zay iv9 pv9 qv9 rv9 zbd.len zbG):=by
    intro k
    induction k with
    | zero=>intro zay iv9 pv9 qv9 rv9 zbd zbG zhC hs;exact absurd hs Bool.false_ne_true
    | succ k ih =>
      intro zay iv9 pv9 qv9 rv9 zbd zbG zhC hs hk
      subst zhC
      refine hstep zay iv9 pv9 qv9 rv9 zbd ?_
      have hs:zqJ P8 zaa zab (zj4 P8 zaa zab k) zay iv9 pv9 qv9 rv9 zbd=true:=hs
      have hk:K (e55 (zqI S8 zaa zab (zj3 S8 zaa zab k) zay iv9 pv9 qv9 rv9 zbd)):=hk
      unfold zqJ at hs
      unfold zqI at hk
      generalize zj3 S8 zaa zab k=S9 at hk ih
      generalize zj4 P8 zaa zab k=P9 at hs ih
      have hX9:=ih
      exact (zaw hs fun hc hs => ⟨hc, (zcg (K := fun r => K (e55 r))
 (fun hs hk => (zaw hs fun hc hs => ⟨hc, (zaw hs fun hc hs => ⟨hc, (zaw hs fun hc hs => ⟨hc, (zaw hs fun hc hs => ⟨hc, (zcg (K := fun r => K (e55 r))
 (fun hs hk=>(zaw hs fun hc hs=>⟨hc,(zsW K zaa zab X8 P8 S8 hX8 X9 P9 S9 hX9 zay iv9 pv9 qv9 rv9 (decide ((zdI (((zab.get ((w64 (iv9 - (1:Int))).toNat)).F) [qv9,rv9]) 0)≤zay)) zbd (fun i=>zaj (zbd.get i)) rfl hs hk)⟩))
 (fun hs hk=>(zsW K zaa zab X8 P8 S8 hX8 X9 P9 S9 hX9 zay iv9 pv9 qv9 rv9 false zbd (fun i=>zaj (zbd.get i)) rfl hs hk)) hs hk)⟩)⟩)⟩)⟩))
 (fun hs hk=>(hX8 zay (w64 (iv9+(1:Int))) zbd (fun i=>zaj (zbd.get i)) rfl hs hk)) hs hk)⟩)
  exact key _ zay iv9 pv9 qv9 rv9 zbd zbG zhC hs hk
def zqK (zaa:(Sl Gate)) (zab:(Sl Mp)) (S8:Int→Int→(Sl Int)→((Sl Int)×Int×Int)) (zaJ:Int) (iv8:Int) (zaS:(Sl Int)):((Sl Int)×Int×Int) :=
  (cond (decide (iv8 < (zaa.len : Int)))
 (zxX S8 zaa zab zaJ iv8 (zaS.get ((w64 (iv8 - (2:Int))).toNat)) (zaS.get ((w64 (iv8 - (1:Int))).toNat)) ((zaa.get iv8.toNat).Low) zaS)
 (zaS,zaJ,(0:Int)))
def zqL (zaa:(Sl Gate)) (zab:(Sl Mp)) (P8:Int→Int→(Sl Int)→Bool) (zaJ:Int) (iv8:Int) (zaS:(Sl Int)):Bool :=
  (cond (decide (iv8 < (zaa.len : Int)))
 (decide ((0≤(w64 (iv8 - (2:Int)))∧(w64 (iv8 - (2:Int))) < (zaS.len:Int))) &&
 (decide (((w64 (iv8 - (2:Int))).toNat < zaS.len)) &&
 (decide ((0≤(w64 (iv8 - (1:Int)))∧(w64 (iv8 - (1:Int))) < (zaS.len:Int))) &&
 (decide (((w64 (iv8 - (1:Int))).toNat < zaS.len)) &&
 (decide ((0≤iv8∧iv8 < (zaa.len:Int))) &&
 (zxY P8 zaa zab zaJ iv8 (zaS.get ((w64 (iv8 - (2:Int))).toNat)) (zaS.get ((w64 (iv8 - (1:Int))).toNat)) ((zaa.get iv8.toNat).Low) zaS))))))
 true)
def zj5 (zaa : (Sl Gate)) (zab : (Sl Mp)) : Nat → Int → Int → (Sl Int) → ((Sl Int) × Int × Int)
  | 0=>fun _ _ _=>default
  | k+1=>zqK zaa zab (zj5 zaa zab k)
def zj6 (zaa : (Sl Gate)) (zab : (Sl Mp)) : Nat → Int → Int → (Sl Int) → Bool
  | 0=>fun _ _ _=>false
  | k+1=>zqL zaa zab (zj6 zaa zab k)
def zxZ (zaa:(Sl Gate)) (zab:(Sl Mp)) (zaJ:Int) (iv8:Int) (zaS:(Sl Int)):((Sl Int)×Int×Int):=zj5 zaa zab Fuel zaJ iv8 zaS
def zx0 (zaa:(Sl Gate)) (zab:(Sl Mp)) (zaJ:Int) (iv8:Int) (zaS:(Sl Int)):Bool:=zj6 zaa zab Fuel zaJ iv8 zaS
theorem zFu (K:List PA→Prop) (zaa:(Sl Gate)) (zab:(Sl Mp)) (zaJ:Int) (iv8:Int) (zaS:(Sl Int)) (zbA:Nat→List PV) (zf0:zbA=fun i=>zaj (zaS.get i)) (hs:zx0 zaa zab zaJ iv8 zaS=true) (hk:K (e55 (zxZ zaa zab zaJ iv8 zaS))):zj1 (Wk K) zaa zab zaJ iv8 zaS.len zbA:=by
  refine zxV (Wk K) zaa zab zaJ iv8 zaS.len zbA ?_
  intro X8 hstep
  have key:∀ (k:Nat) (zaJ:Int) (iv8:Int) (zaS:(Sl Int)) (zbA:Nat→List PV) (zf0:zbA=fun i=>zaj (zaS.get i)),zj6 zaa zab k zaJ iv8 zaS=true→K (e55 (zj5 zaa zab k zaJ iv8 zaS))→X8 (zfB zaa zab zaJ iv8 zaS.len zbA):=by
    intro k
    induction k with
    | zero=>intro zaJ iv8 zaS zbA zf0 hs;exact absurd hs Bool.false_ne_true
    | succ k ih =>
      intro zaJ iv8 zaS zbA zf0 hs hk
      subst zf0
      refine hstep zaJ iv8 zaS ?_
      have hs:zqL zaa zab (zj6 zaa zab k) zaJ iv8 zaS=true:=hs
      have hk:K (e55 (zqK zaa zab (zj5 zaa zab k) zaJ iv8 zaS)):=hk
      unfold zqL at hs
      unfold zqK at hk
      generalize zj5 zaa zab k=S8 at hk ih
      generalize zj6 zaa zab k=P8 at hs ih
      have hX8:=ih
      exact (zcg (K := fun r => K (e55 r))
 (fun hs hk=>(zaw hs fun hc hs=>⟨hc,(zaw hs fun hc hs=>⟨hc,(zaw hs fun hc hs=>⟨hc,(zaw hs fun hc hs=>⟨hc,(zaw hs fun hc hs=>⟨hc,(zFt K zaa zab X8 P8 S8 hX8 zaJ iv8 (zaS.get ((w64 (iv8 - (2:Int))).toNat)) (zaS.get ((w64 (iv8 - (1:Int))).toNat)) ((zaa.get iv8.toNat).Low) zaS (fun i=>zaj (zaS.get i)) rfl hs hk)⟩)⟩)⟩)⟩)⟩))
 (fun hs hk=>(zea hk)) hs hk)
  exact key _ zaJ iv8 zaS zbA zf0 hs hk
def zm3 (zaa:(Sl Gate)) (zab:(Sl Mp)) (zdc:Int) (zfv:(Sl Int)):((Sl Int)×Int×Int) :=
  (zxZ zaa zab zdc (2:Int) zfv)
def zm4 (zaa:(Sl Gate)) (zab:(Sl Mp)) (zdc:Int) (zfv:(Sl Int)):Bool :=
  (zx0 zaa zab zdc (2:Int) zfv)
theorem zx1 (K:List PA→Prop) (zaa:(Sl Gate)) (zab:(Sl Mp)) (zdc:Int) (zfv:(Sl Int)) (zhB:Nat→List PV) (zFv:zhB=fun i=>zaj (zfv.get i)) (hs:zm4 zaa zab zdc zfv=true) (hk:K (e55 (zm3 zaa zab zdc zfv))):zj0 (Wk K) zaa zab zdc zfv.len zhB:=by
  subst zFv
  refine zax (zFs (Wk K) zaa zab zdc zfv) ?_
  unfold zm4 at hs
  unfold zm3 at hk
  exact (zFu K zaa zab zdc (2:Int) zfv (fun i=>zaj (zfv.get i)) rfl hs hk)
def zqM (S5:Int→Int→((Sl Int)×Int×Int)) (zaa:(Sl Gate)) (zab:(Sl Mp)) (S6:Int→Int→Int→((Sl Int)×Int×Int)) (zaH:Int) (pv6:Int) (qv6:Int):((Sl Int)×Int×Int) :=
  (cond (decide (qv6 ≤ (zaa.get 1).High))
 (cond ((zdI (((zab.get 0).F) [pv6, qv6]) 0) == zaH)
 (zm3 zaa zab zaH (⟨2,(zgU pv6 [pv6,qv6])⟩:Sl Int))
 (S6 zaH pv6 (w64 (qv6+(1:Int)))))
 (S5 zaH (w64 (pv6+(1:Int)))))
def zqN (P5:Int→Int→Bool) (zaa:(Sl Gate)) (zab:(Sl Mp)) (P6:Int→Int→Int→Bool) (zaH:Int) (pv6:Int) (qv6:Int):Bool :=
  (decide ((0≤(1:Int)∧(1:Int) < (zaa.len:Int))) &&
 (cond (decide (qv6 ≤ (zaa.get 1).High))
 (decide ((0≤(0:Int)∧(0:Int) < (zab.len:Int))) &&
 (cond ((zdI (((zab.get 0).F) [pv6, qv6]) 0) == zaH)
 (zm4 zaa zab zaH (⟨2,(zgU pv6 [pv6,qv6])⟩:Sl Int))
 (P6 zaH pv6 (w64 (qv6+(1:Int))))))
 (P5 zaH (w64 (pv6+(1:Int))))))
def zj7 (S5 : Int → Int → ((Sl Int) × Int × Int)) (zaa : (Sl Gate)) (zab : (Sl Mp)) : Nat → Int → Int → Int → ((Sl Int) × Int × Int)
  | 0=>fun _ _ _=>default
  | k+1=>zqM S5 zaa zab (zj7 S5 zaa zab k)
def zj8 (P5 : Int → Int → Bool) (zaa : (Sl Gate)) (zab : (Sl Mp)) : Nat → Int → Int → Int → Bool
  | 0=>fun _ _ _=>false
  | k+1=>zqN P5 zaa zab (zj8 P5 zaa zab k)
def zx2 (S5:Int→Int→((Sl Int)×Int×Int)) (zaa:(Sl Gate)) (zab:(Sl Mp)) (zaH:Int) (pv6:Int) (qv6:Int):((Sl Int)×Int×Int):=zj7 S5 zaa zab Fuel zaH pv6 qv6
def zx3 (P5:Int→Int→Bool) (zaa:(Sl Gate)) (zab:(Sl Mp)) (zaH:Int) (pv6:Int) (qv6:Int):Bool:=zj8 P5 zaa zab Fuel zaH pv6 qv6
theorem zFw (K : List PA → Prop) (zaa : (Sl Gate)) (zab : (Sl Mp))
  (X5:St→Prop) (P5:Int→Int→Bool) (S5:Int→Int→((Sl Int)×Int×Int))
  (hX5:∀ (zaM:Int) (pv5:Int),P5 zaM pv5=true→K (e55 (S5 zaM pv5))→X5 (zin zaa zab zaM pv5)) (zaH:Int) (pv6:Int) (qv6:Int) (hs:zx3 P5 zaa zab zaH pv6 qv6=true) (hk:K (e55 (zx2 S5 zaa zab zaH pv6 qv6))):zjZ (Wk K) X5 zaa zab zaH pv6 qv6:=by
  refine zxU (Wk K) X5 zaa zab zaH pv6 qv6 ?_
  intro X6 hstep
  have key:∀ (k:Nat) (zaH:Int) (pv6:Int) (qv6:Int),zj8 P5 zaa zab k zaH pv6 qv6=true→K (e55 (zj7 S5 zaa zab k zaH pv6 qv6))→X6 (zjY zaa zab zaH pv6 qv6):=by
    intro k
    induction k with
    | zero=>intro zaH pv6 qv6 hs;exact absurd hs Bool.false_ne_true
    | succ k ih =>
      intro zaH pv6 qv6 hs hk
      refine hstep zaH pv6 qv6 ?_
      have hs:zqN P5 zaa zab (zj8 P5 zaa zab k) zaH pv6 qv6=true:=hs
      have hk:K (e55 (zqM S5 zaa zab (zj7 S5 zaa zab k) zaH pv6 qv6)):=hk
      unfold zqN at hs
      unfold zqM at hk
      generalize zj7 S5 zaa zab k=S6 at hk ih
      generalize zj8 P5 zaa zab k=P6 at hs ih
      have hX6:=ih
      exact (zaw hs fun hc hs => ⟨hc, (zcg (K := fun r => K (e55 r))
 (fun hs hk => (zaw hs fun hc hs => ⟨hc, (zcg (K := fun r => K (e55 r))
 (fun hs hk=>(zx1 K zaa zab zaH (⟨2,(zgU pv6 [pv6,qv6])⟩:Sl Int) (zcn [(zaj pv6),(zaj qv6)]) (zdg (enc:=zaj) (x:=pv6) (y:=qv6) (r:=[])) hs hk))
 (fun hs hk=>(hX6 zaH pv6 (w64 (qv6+(1:Int))) hs hk)) hs hk)⟩))
 (fun hs hk=>(hX5 zaH (w64 (pv6+(1:Int))) hs hk)) hs hk)⟩)
  exact key _ zaH pv6 qv6 hs hk
def zqO (zaa:(Sl Gate)) (zab:(Sl Mp)) (S5:Int→Int→((Sl Int)×Int×Int)) (zaM:Int) (pv5:Int):((Sl Int)×Int×Int) :=
  (cond (decide (pv5 ≤ (zaa.get 0).High))
 (zx2 S5 zaa zab zaM pv5 ((zaa.get 1).Low))
 (zm3 zaa zab zaM (⟨0,(fun _=>default)⟩:Sl Int)))
def zqP (zaa:(Sl Gate)) (zab:(Sl Mp)) (P5:Int→Int→Bool) (zaM:Int) (pv5:Int):Bool :=
  (decide ((0≤(0:Int)∧(0:Int) < (zaa.len:Int))) &&
 (cond (decide (pv5 ≤ (zaa.get 0).High))
 (decide ((0≤(1:Int)∧(1:Int) < (zaa.len:Int))) &&
 (zx3 P5 zaa zab zaM pv5 ((zaa.get 1).Low)))
 (zm4 zaa zab zaM (⟨0,(fun _=>default)⟩:Sl Int))))
def zj9 (zaa : (Sl Gate)) (zab : (Sl Mp)) : Nat → Int → Int → ((Sl Int) × Int × Int)
  | 0=>fun _ _=>default
  | k+1=>zqO zaa zab (zj9 zaa zab k)
def zka (zaa : (Sl Gate)) (zab : (Sl Mp)) : Nat → Int → Int → Bool
  | 0=>fun _ _=>false
  | k+1=>zqP zaa zab (zka zaa zab k)
def zx4 (zaa:(Sl Gate)) (zab:(Sl Mp)) (zaM:Int) (pv5:Int):((Sl Int)×Int×Int):=zj9 zaa zab Fuel zaM pv5
def zx5 (zaa:(Sl Gate)) (zab:(Sl Mp)) (zaM:Int) (pv5:Int):Bool:=zka zaa zab Fuel zaM pv5
theorem zFx (K:List PA→Prop) (zaa:(Sl Gate)) (zab:(Sl Mp)) (zaM:Int) (pv5:Int) (hs:zx5 zaa zab zaM pv5=true) (hk:K (e55 (zx4 zaa zab zaM pv5))):zjX (Wk K) zaa zab zaM pv5:=by
  refine zxT (Wk K) zaa zab zaM pv5 ?_
  intro X5 hstep
  have key:∀ (k:Nat) (zaM:Int) (pv5:Int),zka zaa zab k zaM pv5=true→K (e55 (zj9 zaa zab k zaM pv5))→X5 (zin zaa zab zaM pv5):=by
    intro k
    induction k with
    | zero=>intro zaM pv5 hs;exact absurd hs Bool.false_ne_true
    | succ k ih =>
      intro zaM pv5 hs hk
      refine hstep zaM pv5 ?_
      have hs:zqP zaa zab (zka zaa zab k) zaM pv5=true:=hs
      have hk:K (e55 (zqO zaa zab (zj9 zaa zab k) zaM pv5)):=hk
      unfold zqP at hs
      unfold zqO at hk
      generalize zj9 zaa zab k=S5 at hk ih
      generalize zka zaa zab k=P5 at hs ih
      have hX5:=ih
      exact (zaw hs fun hc hs => ⟨hc, (zcg (K := fun r => K (e55 r))
 (fun hs hk=>(zaw hs fun hc hs=>⟨hc,(zFw K zaa zab X5 P5 S5 hX5 zaM pv5 ((zaa.get 1).Low) hs hk)⟩))
 (fun hs hk=>(zx1 K zaa zab zaM (⟨0,(fun _=>default)⟩:Sl Int) (fun i=>zaj ((fun _=>default) i)) rfl hs hk)) hs hk)⟩)
  exact key _ zaM pv5 hs hk
def zqQ (zaa:(Sl Gate)) (zab:(Sl Mp)) (zdb:Int):((Sl Int)×Int×Int) :=
  (zx4 zaa zab zdb ((zaa.get 0).Low))
def zqR (zaa:(Sl Gate)) (zab:(Sl Mp)) (zdb:Int):Bool :=
  (decide ((0≤(0:Int)∧(0:Int) < (zaa.len:Int))) &&
 (zx5 zaa zab zdb ((zaa.get 0).Low)))
theorem zFy (K:List PA→Prop) (zaa:(Sl Gate)) (zab:(Sl Mp)) (zdb:Int) (hs:zqR zaa zab zdb=true) (hk:K (e55 (zqQ zaa zab zdb))):zm1 (Wk K) zaa zab zdb:=by
  refine zax (zFr (Wk K) zaa zab zdb) ?_
  unfold zqR at hs
  unfold zqQ at hk
  exact (zaw hs fun hc hs=>⟨hc,(zFx K zaa zab zdb ((zaa.get 0).Low) hs hk)⟩)
def zm5 (zaa:(Sl Gate)) (zab:(Sl Mp)) (zaB:Int):((Sl Int)×Int×Int) :=
  (zqQ zaa zab zaB)
def zm6 (zaa:(Sl Gate)) (zab:(Sl Mp)) (zaB:Int):Bool :=
  (zqR zaa zab zaB)
def zkb (zaa:(Sl Gate)) (zab:(Sl Mp)) (k24_0:Int) (k24_1:Int) (S3:Int→((Sl Int)×Int×Int)) (zaB:Int):((Sl Int)×Int×Int) :=
  (cond (decide (zaB < (0:Int)))
 (S3 (zdI (((zab.get 0).F) [k24_0,k24_1]) 0))
 (cond (decide ((zdI (((zab.get 0).F) [k24_0, k24_1]) 0) < zaB))
 (S3 (zdI (((zab.get 0).F) [k24_0,k24_1]) 0))
 (S3 zaB)))
def zkc (zaa:(Sl Gate)) (zab:(Sl Mp)) (k24_0:Int) (k24_1:Int) (P3:Int→Bool) (zaB:Int):Bool :=
  (cond (decide (zaB < (0:Int)))
 (P3 (zdI (((zab.get 0).F) [k24_0,k24_1]) 0))
 (cond (decide ((zdI (((zab.get 0).F) [k24_0, k24_1]) 0) < zaB))
 (P3 (zdI (((zab.get 0).F) [k24_0,k24_1]) 0))
 (P3 zaB)))
def zeC (zaa : (Sl Gate)) (zab : (Sl Mp)) : List (List Int) → Int → ((Sl Int) × Int × Int)
  | []=>zm5 zaa zab
  | y :: r=>zkb zaa zab (y.getD 0 0) (y.getD 1 0) (zeC zaa zab r)
def zeD (zaa : (Sl Gate)) (zab : (Sl Mp)) : List (List Int) → Int → Bool
  | []=>zm6 zaa zab
  | y :: r=>zkc zaa zab (y.getD 0 0) (y.getD 1 0) (zeD zaa zab r)
def zfa (_gates:Sl Gate) (t:Sl Mp) (ys:List (List Int)):Bool:=ys.all fun y=>decide (0≤zdI ((t.get 0).F y) 0)
theorem zFz (zaa:Sl Gate) (t:Sl Mp):∀ (y:List Int) (r:List (List Int)),zfa zaa t (y :: r)=true→zfa zaa t r=true:=fun y r h=>by
  simp only [zfa,List.all_cons,Bool.and_eq_true] at h ⊢;exact h.2
def kst (F:List Int→Option (List Int)) (k:Int) (y:List Int):Int:=if k < 0 then zdI (F y) 0 else if zdI (F y) 0 < k then zdI (F y) 0 else k
theorem zsX (F:List Int→Option (List Int)) {ys zs:List (List Int)} (h:∀ y∈ys,0≤zdI (F y) 0) (hp:ys.Perm zs) (k:Int):ys.foldl (kst F) k=zs.foldl (kst F) k:=by
  refine hp.foldl_eq' (fun x hx y hy z=>?_) k
  have h1:=h x hx
  have h2:=h y hy
  unfold kst
  repeat' split
  all_goals omega
theorem zqS (zaa : Sl Gate) (t : Sl Mp) : ∀ (ys : List (List Int)) (k : Int), (∀ y ∈ ys, y.length = 2) → zeC zaa t ys k = zm5 zaa t (ys.foldl (kst (t.get 0).F) k)
  | [],k,_=>rfl
  | y :: r,k,h=>by
    have hy:=h y List.mem_cons_self
    match y,hy with
    | [a,b],_ =>
    have ih:=fun k=>zqS zaa t r k (fun z hz=>h z (List.mem_cons_of_mem _ hz))
    show zkb zaa t a b (zeC zaa t r) k=_
    rw [List.foldl_cons]
    unfold zkb
    by_cases h1:k < 0
    · rw [decide_eq_true h1,cond_true,ih,show kst (t.get 0).F k [a,b]=zdI ((t.get 0).F [a,b]) 0 from if_pos h1]
    · rw [decide_eq_false h1, cond_false]
      by_cases h2:zdI ((t.get 0).F [a,b]) 0 < k
      · rw [decide_eq_true h2,cond_true,ih,show kst (t.get 0).F k [a,b]=zdI ((t.get 0).F [a,b]) 0 from (if_neg h1).trans (if_pos h2)]
      · rw [decide_eq_false h2,cond_false,ih,show kst (t.get 0).F k [a,b]=k from (if_neg h1).trans (if_neg h2)]
theorem zqT (zaa : Sl Gate) (t : Sl Mp) : ∀ (ys : List (List Int)) (k : Int), (∀ y ∈ ys, y.length = 2) → zeD zaa t ys k = zm6 zaa t (ys.foldl (kst (t.get 0).F) k)
  | [],k,_=>rfl
  | y :: r,k,h=>by
    have hy:=h y List.mem_cons_self
    match y,hy with
    | [a,b],_ =>
    have ih:=fun k=>zqT zaa t r k (fun z hz=>h z (List.mem_cons_of_mem _ hz))
    show zkc zaa t a b (zeD zaa t r) k=_
    rw [List.foldl_cons]
    unfold zkc
    by_cases h1:k < 0
    · rw [decide_eq_true h1,cond_true,ih,show kst (t.get 0).F k [a,b]=zdI ((t.get 0).F [a,b]) 0 from if_pos h1]
    · rw [decide_eq_false h1, cond_false]
      by_cases h2:zdI ((t.get 0).F [a,b]) 0 < k
      · rw [decide_eq_true h2,cond_true,ih,show kst (t.get 0).F k [a,b]=zdI ((t.get 0).F [a,b]) 0 from (if_neg h1).trans (if_pos h2)]
      · rw [decide_eq_false h2,cond_false,ih,show kst (t.get 0).F k [a,b]=k from (if_neg h1).trans (if_neg h2)]
theorem zFA (zaa : Sl Gate) (t : Sl Mp) (ys zs : List (List Int)) (hl : ∀ y ∈ ys, y.length = 2) (h : zfa zaa t ys = true) (hp : ys.Perm zs) :
    zfa zaa t zs=true∧zeC zaa t ys=zeC zaa t zs∧zeD zaa t ys=zeD zaa t zs:=by
  simp only [zfa,List.all_eq_true,decide_eq_true_eq] at h ⊢
  have hl2:∀ y∈zs,y.length=2:=fun y hy=>hl y (hp.mem_iff.2 hy)
  refine ⟨fun y hy=>h y (hp.mem_iff.2 hy),funext fun k=>?_,funext fun k=>?_⟩
  · rw [zqS zaa t ys k hl,zqS zaa t zs k hl2,zsX _ h hp]
  · rw [zqT zaa t ys k hl,zqT zaa t zs k hl2,zsX _ h hp]
def zqU (zaa:(Sl Gate)) (zab:(Sl Mp)) (zaB:Int):((Sl Int)×Int×Int):=zeC zaa zab (zoE zaa) zaB
def zqV (zaa:(Sl Gate)) (zab:(Sl Mp)) (zaB:Int):Bool:=keysB 2 ((zab.get 0).n) ((zab.get 0).F) (zoE zaa) && zfa zaa zab (zoE zaa) && zeD zaa zab (zoE zaa) zaB
theorem zFB (K:List PA→Prop) (zaa:(Sl Gate)) (zab:(Sl Mp)) (zaB:Int) (hs:zqV zaa zab zaB=true) (hk:K (e55 (zqU zaa zab zaB))):zjW (Wk K) zaa zab [] zaB:=by
  unfold zqV at hs
  rw [Bool.and_eq_true,Bool.and_eq_true] at hs
  obtain ⟨⟨hkeys,hI⟩,hs⟩:=hs
  unfold zqU at hk
  generalize hys:zoE zaa=ys0 at hkeys hI hs hk
  refine zxS (Wk K) zaa zab [] zaB ?_
  intro X3 hstep
  have key:∀ (N:Nat) (ys:List (List Int)) (seen:List (List Int)) (zaB:Int),ys.length=N→(zHQ 2 ((zab.get 0).n) ((zab.get 0).F)→zIh 2 ((zab.get 0).F) seen ys)→zfa zaa zab ys=true→zeD zaa zab ys zaB=true→K (e55 (zeC zaa zab ys zaB))→X3 (zgF zaa zab seen zaB):=by
    intro N
    induction N with
    | zero =>
      intro ys seen zaB hN hrem hI hs hk
      obtain rfl:=List.eq_nil_of_length_eq_zero hN
      refine hstep seen zaB ?_
      intro hfin
      have hrem:=hrem hfin
      refine ⟨fun _=>?_,fun k24_0 k24_1 hF hns=>absurd (hrem.2.2 [k24_0,k24_1] rfl hF hns) (by simp)⟩
      have hs:zm6 zaa zab zaB=true:=hs
      have hk:K (e55 (zm5 zaa zab zaB)):=hk
      unfold zm6 at hs
      unfold zm5 at hk
      exact (zFy K zaa zab zaB hs hk)
    | succ N ih =>
      intro ys seen zaB hN hrem hI hs hk
      refine hstep seen zaB ?_
      intro hfin
      have hrem:=hrem hfin
      refine ⟨fun hend=>?_,fun k24_0 k24_1 hF hns=>?_⟩
      · exact absurd (zDj hrem hend) (fun e=>by rw [e] at hN;simp at hN)
      · obtain ⟨hperm, hrem2, hlen⟩ := zAn hrem (c := [k24_0, k24_1]) rfl hF hns
        obtain ⟨hI2,e1,e2⟩:=zFA zaa zab ys _ (fun y hy=>(hrem.2.1 y hy).1) hI hperm
        have hI3:=zFz zaa zab _ _ hI2
        rw [e2] at hs
        rw [e1] at hk
        have hs:zkc zaa zab k24_0 k24_1 (zeD zaa zab (ys.erase [k24_0,k24_1])) zaB=true:=hs
        have hk:K (e55 (zkb zaa zab k24_0 k24_1 (zeC zaa zab (ys.erase [k24_0,k24_1])) zaB)):=hk
        have ih:=fun (zaB:Int)=>ih (ys.erase [k24_0,k24_1]) ([k24_0,k24_1] :: seen) zaB (by omega) (fun _=>hrem2) hI3
        unfold zkc at hs
        unfold zkb at hk
        generalize zeC zaa zab (ys.erase [k24_0,k24_1])=S3 at hk ih
        generalize zeD zaa zab (ys.erase [k24_0,k24_1])=P3 at hs ih
        have hX3:=ih
        exact (zcg (K := fun r => K (e55 r))
 (fun hs hk=>(hX3 (zdI (((zab.get 0).F) [k24_0,k24_1]) 0) hs hk))
 (fun hs hk => (zcg (K := fun r => K (e55 r))
 (fun hs hk=>(hX3 (zdI (((zab.get 0).F) [k24_0,k24_1]) 0) hs hk))
 (fun hs hk=>(hX3 zaB hs hk)) hs hk)) hs hk)
  exact key _ ys0 [] zaB rfl (fun hf=>zva hkeys hf) hI hs hk
def zqW (zaa:(Sl Gate)) (zab:(Sl Mp)):((Sl Int)×Int×Int) :=
  (zqU zaa zab (-1:Int))
def zqX (zaa:(Sl Gate)) (zab:(Sl Mp)):Bool :=
  (decide ((0≤(0:Int)∧(0:Int) < (zab.len:Int))) &&
 (zqV zaa zab (-1:Int)))
theorem zFC (K:List PA→Prop) (zaa:(Sl Gate)) (zab:(Sl Mp)) (zed:Nat→List PV) (zx6:zed=fun i=>zcC (zab.get i)) (hs:zqX zaa zab=true) (hk:K (e55 (zqW zaa zab))):zm0 (Wk K) zaa zab.len zed:=by
  subst zx6
  refine zax (zFq (Wk K) zaa zab) ?_
  unfold zqX at hs
  unfold zqW at hk
  exact (zaw hs fun hc hs=>⟨hc,(zFB K zaa zab (-1:Int) hs hk)⟩)
def zqY (zaa:(Sl Gate)):((Sl Int)×Int×Int) :=
  (zqW zaa (s93 zaa))
def zqZ (zaa:(Sl Gate)):Bool :=
  (decide ((p93 zaa=true)) &&
 (zqX zaa (s93 zaa)))
theorem zFD (K:List PA→Prop) (zaa:(Sl Gate)) (hs:zqZ zaa=true) (hk:K (e55 (zqY zaa))):zmZ (Wk K) zaa:=by
  refine zax (zFp (Wk K) zaa) ?_
  unfold zqZ at hs
  unfold zqY at hk
  exact (zaw hs fun hc hs=>⟨⟨isE,hc⟩,(zFC K zaa (s93 zaa) (fun i=>zcC ((s93 zaa).get i)) rfl hs hk)⟩)
def zq0 (zaa:(Sl Gate)) (zfZ:Bool):((Sl Int)×Int×Int) :=
  (cond zfZ
 ((⟨0,fun _=>default⟩:(Sl Int)),(0:Int),(2:Int))
 (zqY zaa))
def zq1 (zaa:(Sl Gate)) (zfZ:Bool):Bool :=
  (cond zfZ
 true
 (zqZ zaa))
theorem zFE (K:List PA→Prop) (zaa:(Sl Gate)) (zfZ:Bool) (hs:zq1 zaa zfZ=true) (hk:K (e55 (zq0 zaa zfZ))):zmY (Wk K) zaa zfZ:=by
  refine zax (zFo (Wk K) zaa zfZ) ?_
  unfold zq1 at hs
  unfold zq0 at hk
  exact (zcg (K := fun r => K (e55 r))
 (fun hs hk=>(wk hk (zc4 (.one (.nil _ _)) (zc4 (.one (.rfl _)) (zc4 (.one (.rfl _)) zg2)))))
 (fun hs hk=>(zFD K zaa hs hk)) hs hk)
def s55 (zaa:(Sl Gate)):((Sl Int)×Int×Int) :=
  (zq0 zaa (!(s92 zaa)))
def p55 (zaa:(Sl Gate)):Bool :=
  (decide ((p92 zaa=true)) &&
 (zq1 zaa (!(s92 zaa))))
theorem q55 (zaa:(Sl Gate)) (K:List PA→Prop) (hs:p55 zaa=true) (hk:K (e55 (s55 zaa))):vcFun Try.prog G55 zaT 55 [.one (.sl zaa.len 3 (fun i=>enc_55 (zaa.get i)))] (Wk K):=by
  refine zax (zFn zaa (Wk K)) ?_
  unfold p55 at hs
  unfold s55 at hk
  exact (zaw hs fun hc hs=>⟨⟨isE,hc⟩,(zFE K zaa (!(s92 zaa)) hs hk)⟩)
def zFF : List PA → COut
  | [.one (.sl a0_n a0_s a0_g)]=>.det (IsE enc_55 3 a0_s a0_g∧p55 (⟨a0_n,zad a0_g⟩:(Sl Gate))=true) [.one (.sl (((s55 (⟨a0_n,zad a0_g⟩:(Sl Gate))).1).len) 1 (fun i=>zaj (((s55 (⟨a0_n,zad a0_g⟩:(Sl Gate))).1).get i))),.one (.int .i64 ((s55 (⟨a0_n,zad a0_g⟩:(Sl Gate))).2.1)),.one (.int .i64 ((s55 (⟨a0_n,zad a0_g⟩:(Sl Gate))).2.2))]
  | _=>.no
theorem zJQ:zah Try.prog 55:=⟨_,rfl,rfl,by kernel_rfl⟩
theorem zPg:Ok Try.prog 55 zFF:=zg3 zMh zJQ fun args K h=>by
  unfold zFF at h
  split at h
  · rename_i a0_n a0_s a0_g
    obtain ⟨⟨⟨rfl,a0_f,rfl⟩,hs⟩,hk⟩:=h
    try rw [zac a0_f] at hs
    try rw [zac a0_f] at hk
    exact ⟨_,zeT zfA _,(fun _ _=>[]),(fun _=>false),zaT,q55 (⟨a0_n,a0_f⟩:(Sl Gate)) K hs hk⟩
  · exact h.elim
abbrev T62:Tabs:=Tabs.nil
theorem zMi:TabsOk Try.prog T62:=TabsOk.nil
abbrev G62:Ctrs:=csm T62 (fun _ _=>[]) (fun _=>false)
def zJR:Ann:=⟨5,[(0,zK [] []),(1,zK [0] [4])],
 [],
 [],
 [],[]⟩
abbrev R62:=(Sl Gate)
abbrev e62 (r:R62):List PA:=[.one (.sl r.len 3 (fun i=>enc_55 (r.get i)))]
section
variable {K:List PA→Prop}
def s62:(Sl Gate) :=
  (⟨3,(zgU (⟨(0:Int),(0:Int),(10:Int)⟩:Gate) [(⟨(0:Int),(0:Int),(10:Int)⟩:Gate),(⟨(100:Int),(20:Int),(30:Int)⟩:Gate),(⟨(200:Int),(30:Int),(60:Int)⟩:Gate)])⟩:(Sl Gate))
end
theorem q62 (K:List PA→Prop) (hk:K (e62 (s62))):vcFun Try.prog G62 zJR 62 [] K :=
  zax (by kernel_rfl) (Eq.mpr (congrArg K (congrArg (fun (g_:Nat→List PV)=>([.one (.sl 3 3 g_)]:List PA)) (zdg (enc:=enc_55) (x:=(⟨(0:Int),(0:Int),(10:Int)⟩:Gate)) (y:=(⟨(100:Int),(20:Int),(30:Int)⟩:Gate)) (r:=[(⟨(200:Int),(30:Int),(60:Int)⟩:Gate)])))) hk)
def zFG : List PA → COut
  | []=>.tot [.one (.sl ((s62).len) 3 (fun i=>enc_55 ((s62).get i)))]
  | _=>.no
theorem zJS:zah Try.prog 62:=⟨_,rfl,rfl,by kernel_rfl⟩
theorem zPh:Ok Try.prog 62 zFG:=zaz zMi zJS fun args K h=>by
  unfold zFG at h
  split at h
  · have hk := h
    exact ⟨(fun _ _=>[]),(fun _=>false),zJR,q62 K hk⟩
  · exact h.elim
abbrev T63:Tabs:=Tabs.nil
theorem zMj:TabsOk Try.prog T63:=TabsOk.nil
abbrev G63:Ctrs:=csm T63 (fun _ _=>[]) (fun _=>false)
def zJT:Ann:=⟨5,[(0,zK [] []),(1,zK [0] [4])],
 [],
 [],
 [],[]⟩
abbrev R63:=(Sl Gate)
abbrev e63 (r:R63):List PA:=[.one (.sl r.len 3 (fun i=>enc_55 (r.get i)))]
section
variable {K:List PA→Prop}
def s63:(Sl Gate) :=
  (⟨3,(zgU (⟨(0:Int),(0:Int),(10:Int)⟩:Gate) [(⟨(0:Int),(0:Int),(10:Int)⟩:Gate),(⟨(100:Int),(20:Int),(30:Int)⟩:Gate),(⟨(200:Int),(0:Int),(9:Int)⟩:Gate)])⟩:(Sl Gate))
end
theorem q63 (K:List PA→Prop) (hk:K (e63 (s63))):vcFun Try.prog G63 zJT 63 [] K :=
  zax (by kernel_rfl) (Eq.mpr (congrArg K (congrArg (fun (g_:Nat→List PV)=>([.one (.sl 3 3 g_)]:List PA)) (zdg (enc:=enc_55) (x:=(⟨(0:Int),(0:Int),(10:Int)⟩:Gate)) (y:=(⟨(100:Int),(20:Int),(30:Int)⟩:Gate)) (r:=[(⟨(200:Int),(0:Int),(9:Int)⟩:Gate)])))) hk)
def zFH : List PA → COut
  | []=>.tot [.one (.sl ((s63).len) 3 (fun i=>enc_55 ((s63).get i)))]
  | _=>.no
theorem zJU:zah Try.prog 63:=⟨_,rfl,rfl,by kernel_rfl⟩
theorem zPi:Ok Try.prog 63 zFH:=zaz zMj zJU fun args K h=>by
  unfold zFH at h
  split at h
  · have hk := h
    exact ⟨(fun _ _=>[]),(fun _=>false),zJT,q63 K hk⟩
  · exact h.elim
abbrev T18:Tabs:=((((((((((Tabs.nil.addF 19 zEv).addF 30 zEM).addF 31 zAX).addF 34 zE4).addF 38 zAF).addF 39 zE7).addF 40 ztX).addF 55 zFF).addF 62 zFG).addF 63 zFH)
theorem zMk:TabsOk Try.prog T18:=((((((((((TabsOk.nil.addF zOU).addF zO2).addF zNG).addF zPb).addF zNm).addF zPc).addF zNH).addF zPg).addF zPh).addF zPi)
abbrev G18:Ctrs:=csm T18 (fun _ _=>[]) (fun _=>false)
def zFI:Ann:=⟨125,[(0,zK [] []),(1,zK [1,2] []),(2,zK [1,2,3,4,5] [3,4]),(3,zK [1,2,3,4,5,6,7] [3,4]),(4,zK [1,2,3,4,5,6,7,8,9,10,11] [3,4,9,10]),(5,zK [1,2,3,4,5,6,7,8,9,10,11,12,13,14] [3,4,9,10]),(6,zK [1,3,4,6,9,10,12,76] [3,4,9,10]),(7,zK [0] []),(8,zK [1,3,4,6,9,10,12,15] [3,4,9,10,89]),(9,zK [0] [])],
 [],
 [(2,zK [1,2] []),(3,zK [1,2,3,4,5] [3,4]),(4,zK [1,2,3,4,5,6,7] [3,4]),(5,zK [1,2,3,4,5,6,7,8,9,10,11] [3,4,9,10]),(6,zK [1,2,3,4,5,6,7,8,9,10,11,12,13,14] [3,4,9,10]),(8,zK [1,3,4,6,9,10,12] [3,4,9,10]),(9,zK [1,3,4,6,9,10,12,15] [3,4,9,10,89])],
 [],[]⟩
abbrev R18:=Bool
abbrev e18 (r:R18):List PA:=[.one (.bool r)]
@[irreducible] def z18:=ptF Try.prog G18 zFI Try.f18
section
variable {K:List PA→Prop} {cv0:(Sl Line)} {ev0:Int} {zJV:Nat→List PV} {fv1:Int} {zbI:Int} {zbJ:Int} {zbK:Int} {zbL:Int} {sv2:(Sl Int)} {gv2:Int} {zx7:Nat→List PV} {sv3:(Sl Int)} {zv3:Int} {hv3:Int} {zcN:Int} {zcO:Int} {zcP:Int} {zcQ:Int} {zx8:Nat→List PV} {sv4:(Sl Int)} {lv4:(Sl Int)} {kv4:Int} {iv4:Int} {zx9:Nat→List PV} {zJW:Nat→List PV} {sv5:(Sl Int)} {zya:Nat→List PV} {sv6:(Sl Int)} {zla:(Sl Line)} {zyb:Nat→List PV} {zyc:Nat→List PV}
def zyd (cv0:(Sl Line)) (zbI:Int) (zbJ:Int) (zbK:Int) (zbL:Int) (zcN:Int) (zcO:Int) (zcP:Int) (zcQ:Int) (lv4:(Sl Int)) (sv6:(Sl Int)) (zla:(Sl Line)):Bool :=
  (cond (s34 cv0 zla)
 (cond (match (zbI == (s40 (40:Int) (1:Int)).Num) with | true => (match (zbJ == (s40 (40:Int) (1:Int)).Den) with | true => true | false => false) | false => false)
 (cond (match (zbK == (s40 (90:Int) (1:Int)).Num) with | true => (match (zbL == (s40 (90:Int) (1:Int)).Den) with | true => true | false => false) | false => false)
 (cond ((s39 sv6 (⟨3, zbc (zcn [(zaj (0:Int)), (zaj (1:Int)), (zaj (2:Int))])⟩ : (Sl Int))) == (0:Int))
 (cond (match (zcN == (s40 (499:Int) (10:Int)).Num) with | true => (match (zcO == (s40 (499:Int) (10:Int)).Den) with | true => true | false => false) | false => false)
 (cond (match (zcP == (s40 (501:Int) (10:Int)).Num) with | true => (match (zcQ == (s40 (501:Int) (10:Int)).Den) with | true => true | false => false) | false => false)
 ((s39 lv4 (⟨3,zbc (zcn [(zaj (2:Int)),(zaj (5:Int)),(zaj (2:Int))])⟩:(Sl Int))) == (0:Int))
 false)
 false)
 false)
 false)
 false)
 false)
def zye (cv0:(Sl Line)) (zbI:Int) (zbJ:Int) (zbK:Int) (zbL:Int) (zcN:Int) (zcO:Int) (zcP:Int) (zcQ:Int) (lv4:(Sl Int)) (sv6:(Sl Int)) (zla:(Sl Line)):Bool :=
  (decide ((p34 cv0 zla=true)) &&
 (cond (s34 cv0 zla)
 (decide ((p40 (40:Int) (1:Int)=true)) &&
 (cond (match (zbI == (s40 (40:Int) (1:Int)).Num) with | true => (match (zbJ == (s40 (40:Int) (1:Int)).Den) with | true => true | false => false) | false => false)
 (decide ((p40 (90:Int) (1:Int)=true)) &&
 (cond (match (zbK == (s40 (90:Int) (1:Int)).Num) with | true => (match (zbL == (s40 (90:Int) (1:Int)).Den) with | true => true | false => false) | false => false)
 (decide ((p39 sv6 (⟨3,zbc (zcn [(zaj (0:Int)),(zaj (1:Int)),(zaj (2:Int))])⟩:(Sl Int))=true)) &&
 (cond ((s39 sv6 (⟨3, zbc (zcn [(zaj (0:Int)), (zaj (1:Int)), (zaj (2:Int))])⟩ : (Sl Int))) == (0:Int))
 (decide ((p40 (499:Int) (10:Int)=true)) &&
 (cond (match (zcN == (s40 (499:Int) (10:Int)).Num) with | true => (match (zcO == (s40 (499:Int) (10:Int)).Den) with | true => true | false => false) | false => false)
 (decide ((p40 (501:Int) (10:Int)=true)) &&
 (cond (match (zcP == (s40 (501:Int) (10:Int)).Num) with | true => (match (zcQ == (s40 (501:Int) (10:Int)).Den) with | true => true | false => false) | false => false)
 (decide ((p39 lv4 (⟨3,zbc (zcn [(zaj (2:Int)),(zaj (5:Int)),(zaj (2:Int))])⟩:(Sl Int))=true)) &&
 true)
 true))
 true))
 true))
 true))
 true))
 true))
theorem zFJ (hs:zye cv0 zbI zbJ zbK zbL zcN zcO zcP zcQ lv4 sv6 zla=true) (hk:K (e18 (zyd cv0 zbI zbJ zbK zbL zcN zcO zcP zcQ lv4 sv6 zla))) (zFK:zyb=zg zaj sv6) (zFL:zyc=zg zbs zla):z18 K [1,1,1,1,1,1,1,1] [] ⟨[(1,zS zbs 4 cv0),(3,zp 3 0),(4,zp 4 0),(6,zP (.sl sv6.len 1 zyb)),(9,zp 9 0),(10,zp 10 0),(12,zS zaj 1 lv4),(15,zv 89)],[(3,.box 25 (zm (zae (⟨zbI,zbJ⟩:Frac)))),(4,.box 25 (zm (zae (⟨zbK,zbL⟩:Frac)))),(9,.box 25 (zm (zae (⟨zcN,zcO⟩:Frac)))),(10,.box 25 (zm (zae (⟨zcP,zcQ⟩:Frac)))),(89,.vec 37 4 32 zla.len zyc)],[]⟩:=by subst zFK;subst zFL;exact zax (by kernel_rfl) (zaw hs fun hc hs=>And.intro (And.intro (zE zbs 4 cv0.get) (And.intro (zE zbs 4 zla.get) hc)) (zc hs hk (fun hs hk=>(zaw hs fun hc hs=>And.intro hc (zc hs hk (fun hs hk=>(zaw hs fun hc hs=>And.intro hc (zc hs hk (fun hs hk=>(zaw hs fun hc hs=>And.intro (And.intro (zE zaj 1 sv6.get) (And.intro ((zfp [(2:Int)]):IsE zaj 1 1 (zcn [(zaj (0:Int)),(zaj (1:Int)),(zaj (2:Int))])) hc)) (zc hs hk (fun hs hk=>(zaw hs fun hc hs=>And.intro hc (zc hs hk (fun hs hk=>(zaw hs fun hc hs=>And.intro hc (zc hs hk (fun hs hk=>(zaw hs fun hc hs=>And.intro (And.intro (zE zaj 1 lv4.get) (And.intro ((zfp [(2:Int)]):IsE zaj 1 1 (zcn [(zaj (2:Int)),(zaj (5:Int)),(zaj (2:Int))])) hc)) hk)) (fun hs hk=>hk)))) (fun hs hk=>hk)))) (fun hs hk=>hk)))) (fun hs hk=>hk)))) (fun hs hk=>hk)))) (fun hs hk=>hk)))
def zyf (cv0:(Sl Line)) (zbI:Int) (zbJ:Int) (zbK:Int) (zbL:Int) (zcN:Int) (zcO:Int) (zcP:Int) (zcQ:Int) (lv4:(Sl Int)) (sv5:(Sl Int)):Bool :=
  (zyd cv0 zbI zbJ zbK zbL zcN zcO zcP zcQ lv4 sv5 (⟨4,(zgU (⟨(s40 (1:Int) (10:Int)),(s40 (10:Int) (1:Int))⟩:Line) [(⟨(s40 (1:Int) (10:Int)),(s40 (10:Int) (1:Int))⟩:Line),(⟨(s40 (1:Int) (5:Int)),(s40 (0:Int) (1:Int))⟩:Line),(⟨(s40 (3:Int) (10:Int)),(s40 (0:Int) (1:Int))⟩:Line),(⟨(s40 (1:Int) (5:Int)),(s40 (10:Int) (1:Int))⟩:Line)])⟩:Sl Line))
def zyg (cv0:(Sl Line)) (zbI:Int) (zbJ:Int) (zbK:Int) (zbL:Int) (zcN:Int) (zcO:Int) (zcP:Int) (zcQ:Int) (lv4:(Sl Int)) (sv5:(Sl Int)):Bool :=
  (decide ((p40 (1:Int) (10:Int)=true)) &&
 (decide ((p40 (10:Int) (1:Int)=true)) &&
 (decide ((p40 (1:Int) (5:Int)=true)) &&
 (decide ((p40 (0:Int) (1:Int)=true)) &&
 (decide ((p40 (3:Int) (10:Int)=true)) &&
 (decide ((p40 (0:Int) (1:Int)=true)) &&
 (decide ((p40 (1:Int) (5:Int)=true)) &&
 (decide ((p40 (10:Int) (1:Int)=true)) &&
 (zye cv0 zbI zbJ zbK zbL zcN zcO zcP zcQ lv4 sv5 (⟨4,(zgU (⟨(s40 (1:Int) (10:Int)),(s40 (10:Int) (1:Int))⟩:Line) [(⟨(s40 (1:Int) (10:Int)),(s40 (10:Int) (1:Int))⟩:Line),(⟨(s40 (1:Int) (5:Int)),(s40 (0:Int) (1:Int))⟩:Line),(⟨(s40 (3:Int) (10:Int)),(s40 (0:Int) (1:Int))⟩:Line),(⟨(s40 (1:Int) (5:Int)),(s40 (10:Int) (1:Int))⟩:Line)])⟩:Sl Line))))))))))
theorem zFM (hs:zyg cv0 zbI zbJ zbK zbL zcN zcO zcP zcQ lv4 sv5=true) (hk:K (e18 (zyf cv0 zbI zbJ zbK zbL zcN zcO zcP zcQ lv4 sv5))) (zFN:zya=zg zaj sv5):z18 K [1,1,1,1,1,1,1] [] ⟨[(1,zS zbs 4 cv0),(3,zp 3 0),(4,zp 4 0),(6,zP (.sl sv5.len 1 zya)),(9,zp 9 0),(10,zp 10 0),(12,zS zaj 1 lv4)],[(3,.box 25 (zm (zae (⟨zbI,zbJ⟩:Frac)))),(4,.box 25 (zm (zae (⟨zbK,zbL⟩:Frac)))),(9,.box 25 (zm (zae (⟨zcN,zcO⟩:Frac)))),(10,.box 25 (zm (zae (⟨zcP,zcQ⟩:Frac))))],[]⟩:=by subst zFN;exact zax (by kernel_rfl) (zaw hs fun hc hs=>And.intro hc (zaw hs fun hc hs=>And.intro hc (zaw hs fun hc hs=>And.intro hc (zaw hs fun hc hs=>And.intro hc (zaw hs fun hc hs=>And.intro hc (zaw hs fun hc hs=>And.intro hc (zaw hs fun hc hs=>And.intro hc (zaw hs fun hc hs=>And.intro hc (zFJ hs hk rfl (zdg (enc:=zbs) (x:=(⟨(s40 (1:Int) (10:Int)),(s40 (10:Int) (1:Int))⟩:Line)) (y:=(⟨(s40 (1:Int) (5:Int)),(s40 (0:Int) (1:Int))⟩:Line)) (r:=[(⟨(s40 (3:Int) (10:Int)),(s40 (0:Int) (1:Int))⟩:Line),(⟨(s40 (1:Int) (5:Int)),(s40 (10:Int) (1:Int))⟩:Line)])))))))))))
def zyh (cv0:(Sl Line)) (ev0:Int) (fv1:Int) (zbI:Int) (zbJ:Int) (zbK:Int) (zbL:Int) (gv2:Int) (zv3:Int) (hv3:Int) (zcN:Int) (zcO:Int) (zcP:Int) (zcQ:Int) (sv4:(Sl Int)) (lv4:(Sl Int)) (kv4:Int) (iv4:Int):Bool :=
  (cond (ev0 != (0:Int))
 false
 (cond (fv1 != (0:Int))
 false
 (cond (gv2 != (0:Int))
 false
 (cond (hv3 != (0:Int))
 false
 (cond (iv4 != (0:Int))
 false
 (cond (kv4 != (600:Int))
 false
 (cond (zv3 != (167:Int))
 false
 (zyf cv0 zbI zbJ zbK zbL zcN zcO zcP zcQ lv4 sv4))))))))
def zyi (cv0:(Sl Line)) (ev0:Int) (fv1:Int) (zbI:Int) (zbJ:Int) (zbK:Int) (zbL:Int) (gv2:Int) (zv3:Int) (hv3:Int) (zcN:Int) (zcO:Int) (zcP:Int) (zcQ:Int) (sv4:(Sl Int)) (lv4:(Sl Int)) (kv4:Int) (iv4:Int):Bool :=
  (cond (ev0 != (0:Int))
 true
 (cond (fv1 != (0:Int))
 true
 (cond (gv2 != (0:Int))
 true
 (cond (hv3 != (0:Int))
 true
 (cond (iv4 != (0:Int))
 true
 (cond (kv4 != (600:Int))
 true
 (cond (zv3 != (167:Int))
 true
 (zyg cv0 zbI zbJ zbK zbL zcN zcO zcP zcQ lv4 sv4))))))))
theorem zFO (hs:zyi cv0 ev0 fv1 zbI zbJ zbK zbL gv2 zv3 hv3 zcN zcO zcP zcQ sv4 lv4 kv4 iv4=true) (hk:K (e18 (zyh cv0 ev0 fv1 zbI zbJ zbK zbL gv2 zv3 hv3 zcN zcO zcP zcQ sv4 lv4 kv4 iv4))) (zFP:zx9=zg zaj sv4) (zMl:zJW=zg zaj lv4):z18 K [1,1,1,1,1,1] [] ⟨[(1,zS zbs 4 cv0),(2,zI ev0),(3,zp 3 0),(4,zp 4 0),(5,zI fv1),(6,zP (.sl sv4.len 1 zx9)),(7,zI gv2),(8,zI zv3),(9,zp 9 0),(10,zp 10 0),(11,zI hv3),(12,zP (.sl lv4.len 1 zJW)),(13,zI kv4),(14,zI iv4)],[(3,.box 25 (zm (zae (⟨zbI,zbJ⟩:Frac)))),(4,.box 25 (zm (zae (⟨zbK,zbL⟩:Frac)))),(9,.box 25 (zm (zae (⟨zcN,zcO⟩:Frac)))),(10,.box 25 (zm (zae (⟨zcP,zcQ⟩:Frac))))],[]⟩:=by subst zFP;subst zMl;exact zax (by kernel_rfl) (zc hs hk (fun hs hk=>hk) (fun hs hk=>(zc hs hk (fun hs hk=>hk) (fun hs hk=>(zc hs hk (fun hs hk=>hk) (fun hs hk=>(zc hs hk (fun hs hk=>hk) (fun hs hk=>(zc hs hk (fun hs hk=>hk) (fun hs hk=>(zc hs hk (fun hs hk=>hk) (fun hs hk=>(zc hs hk (fun hs hk=>hk) (fun hs hk=>(zFM hs hk rfl)))))))))))))))
def zyj (cv0:(Sl Line)) (ev0:Int) (fv1:Int) (zbI:Int) (zbJ:Int) (zbK:Int) (zbL:Int) (gv2:Int) (sv3:(Sl Int)) (zv3:Int) (hv3:Int) (zcN:Int) (zcO:Int) (zcP:Int) (zcQ:Int):Bool :=
  (zyh cv0 ev0 fv1 zbI zbJ zbK zbL gv2 zv3 hv3 zcN zcO zcP zcQ sv3 ((s55 (⟨3,zad (zcn [(enc_55 (⟨(0:Int),(0:Int),(2:Int)⟩:Gate)),(enc_55 (⟨(10:Int),(5:Int),(6:Int)⟩:Gate)),(enc_55 (⟨(20:Int),(0:Int),(2:Int)⟩:Gate))])⟩:(Sl Gate))).1) ((s55 (⟨3,zad (zcn [(enc_55 (⟨(0:Int),(0:Int),(2:Int)⟩:Gate)),(enc_55 (⟨(10:Int),(5:Int),(6:Int)⟩:Gate)),(enc_55 (⟨(20:Int),(0:Int),(2:Int)⟩:Gate))])⟩:(Sl Gate))).2.1) ((s55 (⟨3,zad (zcn [(enc_55 (⟨(0:Int),(0:Int),(2:Int)⟩:Gate)),(enc_55 (⟨(10:Int),(5:Int),(6:Int)⟩:Gate)),(enc_55 (⟨(20:Int),(0:Int),(2:Int)⟩:Gate))])⟩:(Sl Gate))).2.2))
def zyk (cv0:(Sl Line)) (ev0:Int) (fv1:Int) (zbI:Int) (zbJ:Int) (zbK:Int) (zbL:Int) (gv2:Int) (sv3:(Sl Int)) (zv3:Int) (hv3:Int) (zcN:Int) (zcO:Int) (zcP:Int) (zcQ:Int):Bool :=
  (decide ((p55 (⟨3,zad (zcn [(enc_55 (⟨(0:Int),(0:Int),(2:Int)⟩:Gate)),(enc_55 (⟨(10:Int),(5:Int),(6:Int)⟩:Gate)),(enc_55 (⟨(20:Int),(0:Int),(2:Int)⟩:Gate))])⟩:(Sl Gate))=true)) &&
 (zyi cv0 ev0 fv1 zbI zbJ zbK zbL gv2 zv3 hv3 zcN zcO zcP zcQ sv3 ((s55 (⟨3,zad (zcn [(enc_55 (⟨(0:Int),(0:Int),(2:Int)⟩:Gate)),(enc_55 (⟨(10:Int),(5:Int),(6:Int)⟩:Gate)),(enc_55 (⟨(20:Int),(0:Int),(2:Int)⟩:Gate))])⟩:(Sl Gate))).1) ((s55 (⟨3,zad (zcn [(enc_55 (⟨(0:Int),(0:Int),(2:Int)⟩:Gate)),(enc_55 (⟨(10:Int),(5:Int),(6:Int)⟩:Gate)),(enc_55 (⟨(20:Int),(0:Int),(2:Int)⟩:Gate))])⟩:(Sl Gate))).2.1) ((s55 (⟨3,zad (zcn [(enc_55 (⟨(0:Int),(0:Int),(2:Int)⟩:Gate)),(enc_55 (⟨(10:Int),(5:Int),(6:Int)⟩:Gate)),(enc_55 (⟨(20:Int),(0:Int),(2:Int)⟩:Gate))])⟩:(Sl Gate))).2.2)))
theorem zFQ (hs:zyk cv0 ev0 fv1 zbI zbJ zbK zbL gv2 sv3 zv3 hv3 zcN zcO zcP zcQ=true) (hk:K (e18 (zyj cv0 ev0 fv1 zbI zbJ zbK zbL gv2 sv3 zv3 hv3 zcN zcO zcP zcQ))) (zFR:zx8=zg zaj sv3):z18 K [1,1,1,1,1] [] ⟨[(1,zS zbs 4 cv0),(2,zI ev0),(3,zp 3 0),(4,zp 4 0),(5,zI fv1),(6,zP (.sl sv3.len 1 zx8)),(7,zI gv2),(8,zI zv3),(9,zp 9 0),(10,zp 10 0),(11,zI hv3)],[(3,.box 25 (zm (zae (⟨zbI,zbJ⟩:Frac)))),(4,.box 25 (zm (zae (⟨zbK,zbL⟩:Frac)))),(9,.box 25 (zm (zae (⟨zcN,zcO⟩:Frac)))),(10,.box 25 (zm (zae (⟨zcP,zcQ⟩:Frac))))],[]⟩:=by subst zFR;exact zax (by kernel_rfl) (zaw hs fun hc hs=>And.intro (And.intro ((zfp [(⟨(20:Int),(0:Int),(2:Int)⟩:Gate)]):IsE enc_55 3 3 (zcn [(enc_55 (⟨(0:Int),(0:Int),(2:Int)⟩:Gate)),(enc_55 (⟨(10:Int),(5:Int),(6:Int)⟩:Gate)),(enc_55 (⟨(20:Int),(0:Int),(2:Int)⟩:Gate))])) hc) (zFO hs hk rfl rfl))
def zyl (cv0:(Sl Line)) (ev0:Int) (fv1:Int) (zbI:Int) (zbJ:Int) (zbK:Int) (zbL:Int) (sv2:(Sl Int)) (gv2:Int):Bool :=
  (zyj cv0 ev0 fv1 zbI zbJ zbK zbL gv2 sv2 ((s19 s62 (⟨2,zad (zcn [(enc_55 (⟨(0:Int),(100:Int),(110:Int)⟩:Gate)),(enc_55 (⟨(200:Int),(40:Int),(50:Int)⟩:Gate))])⟩:(Sl Gate)) (0:Int) (300:Int)).1) ((s19 s62 (⟨2,zad (zcn [(enc_55 (⟨(0:Int),(100:Int),(110:Int)⟩:Gate)),(enc_55 (⟨(200:Int),(40:Int),(50:Int)⟩:Gate))])⟩:(Sl Gate)) (0:Int) (300:Int)).2.2.2) (((s19 s62 (⟨2,zad (zcn [(enc_55 (⟨(0:Int),(100:Int),(110:Int)⟩:Gate)),(enc_55 (⟨(200:Int),(40:Int),(50:Int)⟩:Gate))])⟩:(Sl Gate)) (0:Int) (300:Int)).2.1).Num) (((s19 s62 (⟨2,zad (zcn [(enc_55 (⟨(0:Int),(100:Int),(110:Int)⟩:Gate)),(enc_55 (⟨(200:Int),(40:Int),(50:Int)⟩:Gate))])⟩:(Sl Gate)) (0:Int) (300:Int)).2.1).Den) (((s19 s62 (⟨2,zad (zcn [(enc_55 (⟨(0:Int),(100:Int),(110:Int)⟩:Gate)),(enc_55 (⟨(200:Int),(40:Int),(50:Int)⟩:Gate))])⟩:(Sl Gate)) (0:Int) (300:Int)).2.2.1).Num) (((s19 s62 (⟨2,zad (zcn [(enc_55 (⟨(0:Int),(100:Int),(110:Int)⟩:Gate)),(enc_55 (⟨(200:Int),(40:Int),(50:Int)⟩:Gate))])⟩:(Sl Gate)) (0:Int) (300:Int)).2.2.1).Den))
def zym (cv0:(Sl Line)) (ev0:Int) (fv1:Int) (zbI:Int) (zbJ:Int) (zbK:Int) (zbL:Int) (sv2:(Sl Int)) (gv2:Int):Bool :=
  (decide ((p19 s62 (⟨2,zad (zcn [(enc_55 (⟨(0:Int),(100:Int),(110:Int)⟩:Gate)),(enc_55 (⟨(200:Int),(40:Int),(50:Int)⟩:Gate))])⟩:(Sl Gate)) (0:Int) (300:Int)=true)) &&
 (zyk cv0 ev0 fv1 zbI zbJ zbK zbL gv2 sv2 ((s19 s62 (⟨2,zad (zcn [(enc_55 (⟨(0:Int),(100:Int),(110:Int)⟩:Gate)),(enc_55 (⟨(200:Int),(40:Int),(50:Int)⟩:Gate))])⟩:(Sl Gate)) (0:Int) (300:Int)).1) ((s19 s62 (⟨2,zad (zcn [(enc_55 (⟨(0:Int),(100:Int),(110:Int)⟩:Gate)),(enc_55 (⟨(200:Int),(40:Int),(50:Int)⟩:Gate))])⟩:(Sl Gate)) (0:Int) (300:Int)).2.2.2) (((s19 s62 (⟨2,zad (zcn [(enc_55 (⟨(0:Int),(100:Int),(110:Int)⟩:Gate)),(enc_55 (⟨(200:Int),(40:Int),(50:Int)⟩:Gate))])⟩:(Sl Gate)) (0:Int) (300:Int)).2.1).Num) (((s19 s62 (⟨2,zad (zcn [(enc_55 (⟨(0:Int),(100:Int),(110:Int)⟩:Gate)),(enc_55 (⟨(200:Int),(40:Int),(50:Int)⟩:Gate))])⟩:(Sl Gate)) (0:Int) (300:Int)).2.1).Den) (((s19 s62 (⟨2,zad (zcn [(enc_55 (⟨(0:Int),(100:Int),(110:Int)⟩:Gate)),(enc_55 (⟨(200:Int),(40:Int),(50:Int)⟩:Gate))])⟩:(Sl Gate)) (0:Int) (300:Int)).2.2.1).Num) (((s19 s62 (⟨2,zad (zcn [(enc_55 (⟨(0:Int),(100:Int),(110:Int)⟩:Gate)),(enc_55 (⟨(200:Int),(40:Int),(50:Int)⟩:Gate))])⟩:(Sl Gate)) (0:Int) (300:Int)).2.2.1).Den)))
theorem zFS (hs:zym cv0 ev0 fv1 zbI zbJ zbK zbL sv2 gv2=true) (hk:K (e18 (zyl cv0 ev0 fv1 zbI zbJ zbK zbL sv2 gv2))) (zFT:zx7=zg zaj sv2):z18 K [1,1,1,1] [] ⟨[(1,zS zbs 4 cv0),(2,zI ev0),(3,zp 3 0),(4,zp 4 0),(5,zI fv1),(6,zP (.sl sv2.len 1 zx7)),(7,zI gv2)],[(3,.box 25 (zm (zae (⟨zbI,zbJ⟩:Frac)))),(4,.box 25 (zm (zae (⟨zbK,zbL⟩:Frac))))],[]⟩:=by subst zFT;exact zax (by kernel_rfl) (zaw hs fun hc hs=>And.intro (And.intro (zE enc_55 3 s62.get) (And.intro ((zfp []):IsE enc_55 3 3 (zcn [(enc_55 (⟨(0:Int),(100:Int),(110:Int)⟩:Gate)),(enc_55 (⟨(200:Int),(40:Int),(50:Int)⟩:Gate))])) hc)) (zFQ hs hk rfl))
def zyn (cv0:(Sl Line)) (ev0:Int) (fv1:Int) (zbI:Int) (zbJ:Int) (zbK:Int) (zbL:Int):Bool :=
  (zyl cv0 ev0 fv1 zbI zbJ zbK zbL ((s38 s63).1) ((s38 s63).2))
def zyo (cv0:(Sl Line)) (ev0:Int) (fv1:Int) (zbI:Int) (zbJ:Int) (zbK:Int) (zbL:Int):Bool :=
  (decide ((p38 s63=true)) &&
 (zym cv0 ev0 fv1 zbI zbJ zbK zbL ((s38 s63).1) ((s38 s63).2)))
theorem zFU (hs:zyo cv0 ev0 fv1 zbI zbJ zbK zbL=true) (hk:K (e18 (zyn cv0 ev0 fv1 zbI zbJ zbK zbL))):z18 K [1,1,1] [] ⟨[(1,zS zbs 4 cv0),(2,zI ev0),(3,zp 3 0),(4,zp 4 0),(5,zI fv1)],[(3,.box 25 (zm (zae (⟨zbI,zbJ⟩:Frac)))),(4,.box 25 (zm (zae (⟨zbK,zbL⟩:Frac))))],[]⟩:=zax (by kernel_rfl) (zaw hs fun hc hs=>And.intro (And.intro (zE enc_55 3 s63.get) hc) (zFS hs hk rfl))
def zyp (cv0:(Sl Line)) (ev0:Int):Bool :=
  (zyn cv0 ev0 ((s30 s62 (300:Int)).2.2) (((s30 s62 (300:Int)).1).Num) (((s30 s62 (300:Int)).1).Den) (((s30 s62 (300:Int)).2.1).Num) (((s30 s62 (300:Int)).2.1).Den))
def zyq (cv0:(Sl Line)) (ev0:Int):Bool :=
  (decide ((p30 s62 (300:Int)=true)) &&
 (zyo cv0 ev0 ((s30 s62 (300:Int)).2.2) (((s30 s62 (300:Int)).1).Num) (((s30 s62 (300:Int)).1).Den) (((s30 s62 (300:Int)).2.1).Num) (((s30 s62 (300:Int)).2.1).Den)))
theorem zFV (hs:zyq cv0 ev0=true) (hk:K (e18 (zyp cv0 ev0))) (zMm:zJV=zg zbs cv0):z18 K [1,1] [] ⟨[(1,zP (.sl cv0.len 4 zJV)),(2,zI ev0)],[],[]⟩:=by subst zMm;exact zax (by kernel_rfl) (zaw hs fun hc hs=>And.intro (And.intro (zE enc_55 3 s62.get) hc) (zFU hs hk))
def s18:Bool :=
  (zyp ((s31 s62).1) ((s31 s62).2))
def p18:Bool :=
  (decide ((p31 s62=true)) &&
 (zyq ((s31 s62).1) ((s31 s62).2)))
end
theorem q18 (K:List PA→Prop) (hs:p18=true) (hk:K (e18 (s18))):vcFun Try.prog G18 zFI 18 [] K :=
  zax (by kernel_rfl) (zaw hs fun hc hs=>And.intro (And.intro (zE enc_55 3 s62.get) hc) (zFV hs hk rfl))
theorem zJX:p18=true:=by kernel_rfl
theorem zJY:s18=true:=by kernel_rfl
def zFW : List PA → COut
  | []=>.tot [.one (.bool true)]
  | _=>.no
theorem zJZ:zah Try.prog 18:=⟨_,rfl,rfl,by kernel_rfl⟩
theorem zPj:Ok Try.prog 18 zFW:=zaz zMk zJZ fun args K h=>by
  unfold zFW at h
  split at h
  · refine ⟨fun _ _ => [], fun _ => false, zFI, q18 K zJX ?_⟩
    show K [.one (.bool s18)]
    rw [zJY];exact h
  · exact h.elim
abbrev T70:Tabs:=Tabs.nil
theorem zMn:TabsOk Try.prog T70:=TabsOk.nil
abbrev G70:Ctrs:=csm T70 (fun _ _=>[]) (fun _=>false)
def zJ0:Ann:=⟨15,[(0,zK [0,1,2] []),(1,zK [6] [])],
 [],
 [],
 [],[]⟩
abbrev R70:=Bool
abbrev e70 (r:R70):List PA:=[.one (.bool r)]
section
variable {K:List PA→Prop} {n:Int} {low:Int} {high:Int}
def s70 (n:Int) (low:Int) (high:Int):Bool :=
  (cond (decide (n ≥ low))
 (decide (n≤high))
 false)
end
theorem q70 (n:Int) (low:Int) (high:Int) (K:List PA→Prop) (hk:K (e70 (s70 n low high))):vcFun Try.prog G70 zJ0 70 [.one (.int .i64 n),.one (.int .i64 low),.one (.int .i64 high)] K :=
  zax (by kernel_rfl) (zt hk (fun hk=>hk) (fun hk=>hk))
def zA2 : List PA → COut
  | [.one (.int .i64 a0),.one (.int .i64 a1),.one (.int .i64 a2)]=>.tot [.one (.bool (s70 a0 a1 a2))]
  | _=>.no
theorem zJ1:zah Try.prog 70:=⟨_,rfl,rfl,by kernel_rfl⟩
theorem zNK:Ok Try.prog 70 zA2:=zaz zMn zJ1 fun args K h=>by
  unfold zA2 at h
  split at h
  · rename_i a0 a1 a2
    have hk:=h
    exact ⟨(fun _ _=>[]),(fun _=>false),zJ0,q70 a0 a1 a2 K hk⟩
  · exact h.elim
abbrev T49:Tabs:=(Tabs.nil.addF 70 zA2)
theorem zMo:TabsOk Try.prog T49:=(TabsOk.nil.addF zNK)
abbrev G49:Ctrs:=csm T49 (fun _ _=>[]) (fun _=>false)
def zJ2:Ann:=⟨18,[(0,zK [1] [1]),(1,zK [2] [])],
 [],
 [],
 [],[]⟩
abbrev R49:=Bool
abbrev e49 (r:R49):List PA:=[.one (.bool r)]
section
variable {K:List PA→Prop} {g:Gate}
def s49 (g:Gate):Bool :=
  (cond (s70 g.Z (0:Int) (100000:Int))
 (cond (s70 g.Low (-1000000:Int) g.High)
 (decide (g.High≤(1000000:Int)))
 false)
 false)
end
theorem q49 (g:Gate) (K:List PA→Prop) (hk:K (e49 (s49 g))):vcFun Try.prog G49 zJ2 49 [.agg (enc_55 g)] K :=
  zax (by kernel_rfl) (zt hk (fun hk=>(zt hk (fun hk=>hk) (fun hk=>hk))) (fun hk=>hk))
def zFX : List PA → COut
  | [.agg [.int .i64 a0_Z,.int .i64 a0_Low,.int .i64 a0_High]]=>.tot [.one (.bool (s49 (⟨a0_Z,a0_Low,a0_High⟩:Gate)))]
  | _=>.no
theorem zJ3:zah Try.prog 49:=⟨_,rfl,rfl,by kernel_rfl⟩
theorem zPk:Ok Try.prog 49 zFX:=zaz zMo zJ3 fun args K h=>by
  unfold zFX at h
  split at h
  · rename_i a0_Z a0_Low a0_High
    have hk:=h
    exact ⟨(fun _ _=>[]),(fun _=>false),zJ2,q49 (⟨a0_Z,a0_Low,a0_High⟩:Gate) K hk⟩
  · exact h.elim
abbrev T20:Tabs:=((Tabs.nil.addF 49 zFX).addF 70 zA2)
theorem zMp:TabsOk Try.prog T20:=((TabsOk.nil.addF zPk).addF zNK)
abbrev G20:Ctrs:=csm T20 (fun _ _=>[]) (fun _=>false)
def zFY:Ann:=⟨19,[(0,zK [0] []),(1,zK [0,3] []),(2,zK [0,3,7] []),(3,zK [0,3] []),(4,zK [0,3,15] []),(5,zK [2] []),(6,zK [2] [])],
 [(2,zK [0,3] [])],
 [(5,zK [0,3,15] [])],
 [],[]⟩
abbrev R20:=Bool
abbrev e20 (r:R20):List PA:=[.one (.bool r)]
@[irreducible] def z20:=ptF Try.prog G20 zFY Try.f20
def zCt (l_a0:(Sl Gate)) (iv0:Int):St:=⟨[(0,zS enc_55 3 l_a0),(3,zI iv0)],[],[]⟩
abbrev zFZ (K:List PA→Prop) (l_a0:(Sl Gate)) (X:St→Prop) (P:Int→Bool) (S:Int→Bool):Prop:=∀ ⦃iv0:Int⦄,P iv0=true→K (e20 (S iv0))→X (zCt l_a0 iv0)
section
variable {K:List PA→Prop} {l_a0:(Sl Gate)} {iv0:Int} {X0:St→Prop} {P0:Int→Bool} {S0:Int→Bool} {iv1:Int} {zq2:Bool}
def zq3 (S0:Int→Bool) (l_a0:(Sl Gate)) (iv1:Int) (zq2:Bool):Bool :=
  (cond zq2
 false
 (S0 (w64 (iv1+(1:Int)))))
def zq4 (P0:Int→Bool) (l_a0:(Sl Gate)) (iv1:Int) (zq2:Bool):Bool :=
  (cond zq2
 true
 (P0 (w64 (iv1+(1:Int)))))
theorem zF0 (hX0:zFZ K l_a0 X0 P0 S0) (hs:zq4 P0 l_a0 iv1 zq2=true) (hk:K (e20 (zq3 S0 l_a0 iv1 zq2))):z20 K [1,0,1,0,0,1,0,0,1] [X0] ⟨[(0,zS enc_55 3 l_a0),(3,zI iv1),(15,zB zq2)],[],[]⟩:=zax (by kernel_rfl) (zc hs hk (fun hs hk=>hk) (fun hs hk=>(hX0 hs hk)))
def zhD (l_a0:(Sl Gate)) (S0:Int→Bool) (iv0:Int):Bool :=
  (cond (decide (iv0 < (l_a0.len : Int)))
 (zq3 S0 l_a0 iv0 (!(s49 (l_a0.get iv0.toNat))))
 (s70 (l_a0.len:Int) (1:Int) (24:Int)))
def zhE (l_a0:(Sl Gate)) (P0:Int→Bool) (iv0:Int):Bool :=
  (cond (decide (iv0 < (l_a0.len : Int)))
 (decide ((0≤iv0∧iv0 < (l_a0.len:Int))) &&
 (zq4 P0 l_a0 iv0 (!(s49 (l_a0.get iv0.toNat)))))
 true)
def zhF (l_a0:(Sl Gate)):Nat→Int→Bool:=lpO (fun _=>default) (zhD l_a0)
def zhG (l_a0:(Sl Gate)):Nat→Int→Bool:=lpO (fun _=>false) (zhE l_a0)
def zyr (l_a0:(Sl Gate)) (iv0:Int):Bool:=zhF l_a0 Fuel iv0
def zys (l_a0:(Sl Gate)) (iv0:Int):Bool:=zhG l_a0 Fuel iv0
theorem zF1 (hs:zys l_a0 iv0=true) (hk:K (e20 (zyr l_a0 iv0))):z20 K [1,0,1,0] [] (zCt l_a0 iv0) :=
  zl (fun X=>z20 K [1,0,1,0,0] [X]) (by kernel_rfl) fun X0 hX =>
  (show ∀ k, zFZ K l_a0 X0 (zhG l_a0 k) (zhF l_a0 k) from zfu _ _ (zhE l_a0) (zhD l_a0) (zFZ K l_a0 X0)
 (by intro _ hs;exact absurd hs Bool.false_ne_true)
 (by intro P0 S0 hX0 iv0 hs hk;exact hX _ (zax (by kernel_rfl) (zc hs hk (fun hs hk=>(zaw hs fun hc hs=>And.intro hc (zF0 hX0 hs hk))) (fun hs hk=>hk))))) _ hs hk
def s20 (l_a0:(Sl Gate)):Bool :=
  (zyr l_a0 (0:Int))
def p20 (l_a0:(Sl Gate)):Bool :=
  (zys l_a0 (0:Int))
end
theorem q20 (l_a0:(Sl Gate)) (K:List PA→Prop) (hs:p20 l_a0=true) (hk:K (e20 (s20 l_a0))):vcFun Try.prog G20 zFY 20 [.one (.sl l_a0.len 3 (fun i=>enc_55 (l_a0.get i)))] K :=
  zax (by kernel_rfl) (zF1 hs hk)
def zF2 : List PA → COut
  | [.one (.sl a0_n a0_s a0_g)]=>.det (IsE enc_55 3 a0_s a0_g∧p20 (⟨a0_n,zad a0_g⟩:(Sl Gate))=true) [.one (.bool (s20 (⟨a0_n,zad a0_g⟩:(Sl Gate))))]
  | _=>.no
theorem zJ4:zah Try.prog 20:=⟨_,rfl,rfl,by kernel_rfl⟩
theorem zPl:Ok Try.prog 20 zF2:=zaz zMp zJ4 fun args K h=>by
  unfold zF2 at h
  split at h
  · rename_i a0_n a0_s a0_g
    obtain ⟨⟨⟨rfl,a0_f,rfl⟩,hs⟩,hk⟩:=h
    try rw [zac a0_f] at hs
    try rw [zac a0_f] at hk
    exact ⟨(fun _ _=>[]),(fun _=>false),zFY,q20 (⟨a0_n,a0_f⟩:(Sl Gate)) K hs hk⟩
  · exact h.elim
abbrev T22:Tabs:=Tabs.nil
theorem zMq:TabsOk Try.prog T22:=TabsOk.nil
abbrev G22:Ctrs:=csm T22 (fun _ _=>[]) (fun _=>false)
def zF3:Ann:=⟨20,[(0,zK [0] []),(1,zK [0,3] []),(2,zK [0,3,7] []),(3,zK [0,3] []),(4,zK [0,3,19] []),(5,zK [2] []),(6,zK [2] [])],
 [(2,zK [0,3] [])],
 [],
 [],[]⟩
abbrev R22:=Bool
abbrev e22 (r:R22):List PA:=[.one (.bool r)]
@[irreducible] def z22:=ptF Try.prog G22 zF3 Try.f22
def zCu (zaa:(Sl Gate)) (iv0:Int):St:=⟨[(0,zS enc_55 3 zaa),(3,zI iv0)],[],[]⟩
abbrev zJ5 (K:List PA→Prop) (zaa:(Sl Gate)) (X:St→Prop) (P:Int→Bool) (S:Int→Bool):Prop:=∀ ⦃iv0:Int⦄,P iv0=true→K (e22 (S iv0))→X (zCu zaa iv0)
section
variable {K:List PA→Prop} {zaa:(Sl Gate)} {iv0:Int} {X0:St→Prop} {P0:Int→Bool} {S0:Int→Bool}
def zhH (zaa:(Sl Gate)) (S0:Int→Bool) (iv0:Int):Bool :=
  (cond (decide (iv0 < (zaa.len : Int)))
 (cond ((zaa.get iv0.toNat).Z != (zaa.get 0).Z)
 false
 (S0 (w64 (iv0+(1:Int)))))
 true)
def zhI (zaa:(Sl Gate)) (P0:Int→Bool) (iv0:Int):Bool :=
  (cond (decide (iv0 < (zaa.len : Int)))
 (decide ((0≤iv0∧iv0 < (zaa.len:Int))) &&
 (decide ((0≤(0:Int)∧(0:Int) < (zaa.len:Int))) &&
 (cond ((zaa.get iv0.toNat).Z != (zaa.get 0).Z)
 true
 (P0 (w64 (iv0+(1:Int)))))))
 true)
def zhJ (zaa:(Sl Gate)):Nat→Int→Bool:=lpO (fun _=>default) (zhH zaa)
def zhK (zaa:(Sl Gate)):Nat→Int→Bool:=lpO (fun _=>false) (zhI zaa)
def zyt (zaa:(Sl Gate)) (iv0:Int):Bool:=zhJ zaa Fuel iv0
def zyu (zaa:(Sl Gate)) (iv0:Int):Bool:=zhK zaa Fuel iv0
theorem zF4 (hs:zyu zaa iv0=true) (hk:K (e22 (zyt zaa iv0))):z22 K [1,0,1,0] [] (zCu zaa iv0) :=
  zl (fun X=>z22 K [1,0,1,0,0] [X]) (by kernel_rfl) fun X0 hX =>
  (show ∀ k, zJ5 K zaa X0 (zhK zaa k) (zhJ zaa k) from zfu _ _ (zhI zaa) (zhH zaa) (zJ5 K zaa X0)
 (by intro _ hs;exact absurd hs Bool.false_ne_true)
 (by intro P0 S0 hX0 iv0 hs hk;exact hX _ (zax (by kernel_rfl) (zc hs hk (fun hs hk=>(zaw hs fun hc hs=>And.intro hc (zaw hs fun hc hs=>And.intro hc (zc hs hk (fun hs hk=>hk) (fun hs hk=>(hX0 hs hk)))))) (fun hs hk=>hk))))) _ hs hk
def s22 (zaa:(Sl Gate)):Bool :=
  (zyt zaa (1:Int))
def p22 (zaa:(Sl Gate)):Bool :=
  (zyu zaa (1:Int))
end
theorem q22 (zaa:(Sl Gate)) (K:List PA→Prop) (hs:p22 zaa=true) (hk:K (e22 (s22 zaa))):vcFun Try.prog G22 zF3 22 [.one (.sl zaa.len 3 (fun i=>enc_55 (zaa.get i)))] K :=
  zax (by kernel_rfl) (zF4 hs hk)
def zA3 : List PA → COut
  | [.one (.sl a0_n a0_s a0_g)]=>.det (IsE enc_55 3 a0_s a0_g∧p22 (⟨a0_n,zad a0_g⟩:(Sl Gate))=true) [.one (.bool (s22 (⟨a0_n,zad a0_g⟩:(Sl Gate))))]
  | _=>.no
theorem zJ6:zah Try.prog 22:=⟨_,rfl,rfl,by kernel_rfl⟩
theorem zPm:Ok Try.prog 22 zA3:=zaz zMq zJ6 fun args K h=>by
  unfold zA3 at h
  split at h
  · rename_i a0_n a0_s a0_g
    obtain ⟨⟨⟨rfl,a0_f,rfl⟩,hs⟩,hk⟩:=h
    try rw [zac a0_f] at hs
    try rw [zac a0_f] at hk
    exact ⟨(fun _ _=>[]),(fun _=>false),zF3,q22 (⟨a0_n,a0_f⟩:(Sl Gate)) K hs hk⟩
  · exact h.elim
abbrev zNL:Tabs:=Tabs.nil
theorem zJ7:TabsOk Try.prog zNL:=TabsOk.nil
abbrev zPn:Ctrs:=csm zNL (fun _ _=>[]) (fun _=>false)
def zCv:Ann:=⟨30,[(0,zK [1,2] [2]),(1,zK [4,5] [])],
 [],
 [],
 [],[]⟩
abbrev zPo:=(Int×Int)
abbrev zPp (r:zPo):List PA:=[.one (.int .i64 r.1),.one (.int .i64 r.2)]
section
variable {K:List PA→Prop} {l_a0:Line} {z:Int}
def zq5 (l_a0:Line) (z:Int):(Int×Int) :=
  ((w64 ((w64 (l_a0.Start.Num * l_a0.Slope.Den))+(w64 ((w64 (l_a0.Slope.Num * z)) * l_a0.Start.Den)))),(w64 (l_a0.Start.Den * l_a0.Slope.Den)))
end
theorem zPq (l_a0:Line) (z:Int) (K:List PA→Prop) (hk:K (zPp (zq5 l_a0 z))):vcFun Try.prog zPn zCv 104 [.agg (zbs l_a0),.one (.int .i64 z)] K :=
  zax (by kernel_rfl) hk
def zyv : List PA → COut
  | [.agg [.int .i64 a0_Slope_Num,.int .i64 a0_Slope_Den,.int .i64 a0_Start_Num,.int .i64 a0_Start_Den],.one (.int .i64 a1)]=>.tot [.one (.int .i64 ((zq5 (⟨(⟨a0_Slope_Num,a0_Slope_Den⟩:Frac),(⟨a0_Start_Num,a0_Start_Den⟩:Frac)⟩:Line) a1).1)),.one (.int .i64 ((zq5 (⟨(⟨a0_Slope_Num,a0_Slope_Den⟩:Frac),(⟨a0_Start_Num,a0_Start_Den⟩:Frac)⟩:Line) a1).2))]
  | _=>.no
theorem zF5:zah Try.prog 104:=⟨_,rfl,rfl,by kernel_rfl⟩
theorem zMr:Ok Try.prog 104 zyv:=zaz zJ7 zF5 fun args K h=>by
  unfold zyv at h
  split at h
  · rename_i a0_Slope_Num a0_Slope_Den a0_Start_Num a0_Start_Den a1
    have hk:=h
    exact ⟨(fun _ _=>[]),(fun _=>false),zCv,zPq (⟨(⟨a0_Slope_Num,a0_Slope_Den⟩:Frac),(⟨a0_Start_Num,a0_Start_Den⟩:Frac)⟩:Line) a1 K hk⟩
  · exact h.elim
abbrev T72:Tabs:=(Tabs.nil.addF 104 zyv)
theorem zMs:TabsOk Try.prog T72:=(TabsOk.nil.addF zMr)
abbrev G72:Ctrs:=csm T72 (fun _ _=>[]) (fun _=>false)
def zJ8:Ann:=⟨28,[(0,zK [2,3] [2,3]),(1,zK [3,5,6] [3]),(2,zK [4] [])],
 [],
 [],
 [],[]⟩
abbrev R72:=Bool
abbrev e72 (r:R72):List PA:=[.one (.bool r)]
section
variable {K:List PA→Prop} {l_a0:Line} {g:Gate}
def s72 (l_a0:Line) (g:Gate):Bool :=
  (cond (decide ((w64 (g.Low * ((zq5 l_a0 g.Z).2))) ≤ ((zq5 l_a0 g.Z).1)))
 (decide (((zq5 l_a0 g.Z).1)≤(w64 (g.High * ((zq5 l_a0 g.Z).2)))))
 false)
end
theorem q72 (l_a0:Line) (g:Gate) (K:List PA→Prop) (hk:K (e72 (s72 l_a0 g))):vcFun Try.prog G72 zJ8 72 [.agg (zbs l_a0),.agg (enc_55 g)] K :=
  zax (by kernel_rfl) (zt hk (fun hk=>hk) (fun hk=>hk))
def zF6 : List PA → COut
  | [.agg [.int .i64 a0_Slope_Num,.int .i64 a0_Slope_Den,.int .i64 a0_Start_Num,.int .i64 a0_Start_Den],.agg [.int .i64 a1_Z,.int .i64 a1_Low,.int .i64 a1_High]]=>.tot [.one (.bool (s72 (⟨(⟨a0_Slope_Num,a0_Slope_Den⟩:Frac),(⟨a0_Start_Num,a0_Start_Den⟩:Frac)⟩:Line) (⟨a1_Z,a1_Low,a1_High⟩:Gate)))]
  | _=>.no
theorem zJ9:zah Try.prog 72:=⟨_,rfl,rfl,by kernel_rfl⟩
theorem zPr:Ok Try.prog 72 zF6:=zaz zMs zJ9 fun args K h=>by
  unfold zF6 at h
  split at h
  · rename_i a0_Slope_Num a0_Slope_Den a0_Start_Num a0_Start_Den a1_Z a1_Low a1_High
    have hk:=h
    exact ⟨(fun _ _=>[]),(fun _=>false),zJ8,q72 (⟨(⟨a0_Slope_Num,a0_Slope_Den⟩:Frac),(⟨a0_Start_Num,a0_Start_Den⟩:Frac)⟩:Line) (⟨a1_Z,a1_Low,a1_High⟩:Gate) K hk⟩
  · exact h.elim
abbrev T27:Tabs:=(Tabs.nil.addF 72 zF6)
theorem zMt:TabsOk Try.prog T27:=(TabsOk.nil.addF zPr)
abbrev G27:Ctrs:=csm T27 (fun _ _=>[]) (fun _=>false)
def zF7:Ann:=⟨24,[(0,zK [1,2] [2]),(1,zK [1,2,5] [2]),(2,zK [1,2,5,6] [2]),(3,zK [1,2,5,6,10] [2,22]),(4,zK [1,2,5,6] [2,22]),(5,zK [1,2,5,6,18] [2,22]),(6,zK [1,2,5,6] [2,22]),(7,zK [4] [22])],
 [(3,⟨[1,2,5,6],[2,22],[(5,22,3,fun _=>zaj default)],[],[],[],[]⟩)],
 [(6,zK [1,2,5,6,18] [2,22])],
 [],[]⟩
abbrev R27:=(Sl Int)
abbrev e27 (r:R27):List PA:=[.one (.sl r.len 1 (fun i=>zaj (r.get i)))]
@[irreducible] def z27:=ptF Try.prog G27 zF7 Try.f27
def zCw (l_a0:Line) (zaa:(Sl Gate)) (iv0:Int) (zbt:(Sl Int)) (zce:Nat→List PV):St:=⟨[(1,zS enc_55 3 zaa),(2,zp 2 0),(5,zv 22),(6,zI iv0)],[(2,.box 37 (zm (zbs l_a0))),(22,.vec 3 1 8 zbt.len zce)],[]⟩
abbrev zF8 (K:List PA→Prop) (l_a0:Line) (zaa:(Sl Gate)) (X:St→Prop) (P:Int→(Sl Int)→Bool) (S:Int→(Sl Int)→(Sl Int)):Prop:=∀ ⦃iv0:Int⦄ ⦃zbt:(Sl Int)⦄ ⦃zce:Nat→List PV⦄,P iv0 zbt=true→K (e27 (S iv0 zbt))→zce=zg zaj zbt→X (zCw l_a0 zaa iv0 zbt zce)
section
variable {K:List PA→Prop} {l_a0:Line} {zaa:(Sl Gate)} {iv0:Int} {zbt:(Sl Int)} {zce:Nat→List PV} {X0:St→Prop} {P0:Int→(Sl Int)→Bool} {S0:Int→(Sl Int)→(Sl Int)} {iv1:Int} {zq6:Bool} {zfb:(Sl Int)} {zyw:Nat→List PV}
def zq7 (S0:Int→(Sl Int)→(Sl Int)) (l_a0:Line) (zaa:(Sl Gate)) (iv1:Int) (zq6:Bool) (zfb:(Sl Int)):(Sl Int) :=
  (cond zq6
 (S0 (w64 (iv1+(1:Int))) (⟨(zfb.len+1),(zc7 zfb.len zfb.get (fun _=>iv1))⟩:Sl Int))
 (S0 (w64 (iv1+(1:Int))) zfb))
def zq8 (P0:Int→(Sl Int)→Bool) (l_a0:Line) (zaa:(Sl Gate)) (iv1:Int) (zq6:Bool) (zfb:(Sl Int)):Bool :=
  (cond zq6
 (decide (((zfb.len+1) * 8≤140737488355328∧zfb.len+1≤9223372036854775807)) &&
 (P0 (w64 (iv1+(1:Int))) (⟨(zfb.len+1),(zc7 zfb.len zfb.get (fun _=>iv1))⟩:Sl Int)))
 (P0 (w64 (iv1+(1:Int))) zfb))
theorem zF9 (hX0:zF8 K l_a0 zaa X0 P0 S0) (hs:zq8 P0 l_a0 zaa iv1 zq6 zfb=true) (hk:K (e27 (zq7 S0 l_a0 zaa iv1 zq6 zfb))) (zGa:zyw=zg zaj zfb):z27 K [1,1,0,1,0,0,1,0,0,1] [X0] ⟨[(1,zS enc_55 3 zaa),(2,zp 2 0),(5,zv 22),(6,zI iv1),(18,zB zq6)],[(2,.box 37 (zm (zbs l_a0))),(22,.vec 3 1 8 zfb.len zyw)],[]⟩:=by subst zGa;exact zax (by kernel_rfl) (zc hs hk (fun hs hk=>(zaw hs fun hc hs=>And.intro hc (hX0 hs hk (zim (enc:=zaj) (f:=zfb.get) (h:=(fun _=>iv1)) rfl rfl)))) (fun hs hk=>(hX0 hs hk rfl)))
def zhL (l_a0:Line) (zaa:(Sl Gate)) (S0:Int→(Sl Int)→(Sl Int)) (iv0:Int) (zbt:(Sl Int)):(Sl Int) :=
  (cond (decide (iv0 < (zaa.len : Int)))
 (zq7 S0 l_a0 zaa iv0 (s72 l_a0 (zaa.get iv0.toNat)) zbt)
 zbt)
def zhM (l_a0:Line) (zaa:(Sl Gate)) (P0:Int→(Sl Int)→Bool) (iv0:Int) (zbt:(Sl Int)):Bool :=
  (cond (decide (iv0 < (zaa.len : Int)))
 (decide ((0≤iv0∧iv0 < (zaa.len:Int))) &&
 (zq8 P0 l_a0 zaa iv0 (s72 l_a0 (zaa.get iv0.toNat)) zbt))
 true)
def zhN (l_a0:Line) (zaa:(Sl Gate)):Nat→Int→(Sl Int)→(Sl Int):=lpO (fun _ _=>default) (zhL l_a0 zaa)
def zhO (l_a0:Line) (zaa:(Sl Gate)):Nat→Int→(Sl Int)→Bool:=lpO (fun _ _=>false) (zhM l_a0 zaa)
def zyx (l_a0:Line) (zaa:(Sl Gate)) (iv0:Int) (zbt:(Sl Int)):(Sl Int):=zhN l_a0 zaa Fuel iv0 zbt
def zyy (l_a0:Line) (zaa:(Sl Gate)) (iv0:Int) (zbt:(Sl Int)):Bool:=zhO l_a0 zaa Fuel iv0 zbt
theorem zGb (hs:zyy l_a0 zaa iv0 zbt=true) (hk:K (e27 (zyx l_a0 zaa iv0 zbt))) (zf1:zce=zg zaj zbt):z27 K [1,1,0,1,0] [] (zCw l_a0 zaa iv0 zbt zce) :=
  zl (fun X=>z27 K [1,1,0,1,0,0] [X]) (by kernel_rfl) fun X0 hX =>
  (show ∀ k, zF8 K l_a0 zaa X0 (zhO l_a0 zaa k) (zhN l_a0 zaa k) from zfu _ _ (zhM l_a0 zaa) (zhL l_a0 zaa) (zF8 K l_a0 zaa X0)
 (by intro _ _ _ hs;exact absurd hs Bool.false_ne_true)
 (by intro P0 S0 hX0 iv0 zbt zce hs hk zf1;subst zf1;exact hX _ (zax (by kernel_rfl) (zc hs hk (fun hs hk=>(zaw hs fun hc hs=>And.intro hc (zF9 hX0 hs hk rfl))) (fun hs hk=>hk))))) _ hs hk zf1
def s27 (l_a0:Line) (zaa:(Sl Gate)):(Sl Int) :=
  (zyx l_a0 zaa (0:Int) (⟨0,(fun _=>default)⟩:Sl Int))
def p27 (l_a0:Line) (zaa:(Sl Gate)):Bool :=
  (zyy l_a0 zaa (0:Int) (⟨0,(fun _=>default)⟩:Sl Int))
end
theorem q27 (l_a0:Line) (zaa:(Sl Gate)) (K:List PA→Prop) (hs:p27 l_a0 zaa=true) (hk:K (e27 (s27 l_a0 zaa))):vcFun Try.prog G27 zF7 27 [.agg (zbs l_a0),.one (.sl zaa.len 3 (fun i=>enc_55 (zaa.get i)))] K :=
  zax (by kernel_rfl) (zGb hs hk rfl)
def zGc : List PA → COut
  | [.agg [.int .i64 a0_Slope_Num,.int .i64 a0_Slope_Den,.int .i64 a0_Start_Num,.int .i64 a0_Start_Den],.one (.sl a1_n a1_s a1_g)]=>.det (IsE enc_55 3 a1_s a1_g∧p27 (⟨(⟨a0_Slope_Num,a0_Slope_Den⟩:Frac),(⟨a0_Start_Num,a0_Start_Den⟩:Frac)⟩:Line) (⟨a1_n,zad a1_g⟩:(Sl Gate))=true) [.one (.sl ((s27 (⟨(⟨a0_Slope_Num,a0_Slope_Den⟩:Frac),(⟨a0_Start_Num,a0_Start_Den⟩:Frac)⟩:Line) (⟨a1_n,zad a1_g⟩:(Sl Gate))).len) 1 (fun i=>zaj ((s27 (⟨(⟨a0_Slope_Num,a0_Slope_Den⟩:Frac),(⟨a0_Start_Num,a0_Start_Den⟩:Frac)⟩:Line) (⟨a1_n,zad a1_g⟩:(Sl Gate))).get i)))]
  | _=>.no
theorem zKa:zah Try.prog 27:=⟨_,rfl,rfl,by kernel_rfl⟩
theorem zPs:Ok Try.prog 27 zGc:=zaz zMt zKa fun args K h=>by
  unfold zGc at h
  split at h
  · rename_i a0_Slope_Num a0_Slope_Den a0_Start_Num a0_Start_Den a1_n a1_s a1_g
    obtain ⟨⟨⟨rfl,a1_f,rfl⟩,hs⟩,hk⟩:=h
    try rw [zac a1_f] at hs
    try rw [zac a1_f] at hk
    exact ⟨(fun _ _=>[]),(fun _=>false),zF7,q27 (⟨(⟨a0_Slope_Num,a0_Slope_Den⟩:Frac),(⟨a0_Start_Num,a0_Start_Den⟩:Frac)⟩:Line) (⟨a1_n,a1_f⟩:(Sl Gate)) K hs hk⟩
  · exact h.elim
abbrev T26:Tabs:=(Tabs.nil.addF 40 ztX)
theorem zMu:TabsOk Try.prog T26:=(TabsOk.nil.addF zNH)
abbrev G26:Ctrs:=csm T26 (fun _ _=>[]) (fun _=>false)
def zGd:Ann:=⟨35,[(0,zK [0,1,2,3,8] [8]),(1,zK [0,1,2,3,8,11] [8]),(2,zK [0,1,2,3,8] [8]),(3,zK [8] [8])],
 [],
 [(3,zK [0,1,2,3,8] [8])],
 [],[]⟩
abbrev R26:=Line
abbrev e26 (r:R26):List PA:=[.agg [.int .i64 r.Slope.Num,.int .i64 r.Slope.Den,.int .i64 r.Start.Num,.int .i64 r.Start.Den]]
@[irreducible] def z26:=ptF Try.prog G26 zGd Try.f26
section
variable {K:List PA→Prop} {z:Int} {x:Int} {w:Int} {y_a3:Int} {zv0:Int} {xv0:Int} {wv0:Int} {yv0:Int}
def zm7 (zv0:Int) (xv0:Int) (wv0:Int) (yv0:Int):Line :=
  (⟨(s40 (w64 (yv0 - xv0)) (w64 (wv0 - zv0))),(s40 (w64 ((w64 (xv0 * wv0)) - (w64 (yv0 * zv0)))) (w64 (wv0 - zv0)))⟩:Line)
def zm8 (zv0:Int) (xv0:Int) (wv0:Int) (yv0:Int):Bool :=
  (decide ((p40 (w64 (yv0 - xv0)) (w64 (wv0 - zv0))=true)) &&
 (decide ((p40 (w64 ((w64 (xv0 * wv0)) - (w64 (yv0 * zv0)))) (w64 (wv0 - zv0))=true)) &&
 true))
theorem zyz (hs:zm8 zv0 xv0 wv0 yv0=true) (hk:K (e26 (zm7 zv0 xv0 wv0 yv0))):z26 K [1,1] [] ⟨[(0,zI zv0),(1,zI xv0),(2,zI wv0),(3,zI yv0),(8,zp 8 0)],[(8,.box 37 (zm (zbs (⟨(⟨(0:Int),(0:Int)⟩:Frac),(⟨(0:Int),(0:Int)⟩:Frac)⟩:Line))))],[]⟩:=zax (by kernel_rfl) (zaw hs fun hc hs=>And.intro hc (zaw hs fun hc hs=>And.intro hc hk))
def s26 (z:Int) (x:Int) (w:Int) (y_a3:Int):Line :=
  (cond (decide (w < z))
 (zm7 w y_a3 z x)
 (zm7 z x w y_a3))
def p26 (z:Int) (x:Int) (w:Int) (y_a3:Int):Bool :=
  (cond (decide (w < z))
 (zm8 w y_a3 z x)
 (zm8 z x w y_a3))
end
theorem q26 (z:Int) (x:Int) (w:Int) (y_a3:Int) (K:List PA→Prop) (hs:p26 z x w y_a3=true) (hk:K (e26 (s26 z x w y_a3))):vcFun Try.prog G26 zGd 26 [.one (.int .i64 z),.one (.int .i64 x),.one (.int .i64 w),.one (.int .i64 y_a3)] K :=
  zax (by kernel_rfl) (zc hs hk (fun hs hk=>(zyz hs hk)) (fun hs hk=>(zyz hs hk)))
def zGe : List PA → COut
  | [.one (.int .i64 a0),.one (.int .i64 a1),.one (.int .i64 a2),.one (.int .i64 a3)]=>.det (p26 a0 a1 a2 a3=true) [.agg [.int .i64 ((s26 a0 a1 a2 a3).Slope.Num),.int .i64 ((s26 a0 a1 a2 a3).Slope.Den),.int .i64 ((s26 a0 a1 a2 a3).Start.Num),.int .i64 ((s26 a0 a1 a2 a3).Start.Den)]]
  | _=>.no
theorem zKb:zah Try.prog 26:=⟨_,rfl,rfl,by kernel_rfl⟩
theorem zPt:Ok Try.prog 26 zGe:=zaz zMu zKb fun args K h=>by
  unfold zGe at h
  split at h
  · rename_i a0 a1 a2 a3
    obtain ⟨hs,hk⟩:=h
    exact ⟨(fun _ _=>[]),(fun _=>false),zGd,q26 a0 a1 a2 a3 K hs hk⟩
  · exact h.elim
abbrev T25:Tabs:=Tabs.nil
theorem zMv:TabsOk Try.prog T25:=TabsOk.nil
abbrev G25:Ctrs:=csm T25 (fun _ _=>[]) (fun _=>false)
def zKc:Ann:=⟨44,[(0,zK [0,1,2,3] []),(1,zK [8] [])],
 [],
 [],
 [],[]⟩
abbrev R25:=Bool
abbrev e25 (r:R25):List PA:=[.one (.bool r)]
section
variable {K:List PA→Prop} {z:Int} {x:Int} {w:Int} {y_a3:Int}
def s25 (z:Int) (x:Int) (w:Int) (y_a3:Int):Bool :=
  (cond (decide (z ≥ (0:Int)))
 (cond (decide (z ≤ (100000:Int)))
 (cond (decide (w ≥ (0:Int)))
 (cond (decide (w ≤ (100000:Int)))
 (cond (z != w)
 (cond (decide (x ≥ (-1000000:Int)))
 (cond (decide (x ≤ (1000000:Int)))
 (cond (decide (y_a3 ≥ (-1000000:Int)))
 (decide (y_a3≤(1000000:Int)))
 false)
 false)
 false)
 false)
 false)
 false)
 false)
 false)
end
theorem q25 (z:Int) (x:Int) (w:Int) (y_a3:Int) (K:List PA→Prop) (hk:K (e25 (s25 z x w y_a3))):vcFun Try.prog G25 zKc 25 [.one (.int .i64 z),.one (.int .i64 x),.one (.int .i64 w),.one (.int .i64 y_a3)] K :=
  zax (by kernel_rfl) (zt hk (fun hk=>(zt hk (fun hk=>(zt hk (fun hk=>(zt hk (fun hk=>(zt hk (fun hk=>(zt hk (fun hk=>(zt hk (fun hk=>(zt hk (fun hk=>hk) (fun hk=>hk))) (fun hk=>hk))) (fun hk=>hk))) (fun hk=>hk))) (fun hk=>hk))) (fun hk=>hk))) (fun hk=>hk))) (fun hk=>hk))
def zGf : List PA → COut
  | [.one (.int .i64 a0),.one (.int .i64 a1),.one (.int .i64 a2),.one (.int .i64 a3)]=>.tot [.one (.bool (s25 a0 a1 a2 a3))]
  | _=>.no
theorem zKd:zah Try.prog 25:=⟨_,rfl,rfl,by kernel_rfl⟩
theorem zPu:Ok Try.prog 25 zGf:=zaz zMv zKd fun args K h=>by
  unfold zGf at h
  split at h
  · rename_i a0 a1 a2 a3
    have hk:=h
    exact ⟨(fun _ _=>[]),(fun _=>false),zKc,q25 a0 a1 a2 a3 K hk⟩
  · exact h.elim
abbrev T32:Tabs:=(Tabs.nil.addF 31 zAX)
theorem zMw:TabsOk Try.prog T32:=(TabsOk.nil.addF zNG)
abbrev G32:Ctrs:=csm T32 (fun _ _=>[]) (fun _=>false)
def zKe:Ann:=⟨18,[(0,zK [0,2] [2]),(1,zK [2,4,5] [2]),(2,zK [2,4,5,12] [2]),(3,zK [2,3] [2]),(4,zK [2,3] [2])],
 [],
 [],
 [],[]⟩
abbrev R32:=(Line×Int)
abbrev e32 (r:R32):List PA:=[.agg [.int .i64 r.1.Slope.Num,.int .i64 r.1.Slope.Den,.int .i64 r.1.Start.Num,.int .i64 r.1.Start.Den],.one (.int .i64 r.2)]
section
variable {K:List PA→Prop} {zaa:(Sl Gate)}
def s32 (zaa:(Sl Gate)):(Line×Int) :=
  (cond (((s31 zaa).2) != (0:Int))
 ((⟨(⟨(0:Int),(0:Int)⟩:Frac),(⟨(0:Int),(0:Int)⟩:Frac)⟩:Line),((s31 zaa).2))
 ((((s31 zaa).1).get 0),(0:Int)))
def p32 (zaa:(Sl Gate)):Bool :=
  (decide ((p31 zaa=true)) &&
 (cond (((s31 zaa).2) != (0:Int))
 true
 (decide ((0≤(0:Int)∧(0:Int) < (((s31 zaa).1).len:Int))) &&
 true)))
end
theorem q32 (zaa:(Sl Gate)) (K:List PA→Prop) (hs:p32 zaa=true) (hk:K (e32 (s32 zaa))):vcFun Try.prog G32 zKe 32 [.one (.sl zaa.len 3 (fun i=>enc_55 (zaa.get i)))] K :=
  zax (by kernel_rfl) (zaw hs fun hc hs=>And.intro (And.intro (zE enc_55 3 zaa.get) hc) (zc hs hk (fun hs hk=>hk) (fun hs hk=>(zaw hs fun hc hs=>And.intro hc hk))))
def zGg : List PA → COut
  | [.one (.sl a0_n a0_s a0_g)]=>.det (IsE enc_55 3 a0_s a0_g∧p32 (⟨a0_n,zad a0_g⟩:(Sl Gate))=true) [.agg [.int .i64 (((s32 (⟨a0_n,zad a0_g⟩:(Sl Gate))).1).Slope.Num),.int .i64 (((s32 (⟨a0_n,zad a0_g⟩:(Sl Gate))).1).Slope.Den),.int .i64 (((s32 (⟨a0_n,zad a0_g⟩:(Sl Gate))).1).Start.Num),.int .i64 (((s32 (⟨a0_n,zad a0_g⟩:(Sl Gate))).1).Start.Den)],.one (.int .i64 ((s32 (⟨a0_n,zad a0_g⟩:(Sl Gate))).2))]
  | _=>.no
theorem zKf:zah Try.prog 32:=⟨_,rfl,rfl,by kernel_rfl⟩
theorem ok32:Ok Try.prog 32 zGg:=zaz zMw zKf fun args K h=>by
  unfold zGg at h
  split at h
  · rename_i a0_n a0_s a0_g
    obtain ⟨⟨⟨rfl,a0_f,rfl⟩,hs⟩,hk⟩:=h
    try rw [zac a0_f] at hs
    try rw [zac a0_f] at hk
    exact ⟨(fun _ _=>[]),(fun _=>false),zKe,q32 (⟨a0_n,a0_f⟩:(Sl Gate)) K hs hk⟩
  · exact h.elim
abbrev T41:Tabs:=(((Tabs.nil.addF 64 zpG).addF 74 zoj).addF 84 zAC)
theorem zMx:TabsOk Try.prog T41:=(((TabsOk.nil.addF zIs).addF zHB).addF zNl)
abbrev G41:Ctrs:=csm T41 (fun _ _=>[]) (fun _=>false)
def zGh:Ann:=⟨47,[(0,zK [0,1] []),(1,zK [0,1,15] []),(2,zK [4] []),(3,zK [0,1,16,17,18] []),(4,zK [0,1,16,17,18,19] []),(5,zK [0,1,5,6,16,17,18] []),(6,zK [0,1,16,17,18,41] []),(7,zK [4] []),(8,zK [0,1,16,17,18] []),(9,zK [4] [])],
 [(4,zK [0,1,16,17,18] [])],
 [(2,zK [0,1,15] []),(3,zK [0,1] []),(7,zK [0,1,16,17,18,41] [])],
 [],[]⟩
abbrev R41:=Bool
abbrev e41 (r:R41):List PA:=[.one (.bool r)]
@[irreducible] def z41:=ptF Try.prog G41 zGh Try.f41
def zCx (zaa:(Sl Gate)) (zcz:(Sl Int)) (zbh:(Sl Int)) (zdm:Int) (zaO:Int) (zfc:Nat→List PV) (zfd:Nat→List PV):St:=⟨[(0,zS enc_55 3 zaa),(1,zP (.sl zcz.len 1 zfc)),(16,zP (.sl zbh.len 1 zfd)),(17,zI zdm),(18,zI zaO)],[],[]⟩
abbrev zGi (K:List PA→Prop) (zaa:(Sl Gate)) (X:St→Prop) (P:(Sl Int)→(Sl Int)→Int→Int→Bool) (S:(Sl Int)→(Sl Int)→Int→Int→Bool):Prop:=∀ ⦃zcz:(Sl Int)⦄ ⦃zbh:(Sl Int)⦄ ⦃zdm:Int⦄ ⦃zaO:Int⦄ ⦃zfc:Nat→List PV⦄ ⦃zfd:Nat→List PV⦄,P zcz zbh zdm zaO=true→K (e41 (S zcz zbh zdm zaO))→zfc=zg zaj zcz→zfd=zg zaj zbh→X (zCx zaa zcz zbh zdm zaO zfc zfd)
section
variable {K:List PA→Prop} {zaa:(Sl Gate)} {set_a1:(Sl Int)} {zb4:(Sl Int)} {ziw:Bool} {zq9:Nat→List PV} {zfe:(Sl Int)} {zra:Nat→List PV} {zcz:(Sl Int)} {zbh:(Sl Int)} {zdm:Int} {zaO:Int} {zfc:Nat→List PV} {zfd:Nat→List PV} {X2:St→Prop} {P2:(Sl Int)→(Sl Int)→Int→Int→Bool} {S2:(Sl Int)→(Sl Int)→Int→Int→Bool} {zoK:(Sl Int)} {zcD:(Sl Int)} {zrb:Int} {zrd:Int} {zre:Bool} {zyA:Nat→List PV} {zyB:Nat→List PV}
def zhP (S2:(Sl Int)→(Sl Int)→Int→Int→Bool) (zaa:(Sl Gate)) (zoK:(Sl Int)) (zcD:(Sl Int)) (zrb:Int) (zrd:Int) (zre:Bool):Bool :=
  (cond zre
 false
 (S2 zoK zcD zrb (w64 (zrd+(1:Int)))))
def zkd (P2:(Sl Int)→(Sl Int)→Int→Int→Bool) (zaa:(Sl Gate)) (zoK:(Sl Int)) (zcD:(Sl Int)) (zrb:Int) (zrd:Int) (zre:Bool):Bool :=
  (cond zre
 true
 (P2 zoK zcD zrb (w64 (zrd+(1:Int)))))
theorem zrf (hX2:zGi K zaa X2 P2 S2) (hs:zkd P2 zaa zoK zcD zrb zrd zre=true) (hk:K (e41 (zhP S2 zaa zoK zcD zrb zrd zre))) (zGj:zyA=zg zaj zoK) (zGk:zyB=zg zaj zcD):z41 K [1,1,0,1,0,0,1,1,0,0,1,1] [X2] ⟨[(0,zS enc_55 3 zaa),(1,zP (.sl zoK.len 1 zyA)),(16,zP (.sl zcD.len 1 zyB)),(17,zI zrb),(18,zI zrd),(41,zB zre)],[],[]⟩:=by subst zGj;subst zGk;exact zax (by kernel_rfl) (zc hs hk (fun hs hk=>hk) (fun hs hk=>(hX2 hs hk rfl rfl)))
def zd1 (zaa:(Sl Gate)) (S2:(Sl Int)→(Sl Int)→Int→Int→Bool) (zcz:(Sl Int)) (zbh:(Sl Int)) (zdm:Int) (zaO:Int):Bool :=
  (cond (decide (zaO < zdm))
 (cond (!(s74 (zbh.get zaO.toNat) (0:Int) (w64 ((zaa.len : Int) - (1:Int)))))
 (zhP S2 zaa zcz zbh zdm zaO true)
 (cond (decide (zaO > (0:Int)))
 (zhP S2 zaa zcz zbh zdm zaO (decide ((zbh.get zaO.toNat)≤(zcz.get ((w64 (zaO - (1:Int))).toNat)))))
 (zhP S2 zaa zcz zbh zdm zaO false)))
 (!(s84 zaa zcz)))
def zhQ (zaa:(Sl Gate)) (P2:(Sl Int)→(Sl Int)→Int→Int→Bool) (zcz:(Sl Int)) (zbh:(Sl Int)) (zdm:Int) (zaO:Int):Bool :=
  (cond (decide (zaO < zdm))
 (decide ((0≤zaO∧zaO < (zbh.len:Int))) &&
 (cond (!(s74 (zbh.get zaO.toNat) (0:Int) (w64 ((zaa.len : Int) - (1:Int)))))
 (zkd P2 zaa zcz zbh zdm zaO true)
 (cond (decide (zaO > (0:Int)))
 (decide ((0≤(w64 (zaO - (1:Int)))∧(w64 (zaO - (1:Int))) < (zcz.len:Int))) &&
 (zkd P2 zaa zcz zbh zdm zaO (decide ((zbh.get zaO.toNat)≤(zcz.get ((w64 (zaO - (1:Int))).toNat))))))
 (zkd P2 zaa zcz zbh zdm zaO false))))
 (decide ((p84 zaa zcz=true)) &&
 true))
def zdC (zaa:(Sl Gate)):Nat→(Sl Int)→(Sl Int)→Int→Int→Bool:=lpO (fun _ _ _ _=>default) (zd1 zaa)
def zf2 (zaa:(Sl Gate)):Nat→(Sl Int)→(Sl Int)→Int→Int→Bool:=lpO (fun _ _ _ _=>false) (zhQ zaa)
def zyC (zaa:(Sl Gate)) (zcz:(Sl Int)) (zbh:(Sl Int)) (zdm:Int) (zaO:Int):Bool:=zdC zaa Fuel zcz zbh zdm zaO
def zyD (zaa:(Sl Gate)) (zcz:(Sl Int)) (zbh:(Sl Int)) (zdm:Int) (zaO:Int):Bool:=zf2 zaa Fuel zcz zbh zdm zaO
theorem zGl (hs:zyD zaa zcz zbh zdm zaO=true) (hk:K (e41 (zyC zaa zcz zbh zdm zaO))) (zrg:zfc=zg zaj zcz) (zrh:zfd=zg zaj zbh):z41 K [1,1,0,1,0] [] (zCx zaa zcz zbh zdm zaO zfc zfd) :=
  zl (fun X=>z41 K [1,1,0,1,0,0] [X]) (by kernel_rfl) fun X2 hX =>
  (show ∀ k, zGi K zaa X2 (zf2 zaa k) (zdC zaa k) from zfu _ _ (zhQ zaa) (zd1 zaa) (zGi K zaa X2)
 (by intro _ _ _ _ _ _ hs;exact absurd hs Bool.false_ne_true)
 (by intro P2 S2 hX2 zcz zbh zdm zaO zfc zfd hs hk zrg zrh;subst zrg;subst zrh;exact hX _ (zax (by kernel_rfl) (zc hs hk (fun hs hk=>(zaw hs fun hc hs=>And.intro hc (zc hs hk (fun hs hk=>(zrf hX2 hs hk rfl rfl)) (fun hs hk=>(zc hs hk (fun hs hk=>(zaw hs fun hc hs=>And.intro hc (zrf hX2 hs hk rfl rfl))) (fun hs hk=>(zrf hX2 hs hk rfl rfl))))))) (fun hs hk=>(zaw hs fun hc hs=>And.intro (And.intro (zE enc_55 3 zaa.get) (And.intro (zE zaj 1 zcz.get) hc)) hk)))))) _ hs hk zrg zrh
def zke (zaa:(Sl Gate)) (zfe:(Sl Int)):Bool :=
  (zyC zaa zfe zfe (zfe.len:Int) (0:Int))
def zm9 (zaa:(Sl Gate)) (zfe:(Sl Int)):Bool :=
  (zyD zaa zfe zfe (zfe.len:Int) (0:Int))
theorem zGm (hs:zm9 zaa zfe=true) (hk:K (e41 (zke zaa zfe))) (zGn:zra=zg zaj zfe):z41 K [1,1] [] ⟨[(0,zS enc_55 3 zaa),(1,zP (.sl zfe.len 1 zra))],[],[]⟩:=by subst zGn;exact zax (by kernel_rfl) (zGl hs hk rfl rfl)
def zna (zaa:(Sl Gate)) (zb4:(Sl Int)) (ziw:Bool):Bool :=
  (cond ziw
 false
 (zke zaa zb4))
def znb (zaa:(Sl Gate)) (zb4:(Sl Int)) (ziw:Bool):Bool :=
  (cond ziw
 true
 (zm9 zaa zb4))
theorem zyE (hs:znb zaa zb4 ziw=true) (hk:K (e41 (zna zaa zb4 ziw))) (zGo:zq9=zg zaj zb4):z41 K [1,0,1] [] ⟨[(0,zS enc_55 3 zaa),(1,zP (.sl zb4.len 1 zq9)),(15,zB ziw)],[],[]⟩:=by subst zGo;exact zax (by kernel_rfl) (zc hs hk (fun hs hk=>hk) (fun hs hk=>(zGm hs hk rfl)))
def s41 (zaa:(Sl Gate)) (set_a1:(Sl Int)):Bool :=
  (cond (!(s64 zaa))
 (zna zaa set_a1 true)
 (zna zaa set_a1 (!(s74 (set_a1.len:Int) (2:Int) (3:Int)))))
def p41 (zaa:(Sl Gate)) (set_a1:(Sl Int)):Bool :=
  (decide ((p64 zaa=true)) &&
 (cond (!(s64 zaa))
 (znb zaa set_a1 true)
 (znb zaa set_a1 (!(s74 (set_a1.len:Int) (2:Int) (3:Int))))))
end
theorem q41 (zaa:(Sl Gate)) (set_a1:(Sl Int)) (K:List PA→Prop) (hs:p41 zaa set_a1=true) (hk:K (e41 (s41 zaa set_a1))):vcFun Try.prog G41 zGh 41 [.one (.sl zaa.len 3 (fun i=>enc_55 (zaa.get i))),.one (.sl set_a1.len 1 (fun i=>zaj (set_a1.get i)))] K :=
  zax (by kernel_rfl) (zaw hs fun hc hs=>And.intro (And.intro (zE enc_55 3 zaa.get) hc) (zc hs hk (fun hs hk=>(zyE hs hk rfl)) (fun hs hk=>(zyE hs hk rfl))))
def zGp : List PA → COut
  | [.one (.sl a0_n a0_s a0_g),.one (.sl a1_n a1_s a1_g)]=>.det (IsE enc_55 3 a0_s a0_g∧IsE zaj 1 a1_s a1_g∧p41 (⟨a0_n,zad a0_g⟩:(Sl Gate)) (⟨a1_n,zbc a1_g⟩:(Sl Int))=true) [.one (.bool (s41 (⟨a0_n,zad a0_g⟩:(Sl Gate)) (⟨a1_n,zbc a1_g⟩:(Sl Int))))]
  | _=>.no
theorem zKg:zah Try.prog 41:=⟨_,rfl,rfl,by kernel_rfl⟩
theorem zPv:Ok Try.prog 41 zGp:=zaz zMx zKg fun args K h=>by
  unfold zGp at h
  split at h
  · rename_i a0_n a0_s a0_g a1_n a1_s a1_g
    obtain ⟨⟨⟨rfl,a0_f,rfl⟩,⟨rfl,a1_f,rfl⟩,hs⟩,hk⟩:=h
    try rw [zac a0_f] at hs
    try rw [zac a0_f] at hk
    try rw [zb0 a1_f] at hs
    try rw [zb0 a1_f] at hk
    exact ⟨(fun _ _=>[]),(fun _=>false),zGh,q41 (⟨a0_n,a0_f⟩:(Sl Gate)) (⟨a1_n,a1_f⟩:(Sl Int)) K hs hk⟩
  · exact h.elim
abbrev T47:Tabs:=Tabs.nil
theorem zMy:TabsOk Try.prog T47:=TabsOk.nil
abbrev G47:Ctrs:=csm T47 (fun _ _=>[]) (fun _=>false)
def zGq:Ann:=⟨24,[(0,zK [0,1] []),(1,zK [0,1,5] []),(2,zK [0,1,5,6] []),(3,zK [0,1,5,6,10] [22]),(4,zK [0,1,5,6] [22]),(5,zK [0,1,5,6] [22]),(6,zK [4] [22])],
 [(3,⟨[0,1,5,6],[22],[(5,22,55,fun _=>enc_55 default)],[],[],[],[]⟩)],
 [],
 [],[]⟩
abbrev R47:=(Sl Gate)
abbrev e47 (r:R47):List PA:=[.one (.sl r.len 3 (fun i=>enc_55 (r.get i)))]
@[irreducible] def z47:=ptF Try.prog G47 zGq Try.f47
def zCy (zaa:(Sl Gate)) (set_a1:(Sl Int)) (iv0:Int) (zbt:(Sl Gate)) (zce:Nat→List PV):St:=⟨[(0,zS enc_55 3 zaa),(1,zS zaj 1 set_a1),(5,zv 22),(6,zI iv0)],[(22,.vec 55 3 24 zbt.len zce)],[]⟩
abbrev zKh (K:List PA→Prop) (zaa:(Sl Gate)) (set_a1:(Sl Int)) (X:St→Prop) (P:Int→(Sl Gate)→Bool) (S:Int→(Sl Gate)→(Sl Gate)):Prop:=∀ ⦃iv0:Int⦄ ⦃zbt:(Sl Gate)⦄ ⦃zce:Nat→List PV⦄,P iv0 zbt=true→K (e47 (S iv0 zbt))→zce=zg enc_55 zbt→X (zCy zaa set_a1 iv0 zbt zce)
section
variable {K:List PA→Prop} {zaa:(Sl Gate)} {set_a1:(Sl Int)} {iv0:Int} {zbt:(Sl Gate)} {zce:Nat→List PV} {X0:St→Prop} {P0:Int→(Sl Gate)→Bool} {S0:Int→(Sl Gate)→(Sl Gate)}
def zhR (zaa:(Sl Gate)) (set_a1:(Sl Int)) (S0:Int→(Sl Gate)→(Sl Gate)) (iv0:Int) (zbt:(Sl Gate)):(Sl Gate) :=
  (cond (decide (iv0 < (set_a1.len : Int)))
 (S0 (w64 (iv0+(1:Int))) (⟨(zbt.len+1),(zc7 zbt.len zbt.get (fun _=>(zaa.get ((set_a1.get iv0.toNat).toNat))))⟩:Sl Gate))
 zbt)
def zhS (zaa:(Sl Gate)) (set_a1:(Sl Int)) (P0:Int→(Sl Gate)→Bool) (iv0:Int) (zbt:(Sl Gate)):Bool :=
  (cond (decide (iv0 < (set_a1.len : Int)))
 (decide ((0≤iv0∧iv0 < (set_a1.len:Int))) &&
 (decide ((0≤(set_a1.get iv0.toNat)∧(set_a1.get iv0.toNat) < (zaa.len:Int))) &&
 (decide (((zbt.len+1) * 24≤140737488355328∧zbt.len+1≤9223372036854775807)) &&
 (P0 (w64 (iv0+(1:Int))) (⟨(zbt.len+1),(zc7 zbt.len zbt.get (fun _=>(zaa.get ((set_a1.get iv0.toNat).toNat))))⟩:Sl Gate)))))
 true)
def zhT (zaa:(Sl Gate)) (set_a1:(Sl Int)):Nat→Int→(Sl Gate)→(Sl Gate):=lpO (fun _ _=>default) (zhR zaa set_a1)
def zhU (zaa:(Sl Gate)) (set_a1:(Sl Int)):Nat→Int→(Sl Gate)→Bool:=lpO (fun _ _=>false) (zhS zaa set_a1)
def zyF (zaa:(Sl Gate)) (set_a1:(Sl Int)) (iv0:Int) (zbt:(Sl Gate)):(Sl Gate):=zhT zaa set_a1 Fuel iv0 zbt
def zyG (zaa:(Sl Gate)) (set_a1:(Sl Int)) (iv0:Int) (zbt:(Sl Gate)):Bool:=zhU zaa set_a1 Fuel iv0 zbt
theorem zGr (hs:zyG zaa set_a1 iv0 zbt=true) (hk:K (e47 (zyF zaa set_a1 iv0 zbt))) (zf1:zce=zg enc_55 zbt):z47 K [1,1,0,1,0] [] (zCy zaa set_a1 iv0 zbt zce) :=
  zl (fun X=>z47 K [1,1,0,1,0,0] [X]) (by kernel_rfl) fun X0 hX =>
  (show ∀ k, zKh K zaa set_a1 X0 (zhU zaa set_a1 k) (zhT zaa set_a1 k) from zfu _ _ (zhS zaa set_a1) (zhR zaa set_a1) (zKh K zaa set_a1 X0)
 (by intro _ _ _ hs;exact absurd hs Bool.false_ne_true)
 (by intro P0 S0 hX0 iv0 zbt zce hs hk zf1;subst zf1;exact hX _ (zax (by kernel_rfl) (zc hs hk (fun hs hk=>(zaw hs fun hc hs=>And.intro hc (zaw hs fun hc hs=>And.intro hc (zaw hs fun hc hs=>And.intro hc (hX0 hs hk (zim (enc:=enc_55) (f:=zbt.get) (h:=(fun _=>(zaa.get ((set_a1.get iv0.toNat).toNat)))) rfl rfl)))))) (fun hs hk=>hk))))) _ hs hk zf1
def s47 (zaa:(Sl Gate)) (set_a1:(Sl Int)):(Sl Gate) :=
  (zyF zaa set_a1 (0:Int) (⟨0,(fun _=>default)⟩:Sl Gate))
def p47 (zaa:(Sl Gate)) (set_a1:(Sl Int)):Bool :=
  (zyG zaa set_a1 (0:Int) (⟨0,(fun _=>default)⟩:Sl Gate))
end
theorem q47 (zaa:(Sl Gate)) (set_a1:(Sl Int)) (K:List PA→Prop) (hs:p47 zaa set_a1=true) (hk:K (e47 (s47 zaa set_a1))):vcFun Try.prog G47 zGq 47 [.one (.sl zaa.len 3 (fun i=>enc_55 (zaa.get i))),.one (.sl set_a1.len 1 (fun i=>zaj (set_a1.get i)))] K :=
  zax (by kernel_rfl) (zGr hs hk rfl)
def zGs : List PA → COut
  | [.one (.sl a0_n a0_s a0_g),.one (.sl a1_n a1_s a1_g)]=>.det (IsE enc_55 3 a0_s a0_g∧IsE zaj 1 a1_s a1_g∧p47 (⟨a0_n,zad a0_g⟩:(Sl Gate)) (⟨a1_n,zbc a1_g⟩:(Sl Int))=true) [.one (.sl ((s47 (⟨a0_n,zad a0_g⟩:(Sl Gate)) (⟨a1_n,zbc a1_g⟩:(Sl Int))).len) 3 (fun i=>enc_55 ((s47 (⟨a0_n,zad a0_g⟩:(Sl Gate)) (⟨a1_n,zbc a1_g⟩:(Sl Int))).get i)))]
  | _=>.no
theorem zKi:zah Try.prog 47:=⟨_,rfl,rfl,by kernel_rfl⟩
theorem zPw:Ok Try.prog 47 zGs:=zaz zMy zKi fun args K h=>by
  unfold zGs at h
  split at h
  · rename_i a0_n a0_s a0_g a1_n a1_s a1_g
    obtain ⟨⟨⟨rfl,a0_f,rfl⟩,⟨rfl,a1_f,rfl⟩,hs⟩,hk⟩:=h
    try rw [zac a0_f] at hs
    try rw [zac a0_f] at hk
    try rw [zb0 a1_f] at hs
    try rw [zb0 a1_f] at hk
    exact ⟨(fun _ _=>[]),(fun _=>false),zGq,q47 (⟨a0_n,a0_f⟩:(Sl Gate)) (⟨a1_n,a1_f⟩:(Sl Int)) K hs hk⟩
  · exact h.elim
abbrev T10:Tabs:=((((((((((Tabs.nil.addF 18 zFW).addF 20 zF2).addF 22 zA3).addF 25 zGf).addF 26 zGe).addF 27 zGc).addF 32 zGg).addF 38 zAF).addF 41 zGp).addF 47 zGs)
theorem zMz:TabsOk Try.prog T10:=((((((((((TabsOk.nil.addF zPj).addF zPl).addF zPm).addF zPu).addF zPt).addF zPs).addF ok32).addF zNm).addF zPv).addF zPw)
abbrev G10:Ctrs:=csm T10 (fun _ _=>[]) (fun _=>false)
def zGt:Ann:=⟨127,[(0,zK [0,1,2,3,4] []),(1,zK [0,1,2,3,4,26] []),(2,zK [10] []),(3,zK [0,1,2,3,4,11,12] []),(4,zK [0,1,2,3,4,11,12,14] []),(5,zK [0,1,2,3,4,11,12,14,39] []),(6,zK [10] []),(7,zK [0,1,2,3,4,11,74] []),(8,zK [10] []),(9,zK [0,1,2,3,4,11,15] []),(10,zK [0,1,2,3,4,11,15,78] []),(11,zK [0,1,2,3,4,11,15] []),(12,zK [0,1,2,3,4,11,15,110] []),(13,zK [10] []),(14,zK [10] [])],
 [(10,zK [0,1,2,3,4,11,15] [])],
 [(2,zK [0,1,2,3,4,26] []),(3,zK [0,1,2,3,4] []),(4,zK [0,1,2,3,4,11,12] []),(5,zK [0,1,2,3,4,11,12,14] []),(7,zK [0,1,2,3,4,11,14] []),(8,zK [0,1,2,3,4,11,74] []),(9,zK [0,1,2,3,4,11] []),(14,zK [0,1,2,3,4,11] [])],
 [],[]⟩
abbrev R10:=Bool
abbrev e10 (r:R10):List PA:=[.one (.bool r)]
@[irreducible] def z10:=ptF Try.prog G10 zGt Try.f10
def zCz (zaa:(Sl Gate)) (z:Int) (x:Int) (w:Int) (y_a4:Int) (sv6:(Sl Int)) (iv7:Int):St:=⟨[(0,zS enc_55 3 zaa),(1,zI z),(2,zI x),(3,zI w),(4,zI y_a4),(11,zS zaj 1 sv6),(15,zI iv7)],[],[]⟩
abbrev zKj (K:List PA→Prop) (zaa:(Sl Gate)) (z:Int) (x:Int) (w:Int) (y_a4:Int) (sv6:(Sl Int)) (X:St→Prop) (P:Int→Bool) (S:Int→Bool):Prop:=∀ ⦃iv7:Int⦄,P iv7=true→K (e10 (S iv7))→X (zCz zaa z x w y_a4 sv6 iv7)
section
variable {K:List PA→Prop} {zaa:(Sl Gate)} {z:Int} {x:Int} {w:Int} {y_a4:Int} {zri:Bool} {sv2:(Sl Int)} {ev2:Int} {zx7:Nat→List PV} {sv3:(Sl Int)} {fv3:Int} {zx8:Nat→List PV} {sv4:(Sl Int)} {zx9:Nat→List PV} {sv5:(Sl Int)} {zrj:Bool} {zya:Nat→List PV} {sv6:(Sl Int)} {zyb:Nat→List PV} {iv7:Int} {X7:St→Prop} {P7:Int→Bool} {S7:Int→Bool} {sv8:(Sl Int)} {zKk:Nat→List PV}
def zrk (zaa:(Sl Gate)) (z:Int) (x:Int) (w:Int) (y_a4:Int) (sv8:(Sl Int)):Bool :=
  (cond (decide (((s27 (s26 z x w y_a4) (s47 zaa sv8)).len : Int) < (sv8.len : Int)))
 true
 false)
def zrl (zaa:(Sl Gate)) (z:Int) (x:Int) (w:Int) (y_a4:Int) (sv8:(Sl Int)):Bool :=
  (decide ((p26 z x w y_a4=true)) &&
 (decide ((p47 zaa sv8=true)) &&
 (decide ((p27 (s26 z x w y_a4) (s47 zaa sv8)=true)) &&
 true)))
theorem zGu (hs:zrl zaa z x w y_a4 sv8=true) (hk:K (e10 (zrk zaa z x w y_a4 sv8))) (zMA:zKk=zg zaj sv8):z10 K [1,1,1,1,1,1,1] [] ⟨[(0,zS enc_55 3 zaa),(1,zI z),(2,zI x),(3,zI w),(4,zI y_a4),(11,zP (.sl sv8.len 1 zKk))],[],[]⟩:=by subst zMA;exact zax (by kernel_rfl) (zaw hs fun hc hs=>And.intro hc (zaw hs fun hc hs=>And.intro (And.intro (zE enc_55 3 zaa.get) (And.intro (zE zaj 1 sv8.get) hc)) (zaw hs fun hc hs=>And.intro (And.intro (zE enc_55 3 ((s47 zaa sv8).get)) (zy (y:=s47 zaa sv8) (P:=fun y=>p27 (s26 z x w y_a4) y=true) hc)) (zq (zf (s47 zaa sv8) fun y=>(decide (((s27 (s26 z x w y_a4) y).len:Int) < (sv8.len:Int)))) (zt hk (fun hk=>hk) (fun hk=>hk))))))
def zhV (zaa:(Sl Gate)) (z:Int) (x:Int) (w:Int) (y_a4:Int) (sv6:(Sl Int)) (S7:Int→Bool) (iv7:Int):Bool :=
  (cond (decide (iv7 < (sv6.len : Int)))
 (cond (decide ((sv6.get iv7.toNat) < (0:Int)))
 false
 (cond (decide ((sv6.get iv7.toNat) ≥ (zaa.len : Int)))
 false
 (cond (decide (iv7 > (0:Int)))
 (cond (decide ((sv6.get iv7.toNat) ≤ (sv6.get ((w64 (iv7 - (1:Int))).toNat))))
 false
 (S7 (w64 (iv7+(1:Int)))))
 (S7 (w64 (iv7+(1:Int)))))))
 (zrk zaa z x w y_a4 sv6))
def zhW (zaa:(Sl Gate)) (z:Int) (x:Int) (w:Int) (y_a4:Int) (sv6:(Sl Int)) (P7:Int→Bool) (iv7:Int):Bool :=
  (cond (decide (iv7 < (sv6.len : Int)))
 (decide ((0≤iv7∧iv7 < (sv6.len:Int))) &&
 (cond (decide ((sv6.get iv7.toNat) < (0:Int)))
 true
 (decide ((0≤iv7∧iv7 < (sv6.len:Int))) &&
 (cond (decide ((sv6.get iv7.toNat) ≥ (zaa.len : Int)))
 true
 (cond (decide (iv7 > (0:Int)))
 (decide ((0≤iv7∧iv7 < (sv6.len:Int))) &&
 (decide ((0≤(w64 (iv7 - (1:Int)))∧(w64 (iv7 - (1:Int))) < (sv6.len:Int))) &&
 (cond (decide ((sv6.get iv7.toNat) ≤ (sv6.get ((w64 (iv7 - (1:Int))).toNat))))
 true
 (P7 (w64 (iv7+(1:Int)))))))
 (P7 (w64 (iv7+(1:Int)))))))))
 (zrl zaa z x w y_a4 sv6))
def zhX (zaa:(Sl Gate)) (z:Int) (x:Int) (w:Int) (y_a4:Int) (sv6:(Sl Int)):Nat→Int→Bool:=lpO (fun _=>default) (zhV zaa z x w y_a4 sv6)
def zhY (zaa:(Sl Gate)) (z:Int) (x:Int) (w:Int) (y_a4:Int) (sv6:(Sl Int)):Nat→Int→Bool:=lpO (fun _=>false) (zhW zaa z x w y_a4 sv6)
def zrm (zaa:(Sl Gate)) (z:Int) (x:Int) (w:Int) (y_a4:Int) (sv6:(Sl Int)) (iv7:Int):Bool:=zhX zaa z x w y_a4 sv6 Fuel iv7
def zrn (zaa:(Sl Gate)) (z:Int) (x:Int) (w:Int) (y_a4:Int) (sv6:(Sl Int)) (iv7:Int):Bool:=zhY zaa z x w y_a4 sv6 Fuel iv7
theorem zGv (hs:zrn zaa z x w y_a4 sv6 iv7=true) (hk:K (e10 (zrm zaa z x w y_a4 sv6 iv7))):z10 K [1,1,1,1,1,1,0,1,0] [] (zCz zaa z x w y_a4 sv6 iv7) :=
  zl (fun X=>z10 K [1,1,1,1,1,1,0,1,0,0] [X]) (by kernel_rfl) fun X7 hX =>
  (show ∀ k, zKj K zaa z x w y_a4 sv6 X7 (zhY zaa z x w y_a4 sv6 k) (zhX zaa z x w y_a4 sv6 k) from zfu _ _ (zhW zaa z x w y_a4 sv6) (zhV zaa z x w y_a4 sv6) (zKj K zaa z x w y_a4 sv6 X7)
 (by intro _ hs;exact absurd hs Bool.false_ne_true)
 (by intro P7 S7 hX7 iv7 hs hk;exact hX _ (zax (by kernel_rfl) (zc hs hk (fun hs hk=>(zaw hs fun hc hs=>And.intro hc (zc hs hk (fun hs hk=>hk) (fun hs hk=>(zaw hs fun hc hs=>And.intro hc (zc hs hk (fun hs hk=>hk) (fun hs hk=>(zc hs hk (fun hs hk=>(zaw hs fun hc hs=>And.intro hc (zaw hs fun hc hs=>And.intro hc (zc hs hk (fun hs hk=>hk) (fun hs hk=>(hX7 hs hk)))))) (fun hs hk=>(hX7 hs hk)))))))))) (fun hs hk=>(zGu hs hk rfl)))))) _ hs hk
def zro (zaa:(Sl Gate)) (z:Int) (x:Int) (w:Int) (y_a4:Int) (sv6:(Sl Int)):Bool :=
  (zrm zaa z x w y_a4 sv6 (0:Int))
def zrp (zaa:(Sl Gate)) (z:Int) (x:Int) (w:Int) (y_a4:Int) (sv6:(Sl Int)):Bool :=
  (zrn zaa z x w y_a4 sv6 (0:Int))
theorem zGw (hs:zrp zaa z x w y_a4 sv6=true) (hk:K (e10 (zro zaa z x w y_a4 sv6))) (zFK:zyb=zg zaj sv6):z10 K [1,1,1,1,1,1] [] ⟨[(0,zS enc_55 3 zaa),(1,zI z),(2,zI x),(3,zI w),(4,zI y_a4),(11,zP (.sl sv6.len 1 zyb))],[],[]⟩:=by subst zFK;exact zax (by kernel_rfl) (zGv hs hk)
def zhZ (zaa:(Sl Gate)) (z:Int) (x:Int) (w:Int) (y_a4:Int) (sv5:(Sl Int)) (zrj:Bool):Bool :=
  (cond zrj
 false
 (zro zaa z x w y_a4 sv5))
def zh0 (zaa:(Sl Gate)) (z:Int) (x:Int) (w:Int) (y_a4:Int) (sv5:(Sl Int)) (zrj:Bool):Bool :=
  (cond zrj
 true
 (zrp zaa z x w y_a4 sv5))
theorem znc (hs:zh0 zaa z x w y_a4 sv5 zrj=true) (hk:K (e10 (zhZ zaa z x w y_a4 sv5 zrj))) (zFN:zya=zg zaj sv5):z10 K [1,1,1,1,1,0,1] [] ⟨[(0,zS enc_55 3 zaa),(1,zI z),(2,zI x),(3,zI w),(4,zI y_a4),(11,zP (.sl sv5.len 1 zya)),(74,zB zrj)],[],[]⟩:=by subst zFN;exact zax (by kernel_rfl) (zc hs hk (fun hs hk=>hk) (fun hs hk=>(zGw hs hk rfl)))
def zrq (zaa:(Sl Gate)) (z:Int) (x:Int) (w:Int) (y_a4:Int) (fv3:Int) (sv4:(Sl Int)):Bool :=
  (cond (fv3 != (5:Int))
 (zhZ zaa z x w y_a4 sv4 true)
 (cond (decide ((sv4.len : Int) < (2:Int)))
 (zhZ zaa z x w y_a4 sv4 true)
 (cond (decide ((sv4.len : Int) > (3:Int)))
 (zhZ zaa z x w y_a4 sv4 true)
 (zhZ zaa z x w y_a4 sv4 (!(s41 zaa sv4))))))
def zrr (zaa:(Sl Gate)) (z:Int) (x:Int) (w:Int) (y_a4:Int) (fv3:Int) (sv4:(Sl Int)):Bool :=
  (cond (fv3 != (5:Int))
 (zh0 zaa z x w y_a4 sv4 true)
 (cond (decide ((sv4.len : Int) < (2:Int)))
 (zh0 zaa z x w y_a4 sv4 true)
 (cond (decide ((sv4.len : Int) > (3:Int)))
 (zh0 zaa z x w y_a4 sv4 true)
 (decide ((p41 zaa sv4=true)) &&
 (zh0 zaa z x w y_a4 sv4 (!(s41 zaa sv4)))))))
theorem zGx (hs:zrr zaa z x w y_a4 fv3 sv4=true) (hk:K (e10 (zrq zaa z x w y_a4 fv3 sv4))) (zFP:zx9=zg zaj sv4):z10 K [1,1,1,1,1] [] ⟨[(0,zS enc_55 3 zaa),(1,zI z),(2,zI x),(3,zI w),(4,zI y_a4),(11,zP (.sl sv4.len 1 zx9)),(14,zI fv3)],[],[]⟩:=by subst zFP;exact zax (by kernel_rfl) (zc hs hk (fun hs hk=>(znc hs hk rfl)) (fun hs hk=>(zc hs hk (fun hs hk=>(znc hs hk rfl)) (fun hs hk=>(zc hs hk (fun hs hk=>(znc hs hk rfl)) (fun hs hk=>(zaw hs fun hc hs=>And.intro (And.intro (zE enc_55 3 zaa.get) (And.intro (zE zaj 1 sv4.get) hc)) (znc hs hk rfl))))))))
def zrt (zaa:(Sl Gate)) (z:Int) (x:Int) (w:Int) (y_a4:Int) (ev2:Int) (sv3:(Sl Int)) (fv3:Int):Bool :=
  (cond (ev2 != (0:Int))
 (cond (ev2 == (7:Int))
 (cond (fv3 == (0:Int))
 true
 (cond (fv3 == (6:Int))
 (cond (s22 zaa)
 true
 false)
 false))
 false)
 (zrq zaa z x w y_a4 fv3 sv3))
def zru (zaa:(Sl Gate)) (z:Int) (x:Int) (w:Int) (y_a4:Int) (ev2:Int) (sv3:(Sl Int)) (fv3:Int):Bool :=
  (cond (ev2 != (0:Int))
 (cond (ev2 == (7:Int))
 (cond (fv3 == (0:Int))
 true
 (cond (fv3 == (6:Int))
 (decide ((p22 zaa=true)) &&
 true)
 true))
 true)
 (zrr zaa z x w y_a4 fv3 sv3))
theorem zGy (hs:zru zaa z x w y_a4 ev2 sv3 fv3=true) (hk:K (e10 (zrt zaa z x w y_a4 ev2 sv3 fv3))) (zFR:zx8=zg zaj sv3):z10 K [1,1,1,1] [] ⟨[(0,zS enc_55 3 zaa),(1,zI z),(2,zI x),(3,zI w),(4,zI y_a4),(11,zP (.sl sv3.len 1 zx8)),(12,zI ev2),(14,zI fv3)],[],[]⟩:=by subst zFR;exact zax (by kernel_rfl) (zc hs hk (fun hs hk=>(zc hs hk (fun hs hk=>(zc hs hk (fun hs hk=>hk) (fun hs hk=>(zc hs hk (fun hs hk=>(zaw hs fun hc hs=>And.intro (And.intro (zE enc_55 3 zaa.get) hc) (zt hk (fun hk=>hk) (fun hk=>hk)))) (fun hs hk=>hk))))) (fun hs hk=>hk))) (fun hs hk=>(zGx hs hk rfl)))
def zrv (zaa:(Sl Gate)) (z:Int) (x:Int) (w:Int) (y_a4:Int) (sv2:(Sl Int)) (ev2:Int):Bool :=
  (zrt zaa z x w y_a4 ev2 sv2 ((s32 zaa).2))
def zrx (zaa:(Sl Gate)) (z:Int) (x:Int) (w:Int) (y_a4:Int) (sv2:(Sl Int)) (ev2:Int):Bool :=
  (decide ((p32 zaa=true)) &&
 (zru zaa z x w y_a4 ev2 sv2 ((s32 zaa).2)))
theorem zGz (hs:zrx zaa z x w y_a4 sv2 ev2=true) (hk:K (e10 (zrv zaa z x w y_a4 sv2 ev2))) (zFT:zx7=zg zaj sv2):z10 K [1,1,1] [] ⟨[(0,zS enc_55 3 zaa),(1,zI z),(2,zI x),(3,zI w),(4,zI y_a4),(11,zP (.sl sv2.len 1 zx7)),(12,zI ev2)],[],[]⟩:=by subst zFT;exact zax (by kernel_rfl) (zaw hs fun hc hs=>And.intro (And.intro (zE enc_55 3 zaa.get) hc) (zGy hs hk rfl))
def znd (zaa:(Sl Gate)) (z:Int) (x:Int) (w:Int) (y_a4:Int):Bool :=
  (zrv zaa z x w y_a4 ((s38 zaa).1) ((s38 zaa).2))
def zne (zaa:(Sl Gate)) (z:Int) (x:Int) (w:Int) (y_a4:Int):Bool :=
  (decide ((p38 zaa=true)) &&
 (zrx zaa z x w y_a4 ((s38 zaa).1) ((s38 zaa).2)))
theorem zGA (hs:zne zaa z x w y_a4=true) (hk:K (e10 (znd zaa z x w y_a4))):z10 K [1,1] [] ⟨[(0,zS enc_55 3 zaa),(1,zI z),(2,zI x),(3,zI w),(4,zI y_a4)],[],[]⟩:=zax (by kernel_rfl) (zaw hs fun hc hs=>And.intro (And.intro (zE enc_55 3 zaa.get) hc) (zGz hs hk rfl))
def znf (zaa:(Sl Gate)) (z:Int) (x:Int) (w:Int) (y_a4:Int) (zri:Bool):Bool :=
  (cond zri
 true
 (znd zaa z x w y_a4))
def zng (zaa:(Sl Gate)) (z:Int) (x:Int) (w:Int) (y_a4:Int) (zri:Bool):Bool :=
  (cond zri
 true
 (zne zaa z x w y_a4))
theorem zyH (hs:zng zaa z x w y_a4 zri=true) (hk:K (e10 (znf zaa z x w y_a4 zri))):z10 K [1,0,1] [] ⟨[(0,zS enc_55 3 zaa),(1,zI z),(2,zI x),(3,zI w),(4,zI y_a4),(26,zB zri)],[],[]⟩:=zax (by kernel_rfl) (zc hs hk (fun hs hk=>hk) (fun hs hk=>(zGA hs hk)))
def s10 (zaa:(Sl Gate)) (z:Int) (x:Int) (w:Int) (y_a4:Int):Bool :=
  (cond (!(s20 zaa))
 (znf zaa z x w y_a4 true)
 (znf zaa z x w y_a4 (!(s25 z x w y_a4))))
def p10 (zaa:(Sl Gate)) (z:Int) (x:Int) (w:Int) (y_a4:Int):Bool :=
  (decide ((p20 zaa=true)) &&
 (cond (!(s20 zaa))
 (zng zaa z x w y_a4 true)
 (zng zaa z x w y_a4 (!(s25 z x w y_a4)))))
end
theorem q10 (zaa:(Sl Gate)) (z:Int) (x:Int) (w:Int) (y_a4:Int) (K:List PA→Prop) (hs:p10 zaa z x w y_a4=true) (hk:K (e10 (s10 zaa z x w y_a4))):vcFun Try.prog G10 zGt 10 [.one (.sl zaa.len 3 (fun i=>enc_55 (zaa.get i))),.one (.int .i64 z),.one (.int .i64 x),.one (.int .i64 w),.one (.int .i64 y_a4)] K :=
  zax (by kernel_rfl) (zaw hs fun hc hs=>And.intro (And.intro (zE enc_55 3 zaa.get) hc) (zc hs hk (fun hs hk=>(zyH hs hk)) (fun hs hk=>(zyH hs hk))))
def zKl : List PA → COut
  | [.one (.sl a0_n a0_s a0_g),.one (.int .i64 a1),.one (.int .i64 a2),.one (.int .i64 a3),.one (.int .i64 a4)]=>.det (IsE enc_55 3 a0_s a0_g∧p10 (⟨a0_n,zad a0_g⟩:(Sl Gate)) a1 a2 a3 a4=true) [.one (.bool (s10 (⟨a0_n,zad a0_g⟩:(Sl Gate)) a1 a2 a3 a4))]
  | _=>.no
theorem call10:zah Try.prog 10:=⟨_,rfl,rfl,by kernel_rfl⟩
theorem ok10:Ok Try.prog 10 zKl:=zaz zMz call10 fun args K h=>by
  unfold zKl at h
  split at h
  · rename_i a0_n a0_s a0_g a1 a2 a3 a4
    obtain ⟨⟨⟨rfl,a0_f,rfl⟩,hs⟩,hk⟩:=h
    try rw [zac a0_f] at hs
    try rw [zac a0_f] at hk
    exact ⟨(fun _ _=>[]),(fun _=>false),zGt,q10 (⟨a0_n,a0_f⟩:(Sl Gate)) a1 a2 a3 a4 K hs hk⟩
  · exact h.elim
end Go.Proofs
namespace Go.Proofs
open Go Go.Pm
set_option maxRecDepth 100000
set_option linter.unusedVariables false
attribute [local irreducible] Go.Pm.vcFun Go.Pm.vc Go.Pm.vcIter
theorem C_3:Try.prog.cellsOf 3=1:=by kernel_rfl
theorem zNM:Try.prog.cellsOf 55=3:=by kernel_rfl
abbrev wf_3 (x:Int):Prop:=wfI x
theorem rd_3 {H:Type} {en:TypeId×Value→H} {w:World} {sp:Nat→Bool} {held:Bool} : Rd H en Try.prog w sp held 3 zaj wf_3:=zIi Try.underlying3
def zKm (x:Gate):Prop:=wf_3 x.Z∧wf_3 x.Low∧wf_3 x.High
theorem zMB {H:Type} {en:TypeId×Value→H} {w:World} {sp:Nat→Bool} {held:Bool} : Rd H en Try.prog w sp held 55 enc_55 zKm:=by
  intro fuel cs x h
  obtain ⟨hl,hf⟩:=zvd Try.underlying55 h
  rw [zNM] at hl
  obtain ⟨n0,y0,g0⟩:=hf 0 _ rfl
  have g0:DataW.trod en Try.prog w 0 sp held n0 3 ((cs.drop 0).take (Try.prog.cellsOf 3))=some y0:=g0
  rw [C_3] at g0
  obtain ⟨a0,r0,w0⟩:=rd_3 _ _ _ g0
  obtain ⟨n1,y1,g1⟩:=hf 1 _ rfl
  have g1:DataW.trod en Try.prog w 0 sp held n1 3 ((cs.drop 1).take (Try.prog.cellsOf 3))=some y1:=g1
  rw [C_3] at g1
  obtain ⟨a1,r1,w1⟩:=rd_3 _ _ _ g1
  obtain ⟨n2,y2,g2⟩:=hf 2 _ rfl
  have g2:DataW.trod en Try.prog w 0 sp held n2 3 ((cs.drop 2).take (Try.prog.cellsOf 3))=some y2:=g2
  rw [C_3] at g2
  obtain ⟨a2,r2,w2⟩:=rd_3 _ _ _ g2
  have z:cs.drop 3=[]:=List.drop_eq_nil_of_le (by omega)
  have R:=(r0.append (r1.append (r2.append (show RL (Rep (H0 w)) [] (cs.drop 3) by rw [z];exact zg2))))
  rw [← (show cs.drop 2=(cs.drop 2).take 1 ++ cs.drop 3 from zg4 cs 2 1)] at R
  rw [← (show cs.drop 1=(cs.drop 1).take 1 ++ cs.drop 2 from zg4 cs 1 1)] at R
  rw [← (show cs.drop 0=(cs.drop 0).take 1 ++ cs.drop 1 from zg4 cs 0 1)] at R
  exact ⟨⟨a0,a1,a2⟩,R,⟨w0,w1,w2⟩⟩
def wf_22 (x:(Sl Gate)):Prop:=x.len≤9223372036854775807∧∀ i,i < x.len→zKm (x.get i)
theorem rd_22 {H:Type} {en:TypeId×Value→H} {w:World} {sp:Nat→Bool} {held:Bool} : Rd H en Try.prog w sp held 22 zIk wf_22:=zAp Try.underlying22 zNM (by decide) (fun _=>rfl) zMB
end Go.Proofs
namespace Go.Proofs
open Go Go.Pm
set_option maxRecDepth 100000
set_option linter.unusedVariables false
attribute [local irreducible] Go.Pm.vcFun Go.Pm.vc Go.Pm.vcIter
section
variable {K:List PA→Prop} {zaa:(Sl Gate)}
end
section
variable {K:List PA→Prop} {f:Frac} {den:Int} {num:Int}
end
section
variable {K:List PA→Prop} {l_a0:Line} {zaa:(Sl Gate)} {zPx:Bool} {zPy:Int} {zPz:(Sl Int)} {zMC:Nat→List PV} {X2:St→Prop} {P2:Int→(Sl Int)→Bool} {S2:Int→(Sl Int)→((Sl Int)×Int)} {iv3:Int} {zPA:Int} {zPB:Bool} {zPC:(Sl Int)} {zMD:Nat→List PV}
end
section
variable {K:List PA→Prop} {f:Frac} {most:Int}
end
section
variable {K:List PA→Prop} {l_a0:Line}
end
section
variable {K:List PA→Prop} {g:Gate} {which:Int}
def zzA (g:Gate) (which:Int):Int :=
  (cond (which == (0:Int))
 g.Low
 g.High)
end
section
variable {K:List PA→Prop} {zaa:(Sl Gate)} {iv0:Int} {znh:(Sl Line)} {zME:Nat→List PV} {X0:St→Prop} {P0:Int→(Sl Line)→Bool} {S0:Int→(Sl Line)→(Sl Line)} {iv1:Int} {kv1:Int} {zlb:(Sl Line)} {zMF:Nat→List PV} {X1:St→Prop} {P1:Int→Int→(Sl Line)→Bool} {S1:Int→Int→(Sl Line)→(Sl Line)} {iv2:Int} {kv2:Int} {ev2:Int} {zeJ:(Sl Line)} {zMG:Nat→List PV} {X2:St→Prop} {P2:Int→Int→Int→(Sl Line)→Bool} {S2:Int→Int→Int→(Sl Line)→(Sl Line)}
def zf3 (S0:Int→(Sl Line)→(Sl Line)) (S1:Int→Int→(Sl Line)→(Sl Line)) (zaa:(Sl Gate)) (S2:Int→Int→Int→(Sl Line)→(Sl Line)) (iv2:Int) (kv2:Int) (ev2:Int) (zeJ:(Sl Line)):(Sl Line) :=
  (cond (decide (ev2 < (4:Int)))
 (cond ((zaa.get iv2.toNat).Z != (zaa.get kv2.toNat).Z)
 (S2 iv2 kv2 (w64 (ev2+(1:Int))) (⟨(zeJ.len+1),(zc7 zeJ.len zeJ.get (fun _=>(s26 ((zaa.get iv2.toNat).Z) (zzA (zaa.get iv2.toNat) (w64 (ev2.tdiv (2:Int)))) ((zaa.get kv2.toNat).Z) (zzA (zaa.get kv2.toNat) (ev2.tmod (2:Int))))))⟩:Sl Line))
 (S1 iv2 (w64 (kv2+(1:Int))) zeJ))
 (S1 iv2 (w64 (kv2+(1:Int))) zeJ))
def zf4 (P0:Int→(Sl Line)→Bool) (P1:Int→Int→(Sl Line)→Bool) (zaa:(Sl Gate)) (P2:Int→Int→Int→(Sl Line)→Bool) (iv2:Int) (kv2:Int) (ev2:Int) (zeJ:(Sl Line)):Bool :=
  (cond (decide (ev2 < (4:Int)))
 (decide ((0≤iv2∧iv2 < (zaa.len:Int))) &&
 (decide ((0≤kv2∧kv2 < (zaa.len:Int))) &&
 (cond ((zaa.get iv2.toNat).Z != (zaa.get kv2.toNat).Z)
 (decide ((0≤iv2∧iv2 < (zaa.len:Int))) &&
 (decide ((0≤iv2∧iv2 < (zaa.len:Int))) &&
 (decide (((2:Int) ≠ 0)) &&
 (decide ((0≤kv2∧kv2 < (zaa.len:Int))) &&
 (decide ((0≤kv2∧kv2 < (zaa.len:Int))) &&
 (decide (((2:Int) ≠ 0)) &&
 (decide ((p26 ((zaa.get iv2.toNat).Z) (zzA (zaa.get iv2.toNat) (w64 (ev2.tdiv (2:Int)))) ((zaa.get kv2.toNat).Z) (zzA (zaa.get kv2.toNat) (ev2.tmod (2:Int)))=true)) &&
 (decide (((zeJ.len+1) * 32≤140737488355328∧zeJ.len+1≤9223372036854775807)) &&
 (P2 iv2 kv2 (w64 (ev2+(1:Int))) (⟨(zeJ.len+1),(zc7 zeJ.len zeJ.get (fun _=>(s26 ((zaa.get iv2.toNat).Z) (zzA (zaa.get iv2.toNat) (w64 (ev2.tdiv (2:Int)))) ((zaa.get kv2.toNat).Z) (zzA (zaa.get kv2.toNat) (ev2.tmod (2:Int))))))⟩:Sl Line))))))))))
 (P1 iv2 (w64 (kv2+(1:Int))) zeJ))))
 (P1 iv2 (w64 (kv2+(1:Int))) zeJ))
def zdD (S0:Int→(Sl Line)→(Sl Line)) (S1:Int→Int→(Sl Line)→(Sl Line)) (zaa:(Sl Gate)):Nat→Int→Int→Int→(Sl Line)→(Sl Line):=lpO (fun _ _ _ _=>default) (zf3 S0 S1 zaa)
def zdE (P0:Int→(Sl Line)→Bool) (P1:Int→Int→(Sl Line)→Bool) (zaa:(Sl Gate)):Nat→Int→Int→Int→(Sl Line)→Bool:=lpO (fun _ _ _ _=>false) (zf4 P0 P1 zaa)
def zyI (S0:Int→(Sl Line)→(Sl Line)) (S1:Int→Int→(Sl Line)→(Sl Line)) (zaa:(Sl Gate)) (iv2:Int) (kv2:Int) (ev2:Int) (zeJ:(Sl Line)):(Sl Line):=zdD S0 S1 zaa Fuel iv2 kv2 ev2 zeJ
def zyJ (P0:Int→(Sl Line)→Bool) (P1:Int→Int→(Sl Line)→Bool) (zaa:(Sl Gate)) (iv2:Int) (kv2:Int) (ev2:Int) (zeJ:(Sl Line)):Bool:=zdE P0 P1 zaa Fuel iv2 kv2 ev2 zeJ
def zkf (S0:Int→(Sl Line)→(Sl Line)) (zaa:(Sl Gate)) (S1:Int→Int→(Sl Line)→(Sl Line)) (iv1:Int) (kv1:Int) (zlb:(Sl Line)):(Sl Line) :=
  (cond (decide (kv1 < (zaa.len : Int)))
 (zyI S0 S1 zaa iv1 kv1 (0:Int) zlb)
 (S0 (w64 (iv1+(1:Int))) zlb))
def zkg (P0:Int→(Sl Line)→Bool) (zaa:(Sl Gate)) (P1:Int→Int→(Sl Line)→Bool) (iv1:Int) (kv1:Int) (zlb:(Sl Line)):Bool :=
  (cond (decide (kv1 < (zaa.len : Int)))
 (zyJ P0 P1 zaa iv1 kv1 (0:Int) zlb)
 (P0 (w64 (iv1+(1:Int))) zlb))
def zh1 (S0:Int→(Sl Line)→(Sl Line)) (zaa:(Sl Gate)):Nat→Int→Int→(Sl Line)→(Sl Line):=lpO (fun _ _ _=>default) (zkf S0 zaa)
def zh2 (P0:Int→(Sl Line)→Bool) (zaa:(Sl Gate)):Nat→Int→Int→(Sl Line)→Bool:=lpO (fun _ _ _=>false) (zkg P0 zaa)
def zyK (S0:Int→(Sl Line)→(Sl Line)) (zaa:(Sl Gate)) (iv1:Int) (kv1:Int) (zlb:(Sl Line)):(Sl Line):=zh1 S0 zaa Fuel iv1 kv1 zlb
def zyL (P0:Int→(Sl Line)→Bool) (zaa:(Sl Gate)) (iv1:Int) (kv1:Int) (zlb:(Sl Line)):Bool:=zh2 P0 zaa Fuel iv1 kv1 zlb
def zkh (zaa:(Sl Gate)) (S0:Int→(Sl Line)→(Sl Line)) (iv0:Int) (znh:(Sl Line)):(Sl Line) :=
  (cond (decide (iv0 < (zaa.len : Int)))
 (zyK S0 zaa iv0 (w64 (iv0+(1:Int))) znh)
 znh)
def zki (zaa:(Sl Gate)) (P0:Int→(Sl Line)→Bool) (iv0:Int) (znh:(Sl Line)):Bool :=
  (cond (decide (iv0 < (zaa.len : Int)))
 (zyL P0 zaa iv0 (w64 (iv0+(1:Int))) znh)
 true)
def zkj (zaa:(Sl Gate)):Nat→Int→(Sl Line)→(Sl Line):=lpO (fun _ _=>default) (zkh zaa)
def zkk (zaa:(Sl Gate)):Nat→Int→(Sl Line)→Bool:=lpO (fun _ _=>false) (zki zaa)
def zGB (zaa:(Sl Gate)) (iv0:Int) (znh:(Sl Line)):(Sl Line):=zkj zaa Fuel iv0 znh
def zGC (zaa:(Sl Gate)) (iv0:Int) (znh:(Sl Line)):Bool:=zkk zaa Fuel iv0 znh
def s80 (zaa:(Sl Gate)):(Sl Line) :=
  (zGB zaa (0:Int) (⟨0,(fun _=>default)⟩:Sl Line))
def p80 (zaa:(Sl Gate)):Bool :=
  (zGC zaa (0:Int) (⟨0,(fun _=>default)⟩:Sl Line))
end
section
variable {K:List PA→Prop} {l_a0:Line} {zaa:(Sl Gate)} {iv0:Int} {X0:St→Prop} {P0:Int→Bool} {S0:Int→Bool} {iv1:Int} {nv1:Int} {dv1:Int}
def zsY (S0:Int→Bool) (l_a0:Line) (zaa:(Sl Gate)) (iv1:Int) (nv1:Int) (dv1:Int):Bool :=
  (cond (nv1 == (w64 ((zaa.get iv1.toNat).Low * dv1)))
 true
 (S0 (w64 (iv1+(1:Int)))))
def zsZ (P0:Int→Bool) (l_a0:Line) (zaa:(Sl Gate)) (iv1:Int) (nv1:Int) (dv1:Int):Bool :=
  (decide ((0≤iv1∧iv1 < (zaa.len:Int))) &&
 (cond (nv1 == (w64 ((zaa.get iv1.toNat).Low * dv1)))
 true
 (P0 (w64 (iv1+(1:Int))))))
def zgH (l_a0:Line) (zaa:(Sl Gate)) (S0:Int→Bool) (iv0:Int):Bool :=
  (cond (decide (iv0 < (zaa.len : Int)))
 (zsY S0 l_a0 zaa iv0 ((zq5 l_a0 ((zaa.get iv0.toNat).Z)).1) ((zq5 l_a0 ((zaa.get iv0.toNat).Z)).2))
 false)
def zgI (l_a0:Line) (zaa:(Sl Gate)) (P0:Int→Bool) (iv0:Int):Bool :=
  (cond (decide (iv0 < (zaa.len : Int)))
 (decide ((0≤iv0∧iv0 < (zaa.len:Int))) &&
 (zsZ P0 l_a0 zaa iv0 ((zq5 l_a0 ((zaa.get iv0.toNat).Z)).1) ((zq5 l_a0 ((zaa.get iv0.toNat).Z)).2)))
 true)
def zgJ (l_a0:Line) (zaa:(Sl Gate)):Nat→Int→Bool:=lpO (fun _=>default) (zgH l_a0 zaa)
def zgK (l_a0:Line) (zaa:(Sl Gate)):Nat→Int→Bool:=lpO (fun _=>false) (zgI l_a0 zaa)
def zA4 (l_a0:Line) (zaa:(Sl Gate)) (iv0:Int):Bool:=zgJ l_a0 zaa Fuel iv0
def zA5 (l_a0:Line) (zaa:(Sl Gate)) (iv0:Int):Bool:=zgK l_a0 zaa Fuel iv0
def zs3 (l_a0:Line) (zaa:(Sl Gate)):Bool :=
  (zA4 l_a0 zaa (0:Int))
def zHH (l_a0:Line) (zaa:(Sl Gate)):Bool :=
  (zA5 l_a0 zaa (0:Int))
end
def zKn : List PA → COut
  | [.agg [.int .i64 a0_Slope_Num,.int .i64 a0_Slope_Den,.int .i64 a0_Start_Num,.int .i64 a0_Start_Den],.one (.sl a1_n a1_s a1_g)]=>.det (IsE enc_55 3 a1_s a1_g∧zHH (⟨(⟨a0_Slope_Num,a0_Slope_Den⟩:Frac),(⟨a0_Start_Num,a0_Start_Den⟩:Frac)⟩:Line) (⟨a1_n,zad a1_g⟩:(Sl Gate))=true) [.one (.bool (zs3 (⟨(⟨a0_Slope_Num,a0_Slope_Den⟩:Frac),(⟨a0_Start_Num,a0_Start_Den⟩:Frac)⟩:Line) (⟨a1_n,zad a1_g⟩:(Sl Gate))))]
  | _=>.no
section
variable {K:List PA→Prop} {a:Frac} {b:Frac}
def s29 (a:Frac) (b:Frac):Bool :=
  (decide ((w64 (a.Num * b.Den)) < (w64 (b.Num * a.Den))))
end
def zKo : List PA → COut
  | [.agg [.int .i64 a0_Num,.int .i64 a0_Den],.agg [.int .i64 a1_Num,.int .i64 a1_Den]]=>.tot [.one (.bool (s29 (⟨a0_Num,a0_Den⟩:Frac) (⟨a1_Num,a1_Den⟩:Frac)))]
  | _=>.no
abbrev T81:Tabs:=((Tabs.nil.addF 29 zKo).addF 110 zKn)
abbrev G81:Ctrs:=csm T81 (fun _ _=>[]) (fun _=>false)
def zMH:Ann:=⟨30,[(0,zK [2,3,4] [3,4]),(1,zK [2,3,4,13] [3,4]),(2,zK [6] []),(3,zK [3,4,19] [3,4]),(4,zK [6] []),(5,zK [6] [])],
 [],
 [(3,zK [2,3,4] [3,4])],
 [],[]⟩
@[irreducible] def z81:=ptF Try.prog G81 zMH Try.f81
section
variable {K:List PA→Prop} {a:Line} {b:Line} {zaa:(Sl Gate)}
def zyM (a:Line) (b:Line) (zaa:(Sl Gate)):Bool :=
  (cond (zs3 a zaa)
 (s29 a.Slope b.Slope)
 (s29 b.Slope a.Slope))
def zyN (a:Line) (b:Line) (zaa:(Sl Gate)):Bool :=
  (decide ((zHH a zaa=true)) &&
 true)
def s81 (a:Line) (b:Line) (zaa:(Sl Gate)):Bool :=
  (cond ((zs3 a zaa) != (zs3 b zaa))
 (zs3 a zaa)
 (zyM a b zaa))
def p81 (a:Line) (b:Line) (zaa:(Sl Gate)):Bool :=
  (decide ((zHH a zaa=true)) &&
 (decide ((zHH b zaa=true)) &&
 (cond ((zs3 a zaa) != (zs3 b zaa))
 (decide ((zHH a zaa=true)) &&
 true)
 (zyN a b zaa))))
end
section
variable {K:List PA→Prop} {zaa:(Sl Gate)} {lv0:(Sl Line)} {zMI:Nat→List PV} {zkl:(Sl Line)} {iv1:Int} {zMJ:Nat→List PV} {X1:St→Prop} {P1:(Sl Line)→Int→Bool} {S1:(Sl Line)→Int→(Sl Line)} {zeK:(Sl Line)} {iv2:Int} {zni:Int} {zMK:Nat→List PV} {X2:St→Prop} {P2:(Sl Line)→Int→Int→Bool} {S2:(Sl Line)→Int→Int→(Sl Line)} {zbV:(Sl Line)} {iv3:Int} {zcK:Int} {zML:Nat→List PV}
def znj (S1:(Sl Line)→Int→(Sl Line)) (zaa:(Sl Gate)) (lv0:(Sl Line)) (zbV:(Sl Line)) (iv3:Int) (zcK:Int):(Sl Line) :=
  (cond (decide (zcK < (zbV.len : Int)))
 (cond (match (match ((zbV.get zcK.toNat).Slope.Num == (lv0.get iv3.toNat).Slope.Num) with | true => (match ((zbV.get zcK.toNat).Slope.Den == (lv0.get iv3.toNat).Slope.Den) with | true => true | false => false) | false => false) with | true => (match (match ((zbV.get zcK.toNat).Start.Num == (lv0.get iv3.toNat).Start.Num) with | true => (match ((zbV.get zcK.toNat).Start.Den == (lv0.get iv3.toNat).Start.Den) with | true => true | false => false) | false => false) with | true => true | false => false) | false => false)
 (S1 zbV (w64 (iv3+(1:Int))))
 (S1 (⟨(((zcK - (0:Int)).toNat+1)+((zbV.len:Int) - zcK).toNat),(zc7 ((zcK - (0:Int)).toNat+1) (zc7 ((zcK - (0:Int)).toNat) (fun i=>zbV.get (i+((0:Int).toNat))) (fun _=>(lv0.get iv3.toNat))) (fun i=>zbV.get (i+zcK.toNat)))⟩:Sl Line) (w64 (iv3+(1:Int)))))
 (S1 (⟨(((zcK - (0:Int)).toNat+1)+((zbV.len:Int) - zcK).toNat),(zc7 ((zcK - (0:Int)).toNat+1) (zc7 ((zcK - (0:Int)).toNat) (fun i=>zbV.get (i+((0:Int).toNat))) (fun _=>(lv0.get iv3.toNat))) (fun i=>zbV.get (i+zcK.toNat)))⟩:Sl Line) (w64 (iv3+(1:Int)))))
def znk (P1:(Sl Line)→Int→Bool) (zaa:(Sl Gate)) (lv0:(Sl Line)) (zbV:(Sl Line)) (iv3:Int) (zcK:Int):Bool :=
  (cond (decide (zcK < (zbV.len : Int)))
 (decide ((0≤zcK∧zcK < (zbV.len:Int))) &&
 (decide ((0≤iv3∧iv3 < (lv0.len:Int))) &&
 (cond (match (match ((zbV.get zcK.toNat).Slope.Num == (lv0.get iv3.toNat).Slope.Num) with | true => (match ((zbV.get zcK.toNat).Slope.Den == (lv0.get iv3.toNat).Slope.Den) with | true => true | false => false) | false => false) with | true => (match (match ((zbV.get zcK.toNat).Start.Num == (lv0.get iv3.toNat).Start.Num) with | true => (match ((zbV.get zcK.toNat).Start.Den == (lv0.get iv3.toNat).Start.Den) with | true => true | false => false) | false => false) with | true => true | false => false) | false => false)
 (P1 zbV (w64 (iv3+(1:Int))))
 (decide ((0≤(0:Int)∧(0:Int)≤zcK∧zcK≤(zbV.len:Int))) &&
 (decide (((zcK - (0:Int)).toNat * 32≤140737488355328∧(zcK - (0:Int)).toNat≤9223372036854775807)) &&
 (decide ((0≤iv3∧iv3 < (lv0.len:Int))) &&
 (decide ((((zcK - (0:Int)).toNat+1) * 32≤140737488355328∧(zcK - (0:Int)).toNat+1≤9223372036854775807)) &&
 (decide ((0≤zcK∧zcK≤(zbV.len:Int)∧(zbV.len:Int)≤(zbV.len:Int))) &&
 (decide (((((zcK - (0:Int)).toNat+1)+((zbV.len:Int) - zcK).toNat) * 32≤140737488355328∧((zcK - (0:Int)).toNat+1)+((zbV.len:Int) - zcK).toNat≤9223372036854775807)) &&
 (P1 (⟨(((zcK - (0:Int)).toNat+1)+((zbV.len:Int) - zcK).toNat),(zc7 ((zcK - (0:Int)).toNat+1) (zc7 ((zcK - (0:Int)).toNat) (fun i=>zbV.get (i+((0:Int).toNat))) (fun _=>(lv0.get iv3.toNat))) (fun i=>zbV.get (i+zcK.toNat)))⟩:Sl Line) (w64 (iv3+(1:Int)))))))))))))
 (decide ((0≤(0:Int)∧(0:Int)≤zcK∧zcK≤(zbV.len:Int))) &&
 (decide (((zcK - (0:Int)).toNat * 32≤140737488355328∧(zcK - (0:Int)).toNat≤9223372036854775807)) &&
 (decide ((0≤iv3∧iv3 < (lv0.len:Int))) &&
 (decide ((((zcK - (0:Int)).toNat+1) * 32≤140737488355328∧(zcK - (0:Int)).toNat+1≤9223372036854775807)) &&
 (decide ((0≤zcK∧zcK≤(zbV.len:Int)∧(zbV.len:Int)≤(zbV.len:Int))) &&
 (decide (((((zcK - (0:Int)).toNat+1)+((zbV.len:Int) - zcK).toNat) * 32≤140737488355328∧((zcK - (0:Int)).toNat+1)+((zbV.len:Int) - zcK).toNat≤9223372036854775807)) &&
 (P1 (⟨(((zcK - (0:Int)).toNat+1)+((zbV.len:Int) - zcK).toNat),(zc7 ((zcK - (0:Int)).toNat+1) (zc7 ((zcK - (0:Int)).toNat) (fun i=>zbV.get (i+((0:Int).toNat))) (fun _=>(lv0.get iv3.toNat))) (fun i=>zbV.get (i+zcK.toNat)))⟩:Sl Line) (w64 (iv3+(1:Int)))))))))))
def zkm (S1:(Sl Line)→Int→(Sl Line)) (zaa:(Sl Gate)) (lv0:(Sl Line)) (S2:(Sl Line)→Int→Int→(Sl Line)) (zeK:(Sl Line)) (iv2:Int) (zni:Int):(Sl Line) :=
  (cond (decide (zni < (zeK.len : Int)))
 (cond (s81 (zeK.get zni.toNat) (lv0.get iv2.toNat) zaa)
 (S2 zeK iv2 (w64 (zni+(1:Int))))
 (znj S1 zaa lv0 zeK iv2 zni))
 (znj S1 zaa lv0 zeK iv2 zni))
def zkn (P1:(Sl Line)→Int→Bool) (zaa:(Sl Gate)) (lv0:(Sl Line)) (P2:(Sl Line)→Int→Int→Bool) (zeK:(Sl Line)) (iv2:Int) (zni:Int):Bool :=
  (cond (decide (zni < (zeK.len : Int)))
 (decide ((0≤zni∧zni < (zeK.len:Int))) &&
 (decide ((0≤iv2∧iv2 < (lv0.len:Int))) &&
 (decide ((p81 (zeK.get zni.toNat) (lv0.get iv2.toNat) zaa=true)) &&
 (cond (s81 (zeK.get zni.toNat) (lv0.get iv2.toNat) zaa)
 (P2 zeK iv2 (w64 (zni+(1:Int))))
 (znk P1 zaa lv0 zeK iv2 zni)))))
 (znk P1 zaa lv0 zeK iv2 zni))
def zh3 (S1:(Sl Line)→Int→(Sl Line)) (zaa:(Sl Gate)) (lv0:(Sl Line)):Nat→(Sl Line)→Int→Int→(Sl Line):=lpO (fun _ _ _=>default) (zkm S1 zaa lv0)
def zko (P1:(Sl Line)→Int→Bool) (zaa:(Sl Gate)) (lv0:(Sl Line)):Nat→(Sl Line)→Int→Int→Bool:=lpO (fun _ _ _=>false) (zkn P1 zaa lv0)
def zyO (S1:(Sl Line)→Int→(Sl Line)) (zaa:(Sl Gate)) (lv0:(Sl Line)) (zeK:(Sl Line)) (iv2:Int) (zni:Int):(Sl Line):=zh3 S1 zaa lv0 Fuel zeK iv2 zni
def zyP (P1:(Sl Line)→Int→Bool) (zaa:(Sl Gate)) (lv0:(Sl Line)) (zeK:(Sl Line)) (iv2:Int) (zni:Int):Bool:=zko P1 zaa lv0 Fuel zeK iv2 zni
def zkp (zaa:(Sl Gate)) (lv0:(Sl Line)) (S1:(Sl Line)→Int→(Sl Line)) (zkl:(Sl Line)) (iv1:Int):(Sl Line) :=
  (cond (decide (iv1 < (lv0.len : Int)))
 (cond (decide (((s27 (lv0.get iv1.toNat) zaa).len : Int) < (zaa.len : Int)))
 (S1 zkl (w64 (iv1+(1:Int))))
 (zyO S1 zaa lv0 zkl iv1 (0:Int)))
 zkl)
def zkq (zaa:(Sl Gate)) (lv0:(Sl Line)) (P1:(Sl Line)→Int→Bool) (zkl:(Sl Line)) (iv1:Int):Bool :=
  (cond (decide (iv1 < (lv0.len : Int)))
 (decide ((0≤iv1∧iv1 < (lv0.len:Int))) &&
 (decide ((p27 (lv0.get iv1.toNat) zaa=true)) &&
 (cond (decide (((s27 (lv0.get iv1.toNat) zaa).len : Int) < (zaa.len : Int)))
 (P1 zkl (w64 (iv1+(1:Int))))
 (zyP P1 zaa lv0 zkl iv1 (0:Int)))))
 true)
def zh4 (zaa:(Sl Gate)) (lv0:(Sl Line)):Nat→(Sl Line)→Int→(Sl Line):=lpO (fun _ _=>default) (zkp zaa lv0)
def zkr (zaa:(Sl Gate)) (lv0:(Sl Line)):Nat→(Sl Line)→Int→Bool:=lpO (fun _ _=>false) (zkq zaa lv0)
def zGD (zaa:(Sl Gate)) (lv0:(Sl Line)) (zkl:(Sl Line)) (iv1:Int):(Sl Line):=zh4 zaa lv0 Fuel zkl iv1
def zGE (zaa:(Sl Gate)) (lv0:(Sl Line)) (zkl:(Sl Line)) (iv1:Int):Bool:=zkr zaa lv0 Fuel zkl iv1
def zGF (zaa:(Sl Gate)) (lv0:(Sl Line)):(Sl Line) :=
  (zGD zaa lv0 (⟨0,(fun _=>default)⟩:Sl Line) (0:Int))
def zGG (zaa:(Sl Gate)) (lv0:(Sl Line)):Bool :=
  (zGE zaa lv0 (⟨0,(fun _=>default)⟩:Sl Line) (0:Int))
def s33 (zaa:(Sl Gate)):(Sl Line) :=
  (zGF zaa (s80 zaa))
def p33 (zaa:(Sl Gate)):Bool :=
  (decide ((p80 zaa=true)) &&
 (zGG zaa (s80 zaa)))
end
section
variable {K:List PA→Prop} {zaa:(Sl Gate)} {av0:Int} {bv0:Int} {iv0:Int} {X0:St→Prop} {P0:Int→Int→Int→Bool} {S0:Int→Int→Int→(Int×Int×Bool)}
def zks (zaa:(Sl Gate)) (S0:Int→Int→Int→(Int×Int×Bool)) (av0:Int) (bv0:Int) (iv0:Int):(Int×Int×Bool) :=
  (cond (decide (iv0 < (zaa.len : Int)))
 (S0 (if (zaa.get iv0.toNat).Low > av0 then (zaa.get iv0.toNat).Low else av0) (if (zaa.get iv0.toNat).High < bv0 then (zaa.get iv0.toNat).High else bv0) (w64 (iv0+(1:Int))))
 (av0,bv0,(decide (av0≤bv0))))
def zkt (zaa:(Sl Gate)) (P0:Int→Int→Int→Bool) (av0:Int) (bv0:Int) (iv0:Int):Bool :=
  (cond (decide (iv0 < (zaa.len : Int)))
 (decide ((0≤iv0∧iv0 < (zaa.len:Int))) &&
 (decide ((0≤iv0∧iv0 < (zaa.len:Int))) &&
 (P0 (if (zaa.get iv0.toNat).Low > av0 then (zaa.get iv0.toNat).Low else av0) (if (zaa.get iv0.toNat).High < bv0 then (zaa.get iv0.toNat).High else bv0) (w64 (iv0+(1:Int))))))
 true)
def zku (zaa:(Sl Gate)):Nat→Int→Int→Int→(Int×Int×Bool):=lpO (fun _ _ _=>default) (zks zaa)
def zkv (zaa:(Sl Gate)):Nat→Int→Int→Int→Bool:=lpO (fun _ _ _=>false) (zkt zaa)
def zGH (zaa:(Sl Gate)) (av0:Int) (bv0:Int) (iv0:Int):(Int×Int×Bool):=zku zaa Fuel av0 bv0 iv0
def zGI (zaa:(Sl Gate)) (av0:Int) (bv0:Int) (iv0:Int):Bool:=zkv zaa Fuel av0 bv0 iv0
def s71 (zaa:(Sl Gate)):(Int×Int×Bool) :=
  (zGH zaa ((zaa.get 0).Low) ((zaa.get 0).High) (1:Int))
def p71 (zaa:(Sl Gate)):Bool :=
  (decide ((0≤(0:Int)∧(0:Int) < (zaa.len:Int))) &&
 (decide ((0≤(0:Int)∧(0:Int) < (zaa.len:Int))) &&
 (zGI zaa ((zaa.get 0).Low) ((zaa.get 0).High) (1:Int))))
end
section
variable {K:List PA→Prop} {zaa:(Sl Gate)}
def s21 (zaa:(Sl Gate)):Bool :=
  (cond (s22 zaa)
 ((s71 zaa).2.2)
 (decide (((s33 zaa).len:Int) > (0:Int))))
def p21 (zaa:(Sl Gate)):Bool :=
  (decide ((p22 zaa=true)) &&
 (cond (s22 zaa)
 (decide ((p71 zaa=true)) &&
 true)
 (decide ((p33 zaa=true)) &&
 true)))
end
abbrev T28:Tabs:=((Tabs.nil.addF 40 ztX).addF 73 zAY)
abbrev G28:Ctrs:=csm T28 (fun _ _=>[]) (fun _=>false)
def zMM:Ann:=⟨44,[(0,zK [1,2,4] [2,4]),(1,zK [1,2,4,5] [2,4]),(2,zK [4] [4])],
 [],
 [(2,zK [1,2,4,5] [2,4])],
 [],[]⟩
@[irreducible] def z28:=ptF Try.prog G28 zMM Try.f28
section
variable {K:List PA→Prop} {l_a0:Line} {z:Int} {dv0:Int}
def zGJ (l_a0:Line) (z:Int) (dv0:Int):Frac :=
  (s40 (w64 ((w64 (l_a0.Start.Num * (w64 (dv0.tdiv l_a0.Start.Den))))+(w64 ((w64 (l_a0.Slope.Num * (w64 (dv0.tdiv l_a0.Slope.Den)))) * z)))) dv0)
def zGK (l_a0:Line) (z:Int) (dv0:Int):Bool :=
  (decide ((l_a0.Start.Den ≠ 0)) &&
 (decide ((l_a0.Slope.Den ≠ 0)) &&
 (decide ((p40 (w64 ((w64 (l_a0.Start.Num * (w64 (dv0.tdiv l_a0.Start.Den))))+(w64 ((w64 (l_a0.Slope.Num * (w64 (dv0.tdiv l_a0.Slope.Den)))) * z)))) dv0=true)) &&
 true)))
def s28 (l_a0:Line) (z:Int):Frac :=
  (zGJ l_a0 z (w64 ((w64 (l_a0.Start.Den.tdiv (s73 l_a0.Start.Den l_a0.Slope.Den))) * l_a0.Slope.Den)))
def p28 (l_a0:Line) (z:Int):Bool :=
  (decide ((p73 l_a0.Start.Den l_a0.Slope.Den=true)) &&
 (decide (((s73 l_a0.Start.Den l_a0.Slope.Den) ≠ 0)) &&
 (zGK l_a0 z (w64 ((w64 (l_a0.Start.Den.tdiv (s73 l_a0.Start.Den l_a0.Slope.Den))) * l_a0.Slope.Den)))))
end
section
variable {K:List PA→Prop} {zaa:(Sl Gate)} {z:Int} {ziw:Bool} {av1:Int} {bv1:Int} {lv3:(Sl Line)} {zPD:Nat→List PV} {zA6:Int} {zA7:Int} {zyQ:Int} {zyR:Int} {iv5:Int} {znl:Int} {znm:Int} {znn:Int} {zno:Int} {X5:St→Prop} {P5:Int→Int→Int→Int→Int→Bool} {S5:Int→Int→Int→Int→Int→(Frac×Frac)} {iv6:Int} {zry:Int} {zrz:Int} {zyS:Int} {zyT:Int} {zdG:Int} {zdH:Int} {iv7:Int} {zA8:Bool} {zA9:Int} {zBa:Int} {zlc:Int} {zld:Int} {iv8:Int} {zBb:Bool} {ztZ:Int} {zt0:Int} {zBc:Int} {zBd:Int}
def zyU (S5:Int→Int→Int→Int→Int→(Frac×Frac)) (z:Int) (lv3:(Sl Line)) (zdG:Int) (zdH:Int) (iv8:Int) (zBb:Bool) (ztZ:Int) (zt0:Int) (zBc:Int) (zBd:Int):(Frac×Frac) :=
  (cond zBb
 (S5 (w64 (iv8+(1:Int))) ztZ zt0 zdG zdH)
 (S5 (w64 (iv8+(1:Int))) ztZ zt0 zBc zBd))
def zyV (P5:Int→Int→Int→Int→Int→Bool) (z:Int) (lv3:(Sl Line)) (zdG:Int) (zdH:Int) (iv8:Int) (zBb:Bool) (ztZ:Int) (zt0:Int) (zBc:Int) (zBd:Int):Bool :=
  (cond zBb
 (P5 (w64 (iv8+(1:Int))) ztZ zt0 zdG zdH)
 (P5 (w64 (iv8+(1:Int))) ztZ zt0 zBc zBd))
def zGL (S5:Int→Int→Int→Int→Int→(Frac×Frac)) (z:Int) (lv3:(Sl Line)) (zdG:Int) (zdH:Int) (iv7:Int) (zA8:Bool) (zA9:Int) (zBa:Int) (zlc:Int) (zld:Int):(Frac×Frac) :=
  (cond zA8
 (zyU S5 z lv3 zdG zdH iv7 (s29 (⟨zlc,zld⟩:Frac) (⟨zdG,zdH⟩:Frac)) zdG zdH zlc zld)
 (zyU S5 z lv3 zdG zdH iv7 (s29 (⟨zlc,zld⟩:Frac) (⟨zdG,zdH⟩:Frac)) zA9 zBa zlc zld))
def zGM (P5:Int→Int→Int→Int→Int→Bool) (z:Int) (lv3:(Sl Line)) (zdG:Int) (zdH:Int) (iv7:Int) (zA8:Bool) (zA9:Int) (zBa:Int) (zlc:Int) (zld:Int):Bool :=
  (cond zA8
 (zyV P5 z lv3 zdG zdH iv7 (s29 (⟨zlc,zld⟩:Frac) (⟨zdG,zdH⟩:Frac)) zdG zdH zlc zld)
 (zyV P5 z lv3 zdG zdH iv7 (s29 (⟨zlc,zld⟩:Frac) (⟨zdG,zdH⟩:Frac)) zA9 zBa zlc zld))
def zGN (S5:Int→Int→Int→Int→Int→(Frac×Frac)) (z:Int) (lv3:(Sl Line)) (iv6:Int) (zry:Int) (zrz:Int) (zyS:Int) (zyT:Int) (zdG:Int) (zdH:Int):(Frac×Frac) :=
  (zGL S5 z lv3 zdG zdH iv6 (s29 (⟨zdG,zdH⟩:Frac) (⟨zry,zrz⟩:Frac)) zry zrz zyS zyT)
def zGO (P5:Int→Int→Int→Int→Int→Bool) (z:Int) (lv3:(Sl Line)) (iv6:Int) (zry:Int) (zrz:Int) (zyS:Int) (zyT:Int) (zdG:Int) (zdH:Int):Bool :=
  (zGM P5 z lv3 zdG zdH iv6 (s29 (⟨zdG,zdH⟩:Frac) (⟨zry,zrz⟩:Frac)) zry zrz zyS zyT)
def zGP (z:Int) (lv3:(Sl Line)) (S5:Int→Int→Int→Int→Int→(Frac×Frac)) (iv5:Int) (znl:Int) (znm:Int) (znn:Int) (zno:Int):(Frac×Frac) :=
  (cond (decide (iv5 < (lv3.len : Int)))
 (zGN S5 z lv3 iv5 znl znm znn zno ((s28 (lv3.get iv5.toNat) z).Num) ((s28 (lv3.get iv5.toNat) z).Den))
 ((⟨znl,znm⟩:Frac),(⟨znn,zno⟩:Frac)))
def zGQ (z:Int) (lv3:(Sl Line)) (P5:Int→Int→Int→Int→Int→Bool) (iv5:Int) (znl:Int) (znm:Int) (znn:Int) (zno:Int):Bool :=
  (cond (decide (iv5 < (lv3.len : Int)))
 (decide ((0≤iv5∧iv5 < (lv3.len:Int))) &&
 (decide ((p28 (lv3.get iv5.toNat) z=true)) &&
 (zGO P5 z lv3 iv5 znl znm znn zno ((s28 (lv3.get iv5.toNat) z).Num) ((s28 (lv3.get iv5.toNat) z).Den))))
 true)
def zGR (z:Int) (lv3:(Sl Line)):Nat→Int→Int→Int→Int→Int→(Frac×Frac):=lpO (fun _ _ _ _ _=>default) (zGP z lv3)
def zGS (z:Int) (lv3:(Sl Line)):Nat→Int→Int→Int→Int→Int→Bool:=lpO (fun _ _ _ _ _=>false) (zGQ z lv3)
def zGT (z:Int) (lv3:(Sl Line)) (iv5:Int) (znl:Int) (znm:Int) (znn:Int) (zno:Int):(Frac×Frac):=zGR z lv3 Fuel iv5 znl znm znn zno
def zGU (z:Int) (lv3:(Sl Line)) (iv5:Int) (znl:Int) (znm:Int) (znn:Int) (zno:Int):Bool:=zGS z lv3 Fuel iv5 znl znm znn zno
def zGV (z:Int) (lv3:(Sl Line)) (zA6:Int) (zA7:Int) (zyQ:Int) (zyR:Int):(Frac×Frac) :=
  (zGT z lv3 (1:Int) zA6 zA7 zyQ zyR)
def zGW (z:Int) (lv3:(Sl Line)) (zA6:Int) (zA7:Int) (zyQ:Int) (zyR:Int):Bool :=
  (zGU z lv3 (1:Int) zA6 zA7 zyQ zyR)
def zGX (z:Int) (lv3:(Sl Line)):(Frac×Frac) :=
  (zGV z lv3 ((s28 (lv3.get 0) z).Num) ((s28 (lv3.get 0) z).Den) ((s28 (lv3.get 0) z).Num) ((s28 (lv3.get 0) z).Den))
def zGY (z:Int) (lv3:(Sl Line)):Bool :=
  (decide ((0≤(0:Int)∧(0:Int) < (lv3.len:Int))) &&
 (decide ((p28 (lv3.get 0) z=true)) &&
 (decide ((0≤(0:Int)∧(0:Int) < (lv3.len:Int))) &&
 (decide ((p28 (lv3.get 0) z=true)) &&
 (zGW z lv3 ((s28 (lv3.get 0) z).Num) ((s28 (lv3.get 0) z).Den) ((s28 (lv3.get 0) z).Num) ((s28 (lv3.get 0) z).Den))))))
def zGZ (zaa:(Sl Gate)) (z:Int):(Frac×Frac) :=
  (zGX z (s33 zaa))
def zG0 (zaa:(Sl Gate)) (z:Int):Bool :=
  (decide ((p33 zaa=true)) &&
 (zGY z (s33 zaa)))
def zG1 (av1:Int) (bv1:Int):(Frac×Frac) :=
  ((s40 av1 (1:Int)),(s40 bv1 (1:Int)))
def zG2 (av1:Int) (bv1:Int):Bool :=
  (decide ((p40 av1 (1:Int)=true)) &&
 (decide ((p40 bv1 (1:Int)=true)) &&
 true))
def zG3 (zaa:(Sl Gate)) (z:Int) (ziw:Bool):(Frac×Frac) :=
  (cond ziw
 (zG1 ((s71 zaa).1) ((s71 zaa).2.1))
 (zGZ zaa z))
def zG4 (zaa:(Sl Gate)) (z:Int) (ziw:Bool):Bool :=
  (cond ziw
 (decide ((p71 zaa=true)) &&
 (zG2 ((s71 zaa).1) ((s71 zaa).2.1)))
 (zG0 zaa z))
def s36 (zaa:(Sl Gate)) (z:Int):(Frac×Frac) :=
  (zG3 zaa z (s22 zaa))
def p36 (zaa:(Sl Gate)) (z:Int):Bool :=
  (decide ((p22 zaa=true)) &&
 (zG4 zaa z (s22 zaa)))
end
def zMN : List PA → COut
  | [.one (.sl a0_n a0_s a0_g),.one (.int .i64 a1)]=>.det (IsE enc_55 3 a0_s a0_g∧p36 (⟨a0_n,zad a0_g⟩:(Sl Gate)) a1=true) [.agg [.int .i64 (((s36 (⟨a0_n,zad a0_g⟩:(Sl Gate)) a1).1).Num),.int .i64 (((s36 (⟨a0_n,zad a0_g⟩:(Sl Gate)) a1).1).Den)],.agg [.int .i64 (((s36 (⟨a0_n,zad a0_g⟩:(Sl Gate)) a1).2).Num),.int .i64 (((s36 (⟨a0_n,zad a0_g⟩:(Sl Gate)) a1).2).Den)]]
  | _=>.no
section
variable {K:List PA→Prop} {zaa:(Sl Gate)} {lv0:(Sl Line)} {zMI:Nat→List PV} {iv1:Int} {zaU:Int} {zbe:Int} {zPE:Int} {zPF:Int} {X1:St→Prop} {P1:Int→Int→Int→Int→Int→Bool} {S1:Int→Int→Int→Int→Int→(Frac×Frac)} {iv2:Int} {zPG:Bool} {zMO:Int} {zMP:Int} {zMQ:Int} {zMR:Int} {iv3:Int} {zPH:Int} {zPI:Int} {zPJ:Int} {zPK:Int} {iv4:Int} {zMS:Bool} {zyQ:Int} {zyR:Int}
end
section
variable {K:List PA→Prop} {f:Frac}
end
abbrev T35:Tabs:=((Tabs.nil.addF 75 ztW).addF 82 zAO)
abbrev G35:Ctrs:=csm T35 (fun _ _=>[]) (fun _=>false)
def zMT:Ann:=⟨26,[(0,zK [0,2,3] [2,3]),(1,zK [2,3,5,6] [2,3,5]),(2,zK [2,3,5,6,15] [2,3,5]),(3,zK [2,3,4] [2,3]),(4,zK [2,3,7,8] [2,3,7,8]),(5,zK [2,3,4] [2,3])],
 [],
 [(4,zK [2,3,5] [2,3,5])],
 [],[]⟩
@[irreducible] def z35:=ptF Try.prog G35 zMT Try.f35
section
variable {K:List PA→Prop} {zaa:(Sl Gate)} {zmP:(Sl Gate)} {zmQ:(Sl straight)} {zqr:Nat→List PV} {zqs:Nat→List PV}
end
abbrev T48:Tabs:=((((((Tabs.nil.addF 67 zop).addF 68 zwn).addF 69 zp5).addF 75 ztW).addF 87 zAr).addF 89 zpL)
abbrev G48:Ctrs:=csm T48 (fun _ _=>[]) (fun _=>false)
def zMU:Ann:=⟨72,[(0,zK [0,3] [3]),(1,zK [0,3,14] [3]),(2,zK [4,5] []),(3,zK [3,6,7] [3,6]),(4,zK [3,6,7,21] [3,6]),(5,zK [4,5] []),(6,zK [3,6,36] [3,6]),(7,zK [4,5] []),(8,zK [3,8,9] [3,8,9]),(9,zK [8,9,10,11] [8,9,10,11]),(10,zK [8,9,10,11,50] [8,9,10,11]),(11,zK [4,5] []),(12,zK [61] []),(13,zK [4,5] []),(14,zK [4,5] [])],
 [],
 [(2,zK [0,3,14] [3]),(3,zK [0,3] [3]),(4,zK [3,6,7] [3,6]),(6,zK [3,6] [3,6]),(7,zK [3,6,36] [3,6]),(8,zK [3,6] [3,6]),(9,zK [3,8,9] [3,8,9]),(10,zK [8,9,10,11] [8,9,10,11]),(11,zK [8,9,10,11,50] [8,9,10,11]),(13,zK [61] [])],
 [],[]⟩
@[irreducible] def z48:=ptF Try.prog G48 zMU Try.f48
section
variable {K:List PA→Prop} {zaa:(Sl Gate)} {g:Gate} {zai:Bool} {ev2:Int} {zmL:(Sl Gate)} {zmM:(Sl straight)} {zqn:Nat→List PV} {zqo:Nat→List PV} {zhv:(Sl Gate)} {zhw:(Sl straight)} {zqp:Nat→List PV} {zqq:Nat→List PV} {zPL:Bool} {zPM:(Sl Gate)} {zPN:(Sl straight)} {zMV:Nat→List PV} {zMW:Nat→List PV} {zPO:(Sl Gate)} {zPP:(Sl straight)} {zMX:Nat→List PV} {zMY:Nat→List PV} {zry:Int} {zrz:Int} {zyS:Int} {zyT:Int} {zMZ:Int} {zM0:Int} {zK3:Int} {zK4:Int} {zPQ:Bool} {zPR:Bool}
end
abbrev T50:Tabs:=((((Tabs.nil.addF 22 zA3).addF 29 zKo).addF 36 zMN).addF 40 ztX)
abbrev G50:Ctrs:=csm T50 (fun _ _=>[]) (fun _=>false)
def zM1:Ann:=⟨51,[(0,zK [0,3] [3]),(1,zK [0,3,19] [3]),(2,zK [4] []),(3,zK [3,5,6] [3,5,6]),(4,zK [5,6,7,8] [5,6,7,8]),(5,zK [5,6,7,8,42] [5,6,7,8]),(6,zK [4] []),(7,zK [50] []),(8,zK [4] []),(9,zK [4] [])],
 [],
 [(2,zK [0,3,19] [3]),(3,zK [0,3] [3]),(4,zK [3,5,6] [3,5,6]),(5,zK [5,6,7,8] [5,6,7,8]),(6,zK [5,6,7,8,42] [5,6,7,8]),(8,zK [50] [])],
 [],[]⟩
@[irreducible] def z50:=ptF Try.prog G50 zM1 Try.f50
section
variable {K:List PA→Prop} {zaa:(Sl Gate)} {g:Gate} {zPS:Bool} {zMO:Int} {zMP:Int} {zMQ:Int} {zMR:Int} {zNN:Int} {zNO:Int} {zNP:Int} {zNQ:Int} {zMS:Bool} {zPT:Bool}
end
section
variable {K:List PA→Prop} {zaa:(Sl Gate)} {set_a1:(Sl Int)} {zb4:(Sl Int)} {iv0:Int} {zq9:Nat→List PV} {X0:St→Prop} {P0:(Sl Int)→Int→Bool} {S0:(Sl Int)→Int→Bool} {zfe:(Sl Int)} {iv1:Int} {zBe:Bool} {zra:Nat→List PV}
def znp (S0:(Sl Int)→Int→Bool) (zaa:(Sl Gate)) (zfe:(Sl Int)) (iv1:Int) (zBe:Bool):Bool :=
  (cond zBe
 false
 (S0 zfe (w64 (iv1+(1:Int)))))
def znq (P0:(Sl Int)→Int→Bool) (zaa:(Sl Gate)) (zfe:(Sl Int)) (iv1:Int) (zBe:Bool):Bool :=
  (cond zBe
 true
 (P0 zfe (w64 (iv1+(1:Int)))))
def zkw (zaa:(Sl Gate)) (S0:(Sl Int)→Int→Bool) (zb4:(Sl Int)) (iv0:Int):Bool :=
  (cond (decide (iv0 < (zb4.len : Int)))
 (cond (!(s70 (zb4.get iv0.toNat) (0:Int) (w64 ((zaa.len : Int) - (1:Int)))))
 (znp S0 zaa zb4 iv0 true)
 (cond (decide (iv0 > (0:Int)))
 (znp S0 zaa zb4 iv0 (decide ((zb4.get iv0.toNat)≤(zb4.get ((w64 (iv0 - (1:Int))).toNat)))))
 (znp S0 zaa zb4 iv0 false)))
 (cond (s70 (zb4.len : Int) (2:Int) (3:Int))
 (!(s21 (s47 zaa zb4)))
 false))
def zkx (zaa:(Sl Gate)) (P0:(Sl Int)→Int→Bool) (zb4:(Sl Int)) (iv0:Int):Bool :=
  (cond (decide (iv0 < (zb4.len : Int)))
 (decide ((0≤iv0∧iv0 < (zb4.len:Int))) &&
 (cond (!(s70 (zb4.get iv0.toNat) (0:Int) (w64 ((zaa.len : Int) - (1:Int)))))
 (znq P0 zaa zb4 iv0 true)
 (cond (decide (iv0 > (0:Int)))
 (decide ((0≤iv0∧iv0 < (zb4.len:Int))) &&
 (decide ((0≤(w64 (iv0 - (1:Int)))∧(w64 (iv0 - (1:Int))) < (zb4.len:Int))) &&
 (znq P0 zaa zb4 iv0 (decide ((zb4.get iv0.toNat)≤(zb4.get ((w64 (iv0 - (1:Int))).toNat)))))))
 (znq P0 zaa zb4 iv0 false))))
 (cond (s70 (zb4.len : Int) (2:Int) (3:Int))
 (decide ((p47 zaa zb4=true)) &&
 (decide ((p21 (s47 zaa zb4)=true)) &&
 true))
 true))
def zh5 (zaa:(Sl Gate)):Nat→(Sl Int)→Int→Bool:=lpO (fun _ _=>default) (zkw zaa)
def zh6 (zaa:(Sl Gate)):Nat→(Sl Int)→Int→Bool:=lpO (fun _ _=>false) (zkx zaa)
def zG5 (zaa:(Sl Gate)) (zb4:(Sl Int)) (iv0:Int):Bool:=zh5 zaa Fuel zb4 iv0
def zG6 (zaa:(Sl Gate)) (zb4:(Sl Int)) (iv0:Int):Bool:=zh6 zaa Fuel zb4 iv0
def s42 (zaa:(Sl Gate)) (set_a1:(Sl Int)):Bool :=
  (zG5 zaa set_a1 (0:Int))
def p42 (zaa:(Sl Gate)) (set_a1:(Sl Int)):Bool :=
  (zG6 zaa set_a1 (0:Int))
end
section
variable {K:List PA→Prop} {zaa:(Sl Gate)} {iv0:Int} {X0:St→Prop} {P0:Int→Bool} {S0:Int→(Sl Int)} {iv1:Int} {kv1:Int} {X1:St→Prop} {P1:Int→Int→Bool} {S1:Int→Int→(Sl Int)} {iv3:Int} {kv3:Int} {zBf:Bool} {iv4:Int} {X4:St→Prop} {P4:Int→Bool} {S4:Int→(Sl Int)} {iv5:Int} {kv5:Int} {X5:St→Prop} {P5:Int→Int→Bool} {S5:Int→Int→(Sl Int)} {iv6:Int} {kv6:Int} {jv6:Int} {X6:St→Prop} {P6:Int→Int→Int→Bool} {S6:Int→Int→Int→(Sl Int)} {iv7:Int} {kv7:Int} {jv7:Int} {zBg:Bool}
def zyW (S4:Int→(Sl Int)) (S5:Int→Int→(Sl Int)) (S6:Int→Int→Int→(Sl Int)) (zaa:(Sl Gate)) (iv7:Int) (kv7:Int) (jv7:Int) (zBg:Bool):(Sl Int) :=
  (cond zBg
 (⟨3,(zgU iv7 [iv7,kv7,jv7])⟩:(Sl Int))
 (S6 iv7 kv7 (w64 (jv7+(1:Int)))))
def zyX (P4:Int→Bool) (P5:Int→Int→Bool) (P6:Int→Int→Int→Bool) (zaa:(Sl Gate)) (iv7:Int) (kv7:Int) (jv7:Int) (zBg:Bool):Bool :=
  (cond zBg
 true
 (P6 iv7 kv7 (w64 (jv7+(1:Int)))))
def zky (S4:Int→(Sl Int)) (S5:Int→Int→(Sl Int)) (zaa:(Sl Gate)) (S6:Int→Int→Int→(Sl Int)) (iv6:Int) (kv6:Int) (jv6:Int):(Sl Int) :=
  (cond (decide (jv6 < (zaa.len : Int)))
 (zyW S4 S5 S6 zaa iv6 kv6 jv6 (!(s21 (s47 zaa (⟨3,zbc (zcn [(zaj iv6),(zaj kv6),(zaj jv6)])⟩:(Sl Int))))))
 (S5 iv6 (w64 (kv6+(1:Int)))))
def zkz (P4:Int→Bool) (P5:Int→Int→Bool) (zaa:(Sl Gate)) (P6:Int→Int→Int→Bool) (iv6:Int) (kv6:Int) (jv6:Int):Bool :=
  (cond (decide (jv6 < (zaa.len : Int)))
 (decide ((p47 zaa (⟨3,zbc (zcn [(zaj iv6),(zaj kv6),(zaj jv6)])⟩:(Sl Int))=true)) &&
 (decide ((p21 (s47 zaa (⟨3,zbc (zcn [(zaj iv6),(zaj kv6),(zaj jv6)])⟩:(Sl Int)))=true)) &&
 (zyX P4 P5 P6 zaa iv6 kv6 jv6 (!(s21 (s47 zaa (⟨3,zbc (zcn [(zaj iv6),(zaj kv6),(zaj jv6)])⟩:(Sl Int))))))))
 (P5 iv6 (w64 (kv6+(1:Int)))))
def zkA (S4:Int→(Sl Int)) (S5:Int→Int→(Sl Int)) (zaa:(Sl Gate)):Nat→Int→Int→Int→(Sl Int):=lpO (fun _ _ _=>default) (zky S4 S5 zaa)
def zkB (P4:Int→Bool) (P5:Int→Int→Bool) (zaa:(Sl Gate)):Nat→Int→Int→Int→Bool:=lpO (fun _ _ _=>false) (zkz P4 P5 zaa)
def zyY (S4:Int→(Sl Int)) (S5:Int→Int→(Sl Int)) (zaa:(Sl Gate)) (iv6:Int) (kv6:Int) (jv6:Int):(Sl Int):=zkA S4 S5 zaa Fuel iv6 kv6 jv6
def zyZ (P4:Int→Bool) (P5:Int→Int→Bool) (zaa:(Sl Gate)) (iv6:Int) (kv6:Int) (jv6:Int):Bool:=zkB P4 P5 zaa Fuel iv6 kv6 jv6
def zkC (S4:Int→(Sl Int)) (zaa:(Sl Gate)) (S5:Int→Int→(Sl Int)) (iv5:Int) (kv5:Int):(Sl Int) :=
  (cond (decide (kv5 < (zaa.len : Int)))
 (zyY S4 S5 zaa iv5 kv5 (w64 (kv5+(1:Int))))
 (S4 (w64 (iv5+(1:Int)))))
def zkD (P4:Int→Bool) (zaa:(Sl Gate)) (P5:Int→Int→Bool) (iv5:Int) (kv5:Int):Bool :=
  (cond (decide (kv5 < (zaa.len : Int)))
 (zyZ P4 P5 zaa iv5 kv5 (w64 (kv5+(1:Int))))
 (P4 (w64 (iv5+(1:Int)))))
def zkE (S4:Int→(Sl Int)) (zaa:(Sl Gate)):Nat→Int→Int→(Sl Int):=lpO (fun _ _=>default) (zkC S4 zaa)
def zkF (P4:Int→Bool) (zaa:(Sl Gate)):Nat→Int→Int→Bool:=lpO (fun _ _=>false) (zkD P4 zaa)
def zy0 (S4:Int→(Sl Int)) (zaa:(Sl Gate)) (iv5:Int) (kv5:Int):(Sl Int):=zkE S4 zaa Fuel iv5 kv5
def zy1 (P4:Int→Bool) (zaa:(Sl Gate)) (iv5:Int) (kv5:Int):Bool:=zkF P4 zaa Fuel iv5 kv5
def zkG (zaa:(Sl Gate)) (S4:Int→(Sl Int)) (iv4:Int):(Sl Int) :=
  (cond (decide (iv4 < (zaa.len : Int)))
 (zy0 S4 zaa iv4 (w64 (iv4+(1:Int))))
 (⟨0,fun _=>default⟩:(Sl Int)))
def zkH (zaa:(Sl Gate)) (P4:Int→Bool) (iv4:Int):Bool :=
  (cond (decide (iv4 < (zaa.len : Int)))
 (zy1 P4 zaa iv4 (w64 (iv4+(1:Int))))
 true)
def zkI (zaa:(Sl Gate)):Nat→Int→(Sl Int):=lpO (fun _=>default) (zkG zaa)
def zkJ (zaa:(Sl Gate)):Nat→Int→Bool:=lpO (fun _=>false) (zkH zaa)
def zG7 (zaa:(Sl Gate)) (iv4:Int):(Sl Int):=zkI zaa Fuel iv4
def zG8 (zaa:(Sl Gate)) (iv4:Int):Bool:=zkJ zaa Fuel iv4
def zy2 (S0:Int→(Sl Int)) (S1:Int→Int→(Sl Int)) (zaa:(Sl Gate)) (iv3:Int) (kv3:Int) (zBf:Bool):(Sl Int) :=
  (cond zBf
 (⟨2,(zgU iv3 [iv3,kv3])⟩:(Sl Int))
 (S1 iv3 (w64 (kv3+(1:Int)))))
def zy3 (P0:Int→Bool) (P1:Int→Int→Bool) (zaa:(Sl Gate)) (iv3:Int) (kv3:Int) (zBf:Bool):Bool :=
  (cond zBf
 true
 (P1 iv3 (w64 (kv3+(1:Int)))))
def zG9 (zaa:(Sl Gate)):(Sl Int) :=
  (zG7 zaa (0:Int))
def zHa (zaa:(Sl Gate)):Bool :=
  (zG8 zaa (0:Int))
def zkK (S0:Int→(Sl Int)) (zaa:(Sl Gate)) (S1:Int→Int→(Sl Int)) (iv1:Int) (kv1:Int):(Sl Int) :=
  (cond (decide (kv1 < (zaa.len : Int)))
 (zy2 S0 S1 zaa iv1 kv1 (!(s21 (s47 zaa (⟨2,zbc (zcn [(zaj iv1),(zaj kv1)])⟩:(Sl Int))))))
 (S0 (w64 (iv1+(1:Int)))))
def zkL (P0:Int→Bool) (zaa:(Sl Gate)) (P1:Int→Int→Bool) (iv1:Int) (kv1:Int):Bool :=
  (cond (decide (kv1 < (zaa.len : Int)))
 (decide ((p47 zaa (⟨2,zbc (zcn [(zaj iv1),(zaj kv1)])⟩:(Sl Int))=true)) &&
 (decide ((p21 (s47 zaa (⟨2,zbc (zcn [(zaj iv1),(zaj kv1)])⟩:(Sl Int)))=true)) &&
 (zy3 P0 P1 zaa iv1 kv1 (!(s21 (s47 zaa (⟨2,zbc (zcn [(zaj iv1),(zaj kv1)])⟩:(Sl Int))))))))
 (P0 (w64 (iv1+(1:Int)))))
def zkM (S0:Int→(Sl Int)) (zaa:(Sl Gate)):Nat→Int→Int→(Sl Int):=lpO (fun _ _=>default) (zkK S0 zaa)
def zkN (P0:Int→Bool) (zaa:(Sl Gate)):Nat→Int→Int→Bool:=lpO (fun _ _=>false) (zkL P0 zaa)
def zy4 (S0:Int→(Sl Int)) (zaa:(Sl Gate)) (iv1:Int) (kv1:Int):(Sl Int):=zkM S0 zaa Fuel iv1 kv1
def zy5 (P0:Int→Bool) (zaa:(Sl Gate)) (iv1:Int) (kv1:Int):Bool:=zkN P0 zaa Fuel iv1 kv1
def zkO (zaa:(Sl Gate)) (S0:Int→(Sl Int)) (iv0:Int):(Sl Int) :=
  (cond (decide (iv0 < (zaa.len : Int)))
 (zy4 S0 zaa iv0 (w64 (iv0+(1:Int))))
 (zG9 zaa))
def zkP (zaa:(Sl Gate)) (P0:Int→Bool) (iv0:Int):Bool :=
  (cond (decide (iv0 < (zaa.len : Int)))
 (zy5 P0 zaa iv0 (w64 (iv0+(1:Int))))
 (zHa zaa))
def zkQ (zaa:(Sl Gate)):Nat→Int→(Sl Int):=lpO (fun _=>default) (zkO zaa)
def zkR (zaa:(Sl Gate)):Nat→Int→Bool:=lpO (fun _=>false) (zkP zaa)
def zHb (zaa:(Sl Gate)) (iv0:Int):(Sl Int):=zkQ zaa Fuel iv0
def zHc (zaa:(Sl Gate)) (iv0:Int):Bool:=zkR zaa Fuel iv0
def s43 (zaa:(Sl Gate)):(Sl Int) :=
  (zHb zaa (0:Int))
def p43 (zaa:(Sl Gate)):Bool :=
  (zHc zaa (0:Int))
end
end Go.Proofs
namespace Go.Pm
open Go
theorem zaK {i n:Nat} (h:i < n) (hn:n≤9223372036854775807):w64 ((i:Int)+(1:Int))=((i+1:Nat):Int):=by
 rw [zaR (by omega) (by omega)];omega
theorem zrA {β : Type} {good : Nat → Bool} {bad fin : β} {finP : Bool} {n : Nat} {lpS : Nat → Int → β} {lpP : Nat → Int → Bool}
    (hS:∀ (k i:Nat),i < n→lpS (k+1) (i:Int)=cond (good i) (lpS k (w64 ((i:Int)+(1:Int)))) bad)
    (hE:∀ k,lpS (k+1) (n:Int)=fin)
    (hP:∀ (k i:Nat),i < n→lpP (k+1) (i:Int)=cond (good i) (lpP k (w64 ((i:Int)+(1:Int)))) true)
    (hPE:∀ k,lpP (k+1) (n:Int)=finP) (hn:n≤9223372036854775807) :
    ((∀ i,i < n→good i=true)→lpP Fuel 0=finP∧lpS Fuel 0=fin)∧((¬ ∀ i,i < n→good i=true)→lpP Fuel 0=true∧lpS Fuel 0=bad):=by
  have key:∀ (m k i:Nat),i+m=n→m < k→((∀ j,i≤j→j < n→good j=true)→lpP k (i:Int)=finP∧lpS k (i:Int)=fin)∧((¬ ∀ j,i≤j→j < n→good j=true)→lpP k (i:Int)=true∧lpS k (i:Int)=bad):=by
    intro m
    induction m with
    | zero =>
      intro k i hi hk
      obtain ⟨k,rfl⟩:∃ k',k=k'+1:=⟨k - 1,by omega⟩
      have:i=n:=by omega
      subst this
      rw [hE,hPE]
      exact ⟨fun _=>⟨rfl,rfl⟩,fun h=>absurd (fun j h1 h2=>absurd h2 (by omega)) h⟩
    | succ m ih =>
      intro k i hi hk
      obtain ⟨k,rfl⟩:∃ k',k=k'+1:=⟨k - 1,by omega⟩
      rw [hS k i (by omega),hP k i (by omega),zaK (n:=n) (by omega) hn]
      obtain ⟨h1,h2⟩:=ih k (i+1) (by omega) (by omega)
      cases hg:good i
      · refine ⟨fun h => ?_, fun _ => ⟨rfl, rfl⟩⟩
        have:=h i (Nat.le_refl _) (by omega)
        rw [hg] at this;cases this
      · refine ⟨fun h => h1 fun j a b => h j (by omega) b, fun h => h2 fun h' => h fun j a b => ?_⟩
        by_cases hji:j=i
        · rw [hji];exact hg
        · exact h' j (by omega) b
  have:=key n Fuel 0 (by omega) (by simp only [Fuel];omega)
  simpa using this
def zf5 {σ : Type} (step : Nat → σ → σ) : Nat → Nat → σ → σ
  | 0,_,s=>s
  | m+1,i,s=>zf5 step m (i+1) (step i s)
theorem zee {σ β : Type} {step : Nat → σ → σ} {E : σ → β} {EP : σ → Bool} {Inv : Nat → σ → Prop} {a n : Nat} {lpS : Nat → σ → Int → β} {lpP : Nat → σ → Int → Bool}
    (hS:∀ (k i:Nat) (s:σ),a≤i→i < n→Inv i s→lpS (k+1) s (i:Int)=lpS k (step i s) (w64 ((i:Int)+(1:Int))))
    (hE:∀ k s,lpS (k+1) s (n:Int)=E s)
    (hP:∀ (k i:Nat) (s:σ),a≤i→i < n→Inv i s→lpP (k+1) s (i:Int)=lpP k (step i s) (w64 ((i:Int)+(1:Int))))
    (hPE:∀ k s,lpP (k+1) s (n:Int)=EP s)
    (hI:∀ i s,a≤i→i < n→Inv i s→Inv (i+1) (step i s)) (ha:a≤n) (hn:n≤9223372036854775807) (s:σ) (h0:Inv a s) :
    lpP Fuel s (a:Int)=EP (zf5 step (n - a) a s)∧lpS Fuel s (a:Int)=E (zf5 step (n - a) a s):=by
  have key:∀ (m k i:Nat) (s:σ),a≤i→i+m=n→m < k→Inv i s→lpP k s (i:Int)=EP (zf5 step m i s)∧lpS k s (i:Int)=E (zf5 step m i s):=by
    intro m
    induction m with
    | zero =>
      intro k i s h1 hi hk _
      obtain ⟨k,rfl⟩:∃ k',k=k'+1:=⟨k - 1,by omega⟩
      have:i=n:=by omega
      subst this
      rw [hE,hPE]
      exact ⟨rfl,rfl⟩
    | succ m ih =>
      intro k i s h1 hi hk hs
      obtain ⟨k,rfl⟩:∃ k',k=k'+1:=⟨k - 1,by omega⟩
      rw [hS k i s h1 (by omega) hs,hP k i s h1 (by omega) hs,zaK (n:=n) (by omega) hn]
      exact ih k (i+1) (step i s) (by omega) (by omega) (by omega) (hI i s h1 (by omega) hs)
  exact key (n - a) Fuel a s (Nat.le_refl _) (by omega) (by simp only [Fuel];omega) h0
end Go.Pm
namespace Go.Proofs
open Go Go.Pm
set_option maxRecDepth 100000
theorem zkS (n a b:Int):s70 n a b=decide (a≤n∧n≤b):=by
 unfold s70;by_cases h:n ≥ a
 ·rw [decide_eq_true h,cond_true];exact decide_eq_decide.2 ⟨fun k=>⟨h,k⟩,fun k=>k.2⟩
 ·rw [decide_eq_false h,cond_false];exact (decide_eq_false fun k=>h k.1).symm
theorem zoL (n a b:Int):s74 n a b=decide (a≤n∧n≤b):=zkS n a b
def zdM (g:Gate):Prop:=(0≤g.Z∧g.Z≤100000)∧-1000000≤g.Low∧g.Low≤g.High∧g.High≤1000000
def zau (l:Sl Gate):Prop:=(∀ i,i < l.len→zdM (l.get i))∧1≤l.len∧l.len≤24
theorem zfr (a b:Bool):cond a b false=(a && b):=by cases a <;> rfl
theorem zCA (g:Gate):s87 g=true↔zdM g:=by
 unfold s87 zdM
 rw [zoL,zfr,zfr,zfr,Bool.and_eq_true,Bool.and_eq_true,Bool.and_eq_true,decide_eq_true_eq,decide_eq_true_eq,decide_eq_true_eq,decide_eq_true_eq]
theorem zCB (g:Gate):s49 g=true↔zdM g:=by
 unfold s49 zdM
 rw [zkS,zkS,zfr,zfr,Bool.and_eq_true,Bool.and_eq_true,decide_eq_true_eq,decide_eq_true_eq,decide_eq_true_eq]
 omega
theorem zoM (l:Sl Gate) (hn:l.len≤9223372036854775807):p64 l=true∧(s64 l=true↔zau l):=by
  have := zsf (good := fun i => s87 (l.get i)) (fin := s74 (l.len : Int) 1 24) (n := l.len) (lpS := zg8 l) (lpP := zg9 l)
    (fun k i hi=>by
      show zg6 l (zg8 l k) (i:Int)=_
      generalize zg8 l k=S
      unfold zg6 zpE
      rw [decide_eq_true (show (i:Int) < (l.len:Int) by omega),cond_true,Int.toNat_natCast]
      cases s87 (l.get i) <;> rfl)
    (fun k=>by
      show zg6 l (zg8 l k) (l.len:Int)=_
      unfold zg6
      rw [decide_eq_false (show ¬ (l.len:Int) < (l.len:Int) by omega),cond_false])
    (fun k i hi=>by
      show zg7 l (zg9 l k) (i:Int)=_
      generalize zg9 l k=S
      unfold zg7 zpF
      rw [decide_eq_true (show (i:Int) < (l.len:Int) by omega),cond_true,Int.toNat_natCast,decide_eq_true (show 0≤(i:Int)∧(i:Int) < (l.len:Int) by omega),Bool.true_and]
      cases s87 (l.get i) <;> rfl)
    (fun k=>by
      show zg7 l (zg9 l k) (l.len:Int)=_
      unfold zg7
      rw [decide_eq_false (show ¬ (l.len:Int) < (l.len:Int) by omega),cond_false])
    hn
  refine ⟨this.1,this.2.trans ?_⟩
  rw [zoL,decide_eq_true_eq]
  exact ⟨fun k=>⟨fun i hi=>(zCA _).1 (k.1 i hi),by omega,by omega⟩,fun k=>⟨fun i hi=>(zCA _).2 (k.1 i hi),by have:=k.2;omega⟩⟩
theorem zy6 (l:Sl Gate) (hn:l.len≤9223372036854775807):p20 l=true∧(s20 l=true↔zau l):=by
  have := zsf (good := fun i => s49 (l.get i)) (fin := s70 (l.len : Int) 1 24) (n := l.len) (lpS := zhF l) (lpP := zhG l)
    (fun k i hi=>by
      show zhD l (zhF l k) (i:Int)=_
      generalize zhF l k=S
      unfold zhD zq3
      rw [decide_eq_true (show (i:Int) < (l.len:Int) by omega),cond_true,Int.toNat_natCast]
      cases s49 (l.get i) <;> rfl)
    (fun k=>by
      show zhD l (zhF l k) (l.len:Int)=_
      unfold zhD
      rw [decide_eq_false (show ¬ (l.len:Int) < (l.len:Int) by omega),cond_false])
    (fun k i hi=>by
      show zhE l (zhG l k) (i:Int)=_
      generalize zhG l k=S
      unfold zhE zq4
      rw [decide_eq_true (show (i:Int) < (l.len:Int) by omega),cond_true,Int.toNat_natCast,decide_eq_true (show 0≤(i:Int)∧(i:Int) < (l.len:Int) by omega),Bool.true_and]
      cases s49 (l.get i) <;> rfl)
    (fun k=>by
      show zhE l (zhG l k) (l.len:Int)=_
      unfold zhE
      rw [decide_eq_false (show ¬ (l.len:Int) < (l.len:Int) by omega),cond_false])
    hn
  refine ⟨this.1,this.2.trans ?_⟩
  rw [zkS,decide_eq_true_eq]
  exact ⟨fun k=>⟨fun i hi=>(zCB _).1 (k.1 i hi),by omega,by omega⟩,fun k=>⟨fun i hi=>(zCB _).2 (k.1 i hi),by have:=k.2;omega⟩⟩
theorem zKp (l:Sl Gate) (hn:l.len≤9223372036854775807):s64 l=s20 l :=
 Bool.eq_iff_iff.2 ((zoM l hn).2.trans (zy6 l hn).2.symm)
-- the greatest common divisor
theorem zy7:∀ (k:Nat) (a b:Int),0≤a→0≤b→b < (k:Int) →
  (ziK k a b=true∧ziJ k a b=(Int.gcd a b:Int))∧(zmX k a b=true∧zmW k a b=(Int.gcd a b:Int)):=by
 intro k
 induction k with
 | zero=>intro a b _ h1 h2;omega
 | succ k ih =>
  intro a b ha hb hk
  show (ziI (ziK k) a b=true∧ziH (ziJ k) a b=_)∧(zmV (zmX k) a b=true∧zmU (zmW k) a b=_)
  unfold ziI ziH zmV zmU
  by_cases h0:b=0
  ·subst h0
   simp [Int.natAbs_of_nonneg ha]
  ·have hb0 : b > 0 := by omega
   have e1:(b != (0:Int))=true:=by simpa using h0
   have m0:0≤a.tmod b:=Int.tmod_nonneg b ha
   have m1:a.tmod b < b:=Int.tmod_lt_of_pos a hb0
   have g:Int.gcd b (a.tmod b)=Int.gcd a b:=by
    obtain ⟨m,rfl⟩:=Int.eq_ofNat_of_zero_le ha
    obtain ⟨n,rfl⟩:=Int.eq_ofNat_of_zero_le hb
    show Nat.gcd n (m % n)=Nat.gcd m n
    rw [Nat.gcd_comm m n,Nat.gcd_rec n m,Nat.gcd_comm]
   obtain ⟨⟨i1,i2⟩,i3,i4⟩:=ih b (a.tmod b) hb m0 (by omega)
   rw [decide_eq_true hb0,e1,decide_eq_true (show b ≠ 0 from h0),cond_true,cond_true,cond_true,cond_true,Bool.true_and,Bool.true_and,i1,i2,i3,i4,g]
   exact ⟨⟨rfl,rfl⟩,rfl,rfl⟩
theorem zHd (a b:Int) (ha:0≤a) (hb:0≤b) (hk:b≤9223372036854775807):zKU a b=true∧zDy a b=(Int.gcd a b:Int) :=
 (zy7 Fuel a b ha hb (by simp only [Fuel];omega)).1
theorem zKq (a b:Int) (ha:0≤a) (hb:0≤b) (hk:b≤9223372036854775807):p73 a b=true∧s73 a b=(Int.gcd a b:Int) :=
 (zy7 Fuel a b ha hb (by simp only [Fuel];omega)).2
-- the order of equal lists
def SEq {α:Type} (a b:Sl α):Prop:=a.len=b.len∧∀ i,i < a.len→a.get i=b.get i
end Go.Proofs
namespace Go.Proofs
open Go Go.Pm
set_option maxRecDepth 100000
theorem zgL {σ : Type} {step : Nat → σ → σ} {Inv : Nat → σ → Prop} {n : Nat} (hI : ∀ i s, i < n → Inv i s → Inv (i + 1) (step i s)) :
    ∀ (m i:Nat) (s:σ),i+m=n→Inv i s→Inv n (zf5 step m i s):=by
  intro m
  induction m with
  | zero => intro i s h hs; have : i = n := by omega
            subst this;exact hs
  | succ m ih=>intro i s h hs;exact ih (i+1) (step i s) (by omega) (hI i s (by omega) hs)
def addI (l:Line) (zaa:Sl Gate) (i:Nat) (v:Sl Int):Sl Int:=cond (s72 l (zaa.get i)) (⟨v.len+1,zc7 v.len v.get (fun _=>(i:Int))⟩:Sl Int) v
def zK5 (l:Line) (zaa:Sl Gate):Sl Int:=zf5 (addI l zaa) zaa.len 0 (⟨0,fun _=>default⟩:Sl Int)
theorem zs4 (l:Line) (zaa:Sl Gate) (i:Nat) (v:Sl Int) (h:v.len≤i):(addI l zaa i v).len≤i+1:=by
 unfold addI;cases s72 l (zaa.get i)
 ·exact Nat.le_succ_of_le h
 ·exact Nat.succ_le_succ h
theorem zKr (l:Line) (zaa:Sl Gate) (hn:zaa.len≤40):p27 l zaa=true∧s27 l zaa=zK5 l zaa:=by
  have := zee (σ := Sl Int) (step := addI l zaa) (E := id) (EP := fun _ => true) (Inv := fun i v => v.len ≤ i) (a := 0) (n := zaa.len) (lpS := fun k v i => zhN l zaa k i v) (lpP := fun k v i => zhO l zaa k i v)
    (fun k i v _ hi _=>by
      show zhL l zaa (zhN l zaa k) (i:Int) v=_
      generalize zhN l zaa k=S
      unfold zhL zq7 addI
      rw [decide_eq_true (show (i:Int) < (zaa.len:Int) by omega),cond_true,Int.toNat_natCast]
      cases s72 l (zaa.get i) <;> rfl)
    (fun k v=>by
      show zhL l zaa (zhN l zaa k) (zaa.len:Int) v=_
      unfold zhL
      rw [decide_eq_false (show ¬ (zaa.len:Int) < (zaa.len:Int) by omega),cond_false];rfl)
    (fun k i v _ hi hv=>by
      show zhM l zaa (zhO l zaa k) (i:Int) v=_
      generalize zhO l zaa k=S
      unfold zhM zq8 addI
      rw [decide_eq_true (show (i:Int) < (zaa.len:Int) by omega),cond_true,Int.toNat_natCast,decide_eq_true (show 0≤(i:Int)∧(i:Int) < (zaa.len:Int) by omega),decide_eq_true (show (v.len+1) * 8≤140737488355328∧v.len+1≤9223372036854775807 by omega)]
      cases s72 l (zaa.get i) <;> rfl)
    (fun k v=>by
      show zhM l zaa (zhO l zaa k) (zaa.len:Int) v=_
      unfold zhM
      rw [decide_eq_false (show ¬ (zaa.len:Int) < (zaa.len:Int) by omega),cond_false])
    (fun i v _ _ h=>zs4 l zaa i v h) (Nat.zero_le _) (by omega) (⟨0,fun _=>default⟩:Sl Int) (Nat.le_refl _)
  exact this
end Go.Proofs
namespace Go.Proofs
open Go Go.Pm
set_option maxRecDepth 100000
end Go.Proofs
namespace Go.Proofs
open Go Go.Pm
set_option maxRecDepth 100000
def red (num den:Int):Frac:=⟨num.tdiv (Int.gcd num den:Int),den.tdiv (Int.gcd num den:Int)⟩
theorem zCC (num:Int):(if -num > num then -num else num)=(num.natAbs:Int):=by split <;> omega
theorem zy8 (num den:Int):Int.gcd (num.natAbs:Int) den=Int.gcd num den:=by
 unfold Int.gcd;rw [Int.natAbs_natCast]
theorem zcJ {num den:Int} (hd:0 < den):0 < (Int.gcd num den:Int):=by
 have:Int.gcd num den ≠ 0:=fun h=>by have:=(Int.gcd_eq_zero_iff.1 h).2;omega
 omega
theorem zPU (num den:Int):∃ a,num=(Int.gcd num den:Int) * a:=Int.gcd_dvd_left num den
theorem zPV (num den:Int):∃ a,den=(Int.gcd num den:Int) * a:=Int.gcd_dvd_right num den
theorem zff {num den:Int} (hd:0 < den):(Int.gcd num den:Int) * (red num den).Num=num:=by
 have hg:=zcJ (num:=num) hd
 obtain ⟨a,ha⟩:=zPU num den
 show (Int.gcd num den:Int) * num.tdiv (Int.gcd num den:Int)=num
 generalize (Int.gcd num den:Int)=g at ha hg ⊢
 rw [ha,Int.mul_tdiv_cancel_left _ (by omega)]
theorem zeE {num den:Int} (hd:0 < den):(Int.gcd num den:Int) * (red num den).Den=den:=by
 have hg:=zcJ (num:=num) hd
 obtain ⟨a,ha⟩:=zPV num den
 show (Int.gcd num den:Int) * den.tdiv (Int.gcd num den:Int)=den
 generalize (Int.gcd num den:Int)=g at ha hg ⊢
 rw [ha,Int.mul_tdiv_cancel_left _ (by omega)]
theorem zfg {num den:Int} (hd:0 < den):0 < (red num den).Den:=by
 have h1:=zeE (num:=num) hd
 have hg:=zcJ (num:=num) hd
 rcases Int.lt_or_le 0 (red num den).Den with h | h
 ·exact h
 ·have := Int.mul_le_mul_of_nonneg_left h (Int.le_of_lt hg)
  rw [h1,Int.mul_zero] at this
  omega
theorem zoN {num den:Int} (hd:0 < den):(red num den).Den≤den:=by
 have h1:=zeE (num:=num) hd
 have hg:=zcJ (num:=num) hd
 have:=Int.mul_le_mul_of_nonneg_right (show (1:Int)≤(Int.gcd num den:Int) by omega) (Int.le_of_lt (zfg (num:=num) hd))
 omega
theorem zkT {num den:Int} (hd:0 < den) : -(num.natAbs:Int)≤(red num den).Num∧(red num den).Num≤(num.natAbs:Int):=by
 have h1:=zff (num:=num) hd
 have hg:=zcJ (num:=num) hd
 have h2:num.natAbs=(Int.gcd num den) * (red num den).Num.natAbs:=by
  have:=congrArg Int.natAbs h1
  rw [Int.natAbs_mul] at this
  simpa using this.symm
 have h3:(red num den).Num.natAbs≤num.natAbs:=by
  rw [h2];exact Nat.le_mul_of_pos_left _ (by omega)
 omega
theorem zy9 {num den:Int} (hd:0 < den):Int.gcd (red num den).Num (red num den).Den=1:=by
 have h1:=zff (num:=num) hd
 have h2:=zeE (num:=num) hd
 have hg:=zcJ (num:=num) hd
 have h3:Int.gcd ((Int.gcd num den:Int) * (red num den).Num) ((Int.gcd num den:Int) * (red num den).Den)=Int.gcd num den * Int.gcd (red num den).Num (red num den).Den:=by
  rw [Int.gcd_mul_left];simp
 rw [h1,h2] at h3
 have h4:Int.gcd num den * 1=Int.gcd num den * Int.gcd (red num den).Num (red num den).Den:=by rw [Nat.mul_one];exact h3
 exact (Nat.eq_of_mul_eq_mul_left (by omega) h4).symm
theorem zCD {a b c d:Int} (hb:0 < b) (hd:0 < d):red a b=red c d↔a * d=c * b:=by
 have a1:=zff (num:=a) hb
 have a2:=zeE (num:=a) hb
 have c1:=zff (num:=c) hd
 have c2:=zeE (num:=c) hd
 constructor
 ·intro h
  rw [h] at a1 a2
  generalize hG:(Int.gcd a b:Int)=G at a1 a2
  generalize hK:(Int.gcd c d:Int)=K at c1 c2
  generalize (red c d).Num=x at a1 c1
  generalize (red c d).Den=y at a2 c2
  subst a1;subst a2;subst c1;subst c2
  ac_rfl
 ·intro h
  have ga:=zy9 (num:=a) hb
  have gc:=zy9 (num:=c) hd
  have pa:=zfg (num:=a) hb
  have pc:=zfg (num:=c) hd
  have hG:=zcJ (num:=a) hb
  have hK:=zcJ (num:=c) hd
  -- cross products of the lowest forms
  have hx:(red a b).Num * (red c d).Den=(red c d).Num * (red a b).Den:=by
   have e:((Int.gcd a b:Int) * (Int.gcd c d:Int)) * ((red a b).Num * (red c d).Den)=((Int.gcd a b:Int) * (Int.gcd c d:Int)) * ((red c d).Num * (red a b).Den):=by
    have l1:((Int.gcd a b:Int) * (Int.gcd c d:Int)) * ((red a b).Num * (red c d).Den)=((Int.gcd a b:Int) * (red a b).Num) * ((Int.gcd c d:Int) * (red c d).Den):=by
     generalize (Int.gcd a b:Int)=G;generalize (Int.gcd c d:Int)=K
     ac_rfl
    have l2:((Int.gcd a b:Int) * (Int.gcd c d:Int)) * ((red c d).Num * (red a b).Den)=((Int.gcd c d:Int) * (red c d).Num) * ((Int.gcd a b:Int) * (red a b).Den):=by
     generalize (Int.gcd a b:Int)=G;generalize (Int.gcd c d:Int)=K
     ac_rfl
    rw [l1,l2,a1,a2,c1,c2];exact h
   exact Int.eq_of_mul_eq_mul_left (by have:=Int.mul_pos hG hK;omega) e
  have hx':=congrArg Int.natAbs hx
  rw [Int.natAbs_mul,Int.natAbs_mul] at hx'
  have ga':Nat.Coprime (red a b).Den.natAbs (red a b).Num.natAbs:=(Nat.gcd_comm _ _).trans ga
  have gc':Nat.Coprime (red c d).Den.natAbs (red c d).Num.natAbs:=(Nat.gcd_comm _ _).trans gc
  have d1:(red a b).Den ∣ (red c d).Den:=Int.natAbs_dvd_natAbs.1 (ga'.dvd_of_dvd_mul_left ⟨(red c d).Num.natAbs,by rw [hx',Nat.mul_comm]⟩)
  have d2:(red c d).Den ∣ (red a b).Den:=Int.natAbs_dvd_natAbs.1 (gc'.dvd_of_dvd_mul_left ⟨(red a b).Num.natAbs,by rw [← hx',Nat.mul_comm]⟩)
  have hden:(red a b).Den=(red c d).Den:=Int.le_antisymm (Int.le_of_dvd pc d1) (Int.le_of_dvd pa d2)
  rw [← hden] at hx
  have hnum:=Int.eq_of_mul_eq_mul_right (by omega) hx
  cases h1:red a b;cases h2:red c d
  rw [h1,h2] at hden hnum
  simp only at hden hnum
  rw [hden,hnum]
theorem zs5 {num den:Int} (h1 : -4611686018427387904≤num) (h2:num≤4611686018427387904) (hd:0 < den) (hd2:den≤4611686018427387904):p89 num den=true∧s89 num den=red num den:=by
 have e:w64 (0 - num) = -num:=by rw [zaR (by omega) (by omega)];omega
 obtain ⟨g1,g2⟩:=zHd (num.natAbs:Int) den (by omega) (by omega) (by omega)
 have hg:=zcJ (num:=num) hd
 have r1:=zkT (num:=num) hd
 have r2:=zoN (num:=num) hd
 have r3:=zfg (num:=num) hd
 unfold p89 s89
 rw [e,zCC,g1,g2,zy8]
 have w1:w64 (num.tdiv (Int.gcd num den:Int))=(red num den).Num:=zaR (by show _≤(red num den).Num;omega) (by show (red num den).Num≤_;omega)
 have w2:w64 (den.tdiv (Int.gcd num den:Int))=(red num den).Den:=zaR (by show _≤(red num den).Den;omega) (by show (red num den).Den≤_;omega)
 rw [w1,w2,decide_eq_true (show (Int.gcd num den:Int) ≠ 0 by omega)]
 exact ⟨by simp only [decide_true,Bool.and_self],by cases red num den;simp only⟩
theorem zs6 {num den:Int} (h1 : -4611686018427387904≤num) (h2:num≤4611686018427387904) (hd:0 < den) (hd2:den≤4611686018427387904):p40 num den=true∧s40 num den=red num den:=by
 have e:w64 (0 - num) = -num:=by rw [zaR (by omega) (by omega)];omega
 obtain ⟨g1,g2⟩:=zKq (num.natAbs:Int) den (by omega) (by omega) (by omega)
 have hg:=zcJ (num:=num) hd
 have r1:=zkT (num:=num) hd
 have r2:=zoN (num:=num) hd
 have r3:=zfg (num:=num) hd
 unfold p40 s40
 rw [e,zCC,g1,g2,zy8]
 have w1:w64 (num.tdiv (Int.gcd num den:Int))=(red num den).Num:=zaR (by show _≤(red num den).Num;omega) (by show (red num den).Num≤_;omega)
 have w2:w64 (den.tdiv (Int.gcd num den:Int))=(red num den).Den:=zaR (by show _≤(red num den).Den;omega) (by show (red num den).Den≤_;omega)
 rw [w1,w2,decide_eq_true (show (Int.gcd num den:Int) ≠ 0 by omega)]
 exact ⟨by simp only [decide_true,Bool.and_self],by cases red num den;simp only⟩
end Go.Proofs
namespace Go.Proofs
open Go Go.Pm
set_option maxRecDepth 100000
theorem znr {x y X Y:Int} (h1 : -X≤x) (h2:x≤X) (h3:0≤y) (h4:y≤Y) : -(X * Y)≤x * y∧x * y≤X * Y:=by
 have hX:0≤X:=by omega
 have a:=Int.mul_le_mul_of_nonneg_right h2 h3
 have b:=Int.mul_le_mul_of_nonneg_left h4 hX
 have c:=Int.mul_le_mul_of_nonneg_right h1 h3
 rw [Int.neg_mul] at c
 omega
def thr (z p y q:Int):straight:=if z > y then ⟨p - q,q * z - p * y,z - y⟩ else ⟨q - p,p * y - q * z,y - z⟩
def toL (s:straight):Line:=⟨red s.slope s.den,red s.start s.den⟩
theorem zns {z p y q:Int} (hz:0≤z∧z≤100000) (hy:0≤y∧y≤100000) (hp : -1000000≤p∧p≤1000000) (hq : -1000000≤q∧q≤1000000):zk1 z p y q=thr z p y q:=by
 have b1:=znr hp.1 hp.2 hy.1 hy.2
 have b2:=znr hq.1 hq.2 hz.1 hz.2
 unfold zk1 ziL thr
 rw [zaR (x:=p * y) (by omega) (by omega),zaR (x:=q * z) (by omega) (by omega)]
 by_cases h:z > y
 ·rw [decide_eq_true h,cond_true,if_pos h,zaR (by omega) (by omega),zaR (by omega) (by omega),zaR (by omega) (by omega)]
 ·rw [decide_eq_false h,cond_false,if_neg h,zaR (by omega) (by omega),zaR (by omega) (by omega),zaR (by omega) (by omega)]
theorem zCE {z p y q:Int} (hz:0≤z∧z≤100000) (hy:0≤y∧y≤100000) (hp : -1000000≤p∧p≤1000000) (hq : -1000000≤q∧q≤1000000) (hn:z ≠ y):p26 z p y q=true∧s26 z p y q=toL (thr z p y q):=by
 have b1:=znr hp.1 hp.2 hy.1 hy.2
 have b2:=znr hq.1 hq.2 hz.1 hz.2
 unfold p26 s26 zm8 zm7 thr toL
 rw [zaR (x:=p * y) (by omega) (by omega),zaR (x:=q * z) (by omega) (by omega)]
 by_cases h:z > y
 ·rw [decide_eq_true (show y < z from h), cond_true, cond_true, if_pos h, zaR (x := p - q) (by omega) (by omega), zaR (x := z - y) (by omega) (by omega), zaR (x := q * z - p * y) (by omega) (by omega)]
  obtain ⟨c1,c2⟩:=zs6 (num:=p - q) (den:=z - y) (by omega) (by omega) (by omega) (by omega)
  obtain ⟨d1,d2⟩:=zs6 (num:=q * z - p * y) (den:=z - y) (by omega) (by omega) (by omega) (by omega)
  rw [c1,c2,d1,d2]
  exact ⟨by simp only [decide_true,Bool.and_self],rfl⟩
 ·rw [decide_eq_false (show ¬ y < z from h), cond_false, cond_false, if_neg h, zaR (x := q - p) (by omega) (by omega), zaR (x := y - z) (by omega) (by omega), zaR (x := p * y - q * z) (by omega) (by omega)]
  obtain ⟨c1,c2⟩:=zs6 (num:=q - p) (den:=y - z) (by omega) (by omega) (by omega) (by omega)
  obtain ⟨d1,d2⟩:=zs6 (num:=p * y - q * z) (den:=y - z) (by omega) (by omega) (by omega) (by omega)
  rw [c1,c2,d1,d2]
  exact ⟨by simp only [decide_true,Bool.and_self],rfl⟩
def zoO (a b:Gate):List straight:=if a.Z=b.Z then [] else [thr a.Z a.Low b.Z b.Low,thr a.Z a.Low b.Z b.High,thr a.Z a.High b.Z b.Low,thr a.Z a.High b.Z b.High]
def zoP (g : Sl Gate) (i : Nat) : Nat → Nat → List straight
  | 0,_=>[]
  | m+1,k=>zoO (g.get i) (g.get k) ++ zoP g i m (k+1)
def zzB (g : Sl Gate) : Nat → Nat → List straight
  | 0,_=>[]
  | m+1,i=>zoP g i (g.len - (i+1)) (i+1) ++ zzB g m (i+1)
def cst (g:Sl Gate):List straight:=zzB g g.len 0
theorem zeL {g:Gate} (h:zdM g) : -1000000≤g.Low∧g.Low≤1000000:=⟨h.2.1,by have:=h.2;omega⟩
theorem zgM {g:Gate} (h:zdM g) : -1000000≤g.High∧g.High≤1000000:=⟨by have:=h.2;omega,h.2.2.2⟩
theorem zM2 (g : Sl Gate) (G : zau g) (i : Nat) (hi : i < g.len) (sl : Sl Gate) (hs : sl.len = g.len - (i + 1)) (hg : ∀ x, sl.get x = g.get (x + (i + 1)))
    (S0:Int→List straight) (P0:Int→Bool):∀ (m k j:Nat),j+m=sl.len→m < k →
    zdi P0 ⟨g⟩ k (i:Int) sl (sl.len:Int) (j:Int) (g.get i).Z (g.get i).Low (g.get i).High=P0 ((i+1:Nat):Int) ∧
    zdh S0 ⟨g⟩ k (i:Int) sl (sl.len:Int) (j:Int) (g.get i).Z (g.get i).Low (g.get i).High=zoP g i m (j+(i+1)) ++ S0 ((i+1:Nat):Int):=by
  have hl:=G.2.2
  intro m
  induction m with
  | zero =>
    intro k j hj hk
    obtain ⟨k,rfl⟩:∃ k',k=k'+1:=⟨k - 1,by omega⟩
    show zev P0 ⟨g⟩ (zdi P0 ⟨g⟩ k) _ _ _ _ _ _ _=_∧zeu S0 ⟨g⟩ (zdh S0 ⟨g⟩ k) _ _ _ _ _ _ _=_
    unfold zev zeu
    rw [decide_eq_false (show ¬ (j:Int) < (sl.len:Int) by omega),cond_false,cond_false,zaK (n:=g.len) hi (by omega)]
    exact ⟨rfl,rfl⟩
  | succ m ih =>
    intro k j hj hk
    obtain ⟨k,rfl⟩:∃ k',k=k'+1:=⟨k - 1,by omega⟩
    obtain ⟨i1,i2⟩:=ih k (j+1) (by omega) (by omega)
    show zev P0 ⟨g⟩ (zdi P0 ⟨g⟩ k) _ _ _ _ _ _ _=_∧zeu S0 ⟨g⟩ (zdh S0 ⟨g⟩ k) _ _ _ _ _ _ _=zoP g i (m+1) (j+(i+1)) ++ _
    generalize zdi P0 ⟨g⟩ k=P at i1
    generalize zdh S0 ⟨g⟩ k=S at i2
    unfold zev zeu
    have gi:=G.1 i hi
    have gk:=G.1 (j+(i+1)) (by omega)
    rw [decide_eq_true (show (j:Int) < (sl.len:Int) by omega),decide_eq_true (show 0≤(j:Int)∧(j:Int) < (sl.len:Int) by omega),cond_true,cond_true,Bool.true_and,Int.toNat_natCast,hg,
      zaK (n:=sl.len) (by omega) (by omega),i1,i2,zns gi.1 gk.1 (zeL gi) (zeL gk),zns gi.1 gk.1 (zeL gi) (zgM gk),zns gi.1 gk.1 (zgM gi) (zeL gk),zns gi.1 gk.1 (zgM gi) (zgM gk)]
    show _∧_=(zoO (g.get i) (g.get (j+(i+1))) ++ zoP g i m (j+(i+1)+1)) ++ _
    rw [show j+1+(i+1)=j+(i+1)+1 by omega]
    unfold zoO
    by_cases hz:(g.get i).Z=(g.get (j+(i+1))).Z
    · rw [if_pos hz, show ((g.get i).Z == (g.get (j + (i + 1))).Z) = true by simpa using hz]
      exact ⟨rfl,rfl⟩
    · rw [if_neg hz, show ((g.get i).Z == (g.get (j + (i + 1))).Z) = false by simpa using hz]
      exact ⟨rfl,rfl⟩
theorem zHe (g:Sl Gate) (G:zau g):zDG ⟨g⟩=true∧zBV ⟨g⟩=cst g:=by
 have hl:=G.2.2
 have key:∀ (m k i:Nat),i+m=g.len→m < k→zdk ⟨g⟩ k (i:Int)=true∧zdj ⟨g⟩ k (i:Int)=zzB g m i:=by
  intro m
  induction m with
  | zero =>
   intro k i hi hk
   obtain ⟨k,rfl⟩:∃ k',k=k'+1:=⟨k - 1,by omega⟩
   show zex ⟨g⟩ (zdk ⟨g⟩ k) _=_∧zew ⟨g⟩ (zdj ⟨g⟩ k) _=_
   unfold zex zew
   rw [decide_eq_false (show ¬ (i:Int) < (g.len:Int) by omega),cond_false,cond_false]
   exact ⟨rfl,rfl⟩
  | succ m ih =>
   intro k i hi hk
   obtain ⟨k,rfl⟩:∃ k',k=k'+1:=⟨k - 1,by omega⟩
   obtain ⟨i1,i2⟩:=ih k (i+1) (by omega) (by omega)
   show zex ⟨g⟩ (zdk ⟨g⟩ k) _=_∧zew ⟨g⟩ (zdj ⟨g⟩ k) _=zoP g i (g.len - (i+1)) (i+1) ++ zzB g m (i+1)
   generalize zdk ⟨g⟩ k=P at i1
   generalize zdj ⟨g⟩ k=S at i2
   unfold zex zew zmp zmo
   rw [zaK (n:=g.len) (by omega) (by omega)]
   rw [decide_eq_true (show (i:Int) < (g.len:Int) by omega),decide_eq_true (show 0≤(i:Int)∧(i:Int) < (g.len:Int) by omega),decide_eq_true (show 0≤((i+1:Nat):Int)∧((i+1:Nat):Int)≤(g.len:Int)∧(g.len:Int)≤(g.len:Int) by omega),
    cond_true,cond_true,Bool.true_and,Bool.true_and,Int.toNat_natCast,Int.toNat_natCast]
   have hs:((g.len:Int) - ((i+1:Nat):Int)).toNat=g.len - (i+1):=by omega
   have:=zM2 g G i (by omega) (⟨((g.len:Int) - ((i+1:Nat):Int)).toNat,fun x=>g.get (x+(i+1))⟩:Sl Gate) hs (fun _=>rfl) S P (g.len - (i+1)) Fuel 0 (by show 0+(g.len - (i+1))=((g.len:Int) - ((i+1:Nat):Int)).toNat;omega) (by simp only [Fuel];omega)
   rw [i1,i2,Nat.zero_add] at this
   exact this
 exact key g.len Fuel 0 (by omega) (by simp only [Fuel];omega)
end Go.Proofs
namespace Go.Proofs
open Go Go.Pm
set_option maxRecDepth 100000
def apL {α:Type} (v:Sl α) (x:α):Sl α:=⟨v.len+1,zc7 v.len v.get (fun _=>x)⟩
theorem znt (g:Gate):zzA g 0=g.Low:=rfl
theorem znu (g:Gate):zzA g 1=g.High:=rfl
theorem zM3 (g : Sl Gate) (G : zau g) (i k : Nat) (hi : i < g.len) (hk : k < g.len) (S0 : Int → Sl Line → Sl Line) (S1 : Int → Int → Sl Line → Sl Line) (P0 : Int → Sl Line → Bool) (P1 : Int → Int → Sl Line → Bool) (v : Sl Line) (hv : v.len ≤ 100000) (F : Nat) (hF : 5 ≤ F) :
  zdE P0 P1 g F (i:Int) (k:Int) 0 v=P1 (i:Int) ((k+1:Nat):Int) (((zoO (g.get i) (g.get k)).map toL).foldl apL v) ∧
  zdD S0 S1 g F (i:Int) (k:Int) 0 v=S1 (i:Int) ((k+1:Nat):Int) (((zoO (g.get i) (g.get k)).map toL).foldl apL v):=by
 have hl:=G.2.2
 obtain ⟨f,rfl⟩:∃ f,F=f+5:=⟨F - 5,by omega⟩
 have gi:=G.1 i hi
 have gk:=G.1 k hk
 have ei:decide (0≤(i:Int)∧(i:Int) < (g.len:Int))=true:=decide_eq_true (by omega)
 have ek:decide (0≤(k:Int)∧(k:Int) < (g.len:Int))=true:=decide_eq_true (by omega)
 have e2:decide ((2:Int) ≠ 0)=true:=by decide
 have sk:w64 ((k:Int)+(1:Int))=((k+1:Nat):Int):=zaK (n:=g.len) hk (by omega)
 -- one round
 have step:∀ (m:Nat) (e:Int) (v:Sl Line) (p q:Int),(0≤e∧e < 4)→v.len≤200000→zzA (g.get i) (w64 (e.tdiv (2:Int)))=p→zzA (g.get k) (e.tmod (2:Int))=q →
   (-1000000≤p∧p≤1000000)→(-1000000≤q∧q≤1000000)→(g.get i).Z ≠ (g.get k).Z →
   zdE P0 P1 g (m+1) (i:Int) (k:Int) e v=zdE P0 P1 g m (i:Int) (k:Int) (e+1) (apL v (toL (thr (g.get i).Z p (g.get k).Z q))) ∧
   zdD S0 S1 g (m+1) (i:Int) (k:Int) e v=zdD S0 S1 g m (i:Int) (k:Int) (e+1) (apL v (toL (thr (g.get i).Z p (g.get k).Z q))):=by
  intro m e v p q he hv hp hq bp bq hz
  show zf4 P0 P1 g (zdE P0 P1 g m) _ _ _ _=_∧zf3 S0 S1 g (zdD S0 S1 g m) _ _ _ _=_
  generalize zdE P0 P1 g m=P
  generalize zdD S0 S1 g m=S
  obtain ⟨t1,t2⟩:=zCE gi.1 gk.1 bp bq hz
  unfold zf4 zf3
  rw [Int.toNat_natCast,Int.toNat_natCast,hp,hq,t1,t2,decide_eq_true (show e < 4 from he.2),ei,ek,e2,zaR (x:=e+1) (by omega) (by omega),
   show ((g.get i).Z != (g.get k).Z)=true by simpa using hz,decide_eq_true (show (v.len+1) * 32≤140737488355328∧v.len+1≤9223372036854775807 by omega)]
  exact ⟨rfl,rfl⟩
 unfold zoO
 by_cases hz:(g.get i).Z=(g.get k).Z
 ·rw [if_pos hz]
  show zf4 P0 P1 g (zdE P0 P1 g (f+4)) _ _ _ _=_∧zf3 S0 S1 g (zdD S0 S1 g (f+4)) _ _ _ _=_
  generalize zdE P0 P1 g (f+4)=P
  generalize zdD S0 S1 g (f+4)=S
  unfold zf4 zf3
  rw [Int.toNat_natCast,Int.toNat_natCast,ei,ek,sk,decide_eq_true (show (0:Int) < 4 by omega),show ((g.get i).Z != (g.get k).Z)=false by simpa using hz]
  exact ⟨rfl,rfl⟩
 ·rw [if_neg hz]
  have a0:=step (f+4) 0 v _ _ (by omega) (by omega) (znt _) (znt _) (zeL gi) (zeL gk) hz
  generalize hv1:apL v (toL (thr (g.get i).Z (g.get i).Low (g.get k).Z (g.get k).Low))=v1 at a0
  have l1:v1.len=v.len+1:=by rw [← hv1];rfl
  have a1:=step (f+3) 1 v1 _ _ (by omega) (by omega) (znt _) (znu _) (zeL gi) (zgM gk) hz
  generalize hv2:apL v1 (toL (thr (g.get i).Z (g.get i).Low (g.get k).Z (g.get k).High))=v2 at a1
  have l2:v2.len=v1.len+1:=by rw [← hv2];rfl
  have a2:=step (f+2) 2 v2 _ _ (by omega) (by omega) (znu _) (znt _) (zgM gi) (zeL gk) hz
  generalize hv3:apL v2 (toL (thr (g.get i).Z (g.get i).High (g.get k).Z (g.get k).Low))=v3 at a2
  have l3:v3.len=v2.len+1:=by rw [← hv3];rfl
  have a3:=step (f+1) 3 v3 _ _ (by omega) (by omega) (znu _) (znu _) (zgM gi) (zgM gk) hz
  generalize hv4:apL v3 (toL (thr (g.get i).Z (g.get i).High (g.get k).Z (g.get k).High))=v4 at a3
  have b4:zdE P0 P1 g (f+1) (i:Int) (k:Int) 4 v4=P1 (i:Int) ((k+1:Nat):Int) v4∧zdD S0 S1 g (f+1) (i:Int) (k:Int) 4 v4=S1 (i:Int) ((k+1:Nat):Int) v4:=by
   show zf4 P0 P1 g (zdE P0 P1 g f) _ _ _ _=_∧zf3 S0 S1 g (zdD S0 S1 g f) _ _ _ _=_
   generalize zdE P0 P1 g f=P
   generalize zdD S0 S1 g f=S
   unfold zf4 zf3
   rw [sk,decide_eq_false (show ¬ (4:Int) < 4 by omega)]
   exact ⟨rfl,rfl⟩
  have fin:(([thr (g.get i).Z (g.get i).Low (g.get k).Z (g.get k).Low,thr (g.get i).Z (g.get i).Low (g.get k).Z (g.get k).High,thr (g.get i).Z (g.get i).High (g.get k).Z (g.get k).Low,thr (g.get i).Z (g.get i).High (g.get k).Z (g.get k).High]:List straight).map toL).foldl apL v=v4:=by
   simp only [List.map_cons,List.map_nil,List.foldl_cons,List.foldl_nil,hv1,hv2,hv3,hv4]
  rw [fin]
  exact ⟨(a0.1.trans (a1.1.trans (a2.1.trans a3.1))).trans b4.1,(a0.2.trans (a1.2.trans (a2.2.trans a3.2))).trans b4.2⟩
theorem zch {α:Type} (l:List α):∀ v:Sl α,(l.foldl apL v).len=v.len+l.length:=by
 induction l with
 | nil=>intro v;rfl
 | cons x l ih=>intro v;rw [List.foldl_cons,ih];show v.len+1+l.length=v.len+(l.length+1);omega
theorem zs7 (a b:Gate):(zoO a b).length≤4:=by unfold zoO;split <;> simp
theorem zs8 (g:Sl Gate) (i m k:Nat):(zoP g i m k).length≤4 * m:=by
 induction m generalizing k with
 | zero=>exact Nat.le_refl _
 | succ m ih=>show (zoO _ _ ++ zoP g i m (k+1)).length≤_;rw [List.length_append];have:=ih (k+1);have:=zs7 (g.get i) (g.get k);omega
theorem zPW (g:Sl Gate) (G:zau g) (i:Nat) (hi:i < g.len) (S0:Int→Sl Line→Sl Line) (P0:Int→Sl Line→Bool):∀ (m F k:Nat) (v:Sl Line),k+m=g.len→m < F→v.len+4 * m≤100000 →
  zh2 P0 g F (i:Int) (k:Int) v=P0 ((i+1:Nat):Int) (((zoP g i m k).map toL).foldl apL v) ∧
  zh1 S0 g F (i:Int) (k:Int) v=S0 ((i+1:Nat):Int) (((zoP g i m k).map toL).foldl apL v):=by
 have hl:=G.2.2
 intro m
 induction m with
 | zero =>
  intro F k v hk hF hv
  obtain ⟨f,rfl⟩:∃ f,F=f+1:=⟨F - 1,by omega⟩
  show zkg P0 g (zh2 P0 g f) _ _ _=_∧zkf S0 g (zh1 S0 g f) _ _ _=_
  generalize zh2 P0 g f=P
  generalize zh1 S0 g f=S
  unfold zkg zkf
  rw [decide_eq_false (show ¬ (k:Int) < (g.len:Int) by omega),cond_false,cond_false,zaK (n:=g.len) hi (by omega)]
  exact ⟨rfl,rfl⟩
 | succ m ih =>
  intro F k v hk hF hv
  obtain ⟨f,rfl⟩:∃ f,F=f+1:=⟨F - 1,by omega⟩
  have ih:=fun v h=>ih f (k+1) v (by omega) (by omega) h
  show zkg P0 g (zh2 P0 g f) _ _ _=_∧zkf S0 g (zh1 S0 g f) _ _ _=_
  generalize zh2 P0 g f=P at ih
  generalize zh1 S0 g f=S at ih
  unfold zkg zkf zyJ zyI
  rw [decide_eq_true (show (k:Int) < (g.len:Int) by omega),cond_true,cond_true]
  obtain ⟨b1,b2⟩:=zM3 g G i k hi (by omega) S0 S P0 P v (by omega) Fuel (by simp only [Fuel];omega)
  rw [b1,b2]
  have q4:=zs7 (g.get i) (g.get k)
  have:=ih (((zoO (g.get i) (g.get k)).map toL).foldl apL v) (by rw [zch,List.length_map];omega)
  rw [← List.foldl_append,← List.map_append] at this
  exact this
theorem zKs (g:Sl Gate) (G:zau g):p80 g=true∧s80 g=((cst g).map toL).foldl apL ⟨0,fun _=>default⟩:=by
 have hl:=G.2.2
 have key:∀ (m F i:Nat) (v:Sl Line),i+m=g.len→m < F→v.len+100 * m≤50000→zkk g F (i:Int) v=true∧zkj g F (i:Int) v=((zzB g m i).map toL).foldl apL v:=by
  intro m
  induction m with
  | zero =>
   intro F i v hi hF hv
   obtain ⟨f,rfl⟩:∃ f,F=f+1:=⟨F - 1,by omega⟩
   show zki g (zkk g f) _ _=_∧zkh g (zkj g f) _ _=_
   unfold zki zkh
   rw [decide_eq_false (show ¬ (i:Int) < (g.len:Int) by omega),cond_false,cond_false]
   exact ⟨rfl,rfl⟩
  | succ m ih =>
   intro F i v hi hF hv
   obtain ⟨f,rfl⟩:∃ f,F=f+1:=⟨F - 1,by omega⟩
   have ih:=fun v h=>ih f (i+1) v (by omega) (by omega) h
   show zki g (zkk g f) _ _=_∧zkh g (zkj g f) _ _=_
   generalize zkk g f=P at ih
   generalize zkj g f=S at ih
   unfold zki zkh zyL zyK
   rw [decide_eq_true (show (i:Int) < (g.len:Int) by omega),cond_true,cond_true,zaK (n:=g.len) (by omega) (by omega)]
   obtain ⟨b1,b2⟩:=zPW g G i (by omega) S P (g.len - (i+1)) Fuel (i+1) v (by omega) (by simp only [Fuel];omega) (by omega)
   rw [b1,b2]
   have c4:=zs8 g i (g.len - (i+1)) (i+1)
   have:=ih (((zoP g i (g.len - (i+1)) (i+1)).map toL).foldl apL v) (by rw [zch,List.length_map];omega)
   rw [← List.foldl_append,← List.map_append] at this
   exact this
 exact key g.len Fuel 0 _ (by omega) (by simp only [Fuel];omega) (by show 0+_≤_;omega)
end Go.Proofs
namespace Go.Proofs
open Go Go.Pm
set_option maxRecDepth 100000
def SOK (s:straight):Prop:=(-2000000≤s.slope∧s.slope≤2000000)∧(-200000000000≤s.start∧s.start≤200000000000)∧1≤s.den∧s.den≤100000
theorem zCF {z p y q:Int} (hz:0≤z∧z≤100000) (hy:0≤y∧y≤100000) (hp : -1000000≤p∧p≤1000000) (hq : -1000000≤q∧q≤1000000) (hn:z ≠ y):SOK (thr z p y q):=by
 have b1:=znr hp.1 hp.2 hy.1 hy.2
 have b2:=znr hq.1 hq.2 hz.1 hz.2
 unfold thr SOK
 by_cases h:z > y
 ·rw [if_pos h];exact ⟨⟨by show _≤p - q;omega,by show p - q≤_;omega⟩,⟨by show _≤q * z - p * y;omega,by show q * z - p * y≤_;omega⟩,by show _≤z - y;omega,by show z - y≤_;omega⟩
 ·rw [if_neg h];exact ⟨⟨by show _≤q - p;omega,by show q - p≤_;omega⟩,⟨by show _≤p * y - q * z;omega,by show p * y - q * z≤_;omega⟩,by show _≤y - z;omega,by show y - z≤_;omega⟩
theorem zBh {a b:Gate} {s:straight} (h:s∈zoO a b):a.Z ≠ b.Z∧∃ p q,(p=a.Low∨p=a.High)∧(q=b.Low∨q=b.High)∧s=thr a.Z p b.Z q:=by
 unfold zoO at h
 by_cases hz:a.Z=b.Z
 ·rw [if_pos hz] at h;cases h
 ·rw [if_neg hz] at h
  refine ⟨hz,?_⟩
  simp only [List.mem_cons,List.not_mem_nil,or_false] at h
  rcases h with h | h | h | h
  ·exact ⟨_,_,.inl rfl,.inl rfl,h⟩
  ·exact ⟨_,_,.inl rfl,.inr rfl,h⟩
  ·exact ⟨_,_,.inr rfl,.inl rfl,h⟩
  ·exact ⟨_,_,.inr rfl,.inr rfl,h⟩
theorem zs9 {g : Sl Gate} {i : Nat} {s : straight} : ∀ {m k : Nat}, s ∈ zoP g i m k → ∃ j, k ≤ j ∧ j < k + m ∧ s ∈ zoO (g.get i) (g.get j)
  | 0,_,h=>by cases h
  | m+1,k,h=>by
    rcases List.mem_append.1 h with h | h
    · exact ⟨k,Nat.le_refl _,by omega,h⟩
    · obtain ⟨j, a, b, c⟩ := zs9 h
      exact ⟨j,by omega,by omega,c⟩
theorem zta {g : Sl Gate} {s : straight} : ∀ {m i : Nat}, s ∈ zzB g m i → ∃ a b, i ≤ a ∧ a < i + m ∧ a < b ∧ b < g.len ∧ s ∈ zoO (g.get a) (g.get b)
  | 0,_,h=>by cases h
  | m+1,i,h=>by
    rcases List.mem_append.1 h with h | h
    · obtain ⟨j, a, b, c⟩ := zs9 h
      exact ⟨i,j,Nat.le_refl _,by omega,by omega,by omega,c⟩
    · obtain ⟨a, b, h1, h2, h3, h4, h5⟩ := zta h
      exact ⟨a,b,by omega,by omega,h3,h4,h5⟩
theorem zrB {g:Sl Gate} {s:straight} (h:s∈cst g):∃ a b,a < b∧b < g.len∧(g.get a).Z ≠ (g.get b).Z∧∃ p q,(p=(g.get a).Low∨p=(g.get a).High)∧(q=(g.get b).Low∨q=(g.get b).High)∧s=thr (g.get a).Z p (g.get b).Z q:=by
 obtain ⟨a,b,_,_,h3,h4,h5⟩:=zta h
 obtain ⟨hz,r⟩:=zBh h5
 exact ⟨a,b,h3,h4,hz,r⟩
theorem zkU {g:Sl Gate} (G:zau g) {s:straight} (h:s∈cst g):SOK s:=by
 obtain ⟨a,b,h1,h2,hz,p,q,hp,hq,rfl⟩:=zrB h
 have ga:=G.1 a (by omega)
 have gb:=G.1 b h2
 refine zCF ga.1 gb.1 ?_ ?_ hz
 ·rcases hp with rfl | rfl;exact zeL ga;exact zgM ga
 ·rcases hq with rfl | rfl;exact zeL gb;exact zgM gb
def plc (s:straight) (z:Int):Int:=s.start+s.slope * z
def zef (s:straight) (g:Gate):Bool:=decide (g.Low * s.den≤plc s g.Z∧plc s g.Z≤g.High * s.den)
def zzC (s:straight) (g:Gate):Bool:=decide (plc s g.Z=g.Low * s.den)
theorem zza {s:straight} (S:SOK s) {g:Gate} (G:zdM g):zDs s g=zef s g:=by
 obtain ⟨S1,S2,S3⟩:=S
 have b1:=znr S1.1 S1.2 G.1.1 G.1.2
 have b2:=znr (zeL G).1 (zeL G).2 (show 0≤s.den by omega) S3.2
 have b3:=znr (zgM G).1 (zgM G).2 (show 0≤s.den by omega) S3.2
 unfold zDs zef plc
 rw [zoL,zaR (x:=s.slope * g.Z) (by omega) (by omega),zaR (x:=s.start+s.slope * g.Z) (by omega) (by omega),zaR (x:=g.Low * s.den) (by omega) (by omega),zaR (x:=g.High * s.den) (by omega) (by omega)]
theorem zzb {s:straight} (S:SOK s) {g:Gate} (G:zdM g):zzy s g=zzC s g:=by
 obtain ⟨S1,S2,S3⟩:=S
 have b1:=znr S1.1 S1.2 G.1.1 G.1.2
 have b2:=znr (zeL G).1 (zeL G).2 (show 0≤s.den by omega) S3.2
 unfold zzy zzC plc
 rw [zaR (x:=s.slope * g.Z) (by omega) (by omega),zaR (x:=s.start+s.slope * g.Z) (by omega) (by omega),zaR (x:=g.Low * s.den) (by omega) (by omega)]
 exact Bool.eq_iff_iff.2 (by rw [beq_iff_eq,decide_eq_true_eq])
theorem zgN {a x y:Int} (h:0 < a):a * x≤a * y↔x≤y:=⟨fun k=>Int.le_of_mul_le_mul_left k h,fun k=>Int.mul_le_mul_of_nonneg_left k (Int.le_of_lt h)⟩
theorem ztb {a x y:Int} (h:0 < a):a * x=a * y↔x=y:=⟨fun k=>Int.eq_of_mul_eq_mul_left (by omega) k,fun k=>by rw [k]⟩
theorem zzc {s:straight} (S:SOK s) {z:Int} (hz:0≤z∧z≤100000):∃ n d k,zq5 (toL s) z=(n,d)∧0 < k∧k * n=s.den * plc s z∧k * d=s.den * s.den∧0 < d∧d≤10000000000:=by
  obtain ⟨S1,S2,S3⟩:=S
  have hd:0 < s.den:=by omega
  have g1:=zcJ (num:=s.slope) hd
  have g2:=zcJ (num:=s.start) hd
  have r1:=zkT (num:=s.slope) hd
  have r2:=zkT (num:=s.start) hd
  have e1:=zff (num:=s.slope) hd
  have e2:=zeE (num:=s.slope) hd
  have e3:=zff (num:=s.start) hd
  have e4:=zeE (num:=s.start) hd
  have p1:=zfg (num:=s.slope) hd
  have p2:=zfg (num:=s.start) hd
  have q1:=zoN (num:=s.slope) hd
  have q2:=zoN (num:=s.start) hd
  unfold zq5 toL
  simp only
  generalize (red s.slope s.den).Num=a at *
  generalize (red s.slope s.den).Den=b at *
  generalize (red s.start s.den).Num=c at *
  generalize (red s.start s.den).Den=d at *
  generalize (Int.gcd s.slope s.den:Int)=G1 at *
  generalize (Int.gcd s.start s.den:Int)=G2 at *
  have m1:=znr (x:=c) (X:=200000000000) (y:=b) (Y:=100000) (by omega) (by omega) (by omega) (by omega)
  have m2:=znr (x:=a) (X:=2000000) (y:=z) (Y:=100000) (by omega) (by omega) hz.1 hz.2
  have m3:=znr (x:=a * z) (X:=2000000 * 100000) (y:=d) (Y:=100000) (by omega) (by omega) (by omega) (by omega)
  have m4:=znr (x:=d) (X:=100000) (y:=b) (Y:=100000) (by omega) (by omega) (by omega) (by omega)
  have m5:=Int.mul_pos p2 p1
  rw [zaR (x:=c * b) (by omega) (by omega),zaR (x:=a * z) (by omega) (by omega),zaR (x:=a * z * d) (by omega) (by omega),zaR (x:=c * b+a * z * d) (by omega) (by omega),zaR (x:=d * b) (by omega) (by omega)]
  refine ⟨_,_,G1 * G2,rfl,Int.mul_pos g1 g2,?_,?_,m5,by omega⟩
  · unfold plc
    have t1:G1 * G2 * (c * b)=s.den * s.start:=by
      calc G1 * G2 * (c * b) = (G1 * b) * (G2 * c) := by ac_rfl
        _=_:=by rw [e2,e3]
    have t2:G1 * G2 * (a * z * d)=s.den * (s.slope * z):=by
      calc G1 * G2 * (a * z * d) = (G2 * d) * ((G1 * a) * z) := by ac_rfl
        _=_:=by rw [e4,e1]
    rw [Int.mul_add,t1,t2,Int.mul_add]
  · calc G1 * G2 * (d * b) = (G1 * b) * (G2 * d) := by ac_rfl
      _=_:=by rw [e2,e4]
theorem ztc {s:straight} (S:SOK s) {g:Gate} (G:zdM g):s72 (toL s) g=zef s g:=by
  obtain ⟨n,d,k,e,hk,kn,kd,d1,d2⟩:=zzc S G.1
  have hd:0 < s.den:=by have:=S.2.2;omega
  have b2:=znr (zeL G).1 (zeL G).2 (show 0≤d by omega) d2
  have b3:=znr (zgM G).1 (zgM G).2 (show 0≤d by omega) d2
  have key:∀ x:Int,k * (x * d)=s.den * (x * s.den):=fun x=>by
    calc k * (x * d) = x * (k * d) := by ac_rfl
      _=s.den * (x * s.den):=by rw [kd];ac_rfl
  unfold s72 zef
  rw [e,zfr]
  simp only
  rw [zaR (x:=g.Low * d) (by omega) (by omega),zaR (x:=g.High * d) (by omega) (by omega),Bool.decide_and]
  congr 1
  · refine decide_eq_decide.2 ?_
    rw [← zgN hk,key,kn,zgN hd]
  · refine decide_eq_decide.2 ?_
    rw [← zgN hk,key,kn,zgN hd]
theorem zzd {s:straight} (S:SOK s) {g:Gate} (G:zdM g):((zq5 (toL s) g.Z).1 == w64 (g.Low * (zq5 (toL s) g.Z).2))=zzC s g:=by
  obtain ⟨n,d,k,e,hk,kn,kd,d1,d2⟩:=zzc S G.1
  have hd:0 < s.den:=by have:=S.2.2;omega
  have b2:=znr (zeL G).1 (zeL G).2 (show 0≤d by omega) d2
  have key:∀ x:Int,k * (x * d)=s.den * (x * s.den):=fun x=>by
    calc k * (x * d) = x * (k * d) := by ac_rfl
      _=s.den * (x * s.den):=by rw [kd];ac_rfl
  unfold zzC
  rw [e]
  simp only
  rw [zaR (x:=g.Low * d) (by omega) (by omega)]
  refine Bool.eq_iff_iff.2 ?_
  rw [beq_iff_eq,decide_eq_true_eq,← ztb hk,key,kn,ztb hd]
end Go.Proofs
