/- Part 6 of what the proof rests on: a machine that runs functions of the program on pure values, proved sound; the functions that the law reaches, and what they compute. -/
import Derived.Test.YtkpjhhoafenogaaQ5
set_option linter.all false
namespace Go.Proofs
open Go Go.Pm
set_option maxRecDepth 100000
set_option linter.unusedVariables false
attribute [local irreducible] Go.Pm.vcFun Go.Pm.vc Go.Pm.vcIter
structure Rec95 where
  S:(Sl Gate)→(Sl Int)→(Sl (Sl Int))
  P:(Sl Gate)→(Sl Int)→Bool
class Slf95 where
  r:Rec95
section
variable [Slf95]
def zBH : List PA → COut
  | [.one (.sl a0_n a0_s a0_g),.one (.sl a1_n a1_s a1_g)]=>.det (IsE enc_55 3 a0_s a0_g∧IsE zal 1 a1_s a1_g∧Slf95.r.P (⟨a0_n,zaf a0_g⟩:(Sl Gate)) (⟨a1_n,zbb a1_g⟩:(Sl Int))=true) [.one (.sl ((Slf95.r.S (⟨a0_n,zaf a0_g⟩:(Sl Gate)) (⟨a1_n,zbb a1_g⟩:(Sl Int))).len) 1 (fun i=>zdo ((Slf95.r.S (⟨a0_n,zaf a0_g⟩:(Sl Gate)) (⟨a1_n,zbb a1_g⟩:(Sl Int))).get i)))]
  | [.one (.sl a0_n a0_s a0_g),.one (.nils)]=>.det (IsE enc_55 3 a0_s a0_g∧Slf95.r.P (⟨a0_n,zaf a0_g⟩:(Sl Gate)) (⟨0,fun _=>default⟩:(Sl Int))=true) [.one (.sl ((Slf95.r.S (⟨a0_n,zaf a0_g⟩:(Sl Gate)) (⟨0,fun _=>default⟩:(Sl Int))).len) 1 (fun i=>zdo ((Slf95.r.S (⟨a0_n,zaf a0_g⟩:(Sl Gate)) (⟨0,fun _=>default⟩:(Sl Int))).get i)))]
  | _=>.no
abbrev T95:Tabs:=(Tabs.nil.addF 95 zBH)
theorem zP2 (hself:Ok Try.prog 95 zBH):TabsOk Try.prog T95:=(TabsOk.nil.addF hself)
abbrev zQ4:Ctrs:=csm T95 (fun _ _=>[]) (fun _=>false)
def zvC:Ann:=⟨41,[(0,zK [0,1] []),(1,zK [0,1,5] []),(2,zK [0,1,5,13] []),(3,zK [4] [16]),(4,zK [0,1,5,6] []),(5,zK [0,1,5,6,7] []),(6,zK [0,1,5,6,7,28] [39]),(7,zK [0,1,5,6,7] [39]),(8,zK [0,1,5,6,7] [39]),(9,zK [4] [39])],
 [(6,⟨[0,1,5,6,7],[39],[(6,39,39,fun _=>zdo default)],[],[],[],[]⟩)],
 [(4,zK [0,1,5] [])],
 [],[]⟩
abbrev zSG:=(Sl (Sl Int))
abbrev zOk (r:zSG):List PA:=[.one (.sl r.len 1 (fun i=>zdo (r.get i)))]
@[irreducible] def z95i:=ptF Try.prog zQ4 zvC Try.f95
def zBI (zaa:(Sl Gate)) (begin:(Sl Int)) (pv1:Int) (zdH:(Sl (Sl Int))) (zgw:Nat→List PV):St:=⟨[(0,zS enc_55 3 zaa),(1,zS zal 1 begin),(5,zI (begin.len:Int)),(6,zv 39),(7,zI pv1)],[(39,.vec 39 1 24 zdH.len zgw)],[]⟩
abbrev zFd (K:List PA→Prop) (zaa:(Sl Gate)) (begin:(Sl Int)) (X:St→Prop) (P:Int→(Sl (Sl Int))→Bool) (S:Int→(Sl (Sl Int))→(Sl (Sl Int))):Prop:=∀ ⦃pv1:Int⦄ ⦃zdH:(Sl (Sl Int))⦄ ⦃zgw:Nat→List PV⦄,P pv1 zdH=true→K (zOk (S pv1 zdH))→zgw=zg zdo zdH→X (zBI zaa begin pv1 zdH zgw)
section
variable {K:List PA→Prop} {zaa:(Sl Gate)} {begin:(Sl Int)} {pv1:Int} {zdH:(Sl (Sl Int))} {zgw:Nat→List PV} {X1:St→Prop} {P1:Int→(Sl (Sl Int))→Bool} {S1:Int→(Sl (Sl Int))→(Sl (Sl Int))}
def zgP (zaa:(Sl Gate)) (begin:(Sl Int)) (S1:Int→(Sl (Sl Int))→(Sl (Sl Int))) (pv1:Int) (zdH:(Sl (Sl Int))):(Sl (Sl Int)) :=
  (cond (decide (pv1 ≤ (zaa.get ((begin.len : Int).toNat)).High))
 (S1 (w64 (pv1+(1:Int))) (⟨(zdH.len+(Slf95.r.S zaa (⟨(begin.len+1),zbb (appG begin.len (fun i=>zal (begin.get i)) (fun _=>(zal pv1)))⟩:(Sl Int))).len),(zdN zdH.len zdH.get (Slf95.r.S zaa (⟨(begin.len+1),zbb (appG begin.len (fun i=>zal (begin.get i)) (fun _=>(zal pv1)))⟩:(Sl Int))).get)⟩:Sl (Sl Int)))
 zdH)
def zgQ (zaa:(Sl Gate)) (begin:(Sl Int)) (P1:Int→(Sl (Sl Int))→Bool) (pv1:Int) (zdH:(Sl (Sl Int))):Bool :=
  (decide ((0≤(begin.len:Int)∧(begin.len:Int) < (zaa.len:Int))) &&
 (cond (decide (pv1 ≤ (zaa.get ((begin.len : Int).toNat)).High))
 (decide ((begin.len * 8≤140737488355328∧begin.len≤9223372036854775807)) &&
 (decide (((begin.len+1) * 8≤140737488355328∧begin.len+1≤9223372036854775807)) &&
 (decide ((Slf95.r.P zaa (⟨(begin.len+1),zbb (appG begin.len (fun i=>zal (begin.get i)) (fun _=>(zal pv1)))⟩:(Sl Int))=true)) &&
 (decide (((zdH.len+(Slf95.r.S zaa (⟨(begin.len+1),zbb (appG begin.len (fun i=>zal (begin.get i)) (fun _=>(zal pv1)))⟩:(Sl Int))).len) * 24≤140737488355328∧zdH.len+(Slf95.r.S zaa (⟨(begin.len+1),zbb (appG begin.len (fun i=>zal (begin.get i)) (fun _=>(zal pv1)))⟩:(Sl Int))).len≤9223372036854775807)) &&
 (P1 (w64 (pv1+(1:Int))) (⟨(zdH.len+(Slf95.r.S zaa (⟨(begin.len+1),zbb (appG begin.len (fun i=>zal (begin.get i)) (fun _=>(zal pv1)))⟩:(Sl Int))).len),(zdN zdH.len zdH.get (Slf95.r.S zaa (⟨(begin.len+1),zbb (appG begin.len (fun i=>zal (begin.get i)) (fun _=>(zal pv1)))⟩:(Sl Int))).get)⟩:Sl (Sl Int)))))))
 true))
def zfI (zaa:(Sl Gate)) (begin:(Sl Int)):Nat→Int→(Sl (Sl Int))→(Sl (Sl Int)):=lpO (fun _ _=>default) (zgP zaa begin)
def zfJ (zaa:(Sl Gate)) (begin:(Sl Int)):Nat→Int→(Sl (Sl Int))→Bool:=lpO (fun _ _=>false) (zgQ zaa begin)
def zpa (zaa:(Sl Gate)) (begin:(Sl Int)) (pv1:Int) (zdH:(Sl (Sl Int))):(Sl (Sl Int)):=zfI zaa begin Fuel pv1 zdH
def zpb (zaa:(Sl Gate)) (begin:(Sl Int)) (pv1:Int) (zdH:(Sl (Sl Int))):Bool:=zfJ zaa begin Fuel pv1 zdH
theorem zDW (hs:zpb zaa begin pv1 zdH=true) (hk:K (zOk (zpa zaa begin pv1 zdH))) (ztp:zgw=zg zdo zdH):z95i K [1,1,1,1,0,1,0] [] (zBI zaa begin pv1 zdH zgw) :=
  zl (fun X=>z95i K [1,1,1,1,0,1,0,0] [X]) (by kernel_rfl) fun X1 hX =>
  (show ∀ k, zFd K zaa begin X1 (zfJ zaa begin k) (zfI zaa begin k) from zfT _ _ (zgQ zaa begin) (zgP zaa begin) (zFd K zaa begin X1)
 (by intro _ _ _ hs;exact absurd hs Bool.false_ne_true)
 (by intro P1 S1 hX1 pv1 zdH zgw hs hk ztp;subst ztp;exact hX _ (zaI (by kernel_rfl) (zaE hs fun hc hs=>And.intro hc (zc hs hk (fun hs hk=>(zaE hs fun hc hs=>And.intro hc (zaE hs fun hc hs=>And.intro hc (zaE hs fun hc hs=>And.intro (And.intro (zE enc_55 3 zaa.get) (And.intro ((zF8 isE zOt):IsE zal 1 1 (appG begin.len (fun i=>zal (begin.get i)) (fun _=>(zal pv1)))) hc)) (zaE hs fun hc hs=>And.intro hc (hX1 hs hk (zf4 (enc:=zdo) (f:=zdH.get) (h:=(Slf95.r.S zaa (⟨(begin.len+1),zbb (appG begin.len (fun i=>zal (begin.get i)) (fun _=>(zal pv1)))⟩:(Sl Int))).get) rfl rfl))))))) (fun hs hk=>hk)))))) _ hs hk ztp
def zpc (zaa:(Sl Gate)) (begin:(Sl Int)):(Sl (Sl Int)) :=
  (zpa zaa begin ((zaa.get ((begin.len:Int).toNat)).Low) (⟨0,(fun _=>default)⟩:Sl (Sl Int)))
def zpd (zaa:(Sl Gate)) (begin:(Sl Int)):Bool :=
  (decide ((0≤(begin.len:Int)∧(begin.len:Int) < (zaa.len:Int))) &&
 (zpb zaa begin ((zaa.get ((begin.len:Int).toNat)).Low) (⟨0,(fun _=>default)⟩:Sl (Sl Int))))
theorem zDX (hs:zpd zaa begin=true) (hk:K (zOk (zpc zaa begin))):z95i K [1,1,1] [] ⟨[(0,zS enc_55 3 zaa),(1,zS zal 1 begin),(5,zI (begin.len:Int))],[],[]⟩:=zaI (by kernel_rfl) (zaE hs fun hc hs=>And.intro hc (zDW hs hk rfl))
def zCh (zaa:(Sl Gate)) (begin:(Sl Int)):(Sl (Sl Int)) :=
  (cond ((begin.len : Int) == (zaa.len : Int))
 (⟨1,fun _=>begin⟩:(Sl (Sl Int)))
 (zpc zaa begin))
def zFe (zaa:(Sl Gate)) (begin:(Sl Int)):Bool :=
  (cond ((begin.len : Int) == (zaa.len : Int))
 (decide ((begin.len * 8≤140737488355328∧begin.len≤9223372036854775807)) &&
 true)
 (zpd zaa begin))
end
theorem zQ5 (zaa:(Sl Gate)) (begin:(Sl Int)) (K:List PA→Prop) (hs:zFe zaa begin=true) (hk:K (zOk (zCh zaa begin))):vcFun Try.prog zQ4 zvC 95 [.one (.sl zaa.len 3 (fun i=>enc_55 (zaa.get i))),.one (.sl begin.len 1 (fun i=>zal (begin.get i)))] K :=
  zaI (by kernel_rfl) (zc hs hk (fun hs hk=>(zaE hs fun hc hs=>And.intro hc hk)) (fun hs hk=>(zDX hs hk)))
def zNh : List PA → COut
  | [.one (.sl a0_n a0_s a0_g),.one (.sl a1_n a1_s a1_g)]=>.det (IsE enc_55 3 a0_s a0_g∧IsE zal 1 a1_s a1_g∧zFe (⟨a0_n,zaf a0_g⟩:(Sl Gate)) (⟨a1_n,zbb a1_g⟩:(Sl Int))=true) [.one (.sl ((zCh (⟨a0_n,zaf a0_g⟩:(Sl Gate)) (⟨a1_n,zbb a1_g⟩:(Sl Int))).len) 1 (fun i=>zdo ((zCh (⟨a0_n,zaf a0_g⟩:(Sl Gate)) (⟨a1_n,zbb a1_g⟩:(Sl Int))).get i)))]
  | [.one (.sl a0_n a0_s a0_g),.one (.nils)]=>.det (IsE enc_55 3 a0_s a0_g∧zFe (⟨a0_n,zaf a0_g⟩:(Sl Gate)) (⟨0,fun _=>default⟩:(Sl Int))=true) [.one (.sl ((zCh (⟨a0_n,zaf a0_g⟩:(Sl Gate)) (⟨0,fun _=>default⟩:(Sl Int))).len) 1 (fun i=>zdo ((zCh (⟨a0_n,zaf a0_g⟩:(Sl Gate)) (⟨0,fun _=>default⟩:(Sl Int))).get i)))]
  | _=>.no
theorem zNi:zaj Try.prog 95:=⟨_,rfl,rfl,by kernel_rfl⟩
theorem zP3 (hself:Ok Try.prog 95 zBH):Ok Try.prog 95 zNh:=zfo (zP2 hself) zNi fun args K h=>by
  unfold zNh at h
  split at h
  · rename_i a0_n a0_s a0_g a1_n a1_s a1_g
    obtain ⟨⟨⟨rfl,a0_f,rfl⟩,⟨rfl,a1_f,rfl⟩,hs⟩,hk⟩:=h
    try rw [zae a0_f] at hs
    try rw [zae a0_f] at hk
    try rw [zbG a1_f] at hs
    try rw [zbG a1_f] at hk
    exact ⟨_,zeL zeM _,(fun _ _=>[]),(fun _=>false),zvC,zQ5 (⟨a0_n,a0_f⟩:(Sl Gate)) (⟨a1_n,a1_f⟩:(Sl Int)) (Wk K) hs (zdI hk)⟩
  · rename_i a0_n a0_s a0_g
    obtain ⟨⟨⟨rfl,a0_f,rfl⟩,hs⟩,hk⟩:=h
    try rw [zae a0_f] at hs
    try rw [zae a0_f] at hk
    exact ⟨_,(zdv (zeM _) (zdv (.one (.nil _ _)) zhi)),(fun _ _=>[]),(fun _=>false),zvC,zQ5 (⟨a0_n,a0_f⟩:(Sl Gate)) (⟨0,fun _=>default⟩:(Sl Int)) (Wk K) hs (zdI hk)⟩
  · exact h.elim
end
def zdd : Nat → Rec95
  | 0=>⟨fun _ _=>default,fun _ _=>false⟩
  | k+1=>⟨@zCh ⟨zdd k⟩,@zFe ⟨zdd k⟩⟩
theorem zNj : ∀ k, Ok Try.prog 95 (@zBH ⟨zdd k⟩)
  | 0=>fun args K h=>by
    unfold zBH at h
    split at h
    all_goals first | exact False.elim h | exact absurd h.1 Bool.false_ne_true | exact absurd h.1.2 Bool.false_ne_true | exact absurd h.1.2.2 Bool.false_ne_true | exact absurd h.1.2.2.2 Bool.false_ne_true
  | k+1=>@zP3 ⟨zdd k⟩ (zNj k)
def s95 (zaa:(Sl Gate)) (begin:(Sl Int)):(Sl (Sl Int)):=(zdd 64).S zaa begin
def p95 (zaa:(Sl Gate)) (begin:(Sl Int)):Bool:=(zdd 64).P zaa begin
def zJD : List PA → COut
  | [.one (.sl a0_n a0_s a0_g),.one (.sl a1_n a1_s a1_g)]=>.det (IsE enc_55 3 a0_s a0_g∧IsE zal 1 a1_s a1_g∧p95 (⟨a0_n,zaf a0_g⟩:(Sl Gate)) (⟨a1_n,zbb a1_g⟩:(Sl Int))=true) [.one (.sl ((s95 (⟨a0_n,zaf a0_g⟩:(Sl Gate)) (⟨a1_n,zbb a1_g⟩:(Sl Int))).len) 1 (fun i=>zdo ((s95 (⟨a0_n,zaf a0_g⟩:(Sl Gate)) (⟨a1_n,zbb a1_g⟩:(Sl Int))).get i)))]
  | [.one (.sl a0_n a0_s a0_g),.one (.nils)]=>.det (IsE enc_55 3 a0_s a0_g∧p95 (⟨a0_n,zaf a0_g⟩:(Sl Gate)) (⟨0,fun _=>default⟩:(Sl Int))=true) [.one (.sl ((s95 (⟨a0_n,zaf a0_g⟩:(Sl Gate)) (⟨0,fun _=>default⟩:(Sl Int))).len) 1 (fun i=>zdo ((s95 (⟨a0_n,zaf a0_g⟩:(Sl Gate)) (⟨0,fun _=>default⟩:(Sl Int))).get i)))]
  | _=>.no
theorem zQ6:Ok Try.prog 95 zJD:=zNj 64
abbrev T58:Tabs:=(((Tabs.nil.addF 46 zDU).addF 61 zDV).addF 95 zJD)
theorem zP4:TabsOk Try.prog T58:=(((TabsOk.nil.addF zQ2).addF zQ3).addF zQ6)
abbrev G58:Ctrs:=csm T58 (fun _ _=>[]) (fun _=>false)
def zJE:Ann:=⟨44,[(0,zK [0] []),(1,zK [0,4] []),(2,zK [4,5] []),(3,zK [4,5,6,7] []),(4,zK [4,5,6,7,8] []),(5,zK [4,5,6,7,8,25] []),(6,zK [4,5,6,7,8] []),(7,zK [4,5,6,7,8,9] []),(8,zK [4,5,6,7,8,9,36] []),(9,zK [4,5,6,7,8] []),(10,zK [2,3] [])],
 [(5,zK [4,5,6,7,8] [])],
 [(2,zK [0,4] []),(3,zK [4,5] []),(4,zK [4,5,6,7] []),(8,zK [4,5,6,7,8,9] [])],
 [],[]⟩
abbrev R58:=((Sl Int)×Int)
abbrev e58 (r:R58):List PA:=[.one (.sl r.1.len 1 (fun i=>zal (r.1.get i))),.one (.int .i64 r.2)]
@[irreducible] def z58:=ptF Try.prog G58 zJE Try.f58
def zFf (zao:(Sl (Sl Int))) (zv1:(Sl Int)) (zdf:(Sl Int)) (zcG:Int) (iv3:Int) (zeO:Nat→List PV):St:=⟨[(4,zS zdo 1 zao),(5,zS zal 1 zv1),(6,zP (.sl zdf.len 1 zeO)),(7,zI zcG),(8,zI iv3)],[],[]⟩
abbrev zJF (K:List PA→Prop) (zao:(Sl (Sl Int))) (zv1:(Sl Int)) (X:St→Prop) (P:(Sl Int)→Int→Int→Bool) (S:(Sl Int)→Int→Int→((Sl Int)×Int)):Prop:=∀ ⦃zdf:(Sl Int)⦄ ⦃zcG:Int⦄ ⦃iv3:Int⦄ ⦃zeO:Nat→List PV⦄,P zdf zcG iv3=true→K (e58 (S zdf zcG iv3))→zeO=zg zal zdf→X (zFf zao zv1 zdf zcG iv3 zeO)
section
variable {K:List PA→Prop} {zaa:(Sl Gate)} {zao:(Sl (Sl Int))} {zmh:Nat→List PV} {zv1:(Sl Int)} {zBJ:Nat→List PV} {zhS:Int} {zdf:(Sl Int)} {zcG:Int} {iv3:Int} {zeO:Nat→List PV} {X3:St→Prop} {P3:(Sl Int)→Int→Int→Bool} {S3:(Sl Int)→Int→Int→((Sl Int)×Int)} {zcc:(Sl Int)} {zfK:Int} {iv4:Int} {kv4:Int} {zvD:Nat→List PV}
def ztq (S3:(Sl Int)→Int→Int→((Sl Int)×Int)) (zao:(Sl (Sl Int))) (zv1:(Sl Int)) (zcc:(Sl Int)) (zfK:Int) (iv4:Int) (kv4:Int):((Sl Int)×Int) :=
  (cond (decide (kv4 < zfK))
 (S3 (zao.get iv4.toNat) kv4 (w64 (iv4+(1:Int))))
 (S3 zcc zfK (w64 (iv4+(1:Int)))))
def ztr (P3:(Sl Int)→Int→Int→Bool) (zao:(Sl (Sl Int))) (zv1:(Sl Int)) (zcc:(Sl Int)) (zfK:Int) (iv4:Int) (kv4:Int):Bool :=
  (cond (decide (kv4 < zfK))
 (decide ((0≤iv4∧iv4 < (zao.len:Int))) &&
 (P3 (zao.get iv4.toNat) kv4 (w64 (iv4+(1:Int)))))
 (P3 zcc zfK (w64 (iv4+(1:Int)))))
theorem zJG (hX3:zJF K zao zv1 X3 P3 S3) (hs:ztr P3 zao zv1 zcc zfK iv4 kv4=true) (hk:K (e58 (ztq S3 zao zv1 zcc zfK iv4 kv4))) (zDY:zvD=zg zal zcc):z58 K [1,1,1,1,0,1,0,0,1,0,0,1] [X3] ⟨[(4,zS zdo 1 zao),(5,zS zal 1 zv1),(6,zP (.sl zcc.len 1 zvD)),(7,zI zfK),(8,zI iv4),(9,zI kv4)],[],[]⟩:=by subst zDY;exact zaI (by kernel_rfl) (zc hs hk (fun hs hk=>(zaE hs fun hc hs=>And.intro hc (hX3 hs hk rfl))) (fun hs hk=>(hX3 hs hk rfl)))
def zjN (zao:(Sl (Sl Int))) (zv1:(Sl Int)) (S3:(Sl Int)→Int→Int→((Sl Int)×Int)) (zdf:(Sl Int)) (zcG:Int) (iv3:Int):((Sl Int)×Int) :=
  (cond (decide (iv3 < (zao.len : Int)))
 (ztq S3 zao zv1 zdf zcG iv3 (s46 zv1 (zao.get iv3.toNat)))
 (zdf,zcG))
def zjO (zao:(Sl (Sl Int))) (zv1:(Sl Int)) (P3:(Sl Int)→Int→Int→Bool) (zdf:(Sl Int)) (zcG:Int) (iv3:Int):Bool :=
  (cond (decide (iv3 < (zao.len : Int)))
 (decide ((0≤iv3∧iv3 < (zao.len:Int))) &&
 (decide ((p46 zv1 (zao.get iv3.toNat)=true)) &&
 (ztr P3 zao zv1 zdf zcG iv3 (s46 zv1 (zao.get iv3.toNat)))))
 true)
def zhT (zao:(Sl (Sl Int))) (zv1:(Sl Int)):Nat→(Sl Int)→Int→Int→((Sl Int)×Int):=lpO (fun _ _ _=>default) (zjN zao zv1)
def zhU (zao:(Sl (Sl Int))) (zv1:(Sl Int)):Nat→(Sl Int)→Int→Int→Bool:=lpO (fun _ _ _=>false) (zjO zao zv1)
def zts (zao:(Sl (Sl Int))) (zv1:(Sl Int)) (zdf:(Sl Int)) (zcG:Int) (iv3:Int):((Sl Int)×Int):=zhT zao zv1 Fuel zdf zcG iv3
def ztt (zao:(Sl (Sl Int))) (zv1:(Sl Int)) (zdf:(Sl Int)) (zcG:Int) (iv3:Int):Bool:=zhU zao zv1 Fuel zdf zcG iv3
theorem zJH (hs:ztt zao zv1 zdf zcG iv3=true) (hk:K (e58 (zts zao zv1 zdf zcG iv3))) (zpe:zeO=zg zal zdf):z58 K [1,1,1,1,0,1,0] [] (zFf zao zv1 zdf zcG iv3 zeO) :=
  zl (fun X=>z58 K [1,1,1,1,0,1,0,0] [X]) (by kernel_rfl) fun X3 hX =>
  (show ∀ k, zJF K zao zv1 X3 (zhU zao zv1 k) (zhT zao zv1 k) from zfT _ _ (zjO zao zv1) (zjN zao zv1) (zJF K zao zv1 X3)
 (by intro _ _ _ _ hs;exact absurd hs Bool.false_ne_true)
 (by intro P3 S3 hX3 zdf zcG iv3 zeO hs hk zpe;subst zpe;exact hX _ (zaI (by kernel_rfl) (zc hs hk (fun hs hk=>(zaE hs fun hc hs=>And.intro hc (zaE hs fun hc hs=>And.intro (And.intro (zE zal 1 zv1.get) (And.intro (zE zal 1 ((zao.get iv3.toNat).get)) hc)) (zJG hX3 hs hk rfl)))) (fun hs hk=>hk))))) _ hs hk zpe
def ztu (zao:(Sl (Sl Int))) (zv1:(Sl Int)) (zhS:Int):((Sl Int)×Int) :=
  (zts zao zv1 (zao.get 0) zhS (1:Int))
def ztv (zao:(Sl (Sl Int))) (zv1:(Sl Int)) (zhS:Int):Bool :=
  (ztt zao zv1 (zao.get 0) zhS (1:Int))
theorem zJI (hs:ztv zao zv1 zhS=true) (hk:K (e58 (ztu zao zv1 zhS))):z58 K [1,1,1,1] [] ⟨[(4,zS zdo 1 zao),(5,zS zal 1 zv1),(6,zS zal 1 (zao.get 0)),(7,zI zhS)],[],[]⟩:=zaI (by kernel_rfl) (zJH hs hk rfl)
def ztw (zao:(Sl (Sl Int))) (zv1:(Sl Int)):((Sl Int)×Int) :=
  (ztu zao zv1 (s46 zv1 (zao.get 0)))
def ztx (zao:(Sl (Sl Int))) (zv1:(Sl Int)):Bool :=
  (decide ((0≤(0:Int)∧(0:Int) < (zao.len:Int))) &&
 (decide ((0≤(0:Int)∧(0:Int) < (zao.len:Int))) &&
 (decide ((p46 zv1 (zao.get 0)=true)) &&
 (ztv zao zv1 (s46 zv1 (zao.get 0))))))
theorem zJJ (hs:ztx zao zv1=true) (hk:K (e58 (ztw zao zv1))) (zJK:zBJ=zg zal zv1):z58 K [1,1,1] [] ⟨[(4,zS zdo 1 zao),(5,zP (.sl zv1.len 1 zBJ))],[],[]⟩:=by subst zJK;exact zaI (by kernel_rfl) (zaE hs fun hc hs=>And.intro hc (zaE hs fun hc hs=>And.intro hc (zaE hs fun hc hs=>And.intro (And.intro (zE zal 1 zv1.get) (And.intro (zE zal 1 ((zao.get 0).get)) hc)) (zJI hs hk))))
def zty (zaa:(Sl Gate)) (zao:(Sl (Sl Int))):((Sl Int)×Int) :=
  (ztw zao (s61 zaa))
def ztz (zaa:(Sl Gate)) (zao:(Sl (Sl Int))):Bool :=
  (decide ((p61 zaa=true)) &&
 (ztx zao (s61 zaa)))
theorem zJL (hs:ztz zaa zao=true) (hk:K (e58 (zty zaa zao))) (ztA:zmh=zg zdo zao):z58 K [1,1] [] ⟨[(0,zS enc_55 3 zaa),(4,zP (.sl zao.len 1 zmh))],[],[]⟩:=by subst ztA;exact zaI (by kernel_rfl) (zaE hs fun hc hs=>And.intro (And.intro (zE enc_55 3 zaa.get) hc) (zJJ hs hk rfl))
def s58 (zaa:(Sl Gate)):((Sl Int)×Int) :=
  (zty zaa (s95 zaa (⟨0,fun _=>default⟩:(Sl Int))))
def p58 (zaa:(Sl Gate)):Bool :=
  (decide ((p95 zaa (⟨0,fun _=>default⟩:(Sl Int))=true)) &&
 (ztz zaa (s95 zaa (⟨0,fun _=>default⟩:(Sl Int)))))
end
theorem q58 (zaa:(Sl Gate)) (K:List PA→Prop) (hs:p58 zaa=true) (hk:K (e58 (s58 zaa))):vcFun Try.prog G58 zJE 58 [.one (.sl zaa.len 3 (fun i=>enc_55 (zaa.get i)))] K :=
  zaI (by kernel_rfl) (zaE hs fun hc hs=>And.intro (And.intro (zE enc_55 3 zaa.get) hc) (zJL hs hk rfl))
def zJM : List PA → COut
  | [.one (.sl a0_n a0_s a0_g)]=>.det (IsE enc_55 3 a0_s a0_g∧p58 (⟨a0_n,zaf a0_g⟩:(Sl Gate))=true) [.one (.sl (((s58 (⟨a0_n,zaf a0_g⟩:(Sl Gate))).1).len) 1 (fun i=>zal (((s58 (⟨a0_n,zaf a0_g⟩:(Sl Gate))).1).get i))),.one (.int .i64 ((s58 (⟨a0_n,zaf a0_g⟩:(Sl Gate))).2))]
  | _=>.no
theorem zNk:zaj Try.prog 58:=⟨_,rfl,rfl,by kernel_rfl⟩
theorem zSH:Ok Try.prog 58 zJM:=zaP zP4 zNk fun args K h=>by
  unfold zJM at h
  split at h
  · rename_i a0_n a0_s a0_g
    obtain ⟨⟨⟨rfl,a0_f,rfl⟩,hs⟩,hk⟩:=h
    try rw [zae a0_f] at hs
    try rw [zae a0_f] at hk
    exact ⟨(fun _ _=>[]),(fun _=>false),zJE,q58 (⟨a0_n,a0_f⟩:(Sl Gate)) K hs hk⟩
  · exact h.elim
abbrev T59:Tabs:=(((Tabs.nil.addF 46 zDU).addF 61 zDV).addF 95 zJD)
theorem zP5:TabsOk Try.prog T59:=(((TabsOk.nil.addF zQ2).addF zQ3).addF zQ6)
abbrev G59:Ctrs:=csm T59 (fun _ _=>[]) (fun _=>false)
def zJN:Ann:=⟨75,[(0,zK [0,1] []),(1,zK [0,1,6] []),(2,zK [0,1,6,7] []),(3,zK [0,1,6,7,8] []),(4,zK [0,1,6,7,8,9] []),(5,zK [0,1,6,7,8,9,19] [52]),(6,zK [0,1,6,7,8,9] [52]),(7,zK [0,1,6,7,8,9,29] [52]),(8,zK [0,1,6,7,8,9,10] [52]),(9,zK [0,1,6,7,8,9,10,33] [52]),(10,zK [0,1,6,7,8,9,10] [52]),(11,zK [0,1,6,7,8,9,10,11] [52]),(12,zK [0,1,6,7,8,9,10,11,46] [52]),(13,zK [0,1,6,7,8,9,10] [52]),(14,zK [0,1,6,7,8,9,10] [52]),(15,zK [4,5] [52])],
 [(5,⟨[0,1,6,7,8,9],[52],[(8,52,96,fun _=>zan default)],[],[],[],[]⟩),(9,⟨[0,1,6,7,8,9,10],[52],[(8,52,96,fun _=>zan default)],[],[],[],[]⟩)],
 [(2,zK [0,1,6] []),(3,zK [0,1,6,7] [])],
 [],[]⟩
abbrev R59:=((Sl Span)×Bool)
abbrev e59 (r:R59):List PA:=[.one (.sl r.1.len 2 (fun i=>zan (r.1.get i))),.one (.bool r.2)]
@[irreducible] def z59:=ptF Try.prog G59 zJN Try.f59
def zFg (zaa:(Sl Gate)) (most:Int) (zao:(Sl (Sl Int))) (zv1:(Sl Int)) (iv2:Int) (zei:(Sl Span)) (zgx:Nat→List PV):St:=⟨[(0,zS enc_55 3 zaa),(1,zI most),(6,zS zdo 1 zao),(7,zS zal 1 zv1),(8,zv 52),(9,zI iv2)],[(52,.vec 96 2 16 zei.len zgx)],[]⟩
abbrev zJO (K:List PA→Prop) (zaa:(Sl Gate)) (most:Int) (zao:(Sl (Sl Int))) (zv1:(Sl Int)) (X:St→Prop) (P:Int→(Sl Span)→Bool) (S:Int→(Sl Span)→((Sl Span)×Bool)):Prop:=∀ ⦃iv2:Int⦄ ⦃zei:(Sl Span)⦄ ⦃zgx:Nat→List PV⦄,P iv2 zei=true→K (e59 (S iv2 zei))→zgx=zg zan zei→X (zFg zaa most zao zv1 iv2 zei zgx)
def zFh (zaa:(Sl Gate)) (most:Int) (zao:(Sl (Sl Int))) (zv1:(Sl Int)) (iv3:Int) (kv3:Int) (zbx:(Sl Span)) (zgy:Nat→List PV):St:=⟨[(0,zS enc_55 3 zaa),(1,zI most),(6,zS zdo 1 zao),(7,zS zal 1 zv1),(8,zv 52),(9,zI iv3),(10,zI kv3)],[(52,.vec 96 2 16 zbx.len zgy)],[]⟩
abbrev zNl (K:List PA→Prop) (zaa:(Sl Gate)) (most:Int) (zao:(Sl (Sl Int))) (zv1:(Sl Int)) (X:St→Prop) (P:Int→Int→(Sl Span)→Bool) (S:Int→Int→(Sl Span)→((Sl Span)×Bool)):Prop:=∀ ⦃iv3:Int⦄ ⦃kv3:Int⦄ ⦃zbx:(Sl Span)⦄ ⦃zgy:Nat→List PV⦄,P iv3 kv3 zbx=true→K (e59 (S iv3 kv3 zbx))→zgy=zg zan zbx→X (zFh zaa most zao zv1 iv3 kv3 zbx zgy)
section
variable {K:List PA→Prop} {zaa:(Sl Gate)} {most:Int} {zao:(Sl (Sl Int))} {zmh:Nat→List PV} {zv1:(Sl Int)} {zBJ:Nat→List PV} {iv2:Int} {zei:(Sl Span)} {zgx:Nat→List PV} {X2:St→Prop} {P2:Int→(Sl Span)→Bool} {S2:Int→(Sl Span)→((Sl Span)×Bool)} {iv3:Int} {kv3:Int} {zbx:(Sl Span)} {zgy:Nat→List PV} {X3:St→Prop} {P3:Int→Int→(Sl Span)→Bool} {S3:Int→Int→(Sl Span)→((Sl Span)×Bool)}
def zjP (S2:Int→(Sl Span)→((Sl Span)×Bool)) (zaa:(Sl Gate)) (most:Int) (zao:(Sl (Sl Int))) (zv1:(Sl Int)) (S3:Int→Int→(Sl Span)→((Sl Span)×Bool)) (iv3:Int) (kv3:Int) (zbx:(Sl Span)):((Sl Span)×Bool) :=
  (cond (decide (kv3 < (zaa.len : Int)))
 (cond (decide ((zbx.len : Int) ≤ kv3))
 (S3 iv3 (w64 (kv3+(1:Int))) (⟨(zbx.len+1),(zdN zbx.len zbx.get (fun _=>(⟨((zao.get iv3.toNat).get kv3.toNat),((zao.get iv3.toNat).get kv3.toNat)⟩:Span)))⟩:Sl Span))
 (S3 iv3 (w64 (kv3+(1:Int))) (⟨zbx.len,(setT kv3.toNat (⟨(if ((zao.get iv3.toNat).get kv3.toNat) < (zbx.get kv3.toNat).Low then ((zao.get iv3.toNat).get kv3.toNat) else (zbx.get kv3.toNat).Low),(if ((zao.get iv3.toNat).get kv3.toNat) > (zbx.get kv3.toNat).High then ((zao.get iv3.toNat).get kv3.toNat) else (zbx.get kv3.toNat).High)⟩:Span) zbx.get)⟩:Sl Span)))
 (S2 (w64 (iv3+(1:Int))) zbx))
def zjQ (P2:Int→(Sl Span)→Bool) (zaa:(Sl Gate)) (most:Int) (zao:(Sl (Sl Int))) (zv1:(Sl Int)) (P3:Int→Int→(Sl Span)→Bool) (iv3:Int) (kv3:Int) (zbx:(Sl Span)):Bool :=
  (cond (decide (kv3 < (zaa.len : Int)))
 (decide ((0≤iv3∧iv3 < (zao.len:Int))) &&
 (decide ((0≤kv3∧kv3 < ((zao.get iv3.toNat).len:Int))) &&
 (cond (decide ((zbx.len : Int) ≤ kv3))
 (decide (((zbx.len+1) * 16≤140737488355328∧zbx.len+1≤9223372036854775807)) &&
 (P3 iv3 (w64 (kv3+(1:Int))) (⟨(zbx.len+1),(zdN zbx.len zbx.get (fun _=>(⟨((zao.get iv3.toNat).get kv3.toNat),((zao.get iv3.toNat).get kv3.toNat)⟩:Span)))⟩:Sl Span)))
 (decide ((0≤kv3∧kv3 < (zbx.len:Int))) &&
 (decide ((kv3.toNat < zbx.len)) &&
 (decide ((0≤kv3∧kv3 < (zbx.len:Int))) &&
 (decide ((kv3.toNat < zbx.len)) &&
 (decide ((0≤kv3∧kv3 < (zbx.len:Int))) &&
 (decide ((kv3.toNat < zbx.len)) &&
 (P3 iv3 (w64 (kv3+(1:Int))) (⟨zbx.len,(setT kv3.toNat (⟨(if ((zao.get iv3.toNat).get kv3.toNat) < (zbx.get kv3.toNat).Low then ((zao.get iv3.toNat).get kv3.toNat) else (zbx.get kv3.toNat).Low),(if ((zao.get iv3.toNat).get kv3.toNat) > (zbx.get kv3.toNat).High then ((zao.get iv3.toNat).get kv3.toNat) else (zbx.get kv3.toNat).High)⟩:Span) zbx.get)⟩:Sl Span)))))))))))
 (P2 (w64 (iv3+(1:Int))) zbx))
def zhV (S2:Int→(Sl Span)→((Sl Span)×Bool)) (zaa:(Sl Gate)) (most:Int) (zao:(Sl (Sl Int))) (zv1:(Sl Int)):Nat→Int→Int→(Sl Span)→((Sl Span)×Bool):=lpO (fun _ _ _=>default) (zjP S2 zaa most zao zv1)
def zhW (P2:Int→(Sl Span)→Bool) (zaa:(Sl Gate)) (most:Int) (zao:(Sl (Sl Int))) (zv1:(Sl Int)):Nat→Int→Int→(Sl Span)→Bool:=lpO (fun _ _ _=>false) (zjQ P2 zaa most zao zv1)
def ztB (S2:Int→(Sl Span)→((Sl Span)×Bool)) (zaa:(Sl Gate)) (most:Int) (zao:(Sl (Sl Int))) (zv1:(Sl Int)) (iv3:Int) (kv3:Int) (zbx:(Sl Span)):((Sl Span)×Bool):=zhV S2 zaa most zao zv1 Fuel iv3 kv3 zbx
def ztC (P2:Int→(Sl Span)→Bool) (zaa:(Sl Gate)) (most:Int) (zao:(Sl (Sl Int))) (zv1:(Sl Int)) (iv3:Int) (kv3:Int) (zbx:(Sl Span)):Bool:=zhW P2 zaa most zao zv1 Fuel iv3 kv3 zbx
theorem zJP (hX2:zJO K zaa most zao zv1 X2 P2 S2) (hs:ztC P2 zaa most zao zv1 iv3 kv3 zbx=true) (hk:K (e59 (ztB S2 zaa most zao zv1 iv3 kv3 zbx))) (ztD:zgy=zg zan zbx):z59 K [1,1,1,1,0,1,0,0,1,0,0,1,1,0] [X2] (zFh zaa most zao zv1 iv3 kv3 zbx zgy) :=
  zl (fun X=>z59 K [1,1,1,1,0,1,0,0,1,0,0,1,1,0,0] [X2,X]) (by kernel_rfl) fun X3 hX =>
  (show ∀ k, zNl K zaa most zao zv1 X3 (zhW P2 zaa most zao zv1 k) (zhV S2 zaa most zao zv1 k) from zfT _ _ (zjQ P2 zaa most zao zv1) (zjP S2 zaa most zao zv1) (zNl K zaa most zao zv1 X3)
 (by intro _ _ _ _ hs;exact absurd hs Bool.false_ne_true)
 (by intro P3 S3 hX3 iv3 kv3 zbx zgy hs hk ztD;subst ztD;exact hX _ (zaI (by kernel_rfl) (zc hs hk (fun hs hk=>(zaE hs fun hc hs=>And.intro hc (zaE hs fun hc hs=>And.intro hc (zc hs hk (fun hs hk=>(zaE hs fun hc hs=>And.intro hc (hX3 hs hk (zf4 (enc:=zan) (f:=zbx.get) (h:=(fun _=>(⟨((zao.get iv3.toNat).get kv3.toNat),((zao.get iv3.toNat).get kv3.toNat)⟩:Span))) rfl rfl)))) (fun hs hk=>(zaE hs fun hc hs=>And.intro hc (zaE hs fun hc hs=>And.intro hc (zaE hs fun hc hs=>And.intro hc (zaE hs fun hc hs=>And.intro hc (zaE hs fun hc hs=>And.intro hc (zaE hs fun hc hs=>And.intro hc (hX3 hs hk (zEu (enc:=zan) (i:=kv3.toNat) (k:=0) (f:=zbx.get) (new:=(zan (⟨(if ((zao.get iv3.toNat).get kv3.toNat) < (zbx.get kv3.toNat).Low then ((zao.get iv3.toNat).get kv3.toNat) else (zbx.get kv3.toNat).Low),(if ((zao.get iv3.toNat).get kv3.toNat) > (zbx.get kv3.toNat).High then ((zao.get iv3.toNat).get kv3.toNat) else (zbx.get kv3.toNat).High)⟩:Span))) (v:=(⟨(if ((zao.get iv3.toNat).get kv3.toNat) < (zbx.get kv3.toNat).Low then ((zao.get iv3.toNat).get kv3.toNat) else (zbx.get kv3.toNat).Low),(if ((zao.get iv3.toNat).get kv3.toNat) > (zbx.get kv3.toNat).High then ((zao.get iv3.toNat).get kv3.toNat) else (zbx.get kv3.toNat).High)⟩:Span)) rfl rfl))))))))))))) (fun hs hk=>(hX2 hs hk rfl)))))) _ hs hk ztD
def zjR (zaa:(Sl Gate)) (most:Int) (zao:(Sl (Sl Int))) (zv1:(Sl Int)) (S2:Int→(Sl Span)→((Sl Span)×Bool)) (iv2:Int) (zei:(Sl Span)):((Sl Span)×Bool) :=
  (cond (decide (iv2 < (zao.len : Int)))
 (cond (decide ((s46 zv1 (zao.get iv2.toNat)) > most))
 (S2 (w64 (iv2+(1:Int))) zei)
 (ztB S2 zaa most zao zv1 iv2 (0:Int) zei))
 (zei,(decide ((zei.len:Int) > (0:Int)))))
def zjS (zaa:(Sl Gate)) (most:Int) (zao:(Sl (Sl Int))) (zv1:(Sl Int)) (P2:Int→(Sl Span)→Bool) (iv2:Int) (zei:(Sl Span)):Bool :=
  (cond (decide (iv2 < (zao.len : Int)))
 (decide ((0≤iv2∧iv2 < (zao.len:Int))) &&
 (decide ((p46 zv1 (zao.get iv2.toNat)=true)) &&
 (cond (decide ((s46 zv1 (zao.get iv2.toNat)) > most))
 (P2 (w64 (iv2+(1:Int))) zei)
 (ztC P2 zaa most zao zv1 iv2 (0:Int) zei))))
 true)
def zgz (zaa:(Sl Gate)) (most:Int) (zao:(Sl (Sl Int))) (zv1:(Sl Int)):Nat→Int→(Sl Span)→((Sl Span)×Bool):=lpO (fun _ _=>default) (zjR zaa most zao zv1)
def zgA (zaa:(Sl Gate)) (most:Int) (zao:(Sl (Sl Int))) (zv1:(Sl Int)):Nat→Int→(Sl Span)→Bool:=lpO (fun _ _=>false) (zjS zaa most zao zv1)
def zBK (zaa:(Sl Gate)) (most:Int) (zao:(Sl (Sl Int))) (zv1:(Sl Int)) (iv2:Int) (zei:(Sl Span)):((Sl Span)×Bool):=zgz zaa most zao zv1 Fuel iv2 zei
def zBL (zaa:(Sl Gate)) (most:Int) (zao:(Sl (Sl Int))) (zv1:(Sl Int)) (iv2:Int) (zei:(Sl Span)):Bool:=zgA zaa most zao zv1 Fuel iv2 zei
theorem zJQ (hs:zBL zaa most zao zv1 iv2 zei=true) (hk:K (e59 (zBK zaa most zao zv1 iv2 zei))) (ztE:zgx=zg zan zei):z59 K [1,1,1,1,0,1,0] [] (zFg zaa most zao zv1 iv2 zei zgx) :=
  zl (fun X=>z59 K [1,1,1,1,0,1,0,0] [X]) (by kernel_rfl) fun X2 hX =>
  (show ∀ k, zJO K zaa most zao zv1 X2 (zgA zaa most zao zv1 k) (zgz zaa most zao zv1 k) from zfT _ _ (zjS zaa most zao zv1) (zjR zaa most zao zv1) (zJO K zaa most zao zv1 X2)
 (by intro _ _ _ hs;exact absurd hs Bool.false_ne_true)
 (by intro P2 S2 hX2 iv2 zei zgx hs hk ztE;subst ztE;exact hX _ (zaI (by kernel_rfl) (zc hs hk (fun hs hk=>(zaE hs fun hc hs=>And.intro hc (zaE hs fun hc hs=>And.intro (And.intro (zE zal 1 zv1.get) (And.intro (zE zal 1 ((zao.get iv2.toNat).get)) hc)) (zc hs hk (fun hs hk=>(hX2 hs hk rfl)) (fun hs hk=>(zJP hX2 hs hk rfl)))))) (fun hs hk=>hk))))) _ hs hk ztE
def zBM (zaa:(Sl Gate)) (most:Int) (zao:(Sl (Sl Int))) (zv1:(Sl Int)):((Sl Span)×Bool) :=
  (zBK zaa most zao zv1 (0:Int) (⟨0,(fun _=>default)⟩:Sl Span))
def zBN (zaa:(Sl Gate)) (most:Int) (zao:(Sl (Sl Int))) (zv1:(Sl Int)):Bool :=
  (zBL zaa most zao zv1 (0:Int) (⟨0,(fun _=>default)⟩:Sl Span))
theorem zJR (hs:zBN zaa most zao zv1=true) (hk:K (e59 (zBM zaa most zao zv1))) (zJK:zBJ=zg zal zv1):z59 K [1,1,1] [] ⟨[(0,zS enc_55 3 zaa),(1,zI most),(6,zS zdo 1 zao),(7,zP (.sl zv1.len 1 zBJ))],[],[]⟩:=by subst zJK;exact zaI (by kernel_rfl) (zJQ hs hk rfl)
def ztF (zaa:(Sl Gate)) (most:Int) (zao:(Sl (Sl Int))):((Sl Span)×Bool) :=
  (zBM zaa most zao (s61 zaa))
def ztG (zaa:(Sl Gate)) (most:Int) (zao:(Sl (Sl Int))):Bool :=
  (decide ((p61 zaa=true)) &&
 (zBN zaa most zao (s61 zaa)))
theorem zJS (hs:ztG zaa most zao=true) (hk:K (e59 (ztF zaa most zao))) (ztA:zmh=zg zdo zao):z59 K [1,1] [] ⟨[(0,zS enc_55 3 zaa),(1,zI most),(6,zP (.sl zao.len 1 zmh))],[],[]⟩:=by subst ztA;exact zaI (by kernel_rfl) (zaE hs fun hc hs=>And.intro (And.intro (zE enc_55 3 zaa.get) hc) (zJR hs hk rfl))
def s59 (zaa:(Sl Gate)) (most:Int):((Sl Span)×Bool) :=
  (ztF zaa most (s95 zaa (⟨0,fun _=>default⟩:(Sl Int))))
def p59 (zaa:(Sl Gate)) (most:Int):Bool :=
  (decide ((p95 zaa (⟨0,fun _=>default⟩:(Sl Int))=true)) &&
 (ztG zaa most (s95 zaa (⟨0,fun _=>default⟩:(Sl Int)))))
end
theorem q59 (zaa:(Sl Gate)) (most:Int) (K:List PA→Prop) (hs:p59 zaa most=true) (hk:K (e59 (s59 zaa most))):vcFun Try.prog G59 zJN 59 [.one (.sl zaa.len 3 (fun i=>enc_55 (zaa.get i))),.one (.int .i64 most)] K :=
  zaI (by kernel_rfl) (zaE hs fun hc hs=>And.intro (And.intro (zE enc_55 3 zaa.get) hc) (zJS hs hk rfl))
def zJT : List PA → COut
  | [.one (.sl a0_n a0_s a0_g),.one (.int .i64 a1)]=>.det (IsE enc_55 3 a0_s a0_g∧p59 (⟨a0_n,zaf a0_g⟩:(Sl Gate)) a1=true) [.one (.sl (((s59 (⟨a0_n,zaf a0_g⟩:(Sl Gate)) a1).1).len) 2 (fun i=>zan (((s59 (⟨a0_n,zaf a0_g⟩:(Sl Gate)) a1).1).get i))),.one (.bool ((s59 (⟨a0_n,zaf a0_g⟩:(Sl Gate)) a1).2))]
  | _=>.no
theorem zNm:zaj Try.prog 59:=⟨_,rfl,rfl,by kernel_rfl⟩
theorem zSI:Ok Try.prog 59 zJT:=zaP zP5 zNm fun args K h=>by
  unfold zJT at h
  split at h
  · rename_i a0_n a0_s a0_g a1
    obtain ⟨⟨⟨rfl,a0_f,rfl⟩,hs⟩,hk⟩:=h
    try rw [zae a0_f] at hs
    try rw [zae a0_f] at hk
    exact ⟨(fun _ _=>[]),(fun _=>false),zJN,q59 (⟨a0_n,a0_f⟩:(Sl Gate)) a1 K hs hk⟩
  · exact h.elim
abbrev T60:Tabs:=Tabs.nil
theorem zP6:TabsOk Try.prog T60:=TabsOk.nil
abbrev G60:Ctrs:=csm T60 (fun _ _=>[]) (fun _=>false)
def zJU:Ann:=⟨26,[(0,zK [0,1] []),(1,zK [0,1,10] []),(2,zK [4] []),(3,zK [0,1,5] []),(4,zK [0,1,5,14] []),(5,zK [0,1,5] []),(6,zK [0,1,5,25] []),(7,zK [4] []),(8,zK [4] [])],
 [(4,zK [0,1,5] [])],
 [(3,zK [0,1] [])],
 [],[]⟩
abbrev R60:=Bool
abbrev e60 (r:R60):List PA:=[.one (.bool r)]
@[irreducible] def z60:=ptF Try.prog G60 zJU Try.f60
def zFi (a:(Sl Span)) (b:(Sl Span)) (iv1:Int):St:=⟨[(0,zS zan 2 a),(1,zS zan 2 b),(5,zI iv1)],[],[]⟩
abbrev zNn (K:List PA→Prop) (a:(Sl Span)) (b:(Sl Span)) (X:St→Prop) (P:Int→Bool) (S:Int→Bool):Prop:=∀ ⦃iv1:Int⦄,P iv1=true→K (e60 (S iv1))→X (zFi a b iv1)
section
variable {K:List PA→Prop} {a:(Sl Span)} {b:(Sl Span)} {iv1:Int} {X1:St→Prop} {P1:Int→Bool} {S1:Int→Bool}
def zjT (a:(Sl Span)) (b:(Sl Span)) (S1:Int→Bool) (iv1:Int):Bool :=
  (cond (decide (iv1 < (a.len : Int)))
 (cond (!(match ((a.get iv1.toNat).Low == (b.get iv1.toNat).Low) with | true => (match ((a.get iv1.toNat).High == (b.get iv1.toNat).High) with | true => true | false => false) | false => false))
 false
 (S1 (w64 (iv1+(1:Int)))))
 true)
def zjU (a:(Sl Span)) (b:(Sl Span)) (P1:Int→Bool) (iv1:Int):Bool :=
  (cond (decide (iv1 < (a.len : Int)))
 (decide ((0≤iv1∧iv1 < (a.len:Int))) &&
 (decide ((0≤iv1∧iv1 < (b.len:Int))) &&
 (cond (!(match ((a.get iv1.toNat).Low == (b.get iv1.toNat).Low) with | true => (match ((a.get iv1.toNat).High == (b.get iv1.toNat).High) with | true => true | false => false) | false => false))
 true
 (P1 (w64 (iv1+(1:Int)))))))
 true)
def zmi (a:(Sl Span)) (b:(Sl Span)):Nat→Int→Bool:=lpO (fun _=>default) (zjT a b)
def zmj (a:(Sl Span)) (b:(Sl Span)):Nat→Int→Bool:=lpO (fun _=>false) (zjU a b)
def zBO (a:(Sl Span)) (b:(Sl Span)) (iv1:Int):Bool:=zmi a b Fuel iv1
def zBP (a:(Sl Span)) (b:(Sl Span)) (iv1:Int):Bool:=zmj a b Fuel iv1
theorem zJV (hs:zBP a b iv1=true) (hk:K (e60 (zBO a b iv1))):z60 K [1,1,0,1,0] [] (zFi a b iv1) :=
  zl (fun X=>z60 K [1,1,0,1,0,0] [X]) (by kernel_rfl) fun X1 hX =>
  (show ∀ k, zNn K a b X1 (zmj a b k) (zmi a b k) from zfT _ _ (zjU a b) (zjT a b) (zNn K a b X1)
 (by intro _ hs;exact absurd hs Bool.false_ne_true)
 (by intro P1 S1 hX1 iv1 hs hk;exact hX _ (zaI (by kernel_rfl) (zc hs hk (fun hs hk=>(zaE hs fun hc hs=>And.intro hc (zaE hs fun hc hs=>And.intro hc (zc hs hk (fun hs hk=>hk) (fun hs hk=>(hX1 hs hk)))))) (fun hs hk=>hk))))) _ hs hk
def zBQ (a:(Sl Span)) (b:(Sl Span)):Bool :=
  (zBO a b (0:Int))
def zBR (a:(Sl Span)) (b:(Sl Span)):Bool :=
  (zBP a b (0:Int))
theorem zJW (hs:zBR a b=true) (hk:K (e60 (zBQ a b))):z60 K [1,1] [] ⟨[(0,zS zan 2 a),(1,zS zan 2 b)],[],[]⟩:=zaI (by kernel_rfl) (zJV hs hk)
def s60 (a:(Sl Span)) (b:(Sl Span)):Bool :=
  (cond ((a.len : Int) != (b.len : Int))
 false
 (zBQ a b))
def p60 (a:(Sl Span)) (b:(Sl Span)):Bool :=
  (cond ((a.len : Int) != (b.len : Int))
 true
 (zBR a b))
end
theorem q60 (a:(Sl Span)) (b:(Sl Span)) (K:List PA→Prop) (hs:p60 a b=true) (hk:K (e60 (s60 a b))):vcFun Try.prog G60 zJU 60 [.one (.sl a.len 2 (fun i=>zan (a.get i))),.one (.sl b.len 2 (fun i=>zan (b.get i)))] K :=
  zaI (by kernel_rfl) (zc hs hk (fun hs hk=>hk) (fun hs hk=>(zJW hs hk)))
def zJX : List PA → COut
  | [.one (.sl a0_n a0_s a0_g),.one (.sl a1_n a1_s a1_g)]=>.det (IsE zan 2 a0_s a0_g∧IsE zan 2 a1_s a1_g∧p60 (⟨a0_n,zhk a0_g⟩:(Sl Span)) (⟨a1_n,zhk a1_g⟩:(Sl Span))=true) [.one (.bool (s60 (⟨a0_n,zhk a0_g⟩:(Sl Span)) (⟨a1_n,zhk a1_g⟩:(Sl Span))))]
  | _=>.no
theorem zNo:zaj Try.prog 60:=⟨_,rfl,rfl,by kernel_rfl⟩
theorem zSJ:Ok Try.prog 60 zJX:=zaP zP6 zNo fun args K h=>by
  unfold zJX at h
  split at h
  · rename_i a0_n a0_s a0_g a1_n a1_s a1_g
    obtain ⟨⟨⟨rfl,a0_f,rfl⟩,⟨rfl,a1_f,rfl⟩,hs⟩,hk⟩:=h
    try rw [zfr a0_f] at hs
    try rw [zfr a0_f] at hk
    try rw [zfr a1_f] at hs
    try rw [zfr a1_f] at hk
    exact ⟨(fun _ _=>[]),(fun _=>false),zJU,q60 (⟨a0_n,a0_f⟩:(Sl Span)) (⟨a1_n,a1_f⟩:(Sl Span)) K hs hk⟩
  · exact h.elim
abbrev T15:Tabs:=(((((((((Tabs.nil.addF 18 zIM).addF 39 zC9).addF 54 zJx).addF 55 zDe).addF 56 zJj).addF 57 zDT).addF 58 zJM).addF 59 zJT).addF 60 zJX)
theorem zP7:TabsOk Try.prog T15:=(((((((((TabsOk.nil.addF zSy).addF zQq).addF zSE).addF zQt).addF zSB).addF zQ1).addF zSH).addF zSI).addF zSJ)
abbrev G15:Ctrs:=csm T15 (fun _ _=>[]) (fun _=>false)
def zJY:Ann:=⟨116,[(0,zK [0,1] []),(1,zK [0,1,16] []),(2,zK [4] []),(3,zK [0,1,5,6,7] []),(4,zK [0,1,5,6,7,8,9] []),(5,zK [0,1,5,6,7,8,9,32] []),(6,zK [4] []),(7,zK [0,1,5,6,7,8,9,10,11] []),(8,zK [0,1,8,9,71] []),(9,zK [4] []),(10,zK [0,1,8,9,77] []),(11,zK [4] []),(12,zK [8,9,12,13] []),(13,zK [8,9,12,95] []),(14,zK [4] []),(15,zK [4] [])],
 [],
 [(2,zK [0,1,16] []),(3,zK [0,1] []),(4,zK [0,1,5,6,7] []),(5,zK [0,1,5,6,7,8,9] []),(6,zK [0,1,5,6,7,8,9,32] []),(7,zK [0,1,5,6,7,8,9] []),(8,zK [0,1,5,6,7,8,9,10,11] []),(9,zK [0,1,8,9,71] []),(10,zK [0,1,8,9] []),(12,zK [0,1,8,9] []),(13,zK [8,9,12,13] [])],
 [],[]⟩
abbrev R15:=Bool
abbrev e15 (r:R15):List PA:=[.one (.bool r)]
@[irreducible] def z15:=ptF Try.prog G15 zJY Try.f15
section
variable {K:List PA→Prop} {zaa:(Sl Gate)} {kink:Int} {ztH:Bool} {lv2:(Sl Int)} {kv2:Int} {ev2:Int} {zNp:Nat→List PV} {sv3:(Sl Span)} {fv3:Int} {zA5:Nat→List PV} {sv4:(Sl Span)} {ztI:Bool} {zA6:Nat→List PV} {sv5:(Sl Span)} {zA7:Nat→List PV} {sv6:(Sl Span)} {xv6:(Sl Int)} {nv6:Int} {zA8:Nat→List PV} {zNq:Nat→List PV} {sv7:(Sl Span)} {ztJ:Bool} {zNr:Nat→List PV} {sv8:(Sl Span)} {zNs:Nat→List PV} {sv9:(Sl Span)} {zNt:Nat→List PV} {zCi:(Sl Span)} {zDZ:(Sl Span)} {ztK:Bool} {zFj:Nat→List PV} {zFk:Nat→List PV}
def zgR (fv3:Int) (zCi:(Sl Span)) (zDZ:(Sl Span)) (ztK:Bool):Bool :=
  (cond (!ztK)
 (cond (fv3 == (5:Int))
 (cond ((zCi.len : Int) == (0:Int))
 true
 false)
 false)
 (cond (fv3 == (0:Int))
 (cond (s60 zCi zDZ)
 true
 false)
 false))
def zgS (fv3:Int) (zCi:(Sl Span)) (zDZ:(Sl Span)) (ztK:Bool):Bool :=
  (cond (!ztK)
 true
 (cond (fv3 == (0:Int))
 (decide ((p60 zCi zDZ=true)) &&
 true)
 true))
theorem zD0 (hs:zgS fv3 zCi zDZ ztK=true) (hk:K (e15 (zgR fv3 zCi zDZ ztK))) (zNu:zFj=zg zan zCi) (zNv:zFk=zg zan zDZ):z15 K [1,1,1,1,1,1,1,1,1] [] ⟨[(8,zP (.sl zCi.len 2 zFj)),(9,zI fv3),(12,zP (.sl zDZ.len 2 zFk)),(13,zB ztK)],[],[]⟩:=by subst zNu;subst zNv;exact zaI (by kernel_rfl) (zc hs hk (fun hs hk=>(zt hk (fun hk=>(zt hk (fun hk=>hk) (fun hk=>hk))) (fun hk=>hk))) (fun hs hk=>(zc hs hk (fun hs hk=>(zaE hs fun hc hs=>And.intro (And.intro (zE zan 2 zCi.get) (And.intro (zE zan 2 zDZ.get) hc)) (zt hk (fun hk=>hk) (fun hk=>hk)))) (fun hs hk=>hk))))
def ztL (zaa:(Sl Gate)) (kink:Int) (fv3:Int) (sv9:(Sl Span)):Bool :=
  (zgR fv3 sv9 ((s59 zaa kink).1) ((s59 zaa kink).2))
def ztM (zaa:(Sl Gate)) (kink:Int) (fv3:Int) (sv9:(Sl Span)):Bool :=
  (decide ((p59 zaa kink=true)) &&
 (zgS fv3 sv9 ((s59 zaa kink).1) ((s59 zaa kink).2)))
theorem zJZ (hs:ztM zaa kink fv3 sv9=true) (hk:K (e15 (ztL zaa kink fv3 sv9))) (zP8:zNt=zg zan sv9):z15 K [1,1,1,1,1,1,1,1] [] ⟨[(0,zS enc_55 3 zaa),(1,zI kink),(8,zP (.sl sv9.len 2 zNt)),(9,zI fv3)],[],[]⟩:=by subst zP8;exact zaI (by kernel_rfl) (zaE hs fun hc hs=>And.intro (And.intro (zE enc_55 3 zaa.get) hc) (zD0 hs hk rfl rfl))
def zhX (zaa:(Sl Gate)) (kink:Int) (fv3:Int) (sv8:(Sl Span)):Bool :=
  (cond (decide (kink < (0:Int)))
 (cond (fv3 == (2:Int))
 (cond ((sv8.len : Int) == (0:Int))
 true
 false)
 false)
 (cond (decide (kink > (1000000:Int)))
 (cond (fv3 == (2:Int))
 (cond ((sv8.len : Int) == (0:Int))
 true
 false)
 false)
 (ztL zaa kink fv3 sv8)))
def zhY (zaa:(Sl Gate)) (kink:Int) (fv3:Int) (sv8:(Sl Span)):Bool :=
  (cond (decide (kink < (0:Int)))
 true
 (cond (decide (kink > (1000000:Int)))
 true
 (ztM zaa kink fv3 sv8)))
theorem zJ0 (hs:zhY zaa kink fv3 sv8=true) (hk:K (e15 (zhX zaa kink fv3 sv8))) (zP9:zNs=zg zan sv8):z15 K [1,1,1,1,1,1,1] [] ⟨[(0,zS enc_55 3 zaa),(1,zI kink),(8,zP (.sl sv8.len 2 zNs)),(9,zI fv3)],[],[]⟩:=by subst zP9;exact zaI (by kernel_rfl) (zc hs hk (fun hs hk=>(zt hk (fun hk=>(zt hk (fun hk=>hk) (fun hk=>hk))) (fun hk=>hk))) (fun hs hk=>(zc hs hk (fun hs hk=>(zt hk (fun hk=>(zt hk (fun hk=>hk) (fun hk=>hk))) (fun hk=>hk))) (fun hs hk=>(zJZ hs hk rfl)))))
def zmk (zaa:(Sl Gate)) (kink:Int) (fv3:Int) (sv7:(Sl Span)) (ztJ:Bool):Bool :=
  (cond ztJ
 false
 (zhX zaa kink fv3 sv7))
def zml (zaa:(Sl Gate)) (kink:Int) (fv3:Int) (sv7:(Sl Span)) (ztJ:Bool):Bool :=
  (cond ztJ
 true
 (zhY zaa kink fv3 sv7))
theorem ztN (hs:zml zaa kink fv3 sv7 ztJ=true) (hk:K (e15 (zmk zaa kink fv3 sv7 ztJ))) (zQa:zNr=zg zan sv7):z15 K [1,1,1,1,1,1,0,1] [] ⟨[(0,zS enc_55 3 zaa),(1,zI kink),(8,zP (.sl sv7.len 2 zNr)),(9,zI fv3),(71,zB ztJ)],[],[]⟩:=by subst zQa;exact zaI (by kernel_rfl) (zc hs hk (fun hs hk=>hk) (fun hs hk=>(zJ0 hs hk rfl)))
def ztO (zaa:(Sl Gate)) (kink:Int) (lv2:(Sl Int)) (kv2:Int) (ev2:Int) (fv3:Int) (sv6:(Sl Span)) (xv6:(Sl Int)) (nv6:Int):Bool :=
  (cond (ev2 != (0:Int))
 (zmk zaa kink fv3 sv6 true)
 (cond (kv2 != nv6)
 (zmk zaa kink fv3 sv6 true)
 (zmk zaa kink fv3 sv6 ((s39 lv2 xv6) != (0:Int)))))
def ztP (zaa:(Sl Gate)) (kink:Int) (lv2:(Sl Int)) (kv2:Int) (ev2:Int) (fv3:Int) (sv6:(Sl Span)) (xv6:(Sl Int)) (nv6:Int):Bool :=
  (cond (ev2 != (0:Int))
 (zml zaa kink fv3 sv6 true)
 (cond (kv2 != nv6)
 (zml zaa kink fv3 sv6 true)
 (decide ((p39 lv2 xv6=true)) &&
 (zml zaa kink fv3 sv6 ((s39 lv2 xv6) != (0:Int))))))
theorem zJ1 (hs:ztP zaa kink lv2 kv2 ev2 fv3 sv6 xv6 nv6=true) (hk:K (e15 (ztO zaa kink lv2 kv2 ev2 fv3 sv6 xv6 nv6))) (zIB:zA8=zg zan sv6) (zQb:zNq=zg zal xv6):z15 K [1,1,1,1,1,1] [] ⟨[(0,zS enc_55 3 zaa),(1,zI kink),(5,zS zal 1 lv2),(6,zI kv2),(7,zI ev2),(8,zP (.sl sv6.len 2 zA8)),(9,zI fv3),(10,zP (.sl xv6.len 1 zNq)),(11,zI nv6)],[],[]⟩:=by subst zIB;subst zQb;exact zaI (by kernel_rfl) (zc hs hk (fun hs hk=>(ztN hs hk rfl)) (fun hs hk=>(zc hs hk (fun hs hk=>(ztN hs hk rfl)) (fun hs hk=>(zaE hs fun hc hs=>And.intro (And.intro (zE zal 1 lv2.get) (And.intro (zE zal 1 xv6.get) hc)) (ztN hs hk rfl))))))
def ztQ (zaa:(Sl Gate)) (kink:Int) (lv2:(Sl Int)) (kv2:Int) (ev2:Int) (fv3:Int) (sv5:(Sl Span)):Bool :=
  (ztO zaa kink lv2 kv2 ev2 fv3 sv5 ((s58 zaa).1) ((s58 zaa).2))
def ztR (zaa:(Sl Gate)) (kink:Int) (lv2:(Sl Int)) (kv2:Int) (ev2:Int) (fv3:Int) (sv5:(Sl Span)):Bool :=
  (decide ((p58 zaa=true)) &&
 (ztP zaa kink lv2 kv2 ev2 fv3 sv5 ((s58 zaa).1) ((s58 zaa).2)))
theorem zJ2 (hs:ztR zaa kink lv2 kv2 ev2 fv3 sv5=true) (hk:K (e15 (ztQ zaa kink lv2 kv2 ev2 fv3 sv5))) (zIE:zA7=zg zan sv5):z15 K [1,1,1,1,1] [] ⟨[(0,zS enc_55 3 zaa),(1,zI kink),(5,zS zal 1 lv2),(6,zI kv2),(7,zI ev2),(8,zP (.sl sv5.len 2 zA7)),(9,zI fv3)],[],[]⟩:=by subst zIE;exact zaI (by kernel_rfl) (zaE hs fun hc hs=>And.intro (And.intro (zE enc_55 3 zaa.get) hc) (zJ1 hs hk rfl rfl))
def zpf (zaa:(Sl Gate)) (kink:Int) (lv2:(Sl Int)) (kv2:Int) (ev2:Int) (fv3:Int) (sv4:(Sl Span)) (ztI:Bool):Bool :=
  (cond ztI
 (cond (ev2 == (2:Int))
 (cond (fv3 == (2:Int))
 (cond ((w64 ((lv2.len : Int) + (sv4.len : Int))) == (0:Int))
 (cond (kv2 == (0:Int))
 true
 false)
 false)
 false)
 false)
 (ztQ zaa kink lv2 kv2 ev2 fv3 sv4))
def zpg (zaa:(Sl Gate)) (kink:Int) (lv2:(Sl Int)) (kv2:Int) (ev2:Int) (fv3:Int) (sv4:(Sl Span)) (ztI:Bool):Bool :=
  (cond ztI
 true
 (ztR zaa kink lv2 kv2 ev2 fv3 sv4))
theorem zJ3 (hs:zpg zaa kink lv2 kv2 ev2 fv3 sv4 ztI=true) (hk:K (e15 (zpf zaa kink lv2 kv2 ev2 fv3 sv4 ztI))) (zIG:zA6=zg zan sv4):z15 K [1,1,1,1,0,1] [] ⟨[(0,zS enc_55 3 zaa),(1,zI kink),(5,zS zal 1 lv2),(6,zI kv2),(7,zI ev2),(8,zP (.sl sv4.len 2 zA6)),(9,zI fv3),(32,zB ztI)],[],[]⟩:=by subst zIG;exact zaI (by kernel_rfl) (zc hs hk (fun hs hk=>(zt hk (fun hk=>(zt hk (fun hk=>(zt hk (fun hk=>(zt hk (fun hk=>hk) (fun hk=>hk))) (fun hk=>hk))) (fun hk=>hk))) (fun hk=>hk))) (fun hs hk=>(zJ2 hs hk rfl)))
def zph (zaa:(Sl Gate)) (kink:Int) (lv2:(Sl Int)) (kv2:Int) (ev2:Int) (sv3:(Sl Span)) (fv3:Int):Bool :=
  (zpf zaa kink lv2 kv2 ev2 fv3 sv3 (!(s57 zaa)))
def zpi (zaa:(Sl Gate)) (kink:Int) (lv2:(Sl Int)) (kv2:Int) (ev2:Int) (sv3:(Sl Span)) (fv3:Int):Bool :=
  (decide ((p57 zaa=true)) &&
 (zpg zaa kink lv2 kv2 ev2 fv3 sv3 (!(s57 zaa))))
theorem zJ4 (hs:zpi zaa kink lv2 kv2 ev2 sv3 fv3=true) (hk:K (e15 (zph zaa kink lv2 kv2 ev2 sv3 fv3))) (zII:zA5=zg zan sv3):z15 K [1,1,1,1] [] ⟨[(0,zS enc_55 3 zaa),(1,zI kink),(5,zS zal 1 lv2),(6,zI kv2),(7,zI ev2),(8,zP (.sl sv3.len 2 zA5)),(9,zI fv3)],[],[]⟩:=by subst zII;exact zaI (by kernel_rfl) (zaE hs fun hc hs=>And.intro (And.intro (zE enc_55 3 zaa.get) hc) (zJ3 hs hk rfl))
def zpj (zaa:(Sl Gate)) (kink:Int) (lv2:(Sl Int)) (kv2:Int) (ev2:Int):Bool :=
  (zph zaa kink lv2 kv2 ev2 ((s56 zaa kink).1) ((s56 zaa kink).2))
def zpk (zaa:(Sl Gate)) (kink:Int) (lv2:(Sl Int)) (kv2:Int) (ev2:Int):Bool :=
  (decide ((p56 zaa kink=true)) &&
 (zpi zaa kink lv2 kv2 ev2 ((s56 zaa kink).1) ((s56 zaa kink).2)))
theorem zJ5 (hs:zpk zaa kink lv2 kv2 ev2=true) (hk:K (e15 (zpj zaa kink lv2 kv2 ev2))) (zQc:zNp=zg zal lv2):z15 K [1,1,1] [] ⟨[(0,zS enc_55 3 zaa),(1,zI kink),(5,zP (.sl lv2.len 1 zNp)),(6,zI kv2),(7,zI ev2)],[],[]⟩:=by subst zQc;exact zaI (by kernel_rfl) (zaE hs fun hc hs=>And.intro (And.intro (zE enc_55 3 zaa.get) hc) (zJ4 hs hk rfl))
def zmm (zaa:(Sl Gate)) (kink:Int):Bool :=
  (zpj zaa kink ((s55 zaa).1) ((s55 zaa).2.1) ((s55 zaa).2.2))
def zmn (zaa:(Sl Gate)) (kink:Int):Bool :=
  (decide ((p55 zaa=true)) &&
 (zpk zaa kink ((s55 zaa).1) ((s55 zaa).2.1) ((s55 zaa).2.2)))
theorem zJ6 (hs:zmn zaa kink=true) (hk:K (e15 (zmm zaa kink))):z15 K [1,1] [] ⟨[(0,zS enc_55 3 zaa),(1,zI kink)],[],[]⟩:=zaI (by kernel_rfl) (zaE hs fun hc hs=>And.intro (And.intro (zE enc_55 3 zaa.get) hc) (zJ5 hs hk rfl))
def zmo (zaa:(Sl Gate)) (kink:Int) (ztH:Bool):Bool :=
  (cond ztH
 true
 (zmm zaa kink))
def zmp (zaa:(Sl Gate)) (kink:Int) (ztH:Bool):Bool :=
  (cond ztH
 true
 (zmn zaa kink))
theorem zJ7 (hs:zmp zaa kink ztH=true) (hk:K (e15 (zmo zaa kink ztH))):z15 K [1,0,1] [] ⟨[(0,zS enc_55 3 zaa),(1,zI kink),(16,zB ztH)],[],[]⟩:=zaI (by kernel_rfl) (zc hs hk (fun hs hk=>hk) (fun hs hk=>(zJ6 hs hk)))
def s15 (zaa:(Sl Gate)) (kink:Int):Bool :=
  (zmo zaa kink (!(s54 zaa (3000:Int))))
def p15 (zaa:(Sl Gate)) (kink:Int):Bool :=
  (decide ((p54 zaa (3000:Int)=true)) &&
 (zmp zaa kink (!(s54 zaa (3000:Int)))))
end
theorem q15 (zaa:(Sl Gate)) (kink:Int) (K:List PA→Prop) (hs:p15 zaa kink=true) (hk:K (e15 (s15 zaa kink))):vcFun Try.prog G15 zJY 15 [.one (.sl zaa.len 3 (fun i=>enc_55 (zaa.get i))),.one (.int .i64 kink)] K :=
  zaI (by kernel_rfl) (zaE hs fun hc hs=>And.intro (And.intro (zE enc_55 3 zaa.get) hc) (zJ7 hs hk))
def zNw : List PA → COut
  | [.one (.sl a0_n a0_s a0_g),.one (.int .i64 a1)]=>.det (IsE enc_55 3 a0_s a0_g∧p15 (⟨a0_n,zaf a0_g⟩:(Sl Gate)) a1=true) [.one (.bool (s15 (⟨a0_n,zaf a0_g⟩:(Sl Gate)) a1))]
  | _=>.no
theorem zNx:zaj Try.prog 15:=⟨_,rfl,rfl,by kernel_rfl⟩
theorem ok15:Ok Try.prog 15 zNw:=zaP zP7 zNx fun args K h=>by
  unfold zNw at h
  split at h
  · rename_i a0_n a0_s a0_g a1
    obtain ⟨⟨⟨rfl,a0_f,rfl⟩,hs⟩,hk⟩:=h
    try rw [zae a0_f] at hs
    try rw [zae a0_f] at hk
    exact ⟨(fun _ _=>[]),(fun _=>false),zJY,q15 (⟨a0_n,a0_f⟩:(Sl Gate)) a1 K hs hk⟩
  · exact h.elim
end Go.Proofs
namespace Go.Proofs
open Go Go.Pm
set_option maxRecDepth 100000
set_option linter.unusedVariables false
attribute [local irreducible] Go.Pm.vcFun Go.Pm.vc Go.Pm.vcIter
theorem C_3:Try.prog.cellsOf 3=1:=by kernel_rfl
theorem zQ7:Try.prog.cellsOf 55=3:=by kernel_rfl
abbrev wf_3 (x:Int):Prop:=wfI x
theorem rd_3 {H:Type} {en:TypeId×Value→H} {w:World} {sp:Nat→Bool} {held:Bool} : Rd H en Try.prog w sp held 3 zal wf_3:=zLb Try.underlying3
def zNy (x:Gate):Prop:=wf_3 x.Z∧wf_3 x.Low∧wf_3 x.High
theorem zQd {H:Type} {en:TypeId×Value→H} {w:World} {sp:Nat→Bool} {held:Bool} : Rd H en Try.prog w sp held 55 enc_55 zNy:=by
  intro fuel cs x h
  obtain ⟨hl,hf⟩:=zxT Try.underlying55 h
  rw [zQ7] at hl
  obtain ⟨n0,y0,g0⟩:=hf 0 _ rfl
  have g0:DataW.trod en Try.prog w 0 sp held n0 3 ((cs.drop 0).take (Try.prog.cellsOf 3))=some y0:=g0
  rw [C_3] at g0
  obtain ⟨a0,r0,w0⟩:=rd_3 _ _ _ g0
  obtain ⟨n1,y1,g1⟩:=hf 1 _ rfl
  have g1:DataW.trod en Try.prog w 0 sp held n1 3 ((cs.drop 1).take (Try.prog.cellsOf 3))=some y1:=g1
  rw [C_3] at g1
  obtain ⟨a1,r1,w1⟩:=rd_3 _ _ _ g1
  obtain ⟨n2,y2,g2⟩:=hf 2 _ rfl
  have g2:DataW.trod en Try.prog w 0 sp held n2 3 ((cs.drop 2).take (Try.prog.cellsOf 3))=some y2:=g2
  rw [C_3] at g2
  obtain ⟨a2,r2,w2⟩:=rd_3 _ _ _ g2
  have z:cs.drop 3=[]:=List.drop_eq_nil_of_le (by omega)
  have R:=(r0.append (r1.append (r2.append (show RL (Rep (H0 w)) [] (cs.drop 3) by rw [z];exact zhi))))
  rw [← (show cs.drop 2=(cs.drop 2).take 1 ++ cs.drop 3 from zi2 cs 2 1)] at R
  rw [← (show cs.drop 1=(cs.drop 1).take 1 ++ cs.drop 2 from zi2 cs 1 1)] at R
  rw [← (show cs.drop 0=(cs.drop 0).take 1 ++ cs.drop 1 from zi2 cs 0 1)] at R
  exact ⟨⟨a0,a1,a2⟩,R,⟨w0,w1,w2⟩⟩
def wf_22 (x:(Sl Gate)):Prop:=x.len≤9223372036854775807∧∀ i,i < x.len→zNy (x.get i)
theorem rd_22 {H:Type} {en:TypeId×Value→H} {w:World} {sp:Nat→Bool} {held:Bool} : Rd H en Try.prog w sp held 22 zLd wf_22:=zC6 Try.underlying22 zQ7 (by decide) (fun _=>rfl) zQd
def zD1 (x:(Sl Int)):Prop:=x.len≤9223372036854775807∧∀ i,i < x.len→wf_3 (x.get i)
end Go.Proofs
namespace Go.Proofs
open Go Go.Pm
set_option maxRecDepth 100000
set_option linter.unusedVariables false
attribute [local irreducible] Go.Pm.vcFun Go.Pm.vc Go.Pm.vcIter
section
variable {K:List PA→Prop} {l_a0:(Sl Gate)} {iv0:Int} {X0:St→Prop} {P0:Int→Bool} {S0:Int→Bool} {iv1:Int} {zSK:Bool}
end
section
variable {K:List PA→Prop} {heights:(Sl Int)} {places:(Sl Int)} {zcX:Bool} {zcR:Int} {X2:St→Prop} {P2:Int→Bool} {S2:Int→(Int×Int)} {zD2:Int} {zD3:Bool} {zaJ:Int} {zbS:Int} {X5:St→Prop} {P5:Int→Int→Bool} {S5:Int→Int→(Int×Int)}
def zmq (heights:(Sl Int)) (places:(Sl Int)) (S5:Int→Int→(Int×Int)) (zaJ:Int) (zbS:Int):(Int×Int) :=
  (cond (decide (zbS < (w64 ((heights.len : Int) - (2:Int)))))
 (S5 (if (s85 (heights.get zbS.toNat) (heights.get ((w64 (zbS+(1:Int))).toNat)) (heights.get ((w64 (zbS+(2:Int))).toNat)) (places.get zbS.toNat) (places.get ((w64 (zbS+(1:Int))).toNat)) (places.get ((w64 (zbS+(2:Int))).toNat))) > zaJ then (s85 (heights.get zbS.toNat) (heights.get ((w64 (zbS+(1:Int))).toNat)) (heights.get ((w64 (zbS+(2:Int))).toNat)) (places.get zbS.toNat) (places.get ((w64 (zbS+(1:Int))).toNat)) (places.get ((w64 (zbS+(2:Int))).toNat))) else zaJ) (w64 (zbS+(1:Int))))
 (zaJ,(0:Int)))
def zmr (heights:(Sl Int)) (places:(Sl Int)) (P5:Int→Int→Bool) (zaJ:Int) (zbS:Int):Bool :=
  (cond (decide (zbS < (w64 ((heights.len : Int) - (2:Int)))))
 (decide ((0≤zbS∧zbS < (heights.len:Int))) &&
 (decide ((0≤(w64 (zbS+(1:Int)))∧(w64 (zbS+(1:Int))) < (heights.len:Int))) &&
 (decide ((0≤(w64 (zbS+(2:Int)))∧(w64 (zbS+(2:Int))) < (heights.len:Int))) &&
 (decide ((0≤zbS∧zbS < (places.len:Int))) &&
 (decide ((0≤(w64 (zbS+(1:Int)))∧(w64 (zbS+(1:Int))) < (places.len:Int))) &&
 (decide ((0≤(w64 (zbS+(2:Int)))∧(w64 (zbS+(2:Int))) < (places.len:Int))) &&
 (decide ((p85 (heights.get zbS.toNat) (heights.get ((w64 (zbS+(1:Int))).toNat)) (heights.get ((w64 (zbS+(2:Int))).toNat)) (places.get zbS.toNat) (places.get ((w64 (zbS+(1:Int))).toNat)) (places.get ((w64 (zbS+(2:Int))).toNat))=true)) &&
 (P5 (if (s85 (heights.get zbS.toNat) (heights.get ((w64 (zbS+(1:Int))).toNat)) (heights.get ((w64 (zbS+(2:Int))).toNat)) (places.get zbS.toNat) (places.get ((w64 (zbS+(1:Int))).toNat)) (places.get ((w64 (zbS+(2:Int))).toNat))) > zaJ then (s85 (heights.get zbS.toNat) (heights.get ((w64 (zbS+(1:Int))).toNat)) (heights.get ((w64 (zbS+(2:Int))).toNat)) (places.get zbS.toNat) (places.get ((w64 (zbS+(1:Int))).toNat)) (places.get ((w64 (zbS+(2:Int))).toNat))) else zaJ) (w64 (zbS+(1:Int)))))))))))
 true)
def zms (heights:(Sl Int)) (places:(Sl Int)):Nat→Int→Int→(Int×Int):=lpO (fun _ _=>default) (zmq heights places)
def zmt (heights:(Sl Int)) (places:(Sl Int)):Nat→Int→Int→Bool:=lpO (fun _ _=>false) (zmr heights places)
def zJ8 (heights:(Sl Int)) (places:(Sl Int)) (zaJ:Int) (zbS:Int):(Int×Int):=zms heights places Fuel zaJ zbS
def zJ9 (heights:(Sl Int)) (places:(Sl Int)) (zaJ:Int) (zbS:Int):Bool:=zmt heights places Fuel zaJ zbS
def ztS (heights:(Sl Int)) (places:(Sl Int)):(Int×Int) :=
  (zJ8 heights places (0:Int) (0:Int))
def ztT (heights:(Sl Int)) (places:(Sl Int)):Bool :=
  (zJ9 heights places (0:Int) (0:Int))
def zmu (S2:Int→(Int×Int)) (heights:(Sl Int)) (places:(Sl Int)) (zD2:Int) (zD3:Bool):(Int×Int) :=
  (cond zD3
 ((0:Int),(2:Int))
 (S2 (w64 (zD2+(1:Int)))))
def zmv (P2:Int→Bool) (heights:(Sl Int)) (places:(Sl Int)) (zD2:Int) (zD3:Bool):Bool :=
  (cond zD3
 true
 (P2 (w64 (zD2+(1:Int)))))
def zmw (heights:(Sl Int)) (places:(Sl Int)) (S2:Int→(Int×Int)) (zcR:Int):(Int×Int) :=
  (cond (decide (zcR < (heights.len : Int)))
 (cond (!(s74 (heights.get zcR.toNat) (0:Int) (100000:Int)))
 (zmu S2 heights places zcR true)
 (cond (decide (zcR > (0:Int)))
 (cond (decide ((heights.get zcR.toNat) ≤ (heights.get ((w64 (zcR - (1:Int))).toNat))))
 (zmu S2 heights places zcR true)
 (zmu S2 heights places zcR (!(s74 (places.get zcR.toNat) (-1000000:Int) (1000000:Int)))))
 (zmu S2 heights places zcR (!(s74 (places.get zcR.toNat) (-1000000:Int) (1000000:Int))))))
 (ztS heights places))
def zmx (heights:(Sl Int)) (places:(Sl Int)) (P2:Int→Bool) (zcR:Int):Bool :=
  (cond (decide (zcR < (heights.len : Int)))
 (decide ((0≤zcR∧zcR < (heights.len:Int))) &&
 (cond (!(s74 (heights.get zcR.toNat) (0:Int) (100000:Int)))
 (zmv P2 heights places zcR true)
 (cond (decide (zcR > (0:Int)))
 (decide ((0≤(w64 (zcR - (1:Int)))∧(w64 (zcR - (1:Int))) < (heights.len:Int))) &&
 (cond (decide ((heights.get zcR.toNat) ≤ (heights.get ((w64 (zcR - (1:Int))).toNat))))
 (zmv P2 heights places zcR true)
 (decide ((0≤zcR∧zcR < (places.len:Int))) &&
 (zmv P2 heights places zcR (!(s74 (places.get zcR.toNat) (-1000000:Int) (1000000:Int)))))))
 (decide ((0≤zcR∧zcR < (places.len:Int))) &&
 (zmv P2 heights places zcR (!(s74 (places.get zcR.toNat) (-1000000:Int) (1000000:Int))))))))
 (ztT heights places))
def zmy (heights:(Sl Int)) (places:(Sl Int)):Nat→Int→(Int×Int):=lpO (fun _=>default) (zmw heights places)
def zmz (heights:(Sl Int)) (places:(Sl Int)):Nat→Int→Bool:=lpO (fun _=>false) (zmx heights places)
def zKa (heights:(Sl Int)) (places:(Sl Int)) (zcR:Int):(Int×Int):=zmy heights places Fuel zcR
def zKb (heights:(Sl Int)) (places:(Sl Int)) (zcR:Int):Bool:=zmz heights places Fuel zcR
def zKc (heights:(Sl Int)) (places:(Sl Int)):(Int×Int) :=
  (zKa heights places (0:Int))
def zKd (heights:(Sl Int)) (places:(Sl Int)):Bool :=
  (zKb heights places (0:Int))
def ztU (heights:(Sl Int)) (places:(Sl Int)) (zcX:Bool):(Int×Int) :=
  (cond zcX
 ((0:Int),(2:Int))
 (zKc heights places))
def ztV (heights:(Sl Int)) (places:(Sl Int)) (zcX:Bool):Bool :=
  (cond zcX
 true
 (zKd heights places))
def s44 (heights:(Sl Int)) (places:(Sl Int)):(Int×Int) :=
  (cond (!(s74 (heights.len : Int) (2:Int) (8:Int)))
 (ztU heights places true)
 (ztU heights places ((places.len:Int) != (heights.len:Int))))
def p44 (heights:(Sl Int)) (places:(Sl Int)):Bool :=
  (cond (!(s74 (heights.len : Int) (2:Int) (8:Int)))
 (ztV heights places true)
 (ztV heights places ((places.len:Int) != (heights.len:Int))))
end
end Go.Proofs
namespace Go.Pm
open Go
theorem zcd {i n:Nat} (h:i < n) (hn:n≤9223372036854775807):w64 ((i:Int)+(1:Int))=((i+1:Nat):Int):=by
 rw [za2 (by omega) (by omega)];omega
theorem ztW {β : Type} {good : Nat → Bool} {bad fin : β} {finP : Bool} {n : Nat} {lpS : Nat → Int → β} {lpP : Nat → Int → Bool}
    (hS:∀ (k i:Nat),i < n→lpS (k+1) (i:Int)=cond (good i) (lpS k (w64 ((i:Int)+(1:Int)))) bad)
    (hE:∀ k,lpS (k+1) (n:Int)=fin)
    (hP:∀ (k i:Nat),i < n→lpP (k+1) (i:Int)=cond (good i) (lpP k (w64 ((i:Int)+(1:Int)))) true)
    (hPE:∀ k,lpP (k+1) (n:Int)=finP) (hn:n≤9223372036854775807) :
    ((∀ i,i < n→good i=true)→lpP Fuel 0=finP∧lpS Fuel 0=fin)∧((¬ ∀ i,i < n→good i=true)→lpP Fuel 0=true∧lpS Fuel 0=bad):=by
  have key:∀ (m k i:Nat),i+m=n→m < k→((∀ j,i≤j→j < n→good j=true)→lpP k (i:Int)=finP∧lpS k (i:Int)=fin)∧((¬ ∀ j,i≤j→j < n→good j=true)→lpP k (i:Int)=true∧lpS k (i:Int)=bad):=by
    intro m
    induction m with
    | zero =>
      intro k i hi hk
      obtain ⟨k,rfl⟩:∃ k',k=k'+1:=⟨k - 1,by omega⟩
      have:i=n:=by omega
      subst this
      rw [hE,hPE]
      exact ⟨fun _=>⟨rfl,rfl⟩,fun h=>absurd (fun j h1 h2=>absurd h2 (by omega)) h⟩
    | succ m ih =>
      intro k i hi hk
      obtain ⟨k,rfl⟩:∃ k',k=k'+1:=⟨k - 1,by omega⟩
      rw [hS k i (by omega),hP k i (by omega),zcd (n:=n) (by omega) hn]
      obtain ⟨h1,h2⟩:=ih k (i+1) (by omega) (by omega)
      cases hg:good i
      · refine ⟨fun h => ?_, fun _ => ⟨rfl, rfl⟩⟩
        have:=h i (Nat.le_refl _) (by omega)
        rw [hg] at this;cases this
      · refine ⟨fun h => h1 fun j a b => h j (by omega) b, fun h => h2 fun h' => h fun j a b => ?_⟩
        by_cases hji:j=i
        · rw [hji];exact hg
        · exact h' j (by omega) b
  have:=key n Fuel 0 (by omega) (by simp only [Fuel];omega)
  simpa using this
def zd5 {σ : Type} (step : Nat → σ → σ) : Nat → Nat → σ → σ
  | 0,_,s=>s
  | m+1,i,s=>zd5 step m (i+1) (step i s)
theorem zq5 {σ β : Type} {step : Nat → σ → σ} {E : σ → β} {EP : σ → Bool} {Inv : Nat → σ → Prop} {a n : Nat} {lpS : Nat → σ → Int → β} {lpP : Nat → σ → Int → Bool}
    (hS:∀ (k i:Nat) (s:σ),a≤i→i < n→Inv i s→lpS (k+1) s (i:Int)=lpS k (step i s) (w64 ((i:Int)+(1:Int))))
    (hE:∀ k s,lpS (k+1) s (n:Int)=E s)
    (hP:∀ (k i:Nat) (s:σ),a≤i→i < n→Inv i s→lpP (k+1) s (i:Int)=lpP k (step i s) (w64 ((i:Int)+(1:Int))))
    (hPE:∀ k s,lpP (k+1) s (n:Int)=EP s)
    (hI:∀ i s,a≤i→i < n→Inv i s→Inv (i+1) (step i s)) (ha:a≤n) (hn:n≤9223372036854775807) (s:σ) (h0:Inv a s) :
    lpP Fuel s (a:Int)=EP (zd5 step (n - a) a s)∧lpS Fuel s (a:Int)=E (zd5 step (n - a) a s):=by
  have key:∀ (m k i:Nat) (s:σ),a≤i→i+m=n→m < k→Inv i s→lpP k s (i:Int)=EP (zd5 step m i s)∧lpS k s (i:Int)=E (zd5 step m i s):=by
    intro m
    induction m with
    | zero =>
      intro k i s h1 hi hk _
      obtain ⟨k,rfl⟩:∃ k',k=k'+1:=⟨k - 1,by omega⟩
      have:i=n:=by omega
      subst this
      rw [hE,hPE]
      exact ⟨rfl,rfl⟩
    | succ m ih =>
      intro k i s h1 hi hk hs
      obtain ⟨k,rfl⟩:∃ k',k=k'+1:=⟨k - 1,by omega⟩
      rw [hS k i s h1 (by omega) hs,hP k i s h1 (by omega) hs,zcd (n:=n) (by omega) hn]
      exact ih k (i+1) (step i s) (by omega) (by omega) (by omega) (hI i s h1 (by omega) hs)
  exact key (n - a) Fuel a s (Nat.le_refl _) (by omega) (by simp only [Fuel];omega) h0
theorem zfL {σ:Type} {f g:Nat→σ→σ} {d:Nat} (h:∀ i s,f i s=g (i+d) s) (m i:Nat) (s:σ):zd5 f m i s=zd5 g m (i+d) s:=by
 induction m generalizing i s with
 | zero=>rfl
 | succ m ih=>show zd5 f m (i+1) (f i s)=zd5 g m (i+d+1) (g (i+d) s);rw [h,ih,Nat.add_right_comm]
end Go.Pm
namespace Go.Proofs
open Go Go.Pm
set_option maxRecDepth 100000
theorem zmA (n a b:Int):s70 n a b=decide (a≤n∧n≤b):=by
 unfold s70;by_cases h:n ≥ a
 ·rw [decide_eq_true h,cond_true];exact decide_eq_decide.2 ⟨fun k=>⟨h,k⟩,fun k=>k.2⟩
 ·rw [decide_eq_false h,cond_false];exact (decide_eq_false fun k=>h k.1).symm
theorem zg5 (n a b:Int):s74 n a b=decide (a≤n∧n≤b):=zmA n a b
def ze8 (g:Gate):Prop:=(0≤g.Z∧g.Z≤100000)∧-1000000≤g.Low∧g.Low≤g.High∧g.High≤1000000
def zKe (l:Sl Gate):Prop:=(∀ i,i < l.len→ze8 (l.get i))∧1≤l.len∧l.len≤24
theorem zgT (a b:Bool):cond a b false=(a && b):=by cases a <;> rfl
theorem zFl (g:Gate):s87 g=true↔ze8 g:=by
 unfold s87 ze8
 rw [zg5,zgT,zgT,zgT,Bool.and_eq_true,Bool.and_eq_true,Bool.and_eq_true,decide_eq_true_eq,decide_eq_true_eq,decide_eq_true_eq,decide_eq_true_eq]
theorem zFm (g:Gate):s49 g=true↔ze8 g:=by
 unfold s49 ze8
 rw [zmA,zmA,zgT,zgT,Bool.and_eq_true,Bool.and_eq_true,decide_eq_true_eq,decide_eq_true_eq,decide_eq_true_eq]
 omega
theorem zFn (l:Sl Gate) (hn:l.len≤9223372036854775807):p64 l=true∧(s64 l=true↔zKe l):=by
  have := zn6 (good := fun i => s87 (l.get i)) (fin := s74 (l.len : Int) 1 24) (n := l.len) (lpS := zi9 l) (lpP := zja l)
    (fun k i hi=>by
      show zi7 l (zi9 l k) (i:Int)=_
      generalize zi9 l k=S
      unfold zi7 zr4
      rw [decide_eq_true (show (i:Int) < (l.len:Int) by omega),cond_true,Int.toNat_natCast]
      cases s87 (l.get i) <;> rfl)
    (fun k=>by
      show zi7 l (zi9 l k) (l.len:Int)=_
      unfold zi7
      rw [decide_eq_false (show ¬ (l.len:Int) < (l.len:Int) by omega),cond_false])
    (fun k i hi=>by
      show zi8 l (zja l k) (i:Int)=_
      generalize zja l k=S
      unfold zi8 zr5
      rw [decide_eq_true (show (i:Int) < (l.len:Int) by omega),cond_true,Int.toNat_natCast,decide_eq_true (show 0≤(i:Int)∧(i:Int) < (l.len:Int) by omega),Bool.true_and]
      cases s87 (l.get i) <;> rfl)
    (fun k=>by
      show zi8 l (zja l k) (l.len:Int)=_
      unfold zi8
      rw [decide_eq_false (show ¬ (l.len:Int) < (l.len:Int) by omega),cond_false])
    hn
  refine ⟨this.1,this.2.trans ?_⟩
  rw [zg5,decide_eq_true_eq]
  exact ⟨fun k=>⟨fun i hi=>(zFl _).1 (k.1 i hi),by omega,by omega⟩,fun k=>⟨fun i hi=>(zFl _).2 (k.1 i hi),by have:=k.2;omega⟩⟩
def SEq {α:Type} (a b:Sl α):Prop:=a.len=b.len∧∀ i,i < a.len→a.get i=b.get i
theorem zD4 (a b:Sl Int) (h:SEq a b) (hn:a.len≤9223372036854775807):p39 a b=true∧s39 a b=0:=by
  obtain ⟨h1,h2⟩:=h
  have e := ztW (good := fun _ => true) (bad := (0:Int)) (fin := 0) (finP := true) (n := a.len) (lpS := zi5 a b) (lpP := zi6 a b)
    (fun k i hi=>by
      show zi3 a b (zi5 a b k) (i:Int)=_
      generalize zi5 a b k=S
      unfold zi3
      rw [← h1,decide_eq_true (show (i:Int) < (a.len:Int) by omega),cond_true,cond_true,Int.toNat_natCast,h2 i hi,decide_eq_false (show ¬ b.get i < b.get i by omega)]
      rfl)
    (fun k=>by
      show zi3 a b (zi5 a b k) (a.len:Int)=_
      unfold zi3 zn7
      rw [← h1,decide_eq_false (show ¬ (a.len:Int) < (a.len:Int) by omega)]
      rfl)
    (fun k i hi=>by
      show zi4 a b (zi6 a b k) (i:Int)=_
      generalize zi6 a b k=S
      unfold zi4
      rw [← h1,decide_eq_true (show (i:Int) < (a.len:Int) by omega),decide_eq_true (show 0≤(i:Int)∧(i:Int) < (a.len:Int) by omega),cond_true,cond_true,Int.toNat_natCast,h2 i hi,decide_eq_false (show ¬ b.get i < b.get i by omega)]
      rfl)
    (fun k=>by
      show zi4 a b (zi6 a b k) (a.len:Int)=_
      unfold zi4
      rw [decide_eq_false (show ¬ (a.len:Int) < (a.len:Int) by omega)]
      rfl)
    hn
  exact e.1 fun _ _=>rfl
end Go.Proofs
namespace Go.Proofs
open Go Go.Pm
set_option maxRecDepth 100000
def inc (h:Sl Int) (i:Nat):Bool:=decide ((0≤h.get i∧h.get i≤100000)∧(0 < i→h.get (i - 1) < h.get i))
def inw (p:Sl Int) (i:Nat):Bool:=decide (-1000000≤p.get i∧p.get i≤1000000)
def HOK (h:Sl Int):Prop:=(∀ i,i < h.len→inc h i=true)∧2≤h.len∧h.len≤8
theorem zjV {i:Nat} (h:0 < i) (hn:i≤9223372036854775807):w64 ((i:Int) - (1:Int))=((i - 1:Nat):Int):=by
 rw [za2 (by omega) (by omega)];omega
theorem zkA {α : Type} (h : Sl Int) (i : Nat) (hi : i < h.len) (hn : h.len ≤ 9223372036854775807) (a b : α) :
  (cond (!(s70 (h.get i) (0:Int) (100000:Int))) b (cond (decide ((i:Int) > (0:Int))) (cond (decide ((h.get i)≤(h.get ((w64 ((i:Int) - (1:Int))).toNat)))) b a) a))=cond (inc h i) a b:=by
 rw [zmA]
 by_cases h1:0≤h.get i∧h.get i≤100000
 ·rw [decide_eq_true h1]
  by_cases h2:0 < i
  ·rw [decide_eq_true (show (i : Int) > 0 by omega), zjV h2 (by omega), Int.toNat_natCast]
   by_cases h3:h.get i≤h.get (i - 1)
   ·rw [decide_eq_true h3,show inc h i=false from decide_eq_false fun k=>absurd (k.2 h2) (by omega)];rfl
   ·rw [decide_eq_false h3,show inc h i=true from decide_eq_true ⟨h1,fun _=>by omega⟩];rfl
  ·rw [decide_eq_false (show ¬ (i:Int) > 0 by omega),show inc h i=true from decide_eq_true ⟨h1,fun k=>absurd k h2⟩];rfl
 ·rw [decide_eq_false h1,show inc h i=false from decide_eq_false fun k=>h1 k.1];rfl
theorem zNz (h:Sl Int) (w:zD1 h):p45 h=true∧(s45 h=true↔HOK h):=by
  have := zn6 (good := inc h) (fin := s70 (h.len : Int) 2 8) (n := h.len) (lpS := zjz h) (lpP := zjA h)
    (fun k i hi=>by
      show zjx h (zjz h k) (i:Int)=_
      generalize zjz h k=S
      unfold zjx zmd
      rw [decide_eq_true (show (i:Int) < (h.len:Int) by omega),cond_true,Int.toNat_natCast,← zkA h i hi w.1]
      cases s70 (h.get i) 0 100000 <;> cases decide ((i:Int) > 0) <;> rfl)
    (fun k=>by
      show zjx h (zjz h k) (h.len:Int)=_
      unfold zjx
      rw [decide_eq_false (show ¬ (h.len:Int) < (h.len:Int) by omega),cond_false])
    (fun k i hi=>by
      show zjy h (zjA h k) (i:Int)=_
      generalize zjA h k=S
      unfold zjy zme
      have w1:=w.1
      rw [decide_eq_true (show (i:Int) < (h.len:Int) by omega),cond_true,Int.toNat_natCast,← zkA h i hi w.1,decide_eq_true (show 0≤(i:Int)∧(i:Int) < (h.len:Int) by omega),Bool.true_and,Bool.true_and]
      by_cases h0:0 < i
      · rw [zjV h0 (by omega), Int.toNat_natCast, decide_eq_true (show 0 ≤ ((i - 1 : Nat) : Int) ∧ ((i - 1 : Nat) : Int) < (h.len : Int) by omega), Bool.true_and]
        cases s70 (h.get i) 0 100000 <;> cases decide ((i:Int) > 0) <;> rfl
      · rw [decide_eq_false (show ¬ (i : Int) > 0 by omega)]
        cases s70 (h.get i) 0 100000 <;> rfl)
    (fun k=>by
      show zjy h (zjA h k) (h.len:Int)=_
      unfold zjy
      rw [decide_eq_false (show ¬ (h.len:Int) < (h.len:Int) by omega),cond_false])
    w.1
  refine ⟨this.1,this.2.trans ?_⟩
  rw [zmA,decide_eq_true_eq]
  exact ⟨fun k=>⟨k.1,by omega,by omega⟩,fun k=>⟨k.1,by have:=k.2;omega⟩⟩
theorem zFo {u v w p q r:Int} (hu:0≤u) (huv:u < v) (hvw:v < w) (hw:w≤100000):p85 u v w p q r=true:=by
 unfold p85
 have h1:w64 (v - u)=v - u:=za2 (by omega) (by omega)
 have h2:w64 (w - v)=w - v:=za2 (by omega) (by omega)
 have h3:0 < (v - u) * (w - v):=Int.mul_pos (by omega) (by omega)
 have h4:(v - u) * (w - v)≤100000 * 100000:=Int.mul_le_mul (by omega) (by omega) (by omega) (by omega)
 rw [h1,h2,za2 (by omega) (by omega),decide_eq_true (by omega)];rfl
def kk (h p:Sl Int) (i:Nat) (k:Int):Int :=
 let t:=s85 (h.get i) (h.get (i+1)) (h.get (i+2)) (p.get i) (p.get (i+1)) (p.get (i+2))
 if t > k then t else k
theorem zFp {h:Sl Int} {i:Nat} (H:HOK h) (hi:i+1 < h.len):h.get i < h.get (i+1):=by
 have:=of_decide_eq_true (H.1 (i+1) hi)
 exact this.2 (by omega)
theorem zBS {h:Sl Int} {i:Nat} (H:HOK h) (hi:i < h.len):0≤h.get i∧h.get i≤100000:=(of_decide_eq_true (H.1 i hi)).1
theorem zFq {h:Sl Int} {i:Nat} (H:HOK h) (hi:i+2 < h.len) (p q r:Int):p85 (h.get i) (h.get (i+1)) (h.get (i+2)) p q r=true :=
 zFo (zBS H (by omega)).1 (zFp H (by omega)) (zFp H (by omega)) (zBS H hi).2
theorem zNA (h p:Sl Int) (H:HOK h) (hp:p.len=h.len):p46 h p=true∧s46 h p=zd5 (kk h p) (h.len - 2) 0 0:=by
  have H3:=H.2
  have := zq5 (σ := Int) (step := fun i k => kk h p (i - 2) k) (E := id) (EP := fun _ => true) (Inv := fun _ _ => True) (a := 2) (n := h.len) (lpS := zjJ h p) (lpP := zjK h p)
    (fun k i s h1 hi _=>by
      show zjH h p (zjJ h p k) s (i:Int)=_
      generalize zjJ h p k=S
      unfold zjH
      obtain ⟨i,rfl⟩:∃ j,i=j+2:=⟨i - 2,by omega⟩
      have e2:w64 (((i+2:Nat):Int) - 2)=(i:Int):=by rw [za2 (by omega) (by omega)];omega
      have e1:w64 (((i+2:Nat):Int) - 1)=((i+1:Nat):Int):=by rw [za2 (by omega) (by omega)];omega
      rw [decide_eq_true (show ((i+2:Nat):Int) < (h.len:Int) by omega),cond_true,e2,e1,Int.toNat_natCast,Int.toNat_natCast,Int.toNat_natCast]
      rfl)
    (fun k s=>by
      show zjH h p (zjJ h p k) s (h.len:Int)=_
      unfold zjH
      rw [decide_eq_false (show ¬ (h.len:Int) < (h.len:Int) by omega),cond_false];rfl)
    (fun k i s h1 hi _=>by
      show zjI h p (zjK h p k) s (i:Int)=_
      generalize zjK h p k=S
      unfold zjI
      obtain ⟨i,rfl⟩:∃ j,i=j+2:=⟨i - 2,by omega⟩
      have e2:w64 (((i+2:Nat):Int) - 2)=(i:Int):=by rw [za2 (by omega) (by omega)];omega
      have e1:w64 (((i+2:Nat):Int) - 1)=((i+1:Nat):Int):=by rw [za2 (by omega) (by omega)];omega
      have p86:p86 (h.get i) (h.get (i+1)) (h.get (i+2)) (p.get i) (p.get (i+1)) (p.get (i+2))=true:=zFq H hi (p.get i) (p.get (i+1)) (p.get (i+2))
      rw [decide_eq_true (show ((i+2:Nat):Int) < (h.len:Int) by omega),cond_true,e2,e1,Int.toNat_natCast,Int.toNat_natCast,Int.toNat_natCast,hp,p86,
        decide_eq_true (show 0≤(i:Int)∧(i:Int) < (h.len:Int) by omega),decide_eq_true (show 0≤((i+1:Nat):Int)∧((i+1:Nat):Int) < (h.len:Int) by omega),
        decide_eq_true (show 0≤((i+2:Nat):Int)∧((i+2:Nat):Int) < (h.len:Int) by omega)]
      rfl)
    (fun k s=>by
      show zjI h p (zjK h p k) s (h.len:Int)=_
      unfold zjI
      rw [decide_eq_false (show ¬ (h.len:Int) < (h.len:Int) by omega),cond_false])
    (fun _ _ _ _ _=>trivial) H3.1 (by omega) 0 trivial
  refine ⟨this.1,this.2.trans ?_⟩
  exact (zfL (f:=kk h p) (g:=fun i k=>kk h p (i - 2) k) (d:=2) (fun i s=>by show _=kk h p (i+2 - 2) s;rw [Nat.add_sub_cancel]) (h.len - 2) 0 0).symm
theorem zNB (h p:Sl Int) (H:HOK h) (hp:p.len=h.len):ztT h p=true∧ztS h p=(zd5 (kk h p) (h.len - 2) 0 0,0):=by
  have H3:=H.2
  have e0:w64 ((h.len:Int) - 2)=((h.len - 2:Nat):Int):=by rw [za2 (by omega) (by omega)];omega
  have := zq5 (σ := Int) (step := kk h p) (E := fun k => (k, (0 : Int))) (EP := fun _ => true) (Inv := fun _ _ => True) (a := 0) (n := h.len - 2) (lpS := zms h p) (lpP := zmt h p)
    (fun k i s h1 hi _=>by
      show zmq h p (zms h p k) s (i:Int)=_
      generalize zms h p k=S
      unfold zmq
      have e2:w64 ((i:Int)+2)=((i+2:Nat):Int):=by rw [za2 (by omega) (by omega)];omega
      have e1:w64 ((i:Int)+1)=((i+1:Nat):Int):=by rw [za2 (by omega) (by omega)];omega
      rw [e0,decide_eq_true (show (i:Int) < ((h.len - 2:Nat):Int) by omega),cond_true,e2,e1,Int.toNat_natCast,Int.toNat_natCast,Int.toNat_natCast]
      rfl)
    (fun k s=>by
      show zmq h p (zms h p k) s ((h.len - 2:Nat):Int)=_
      unfold zmq
      rw [e0,decide_eq_false (show ¬ ((h.len - 2:Nat):Int) < ((h.len - 2:Nat):Int) by omega),cond_false])
    (fun k i s h1 hi _=>by
      show zmr h p (zmt h p k) s (i:Int)=_
      generalize zmt h p k=S
      unfold zmr
      have e2:w64 ((i:Int)+2)=((i+2:Nat):Int):=by rw [za2 (by omega) (by omega)];omega
      have e1:w64 ((i:Int)+1)=((i+1:Nat):Int):=by rw [za2 (by omega) (by omega)];omega
      have p85:=zFq H (show i+2 < h.len by omega) (p.get i) (p.get (i+1)) (p.get (i+2))
      rw [e0,decide_eq_true (show (i:Int) < ((h.len - 2:Nat):Int) by omega),cond_true,e2,e1,Int.toNat_natCast,Int.toNat_natCast,Int.toNat_natCast,hp,p85,
        decide_eq_true (show 0≤(i:Int)∧(i:Int) < (h.len:Int) by omega),decide_eq_true (show 0≤((i+1:Nat):Int)∧((i+1:Nat):Int) < (h.len:Int) by omega),
        decide_eq_true (show 0≤((i+2:Nat):Int)∧((i+2:Nat):Int) < (h.len:Int) by omega)]
      rfl)
    (fun k s=>by
      show zmr h p (zmt h p k) s ((h.len - 2:Nat):Int)=_
      unfold zmr
      rw [e0,decide_eq_false (show ¬ ((h.len - 2:Nat):Int) < ((h.len - 2:Nat):Int) by omega),cond_false])
    (fun _ _ _ _ _=>trivial) (Nat.zero_le _) (by omega) 0 trivial
  exact this
def VOK (h p:Sl Int):Prop:=HOK h∧p.len=h.len∧∀ i,i < p.len→inw p i=true
theorem zNC (h p : Sl Int) (w : zD1 h) :
    (VOK h p→p44 h p=true∧s44 h p=(zd5 (kk h p) (h.len - 2) 0 0,0))∧(¬ VOK h p→p44 h p=true∧s44 h p=(0,2)):=by
  unfold p44 s44
  rw [zg5]
  by_cases h1:(2:Int)≤(h.len:Int)∧(h.len:Int)≤8
  · rw [decide_eq_true h1, Bool.not_true, cond_false, cond_false]
    unfold ztV ztU
    by_cases h2:p.len=h.len
    · rw [h2, show ((h.len : Int) != (h.len : Int)) = false by simp, cond_false, cond_false]
      have e := ztW (good := fun i => inc h i && inw p i) (bad := ((0:Int), (2:Int))) (fin := ztS h p) (finP := ztT h p) (n := h.len) (lpS := zmy h p) (lpP := zmz h p)
        (fun k i hi=>by
          show zmw h p (zmy h p k) (i:Int)=_
          generalize zmy h p k=S
          have ic:=zkA h i hi w.1 (cond (inw p i) (S (w64 ((i:Int)+(1:Int)))) ((0:Int),(2:Int))) ((0:Int),(2:Int))
          unfold zmw zmu
          rw [decide_eq_true (show (i:Int) < (h.len:Int) by omega),cond_true,Int.toNat_natCast,zg5,zg5,show decide (-1000000≤p.get i∧p.get i≤1000000)=inw p i from rfl,← zmA]
          refine Eq.trans ?_ (ic.trans ?_)
          · cases inw p i <;> rfl
          · cases inc h i <;> cases inw p i <;> rfl)
        (fun k=>by
          show zmw h p (zmy h p k) (h.len:Int)=_
          unfold zmw
          rw [decide_eq_false (show ¬ (h.len:Int) < (h.len:Int) by omega),cond_false])
        (fun k i hi=>by
          show zmx h p (zmz h p k) (i:Int)=_
          generalize zmz h p k=S
          have w1:=w.1
          have ic:=zkA h i hi w.1 (cond (inw p i) (S (w64 ((i:Int)+(1:Int)))) true) true
          unfold zmx zmv
          rw [decide_eq_true (show (i:Int) < (h.len:Int) by omega),cond_true,Int.toNat_natCast,zg5,zg5,show decide (-1000000≤p.get i∧p.get i≤1000000)=inw p i from rfl,← zmA,h2,
            decide_eq_true (show 0≤(i:Int)∧(i:Int) < (h.len:Int) by omega),Bool.true_and,Bool.true_and]
          refine Eq.trans ?_ (ic.trans ?_)
          · by_cases h0 : 0 < i
            · rw [zjV h0 (by omega), Int.toNat_natCast, decide_eq_true (show 0 ≤ ((i - 1 : Nat) : Int) ∧ ((i - 1 : Nat) : Int) < (h.len : Int) by omega), Bool.true_and]
              cases inw p i <;> rfl
            · rw [decide_eq_false (show ¬ (i : Int) > 0 by omega)]
              cases inw p i <;> rfl
          · cases inc h i <;> cases inw p i <;> rfl)
        (fun k=>by
          show zmx h p (zmz h p k) (h.len:Int)=_
          unfold zmx
          rw [decide_eq_false (show ¬ (h.len:Int) < (h.len:Int) by omega),cond_false])
        w.1
      refine ⟨fun V=>?_,fun V=>?_⟩
      · obtain ⟨a, b⟩ := e.1 fun i hi => by rw [V.1.1 i hi, V.2.2 i (by omega)]; rfl
        obtain ⟨c,d⟩:=zNB h p V.1 h2
        exact ⟨Eq.trans a c,Eq.trans b d⟩
      · refine e.2 fun hh => V ⟨⟨fun i hi => ?_, by omega, by omega⟩, h2, fun i hi => ?_⟩
        · exact (Bool.and_eq_true _ _ ▸ hh i hi).1
        · exact (Bool.and_eq_true _ _ ▸ hh i (by omega)).2
    · rw [show ((p.len : Int) != (h.len : Int)) = true by simp; omega, cond_true, cond_true]
      exact ⟨fun V=>absurd V.2.1 h2,fun _=>⟨rfl,rfl⟩⟩
  · rw [decide_eq_false h1, Bool.not_false, cond_true, cond_true]
    exact ⟨fun V=>absurd V.1.2 (by omega),fun _=>⟨rfl,rfl⟩⟩
end Go.Proofs
namespace Go.Pm
open Go
def zpl : Nat → Int → List Int
  | 0,_=>[]
  | n+1,a=>a :: zpl n (a+1)
def zh2 (a b:Int):List Int:=zpl (b - a+1).toNat a
theorem zkB : ∀ {n : Nat} {a x : Int}, x ∈ zpl n a ↔ a ≤ x ∧ x < a + n
  | 0,a,x=>by simp only [zpl,List.not_mem_nil,false_iff];omega
  | n+1,a,x=>by
    rw [zpl,List.mem_cons,zkB];omega
theorem zc3 {a b x:Int} : x∈zh2 a b↔a≤x∧x≤b:=by rw [zh2,zkB];omega
theorem znn : ∀ {n : Nat} {a : Int}, (zpl n a).Nodup
  | 0,a=>List.nodup_nil
  | n+1,a=>List.nodup_cons.2 ⟨fun h=>by have:=zkB.1 h;omega,znn⟩
theorem zno {a b:Int} : (zh2 a b).Nodup:=znn
theorem zvE:∀ (n:Nat) (a:Int),(List.range n).map (fun (i:Nat)=>a+i)=zpl n a:=by
 intro n
 induction n with
 | zero=>intro a;rfl
 | succ n ih =>
  intro a
  rw [List.range_succ_eq_map,List.map_cons,List.map_map,zpl,← ih (a+1)]
  congr 1
  ·simp
  ·refine List.map_congr_left fun i _ => ?_
   simp only [Function.comp];omega
theorem zBT {a b:Int} (h:a≤b):zh2 a b ≠ []:=fun e=>by have:a∈zh2 a b:=zc3.2 ⟨by omega,h⟩;rw [e] at this;simp at this

theorem zBU {σ β : Type} {step : Int → σ → σ} {E : σ → β} {EP : σ → Bool} {Inv : σ → Prop} {lo hi : Int} {lpS : Nat → Int → σ → β} {lpP : Nat → Int → σ → Bool}
    (hS:∀ k r s,lo≤r→r≤hi→Inv s→lpS (k+1) r s=lpS k (w64 (r+(1:Int))) (step r s)) (hE:∀ k r s,lo≤r→hi < r→Inv s→lpS (k+1) r s=E s)
    (hP:∀ k r s,lo≤r→r≤hi→Inv s→lpP (k+1) r s=lpP k (w64 (r+(1:Int))) (step r s)) (hPE:∀ k r s,lo≤r→hi < r→Inv s→lpP (k+1) r s=EP s)
    (hI:∀ r s,lo≤r→r≤hi→Inv s→Inv (step r s)) (h1 : -9223372036854775808≤lo) (h2:hi < 9223372036854775807) (h3:hi - lo < 9223372036854775800) (s:σ) (h0:Inv s) :
    lpP Fuel lo s=EP ((zh2 lo hi).foldl (fun s r=>step r s) s)∧lpS Fuel lo s=E ((zh2 lo hi).foldl (fun s r=>step r s) s)∧Inv ((zh2 lo hi).foldl (fun s r=>step r s) s):=by
  have key:∀ (n k:Nat) (r:Int) (s:σ),lo≤r→(r+n=hi+1∨n=0∧hi < r)→n < k→Inv s→lpP k r s=EP ((zpl n r).foldl (fun s r=>step r s) s)∧lpS k r s=E ((zpl n r).foldl (fun s r=>step r s) s)∧Inv ((zpl n r).foldl (fun s r=>step r s) s):=by
    intro n
    induction n with
    | zero =>
      intro k r s hl hr hk hs
      obtain ⟨k,rfl⟩:∃ k',k=k'+1:=⟨k - 1,by omega⟩
      have:hi < r:=by omega
      exact ⟨hPE k r s hl this hs,hE k r s hl this hs,hs⟩
    | succ n ih =>
      intro k r s hl hr hk hs
      obtain ⟨k,rfl⟩:∃ k',k=k'+1:=⟨k - 1,by omega⟩
      have hrh:r≤hi:=by omega
      rw [hS k r s hl hrh hs,hP k r s hl hrh hs,za2 (by omega) (by omega)]
      exact ih k (r+1) (step r s) (by omega) (by omega) (by omega) (hI r s hl hrh hs)
  unfold zh2
  exact key (hi - lo+1).toNat Fuel lo s (Int.le_refl _) (by omega) (by simp only [Fuel];omega) h0

def mnS (b k:Int):Int:=if b < 0 then k else if k < b then k else b
def mnL (l:List Int):Int:=l.foldl mnS (-1)
theorem zvF : ∀ (l : List Int) (b : Int), 0 ≤ b → (∀ x ∈ l, 0 ≤ x) → (l.foldl mnS b = b ∨ l.foldl mnS b ∈ l) ∧ l.foldl mnS b ≤ b ∧ ∀ x ∈ l, l.foldl mnS b ≤ x
  | [],b,_,_=>⟨.inl rfl,Int.le_refl _,fun x hx=>by simp at hx⟩
  | y :: l,b,hb,hl=>by
    have hy:=hl y List.mem_cons_self
    have e:mnS b y=if y < b then y else b:=by unfold mnS;rw [if_neg (by omega)]
    rw [List.foldl_cons,e]
    have hm:(if y < b then y else b)≤b∧(if y < b then y else b)≤y∧((if y < b then y else b)=y∨(if y < b then y else b)=b):=by split <;> omega
    generalize (if y < b then y else b)=m at hm
    obtain ⟨h1,h2,h3⟩:=zvF l m (by omega) (fun x hx=>hl x (List.mem_cons_of_mem _ hx))
    refine ⟨?_,by omega,fun x hx=>?_⟩
    · rcases h1 with h1 | h1
      · rcases hm.2.2 with h | h
        · exact .inr (by rw [h1,h];exact List.mem_cons_self)
        · exact .inl (by rw [h1,h])
      · exact .inr (List.mem_cons_of_mem _ h1)
    · rcases List.mem_cons.1 hx with e | hx
      · rw [e];omega
      · exact h3 x hx
theorem zpm {l:List Int} (hl:∀ x∈l,0≤x) (hne:l ≠ []):mnL l∈l∧∀ x∈l,mnL l≤x:=by
 cases l with
 | nil=>exact absurd rfl hne
 | cons y l =>
  have hy:=hl y List.mem_cons_self
  have e:mnL (y :: l)=l.foldl mnS y:=by unfold mnL;rw [List.foldl_cons];rfl
  obtain ⟨h1,h2,h3⟩:=zvF l y hy (fun x hx=>hl x (List.mem_cons_of_mem _ hx))
  rw [e]
  refine ⟨?_,fun x hx=>?_⟩
  ·rcases h1 with h1 | h1
   ·rw [h1];exact List.mem_cons_self
   ·exact List.mem_cons_of_mem _ h1
  ·rcases List.mem_cons.1 hx with e | hx
   ·rw [e];exact h2
   ·exact h3 x hx

abbrev MpT:=Nat×(List Int→Option (List Int))
def zCj (v:List Int) (c:List Int) (a:MpT):MpT:=(addN (a.2 c) a.1,zfa c v a.2)
def mp0:MpT:=(0,fun _=>none)
theorem zmB {v c:List Int} {a:MpT} {x:List Int} : (zCj v c a).2 x=if x=c then some v else a.2 x:=by
 show (match decide (x=c) with | true=>some v | false=>a.2 x)=_
 by_cases h:x=c
 ·rw [decide_eq_true h,if_pos h]
 ·rw [decide_eq_false h,if_neg h]
theorem zFr {v c:List Int} {a:MpT} : (zCj v c a).1=if a.2 c=none then a.1+1 else a.1:=by
 show addN (a.2 c) a.1=_
 cases a.2 c <;> simp [addN]
theorem zpn (val : List Int → List Int) : ∀ (l : List (List Int)) (a : MpT) (x : List Int), (l.foldl (fun a c => zCj (val c) c a) a).2 x = if x ∈ l then some (val x) else a.2 x
  | [],a,x=>by simp
  | c :: l,a,x=>by
    rw [List.foldl_cons,zpn val l,zmB]
    by_cases h1:x∈l
    · rw [if_pos h1,if_pos (List.mem_cons_of_mem _ h1)]
    · rw [if_neg h1]
      by_cases h2:x=c
      · rw [if_pos h2,if_pos (by rw [h2];exact List.mem_cons_self),h2]
      · rw [if_neg h2,if_neg (fun h=>(List.mem_cons.1 h).elim h2 h1)]
def Cnt (a:MpT):Prop:=∃ K:List (List Int),K.Nodup∧K.length=a.1∧∀ x,a.2 x ≠ none↔x∈K
theorem zQe:Cnt mp0:=⟨[],List.nodup_nil,rfl,fun x=>by simp [mp0]⟩
theorem zKf {a:MpT} (v c:List Int) (h:Cnt a):Cnt (zCj v c a):=by
 obtain ⟨K,h1,h2,h3⟩:=h
 by_cases hc:a.2 c=none
 ·refine ⟨c :: K, List.nodup_cons.2 ⟨fun h => (h3 c).2 h hc, h1⟩, ?_, fun x => ?_⟩
  ·rw [zFr,if_pos hc,List.length_cons,h2]
  ·rw [zmB, List.mem_cons]
   by_cases hx:x=c
   ·simp [hx]
   ·rw [if_neg hx,h3 x];simp [hx]
 ·refine ⟨K, h1, ?_, fun x => ?_⟩
  ·rw [zFr,if_neg hc,h2]
  ·rw [zmB]
   by_cases hx:x=c
   ·rw [if_pos hx,hx];exact ⟨fun _=>(h3 c).1 hc,fun _=>by simp⟩
   ·rw [if_neg hx];exact h3 x
theorem zpo (val : List Int → List Int) : ∀ (l : List (List Int)) (a : MpT), Cnt a → Cnt (l.foldl (fun a c => zCj (val c) c a) a)
  | [],_,h=>h
  | c :: l,a,h=>zpo val l _ (zKf _ c h)
theorem zBV {a:MpT} (h:Cnt a) {L:List (List Int)} (hL:L.Nodup) (he:∀ x,a.2 x ≠ none↔x∈L):a.1=L.length:=by
 obtain ⟨K,h1,h2,h3⟩:=h
 rw [← h2]
 exact ((List.perm_ext_iff_of_nodup h1 hL).2 fun x=>(h3 x).symm.trans (he x)).length_eq
end Go.Pm
namespace Go.Proofs
open Go Go.Pm
set_option maxRecDepth 100000
structure BG (l : Sl Gate) : Prop where
  ok:∀ i,i < l.len→ze8 (l.get i)
  lo:2≤l.len
  hi:l.len≤8
  wide:∀ i,i < l.len→(l.get i).High - (l.get i).Low≤60
  inc:∀ i,i+1 < l.len→(l.get i).Z < (l.get (i+1)).Z
def zQf (l:Sl Gate) (i:Nat):Bool:=decide (¬ w64 ((l.get i).High - (l.get i).Low) > 60∧(0 < i→(l.get (i - 1)).Z < (l.get i).Z))
theorem zvG (l:Sl Gate) (hn:l.len≤9223372036854775807):p92 l=true∧(s92 l=true↔BG l):=by
  have cc:∀ {α:Type} (i:Nat) (_:i < l.len) (a b:α),(cond (decide ((w64 ((l.get i).High - (l.get i).Low)) > (60:Int))) b (cond (decide ((i:Int) > (0:Int))) (cond (decide ((l.get i).Z≤(l.get ((w64 ((i:Int) - (1:Int))).toNat)).Z)) b a) a))=cond (zQf l i) a b:=by
    intro α i hi a b
    unfold zQf
    by_cases h1:w64 ((l.get i).High - (l.get i).Low) > 60
    · rw [decide_eq_true h1,cond_true,decide_eq_false (fun h=>h.1 h1),cond_false]
    · rw [decide_eq_false h1, cond_false]
      by_cases h0:0 < i
      · rw [decide_eq_true (show (i : Int) > 0 by omega), cond_true, zjV h0 (by omega), Int.toNat_natCast]
        by_cases h2:(l.get i).Z≤(l.get (i - 1)).Z
        · rw [decide_eq_true h2,cond_true,decide_eq_false (fun h=>by have:=h.2 h0;omega),cond_false]
        · rw [decide_eq_false h2,cond_false,decide_eq_true (show ¬ w64 ((l.get i).High - (l.get i).Low) > 60∧(0 < i→(l.get (i - 1)).Z < (l.get i).Z) from ⟨h1,fun _=>by omega⟩),cond_true]
      · rw [decide_eq_false (show ¬ (i:Int) > 0 by omega),cond_false,decide_eq_true (show ¬ w64 ((l.get i).High - (l.get i).Low) > 60∧(0 < i→(l.get (i - 1)).Z < (l.get i).Z) from ⟨h1,fun h=>absurd h h0⟩),cond_true]
  have := zn6 (good := zQf l) (fin := s74 (l.len : Int) 2 8 && s64 l) (n := l.len) (lpS := zjd l) (lpP := zje l)
    (fun k i hi=>by
      show zjb l (zjd l k) (i:Int)=_
      generalize zjd l k=S
      unfold zjb
      rw [decide_eq_true (show (i:Int) < (l.len:Int) by omega),cond_true,Int.toNat_natCast]
      exact cc i hi _ _)
    (fun k=>by
      show zjb l (zjd l k) (l.len:Int)=_
      unfold zjb
      rw [decide_eq_false (show ¬ (l.len:Int) < (l.len:Int) by omega),cond_false,zgT])
    (fun k i hi=>by
      show zjc l (zje l k) (i:Int)=_
      generalize zje l k=S
      unfold zjc
      rw [decide_eq_true (show (i:Int) < (l.len:Int) by omega),cond_true,Int.toNat_natCast,decide_eq_true (show 0≤(i:Int)∧(i:Int) < (l.len:Int) by omega),Bool.true_and,← cc i hi]
      by_cases h0:0 < i
      · rw [decide_eq_true (show (i:Int) > 0 by omega),cond_true,cond_true,zjV h0 (by omega),decide_eq_true (show 0≤((i - 1:Nat):Int)∧((i - 1:Nat):Int) < (l.len:Int) by omega),Bool.true_and]
      · rw [decide_eq_false (show ¬ (i:Int) > 0 by omega),cond_false,cond_false])
    (fun k=>by
      show zjc l (zje l k) (l.len:Int)=_
      unfold zjc
      rw [decide_eq_false (show ¬ (l.len:Int) < (l.len:Int) by omega),cond_false,(zFn l hn).1]
      cases s74 (l.len:Int) 2 8 <;> rfl)
    hn
  refine ⟨this.1,this.2.trans ?_⟩
  rw [Bool.and_eq_true,(zFn l hn).2,zg5,decide_eq_true_eq]
  constructor
  · rintro ⟨h1, h2, h3⟩
    have hg:∀ i,i < l.len→¬ w64 ((l.get i).High - (l.get i).Low) > 60∧(0 < i→(l.get (i - 1)).Z < (l.get i).Z):=fun i hi=>of_decide_eq_true (h1 i hi)
    refine ⟨h3.1,by omega,by omega,fun i hi=>?_,fun i hi=>?_⟩
    · obtain ⟨_, a, b, c⟩ := h3.1 i hi
      have:=(hg i hi).1
      rw [za2 (by omega) (by omega)] at this
      omega
    · have := (hg (i + 1) hi).2 (by omega)
      rw [Nat.add_sub_cancel] at this;exact this
  · intro H
    have h1:=H.lo;have h2:=H.hi
    refine ⟨fun i hi=>decide_eq_true ⟨?_,fun h0=>?_⟩,by omega,H.ok,by omega,by omega⟩
    · obtain ⟨_, a, b, c⟩ := H.ok i hi
      have:=H.wide i hi
      rw [za2 (by omega) (by omega)];omega
    · have := H.inc (i - 1) (by omega)
      rwa [Nat.sub_add_cancel h0] at this
def zsS (l : Sl Gate) : Nat → Sl Int
  | 0=>⟨0,fun _=>default⟩
  | n+1=>⟨n+1,zdN n (zsS l n).get (fun _=>(l.get n).Z)⟩
theorem zeU (l : Sl Gate) : ∀ n, (zsS l n).len = n
  | 0=>rfl
  | _+1=>rfl
theorem zhZ (l : Sl Gate) : ∀ n j, j < n → (zsS l n).get j = (l.get j).Z
  | 0,j,h=>by omega
  | n+1,j,h=>by
    show zdN n (zsS l n).get (fun _=>(l.get n).Z) j=_
    unfold zdN
    by_cases hj:j < n
    · rw [show Nat.ble n j = false from by cases e : Nat.ble n j with | true => have := Nat.le_of_ble_eq_true e; omega | false => rfl]
      exact zhZ l n j hj
    · have : j = n := by omega
      subst this
      rw [show Nat.ble j j=true from by simp]
theorem zBW (l:Sl Gate) (hn:l.len≤1048576):p61 l=true∧s61 l=zsS l l.len:=by
 have key:∀ (m k i:Nat),i+m=l.len→m < k→zmg l k (i:Int) (zsS l i)=true∧zmf l k (i:Int) (zsS l i)=zsS l l.len:=by
  intro m
  induction m with
  | zero =>
   intro k i hi hk
   obtain ⟨k,rfl⟩:∃ k',k=k'+1:=⟨k - 1,by omega⟩
   have:i=l.len:=by omega
   subst this
   show zjM l (zmg l k) (l.len:Int) (zsS l l.len)=true∧zjL l (zmf l k) (l.len:Int) (zsS l l.len)=_
   unfold zjM zjL
   rw [decide_eq_false (show ¬ (l.len:Int) < (l.len:Int) by omega),cond_false,cond_false]
   exact ⟨rfl,rfl⟩
  | succ m ih =>
   intro k i hi hk
   obtain ⟨k,rfl⟩:∃ k',k=k'+1:=⟨k - 1,by omega⟩
   show zjM l (zmg l k) (i:Int) (zsS l i)=true∧zjL l (zmf l k) (i:Int) (zsS l i)=_
   unfold zjM zjL
   rw [decide_eq_true (show (i:Int) < (l.len:Int) by omega),cond_true,cond_true,zeU,decide_eq_true (show 0≤(i:Int)∧(i:Int) < (l.len:Int) by omega),decide_eq_true (show (i+1) * 8≤140737488355328∧i+1≤9223372036854775807 by omega),Bool.true_and,Bool.true_and,Int.toNat_natCast,zcd (n:=l.len) (by omega) (by omega)]
   exact ih k (i+1) (by omega) (by omega)
 exact key l.len Fuel 0 (by omega) (by simp only [Fuel];omega)
instance (g:Gate):Decidable (ze8 g):=by unfold ze8;exact inferInstance
def zND (l:Sl Gate) (i:Nat):Bool:=decide (ze8 (l.get i)∧(l.get i).High - (l.get i).Low≤60)
theorem zFs (l:Sl Gate) (hn:l.len≤17592186044416):p57 l=true∧(s57 l=true↔BG l):=by
 have wz:∀ n,n≤l.len→(∀ i,i < n→ze8 (l.get i))→zD1 (zsS l n):=fun n hl h=>by
  refine ⟨by rw [zeU];omega,fun i hi=>?_⟩
  rw [zeU] at hi
  rw [zhZ l n i hi]
  have:=(h i hi).1
  show wfI _
  unfold wfI
  omega
 have cc:∀ {α:Type} (i:Nat) (a b:α),(cond (!(s49 (l.get i))) b (cond (decide ((w64 ((l.get i).High - (l.get i).Low)) > (60:Int))) b a))=cond (zND l i) a b:=by
  intro α i a b
  unfold zND
  by_cases h1:ze8 (l.get i)
  ·rw [(zFm _).2 h1, Bool.not_true, cond_false]
   have h1':=h1
   obtain ⟨_,x,y,z⟩:=h1'
   rw [za2 (by omega) (by omega)]
   by_cases h2:(l.get i).High - (l.get i).Low≤60
   ·rw [decide_eq_false (by omega),cond_false,decide_eq_true (show ze8 (l.get i)∧(l.get i).High - (l.get i).Low≤60 from ⟨h1,h2⟩),cond_true]
   ·rw [decide_eq_true (by omega),cond_true,decide_eq_false (fun h=>h2 h.2),cond_false]
  ·rw [show s49 (l.get i)=false from by cases h:s49 (l.get i) with | true=>exact absurd ((zFm _).1 h) h1 | false=>rfl,Bool.not_false,cond_true,decide_eq_false (fun h=>h1 h.1),cond_false]
 have key:∀ (m k i:Nat),i+m=l.len→m < k→(∀ j,j < i→zND l j=true)→zjE l k (i:Int) (zsS l i)=true∧(zjD l k (i:Int) (zsS l i)=true↔(∀ j,j < l.len→zND l j=true)∧HOK (zsS l l.len)):=by
  intro m
  induction m with
  | zero =>
   intro k i hi hk hg
   obtain ⟨k,rfl⟩:∃ k',k=k'+1:=⟨k - 1,by omega⟩
   have:i=l.len:=by omega
   subst this
   show zjC l (zjE l k) (l.len:Int) (zsS l l.len)=true∧(zjB l (zjD l k) (l.len:Int) (zsS l l.len)=true↔_)
   obtain ⟨h1,h2⟩:=zNz (zsS l l.len) (wz _ (Nat.le_refl _) fun i hi=>(of_decide_eq_true (hg i hi)).1)
   unfold zjC zjB
   rw [decide_eq_false (show ¬ (l.len:Int) < (l.len:Int) by omega),cond_false,cond_false,h1,h2]
   exact ⟨rfl,fun h=>⟨hg,h⟩,fun h=>h.2⟩
  | succ m ih =>
   intro k i hi hk hg
   obtain ⟨k,rfl⟩:∃ k',k=k'+1:=⟨k - 1,by omega⟩
   show zjC l (zjE l k) (i:Int) (zsS l i)=true∧(zjB l (zjD l k) (i:Int) (zsS l i)=true↔_)
   unfold zjC zjB zo7 zo6
   rw [decide_eq_true (show (i:Int) < (l.len:Int) by omega),cond_true,cond_true,zeU,decide_eq_true (show 0≤(i:Int)∧(i:Int) < (l.len:Int) by omega),decide_eq_true (show (i+1) * 8≤140737488355328∧i+1≤9223372036854775807 by omega),Bool.true_and,Bool.true_and,Bool.true_and,Bool.true_and,Bool.true_and,Int.toNat_natCast,zcd (n:=l.len) (by omega) (by omega)]
   have ih:=ih k (i+1) (by omega) (by omega)
   have ez:(⟨(i+1),(zdN i (zsS l i).get (fun _=>(l.get i).Z))⟩:Sl Int)=zsS l (i+1):=rfl
   rw [ez,cond_true,cond_true]
   generalize zjE l k ((i+1:Nat):Int) (zsS l (i+1))=PP at ih ⊢
   generalize zjD l k ((i+1:Nat):Int) (zsS l (i+1))=SS at ih ⊢
   have e1:=cc i PP true
   have e2:=cc i SS false
   rw [e1,e2]
   cases hgi:zND l i with
   | true =>
    rw [cond_true,cond_true]
    refine ih fun j hj=>?_
    by_cases e:j=i
    ·rw [e];exact hgi
    ·exact hg j (by omega)
   | false =>
    rw [cond_false,cond_false]
    exact ⟨rfl,fun h=>absurd h Bool.false_ne_true,fun h=>by rw [h.1 i (by omega)] at hgi;cases hgi⟩
 obtain ⟨h1,h2⟩:=key l.len Fuel 0 (by omega) (by simp only [Fuel];omega) (fun j hj=>absurd hj (by omega))
 refine ⟨h1,h2.trans ?_⟩
 constructor
 ·rintro ⟨hg, hh⟩
  have hg:∀ i,i < l.len→ze8 (l.get i)∧(l.get i).High - (l.get i).Low≤60:=fun i hi=>of_decide_eq_true (hg i hi)
  have hl:=hh.2
  rw [zeU] at hl
  refine ⟨fun i hi=>(hg i hi).1,hl.1,hl.2,fun i hi=>(hg i hi).2,fun i hi=>?_⟩
  have:=(of_decide_eq_true (hh.1 (i+1) (by rw [zeU];exact hi))).2 (by omega)
  rw [Nat.add_sub_cancel,zhZ l _ i (by omega),zhZ l _ (i+1) hi] at this
  exact this
 ·intro H
  refine ⟨fun i hi=>decide_eq_true ⟨H.ok i hi,H.wide i hi⟩,fun i hi=>?_,by rw [zeU];exact H.lo,by rw [zeU];exact H.hi⟩
  rw [zeU] at hi
  unfold inc
  rw [zhZ l _ i hi]
  refine decide_eq_true ⟨(H.ok i hi).1,fun h0=>?_⟩
  rw [zhZ l _ (i - 1) (by omega)]
  have:=H.inc (i - 1) (by omega)
  rwa [Nat.sub_add_cancel h0] at this
end Go.Proofs
namespace Go.Proofs
open Go Go.Pm
set_option maxRecDepth 100000
def tvl (l:Sl Gate) (i:Nat) (p q r:Int):Int:=s85 (l.get i).Z (l.get (i+1)).Z (l.get (i+2)).Z p q r
def mxl (l:Sl Gate) (i:Nat) (T:List Int→Option (List Int)) (p q r:Int):Int:=if zdn (T [q,r]) 0 > tvl l i p q r then zdn (T [q,r]) 0 else tvl l i p q r
def zpp (l:Sl Gate) (i:Nat) (T:List Int→Option (List Int)) (p q:Int):Int :=
 if i+2=l.len then 0 else mnL ((zh2 (l.get (i+2)).Low (l.get (i+2)).High).map (mxl l i T p q))
def zFt (l:Sl Gate) (i:Nat) (T:List Int→Option (List Int)) (p:Int) (a:MpT):MpT :=
 (zh2 (l.get (i+1)).Low (l.get (i+1)).High).foldl (fun a q=>zCj [zpp l i T p q] [p,q] a) a
def zq6 (l:Sl Gate) (i:Nat) (T:List Int→Option (List Int)):MpT :=
 (zh2 (l.get i).Low (l.get i).High).foldl (fun a p=>zFt l i T p a) mp0
def tbS (l : Sl Gate) : Nat → Nat → MpT
  | 0,i=>zq6 l i (fun _=>none)
  | d+1,i=>zq6 l i (tbS l d (i+1)).2
def tbl (l:Sl Gate) (i:Nat):MpT:=tbS l (l.len - 2 - i) i
theorem zq7 {α:Type} (i:Nat) (x y:α) (f:Nat→α):zbd i x (zbd i y f)=zbd i x f:=by
 funext j;unfold zbd;cases Nat.beq j i <;> rfl
theorem ze9 {α:Type} (i:Nat) (x:α) (f:Nat→α):zbd i x f i=x:=by
 unfold zbd;rw [show Nat.beq i i=true from by simp]
theorem zh0 {α:Type} {i j:Nat} (h:j ≠ i) (x:α) (f:Nat→α):zbd i x f j=f j:=by
 unfold zbd;rw [show Nat.beq j i=false from by cases e:Nat.beq j i with | true=>exact absurd (Nat.eq_of_beq_eq_true e) h | false=>rfl]
section
variable {l:Sl Gate} (H:BG l)
include H
theorem zds (i:Nat) (hi:i < l.len) : -1000000≤(l.get i).Low∧(l.get i).High≤1000000∧(l.get i).Low≤(l.get i).High∧0≤(l.get i).Z∧(l.get i).Z≤100000:=by
 obtain ⟨⟨a,b⟩,c,d,e⟩:=H.ok i hi
 exact ⟨c,e,d,a,b⟩
theorem zBX (i:Nat) (hi:i+2 < l.len) (p q r:Int):p85 (l.get i).Z (l.get (i+1)).Z (l.get (i+2)).Z p q r=true :=
 zFo (zds H i (by omega)).2.2.2.1 (H.inc i (by omega)) (H.inc (i+1) hi) (zds H (i+2) hi).2.2.2.2
theorem r93 (i : Nat) (hi : i + 2 < l.len) (p q : Int) (n : Nat) (hn : n + 1 = l.len) (mk : Nat → Bool) (nn : Nat → Nat) (F : Nat → List Int → Option (List Int)) (hmk : mk i = true) (hmk1 : mk (i + 1) = true)
    (S0:Int→Nat→(Nat→Bool)→(Nat→Nat)→(Nat→List Int→Option (List Int))→(Sl Mp)) (S1:Int→Int→Nat→(Nat→Bool)→(Nat→Nat)→(Nat→List Int→Option (List Int))→(Sl Mp)) (S2:Int→Int→Int→Nat→(Nat→Bool)→(Nat→Nat)→(Nat→List Int→Option (List Int))→(Sl Mp))
    (P0:Int→Nat→(Nat→Bool)→(Nat→Nat)→(Nat→List Int→Option (List Int))→Bool) (P1:Int→Int→Nat→(Nat→Bool)→(Nat→Nat)→(Nat→List Int→Option (List Int))→Bool) (P2:Int→Int→Int→Nat→(Nat→Bool)→(Nat→Nat)→(Nat→List Int→Option (List Int))→Bool) :
    zr8 P0 P1 P2 l q (i:Int) p (-1) (l.get (i+2)).Low n mk nn F=P2 (i:Int) p (w64 (q+1)) n mk (zbd i (addN ((F i) [p,q]) (nn i)) nn) (zbd i (zfa [p,q] [zpp l i (F (i+1)) p q] (F i)) F) ∧
    zr7 S0 S1 S2 l q (i:Int) p (-1) (l.get (i+2)).Low n mk nn F=S2 (i:Int) p (w64 (q+1)) n mk (zbd i (addN ((F i) [p,q]) (nn i)) nn) (zbd i (zfa [p,q] [zpp l i (F (i+1)) p q] (F i)) F):=by
  have hl:=H.hi
  have e1:w64 ((i:Int)+(1:Int))=((i+1:Nat):Int):=zcd (n:=l.len) (by omega) (by omega)
  have e2:w64 ((i:Int)+(2:Int))=((i+2:Nat):Int):=by rw [za2 (by omega) (by omega)];omega
  obtain ⟨b1,b2,b3,_,_⟩:=zds H (i+2) hi
  have mk5:∀ (S4:Int→Int→Int→Int→Nat→(Nat→Bool)→(Nat→Nat)→(Nat→List Int→Option (List Int))→(Sl Mp)) (best r kv:Int),zn8 S0 S1 S2 S4 l q (i:Int) p best r kv n mk nn F=S4 (i:Int) p (mnS best kv) (w64 (r+(1:Int))) n mk nn F:=by
    intro S4 best r kv
    unfold zn8 mnS
    by_cases h1:best < 0
    · rw [decide_eq_true h1,cond_true,if_pos h1]
    · rw [decide_eq_false h1, cond_false, if_neg h1]
      by_cases h2:kv < best
      · rw [decide_eq_true h2,cond_true,if_pos h2]
      · rw [decide_eq_false h2,cond_false,if_neg h2]
  have pk5:∀ (P4:Int→Int→Int→Int→Nat→(Nat→Bool)→(Nat→Nat)→(Nat→List Int→Option (List Int))→Bool) (best r kv:Int),zn9 P0 P1 P2 P4 l q (i:Int) p best r kv n mk nn F=P4 (i:Int) p (mnS best kv) (w64 (r+(1:Int))) n mk nn F:=by
    intro P4 best r kv
    unfold zn9 mnS
    by_cases h1:best < 0
    · rw [decide_eq_true h1,cond_true,if_pos h1]
    · rw [decide_eq_false h1, cond_false, if_neg h1]
      by_cases h2:kv < best
      · rw [decide_eq_true h2,cond_true,if_pos h2]
      · rw [decide_eq_false h2,cond_false,if_neg h2]
  have := zBU (σ := Int) (lo := (l.get (i + 2)).Low) (hi := (l.get (i + 2)).High) (step := fun r b => mnS b (mxl l i (F (i + 1)) p q r)) (Inv := fun _ => True)
    (E:=fun b=>S2 (i:Int) p (w64 (q+1)) n mk (zbd i (addN ((F i) [p,q]) (nn i)) nn) (zbd i (zfa [p,q] [b] (F i)) F))
    (EP:=fun b=>P2 (i:Int) p (w64 (q+1)) n mk (zbd i (addN ((F i) [p,q]) (nn i)) nn) (zbd i (zfa [p,q] [b] (F i)) F))
    (lpS:=fun k r b=>zho S0 S1 S2 l q k (i:Int) p b r n mk nn F) (lpP:=fun k r b=>zhp P0 P1 P2 l q k (i:Int) p b r n mk nn F)
    (fun k r b _ hr _=>by
      show zjf S0 S1 S2 l q (zho S0 S1 S2 l q k) (i:Int) p b r n mk nn F=_
      generalize zho S0 S1 S2 l q k=S
      unfold zjf
      rw [mk5,e2,e1,Int.toNat_natCast,Int.toNat_natCast,Int.toNat_natCast,decide_eq_true hr,cond_true]
      rfl)
    (fun k r b _ hr _=>by
      show zjf S0 S1 S2 l q (zho S0 S1 S2 l q k) (i:Int) p b r n mk nn F=_
      generalize zho S0 S1 S2 l q k=S
      unfold zjf
      rw [e2,Int.toNat_natCast,Int.toNat_natCast,decide_eq_false (by omega),cond_false])
    (fun k r b _ hr _=>by
      show zjg P0 P1 P2 l q (zhp P0 P1 P2 l q k) (i:Int) p b r n mk nn F=_
      generalize zhp P0 P1 P2 l q k=S
      unfold zjg
      rw [pk5,e2,e1,Int.toNat_natCast,Int.toNat_natCast,Int.toNat_natCast,decide_eq_true hr,cond_true,zBX H i hi,hmk1,
        decide_eq_true (show 0≤((i+2:Nat):Int)∧((i+2:Nat):Int) < (l.len:Int) by omega),decide_eq_true (show 0≤(i:Int)∧(i:Int) < (l.len:Int) by omega),decide_eq_true (show 0≤((i+1:Nat):Int)∧((i+1:Nat):Int) < (l.len:Int) by omega),
        decide_eq_true (show 0≤((i+1:Nat):Int)∧((i+1:Nat):Int) < (n:Int) by omega),decide_eq_true (show i+1 < n∧true=true from ⟨by omega,rfl⟩),decide_eq_true (show i+1 < n by omega)]
      simp only [decide_true,Bool.true_and]
      rfl)
    (fun k r b _ hr _=>by
      show zjg P0 P1 P2 l q (zhp P0 P1 P2 l q k) (i:Int) p b r n mk nn F=_
      generalize zhp P0 P1 P2 l q k=S
      unfold zjg
      rw [e2,Int.toNat_natCast,Int.toNat_natCast,decide_eq_false (show ¬ r≤(l.get (i+2)).High by omega),cond_false,hmk,
        decide_eq_true (show 0≤((i+2:Nat):Int)∧((i+2:Nat):Int) < (l.len:Int) by omega),decide_eq_true (show 0≤(i:Int)∧(i:Int) < (n:Int) by omega),decide_eq_true (show i < n∧true=true from ⟨by omega,rfl⟩),decide_eq_true (show i < n by omega)]
      simp only [Bool.true_and])
    (fun _ _ _ _ _=>trivial) (by omega) (by omega) (by omega) (-1) trivial
  have ev:zpp l i (F (i+1)) p q=(zh2 (l.get (i+2)).Low (l.get (i+2)).High).foldl (fun b r=>mnS b (mxl l i (F (i+1)) p q r)) (-1):=by
    unfold zpp mnL
    rw [if_neg (by omega),List.foldl_map]
  rw [ev]
  exact ⟨this.1,this.2.1⟩
theorem zQ8 (i : Nat) (hi : i + 1 < l.len) (p : Int) (n : Nat) (hn : n + 1 = l.len) (mk : Nat → Bool) (nn : Nat → Nat) (F : Nat → List Int → Option (List Int)) (hmk : mk i = true) (hmk1 : i + 2 < l.len → mk (i + 1) = true) (a : MpT)
    (S0:Int→Nat→(Nat→Bool)→(Nat→Nat)→(Nat→List Int→Option (List Int))→(Sl Mp)) (S1:Int→Int→Nat→(Nat→Bool)→(Nat→Nat)→(Nat→List Int→Option (List Int))→(Sl Mp)) (P0:Int→Nat→(Nat→Bool)→(Nat→Nat)→(Nat→List Int→Option (List Int))→Bool) (P1:Int→Int→Nat→(Nat→Bool)→(Nat→Nat)→(Nat→List Int→Option (List Int))→Bool) :
    zsc P0 P1 l (i:Int) p (l.get (i+1)).Low n mk (zbd i a.1 nn) (zbd i a.2 F)=P1 (i:Int) (w64 (p+1)) n mk (zbd i (zFt l i (F (i+1)) p a).1 nn) (zbd i (zFt l i (F (i+1)) p a).2 F) ∧
    zsb S0 S1 l (i:Int) p (l.get (i+1)).Low n mk (zbd i a.1 nn) (zbd i a.2 F)=S1 (i:Int) (w64 (p+1)) n mk (zbd i (zFt l i (F (i+1)) p a).1 nn) (zbd i (zFt l i (F (i+1)) p a).2 F):=by
  have hl:=H.hi
  have e1:w64 ((i:Int)+(1:Int))=((i+1:Nat):Int):=zcd (n:=l.len) (by omega) (by omega)
  have e2:w64 ((i:Int)+(2:Int))=((i+2:Nat):Int):=by rw [za2 (by omega) (by omega)];omega
  have em:w64 ((l.len:Int) - (2:Int))=((l.len - 2:Nat):Int):=by rw [za2 (by omega) (by omega)];omega
  obtain ⟨b1,b2,b3,_,_⟩:=zds H (i+1) hi
  have ins:∀ (b:MpT) (v q:Int),zbd i (addN ((zbd i b.2 F) i [p,q]) ((zbd i b.1 nn) i)) (zbd i b.1 nn)=zbd i (zCj [v] [p,q] b).1 nn∧zbd i (zfa [p,q] [v] ((zbd i b.2 F) i)) (zbd i b.2 F)=zbd i (zCj [v] [p,q] b).2 F:=by
    intro b v q
    rw [ze9,ze9,zq7,zq7]
    exact ⟨rfl,rfl⟩
  have := zBU (σ := MpT) (lo := (l.get (i + 1)).Low) (hi := (l.get (i + 1)).High) (step := fun q a => zCj [zpp l i (F (i + 1)) p q] [p, q] a) (Inv := fun _ => True)
    (E:=fun a=>S1 (i:Int) (w64 (p+1)) n mk (zbd i a.1 nn) (zbd i a.2 F)) (EP:=fun a=>P1 (i:Int) (w64 (p+1)) n mk (zbd i a.1 nn) (zbd i a.2 F))
    (lpS:=fun k q a=>zhq S0 S1 l k (i:Int) p q n mk (zbd i a.1 nn) (zbd i a.2 F)) (lpP:=fun k q a=>zhr P0 P1 l k (i:Int) p q n mk (zbd i a.1 nn) (zbd i a.2 F))
    (fun k q b _ hr _=>by
      show zjh S0 S1 l (zhq S0 S1 l k) (i:Int) p q n mk (zbd i b.1 nn) (zbd i b.2 F)=_
      generalize zhq S0 S1 l k=S
      unfold zjh zr9
      rw [e1,e2,em,Int.toNat_natCast,Int.toNat_natCast,Int.toNat_natCast,decide_eq_true hr,cond_true]
      by_cases h:i+2=l.len
      · rw [show ((i : Int) == ((l.len - 2 : Nat) : Int)) = true from by simp; omega, cond_true, (ins b 0 q).1, (ins b 0 q).2]
        unfold zpp
        rw [if_pos h]
      · rw [show ((i : Int) == ((l.len - 2 : Nat) : Int)) = false from by simp; omega, cond_false]
        rw [(r93 H i (by omega) p q n hn mk _ _ hmk (hmk1 (by omega)) S0 S1 S P0 P1 (fun _ _ _ _ _ _ _=>true)).2,zh0 (show i+1 ≠ i by omega),(ins b _ q).1,(ins b _ q).2])
    (fun k q b _ hr _=>by
      show zjh S0 S1 l (zhq S0 S1 l k) (i:Int) p q n mk (zbd i b.1 nn) (zbd i b.2 F)=_
      generalize zhq S0 S1 l k=S
      unfold zjh
      rw [e1,Int.toNat_natCast,decide_eq_false (show ¬ q≤(l.get (i+1)).High by omega),cond_false])
    (fun k q b _ hr _=>by
      show zji P0 P1 l (zhr P0 P1 l k) (i:Int) p q n mk (zbd i b.1 nn) (zbd i b.2 F)=_
      generalize zhr P0 P1 l k=S
      unfold zji zsa
      rw [e1,e2,em,Int.toNat_natCast,Int.toNat_natCast,Int.toNat_natCast,decide_eq_true hr,cond_true,hmk,decide_eq_true (show 0≤((i+1:Nat):Int)∧((i+1:Nat):Int) < (l.len:Int) by omega),Bool.true_and]
      by_cases h:i+2=l.len
      · rw [show ((i : Int) == ((l.len - 2 : Nat) : Int)) = true from by simp; omega, cond_true, (ins b 0 q).1, (ins b 0 q).2, decide_eq_true (show 0 ≤ (i : Int) ∧ (i : Int) < (n : Int) by omega), decide_eq_true (show i < n ∧ true = true from ⟨by omega, rfl⟩), decide_eq_true (show i < n by omega), Bool.true_and, Bool.true_and, Bool.true_and]
        unfold zpp
        rw [if_pos h]
      · rw [show ((i : Int) == ((l.len - 2 : Nat) : Int)) = false from by simp; omega, cond_false, decide_eq_true (show 0 ≤ ((i + 2 : Nat) : Int) ∧ ((i + 2 : Nat) : Int) < (l.len : Int) by omega), Bool.true_and]
        rw [(r93 H i (by omega) p q n hn mk _ _ hmk (hmk1 (by omega)) S0 S1 (fun _ _ _ _ _ _ _=>default) P0 P1 S).1,zh0 (show i+1 ≠ i by omega),(ins b _ q).1,(ins b _ q).2])
    (fun k q b _ hr _=>by
      show zji P0 P1 l (zhr P0 P1 l k) (i:Int) p q n mk (zbd i b.1 nn) (zbd i b.2 F)=_
      generalize zhr P0 P1 l k=S
      unfold zji
      rw [e1,Int.toNat_natCast,decide_eq_false (show ¬ q≤(l.get (i+1)).High by omega),cond_false,decide_eq_true (show 0≤((i+1:Nat):Int)∧((i+1:Nat):Int) < (l.len:Int) by omega),Bool.true_and])
    (fun _ _ _ _ _=>trivial) (by omega) (by omega) (by omega) a trivial
  exact ⟨this.1,this.2.1⟩
theorem zSL (i : Nat) (hi : i + 1 < l.len) (n : Nat) (hn : n + 1 = l.len) (mk : Nat → Bool) (nn : Nat → Nat) (F : Nat → List Int → Option (List Int)) (hmk : mk i = true) (hmk1 : i + 2 < l.len → mk (i + 1) = true)
    (S0:Int→Nat→(Nat→Bool)→(Nat→Nat)→(Nat→List Int→Option (List Int))→(Sl Mp)) (P0:Int→Nat→(Nat→Bool)→(Nat→Nat)→(Nat→List Int→Option (List Int))→Bool) :
    zob P0 l (i:Int) (l.get i).Low n mk (zbd i mp0.1 nn) (zbd i mp0.2 F)=P0 (w64 ((i:Int) - 1)) n mk (zbd i (zq6 l i (F (i+1))).1 nn) (zbd i (zq6 l i (F (i+1))).2 F) ∧
    zoa S0 l (i:Int) (l.get i).Low n mk (zbd i mp0.1 nn) (zbd i mp0.2 F)=S0 (w64 ((i:Int) - 1)) n mk (zbd i (zq6 l i (F (i+1))).1 nn) (zbd i (zq6 l i (F (i+1))).2 F):=by
  have hl:=H.hi
  have e1:w64 ((i:Int)+(1:Int))=((i+1:Nat):Int):=zcd (n:=l.len) (by omega) (by omega)
  obtain ⟨b1,b2,b3,_,_⟩:=zds H i (by omega)
  have := zBU (σ := MpT) (lo := (l.get i).Low) (hi := (l.get i).High) (step := fun p a => zFt l i (F (i + 1)) p a) (Inv := fun _ => True)
    (E:=fun a=>S0 (w64 ((i:Int) - 1)) n mk (zbd i a.1 nn) (zbd i a.2 F)) (EP:=fun a=>P0 (w64 ((i:Int) - 1)) n mk (zbd i a.1 nn) (zbd i a.2 F))
    (lpS:=fun k p a=>zhs S0 l k (i:Int) p n mk (zbd i a.1 nn) (zbd i a.2 F)) (lpP:=fun k p a=>zht P0 l k (i:Int) p n mk (zbd i a.1 nn) (zbd i a.2 F))
    (fun k p b _ hr _=>by
      show zjj S0 l (zhs S0 l k) (i:Int) p n mk (zbd i b.1 nn) (zbd i b.2 F)=_
      generalize zhs S0 l k=S
      unfold zjj
      rw [e1,Int.toNat_natCast,Int.toNat_natCast,decide_eq_true hr,cond_true]
      exact (zQ8 H i hi p n hn mk nn F hmk hmk1 b S0 S P0 (fun _ _ _ _ _ _=>true)).2)
    (fun k p b _ hr _=>by
      show zjj S0 l (zhs S0 l k) (i:Int) p n mk (zbd i b.1 nn) (zbd i b.2 F)=_
      generalize zhs S0 l k=S
      unfold zjj
      rw [Int.toNat_natCast,decide_eq_false (show ¬ p≤(l.get i).High by omega),cond_false])
    (fun k p b _ hr _=>by
      show zjk P0 l (zht P0 l k) (i:Int) p n mk (zbd i b.1 nn) (zbd i b.2 F)=_
      generalize zht P0 l k=S
      unfold zjk
      rw [e1,Int.toNat_natCast,Int.toNat_natCast,decide_eq_true hr,cond_true,decide_eq_true (show 0≤(i:Int)∧(i:Int) < (l.len:Int) by omega),decide_eq_true (show 0≤((i+1:Nat):Int)∧((i+1:Nat):Int) < (l.len:Int) by omega),Bool.true_and,Bool.true_and]
      exact (zQ8 H i hi p n hn mk nn F hmk hmk1 b S0 (fun _ _ _ _ _ _=>default) P0 S).1)
    (fun k p b _ hr _=>by
      show zjk P0 l (zht P0 l k) (i:Int) p n mk (zbd i b.1 nn) (zbd i b.2 F)=_
      generalize zht P0 l k=S
      unfold zjk
      rw [Int.toNat_natCast,decide_eq_false (show ¬ p≤(l.get i).High by omega),cond_false,decide_eq_true (show 0≤(i:Int)∧(i:Int) < (l.len:Int) by omega),Bool.true_and])
    (fun _ _ _ _ _=>trivial) (by omega) (by omega) (by omega) mp0 trivial
  exact ⟨this.1,this.2.1⟩
end
section
variable {l:Sl Gate} (H:BG l)
theorem zvH (i:Nat) (hi:i+1 < l.len):(∀ T,i+2=l.len→tbl l i=zq6 l i T)∧(i+2 < l.len→tbl l i=zq6 l i (tbl l (i+1)).2):=by
 constructor
 ·intro T h
  unfold tbl
  rw [show l.len - 2 - i=0 by omega]
  have ev:∀ T T' p q,zpp l i T p q=zpp l i T' p q:=fun T T' p q=>by unfold zpp;rw [if_pos h,if_pos h]
  show zq6 l i _=zq6 l i T
  unfold zq6 zFt
  simp only [ev _ T]
 ·intro h
  unfold tbl
  rw [show l.len - 2 - i=(l.len - 2 - (i+1))+1 by omega]
  rfl
end
section
variable {l:Sl Gate} (H:BG l)
include H
theorem zka:p93 l=true∧(s93 l).len=l.len - 1∧∀ j,j+1 < l.len→((s93 l).get j).n=(tbl l j).1∧((s93 l).get j).F=(tbl l j).2:=by
 have hl:=H.hi;have hlo:=H.lo
 have key:∀ (i k n:Nat) (mk:Nat→Bool) (nn:Nat→Nat) (F:Nat→List Int→Option (List Int)),n+1=l.len→i < l.len→i < k→(∀ j,i≤j→j+1 < l.len→mk j=true∧nn j=(tbl l j).1∧F j=(tbl l j).2)→(∀ j,j < i→mk j=false) →
   zfu l k ((i:Int) - 1) n mk nn F=true∧(zev l k ((i:Int) - 1) n mk nn F).len=n∧∀ j,j+1 < l.len→((zev l k ((i:Int) - 1) n mk nn F).get j).n=(tbl l j).1∧((zev l k ((i:Int) - 1) n mk nn F).get j).F=(tbl l j).2:=by
  intro i
  induction i with
  | zero =>
   intro k n mk nn F hn _ hk h1 h2
   obtain ⟨k,rfl⟩:∃ k',k=k'+1:=⟨k - 1,by omega⟩
   have ep:zfu l (k+1) (((0:Nat):Int) - 1) n mk nn F=zjm l (zfu l k) (((0:Nat):Int) - 1) n mk nn F:=rfl
   have es:zev l (k+1) (((0:Nat):Int) - 1) n mk nn F=zjl l (zev l k) (((0:Nat):Int) - 1) n mk nn F:=rfl
   rw [ep,es]
   unfold zjm zjl
   rw [decide_eq_false (show ¬ (((0:Nat):Int) - 1 ≥ 0) by omega),cond_false,cond_false]
   exact ⟨rfl,rfl,fun j hj=>(h1 j (Nat.zero_le _) hj).2⟩
  | succ i ih =>
   intro k n mk nn F hn hil hk h1 h2
   obtain ⟨k,rfl⟩:∃ k',k=k'+1:=⟨k - 1,by omega⟩
   rw [show (((i+1:Nat):Int) - 1)=(i:Int) by omega]
   have ep:zfu l (k+1) (i:Int) n mk nn F=zjm l (zfu l k) (i:Int) n mk nn F:=rfl
   have es:zev l (k+1) (i:Int) n mk nn F=zjl l (zev l k) (i:Int) n mk nn F:=rfl
   rw [ep,es]
   unfold zjm zjl
   rw [decide_eq_true (show (i:Int) ≥ 0 by omega),cond_true,cond_true,Int.toNat_natCast,h2 i (by omega),decide_eq_true (show 0≤(i:Int)∧(i:Int) < (n:Int) by omega),decide_eq_true (show i < n∧false=false from ⟨by omega,rfl⟩),decide_eq_true (show 0≤(i:Int)∧(i:Int) < (l.len:Int) by omega),Bool.true_and,Bool.true_and,Bool.true_and]
   obtain ⟨r1,r2⟩:=zSL H i hil n hn (zbd i true mk) nn F (ze9 i true mk) (fun h=>by rw [zh0 (by omega)];exact (h1 (i+1) (Nat.le_refl _) (by omega)).1) (zev l k) (zfu l k)
   have r1:zob (zfu l k) l (i:Int) (l.get i).Low n (zbd i true mk) (zbd i 0 nn) (zbd i (fun _=>none) F)=_:=r1
   have r2:zoa (zev l k) l (i:Int) (l.get i).Low n (zbd i true mk) (zbd i 0 nn) (zbd i (fun _=>none) F)=_:=r2
   have et:zq6 l i (F (i+1))=tbl l i:=by
    by_cases h:i+2=l.len
    ·exact ((zvH i hil).1 _ h).symm
    ·rw [(h1 (i+1) (Nat.le_refl _) (by omega)).2.2];exact ((zvH i hil).2 (by omega)).symm
   rw [r1,r2,et,show w64 ((i:Int) - 1)=(i:Int) - 1 from za2 (by omega) (by omega)]
   refine ih k n _ _ _ hn (by omega) (by omega) (fun j hj hjl=>?_) (fun j hj=>?_)
   ·by_cases e : j = i
    ·subst e;exact ⟨ze9 _ _ _,ze9 _ _ _,ze9 _ _ _⟩
    ·rw [zh0 e,zh0 e,zh0 e];exact h1 j (by omega) hjl
   ·rw [zh0 (by omega)];exact h2 j (by omega)
 have e1:w64 ((l.len:Int) - (1:Int))=((l.len - 1:Nat):Int):=by rw [za2 (by omega) (by omega)];omega
 have e2:w64 ((l.len:Int) - (2:Int))=((l.len - 1:Nat):Int) - 1:=by rw [za2 (by omega) (by omega)];omega
 have:=key (l.len - 1) Fuel (l.len - 1) (fun _=>false) (fun _=>0) (fun _ _=>none) (by omega) (by omega) (by simp only [Fuel];omega) (fun j h1 h2=>by omega) (fun _ _=>rfl)
 unfold p93 s93 zse zsd
 rw [e1,e2,Int.toNat_natCast,decide_eq_true (show 0≤((l.len - 1:Nat):Int)∧((l.len - 1:Nat):Int)=((l.len - 1:Nat):Int)∧((l.len - 1:Nat):Int)≤1000000 by omega),Bool.true_and]
 exact this
end
end Go.Proofs
namespace Go.Proofs
open Go Go.Pm
set_option maxRecDepth 100000
def znp (a b:Gate):List (List Int):=(zh2 a.Low a.High).flatMap fun p=>(zh2 b.Low b.High).map fun q=>[p,q]
theorem zej {a b:Gate} {c:List Int} : c∈znp a b↔∃ p q,c=[p,q]∧(a.Low≤p∧p≤a.High)∧b.Low≤q∧q≤b.High:=by
 unfold znp
 simp only [List.mem_flatMap,List.mem_map,zc3]
 exact ⟨fun ⟨p,hp,q,hq,e⟩=>⟨p,q,e.symm,hp,hq⟩,fun ⟨p,q,e,hp,hq⟩=>⟨p,hp,q,hq,e.symm⟩⟩
theorem zgB {a b:Gate} {p q:Int} : [p,q]∈znp a b↔(a.Low≤p∧p≤a.High)∧b.Low≤q∧q≤b.High:=by
 rw [zej]
 exact ⟨fun ⟨p',q',e,h⟩=>by simp only [List.cons.injEq,and_true] at e;rw [e.1,e.2];exact h,fun h=>⟨p,q,rfl,h⟩⟩
theorem zq8 {α β : Type} {f : α → β} (hf : ∀ x y, f x = f y → x = y) : ∀ {l : List α}, l.Nodup → (l.map f).Nodup
  | [],_=>List.nodup_nil
  | x :: l,h=>by
    rw [List.map_cons]
    rw [List.nodup_cons] at h ⊢
    refine ⟨fun hm=>?_,zq8 hf h.2⟩
    obtain ⟨y,hy,e⟩:=List.mem_map.1 hm
    exact h.1 (by rw [← hf y x e];exact hy)
theorem zgU (a b:Gate):(znp a b).Nodup:=by
 unfold znp List.Nodup
 rw [List.pairwise_flatMap]
 refine ⟨fun p _=>zq8 (fun x y e=>by simpa using e) zno,?_⟩
 refine List.Pairwise.imp ?_ zno
 intro p p' hne x hx y hy e
 obtain ⟨q,_,rfl⟩:=List.mem_map.1 hx
 obtain ⟨q',_,e2⟩:=List.mem_map.1 hy
 rw [← e2] at e
 simp only [List.cons.injEq] at e
 exact hne e.1
theorem zBY (l:Sl Gate) (i:Nat) (T:List Int→Option (List Int)):zq6 l i T=(znp (l.get i) (l.get (i+1))).foldl (fun a c=>zCj [zpp l i T (c.getD 0 0) (c.getD 1 0)] c a) mp0:=by
 unfold zq6 zFt znp
 rw [List.foldl_flatMap]
 congr 1
 funext a p
 rw [List.foldl_map]
 rfl
theorem ziJ (l:Sl Gate) (i:Nat) (T:List Int→Option (List Int)) (c:List Int):(zq6 l i T).2 c=if c∈znp (l.get i) (l.get (i+1)) then some [zpp l i T (c.getD 0 0) (c.getD 1 0)] else none:=by
 rw [zBY,zpn (fun c=>[zpp l i T (c.getD 0 0) (c.getD 1 0)])]
 rfl
theorem zNE (l:Sl Gate) (i:Nat) (T:List Int→Option (List Int)):(zq6 l i T).1=(znp (l.get i) (l.get (i+1))).length:=by
 refine zBV ?_ (zgU _ _) fun x=>?_
 ·rw [zBY];exact zpo (fun c=>[zpp l i T (c.getD 0 0) (c.getD 1 0)]) _ _ zQe
 ·rw [ziJ];split <;> simp [*]
theorem zNF (l:Sl Gate) (i:Nat):(tbl l i).1=(znp (l.get i) (l.get (i+1))).length:=by
 unfold tbl
 cases l.len - 2 - i <;> exact zNE _ _ _
theorem zvI (l:Sl Gate) (i:Nat) (c:List Int):(tbl l i).2 c ≠ none↔c∈znp (l.get i) (l.get (i+1)):=by
  unfold tbl
  cases l.len - 2 - i
  all_goals
    show (zq6 l i _).2 c ≠ none↔_
    rw [ziJ];split <;> simp [*]
def Lk (l:Sl Gate) (i:Nat) (p q:Int):Int:=zdn ((tbl l i).2 [p,q]) 0
def inG (g:Gate) (p:Int):Prop:=g.Low≤p∧p≤g.High
theorem zQg {x y X Y:Int} (h1 : -X≤x) (h2:x≤X) (h3:0≤y) (h4:y≤Y) : -(X * Y)≤x * y∧x * y≤X * Y:=by
 have hX:0≤X:=by omega
 have a1:=Int.mul_le_mul_of_nonneg_right h2 h3
 have a2:=Int.mul_le_mul_of_nonneg_left h4 hX
 have a3:=Int.mul_le_mul_of_nonneg_right h1 h3
 rw [Int.neg_mul] at a3
 omega
theorem zNG {u v w p q r : Int} (hu : 0 ≤ u) (huv : u < v) (hvw : v < w) (hw : w ≤ 100000) (hp : -1000000 ≤ p ∧ p ≤ 1000000) (hq : -1000000 ≤ q ∧ q ≤ 1000000) (hr : -1000000 ≤ r ∧ r ≤ 1000000) :
  s85 u v w p q r=(1000 * (if -((r - q) * (v - u) - (q - p) * (w - v)) > (r - q) * (v - u) - (q - p) * (w - v) then -((r - q) * (v - u) - (q - p) * (w - v)) else (r - q) * (v - u) - (q - p) * (w - v))+(v - u) * (w - v) - 1) / ((v - u) * (w - v))∧0 < (v - u) * (w - v):=by
 have b1:=zQg (x:=r - q) (y:=v - u) (X:=2000000) (Y:=100000) (by omega) (by omega) (by omega) (by omega)
 have b2:=zQg (x:=q - p) (y:=w - v) (X:=2000000) (Y:=100000) (by omega) (by omega) (by omega) (by omega)
 have b3:=zQg (x:=v - u) (y:=w - v) (X:=100000) (Y:=100000) (by omega) (by omega) (by omega) (by omega)
 have b4:0 < (v - u) * (w - v):=Int.mul_pos (by omega) (by omega)
 unfold s85
 rw [za2 (x:=r - q) (by omega) (by omega),za2 (x:=v - u) (by omega) (by omega),za2 (x:=q - p) (by omega) (by omega),za2 (x:=w - v) (by omega) (by omega),
  za2 (x:=(r - q) * (v - u)) (by omega) (by omega),za2 (x:=(q - p) * (w - v)) (by omega) (by omega),za2 (x:=(v - u) * (w - v)) (by omega) (by omega)]
 generalize (r - q) * (v - u)=A at *
 generalize (q - p) * (w - v)=B at *
 generalize (v - u) * (w - v)=D at *
 rw [za2 (x:=A - B) (by omega) (by omega),za2 (x:=0 - (A - B)) (by omega) (by omega),show (0 - (A - B):Int) = -(A - B) by omega]
 have hm:0≤(if -(A - B) > A - B then -(A - B) else A - B)∧(if -(A - B) > A - B then -(A - B) else A - B)≤400000000000:=by split <;> omega
 generalize (if -(A - B) > A - B then -(A - B) else A - B)=M at *
 rw [za2 (x:=1000 * M) (by omega) (by omega),za2 (x:=1000 * M+D) (by omega) (by omega),za2 (x:=1000 * M+D - 1) (by omega) (by omega),Int.tdiv_eq_ediv_of_nonneg (by omega)]
 have d1:0≤(1000 * M+D - 1) / D:=Int.ediv_nonneg (by omega) (by omega)
 have d2:(1000 * M+D - 1) / D≤1000 * M+D - 1:=Int.ediv_le_self _ (by omega)
 rw [za2 (by omega) (by omega)]
 exact ⟨rfl,b4⟩
section
variable {l:Sl Gate} (H:BG l)
include H
theorem zNH (i : Nat) (hi : i + 2 < l.len) (p q r : Int) (hp : inG (l.get i) p) (hq : inG (l.get (i + 1)) q) (hr : inG (l.get (i + 2)) r) :
  tvl l i p q r=(1000 * (if -((r - q) * ((l.get (i+1)).Z - (l.get i).Z) - (q - p) * ((l.get (i+2)).Z - (l.get (i+1)).Z)) > (r - q) * ((l.get (i+1)).Z - (l.get i).Z) - (q - p) * ((l.get (i+2)).Z - (l.get (i+1)).Z) then -((r - q) * ((l.get (i+1)).Z - (l.get i).Z) - (q - p) * ((l.get (i+2)).Z - (l.get (i+1)).Z)) else (r - q) * ((l.get (i+1)).Z - (l.get i).Z) - (q - p) * ((l.get (i+2)).Z - (l.get (i+1)).Z))+((l.get (i+1)).Z - (l.get i).Z) * ((l.get (i+2)).Z - (l.get (i+1)).Z) - 1) / (((l.get (i+1)).Z - (l.get i).Z) * ((l.get (i+2)).Z - (l.get (i+1)).Z))∧0 < ((l.get (i+1)).Z - (l.get i).Z) * ((l.get (i+2)).Z - (l.get (i+1)).Z):=by
 have b0:=zds H i (by omega)
 have b1:=zds H (i+1) (by omega)
 have b2:=zds H (i+2) hi
 have h1:=H.inc i (by omega)
 have h2:=H.inc (i+1) hi
 unfold inG at hp hq hr
 exact zNG b0.2.2.2.1 h1 h2 b2.2.2.2.2 (by omega) (by omega) (by omega)
theorem zjW (i:Nat) (hi:i+2 < l.len) (p q r:Int) (hp:inG (l.get i) p) (hq:inG (l.get (i+1)) q) (hr:inG (l.get (i+2)) r):0≤tvl l i p q r:=by
 obtain ⟨e,hd⟩:=zNH H i hi p q r hp hq hr
 rw [e]
 refine Int.ediv_nonneg ?_ (by omega)
 split <;> omega
theorem zBZ (i:Nat) (hi:i+2=l.len) (p q:Int) (hp:inG (l.get i) p) (hq:inG (l.get (i+1)) q):Lk l i p q=0:=by
 unfold Lk
 rw [(zvH i (by omega)).1 (fun _=>none) hi,ziJ,if_pos (zgB.2 ⟨hp,hq⟩)]
 show zpp l i _ p q=0
 unfold zpp
 rw [if_pos hi]
theorem zB0 (i : Nat) (hi : i + 2 < l.len) (p q : Int) (hp : inG (l.get i) p) (hq : inG (l.get (i + 1)) q) :
  Lk l i p q=mnL ((zh2 (l.get (i+2)).Low (l.get (i+2)).High).map fun r=>if Lk l (i+1) q r > tvl l i p q r then Lk l (i+1) q r else tvl l i p q r):=by
 have e:Lk l i p q=zpp l i (tbl l (i+1)).2 p q:=by
  unfold Lk
  rw [(zvH i (by omega)).2 hi,ziJ,if_pos (zgB.2 ⟨hp,hq⟩)]
  rfl
 rw [e]
 unfold zpp
 rw [if_neg (by omega)]
 rfl
theorem zq9 : ∀ (d i : Nat), i + 2 + d = l.len → ∀ (p q : Int), inG (l.get i) p → inG (l.get (i + 1)) q → 0 ≤ Lk l i p q
  | 0,i,hd,p,q,hp,hq=>by rw [zBZ H i (by omega) p q hp hq];exact Int.le_refl _
  | d+1,i,hd,p,q,hp,hq=>by
    rw [zB0 H i (by omega) p q hp hq]
    obtain ⟨h1,_⟩:=zpm (l:=(zh2 (l.get (i+2)).Low (l.get (i+2)).High).map fun r=>if Lk l (i+1) q r > tvl l i p q r then Lk l (i+1) q r else tvl l i p q r) (fun x hx=>by
      obtain ⟨r,hr,rfl⟩:=List.mem_map.1 hx
      have:=zjW H i (by omega) p q r hp hq (zc3.1 hr)
      split <;> omega) (fun e=>zBT (zds H (i+2) (by omega)).2.2.1 (List.map_eq_nil_iff.1 e))
    obtain ⟨r,hr,e⟩:=List.mem_map.1 h1
    rw [← e]
    have:=zjW H i (by omega) p q r hp hq (zc3.1 hr)
    split <;> omega
theorem ztX (i : Nat) (hi : i + 2 < l.len) (p q : Int) (hp : inG (l.get i) p) (hq : inG (l.get (i + 1)) q) :
  (∃ r,inG (l.get (i+2)) r∧Lk l (i+1) q r≤Lk l i p q∧tvl l i p q r≤Lk l i p q)∧∀ r,inG (l.get (i+2)) r→Lk l i p q≤Lk l (i+1) q r∨Lk l i p q≤tvl l i p q r:=by
 obtain ⟨h1,h2⟩:=zpm (l:=(zh2 (l.get (i+2)).Low (l.get (i+2)).High).map fun r=>if Lk l (i+1) q r > tvl l i p q r then Lk l (i+1) q r else tvl l i p q r) (fun x hx=>by
   obtain ⟨r,hr,rfl⟩:=List.mem_map.1 hx
   have:=zjW H i (by omega) p q r hp hq (zc3.1 hr)
   split <;> omega) (fun e=>zBT (zds H (i+2) (by omega)).2.2.1 (List.map_eq_nil_iff.1 e))
 rw [← zB0 H i hi p q hp hq] at h1 h2
 constructor
 ·obtain ⟨r, hr, e⟩ := List.mem_map.1 h1
  refine ⟨r,zc3.1 hr,?_⟩
  rw [← e]
  split <;> omega
 ·intro r hr
  have:=h2 _ (List.mem_map.2 ⟨r,zc3.2 hr,rfl⟩)
  split at this
  ·exact .inl this
  ·exact .inr this
def Lin (l:Sl Gate) (f:Nat→Int):Prop:=∀ j,j < l.len→inG (l.get j) (f j)
end
section
variable {l:Sl Gate} (H:BG l)
theorem Lin.at {f:Nat→Int} (h:Lin l f) {j:Nat} (hj:j < l.len):inG (l.get j) (f j):=h j hj
end
section
variable {l:Sl Gate} (H:BG l)
include H
theorem zwz (f : Nat → Int) (hf : Lin l f) (k : Int) (hk : 0 ≤ k) : ∀ (d i : Nat), i + 2 + d = l.len → (∀ j, i ≤ j → j + 2 < l.len → tvl l j (f j) (f (j + 1)) (f (j + 2)) ≤ k) → Lk l i (f i) (f (i + 1)) ≤ k
  | 0,i,hd,_=>by rw [zBZ H i (by omega) _ _ (hf i (by omega)) (hf (i+1) (by omega))];exact hk
  | d+1,i,hd,h=>by
    have ih:=zwz f hf k hk d (i+1) (by omega) (fun j hj=>h j (by omega))
    rcases (ztX H i (by omega) _ _ (hf i (by omega)) (hf (i+1) (by omega))).2 (f (i+2)) (hf (i+2) (by omega)) with h1 | h1
    · exact Int.le_trans h1 ih
    · exact Int.le_trans h1 (h i (Nat.le_refl _) (by omega))
end
end Go.Proofs
namespace Go.Proofs
open Go Go.Pm
set_option maxRecDepth 100000
theorem zD5 (a b:Int):zIQ a b=zh2 a b:=zvE _ _
theorem ziK (a b:Gate):zeC a b=znp a b:=by unfold zeC znp;simp only [zD5]
section
variable {l:Sl Gate} (H:BG l) (kink:Int)
include H
theorem zNI (i:Nat) (hi:i+1 < l.len) (p q:Int):zdn (((s93 l).get i).F [p,q]) 0=Lk l i p q:=by
 rw [((zka H).2.2 i hi).2];rfl
theorem w1 (i:Nat) (hi:i+1 < l.len):w64 ((i:Int)+(1:Int))=((i+1:Nat):Int):=by
 have:=H.hi
 exact zcd (n:=l.len) (by omega) (by omega)
theorem w2 (i:Nat) (hi:i < l.len):w64 ((i:Int)+(2:Int))=((i+2:Nat):Int):=by
 have:=H.hi
 rw [za2 (by omega) (by omega)];omega
def nxt (l:Sl Gate) (kink:Int) (i:Nat) (p q:Int):List (List Int):=((zh2 (l.get (i+2)).Low (l.get (i+2)).High).filter fun r=>decide (Lk l (i+1) q r≤kink) && decide (tvl l i p q r≤kink)).map fun r=>[q,r]
theorem zKg (i:Nat) (hi:i+2 < l.len) (p q:Int):zvB l kink (s93 l) p q (i:Int) Fuel (l.get (i+2)).Low=true∧zl5 l kink (s93 l) p q (i:Int) Fuel (l.get (i+2)).Low=nxt l kink i p q:=by
 obtain ⟨b1,b2,b3,_,_⟩:=zds H (i+2) hi
 have hl:=H.hi
 have ha:∀ r,a56 kink (s93 l) q (i:Int) r=decide (Lk l (i+1) q r≤kink):=fun r=>by
  unfold a56
  rw [w1 H i (by omega),Int.toNat_natCast,zNI H (i+1) (by omega)]
 have hb:∀ r,b56 l kink p q (i:Int) r=decide (tvl l i p q r≤kink):=fun r=>by
  unfold b56
  rw [w1 H i (by omega),w2 H i (by omega),Int.toNat_natCast,Int.toNat_natCast,Int.toNat_natCast]
  rfl
 have hg:g56 l (i:Int)=true:=by
  unfold g56
  rw [w2 H i (by omega)]
  exact decide_eq_true (by omega)
 have hh:zvA l (i:Int)=(l.get (i+2)).High:=by
  unfold zvA
  rw [w2 H i (by omega),Int.toNat_natCast]
 have ho:∀ r,o56 l kink (s93 l) p q (i:Int) r=true:=fun r=>by
  unfold o56
  rw [hg,w1 H i (by omega),w2 H i (by omega),Int.toNat_natCast,Int.toNat_natCast,Int.toNat_natCast,zBX H i hi,(zka H).2.1,
   decide_eq_true (show 0≤((i+1:Nat):Int)∧((i+1:Nat):Int) < ((l.len - 1:Nat):Int) by omega),decide_eq_true (show 0≤(i:Int)∧(i:Int) < (l.len:Int) by omega),decide_eq_true (show 0≤((i+1:Nat):Int)∧((i+1:Nat):Int) < (l.len:Int) by omega)]
  cases a56 kink (s93 l) q (i:Int) r <;> rfl
 have key:∀ (n k:Nat) (r:Int),(l.get (i+2)).Low≤r→r+n=(l.get (i+2)).High+1→n < k→zvB l kink (s93 l) p q (i:Int) k r=true ∧
   zl5 l kink (s93 l) p q (i:Int) k r=((zpl n r).filter fun r=>decide (Lk l (i+1) q r≤kink) && decide (tvl l i p q r≤kink)).map fun r=>[q,r]:=by
  intro n
  induction n with
  | zero =>
   intro k r h1 h2 hk
   obtain ⟨k,rfl⟩:∃ k',k=k'+1:=⟨k - 1,by omega⟩
   unfold zvB zl5
   rw [hg,hh,decide_eq_false (show ¬ r≤(l.get (i+2)).High by omega),cond_false,cond_false]
   exact ⟨rfl,rfl⟩
  | succ n ih =>
   intro k r h1 h2 hk
   obtain ⟨k,rfl⟩:∃ k',k=k'+1:=⟨k - 1,by omega⟩
   obtain ⟨i1,i2⟩:=ih k (r+1) (by omega) (by omega) (by omega)
   unfold zvB zl5
   rw [hg,hh,decide_eq_true (show r≤(l.get (i+2)).High by omega),cond_true,cond_true,ho,ha,hb,za2 (by omega) (by omega),i1,i2]
   refine ⟨rfl,?_⟩
   rw [zpl,List.filter_cons]
   cases decide (Lk l (i+1) q r≤kink) && decide (tvl l i p q r≤kink) <;> rfl
 unfold nxt zh2
 exact key _ Fuel _ (Int.le_refl _) (by omega) (by simp only [Fuel];omega)
def zD6 (l:Sl Gate) (kink:Int) (i:Nat) (y:List Int):List (List Int):=if i+2=l.len then [] else nxt l kink i (y.getD 0 0) (y.getD 1 0)
theorem zFu (i:Nat) (hi:i+1 < l.len) (y:List Int):ok9 l kink (s93 l) Fuel (i:Int) l.len y=true∧ks9 l kink (s93 l) Fuel (i:Int) y=zD6 l kink i y:=by
 unfold ok9 ks9 zD6
 have h1:p94 (i:Int) l.len=true:=decide_eq_true (by omega)
 have h2:p94 (w64 ((i:Int)+(1:Int))) l.len=true:=by rw [w1 H i hi];exact decide_eq_true (by omega)
 have hg:i+2 < l.len→g56 l (i:Int)=true:=fun h=>by
  unfold g56
  rw [w2 H i (by omega)]
  exact decide_eq_true (by omega)
 rw [h1,h2,w2 H i (by omega)]
 by_cases h:i+2=l.len
 ·rw [if_pos h, show (((i + 2 : Nat) : Int) == (l.len : Int)) = true from by simp; omega]
  exact ⟨rfl,rfl⟩
 ·rw [if_neg h, show (((i + 2 : Nat) : Int) == (l.len : Int)) = false from by simp; omega, cond_false, cond_false, Int.toNat_natCast, hg (by omega)]
  obtain ⟨e1,e2⟩:=zKg H kink i (by omega) (y.getD 0 0) (y.getD 1 0)
  rw [e1,e2]
  exact ⟨rfl,rfl⟩
def rnd (l:Sl Gate) (kink:Int) (i:Nat) (z:Sl Span×MpS) (y:List Int):Sl Span×MpS:=(⟨z.1.len,s94 ((i+1:Nat):Int) (y.getD 1 0) (s94 (i:Int) (y.getD 0 0) z.1.get)⟩,insL z.2 (zD6 l kink i y))
theorem zQh (i:Nat) (hi:i+1 < l.len):zeD l kink (s93 l) Fuel (i:Int)=rnd l kink i:=by
 funext z y
 unfold zeD rnd
 rw [(zFu H kink i hi y).2,w1 H i hi]
end
end Go.Proofs
namespace Go.Proofs
open Go Go.Pm
set_option maxRecDepth 100000
theorem zB1 (i p:Int) (f:Nat→Span) (z:Nat):s94 i p f z=if z=i.toNat then ⟨if p < (f z).Low then p else (f z).Low,if p > (f z).High then p else (f z).High⟩ else f z:=by
 unfold s94
 cases h:Nat.beq z i.toNat with
 | true=>have:=Nat.eq_of_beq_eq_true h;subst this;rw [if_pos rfl]
 | false=>rw [if_neg (Nat.ne_of_beq_eq_false h)]
theorem met (i : Nat) (y0 y1 : Int) (f : Nat → Span) (j : Nat) :
  let g:=s94 ((i+1:Nat):Int) y1 (s94 (i:Int) y0 f)
  ((g j).Low≤(f j).Low∧(f j).High≤(g j).High)∧(j=i→(g j).Low≤y0∧y0≤(g j).High)∧(j=i+1→(g j).Low≤y1∧y1≤(g j).High) ∧
   ((g j).Low=(f j).Low∨(j=i∧(g j).Low=y0)∨(j=i+1∧(g j).Low=y1))∧((g j).High=(f j).High∨(j=i∧(g j).High=y0)∨(j=i+1∧(g j).High=y1)):=by
 intro g
 have e:g j=if j=i+1 then ⟨if y1 < (f j).Low then y1 else (f j).Low,if y1 > (f j).High then y1 else (f j).High⟩ else if j=i then ⟨if y0 < (f j).Low then y0 else (f j).Low,if y0 > (f j).High then y0 else (f j).High⟩ else f j:=by
  show s94 ((i+1:Nat):Int) y1 (s94 (i:Int) y0 f) j=_
  rw [zB1,zB1,Int.toNat_natCast,Int.toNat_natCast]
  by_cases h1:j=i+1
  ·have hji : ¬ j = i := by omega
   simp only [if_pos h1,if_neg hji]
  ·rw [if_neg h1,if_neg h1]
 rw [e]
 by_cases h1:j=i+1
 ·rw [if_pos h1]
  dsimp only
  refine ⟨⟨by split <;> omega,by split <;> omega⟩,fun h=>by omega,fun _=>⟨by split <;> omega,by split <;> omega⟩,?_,?_⟩
  ·split
   ·exact .inr (.inr ⟨h1,rfl⟩)
   ·exact .inl rfl
  ·split
   ·exact .inr (.inr ⟨h1,rfl⟩)
   ·exact .inl rfl
 ·rw [if_neg h1]
  by_cases h2:j=i
  ·rw [if_pos h2]
   dsimp only
   refine ⟨⟨by split <;> omega,by split <;> omega⟩,fun _=>⟨by split <;> omega,by split <;> omega⟩,fun h=>by omega,?_,?_⟩
   ·split
    ·exact .inr (.inl ⟨h2,rfl⟩)
    ·exact .inl rfl
   ·split
    ·exact .inr (.inl ⟨h2,rfl⟩)
    ·exact .inl rfl
  ·rw [if_neg h2]
   exact ⟨⟨Int.le_refl _,Int.le_refl _⟩,fun h=>absurd h h2,fun h=>absurd h h1,.inl rfl,.inl rfl⟩
theorem zD7 (s:MpS) (a b:List (List Int)):insL (insL s a) b=insL s (a ++ b):=by unfold insL;rw [List.foldl_append]
theorem zra (s:MpS) (a:List (List Int)) (c:List Int):(insL s a).2 c=if c∈a then some [1] else s.2 c:=zpn (fun _=>[1]) a s c
theorem zvJ (s:MpS) (a:List (List Int)) (h:Cnt s):Cnt (insL s a):=zpo (fun _=>[1]) a s h
section
variable {l:Sl Gate} {kink:Int}
theorem zvK (i:Nat):∀ (ys:List (List Int)) (z:Sl Span×MpS),
  (ys.foldl (rnd l kink i) z).1.len=z.1.len∧(ys.foldl (rnd l kink i) z).2=insL z.2 (ys.flatMap (zD6 l kink i)) ∧
  ∀ j,(((ys.foldl (rnd l kink i) z).1.get j).Low≤(z.1.get j).Low∧(z.1.get j).High≤((ys.foldl (rnd l kink i) z).1.get j).High) ∧
   (∀ y∈ys,(j=i→((ys.foldl (rnd l kink i) z).1.get j).Low≤y.getD 0 0∧y.getD 0 0≤((ys.foldl (rnd l kink i) z).1.get j).High)∧(j=i+1→((ys.foldl (rnd l kink i) z).1.get j).Low≤y.getD 1 0∧y.getD 1 0≤((ys.foldl (rnd l kink i) z).1.get j).High)) ∧
   (((ys.foldl (rnd l kink i) z).1.get j).Low=(z.1.get j).Low∨∃ y∈ys,(j=i∧((ys.foldl (rnd l kink i) z).1.get j).Low=y.getD 0 0)∨(j=i+1∧((ys.foldl (rnd l kink i) z).1.get j).Low=y.getD 1 0)) ∧
   (((ys.foldl (rnd l kink i) z).1.get j).High=(z.1.get j).High∨∃ y∈ys,(j=i∧((ys.foldl (rnd l kink i) z).1.get j).High=y.getD 0 0)∨(j=i+1∧((ys.foldl (rnd l kink i) z).1.get j).High=y.getD 1 0))
 | [],z=>⟨rfl,rfl,fun j=>⟨⟨Int.le_refl _,Int.le_refl _⟩,fun y hy=>by simp at hy,.inl rfl,.inl rfl⟩⟩
 | y :: ys,z=>by
  rw [List.foldl_cons]
  obtain ⟨h1,h2,h3⟩:=zvK i ys (rnd l kink i z y)
  refine ⟨h1,?_,fun j=>?_⟩
  ·rw [h2,List.flatMap_cons,← zD7];rfl
  ·obtain ⟨a1, a2, a3, a4⟩ := h3 j
   obtain ⟨m1,m2,m3,m4,m5⟩:=met i (y.getD 0 0) (y.getD 1 0) z.1.get j
   have eg:(rnd l kink i z y).1.get=s94 ((i+1:Nat):Int) (y.getD 1 0) (s94 (i:Int) (y.getD 0 0) z.1.get):=rfl
   rw [← eg] at m1 m2 m3 m4 m5
   generalize (ys.foldl (rnd l kink i) (rnd l kink i z y)).1.get j=g at *
   generalize (rnd l kink i z y).1.get j=g1 at *
   refine ⟨by omega,fun y' hy'=>?_,?_,?_⟩
   ·rcases List.mem_cons.1 hy' with e | hy'
    ·rw [e]
     exact ⟨fun h=>by have:=m2 h;omega,fun h=>by have:=m3 h;omega⟩
    ·exact a2 y' hy'
   ·rcases a3 with a3 | ⟨y', hy', a3⟩
    ·rcases m4 with m4 | m4 | m4
     ·exact .inl (a3.trans m4)
     ·exact .inr ⟨y,List.mem_cons_self,.inl ⟨m4.1,a3.trans m4.2⟩⟩
     ·exact .inr ⟨y,List.mem_cons_self,.inr ⟨m4.1,a3.trans m4.2⟩⟩
    ·exact .inr ⟨y',List.mem_cons_of_mem _ hy',a3⟩
   ·rcases a4 with a4 | ⟨y', hy', a4⟩
    ·rcases m5 with m5 | m5 | m5
     ·exact .inl (a4.trans m5)
     ·exact .inr ⟨y,List.mem_cons_self,.inl ⟨m5.1,a4.trans m5.2⟩⟩
     ·exact .inr ⟨y,List.mem_cons_self,.inr ⟨m5.1,a4.trans m5.2⟩⟩
    ·exact .inr ⟨y',List.mem_cons_of_mem _ hy',a4⟩
end
def Gd (l : Sl Gate) (kink : Int) : Nat → Int → Int → Prop
  | 0,p,q=>inG (l.get 0) p∧inG (l.get 1) q∧Lk l 0 p q≤kink
  | i+1,q,r=>inG (l.get (i+2)) r∧∃ p,Gd l kink i p q∧tvl l i p q r≤kink∧Lk l (i+1) q r≤kink
theorem zB2 {l : Sl Gate} {kink : Int} : ∀ {i : Nat} {p q : Int}, Gd l kink i p q → inG (l.get i) p ∧ inG (l.get (i + 1)) q ∧ Lk l i p q ≤ kink
  | 0,p,q,h=>h
  | i+1,q,r,h=>by
    obtain ⟨h1,p,h2,h3,h4⟩:=h
    exact ⟨(zB2 h2).2.1,h1,h4⟩
def Nw (l:Sl Gate) (kink:Int) (i:Nat) (F:List Int→Option (List Int)):Prop:=∀ c,F c ≠ none↔∃ p q,c=[p,q]∧Gd l kink i p q
section
variable {l:Sl Gate} (H:BG l) (kink:Int)
include H
end
section
variable {l:Sl Gate} (H:BG l) (kink:Int)
theorem zNJ {i:Nat} {F:List Int→Option (List Int)} (hF:Nw l kink i F) (c:List Int):c∈(zeC (l.get i) (l.get (i+1))).filter (fun c=>(F c).isSome)↔∃ p q,c=[p,q]∧Gd l kink i p q:=by
 rw [List.mem_filter,ziK,← hF c,Option.isSome_iff_ne_none]
 constructor
 ·exact fun h=>h.2
 ·intro h
  obtain ⟨p,q,rfl,hg⟩:=(hF c).1 h
  exact ⟨zgB.2 ⟨(zB2 hg).1,(zB2 hg).2.1⟩,h⟩
end
section
variable {l:Sl Gate} (H:BG l) (kink:Int)
include H
end
section
variable {l:Sl Gate} (H:BG l) (kink:Int)
theorem zKh {i:Nat} (hi:i+2 < l.len) {ys:List (List Int)} (hy:∀ c,c∈ys↔∃ p q,c=[p,q]∧Gd l kink i p q):Nw l kink (i+1) (insL (0,fun _=>none) (ys.flatMap (zD6 l kink i))).2:=by
 intro c
 rw [zra]
 have e:c∈ys.flatMap (zD6 l kink i)↔∃ q r,c=[q,r]∧Gd l kink (i+1) q r:=by
  rw [List.mem_flatMap]
  constructor
  ·rintro ⟨y, hy1, hc⟩
   obtain ⟨p,q,rfl,hg⟩:=(hy y).1 hy1
   unfold zD6 at hc
   rw [if_neg (by omega)] at hc
   unfold nxt at hc
   obtain ⟨r,hr,rfl⟩:=List.mem_map.1 hc
   obtain ⟨hr1,hr2⟩:=List.mem_filter.1 hr
   rw [Bool.and_eq_true,decide_eq_true_eq,decide_eq_true_eq] at hr2
   exact ⟨q,r,rfl,zc3.1 hr1,p,hg,hr2.2,hr2.1⟩
  ·rintro ⟨q, r, rfl, hr, p, hg, h1, h2⟩
   refine ⟨[p,q],(hy _).2 ⟨p,q,rfl,hg⟩,?_⟩
   unfold zD6
   rw [if_neg (by omega)]
   unfold nxt
   exact List.mem_map.2 ⟨r,List.mem_filter.2 ⟨zc3.2 hr,by rw [Bool.and_eq_true,decide_eq_true_eq,decide_eq_true_eq];exact ⟨h2,h1⟩⟩,rfl⟩
 by_cases hc:c∈ys.flatMap (zD6 l kink i)
 ·rw [if_pos hc];exact ⟨fun _=>e.1 hc,fun _=>by simp⟩
 ·rw [if_neg hc];exact ⟨fun h=>absurd rfl h,fun h=>absurd (e.2 h) hc⟩
end
section
variable {l:Sl Gate} (H:BG l) (kink:Int)
include H
end
end Go.Proofs
namespace Go.Proofs
open Go Go.Pm
set_option maxRecDepth 100000
def inS (s:Span) (p:Int):Prop:=s.Low≤p∧p≤s.High
def Att (l:Sl Gate) (kink:Int) (i:Nat) (j:Nat) (x:Int):Prop:=∃ j' p q,i≤j'∧j'+1 < l.len∧Gd l kink j' p q∧((j=j'∧x=p)∨(j=j'+1∧x=q))
theorem zvL {n:Nat} {F:List Int→Option (List Int)} {ys:List (List Int)} (h1:ys.length=n) (h2:∀ y∈ys,y.length=2∧F y ≠ none) (h3:ys.Nodup):keysB 2 n F ys=true:=by
 unfold keysB
 rw [Bool.and_eq_true,Bool.and_eq_true,zgJ,List.all_eq_true]
 refine ⟨⟨by rw [h1];simp,fun y hy=>?_⟩,h3⟩
 rw [Bool.and_eq_true]
 exact ⟨by rw [(h2 y hy).1];rfl,Option.isSome_iff_ne_none.2 (h2 y hy).2⟩
section
variable {l:Sl Gate} (H:BG l) (kink:Int)
include H
theorem lp8:∀ (m k i n:Nat) (F:List Int→Option (List Int)) (out:Sl Span),i+m+1=l.len→m < k→(i+1 < l.len→Nw l kink i F∧Cnt (n,F))→out.len=l.len →
  zeT l kink (s93 l) k n F (i:Int) out=true∧∃ o,zeS l kink (s93 l) k n F (i:Int) out=(o,0)∧o.len=l.len∧(∀ j,(o.get j).Low≤(out.get j).Low∧(out.get j).High≤(o.get j).High) ∧
   (∀ j p q,i≤j→j+1 < l.len→Gd l kink j p q→inS (o.get j) p∧inS (o.get (j+1)) q) ∧
   ∀ j,((o.get j).Low=(out.get j).Low∨Att l kink i j (o.get j).Low)∧((o.get j).High=(out.get j).High∨Att l kink i j (o.get j).High):=by
 have hl:=H.hi;have hlo:=H.lo
 have e1:w64 ((l.len:Int) - (1:Int))=((l.len - 1:Nat):Int):=by rw [za2 (by omega) (by omega)];omega
 intro m
 induction m with
 | zero =>
  intro k i n F out hi hk _ ho
  obtain ⟨k,rfl⟩:∃ k',k=k'+1:=⟨k - 1,by omega⟩
  have ep:zeT l kink (s93 l) (k+1) n F (i:Int) out=zhM l kink (s93 l) (zeT l kink (s93 l) k) n F (i:Int) out:=rfl
  have es:zeS l kink (s93 l) (k+1) n F (i:Int) out=zhL l kink (s93 l) (zeS l kink (s93 l) k) n F (i:Int) out:=rfl
  rw [ep,es]
  unfold zhM zhL
  rw [e1,decide_eq_false (show ¬ (i:Int) < ((l.len - 1:Nat):Int) by omega),cond_false,cond_false]
  exact ⟨rfl,out,rfl,ho,fun j=>⟨Int.le_refl _,Int.le_refl _⟩,fun j p q h1 h2=>by omega,fun j=>⟨.inl rfl,.inl rfl⟩⟩
 | succ m ih =>
  intro k i n F out hi hk hF ho
  obtain ⟨k,rfl⟩:∃ k',k=k'+1:=⟨k - 1,by omega⟩
  obtain ⟨hN,hC⟩:=hF (by omega)
  have ep:zeT l kink (s93 l) (k+1) n F (i:Int) out=zhM l kink (s93 l) (zeT l kink (s93 l) k) n F (i:Int) out:=rfl
  have es:zeS l kink (s93 l) (k+1) n F (i:Int) out=zhL l kink (s93 l) (zeS l kink (s93 l) k) n F (i:Int) out:=rfl
  rw [ep,es]
  unfold zhM zhL zoT zoS
  rw [e1,decide_eq_true (show (i:Int) < ((l.len - 1:Nat):Int) by omega),cond_true,cond_true,Int.toNat_natCast]
  have hy:=zNJ kink hN
  have hyn:((zeC (l.get i) (l.get (i+1))).filter (fun c=>(F c).isSome)).Nodup:=List.Pairwise.filter _ (by rw [ziK];exact zgU _ _)
  have hkb:keysB 2 n F ((zeC (l.get i) (l.get (i+1))).filter (fun c=>(F c).isSome))=true:=by
   refine zvL (zBV hC hyn fun x=>?_).symm (fun y hy'=>?_) hyn
   ·exact (hN x).trans (hy x).symm
   ·obtain ⟨p, q, rfl, hg⟩ := (hy y).1 hy'
    exact ⟨rfl,(hN _).2 ⟨p,q,rfl,hg⟩⟩
  generalize (zeC (l.get i) (l.get (i+1))).filter (fun c=>(F c).isSome)=ys at hy hyn hkb
  have hok:ys.all (ok9 l kink (s93 l) Fuel (i:Int) out.len)=true:=by
   rw [List.all_eq_true,ho]
   exact fun y _=>(zFu H kink i (by omega) y).1
  rw [hkb,zOi,zOj l kink (s93 l) _ n F (i:Int) (i:Int) ys out 0 _ hok,hok,zQh H kink i (by omega)]
  obtain ⟨r1,r2,r3⟩:=zvK (l:=l) (kink:=kink) i ys (out,(0,fun _=>none))
  generalize ys.foldl (rnd l kink i) (out,(0,fun _=>none))=z at r1 r2 r3
  unfold zl2 zl1
  rw [show w64 ((i:Int)+(1:Int))=((i+1:Nat):Int) from zcd (n:=l.len) (by omega) (by omega)]
  have hz:z.1.len=l.len:=r1.trans ho
  obtain ⟨q1,o,q2,q3,q4,q5,q6⟩:=ih k (i+1) z.2.1 z.2.2 z.1 (by omega) (by omega) (fun h=>by
   rw [r2]
   exact ⟨zKh kink (by omega) hy,zvJ _ _ zQe⟩) hz
  refine ⟨by rw [q1];rfl,o,q2,q3,fun j=>?_,fun j p q h1 h2 hg=>?_,fun j=>?_⟩
  ·have a := (r3 j).1
   have b:=q4 j
   have a:(z.1.get j).Low≤(out.get j).Low∧(out.get j).High≤(z.1.get j).High:=a
   omega
  ·by_cases e : j = i
   ·subst e
    have hm:=(hy [p,q]).2 ⟨p,q,rfl,hg⟩
    have a:=((r3 j).2.1 _ hm).1 rfl
    have b:=((r3 (j+1)).2.1 _ hm).2 rfl
    have a:(z.1.get j).Low≤p∧p≤(z.1.get j).High:=a
    have b:(z.1.get (j+1)).Low≤q∧q≤(z.1.get (j+1)).High:=b
    have c:=q4 j
    have d:=q4 (j+1)
    unfold inS
    omega
   ·exact q5 j p q (by omega) h2 hg
  ·have up : ∀ x, Att l kink (i + 1) j x → Att l kink i j x := fun x ⟨j', p, q, a, b, c, d⟩ => ⟨j', p, q, by omega, b, c, d⟩
   have here:∀ x,(∃ y∈ys,(j=i∧x=y.getD 0 0)∨(j=i+1∧x=y.getD 1 0))→Att l kink i j x:=fun x ⟨y,hy',h⟩=>by
    obtain ⟨p,q,rfl,hg⟩:=(hy y).1 hy'
    exact ⟨i,p,q,Nat.le_refl _,by omega,hg,h⟩
   obtain ⟨_,_,a3,a4⟩:=r3 j
   have a3:(z.1.get j).Low=(out.get j).Low∨_:=a3
   have a4:(z.1.get j).High=(out.get j).High∨_:=a4
   constructor
   ·rcases (q6 j).1 with h | h
    ·rcases a3 with h3 | h3
     ·exact .inl (h.trans h3)
     ·exact .inr (by rw [h];exact here _ h3)
    ·exact .inr (up _ h)
   ·rcases (q6 j).2 with h | h
    ·rcases a4 with h3 | h3
     ·exact .inl (h.trans h3)
     ·exact .inr (by rw [h];exact here _ h3)
    ·exact .inr (up _ h)
theorem zKi (hl2:1 < l.len):Nw l kink 0 ((zeC (l.get 0) (l.get 1)).foldl (zfU kink (s93 l)) (0,fun _=>none)).2∧Cnt ((zeC (l.get 0) (l.get 1)).foldl (zfU kink (s93 l)) (0,fun _=>none)):=by
 have e:∀ (ys:List (List Int)) (s:MpS),(∀ y∈ys,∃ p q,y=[p,q])→ys.foldl (zfU kink (s93 l)) s=insL s (ys.filter fun y=>decide (Lk l 0 (y.getD 0 0) (y.getD 1 0)≤kink)):=by
  intro ys
  induction ys with
  | nil=>intro s _;rfl
  | cons y ys ih =>
   intro s h
   obtain ⟨p,q,rfl⟩:=h y List.mem_cons_self
   rw [List.foldl_cons,ih _ (fun y hy=>h y (List.mem_cons_of_mem _ hy)),List.filter_cons]
   unfold zfU
   rw [zNI H 0 (by omega)]
   show insL (cond (decide (Lk l 0 p q≤kink)) (zE7 s [p,q]) s) _=insL s (if decide (Lk l 0 p q≤kink)=true then _ else _)
   cases decide (Lk l 0 p q≤kink) <;> rfl
 rw [e _ _ fun y hy=>by rw [ziK] at hy;obtain ⟨p,q,h,_⟩:=zej.1 hy;exact ⟨p,q,h⟩]
 refine ⟨fun c=>?_,zvJ _ _ zQe⟩
 rw [zra]
 have em:c∈(zeC (l.get 0) (l.get 1)).filter (fun y=>decide (Lk l 0 (y.getD 0 0) (y.getD 1 0)≤kink))↔∃ p q,c=[p,q]∧Gd l kink 0 p q:=by
  rw [List.mem_filter,ziK,zej,decide_eq_true_eq]
  constructor
  ·rintro ⟨⟨p, q, rfl, h1, h2⟩, h3⟩
   exact ⟨p,q,rfl,h1,h2,h3⟩
  ·rintro ⟨p, q, rfl, h1, h2, h3⟩
   exact ⟨⟨p,q,rfl,h1,h2⟩,h3⟩
 by_cases hc:c∈(zeC (l.get 0) (l.get 1)).filter (fun y=>decide (Lk l 0 (y.getD 0 0) (y.getD 1 0)≤kink))
 ·rw [if_pos hc];exact ⟨fun _=>em.1 hc,fun _=>by simp⟩
 ·rw [if_neg hc];exact ⟨fun h=>absurd rfl h,fun h=>absurd (em.2 h) hc⟩
end
end Go.Proofs
namespace Go.Proofs
open Go Go.Pm
set_option maxRecDepth 100000
def zB3:Sl Span:=⟨0,fun _=>default⟩
theorem zpq {α:Type} (i:Nat) (x:α) (f:Nat→α) (j:Nat):setT i x f j=if j=i then x else f j:=by
 unfold setT
 cases h:Nat.beq j i with
 | true=>rw [if_pos (Nat.eq_of_beq_eq_true h)]
 | false=>rw [if_neg (Nat.ne_of_beq_eq_false h)]
section
variable {l:Sl Gate} (H:BG l) (kink:Int)
include H
theorem zNK (out:Sl Span) (ho:out.len=l.len):zjw l kink (s93 l) out=true ∧
  ((∀ p q,¬ Gd l kink 0 p q)→zhO l kink (s93 l) out=(zB3,5)) ∧
  ((∃ p q,Gd l kink 0 p q)→∃ o,zhO l kink (s93 l) out=(o,0)∧o.len=l.len∧(∀ j p q,j+1 < l.len→Gd l kink j p q→inS (o.get j) p∧inS (o.get (j+1)) q) ∧
   ∀ j,((o.get j).Low=(out.get j).Low∨Att l kink 0 j (o.get j).Low)∧((o.get j).High=(out.get j).High∨Att l kink 0 j (o.get j).High)):=by
 have hl:=H.hi;have hlo:=H.lo
 obtain ⟨t1,t2,t3⟩:=zka H
 obtain ⟨f1,f2⟩:=zKi H kink (by omega)
 unfold zjw zhO zo1 zo0
 rw [t2,decide_eq_true (show 0≤(0:Int)∧(0:Int) < ((l.len - 1:Nat):Int) by omega),Bool.true_and,(t3 0 (by omega)).1,(t3 0 (by omega)).2,zNF]
 have hkb:keysB 2 (znp (l.get 0) (l.get (0+1))).length (tbl l 0).2 (zeC (l.get 0) (l.get 1))=true:=by
  rw [ziK]
  refine zvL rfl (fun y hy=>?_) (zgU _ _)
  obtain ⟨p,q,rfl,_⟩:=zej.1 hy
  exact ⟨rfl,(zvI l 0 _).2 hy⟩
 rw [hkb,zoZ,zoY]
 generalize (zeC (l.get 0) (l.get 1)).foldl (zfU kink (s93 l)) (0,fun _=>none)=z at f1 f2
 unfold zl7 zl6 zoX zoW zoV zoU ztd ztc
 have hz:z.1=0↔∀ p q,¬ Gd l kink 0 p q:=by
  obtain ⟨K,k1,k2,k3⟩:=f2
  constructor
  ·intro h p q hg
   have:[p,q]∈K:=(k3 _).1 ((f1 _).2 ⟨p,q,rfl,hg⟩)
   rw [h] at k2
   rw [List.eq_nil_of_length_eq_zero k2] at this;simp at this
  ·intro h
   have:K=[]:=by
    cases K with
    | nil=>rfl
    | cons c K =>
     obtain ⟨p,q,_,hg⟩:=(f1 c).1 ((k3 c).2 List.mem_cons_self)
     exact absurd hg (h p q)
   rw [← k2,this];rfl
 by_cases h0:z.1=0
 ·rw [show ((z.1 : Int) == (0:Int)) = true from by simp; omega, cond_true, cond_true]
  exact ⟨rfl,fun _=>rfl,fun ⟨p,q,hg⟩=>absurd hg (hz.1 h0 p q)⟩
 ·rw [show ((z.1 : Int) == (0:Int)) = false from by simp; omega, cond_false, cond_false]
  obtain ⟨q1,o,q2,q3,q4,q5,q6⟩:=lp8 H kink (l.len - 1) Fuel 0 z.1 z.2 out (by omega) (by simp only [Fuel];omega) (fun _=>⟨f1,f2⟩) ho
  refine ⟨by rw [show zhN l kink (s93 l) out (zeC (l.get 0) (l.get 1))=true from rfl];exact q1,fun h=>absurd (hz.2 h) h0,fun _=>⟨o,q2,q3,fun j p q h hg=>q5 j p q (Nat.zero_le _) h hg,q6⟩⟩
theorem zNL (hk:0≤kink∧kink≤1000000):p56 l kink=true∧((∀ p q,¬ Gd l kink 0 p q)→s56 l kink=(zB3,5)) ∧
  ((∃ p q,Gd l kink 0 p q)→∃ o,s56 l kink=(o,0)∧o.len=l.len∧(∀ j p q,j+1 < l.len→Gd l kink j p q→inS (o.get j) p∧inS (o.get (j+1)) q) ∧
   ∀ j,j < l.len→((o.get j).Low=1000001∨Att l kink 0 j (o.get j).Low)∧((o.get j).High = -1000001∨Att l kink 0 j (o.get j).High)):=by
 have hl:=H.hi;have hlo:=H.lo
 have init:∀ (m k i:Nat) (out:Sl Span),i+m=l.len→m < k→out.len=l.len→(∀ j,j < i→out.get j=⟨1000001,-1000001⟩) →
   ∃ o:Sl Span,o.len=l.len∧(∀ j,j < l.len→o.get j=⟨1000001,-1000001⟩)∧zfH l kink (s93 l) k (i:Int) out=zjw l kink (s93 l) o∧zfG l kink (s93 l) k (i:Int) out=zhO l kink (s93 l) o:=by
  intro m
  induction m with
  | zero =>
   intro k i out hi hk ho hj
   obtain ⟨k,rfl⟩:∃ k',k=k'+1:=⟨k - 1,by omega⟩
   refine ⟨out,ho,fun j h=>hj j (by omega),?_,?_⟩
   ·show zhQ l kink (s93 l) (zfH l kink (s93 l) k) (i : Int) out = _
    unfold zhQ
    rw [decide_eq_false (by omega),cond_false]
   ·show zhP l kink (s93 l) (zfG l kink (s93 l) k) (i : Int) out = _
    unfold zhP
    rw [decide_eq_false (by omega),cond_false]
  | succ m ih =>
   intro k i out hi hk ho hj
   obtain ⟨k,rfl⟩:∃ k',k=k'+1:=⟨k - 1,by omega⟩
   obtain ⟨o,o1,o2,o3,o4⟩:=ih k (i+1) ⟨out.len,setT i ⟨1000001,-1000001⟩ out.get⟩ (by omega) (by omega) ho (fun j hj'=>by
    show setT i _ out.get j=_
    rw [zpq]
    split
    ·rfl
    ·exact hj j (by omega))
   refine ⟨o,o1,o2,?_,?_⟩
   ·show zhQ l kink (s93 l) (zfH l kink (s93 l) k) (i : Int) out = _
    unfold zhQ
    rw [decide_eq_true (show (i:Int) < ((l.len:Int).toNat:Int) by omega),cond_true,decide_eq_true (show 0≤(i:Int)∧(i:Int) < (out.len:Int) by omega),decide_eq_true (show (i:Int).toNat < out.len by omega),Bool.true_and,Bool.true_and,Int.toNat_natCast,zcd (n:=l.len) (by omega) (by omega)]
    exact o3
   ·show zhP l kink (s93 l) (zfG l kink (s93 l) k) (i : Int) out = _
    unfold zhP
    rw [decide_eq_true (show (i:Int) < ((l.len:Int).toNat:Int) by omega),cond_true,Int.toNat_natCast,zcd (n:=l.len) (by omega) (by omega)]
    exact o4
 obtain ⟨b1,b2⟩:=zvG l (by omega)
 unfold p56 s56 zmc zmb zo5 zo4 zo3 zo2 ztf zte
 rw [b1,b2.2 H,zg5,decide_eq_true hk,(zka H).1,decide_eq_true (show 0≤(l.len:Int)∧(l.len:Int)=(l.len:Int)∧(l.len:Int)≤1000000 by omega)]
 simp only [Bool.not_true,cond_false,decide_true,Bool.true_and]
 obtain ⟨o,o1,o2,o3,o4⟩:=init l.len Fuel 0 ⟨(l.len:Int).toNat,fun _=>⟨0,0⟩⟩ (by omega) (by simp only [Fuel];omega) (by simp) (fun j h=>by omega)
 have o3:zfH l kink (s93 l) Fuel 0 ⟨(l.len:Int).toNat,fun _=>⟨0,0⟩⟩=_:=o3
 have o4:zfG l kink (s93 l) Fuel 0 ⟨(l.len:Int).toNat,fun _=>⟨0,0⟩⟩=_:=o4
 rw [o3,o4]
 obtain ⟨a1,a2,a3⟩:=zNK H kink o o1
 refine ⟨a1,a2,fun h=>?_⟩
 obtain ⟨o',c1,c2,c3,c4⟩:=a3 h
 refine ⟨o',c1,c2,c3,fun j hj=>?_⟩
 have:=c4 j
 rw [o2 j hj] at this
 exact this
end
end Go.Proofs
namespace Go.Pm
theorem zFv {β : Type} {c : Int → Bool} {fd : Int → β} {E : β} {EP : Bool} {fdP : Int → Bool} {lo hi : Int} {lpS : Nat → Int → β} {lpP : Nat → Int → Bool}
    (hS:∀ k r,lo≤r→r≤hi→lpS (k+1) r=cond (c r) (fd r) (lpS k (w64 (r+(1:Int))))) (hE:∀ k r,lo≤r→hi < r→lpS (k+1) r=E)
    (hP:∀ k r,lo≤r→r≤hi→lpP (k+1) r=cond (c r) (fdP r) (lpP k (w64 (r+(1:Int)))))
    (hPE:∀ k r,lo≤r→hi < r→lpP (k+1) r=EP)
    (h1 : -9223372036854775808≤lo) (h2:hi < 9223372036854775807) (h3:hi - lo < 9223372036854775800) :
    (∀ r0,lo≤r0→r0≤hi→c r0=true→(∀ r,lo≤r→r < r0→c r=false)→lpP Fuel lo=fdP r0∧lpS Fuel lo=fd r0) ∧
    ((∀ r,lo≤r→r≤hi→c r=false)→lpP Fuel lo=EP∧lpS Fuel lo=E):=by
  constructor
  · intro r0 a b hc hf
    have key:∀ (n k:Nat) (r:Int),lo≤r→r+n=r0→n < k→lpP k r=fdP r0∧lpS k r=fd r0:=by
      intro n
      induction n with
      | zero =>
        intro k r hl hr hk
        obtain ⟨k,rfl⟩:∃ k',k=k'+1:=⟨k - 1,by omega⟩
        have:r=r0:=by omega
        subst this
        rw [hS k r hl b,hP k r hl b,hc]
        exact ⟨rfl,rfl⟩
      | succ n ih =>
        intro k r hl hr hk
        obtain ⟨k,rfl⟩:∃ k',k=k'+1:=⟨k - 1,by omega⟩
        rw [hS k r hl (by omega),hP k r hl (by omega),hf r hl (by omega),za2 (by omega) (by omega)]
        exact ih k (r+1) (by omega) (by omega) (by omega)
    exact key (r0 - lo).toNat Fuel lo (Int.le_refl _) (by omega) (by simp only [Fuel];omega)
  · intro hf
    have key:∀ (n k:Nat) (r:Int),lo≤r→(r+n=hi+1∨n=0∧hi < r)→n < k→lpP k r=EP∧lpS k r=E:=by
      intro n
      induction n with
      | zero =>
        intro k r hl hr hk
        obtain ⟨k,rfl⟩:∃ k',k=k'+1:=⟨k - 1,by omega⟩
        exact ⟨hPE k r hl (by omega),hE k r hl (by omega)⟩
      | succ n ih =>
        intro k r hl hr hk
        obtain ⟨k,rfl⟩:∃ k',k=k'+1:=⟨k - 1,by omega⟩
        rw [hS k r hl (by omega),hP k r hl (by omega),hf r hl (by omega),za2 (by omega) (by omega)]
        exact ih k (r+1) (by omega) (by omega) (by omega)
    exact key (hi - lo+1).toNat Fuel lo (Int.le_refl _) (by omega) (by simp only [Fuel];omega)
theorem zpr {c:Int→Bool} {lo hi x:Int} (hx:lo≤x∧x≤hi) (hc:c x=true):∃ r0,lo≤r0∧r0≤hi∧r0≤x∧c r0=true∧∀ r,lo≤r→r < r0→c r=false:=by
 have key:∀ (n:Nat) (x:Int),lo+n=x→x≤hi→c x=true→∃ r0,lo≤r0∧r0≤hi∧r0≤x∧c r0=true∧∀ r,lo≤r→r < r0→c r=false:=by
  intro n
  induction n using Nat.strongRecOn with
  | ind n ih =>
   intro x hx hh hc
   by_cases h:∃ y,lo≤y∧y < x∧c y=true
   ·obtain ⟨y, y1, y2, y3⟩ := h
    obtain ⟨r0,a1,a2,a3,a4,a5⟩:=ih (y - lo).toNat (by omega) y (by omega) (by omega) y3
    exact ⟨r0,a1,a2,by omega,a4,a5⟩
   ·refine ⟨x, by omega, hh, Int.le_refl _, hc, fun r h1 h2 => ?_⟩
    cases e:c r with
    | false=>rfl
    | true=>exact absurd ⟨r,h1,h2,e⟩ h
 exact key (x - lo).toNat x (by omega) hx.2 hc
end Go.Pm
namespace Go.Proofs
open Go Go.Pm
set_option maxRecDepth 100000
theorem ziL (l:Sl Gate):zf6 l=znp (l.get 0) (l.get 1):=by
 have e:∀ a b,zOF a b=zh2 a b:=fun a b=>zvE _ _
 unfold zf6 znp
 simp only [e]
def ziP (l:Sl Gate):Int:=mnL ((znp (l.get 0) (l.get 1)).map fun y=>zdn ((tbl l 0).2 y) 0)
section
variable {l:Sl Gate} (H:BG l)
include H
theorem ziM:(∃ p q,inG (l.get 0) p∧inG (l.get 1) q∧Lk l 0 p q=ziP l)∧(∀ p q,inG (l.get 0) p→inG (l.get 1) q→ziP l≤Lk l 0 p q)∧0≤ziP l:=by
 have hl:=H.hi;have hlo:=H.lo
 have hnn:∀ x∈(znp (l.get 0) (l.get 1)).map (fun y=>zdn ((tbl l 0).2 y) 0),0≤x:=fun x hx=>by
  obtain ⟨y,hy,rfl⟩:=List.mem_map.1 hx
  obtain ⟨p,q,rfl,hp,hq⟩:=zej.1 hy
  exact zq9 H (l.len - 2) 0 (by omega) p q hp hq
 have hne:(znp (l.get 0) (l.get 1)).map (fun y=>zdn ((tbl l 0).2 y) 0) ≠ []:=fun e=>by
  have b0:=zds H 0 (by omega)
  have b1:=zds H 1 (by omega)
  have:[(l.get 0).Low,(l.get 1).Low]∈znp (l.get 0) (l.get 1):=zgB.2 ⟨⟨Int.le_refl _,b0.2.2.1⟩,Int.le_refl _,b1.2.2.1⟩
  rw [List.map_eq_nil_iff.1 e] at this;simp at this
 obtain ⟨h1,h2⟩:=zpm hnn hne
 refine ⟨?_,fun p q hp hq=>h2 _ (List.mem_map.2 ⟨[p,q],zgB.2 ⟨hp,hq⟩,rfl⟩),hnn _ h1⟩
 obtain ⟨y,hy,e⟩:=List.mem_map.1 h1
 obtain ⟨p,q,rfl,hp,hq⟩:=zej.1 hy
 exact ⟨p,q,hp,hq,e⟩
end
end Go.Proofs
namespace Go.Proofs
open Go Go.Pm
set_option maxRecDepth 100000
def zNM (l:Sl Gate) (K:Int) (f:Nat→Int):Prop:=Lin l f∧∀ j,j+2 < l.len→tvl l j (f j) (f (j+1)) (f (j+2))≤K
structure Ch (l : Sl Gate) (K : Int) (i : Nat) (v : Nat → Int) : Prop where
  ing:∀ j,j < i→inG (l.get j) (v j)
  kin:∀ j,j+2 < i→tvl l j (v j) (v (j+1)) (v (j+2))≤K
  rest:Lk l (i - 2) (v (i - 2)) (v (i - 1))≤K
  lex:∀ f,zNM l K f→∀ j,j < i→(∀ j',j' < j→f j'=v j')→v j≤f j
theorem zvM {α:Type} (n:Nat) (f:Nat→α) (x:α) (j:Nat) (hj:j≤n):zdN n f (fun _=>x) j=if j=n then x else f j:=by
 unfold zdN
 by_cases h:j=n
 ·subst h;rw [if_pos rfl,show Nat.ble j j=true from by simp]
 ·rw [if_neg h,show Nat.ble n j=false from by cases e:Nat.ble n j with | true=>have:=Nat.le_of_ble_eq_true e;omega | false=>rfl]
section
variable {l:Sl Gate} (H:BG l)
include H
theorem zvN (i:Nat) (hi:i+1 < l.len) (p q:Int):zdn (((s93 l).get i).F [p,q]) 0=Lk l i p q:=by
 rw [((zka H).2.2 i hi).2];rfl
theorem zNN (K : Int) (hK : 0 ≤ K) (i : Nat) (h2 : 2 ≤ i) (hi : i < l.len) (v : Sl Int) (hv : v.len = i) (C : Ch l K i v.get) (S8 : Int → Int → (Sl Int) → ((Sl Int) × Int × Int)) (P8 : Int → Int → (Sl Int) → Bool) :
    ∃ o:Sl Int,o.len=i+1∧Ch l K (i+1) o.get∧zgc l (s93 l) P8 K (i:Int) v=P8 K (w64 ((i:Int)+1)) o∧zgb l (s93 l) S8 K (i:Int) v=S8 K (w64 ((i:Int)+1)) o:=by
  have hl:=H.hi;have hlo:=H.lo
  have e1:w64 ((i:Int) - (1:Int))=((i - 1:Nat):Int):=zjV (by omega) (by omega)
  have e2:w64 ((i:Int) - (2:Int))=((i - 2:Nat):Int):=by rw [za2 (by omega) (by omega)];omega
  obtain ⟨b1,b2,b3,_,_⟩:=zds H i hi
  have hp:=C.ing (i - 2) (by omega)
  have hq:=C.ing (i - 1) (by omega)
  have ei:i - 2+1=i - 1:=by omega
  have ei2:i - 2+2=i:=by omega
  let c:Int→Bool:=fun r=>decide (tvl l (i - 2) (v.get (i - 2)) (v.get (i - 1)) r≤K) && decide (Lk l (i - 1) (v.get (i - 1)) r≤K)
  obtain ⟨⟨r1,x1,x2,x3⟩,_⟩:=ztX H (i - 2) (by omega) (v.get (i - 2)) (v.get (i - 1)) hp (by rw [ei];exact hq)
  rw [ei2] at x1
  rw [ei] at x2
  have hc1:c r1=true:=by
    show (decide _ && decide _)=true
    rw [Bool.and_eq_true,decide_eq_true_eq,decide_eq_true_eq]
    exact ⟨Int.le_trans x3 C.rest,Int.le_trans x2 C.rest⟩
  obtain ⟨r0,y1,y2,_,y4,y5⟩:=zpr (c:=c) x1 hc1
  have t9 : ∀ (S9 : Int → Int → Int → Int → Int → (Sl Int) → ((Sl Int) × Int × Int)) (r : Int), r ≤ (l.get i).High → zhw S8 l (s93 l) S9 K (i : Int) (v.get (i - 2)) (v.get (i - 1)) r v =
      cond (c r) (S8 K (w64 ((i:Int)+1)) ⟨v.len+1,zdN v.len v.get (fun _=>r)⟩) (S9 K (i:Int) (v.get (i - 2)) (v.get (i - 1)) (w64 (r+1)) v):=by
    intro S9 r hr
    unfold zhw zis
    rw [e1,e2,Int.toNat_natCast,Int.toNat_natCast,Int.toNat_natCast,decide_eq_true hr,cond_true,zvN H (i - 1) (by omega)]
    show cond (decide (s85 _ _ _ _ _ _≤K)) _ _=cond (decide _ && decide _) _ _
    have et:s85 (l.get (i - 2)).Z (l.get (i - 1)).Z (l.get i).Z (v.get (i - 2)) (v.get (i - 1)) r=tvl l (i - 2) (v.get (i - 2)) (v.get (i - 1)) r:=by unfold tvl;rw [ei,ei2]
    rw [et]
    cases decide (tvl l (i - 2) (v.get (i - 2)) (v.get (i - 1)) r≤K) <;> rfl
  have p9 : ∀ (P9 : Int → Int → Int → Int → Int → (Sl Int) → Bool) (r : Int), r ≤ (l.get i).High → zhx P8 l (s93 l) P9 K (i : Int) (v.get (i - 2)) (v.get (i - 1)) r v =
      cond (c r) (P8 K (w64 ((i:Int)+1)) ⟨v.len+1,zdN v.len v.get (fun _=>r)⟩) (P9 K (i:Int) (v.get (i - 2)) (v.get (i - 1)) (w64 (r+1)) v):=by
    intro P9 r hr
    have hp85:p85 (l.get (i - 2)).Z (l.get (i - 1)).Z (l.get i).Z (v.get (i - 2)) (v.get (i - 1)) r=true:=by
      have:=zBX H (i - 2) (by omega) (v.get (i - 2)) (v.get (i - 1)) r
      rwa [ei,ei2] at this
    unfold zhx zit
    rw [e1,e2,Int.toNat_natCast,Int.toNat_natCast,Int.toNat_natCast,decide_eq_true hr,cond_true,zvN H (i - 1) (by omega),hp85,(zka H).2.1,hv,
      decide_eq_true (show 0≤(i:Int)∧(i:Int) < (l.len:Int) by omega),decide_eq_true (show 0≤((i - 2:Nat):Int)∧((i - 2:Nat):Int) < (l.len:Int) by omega),decide_eq_true (show 0≤((i - 1:Nat):Int)∧((i - 1:Nat):Int) < (l.len:Int) by omega),
      decide_eq_true (show 0≤((i - 1:Nat):Int)∧((i - 1:Nat):Int) < ((l.len - 1:Nat):Int) by omega),decide_eq_true (show (i+1) * 8≤140737488355328∧i+1≤9223372036854775807 by omega)]
    simp only [decide_true,Bool.true_and]
    have et:s85 (l.get (i - 2)).Z (l.get (i - 1)).Z (l.get i).Z (v.get (i - 2)) (v.get (i - 1)) r=tvl l (i - 2) (v.get (i - 2)) (v.get (i - 1)) r:=by unfold tvl;rw [ei,ei2]
    rw [et]
    show cond (decide _) (cond (decide _) _ _) _=cond (decide _ && decide _) _ _
    cases decide (tvl l (i - 2) (v.get (i - 2)) (v.get (i - 1)) r≤K) <;> rfl
  obtain ⟨L, _⟩ := zFv (c := c) (lo := (l.get i).Low) (hi := (l.get i).High) (fd := fun r => S8 K (w64 ((i : Int) + 1)) ⟨v.len + 1, zdN v.len v.get (fun _ => r)⟩) (E := S8 K (w64 ((i : Int) + 1)) v)
    (fdP:=fun r=>P8 K (w64 ((i:Int)+1)) ⟨v.len+1,zdN v.len v.get (fun _=>r)⟩) (EP:=P8 K (w64 ((i:Int)+1)) v)
    (lpS:=fun k r=>zf9 S8 l (s93 l) k K (i:Int) (v.get (i - 2)) (v.get (i - 1)) r v) (lpP:=fun k r=>zga P8 l (s93 l) k K (i:Int) (v.get (i - 2)) (v.get (i - 1)) r v)
    (fun k r _ hr=>t9 (zf9 S8 l (s93 l) k) r hr)
    (fun k r _ hr=>by
      show zhw S8 l (s93 l) (zf9 S8 l (s93 l) k) K (i:Int) (v.get (i - 2)) (v.get (i - 1)) r v=_
      unfold zhw
      rw [Int.toNat_natCast,decide_eq_false (show ¬ r≤(l.get i).High by omega),cond_false])
    (fun k r _ hr=>p9 (zga P8 l (s93 l) k) r hr)
    (fun k r _ hr=>by
      show zhx P8 l (s93 l) (zga P8 l (s93 l) k) K (i:Int) (v.get (i - 2)) (v.get (i - 1)) r v=_
      unfold zhx
      rw [Int.toNat_natCast,decide_eq_false (show ¬ r≤(l.get i).High by omega),cond_false,decide_eq_true (show 0≤(i:Int)∧(i:Int) < (l.len:Int) by omega),Bool.true_and])
    (by omega) (by omega) (by omega)
  obtain ⟨L1,L2⟩:=L r0 y1 y2 y4 y5
  have hc0:tvl l (i - 2) (v.get (i - 2)) (v.get (i - 1)) r0≤K∧Lk l (i - 1) (v.get (i - 1)) r0≤K:=by
    have y4:(decide (tvl l (i - 2) (v.get (i - 2)) (v.get (i - 1)) r0≤K) && decide (Lk l (i - 1) (v.get (i - 1)) r0≤K))=true:=y4
    rwa [Bool.and_eq_true,decide_eq_true_eq,decide_eq_true_eq] at y4
  have og:∀ j,j≤i→zdN i v.get (fun _=>r0) j=if j=i then r0 else v.get j:=fun j hj=>zvM i v.get r0 j hj
  refine ⟨⟨v.len+1,zdN v.len v.get (fun _=>r0)⟩,by show v.len+1=i+1;rw [hv],?_,?_,?_⟩
  · rw [hv]
    refine ⟨fun j hj=>?_,fun j hj=>?_,?_,fun f hf j hj hb=>?_⟩
    · show inG _ (zdN i v.get (fun _ => r0) j)
      rw [og j (by omega)]
      split
      · rename_i e;rw [e];exact ⟨y1,y2⟩
      · exact C.ing j (by omega)
    · show tvl l j (zdN i v.get (fun _ => r0) j) (zdN i v.get (fun _ => r0) (j + 1)) (zdN i v.get (fun _ => r0) (j + 2)) ≤ K
      rw [og j (by omega),og (j+1) (by omega),og (j+2) (by omega),if_neg (by omega),if_neg (by omega)]
      split
      · rename_i e
        rw [show j=i - 2 by omega,ei];exact hc0.1
      · exact C.kin j (by omega)
    · show Lk l (i + 1 - 2) (zdN i v.get (fun _ => r0) (i + 1 - 2)) (zdN i v.get (fun _ => r0) (i + 1 - 1)) ≤ K
      rw [show i+1 - 2=i - 1 by omega,show i+1 - 1=i by omega,og (i - 1) (by omega),og i (by omega),if_neg (by omega),if_pos rfl]
      exact hc0.2
    · have hb : ∀ j', j' < j → f j' = zdN i v.get (fun _ => r0) j' := hb
      show zdN i v.get (fun _=>r0) j≤f j
      have hb':∀ j',j' < j→f j'=v.get j':=fun j' h=>by rw [hb j' h,og j' (by omega),if_neg (by omega)]
      rw [og j (by omega)]
      split
      · rename_i e
        subst e
        have g1:=hf.2 (j - 2) (by omega)
        rw [ei,ei2,hb' (j - 2) (by omega),hb' (j - 1) (by omega)] at g1
        have g2:=zwz H f hf.1 K hK (l.len - (j - 1) - 2) (j - 1) (by omega) (fun j' _ h=>hf.2 j' h)
        rw [show j - 1+1=j by omega,hb' (j - 1) (by omega)] at g2
        have hcf:c (f j)=true:=by
          show (decide _ && decide _)=true
          rw [Bool.and_eq_true,decide_eq_true_eq,decide_eq_true_eq]
          exact ⟨g1,g2⟩
        have hin:=hf.1 j (by omega)
        by_cases hlt:f j < r0
        · rw [y5 (f j) hin.1 hlt] at hcf;cases hcf
        · omega
      · exact C.lex f hf j (by omega) hb'
  · unfold zgc zsm
    rw [decide_eq_true (show (i:Int) < (l.len:Int) by omega),cond_true,e1,e2,Int.toNat_natCast,Int.toNat_natCast,Int.toNat_natCast,
      decide_eq_true (show 0≤((i - 2:Nat):Int)∧((i - 2:Nat):Int) < (v.len:Int) by omega),decide_eq_true (show i - 2 < v.len by omega),decide_eq_true (show 0≤((i - 1:Nat):Int)∧((i - 1:Nat):Int) < (v.len:Int) by omega),decide_eq_true (show i - 1 < v.len by omega),decide_eq_true (show 0≤(i:Int)∧(i:Int) < (l.len:Int) by omega)]
    simp only [Bool.true_and]
    exact L1
  · unfold zgb zsl
    rw [decide_eq_true (show (i:Int) < (l.len:Int) by omega),cond_true,e1,e2,Int.toNat_natCast,Int.toNat_natCast,Int.toNat_natCast]
    exact L2
end
end Go.Proofs
namespace Go.Proofs
open Go Go.Pm
set_option maxRecDepth 100000
section
variable {l:Sl Gate} (H:BG l)
include H
theorem zNO (K:Int) (hK:0≤K) (v:Sl Int) (hv:v.len=2) (C:Ch l K 2 v.get):zfw l (s93 l) K v=true∧∃ o:Sl Int,zfv l (s93 l) K v=(o,K,0)∧o.len=l.len∧Ch l K l.len o.get:=by
 have hl:=H.hi;have hlo:=H.lo
 have key:∀ (m k i:Nat) (v:Sl Int),i+m=l.len→m < k→2≤i→v.len=i→Ch l K i v.get→zey l (s93 l) k K (i:Int) v=true∧∃ o:Sl Int,zex l (s93 l) k K (i:Int) v=(o,K,0)∧o.len=l.len∧Ch l K l.len o.get:=by
  intro m
  induction m with
  | zero =>
   intro k i v hi hk _ hv C
   obtain ⟨k,rfl⟩:∃ k',k=k'+1:=⟨k - 1,by omega⟩
   have:i=l.len:=by omega
   subst this
   have ep:zey l (s93 l) (k+1) K (l.len:Int) v=zgc l (s93 l) (zey l (s93 l) k) K (l.len:Int) v:=rfl
   have es:zex l (s93 l) (k+1) K (l.len:Int) v=zgb l (s93 l) (zex l (s93 l) k) K (l.len:Int) v:=rfl
   rw [ep,es]
   unfold zgc zgb
   rw [decide_eq_false (show ¬ (l.len:Int) < (l.len:Int) by omega),cond_false,cond_false]
   exact ⟨rfl,v,rfl,hv,C⟩
  | succ m ih =>
   intro k i v hi hk h2 hv C
   obtain ⟨k,rfl⟩:∃ k',k=k'+1:=⟨k - 1,by omega⟩
   obtain ⟨o,o1,o2,o3,o4⟩:=zNN H K hK i h2 (by omega) v hv C (zex l (s93 l) k) (zey l (s93 l) k)
   have ep:zey l (s93 l) (k+1) K (i:Int) v=zgc l (s93 l) (zey l (s93 l) k) K (i:Int) v:=rfl
   have es:zex l (s93 l) (k+1) K (i:Int) v=zgb l (s93 l) (zex l (s93 l) k) K (i:Int) v:=rfl
   rw [ep,es,o3,o4,zcd (n:=l.len) (by omega) (by omega)]
   exact ih k (i+1) o (by omega) (by omega) (by omega) o1 o2
 exact key (l.len - 2) Fuel 2 v (by omega) (by simp only [Fuel];omega) (Nat.le_refl _) hv C
theorem zFw (K p : Int) (S5 : Int → Int → ((Sl Int) × Int × Int)) (P5 : Int → Int → Bool) :
    (∀ q0,inG (l.get 1) q0→Lk l 0 p q0=K→(∀ q,inG (l.get 1) q→q < q0→Lk l 0 p q ≠ K)→zoi P5 l (s93 l) K p (l.get 1).Low=zfw l (s93 l) K ⟨2,zfY p [p,q0]⟩∧zoh S5 l (s93 l) K p (l.get 1).Low=zfv l (s93 l) K ⟨2,zfY p [p,q0]⟩) ∧
    ((∀ q,inG (l.get 1) q→Lk l 0 p q ≠ K)→zoi P5 l (s93 l) K p (l.get 1).Low=P5 K (w64 (p+1))∧zoh S5 l (s93 l) K p (l.get 1).Low=S5 K (w64 (p+1))):=by
  have hl:=H.hi;have hlo:=H.lo
  obtain ⟨b1,b2,b3,_,_⟩:=zds H 1 (by omega)
  obtain ⟨F1, F2⟩ := zFv (c := fun q => Lk l 0 p q == K) (lo := (l.get 1).Low) (hi := (l.get 1).High) (fd := fun q => zfv l (s93 l) K ⟨2, zfY p [p, q]⟩) (E := S5 K (w64 (p + 1))) (fdP := fun q => zfw l (s93 l) K ⟨2, zfY p [p, q]⟩) (EP := P5 K (w64 (p + 1)))
    (lpS:=fun k q=>zgd S5 l (s93 l) k K p q) (lpP:=fun k q=>zge P5 l (s93 l) k K p q)
    (fun k q _ hr=>by
      show zhy S5 l (s93 l) (zgd S5 l (s93 l) k) K p q=_
      unfold zhy
      rw [decide_eq_true hr,cond_true,zvN H 0 (by omega)])
    (fun k q _ hr=>by
      show zhy S5 l (s93 l) (zgd S5 l (s93 l) k) K p q=_
      unfold zhy
      rw [decide_eq_false (show ¬ q≤(l.get 1).High by omega),cond_false])
    (fun k q _ hr=>by
      show zhz P5 l (s93 l) (zge P5 l (s93 l) k) K p q=_
      unfold zhz
      rw [decide_eq_true hr,cond_true,zvN H 0 (by omega),(zka H).2.1,decide_eq_true (show 0≤(1:Int)∧(1:Int) < (l.len:Int) by omega),decide_eq_true (show 0≤(0:Int)∧(0:Int) < ((l.len - 1:Nat):Int) by omega),Bool.true_and,Bool.true_and])
    (fun k q _ hr=>by
      show zhz P5 l (s93 l) (zge P5 l (s93 l) k) K p q=_
      unfold zhz
      rw [decide_eq_false (show ¬ q≤(l.get 1).High by omega),cond_false,decide_eq_true (show 0≤(1:Int)∧(1:Int) < (l.len:Int) by omega),Bool.true_and])
    (by omega) (by omega) (by omega)
  constructor
  · intro q0 hq he hf
    exact F1 q0 hq.1 hq.2 (by simp [he]) fun q h1 h2=>by
      have:=hf q ⟨h1,by have:=hq.2;omega⟩ h2
      simpa using this
  · intro hf
    exact F2 fun q h1 h2=>by simpa using hf q ⟨h1,h2⟩
open Classical in
theorem zNP (K p0 q0 : Int) (hp : inG (l.get 0) p0) (hq : inG (l.get 1) q0) (he : Lk l 0 p0 q0 = K) (h1 : ∀ q, inG (l.get 1) q → q < q0 → Lk l 0 p0 q ≠ K) (h2 : ∀ p q, inG (l.get 0) p → inG (l.get 1) q → p < p0 → Lk l 0 p q ≠ K) :
  zso l (s93 l) K (l.get 0).Low=zfw l (s93 l) K ⟨2,zfY p0 [p0,q0]⟩∧zsn l (s93 l) K (l.get 0).Low=zfv l (s93 l) K ⟨2,zfY p0 [p0,q0]⟩:=by
 have hl:=H.hi;have hlo:=H.lo
 obtain ⟨b1,b2,b3,_,_⟩:=zds H 0 (by omega)
 have key:∀ (n k:Nat) (p:Int),(l.get 0).Low≤p→p+n=p0→n < k→zd0 l (s93 l) k K p=zfw l (s93 l) K ⟨2,zfY p0 [p0,q0]⟩∧zdZ l (s93 l) k K p=zfv l (s93 l) K ⟨2,zfY p0 [p0,q0]⟩:=by
  intro n
  induction n with
  | zero =>
   intro k p hl' hr hk
   obtain ⟨k,rfl⟩:∃ k',k=k'+1:=⟨k - 1,by omega⟩
   have:p=p0:=by omega
   subst this
   obtain ⟨a1,_⟩:=zFw H K p (zdZ l (s93 l) k) (zd0 l (s93 l) k)
   obtain ⟨a2,a3⟩:=a1 q0 hq he h1
   have ep:zd0 l (s93 l) (k+1) K p=zhB l (s93 l) (zd0 l (s93 l) k) K p:=rfl
   have es:zdZ l (s93 l) (k+1) K p=zhA l (s93 l) (zdZ l (s93 l) k) K p:=rfl
   rw [ep,es]
   unfold zhB zhA
   rw [decide_eq_true (show p≤(l.get 0).High from hp.2),cond_true,cond_true,decide_eq_true (show 0≤(0:Int)∧(0:Int) < (l.len:Int) by omega),decide_eq_true (show 0≤(1:Int)∧(1:Int) < (l.len:Int) by omega),Bool.true_and,Bool.true_and]
   exact ⟨a2,a3⟩
  | succ n ih =>
   intro k p hl' hr hk
   obtain ⟨k,rfl⟩:∃ k',k=k'+1:=⟨k - 1,by omega⟩
   obtain ⟨_,a1⟩:=zFw H K p (zdZ l (s93 l) k) (zd0 l (s93 l) k)
   have hpin:inG (l.get 0) p:=⟨hl',by have:=hp.2;omega⟩
   obtain ⟨a2,a3⟩:=a1 fun q hq'=>h2 p q hpin hq' (by omega)
   have ep:zd0 l (s93 l) (k+1) K p=zhB l (s93 l) (zd0 l (s93 l) k) K p:=rfl
   have es:zdZ l (s93 l) (k+1) K p=zhA l (s93 l) (zdZ l (s93 l) k) K p:=rfl
   have hph:=hp.2
   rw [ep,es]
   unfold zhB zhA
   rw [decide_eq_true (show p≤(l.get 0).High by omega),cond_true,cond_true,decide_eq_true (show 0≤(0:Int)∧(0:Int) < (l.len:Int) by omega),decide_eq_true (show 0≤(1:Int)∧(1:Int) < (l.len:Int) by omega),Bool.true_and,Bool.true_and,a2,a3,za2 (by omega) (by omega)]
   exact ih k (p+1) (by omega) (by omega) (by omega)
 have hph:=hp.1;have hp2:=hp.2
 exact key (p0 - (l.get 0).Low).toNat Fuel _ (Int.le_refl _) (by omega) (by simp only [Fuel];omega)
theorem zNQ:p55 l=true∧∃ o:Sl Int,s55 l=(o,ziP l,0)∧o.len=l.len∧Ch l (ziP l) l.len o.get:=by
 have hl:=H.hi;have hlo:=H.lo
 obtain ⟨⟨p1,q1,hp1,hq1,e1⟩,kmin,knn⟩:=ziM H
 obtain ⟨p0,a1,a2,_,a4,a5⟩:=zpr (c:=fun p=>(zh2 (l.get 1).Low (l.get 1).High).any fun q=>Lk l 0 p q == ziP l) hp1 (by
  rw [List.any_eq_true];exact ⟨q1,zc3.2 hq1,by simp [e1]⟩)
 have a4:((zh2 (l.get 1).Low (l.get 1).High).any fun q=>Lk l 0 p0 q == ziP l)=true:=a4
 rw [List.any_eq_true] at a4
 obtain ⟨q2,c1,c2⟩:=a4
 obtain ⟨q0,d1,d2,_,d4,d5⟩:=zpr (c:=fun q=>Lk l 0 p0 q == ziP l) (zc3.1 c1) c2
 have he:Lk l 0 p0 q0=ziP l:=by simpa using d4
 have hf2:∀ p q,inG (l.get 0) p→inG (l.get 1) q→p < p0→Lk l 0 p q ≠ ziP l:=fun p q hp hq hlt e=>by
  have:=a5 p hp.1 hlt
  have h:((zh2 (l.get 1).Low (l.get 1).High).any fun q=>Lk l 0 p q == ziP l)=true:=List.any_eq_true.2 ⟨q,zc3.2 hq,by simp [e]⟩
  rw [h] at this;cases this
 have hf1:∀ q,inG (l.get 1) q→q < q0→Lk l 0 p0 q ≠ ziP l:=fun q hq hlt e=>by
  have:=d5 q hq.1 hlt
  simp [e] at this
 have C:Ch l (ziP l) 2 (zfY p0 [p0,q0]):=by
  have g0:zfY p0 [p0,q0] 0=p0:=rfl
  have g1:zfY p0 [p0,q0] 1=q0:=rfl
  refine ⟨fun j hj=>?_,fun j hj=>by omega,by rw [show (2 - 2:Nat)=0 from rfl,show (2 - 1:Nat)=1 from rfl,g0,g1,he];exact Int.le_refl _,fun f hf j hj hb=>?_⟩
  ·match j,hj with
   | 0,_=>exact ⟨a1,a2⟩
   | 1,_=>exact ⟨d1,d2⟩
  ·have f0 := hf.1 0 (by omega)
   have f1:=hf.1 1 (by omega)
   have hle:=zwz H f hf.1 (ziP l) knn (l.len - 2) 0 (by omega) (fun j _ h=>hf.2 j h)
   have hge:=kmin _ _ f0 f1
   have hle:Lk l 0 (f 0) (f 1)≤ziP l:=hle
   have heq:Lk l 0 (f 0) (f 1)=ziP l:=by omega
   match j,hj,hb with
   | 0,_,_ =>
    show p0≤f 0
    by_cases h:f 0 < p0
    ·exact absurd heq (hf2 _ _ f0 f1 h)
    ·omega
   | 1,_,hb =>
    show q0≤f 1
    have e0:f 0=p0:=hb 0 (by omega)
    rw [e0] at heq
    by_cases h:f 1 < q0
    ·exact absurd heq (hf1 _ f1 h)
    ·omega
 obtain ⟨z1,z2⟩:=zNO H (ziP l) knn ⟨2,zfY p0 [p0,q0]⟩ rfl C
 obtain ⟨y1,y2⟩:=zNP H (ziP l) p0 q0 ⟨a1,a2⟩ ⟨d1,d2⟩ he hf1 hf2
 obtain ⟨b1,b2⟩:=zvG l (by omega)
 obtain ⟨t1,t2,t3⟩:=zka H
 have hF:((s93 l).get 0).F=(tbl l 0).2:=(t3 0 (by omega)).2
 have hn:((s93 l).get 0).n=(tbl l 0).1:=(t3 0 (by omega)).1
 have hkeys:∀ y∈zf6 l,y.length=2:=fun y hy=>by
  rw [ziL] at hy
  obtain ⟨p,q,rfl,_⟩:=zej.1 hy
  rfl
 have hfold:(zf6 l).foldl (kst ((s93 l).get 0).F) (-1)=ziP l:=by
  rw [hF,ziL]
  unfold ziP mnL
  rw [List.foldl_map]
  rfl
 unfold p55 s55 zou zot zos zor zoq zop zoo zon
 rw [b1,b2.2 H,t1,t2,decide_eq_true (show 0≤(0:Int)∧(0:Int) < ((l.len - 1:Nat):Int) by omega),zol _ _ _ _ hkeys,zom _ _ _ _ hkeys,hfold]
 unfold zlA zlz zok zoj
 rw [y1,y2,z1]
 have hkb:keysB 2 ((s93 l).get 0).n ((s93 l).get 0).F (zf6 l)=true:=by
  unfold keysB
  rw [hn,hF,zNF,ziL,Bool.and_eq_true,Bool.and_eq_true,zgJ,List.all_eq_true]
  refine ⟨⟨by simp,fun y hy=>?_⟩,zgU _ _⟩
  have hy':=(zvI l 0 y).2 hy
  obtain ⟨p,q,rfl,_⟩:=zej.1 hy
  rw [Bool.and_eq_true]
  exact ⟨rfl,Option.isSome_iff_ne_none.2 hy'⟩
 have hI:zeQ l (s93 l) (zf6 l)=true:=by
  unfold zeQ
  rw [List.all_eq_true]
  intro y hy
  rw [ziL] at hy
  obtain ⟨p,q,rfl,hp,hq⟩:=zej.1 hy
  rw [hF]
  exact decide_eq_true (zq9 H (l.len - 2) 0 (by omega) p q hp hq)
 rw [hkb,hI,decide_eq_true (show 0≤(0:Int)∧(0:Int) < (l.len:Int) by omega)]
 exact ⟨rfl,z2⟩
end
end Go.Proofs
namespace Go.Proofs
open Go Go.Pm
set_option maxRecDepth 100000
def wd (l:Sl Gate) (i:Nat):Nat:=(zh2 (l.get i).Low (l.get i).High).length
def suf (l : Sl Gate) : Nat → Nat → List (List Int)
  | 0,_=>[[]]
  | m+1,n=>(zh2 (l.get n).Low (l.get n).High).flatMap fun p=>(suf l m (n+1)).map (p :: ·)
def pr (l : Sl Gate) : Nat → Nat
  | 0=>1
  | n+1=>pr l n * wd l n
theorem zkC : ∀ (n : Nat) (a : Int), (zpl n a).length = n
  | 0,_=>rfl
  | n+1,a=>by rw [zpl,List.length_cons,zkC n]
theorem zvO {α β : Type} (f : α → List β) (c : Nat) : ∀ (l : List α), (∀ x ∈ l, (f x).length = c) → (l.flatMap f).length = l.length * c
  | [],_=>by simp
  | x :: l,h=>by
    rw [List.flatMap_cons,List.length_append,h x List.mem_cons_self,zvO f c l (fun y hy=>h y (List.mem_cons_of_mem _ hy)),List.length_cons,Nat.succ_mul];omega
theorem zB4 (l:Sl Gate):∀ (m n:Nat),(suf l (m+1) n).length=wd l n * (suf l m (n+1)).length:=fun m n =>
 zvO _ _ _ fun p _=>List.length_map _
theorem zB5 (l : Sl Gate) : ∀ (m n : Nat), pr l n * (suf l m n).length = pr l (n + m)
  | 0,n=>by simp [suf]
  | m+1,n=>by
    rw [zB4,← Nat.mul_assoc,show pr l n * wd l n=pr l (n+1) from rfl,zB5 l m (n+1)]
    congr 1;omega
theorem zps (l : Sl Gate) : ∀ {m n : Nat} {s : List Int}, s ∈ suf l m n ↔ s.length = m ∧ ∀ j, j < m → inG (l.get (n + j)) (s.getD j 0)
  | 0,n,s=>by
    simp only [suf,List.mem_singleton]
    constructor
    · rintro rfl;exact ⟨rfl,fun j hj=>by omega⟩
    · intro h;exact List.eq_nil_of_length_eq_zero h.1
  | m+1,n,s=>by
    simp only [suf,List.mem_flatMap,List.mem_map,zc3]
    constructor
    · rintro ⟨p, hp, t, ht, rfl⟩
      obtain ⟨h1,h2⟩:=zps l |>.1 ht
      refine ⟨by simp [h1],fun j hj=>?_⟩
      cases j with
      | zero=>exact hp
      | succ j =>
        have:=h2 j (by omega)
        rw [show n+(j+1)=n+1+j by omega]
        simpa using this
    · rintro ⟨h1, h2⟩
      cases s with
      | nil=>simp at h1
      | cons p t =>
        refine ⟨p,by have:=h2 0 (by omega);simpa [inG] using this,t,zps l |>.2 ⟨by simpa using h1,fun j hj=>?_⟩,rfl⟩
        have:=h2 (j+1) (by omega)
        rw [show n+(j+1)=n+1+j by omega] at this
        simpa using this
def zQi (a b:List Int):Prop:=∃ j,(∀ j',j' < j→a.getD j' 0=b.getD j' 0)∧a.getD j 0 < b.getD j 0∧j < a.length∧j < b.length
theorem zB6 : ∀ (n : Nat) (a : Int), (zpl n a).Pairwise (· < ·)
  | 0,_=>List.Pairwise.nil
  | n+1,a=>List.Pairwise.cons (fun x hx=>by have:=zkB.1 hx;omega) (zB6 n (a+1))
theorem zB7 (l : Sl Gate) : ∀ (m n : Nat), (suf l m n).Pairwise zQi
  | 0,n=>List.pairwise_singleton _ _
  | m+1,n=>by
    unfold suf
    rw [List.pairwise_flatMap]
    refine ⟨fun p _=>?_,?_⟩
    · rw [List.pairwise_map]
      refine (zB7 l m (n+1)).imp ?_
      rintro a b ⟨j,h1,h2,h3,h4⟩
      refine ⟨j+1,fun j' hj'=>?_,by simpa using h2,by simpa using h3,by simpa using h4⟩
      cases j' with
      | zero=>rfl
      | succ j'=>simpa using h1 j' (by omega)
    · refine (zB6 _ _).imp ?_
      intro p q hpq x hx y hy
      obtain ⟨a,_,rfl⟩:=List.mem_map.1 hx
      obtain ⟨b,_,rfl⟩:=List.mem_map.1 hy
      exact ⟨0,fun j' hj'=>by omega,by simpa using hpq,by simp,by simp⟩
def asL {α:Type} (x:Sl α):List α:=(List.range x.len).map x.get
theorem zpt {α:Type} (x:Sl α):(asL x).length=x.len:=by simp [asL]
theorem ztY {α:Type} (x:Sl α) (j:Nat) (hj:j < x.len):(asL x)[j]? = some (x.get j):=by simp [asL,hj]
theorem ziN {x:Sl Int} {j:Nat} (hj:j < x.len):(asL x).getD j 0=x.get j:=by
 rw [List.getD_eq_getElem?_getD, ztY x j hj];rfl
theorem zB8 {α:Type} (x y:Sl α):asL (⟨x.len+y.len,zdN x.len x.get y.get⟩:Sl α)=asL x ++ asL y:=by
 unfold asL
 refine List.ext_getElem? fun j=>?_
 by_cases h1:j < x.len
 ·rw [List.getElem?_append_left (by simpa using h1)]
  simp only [List.getElem?_map,List.getElem?_range h1,List.getElem?_range (show j < x.len+y.len by omega),Option.map_some,zdN]
  rw [show Nat.ble x.len j=false from by cases h:Nat.ble x.len j with | true=>have:=Nat.le_of_ble_eq_true h;omega | false=>rfl]
 ·rw [List.getElem?_append_right (by simp; omega)]
  simp only [List.length_map,List.length_range,List.getElem?_map]
  by_cases h2:j < x.len+y.len
  ·rw [List.getElem?_range h2, List.getElem?_range (show j - x.len < y.len by omega)]
   simp only [Option.map_some,zdN]
   rw [show Nat.ble x.len j=true from Nat.ble_eq_true_of_le (by omega)]
  ·rw [List.getElem?_eq_none (by simp; omega), List.getElem?_eq_none (by simp; omega)]
   rfl
def ztZ (R:Sl (Sl Int)):List (List Int):=(asL R).map asL
theorem zD8 (b:Sl Int) (p:Int):asL (⟨b.len+1,zbb (appG b.len (fun i=>zal (b.get i)) (fun _=>(zal p)))⟩:Sl Int)=asL b ++ [p]:=by
 have e:(zbb (appG b.len (fun i=>zal (b.get i)) (fun _=>(zal p))))=zdN b.len b.get (fun _=>p):=by
  rw [zn3 (enc:=zal) (h:=fun _=>p),zbG]
 rw [e]
 exact zB8 b ⟨1,fun _=>p⟩
theorem zKj (l : Sl Gate) (hb : ∀ i, i < l.len → -1000000 ≤ (l.get i).Low ∧ (l.get i).High ≤ 1000000 ∧ (l.get i).Low ≤ (l.get i).High) (h8 : l.len ≤ 20) (h3 : pr l l.len ≤ 3000) :
  ∀ (m k n:Nat) (b:Sl Int),n+m=l.len→b.len=n→m < k→(zdd k).P l b=true∧ztZ ((zdd k).S l b)=(suf l m n).map (asL b ++ ·):=by
 have hw:∀ i,i < l.len→1≤wd l i:=fun i hi=>by
  have:=hb i hi
  unfold wd zh2
  rw [zkC];omega
 have hpos:∀ n,n≤l.len→1≤pr l n:=by
  intro n
  induction n with
  | zero=>intro _;exact Nat.le_refl _
  | succ n ih=>intro hn;exact Nat.mul_le_mul (ih (by omega)) (hw n (by omega))
 have hcn:∀ m n,n+m=l.len→(suf l m n).length≤3000:=fun m n hn=>by
  have:=zB5 l m n
  rw [hn] at this
  have h1:=hpos n (by omega)
  have h2:1 * (suf l m n).length≤pr l n * (suf l m n).length:=Nat.mul_le_mul_right _ h1
  omega
 intro m
 induction m with
 | zero =>
  intro k n b hn hbl hk
  obtain ⟨k,rfl⟩:∃ k',k=k'+1:=⟨k - 1,by omega⟩
  have eP:(zdd (k+1)).P l b = @zFe ⟨zdd k⟩ l b:=rfl
  have eS:(zdd (k+1)).S l b = @zCh ⟨zdd k⟩ l b:=rfl
  rw [eP,eS]
  unfold zFe zCh
  rw [show ((b.len:Int) == (l.len:Int))=true from by simp;omega,cond_true,cond_true,decide_eq_true (show b.len * 8≤140737488355328∧b.len≤9223372036854775807 by omega)]
  refine ⟨rfl,?_⟩
  simp [ztZ, asL,suf]
 | succ m ih =>
  intro k n b hn hbl hk
  obtain ⟨k,rfl⟩:∃ k',k=k'+1:=⟨k - 1,by omega⟩
  have eP:(zdd (k+1)).P l b = @zFe ⟨zdd k⟩ l b:=rfl
  have eS:(zdd (k+1)).S l b = @zCh ⟨zdd k⟩ l b:=rfl
  have hb':=hb n (by omega)
  rw [eP,eS]
  unfold zFe zCh
  rw [show ((b.len:Int) == (l.len:Int))=false from by simp;omega,cond_false,cond_false]
  unfold zpd zpc
  rw [hbl,decide_eq_true (show 0≤(n:Int)∧(n:Int) < (l.len:Int) by omega),Bool.true_and,Int.toNat_natCast]
  -- the loop
  have key:∀ (c q:Nat) (p:Int) (v:Sl (Sl Int)),(l.get n).Low≤p→p+c=(l.get n).High+1→c < q→v.len+c * (suf l m (n+1)).length≤3000 →
    @zfJ ⟨zdd k⟩ l b q p v=true∧ztZ (@zfI ⟨zdd k⟩ l b q p v)=ztZ v ++ ((zpl c p).flatMap fun p=>(suf l m (n+1)).map (p :: ·)).map (asL b ++ ·):=by
   intro c
   induction c with
   | zero =>
    intro q p v hp hc hq hv
    obtain ⟨q,rfl⟩:∃ q',q=q'+1:=⟨q - 1,by omega⟩
    have ep : @zfJ ⟨zdd k⟩ l b (q+1) p v = @zgQ ⟨zdd k⟩ l b (@zfJ ⟨zdd k⟩ l b q) p v:=rfl
    have es : @zfI ⟨zdd k⟩ l b (q+1) p v = @zgP ⟨zdd k⟩ l b (@zfI ⟨zdd k⟩ l b q) p v:=rfl
    rw [ep,es]
    unfold zgQ zgP
    rw [hbl,Int.toNat_natCast,decide_eq_true (show 0≤(n:Int)∧(n:Int) < (l.len:Int) by omega),decide_eq_false (show ¬ p≤(l.get n).High by omega)]
    refine ⟨rfl,?_⟩
    simp [zpl]
   | succ c ihc =>
    intro q p v hp hc hq hv
    obtain ⟨q,rfl⟩:∃ q',q=q'+1:=⟨q - 1,by omega⟩
    have ep : @zfJ ⟨zdd k⟩ l b (q+1) p v = @zgQ ⟨zdd k⟩ l b (@zfJ ⟨zdd k⟩ l b q) p v:=rfl
    have es : @zfI ⟨zdd k⟩ l b (q+1) p v = @zgP ⟨zdd k⟩ l b (@zfI ⟨zdd k⟩ l b q) p v:=rfl
    rw [ep,es]
    obtain ⟨r1,r2⟩:=ih k (n+1) (⟨b.len+1,zbb (appG b.len (fun i=>zal (b.get i)) (fun _=>(zal p)))⟩:Sl Int) (by omega) (by rw [hbl]) (by omega)
    rw [zD8] at r2
    unfold zgQ zgP
    rw [show (@Slf95.r (Slf95.mk (zdd k)))=zdd k from rfl]
    rw [hbl] at r1 r2
    rw [hbl,Int.toNat_natCast,decide_eq_true (show 0≤(n:Int)∧(n:Int) < (l.len:Int) by omega),decide_eq_true (show p≤(l.get n).High by omega),cond_true,cond_true,r1]
    generalize (zdd k).S l (⟨n+1,zbb (appG n (fun i=>zal (b.get i)) (fun _=>(zal p)))⟩:Sl Int)=R at r2
    have hR:R.len=(suf l m (n+1)).length:=by
     have:=congrArg List.length r2
     simpa [ztZ, zpt] using this
    rw [Nat.succ_mul] at hv
    have happ:ztZ (⟨v.len+R.len,zdN v.len v.get R.get⟩:Sl (Sl Int))=ztZ v ++ ztZ R:=by
     unfold ztZ;rw [zB8,List.map_append]
    obtain ⟨k1,k2⟩:=ihc q (p+1) (⟨v.len+R.len,zdN v.len v.get R.get⟩:Sl (Sl Int)) (by omega) (by omega) (by omega) (by show v.len+R.len+_≤_;omega)
    rw [decide_eq_true (show n * 8≤140737488355328∧n≤9223372036854775807 by omega),decide_eq_true (show (n+1) * 8≤140737488355328∧n+1≤9223372036854775807 by omega),
     decide_eq_true (show (v.len+R.len) * 24≤140737488355328∧v.len+R.len≤9223372036854775807 by omega),za2 (x:=p+1) (by omega) (by omega),k2,happ,r2]
    refine ⟨k1,?_⟩
    simp [zpl,List.flatMap_cons,List.map_append,List.append_assoc,List.map_map,Function.comp_def]
  unfold zpb zpa
  have hcm:=hcn (m+1) n (by omega)
  rw [zB4] at hcm
  obtain ⟨k1,k2⟩:=key ((l.get n).High - (l.get n).Low+1).toNat Fuel (l.get n).Low ⟨0,fun _=>default⟩ (Int.le_refl _) (by omega) (by simp only [Fuel];omega) (by
   unfold wd zh2 at hcm;rw [zkC] at hcm;simpa using hcm)
  exact ⟨k1,k2⟩
theorem zNR (l : Sl Gate) (B : BG l) (hp57 : p57 l = true) (hs57 : s57 l = true) (hb : ∀ i, i < l.len → -1000000 ≤ (l.get i).Low ∧ (l.get i).High ≤ 1000000 ∧ (l.get i).Low ≤ (l.get i).High) :
  p54 l 3000=true∧(s54 l 3000=true→pr l l.len≤3000):=by
 have h8:=B.hi
 have hwd:∀ i,i < l.len→(wd l i:Int)=(l.get i).High - (l.get i).Low+1:=fun i hi=>by
  have:=hb i hi
  unfold wd zh2
  rw [zkC];omega
 have hwb:∀ i,i < l.len→1≤wd l i∧wd l i≤61:=fun i hi=>by
  have h1:=hwd i hi
  have h2:=hb i hi
  have h3:=B.wide i hi
  omega
 have key:∀ (m k i:Nat) (nv:Int),i+m=l.len→m < k→nv=(if pr l i≤3000 then (pr l i:Int) else 3001)→zgv l 3000 k nv (i:Int)=true∧zgu l 3000 k nv (i:Int)=decide (pr l l.len≤3000):=by
  intro m
  induction m with
  | zero =>
   intro k i nv hi hk hn
   obtain ⟨k,rfl⟩:∃ k',k=k'+1:=⟨k - 1,by omega⟩
   have:i=l.len:=by omega
   subst this
   have ep:zgv l 3000 (k+1) nv (l.len:Int)=zjG l 3000 (zgv l 3000 k) nv (l.len:Int):=rfl
   have es:zgu l 3000 (k+1) nv (l.len:Int)=zjF l 3000 (zgu l 3000 k) nv (l.len:Int):=rfl
   rw [ep,es]
   unfold zjG zjF
   rw [decide_eq_false (show ¬ (l.len:Int) < (l.len:Int) by omega),cond_false,cond_false]
   refine ⟨rfl,?_⟩
   rw [hn]
   by_cases h:pr l l.len≤3000
   ·rw [if_pos h,decide_eq_true h,decide_eq_true (by omega)]
   ·rw [if_neg h,decide_eq_false h];rfl
  | succ m ih =>
   intro k i nv hi hk hn
   obtain ⟨k,rfl⟩:∃ k',k=k'+1:=⟨k - 1,by omega⟩
   have ep:zgv l 3000 (k+1) nv (i:Int)=zjG l 3000 (zgv l 3000 k) nv (i:Int):=rfl
   have es:zgu l 3000 (k+1) nv (i:Int)=zjF l 3000 (zgu l 3000 k) nv (i:Int):=rfl
   rw [ep,es]
   have h1:=hwd i (by omega)
   have h2:=hb i (by omega)
   obtain ⟨h3,h4⟩:=hwb i (by omega)
   unfold zjG zjF
   rw [decide_eq_true (show (i:Int) < (l.len:Int) by omega),cond_true,cond_true,Int.toNat_natCast,decide_eq_true (show 0≤(i:Int)∧(i:Int) < (l.len:Int) by omega),zcd (n:=l.len) (by omega) (by omega)]
   simp only [Bool.true_and]
   have e1:w64 ((l.get i).High - (l.get i).Low)=(l.get i).High - (l.get i).Low:=za2 (by omega) (by omega)
   have e2:w64 ((l.get i).High - (l.get i).Low+1)=(wd l i:Int):=by rw [za2 (by omega) (by omega)];omega
   have e3:w64 ((3000:Int)+1)=3001:=za2 (by omega) (by omega)
   rw [e1,e2,e3]
   have hnb:1≤nv∧nv≤3001:=by
    rw [hn]
    have:1≤pr l i:=by
     have:∀ n,n≤l.len→1≤pr l n:=by
      intro n
      induction n with
      | zero=>intro _;exact Nat.le_refl _
      | succ n ih=>intro hn;exact Nat.mul_le_mul (ih (by omega)) (hwb n (by omega)).1
     exact this i (by omega)
    split <;> omega
   have hmul:0≤nv * (wd l i:Int)∧nv * (wd l i:Int)≤3001 * 61:=⟨Int.mul_nonneg (by omega) (by omega),Int.mul_le_mul hnb.2 (by omega) (by omega) (by omega)⟩
   rw [za2 (x:=nv * (wd l i:Int)) (by omega) (by omega)]
   refine ih k (i+1) _ (by omega) (by omega) ?_
   show _=(if pr l i * wd l i≤3000 then ((pr l i * wd l i:Nat):Int) else 3001)
   by_cases h:pr l i≤3000
   ·rw [if_pos h] at hn
    rw [hn]
    have hc:((pr l i * wd l i:Nat):Int)=(pr l i:Int) * (wd l i:Int):=Int.natCast_mul _ _
    by_cases h':pr l i * wd l i≤3000
    ·rw [if_pos h',if_neg (by omega),hc]
    ·rw [if_neg h']
     split <;> omega
   ·rw [if_neg h] at hn
    have h5:pr l i * 1≤pr l i * wd l i:=Nat.mul_le_mul_left _ h3
    rw [if_neg (show ¬ pr l i * wd l i≤3000 by omega),hn]
    have h6:(3001:Int) * 1≤3001 * (wd l i:Int):=Int.mul_le_mul_of_nonneg_left (by omega) (by omega)
    split <;> omega
 unfold p54 s54
 rw [decide_eq_false (show ¬ (l.len:Int) > 20 by omega),cond_false,cond_false]
 unfold zo9 zo8
 rw [hp57,hs57]
 unfold zto ztn ztm ztl ztk ztj
 obtain ⟨k1,k2⟩:=key l.len Fuel 0 1 (by omega) (by simp only [Fuel];omega) (by rfl)
 have k1:zgv l 3000 Fuel 1 0=true:=k1
 have k2:zgu l 3000 Fuel 1 0=decide (pr l l.len≤3000):=k2
 simp only [Bool.not_true,cond_false,decide_true,Bool.true_and,k1,k2,decide_eq_true_eq]
 exact ⟨trivial,fun h=>h⟩
end Go.Proofs
namespace Go.Proofs
open Go Go.Pm
set_option maxRecDepth 100000
theorem zfL {σ : Type} (f g : Nat → σ → σ) : ∀ (m a : Nat) (s : σ), (∀ i k, a ≤ i → i < a + m → f i k = g i k) → zd5 f m a s = zd5 g m a s
  | 0,_,_,_=>rfl
  | m+1,a,s,h=>by
    rw [zd5,zd5,h a s (Nat.le_refl _) (by omega)]
    exact zfL f g m (a+1) _ fun i k h1 h2=>h i k (by omega) (by omega)
theorem zKk (t:Nat→Int) (m:Nat):∀ (i:Nat) (k:Int),k≤zd5 (fun i k=>if t i > k then t i else k) m i k∧(∀ j,i≤j→j < i+m→t j≤zd5 (fun i k=>if t i > k then t i else k) m i k) ∧
  (zd5 (fun i k=>if t i > k then t i else k) m i k=k∨∃ j,i≤j∧j < i+m∧zd5 (fun i k=>if t i > k then t i else k) m i k=t j):=by
 induction m with
 | zero=>intro i k;exact ⟨Int.le_refl _,fun j h1 h2=>by omega,.inl rfl⟩
 | succ m ih =>
  intro i k
  obtain ⟨h1,h2,h3⟩:=ih (i+1) (if t i > k then t i else k)
  have e:zd5 (fun i k=>if t i > k then t i else k) (m+1) i k=zd5 (fun i k=>if t i > k then t i else k) m (i+1) (if t i > k then t i else k):=rfl
  rw [e]
  generalize zd5 (fun i k=>if t i > k then t i else k) m (i+1) (if t i > k then t i else k)=r at *
  refine ⟨by split at h1 <;> omega,fun j a b=>?_,?_⟩
  ·by_cases hj : j = i
   ·subst hj;split at h1 <;> omega
   ·exact h2 j (by omega) (by omega)
  ·rcases h3 with h3 | ⟨j, a, b, c⟩
   ·split at h3
    ·exact .inr ⟨i,Nat.le_refl _,by omega,h3⟩
    ·exact .inl h3
   ·exact .inr ⟨j,by omega,by omega,c⟩
section
variable {l:Sl Gate} (H:BG l)
include H
theorem zKl (p:Sl Int) (hp:p.len=l.len) (hL:Lin l p.get):∃ n,s44 (s61 l) p=(n,0)∧(p46 (s61 l) p=true∧s46 (s61 l) p=n)∧p61 l=true∧p44 (s61 l) p=true∧0≤n∧(∀ j,j+2 < l.len→tvl l j (p.get j) (p.get (j+1)) (p.get (j+2))≤n) ∧
  (∀ K,0≤K→(∀ j,j+2 < l.len→tvl l j (p.get j) (p.get (j+1)) (p.get (j+2))≤K)→n≤K):=by
 have hl:=H.hi;have hlo:=H.lo
 obtain ⟨e1,e2⟩:=zBW l (by omega)
 rw [e2]
 have zg:∀ j,j < l.len→(zsS l l.len).get j=(l.get j).Z:=fun j hj=>zhZ l l.len j hj
 have zl:=zeU l l.len
 have HH:HOK (zsS l l.len):=⟨fun i hi=>by
  rw [zl] at hi
  unfold inc
  rw [zg i hi]
  refine decide_eq_true ⟨(H.ok i hi).1,fun h0=>?_⟩
  rw [zg (i - 1) (by omega)]
  have:=H.inc (i - 1) (by omega)
  rwa [Nat.sub_add_cancel h0] at this,by rw [zl];exact ⟨hlo,hl⟩⟩
 have wz:zD1 (zsS l l.len):=⟨by rw [zl];omega,fun i hi=>by have:=zBS HH hi;show wfI _;unfold wfI;omega⟩
 have hV:VOK (zsS l l.len) p:=⟨HH,by rw [zl];exact hp,fun i hi=>by
  have h1:=hL i (by omega)
  have h2:=zds H i (by omega)
  unfold inG at h1
  exact decide_eq_true (by omega)⟩
 obtain ⟨a,b⟩:=(zNC _ p wz).1 hV
 have ek:∀ i k,0≤i→i < 0+(l.len - 2)→kk (zsS l l.len) p i k=(fun i k=>if tvl l i (p.get i) (p.get (i+1)) (p.get (i+2)) > k then tvl l i (p.get i) (p.get (i+1)) (p.get (i+2)) else k) i k:=fun i k _ hi=>by
  show (if _ > k then _ else k)=(if _ > k then _ else k)
  unfold tvl
  rw [zg i (by omega),zg (i+1) (by omega),zg (i+2) (by omega)]
 have ef:zd5 (kk (zsS l l.len) p) ((zsS l l.len).len - 2) 0 0=zd5 (fun i k=>if tvl l i (p.get i) (p.get (i+1)) (p.get (i+2)) > k then tvl l i (p.get i) (p.get (i+1)) (p.get (i+2)) else k) (l.len - 2) 0 0:=by
  rw [zl]
  exact zfL _ _ (l.len - 2) 0 0 ek
 obtain ⟨f1,f2,f3⟩:=zKk (fun i=>tvl l i (p.get i) (p.get (i+1)) (p.get (i+2))) (l.len - 2) 0 0
 rw [ef] at b
 refine ⟨_,b,(by have h46:=zNA _ p HH (by rw [zl];exact hp);rw [ef] at h46;exact h46),e1,a,f1,fun j hj=>f2 j (Nat.zero_le _) (by omega),fun K hK h=>?_⟩
 rcases f3 with f3 | ⟨j,_,j2,f3⟩
 ·rw [f3];exact hK
 ·rw [f3];exact h j (by omega)
end
end Go.Proofs
namespace Go.Proofs
open Go Go.Pm
set_option maxRecDepth 100000
def znq:Sl Int:=⟨0,fun _=>default⟩
structure All (l : Sl Gate) (R : Sl (Sl Int)) : Prop where
  eq:ztZ R=suf l l.len 0
  few:R.len≤3000
section
variable {l:Sl Gate} (H:BG l)
include H
theorem zNS (h3:pr l l.len≤3000):p95 l znq=true∧All l (s95 l znq):=by
 have h8:=H.hi
 obtain ⟨a,b⟩:=zKj l (fun i hi=>by have:=zds H i hi;exact ⟨this.1,this.2.1,this.2.2.1⟩) (by omega) h3 l.len 64 0 znq (by omega) rfl (by omega)
 have b:ztZ (s95 l znq)=suf l l.len 0:=by
  have b:ztZ (s95 l znq)=(suf l l.len 0).map (asL znq ++ ·):=b
  rw [b]
  show (suf l l.len 0).map (fun x=>[] ++ x)=_
  simp
 refine ⟨a,b,?_⟩
 have h1:=congrArg List.length b
 have h2:=zB5 l l.len 0
 simp only [ztZ,List.length_map, zpt] at h1
 simp only [pr,Nat.one_mul,Nat.zero_add] at h2
 omega
end
section
variable {l:Sl Gate} (H:BG l) {R:Sl (Sl Int)} (A:All l R)
include A
theorem zB9 (i:Nat) (hi:i < R.len):(suf l l.len 0)[i]? = some (asL (R.get i)):=by
 rw [← A.eq]
 simp only [ztZ,List.getElem?_map, ztY R i hi,Option.map_some]
theorem all_in (i:Nat) (hi:i < R.len):(R.get i).len=l.len∧Lin l (R.get i).get:=by
 have h:=List.mem_of_getElem? (zB9 A i hi)
 obtain ⟨h1,h2⟩:=(zps l).1 h
 rw [zpt] at h1
 refine ⟨h1,fun j hj=>?_⟩
 have:=h2 j hj
 rwa [ziN (by omega),Nat.zero_add] at this
theorem zCa (f:Nat→Int) (hf:Lin l f):∃ i,i < R.len∧∀ j,j < l.len→(R.get i).get j=f j:=by
 have hm:(List.range l.len).map f∈suf l l.len 0:=(zps l).2 ⟨by simp,fun j hj=>by
  rw [Nat.zero_add,List.getD_eq_getElem?_getD]
  simp [hj];exact hf j hj⟩
 rw [← A.eq] at hm
 simp only [ztZ,List.mem_map] at hm
 obtain ⟨x,hx,he⟩:=hm
 unfold asL at hx
 obtain ⟨i,hi,rfl⟩:=List.mem_map.1 hx
 have hi:i < R.len:=by simpa using hi
 refine ⟨i,hi,fun j hj=>?_⟩
 have hl:=(all_in A i hi).1
 have:=congrArg (fun z=>z[j]?) he
 simp only [ztY (R.get i) j (by omega),List.getElem?_map,List.getElem?_range hj,Option.map_some,Option.some.injEq] at this
 exact this
theorem zKm (i k:Nat) (hik:i < k) (hk:k < R.len):∃ j,j < l.len∧(∀ j',j' < j→(R.get i).get j'=(R.get k).get j')∧(R.get i).get j < (R.get k).get j:=by
 have hp:=zB7 l l.len 0
 have h1:=zB9 A i (by omega)
 have h2:=zB9 A k hk
 obtain ⟨l1,e1⟩:=List.getElem?_eq_some_iff.1 h1
 obtain ⟨l2,e2⟩:=List.getElem?_eq_some_iff.1 h2
 have:=List.pairwise_iff_getElem.1 hp i k l1 l2 hik
 rw [e1,e2] at this
 obtain ⟨j,a,b,c,d⟩:=this
 have n1:=(all_in A i (by omega)).1
 have n2:=(all_in A k hk).1
 rw [zpt] at c d
 refine ⟨j,by omega,fun j' hj'=>?_,?_⟩
 ·have := a j' hj'
  rwa [ziN (by omega), ziN (by omega)] at this
 ·rwa [ziN (by omega), ziN (by omega)] at b
end
def K46 (l:Sl Gate) (R:Sl (Sl Int)) (i:Nat):Int:=s46 (s61 l) (R.get i)
section
variable {l:Sl Gate} (H:BG l) {R:Sl (Sl Int)} (A:All l R)
include H A
theorem ziO (i:Nat) (hi:i < R.len):p46 (s61 l) (R.get i)=true∧0≤K46 l R i∧(∀ j,j+2 < l.len→tvl l j ((R.get i).get j) ((R.get i).get (j+1)) ((R.get i).get (j+2))≤K46 l R i) ∧
  (∀ K,0≤K→(∀ j,j+2 < l.len→tvl l j ((R.get i).get j) ((R.get i).get (j+1)) ((R.get i).get (j+2))≤K)→K46 l R i≤K):=by
 obtain ⟨h1,h2⟩:=all_in A i hi
 obtain ⟨n,_,⟨e1,e2⟩,_,_,k4,k5,k6⟩:=zKl H (R.get i) h1 h2
 have e:K46 l R i=n:=e2
 rw [e]
 exact ⟨e1,k4,k5,k6⟩
theorem zCb (i:Nat) (hi:i < R.len):ziP l≤K46 l R i:=by
 have hl:=H.hi;have hlo:=H.lo
 obtain ⟨h1,h2⟩:=all_in A i hi
 obtain ⟨_,k4,k5,_⟩:=ziO H A i hi
 obtain ⟨_,km,_⟩:=ziM H
 have h3:=zwz H (R.get i).get h2 _ k4 (l.len - 2) 0 (by omega) (fun j _ h=>k5 j h)
 exact Int.le_trans (km _ _ (h2 0 (by omega)) (h2 1 (by omega))) h3
theorem zNT (hR : s95 l znq = R) (hP : p95 l znq = true) (o : Sl Int) (ho : o.len = l.len) (C : Ch l (ziP l) l.len o.get) :
  p58 l=true∧∃ b:Sl Int,s58 l=(b,ziP l)∧SEq o b:=by
 have hl:=H.hi;have hlo:=H.lo
 obtain ⟨e1,_⟩:=zBW l (by omega)
 have hf:=A.few
 obtain ⟨io,hio,heo⟩:=zCa A o.get (fun j hj=>C.ing j hj)
 have key:∀ (m k i i0:Nat),i+m=R.len→m < k→i0 < i→(∀ i',i' < i→K46 l R i0≤K46 l R i')→(∀ i',i' < i0→K46 l R i0 < K46 l R i') →
   zhU R (s61 l) k (R.get i0) (K46 l R i0) (i:Int)=true∧∃ i1,i1 < R.len∧zhT R (s61 l) k (R.get i0) (K46 l R i0) (i:Int)=(R.get i1,K46 l R i1) ∧
    (∀ i',i' < R.len→K46 l R i1≤K46 l R i')∧(∀ i',i' < i1→K46 l R i1 < K46 l R i'):=by
  intro m
  induction m with
  | zero =>
   intro k i i0 hi hk h0 h1 h2
   obtain ⟨k,rfl⟩:∃ k',k=k'+1:=⟨k - 1,by omega⟩
   have:i=R.len:=by omega
   subst this
   have ep:zhU R (s61 l) (k+1) (R.get i0) (K46 l R i0) (R.len:Int)=zjO R (s61 l) (zhU R (s61 l) k) (R.get i0) (K46 l R i0) (R.len:Int):=rfl
   have es:zhT R (s61 l) (k+1) (R.get i0) (K46 l R i0) (R.len:Int)=zjN R (s61 l) (zhT R (s61 l) k) (R.get i0) (K46 l R i0) (R.len:Int):=rfl
   rw [ep,es]
   unfold zjO zjN
   rw [decide_eq_false (show ¬ (R.len:Int) < (R.len:Int) by omega),cond_false,cond_false]
   exact ⟨rfl,i0,h0,rfl,h1,h2⟩
  | succ m ih =>
   intro k i i0 hi hk h0 h1 h2
   obtain ⟨k,rfl⟩:∃ k',k=k'+1:=⟨k - 1,by omega⟩
   have ep:zhU R (s61 l) (k+1) (R.get i0) (K46 l R i0) (i:Int)=zjO R (s61 l) (zhU R (s61 l) k) (R.get i0) (K46 l R i0) (i:Int):=rfl
   have es:zhT R (s61 l) (k+1) (R.get i0) (K46 l R i0) (i:Int)=zjN R (s61 l) (zhT R (s61 l) k) (R.get i0) (K46 l R i0) (i:Int):=rfl
   rw [ep,es]
   have hp:=(ziO H A i (by omega)).1
   have ek:s46 (s61 l) (R.get i)=K46 l R i:=rfl
   unfold zjO zjN
   rw [Int.toNat_natCast,hp,ek,decide_eq_true (show (i:Int) < (R.len:Int) by omega),cond_true,cond_true,decide_eq_true (show 0≤(i:Int)∧(i:Int) < (R.len:Int) by omega)]
   simp only [decide_true,Bool.true_and]
   unfold ztr ztq
   rw [zcd (n:=R.len) (by omega) (by omega),Int.toNat_natCast]
   by_cases hlt:K46 l R i < K46 l R i0
   ·rw [decide_eq_true hlt, cond_true, cond_true, decide_eq_true (show 0 ≤ (i : Int) ∧ (i : Int) < (R.len : Int) by omega), Bool.true_and]
    refine ih k (i+1) i (by omega) (by omega) (by omega) (fun i' hi'=>?_) (fun i' hi'=>?_)
    ·by_cases e : i' = i
     ·rw [e];exact Int.le_refl _
     ·have:=h1 i' (by omega);omega
    ·have:=h1 i' (by omega);omega
   ·rw [decide_eq_false hlt, cond_false, cond_false]
    refine ih k (i+1) i0 (by omega) (by omega) (by omega) (fun i' hi'=>?_) h2
    by_cases e:i'=i
    ·rw [e];omega
    ·exact h1 i' (by omega)
 obtain ⟨k1,i1,hi1,k2,k3,k4⟩:=key (R.len - 1) Fuel 1 0 (by omega) (by simp only [Fuel];omega) (by omega) (fun i' hi'=>by rw [show i'=0 by omega];exact Int.le_refl _) (fun i' hi'=>by omega)
 have hKo:K46 l R io=ziP l:=by
  obtain ⟨_,_,_,k6⟩:=ziO H A io hio
  have h1:=k6 (ziP l) (ziM H).2.2 (fun j hj=>by rw [heo j (by omega),heo (j+1) (by omega),heo (j+2) (by omega)];exact C.kin j hj)
  have h2:=zCb H A io hio
  omega
 have hK1:K46 l R i1=ziP l:=by
  have h1:=k3 io hio
  have h2:=zCb H A i1 hi1
  omega
 have hSEq:SEq o (R.get i1):=by
  obtain ⟨n1,L1⟩:=all_in A i1 hi1
  refine ⟨by omega,?_⟩
  have : ¬ io < i1:=fun h=>by have:=k4 io h;omega
  by_cases e:io=i1
  ·intro j hj
   rw [← e];exact (heo j (by omega)).symm
  ·obtain ⟨j, a, b, c⟩ := zKm A i1 io (by omega) hio
   have:=C.lex (R.get i1).get ⟨L1,fun j hj=>by
    have:=(ziO H A i1 hi1).2.2.1 j hj
    rwa [hK1] at this⟩ j a (fun j' hj'=>by rw [b j' hj'];exact heo j' (by omega))
   rw [heo j a] at c
   omega
 rw [hK1] at k2
 unfold p58 s58
 have hR':s95 l (⟨0,fun _=>default⟩:Sl Int)=R:=hR
 have hP':p95 l (⟨0,fun _=>default⟩:Sl Int)=true:=hP
 rw [hR',hP']
 unfold ztz zty
 rw [e1]
 have hR0:0 < R.len:=by omega
 have hp0:=(ziO H A 0 hR0).1
 unfold ztx ztw ztv ztu ztt zts
 have ek:s46 (s61 l) (R.get 0)=K46 l R 0:=rfl
 rw [hp0,ek,decide_eq_true (show 0≤(0:Int)∧(0:Int) < (R.len:Int) by omega)]
 simp only [decide_true,Bool.true_and]
 exact ⟨k1,R.get i1,k2,hSEq⟩
end
end Go.Proofs
namespace Go.Proofs
open Go Go.Pm
set_option maxRecDepth 100000
section
variable {l:Sl Gate} (H:BG l)
include H
theorem zt0 (f : Nat → Int) (k : Int) (hk : 0 ≤ k) (hf : zNM l k f) : ∀ j, j + 1 < l.len → Gd l k j (f j) (f (j + 1))
  | 0,hj=>⟨hf.1 0 (by omega),hf.1 1 hj,zwz H f hf.1 k hk (l.len - 2) 0 (by have:=H.lo;omega) (fun j _ h=>hf.2 j h)⟩
  | j+1,hj=>⟨hf.1 (j+2) (by omega),f j,zt0 f k hk hf j (by omega),hf.2 j (by omega),zwz H f hf.1 k hk (l.len - 2 - (j+1)) (j+1) (by omega) (fun j' _ h=>hf.2 j' h)⟩
theorem zCc (k:Int):∀ (d i:Nat) (p q:Int),i+2+d=l.len→inG (l.get i) p→inG (l.get (i+1)) q→Lk l i p q≤k →
  ∃ g:Nat→Int,g i=p∧g (i+1)=q∧(∀ j,i≤j→j < l.len→inG (l.get j) (g j))∧∀ j,i≤j→j+2 < l.len→tvl l j (g j) (g (j+1)) (g (j+2))≤k
 | 0,i,p,q,hd,hp,hq,_=>by
  refine ⟨fun j=>if j=i then p else q,if_pos rfl,if_neg (by omega),fun j h1 h2=>?_,fun j h1 h2=>by omega⟩
  show inG _ (if j=i then p else q)
  by_cases e:j=i
  ·subst e;rw [if_pos rfl];exact hp
  ·rw [if_neg e,show j=i+1 by omega];exact hq
 | d+1,i,p,q,hd,hp,hq,hL=>by
  obtain ⟨⟨r,x1,x2,x3⟩,_⟩:=ztX H i (by omega) p q hp hq
  obtain ⟨g,g1,g2,g3,g4⟩:=zCc k d (i+1) q r (by omega) hq x1 (Int.le_trans x2 hL)
  have e1:∀ j,i+1≤j→(if j=i then p else g j)=g j:=fun j hj=>if_neg (by omega)
  refine ⟨fun j=>if j=i then p else g j,if_pos rfl,by show (if i+1=i then p else g (i+1))=q;rw [e1 _ (Nat.le_refl _),g1],fun j h1 h2=>?_,fun j h1 h2=>?_⟩
  ·show inG _ (if j = i then p else g j)
   by_cases e:j=i
   ·subst e;rw [if_pos rfl];exact hp
   ·rw [if_neg e];exact g3 j (by omega) h2
  ·show tvl l j (if j = i then p else g j) (if j + 1 = i then p else g (j + 1)) (if j + 2 = i then p else g (j + 2)) ≤ k
   rw [e1 (j+1) (by omega),e1 (j+2) (by omega)]
   by_cases e:j=i
   ·subst e;rw [if_pos rfl,g1,show g (j+2)=r from g2];exact Int.le_trans x3 hL
   ·rw [if_neg e];exact g4 j (by omega) h2
theorem zCd (k:Int):∀ (j:Nat) (p q:Int),j+1 < l.len→Gd l k j p q→∀ g:Nat→Int,g j=p→g (j+1)=q→(∀ i,j≤i→i < l.len→inG (l.get i) (g i)) →
  (∀ i,j≤i→i+2 < l.len→tvl l i (g i) (g (i+1)) (g (i+2))≤k)→∃ f,zNM l k f∧∀ i,j≤i→f i=g i
 | 0,p,q,hj,hg,g,g1,g2,g3,g4=>⟨g,⟨fun i hi=>g3 i (Nat.zero_le _) hi,fun i hi=>g4 i (Nat.zero_le _) hi⟩,fun _ _=>rfl⟩
 | j+1,q,r,hj,hg,g,g1,g2,g3,g4=>by
  obtain ⟨h1,p,h2,h3,h4⟩:=hg
  have e1:∀ i,j+1≤i→(if i=j then p else g i)=g i:=fun i hi=>if_neg (by omega)
  obtain ⟨f,f1,f2⟩:=zCd k j p q (by omega) h2 (fun i=>if i=j then p else g i) (if_pos rfl) (by show (if j+1=j then p else g (j+1))=q;rw [e1 _ (Nat.le_refl _),g1]) (fun i hi hl=>by
    show inG _ (if i=j then p else g i)
    by_cases e:i=j
    ·subst e;rw [if_pos rfl];exact (zB2 h2).1
    ·rw [if_neg e];exact g3 i (by omega) hl) (fun i hi hl=>by
    show tvl l i (if i=j then p else g i) (if i+1=j then p else g (i+1)) (if i+2=j then p else g (i+2))≤k
    rw [e1 (i+1) (by omega),e1 (i+2) (by omega)]
    by_cases e:i=j
    ·subst e;rw [if_pos rfl,g1,show g (i+2)=r from g2];exact h3
    ·rw [if_neg e];exact g4 i (by omega) hl)
  exact ⟨f,f1,fun i hi=>by rw [f2 i (by omega)];exact e1 i hi⟩
theorem zCe (k:Int) (j:Nat) (p q:Int) (hj:j+1 < l.len) (hg:Gd l k j p q):∃ f,zNM l k f∧f j=p∧f (j+1)=q:=by
 obtain ⟨a,b,c⟩:=zB2 hg
 obtain ⟨g,g1,g2,g3,g4⟩:=zCc H k (l.len - 2 - j) j p q (by omega) a b c
 obtain ⟨f,f1,f2⟩:=zCd H k j p q hj hg g g1 g2 g3 g4
 exact ⟨f,f1,by rw [f2 j (Nat.le_refl _),g1],by rw [f2 (j+1) (by omega),g2]⟩
end
def BJ (l:Sl Gate) (R:Sl (Sl Int)) (most:Int) (i j:Nat) (s:Span):Prop :=
 (∀ i',i' < i→K46 l R i'≤most→inS s ((R.get i').get j))∧(∃ i',i' < i∧K46 l R i'≤most∧s.Low=(R.get i').get j)∧∃ i',i' < i∧K46 l R i'≤most∧s.High=(R.get i').get j
def BInv (l:Sl Gate) (R:Sl (Sl Int)) (most:Int) (i:Nat) (out:Sl Span):Prop :=
 ((∀ i',i' < i→¬ K46 l R i'≤most)∧out.len=0)∨((∃ i',i' < i∧K46 l R i'≤most)∧out.len=l.len∧∀ j,j < l.len→BJ l R most i j (out.get j))
section
variable {l:Sl Gate} (H:BG l) {R:Sl (Sl Int)} (A:All l R) (most:Int)
include H A
theorem zNU (i : Nat) (hi : i < R.len) (hg : K46 l R i ≤ most) (out : Sl Span) (hB : BInv l R most i out) (S2 : Int → Sl Span → (Sl Span × Bool)) (P2 : Int → Sl Span → Bool) :
    ∃ o:Sl Span,BInv l R most (i+1) o∧ztC P2 l most R (s61 l) (i:Int) 0 out=P2 (w64 ((i:Int)+1)) o∧ztB S2 l most R (s61 l) (i:Int) 0 out=S2 (w64 ((i:Int)+1)) o:=by
  have hl:=H.hi;have hlo:=H.lo
  obtain ⟨hn,hL⟩:=all_in A i hi
  have hf:=A.few
  let z:Span→Int→Span:=fun s p=>⟨if p < s.Low then p else s.Low,if p > s.High then p else s.High⟩
  have key : ∀ (m q k : Nat) (v : Sl Span), k + m = l.len → m < q → ((out.len = 0 ∧ v.len = k ∧ ∀ j, j < k → v.get j = ⟨(R.get i).get j, (R.get i).get j⟩) ∨
        (out.len=l.len∧v.len=l.len∧(∀ j,j < k→v.get j=z (out.get j) ((R.get i).get j))∧∀ j,k≤j→v.get j=out.get j)) →
      ∃ o:Sl Span,o.len=l.len∧(∀ j,j < l.len→o.get j=if out.len=0 then ⟨(R.get i).get j,(R.get i).get j⟩ else z (out.get j) ((R.get i).get j)) ∧
        zhW P2 l most R (s61 l) q (i:Int) (k:Int) v=P2 (w64 ((i:Int)+1)) o∧zhV S2 l most R (s61 l) q (i:Int) (k:Int) v=S2 (w64 ((i:Int)+1)) o:=by
    intro m
    induction m with
    | zero =>
      intro q k v hk hq hv
      obtain ⟨q,rfl⟩:∃ q',q=q'+1:=⟨q - 1,by omega⟩
      have:k=l.len:=by omega
      subst this
      have ep:zhW P2 l most R (s61 l) (q+1) (i:Int) (l.len:Int) v=zjQ P2 l most R (s61 l) (zhW P2 l most R (s61 l) q) (i:Int) (l.len:Int) v:=rfl
      have es:zhV S2 l most R (s61 l) (q+1) (i:Int) (l.len:Int) v=zjP S2 l most R (s61 l) (zhV S2 l most R (s61 l) q) (i:Int) (l.len:Int) v:=rfl
      rw [ep,es]
      unfold zjQ zjP
      rw [decide_eq_false (show ¬ (l.len:Int) < (l.len:Int) by omega),cond_false,cond_false]
      refine ⟨v,by rcases hv with ⟨_,h,_⟩ | ⟨_,h,_⟩ <;> exact h,fun j hj=>?_,rfl,rfl⟩
      rcases hv with ⟨h0,_,h⟩ | ⟨h0,_,h,_⟩
      · rw [if_pos h0];exact h j hj
      · rw [if_neg (by omega)];exact h j hj
    | succ m ih =>
      intro q k v hk hq hv
      obtain ⟨q,rfl⟩:∃ q',q=q'+1:=⟨q - 1,by omega⟩
      have ep:zhW P2 l most R (s61 l) (q+1) (i:Int) (k:Int) v=zjQ P2 l most R (s61 l) (zhW P2 l most R (s61 l) q) (i:Int) (k:Int) v:=rfl
      have es:zhV S2 l most R (s61 l) (q+1) (i:Int) (k:Int) v=zjP S2 l most R (s61 l) (zhV S2 l most R (s61 l) q) (i:Int) (k:Int) v:=rfl
      rw [ep,es]
      unfold zjQ zjP
      rw [Int.toNat_natCast,Int.toNat_natCast,decide_eq_true (show (k:Int) < (l.len:Int) by omega),cond_true,cond_true,decide_eq_true (show 0≤(i:Int)∧(i:Int) < (R.len:Int) by omega),hn,
        decide_eq_true (show 0≤(k:Int)∧(k:Int) < (l.len:Int) by omega),zcd (n:=l.len) (by omega) (by omega)]
      simp only [Bool.true_and]
      rcases hv with ⟨h0,h1,h2⟩ | ⟨h0,h1,h2,h3⟩
      · rw [h1, decide_eq_true (show (k : Int) ≤ (k : Int) by omega), cond_true, cond_true, decide_eq_true (show (k + 1) * 16 ≤ 140737488355328 ∧ k + 1 ≤ 9223372036854775807 by omega), Bool.true_and]
        refine ih q (k+1) _ (by omega) (by omega) (.inl ⟨h0,rfl,fun j hj=>?_⟩)
        show zdN k v.get (fun _=>_) j=_
        rw [zvM k _ _ j (by omega)]
        by_cases e:j=k
        · rw [if_pos e,e]
        · rw [if_neg e];exact h2 j (by omega)
      · rw [h1, decide_eq_false (show ¬ (l.len : Int) ≤ (k : Int) by omega), cond_false, cond_false, decide_eq_true (show 0 ≤ (k : Int) ∧ (k : Int) < (l.len : Int) by omega), decide_eq_true (show k < l.len by omega)]
        simp only [Bool.true_and]
        refine ih q (k+1) _ (by omega) (by omega) (.inr ⟨h0,rfl,fun j hj=>?_,fun j hj=>?_⟩)
        · show setT k _ v.get j = _
          rw [zpq]
          by_cases e:j=k
          · rw [if_pos e,e,h3 k (Nat.le_refl _)]
          · rw [if_neg e];exact h2 j (by omega)
        · show setT k _ v.get j = _
          rw [zpq,if_neg (by omega)]
          exact h3 j (by omega)
  have hstart:(out.len=0∧out.len=0∧∀ j,j < 0→out.get j=⟨(R.get i).get j,(R.get i).get j⟩)∨(out.len=l.len∧out.len=l.len∧(∀ j,j < 0→out.get j=z (out.get j) ((R.get i).get j))∧∀ j,0≤j→out.get j=out.get j):=by
    rcases hB with ⟨_,h⟩ | ⟨_,h,_⟩
    · exact .inl ⟨h,h,fun j hj=>by omega⟩
    · exact .inr ⟨h,h,fun j hj=>by omega,fun _ _=>rfl⟩
  obtain ⟨o,o1,o2,o3,o4⟩:=key l.len Fuel 0 out (by omega) (by simp only [Fuel];omega) hstart
  refine ⟨o,.inr ⟨⟨i,by omega,hg⟩,o1,fun j hj=>?_⟩,o3,o4⟩
  rw [o2 j hj]
  rcases hB with ⟨h1,h2⟩ | ⟨_,h2,h3⟩
  · rw [if_pos h2]
    refine ⟨fun i' hi' hg'=>?_,⟨i,by omega,hg,rfl⟩,⟨i,by omega,hg,rfl⟩⟩
    by_cases e:i'=i
    · subst e;exact ⟨Int.le_refl _,Int.le_refl _⟩
    · exact absurd hg' (h1 i' (by omega))
  · rw [if_neg (by omega)]
    obtain ⟨b1,⟨i1,c1,c2,c3⟩,⟨i2,d1,d2,d3⟩⟩:=h3 j hj
    refine ⟨fun i' hi' hg'=>?_,?_,?_⟩
    · show (if _ < _ then _ else _) ≤ _ ∧ _ ≤ (if _ > _ then _ else _)
      by_cases e:i'=i
      · subst e;constructor <;> split <;> omega
      · have := b1 i' (by omega) hg'
        unfold inS at this
        constructor <;> split <;> omega
    · show ∃ i', i' < i + 1 ∧ _ ∧ (if (R.get i).get j < (out.get j).Low then (R.get i).get j else (out.get j).Low) = _
      by_cases e:(R.get i).get j < (out.get j).Low
      · exact ⟨i,by omega,hg,by rw [if_pos e]⟩
      · exact ⟨i1,by omega,c2,by rw [if_neg e];exact c3⟩
    · show ∃ i', i' < i + 1 ∧ _ ∧ (if (R.get i).get j > (out.get j).High then (R.get i).get j else (out.get j).High) = _
      by_cases e:(R.get i).get j > (out.get j).High
      · exact ⟨i,by omega,hg,by rw [if_pos e]⟩
      · exact ⟨i2,by omega,d2,by rw [if_neg e];exact d3⟩
theorem zNV (hR:s95 l znq=R) (hP:p95 l znq=true):p59 l most=true∧∃ o:Sl Span,BInv l R most R.len o∧s59 l most=(o,decide ((o.len:Int) > 0)):=by
 have hl:=H.hi;have hlo:=H.lo
 obtain ⟨e1,_⟩:=zBW l (by omega)
 have hf:=A.few
 have key:∀ (m k i:Nat) (v:Sl Span),i+m=R.len→m < k→BInv l R most i v→zgA l most R (s61 l) k (i:Int) v=true∧∃ o:Sl Span,BInv l R most R.len o∧zgz l most R (s61 l) k (i:Int) v=(o,decide ((o.len:Int) > 0)):=by
  intro m
  induction m with
  | zero =>
   intro k i v hi hk hv
   obtain ⟨k,rfl⟩:∃ k',k=k'+1:=⟨k - 1,by omega⟩
   have:i=R.len:=by omega
   subst this
   have ep:zgA l most R (s61 l) (k+1) (R.len:Int) v=zjS l most R (s61 l) (zgA l most R (s61 l) k) (R.len:Int) v:=rfl
   have es:zgz l most R (s61 l) (k+1) (R.len:Int) v=zjR l most R (s61 l) (zgz l most R (s61 l) k) (R.len:Int) v:=rfl
   rw [ep,es]
   unfold zjS zjR
   rw [decide_eq_false (show ¬ (R.len:Int) < (R.len:Int) by omega),cond_false,cond_false]
   exact ⟨rfl,v,hv,rfl⟩
  | succ m ih =>
   intro k i v hi hk hv
   obtain ⟨k,rfl⟩:∃ k',k=k'+1:=⟨k - 1,by omega⟩
   have ep:zgA l most R (s61 l) (k+1) (i:Int) v=zjS l most R (s61 l) (zgA l most R (s61 l) k) (i:Int) v:=rfl
   have es:zgz l most R (s61 l) (k+1) (i:Int) v=zjR l most R (s61 l) (zgz l most R (s61 l) k) (i:Int) v:=rfl
   rw [ep,es]
   have hp:=(ziO H A i (by omega)).1
   have ek:s46 (s61 l) (R.get i)=K46 l R i:=rfl
   unfold zjS zjR
   rw [Int.toNat_natCast,hp,ek,decide_eq_true (show (i:Int) < (R.len:Int) by omega),cond_true,cond_true,decide_eq_true (show 0≤(i:Int)∧(i:Int) < (R.len:Int) by omega)]
   simp only [decide_true,Bool.true_and]
   by_cases hg:K46 l R i > most
   ·rw [decide_eq_true hg, cond_true, cond_true, zcd (n := R.len) (by omega) (by omega)]
    refine ih k (i+1) v (by omega) (by omega) ?_
    have hle:∀ i',i' < i+1→K46 l R i'≤most→i' < i:=fun i' h1 h2=>by
     by_cases e:i'=i
     ·subst e;omega
     ·omega
    rcases hv with ⟨h1,h2⟩ | ⟨⟨i1,c1,c2⟩,h2,h3⟩
    ·exact .inl ⟨fun i' hi' hg'=>h1 i' (hle i' hi' hg') hg',h2⟩
    ·refine .inr ⟨⟨i1, by omega, c2⟩, h2, fun j hj => ?_⟩
     obtain ⟨b1,⟨x1,y1,z1⟩,⟨x2,y2,z2⟩⟩:=h3 j hj
     exact ⟨fun i' hi' hg'=>b1 i' (hle i' hi' hg') hg',⟨x1,by omega,z1⟩,⟨x2,by omega,z2⟩⟩
   ·rw [decide_eq_false hg, cond_false, cond_false]
    obtain ⟨o,o1,o2,o3⟩:=zNU H A most i (by omega) (by omega) v hv (zgz l most R (s61 l) k) (zgA l most R (s61 l) k)
    rw [o2,o3,zcd (n:=R.len) (by omega) (by omega)]
    exact ih k (i+1) o (by omega) (by omega) o1
 unfold p59 s59
 have hR':s95 l (⟨0,fun _=>default⟩:Sl Int)=R:=hR
 have hP':p95 l (⟨0,fun _=>default⟩:Sl Int)=true:=hP
 rw [hR',hP']
 unfold ztG ztF
 rw [e1]
 simp only [decide_true,Bool.true_and]
 exact key R.len Fuel 0 ⟨0,fun _=>default⟩ (by omega) (by simp only [Fuel];omega) (.inl ⟨fun i' hi'=>by omega,rfl⟩)
end
theorem zD9 (a b:Sl Span) (hl:a.len=b.len) (hn:a.len≤9223372036854775807) (h:∀ j,j < a.len→(a.get j).Low=(b.get j).Low∧(a.get j).High=(b.get j).High):p60 a b=true∧s60 a b=true:=by
  unfold p60 s60
  rw [← hl]
  simp only [bne_self_eq_false,cond_false]
  have := ztW (good := fun _ => true) (bad := false) (fin := true) (finP := true) (n := a.len) (lpS := zmi a b) (lpP := zmj a b)
    (fun k i hi=>by
      show zjT a b (zmi a b k) (i:Int)=_
      unfold zjT
      obtain ⟨h1,h2⟩:=h i hi
      rw [Int.toNat_natCast,decide_eq_true (show (i:Int) < (a.len:Int) by omega),h1,h2]
      simp)
    (fun k=>by
      show zjT a b (zmi a b k) (a.len:Int)=_
      unfold zjT
      rw [decide_eq_false (by omega),cond_false])
    (fun k i hi=>by
      show zjU a b (zmj a b k) (i:Int)=_
      unfold zjU
      obtain ⟨h1,h2⟩:=h i hi
      rw [Int.toNat_natCast,decide_eq_true (show (i:Int) < (a.len:Int) by omega),← hl,decide_eq_true (show 0≤(i:Int)∧(i:Int) < (a.len:Int) by omega),h1,h2]
      simp)
    (fun k=>by
      show zjU a b (zmj a b k) (a.len:Int)=_
      unfold zjU
      rw [decide_eq_false (by omega),cond_false])
    hn
  exact this.1 fun _ _=>rfl
end Go.Proofs
namespace Go.Proofs
open Go Go.Pm
set_option maxRecDepth 100000
section
variable {l:Sl Gate} (H:BG l)
include H
theorem zNW (kink:Int) (h3:pr l l.len≤3000):zmn l kink=true∧zmm l kink=true:=by
 have hl:=H.hi;have hlo:=H.lo
 obtain ⟨w1,w2⟩:=zFs l (by omega)
 have w2:=w2.2 H
 obtain ⟨v1,v2⟩:=zvG l (by omega)
 have v2:=v2.2 H
 obtain ⟨r1,A⟩:=zNS H h3
 obtain ⟨c1,o,c2,c3,C⟩:=zNQ H
 obtain ⟨b1,x,b2,b3⟩:=zNT H A rfl r1 o c3 C
 obtain ⟨g1,g2⟩:=zD4 o x b3 (by omega)
 obtain ⟨kex,km,kn⟩:=ziM H
 unfold zmn zmm
 rw [c1,c2]
 unfold zpk zpj zpi zph
 rw [w1,w2]
 simp only [decide_true,Bool.true_and,Bool.not_true]
 have fin:∀ (s:Sl Span) (f:Int),zhY l kink f s=true→zhX l kink f s=true→zpg l kink o (ziP l) 0 f s false=true∧zpf l kink o (ziP l) 0 f s false=true:=by
  intro s f hp hs
  unfold zpg zpf ztR ztQ
  rw [b1,b2]
  unfold ztP ztO
  simp only [bne_self_eq_false,cond_false,decide_true,Bool.true_and,g1,g2]
  unfold zml zmk
  rw [cond_false,cond_false]
  exact ⟨hp,hs⟩
 by_cases hk:0≤kink∧kink≤1000000
 ·obtain ⟨d1, d2, d3⟩ := zNL H kink hk
  rw [d1]
  simp only [decide_true,Bool.true_and]
  obtain ⟨e1,y,e2,e3⟩:=zNV H A kink rfl r1
  have go9:∀ (s:Sl Span) (f:Int),zgS f s y (decide ((y.len:Int) > 0))=true→zgR f s y (decide ((y.len:Int) > 0))=true→zhY l kink f s=true∧zhX l kink f s=true:=by
   intro s f hp hs
   unfold zhY zhX
   rw [decide_eq_false (show ¬ kink < 0 by omega),decide_eq_false (show ¬ kink > 1000000 by omega)]
   simp only [cond_false]
   unfold ztM ztL
   rw [e1,e3]
   simp only [decide_true,Bool.true_and]
   exact ⟨hp,hs⟩
  rcases e2 with ⟨n1,n2⟩ | ⟨⟨i,n1,n2⟩,n3,n4⟩
  ·have hno:∀ p q,¬ Gd l kink 0 p q:=fun p q hg=>by
    obtain ⟨f,f1,_⟩:=zCe H kink 0 p q (by omega) hg
    obtain ⟨i,hi,he⟩:=zCa A f f1.1
    refine n1 i hi ((ziO H A i hi).2.2.2 kink hk.1 fun j hj=>?_)
    rw [he j (by omega),he (j+1) (by omega),he (j+2) (by omega)]
    exact f1.2 j hj
   rw [d2 hno]
   have h10:zgS 5 zB3 y (decide ((y.len:Int) > 0))=true∧zgR 5 zB3 y (decide ((y.len:Int) > 0))=true:=by
    rw [n2,decide_eq_false (show ¬ ((0:Nat):Int) > 0 by omega)]
    exact ⟨rfl,rfl⟩
   obtain ⟨p8,s8⟩:=go9 zB3 5 h10.1 h10.2
   exact fin zB3 5 p8 s8
  ·have LKi : ∀ i', i' < (s95 l znq).len → K46 l (s95 l znq) i' ≤ kink → zNM l kink ((s95 l znq).get i').get := fun i' h1 h2 => ⟨(all_in A i' h1).2, fun j hj => Int.le_trans ((ziO H A i' h1).2.2.1 j hj) h2⟩
   have hG:=zt0 H _ kink hk.1 (LKi i n1 n2)
   obtain ⟨s,s1,s2,s3,s4⟩:=d3 ⟨_,_,hG 0 (by omega)⟩
   rw [s1]
   have hin:∀ i',i' < (s95 l znq).len→K46 l (s95 l znq) i'≤kink→∀ j,j < l.len→inS (s.get j) (((s95 l znq).get i').get j):=by
    intro i' h1 h2 j hj
    have hg:=zt0 H _ kink hk.1 (LKi i' h1 h2)
    by_cases e:j+1 < l.len
    ·exact (s3 j _ _ e (hg j e)).1
    ·have := (s3 (j - 1) _ _ (by omega) (hg (j - 1) (by omega))).2
     rwa [show j - 1+1=j by omega] at this
   have hatt:∀ j x,j < l.len→Att l kink 0 j x→∃ i',i' < (s95 l znq).len∧K46 l (s95 l znq) i'≤kink∧((s95 l znq).get i').get j=x:=by
    rintro j x hj ⟨j',p,q,_,h1,h2,h3⟩
    obtain ⟨f,f1,f2,f3⟩:=zCe H kink j' p q h1 h2
    obtain ⟨i',hi',he⟩:=zCa A f f1.1
    refine ⟨i',hi',(ziO H A i' hi').2.2.2 kink hk.1 fun j hj=>?_,?_⟩
    ·rw [he j (by omega), he (j + 1) (by omega), he (j + 2) (by omega)]
     exact f1.2 j hj
    ·rw [he j hj]
     rcases h3 with ⟨rfl,rfl⟩ | ⟨rfl,rfl⟩
     ·exact f2
     ·exact f3
   have hsame:∀ j,j < s.len→(s.get j).Low=(y.get j).Low∧(s.get j).High=(y.get j).High:=by
    intro j hj
    rw [s2] at hj
    obtain ⟨b1,⟨x1,y1,z1,t1⟩,⟨x2,y2,z2,t2⟩⟩:=n4 j hj
    have hi:=hin i n1 n2 j hj
    have hb:=zds H j hj
    have hLi:=(all_in A i n1).2 j hj
    unfold inS at hi
    unfold inG at hLi
    obtain ⟨a1,a2⟩:=s4 j hj
    constructor
    ·rcases a1 with a1 | a1
     ·omega
     ·obtain ⟨i', u1, u2, u3⟩ := hatt j _ hj a1
      have h1:=(b1 i' u1 u2).1
      have h2:=(hin x1 y1 z1 j hj).1
      omega
    ·rcases a2 with a2 | a2
     ·omega
     ·obtain ⟨i', u1, u2, u3⟩ := hatt j _ hj a2
      have h1:=(b1 i' u1 u2).2
      have h2:=(hin x2 y2 z2 j hj).2
      omega
   obtain ⟨q1,q2⟩:=zD9 s y (by omega) (by omega) hsame
   have h10:zgS 0 s y (decide ((y.len:Int) > 0))=true∧zgR 0 s y (decide ((y.len:Int) > 0))=true:=by
    rw [decide_eq_true (show (y.len:Int) > 0 by omega)]
    unfold zgS zgR
    rw [q1,q2]
    exact ⟨rfl,rfl⟩
   obtain ⟨p8,s8⟩:=go9 s 0 h10.1 h10.2
   exact fin s 0 p8 s8
 ·have e1:p56 l kink=true∧s56 l kink=(zB3,2):=by
   unfold p56 s56
   rw [v1,v2,zg5,decide_eq_false hk]
   exact ⟨rfl,rfl⟩
  rw [e1.1,e1.2]
  simp only [decide_true,Bool.true_and]
  have h8:zhY l kink 2 zB3=true∧zhX l kink 2 zB3=true:=by
   unfold zhY zhX
   by_cases a:kink < 0
   ·rw [decide_eq_true a];exact ⟨rfl,rfl⟩
   ·rw [decide_eq_false a,decide_eq_true (show kink > 1000000 by omega)];exact ⟨rfl,rfl⟩
  exact fin zB3 2 h8.1 h8.2
end
theorem straight_true (a0:Sl Gate) (a1:Int):p15 a0 a1=true∧s15 a0 a1=true:=by
 have kt:zmp a0 a1 true=true∧zmo a0 a1 true=true:=⟨rfl,rfl⟩
 unfold p15 s15
 by_cases h20:(a0.len:Int) > 20
 ·have e:p54 a0 3000=true∧s54 a0 3000=false:=by
   unfold p54 s54
   rw [decide_eq_true h20];exact ⟨rfl,rfl⟩
  rw [e.1,e.2]
  exact kt
 obtain ⟨w1,w2⟩:=zFs a0 (by omega)
 cases hb:s57 a0 with
 | true =>
  have B:=w2.1 hb
  obtain ⟨f1,f2⟩:=zNR a0 B w1 hb (fun i hi=>by have:=zds B i hi;exact ⟨this.1,this.2.1,this.2.2.1⟩)
  rw [f1]
  cases hs:s54 a0 3000 with
  | false=>exact kt
  | true =>
   simp only [decide_true,Bool.true_and,Bool.not_true]
   unfold zmp zmo
   rw [cond_false,cond_false]
   exact zNW B a1 (f2 hs)
 | false =>
  have nB : ¬ BG a0:=fun B=>by rw [w2.2 B] at hb;cases hb
  obtain ⟨v1,v2⟩:=zvG a0 (by omega)
  have v2:s92 a0=false:=by
   cases h:s92 a0 with
   | true=>exact absurd (v2.1 h) nB
   | false=>rfl
  have e:p54 a0 3000=true∧s54 a0 3000=true:=by
   unfold p54 s54
   rw [decide_eq_false h20,cond_false,cond_false]
   unfold zo9 zo8
   rw [w1,hb]
   exact ⟨rfl,rfl⟩
  rw [e.1,e.2]
  simp only [decide_true,Bool.true_and,Bool.not_true]
  unfold zmp zmo
  rw [cond_false,cond_false]
  have e1:p55 a0=true∧s55 a0=(znq,0,2):=by
   unfold p55 s55
   rw [v1,v2];exact ⟨rfl,rfl⟩
  have e2:p56 a0 a1=true∧s56 a0 a1=(zB3,2):=by
   unfold p56 s56
   rw [v1,v2];exact ⟨rfl,rfl⟩
  unfold zmn zmm
  rw [e1.1,e1.2]
  unfold zpk zpj
  rw [e2.1,e2.2]
  unfold zpi zph
  rw [w1,hb]
  exact ⟨rfl,rfl⟩
end Go.Proofs
