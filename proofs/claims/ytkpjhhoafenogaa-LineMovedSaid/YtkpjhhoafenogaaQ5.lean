/- Part 5 of what the proof rests on: a machine that runs functions of the program on pure values, proved sound; the functions that the law reaches, and what they compute. -/
import Derived.Test.YtkpjhhoafenogaaQ4
set_option linter.all false
namespace Go.Proofs
open Go Go.Pm
set_option maxRecDepth 100000
set_option linter.unusedVariables false
attribute [local irreducible] Go.Pm.vcFun Go.Pm.vc Go.Pm.vcIter
abbrev zN1:Tabs:=(((Tabs.nil.addF 69 zqx).addF 89 zqw).addF 108 zxn)
theorem zJQ:TabsOk Try.prog zN1:=(((TabsOk.nil.addF zLf).addF zLe).addF zMu)
abbrev zPt:Ctrs:=csm zN1 (fun _ _=>[]) (fun _=>false)
def zDa:Ann:=⟨38,[(0,zK [2,3,4] [3,4]),(1,zK [3,4,6,7] [3,4]),(2,zK [6,7,8] []),(3,zK [6,7,8,26] []),(4,zK [5] []),(5,zK [7,8,32] []),(6,zK [5] []),(7,zK [8,34] []),(8,zK [5] []),(9,zK [5] [])],
 [],
 [],
 [],[]⟩
abbrev zPu:=Int
abbrev zPv (r:zPu):List PA:=[.one (.int .i64 r)]
section
variable {K:List PA→Prop} {c0:set} {a:straight} {b:straight}
def zLj (c0:set) (a:straight) (b:straight):Int :=
  (cond (zC9 c0 a)
 (cond (zC9 c0 b)
 (s69 (s89 a.slope a.den) (s89 b.slope b.den))
 (cond (zC9 c0 a)
 (-1:Int)
 (cond (zC9 c0 b)
 (1:Int)
 (w64 (0 - (s69 (s89 a.slope a.den) (s89 b.slope b.den)))))))
 (cond (zC9 c0 a)
 (-1:Int)
 (cond (zC9 c0 b)
 (1:Int)
 (w64 (0 - (s69 (s89 a.slope a.den) (s89 b.slope b.den)))))))
def zLk (c0:set) (a:straight) (b:straight):Bool :=
  (decide ((zLi c0 a=true)) &&
 (decide ((zLi c0 b=true)) &&
 (decide ((p89 a.slope a.den=true)) &&
 (decide ((p89 b.slope b.den=true)) &&
 true))))
end
theorem zPw (c0:set) (a:straight) (b:straight) (K:List PA→Prop) (hs:zLk c0 a b=true) (hk:K (zPv (zLj c0 a b))):vcFun Try.prog zPt zDa 107 [.agg (zaf a),.agg (zaf b),.one (.fp (za3 c0) 0)] K :=
  zay (by kernel_rfl) (zaw hs fun hc hs=>And.intro (And.intro (zE enc_55 3 c0.list.Gates.get) (And.intro (zE zaf 3 c0.corners.get) hc)) (zaw hs fun hc hs=>And.intro (And.intro (zE enc_55 3 c0.list.Gates.get) (And.intro (zE zaf 3 c0.corners.get) hc)) (zaw hs fun hc hs=>And.intro hc (zaw hs fun hc hs=>And.intro hc (zt hk (fun hk=>(zt hk (fun hk=>hk) (fun hk=>(zt hk (fun hk=>hk) (fun hk=>(zt hk (fun hk=>hk) (fun hk=>hk))))))) (fun hk=>(zt hk (fun hk=>hk) (fun hk=>(zt hk (fun hk=>hk) (fun hk=>hk))))))))))
def zpm : List PA → COut
  | [.agg [.int .i64 a0_slope,.int .i64 a0_start,.int .i64 a0_den],.agg [.int .i64 a1_slope,.int .i64 a1_start,.int .i64 a1_den],.one (.fp [.sl c0_list_Gates_n c0_list_Gates_s c0_list_Gates_g,.sl c0_corners_n c0_corners_s c0_corners_g] 0)]=>.det (IsE enc_55 3 c0_list_Gates_s c0_list_Gates_g∧IsE zaf 3 c0_corners_s c0_corners_g∧zLk (⟨(⟨(⟨c0_list_Gates_n,zad c0_list_Gates_g⟩:(Sl Gate))⟩:list),(⟨c0_corners_n,zaX c0_corners_g⟩:(Sl straight))⟩:set) (⟨a0_slope,a0_start,a0_den⟩:straight) (⟨a1_slope,a1_start,a1_den⟩:straight)=true) [.one (.int .i64 (zLj (⟨(⟨(⟨c0_list_Gates_n,zad c0_list_Gates_g⟩:(Sl Gate))⟩:list),(⟨c0_corners_n,zaX c0_corners_g⟩:(Sl straight))⟩:set) (⟨a0_slope,a0_start,a0_den⟩:straight) (⟨a1_slope,a1_start,a1_den⟩:straight)))]
  | _=>.no
theorem zFM:zai Try.prog 107:=⟨_,rfl,rfl,by kernel_rfl⟩
theorem zMv:Ok Try.prog 107 zpm:=zaN zJQ zFM fun args K h=>by
  unfold zpm at h
  split at h
  · rename_i a0_slope a0_start a0_den a1_slope a1_start a1_den c0_list_Gates_n c0_list_Gates_s c0_list_Gates_g c0_corners_n c0_corners_s c0_corners_g
    obtain ⟨⟨⟨rfl,c0_list_Gates_f,rfl⟩,⟨rfl,c0_corners_f,rfl⟩,hs⟩,hk⟩:=h
    try rw [zae c0_list_Gates_f] at hs
    try rw [zae c0_list_Gates_f] at hk
    try rw [zaQ c0_corners_f] at hs
    try rw [zaQ c0_corners_f] at hk
    exact ⟨(fun _ _=>[]),(fun _=>false),zDa,zPw (⟨(⟨(⟨c0_list_Gates_n,c0_list_Gates_f⟩:(Sl Gate))⟩:list),(⟨c0_corners_n,c0_corners_f⟩:(Sl straight))⟩:set) (⟨a0_slope,a0_start,a0_den⟩:straight) (⟨a1_slope,a1_start,a1_den⟩:straight) K hs hk⟩
  · exact h.elim
abbrev T78:Tabs:=(((Tabs.nil.addO 105 zC6).addO 106 zC7).addF 107 zpm)
theorem zMw:TabsOk Try.prog T78:=(((TabsOk.nil.addO zMs).addO zMt).addF zMv)
abbrev G78:Ctrs:=csm T78 (fun _ _=>[]) (fun _=>false)
def zJR:Ann:=⟨11,[(0,zK [1] [1]),(1,zK [1,3] [1,6]),(2,zK [3] [6]),(3,zK [2] [6])],
 [],
 [],
 [],[]⟩
abbrev R78:=(Sl straight)
abbrev e78 (r:R78):List PA:=[.one (.sl r.len 3 (fun i=>zaf (r.get i)))]
section
variable {K:List PA→Prop} {s:set}
def s78 (s:set):(Sl straight) :=
  (⟨s.corners.len,(zpT s.corners.len (fun i j=>(zLj s (s.corners.get i) (s.corners.get j))) s.corners.get)⟩:(Sl straight))
def p78 (s:set):Bool :=
  (decide ((s.corners.len * 24≤140737488355328∧s.corners.len≤9223372036854775807)) &&
 (decide ((s.corners.len≤4611686018427387)∧(sortB s.corners.len (fun i j=>decide (zLk s (s.corners.get i) (s.corners.get j)=true)) (fun i j=>(zLj s (s.corners.get i) (s.corners.get j)))=true)) &&
 true))
end
theorem q78 (s:set) (K:List PA→Prop) (hs:p78 s=true) (hk:K (e78 (s78 s))):vcFun Try.prog G78 zJR 78 [.agg (za3 s)] K :=
  zay (by kernel_rfl) (zaw hs fun hc hs=>And.intro hc (zaw hs fun hc hs=>And.intro (And.intro (hc.1) ((zA9 (hc.2) (fun i j h=>(show IsE enc_55 3 3 (fun i=>enc_55 (s.list.Gates.get i))∧IsE zaf 3 3 (fun i=>zaf (s.corners.get i))∧(zLk s (s.corners.get i) (s.corners.get j)=true) from ⟨isE,isE,(of_decide_eq_true h)⟩)) rfl):(∀ i j,i < s.corners.len→j < s.corners.len→zHR (zpm) [.fp (za3 s) 0] true (fun i=>zaf (s.corners.get i)) i j)∧STO s.corners.len (zuM (zpm) [.fp (za3 s) 0] true (fun i=>zaf (s.corners.get i))))) hk))
def zFN : List PA → COut
  | [.agg [.sl a0_list_Gates_n a0_list_Gates_s a0_list_Gates_g,.sl a0_corners_n a0_corners_s a0_corners_g]]=>.det (IsE enc_55 3 a0_list_Gates_s a0_list_Gates_g∧IsE zaf 3 a0_corners_s a0_corners_g∧p78 (⟨(⟨(⟨a0_list_Gates_n,zad a0_list_Gates_g⟩:(Sl Gate))⟩:list),(⟨a0_corners_n,zaX a0_corners_g⟩:(Sl straight))⟩:set)=true) [.one (.sl ((s78 (⟨(⟨(⟨a0_list_Gates_n,zad a0_list_Gates_g⟩:(Sl Gate))⟩:list),(⟨a0_corners_n,zaX a0_corners_g⟩:(Sl straight))⟩:set)).len) 3 (fun i=>zaf ((s78 (⟨(⟨(⟨a0_list_Gates_n,zad a0_list_Gates_g⟩:(Sl Gate))⟩:list),(⟨a0_corners_n,zaX a0_corners_g⟩:(Sl straight))⟩:set)).get i)))]
  | _=>.no
theorem zJS:zai Try.prog 78:=⟨_,rfl,rfl,by kernel_rfl⟩
theorem zPx:Ok Try.prog 78 zFN:=zaN zMw zJS fun args K h=>by
  unfold zFN at h
  split at h
  · rename_i a0_list_Gates_n a0_list_Gates_s a0_list_Gates_g a0_corners_n a0_corners_s a0_corners_g
    obtain ⟨⟨⟨rfl,a0_list_Gates_f,rfl⟩,⟨rfl,a0_corners_f,rfl⟩,hs⟩,hk⟩:=h
    try rw [zae a0_list_Gates_f] at hs
    try rw [zae a0_list_Gates_f] at hk
    try rw [zaQ a0_corners_f] at hs
    try rw [zaQ a0_corners_f] at hk
    exact ⟨(fun _ _=>[]),(fun _=>false),zJR,q78 (⟨(⟨(⟨a0_list_Gates_n,a0_list_Gates_f⟩:(Sl Gate))⟩:list),(⟨a0_corners_n,a0_corners_f⟩:(Sl straight))⟩:set) K hs hk⟩
  · exact h.elim
abbrev T31:Tabs:=(((Tabs.nil.addF 75 zuC).addF 78 zFN).addF 79 zBx)
theorem zMx:TabsOk Try.prog T31:=(((TabsOk.nil.addF zMk).addF zPx).addF zNM)
abbrev G31:Ctrs:=csm T31 (fun _ _=>[]) (fun _=>false)
def zFO:Ann:=⟨31,[(0,zK [0] []),(1,zK [4,5] [4]),(2,zK [4,5,15] [4]),(3,zK [2,3] []),(4,zK [4,6] [4]),(5,zK [6,18,19,20] []),(6,zK [6,18,19,20,21] [28]),(7,zK [6,8,18,19,20] [8,28]),(8,zK [6,18,19,20] [28]),(9,zK [6,18,19,20] [28]),(10,zK [2,3] [28])],
 [(6,⟨[6,18,19,20],[28],[(6,28,37,fun _=>zbY default)],[],[],[],[]⟩)],
 [(2,zK [4,5] [4]),(4,zK [4] [4]),(6,zK [6,18,19,20] [])],
 [],[]⟩
abbrev R31:=((Sl Line)×Int)
abbrev e31 (r:R31):List PA:=[.one (.sl r.1.len 4 (fun i=>zbY (r.1.get i))),.one (.int .i64 r.2)]
@[irreducible] def z31:=ptF Try.prog G31 zFO Try.f31
def zDb (zch:(Sl straight)) (zcz:Int) (zdg:Int) (zcM:(Sl Line)) (zfw:Nat→List PV):St:=⟨[(6,zv 28),(18,zS zaf 3 zch),(19,zI zcz),(20,zI zdg)],[(28,.vec 37 4 32 zcM.len zfw)],[]⟩
abbrev zJT (K:List PA→Prop) (zch:(Sl straight)) (zcz:Int) (X:St→Prop) (P:Int→(Sl Line)→Bool) (S:Int→(Sl Line)→((Sl Line)×Int)):Prop:=∀ ⦃zdg:Int⦄ ⦃zcM:(Sl Line)⦄ ⦃zfw:Nat→List PV⦄,P zdg zcM=true→K (e31 (S zdg zcM))→zfw=zg zbY zcM→X (zDb zch zcz zdg zcM zfw)
section
variable {K:List PA→Prop} {zaa:(Sl Gate)} {ev0:Int} {zeV:(Sl Gate)} {zeW:(Sl straight)} {zj8:Nat→List PV} {zj9:Nat→List PV} {ziF:(Sl Gate)} {ziG:(Sl straight)} {zxo:Nat→List PV} {zxp:Nat→List PV} {zch:(Sl straight)} {zcz:Int} {zxq:Nat→List PV} {zdg:Int} {zcM:(Sl Line)} {zfw:Nat→List PV} {X3:St→Prop} {P3:Int→(Sl Line)→Bool} {S3:Int→(Sl Line)→((Sl Line)×Int)}
def zxr (zch:(Sl straight)) (zcz:Int) (S3:Int→(Sl Line)→((Sl Line)×Int)) (zdg:Int) (zcM:(Sl Line)):((Sl Line)×Int) :=
  (cond (decide (zdg < zcz))
 (S3 (w64 (zdg+(1:Int))) (⟨(zcM.len+1),(zdv zcM.len zcM.get (fun _=>(s79 (zch.get zdg.toNat))))⟩:Sl Line))
 (zcM,(0:Int)))
def zxs (zch:(Sl straight)) (zcz:Int) (P3:Int→(Sl Line)→Bool) (zdg:Int) (zcM:(Sl Line)):Bool :=
  (cond (decide (zdg < zcz))
 (decide ((0≤zdg∧zdg < (zch.len:Int))) &&
 (decide ((p79 (zch.get zdg.toNat)=true)) &&
 (decide (((zcM.len+1) * 32≤140737488355328∧zcM.len+1≤9223372036854775807)) &&
 (P3 (w64 (zdg+(1:Int))) (⟨(zcM.len+1),(zdv zcM.len zcM.get (fun _=>(s79 (zch.get zdg.toNat))))⟩:Sl Line)))))
 true)
def zxt (zch:(Sl straight)) (zcz:Int):Nat→Int→(Sl Line)→((Sl Line)×Int):=lpO (fun _ _=>default) (zxr zch zcz)
def zxu (zch:(Sl straight)) (zcz:Int):Nat→Int→(Sl Line)→Bool:=lpO (fun _ _=>false) (zxs zch zcz)
def zxv (zch:(Sl straight)) (zcz:Int) (zdg:Int) (zcM:(Sl Line)):((Sl Line)×Int):=zxt zch zcz Fuel zdg zcM
def zxw (zch:(Sl straight)) (zcz:Int) (zdg:Int) (zcM:(Sl Line)):Bool:=zxu zch zcz Fuel zdg zcM
theorem zFP (hs:zxw zch zcz zdg zcM=true) (hk:K (e31 (zxv zch zcz zdg zcM))) (zrr:zfw=zg zbY zcM):z31 (Wk K) [1,1,1,1,0,1,0] [] (zDb zch zcz zdg zcM zfw) :=
  zl (fun X=>z31 (Wk K) [1,1,1,1,0,1,0,0] [X]) (by kernel_rfl) fun X3 hX =>
  (show ∀ k, zJT K zch zcz X3 (zxu zch zcz k) (zxt zch zcz k) from zgX _ _ (zxs zch zcz) (zxr zch zcz) (zJT K zch zcz X3)
 (by intro _ _ _ hs;exact absurd hs Bool.false_ne_true)
 (by intro P3 S3 hX3 zdg zcM zfw hs hk zrr;subst zrr;exact hX _ (zay (by kernel_rfl) (zc hs hk (fun hs hk=>(zaw hs fun hc hs=>And.intro hc (zaw hs fun hc hs=>And.intro hc (zaw hs fun hc hs=>And.intro hc (hX3 hs hk (zjJ (enc:=zbY) (f:=zcM.get) (h:=(fun _=>(s79 (zch.get zdg.toNat)))) rfl rfl)))))) (fun hs hk=>((zep hk):Wk K [.one (.sl zcM.len 4 (fun i=>zbY (zcM.get i))),.one (.int .i64 (0:Int))])))))) _ hs hk zrr
def zxx (zch:(Sl straight)) (zcz:Int):((Sl Line)×Int) :=
  (zxv zch zcz (0:Int) (⟨0,(fun _=>default)⟩:Sl Line))
def zxy (zch:(Sl straight)) (zcz:Int):Bool :=
  (zxw zch zcz (0:Int) (⟨0,(fun _=>default)⟩:Sl Line))
theorem zFQ (hs:zxy zch zcz=true) (hk:K (e31 (zxx zch zcz))) (zFR:zxq=zg zaf zch):z31 (Wk K) [1,1,1,1,0,1] [] ⟨[(6,zP (.nils)),(18,zP (.sl zch.len 3 zxq)),(19,zI zcz),(20,zI (0:Int))],[],[]⟩:=by subst zFR;exact zay (by kernel_rfl) (zFP hs hk rfl)
def zxz (ziF:(Sl Gate)) (ziG:(Sl straight)):((Sl Line)×Int) :=
  (zxx (s78 (⟨(⟨ziF⟩:list),ziG⟩:set)) ((s78 (⟨(⟨ziF⟩:list),ziG⟩:set)).len:Int))
def zxA (ziF:(Sl Gate)) (ziG:(Sl straight)):Bool :=
  (decide ((p78 (⟨(⟨ziF⟩:list),ziG⟩:set)=true)) &&
 (zxy (s78 (⟨(⟨ziF⟩:list),ziG⟩:set)) ((s78 (⟨(⟨ziF⟩:list),ziG⟩:set)).len:Int)))
theorem zFS (hs:zxA ziF ziG=true) (hk:K (e31 (zxz ziF ziG))) (zFT:zxo=zg enc_55 ziF) (zFU:zxp=zg zaf ziG):z31 (Wk K) [1,1,1] [] ⟨[(4,zp 4 0)],[(4,.box 104 [.p (.sl ziF.len 3 zxo),.p (.sl ziG.len 3 zxp)])],[]⟩:=by subst zFT;subst zFU;exact zay (by kernel_rfl) (zaw hs fun hc hs=>And.intro (And.intro (zE enc_55 3 ziF.get) (And.intro (zE zaf 3 ziG.get) hc)) (zFQ hs hk rfl))
def zxB (ev0:Int) (zeV:(Sl Gate)) (zeW:(Sl straight)):((Sl Line)×Int) :=
  (cond (ev0 != (0:Int))
 ((⟨0,fun _=>default⟩:(Sl Line)),ev0)
 (zxz zeV zeW))
def zxC (ev0:Int) (zeV:(Sl Gate)) (zeW:(Sl straight)):Bool :=
  (cond (ev0 != (0:Int))
 true
 (zxA zeV zeW))
theorem zFV (hs:zxC ev0 zeV zeW=true) (hk:K (e31 (zxB ev0 zeV zeW))) (zrt:zj8=zg enc_55 zeV) (zru:zj9=zg zaf zeW):z31 (Wk K) [1,1] [] ⟨[(4,zp 4 0),(5,zI ev0)],[(4,.box 104 [.p (.sl zeV.len 3 zj8),.p (.sl zeW.len 3 zj9)])],[]⟩:=by subst zrt;subst zru;exact zay (by kernel_rfl) (zc hs hk (fun hs hk=>((wk hk (zdh (.one (.nil _ _)) (zdh (.one (.rfl _)) zhv))):Wk K [.one (.nils),.one (.int .i64 ev0)])) (fun hs hk=>(zFS hs hk rfl rfl)))
def s31 (zaa:(Sl Gate)):((Sl Line)×Int) :=
  (zxB ((s75 zaa).2) (((s75 zaa).1).list.Gates) (((s75 zaa).1).corners))
def p31 (zaa:(Sl Gate)):Bool :=
  (decide ((p75 zaa=true)) &&
 (zxC ((s75 zaa).2) (((s75 zaa).1).list.Gates) (((s75 zaa).1).corners)))
end
theorem q31 (zaa:(Sl Gate)) (K:List PA→Prop) (hs:p31 zaa=true) (hk:K (e31 (s31 zaa))):vcFun Try.prog G31 zFO 31 [.one (.sl zaa.len 3 (fun i=>enc_55 (zaa.get i)))] (Wk K) :=
  zay (by kernel_rfl) (zaw hs fun hc hs=>And.intro (And.intro (zE enc_55 3 zaa.get) hc) (zFV hs hk rfl rfl))
def zFW : List PA → COut
  | [.one (.sl a0_n a0_s a0_g)]=>.det (IsE enc_55 3 a0_s a0_g∧p31 (⟨a0_n,zad a0_g⟩:(Sl Gate))=true) [.one (.sl (((s31 (⟨a0_n,zad a0_g⟩:(Sl Gate))).1).len) 4 (fun i=>zbY (((s31 (⟨a0_n,zad a0_g⟩:(Sl Gate))).1).get i))),.one (.int .i64 ((s31 (⟨a0_n,zad a0_g⟩:(Sl Gate))).2))]
  | _=>.no
theorem zJU:zai Try.prog 31:=⟨_,rfl,rfl,by kernel_rfl⟩
theorem zPy:Ok Try.prog 31 zFW:=zhw zMx zJU fun args K h=>by
  unfold zFW at h
  split at h
  · rename_i a0_n a0_s a0_g
    obtain ⟨⟨⟨rfl,a0_f,rfl⟩,hs⟩,hk⟩:=h
    try rw [zae a0_f] at hs
    try rw [zae a0_f] at hk
    exact ⟨_,zfj zf2 _,(fun _ _=>[]),(fun _=>false),zFO,q31 (⟨a0_n,a0_f⟩:(Sl Gate)) K hs hk⟩
  · exact h.elim
abbrev T34:Tabs:=Tabs.nil
theorem zMy:TabsOk Try.prog T34:=TabsOk.nil
abbrev G34:Ctrs:=csm T34 (fun _ _=>[]) (fun _=>false)
def zFX:Ann:=⟨26,[(0,zK [0,1] []),(1,zK [0,1,10] []),(2,zK [4] []),(3,zK [0,1,5] []),(4,zK [0,1,5,14] []),(5,zK [0,1,5] []),(6,zK [0,1,5,25] []),(7,zK [4] []),(8,zK [4] [])],
 [(4,zK [0,1,5] [])],
 [(3,zK [0,1] [])],
 [],[]⟩
abbrev R34:=Bool
abbrev e34 (r:R34):List PA:=[.one (.bool r)]
@[irreducible] def z34:=ptF Try.prog G34 zFX Try.f34
def zDc (a:(Sl Line)) (b:(Sl Line)) (iv1:Int):St:=⟨[(0,zS zbY 4 a),(1,zS zbY 4 b),(5,zI iv1)],[],[]⟩
abbrev zJV (K:List PA→Prop) (a:(Sl Line)) (b:(Sl Line)) (X:St→Prop) (P:Int→Bool) (S:Int→Bool):Prop:=∀ ⦃iv1:Int⦄,P iv1=true→K (e34 (S iv1))→X (zDc a b iv1)
section
variable {K:List PA→Prop} {a:(Sl Line)} {b:(Sl Line)} {iv1:Int} {X1:St→Prop} {P1:Int→Bool} {S1:Int→Bool}
def zxD (a:(Sl Line)) (b:(Sl Line)) (S1:Int→Bool) (iv1:Int):Bool :=
  (cond (decide (iv1 < (a.len : Int)))
 (cond (!(match (match ((a.get iv1.toNat).Slope.Num == (b.get iv1.toNat).Slope.Num) with | true => (match ((a.get iv1.toNat).Slope.Den == (b.get iv1.toNat).Slope.Den) with | true => true | false => false) | false => false) with | true => (match (match ((a.get iv1.toNat).Start.Num == (b.get iv1.toNat).Start.Num) with | true => (match ((a.get iv1.toNat).Start.Den == (b.get iv1.toNat).Start.Den) with | true => true | false => false) | false => false) with | true => true | false => false) | false => false))
 false
 (S1 (w64 (iv1+(1:Int)))))
 true)
def zxE (a:(Sl Line)) (b:(Sl Line)) (P1:Int→Bool) (iv1:Int):Bool :=
  (cond (decide (iv1 < (a.len : Int)))
 (decide ((0≤iv1∧iv1 < (a.len:Int))) &&
 (decide ((0≤iv1∧iv1 < (b.len:Int))) &&
 (cond (!(match (match ((a.get iv1.toNat).Slope.Num == (b.get iv1.toNat).Slope.Num) with | true => (match ((a.get iv1.toNat).Slope.Den == (b.get iv1.toNat).Slope.Den) with | true => true | false => false) | false => false) with | true => (match (match ((a.get iv1.toNat).Start.Num == (b.get iv1.toNat).Start.Num) with | true => (match ((a.get iv1.toNat).Start.Den == (b.get iv1.toNat).Start.Den) with | true => true | false => false) | false => false) with | true => true | false => false) | false => false))
 true
 (P1 (w64 (iv1+(1:Int)))))))
 true)
def zxF (a:(Sl Line)) (b:(Sl Line)):Nat→Int→Bool:=lpO (fun _=>default) (zxD a b)
def zxG (a:(Sl Line)) (b:(Sl Line)):Nat→Int→Bool:=lpO (fun _=>false) (zxE a b)
def zxH (a:(Sl Line)) (b:(Sl Line)) (iv1:Int):Bool:=zxF a b Fuel iv1
def zxI (a:(Sl Line)) (b:(Sl Line)) (iv1:Int):Bool:=zxG a b Fuel iv1
theorem zFY (hs:zxI a b iv1=true) (hk:K (e34 (zxH a b iv1))):z34 K [1,1,0,1,0] [] (zDc a b iv1) :=
  zl (fun X=>z34 K [1,1,0,1,0,0] [X]) (by kernel_rfl) fun X1 hX =>
  (show ∀ k, zJV K a b X1 (zxG a b k) (zxF a b k) from zgX _ _ (zxE a b) (zxD a b) (zJV K a b X1)
 (by intro _ hs;exact absurd hs Bool.false_ne_true)
 (by intro P1 S1 hX1 iv1 hs hk;exact hX _ (zay (by kernel_rfl) (zc hs hk (fun hs hk=>(zaw hs fun hc hs=>And.intro hc (zaw hs fun hc hs=>And.intro hc (zc hs hk (fun hs hk=>hk) (fun hs hk=>(hX1 hs hk)))))) (fun hs hk=>hk))))) _ hs hk
def zxJ (a:(Sl Line)) (b:(Sl Line)):Bool :=
  (zxH a b (0:Int))
def zxK (a:(Sl Line)) (b:(Sl Line)):Bool :=
  (zxI a b (0:Int))
theorem zFZ (hs:zxK a b=true) (hk:K (e34 (zxJ a b))):z34 K [1,1] [] ⟨[(0,zS zbY 4 a),(1,zS zbY 4 b)],[],[]⟩:=zay (by kernel_rfl) (zFY hs hk)
def s34 (a:(Sl Line)) (b:(Sl Line)):Bool :=
  (cond ((a.len : Int) != (b.len : Int))
 false
 (zxJ a b))
def p34 (a:(Sl Line)) (b:(Sl Line)):Bool :=
  (cond ((a.len : Int) != (b.len : Int))
 true
 (zxK a b))
end
theorem q34 (a:(Sl Line)) (b:(Sl Line)) (K:List PA→Prop) (hs:p34 a b=true) (hk:K (e34 (s34 a b))):vcFun Try.prog G34 zFX 34 [.one (.sl a.len 4 (fun i=>zbY (a.get i))),.one (.sl b.len 4 (fun i=>zbY (b.get i)))] K :=
  zay (by kernel_rfl) (zc hs hk (fun hs hk=>hk) (fun hs hk=>(zFZ hs hk)))
def zF0 : List PA → COut
  | [.one (.sl a0_n a0_s a0_g),.one (.sl a1_n a1_s a1_g)]=>.det (IsE zbY 4 a0_s a0_g∧IsE zbY 4 a1_s a1_g∧p34 (⟨a0_n,zjM a0_g⟩:(Sl Line)) (⟨a1_n,zjM a1_g⟩:(Sl Line))=true) [.one (.bool (s34 (⟨a0_n,zjM a0_g⟩:(Sl Line)) (⟨a1_n,zjM a1_g⟩:(Sl Line))))]
  | _=>.no
theorem zJW:zai Try.prog 34:=⟨_,rfl,rfl,by kernel_rfl⟩
theorem zPz:Ok Try.prog 34 zF0:=zaN zMy zJW fun args K h=>by
  unfold zF0 at h
  split at h
  · rename_i a0_n a0_s a0_g a1_n a1_s a1_g
    obtain ⟨⟨⟨rfl,a0_f,rfl⟩,⟨rfl,a1_f,rfl⟩,hs⟩,hk⟩:=h
    try rw [zeN a0_f] at hs
    try rw [zeN a0_f] at hk
    try rw [zeN a1_f] at hs
    try rw [zeN a1_f] at hk
    exact ⟨(fun _ _=>[]),(fun _=>false),zFX,q34 (⟨a0_n,a0_f⟩:(Sl Line)) (⟨a1_n,a1_f⟩:(Sl Line)) K hs hk⟩
  · exact h.elim
abbrev T85:Tabs:=Tabs.nil
theorem zMz:TabsOk Try.prog T85:=TabsOk.nil
abbrev G85:Ctrs:=csm T85 (fun _ _=>[]) (fun _=>false)
def zJX:Ann:=⟨47,[(0,zK [0,1,2,3,4,5] []),(1,zK [0,1,2,13] []),(2,zK [13,14] []),(3,zK [12] [])],
 [],
 [],
 [],[]⟩
abbrev R85:=Int
abbrev e85 (r:R85):List PA:=[.one (.int .i64 r)]
section
variable {K:List PA→Prop} {u:Int} {v:Int} {w:Int} {p:Int} {q:Int} {r_a5:Int}
def s85 (u:Int) (v:Int) (w:Int) (p:Int) (q:Int) (r_a5:Int):Int :=
  (w64 ((w64 ((w64 ((w64 ((1000:Int) * (if (w64 (0 - (w64 ((w64 ((w64 (r_a5 - q)) * (w64 (v - u)))) - (w64 ((w64 (q - p)) * (w64 (w - v)))))))) > (w64 ((w64 ((w64 (r_a5 - q)) * (w64 (v - u)))) - (w64 ((w64 (q - p)) * (w64 (w - v)))))) then (w64 (0 - (w64 ((w64 ((w64 (r_a5 - q)) * (w64 (v - u)))) - (w64 ((w64 (q - p)) * (w64 (w - v)))))))) else (w64 ((w64 ((w64 (r_a5 - q)) * (w64 (v - u)))) - (w64 ((w64 (q - p)) * (w64 (w - v)))))))))+(w64 ((w64 (v - u)) * (w64 (w - v)))))) - (1:Int))).tdiv (w64 ((w64 (v - u)) * (w64 (w - v))))))
def p85 (u:Int) (v:Int) (w:Int) (p:Int) (q:Int) (r_a5:Int):Bool :=
  (decide (((w64 ((w64 (v - u)) * (w64 (w - v)))) ≠ 0)) &&
 true)
end
theorem q85 (u:Int) (v:Int) (w:Int) (p:Int) (q:Int) (r_a5:Int) (K:List PA→Prop) (hs:p85 u v w p q r_a5=true) (hk:K (e85 (s85 u v w p q r_a5))):vcFun Try.prog G85 zJX 85 [.one (.int .i64 u),.one (.int .i64 v),.one (.int .i64 w),.one (.int .i64 p),.one (.int .i64 q),.one (.int .i64 r_a5)] K :=
  zay (by kernel_rfl) (zaw hs fun hc hs=>And.intro hc hk)
def zBP : List PA → COut
  | [.one (.int .i64 a0),.one (.int .i64 a1),.one (.int .i64 a2),.one (.int .i64 a3),.one (.int .i64 a4),.one (.int .i64 a5)]=>.det (p85 a0 a1 a2 a3 a4 a5=true) [.one (.int .i64 (s85 a0 a1 a2 a3 a4 a5))]
  | _=>.no
theorem zJY:zai Try.prog 85:=⟨_,rfl,rfl,by kernel_rfl⟩
theorem zN2:Ok Try.prog 85 zBP:=zaN zMz zJY fun args K h=>by
  unfold zBP at h
  split at h
  · rename_i a0 a1 a2 a3 a4 a5
    obtain ⟨hs,hk⟩:=h
    exact ⟨(fun _ _=>[]),(fun _=>false),zJX,q85 a0 a1 a2 a3 a4 a5 K hs hk⟩
  · exact h.elim
abbrev T92:Tabs:=((Tabs.nil.addF 64 zuz).addF 74 zqq)
theorem zMA:TabsOk Try.prog T92:=((TabsOk.nil.addF zLh).addF zIG)
abbrev G92:Ctrs:=csm T92 (fun _ _=>[]) (fun _=>false)
def zF1:Ann:=⟨41,[(0,zK [0] []),(1,zK [0,5,6,7] []),(2,zK [0,5,6,7,8] []),(3,zK [0,3,4,5,6,7] [4]),(4,zK [0,5,6,7,32] []),(5,zK [2] []),(6,zK [0,5,6,7] []),(7,zK [2] [])],
 [(2,zK [0,5,6,7] [])],
 [],
 [],[]⟩
abbrev R92:=Bool
abbrev e92 (r:R92):List PA:=[.one (.bool r)]
@[irreducible] def z92:=ptF Try.prog G92 zF1 Try.f92
def zDd (zaa:(Sl Gate)) (za4:Int):St:=⟨[(0,zS enc_55 3 zaa),(5,zS enc_55 3 zaa),(6,zI (zaa.len:Int)),(7,zI za4)],[],[]⟩
abbrev zJZ (K:List PA→Prop) (zaa:(Sl Gate)) (X:St→Prop) (P:Int→Bool) (S:Int→Bool):Prop:=∀ ⦃za4:Int⦄,P za4=true→K (e92 (S za4))→X (zDd zaa za4)
section
variable {K:List PA→Prop} {zaa:(Sl Gate)} {za4:Int} {X0:St→Prop} {P0:Int→Bool} {S0:Int→Bool}
def zxL (zaa:(Sl Gate)) (S0:Int→Bool) (za4:Int):Bool :=
  (cond (decide (za4 < (zaa.len : Int)))
 (cond (decide ((w64 ((zaa.get za4.toNat).High - (zaa.get za4.toNat).Low)) > (60:Int)))
 false
 (cond (decide (za4 > (0:Int)))
 (cond (decide ((zaa.get za4.toNat).Z ≤ (zaa.get ((w64 (za4 - (1:Int))).toNat)).Z))
 false
 (S0 (w64 (za4+(1:Int)))))
 (S0 (w64 (za4+(1:Int))))))
 (cond (s74 (zaa.len : Int) (2:Int) (8:Int))
 (s64 zaa)
 false))
def zxM (zaa:(Sl Gate)) (P0:Int→Bool) (za4:Int):Bool :=
  (cond (decide (za4 < (zaa.len : Int)))
 (decide ((0≤za4∧za4 < (zaa.len:Int))) &&
 (cond (decide ((w64 ((zaa.get za4.toNat).High - (zaa.get za4.toNat).Low)) > (60:Int)))
 true
 (cond (decide (za4 > (0:Int)))
 (decide ((0≤(w64 (za4 - (1:Int)))∧(w64 (za4 - (1:Int))) < (zaa.len:Int))) &&
 (cond (decide ((zaa.get za4.toNat).Z ≤ (zaa.get ((w64 (za4 - (1:Int))).toNat)).Z))
 true
 (P0 (w64 (za4+(1:Int))))))
 (P0 (w64 (za4+(1:Int)))))))
 (cond (s74 (zaa.len : Int) (2:Int) (8:Int))
 (decide ((p64 zaa=true)) &&
 true)
 true))
def zxN (zaa:(Sl Gate)):Nat→Int→Bool:=lpO (fun _=>default) (zxL zaa)
def zxO (zaa:(Sl Gate)):Nat→Int→Bool:=lpO (fun _=>false) (zxM zaa)
def zxP (zaa:(Sl Gate)) (za4:Int):Bool:=zxN zaa Fuel za4
def zxQ (zaa:(Sl Gate)) (za4:Int):Bool:=zxO zaa Fuel za4
theorem zF2 (hs:zxQ zaa za4=true) (hk:K (e92 (zxP zaa za4))):z92 K [1,0,1,0] [] (zDd zaa za4) :=
  zl (fun X=>z92 K [1,0,1,0,0] [X]) (by kernel_rfl) fun X0 hX =>
  (show ∀ k, zJZ K zaa X0 (zxO zaa k) (zxN zaa k) from zgX _ _ (zxM zaa) (zxL zaa) (zJZ K zaa X0)
 (by intro _ hs;exact absurd hs Bool.false_ne_true)
 (by intro P0 S0 hX0 za4 hs hk;exact hX _ (zay (by kernel_rfl) (zc hs hk (fun hs hk=>(zaw hs fun hc hs=>And.intro hc (zc hs hk (fun hs hk=>hk) (fun hs hk=>(zc hs hk (fun hs hk=>(zaw hs fun hc hs=>And.intro hc (zc hs hk (fun hs hk=>hk) (fun hs hk=>(hX0 hs hk))))) (fun hs hk=>(hX0 hs hk))))))) (fun hs hk=>(zc hs hk (fun hs hk=>(zaw hs fun hc hs=>And.intro (And.intro (zE enc_55 3 zaa.get) hc) hk)) (fun hs hk=>hk))))))) _ hs hk
def s92 (zaa:(Sl Gate)):Bool :=
  (zxP zaa (0:Int))
def p92 (zaa:(Sl Gate)):Bool :=
  (zxQ zaa (0:Int))
end
theorem q92 (zaa:(Sl Gate)) (K:List PA→Prop) (hs:p92 zaa=true) (hk:K (e92 (s92 zaa))):vcFun Try.prog G92 zF1 92 [.one (.sl zaa.len 3 (fun i=>enc_55 (zaa.get i)))] K :=
  zay (by kernel_rfl) (zF2 hs hk)
def zF3 : List PA → COut
  | [.one (.sl a0_n a0_s a0_g)]=>.det (IsE enc_55 3 a0_s a0_g∧p92 (⟨a0_n,zad a0_g⟩:(Sl Gate))=true) [.one (.bool (s92 (⟨a0_n,zad a0_g⟩:(Sl Gate))))]
  | _=>.no
theorem zJ0:zai Try.prog 92:=⟨_,rfl,rfl,by kernel_rfl⟩
theorem zPA:Ok Try.prog 92 zF3:=zaN zMA zJ0 fun args K h=>by
  unfold zF3 at h
  split at h
  · rename_i a0_n a0_s a0_g
    obtain ⟨⟨⟨rfl,a0_f,rfl⟩,hs⟩,hk⟩:=h
    try rw [zae a0_f] at hs
    try rw [zae a0_f] at hk
    exact ⟨(fun _ _=>[]),(fun _=>false),zF1,q92 (⟨a0_n,a0_f⟩:(Sl Gate)) K hs hk⟩
  · exact h.elim
abbrev T93:Tabs:=(Tabs.nil.addF 85 zBP)
theorem zMB:TabsOk Try.prog T93:=(TabsOk.nil.addF zN2)
abbrev G93:Ctrs:=csm T93 (fun _ _=>[]) (fun l=>Nat.beq l 15 || Nat.beq l 24)
def zF4:Ann:=⟨131,[(0,zK [0] []),(1,zK [0,3] []),(2,zK [0,3,4] [15]),(3,zK [0,3,4,5] [15]),(4,zK [0,3,4,5,19] [15]),(5,zK [0,3,4,5] [15]),(6,zK [0,3,4,5] [15]),(7,zK [0,3,4,5,6] [15]),(8,zK [0,3,4,5,6,37] [15]),(9,zK [0,3,4,5,6] [15]),(10,zK [0,3,4,5,6,7] [15]),(11,zK [0,3,4,5,6,7,53] [15]),(12,zK [0,3,4,5,6,7] [15]),(13,zK [0,3,4,5,6,7,59] [15]),(14,zK [0,3,4,5,6,7] [15]),(15,zK [0,3,4,5,6,7,8] [15]),(16,zK [0,3,4,5,6,7,8,9] [15]),(17,zK [0,3,4,5,6,7,8,9,80] [15]),(18,zK [0,3,4,5,6,7,8,9] [15]),(19,zK [0,3,4,5,6,7,8,9,10] [15]),(20,zK [0,3,4,5,6,7,8,9,10,120] [15]),(21,zK [0,3,4,5,6,7,8,9] [15]),(22,zK [0,3,4,5,6,7] [15]),(23,zK [2] [15])],
 [(4,zK [0,3,4,5] [15]),(8,zK [0,3,4,5,6] [15]),(11,zK [0,3,4,5,6,7] [15]),(17,zK [0,3,4,5,6,7,8,9] [15])],
 [(15,zK [0,3,4,5,6,7] [15]),(20,zK [0,3,4,5,6,7,8,9,10] [15])],
 [],[]⟩
abbrev R93:=(Sl Mp)
abbrev e93 (r:R93):List PA:=[.one (.sl r.len 1 (fun i=>zcP (r.get i)))]
@[irreducible] def z93:=ptF Try.prog G93 zF4 Try.f93
def zDe (zaa:(Sl Gate)) (iv0:Int) (zbR:Nat) (zbJ:(Nat→Bool)) (zbK:(Nat→Nat)) (zb8:(Nat→List Int→Option (List Int))):St:=⟨[(0,zS enc_55 3 zaa),(3,zI (zaa.len:Int)),(4,zv 15),(5,zI iv0)],[(15,.vm 129 8 131 3 (true,2,false,[some .i64]) zbR zbJ zbK zb8)],[]⟩
abbrev zrv (K:List PA→Prop) (zaa:(Sl Gate)) (X:St→Prop) (P:Int→Nat→(Nat→Bool)→(Nat→Nat)→(Nat→List Int→Option (List Int))→Bool) (S:Int→Nat→(Nat→Bool)→(Nat→Nat)→(Nat→List Int→Option (List Int))→(Sl Mp)):Prop:=∀ ⦃iv0:Int⦄ ⦃zbR:Nat⦄ ⦃zbJ:(Nat→Bool)⦄ ⦃zbK:(Nat→Nat)⦄ ⦃zb8:(Nat→List Int→Option (List Int))⦄,P iv0 zbR zbJ zbK zb8=true→K (e93 (S iv0 zbR zbJ zbK zb8))→X (zDe zaa iv0 zbR zbJ zbK zb8)
def zDf (zaa:(Sl Gate)) (iv1:Int) (pv1:Int) (zbZ:Nat) (zbC:(Nat→Bool)) (zbD:(Nat→Nat)) (zb0:(Nat→List Int→Option (List Int))):St:=⟨[(0,zS enc_55 3 zaa),(3,zI (zaa.len:Int)),(4,zv 15),(5,zI iv1),(6,zI pv1)],[(15,.vm 129 8 131 3 (true,2,false,[some .i64]) zbZ zbC zbD zb0)],[]⟩
abbrev zuD (K:List PA→Prop) (zaa:(Sl Gate)) (X:St→Prop) (P:Int→Int→Nat→(Nat→Bool)→(Nat→Nat)→(Nat→List Int→Option (List Int))→Bool) (S:Int→Int→Nat→(Nat→Bool)→(Nat→Nat)→(Nat→List Int→Option (List Int))→(Sl Mp)):Prop:=∀ ⦃iv1:Int⦄ ⦃pv1:Int⦄ ⦃zbZ:Nat⦄ ⦃zbC:(Nat→Bool)⦄ ⦃zbD:(Nat→Nat)⦄ ⦃zb0:(Nat→List Int→Option (List Int))⦄,P iv1 pv1 zbZ zbC zbD zb0=true→K (e93 (S iv1 pv1 zbZ zbC zbD zb0))→X (zDf zaa iv1 pv1 zbZ zbC zbD zb0)
def zDg (zaa:(Sl Gate)) (iv2:Int) (pv2:Int) (qv2:Int) (zbE:Nat) (zbc:(Nat→Bool)) (za5:(Nat→Nat)) (zbw:(Nat→List Int→Option (List Int))):St:=⟨[(0,zS enc_55 3 zaa),(3,zI (zaa.len:Int)),(4,zv 15),(5,zI iv2),(6,zI pv2),(7,zI qv2)],[(15,.vm 129 8 131 3 (true,2,false,[some .i64]) zbE zbc za5 zbw)],[]⟩
abbrev zxR (K:List PA→Prop) (zaa:(Sl Gate)) (X:St→Prop) (P:Int→Int→Int→Nat→(Nat→Bool)→(Nat→Nat)→(Nat→List Int→Option (List Int))→Bool) (S:Int→Int→Int→Nat→(Nat→Bool)→(Nat→Nat)→(Nat→List Int→Option (List Int))→(Sl Mp)):Prop:=∀ ⦃iv2:Int⦄ ⦃pv2:Int⦄ ⦃qv2:Int⦄ ⦃zbE:Nat⦄ ⦃zbc:(Nat→Bool)⦄ ⦃za5:(Nat→Nat)⦄ ⦃zbw:(Nat→List Int→Option (List Int))⦄,P iv2 pv2 qv2 zbE zbc za5 zbw=true→K (e93 (S iv2 pv2 qv2 zbE zbc za5 zbw))→X (zDg zaa iv2 pv2 qv2 zbE zbc za5 zbw)
def zDh (zaa:(Sl Gate)) (qv3:Int) (iv4:Int) (pv4:Int) (zcJ:Int) (rv4:Int) (zbx:Nat) (zbk:(Nat→Bool)) (zbl:(Nat→Nat)) (zbj:(Nat→List Int→Option (List Int))):St:=⟨[(0,zS enc_55 3 zaa),(3,zI (zaa.len:Int)),(4,zv 15),(5,zI iv4),(6,zI pv4),(7,zI qv3),(8,zI zcJ),(9,zI rv4)],[(15,.vm 129 8 131 3 (true,2,false,[some .i64]) zbx zbk zbl zbj)],[]⟩
abbrev zF5 (K:List PA→Prop) (zaa:(Sl Gate)) (qv3:Int) (X:St→Prop) (P:Int→Int→Int→Int→Nat→(Nat→Bool)→(Nat→Nat)→(Nat→List Int→Option (List Int))→Bool) (S:Int→Int→Int→Int→Nat→(Nat→Bool)→(Nat→Nat)→(Nat→List Int→Option (List Int))→(Sl Mp)):Prop:=∀ ⦃iv4:Int⦄ ⦃pv4:Int⦄ ⦃zcJ:Int⦄ ⦃rv4:Int⦄ ⦃zbx:Nat⦄ ⦃zbk:(Nat→Bool)⦄ ⦃zbl:(Nat→Nat)⦄ ⦃zbj:(Nat→List Int→Option (List Int))⦄,P iv4 pv4 zcJ rv4 zbx zbk zbl zbj=true→K (e93 (S iv4 pv4 zcJ rv4 zbx zbk zbl zbj))→X (zDh zaa qv3 iv4 pv4 zcJ rv4 zbx zbk zbl zbj)
section
variable {K:List PA→Prop} {zaa:(Sl Gate)} {iv0:Int} {zbR:Nat} {zbJ:(Nat→Bool)} {zbK:(Nat→Nat)} {zb8:(Nat→List Int→Option (List Int))} {X0:St→Prop} {P0:Int→Nat→(Nat→Bool)→(Nat→Nat)→(Nat→List Int→Option (List Int))→Bool} {S0:Int→Nat→(Nat→Bool)→(Nat→Nat)→(Nat→List Int→Option (List Int))→(Sl Mp)} {iv1:Int} {pv1:Int} {zbZ:Nat} {zbC:(Nat→Bool)} {zbD:(Nat→Nat)} {zb0:(Nat→List Int→Option (List Int))} {X1:St→Prop} {P1:Int→Int→Nat→(Nat→Bool)→(Nat→Nat)→(Nat→List Int→Option (List Int))→Bool} {S1:Int→Int→Nat→(Nat→Bool)→(Nat→Nat)→(Nat→List Int→Option (List Int))→(Sl Mp)} {iv2:Int} {pv2:Int} {qv2:Int} {zbE:Nat} {zbc:(Nat→Bool)} {za5:(Nat→Nat)} {zbw:(Nat→List Int→Option (List Int))} {X2:St→Prop} {P2:Int→Int→Int→Nat→(Nat→Bool)→(Nat→Nat)→(Nat→List Int→Option (List Int))→Bool} {S2:Int→Int→Int→Nat→(Nat→Bool)→(Nat→Nat)→(Nat→List Int→Option (List Int))→(Sl Mp)} {iv3:Int} {pv3:Int} {qv3:Int} {zgr:Nat} {zeX:(Nat→Bool)} {zeY:(Nat→Nat)} {zgs:(Nat→List Int→Option (List Int))} {iv4:Int} {pv4:Int} {zcJ:Int} {rv4:Int} {zbx:Nat} {zbk:(Nat→Bool)} {zbl:(Nat→Nat)} {zbj:(Nat→List Int→Option (List Int))} {X4:St→Prop} {P4:Int→Int→Int→Int→Nat→(Nat→Bool)→(Nat→Nat)→(Nat→List Int→Option (List Int))→Bool} {S4:Int→Int→Int→Int→Nat→(Nat→Bool)→(Nat→Nat)→(Nat→List Int→Option (List Int))→(Sl Mp)} {iv5:Int} {pv5:Int} {zfx:Int} {rv5:Int} {kv5:Int} {zdR:Nat} {zcT:(Nat→Bool)} {zcU:(Nat→Nat)} {zdS:(Nat→List Int→Option (List Int))}
def zxS (S0:Int→Nat→(Nat→Bool)→(Nat→Nat)→(Nat→List Int→Option (List Int))→(Sl Mp)) (S1:Int→Int→Nat→(Nat→Bool)→(Nat→Nat)→(Nat→List Int→Option (List Int))→(Sl Mp)) (S2:Int→Int→Int→Nat→(Nat→Bool)→(Nat→Nat)→(Nat→List Int→Option (List Int))→(Sl Mp)) (S4:Int→Int→Int→Int→Nat→(Nat→Bool)→(Nat→Nat)→(Nat→List Int→Option (List Int))→(Sl Mp)) (zaa:(Sl Gate)) (qv3:Int) (iv5:Int) (pv5:Int) (zfx:Int) (rv5:Int) (kv5:Int) (zdR:Nat) (zcT:(Nat→Bool)) (zcU:(Nat→Nat)) (zdS:(Nat→List Int→Option (List Int))):(Sl Mp) :=
  (cond (decide (zfx < (0:Int)))
 (S4 iv5 pv5 kv5 (w64 (rv5+(1:Int))) zdR zcT zcU zdS)
 (cond (decide (kv5 < zfx))
 (S4 iv5 pv5 kv5 (w64 (rv5+(1:Int))) zdR zcT zcU zdS)
 (S4 iv5 pv5 zfx (w64 (rv5+(1:Int))) zdR zcT zcU zdS)))
def zxT (P0:Int→Nat→(Nat→Bool)→(Nat→Nat)→(Nat→List Int→Option (List Int))→Bool) (P1:Int→Int→Nat→(Nat→Bool)→(Nat→Nat)→(Nat→List Int→Option (List Int))→Bool) (P2:Int→Int→Int→Nat→(Nat→Bool)→(Nat→Nat)→(Nat→List Int→Option (List Int))→Bool) (P4:Int→Int→Int→Int→Nat→(Nat→Bool)→(Nat→Nat)→(Nat→List Int→Option (List Int))→Bool) (zaa:(Sl Gate)) (qv3:Int) (iv5:Int) (pv5:Int) (zfx:Int) (rv5:Int) (kv5:Int) (zdR:Nat) (zcT:(Nat→Bool)) (zcU:(Nat→Nat)) (zdS:(Nat→List Int→Option (List Int))):Bool :=
  (cond (decide (zfx < (0:Int)))
 (P4 iv5 pv5 kv5 (w64 (rv5+(1:Int))) zdR zcT zcU zdS)
 (cond (decide (kv5 < zfx))
 (P4 iv5 pv5 kv5 (w64 (rv5+(1:Int))) zdR zcT zcU zdS)
 (P4 iv5 pv5 zfx (w64 (rv5+(1:Int))) zdR zcT zcU zdS)))
theorem zF6 (hX0:zrv K zaa X0 P0 S0) (hX1:zuD K zaa X1 P1 S1) (hX2:zxR K zaa X2 P2 S2) (hX4:zF5 K zaa qv3 X4 P4 S4) (hs:zxT P0 P1 P2 P4 zaa qv3 iv5 pv5 zfx rv5 kv5 zdR zcT zcU zdS=true) (hk:K (e93 (zxS S0 S1 S2 S4 zaa qv3 iv5 pv5 zfx rv5 kv5 zdR zcT zcU zdS))):z93 K [1,1,1,0,1,0,0,1,0,0,1,1,0,0,1,0,0,1,0,0,1,0,0,1,1,0,1,0,0,1,0,0,1] [X0,X1,X2,X4] ⟨[(0,zS enc_55 3 zaa),(3,zI (zaa.len:Int)),(4,zv 15),(5,zI iv5),(6,zI pv5),(7,zI qv3),(8,zI zfx),(9,zI rv5),(10,zI kv5)],[(15,.vm 129 8 131 3 (true,2,false,[some .i64]) zdR zcT zcU zdS)],[]⟩:=zay (by kernel_rfl) (zc hs hk (fun hs hk=>(hX4 hs hk)) (fun hs hk=>(zc hs hk (fun hs hk=>(hX4 hs hk)) (fun hs hk=>(hX4 hs hk)))))
def zxU (S0:Int→Nat→(Nat→Bool)→(Nat→Nat)→(Nat→List Int→Option (List Int))→(Sl Mp)) (S1:Int→Int→Nat→(Nat→Bool)→(Nat→Nat)→(Nat→List Int→Option (List Int))→(Sl Mp)) (S2:Int→Int→Int→Nat→(Nat→Bool)→(Nat→Nat)→(Nat→List Int→Option (List Int))→(Sl Mp)) (zaa:(Sl Gate)) (qv3:Int) (S4:Int→Int→Int→Int→Nat→(Nat→Bool)→(Nat→Nat)→(Nat→List Int→Option (List Int))→(Sl Mp)) (iv4:Int) (pv4:Int) (zcJ:Int) (rv4:Int) (zbx:Nat) (zbk:(Nat→Bool)) (zbl:(Nat→Nat)) (zbj:(Nat→List Int→Option (List Int))):(Sl Mp) :=
  (cond (decide (rv4 ≤ (zaa.get ((w64 (iv4 + (2:Int))).toNat)).High))
 (zxS S0 S1 S2 S4 zaa qv3 iv4 pv4 zcJ rv4 (if (zdY ((zbj ((w64 (iv4+(1:Int))).toNat)) [qv3,rv4]) 0) > (s85 ((zaa.get iv4.toNat).Z) ((zaa.get ((w64 (iv4+(1:Int))).toNat)).Z) ((zaa.get ((w64 (iv4+(2:Int))).toNat)).Z) pv4 qv3 rv4) then (zdY ((zbj ((w64 (iv4+(1:Int))).toNat)) [qv3,rv4]) 0) else (s85 ((zaa.get iv4.toNat).Z) ((zaa.get ((w64 (iv4+(1:Int))).toNat)).Z) ((zaa.get ((w64 (iv4+(2:Int))).toNat)).Z) pv4 qv3 rv4)) zbx zbk zbl zbj)
 (S2 iv4 pv4 (w64 (qv3+(1:Int))) zbx zbk (zc2 iv4.toNat (addN ((zbj iv4.toNat) [pv4,qv3]) (zbl iv4.toNat)) zbl) (zc2 iv4.toNat (zlU [pv4,qv3] [zcJ] (zbj iv4.toNat)) zbj)))
def zxV (P0:Int→Nat→(Nat→Bool)→(Nat→Nat)→(Nat→List Int→Option (List Int))→Bool) (P1:Int→Int→Nat→(Nat→Bool)→(Nat→Nat)→(Nat→List Int→Option (List Int))→Bool) (P2:Int→Int→Int→Nat→(Nat→Bool)→(Nat→Nat)→(Nat→List Int→Option (List Int))→Bool) (zaa:(Sl Gate)) (qv3:Int) (P4:Int→Int→Int→Int→Nat→(Nat→Bool)→(Nat→Nat)→(Nat→List Int→Option (List Int))→Bool) (iv4:Int) (pv4:Int) (zcJ:Int) (rv4:Int) (zbx:Nat) (zbk:(Nat→Bool)) (zbl:(Nat→Nat)) (zbj:(Nat→List Int→Option (List Int))):Bool :=
  (decide ((0≤(w64 (iv4+(2:Int)))∧(w64 (iv4+(2:Int))) < (zaa.len:Int))) &&
 (cond (decide (rv4 ≤ (zaa.get ((w64 (iv4 + (2:Int))).toNat)).High))
 (decide ((0≤iv4∧iv4 < (zaa.len:Int))) &&
 (decide ((0≤(w64 (iv4+(1:Int)))∧(w64 (iv4+(1:Int))) < (zaa.len:Int))) &&
 (decide ((0≤(w64 (iv4+(2:Int)))∧(w64 (iv4+(2:Int))) < (zaa.len:Int))) &&
 (decide ((p85 ((zaa.get iv4.toNat).Z) ((zaa.get ((w64 (iv4+(1:Int))).toNat)).Z) ((zaa.get ((w64 (iv4+(2:Int))).toNat)).Z) pv4 qv3 rv4=true)) &&
 (decide ((0≤(w64 (iv4+(1:Int)))∧(w64 (iv4+(1:Int))) < (zbx:Int))) &&
 (decide (((w64 (iv4+(1:Int))).toNat < zbx∧zbk ((w64 (iv4+(1:Int))).toNat)=true)) &&
 (decide (((w64 (iv4+(1:Int))).toNat < zbx)) &&
 (zxT P0 P1 P2 P4 zaa qv3 iv4 pv4 zcJ rv4 (if (zdY ((zbj ((w64 (iv4+(1:Int))).toNat)) [qv3,rv4]) 0) > (s85 ((zaa.get iv4.toNat).Z) ((zaa.get ((w64 (iv4+(1:Int))).toNat)).Z) ((zaa.get ((w64 (iv4+(2:Int))).toNat)).Z) pv4 qv3 rv4) then (zdY ((zbj ((w64 (iv4+(1:Int))).toNat)) [qv3,rv4]) 0) else (s85 ((zaa.get iv4.toNat).Z) ((zaa.get ((w64 (iv4+(1:Int))).toNat)).Z) ((zaa.get ((w64 (iv4+(2:Int))).toNat)).Z) pv4 qv3 rv4)) zbx zbk zbl zbj))))))))
 (decide ((0≤iv4∧iv4 < (zbx:Int))) &&
 (decide ((iv4.toNat < zbx∧zbk iv4.toNat=true)) &&
 (decide ((iv4.toNat < zbx)) &&
 (P2 iv4 pv4 (w64 (qv3+(1:Int))) zbx zbk (zc2 iv4.toNat (addN ((zbj iv4.toNat) [pv4,qv3]) (zbl iv4.toNat)) zbl) (zc2 iv4.toNat (zlU [pv4,qv3] [zcJ] (zbj iv4.toNat)) zbj)))))))
def zxW (S0:Int→Nat→(Nat→Bool)→(Nat→Nat)→(Nat→List Int→Option (List Int))→(Sl Mp)) (S1:Int→Int→Nat→(Nat→Bool)→(Nat→Nat)→(Nat→List Int→Option (List Int))→(Sl Mp)) (S2:Int→Int→Int→Nat→(Nat→Bool)→(Nat→Nat)→(Nat→List Int→Option (List Int))→(Sl Mp)) (zaa:(Sl Gate)) (qv3:Int):Nat→Int→Int→Int→Int→Nat→(Nat→Bool)→(Nat→Nat)→(Nat→List Int→Option (List Int))→(Sl Mp):=lpO (fun _ _ _ _ _ _ _ _=>default) (zxU S0 S1 S2 zaa qv3)
def zxX (P0:Int→Nat→(Nat→Bool)→(Nat→Nat)→(Nat→List Int→Option (List Int))→Bool) (P1:Int→Int→Nat→(Nat→Bool)→(Nat→Nat)→(Nat→List Int→Option (List Int))→Bool) (P2:Int→Int→Int→Nat→(Nat→Bool)→(Nat→Nat)→(Nat→List Int→Option (List Int))→Bool) (zaa:(Sl Gate)) (qv3:Int):Nat→Int→Int→Int→Int→Nat→(Nat→Bool)→(Nat→Nat)→(Nat→List Int→Option (List Int))→Bool:=lpO (fun _ _ _ _ _ _ _ _=>false) (zxV P0 P1 P2 zaa qv3)
def zxY (S0:Int→Nat→(Nat→Bool)→(Nat→Nat)→(Nat→List Int→Option (List Int))→(Sl Mp)) (S1:Int→Int→Nat→(Nat→Bool)→(Nat→Nat)→(Nat→List Int→Option (List Int))→(Sl Mp)) (S2:Int→Int→Int→Nat→(Nat→Bool)→(Nat→Nat)→(Nat→List Int→Option (List Int))→(Sl Mp)) (zaa:(Sl Gate)) (qv3:Int) (iv4:Int) (pv4:Int) (zcJ:Int) (rv4:Int) (zbx:Nat) (zbk:(Nat→Bool)) (zbl:(Nat→Nat)) (zbj:(Nat→List Int→Option (List Int))):(Sl Mp):=zxW S0 S1 S2 zaa qv3 Fuel iv4 pv4 zcJ rv4 zbx zbk zbl zbj
def zxZ (P0:Int→Nat→(Nat→Bool)→(Nat→Nat)→(Nat→List Int→Option (List Int))→Bool) (P1:Int→Int→Nat→(Nat→Bool)→(Nat→Nat)→(Nat→List Int→Option (List Int))→Bool) (P2:Int→Int→Int→Nat→(Nat→Bool)→(Nat→Nat)→(Nat→List Int→Option (List Int))→Bool) (zaa:(Sl Gate)) (qv3:Int) (iv4:Int) (pv4:Int) (zcJ:Int) (rv4:Int) (zbx:Nat) (zbk:(Nat→Bool)) (zbl:(Nat→Nat)) (zbj:(Nat→List Int→Option (List Int))):Bool:=zxX P0 P1 P2 zaa qv3 Fuel iv4 pv4 zcJ rv4 zbx zbk zbl zbj
theorem zF7 (hX0:zrv K zaa X0 P0 S0) (hX1:zuD K zaa X1 P1 S1) (hX2:zxR K zaa X2 P2 S2) (hs:zxZ P0 P1 P2 zaa qv3 iv4 pv4 zcJ rv4 zbx zbk zbl zbj=true) (hk:K (e93 (zxY S0 S1 S2 zaa qv3 iv4 pv4 zcJ rv4 zbx zbk zbl zbj))):z93 K [1,1,1,0,1,0,0,1,0,0,1,1,0,0,1,0,0,1,0,0,1,0,0,1,1,0,1,0] [X0,X1,X2] (zDh zaa qv3 iv4 pv4 zcJ rv4 zbx zbk zbl zbj) :=
  zl (fun X=>z93 K [1,1,1,0,1,0,0,1,0,0,1,1,0,0,1,0,0,1,0,0,1,0,0,1,1,0,1,0,0] [X0,X1,X2,X]) (by kernel_rfl) fun X4 hX =>
  (show ∀ k, zF5 K zaa qv3 X4 (zxX P0 P1 P2 zaa qv3 k) (zxW S0 S1 S2 zaa qv3 k) from zgX _ _ (zxV P0 P1 P2 zaa qv3) (zxU S0 S1 S2 zaa qv3) (zF5 K zaa qv3 X4)
 (by intro _ _ _ _ _ _ _ _ hs;exact absurd hs Bool.false_ne_true)
 (by intro P4 S4 hX4 iv4 pv4 zcJ rv4 zbx zbk zbl zbj hs hk;exact hX _ (zay (by kernel_rfl) (zaw hs fun hc hs=>And.intro hc (zc hs hk (fun hs hk=>(zaw hs fun hc hs=>And.intro hc (zaw hs fun hc hs=>And.intro hc (zaw hs fun hc hs=>And.intro hc (zaw hs fun hc hs=>And.intro hc (zaw hs fun hc hs=>And.intro hc (zaw hs fun hc hs=>And.intro hc (zaw hs fun hc hs=>And.intro hc (zF6 hX0 hX1 hX2 hX4 hs hk))))))))) (fun hs hk=>(zaw hs fun hc hs=>And.intro hc (zaw hs fun hc hs=>And.intro hc (zaw hs fun hc hs=>And.intro hc (hX2 hs hk)))))))))) _ hs hk
def zx0 (S0:Int→Nat→(Nat→Bool)→(Nat→Nat)→(Nat→List Int→Option (List Int))→(Sl Mp)) (S1:Int→Int→Nat→(Nat→Bool)→(Nat→Nat)→(Nat→List Int→Option (List Int))→(Sl Mp)) (S2:Int→Int→Int→Nat→(Nat→Bool)→(Nat→Nat)→(Nat→List Int→Option (List Int))→(Sl Mp)) (zaa:(Sl Gate)) (iv3:Int) (pv3:Int) (qv3:Int) (zgr:Nat) (zeX:(Nat→Bool)) (zeY:(Nat→Nat)) (zgs:(Nat→List Int→Option (List Int))):(Sl Mp) :=
  (zxY S0 S1 S2 zaa qv3 iv3 pv3 (-1:Int) ((zaa.get ((w64 (iv3+(2:Int))).toNat)).Low) zgr zeX zeY zgs)
def zx1 (P0:Int→Nat→(Nat→Bool)→(Nat→Nat)→(Nat→List Int→Option (List Int))→Bool) (P1:Int→Int→Nat→(Nat→Bool)→(Nat→Nat)→(Nat→List Int→Option (List Int))→Bool) (P2:Int→Int→Int→Nat→(Nat→Bool)→(Nat→Nat)→(Nat→List Int→Option (List Int))→Bool) (zaa:(Sl Gate)) (iv3:Int) (pv3:Int) (qv3:Int) (zgr:Nat) (zeX:(Nat→Bool)) (zeY:(Nat→Nat)) (zgs:(Nat→List Int→Option (List Int))):Bool :=
  (decide ((0≤(w64 (iv3+(2:Int)))∧(w64 (iv3+(2:Int))) < (zaa.len:Int))) &&
 (zxZ P0 P1 P2 zaa qv3 iv3 pv3 (-1:Int) ((zaa.get ((w64 (iv3+(2:Int))).toNat)).Low) zgr zeX zeY zgs))
theorem zF8 (hX0:zrv K zaa X0 P0 S0) (hX1:zuD K zaa X1 P1 S1) (hX2:zxR K zaa X2 P2 S2) (hs:zx1 P0 P1 P2 zaa iv3 pv3 qv3 zgr zeX zeY zgs=true) (hk:K (e93 (zx0 S0 S1 S2 zaa iv3 pv3 qv3 zgr zeX zeY zgs))):z93 K [1,1,1,0,1,0,0,1,0,0,1,1,0,0,1,0,0,1,0,0,1,0,0,1] [X0,X1,X2] ⟨[(0,zS enc_55 3 zaa),(3,zI (zaa.len:Int)),(4,zv 15),(5,zI iv3),(6,zI pv3),(7,zI qv3)],[(15,.vm 129 8 131 3 (true,2,false,[some .i64]) zgr zeX zeY zgs)],[]⟩:=zay (by kernel_rfl) (zaw hs fun hc hs=>And.intro hc (zF7 hX0 hX1 hX2 hs hk))
def zx2 (S0:Int→Nat→(Nat→Bool)→(Nat→Nat)→(Nat→List Int→Option (List Int))→(Sl Mp)) (S1:Int→Int→Nat→(Nat→Bool)→(Nat→Nat)→(Nat→List Int→Option (List Int))→(Sl Mp)) (zaa:(Sl Gate)) (S2:Int→Int→Int→Nat→(Nat→Bool)→(Nat→Nat)→(Nat→List Int→Option (List Int))→(Sl Mp)) (iv2:Int) (pv2:Int) (qv2:Int) (zbE:Nat) (zbc:(Nat→Bool)) (za5:(Nat→Nat)) (zbw:(Nat→List Int→Option (List Int))):(Sl Mp) :=
  (cond (decide (qv2 ≤ (zaa.get ((w64 (iv2 + (1:Int))).toNat)).High))
 (cond (iv2 == (w64 ((zaa.len : Int) - (2:Int))))
 (S2 iv2 pv2 (w64 (qv2+(1:Int))) zbE zbc (zc2 iv2.toNat (addN ((zbw iv2.toNat) [pv2,qv2]) (za5 iv2.toNat)) za5) (zc2 iv2.toNat (zlU [pv2,qv2] [(0:Int)] (zbw iv2.toNat)) zbw))
 (zx0 S0 S1 S2 zaa iv2 pv2 qv2 zbE zbc za5 zbw))
 (S1 iv2 (w64 (pv2+(1:Int))) zbE zbc za5 zbw))
def zx3 (P0:Int→Nat→(Nat→Bool)→(Nat→Nat)→(Nat→List Int→Option (List Int))→Bool) (P1:Int→Int→Nat→(Nat→Bool)→(Nat→Nat)→(Nat→List Int→Option (List Int))→Bool) (zaa:(Sl Gate)) (P2:Int→Int→Int→Nat→(Nat→Bool)→(Nat→Nat)→(Nat→List Int→Option (List Int))→Bool) (iv2:Int) (pv2:Int) (qv2:Int) (zbE:Nat) (zbc:(Nat→Bool)) (za5:(Nat→Nat)) (zbw:(Nat→List Int→Option (List Int))):Bool :=
  (decide ((0≤(w64 (iv2+(1:Int)))∧(w64 (iv2+(1:Int))) < (zaa.len:Int))) &&
 (cond (decide (qv2 ≤ (zaa.get ((w64 (iv2 + (1:Int))).toNat)).High))
 (cond (iv2 == (w64 ((zaa.len : Int) - (2:Int))))
 (decide ((0≤iv2∧iv2 < (zbE:Int))) &&
 (decide ((iv2.toNat < zbE∧zbc iv2.toNat=true)) &&
 (decide ((iv2.toNat < zbE)) &&
 (P2 iv2 pv2 (w64 (qv2+(1:Int))) zbE zbc (zc2 iv2.toNat (addN ((zbw iv2.toNat) [pv2,qv2]) (za5 iv2.toNat)) za5) (zc2 iv2.toNat (zlU [pv2,qv2] [(0:Int)] (zbw iv2.toNat)) zbw)))))
 (zx1 P0 P1 P2 zaa iv2 pv2 qv2 zbE zbc za5 zbw))
 (P1 iv2 (w64 (pv2+(1:Int))) zbE zbc za5 zbw)))
def zx4 (S0:Int→Nat→(Nat→Bool)→(Nat→Nat)→(Nat→List Int→Option (List Int))→(Sl Mp)) (S1:Int→Int→Nat→(Nat→Bool)→(Nat→Nat)→(Nat→List Int→Option (List Int))→(Sl Mp)) (zaa:(Sl Gate)):Nat→Int→Int→Int→Nat→(Nat→Bool)→(Nat→Nat)→(Nat→List Int→Option (List Int))→(Sl Mp):=lpO (fun _ _ _ _ _ _ _=>default) (zx2 S0 S1 zaa)
def zx5 (P0:Int→Nat→(Nat→Bool)→(Nat→Nat)→(Nat→List Int→Option (List Int))→Bool) (P1:Int→Int→Nat→(Nat→Bool)→(Nat→Nat)→(Nat→List Int→Option (List Int))→Bool) (zaa:(Sl Gate)):Nat→Int→Int→Int→Nat→(Nat→Bool)→(Nat→Nat)→(Nat→List Int→Option (List Int))→Bool:=lpO (fun _ _ _ _ _ _ _=>false) (zx3 P0 P1 zaa)
def zx6 (S0:Int→Nat→(Nat→Bool)→(Nat→Nat)→(Nat→List Int→Option (List Int))→(Sl Mp)) (S1:Int→Int→Nat→(Nat→Bool)→(Nat→Nat)→(Nat→List Int→Option (List Int))→(Sl Mp)) (zaa:(Sl Gate)) (iv2:Int) (pv2:Int) (qv2:Int) (zbE:Nat) (zbc:(Nat→Bool)) (za5:(Nat→Nat)) (zbw:(Nat→List Int→Option (List Int))):(Sl Mp):=zx4 S0 S1 zaa Fuel iv2 pv2 qv2 zbE zbc za5 zbw
def zx7 (P0:Int→Nat→(Nat→Bool)→(Nat→Nat)→(Nat→List Int→Option (List Int))→Bool) (P1:Int→Int→Nat→(Nat→Bool)→(Nat→Nat)→(Nat→List Int→Option (List Int))→Bool) (zaa:(Sl Gate)) (iv2:Int) (pv2:Int) (qv2:Int) (zbE:Nat) (zbc:(Nat→Bool)) (za5:(Nat→Nat)) (zbw:(Nat→List Int→Option (List Int))):Bool:=zx5 P0 P1 zaa Fuel iv2 pv2 qv2 zbE zbc za5 zbw
theorem zF9 (hX0:zrv K zaa X0 P0 S0) (hX1:zuD K zaa X1 P1 S1) (hs:zx7 P0 P1 zaa iv2 pv2 qv2 zbE zbc za5 zbw=true) (hk:K (e93 (zx6 S0 S1 zaa iv2 pv2 qv2 zbE zbc za5 zbw))):z93 K [1,1,1,0,1,0,0,1,0,0,1,1,0,0,1,0,0,1,0] [X0,X1] (zDg zaa iv2 pv2 qv2 zbE zbc za5 zbw) :=
  zl (fun X=>z93 K [1,1,1,0,1,0,0,1,0,0,1,1,0,0,1,0,0,1,0,0] [X0,X1,X]) (by kernel_rfl) fun X2 hX =>
  (show ∀ k, zxR K zaa X2 (zx5 P0 P1 zaa k) (zx4 S0 S1 zaa k) from zgX _ _ (zx3 P0 P1 zaa) (zx2 S0 S1 zaa) (zxR K zaa X2)
 (by intro _ _ _ _ _ _ _ hs;exact absurd hs Bool.false_ne_true)
 (by intro P2 S2 hX2 iv2 pv2 qv2 zbE zbc za5 zbw hs hk;exact hX _ (zay (by kernel_rfl) (zaw hs fun hc hs=>And.intro hc (zc hs hk (fun hs hk=>(zc hs hk (fun hs hk=>(zaw hs fun hc hs=>And.intro hc (zaw hs fun hc hs=>And.intro hc (zaw hs fun hc hs=>And.intro hc (hX2 hs hk))))) (fun hs hk=>(zF8 hX0 hX1 hX2 hs hk)))) (fun hs hk=>(hX1 hs hk))))))) _ hs hk
def zx8 (S0:Int→Nat→(Nat→Bool)→(Nat→Nat)→(Nat→List Int→Option (List Int))→(Sl Mp)) (zaa:(Sl Gate)) (S1:Int→Int→Nat→(Nat→Bool)→(Nat→Nat)→(Nat→List Int→Option (List Int))→(Sl Mp)) (iv1:Int) (pv1:Int) (zbZ:Nat) (zbC:(Nat→Bool)) (zbD:(Nat→Nat)) (zb0:(Nat→List Int→Option (List Int))):(Sl Mp) :=
  (cond (decide (pv1 ≤ (zaa.get iv1.toNat).High))
 (zx6 S0 S1 zaa iv1 pv1 ((zaa.get ((w64 (iv1+(1:Int))).toNat)).Low) zbZ zbC zbD zb0)
 (S0 (w64 (iv1 - (1:Int))) zbZ zbC zbD zb0))
def zx9 (P0:Int→Nat→(Nat→Bool)→(Nat→Nat)→(Nat→List Int→Option (List Int))→Bool) (zaa:(Sl Gate)) (P1:Int→Int→Nat→(Nat→Bool)→(Nat→Nat)→(Nat→List Int→Option (List Int))→Bool) (iv1:Int) (pv1:Int) (zbZ:Nat) (zbC:(Nat→Bool)) (zbD:(Nat→Nat)) (zb0:(Nat→List Int→Option (List Int))):Bool :=
  (decide ((0≤iv1∧iv1 < (zaa.len:Int))) &&
 (cond (decide (pv1 ≤ (zaa.get iv1.toNat).High))
 (decide ((0≤(w64 (iv1+(1:Int)))∧(w64 (iv1+(1:Int))) < (zaa.len:Int))) &&
 (zx7 P0 P1 zaa iv1 pv1 ((zaa.get ((w64 (iv1+(1:Int))).toNat)).Low) zbZ zbC zbD zb0))
 (P0 (w64 (iv1 - (1:Int))) zbZ zbC zbD zb0)))
def zya (S0:Int→Nat→(Nat→Bool)→(Nat→Nat)→(Nat→List Int→Option (List Int))→(Sl Mp)) (zaa:(Sl Gate)):Nat→Int→Int→Nat→(Nat→Bool)→(Nat→Nat)→(Nat→List Int→Option (List Int))→(Sl Mp):=lpO (fun _ _ _ _ _ _=>default) (zx8 S0 zaa)
def zyb (P0:Int→Nat→(Nat→Bool)→(Nat→Nat)→(Nat→List Int→Option (List Int))→Bool) (zaa:(Sl Gate)):Nat→Int→Int→Nat→(Nat→Bool)→(Nat→Nat)→(Nat→List Int→Option (List Int))→Bool:=lpO (fun _ _ _ _ _ _=>false) (zx9 P0 zaa)
def zyc (S0:Int→Nat→(Nat→Bool)→(Nat→Nat)→(Nat→List Int→Option (List Int))→(Sl Mp)) (zaa:(Sl Gate)) (iv1:Int) (pv1:Int) (zbZ:Nat) (zbC:(Nat→Bool)) (zbD:(Nat→Nat)) (zb0:(Nat→List Int→Option (List Int))):(Sl Mp):=zya S0 zaa Fuel iv1 pv1 zbZ zbC zbD zb0
def zyd (P0:Int→Nat→(Nat→Bool)→(Nat→Nat)→(Nat→List Int→Option (List Int))→Bool) (zaa:(Sl Gate)) (iv1:Int) (pv1:Int) (zbZ:Nat) (zbC:(Nat→Bool)) (zbD:(Nat→Nat)) (zb0:(Nat→List Int→Option (List Int))):Bool:=zyb P0 zaa Fuel iv1 pv1 zbZ zbC zbD zb0
theorem zGa (hX0:zrv K zaa X0 P0 S0) (hs:zyd P0 zaa iv1 pv1 zbZ zbC zbD zb0=true) (hk:K (e93 (zyc S0 zaa iv1 pv1 zbZ zbC zbD zb0))):z93 K [1,1,1,0,1,0,0,1,0,0,1,1,0] [X0] (zDf zaa iv1 pv1 zbZ zbC zbD zb0) :=
  zl (fun X=>z93 K [1,1,1,0,1,0,0,1,0,0,1,1,0,0] [X0,X]) (by kernel_rfl) fun X1 hX =>
  (show ∀ k, zuD K zaa X1 (zyb P0 zaa k) (zya S0 zaa k) from zgX _ _ (zx9 P0 zaa) (zx8 S0 zaa) (zuD K zaa X1)
 (by intro _ _ _ _ _ _ hs;exact absurd hs Bool.false_ne_true)
 (by intro P1 S1 hX1 iv1 pv1 zbZ zbC zbD zb0 hs hk;exact hX _ (zay (by kernel_rfl) (zaw hs fun hc hs=>And.intro hc (zc hs hk (fun hs hk=>(zaw hs fun hc hs=>And.intro hc (zF9 hX0 hX1 hs hk))) (fun hs hk=>(hX0 hs hk))))))) _ hs hk
def zye (zaa:(Sl Gate)) (S0:Int→Nat→(Nat→Bool)→(Nat→Nat)→(Nat→List Int→Option (List Int))→(Sl Mp)) (iv0:Int) (zbR:Nat) (zbJ:(Nat→Bool)) (zbK:(Nat→Nat)) (zb8:(Nat→List Int→Option (List Int))):(Sl Mp) :=
  (cond (decide (iv0 ≥ (0:Int)))
 (zyc S0 zaa iv0 ((zaa.get iv0.toNat).Low) zbR (zc2 iv0.toNat true zbJ) (zc2 iv0.toNat 0 zbK) (zc2 iv0.toNat (fun _=>none) zb8))
 (⟨zbR,(fun i=>(⟨zbK i,zb8 i⟩:Mp))⟩:(Sl Mp)))
def zyf (zaa:(Sl Gate)) (P0:Int→Nat→(Nat→Bool)→(Nat→Nat)→(Nat→List Int→Option (List Int))→Bool) (iv0:Int) (zbR:Nat) (zbJ:(Nat→Bool)) (zbK:(Nat→Nat)) (zb8:(Nat→List Int→Option (List Int))):Bool :=
  (cond (decide (iv0 ≥ (0:Int)))
 (decide ((0≤iv0∧iv0 < (zbR:Int))) &&
 (decide ((iv0.toNat < zbR∧zbJ iv0.toNat=false)) &&
 (decide ((0≤iv0∧iv0 < (zaa.len:Int))) &&
 (zyd P0 zaa iv0 ((zaa.get iv0.toNat).Low) zbR (zc2 iv0.toNat true zbJ) (zc2 iv0.toNat 0 zbK) (zc2 iv0.toNat (fun _=>none) zb8)))))
 true)
def zyg (zaa:(Sl Gate)):Nat→Int→Nat→(Nat→Bool)→(Nat→Nat)→(Nat→List Int→Option (List Int))→(Sl Mp):=lpO (fun _ _ _ _ _=>default) (zye zaa)
def zyh (zaa:(Sl Gate)):Nat→Int→Nat→(Nat→Bool)→(Nat→Nat)→(Nat→List Int→Option (List Int))→Bool:=lpO (fun _ _ _ _ _=>false) (zyf zaa)
def zyi (zaa:(Sl Gate)) (iv0:Int) (zbR:Nat) (zbJ:(Nat→Bool)) (zbK:(Nat→Nat)) (zb8:(Nat→List Int→Option (List Int))):(Sl Mp):=zyg zaa Fuel iv0 zbR zbJ zbK zb8
def zyj (zaa:(Sl Gate)) (iv0:Int) (zbR:Nat) (zbJ:(Nat→Bool)) (zbK:(Nat→Nat)) (zb8:(Nat→List Int→Option (List Int))):Bool:=zyh zaa Fuel iv0 zbR zbJ zbK zb8
theorem zGb (hs:zyj zaa iv0 zbR zbJ zbK zb8=true) (hk:K (e93 (zyi zaa iv0 zbR zbJ zbK zb8))):z93 K [1,1,1,0,1,0] [] (zDe zaa iv0 zbR zbJ zbK zb8) :=
  zl (fun X=>z93 K [1,1,1,0,1,0,0] [X]) (by kernel_rfl) fun X0 hX =>
  (show ∀ k, zrv K zaa X0 (zyh zaa k) (zyg zaa k) from zgX _ _ (zyf zaa) (zye zaa) (zrv K zaa X0)
 (by intro _ _ _ _ _ hs;exact absurd hs Bool.false_ne_true)
 (by intro P0 S0 hX0 iv0 zbR zbJ zbK zb8 hs hk;exact hX _ (zay (by kernel_rfl) (zc hs hk (fun hs hk=>(zaw hs fun hc hs=>And.intro hc (zaw hs fun hc hs=>And.intro hc (zaw hs fun hc hs=>And.intro hc (zGa hX0 hs hk))))) (fun hs hk=>hk))))) _ hs hk
def s93 (zaa:(Sl Gate)):(Sl Mp) :=
  (zyi zaa (w64 ((zaa.len:Int) - (2:Int))) ((w64 ((zaa.len:Int) - (1:Int))).toNat) (fun _=>false) (fun _=>0) (fun _ _=>none))
def p93 (zaa:(Sl Gate)):Bool :=
  (decide ((0≤(w64 ((zaa.len:Int) - (1:Int)))∧(w64 ((zaa.len:Int) - (1:Int)))=(w64 ((zaa.len:Int) - (1:Int)))∧(w64 ((zaa.len:Int) - (1:Int)))≤1000000)) &&
 (zyj zaa (w64 ((zaa.len:Int) - (2:Int))) ((w64 ((zaa.len:Int) - (1:Int))).toNat) (fun _=>false) (fun _=>0) (fun _ _=>none)))
end
theorem q93 (zaa:(Sl Gate)) (K:List PA→Prop) (hs:p93 zaa=true) (hk:K (e93 (s93 zaa))):vcFun Try.prog G93 zF4 93 [.one (.sl zaa.len 3 (fun i=>enc_55 (zaa.get i)))] K :=
  zay (by kernel_rfl) (zaw hs fun hc hs=>And.intro hc (zGb hs hk))
def zGc : List PA → COut
  | [.one (.sl a0_n a0_s a0_g)]=>.det (IsE enc_55 3 a0_s a0_g∧p93 (⟨a0_n,zad a0_g⟩:(Sl Gate))=true) [.one (.sl ((s93 (⟨a0_n,zad a0_g⟩:(Sl Gate))).len) 1 (fun i=>zcP ((s93 (⟨a0_n,zad a0_g⟩:(Sl Gate))).get i)))]
  | _=>.no
theorem zJ1:zai Try.prog 93:=⟨_,rfl,rfl,by kernel_rfl⟩
theorem zPB:Ok Try.prog 93 zGc:=zaN zMB zJ1 fun args K h=>by
  unfold zGc at h
  split at h
  · rename_i a0_n a0_s a0_g
    obtain ⟨⟨⟨rfl,a0_f,rfl⟩,hs⟩,hk⟩:=h
    try rw [zae a0_f] at hs
    try rw [zae a0_f] at hk
    exact ⟨(fun _ _=>[]),(fun l=>Nat.beq l 15 || Nat.beq l 24),zF4,q93 (⟨a0_n,a0_f⟩:(Sl Gate)) K hs hk⟩
  · exact h.elim
def zN3 (a b:Int):List Int:=(List.range (b - a+1).toNat).map fun (i:Nat)=>a+i
def zpn (zaa:Sl Gate):List (List Int):=(zN3 (zaa.get 0).Low (zaa.get 0).High).flatMap fun p=>(zN3 (zaa.get 1).Low (zaa.get 1).High).map fun q=>[p,q]
abbrev T55:Tabs:=(((Tabs.nil.addF 85 zBP).addF 92 zF3).addF 93 zGc)
theorem zMC:TabsOk Try.prog T55:=(((TabsOk.nil.addF zN2).addF zPA).addF zPB)
abbrev G55:Ctrs:=csm T55 (fun _ _=>[]) (fun _=>false)
def za0:Ann:=⟨145,[(0,⟨[0],[],[],[],[],[],[]⟩),(1,⟨[0,18],[],[],[],[],[],[]⟩),(2,⟨[2,3,4],[],[],[],[],[],[]⟩),(3,⟨[0,5],[],[],[],[],[],[]⟩),(4,⟨[0,5,6],[],[],[],[],[],[]⟩),(5,⟨[0,5,6,24],[24],[],[],[],[],[]⟩),(6,⟨[0,5,6,24,26],[24],[],[],[],[],[]⟩),(7,⟨[0,5,6,8,24],[24],[],[],[],[],[]⟩),(8,⟨[0,5,6,8,24,35],[24],[],[],[],[],[]⟩),(9,⟨[0,5,6,24],[24],[],[],[],[],[]⟩),(10,⟨[0,5,6,9],[],[],[],[],[],[]⟩),(11,⟨[0,5,6,9,10],[],[],[],[],[],[]⟩),(12,⟨[0,5,6,9,10,46],[],[],[],[],[],[]⟩),(13,⟨[0,5,6,9,10],[],[],[],[],[],[]⟩),(14,⟨[0,5,6,9,10,11],[],[],[],[],[],[]⟩),(15,⟨[0,5,6,9,10,11,58],[],[],[],[],[],[]⟩),(16,⟨[0,5,6,9,10,11],[],[],[],[],[],[]⟩),(17,⟨[0,5,6,9,10,11,69],[],[],[],[],[],[]⟩),(18,⟨[0,5,6,9],[72],[],[],[],[],[]⟩),(19,⟨[0,5,6,9,12],[72],[],[],[],[],[]⟩),(20,⟨[0,5,6,9,12,76],[72],[],[],[],[],[]⟩),(21,⟨[0,5,6,9,12],[72],[],[],[],[],[]⟩),(22,⟨[0,5,6,9,12,13,14],[72],[],[],[],[],[]⟩),(23,⟨[0,5,6,9,12,13,14,15],[72],[],[],[],[],[]⟩),(24,⟨[0,5,6,9,12,13,14,15,100],[72],[],[],[],[],[]⟩),(25,⟨[0,5,6,9,12,13,14,15],[72],[],[],[],[],[]⟩),(26,⟨[0,5,6,9,12,13,14,15,138],[72],[],[],[],[],[]⟩),(27,⟨[0,5,6,9,12],[72],[],[],[],[],[]⟩),(28,⟨[2,3,4],[72],[],[],[],[],[]⟩)],
 [(6,⟨[0,5,6,24],[24],[],[],[],[],[]⟩),(12,⟨[0,5,6,9,10],[],[],[],[],[],[]⟩),(15,⟨[0,5,6,9,10,11],[],[],[],[],[],[]⟩),(20,⟨[0,5,6,9,12],[72],[],[],[],[],[]⟩),(24,⟨[0,5,6,9,12,13,14,15],[72],[],[],[],[],[]⟩)],
 [(2,⟨[0,18],[],[],[],[],[],[]⟩),(3,⟨[0],[],[],[],[],[],[]⟩),(4,⟨[0,5],[],[],[],[],[],[]⟩),(10,⟨[0,5,6],[],[],[],[],[],[]⟩),(19,⟨[0,5,6,9],[72],[(9,72,3,fun _=>zaj default)],[],[],[],[]⟩),(27,⟨[0,5,6,9,12,13,14,15,138],[72],[],[],[],[],[]⟩)],
 [],[]⟩
def zJ2 (zaa:(Sl Gate)) (zgt:Bool):St:=⟨[(0,.one (.c (.p (.sl zaa.len 3 (fun i=>enc_55 (zaa.get i)))))),(18,.one (.c (.p (.bool zgt))))],[],[]⟩
def znL (K:List PA→Prop) (zaa:(Sl Gate)) (zgt:Bool):Prop:=vc Try.prog G55 za0 (cdF Try.f55 [1,0,0,1]) (sqK Try.prog G55 za0 (cdF Try.f55 [1,0,1]) (zcm (zcA Try.prog Try.f55 K))) (zJ2 zaa zgt)
def zJ3 (zaa:(Sl Gate)):St:=⟨[(0,.one (.c (.p (.sl zaa.len 3 (fun i=>enc_55 (zaa.get i))))))],[],[]⟩
def znM (K:List PA→Prop) (zaa:(Sl Gate)):Prop:=vc Try.prog G55 za0 (cdF Try.f55 [1,0,1]) (zcm (zcA Try.prog Try.f55 K)) (zJ3 zaa)
def zJ4 (zaa:(Sl Gate)) (zka:Nat) (zew:Nat→List PV):St:=⟨[(0,.one (.c (.p (.sl zaa.len 3 (fun i=>enc_55 (zaa.get i)))))),(5,.one (.c (.p (.sl zka 1 zew))))],[],[]⟩
def znN (K:List PA→Prop) (zaa:(Sl Gate)) (zka:Nat) (zew:Nat→List PV):Prop:=vc Try.prog G55 za0 (cdF Try.f55 [1,0,1,1]) (zcm (zcA Try.prog Try.f55 K)) (zJ4 zaa zka zew)
def zg7 (zaa:(Sl Gate)) (zab:(Sl Mp)) (zbm:(List (List Int))) (zaA:Int):St:=⟨[(0,.one (.c (.p (.sl zaa.len 3 (fun i=>enc_55 (zaa.get i)))))),(5,.one (.c (.p (.sl zab.len 1 (fun i=>zcP (zab.get i)))))),(6,.one (.c (.p (.int .i64 zaA)))),(24,.one (.c (.ptr 24 0)))],[(24,.mit (true,2,false,[some .i64]) ((zab.get 0).n) ((zab.get 0).F) zbm)],[]⟩
def zkb (K:List PA→Prop) (zaa:(Sl Gate)) (zab:(Sl Mp)) (zbm:(List (List Int))) (zaA:Int):Prop:=vc Try.prog G55 za0 (cdF Try.f55 [1,0,1,1,1,0,1,0]) (za6 0 (sqK Try.prog G55 za0 (cdF Try.f55 [1,0,1,1,1,1]) (zcm (zcA Try.prog Try.f55 K)))) (zg7 zaa zab zbm zaA)
def zJ5 (zaa:(Sl Gate)) (zab:(Sl Mp)) (zdq:Int):St:=⟨[(0,.one (.c (.p (.sl zaa.len 3 (fun i=>enc_55 (zaa.get i)))))),(5,.one (.c (.p (.sl zab.len 1 (fun i=>zcP (zab.get i)))))),(6,.one (.c (.p (.int .i64 zdq))))],[],[]⟩
def znO (K:List PA→Prop) (zaa:(Sl Gate)) (zab:(Sl Mp)) (zdq:Int):Prop:=vc Try.prog G55 za0 (cdF Try.f55 [1,0,1,1,1,1]) (zcm (zcA Try.prog Try.f55 K)) (zJ5 zaa zab zdq)
def ziy (zaa:(Sl Gate)) (zab:(Sl Mp)) (zaR:Int) (pv5:Int):St:=⟨[(0,.one (.c (.p (.sl zaa.len 3 (fun i=>enc_55 (zaa.get i)))))),(5,.one (.c (.p (.sl zab.len 1 (fun i=>zcP (zab.get i)))))),(6,.one (.c (.p (.int .i64 zaR)))),(9,.one (.c (.p (.nils)))),(10,.one (.c (.p (.int .i64 pv5))))],[],[]⟩
def zkc (K:List PA→Prop) (zaa:(Sl Gate)) (zab:(Sl Mp)) (zaR:Int) (pv5:Int):Prop:=vc Try.prog G55 za0 (cdF Try.f55 [1,0,1,1,1,1,1,1,0,1,0]) (za6 2 (sqK Try.prog G55 za0 (cdF Try.f55 [1,0,1,1,1,1,1,1,1]) (zcm (zcA Try.prog Try.f55 K)))) (ziy zaa zab zaR pv5)
def zkd (zaa:(Sl Gate)) (zab:(Sl Mp)) (zaK:Int) (pv6:Int) (qv6:Int):St:=⟨[(0,.one (.c (.p (.sl zaa.len 3 (fun i=>enc_55 (zaa.get i)))))),(5,.one (.c (.p (.sl zab.len 1 (fun i=>zcP (zab.get i)))))),(6,.one (.c (.p (.int .i64 zaK)))),(9,.one (.c (.p (.nils)))),(10,.one (.c (.p (.int .i64 pv6)))),(11,.one (.c (.p (.int .i64 qv6))))],[],[]⟩
def zke (K:List PA→Prop) (X5:St→Prop) (zaa:(Sl Gate)) (zab:(Sl Mp)) (zaK:Int) (pv6:Int) (qv6:Int):Prop:=vc Try.prog G55 za0 (cdF Try.f55 [1,0,1,1,1,1,1,1,0,1,0,0,1,0,0,1,0]) (za6 4 (za6 3 (sqK Try.prog G55 za0 (cdF Try.f55 [1,0,1,1,1,1,1,1,0,1,0,0,1,1]) (zd2 Try.prog za0 12 X5 (za6 2 (sqK Try.prog G55 za0 (cdF Try.f55 [1,0,1,1,1,1,1,1,1]) (zcm (zcA Try.prog Try.f55 K)))))))) (zkd zaa zab zaK pv6 qv6)
def zJ6 (zaa:(Sl Gate)) (zab:(Sl Mp)) (zdr:Int) (zrx:Nat) (zh7:Nat→List PV):St:=⟨[(0,.one (.c (.p (.sl zaa.len 3 (fun i=>enc_55 (zaa.get i)))))),(5,.one (.c (.p (.sl zab.len 1 (fun i=>zcP (zab.get i)))))),(6,.one (.c (.p (.int .i64 zdr)))),(9,.one (.c (.vec 72)))],[(72,.vec 3 1 8 zrx zh7)],[]⟩
def zkf (K:List PA→Prop) (zaa:(Sl Gate)) (zab:(Sl Mp)) (zdr:Int) (zrx:Nat) (zh7:Nat→List PV):Prop:=vc Try.prog G55 za0 (cdF Try.f55 [1,0,1,1,1,1,1,1,1]) (zcm (zcA Try.prog Try.f55 K)) (zJ6 zaa zab zdr zrx zh7)
def zf3 (zaa:(Sl Gate)) (zab:(Sl Mp)) (zaO:Int) (iv8:Int) (zfy:Nat) (zbL:Nat→List PV):St:=⟨[(0,.one (.c (.p (.sl zaa.len 3 (fun i=>enc_55 (zaa.get i)))))),(5,.one (.c (.p (.sl zab.len 1 (fun i=>zcP (zab.get i)))))),(6,.one (.c (.p (.int .i64 zaO)))),(9,.one (.c (.vec 72))),(12,.one (.c (.p (.int .i64 iv8))))],[(72,.vec 3 1 8 zfy zbL)],[]⟩
def zkg (K:List PA→Prop) (zaa:(Sl Gate)) (zab:(Sl Mp)) (zaO:Int) (iv8:Int) (zfy:Nat) (zbL:Nat→List PV):Prop:=vc Try.prog G55 za0 (cdF Try.f55 [1,0,1,1,1,1,1,1,1,0,1,0]) (za6 6 (sqK Try.prog G55 za0 (cdF Try.f55 [1,0,1,1,1,1,1,1,1,1]) (zcm (zcA Try.prog Try.f55 K)))) (zf3 zaa zab zaO iv8 zfy zbL)
def ziz (zaa:(Sl Gate)) (zab:(Sl Mp)) (zax:Int) (iv9:Int) (pv9:Int) (qv9:Int) (rv9:Int) (zfz:Nat) (zbS:Nat→List PV):St:=⟨[(0,.one (.c (.p (.sl zaa.len 3 (fun i=>enc_55 (zaa.get i)))))),(5,.one (.c (.p (.sl zab.len 1 (fun i=>zcP (zab.get i)))))),(6,.one (.c (.p (.int .i64 zax)))),(9,.one (.c (.vec 72))),(12,.one (.c (.p (.int .i64 iv9)))),(13,.one (.c (.p (.int .i64 pv9)))),(14,.one (.c (.p (.int .i64 qv9)))),(15,.one (.c (.p (.int .i64 rv9))))],[(72,.vec 3 1 8 zfz zbS)],[]⟩
def zkh (K:List PA→Prop) (X8:St→Prop) (zaa:(Sl Gate)) (zab:(Sl Mp)) (zax:Int) (iv9:Int) (pv9:Int) (qv9:Int) (rv9:Int) (zfz:Nat) (zbS:Nat→List PV):Prop:=vc Try.prog G55 za0 (cdF Try.f55 [1,0,1,1,1,1,1,1,1,0,1,0,0,1,0,0,1,1,0]) (za6 8 (za6 7 (sqK Try.prog G55 za0 (cdF Try.f55 [1,0,1,1,1,1,1,1,1,0,1,0,0,1,1]) (zd2 Try.prog za0 20 X8 (za6 6 (sqK Try.prog G55 za0 (cdF Try.f55 [1,0,1,1,1,1,1,1,1,1]) (zcm (zcA Try.prog Try.f55 K)))))))) (ziz zaa zab zax iv9 pv9 qv9 rv9 zfz zbS)
def zGd (zaa:(Sl Gate)) (zab:(Sl Mp)) (zb1:Int) (zeg:Int) (zpL:Int) (zpM:Int) (zlG:Int) (zcF:Bool) (znP:Nat) (zfS:Nat→List PV):St:=⟨[(0,.one (.c (.p (.sl zaa.len 3 (fun i=>enc_55 (zaa.get i)))))),(5,.one (.c (.p (.sl zab.len 1 (fun i=>zcP (zab.get i)))))),(6,.one (.c (.p (.int .i64 zb1)))),(9,.one (.c (.vec 72))),(12,.one (.c (.p (.int .i64 zeg)))),(13,.one (.c (.p (.int .i64 zpL)))),(14,.one (.c (.p (.int .i64 zpM)))),(15,.one (.c (.p (.int .i64 zlG)))),(138,.one (.c (.p (.bool zcF))))],[(72,.vec 3 1 8 znP zfS)],[]⟩
def zg8 (K:List PA→Prop) (X8:St→Prop) (X9:St→Prop) (zaa:(Sl Gate)) (zab:(Sl Mp)) (zb1:Int) (zeg:Int) (zpL:Int) (zpM:Int) (zlG:Int) (zcF:Bool) (znP:Nat) (zfS:Nat→List PV):Prop:=vc Try.prog G55 za0 (cdF Try.f55 [1,0,1,1,1,1,1,1,1,0,1,0,0,1,0,0,1,1,0,0,1,0,0,1]) (za6 9 (sqK Try.prog G55 za0 (cdF Try.f55 [1,0,1,1,1,1,1,1,1,0,1,0,0,1,0,0,1,1,0,0,1,1]) (zd2 Try.prog za0 24 X9 (za6 8 (za6 7 (sqK Try.prog G55 za0 (cdF Try.f55 [1,0,1,1,1,1,1,1,1,0,1,0,0,1,1]) (zd2 Try.prog za0 20 X8 (za6 6 (sqK Try.prog G55 za0 (cdF Try.f55 [1,0,1,1,1,1,1,1,1,1]) (zcm (zcA Try.prog Try.f55 K))))))))))) (zGd zaa zab zb1 zeg zpL zpM zlG zcF znP zfS)
theorem zGe (zaa : (Sl Gate)) (K : List PA → Prop) :
  vcFun Try.prog G55 za0 55 [.one (.sl zaa.len 3 (fun i=>enc_55 (zaa.get i)))] K =
  ((IsE enc_55 3 3 (fun i=>enc_55 (zaa.get i))∧(p92 zaa=true)) ∧
 (znL K zaa (!(s92 zaa)))):=by kernel_rfl
theorem zGf (K : List PA → Prop) (zaa : (Sl Gate)) (zgt : Bool) :
  znL K zaa zgt =
  (zda zgt
 (K [.one (.nils),.one (.int .i64 (0:Int)),.one (.int .i64 (2:Int))])
 (znM K zaa)):=by kernel_rfl
theorem zGg (K : List PA → Prop) (zaa : (Sl Gate)) :
  znM K zaa =
  ((IsE enc_55 3 3 (fun i=>enc_55 (zaa.get i))∧(p93 zaa=true)) ∧
 (znN K zaa ((s93 zaa).len) (fun i=>zcP ((s93 zaa).get i)))):=by kernel_rfl
theorem zGh (K : List PA → Prop) (zaa : (Sl Gate)) (zab : (Sl Mp)) :
  znN K zaa zab.len (fun i=>zcP (zab.get i)) =
  (((0≤(0:Int)∧(0:Int) < (zab.len:Int))) ∧
 (zkb K zaa zab ([]) (-1:Int))):=by kernel_rfl
def zpo (K:List PA→Prop) (X3:St→Prop) (zaa:(Sl Gate)) (zab:(Sl Mp)) (zbm:(List (List Int))) (zaA:Int):Prop :=
  (zH7 2 ((zab.get 0).n) ((zab.get 0).F) →
 ((∀ c:List Int,c.length=2→((zab.get 0).F) c ≠ none→c∈zbm) →
 (znO K zaa zab zaA))∧∀ k24_0 k24_1:Int,((zab.get 0).F) [k24_0,k24_1] ≠ none→[k24_0,k24_1] ∉ zbm →
 (zda (decide (zaA < (0:Int)))
 (X3 (zg7 zaa zab ([k24_0,k24_1] :: zbm) (zdY (((zab.get 0).F) [k24_0,k24_1]) 0)))
 (zda (decide ((zdY (((zab.get 0).F) [k24_0, k24_1]) 0) < zaA))
 (X3 (zg7 zaa zab ([k24_0,k24_1] :: zbm) (zdY (((zab.get 0).F) [k24_0,k24_1]) 0)))
 (X3 (zg7 zaa zab ([k24_0,k24_1] :: zbm) zaA)))))
theorem zry (K : List PA → Prop) (X3 : St → Prop) (zaa : (Sl Gate)) (zab : (Sl Mp)) (zbm : (List (List Int))) (zaA : Int) :
  vc Try.prog G55 za0 (cd (cdF Try.f55 [1,0,1,1,1,0,1,0]) [0]) (zd2 Try.prog za0 6 X3 (za6 0 (sqK Try.prog G55 za0 (cdF Try.f55 [1,0,1,1,1,1]) (zcm (zcA Try.prog Try.f55 K))))) (zg7 zaa zab zbm zaA) =
  zpo K X3 zaa zab zbm zaA:=by kernel_rfl
theorem zyk (K : List PA → Prop) (zaa : (Sl Gate)) (zab : (Sl Mp)) (zbm : (List (List Int))) (zaA : Int)
  (h:∀ X3:St→Prop,(∀ (zbm:(List (List Int))) (zaA:Int),zpo K X3 zaa zab zbm zaA→X3 (zg7 zaa zab zbm zaA))→X3 (zg7 zaa zab zbm zaA)) :
  zkb K zaa zab zbm zaA:=by
  have e:zkb K zaa zab zbm zaA=(∀ X:St→Prop,(∀ s,vc Try.prog G55 za0 (cd (cdF Try.f55 [1,0,1,1,1,0,1,0]) [0]) (zd2 Try.prog za0 6 X (za6 0 (sqK Try.prog G55 za0 (cdF Try.f55 [1,0,1,1,1,1]) (zcm (zcA Try.prog Try.f55 K))))) s→X s)→X (zg7 zaa zab zbm zaA)):=by kernel_rfl
  refine zay e ?_
  intro X hX
  refine h X ?_
  intro zbm zaA hs
  refine hX _ ?_
  have e2:=zry K X zaa zab zbm zaA
  rw [e2]
  exact hs
theorem zGi (K : List PA → Prop) (zaa : (Sl Gate)) (zab : (Sl Mp)) (zdq : Int) :
  znO K zaa zab zdq =
  (((0≤(0:Int)∧(0:Int) < (zaa.len:Int))) ∧
 (zkc K zaa zab zdq ((zaa.get 0).Low))):=by kernel_rfl
def zpp (K:List PA→Prop) (X5:St→Prop) (zaa:(Sl Gate)) (zab:(Sl Mp)) (zaR:Int) (pv5:Int):Prop :=
  (((0≤(0:Int)∧(0:Int) < (zaa.len:Int))) ∧
 (zda (decide (pv5 ≤ (zaa.get 0).High))
 (((0≤(1:Int)∧(1:Int) < (zaa.len:Int))) ∧
 (zke K X5 zaa zab zaR pv5 ((zaa.get 1).Low)))
 (zkf K zaa zab zaR 0 (fun i=>zaj ((fun _=>default) i)))))
theorem zrz (K : List PA → Prop) (X5 : St → Prop) (zaa : (Sl Gate)) (zab : (Sl Mp)) (zaR : Int) (pv5 : Int) :
  vc Try.prog G55 za0 (cd (cdF Try.f55 [1,0,1,1,1,1,1,1,0,1,0]) [0]) (zd2 Try.prog za0 12 X5 (za6 2 (sqK Try.prog G55 za0 (cdF Try.f55 [1,0,1,1,1,1,1,1,1]) (zcm (zcA Try.prog Try.f55 K))))) (ziy zaa zab zaR pv5) =
  zpp K X5 zaa zab zaR pv5:=by kernel_rfl
theorem zyl (K : List PA → Prop) (zaa : (Sl Gate)) (zab : (Sl Mp)) (zaR : Int) (pv5 : Int)
  (h:∀ X5:St→Prop,(∀ (zaR:Int) (pv5:Int),zpp K X5 zaa zab zaR pv5→X5 (ziy zaa zab zaR pv5))→X5 (ziy zaa zab zaR pv5)) :
  zkc K zaa zab zaR pv5:=by
  have e:zkc K zaa zab zaR pv5=(∀ X:St→Prop,(∀ s,vc Try.prog G55 za0 (cd (cdF Try.f55 [1,0,1,1,1,1,1,1,0,1,0]) [0]) (zd2 Try.prog za0 12 X (za6 2 (sqK Try.prog G55 za0 (cdF Try.f55 [1,0,1,1,1,1,1,1,1]) (zcm (zcA Try.prog Try.f55 K))))) s→X s)→X (ziy zaa zab zaR pv5)):=by kernel_rfl
  refine zay e ?_
  intro X hX
  refine h X ?_
  intro zaR pv5 hs
  refine hX _ ?_
  have e2:=zrz K X zaa zab zaR pv5
  rw [e2]
  exact hs
def zpq (K:List PA→Prop) (X5:St→Prop) (X6:St→Prop) (zaa:(Sl Gate)) (zab:(Sl Mp)) (zaK:Int) (pv6:Int) (qv6:Int):Prop :=
  (((0≤(1:Int)∧(1:Int) < (zaa.len:Int))) ∧
 (zda (decide (qv6 ≤ (zaa.get 1).High))
 (((0≤(0:Int)∧(0:Int) < (zab.len:Int))) ∧
 (zda ((zdY (((zab.get 0).F) [pv6, qv6]) 0) == zaK)
 (zkf K zaa zab zaK 2 (zcK [(zaj pv6),(zaj qv6)]))
 (X6 (zkd zaa zab zaK pv6 (w64 (qv6+(1:Int)))))))
 (X5 (ziy zaa zab zaK (w64 (pv6+(1:Int)))))))
theorem zrA (K : List PA → Prop) (X5 : St → Prop) (X6 : St → Prop) (zaa : (Sl Gate)) (zab : (Sl Mp)) (zaK : Int) (pv6 : Int) (qv6 : Int) :
  vc Try.prog G55 za0 (cd (cdF Try.f55 [1,0,1,1,1,1,1,1,0,1,0,0,1,0,0,1,0]) [0]) (zd2 Try.prog za0 15 X6 (za6 4 (za6 3 (sqK Try.prog G55 za0 (cdF Try.f55 [1,0,1,1,1,1,1,1,0,1,0,0,1,1]) (zd2 Try.prog za0 12 X5 (za6 2 (sqK Try.prog G55 za0 (cdF Try.f55 [1,0,1,1,1,1,1,1,1]) (zcm (zcA Try.prog Try.f55 K))))))))) (zkd zaa zab zaK pv6 qv6) =
  zpq K X5 X6 zaa zab zaK pv6 qv6:=by kernel_rfl
theorem zym (K : List PA → Prop) (X5 : St → Prop) (zaa : (Sl Gate)) (zab : (Sl Mp)) (zaK : Int) (pv6 : Int) (qv6 : Int)
  (h:∀ X6:St→Prop,(∀ (zaK:Int) (pv6:Int) (qv6:Int),zpq K X5 X6 zaa zab zaK pv6 qv6→X6 (zkd zaa zab zaK pv6 qv6))→X6 (zkd zaa zab zaK pv6 qv6)) :
  zke K X5 zaa zab zaK pv6 qv6:=by
  have e:zke K X5 zaa zab zaK pv6 qv6=(∀ X:St→Prop,(∀ s,vc Try.prog G55 za0 (cd (cdF Try.f55 [1,0,1,1,1,1,1,1,0,1,0,0,1,0,0,1,0]) [0]) (zd2 Try.prog za0 15 X (za6 4 (za6 3 (sqK Try.prog G55 za0 (cdF Try.f55 [1,0,1,1,1,1,1,1,0,1,0,0,1,1]) (zd2 Try.prog za0 12 X5 (za6 2 (sqK Try.prog G55 za0 (cdF Try.f55 [1,0,1,1,1,1,1,1,1]) (zcm (zcA Try.prog Try.f55 K))))))))) s→X s)→X (zkd zaa zab zaK pv6 qv6)):=by kernel_rfl
  refine zay e ?_
  intro X hX
  refine h X ?_
  intro zaK pv6 qv6 hs
  refine hX _ ?_
  have e2:=zrA K X5 X zaa zab zaK pv6 qv6
  rw [e2]
  exact hs
theorem zGj (K : List PA → Prop) (zaa : (Sl Gate)) (zab : (Sl Mp)) (zdr : Int) (zfX : (Sl Int)) :
  zkf K zaa zab zdr zfX.len (fun i=>zaj (zfX.get i)) =
  (zkg K zaa zab zdr (2:Int) zfX.len (fun i=>zaj (zfX.get i))):=by kernel_rfl
def zpr (K:List PA→Prop) (X8:St→Prop) (zaa:(Sl Gate)) (zab:(Sl Mp)) (zaO:Int) (iv8:Int) (zaZ:(Sl Int)):Prop :=
  (zda (decide (iv8 < (zaa.len : Int)))
 (((0≤(w64 (iv8 - (2:Int)))∧(w64 (iv8 - (2:Int))) < (zaZ.len:Int))) ∧
 ((((w64 (iv8 - (2:Int))).toNat < zaZ.len)) ∧
 (((0≤(w64 (iv8 - (1:Int)))∧(w64 (iv8 - (1:Int))) < (zaZ.len:Int))) ∧
 ((((w64 (iv8 - (1:Int))).toNat < zaZ.len)) ∧
 (((0≤iv8∧iv8 < (zaa.len:Int))) ∧
 (zkh K X8 zaa zab zaO iv8 (zaZ.get ((w64 (iv8 - (2:Int))).toNat)) (zaZ.get ((w64 (iv8 - (1:Int))).toNat)) ((zaa.get iv8.toNat).Low) zaZ.len (fun i=>zaj (zaZ.get i))))))))
 (K [.one (.sl zaZ.len 1 (fun i=>zaj (zaZ.get i))),.one (.int .i64 zaO),.one (.int .i64 (0:Int))]))
theorem zrB (K : List PA → Prop) (X8 : St → Prop) (zaa : (Sl Gate)) (zab : (Sl Mp)) (zaO : Int) (iv8 : Int) (zaZ : (Sl Int)) :
  vc Try.prog G55 za0 (cd (cdF Try.f55 [1,0,1,1,1,1,1,1,1,0,1,0]) [0]) (zd2 Try.prog za0 20 X8 (za6 6 (sqK Try.prog G55 za0 (cdF Try.f55 [1,0,1,1,1,1,1,1,1,1]) (zcm (zcA Try.prog Try.f55 K))))) (zf3 zaa zab zaO iv8 zaZ.len (fun i=>zaj (zaZ.get i))) =
  zpr K X8 zaa zab zaO iv8 zaZ:=by kernel_rfl
theorem zyn (K : List PA → Prop) (zaa : (Sl Gate)) (zab : (Sl Mp)) (zaO : Int) (iv8 : Int) (zfy : Nat) (zbL : Nat → List PV)
  (h:∀ X8:St→Prop,(∀ (zaO:Int) (iv8:Int) (zaZ:(Sl Int)),zpr K X8 zaa zab zaO iv8 zaZ→X8 (zf3 zaa zab zaO iv8 zaZ.len (fun i=>zaj (zaZ.get i))))→X8 (zf3 zaa zab zaO iv8 zfy zbL)) :
  zkg K zaa zab zaO iv8 zfy zbL:=by
  have e:zkg K zaa zab zaO iv8 zfy zbL=(∀ X:St→Prop,(∀ s,vc Try.prog G55 za0 (cd (cdF Try.f55 [1,0,1,1,1,1,1,1,1,0,1,0]) [0]) (zd2 Try.prog za0 20 X (za6 6 (sqK Try.prog G55 za0 (cdF Try.f55 [1,0,1,1,1,1,1,1,1,1]) (zcm (zcA Try.prog Try.f55 K))))) s→X s)→X (zf3 zaa zab zaO iv8 zfy zbL)):=by kernel_rfl
  refine zay e ?_
  intro X hX
  refine h X ?_
  intro zaO iv8 zaZ hs
  refine hX _ ?_
  have e2:=zrB K X zaa zab zaO iv8 zaZ
  rw [e2]
  exact hs
def zps (K:List PA→Prop) (X8:St→Prop) (X9:St→Prop) (zaa:(Sl Gate)) (zab:(Sl Mp)) (zax:Int) (iv9:Int) (pv9:Int) (qv9:Int) (rv9:Int) (zbo:(Sl Int)):Prop :=
  (((0≤iv9∧iv9 < (zaa.len:Int))) ∧
 (zda (decide (rv9 ≤ (zaa.get iv9.toNat).High))
 (((0≤(w64 (iv9 - (2:Int)))∧(w64 (iv9 - (2:Int))) < (zaa.len:Int))) ∧
 (((0≤(w64 (iv9 - (1:Int)))∧(w64 (iv9 - (1:Int))) < (zaa.len:Int))) ∧
 (((0≤iv9∧iv9 < (zaa.len:Int))) ∧
 (((p85 ((zaa.get ((w64 (iv9 - (2:Int))).toNat)).Z) ((zaa.get ((w64 (iv9 - (1:Int))).toNat)).Z) ((zaa.get iv9.toNat).Z) pv9 qv9 rv9=true)) ∧
 (zda (decide ((s85 ((zaa.get ((w64 (iv9 - (2:Int))).toNat)).Z) ((zaa.get ((w64 (iv9 - (1:Int))).toNat)).Z) ((zaa.get iv9.toNat).Z) pv9 qv9 rv9) ≤ zax))
 (((0≤(w64 (iv9 - (1:Int)))∧(w64 (iv9 - (1:Int))) < (zab.len:Int))) ∧
 (zg8 K X8 X9 zaa zab zax iv9 pv9 qv9 rv9 (decide ((zdY (((zab.get ((w64 (iv9 - (1:Int))).toNat)).F) [qv9,rv9]) 0)≤zax)) zbo.len (fun i=>zaj (zbo.get i))))
 (zg8 K X8 X9 zaa zab zax iv9 pv9 qv9 rv9 false zbo.len (fun i=>zaj (zbo.get i))))))))
 (X8 (zf3 zaa zab zax (w64 (iv9+(1:Int))) zbo.len (fun i=>zaj (zbo.get i))))))
theorem zrC (K : List PA → Prop) (X8 : St → Prop) (X9 : St → Prop) (zaa : (Sl Gate)) (zab : (Sl Mp)) (zax : Int) (iv9 : Int) (pv9 : Int) (qv9 : Int) (rv9 : Int) (zbo : (Sl Int)) :
  vc Try.prog G55 za0 (cd (cdF Try.f55 [1,0,1,1,1,1,1,1,1,0,1,0,0,1,0,0,1,1,0]) [0]) (zd2 Try.prog za0 24 X9 (za6 8 (za6 7 (sqK Try.prog G55 za0 (cdF Try.f55 [1,0,1,1,1,1,1,1,1,0,1,0,0,1,1]) (zd2 Try.prog za0 20 X8 (za6 6 (sqK Try.prog G55 za0 (cdF Try.f55 [1,0,1,1,1,1,1,1,1,1]) (zcm (zcA Try.prog Try.f55 K))))))))) (ziz zaa zab zax iv9 pv9 qv9 rv9 zbo.len (fun i=>zaj (zbo.get i))) =
  zps K X8 X9 zaa zab zax iv9 pv9 qv9 rv9 zbo:=by kernel_rfl
theorem zyo (K : List PA → Prop) (X8 : St → Prop) (zaa : (Sl Gate)) (zab : (Sl Mp)) (zax : Int) (iv9 : Int) (pv9 : Int) (qv9 : Int) (rv9 : Int) (zfz : Nat) (zbS : Nat → List PV)
  (h:∀ X9:St→Prop,(∀ (zax:Int) (iv9:Int) (pv9:Int) (qv9:Int) (rv9:Int) (zbo:(Sl Int)),zps K X8 X9 zaa zab zax iv9 pv9 qv9 rv9 zbo→X9 (ziz zaa zab zax iv9 pv9 qv9 rv9 zbo.len (fun i=>zaj (zbo.get i))))→X9 (ziz zaa zab zax iv9 pv9 qv9 rv9 zfz zbS)) :
  zkh K X8 zaa zab zax iv9 pv9 qv9 rv9 zfz zbS:=by
  have e:zkh K X8 zaa zab zax iv9 pv9 qv9 rv9 zfz zbS=(∀ X:St→Prop,(∀ s,vc Try.prog G55 za0 (cd (cdF Try.f55 [1,0,1,1,1,1,1,1,1,0,1,0,0,1,0,0,1,1,0]) [0]) (zd2 Try.prog za0 24 X (za6 8 (za6 7 (sqK Try.prog G55 za0 (cdF Try.f55 [1,0,1,1,1,1,1,1,1,0,1,0,0,1,1]) (zd2 Try.prog za0 20 X8 (za6 6 (sqK Try.prog G55 za0 (cdF Try.f55 [1,0,1,1,1,1,1,1,1,1]) (zcm (zcA Try.prog Try.f55 K))))))))) s→X s)→X (ziz zaa zab zax iv9 pv9 qv9 rv9 zfz zbS)):=by kernel_rfl
  refine zay e ?_
  intro X hX
  refine h X ?_
  intro zax iv9 pv9 qv9 rv9 zbo hs
  refine hX _ ?_
  have e2:=zrC K X8 X zaa zab zax iv9 pv9 qv9 rv9 zbo
  rw [e2]
  exact hs
theorem zBQ (K : List PA → Prop) (X8 : St → Prop) (X9 : St → Prop) (zaa : (Sl Gate)) (zab : (Sl Mp)) (zb1 : Int) (zeg : Int) (zpL : Int) (zpM : Int) (zlG : Int) (zcF : Bool) (zby : (Sl Int)) :
  zg8 K X8 X9 zaa zab zb1 zeg zpL zpM zlG zcF zby.len (fun i=>zaj (zby.get i)) =
  (zda zcF
 ((((zby.len+1) * 8≤140737488355328∧zby.len+1≤9223372036854775807)) ∧
 (X8 (zf3 zaa zab zb1 (w64 (zeg+(1:Int))) (zby.len+1) (appG zby.len (fun i=>zaj (zby.get i)) (fun _=>(zaj zlG))))))
 (X9 (ziz zaa zab zb1 zeg zpL zpM (w64 (zlG+(1:Int))) zby.len (fun i=>zaj (zby.get i))))):=by kernel_rfl
abbrev e55 (r:((Sl Int)×Int×Int)):List PA:=[.one (.sl r.1.len 1 (fun i=>zaj (r.1.get i))),.one (.int .i64 r.2.1),.one (.int .i64 r.2.2)]
attribute [irreducible] znL znM znN zkb znO zkc zke zkf zkg zkh zg8
def zi3 (S8:Int→Int→(Sl Int)→((Sl Int)×Int×Int)) (S9:Int→Int→Int→Int→Int→(Sl Int)→((Sl Int)×Int×Int)) (zaa:(Sl Gate)) (zab:(Sl Mp)) (zb1:Int) (zeg:Int) (zpL:Int) (zpM:Int) (zlG:Int) (zcF:Bool) (zby:(Sl Int)):((Sl Int)×Int×Int) :=
  (cond zcF
 (S8 zb1 (w64 (zeg+(1:Int))) (⟨(zby.len+1),(zdv zby.len zby.get (fun _=>zlG))⟩:Sl Int))
 (S9 zb1 zeg zpL zpM (w64 (zlG+(1:Int))) zby))
def zi4 (P8:Int→Int→(Sl Int)→Bool) (P9:Int→Int→Int→Int→Int→(Sl Int)→Bool) (zaa:(Sl Gate)) (zab:(Sl Mp)) (zb1:Int) (zeg:Int) (zpL:Int) (zpM:Int) (zlG:Int) (zcF:Bool) (zby:(Sl Int)):Bool :=
  (cond zcF
 (decide (((zby.len+1) * 8≤140737488355328∧zby.len+1≤9223372036854775807)) &&
 (P8 zb1 (w64 (zeg+(1:Int))) (⟨(zby.len+1),(zdv zby.len zby.get (fun _=>zlG))⟩:Sl Int)))
 (P9 zb1 zeg zpL zpM (w64 (zlG+(1:Int))) zby))
theorem ztw (K : List PA → Prop) (zaa : (Sl Gate)) (zab : (Sl Mp))
  (X8:St→Prop) (P8:Int→Int→(Sl Int)→Bool) (S8:Int→Int→(Sl Int)→((Sl Int)×Int×Int))
  (hX8:∀ (zaO:Int) (iv8:Int) (zaZ:(Sl Int)) (zbL:Nat→List PV) (zgu:zbL=fun i=>zaj (zaZ.get i)),P8 zaO iv8 zaZ=true→K (e55 (S8 zaO iv8 zaZ))→X8 (zf3 zaa zab zaO iv8 zaZ.len zbL))
  (X9:St→Prop) (P9:Int→Int→Int→Int→Int→(Sl Int)→Bool) (S9:Int→Int→Int→Int→Int→(Sl Int)→((Sl Int)×Int×Int))
  (hX9:∀ (zax:Int) (iv9:Int) (pv9:Int) (qv9:Int) (rv9:Int) (zbo:(Sl Int)) (zbS:Nat→List PV) (zh8:zbS=fun i=>zaj (zbo.get i)),P9 zax iv9 pv9 qv9 rv9 zbo=true→K (e55 (S9 zax iv9 pv9 qv9 rv9 zbo))→X9 (ziz zaa zab zax iv9 pv9 qv9 rv9 zbo.len zbS)) (zb1:Int) (zeg:Int) (zpL:Int) (zpM:Int) (zlG:Int) (zcF:Bool) (zby:(Sl Int)) (zfS:Nat→List PV) (zBR:zfS=fun i=>zaj (zby.get i)) (hs:zi4 P8 P9 zaa zab zb1 zeg zpL zpM zlG zcF zby=true) (hk:K (e55 (zi3 S8 S9 zaa zab zb1 zeg zpL zpM zlG zcF zby))):zg8 (Wk K) X8 X9 zaa zab zb1 zeg zpL zpM zlG zcF zby.len zfS:=by
  subst zBR
  refine zay (zBQ (Wk K) X8 X9 zaa zab zb1 zeg zpL zpM zlG zcF zby) ?_
  unfold zi4 at hs
  unfold zi3 at hk
  exact (zcu (K := fun r => K (e55 r))
 (fun hs hk=>(zaw hs fun hc hs=>⟨hc,(hX8 zb1 (w64 (zeg+(1:Int))) (⟨(zby.len+1),(zdv zby.len zby.get (fun _=>zlG))⟩:Sl Int) (appG zby.len (fun i=>zaj (zby.get i)) (fun _=>(zaj zlG))) (zjJ (enc:=zaj) (f:=zby.get) (h:=(fun _=>zlG)) rfl rfl) hs hk)⟩))
 (fun hs hk=>(hX9 zb1 zeg zpL zpM (w64 (zlG+(1:Int))) zby (fun i=>zaj (zby.get i)) rfl hs hk)) hs hk)
def zrD (S8:Int→Int→(Sl Int)→((Sl Int)×Int×Int)) (zaa:(Sl Gate)) (zab:(Sl Mp)) (S9:Int→Int→Int→Int→Int→(Sl Int)→((Sl Int)×Int×Int)) (zax:Int) (iv9:Int) (pv9:Int) (qv9:Int) (rv9:Int) (zbo:(Sl Int)):((Sl Int)×Int×Int) :=
  (cond (decide (rv9 ≤ (zaa.get iv9.toNat).High))
 (cond (decide ((s85 ((zaa.get ((w64 (iv9 - (2:Int))).toNat)).Z) ((zaa.get ((w64 (iv9 - (1:Int))).toNat)).Z) ((zaa.get iv9.toNat).Z) pv9 qv9 rv9) ≤ zax))
 (zi3 S8 S9 zaa zab zax iv9 pv9 qv9 rv9 (decide ((zdY (((zab.get ((w64 (iv9 - (1:Int))).toNat)).F) [qv9,rv9]) 0)≤zax)) zbo)
 (zi3 S8 S9 zaa zab zax iv9 pv9 qv9 rv9 false zbo))
 (S8 zax (w64 (iv9+(1:Int))) zbo))
def zrE (P8:Int→Int→(Sl Int)→Bool) (zaa:(Sl Gate)) (zab:(Sl Mp)) (P9:Int→Int→Int→Int→Int→(Sl Int)→Bool) (zax:Int) (iv9:Int) (pv9:Int) (qv9:Int) (rv9:Int) (zbo:(Sl Int)):Bool :=
  (decide ((0≤iv9∧iv9 < (zaa.len:Int))) &&
 (cond (decide (rv9 ≤ (zaa.get iv9.toNat).High))
 (decide ((0≤(w64 (iv9 - (2:Int)))∧(w64 (iv9 - (2:Int))) < (zaa.len:Int))) &&
 (decide ((0≤(w64 (iv9 - (1:Int)))∧(w64 (iv9 - (1:Int))) < (zaa.len:Int))) &&
 (decide ((0≤iv9∧iv9 < (zaa.len:Int))) &&
 (decide ((p85 ((zaa.get ((w64 (iv9 - (2:Int))).toNat)).Z) ((zaa.get ((w64 (iv9 - (1:Int))).toNat)).Z) ((zaa.get iv9.toNat).Z) pv9 qv9 rv9=true)) &&
 (cond (decide ((s85 ((zaa.get ((w64 (iv9 - (2:Int))).toNat)).Z) ((zaa.get ((w64 (iv9 - (1:Int))).toNat)).Z) ((zaa.get iv9.toNat).Z) pv9 qv9 rv9) ≤ zax))
 (decide ((0≤(w64 (iv9 - (1:Int)))∧(w64 (iv9 - (1:Int))) < (zab.len:Int))) &&
 (zi4 P8 P9 zaa zab zax iv9 pv9 qv9 rv9 (decide ((zdY (((zab.get ((w64 (iv9 - (1:Int))).toNat)).F) [qv9,rv9]) 0)≤zax)) zbo))
 (zi4 P8 P9 zaa zab zax iv9 pv9 qv9 rv9 false zbo))))))
 (P8 zax (w64 (iv9+(1:Int))) zbo)))
def zki (S8 : Int → Int → (Sl Int) → ((Sl Int) × Int × Int)) (zaa : (Sl Gate)) (zab : (Sl Mp)) : Nat → Int → Int → Int → Int → Int → (Sl Int) → ((Sl Int) × Int × Int)
  | 0=>fun _ _ _ _ _ _=>default
  | k+1=>zrD S8 zaa zab (zki S8 zaa zab k)
def zkj (P8 : Int → Int → (Sl Int) → Bool) (zaa : (Sl Gate)) (zab : (Sl Mp)) : Nat → Int → Int → Int → Int → Int → (Sl Int) → Bool
  | 0=>fun _ _ _ _ _ _=>false
  | k+1=>zrE P8 zaa zab (zkj P8 zaa zab k)
def zyp (S8:Int→Int→(Sl Int)→((Sl Int)×Int×Int)) (zaa:(Sl Gate)) (zab:(Sl Mp)) (zax:Int) (iv9:Int) (pv9:Int) (qv9:Int) (rv9:Int) (zbo:(Sl Int)):((Sl Int)×Int×Int):=zki S8 zaa zab Fuel zax iv9 pv9 qv9 rv9 zbo
def zyq (P8:Int→Int→(Sl Int)→Bool) (zaa:(Sl Gate)) (zab:(Sl Mp)) (zax:Int) (iv9:Int) (pv9:Int) (qv9:Int) (rv9:Int) (zbo:(Sl Int)):Bool:=zkj P8 zaa zab Fuel zax iv9 pv9 qv9 rv9 zbo
theorem zGk (K : List PA → Prop) (zaa : (Sl Gate)) (zab : (Sl Mp))
  (X8:St→Prop) (P8:Int→Int→(Sl Int)→Bool) (S8:Int→Int→(Sl Int)→((Sl Int)×Int×Int))
  (hX8:∀ (zaO:Int) (iv8:Int) (zaZ:(Sl Int)) (zbL:Nat→List PV) (zgu:zbL=fun i=>zaj (zaZ.get i)),P8 zaO iv8 zaZ=true→K (e55 (S8 zaO iv8 zaZ))→X8 (zf3 zaa zab zaO iv8 zaZ.len zbL)) (zax:Int) (iv9:Int) (pv9:Int) (qv9:Int) (rv9:Int) (zbo:(Sl Int)) (zbS:Nat→List PV) (zh8:zbS=fun i=>zaj (zbo.get i)) (hs:zyq P8 zaa zab zax iv9 pv9 qv9 rv9 zbo=true) (hk:K (e55 (zyp S8 zaa zab zax iv9 pv9 qv9 rv9 zbo))):zkh (Wk K) X8 zaa zab zax iv9 pv9 qv9 rv9 zbo.len zbS:=by
  refine zyo (Wk K) X8 zaa zab zax iv9 pv9 qv9 rv9 zbo.len zbS ?_
  intro X9 hstep
  have key:∀ (k:Nat) (zax:Int) (iv9:Int) (pv9:Int) (qv9:Int) (rv9:Int) (zbo:(Sl Int)) (zbS:Nat→List PV) (zh8:zbS=fun i=>zaj (zbo.get i)),zkj P8 zaa zab k zax iv9 pv9 qv9 rv9 zbo=true→K (e55 (zki S8 zaa zab k zax iv9 pv9 qv9 rv9 zbo))→X9 (ziz zaa zab zax iv9 pv9 qv9 rv9 zbo.len zbS):=by
    intro k
    induction k with
    | zero=>intro zax iv9 pv9 qv9 rv9 zbo zbS zh8 hs;exact absurd hs Bool.false_ne_true
    | succ k ih =>
      intro zax iv9 pv9 qv9 rv9 zbo zbS zh8 hs hk
      subst zh8
      refine hstep zax iv9 pv9 qv9 rv9 zbo ?_
      have hs:zrE P8 zaa zab (zkj P8 zaa zab k) zax iv9 pv9 qv9 rv9 zbo=true:=hs
      have hk:K (e55 (zrD S8 zaa zab (zki S8 zaa zab k) zax iv9 pv9 qv9 rv9 zbo)):=hk
      unfold zrE at hs
      unfold zrD at hk
      generalize zki S8 zaa zab k=S9 at hk ih
      generalize zkj P8 zaa zab k=P9 at hs ih
      have hX9:=ih
      exact (zaw hs fun hc hs => ⟨hc, (zcu (K := fun r => K (e55 r))
 (fun hs hk => (zaw hs fun hc hs => ⟨hc, (zaw hs fun hc hs => ⟨hc, (zaw hs fun hc hs => ⟨hc, (zaw hs fun hc hs => ⟨hc, (zcu (K := fun r => K (e55 r))
 (fun hs hk=>(zaw hs fun hc hs=>⟨hc,(ztw K zaa zab X8 P8 S8 hX8 X9 P9 S9 hX9 zax iv9 pv9 qv9 rv9 (decide ((zdY (((zab.get ((w64 (iv9 - (1:Int))).toNat)).F) [qv9,rv9]) 0)≤zax)) zbo (fun i=>zaj (zbo.get i)) rfl hs hk)⟩))
 (fun hs hk=>(ztw K zaa zab X8 P8 S8 hX8 X9 P9 S9 hX9 zax iv9 pv9 qv9 rv9 false zbo (fun i=>zaj (zbo.get i)) rfl hs hk)) hs hk)⟩)⟩)⟩)⟩))
 (fun hs hk=>(hX8 zax (w64 (iv9+(1:Int))) zbo (fun i=>zaj (zbo.get i)) rfl hs hk)) hs hk)⟩)
  exact key _ zax iv9 pv9 qv9 rv9 zbo zbS zh8 hs hk
def zrF (zaa:(Sl Gate)) (zab:(Sl Mp)) (S8:Int→Int→(Sl Int)→((Sl Int)×Int×Int)) (zaO:Int) (iv8:Int) (zaZ:(Sl Int)):((Sl Int)×Int×Int) :=
  (cond (decide (iv8 < (zaa.len : Int)))
 (zyp S8 zaa zab zaO iv8 (zaZ.get ((w64 (iv8 - (2:Int))).toNat)) (zaZ.get ((w64 (iv8 - (1:Int))).toNat)) ((zaa.get iv8.toNat).Low) zaZ)
 (zaZ,zaO,(0:Int)))
def zrG (zaa:(Sl Gate)) (zab:(Sl Mp)) (P8:Int→Int→(Sl Int)→Bool) (zaO:Int) (iv8:Int) (zaZ:(Sl Int)):Bool :=
  (cond (decide (iv8 < (zaa.len : Int)))
 (decide ((0≤(w64 (iv8 - (2:Int)))∧(w64 (iv8 - (2:Int))) < (zaZ.len:Int))) &&
 (decide (((w64 (iv8 - (2:Int))).toNat < zaZ.len)) &&
 (decide ((0≤(w64 (iv8 - (1:Int)))∧(w64 (iv8 - (1:Int))) < (zaZ.len:Int))) &&
 (decide (((w64 (iv8 - (1:Int))).toNat < zaZ.len)) &&
 (decide ((0≤iv8∧iv8 < (zaa.len:Int))) &&
 (zyq P8 zaa zab zaO iv8 (zaZ.get ((w64 (iv8 - (2:Int))).toNat)) (zaZ.get ((w64 (iv8 - (1:Int))).toNat)) ((zaa.get iv8.toNat).Low) zaZ))))))
 true)
def zkk (zaa : (Sl Gate)) (zab : (Sl Mp)) : Nat → Int → Int → (Sl Int) → ((Sl Int) × Int × Int)
  | 0=>fun _ _ _=>default
  | k+1=>zrF zaa zab (zkk zaa zab k)
def zkl (zaa : (Sl Gate)) (zab : (Sl Mp)) : Nat → Int → Int → (Sl Int) → Bool
  | 0=>fun _ _ _=>false
  | k+1=>zrG zaa zab (zkl zaa zab k)
def zyr (zaa:(Sl Gate)) (zab:(Sl Mp)) (zaO:Int) (iv8:Int) (zaZ:(Sl Int)):((Sl Int)×Int×Int):=zkk zaa zab Fuel zaO iv8 zaZ
def zys (zaa:(Sl Gate)) (zab:(Sl Mp)) (zaO:Int) (iv8:Int) (zaZ:(Sl Int)):Bool:=zkl zaa zab Fuel zaO iv8 zaZ
theorem zGl (K:List PA→Prop) (zaa:(Sl Gate)) (zab:(Sl Mp)) (zaO:Int) (iv8:Int) (zaZ:(Sl Int)) (zbL:Nat→List PV) (zgu:zbL=fun i=>zaj (zaZ.get i)) (hs:zys zaa zab zaO iv8 zaZ=true) (hk:K (e55 (zyr zaa zab zaO iv8 zaZ))):zkg (Wk K) zaa zab zaO iv8 zaZ.len zbL:=by
  refine zyn (Wk K) zaa zab zaO iv8 zaZ.len zbL ?_
  intro X8 hstep
  have key:∀ (k:Nat) (zaO:Int) (iv8:Int) (zaZ:(Sl Int)) (zbL:Nat→List PV) (zgu:zbL=fun i=>zaj (zaZ.get i)),zkl zaa zab k zaO iv8 zaZ=true→K (e55 (zkk zaa zab k zaO iv8 zaZ))→X8 (zf3 zaa zab zaO iv8 zaZ.len zbL):=by
    intro k
    induction k with
    | zero=>intro zaO iv8 zaZ zbL zgu hs;exact absurd hs Bool.false_ne_true
    | succ k ih =>
      intro zaO iv8 zaZ zbL zgu hs hk
      subst zgu
      refine hstep zaO iv8 zaZ ?_
      have hs:zrG zaa zab (zkl zaa zab k) zaO iv8 zaZ=true:=hs
      have hk:K (e55 (zrF zaa zab (zkk zaa zab k) zaO iv8 zaZ)):=hk
      unfold zrG at hs
      unfold zrF at hk
      generalize zkk zaa zab k=S8 at hk ih
      generalize zkl zaa zab k=P8 at hs ih
      have hX8:=ih
      exact (zcu (K := fun r => K (e55 r))
 (fun hs hk=>(zaw hs fun hc hs=>⟨hc,(zaw hs fun hc hs=>⟨hc,(zaw hs fun hc hs=>⟨hc,(zaw hs fun hc hs=>⟨hc,(zaw hs fun hc hs=>⟨hc,(zGk K zaa zab X8 P8 S8 hX8 zaO iv8 (zaZ.get ((w64 (iv8 - (2:Int))).toNat)) (zaZ.get ((w64 (iv8 - (1:Int))).toNat)) ((zaa.get iv8.toNat).Low) zaZ (fun i=>zaj (zaZ.get i)) rfl hs hk)⟩)⟩)⟩)⟩)⟩))
 (fun hs hk=>(zep hk)) hs hk)
  exact key _ zaO iv8 zaZ zbL zgu hs hk
def znQ (zaa:(Sl Gate)) (zab:(Sl Mp)) (zdr:Int) (zfX:(Sl Int)):((Sl Int)×Int×Int) :=
  (zyr zaa zab zdr (2:Int) zfX)
def znR (zaa:(Sl Gate)) (zab:(Sl Mp)) (zdr:Int) (zfX:(Sl Int)):Bool :=
  (zys zaa zab zdr (2:Int) zfX)
theorem zyt (K:List PA→Prop) (zaa:(Sl Gate)) (zab:(Sl Mp)) (zdr:Int) (zfX:(Sl Int)) (zh7:Nat→List PV) (zGm:zh7=fun i=>zaj (zfX.get i)) (hs:znR zaa zab zdr zfX=true) (hk:K (e55 (znQ zaa zab zdr zfX))):zkf (Wk K) zaa zab zdr zfX.len zh7:=by
  subst zGm
  refine zay (zGj (Wk K) zaa zab zdr zfX) ?_
  unfold znR at hs
  unfold znQ at hk
  exact (zGl K zaa zab zdr (2:Int) zfX (fun i=>zaj (zfX.get i)) rfl hs hk)
def zrH (S5:Int→Int→((Sl Int)×Int×Int)) (zaa:(Sl Gate)) (zab:(Sl Mp)) (S6:Int→Int→Int→((Sl Int)×Int×Int)) (zaK:Int) (pv6:Int) (qv6:Int):((Sl Int)×Int×Int) :=
  (cond (decide (qv6 ≤ (zaa.get 1).High))
 (cond ((zdY (((zab.get 0).F) [pv6, qv6]) 0) == zaK)
 (znQ zaa zab zaK (⟨2,(zhn pv6 [pv6,qv6])⟩:Sl Int))
 (S6 zaK pv6 (w64 (qv6+(1:Int)))))
 (S5 zaK (w64 (pv6+(1:Int)))))
def zrI (P5:Int→Int→Bool) (zaa:(Sl Gate)) (zab:(Sl Mp)) (P6:Int→Int→Int→Bool) (zaK:Int) (pv6:Int) (qv6:Int):Bool :=
  (decide ((0≤(1:Int)∧(1:Int) < (zaa.len:Int))) &&
 (cond (decide (qv6 ≤ (zaa.get 1).High))
 (decide ((0≤(0:Int)∧(0:Int) < (zab.len:Int))) &&
 (cond ((zdY (((zab.get 0).F) [pv6, qv6]) 0) == zaK)
 (znR zaa zab zaK (⟨2,(zhn pv6 [pv6,qv6])⟩:Sl Int))
 (P6 zaK pv6 (w64 (qv6+(1:Int))))))
 (P5 zaK (w64 (pv6+(1:Int))))))
def zkm (S5 : Int → Int → ((Sl Int) × Int × Int)) (zaa : (Sl Gate)) (zab : (Sl Mp)) : Nat → Int → Int → Int → ((Sl Int) × Int × Int)
  | 0=>fun _ _ _=>default
  | k+1=>zrH S5 zaa zab (zkm S5 zaa zab k)
def zkn (P5 : Int → Int → Bool) (zaa : (Sl Gate)) (zab : (Sl Mp)) : Nat → Int → Int → Int → Bool
  | 0=>fun _ _ _=>false
  | k+1=>zrI P5 zaa zab (zkn P5 zaa zab k)
def zyu (S5:Int→Int→((Sl Int)×Int×Int)) (zaa:(Sl Gate)) (zab:(Sl Mp)) (zaK:Int) (pv6:Int) (qv6:Int):((Sl Int)×Int×Int):=zkm S5 zaa zab Fuel zaK pv6 qv6
def zyv (P5:Int→Int→Bool) (zaa:(Sl Gate)) (zab:(Sl Mp)) (zaK:Int) (pv6:Int) (qv6:Int):Bool:=zkn P5 zaa zab Fuel zaK pv6 qv6
theorem zGn (K : List PA → Prop) (zaa : (Sl Gate)) (zab : (Sl Mp))
  (X5:St→Prop) (P5:Int→Int→Bool) (S5:Int→Int→((Sl Int)×Int×Int))
  (hX5:∀ (zaR:Int) (pv5:Int),P5 zaR pv5=true→K (e55 (S5 zaR pv5))→X5 (ziy zaa zab zaR pv5)) (zaK:Int) (pv6:Int) (qv6:Int) (hs:zyv P5 zaa zab zaK pv6 qv6=true) (hk:K (e55 (zyu S5 zaa zab zaK pv6 qv6))):zke (Wk K) X5 zaa zab zaK pv6 qv6:=by
  refine zym (Wk K) X5 zaa zab zaK pv6 qv6 ?_
  intro X6 hstep
  have key:∀ (k:Nat) (zaK:Int) (pv6:Int) (qv6:Int),zkn P5 zaa zab k zaK pv6 qv6=true→K (e55 (zkm S5 zaa zab k zaK pv6 qv6))→X6 (zkd zaa zab zaK pv6 qv6):=by
    intro k
    induction k with
    | zero=>intro zaK pv6 qv6 hs;exact absurd hs Bool.false_ne_true
    | succ k ih =>
      intro zaK pv6 qv6 hs hk
      refine hstep zaK pv6 qv6 ?_
      have hs:zrI P5 zaa zab (zkn P5 zaa zab k) zaK pv6 qv6=true:=hs
      have hk:K (e55 (zrH S5 zaa zab (zkm S5 zaa zab k) zaK pv6 qv6)):=hk
      unfold zrI at hs
      unfold zrH at hk
      generalize zkm S5 zaa zab k=S6 at hk ih
      generalize zkn P5 zaa zab k=P6 at hs ih
      have hX6:=ih
      exact (zaw hs fun hc hs => ⟨hc, (zcu (K := fun r => K (e55 r))
 (fun hs hk => (zaw hs fun hc hs => ⟨hc, (zcu (K := fun r => K (e55 r))
 (fun hs hk=>(zyt K zaa zab zaK (⟨2,(zhn pv6 [pv6,qv6])⟩:Sl Int) (zcK [(zaj pv6),(zaj qv6)]) (zeL (enc:=zaj) (x:=pv6) (y:=qv6) (r:=[])) hs hk))
 (fun hs hk=>(hX6 zaK pv6 (w64 (qv6+(1:Int))) hs hk)) hs hk)⟩))
 (fun hs hk=>(hX5 zaK (w64 (pv6+(1:Int))) hs hk)) hs hk)⟩)
  exact key _ zaK pv6 qv6 hs hk
def zrJ (zaa:(Sl Gate)) (zab:(Sl Mp)) (S5:Int→Int→((Sl Int)×Int×Int)) (zaR:Int) (pv5:Int):((Sl Int)×Int×Int) :=
  (cond (decide (pv5 ≤ (zaa.get 0).High))
 (zyu S5 zaa zab zaR pv5 ((zaa.get 1).Low))
 (znQ zaa zab zaR (⟨0,(fun _=>default)⟩:Sl Int)))
def zrK (zaa:(Sl Gate)) (zab:(Sl Mp)) (P5:Int→Int→Bool) (zaR:Int) (pv5:Int):Bool :=
  (decide ((0≤(0:Int)∧(0:Int) < (zaa.len:Int))) &&
 (cond (decide (pv5 ≤ (zaa.get 0).High))
 (decide ((0≤(1:Int)∧(1:Int) < (zaa.len:Int))) &&
 (zyv P5 zaa zab zaR pv5 ((zaa.get 1).Low)))
 (znR zaa zab zaR (⟨0,(fun _=>default)⟩:Sl Int))))
def zko (zaa : (Sl Gate)) (zab : (Sl Mp)) : Nat → Int → Int → ((Sl Int) × Int × Int)
  | 0=>fun _ _=>default
  | k+1=>zrJ zaa zab (zko zaa zab k)
def zkp (zaa : (Sl Gate)) (zab : (Sl Mp)) : Nat → Int → Int → Bool
  | 0=>fun _ _=>false
  | k+1=>zrK zaa zab (zkp zaa zab k)
def zyw (zaa:(Sl Gate)) (zab:(Sl Mp)) (zaR:Int) (pv5:Int):((Sl Int)×Int×Int):=zko zaa zab Fuel zaR pv5
def zyx (zaa:(Sl Gate)) (zab:(Sl Mp)) (zaR:Int) (pv5:Int):Bool:=zkp zaa zab Fuel zaR pv5
theorem zGo (K:List PA→Prop) (zaa:(Sl Gate)) (zab:(Sl Mp)) (zaR:Int) (pv5:Int) (hs:zyx zaa zab zaR pv5=true) (hk:K (e55 (zyw zaa zab zaR pv5))):zkc (Wk K) zaa zab zaR pv5:=by
  refine zyl (Wk K) zaa zab zaR pv5 ?_
  intro X5 hstep
  have key:∀ (k:Nat) (zaR:Int) (pv5:Int),zkp zaa zab k zaR pv5=true→K (e55 (zko zaa zab k zaR pv5))→X5 (ziy zaa zab zaR pv5):=by
    intro k
    induction k with
    | zero=>intro zaR pv5 hs;exact absurd hs Bool.false_ne_true
    | succ k ih =>
      intro zaR pv5 hs hk
      refine hstep zaR pv5 ?_
      have hs:zrK zaa zab (zkp zaa zab k) zaR pv5=true:=hs
      have hk:K (e55 (zrJ zaa zab (zko zaa zab k) zaR pv5)):=hk
      unfold zrK at hs
      unfold zrJ at hk
      generalize zko zaa zab k=S5 at hk ih
      generalize zkp zaa zab k=P5 at hs ih
      have hX5:=ih
      exact (zaw hs fun hc hs => ⟨hc, (zcu (K := fun r => K (e55 r))
 (fun hs hk=>(zaw hs fun hc hs=>⟨hc,(zGn K zaa zab X5 P5 S5 hX5 zaR pv5 ((zaa.get 1).Low) hs hk)⟩))
 (fun hs hk=>(zyt K zaa zab zaR (⟨0,(fun _=>default)⟩:Sl Int) (fun i=>zaj ((fun _=>default) i)) rfl hs hk)) hs hk)⟩)
  exact key _ zaR pv5 hs hk
def zrL (zaa:(Sl Gate)) (zab:(Sl Mp)) (zdq:Int):((Sl Int)×Int×Int) :=
  (zyw zaa zab zdq ((zaa.get 0).Low))
def zrM (zaa:(Sl Gate)) (zab:(Sl Mp)) (zdq:Int):Bool :=
  (decide ((0≤(0:Int)∧(0:Int) < (zaa.len:Int))) &&
 (zyx zaa zab zdq ((zaa.get 0).Low)))
theorem zGp (K:List PA→Prop) (zaa:(Sl Gate)) (zab:(Sl Mp)) (zdq:Int) (hs:zrM zaa zab zdq=true) (hk:K (e55 (zrL zaa zab zdq))):znO (Wk K) zaa zab zdq:=by
  refine zay (zGi (Wk K) zaa zab zdq) ?_
  unfold zrM at hs
  unfold zrL at hk
  exact (zaw hs fun hc hs=>⟨hc,(zGo K zaa zab zdq ((zaa.get 0).Low) hs hk)⟩)
def znS (zaa:(Sl Gate)) (zab:(Sl Mp)) (zaA:Int):((Sl Int)×Int×Int) :=
  (zrL zaa zab zaA)
def znT (zaa:(Sl Gate)) (zab:(Sl Mp)) (zaA:Int):Bool :=
  (zrM zaa zab zaA)
def zkq (zaa:(Sl Gate)) (zab:(Sl Mp)) (k24_0:Int) (k24_1:Int) (S3:Int→((Sl Int)×Int×Int)) (zaA:Int):((Sl Int)×Int×Int) :=
  (cond (decide (zaA < (0:Int)))
 (S3 (zdY (((zab.get 0).F) [k24_0,k24_1]) 0))
 (cond (decide ((zdY (((zab.get 0).F) [k24_0, k24_1]) 0) < zaA))
 (S3 (zdY (((zab.get 0).F) [k24_0,k24_1]) 0))
 (S3 zaA)))
def zkr (zaa:(Sl Gate)) (zab:(Sl Mp)) (k24_0:Int) (k24_1:Int) (P3:Int→Bool) (zaA:Int):Bool :=
  (cond (decide (zaA < (0:Int)))
 (P3 (zdY (((zab.get 0).F) [k24_0,k24_1]) 0))
 (cond (decide ((zdY (((zab.get 0).F) [k24_0, k24_1]) 0) < zaA))
 (P3 (zdY (((zab.get 0).F) [k24_0,k24_1]) 0))
 (P3 zaA)))
def zeZ (zaa : (Sl Gate)) (zab : (Sl Mp)) : List (List Int) → Int → ((Sl Int) × Int × Int)
  | []=>znS zaa zab
  | y :: r=>zkq zaa zab (y.getD 0 0) (y.getD 1 0) (zeZ zaa zab r)
def ze0 (zaa : (Sl Gate)) (zab : (Sl Mp)) : List (List Int) → Int → Bool
  | []=>znT zaa zab
  | y :: r=>zkr zaa zab (y.getD 0 0) (y.getD 1 0) (ze0 zaa zab r)
def zfA (_gates:Sl Gate) (t:Sl Mp) (ys:List (List Int)):Bool:=ys.all fun y=>decide (0≤zdY ((t.get 0).F y) 0)
theorem zGq (zaa:Sl Gate) (t:Sl Mp):∀ (y:List Int) (r:List (List Int)),zfA zaa t (y :: r)=true→zfA zaa t r=true:=fun y r h=>by
  simp only [zfA,List.all_cons,Bool.and_eq_true] at h ⊢;exact h.2
def kst (F:List Int→Option (List Int)) (k:Int) (y:List Int):Int:=if k < 0 then zdY (F y) 0 else if zdY (F y) 0 < k then zdY (F y) 0 else k
theorem ztx (F:List Int→Option (List Int)) {ys zs:List (List Int)} (h:∀ y∈ys,0≤zdY (F y) 0) (hp:ys.Perm zs) (k:Int):ys.foldl (kst F) k=zs.foldl (kst F) k:=by
  refine hp.foldl_eq' (fun x hx y hy z=>?_) k
  have h1:=h x hx
  have h2:=h y hy
  unfold kst
  repeat' split
  all_goals omega
theorem zrN (zaa : Sl Gate) (t : Sl Mp) : ∀ (ys : List (List Int)) (k : Int), (∀ y ∈ ys, y.length = 2) → zeZ zaa t ys k = znS zaa t (ys.foldl (kst (t.get 0).F) k)
  | [],k,_=>rfl
  | y :: r,k,h=>by
    have hy:=h y List.mem_cons_self
    match y,hy with
    | [a,b],_ =>
    have ih:=fun k=>zrN zaa t r k (fun z hz=>h z (List.mem_cons_of_mem _ hz))
    show zkq zaa t a b (zeZ zaa t r) k=_
    rw [List.foldl_cons]
    unfold zkq
    by_cases h1:k < 0
    · rw [decide_eq_true h1,cond_true,ih,show kst (t.get 0).F k [a,b]=zdY ((t.get 0).F [a,b]) 0 from if_pos h1]
    · rw [decide_eq_false h1, cond_false]
      by_cases h2:zdY ((t.get 0).F [a,b]) 0 < k
      · rw [decide_eq_true h2,cond_true,ih,show kst (t.get 0).F k [a,b]=zdY ((t.get 0).F [a,b]) 0 from (if_neg h1).trans (if_pos h2)]
      · rw [decide_eq_false h2,cond_false,ih,show kst (t.get 0).F k [a,b]=k from (if_neg h1).trans (if_neg h2)]
theorem zrO (zaa : Sl Gate) (t : Sl Mp) : ∀ (ys : List (List Int)) (k : Int), (∀ y ∈ ys, y.length = 2) → ze0 zaa t ys k = znT zaa t (ys.foldl (kst (t.get 0).F) k)
  | [],k,_=>rfl
  | y :: r,k,h=>by
    have hy:=h y List.mem_cons_self
    match y,hy with
    | [a,b],_ =>
    have ih:=fun k=>zrO zaa t r k (fun z hz=>h z (List.mem_cons_of_mem _ hz))
    show zkr zaa t a b (ze0 zaa t r) k=_
    rw [List.foldl_cons]
    unfold zkr
    by_cases h1:k < 0
    · rw [decide_eq_true h1,cond_true,ih,show kst (t.get 0).F k [a,b]=zdY ((t.get 0).F [a,b]) 0 from if_pos h1]
    · rw [decide_eq_false h1, cond_false]
      by_cases h2:zdY ((t.get 0).F [a,b]) 0 < k
      · rw [decide_eq_true h2,cond_true,ih,show kst (t.get 0).F k [a,b]=zdY ((t.get 0).F [a,b]) 0 from (if_neg h1).trans (if_pos h2)]
      · rw [decide_eq_false h2,cond_false,ih,show kst (t.get 0).F k [a,b]=k from (if_neg h1).trans (if_neg h2)]
theorem zGr (zaa : Sl Gate) (t : Sl Mp) (ys zs : List (List Int)) (hl : ∀ y ∈ ys, y.length = 2) (h : zfA zaa t ys = true) (hp : ys.Perm zs) :
    zfA zaa t zs=true∧zeZ zaa t ys=zeZ zaa t zs∧ze0 zaa t ys=ze0 zaa t zs:=by
  simp only [zfA,List.all_eq_true,decide_eq_true_eq] at h ⊢
  have hl2:∀ y∈zs,y.length=2:=fun y hy=>hl y (hp.mem_iff.2 hy)
  refine ⟨fun y hy=>h y (hp.mem_iff.2 hy),funext fun k=>?_,funext fun k=>?_⟩
  · rw [zrN zaa t ys k hl,zrN zaa t zs k hl2,ztx _ h hp]
  · rw [zrO zaa t ys k hl,zrO zaa t zs k hl2,ztx _ h hp]
def zrP (zaa:(Sl Gate)) (zab:(Sl Mp)) (zaA:Int):((Sl Int)×Int×Int):=zeZ zaa zab (zpn zaa) zaA
def zrQ (zaa:(Sl Gate)) (zab:(Sl Mp)) (zaA:Int):Bool:=keysB 2 ((zab.get 0).n) ((zab.get 0).F) (zpn zaa) && zfA zaa zab (zpn zaa) && ze0 zaa zab (zpn zaa) zaA
theorem zGs (K:List PA→Prop) (zaa:(Sl Gate)) (zab:(Sl Mp)) (zaA:Int) (hs:zrQ zaa zab zaA=true) (hk:K (e55 (zrP zaa zab zaA))):zkb (Wk K) zaa zab [] zaA:=by
  unfold zrQ at hs
  rw [Bool.and_eq_true,Bool.and_eq_true] at hs
  obtain ⟨⟨hkeys,hI⟩,hs⟩:=hs
  unfold zrP at hk
  generalize hys:zpn zaa=ys0 at hkeys hI hs hk
  refine zyk (Wk K) zaa zab [] zaA ?_
  intro X3 hstep
  have key:∀ (N:Nat) (ys:List (List Int)) (seen:List (List Int)) (zaA:Int),ys.length=N→(zH7 2 ((zab.get 0).n) ((zab.get 0).F)→zIy 2 ((zab.get 0).F) seen ys)→zfA zaa zab ys=true→ze0 zaa zab ys zaA=true→K (e55 (zeZ zaa zab ys zaA))→X3 (zg7 zaa zab seen zaA):=by
    intro N
    induction N with
    | zero =>
      intro ys seen zaA hN hrem hI hs hk
      obtain rfl:=List.eq_nil_of_length_eq_zero hN
      refine hstep seen zaA ?_
      intro hfin
      have hrem:=hrem hfin
      refine ⟨fun _=>?_,fun k24_0 k24_1 hF hns=>absurd (hrem.2.2 [k24_0,k24_1] rfl hF hns) (by simp)⟩
      have hs:znT zaa zab zaA=true:=hs
      have hk:K (e55 (znS zaa zab zaA)):=hk
      unfold znT at hs
      unfold znS at hk
      exact (zGp K zaa zab zaA hs hk)
    | succ N ih =>
      intro ys seen zaA hN hrem hI hs hk
      refine hstep seen zaA ?_
      intro hfin
      have hrem:=hrem hfin
      refine ⟨fun hend=>?_,fun k24_0 k24_1 hF hns=>?_⟩
      · exact absurd (zD8 hrem hend) (fun e=>by rw [e] at hN;simp at hN)
      · obtain ⟨hperm, hrem2, hlen⟩ := zBb hrem (c := [k24_0, k24_1]) rfl hF hns
        obtain ⟨hI2,e1,e2⟩:=zGr zaa zab ys _ (fun y hy=>(hrem.2.1 y hy).1) hI hperm
        have hI3:=zGq zaa zab _ _ hI2
        rw [e2] at hs
        rw [e1] at hk
        have hs:zkr zaa zab k24_0 k24_1 (ze0 zaa zab (ys.erase [k24_0,k24_1])) zaA=true:=hs
        have hk:K (e55 (zkq zaa zab k24_0 k24_1 (zeZ zaa zab (ys.erase [k24_0,k24_1])) zaA)):=hk
        have ih:=fun (zaA:Int)=>ih (ys.erase [k24_0,k24_1]) ([k24_0,k24_1] :: seen) zaA (by omega) (fun _=>hrem2) hI3
        unfold zkr at hs
        unfold zkq at hk
        generalize zeZ zaa zab (ys.erase [k24_0,k24_1])=S3 at hk ih
        generalize ze0 zaa zab (ys.erase [k24_0,k24_1])=P3 at hs ih
        have hX3:=ih
        exact (zcu (K := fun r => K (e55 r))
 (fun hs hk=>(hX3 (zdY (((zab.get 0).F) [k24_0,k24_1]) 0) hs hk))
 (fun hs hk => (zcu (K := fun r => K (e55 r))
 (fun hs hk=>(hX3 (zdY (((zab.get 0).F) [k24_0,k24_1]) 0) hs hk))
 (fun hs hk=>(hX3 zaA hs hk)) hs hk)) hs hk)
  exact key _ ys0 [] zaA rfl (fun hf=>zvP hkeys hf) hI hs hk
def zrR (zaa:(Sl Gate)) (zab:(Sl Mp)):((Sl Int)×Int×Int) :=
  (zrP zaa zab (-1:Int))
def zrS (zaa:(Sl Gate)) (zab:(Sl Mp)):Bool :=
  (decide ((0≤(0:Int)∧(0:Int) < (zab.len:Int))) &&
 (zrQ zaa zab (-1:Int)))
theorem zGt (K:List PA→Prop) (zaa:(Sl Gate)) (zab:(Sl Mp)) (zew:Nat→List PV) (zyy:zew=fun i=>zcP (zab.get i)) (hs:zrS zaa zab=true) (hk:K (e55 (zrR zaa zab))):znN (Wk K) zaa zab.len zew:=by
  subst zyy
  refine zay (zGh (Wk K) zaa zab) ?_
  unfold zrS at hs
  unfold zrR at hk
  exact (zaw hs fun hc hs=>⟨hc,(zGs K zaa zab (-1:Int) hs hk)⟩)
def zrT (zaa:(Sl Gate)):((Sl Int)×Int×Int) :=
  (zrR zaa (s93 zaa))
def zrU (zaa:(Sl Gate)):Bool :=
  (decide ((p93 zaa=true)) &&
 (zrS zaa (s93 zaa)))
theorem zGu (K:List PA→Prop) (zaa:(Sl Gate)) (hs:zrU zaa=true) (hk:K (e55 (zrT zaa))):znM (Wk K) zaa:=by
  refine zay (zGg (Wk K) zaa) ?_
  unfold zrU at hs
  unfold zrT at hk
  exact (zaw hs fun hc hs=>⟨⟨isE,hc⟩,(zGt K zaa (s93 zaa) (fun i=>zcP ((s93 zaa).get i)) rfl hs hk)⟩)
def zrV (zaa:(Sl Gate)) (zgt:Bool):((Sl Int)×Int×Int) :=
  (cond zgt
 ((⟨0,fun _=>default⟩:(Sl Int)),(0:Int),(2:Int))
 (zrT zaa))
def zrW (zaa:(Sl Gate)) (zgt:Bool):Bool :=
  (cond zgt
 true
 (zrU zaa))
theorem zGv (K:List PA→Prop) (zaa:(Sl Gate)) (zgt:Bool) (hs:zrW zaa zgt=true) (hk:K (e55 (zrV zaa zgt))):znL (Wk K) zaa zgt:=by
  refine zay (zGf (Wk K) zaa zgt) ?_
  unfold zrW at hs
  unfold zrV at hk
  exact (zcu (K := fun r => K (e55 r))
 (fun hs hk=>(wk hk (zdh (.one (.nil _ _)) (zdh (.one (.rfl _)) (zdh (.one (.rfl _)) zhv)))))
 (fun hs hk=>(zGu K zaa hs hk)) hs hk)
def s55 (zaa:(Sl Gate)):((Sl Int)×Int×Int) :=
  (zrV zaa (!(s92 zaa)))
def p55 (zaa:(Sl Gate)):Bool :=
  (decide ((p92 zaa=true)) &&
 (zrW zaa (!(s92 zaa))))
theorem q55 (zaa:(Sl Gate)) (K:List PA→Prop) (hs:p55 zaa=true) (hk:K (e55 (s55 zaa))):vcFun Try.prog G55 za0 55 [.one (.sl zaa.len 3 (fun i=>enc_55 (zaa.get i)))] (Wk K):=by
  refine zay (zGe zaa (Wk K)) ?_
  unfold p55 at hs
  unfold s55 at hk
  exact (zaw hs fun hc hs=>⟨⟨isE,hc⟩,(zGv K zaa (!(s92 zaa)) hs hk)⟩)
def zGw : List PA → COut
  | [.one (.sl a0_n a0_s a0_g)]=>.det (IsE enc_55 3 a0_s a0_g∧p55 (⟨a0_n,zad a0_g⟩:(Sl Gate))=true) [.one (.sl (((s55 (⟨a0_n,zad a0_g⟩:(Sl Gate))).1).len) 1 (fun i=>zaj (((s55 (⟨a0_n,zad a0_g⟩:(Sl Gate))).1).get i))),.one (.int .i64 ((s55 (⟨a0_n,zad a0_g⟩:(Sl Gate))).2.1)),.one (.int .i64 ((s55 (⟨a0_n,zad a0_g⟩:(Sl Gate))).2.2))]
  | _=>.no
theorem zJ7:zai Try.prog 55:=⟨_,rfl,rfl,by kernel_rfl⟩
theorem zPC:Ok Try.prog 55 zGw:=zhw zMC zJ7 fun args K h=>by
  unfold zGw at h
  split at h
  · rename_i a0_n a0_s a0_g
    obtain ⟨⟨⟨rfl,a0_f,rfl⟩,hs⟩,hk⟩:=h
    try rw [zae a0_f] at hs
    try rw [zae a0_f] at hk
    exact ⟨_,zfj zf2 _,(fun _ _=>[]),(fun _=>false),za0,q55 (⟨a0_n,a0_f⟩:(Sl Gate)) K hs hk⟩
  · exact h.elim
abbrev T62:Tabs:=Tabs.nil
theorem zMD:TabsOk Try.prog T62:=TabsOk.nil
abbrev G62:Ctrs:=csm T62 (fun _ _=>[]) (fun _=>false)
def zJ8:Ann:=⟨5,[(0,zK [] []),(1,zK [0] [4])],
 [],
 [],
 [],[]⟩
abbrev R62:=(Sl Gate)
abbrev e62 (r:R62):List PA:=[.one (.sl r.len 3 (fun i=>enc_55 (r.get i)))]
section
variable {K:List PA→Prop}
def s62:(Sl Gate) :=
  (⟨3,(zhn (⟨(0:Int),(0:Int),(10:Int)⟩:Gate) [(⟨(0:Int),(0:Int),(10:Int)⟩:Gate),(⟨(100:Int),(20:Int),(30:Int)⟩:Gate),(⟨(200:Int),(30:Int),(60:Int)⟩:Gate)])⟩:(Sl Gate))
end
theorem q62 (K:List PA→Prop) (hk:K (e62 (s62))):vcFun Try.prog G62 zJ8 62 [] K :=
  zay (by kernel_rfl) (Eq.mpr (congrArg K (congrArg (fun (g_:Nat→List PV)=>([.one (.sl 3 3 g_)]:List PA)) (zeL (enc:=enc_55) (x:=(⟨(0:Int),(0:Int),(10:Int)⟩:Gate)) (y:=(⟨(100:Int),(20:Int),(30:Int)⟩:Gate)) (r:=[(⟨(200:Int),(30:Int),(60:Int)⟩:Gate)])))) hk)
def zGx : List PA → COut
  | []=>.tot [.one (.sl ((s62).len) 3 (fun i=>enc_55 ((s62).get i)))]
  | _=>.no
theorem zJ9:zai Try.prog 62:=⟨_,rfl,rfl,by kernel_rfl⟩
theorem zPD:Ok Try.prog 62 zGx:=zaN zMD zJ9 fun args K h=>by
  unfold zGx at h
  split at h
  · have hk := h
    exact ⟨(fun _ _=>[]),(fun _=>false),zJ8,q62 K hk⟩
  · exact h.elim
abbrev T63:Tabs:=Tabs.nil
theorem zME:TabsOk Try.prog T63:=TabsOk.nil
abbrev G63:Ctrs:=csm T63 (fun _ _=>[]) (fun _=>false)
def zKa:Ann:=⟨5,[(0,zK [] []),(1,zK [0] [4])],
 [],
 [],
 [],[]⟩
abbrev R63:=(Sl Gate)
abbrev e63 (r:R63):List PA:=[.one (.sl r.len 3 (fun i=>enc_55 (r.get i)))]
section
variable {K:List PA→Prop}
def s63:(Sl Gate) :=
  (⟨3,(zhn (⟨(0:Int),(0:Int),(10:Int)⟩:Gate) [(⟨(0:Int),(0:Int),(10:Int)⟩:Gate),(⟨(100:Int),(20:Int),(30:Int)⟩:Gate),(⟨(200:Int),(0:Int),(9:Int)⟩:Gate)])⟩:(Sl Gate))
end
theorem q63 (K:List PA→Prop) (hk:K (e63 (s63))):vcFun Try.prog G63 zKa 63 [] K :=
  zay (by kernel_rfl) (Eq.mpr (congrArg K (congrArg (fun (g_:Nat→List PV)=>([.one (.sl 3 3 g_)]:List PA)) (zeL (enc:=enc_55) (x:=(⟨(0:Int),(0:Int),(10:Int)⟩:Gate)) (y:=(⟨(100:Int),(20:Int),(30:Int)⟩:Gate)) (r:=[(⟨(200:Int),(0:Int),(9:Int)⟩:Gate)])))) hk)
def zGy : List PA → COut
  | []=>.tot [.one (.sl ((s63).len) 3 (fun i=>enc_55 ((s63).get i)))]
  | _=>.no
theorem zKb:zai Try.prog 63:=⟨_,rfl,rfl,by kernel_rfl⟩
theorem zPE:Ok Try.prog 63 zGy:=zaN zME zKb fun args K h=>by
  unfold zGy at h
  split at h
  · have hk := h
    exact ⟨(fun _ _=>[]),(fun _=>false),zKa,q63 K hk⟩
  · exact h.elim
abbrev T18:Tabs:=((((((((((Tabs.nil.addF 19 zFJ).addF 30 zBD).addF 31 zFW).addF 34 zF0).addF 38 zBG).addF 39 zBH).addF 40 zrh).addF 55 zGw).addF 62 zGx).addF 63 zGy)
theorem zMF:TabsOk Try.prog T18:=((((((((((TabsOk.nil.addF zPp).addF zNU).addF zPy).addF zPz).addF zNV).addF zNW).addF zNX).addF zPC).addF zPD).addF zPE)
abbrev G18:Ctrs:=csm T18 (fun _ _=>[]) (fun _=>false)
def zGz:Ann:=⟨125,[(0,zK [] []),(1,zK [1,2] []),(2,zK [1,2,3,4,5] [3,4]),(3,zK [1,2,3,4,5,6,7] [3,4]),(4,zK [1,2,3,4,5,6,7,8,9,10,11] [3,4,9,10]),(5,zK [1,2,3,4,5,6,7,8,9,10,11,12,13,14] [3,4,9,10]),(6,zK [1,3,4,6,9,10,12,76] [3,4,9,10]),(7,zK [0] []),(8,zK [1,3,4,6,9,10,12,15] [3,4,9,10,89]),(9,zK [0] [])],
 [],
 [(2,zK [1,2] []),(3,zK [1,2,3,4,5] [3,4]),(4,zK [1,2,3,4,5,6,7] [3,4]),(5,zK [1,2,3,4,5,6,7,8,9,10,11] [3,4,9,10]),(6,zK [1,2,3,4,5,6,7,8,9,10,11,12,13,14] [3,4,9,10]),(8,zK [1,3,4,6,9,10,12] [3,4,9,10]),(9,zK [1,3,4,6,9,10,12,15] [3,4,9,10,89])],
 [],[]⟩
abbrev R18:=Bool
abbrev e18 (r:R18):List PA:=[.one (.bool r)]
@[irreducible] def z18:=ptF Try.prog G18 zGz Try.f18
section
variable {K:List PA→Prop} {cv0:(Sl Line)} {ev0:Int} {zKc:Nat→List PV} {fv1:Int} {zbU:Int} {zbV:Int} {zbW:Int} {zbX:Int} {sv2:(Sl Int)} {gv2:Int} {zKd:Nat→List PV} {sv3:(Sl Int)} {zv3:Int} {hv3:Int} {zcY:Int} {zcZ:Int} {zc0:Int} {zc1:Int} {zKe:Nat→List PV} {sv4:(Sl Int)} {lv4:(Sl Int)} {kv4:Int} {iv4:Int} {zKf:Nat→List PV} {zKg:Nat→List PV} {sv5:(Sl Int)} {zKh:Nat→List PV} {sv6:(Sl Int)} {zlN:(Sl Line)} {zKi:Nat→List PV} {zyz:Nat→List PV}
def zyA (cv0:(Sl Line)) (zbU:Int) (zbV:Int) (zbW:Int) (zbX:Int) (zcY:Int) (zcZ:Int) (zc0:Int) (zc1:Int) (lv4:(Sl Int)) (sv6:(Sl Int)) (zlN:(Sl Line)):Bool :=
  (cond (s34 cv0 zlN)
 (cond (match (zbU == (s40 (40:Int) (1:Int)).Num) with | true => (match (zbV == (s40 (40:Int) (1:Int)).Den) with | true => true | false => false) | false => false)
 (cond (match (zbW == (s40 (90:Int) (1:Int)).Num) with | true => (match (zbX == (s40 (90:Int) (1:Int)).Den) with | true => true | false => false) | false => false)
 (cond ((s39 sv6 (⟨3, zbN (zcK [(zaj (0:Int)), (zaj (1:Int)), (zaj (2:Int))])⟩ : (Sl Int))) == (0:Int))
 (cond (match (zcY == (s40 (499:Int) (10:Int)).Num) with | true => (match (zcZ == (s40 (499:Int) (10:Int)).Den) with | true => true | false => false) | false => false)
 (cond (match (zc0 == (s40 (501:Int) (10:Int)).Num) with | true => (match (zc1 == (s40 (501:Int) (10:Int)).Den) with | true => true | false => false) | false => false)
 ((s39 lv4 (⟨3,zbN (zcK [(zaj (2:Int)),(zaj (5:Int)),(zaj (2:Int))])⟩:(Sl Int))) == (0:Int))
 false)
 false)
 false)
 false)
 false)
 false)
def zyB (cv0:(Sl Line)) (zbU:Int) (zbV:Int) (zbW:Int) (zbX:Int) (zcY:Int) (zcZ:Int) (zc0:Int) (zc1:Int) (lv4:(Sl Int)) (sv6:(Sl Int)) (zlN:(Sl Line)):Bool :=
  (decide ((p34 cv0 zlN=true)) &&
 (cond (s34 cv0 zlN)
 (decide ((p40 (40:Int) (1:Int)=true)) &&
 (cond (match (zbU == (s40 (40:Int) (1:Int)).Num) with | true => (match (zbV == (s40 (40:Int) (1:Int)).Den) with | true => true | false => false) | false => false)
 (decide ((p40 (90:Int) (1:Int)=true)) &&
 (cond (match (zbW == (s40 (90:Int) (1:Int)).Num) with | true => (match (zbX == (s40 (90:Int) (1:Int)).Den) with | true => true | false => false) | false => false)
 (decide ((p39 sv6 (⟨3,zbN (zcK [(zaj (0:Int)),(zaj (1:Int)),(zaj (2:Int))])⟩:(Sl Int))=true)) &&
 (cond ((s39 sv6 (⟨3, zbN (zcK [(zaj (0:Int)), (zaj (1:Int)), (zaj (2:Int))])⟩ : (Sl Int))) == (0:Int))
 (decide ((p40 (499:Int) (10:Int)=true)) &&
 (cond (match (zcY == (s40 (499:Int) (10:Int)).Num) with | true => (match (zcZ == (s40 (499:Int) (10:Int)).Den) with | true => true | false => false) | false => false)
 (decide ((p40 (501:Int) (10:Int)=true)) &&
 (cond (match (zc0 == (s40 (501:Int) (10:Int)).Num) with | true => (match (zc1 == (s40 (501:Int) (10:Int)).Den) with | true => true | false => false) | false => false)
 (decide ((p39 lv4 (⟨3,zbN (zcK [(zaj (2:Int)),(zaj (5:Int)),(zaj (2:Int))])⟩:(Sl Int))=true)) &&
 true)
 true))
 true))
 true))
 true))
 true))
 true))
theorem zGA (hs:zyB cv0 zbU zbV zbW zbX zcY zcZ zc0 zc1 lv4 sv6 zlN=true) (hk:K (e18 (zyA cv0 zbU zbV zbW zbX zcY zcZ zc0 zc1 lv4 sv6 zlN))) (zMG:zKi=zg zaj sv6) (zGB:zyz=zg zbY zlN):z18 K [1,1,1,1,1,1,1,1] [] ⟨[(1,zS zbY 4 cv0),(3,zp 3 0),(4,zp 4 0),(6,zP (.sl sv6.len 1 zKi)),(9,zp 9 0),(10,zp 10 0),(12,zS zaj 1 lv4),(15,zv 89)],[(3,.box 25 (zm (zac (⟨zbU,zbV⟩:Frac)))),(4,.box 25 (zm (zac (⟨zbW,zbX⟩:Frac)))),(9,.box 25 (zm (zac (⟨zcY,zcZ⟩:Frac)))),(10,.box 25 (zm (zac (⟨zc0,zc1⟩:Frac)))),(89,.vec 37 4 32 zlN.len zyz)],[]⟩:=by subst zMG;subst zGB;exact zay (by kernel_rfl) (zaw hs fun hc hs=>And.intro (And.intro (zE zbY 4 cv0.get) (And.intro (zE zbY 4 zlN.get) hc)) (zc hs hk (fun hs hk=>(zaw hs fun hc hs=>And.intro hc (zc hs hk (fun hs hk=>(zaw hs fun hc hs=>And.intro hc (zc hs hk (fun hs hk=>(zaw hs fun hc hs=>And.intro (And.intro (zE zaj 1 sv6.get) (And.intro ((zfJ [(2:Int)]):IsE zaj 1 1 (zcK [(zaj (0:Int)),(zaj (1:Int)),(zaj (2:Int))])) hc)) (zc hs hk (fun hs hk=>(zaw hs fun hc hs=>And.intro hc (zc hs hk (fun hs hk=>(zaw hs fun hc hs=>And.intro hc (zc hs hk (fun hs hk=>(zaw hs fun hc hs=>And.intro (And.intro (zE zaj 1 lv4.get) (And.intro ((zfJ [(2:Int)]):IsE zaj 1 1 (zcK [(zaj (2:Int)),(zaj (5:Int)),(zaj (2:Int))])) hc)) hk)) (fun hs hk=>hk)))) (fun hs hk=>hk)))) (fun hs hk=>hk)))) (fun hs hk=>hk)))) (fun hs hk=>hk)))) (fun hs hk=>hk)))
def zyC (cv0:(Sl Line)) (zbU:Int) (zbV:Int) (zbW:Int) (zbX:Int) (zcY:Int) (zcZ:Int) (zc0:Int) (zc1:Int) (lv4:(Sl Int)) (sv5:(Sl Int)):Bool :=
  (zyA cv0 zbU zbV zbW zbX zcY zcZ zc0 zc1 lv4 sv5 (⟨4,(zhn (⟨(s40 (1:Int) (10:Int)),(s40 (10:Int) (1:Int))⟩:Line) [(⟨(s40 (1:Int) (10:Int)),(s40 (10:Int) (1:Int))⟩:Line),(⟨(s40 (1:Int) (5:Int)),(s40 (0:Int) (1:Int))⟩:Line),(⟨(s40 (3:Int) (10:Int)),(s40 (0:Int) (1:Int))⟩:Line),(⟨(s40 (1:Int) (5:Int)),(s40 (10:Int) (1:Int))⟩:Line)])⟩:Sl Line))
def zyD (cv0:(Sl Line)) (zbU:Int) (zbV:Int) (zbW:Int) (zbX:Int) (zcY:Int) (zcZ:Int) (zc0:Int) (zc1:Int) (lv4:(Sl Int)) (sv5:(Sl Int)):Bool :=
  (decide ((p40 (1:Int) (10:Int)=true)) &&
 (decide ((p40 (10:Int) (1:Int)=true)) &&
 (decide ((p40 (1:Int) (5:Int)=true)) &&
 (decide ((p40 (0:Int) (1:Int)=true)) &&
 (decide ((p40 (3:Int) (10:Int)=true)) &&
 (decide ((p40 (0:Int) (1:Int)=true)) &&
 (decide ((p40 (1:Int) (5:Int)=true)) &&
 (decide ((p40 (10:Int) (1:Int)=true)) &&
 (zyB cv0 zbU zbV zbW zbX zcY zcZ zc0 zc1 lv4 sv5 (⟨4,(zhn (⟨(s40 (1:Int) (10:Int)),(s40 (10:Int) (1:Int))⟩:Line) [(⟨(s40 (1:Int) (10:Int)),(s40 (10:Int) (1:Int))⟩:Line),(⟨(s40 (1:Int) (5:Int)),(s40 (0:Int) (1:Int))⟩:Line),(⟨(s40 (3:Int) (10:Int)),(s40 (0:Int) (1:Int))⟩:Line),(⟨(s40 (1:Int) (5:Int)),(s40 (10:Int) (1:Int))⟩:Line)])⟩:Sl Line))))))))))
theorem zGC (hs:zyD cv0 zbU zbV zbW zbX zcY zcZ zc0 zc1 lv4 sv5=true) (hk:K (e18 (zyC cv0 zbU zbV zbW zbX zcY zcZ zc0 zc1 lv4 sv5))) (zMH:zKh=zg zaj sv5):z18 K [1,1,1,1,1,1,1] [] ⟨[(1,zS zbY 4 cv0),(3,zp 3 0),(4,zp 4 0),(6,zP (.sl sv5.len 1 zKh)),(9,zp 9 0),(10,zp 10 0),(12,zS zaj 1 lv4)],[(3,.box 25 (zm (zac (⟨zbU,zbV⟩:Frac)))),(4,.box 25 (zm (zac (⟨zbW,zbX⟩:Frac)))),(9,.box 25 (zm (zac (⟨zcY,zcZ⟩:Frac)))),(10,.box 25 (zm (zac (⟨zc0,zc1⟩:Frac))))],[]⟩:=by subst zMH;exact zay (by kernel_rfl) (zaw hs fun hc hs=>And.intro hc (zaw hs fun hc hs=>And.intro hc (zaw hs fun hc hs=>And.intro hc (zaw hs fun hc hs=>And.intro hc (zaw hs fun hc hs=>And.intro hc (zaw hs fun hc hs=>And.intro hc (zaw hs fun hc hs=>And.intro hc (zaw hs fun hc hs=>And.intro hc (zGA hs hk rfl (zeL (enc:=zbY) (x:=(⟨(s40 (1:Int) (10:Int)),(s40 (10:Int) (1:Int))⟩:Line)) (y:=(⟨(s40 (1:Int) (5:Int)),(s40 (0:Int) (1:Int))⟩:Line)) (r:=[(⟨(s40 (3:Int) (10:Int)),(s40 (0:Int) (1:Int))⟩:Line),(⟨(s40 (1:Int) (5:Int)),(s40 (10:Int) (1:Int))⟩:Line)])))))))))))
def zyE (cv0:(Sl Line)) (ev0:Int) (fv1:Int) (zbU:Int) (zbV:Int) (zbW:Int) (zbX:Int) (gv2:Int) (zv3:Int) (hv3:Int) (zcY:Int) (zcZ:Int) (zc0:Int) (zc1:Int) (sv4:(Sl Int)) (lv4:(Sl Int)) (kv4:Int) (iv4:Int):Bool :=
  (cond (ev0 != (0:Int))
 false
 (cond (fv1 != (0:Int))
 false
 (cond (gv2 != (0:Int))
 false
 (cond (hv3 != (0:Int))
 false
 (cond (iv4 != (0:Int))
 false
 (cond (kv4 != (600:Int))
 false
 (cond (zv3 != (167:Int))
 false
 (zyC cv0 zbU zbV zbW zbX zcY zcZ zc0 zc1 lv4 sv4))))))))
def zyF (cv0:(Sl Line)) (ev0:Int) (fv1:Int) (zbU:Int) (zbV:Int) (zbW:Int) (zbX:Int) (gv2:Int) (zv3:Int) (hv3:Int) (zcY:Int) (zcZ:Int) (zc0:Int) (zc1:Int) (sv4:(Sl Int)) (lv4:(Sl Int)) (kv4:Int) (iv4:Int):Bool :=
  (cond (ev0 != (0:Int))
 true
 (cond (fv1 != (0:Int))
 true
 (cond (gv2 != (0:Int))
 true
 (cond (hv3 != (0:Int))
 true
 (cond (iv4 != (0:Int))
 true
 (cond (kv4 != (600:Int))
 true
 (cond (zv3 != (167:Int))
 true
 (zyD cv0 zbU zbV zbW zbX zcY zcZ zc0 zc1 lv4 sv4))))))))
theorem zGD (hs:zyF cv0 ev0 fv1 zbU zbV zbW zbX gv2 zv3 hv3 zcY zcZ zc0 zc1 sv4 lv4 kv4 iv4=true) (hk:K (e18 (zyE cv0 ev0 fv1 zbU zbV zbW zbX gv2 zv3 hv3 zcY zcZ zc0 zc1 sv4 lv4 kv4 iv4))) (zMI:zKf=zg zaj sv4) (zMJ:zKg=zg zaj lv4):z18 K [1,1,1,1,1,1] [] ⟨[(1,zS zbY 4 cv0),(2,zI ev0),(3,zp 3 0),(4,zp 4 0),(5,zI fv1),(6,zP (.sl sv4.len 1 zKf)),(7,zI gv2),(8,zI zv3),(9,zp 9 0),(10,zp 10 0),(11,zI hv3),(12,zP (.sl lv4.len 1 zKg)),(13,zI kv4),(14,zI iv4)],[(3,.box 25 (zm (zac (⟨zbU,zbV⟩:Frac)))),(4,.box 25 (zm (zac (⟨zbW,zbX⟩:Frac)))),(9,.box 25 (zm (zac (⟨zcY,zcZ⟩:Frac)))),(10,.box 25 (zm (zac (⟨zc0,zc1⟩:Frac))))],[]⟩:=by subst zMI;subst zMJ;exact zay (by kernel_rfl) (zc hs hk (fun hs hk=>hk) (fun hs hk=>(zc hs hk (fun hs hk=>hk) (fun hs hk=>(zc hs hk (fun hs hk=>hk) (fun hs hk=>(zc hs hk (fun hs hk=>hk) (fun hs hk=>(zc hs hk (fun hs hk=>hk) (fun hs hk=>(zc hs hk (fun hs hk=>hk) (fun hs hk=>(zc hs hk (fun hs hk=>hk) (fun hs hk=>(zGC hs hk rfl)))))))))))))))
def zyG (cv0:(Sl Line)) (ev0:Int) (fv1:Int) (zbU:Int) (zbV:Int) (zbW:Int) (zbX:Int) (gv2:Int) (sv3:(Sl Int)) (zv3:Int) (hv3:Int) (zcY:Int) (zcZ:Int) (zc0:Int) (zc1:Int):Bool :=
  (zyE cv0 ev0 fv1 zbU zbV zbW zbX gv2 zv3 hv3 zcY zcZ zc0 zc1 sv3 ((s55 (⟨3,zad (zcK [(enc_55 (⟨(0:Int),(0:Int),(2:Int)⟩:Gate)),(enc_55 (⟨(10:Int),(5:Int),(6:Int)⟩:Gate)),(enc_55 (⟨(20:Int),(0:Int),(2:Int)⟩:Gate))])⟩:(Sl Gate))).1) ((s55 (⟨3,zad (zcK [(enc_55 (⟨(0:Int),(0:Int),(2:Int)⟩:Gate)),(enc_55 (⟨(10:Int),(5:Int),(6:Int)⟩:Gate)),(enc_55 (⟨(20:Int),(0:Int),(2:Int)⟩:Gate))])⟩:(Sl Gate))).2.1) ((s55 (⟨3,zad (zcK [(enc_55 (⟨(0:Int),(0:Int),(2:Int)⟩:Gate)),(enc_55 (⟨(10:Int),(5:Int),(6:Int)⟩:Gate)),(enc_55 (⟨(20:Int),(0:Int),(2:Int)⟩:Gate))])⟩:(Sl Gate))).2.2))
def zyH (cv0:(Sl Line)) (ev0:Int) (fv1:Int) (zbU:Int) (zbV:Int) (zbW:Int) (zbX:Int) (gv2:Int) (sv3:(Sl Int)) (zv3:Int) (hv3:Int) (zcY:Int) (zcZ:Int) (zc0:Int) (zc1:Int):Bool :=
  (decide ((p55 (⟨3,zad (zcK [(enc_55 (⟨(0:Int),(0:Int),(2:Int)⟩:Gate)),(enc_55 (⟨(10:Int),(5:Int),(6:Int)⟩:Gate)),(enc_55 (⟨(20:Int),(0:Int),(2:Int)⟩:Gate))])⟩:(Sl Gate))=true)) &&
 (zyF cv0 ev0 fv1 zbU zbV zbW zbX gv2 zv3 hv3 zcY zcZ zc0 zc1 sv3 ((s55 (⟨3,zad (zcK [(enc_55 (⟨(0:Int),(0:Int),(2:Int)⟩:Gate)),(enc_55 (⟨(10:Int),(5:Int),(6:Int)⟩:Gate)),(enc_55 (⟨(20:Int),(0:Int),(2:Int)⟩:Gate))])⟩:(Sl Gate))).1) ((s55 (⟨3,zad (zcK [(enc_55 (⟨(0:Int),(0:Int),(2:Int)⟩:Gate)),(enc_55 (⟨(10:Int),(5:Int),(6:Int)⟩:Gate)),(enc_55 (⟨(20:Int),(0:Int),(2:Int)⟩:Gate))])⟩:(Sl Gate))).2.1) ((s55 (⟨3,zad (zcK [(enc_55 (⟨(0:Int),(0:Int),(2:Int)⟩:Gate)),(enc_55 (⟨(10:Int),(5:Int),(6:Int)⟩:Gate)),(enc_55 (⟨(20:Int),(0:Int),(2:Int)⟩:Gate))])⟩:(Sl Gate))).2.2)))
theorem zGE (hs:zyH cv0 ev0 fv1 zbU zbV zbW zbX gv2 sv3 zv3 hv3 zcY zcZ zc0 zc1=true) (hk:K (e18 (zyG cv0 ev0 fv1 zbU zbV zbW zbX gv2 sv3 zv3 hv3 zcY zcZ zc0 zc1))) (zMK:zKe=zg zaj sv3):z18 K [1,1,1,1,1] [] ⟨[(1,zS zbY 4 cv0),(2,zI ev0),(3,zp 3 0),(4,zp 4 0),(5,zI fv1),(6,zP (.sl sv3.len 1 zKe)),(7,zI gv2),(8,zI zv3),(9,zp 9 0),(10,zp 10 0),(11,zI hv3)],[(3,.box 25 (zm (zac (⟨zbU,zbV⟩:Frac)))),(4,.box 25 (zm (zac (⟨zbW,zbX⟩:Frac)))),(9,.box 25 (zm (zac (⟨zcY,zcZ⟩:Frac)))),(10,.box 25 (zm (zac (⟨zc0,zc1⟩:Frac))))],[]⟩:=by subst zMK;exact zay (by kernel_rfl) (zaw hs fun hc hs=>And.intro (And.intro ((zfJ [(⟨(20:Int),(0:Int),(2:Int)⟩:Gate)]):IsE enc_55 3 3 (zcK [(enc_55 (⟨(0:Int),(0:Int),(2:Int)⟩:Gate)),(enc_55 (⟨(10:Int),(5:Int),(6:Int)⟩:Gate)),(enc_55 (⟨(20:Int),(0:Int),(2:Int)⟩:Gate))])) hc) (zGD hs hk rfl rfl))
def zyI (cv0:(Sl Line)) (ev0:Int) (fv1:Int) (zbU:Int) (zbV:Int) (zbW:Int) (zbX:Int) (sv2:(Sl Int)) (gv2:Int):Bool :=
  (zyG cv0 ev0 fv1 zbU zbV zbW zbX gv2 sv2 ((s19 s62 (⟨2,zad (zcK [(enc_55 (⟨(0:Int),(100:Int),(110:Int)⟩:Gate)),(enc_55 (⟨(200:Int),(40:Int),(50:Int)⟩:Gate))])⟩:(Sl Gate)) (0:Int) (300:Int)).1) ((s19 s62 (⟨2,zad (zcK [(enc_55 (⟨(0:Int),(100:Int),(110:Int)⟩:Gate)),(enc_55 (⟨(200:Int),(40:Int),(50:Int)⟩:Gate))])⟩:(Sl Gate)) (0:Int) (300:Int)).2.2.2) (((s19 s62 (⟨2,zad (zcK [(enc_55 (⟨(0:Int),(100:Int),(110:Int)⟩:Gate)),(enc_55 (⟨(200:Int),(40:Int),(50:Int)⟩:Gate))])⟩:(Sl Gate)) (0:Int) (300:Int)).2.1).Num) (((s19 s62 (⟨2,zad (zcK [(enc_55 (⟨(0:Int),(100:Int),(110:Int)⟩:Gate)),(enc_55 (⟨(200:Int),(40:Int),(50:Int)⟩:Gate))])⟩:(Sl Gate)) (0:Int) (300:Int)).2.1).Den) (((s19 s62 (⟨2,zad (zcK [(enc_55 (⟨(0:Int),(100:Int),(110:Int)⟩:Gate)),(enc_55 (⟨(200:Int),(40:Int),(50:Int)⟩:Gate))])⟩:(Sl Gate)) (0:Int) (300:Int)).2.2.1).Num) (((s19 s62 (⟨2,zad (zcK [(enc_55 (⟨(0:Int),(100:Int),(110:Int)⟩:Gate)),(enc_55 (⟨(200:Int),(40:Int),(50:Int)⟩:Gate))])⟩:(Sl Gate)) (0:Int) (300:Int)).2.2.1).Den))
def zyJ (cv0:(Sl Line)) (ev0:Int) (fv1:Int) (zbU:Int) (zbV:Int) (zbW:Int) (zbX:Int) (sv2:(Sl Int)) (gv2:Int):Bool :=
  (decide ((p19 s62 (⟨2,zad (zcK [(enc_55 (⟨(0:Int),(100:Int),(110:Int)⟩:Gate)),(enc_55 (⟨(200:Int),(40:Int),(50:Int)⟩:Gate))])⟩:(Sl Gate)) (0:Int) (300:Int)=true)) &&
 (zyH cv0 ev0 fv1 zbU zbV zbW zbX gv2 sv2 ((s19 s62 (⟨2,zad (zcK [(enc_55 (⟨(0:Int),(100:Int),(110:Int)⟩:Gate)),(enc_55 (⟨(200:Int),(40:Int),(50:Int)⟩:Gate))])⟩:(Sl Gate)) (0:Int) (300:Int)).1) ((s19 s62 (⟨2,zad (zcK [(enc_55 (⟨(0:Int),(100:Int),(110:Int)⟩:Gate)),(enc_55 (⟨(200:Int),(40:Int),(50:Int)⟩:Gate))])⟩:(Sl Gate)) (0:Int) (300:Int)).2.2.2) (((s19 s62 (⟨2,zad (zcK [(enc_55 (⟨(0:Int),(100:Int),(110:Int)⟩:Gate)),(enc_55 (⟨(200:Int),(40:Int),(50:Int)⟩:Gate))])⟩:(Sl Gate)) (0:Int) (300:Int)).2.1).Num) (((s19 s62 (⟨2,zad (zcK [(enc_55 (⟨(0:Int),(100:Int),(110:Int)⟩:Gate)),(enc_55 (⟨(200:Int),(40:Int),(50:Int)⟩:Gate))])⟩:(Sl Gate)) (0:Int) (300:Int)).2.1).Den) (((s19 s62 (⟨2,zad (zcK [(enc_55 (⟨(0:Int),(100:Int),(110:Int)⟩:Gate)),(enc_55 (⟨(200:Int),(40:Int),(50:Int)⟩:Gate))])⟩:(Sl Gate)) (0:Int) (300:Int)).2.2.1).Num) (((s19 s62 (⟨2,zad (zcK [(enc_55 (⟨(0:Int),(100:Int),(110:Int)⟩:Gate)),(enc_55 (⟨(200:Int),(40:Int),(50:Int)⟩:Gate))])⟩:(Sl Gate)) (0:Int) (300:Int)).2.2.1).Den)))
theorem zGF (hs:zyJ cv0 ev0 fv1 zbU zbV zbW zbX sv2 gv2=true) (hk:K (e18 (zyI cv0 ev0 fv1 zbU zbV zbW zbX sv2 gv2))) (zML:zKd=zg zaj sv2):z18 K [1,1,1,1] [] ⟨[(1,zS zbY 4 cv0),(2,zI ev0),(3,zp 3 0),(4,zp 4 0),(5,zI fv1),(6,zP (.sl sv2.len 1 zKd)),(7,zI gv2)],[(3,.box 25 (zm (zac (⟨zbU,zbV⟩:Frac)))),(4,.box 25 (zm (zac (⟨zbW,zbX⟩:Frac))))],[]⟩:=by subst zML;exact zay (by kernel_rfl) (zaw hs fun hc hs=>And.intro (And.intro (zE enc_55 3 s62.get) (And.intro ((zfJ []):IsE enc_55 3 3 (zcK [(enc_55 (⟨(0:Int),(100:Int),(110:Int)⟩:Gate)),(enc_55 (⟨(200:Int),(40:Int),(50:Int)⟩:Gate))])) hc)) (zGE hs hk rfl))
def zyK (cv0:(Sl Line)) (ev0:Int) (fv1:Int) (zbU:Int) (zbV:Int) (zbW:Int) (zbX:Int):Bool :=
  (zyI cv0 ev0 fv1 zbU zbV zbW zbX ((s38 s63).1) ((s38 s63).2))
def zyL (cv0:(Sl Line)) (ev0:Int) (fv1:Int) (zbU:Int) (zbV:Int) (zbW:Int) (zbX:Int):Bool :=
  (decide ((p38 s63=true)) &&
 (zyJ cv0 ev0 fv1 zbU zbV zbW zbX ((s38 s63).1) ((s38 s63).2)))
theorem zGG (hs:zyL cv0 ev0 fv1 zbU zbV zbW zbX=true) (hk:K (e18 (zyK cv0 ev0 fv1 zbU zbV zbW zbX))):z18 K [1,1,1] [] ⟨[(1,zS zbY 4 cv0),(2,zI ev0),(3,zp 3 0),(4,zp 4 0),(5,zI fv1)],[(3,.box 25 (zm (zac (⟨zbU,zbV⟩:Frac)))),(4,.box 25 (zm (zac (⟨zbW,zbX⟩:Frac))))],[]⟩:=zay (by kernel_rfl) (zaw hs fun hc hs=>And.intro (And.intro (zE enc_55 3 s63.get) hc) (zGF hs hk rfl))
def zyM (cv0:(Sl Line)) (ev0:Int):Bool :=
  (zyK cv0 ev0 ((s30 s62 (300:Int)).2.2) (((s30 s62 (300:Int)).1).Num) (((s30 s62 (300:Int)).1).Den) (((s30 s62 (300:Int)).2.1).Num) (((s30 s62 (300:Int)).2.1).Den))
def zyN (cv0:(Sl Line)) (ev0:Int):Bool :=
  (decide ((p30 s62 (300:Int)=true)) &&
 (zyL cv0 ev0 ((s30 s62 (300:Int)).2.2) (((s30 s62 (300:Int)).1).Num) (((s30 s62 (300:Int)).1).Den) (((s30 s62 (300:Int)).2.1).Num) (((s30 s62 (300:Int)).2.1).Den)))
theorem zGH (hs:zyN cv0 ev0=true) (hk:K (e18 (zyM cv0 ev0))) (zMM:zKc=zg zbY cv0):z18 K [1,1] [] ⟨[(1,zP (.sl cv0.len 4 zKc)),(2,zI ev0)],[],[]⟩:=by subst zMM;exact zay (by kernel_rfl) (zaw hs fun hc hs=>And.intro (And.intro (zE enc_55 3 s62.get) hc) (zGG hs hk))
def s18:Bool :=
  (zyM ((s31 s62).1) ((s31 s62).2))
def p18:Bool :=
  (decide ((p31 s62=true)) &&
 (zyN ((s31 s62).1) ((s31 s62).2)))
end
theorem q18 (K:List PA→Prop) (hs:p18=true) (hk:K (e18 (s18))):vcFun Try.prog G18 zGz 18 [] K :=
  zay (by kernel_rfl) (zaw hs fun hc hs=>And.intro (And.intro (zE enc_55 3 s62.get) hc) (zGH hs hk rfl))
theorem zKj:p18=true:=by kernel_rfl
theorem zKk:s18=true:=by kernel_rfl
def zGI : List PA → COut
  | []=>.tot [.one (.bool true)]
  | _=>.no
theorem zKl:zai Try.prog 18:=⟨_,rfl,rfl,by kernel_rfl⟩
theorem zPF:Ok Try.prog 18 zGI:=zaN zMF zKl fun args K h=>by
  unfold zGI at h
  split at h
  · refine ⟨fun _ _ => [], fun _ => false, zGz, q18 K zKj ?_⟩
    show K [.one (.bool s18)]
    rw [zKk];exact h
  · exact h.elim
abbrev T70:Tabs:=Tabs.nil
theorem zMN:TabsOk Try.prog T70:=TabsOk.nil
abbrev G70:Ctrs:=csm T70 (fun _ _=>[]) (fun _=>false)
def zKm:Ann:=⟨15,[(0,zK [0,1,2] []),(1,zK [6] [])],
 [],
 [],
 [],[]⟩
abbrev R70:=Bool
abbrev e70 (r:R70):List PA:=[.one (.bool r)]
section
variable {K:List PA→Prop} {n:Int} {low:Int} {high:Int}
def s70 (n:Int) (low:Int) (high:Int):Bool :=
  (cond (decide (n ≥ low))
 (decide (n≤high))
 false)
end
theorem q70 (n:Int) (low:Int) (high:Int) (K:List PA→Prop) (hk:K (e70 (s70 n low high))):vcFun Try.prog G70 zKm 70 [.one (.int .i64 n),.one (.int .i64 low),.one (.int .i64 high)] K :=
  zay (by kernel_rfl) (zt hk (fun hk=>hk) (fun hk=>hk))
def zBS : List PA → COut
  | [.one (.int .i64 a0),.one (.int .i64 a1),.one (.int .i64 a2)]=>.tot [.one (.bool (s70 a0 a1 a2))]
  | _=>.no
theorem zKn:zai Try.prog 70:=⟨_,rfl,rfl,by kernel_rfl⟩
theorem zN4:Ok Try.prog 70 zBS:=zaN zMN zKn fun args K h=>by
  unfold zBS at h
  split at h
  · rename_i a0 a1 a2
    have hk:=h
    exact ⟨(fun _ _=>[]),(fun _=>false),zKm,q70 a0 a1 a2 K hk⟩
  · exact h.elim
abbrev T49:Tabs:=(Tabs.nil.addF 70 zBS)
theorem zMO:TabsOk Try.prog T49:=(TabsOk.nil.addF zN4)
abbrev G49:Ctrs:=csm T49 (fun _ _=>[]) (fun _=>false)
def zKo:Ann:=⟨18,[(0,zK [1] [1]),(1,zK [2] [])],
 [],
 [],
 [],[]⟩
abbrev R49:=Bool
abbrev e49 (r:R49):List PA:=[.one (.bool r)]
section
variable {K:List PA→Prop} {g:Gate}
def s49 (g:Gate):Bool :=
  (cond (s70 g.Z (0:Int) (100000:Int))
 (cond (s70 g.Low (-1000000:Int) g.High)
 (decide (g.High≤(1000000:Int)))
 false)
 false)
end
theorem q49 (g:Gate) (K:List PA→Prop) (hk:K (e49 (s49 g))):vcFun Try.prog G49 zKo 49 [.agg (enc_55 g)] K :=
  zay (by kernel_rfl) (zt hk (fun hk=>(zt hk (fun hk=>hk) (fun hk=>hk))) (fun hk=>hk))
def zGJ : List PA → COut
  | [.agg [.int .i64 a0_Z,.int .i64 a0_Low,.int .i64 a0_High]]=>.tot [.one (.bool (s49 (⟨a0_Z,a0_Low,a0_High⟩:Gate)))]
  | _=>.no
theorem zKp:zai Try.prog 49:=⟨_,rfl,rfl,by kernel_rfl⟩
theorem zPG:Ok Try.prog 49 zGJ:=zaN zMO zKp fun args K h=>by
  unfold zGJ at h
  split at h
  · rename_i a0_Z a0_Low a0_High
    have hk:=h
    exact ⟨(fun _ _=>[]),(fun _=>false),zKo,q49 (⟨a0_Z,a0_Low,a0_High⟩:Gate) K hk⟩
  · exact h.elim
abbrev T20:Tabs:=((Tabs.nil.addF 49 zGJ).addF 70 zBS)
theorem zMP:TabsOk Try.prog T20:=((TabsOk.nil.addF zPG).addF zN4)
abbrev G20:Ctrs:=csm T20 (fun _ _=>[]) (fun _=>false)
def zGK:Ann:=⟨19,[(0,zK [0] []),(1,zK [0,3] []),(2,zK [0,3,7] []),(3,zK [0,3] []),(4,zK [0,3,15] []),(5,zK [2] []),(6,zK [2] [])],
 [(2,zK [0,3] [])],
 [(5,zK [0,3,15] [])],
 [],[]⟩
abbrev R20:=Bool
abbrev e20 (r:R20):List PA:=[.one (.bool r)]
@[irreducible] def z20:=ptF Try.prog G20 zGK Try.f20
def zDi (l_a0:(Sl Gate)) (iv0:Int):St:=⟨[(0,zS enc_55 3 l_a0),(3,zI iv0)],[],[]⟩
abbrev zGL (K:List PA→Prop) (l_a0:(Sl Gate)) (X:St→Prop) (P:Int→Bool) (S:Int→Bool):Prop:=∀ ⦃iv0:Int⦄,P iv0=true→K (e20 (S iv0))→X (zDi l_a0 iv0)
section
variable {K:List PA→Prop} {l_a0:(Sl Gate)} {iv0:Int} {X0:St→Prop} {P0:Int→Bool} {S0:Int→Bool} {iv1:Int} {zrX:Bool}
def zrY (S0:Int→Bool) (l_a0:(Sl Gate)) (iv1:Int) (zrX:Bool):Bool :=
  (cond zrX
 false
 (S0 (w64 (iv1+(1:Int)))))
def zrZ (P0:Int→Bool) (l_a0:(Sl Gate)) (iv1:Int) (zrX:Bool):Bool :=
  (cond zrX
 true
 (P0 (w64 (iv1+(1:Int)))))
theorem zGM (hX0:zGL K l_a0 X0 P0 S0) (hs:zrZ P0 l_a0 iv1 zrX=true) (hk:K (e20 (zrY S0 l_a0 iv1 zrX))):z20 K [1,0,1,0,0,1,0,0,1] [X0] ⟨[(0,zS enc_55 3 l_a0),(3,zI iv1),(15,zB zrX)],[],[]⟩:=zay (by kernel_rfl) (zc hs hk (fun hs hk=>hk) (fun hs hk=>(hX0 hs hk)))
def zh9 (l_a0:(Sl Gate)) (S0:Int→Bool) (iv0:Int):Bool :=
  (cond (decide (iv0 < (l_a0.len : Int)))
 (zrY S0 l_a0 iv0 (!(s49 (l_a0.get iv0.toNat))))
 (s70 (l_a0.len:Int) (1:Int) (24:Int)))
def zia (l_a0:(Sl Gate)) (P0:Int→Bool) (iv0:Int):Bool :=
  (cond (decide (iv0 < (l_a0.len : Int)))
 (decide ((0≤iv0∧iv0 < (l_a0.len:Int))) &&
 (zrZ P0 l_a0 iv0 (!(s49 (l_a0.get iv0.toNat)))))
 true)
def zib (l_a0:(Sl Gate)):Nat→Int→Bool:=lpO (fun _=>default) (zh9 l_a0)
def zic (l_a0:(Sl Gate)):Nat→Int→Bool:=lpO (fun _=>false) (zia l_a0)
def zyO (l_a0:(Sl Gate)) (iv0:Int):Bool:=zib l_a0 Fuel iv0
def zyP (l_a0:(Sl Gate)) (iv0:Int):Bool:=zic l_a0 Fuel iv0
theorem zGN (hs:zyP l_a0 iv0=true) (hk:K (e20 (zyO l_a0 iv0))):z20 K [1,0,1,0] [] (zDi l_a0 iv0) :=
  zl (fun X=>z20 K [1,0,1,0,0] [X]) (by kernel_rfl) fun X0 hX =>
  (show ∀ k, zGL K l_a0 X0 (zic l_a0 k) (zib l_a0 k) from zgX _ _ (zia l_a0) (zh9 l_a0) (zGL K l_a0 X0)
 (by intro _ hs;exact absurd hs Bool.false_ne_true)
 (by intro P0 S0 hX0 iv0 hs hk;exact hX _ (zay (by kernel_rfl) (zc hs hk (fun hs hk=>(zaw hs fun hc hs=>And.intro hc (zGM hX0 hs hk))) (fun hs hk=>hk))))) _ hs hk
def s20 (l_a0:(Sl Gate)):Bool :=
  (zyO l_a0 (0:Int))
def p20 (l_a0:(Sl Gate)):Bool :=
  (zyP l_a0 (0:Int))
end
theorem q20 (l_a0:(Sl Gate)) (K:List PA→Prop) (hs:p20 l_a0=true) (hk:K (e20 (s20 l_a0))):vcFun Try.prog G20 zGK 20 [.one (.sl l_a0.len 3 (fun i=>enc_55 (l_a0.get i)))] K :=
  zay (by kernel_rfl) (zGN hs hk)
def zGO : List PA → COut
  | [.one (.sl a0_n a0_s a0_g)]=>.det (IsE enc_55 3 a0_s a0_g∧p20 (⟨a0_n,zad a0_g⟩:(Sl Gate))=true) [.one (.bool (s20 (⟨a0_n,zad a0_g⟩:(Sl Gate))))]
  | _=>.no
theorem zKq:zai Try.prog 20:=⟨_,rfl,rfl,by kernel_rfl⟩
theorem zPH:Ok Try.prog 20 zGO:=zaN zMP zKq fun args K h=>by
  unfold zGO at h
  split at h
  · rename_i a0_n a0_s a0_g
    obtain ⟨⟨⟨rfl,a0_f,rfl⟩,hs⟩,hk⟩:=h
    try rw [zae a0_f] at hs
    try rw [zae a0_f] at hk
    exact ⟨(fun _ _=>[]),(fun _=>false),zGK,q20 (⟨a0_n,a0_f⟩:(Sl Gate)) K hs hk⟩
  · exact h.elim
abbrev T35:Tabs:=((Tabs.nil.addF 75 zuC).addF 82 zBv)
theorem zMQ:TabsOk Try.prog T35:=((TabsOk.nil.addF zMk).addF zNK)
abbrev G35:Ctrs:=csm T35 (fun _ _=>[]) (fun _=>false)
def zGP:Ann:=⟨26,[(0,zK [0,2,3] [2,3]),(1,zK [2,3,5,6] [2,3,5]),(2,zK [2,3,5,6,15] [2,3,5]),(3,zK [2,3,4] [2,3]),(4,zK [2,3,7,8] [2,3,7,8]),(5,zK [2,3,4] [2,3])],
 [],
 [(4,zK [2,3,5] [2,3,5])],
 [],[]⟩
abbrev R35:=(Frac×Frac×Int)
abbrev e35 (r:R35):List PA:=[.agg [.int .i64 r.1.Num,.int .i64 r.1.Den],.agg [.int .i64 r.2.1.Num,.int .i64 r.2.1.Den],.one (.int .i64 r.2.2)]
@[irreducible] def z35:=ptF Try.prog G35 zGP Try.f35
section
variable {K:List PA→Prop} {zaa:(Sl Gate)} {zeV:(Sl Gate)} {zeW:(Sl straight)} {zj8:Nat→List PV} {zj9:Nat→List PV}
def zr0 (zeV:(Sl Gate)) (zeW:(Sl straight)):(Frac×Frac×Int) :=
  (((zuy (⟨(⟨zeV⟩:list),zeW⟩:set)).1),((zuy (⟨(⟨zeV⟩:list),zeW⟩:set)).2),(0:Int))
def zr1 (zeV:(Sl Gate)) (zeW:(Sl straight)):Bool :=
  (decide ((zHW (⟨(⟨zeV⟩:list),zeW⟩:set)=true)) &&
 true)
theorem zGQ (hs:zr1 zeV zeW=true) (hk:K (e35 (zr0 zeV zeW))) (zrt:zj8=zg enc_55 zeV) (zru:zj9=zg zaf zeW):z35 K [1,1,1] [] ⟨[(2,zp 2 0),(3,zp 3 0),(5,zp 5 0)],[(2,.box 25 (zm (zac (⟨(0:Int),(0:Int)⟩:Frac)))),(3,.box 25 (zm (zac (⟨(0:Int),(0:Int)⟩:Frac)))),(5,.box 104 [.p (.sl zeV.len 3 zj8),.p (.sl zeW.len 3 zj9)])],[]⟩:=by subst zrt;subst zru;exact zay (by kernel_rfl) (zaw hs fun hc hs=>And.intro (And.intro (zE enc_55 3 zeV.get) (And.intro (zE zaf 3 zeW.get) hc)) hk)
def s35 (zaa:(Sl Gate)):(Frac×Frac×Int) :=
  (cond (((s75 zaa).2) != (0:Int))
 ((⟨(0:Int),(0:Int)⟩:Frac),(⟨(0:Int),(0:Int)⟩:Frac),((s75 zaa).2))
 (zr0 (((s75 zaa).1).list.Gates) (((s75 zaa).1).corners)))
def p35 (zaa:(Sl Gate)):Bool :=
  (decide ((p75 zaa=true)) &&
 (cond (((s75 zaa).2) != (0:Int))
 true
 (zr1 (((s75 zaa).1).list.Gates) (((s75 zaa).1).corners))))
end
theorem q35 (zaa:(Sl Gate)) (K:List PA→Prop) (hs:p35 zaa=true) (hk:K (e35 (s35 zaa))):vcFun Try.prog G35 zGP 35 [.one (.sl zaa.len 3 (fun i=>enc_55 (zaa.get i)))] K :=
  zay (by kernel_rfl) (zaw hs fun hc hs=>And.intro (And.intro (zE enc_55 3 zaa.get) hc) (zc hs hk (fun hs hk=>hk) (fun hs hk=>(zGQ hs hk rfl rfl))))
def zGR : List PA → COut
  | [.one (.sl a0_n a0_s a0_g)]=>.det (IsE enc_55 3 a0_s a0_g∧p35 (⟨a0_n,zad a0_g⟩:(Sl Gate))=true) [.agg [.int .i64 (((s35 (⟨a0_n,zad a0_g⟩:(Sl Gate))).1).Num),.int .i64 (((s35 (⟨a0_n,zad a0_g⟩:(Sl Gate))).1).Den)],.agg [.int .i64 (((s35 (⟨a0_n,zad a0_g⟩:(Sl Gate))).2.1).Num),.int .i64 (((s35 (⟨a0_n,zad a0_g⟩:(Sl Gate))).2.1).Den)],.one (.int .i64 ((s35 (⟨a0_n,zad a0_g⟩:(Sl Gate))).2.2))]
  | _=>.no
theorem zKr:zai Try.prog 35:=⟨_,rfl,rfl,by kernel_rfl⟩
theorem zPI:Ok Try.prog 35 zGR:=zaN zMQ zKr fun args K h=>by
  unfold zGR at h
  split at h
  · rename_i a0_n a0_s a0_g
    obtain ⟨⟨⟨rfl,a0_f,rfl⟩,hs⟩,hk⟩:=h
    try rw [zae a0_f] at hs
    try rw [zae a0_f] at hk
    exact ⟨(fun _ _=>[]),(fun _=>false),zGP,q35 (⟨a0_n,a0_f⟩:(Sl Gate)) K hs hk⟩
  · exact h.elim
abbrev T7:Tabs:=(((((((Tabs.nil.addF 18 zGI).addF 20 zGO).addF 30 zBD).addF 35 zGR).addF 38 zBG).addF 39 zBH).addF 40 zrh)
theorem zPJ:TabsOk Try.prog T7:=(((((((TabsOk.nil.addF zPF).addF zPH).addF zNU).addF zPI).addF zNV).addF zNW).addF zNX)
abbrev G7:Ctrs:=csm T7 (fun _ _=>[]) (fun _=>false)
def zMR:Ann:=⟨227,[(0,zK [0,1,2,3] []),(1,zK [0,1,2,3,59] []),(2,zK [8] []),(3,zK [0,1,2,3,9] []),(4,zK [0,1,2,3,9,10] []),(5,zK [0,1,2,3,9,10,64] [94]),(6,zK [0,1,2,3,9,10] [94]),(7,zK [0,1,2,3,9,10,11] [11,94]),(8,zK [0,1,2,3,9,10,11] [11,94]),(9,zK [0,1,2,3,9,10] [94]),(10,zK [0,1,2,3,9,97] [94]),(11,zK [8] []),(12,zK [0,1,2,3,9,12,13,14] [12,13,94]),(13,zK [0,1,2,3,9,12,13,14,15,16,17] [12,13,15,16,94]),(14,zK [0,1,2,3,9,12,13,14,15,16,17,18,19,20] [12,13,15,16,18,19,94]),(15,zK [0,1,2,3,9,12,13,14,15,16,17,18,19,20,21,22,23] [12,13,15,16,18,19,21,22,94]),(16,zK [1,2,3,9,12,13,14,15,16,17,18,19,20,21,22,23,24,25] [12,13,15,16,18,19,21,22,94]),(17,zK [1,2,3,12,13,14,15,16,17,18,19,20,21,22,23,24,25,26,27] [12,13,15,16,18,19,21,22]),(18,zK [1,2,3,12,13,14,15,16,18,19,20,21,22,153] [12,13,15,16,18,19,21,22]),(19,zK [8] []),(20,zK [2,18,19,20,21,22,193] [18,19,21,22]),(21,zK [8] []),(22,zK [225] []),(23,zK [8] []),(24,zK [8] [])],
 [(5,⟨[0,1,2,3,9,10],[94],[(9,94,55,fun _=>enc_55 default)],[],[],[],[]⟩)],
 [(2,zK [0,1,2,3,59] []),(3,zK [0,1,2,3] []),(10,zK [0,1,2,3,9] [94]),(11,zK [0,1,2,3,9,97] [94]),(12,zK [0,1,2,3,9] [94]),(13,zK [0,1,2,3,9,12,13,14] [12,13,94]),(14,zK [0,1,2,3,9,12,13,14,15,16,17] [12,13,15,16,94]),(15,zK [0,1,2,3,9,12,13,14,15,16,17,18,19,20] [12,13,15,16,18,19,94]),(16,zK [0,1,2,3,9,12,13,14,15,16,17,18,19,20,21,22,23] [12,13,15,16,18,19,21,22,94]),(17,zK [1,2,3,9,12,13,14,15,16,17,18,19,20,21,22,23,24,25] [12,13,15,16,18,19,21,22,94]),(18,zK [1,2,3,12,13,14,15,16,17,18,19,20,21,22,23,24,25,26,27] [12,13,15,16,18,19,21,22]),(19,zK [1,2,3,12,13,14,15,16,18,19,20,21,22,153] [12,13,15,16,18,19,21,22]),(20,zK [1,2,3,12,13,14,15,16,18,19,20,21,22] [12,13,15,16,18,19,21,22]),(21,zK [2,18,19,20,21,22,193] [18,19,21,22]),(22,zK [2,18,19,20,21,22] [18,19,21,22]),(23,zK [225] [])],
 [],[]⟩
abbrev R7:=Bool
abbrev e7 (r:R7):List PA:=[.one (.bool r)]
@[irreducible] def z7:=ptF Try.prog G7 zMR Try.f7
def zKs (zaa:(Sl Gate)) (by_a1:Int) (turn:Int) (z:Int) (iv2:Int) (zcV:(Sl Gate)) (zfB:Nat→List PV):St:=⟨[(0,zS enc_55 3 zaa),(1,zI by_a1),(2,zI turn),(3,zI z),(9,zv 94),(10,zI iv2)],[(94,.vec 55 3 24 zcV.len zfB)],[]⟩
abbrev zN5 (K:List PA→Prop) (zaa:(Sl Gate)) (by_a1:Int) (turn:Int) (z:Int) (X:St→Prop) (P:Int→(Sl Gate)→Bool) (S:Int→(Sl Gate)→Bool):Prop:=∀ ⦃iv2:Int⦄ ⦃zcV:(Sl Gate)⦄ ⦃zfB:Nat→List PV⦄,P iv2 zcV=true→K (e7 (S iv2 zcV))→zfB=zg enc_55 zcV→X (zKs zaa by_a1 turn z iv2 zcV zfB)
section
variable {K:List PA→Prop} {zaa:(Sl Gate)} {by_a1:Int} {turn:Int} {z:Int} {zr2:Bool} {iv2:Int} {zcV:(Sl Gate)} {zfB:Nat→List PV} {X2:St→Prop} {P2:Int→(Sl Gate)→Bool} {S2:Int→(Sl Gate)→Bool} {ziH:(Sl Gate)} {zyQ:Nat→List PV} {zr3:Bool} {zpt:(Sl Gate)} {zyR:Nat→List PV} {zpu:(Sl Gate)} {zyS:Nat→List PV} {ev6:Int} {zaT:Int} {zaH:Int} {zaV:Int} {zaJ:Int} {zex:(Sl Gate)} {zyT:Nat→List PV} {fv7:Int} {zbp:Int} {zbq:Int} {zbr:Int} {zbs:Int} {zpv:(Sl Gate)} {zyU:Nat→List PV} {gv8:Int} {zaY:Int} {zaM:Int} {za1:Int} {zaU:Int} {zey:(Sl Gate)} {zyV:Nat→List PV} {hv9:Int} {zbd:Int} {zbe:Int} {zbf:Int} {zbg:Int} {zpw:(Sl Gate)} {zyW:Nat→List PV} {zpx:(Sl Int)} {zeg:Int} {ze6:(Sl Gate)} {zDj:Nat→List PV} {zty:Nat→List PV} {zAn:(Sl Int)} {zGS:Int} {zDk:Nat→List PV} {zgv:Bool} {zgw:Bool} {znU:Bool}
def zks (znU:Bool):Bool :=
  (cond znU
 false
 true)
theorem zr4 (hk:K (e7 (zks znU))):z7 K [1,1,1,1,1,1,1,1,1,1,1,1,1,0,1] [] ⟨[(225,zB znU)],[],[]⟩:=zay (by kernel_rfl) (zt hk (fun hk=>hk) (fun hk=>hk))
def znV (turn:Int) (gv8:Int) (zaY:Int) (zaM:Int) (za1:Int) (zaU:Int) (zbd:Int) (zbe:Int) (zbf:Int) (zbg:Int):Bool :=
  (cond (gv8 == (0:Int))
 (cond (!(match (zbd == (s40 (w64 (zaY + (w64 (turn * zaM)))) (if zaM > (1:Int) then zaM else (1:Int))).Num) with | true => (match (zbe == (s40 (w64 (zaY + (w64 (turn * zaM)))) (if zaM > (1:Int) then zaM else (1:Int))).Den) with | true => true | false => false) | false => false))
 (zks true)
 (zks (!(match (zbf == (s40 (w64 (za1+(w64 (turn * zaU)))) (if zaU > (1:Int) then zaU else (1:Int))).Num) with | true=>(match (zbg == (s40 (w64 (za1+(w64 (turn * zaU)))) (if zaU > (1:Int) then zaU else (1:Int))).Den) with | true=>true | false=>false) | false=>false))))
 (zks false))
def znW (turn:Int) (gv8:Int) (zaY:Int) (zaM:Int) (za1:Int) (zaU:Int) (zbd:Int) (zbe:Int) (zbf:Int) (zbg:Int):Bool :=
  (cond (gv8 == (0:Int))
 (decide ((p40 (w64 (zaY+(w64 (turn * zaM)))) (if zaM > (1:Int) then zaM else (1:Int))=true)) &&
 (cond (!(match (zbd == (s40 (w64 (zaY + (w64 (turn * zaM)))) (if zaM > (1:Int) then zaM else (1:Int))).Num) with | true => (match (zbe == (s40 (w64 (zaY + (w64 (turn * zaM)))) (if zaM > (1:Int) then zaM else (1:Int))).Den) with | true => true | false => false) | false => false))
 true
 (decide ((p40 (w64 (za1+(w64 (turn * zaU)))) (if zaU > (1:Int) then zaU else (1:Int))=true)) &&
 true)))
 true)
theorem zGT (hs:znW turn gv8 zaY zaM za1 zaU zbd zbe zbf zbg=true) (hk:K (e7 (znV turn gv8 zaY zaM za1 zaU zbd zbe zbf zbg))):z7 K [1,1,1,1,1,1,1,1,1,1,1,1,1] [] ⟨[(2,zI turn),(18,zp 18 0),(19,zp 19 0),(20,zI gv8),(21,zp 21 0),(22,zp 22 0)],[(18,.box 25 (zm (zac (⟨zaY,zaM⟩:Frac)))),(19,.box 25 (zm (zac (⟨za1,zaU⟩:Frac)))),(21,.box 25 (zm (zac (⟨zbd,zbe⟩:Frac)))),(22,.box 25 (zm (zac (⟨zbf,zbg⟩:Frac))))],[]⟩:=zay (by kernel_rfl) (zc hs hk (fun hs hk=>(zaw hs fun hc hs=>And.intro hc (zc hs hk (fun hs hk=>(zr4 hk)) (fun hs hk=>(zaw hs fun hc hs=>And.intro hc (zr4 hk)))))) (fun hs hk=>(zr4 hk)))
def zkt (turn:Int) (gv8:Int) (zaY:Int) (zaM:Int) (za1:Int) (zaU:Int) (zbd:Int) (zbe:Int) (zbf:Int) (zbg:Int) (zgw:Bool):Bool :=
  (cond zgw
 false
 (znV turn gv8 zaY zaM za1 zaU zbd zbe zbf zbg))
def zku (turn:Int) (gv8:Int) (zaY:Int) (zaM:Int) (za1:Int) (zaU:Int) (zbd:Int) (zbe:Int) (zbf:Int) (zbg:Int) (zgw:Bool):Bool :=
  (cond zgw
 true
 (znW turn gv8 zaY zaM za1 zaU zbd zbe zbf zbg))
theorem zr5 (hs:zku turn gv8 zaY zaM za1 zaU zbd zbe zbf zbg zgw=true) (hk:K (e7 (zkt turn gv8 zaY zaM za1 zaU zbd zbe zbf zbg zgw))):z7 K [1,1,1,1,1,1,1,1,1,1,1,1,0,1] [] ⟨[(2,zI turn),(18,zp 18 0),(19,zp 19 0),(20,zI gv8),(21,zp 21 0),(22,zp 22 0),(193,zB zgw)],[(18,.box 25 (zm (zac (⟨zaY,zaM⟩:Frac)))),(19,.box 25 (zm (zac (⟨za1,zaU⟩:Frac)))),(21,.box 25 (zm (zac (⟨zbd,zbe⟩:Frac)))),(22,.box 25 (zm (zac (⟨zbf,zbg⟩:Frac))))],[]⟩:=zay (by kernel_rfl) (zc hs hk (fun hs hk=>hk) (fun hs hk=>(zGT hs hk)))
def znX (by_a1:Int) (turn:Int) (z:Int) (ev6:Int) (zaT:Int) (zaH:Int) (zaV:Int) (zaJ:Int) (zbp:Int) (zbq:Int) (zbr:Int) (zbs:Int) (gv8:Int) (zaY:Int) (zaM:Int) (za1:Int) (zaU:Int) (zbd:Int) (zbe:Int) (zbf:Int) (zbg:Int):Bool :=
  (cond (ev6 == (0:Int))
 (cond (!(match (zbp == (s40 (w64 (zaT + (w64 ((w64 (by_a1 + (w64 (turn * z)))) * zaH)))) (if zaH > (1:Int) then zaH else (1:Int))).Num) with | true => (match (zbq == (s40 (w64 (zaT + (w64 ((w64 (by_a1 + (w64 (turn * z)))) * zaH)))) (if zaH > (1:Int) then zaH else (1:Int))).Den) with | true => true | false => false) | false => false))
 (zkt turn gv8 zaY zaM za1 zaU zbd zbe zbf zbg true)
 (zkt turn gv8 zaY zaM za1 zaU zbd zbe zbf zbg (!(match (zbr == (s40 (w64 (zaV+(w64 ((w64 (by_a1+(w64 (turn * z)))) * zaJ)))) (if zaJ > (1:Int) then zaJ else (1:Int))).Num) with | true=>(match (zbs == (s40 (w64 (zaV+(w64 ((w64 (by_a1+(w64 (turn * z)))) * zaJ)))) (if zaJ > (1:Int) then zaJ else (1:Int))).Den) with | true=>true | false=>false) | false=>false))))
 (zkt turn gv8 zaY zaM za1 zaU zbd zbe zbf zbg false))
def znY (by_a1:Int) (turn:Int) (z:Int) (ev6:Int) (zaT:Int) (zaH:Int) (zaV:Int) (zaJ:Int) (zbp:Int) (zbq:Int) (zbr:Int) (zbs:Int) (gv8:Int) (zaY:Int) (zaM:Int) (za1:Int) (zaU:Int) (zbd:Int) (zbe:Int) (zbf:Int) (zbg:Int):Bool :=
  (cond (ev6 == (0:Int))
 (decide ((p40 (w64 (zaT+(w64 ((w64 (by_a1+(w64 (turn * z)))) * zaH)))) (if zaH > (1:Int) then zaH else (1:Int))=true)) &&
 (cond (!(match (zbp == (s40 (w64 (zaT + (w64 ((w64 (by_a1 + (w64 (turn * z)))) * zaH)))) (if zaH > (1:Int) then zaH else (1:Int))).Num) with | true => (match (zbq == (s40 (w64 (zaT + (w64 ((w64 (by_a1 + (w64 (turn * z)))) * zaH)))) (if zaH > (1:Int) then zaH else (1:Int))).Den) with | true => true | false => false) | false => false))
 (zku turn gv8 zaY zaM za1 zaU zbd zbe zbf zbg true)
 (decide ((p40 (w64 (zaV+(w64 ((w64 (by_a1+(w64 (turn * z)))) * zaJ)))) (if zaJ > (1:Int) then zaJ else (1:Int))=true)) &&
 (zku turn gv8 zaY zaM za1 zaU zbd zbe zbf zbg (!(match (zbr == (s40 (w64 (zaV+(w64 ((w64 (by_a1+(w64 (turn * z)))) * zaJ)))) (if zaJ > (1:Int) then zaJ else (1:Int))).Num) with | true=>(match (zbs == (s40 (w64 (zaV+(w64 ((w64 (by_a1+(w64 (turn * z)))) * zaJ)))) (if zaJ > (1:Int) then zaJ else (1:Int))).Den) with | true=>true | false=>false) | false=>false))))))
 (zku turn gv8 zaY zaM za1 zaU zbd zbe zbf zbg false))
theorem zGU (hs:znY by_a1 turn z ev6 zaT zaH zaV zaJ zbp zbq zbr zbs gv8 zaY zaM za1 zaU zbd zbe zbf zbg=true) (hk:K (e7 (znX by_a1 turn z ev6 zaT zaH zaV zaJ zbp zbq zbr zbs gv8 zaY zaM za1 zaU zbd zbe zbf zbg))):z7 K [1,1,1,1,1,1,1,1,1,1,1,1] [] ⟨[(1,zI by_a1),(2,zI turn),(3,zI z),(12,zp 12 0),(13,zp 13 0),(14,zI ev6),(15,zp 15 0),(16,zp 16 0),(18,zp 18 0),(19,zp 19 0),(20,zI gv8),(21,zp 21 0),(22,zp 22 0)],[(12,.box 25 (zm (zac (⟨zaT,zaH⟩:Frac)))),(13,.box 25 (zm (zac (⟨zaV,zaJ⟩:Frac)))),(15,.box 25 (zm (zac (⟨zbp,zbq⟩:Frac)))),(16,.box 25 (zm (zac (⟨zbr,zbs⟩:Frac)))),(18,.box 25 (zm (zac (⟨zaY,zaM⟩:Frac)))),(19,.box 25 (zm (zac (⟨za1,zaU⟩:Frac)))),(21,.box 25 (zm (zac (⟨zbd,zbe⟩:Frac)))),(22,.box 25 (zm (zac (⟨zbf,zbg⟩:Frac))))],[]⟩:=zay (by kernel_rfl) (zc hs hk (fun hs hk=>(zaw hs fun hc hs=>And.intro hc (zc hs hk (fun hs hk=>(zr5 hs hk)) (fun hs hk=>(zaw hs fun hc hs=>And.intro hc (zr5 hs hk)))))) (fun hs hk=>(zr5 hs hk)))
def zid (by_a1:Int) (turn:Int) (z:Int) (ev6:Int) (zaT:Int) (zaH:Int) (zaV:Int) (zaJ:Int) (zbp:Int) (zbq:Int) (zbr:Int) (zbs:Int) (gv8:Int) (zaY:Int) (zaM:Int) (za1:Int) (zaU:Int) (zbd:Int) (zbe:Int) (zbf:Int) (zbg:Int) (zgv:Bool):Bool :=
  (cond zgv
 false
 (znX by_a1 turn z ev6 zaT zaH zaV zaJ zbp zbq zbr zbs gv8 zaY zaM za1 zaU zbd zbe zbf zbg))
def zie (by_a1:Int) (turn:Int) (z:Int) (ev6:Int) (zaT:Int) (zaH:Int) (zaV:Int) (zaJ:Int) (zbp:Int) (zbq:Int) (zbr:Int) (zbs:Int) (gv8:Int) (zaY:Int) (zaM:Int) (za1:Int) (zaU:Int) (zbd:Int) (zbe:Int) (zbf:Int) (zbg:Int) (zgv:Bool):Bool :=
  (cond zgv
 true
 (znY by_a1 turn z ev6 zaT zaH zaV zaJ zbp zbq zbr zbs gv8 zaY zaM za1 zaU zbd zbe zbf zbg))
theorem znZ (hs:zie by_a1 turn z ev6 zaT zaH zaV zaJ zbp zbq zbr zbs gv8 zaY zaM za1 zaU zbd zbe zbf zbg zgv=true) (hk:K (e7 (zid by_a1 turn z ev6 zaT zaH zaV zaJ zbp zbq zbr zbs gv8 zaY zaM za1 zaU zbd zbe zbf zbg zgv))):z7 K [1,1,1,1,1,1,1,1,1,1,1,0,1] [] ⟨[(1,zI by_a1),(2,zI turn),(3,zI z),(12,zp 12 0),(13,zp 13 0),(14,zI ev6),(15,zp 15 0),(16,zp 16 0),(18,zp 18 0),(19,zp 19 0),(20,zI gv8),(21,zp 21 0),(22,zp 22 0),(153,zB zgv)],[(12,.box 25 (zm (zac (⟨zaT,zaH⟩:Frac)))),(13,.box 25 (zm (zac (⟨zaV,zaJ⟩:Frac)))),(15,.box 25 (zm (zac (⟨zbp,zbq⟩:Frac)))),(16,.box 25 (zm (zac (⟨zbr,zbs⟩:Frac)))),(18,.box 25 (zm (zac (⟨zaY,zaM⟩:Frac)))),(19,.box 25 (zm (zac (⟨za1,zaU⟩:Frac)))),(21,.box 25 (zm (zac (⟨zbd,zbe⟩:Frac)))),(22,.box 25 (zm (zac (⟨zbf,zbg⟩:Frac))))],[]⟩:=zay (by kernel_rfl) (zc hs hk (fun hs hk=>hk) (fun hs hk=>(zGU hs hk)))
def zr6 (by_a1:Int) (turn:Int) (z:Int) (ev6:Int) (zaT:Int) (zaH:Int) (zaV:Int) (zaJ:Int) (fv7:Int) (zbp:Int) (zbq:Int) (zbr:Int) (zbs:Int) (gv8:Int) (zaY:Int) (zaM:Int) (za1:Int) (zaU:Int) (hv9:Int) (zbd:Int) (zbe:Int) (zbf:Int) (zbg:Int) (zpx:(Sl Int)) (zeg:Int) (zAn:(Sl Int)) (zGS:Int):Bool :=
  (cond (ev6 != fv7)
 (zid by_a1 turn z ev6 zaT zaH zaV zaJ zbp zbq zbr zbs gv8 zaY zaM za1 zaU zbd zbe zbf zbg true)
 (cond (gv8 != hv9)
 (zid by_a1 turn z ev6 zaT zaH zaV zaJ zbp zbq zbr zbs gv8 zaY zaM za1 zaU zbd zbe zbf zbg true)
 (cond (zeg != zGS)
 (zid by_a1 turn z ev6 zaT zaH zaV zaJ zbp zbq zbr zbs gv8 zaY zaM za1 zaU zbd zbe zbf zbg true)
 (zid by_a1 turn z ev6 zaT zaH zaV zaJ zbp zbq zbr zbs gv8 zaY zaM za1 zaU zbd zbe zbf zbg ((s39 zpx zAn) != (0:Int))))))
def zr7 (by_a1:Int) (turn:Int) (z:Int) (ev6:Int) (zaT:Int) (zaH:Int) (zaV:Int) (zaJ:Int) (fv7:Int) (zbp:Int) (zbq:Int) (zbr:Int) (zbs:Int) (gv8:Int) (zaY:Int) (zaM:Int) (za1:Int) (zaU:Int) (hv9:Int) (zbd:Int) (zbe:Int) (zbf:Int) (zbg:Int) (zpx:(Sl Int)) (zeg:Int) (zAn:(Sl Int)) (zGS:Int):Bool :=
  (cond (ev6 != fv7)
 (zie by_a1 turn z ev6 zaT zaH zaV zaJ zbp zbq zbr zbs gv8 zaY zaM za1 zaU zbd zbe zbf zbg true)
 (cond (gv8 != hv9)
 (zie by_a1 turn z ev6 zaT zaH zaV zaJ zbp zbq zbr zbs gv8 zaY zaM za1 zaU zbd zbe zbf zbg true)
 (cond (zeg != zGS)
 (zie by_a1 turn z ev6 zaT zaH zaV zaJ zbp zbq zbr zbs gv8 zaY zaM za1 zaU zbd zbe zbf zbg true)
 (decide ((p39 zpx zAn=true)) &&
 (zie by_a1 turn z ev6 zaT zaH zaV zaJ zbp zbq zbr zbs gv8 zaY zaM za1 zaU zbd zbe zbf zbg ((s39 zpx zAn) != (0:Int)))))))
theorem zGV (hs:zr7 by_a1 turn z ev6 zaT zaH zaV zaJ fv7 zbp zbq zbr zbs gv8 zaY zaM za1 zaU hv9 zbd zbe zbf zbg zpx zeg zAn zGS=true) (hk:K (e7 (zr6 by_a1 turn z ev6 zaT zaH zaV zaJ fv7 zbp zbq zbr zbs gv8 zaY zaM za1 zaU hv9 zbd zbe zbf zbg zpx zeg zAn zGS))) (zKt:zDk=zg zaj zAn):z7 K [1,1,1,1,1,1,1,1,1,1,1] [] ⟨[(1,zI by_a1),(2,zI turn),(3,zI z),(12,zp 12 0),(13,zp 13 0),(14,zI ev6),(15,zp 15 0),(16,zp 16 0),(17,zI fv7),(18,zp 18 0),(19,zp 19 0),(20,zI gv8),(21,zp 21 0),(22,zp 22 0),(23,zI hv9),(24,zS zaj 1 zpx),(25,zI zeg),(26,zP (.sl zAn.len 1 zDk)),(27,zI zGS)],[(12,.box 25 (zm (zac (⟨zaT,zaH⟩:Frac)))),(13,.box 25 (zm (zac (⟨zaV,zaJ⟩:Frac)))),(15,.box 25 (zm (zac (⟨zbp,zbq⟩:Frac)))),(16,.box 25 (zm (zac (⟨zbr,zbs⟩:Frac)))),(18,.box 25 (zm (zac (⟨zaY,zaM⟩:Frac)))),(19,.box 25 (zm (zac (⟨za1,zaU⟩:Frac)))),(21,.box 25 (zm (zac (⟨zbd,zbe⟩:Frac)))),(22,.box 25 (zm (zac (⟨zbf,zbg⟩:Frac))))],[]⟩:=by subst zKt;exact zay (by kernel_rfl) (zc hs hk (fun hs hk=>(znZ hs hk)) (fun hs hk=>(zc hs hk (fun hs hk=>(znZ hs hk)) (fun hs hk=>(zc hs hk (fun hs hk=>(znZ hs hk)) (fun hs hk=>(zaw hs fun hc hs=>And.intro (And.intro (zE zaj 1 zpx.get) (And.intro (zE zaj 1 zAn.get) hc)) (znZ hs hk))))))))
def zr8 (by_a1:Int) (turn:Int) (z:Int) (ev6:Int) (zaT:Int) (zaH:Int) (zaV:Int) (zaJ:Int) (fv7:Int) (zbp:Int) (zbq:Int) (zbr:Int) (zbs:Int) (gv8:Int) (zaY:Int) (zaM:Int) (za1:Int) (zaU:Int) (hv9:Int) (zbd:Int) (zbe:Int) (zbf:Int) (zbg:Int) (zpx:(Sl Int)) (zeg:Int) (ze6:(Sl Gate)):Bool :=
  (zr6 by_a1 turn z ev6 zaT zaH zaV zaJ fv7 zbp zbq zbr zbs gv8 zaY zaM za1 zaU hv9 zbd zbe zbf zbg zpx zeg ((s38 ze6).1) ((s38 ze6).2))
def zr9 (by_a1:Int) (turn:Int) (z:Int) (ev6:Int) (zaT:Int) (zaH:Int) (zaV:Int) (zaJ:Int) (fv7:Int) (zbp:Int) (zbq:Int) (zbr:Int) (zbs:Int) (gv8:Int) (zaY:Int) (zaM:Int) (za1:Int) (zaU:Int) (hv9:Int) (zbd:Int) (zbe:Int) (zbf:Int) (zbg:Int) (zpx:(Sl Int)) (zeg:Int) (ze6:(Sl Gate)):Bool :=
  (decide ((p38 ze6=true)) &&
 (zr7 by_a1 turn z ev6 zaT zaH zaV zaJ fv7 zbp zbq zbr zbs gv8 zaY zaM za1 zaU hv9 zbd zbe zbf zbg zpx zeg ((s38 ze6).1) ((s38 ze6).2)))
theorem zGW (hs:zr9 by_a1 turn z ev6 zaT zaH zaV zaJ fv7 zbp zbq zbr zbs gv8 zaY zaM za1 zaU hv9 zbd zbe zbf zbg zpx zeg ze6=true) (hk:K (e7 (zr8 by_a1 turn z ev6 zaT zaH zaV zaJ fv7 zbp zbq zbr zbs gv8 zaY zaM za1 zaU hv9 zbd zbe zbf zbg zpx zeg ze6))) (zKu:zDj=zg zaj zpx) (zBT:zty=zg enc_55 ze6):z7 K [1,1,1,1,1,1,1,1,1,1] [] ⟨[(1,zI by_a1),(2,zI turn),(3,zI z),(9,zv 94),(12,zp 12 0),(13,zp 13 0),(14,zI ev6),(15,zp 15 0),(16,zp 16 0),(17,zI fv7),(18,zp 18 0),(19,zp 19 0),(20,zI gv8),(21,zp 21 0),(22,zp 22 0),(23,zI hv9),(24,zP (.sl zpx.len 1 zDj)),(25,zI zeg)],[(12,.box 25 (zm (zac (⟨zaT,zaH⟩:Frac)))),(13,.box 25 (zm (zac (⟨zaV,zaJ⟩:Frac)))),(15,.box 25 (zm (zac (⟨zbp,zbq⟩:Frac)))),(16,.box 25 (zm (zac (⟨zbr,zbs⟩:Frac)))),(18,.box 25 (zm (zac (⟨zaY,zaM⟩:Frac)))),(19,.box 25 (zm (zac (⟨za1,zaU⟩:Frac)))),(21,.box 25 (zm (zac (⟨zbd,zbe⟩:Frac)))),(22,.box 25 (zm (zac (⟨zbf,zbg⟩:Frac)))),(94,.vec 55 3 24 ze6.len zty)],[]⟩:=by subst zKu;subst zBT;exact zay (by kernel_rfl) (zaw hs fun hc hs=>And.intro (And.intro (zE enc_55 3 ze6.get) hc) (zGV hs hk rfl))
def zyX (zaa:(Sl Gate)) (by_a1:Int) (turn:Int) (z:Int) (ev6:Int) (zaT:Int) (zaH:Int) (zaV:Int) (zaJ:Int) (fv7:Int) (zbp:Int) (zbq:Int) (zbr:Int) (zbs:Int) (gv8:Int) (zaY:Int) (zaM:Int) (za1:Int) (zaU:Int) (hv9:Int) (zbd:Int) (zbe:Int) (zbf:Int) (zbg:Int) (zpw:(Sl Gate)):Bool :=
  (zr8 by_a1 turn z ev6 zaT zaH zaV zaJ fv7 zbp zbq zbr zbs gv8 zaY zaM za1 zaU hv9 zbd zbe zbf zbg ((s38 zaa).1) ((s38 zaa).2) zpw)
def zyY (zaa:(Sl Gate)) (by_a1:Int) (turn:Int) (z:Int) (ev6:Int) (zaT:Int) (zaH:Int) (zaV:Int) (zaJ:Int) (fv7:Int) (zbp:Int) (zbq:Int) (zbr:Int) (zbs:Int) (gv8:Int) (zaY:Int) (zaM:Int) (za1:Int) (zaU:Int) (hv9:Int) (zbd:Int) (zbe:Int) (zbf:Int) (zbg:Int) (zpw:(Sl Gate)):Bool :=
  (decide ((p38 zaa=true)) &&
 (zr9 by_a1 turn z ev6 zaT zaH zaV zaJ fv7 zbp zbq zbr zbs gv8 zaY zaM za1 zaU hv9 zbd zbe zbf zbg ((s38 zaa).1) ((s38 zaa).2) zpw))
theorem zKv (hs:zyY zaa by_a1 turn z ev6 zaT zaH zaV zaJ fv7 zbp zbq zbr zbs gv8 zaY zaM za1 zaU hv9 zbd zbe zbf zbg zpw=true) (hk:K (e7 (zyX zaa by_a1 turn z ev6 zaT zaH zaV zaJ fv7 zbp zbq zbr zbs gv8 zaY zaM za1 zaU hv9 zbd zbe zbf zbg zpw))) (zGX:zyW=zg enc_55 zpw):z7 K [1,1,1,1,1,1,1,1,1] [] ⟨[(0,zS enc_55 3 zaa),(1,zI by_a1),(2,zI turn),(3,zI z),(9,zv 94),(12,zp 12 0),(13,zp 13 0),(14,zI ev6),(15,zp 15 0),(16,zp 16 0),(17,zI fv7),(18,zp 18 0),(19,zp 19 0),(20,zI gv8),(21,zp 21 0),(22,zp 22 0),(23,zI hv9)],[(12,.box 25 (zm (zac (⟨zaT,zaH⟩:Frac)))),(13,.box 25 (zm (zac (⟨zaV,zaJ⟩:Frac)))),(15,.box 25 (zm (zac (⟨zbp,zbq⟩:Frac)))),(16,.box 25 (zm (zac (⟨zbr,zbs⟩:Frac)))),(18,.box 25 (zm (zac (⟨zaY,zaM⟩:Frac)))),(19,.box 25 (zm (zac (⟨za1,zaU⟩:Frac)))),(21,.box 25 (zm (zac (⟨zbd,zbe⟩:Frac)))),(22,.box 25 (zm (zac (⟨zbf,zbg⟩:Frac)))),(94,.vec 55 3 24 zpw.len zyW)],[]⟩:=by subst zGX;exact zay (by kernel_rfl) (zaw hs fun hc hs=>And.intro (And.intro (zE enc_55 3 zaa.get) hc) (zGW hs hk rfl rfl))
def zyZ (zaa:(Sl Gate)) (by_a1:Int) (turn:Int) (z:Int) (ev6:Int) (zaT:Int) (zaH:Int) (zaV:Int) (zaJ:Int) (fv7:Int) (zbp:Int) (zbq:Int) (zbr:Int) (zbs:Int) (gv8:Int) (zaY:Int) (zaM:Int) (za1:Int) (zaU:Int) (zey:(Sl Gate)):Bool :=
  (zyX zaa by_a1 turn z ev6 zaT zaH zaV zaJ fv7 zbp zbq zbr zbs gv8 zaY zaM za1 zaU ((s35 zey).2.2) (((s35 zey).1).Num) (((s35 zey).1).Den) (((s35 zey).2.1).Num) (((s35 zey).2.1).Den) zey)
def zy0 (zaa:(Sl Gate)) (by_a1:Int) (turn:Int) (z:Int) (ev6:Int) (zaT:Int) (zaH:Int) (zaV:Int) (zaJ:Int) (fv7:Int) (zbp:Int) (zbq:Int) (zbr:Int) (zbs:Int) (gv8:Int) (zaY:Int) (zaM:Int) (za1:Int) (zaU:Int) (zey:(Sl Gate)):Bool :=
  (decide ((p35 zey=true)) &&
 (zyY zaa by_a1 turn z ev6 zaT zaH zaV zaJ fv7 zbp zbq zbr zbs gv8 zaY zaM za1 zaU ((s35 zey).2.2) (((s35 zey).1).Num) (((s35 zey).1).Den) (((s35 zey).2.1).Num) (((s35 zey).2.1).Den) zey))
theorem zKw (hs:zy0 zaa by_a1 turn z ev6 zaT zaH zaV zaJ fv7 zbp zbq zbr zbs gv8 zaY zaM za1 zaU zey=true) (hk:K (e7 (zyZ zaa by_a1 turn z ev6 zaT zaH zaV zaJ fv7 zbp zbq zbr zbs gv8 zaY zaM za1 zaU zey))) (zGY:zyV=zg enc_55 zey):z7 K [1,1,1,1,1,1,1,1] [] ⟨[(0,zS enc_55 3 zaa),(1,zI by_a1),(2,zI turn),(3,zI z),(9,zv 94),(12,zp 12 0),(13,zp 13 0),(14,zI ev6),(15,zp 15 0),(16,zp 16 0),(17,zI fv7),(18,zp 18 0),(19,zp 19 0),(20,zI gv8)],[(12,.box 25 (zm (zac (⟨zaT,zaH⟩:Frac)))),(13,.box 25 (zm (zac (⟨zaV,zaJ⟩:Frac)))),(15,.box 25 (zm (zac (⟨zbp,zbq⟩:Frac)))),(16,.box 25 (zm (zac (⟨zbr,zbs⟩:Frac)))),(18,.box 25 (zm (zac (⟨zaY,zaM⟩:Frac)))),(19,.box 25 (zm (zac (⟨za1,zaU⟩:Frac)))),(94,.vec 55 3 24 zey.len zyV)],[]⟩:=by subst zGY;exact zay (by kernel_rfl) (zaw hs fun hc hs=>And.intro (And.intro (zE enc_55 3 zey.get) hc) (zKv hs hk rfl))
def zy1 (zaa:(Sl Gate)) (by_a1:Int) (turn:Int) (z:Int) (ev6:Int) (zaT:Int) (zaH:Int) (zaV:Int) (zaJ:Int) (fv7:Int) (zbp:Int) (zbq:Int) (zbr:Int) (zbs:Int) (zpv:(Sl Gate)):Bool :=
  (zyZ zaa by_a1 turn z ev6 zaT zaH zaV zaJ fv7 zbp zbq zbr zbs ((s35 zaa).2.2) (((s35 zaa).1).Num) (((s35 zaa).1).Den) (((s35 zaa).2.1).Num) (((s35 zaa).2.1).Den) zpv)
def zy2 (zaa:(Sl Gate)) (by_a1:Int) (turn:Int) (z:Int) (ev6:Int) (zaT:Int) (zaH:Int) (zaV:Int) (zaJ:Int) (fv7:Int) (zbp:Int) (zbq:Int) (zbr:Int) (zbs:Int) (zpv:(Sl Gate)):Bool :=
  (decide ((p35 zaa=true)) &&
 (zy0 zaa by_a1 turn z ev6 zaT zaH zaV zaJ fv7 zbp zbq zbr zbs ((s35 zaa).2.2) (((s35 zaa).1).Num) (((s35 zaa).1).Den) (((s35 zaa).2.1).Num) (((s35 zaa).2.1).Den) zpv))
theorem zKx (hs:zy2 zaa by_a1 turn z ev6 zaT zaH zaV zaJ fv7 zbp zbq zbr zbs zpv=true) (hk:K (e7 (zy1 zaa by_a1 turn z ev6 zaT zaH zaV zaJ fv7 zbp zbq zbr zbs zpv))) (zGZ:zyU=zg enc_55 zpv):z7 K [1,1,1,1,1,1,1] [] ⟨[(0,zS enc_55 3 zaa),(1,zI by_a1),(2,zI turn),(3,zI z),(9,zv 94),(12,zp 12 0),(13,zp 13 0),(14,zI ev6),(15,zp 15 0),(16,zp 16 0),(17,zI fv7)],[(12,.box 25 (zm (zac (⟨zaT,zaH⟩:Frac)))),(13,.box 25 (zm (zac (⟨zaV,zaJ⟩:Frac)))),(15,.box 25 (zm (zac (⟨zbp,zbq⟩:Frac)))),(16,.box 25 (zm (zac (⟨zbr,zbs⟩:Frac)))),(94,.vec 55 3 24 zpv.len zyU)],[]⟩:=by subst zGZ;exact zay (by kernel_rfl) (zaw hs fun hc hs=>And.intro (And.intro (zE enc_55 3 zaa.get) hc) (zKw hs hk rfl))
def zy3 (zaa:(Sl Gate)) (by_a1:Int) (turn:Int) (z:Int) (ev6:Int) (zaT:Int) (zaH:Int) (zaV:Int) (zaJ:Int) (zex:(Sl Gate)):Bool :=
  (zy1 zaa by_a1 turn z ev6 zaT zaH zaV zaJ ((s30 zex z).2.2) (((s30 zex z).1).Num) (((s30 zex z).1).Den) (((s30 zex z).2.1).Num) (((s30 zex z).2.1).Den) zex)
def zy4 (zaa:(Sl Gate)) (by_a1:Int) (turn:Int) (z:Int) (ev6:Int) (zaT:Int) (zaH:Int) (zaV:Int) (zaJ:Int) (zex:(Sl Gate)):Bool :=
  (decide ((p30 zex z=true)) &&
 (zy2 zaa by_a1 turn z ev6 zaT zaH zaV zaJ ((s30 zex z).2.2) (((s30 zex z).1).Num) (((s30 zex z).1).Den) (((s30 zex z).2.1).Num) (((s30 zex z).2.1).Den) zex))
theorem zKz (hs:zy4 zaa by_a1 turn z ev6 zaT zaH zaV zaJ zex=true) (hk:K (e7 (zy3 zaa by_a1 turn z ev6 zaT zaH zaV zaJ zex))) (zG0:zyT=zg enc_55 zex):z7 K [1,1,1,1,1,1] [] ⟨[(0,zS enc_55 3 zaa),(1,zI by_a1),(2,zI turn),(3,zI z),(9,zv 94),(12,zp 12 0),(13,zp 13 0),(14,zI ev6)],[(12,.box 25 (zm (zac (⟨zaT,zaH⟩:Frac)))),(13,.box 25 (zm (zac (⟨zaV,zaJ⟩:Frac)))),(94,.vec 55 3 24 zex.len zyT)],[]⟩:=by subst zG0;exact zay (by kernel_rfl) (zaw hs fun hc hs=>And.intro (And.intro (zE enc_55 3 zex.get) hc) (zKx hs hk rfl))
def ztz (zaa:(Sl Gate)) (by_a1:Int) (turn:Int) (z:Int) (zpu:(Sl Gate)):Bool :=
  (zy3 zaa by_a1 turn z ((s30 zaa z).2.2) (((s30 zaa z).1).Num) (((s30 zaa z).1).Den) (((s30 zaa z).2.1).Num) (((s30 zaa z).2.1).Den) zpu)
def ztA (zaa:(Sl Gate)) (by_a1:Int) (turn:Int) (z:Int) (zpu:(Sl Gate)):Bool :=
  (decide ((p30 zaa z=true)) &&
 (zy4 zaa by_a1 turn z ((s30 zaa z).2.2) (((s30 zaa z).1).Num) (((s30 zaa z).1).Den) (((s30 zaa z).2.1).Num) (((s30 zaa z).2.1).Den) zpu))
theorem zKA (hs:ztA zaa by_a1 turn z zpu=true) (hk:K (e7 (ztz zaa by_a1 turn z zpu))) (zG1:zyS=zg enc_55 zpu):z7 K [1,1,1,1,1] [] ⟨[(0,zS enc_55 3 zaa),(1,zI by_a1),(2,zI turn),(3,zI z),(9,zv 94)],[(94,.vec 55 3 24 zpu.len zyS)],[]⟩:=by subst zG1;exact zay (by kernel_rfl) (zaw hs fun hc hs=>And.intro (And.intro (zE enc_55 3 zaa.get) hc) (zKz hs hk rfl))
def zy5 (zaa:(Sl Gate)) (by_a1:Int) (turn:Int) (z:Int) (zr3:Bool) (zpt:(Sl Gate)):Bool :=
  (cond zr3
 true
 (ztz zaa by_a1 turn z zpt))
def zy6 (zaa:(Sl Gate)) (by_a1:Int) (turn:Int) (z:Int) (zr3:Bool) (zpt:(Sl Gate)):Bool :=
  (cond zr3
 true
 (ztA zaa by_a1 turn z zpt))
theorem zKB (hs:zy6 zaa by_a1 turn z zr3 zpt=true) (hk:K (e7 (zy5 zaa by_a1 turn z zr3 zpt))) (zG2:zyR=zg enc_55 zpt):z7 K [1,1,1,1,0,1] [] ⟨[(0,zS enc_55 3 zaa),(1,zI by_a1),(2,zI turn),(3,zI z),(9,zv 94),(97,zB zr3)],[(94,.vec 55 3 24 zpt.len zyR)],[]⟩:=by subst zG2;exact zay (by kernel_rfl) (zc hs hk (fun hs hk=>hk) (fun hs hk=>(zKA hs hk rfl)))
def zy7 (zaa:(Sl Gate)) (by_a1:Int) (turn:Int) (z:Int) (ziH:(Sl Gate)):Bool :=
  (zy5 zaa by_a1 turn z (!(s20 ziH)) ziH)
def zy8 (zaa:(Sl Gate)) (by_a1:Int) (turn:Int) (z:Int) (ziH:(Sl Gate)):Bool :=
  (decide ((p20 ziH=true)) &&
 (zy6 zaa by_a1 turn z (!(s20 ziH)) ziH))
theorem zKC (hs:zy8 zaa by_a1 turn z ziH=true) (hk:K (e7 (zy7 zaa by_a1 turn z ziH))) (zG3:zyQ=zg enc_55 ziH):z7 K [1,1,1,1] [] ⟨[(0,zS enc_55 3 zaa),(1,zI by_a1),(2,zI turn),(3,zI z),(9,zv 94)],[(94,.vec 55 3 24 ziH.len zyQ)],[]⟩:=by subst zG3;exact zay (by kernel_rfl) (zaw hs fun hc hs=>And.intro (And.intro (zE enc_55 3 ziH.get) hc) (zKB hs hk rfl))
def zmp (zaa:(Sl Gate)) (by_a1:Int) (turn:Int) (z:Int) (S2:Int→(Sl Gate)→Bool) (iv2:Int) (zcV:(Sl Gate)):Bool :=
  (cond (decide (iv2 < (zaa.len : Int)))
 (S2 (w64 (iv2+(1:Int))) (⟨(zcV.len+1),(zdv zcV.len zcV.get (fun _=>(⟨(zaa.get iv2.toNat).Z,(w64 ((w64 ((zaa.get iv2.toNat).Low+by_a1))+(w64 (turn * (zaa.get iv2.toNat).Z)))),(w64 ((w64 ((zaa.get iv2.toNat).High+by_a1))+(w64 (turn * (zaa.get iv2.toNat).Z))))⟩:Gate)))⟩:Sl Gate))
 (zy7 zaa by_a1 turn z zcV))
def zmq (zaa:(Sl Gate)) (by_a1:Int) (turn:Int) (z:Int) (P2:Int→(Sl Gate)→Bool) (iv2:Int) (zcV:(Sl Gate)):Bool :=
  (cond (decide (iv2 < (zaa.len : Int)))
 (decide ((0≤iv2∧iv2 < (zaa.len:Int))) &&
 (decide (((zcV.len+1) * 24≤140737488355328∧zcV.len+1≤9223372036854775807)) &&
 (P2 (w64 (iv2+(1:Int))) (⟨(zcV.len+1),(zdv zcV.len zcV.get (fun _=>(⟨(zaa.get iv2.toNat).Z,(w64 ((w64 ((zaa.get iv2.toNat).Low+by_a1))+(w64 (turn * (zaa.get iv2.toNat).Z)))),(w64 ((w64 ((zaa.get iv2.toNat).High+by_a1))+(w64 (turn * (zaa.get iv2.toNat).Z))))⟩:Gate)))⟩:Sl Gate))))
 (zy8 zaa by_a1 turn z zcV))
def zmr (zaa:(Sl Gate)) (by_a1:Int) (turn:Int) (z:Int):Nat→Int→(Sl Gate)→Bool:=lpO (fun _ _=>default) (zmp zaa by_a1 turn z)
def zms (zaa:(Sl Gate)) (by_a1:Int) (turn:Int) (z:Int):Nat→Int→(Sl Gate)→Bool:=lpO (fun _ _=>false) (zmq zaa by_a1 turn z)
def zDl (zaa:(Sl Gate)) (by_a1:Int) (turn:Int) (z:Int) (iv2:Int) (zcV:(Sl Gate)):Bool:=zmr zaa by_a1 turn z Fuel iv2 zcV
def zDm (zaa:(Sl Gate)) (by_a1:Int) (turn:Int) (z:Int) (iv2:Int) (zcV:(Sl Gate)):Bool:=zms zaa by_a1 turn z Fuel iv2 zcV
theorem zKD (hs:zDm zaa by_a1 turn z iv2 zcV=true) (hk:K (e7 (zDl zaa by_a1 turn z iv2 zcV))) (zsa:zfB=zg enc_55 zcV):z7 K [1,1,1,0,1,0] [] (zKs zaa by_a1 turn z iv2 zcV zfB) :=
  zl (fun X=>z7 K [1,1,1,0,1,0,0] [X]) (by kernel_rfl) fun X2 hX =>
  (show ∀ k, zN5 K zaa by_a1 turn z X2 (zms zaa by_a1 turn z k) (zmr zaa by_a1 turn z k) from zgX _ _ (zmq zaa by_a1 turn z) (zmp zaa by_a1 turn z) (zN5 K zaa by_a1 turn z X2)
 (by intro _ _ _ hs;exact absurd hs Bool.false_ne_true)
 (by intro P2 S2 hX2 iv2 zcV zfB hs hk zsa;subst zsa;exact hX _ (zay (by kernel_rfl) (zc hs hk (fun hs hk=>(zaw hs fun hc hs=>And.intro hc (zaw hs fun hc hs=>And.intro hc (hX2 hs hk (zjJ (enc:=enc_55) (f:=zcV.get) (h:=(fun _=>(⟨(zaa.get iv2.toNat).Z,(w64 ((w64 ((zaa.get iv2.toNat).Low+by_a1))+(w64 (turn * (zaa.get iv2.toNat).Z)))),(w64 ((w64 ((zaa.get iv2.toNat).High+by_a1))+(w64 (turn * (zaa.get iv2.toNat).Z))))⟩:Gate))) rfl rfl))))) (fun hs hk=>(zKC hs hk rfl)))))) _ hs hk zsa
def ztB (zaa:(Sl Gate)) (by_a1:Int) (turn:Int) (z:Int):Bool :=
  (zDl zaa by_a1 turn z (0:Int) (⟨0,(fun _=>default)⟩:Sl Gate))
def ztC (zaa:(Sl Gate)) (by_a1:Int) (turn:Int) (z:Int):Bool :=
  (zDm zaa by_a1 turn z (0:Int) (⟨0,(fun _=>default)⟩:Sl Gate))
theorem zKE (hs:ztC zaa by_a1 turn z=true) (hk:K (e7 (ztB zaa by_a1 turn z))):z7 K [1,1] [] ⟨[(0,zS enc_55 3 zaa),(1,zI by_a1),(2,zI turn),(3,zI z)],[],[]⟩:=zay (by kernel_rfl) (zKD hs hk rfl)
def zf4 (zaa:(Sl Gate)) (by_a1:Int) (turn:Int) (z:Int) (zr2:Bool):Bool :=
  (cond zr2
 true
 (ztB zaa by_a1 turn z))
def zf5 (zaa:(Sl Gate)) (by_a1:Int) (turn:Int) (z:Int) (zr2:Bool):Bool :=
  (cond zr2
 true
 (ztC zaa by_a1 turn z))
theorem ziA (hs:zf5 zaa by_a1 turn z zr2=true) (hk:K (e7 (zf4 zaa by_a1 turn z zr2))):z7 K [1,0,1] [] ⟨[(0,zS enc_55 3 zaa),(1,zI by_a1),(2,zI turn),(3,zI z),(59,zB zr2)],[],[]⟩:=zay (by kernel_rfl) (zc hs hk (fun hs hk=>hk) (fun hs hk=>(zKE hs hk)))
def s7 (zaa:(Sl Gate)) (by_a1:Int) (turn:Int) (z:Int):Bool :=
  (cond (decide ((zaa.len : Int) > (16:Int)))
 (zf4 zaa by_a1 turn z true)
 (cond (!(s20 zaa))
 (zf4 zaa by_a1 turn z true)
 (cond (decide (by_a1 < (-1000:Int)))
 (zf4 zaa by_a1 turn z true)
 (cond (decide (by_a1 > (1000:Int)))
 (zf4 zaa by_a1 turn z true)
 (cond (decide (turn < (-5:Int)))
 (zf4 zaa by_a1 turn z true)
 (cond (decide (turn > (5:Int)))
 (zf4 zaa by_a1 turn z true)
 (cond (decide (z < (0:Int)))
 (zf4 zaa by_a1 turn z true)
 (zf4 zaa by_a1 turn z (decide (z > (100000:Int)))))))))))
def p7 (zaa:(Sl Gate)) (by_a1:Int) (turn:Int) (z:Int):Bool :=
  (cond (decide ((zaa.len : Int) > (16:Int)))
 (zf5 zaa by_a1 turn z true)
 (decide ((p20 zaa=true)) &&
 (cond (!(s20 zaa))
 (zf5 zaa by_a1 turn z true)
 (cond (decide (by_a1 < (-1000:Int)))
 (zf5 zaa by_a1 turn z true)
 (cond (decide (by_a1 > (1000:Int)))
 (zf5 zaa by_a1 turn z true)
 (cond (decide (turn < (-5:Int)))
 (zf5 zaa by_a1 turn z true)
 (cond (decide (turn > (5:Int)))
 (zf5 zaa by_a1 turn z true)
 (cond (decide (z < (0:Int)))
 (zf5 zaa by_a1 turn z true)
 (zf5 zaa by_a1 turn z (decide (z > (100000:Int))))))))))))
end
theorem q7 (zaa:(Sl Gate)) (by_a1:Int) (turn:Int) (z:Int) (K:List PA→Prop) (hs:p7 zaa by_a1 turn z=true) (hk:K (e7 (s7 zaa by_a1 turn z))):vcFun Try.prog G7 zMR 7 [.one (.sl zaa.len 3 (fun i=>enc_55 (zaa.get i))),.one (.int .i64 by_a1),.one (.int .i64 turn),.one (.int .i64 z)] K :=
  zay (by kernel_rfl) (zc hs hk (fun hs hk=>(ziA hs hk)) (fun hs hk=>(zaw hs fun hc hs=>And.intro (And.intro (zE enc_55 3 zaa.get) hc) (zc hs hk (fun hs hk=>(ziA hs hk)) (fun hs hk=>(zc hs hk (fun hs hk=>(ziA hs hk)) (fun hs hk=>(zc hs hk (fun hs hk=>(ziA hs hk)) (fun hs hk=>(zc hs hk (fun hs hk=>(ziA hs hk)) (fun hs hk=>(zc hs hk (fun hs hk=>(ziA hs hk)) (fun hs hk=>(zc hs hk (fun hs hk=>(ziA hs hk)) (fun hs hk=>(ziA hs hk))))))))))))))))
def zN6 : List PA → COut
  | [.one (.sl a0_n a0_s a0_g),.one (.int .i64 a1),.one (.int .i64 a2),.one (.int .i64 a3)]=>.det (IsE enc_55 3 a0_s a0_g∧p7 (⟨a0_n,zad a0_g⟩:(Sl Gate)) a1 a2 a3=true) [.one (.bool (s7 (⟨a0_n,zad a0_g⟩:(Sl Gate)) a1 a2 a3))]
  | _=>.no
theorem call7:zai Try.prog 7:=⟨_,rfl,rfl,by kernel_rfl⟩
theorem ok7:Ok Try.prog 7 zN6:=zaN zPJ call7 fun args K h=>by
  unfold zN6 at h
  split at h
  · rename_i a0_n a0_s a0_g a1 a2 a3
    obtain ⟨⟨⟨rfl,a0_f,rfl⟩,hs⟩,hk⟩:=h
    try rw [zae a0_f] at hs
    try rw [zae a0_f] at hk
    exact ⟨(fun _ _=>[]),(fun _=>false),zMR,q7 (⟨a0_n,a0_f⟩:(Sl Gate)) a1 a2 a3 K hs hk⟩
  · exact h.elim
end Go.Proofs
namespace Go.Proofs
open Go Go.Pm
set_option maxRecDepth 100000
set_option linter.unusedVariables false
attribute [local irreducible] Go.Pm.vcFun Go.Pm.vc Go.Pm.vcIter
theorem C_3:Try.prog.cellsOf 3=1:=by kernel_rfl
theorem zN7:Try.prog.cellsOf 55=3:=by kernel_rfl
abbrev wf_3 (x:Int):Prop:=wfI x
theorem rd_3 {H:Type} {en:TypeId×Value→H} {w:World} {sp:Nat→Bool} {held:Bool} : Rd H en Try.prog w sp held 3 zaj wf_3:=zIz Try.underlying3
def zKF (x:Gate):Prop:=wf_3 x.Z∧wf_3 x.Low∧wf_3 x.High
theorem zMS {H:Type} {en:TypeId×Value→H} {w:World} {sp:Nat→Bool} {held:Bool} : Rd H en Try.prog w sp held 55 enc_55 zKF:=by
  intro fuel cs x h
  obtain ⟨hl,hf⟩:=zvS Try.underlying55 h
  rw [zN7] at hl
  obtain ⟨n0,y0,g0⟩:=hf 0 _ rfl
  have g0:DataW.trod en Try.prog w 0 sp held n0 3 ((cs.drop 0).take (Try.prog.cellsOf 3))=some y0:=g0
  rw [C_3] at g0
  obtain ⟨a0,r0,w0⟩:=rd_3 _ _ _ g0
  obtain ⟨n1,y1,g1⟩:=hf 1 _ rfl
  have g1:DataW.trod en Try.prog w 0 sp held n1 3 ((cs.drop 1).take (Try.prog.cellsOf 3))=some y1:=g1
  rw [C_3] at g1
  obtain ⟨a1,r1,w1⟩:=rd_3 _ _ _ g1
  obtain ⟨n2,y2,g2⟩:=hf 2 _ rfl
  have g2:DataW.trod en Try.prog w 0 sp held n2 3 ((cs.drop 2).take (Try.prog.cellsOf 3))=some y2:=g2
  rw [C_3] at g2
  obtain ⟨a2,r2,w2⟩:=rd_3 _ _ _ g2
  have z:cs.drop 3=[]:=List.drop_eq_nil_of_le (by omega)
  have R:=(r0.append (r1.append (r2.append (show RL (Rep (H0 w)) [] (cs.drop 3) by rw [z];exact zhv))))
  rw [← (show cs.drop 2=(cs.drop 2).take 1 ++ cs.drop 3 from zhx cs 2 1)] at R
  rw [← (show cs.drop 1=(cs.drop 1).take 1 ++ cs.drop 2 from zhx cs 1 1)] at R
  rw [← (show cs.drop 0=(cs.drop 0).take 1 ++ cs.drop 1 from zhx cs 0 1)] at R
  exact ⟨⟨a0,a1,a2⟩,R,⟨w0,w1,w2⟩⟩
def wf_22 (x:(Sl Gate)):Prop:=x.len≤9223372036854775807∧∀ i,i < x.len→zKF (x.get i)
theorem rd_22 {H:Type} {en:TypeId×Value→H} {w:World} {sp:Nat→Bool} {held:Bool} : Rd H en Try.prog w sp held 22 zIB wf_22:=zBd Try.underlying22 zN7 (by decide) (fun _=>rfl) zMS
end Go.Proofs
namespace Go.Proofs
open Go Go.Pm
set_option maxRecDepth 100000
set_option linter.unusedVariables false
attribute [local irreducible] Go.Pm.vcFun Go.Pm.vc Go.Pm.vcIter
section
variable {K:List PA→Prop} {l_a0:Line} {z:Int}
def zuJ (l_a0:Line) (z:Int):(Int×Int) :=
  ((w64 ((w64 (l_a0.Start.Num * l_a0.Slope.Den))+(w64 ((w64 (l_a0.Slope.Num * z)) * l_a0.Start.Den)))),(w64 (l_a0.Start.Den * l_a0.Slope.Den)))
end
section
variable {K:List PA→Prop} {l_a0:Line} {g:Gate}
def s72 (l_a0:Line) (g:Gate):Bool :=
  (cond (decide ((w64 (g.Low * ((zuJ l_a0 g.Z).2))) ≤ ((zuJ l_a0 g.Z).1)))
 (decide (((zuJ l_a0 g.Z).1)≤(w64 (g.High * ((zuJ l_a0 g.Z).2)))))
 false)
end
section
variable {K:List PA→Prop} {l_a0:Line} {zaa:(Sl Gate)} {iv0:Int} {zdm:(Sl Int)} {zG4:Nat→List PV} {X0:St→Prop} {P0:Int→(Sl Int)→Bool} {S0:Int→(Sl Int)→(Sl Int)} {iv1:Int} {zBU:Bool} {ziI:(Sl Int)} {zMT:Nat→List PV}
def zy9 (S0:Int→(Sl Int)→(Sl Int)) (l_a0:Line) (zaa:(Sl Gate)) (iv1:Int) (zBU:Bool) (ziI:(Sl Int)):(Sl Int) :=
  (cond zBU
 (S0 (w64 (iv1+(1:Int))) (⟨(ziI.len+1),(zdv ziI.len ziI.get (fun _=>iv1))⟩:Sl Int))
 (S0 (w64 (iv1+(1:Int))) ziI))
def zza (P0:Int→(Sl Int)→Bool) (l_a0:Line) (zaa:(Sl Gate)) (iv1:Int) (zBU:Bool) (ziI:(Sl Int)):Bool :=
  (cond zBU
 (decide (((ziI.len+1) * 8≤140737488355328∧ziI.len+1≤9223372036854775807)) &&
 (P0 (w64 (iv1+(1:Int))) (⟨(ziI.len+1),(zdv ziI.len ziI.get (fun _=>iv1))⟩:Sl Int)))
 (P0 (w64 (iv1+(1:Int))) ziI))
def zkv (l_a0:Line) (zaa:(Sl Gate)) (S0:Int→(Sl Int)→(Sl Int)) (iv0:Int) (zdm:(Sl Int)):(Sl Int) :=
  (cond (decide (iv0 < (zaa.len : Int)))
 (zy9 S0 l_a0 zaa iv0 (s72 l_a0 (zaa.get iv0.toNat)) zdm)
 zdm)
def zkw (l_a0:Line) (zaa:(Sl Gate)) (P0:Int→(Sl Int)→Bool) (iv0:Int) (zdm:(Sl Int)):Bool :=
  (cond (decide (iv0 < (zaa.len : Int)))
 (decide ((0≤iv0∧iv0 < (zaa.len:Int))) &&
 (zza P0 l_a0 zaa iv0 (s72 l_a0 (zaa.get iv0.toNat)) zdm))
 true)
def zkx (l_a0:Line) (zaa:(Sl Gate)):Nat→Int→(Sl Int)→(Sl Int):=lpO (fun _ _=>default) (zkv l_a0 zaa)
def zky (l_a0:Line) (zaa:(Sl Gate)):Nat→Int→(Sl Int)→Bool:=lpO (fun _ _=>false) (zkw l_a0 zaa)
def zG5 (l_a0:Line) (zaa:(Sl Gate)) (iv0:Int) (zdm:(Sl Int)):(Sl Int):=zkx l_a0 zaa Fuel iv0 zdm
def zG6 (l_a0:Line) (zaa:(Sl Gate)) (iv0:Int) (zdm:(Sl Int)):Bool:=zky l_a0 zaa Fuel iv0 zdm
def s27 (l_a0:Line) (zaa:(Sl Gate)):(Sl Int) :=
  (zG5 l_a0 zaa (0:Int) (⟨0,(fun _=>default)⟩:Sl Int))
def p27 (l_a0:Line) (zaa:(Sl Gate)):Bool :=
  (zG6 l_a0 zaa (0:Int) (⟨0,(fun _=>default)⟩:Sl Int))
end
section
variable {K:List PA→Prop} {zaa:(Sl Gate)}
end
section
variable {K:List PA→Prop} {f:Frac} {den:Int} {num:Int}
end
section
variable {K:List PA→Prop} {l_a0:Line} {zaa:(Sl Gate)} {zPK:Bool} {zPL:Int} {zPM:(Sl Int)} {zMU:Nat→List PV} {X2:St→Prop} {P2:Int→(Sl Int)→Bool} {S2:Int→(Sl Int)→((Sl Int)×Int)} {iv3:Int} {zPN:Int} {zPO:Bool} {zPP:(Sl Int)} {zMV:Nat→List PV}
end
section
variable {K:List PA→Prop} {f:Frac} {most:Int}
end
section
variable {K:List PA→Prop} {l_a0:Line}
end
abbrev T26:Tabs:=(Tabs.nil.addF 40 zrh)
abbrev G26:Ctrs:=csm T26 (fun _ _=>[]) (fun _=>false)
def zMW:Ann:=⟨35,[(0,zK [0,1,2,3,8] [8]),(1,zK [0,1,2,3,8,11] [8]),(2,zK [0,1,2,3,8] [8]),(3,zK [8] [8])],
 [],
 [(3,zK [0,1,2,3,8] [8])],
 [],[]⟩
@[irreducible] def z26:=ptF Try.prog G26 zMW Try.f26
section
variable {K:List PA→Prop} {z:Int} {x:Int} {w:Int} {y_a3:Int} {zv0:Int} {xv0:Int} {wv0:Int} {yv0:Int}
def zsb (zv0:Int) (xv0:Int) (wv0:Int) (yv0:Int):Line :=
  (⟨(s40 (w64 (yv0 - xv0)) (w64 (wv0 - zv0))),(s40 (w64 ((w64 (xv0 * wv0)) - (w64 (yv0 * zv0)))) (w64 (wv0 - zv0)))⟩:Line)
def zsc (zv0:Int) (xv0:Int) (wv0:Int) (yv0:Int):Bool :=
  (decide ((p40 (w64 (yv0 - xv0)) (w64 (wv0 - zv0))=true)) &&
 (decide ((p40 (w64 ((w64 (xv0 * wv0)) - (w64 (yv0 * zv0)))) (w64 (wv0 - zv0))=true)) &&
 true))
def s26 (z:Int) (x:Int) (w:Int) (y_a3:Int):Line :=
  (cond (decide (w < z))
 (zsb w y_a3 z x)
 (zsb z x w y_a3))
def p26 (z:Int) (x:Int) (w:Int) (y_a3:Int):Bool :=
  (cond (decide (w < z))
 (zsc w y_a3 z x)
 (zsc z x w y_a3))
end
section
variable {K:List PA→Prop} {g:Gate} {which:Int}
def zAo (g:Gate) (which:Int):Int :=
  (cond (which == (0:Int))
 g.Low
 g.High)
end
section
variable {K:List PA→Prop} {zaa:(Sl Gate)} {iv0:Int} {zn0:(Sl Line)} {zMX:Nat→List PV} {X0:St→Prop} {P0:Int→(Sl Line)→Bool} {S0:Int→(Sl Line)→(Sl Line)} {iv1:Int} {kv1:Int} {zlO:(Sl Line)} {zMY:Nat→List PV} {X1:St→Prop} {P1:Int→Int→(Sl Line)→Bool} {S1:Int→Int→(Sl Line)→(Sl Line)} {iv2:Int} {kv2:Int} {ev2:Int} {zfa:(Sl Line)} {zMZ:Nat→List PV} {X2:St→Prop} {P2:Int→Int→Int→(Sl Line)→Bool} {S2:Int→Int→Int→(Sl Line)→(Sl Line)}
def zgx (S0:Int→(Sl Line)→(Sl Line)) (S1:Int→Int→(Sl Line)→(Sl Line)) (zaa:(Sl Gate)) (S2:Int→Int→Int→(Sl Line)→(Sl Line)) (iv2:Int) (kv2:Int) (ev2:Int) (zfa:(Sl Line)):(Sl Line) :=
  (cond (decide (ev2 < (4:Int)))
 (cond ((zaa.get iv2.toNat).Z != (zaa.get kv2.toNat).Z)
 (S2 iv2 kv2 (w64 (ev2+(1:Int))) (⟨(zfa.len+1),(zdv zfa.len zfa.get (fun _=>(s26 ((zaa.get iv2.toNat).Z) (zAo (zaa.get iv2.toNat) (w64 (ev2.tdiv (2:Int)))) ((zaa.get kv2.toNat).Z) (zAo (zaa.get kv2.toNat) (ev2.tmod (2:Int))))))⟩:Sl Line))
 (S1 iv2 (w64 (kv2+(1:Int))) zfa))
 (S1 iv2 (w64 (kv2+(1:Int))) zfa))
def zgy (P0:Int→(Sl Line)→Bool) (P1:Int→Int→(Sl Line)→Bool) (zaa:(Sl Gate)) (P2:Int→Int→Int→(Sl Line)→Bool) (iv2:Int) (kv2:Int) (ev2:Int) (zfa:(Sl Line)):Bool :=
  (cond (decide (ev2 < (4:Int)))
 (decide ((0≤iv2∧iv2 < (zaa.len:Int))) &&
 (decide ((0≤kv2∧kv2 < (zaa.len:Int))) &&
 (cond ((zaa.get iv2.toNat).Z != (zaa.get kv2.toNat).Z)
 (decide ((0≤iv2∧iv2 < (zaa.len:Int))) &&
 (decide ((0≤iv2∧iv2 < (zaa.len:Int))) &&
 (decide (((2:Int) ≠ 0)) &&
 (decide ((0≤kv2∧kv2 < (zaa.len:Int))) &&
 (decide ((0≤kv2∧kv2 < (zaa.len:Int))) &&
 (decide (((2:Int) ≠ 0)) &&
 (decide ((p26 ((zaa.get iv2.toNat).Z) (zAo (zaa.get iv2.toNat) (w64 (ev2.tdiv (2:Int)))) ((zaa.get kv2.toNat).Z) (zAo (zaa.get kv2.toNat) (ev2.tmod (2:Int)))=true)) &&
 (decide (((zfa.len+1) * 32≤140737488355328∧zfa.len+1≤9223372036854775807)) &&
 (P2 iv2 kv2 (w64 (ev2+(1:Int))) (⟨(zfa.len+1),(zdv zfa.len zfa.get (fun _=>(s26 ((zaa.get iv2.toNat).Z) (zAo (zaa.get iv2.toNat) (w64 (ev2.tdiv (2:Int)))) ((zaa.get kv2.toNat).Z) (zAo (zaa.get kv2.toNat) (ev2.tmod (2:Int))))))⟩:Sl Line))))))))))
 (P1 iv2 (w64 (kv2+(1:Int))) zfa))))
 (P1 iv2 (w64 (kv2+(1:Int))) zfa))
def zdT (S0:Int→(Sl Line)→(Sl Line)) (S1:Int→Int→(Sl Line)→(Sl Line)) (zaa:(Sl Gate)):Nat→Int→Int→Int→(Sl Line)→(Sl Line):=lpO (fun _ _ _ _=>default) (zgx S0 S1 zaa)
def zdU (P0:Int→(Sl Line)→Bool) (P1:Int→Int→(Sl Line)→Bool) (zaa:(Sl Gate)):Nat→Int→Int→Int→(Sl Line)→Bool:=lpO (fun _ _ _ _=>false) (zgy P0 P1 zaa)
def zzb (S0:Int→(Sl Line)→(Sl Line)) (S1:Int→Int→(Sl Line)→(Sl Line)) (zaa:(Sl Gate)) (iv2:Int) (kv2:Int) (ev2:Int) (zfa:(Sl Line)):(Sl Line):=zdT S0 S1 zaa Fuel iv2 kv2 ev2 zfa
def zzc (P0:Int→(Sl Line)→Bool) (P1:Int→Int→(Sl Line)→Bool) (zaa:(Sl Gate)) (iv2:Int) (kv2:Int) (ev2:Int) (zfa:(Sl Line)):Bool:=zdU P0 P1 zaa Fuel iv2 kv2 ev2 zfa
def zkz (S0:Int→(Sl Line)→(Sl Line)) (zaa:(Sl Gate)) (S1:Int→Int→(Sl Line)→(Sl Line)) (iv1:Int) (kv1:Int) (zlO:(Sl Line)):(Sl Line) :=
  (cond (decide (kv1 < (zaa.len : Int)))
 (zzb S0 S1 zaa iv1 kv1 (0:Int) zlO)
 (S0 (w64 (iv1+(1:Int))) zlO))
def zkA (P0:Int→(Sl Line)→Bool) (zaa:(Sl Gate)) (P1:Int→Int→(Sl Line)→Bool) (iv1:Int) (kv1:Int) (zlO:(Sl Line)):Bool :=
  (cond (decide (kv1 < (zaa.len : Int)))
 (zzc P0 P1 zaa iv1 kv1 (0:Int) zlO)
 (P0 (w64 (iv1+(1:Int))) zlO))
def zif (S0:Int→(Sl Line)→(Sl Line)) (zaa:(Sl Gate)):Nat→Int→Int→(Sl Line)→(Sl Line):=lpO (fun _ _ _=>default) (zkz S0 zaa)
def zih (P0:Int→(Sl Line)→Bool) (zaa:(Sl Gate)):Nat→Int→Int→(Sl Line)→Bool:=lpO (fun _ _ _=>false) (zkA P0 zaa)
def zzd (S0:Int→(Sl Line)→(Sl Line)) (zaa:(Sl Gate)) (iv1:Int) (kv1:Int) (zlO:(Sl Line)):(Sl Line):=zif S0 zaa Fuel iv1 kv1 zlO
def zze (P0:Int→(Sl Line)→Bool) (zaa:(Sl Gate)) (iv1:Int) (kv1:Int) (zlO:(Sl Line)):Bool:=zih P0 zaa Fuel iv1 kv1 zlO
def zkB (zaa:(Sl Gate)) (S0:Int→(Sl Line)→(Sl Line)) (iv0:Int) (zn0:(Sl Line)):(Sl Line) :=
  (cond (decide (iv0 < (zaa.len : Int)))
 (zzd S0 zaa iv0 (w64 (iv0+(1:Int))) zn0)
 zn0)
def zkC (zaa:(Sl Gate)) (P0:Int→(Sl Line)→Bool) (iv0:Int) (zn0:(Sl Line)):Bool :=
  (cond (decide (iv0 < (zaa.len : Int)))
 (zze P0 zaa iv0 (w64 (iv0+(1:Int))) zn0)
 true)
def zkD (zaa:(Sl Gate)):Nat→Int→(Sl Line)→(Sl Line):=lpO (fun _ _=>default) (zkB zaa)
def zkE (zaa:(Sl Gate)):Nat→Int→(Sl Line)→Bool:=lpO (fun _ _=>false) (zkC zaa)
def zG7 (zaa:(Sl Gate)) (iv0:Int) (zn0:(Sl Line)):(Sl Line):=zkD zaa Fuel iv0 zn0
def zG8 (zaa:(Sl Gate)) (iv0:Int) (zn0:(Sl Line)):Bool:=zkE zaa Fuel iv0 zn0
def s80 (zaa:(Sl Gate)):(Sl Line) :=
  (zG7 zaa (0:Int) (⟨0,(fun _=>default)⟩:Sl Line))
def p80 (zaa:(Sl Gate)):Bool :=
  (zG8 zaa (0:Int) (⟨0,(fun _=>default)⟩:Sl Line))
end
section
variable {K:List PA→Prop} {zaa:(Sl Gate)} {iv0:Int} {X0:St→Prop} {P0:Int→Bool} {S0:Int→Bool}
def zkF (zaa:(Sl Gate)) (S0:Int→Bool) (iv0:Int):Bool :=
  (cond (decide (iv0 < (zaa.len : Int)))
 (cond ((zaa.get iv0.toNat).Z != (zaa.get 0).Z)
 false
 (S0 (w64 (iv0+(1:Int)))))
 true)
def zkG (zaa:(Sl Gate)) (P0:Int→Bool) (iv0:Int):Bool :=
  (cond (decide (iv0 < (zaa.len : Int)))
 (decide ((0≤iv0∧iv0 < (zaa.len:Int))) &&
 (decide ((0≤(0:Int)∧(0:Int) < (zaa.len:Int))) &&
 (cond ((zaa.get iv0.toNat).Z != (zaa.get 0).Z)
 true
 (P0 (w64 (iv0+(1:Int)))))))
 true)
def zkH (zaa:(Sl Gate)):Nat→Int→Bool:=lpO (fun _=>default) (zkF zaa)
def zkI (zaa:(Sl Gate)):Nat→Int→Bool:=lpO (fun _=>false) (zkG zaa)
def zG9 (zaa:(Sl Gate)) (iv0:Int):Bool:=zkH zaa Fuel iv0
def zHa (zaa:(Sl Gate)) (iv0:Int):Bool:=zkI zaa Fuel iv0
def s22 (zaa:(Sl Gate)):Bool :=
  (zG9 zaa (1:Int))
def p22 (zaa:(Sl Gate)):Bool :=
  (zHa zaa (1:Int))
end
def zM0 : List PA → COut
  | [.one (.sl a0_n a0_s a0_g)]=>.det (IsE enc_55 3 a0_s a0_g∧p22 (⟨a0_n,zad a0_g⟩:(Sl Gate))=true) [.one (.bool (s22 (⟨a0_n,zad a0_g⟩:(Sl Gate))))]
  | _=>.no
section
variable {K:List PA→Prop} {l_a0:Line} {zaa:(Sl Gate)} {iv0:Int} {X0:St→Prop} {P0:Int→Bool} {S0:Int→Bool} {iv1:Int} {nv1:Int} {dv1:Int}
def ztD (S0:Int→Bool) (l_a0:Line) (zaa:(Sl Gate)) (iv1:Int) (nv1:Int) (dv1:Int):Bool :=
  (cond (nv1 == (w64 ((zaa.get iv1.toNat).Low * dv1)))
 true
 (S0 (w64 (iv1+(1:Int)))))
def ztE (P0:Int→Bool) (l_a0:Line) (zaa:(Sl Gate)) (iv1:Int) (nv1:Int) (dv1:Int):Bool :=
  (decide ((0≤iv1∧iv1 < (zaa.len:Int))) &&
 (cond (nv1 == (w64 ((zaa.get iv1.toNat).Low * dv1)))
 true
 (P0 (w64 (iv1+(1:Int))))))
def zg9 (l_a0:Line) (zaa:(Sl Gate)) (S0:Int→Bool) (iv0:Int):Bool :=
  (cond (decide (iv0 < (zaa.len : Int)))
 (ztD S0 l_a0 zaa iv0 ((zuJ l_a0 ((zaa.get iv0.toNat).Z)).1) ((zuJ l_a0 ((zaa.get iv0.toNat).Z)).2))
 false)
def zha (l_a0:Line) (zaa:(Sl Gate)) (P0:Int→Bool) (iv0:Int):Bool :=
  (cond (decide (iv0 < (zaa.len : Int)))
 (decide ((0≤iv0∧iv0 < (zaa.len:Int))) &&
 (ztE P0 l_a0 zaa iv0 ((zuJ l_a0 ((zaa.get iv0.toNat).Z)).1) ((zuJ l_a0 ((zaa.get iv0.toNat).Z)).2)))
 true)
def zhb (l_a0:Line) (zaa:(Sl Gate)):Nat→Int→Bool:=lpO (fun _=>default) (zg9 l_a0 zaa)
def zhc (l_a0:Line) (zaa:(Sl Gate)):Nat→Int→Bool:=lpO (fun _=>false) (zha l_a0 zaa)
def zBV (l_a0:Line) (zaa:(Sl Gate)) (iv0:Int):Bool:=zhb l_a0 zaa Fuel iv0
def zBW (l_a0:Line) (zaa:(Sl Gate)) (iv0:Int):Bool:=zhc l_a0 zaa Fuel iv0
def zuK (l_a0:Line) (zaa:(Sl Gate)):Bool :=
  (zBV l_a0 zaa (0:Int))
def zHZ (l_a0:Line) (zaa:(Sl Gate)):Bool :=
  (zBW l_a0 zaa (0:Int))
end
def zKG : List PA → COut
  | [.agg [.int .i64 a0_Slope_Num,.int .i64 a0_Slope_Den,.int .i64 a0_Start_Num,.int .i64 a0_Start_Den],.one (.sl a1_n a1_s a1_g)]=>.det (IsE enc_55 3 a1_s a1_g∧zHZ (⟨(⟨a0_Slope_Num,a0_Slope_Den⟩:Frac),(⟨a0_Start_Num,a0_Start_Den⟩:Frac)⟩:Line) (⟨a1_n,zad a1_g⟩:(Sl Gate))=true) [.one (.bool (zuK (⟨(⟨a0_Slope_Num,a0_Slope_Den⟩:Frac),(⟨a0_Start_Num,a0_Start_Den⟩:Frac)⟩:Line) (⟨a1_n,zad a1_g⟩:(Sl Gate))))]
  | _=>.no
section
variable {K:List PA→Prop} {a:Frac} {b:Frac}
def s29 (a:Frac) (b:Frac):Bool :=
  (decide ((w64 (a.Num * b.Den)) < (w64 (b.Num * a.Den))))
end
def zKH : List PA → COut
  | [.agg [.int .i64 a0_Num,.int .i64 a0_Den],.agg [.int .i64 a1_Num,.int .i64 a1_Den]]=>.tot [.one (.bool (s29 (⟨a0_Num,a0_Den⟩:Frac) (⟨a1_Num,a1_Den⟩:Frac)))]
  | _=>.no
abbrev T81:Tabs:=((Tabs.nil.addF 29 zKH).addF 110 zKG)
abbrev G81:Ctrs:=csm T81 (fun _ _=>[]) (fun _=>false)
def zM1:Ann:=⟨30,[(0,zK [2,3,4] [3,4]),(1,zK [2,3,4,13] [3,4]),(2,zK [6] []),(3,zK [3,4,19] [3,4]),(4,zK [6] []),(5,zK [6] [])],
 [],
 [(3,zK [2,3,4] [3,4])],
 [],[]⟩
@[irreducible] def z81:=ptF Try.prog G81 zM1 Try.f81
section
variable {K:List PA→Prop} {a:Line} {b:Line} {zaa:(Sl Gate)}
def zHb (a:Line) (b:Line) (zaa:(Sl Gate)):Bool :=
  (cond (zuK a zaa)
 (s29 a.Slope b.Slope)
 (s29 b.Slope a.Slope))
def zzf (a:Line) (b:Line) (zaa:(Sl Gate)):Bool :=
  (decide ((zHZ a zaa=true)) &&
 true)
def s81 (a:Line) (b:Line) (zaa:(Sl Gate)):Bool :=
  (cond ((zuK a zaa) != (zuK b zaa))
 (zuK a zaa)
 (zHb a b zaa))
def p81 (a:Line) (b:Line) (zaa:(Sl Gate)):Bool :=
  (decide ((zHZ a zaa=true)) &&
 (decide ((zHZ b zaa=true)) &&
 (cond ((zuK a zaa) != (zuK b zaa))
 (decide ((zHZ a zaa=true)) &&
 true)
 (zzf a b zaa))))
end
section
variable {K:List PA→Prop} {zaa:(Sl Gate)} {lv0:(Sl Line)} {zM2:Nat→List PV} {zkJ:(Sl Line)} {iv1:Int} {zM3:Nat→List PV} {X1:St→Prop} {P1:(Sl Line)→Int→Bool} {S1:(Sl Line)→Int→(Sl Line)} {zfb:(Sl Line)} {iv2:Int} {zn1:Int} {zM4:Nat→List PV} {X2:St→Prop} {P2:(Sl Line)→Int→Int→Bool} {S2:(Sl Line)→Int→Int→(Sl Line)} {zb9:(Sl Line)} {iv3:Int} {zcW:Int} {zM5:Nat→List PV}
def zn2 (S1:(Sl Line)→Int→(Sl Line)) (zaa:(Sl Gate)) (lv0:(Sl Line)) (zb9:(Sl Line)) (iv3:Int) (zcW:Int):(Sl Line) :=
  (cond (decide (zcW < (zb9.len : Int)))
 (cond (match (match ((zb9.get zcW.toNat).Slope.Num == (lv0.get iv3.toNat).Slope.Num) with | true => (match ((zb9.get zcW.toNat).Slope.Den == (lv0.get iv3.toNat).Slope.Den) with | true => true | false => false) | false => false) with | true => (match (match ((zb9.get zcW.toNat).Start.Num == (lv0.get iv3.toNat).Start.Num) with | true => (match ((zb9.get zcW.toNat).Start.Den == (lv0.get iv3.toNat).Start.Den) with | true => true | false => false) | false => false) with | true => true | false => false) | false => false)
 (S1 zb9 (w64 (iv3+(1:Int))))
 (S1 (⟨(((zcW - (0:Int)).toNat+1)+((zb9.len:Int) - zcW).toNat),(zdv ((zcW - (0:Int)).toNat+1) (zdv ((zcW - (0:Int)).toNat) (fun i=>zb9.get (i+((0:Int).toNat))) (fun _=>(lv0.get iv3.toNat))) (fun i=>zb9.get (i+zcW.toNat)))⟩:Sl Line) (w64 (iv3+(1:Int)))))
 (S1 (⟨(((zcW - (0:Int)).toNat+1)+((zb9.len:Int) - zcW).toNat),(zdv ((zcW - (0:Int)).toNat+1) (zdv ((zcW - (0:Int)).toNat) (fun i=>zb9.get (i+((0:Int).toNat))) (fun _=>(lv0.get iv3.toNat))) (fun i=>zb9.get (i+zcW.toNat)))⟩:Sl Line) (w64 (iv3+(1:Int)))))
def zn3 (P1:(Sl Line)→Int→Bool) (zaa:(Sl Gate)) (lv0:(Sl Line)) (zb9:(Sl Line)) (iv3:Int) (zcW:Int):Bool :=
  (cond (decide (zcW < (zb9.len : Int)))
 (decide ((0≤zcW∧zcW < (zb9.len:Int))) &&
 (decide ((0≤iv3∧iv3 < (lv0.len:Int))) &&
 (cond (match (match ((zb9.get zcW.toNat).Slope.Num == (lv0.get iv3.toNat).Slope.Num) with | true => (match ((zb9.get zcW.toNat).Slope.Den == (lv0.get iv3.toNat).Slope.Den) with | true => true | false => false) | false => false) with | true => (match (match ((zb9.get zcW.toNat).Start.Num == (lv0.get iv3.toNat).Start.Num) with | true => (match ((zb9.get zcW.toNat).Start.Den == (lv0.get iv3.toNat).Start.Den) with | true => true | false => false) | false => false) with | true => true | false => false) | false => false)
 (P1 zb9 (w64 (iv3+(1:Int))))
 (decide ((0≤(0:Int)∧(0:Int)≤zcW∧zcW≤(zb9.len:Int))) &&
 (decide (((zcW - (0:Int)).toNat * 32≤140737488355328∧(zcW - (0:Int)).toNat≤9223372036854775807)) &&
 (decide ((0≤iv3∧iv3 < (lv0.len:Int))) &&
 (decide ((((zcW - (0:Int)).toNat+1) * 32≤140737488355328∧(zcW - (0:Int)).toNat+1≤9223372036854775807)) &&
 (decide ((0≤zcW∧zcW≤(zb9.len:Int)∧(zb9.len:Int)≤(zb9.len:Int))) &&
 (decide (((((zcW - (0:Int)).toNat+1)+((zb9.len:Int) - zcW).toNat) * 32≤140737488355328∧((zcW - (0:Int)).toNat+1)+((zb9.len:Int) - zcW).toNat≤9223372036854775807)) &&
 (P1 (⟨(((zcW - (0:Int)).toNat+1)+((zb9.len:Int) - zcW).toNat),(zdv ((zcW - (0:Int)).toNat+1) (zdv ((zcW - (0:Int)).toNat) (fun i=>zb9.get (i+((0:Int).toNat))) (fun _=>(lv0.get iv3.toNat))) (fun i=>zb9.get (i+zcW.toNat)))⟩:Sl Line) (w64 (iv3+(1:Int)))))))))))))
 (decide ((0≤(0:Int)∧(0:Int)≤zcW∧zcW≤(zb9.len:Int))) &&
 (decide (((zcW - (0:Int)).toNat * 32≤140737488355328∧(zcW - (0:Int)).toNat≤9223372036854775807)) &&
 (decide ((0≤iv3∧iv3 < (lv0.len:Int))) &&
 (decide ((((zcW - (0:Int)).toNat+1) * 32≤140737488355328∧(zcW - (0:Int)).toNat+1≤9223372036854775807)) &&
 (decide ((0≤zcW∧zcW≤(zb9.len:Int)∧(zb9.len:Int)≤(zb9.len:Int))) &&
 (decide (((((zcW - (0:Int)).toNat+1)+((zb9.len:Int) - zcW).toNat) * 32≤140737488355328∧((zcW - (0:Int)).toNat+1)+((zb9.len:Int) - zcW).toNat≤9223372036854775807)) &&
 (P1 (⟨(((zcW - (0:Int)).toNat+1)+((zb9.len:Int) - zcW).toNat),(zdv ((zcW - (0:Int)).toNat+1) (zdv ((zcW - (0:Int)).toNat) (fun i=>zb9.get (i+((0:Int).toNat))) (fun _=>(lv0.get iv3.toNat))) (fun i=>zb9.get (i+zcW.toNat)))⟩:Sl Line) (w64 (iv3+(1:Int)))))))))))
def zkK (S1:(Sl Line)→Int→(Sl Line)) (zaa:(Sl Gate)) (lv0:(Sl Line)) (S2:(Sl Line)→Int→Int→(Sl Line)) (zfb:(Sl Line)) (iv2:Int) (zn1:Int):(Sl Line) :=
  (cond (decide (zn1 < (zfb.len : Int)))
 (cond (s81 (zfb.get zn1.toNat) (lv0.get iv2.toNat) zaa)
 (S2 zfb iv2 (w64 (zn1+(1:Int))))
 (zn2 S1 zaa lv0 zfb iv2 zn1))
 (zn2 S1 zaa lv0 zfb iv2 zn1))
def zkL (P1:(Sl Line)→Int→Bool) (zaa:(Sl Gate)) (lv0:(Sl Line)) (P2:(Sl Line)→Int→Int→Bool) (zfb:(Sl Line)) (iv2:Int) (zn1:Int):Bool :=
  (cond (decide (zn1 < (zfb.len : Int)))
 (decide ((0≤zn1∧zn1 < (zfb.len:Int))) &&
 (decide ((0≤iv2∧iv2 < (lv0.len:Int))) &&
 (decide ((p81 (zfb.get zn1.toNat) (lv0.get iv2.toNat) zaa=true)) &&
 (cond (s81 (zfb.get zn1.toNat) (lv0.get iv2.toNat) zaa)
 (P2 zfb iv2 (w64 (zn1+(1:Int))))
 (zn3 P1 zaa lv0 zfb iv2 zn1)))))
 (zn3 P1 zaa lv0 zfb iv2 zn1))
def zii (S1:(Sl Line)→Int→(Sl Line)) (zaa:(Sl Gate)) (lv0:(Sl Line)):Nat→(Sl Line)→Int→Int→(Sl Line):=lpO (fun _ _ _=>default) (zkK S1 zaa lv0)
def zkM (P1:(Sl Line)→Int→Bool) (zaa:(Sl Gate)) (lv0:(Sl Line)):Nat→(Sl Line)→Int→Int→Bool:=lpO (fun _ _ _=>false) (zkL P1 zaa lv0)
def zzg (S1:(Sl Line)→Int→(Sl Line)) (zaa:(Sl Gate)) (lv0:(Sl Line)) (zfb:(Sl Line)) (iv2:Int) (zn1:Int):(Sl Line):=zii S1 zaa lv0 Fuel zfb iv2 zn1
def zzh (P1:(Sl Line)→Int→Bool) (zaa:(Sl Gate)) (lv0:(Sl Line)) (zfb:(Sl Line)) (iv2:Int) (zn1:Int):Bool:=zkM P1 zaa lv0 Fuel zfb iv2 zn1
def zkN (zaa:(Sl Gate)) (lv0:(Sl Line)) (S1:(Sl Line)→Int→(Sl Line)) (zkJ:(Sl Line)) (iv1:Int):(Sl Line) :=
  (cond (decide (iv1 < (lv0.len : Int)))
 (cond (decide (((s27 (lv0.get iv1.toNat) zaa).len : Int) < (zaa.len : Int)))
 (S1 zkJ (w64 (iv1+(1:Int))))
 (zzg S1 zaa lv0 zkJ iv1 (0:Int)))
 zkJ)
def zkO (zaa:(Sl Gate)) (lv0:(Sl Line)) (P1:(Sl Line)→Int→Bool) (zkJ:(Sl Line)) (iv1:Int):Bool :=
  (cond (decide (iv1 < (lv0.len : Int)))
 (decide ((0≤iv1∧iv1 < (lv0.len:Int))) &&
 (decide ((p27 (lv0.get iv1.toNat) zaa=true)) &&
 (cond (decide (((s27 (lv0.get iv1.toNat) zaa).len : Int) < (zaa.len : Int)))
 (P1 zkJ (w64 (iv1+(1:Int))))
 (zzh P1 zaa lv0 zkJ iv1 (0:Int)))))
 true)
def zij (zaa:(Sl Gate)) (lv0:(Sl Line)):Nat→(Sl Line)→Int→(Sl Line):=lpO (fun _ _=>default) (zkN zaa lv0)
def zkP (zaa:(Sl Gate)) (lv0:(Sl Line)):Nat→(Sl Line)→Int→Bool:=lpO (fun _ _=>false) (zkO zaa lv0)
def zHc (zaa:(Sl Gate)) (lv0:(Sl Line)) (zkJ:(Sl Line)) (iv1:Int):(Sl Line):=zij zaa lv0 Fuel zkJ iv1
def zHd (zaa:(Sl Gate)) (lv0:(Sl Line)) (zkJ:(Sl Line)) (iv1:Int):Bool:=zkP zaa lv0 Fuel zkJ iv1
def zHe (zaa:(Sl Gate)) (lv0:(Sl Line)):(Sl Line) :=
  (zHc zaa lv0 (⟨0,(fun _=>default)⟩:Sl Line) (0:Int))
def zHf (zaa:(Sl Gate)) (lv0:(Sl Line)):Bool :=
  (zHd zaa lv0 (⟨0,(fun _=>default)⟩:Sl Line) (0:Int))
def s33 (zaa:(Sl Gate)):(Sl Line) :=
  (zHe zaa (s80 zaa))
def p33 (zaa:(Sl Gate)):Bool :=
  (decide ((p80 zaa=true)) &&
 (zHf zaa (s80 zaa)))
end
section
variable {K:List PA→Prop} {zaa:(Sl Gate)} {av0:Int} {bv0:Int} {iv0:Int} {X0:St→Prop} {P0:Int→Int→Int→Bool} {S0:Int→Int→Int→(Int×Int×Bool)}
def zkQ (zaa:(Sl Gate)) (S0:Int→Int→Int→(Int×Int×Bool)) (av0:Int) (bv0:Int) (iv0:Int):(Int×Int×Bool) :=
  (cond (decide (iv0 < (zaa.len : Int)))
 (S0 (if (zaa.get iv0.toNat).Low > av0 then (zaa.get iv0.toNat).Low else av0) (if (zaa.get iv0.toNat).High < bv0 then (zaa.get iv0.toNat).High else bv0) (w64 (iv0+(1:Int))))
 (av0,bv0,(decide (av0≤bv0))))
def zkR (zaa:(Sl Gate)) (P0:Int→Int→Int→Bool) (av0:Int) (bv0:Int) (iv0:Int):Bool :=
  (cond (decide (iv0 < (zaa.len : Int)))
 (decide ((0≤iv0∧iv0 < (zaa.len:Int))) &&
 (decide ((0≤iv0∧iv0 < (zaa.len:Int))) &&
 (P0 (if (zaa.get iv0.toNat).Low > av0 then (zaa.get iv0.toNat).Low else av0) (if (zaa.get iv0.toNat).High < bv0 then (zaa.get iv0.toNat).High else bv0) (w64 (iv0+(1:Int))))))
 true)
def zkS (zaa:(Sl Gate)):Nat→Int→Int→Int→(Int×Int×Bool):=lpO (fun _ _ _=>default) (zkQ zaa)
def zkT (zaa:(Sl Gate)):Nat→Int→Int→Int→Bool:=lpO (fun _ _ _=>false) (zkR zaa)
def zHg (zaa:(Sl Gate)) (av0:Int) (bv0:Int) (iv0:Int):(Int×Int×Bool):=zkS zaa Fuel av0 bv0 iv0
def zHh (zaa:(Sl Gate)) (av0:Int) (bv0:Int) (iv0:Int):Bool:=zkT zaa Fuel av0 bv0 iv0
def s71 (zaa:(Sl Gate)):(Int×Int×Bool) :=
  (zHg zaa ((zaa.get 0).Low) ((zaa.get 0).High) (1:Int))
def p71 (zaa:(Sl Gate)):Bool :=
  (decide ((0≤(0:Int)∧(0:Int) < (zaa.len:Int))) &&
 (decide ((0≤(0:Int)∧(0:Int) < (zaa.len:Int))) &&
 (zHh zaa ((zaa.get 0).Low) ((zaa.get 0).High) (1:Int))))
end
section
variable {K:List PA→Prop} {zaa:(Sl Gate)}
def s21 (zaa:(Sl Gate)):Bool :=
  (cond (s22 zaa)
 ((s71 zaa).2.2)
 (decide (((s33 zaa).len:Int) > (0:Int))))
def p21 (zaa:(Sl Gate)):Bool :=
  (decide ((p22 zaa=true)) &&
 (cond (s22 zaa)
 (decide ((p71 zaa=true)) &&
 true)
 (decide ((p33 zaa=true)) &&
 true)))
end
abbrev T28:Tabs:=((Tabs.nil.addF 40 zrh).addF 73 zBI)
abbrev G28:Ctrs:=csm T28 (fun _ _=>[]) (fun _=>false)
def zM6:Ann:=⟨44,[(0,zK [1,2,4] [2,4]),(1,zK [1,2,4,5] [2,4]),(2,zK [4] [4])],
 [],
 [(2,zK [1,2,4,5] [2,4])],
 [],[]⟩
@[irreducible] def z28:=ptF Try.prog G28 zM6 Try.f28
section
variable {K:List PA→Prop} {l_a0:Line} {z:Int} {dv0:Int}
def zzi (l_a0:Line) (z:Int) (dv0:Int):Frac :=
  (s40 (w64 ((w64 (l_a0.Start.Num * (w64 (dv0.tdiv l_a0.Start.Den))))+(w64 ((w64 (l_a0.Slope.Num * (w64 (dv0.tdiv l_a0.Slope.Den)))) * z)))) dv0)
def zzj (l_a0:Line) (z:Int) (dv0:Int):Bool :=
  (decide ((l_a0.Start.Den ≠ 0)) &&
 (decide ((l_a0.Slope.Den ≠ 0)) &&
 (decide ((p40 (w64 ((w64 (l_a0.Start.Num * (w64 (dv0.tdiv l_a0.Start.Den))))+(w64 ((w64 (l_a0.Slope.Num * (w64 (dv0.tdiv l_a0.Slope.Den)))) * z)))) dv0=true)) &&
 true)))
def s28 (l_a0:Line) (z:Int):Frac :=
  (zzi l_a0 z (w64 ((w64 (l_a0.Start.Den.tdiv (s73 l_a0.Start.Den l_a0.Slope.Den))) * l_a0.Slope.Den)))
def p28 (l_a0:Line) (z:Int):Bool :=
  (decide ((p73 l_a0.Start.Den l_a0.Slope.Den=true)) &&
 (decide (((s73 l_a0.Start.Den l_a0.Slope.Den) ≠ 0)) &&
 (zzj l_a0 z (w64 ((w64 (l_a0.Start.Den.tdiv (s73 l_a0.Start.Den l_a0.Slope.Den))) * l_a0.Slope.Den)))))
end
section
variable {K:List PA→Prop} {zaa:(Sl Gate)} {z:Int} {zzk:Bool} {av1:Int} {bv1:Int} {lv3:(Sl Line)} {zPQ:Nat→List PV} {zBX:Int} {zBY:Int} {zn4:Int} {zn5:Int} {iv5:Int} {zn6:Int} {zn7:Int} {zn8:Int} {zn9:Int} {X5:St→Prop} {P5:Int→Int→Int→Int→Int→Bool} {S5:Int→Int→Int→Int→Int→(Frac×Frac)} {iv6:Int} {zaT:Int} {zaH:Int} {zaV:Int} {zaJ:Int} {zdW:Int} {zdX:Int} {iv7:Int} {zBZ:Bool} {zB0:Int} {zB1:Int} {zlP:Int} {zlQ:Int} {iv8:Int} {zB2:Bool} {zuE:Int} {zuF:Int} {zB3:Int} {zB4:Int}
def zsd (S5:Int→Int→Int→Int→Int→(Frac×Frac)) (z:Int) (lv3:(Sl Line)) (zdW:Int) (zdX:Int) (iv8:Int) (zB2:Bool) (zuE:Int) (zuF:Int) (zB3:Int) (zB4:Int):(Frac×Frac) :=
  (cond zB2
 (S5 (w64 (iv8+(1:Int))) zuE zuF zdW zdX)
 (S5 (w64 (iv8+(1:Int))) zuE zuF zB3 zB4))
def zse (P5:Int→Int→Int→Int→Int→Bool) (z:Int) (lv3:(Sl Line)) (zdW:Int) (zdX:Int) (iv8:Int) (zB2:Bool) (zuE:Int) (zuF:Int) (zB3:Int) (zB4:Int):Bool :=
  (cond zB2
 (P5 (w64 (iv8+(1:Int))) zuE zuF zdW zdX)
 (P5 (w64 (iv8+(1:Int))) zuE zuF zB3 zB4))
def zzl (S5:Int→Int→Int→Int→Int→(Frac×Frac)) (z:Int) (lv3:(Sl Line)) (zdW:Int) (zdX:Int) (iv7:Int) (zBZ:Bool) (zB0:Int) (zB1:Int) (zlP:Int) (zlQ:Int):(Frac×Frac) :=
  (cond zBZ
 (zsd S5 z lv3 zdW zdX iv7 (s29 (⟨zlP,zlQ⟩:Frac) (⟨zdW,zdX⟩:Frac)) zdW zdX zlP zlQ)
 (zsd S5 z lv3 zdW zdX iv7 (s29 (⟨zlP,zlQ⟩:Frac) (⟨zdW,zdX⟩:Frac)) zB0 zB1 zlP zlQ))
def zzm (P5:Int→Int→Int→Int→Int→Bool) (z:Int) (lv3:(Sl Line)) (zdW:Int) (zdX:Int) (iv7:Int) (zBZ:Bool) (zB0:Int) (zB1:Int) (zlP:Int) (zlQ:Int):Bool :=
  (cond zBZ
 (zse P5 z lv3 zdW zdX iv7 (s29 (⟨zlP,zlQ⟩:Frac) (⟨zdW,zdX⟩:Frac)) zdW zdX zlP zlQ)
 (zse P5 z lv3 zdW zdX iv7 (s29 (⟨zlP,zlQ⟩:Frac) (⟨zdW,zdX⟩:Frac)) zB0 zB1 zlP zlQ))
def zzn (S5:Int→Int→Int→Int→Int→(Frac×Frac)) (z:Int) (lv3:(Sl Line)) (iv6:Int) (zaT:Int) (zaH:Int) (zaV:Int) (zaJ:Int) (zdW:Int) (zdX:Int):(Frac×Frac) :=
  (zzl S5 z lv3 zdW zdX iv6 (s29 (⟨zdW,zdX⟩:Frac) (⟨zaT,zaH⟩:Frac)) zaT zaH zaV zaJ)
def zzo (P5:Int→Int→Int→Int→Int→Bool) (z:Int) (lv3:(Sl Line)) (iv6:Int) (zaT:Int) (zaH:Int) (zaV:Int) (zaJ:Int) (zdW:Int) (zdX:Int):Bool :=
  (zzm P5 z lv3 zdW zdX iv6 (s29 (⟨zdW,zdX⟩:Frac) (⟨zaT,zaH⟩:Frac)) zaT zaH zaV zaJ)
def zkU (z:Int) (lv3:(Sl Line)) (S5:Int→Int→Int→Int→Int→(Frac×Frac)) (iv5:Int) (zn6:Int) (zn7:Int) (zn8:Int) (zn9:Int):(Frac×Frac) :=
  (cond (decide (iv5 < (lv3.len : Int)))
 (zzn S5 z lv3 iv5 zn6 zn7 zn8 zn9 ((s28 (lv3.get iv5.toNat) z).Num) ((s28 (lv3.get iv5.toNat) z).Den))
 ((⟨zn6,zn7⟩:Frac),(⟨zn8,zn9⟩:Frac)))
def zkV (z:Int) (lv3:(Sl Line)) (P5:Int→Int→Int→Int→Int→Bool) (iv5:Int) (zn6:Int) (zn7:Int) (zn8:Int) (zn9:Int):Bool :=
  (cond (decide (iv5 < (lv3.len : Int)))
 (decide ((0≤iv5∧iv5 < (lv3.len:Int))) &&
 (decide ((p28 (lv3.get iv5.toNat) z=true)) &&
 (zzo P5 z lv3 iv5 zn6 zn7 zn8 zn9 ((s28 (lv3.get iv5.toNat) z).Num) ((s28 (lv3.get iv5.toNat) z).Den))))
 true)
def zkW (z:Int) (lv3:(Sl Line)):Nat→Int→Int→Int→Int→Int→(Frac×Frac):=lpO (fun _ _ _ _ _=>default) (zkU z lv3)
def zkX (z:Int) (lv3:(Sl Line)):Nat→Int→Int→Int→Int→Int→Bool:=lpO (fun _ _ _ _ _=>false) (zkV z lv3)
def zHi (z:Int) (lv3:(Sl Line)) (iv5:Int) (zn6:Int) (zn7:Int) (zn8:Int) (zn9:Int):(Frac×Frac):=zkW z lv3 Fuel iv5 zn6 zn7 zn8 zn9
def zHj (z:Int) (lv3:(Sl Line)) (iv5:Int) (zn6:Int) (zn7:Int) (zn8:Int) (zn9:Int):Bool:=zkX z lv3 Fuel iv5 zn6 zn7 zn8 zn9
def zHk (z:Int) (lv3:(Sl Line)) (zBX:Int) (zBY:Int) (zn4:Int) (zn5:Int):(Frac×Frac) :=
  (zHi z lv3 (1:Int) zBX zBY zn4 zn5)
def zzp (z:Int) (lv3:(Sl Line)) (zBX:Int) (zBY:Int) (zn4:Int) (zn5:Int):Bool :=
  (zHj z lv3 (1:Int) zBX zBY zn4 zn5)
def zHl (z:Int) (lv3:(Sl Line)):(Frac×Frac) :=
  (zHk z lv3 ((s28 (lv3.get 0) z).Num) ((s28 (lv3.get 0) z).Den) ((s28 (lv3.get 0) z).Num) ((s28 (lv3.get 0) z).Den))
def zzq (z:Int) (lv3:(Sl Line)):Bool :=
  (decide ((0≤(0:Int)∧(0:Int) < (lv3.len:Int))) &&
 (decide ((p28 (lv3.get 0) z=true)) &&
 (decide ((0≤(0:Int)∧(0:Int) < (lv3.len:Int))) &&
 (decide ((p28 (lv3.get 0) z=true)) &&
 (zzp z lv3 ((s28 (lv3.get 0) z).Num) ((s28 (lv3.get 0) z).Den) ((s28 (lv3.get 0) z).Num) ((s28 (lv3.get 0) z).Den))))))
def zsf (zaa:(Sl Gate)) (z:Int):(Frac×Frac) :=
  (zHl z (s33 zaa))
def zsg (zaa:(Sl Gate)) (z:Int):Bool :=
  (decide ((p33 zaa=true)) &&
 (zzq z (s33 zaa)))
def zsh (av1:Int) (bv1:Int):(Frac×Frac) :=
  ((s40 av1 (1:Int)),(s40 bv1 (1:Int)))
def zzr (av1:Int) (bv1:Int):Bool :=
  (decide ((p40 av1 (1:Int)=true)) &&
 (decide ((p40 bv1 (1:Int)=true)) &&
 true))
def zkY (zaa:(Sl Gate)) (z:Int) (zzk:Bool):(Frac×Frac) :=
  (cond zzk
 (zsh ((s71 zaa).1) ((s71 zaa).2.1))
 (zsf zaa z))
def zzs (zaa:(Sl Gate)) (z:Int) (zzk:Bool):Bool :=
  (cond zzk
 (decide ((p71 zaa=true)) &&
 (zzr ((s71 zaa).1) ((s71 zaa).2.1)))
 (zsg zaa z))
def s36 (zaa:(Sl Gate)) (z:Int):(Frac×Frac) :=
  (zkY zaa z (s22 zaa))
def p36 (zaa:(Sl Gate)) (z:Int):Bool :=
  (decide ((p22 zaa=true)) &&
 (zzs zaa z (s22 zaa)))
end
def zM7 : List PA → COut
  | [.one (.sl a0_n a0_s a0_g),.one (.int .i64 a1)]=>.det (IsE enc_55 3 a0_s a0_g∧p36 (⟨a0_n,zad a0_g⟩:(Sl Gate)) a1=true) [.agg [.int .i64 (((s36 (⟨a0_n,zad a0_g⟩:(Sl Gate)) a1).1).Num),.int .i64 (((s36 (⟨a0_n,zad a0_g⟩:(Sl Gate)) a1).1).Den)],.agg [.int .i64 (((s36 (⟨a0_n,zad a0_g⟩:(Sl Gate)) a1).2).Num),.int .i64 (((s36 (⟨a0_n,zad a0_g⟩:(Sl Gate)) a1).2).Den)]]
  | _=>.no
section
variable {K:List PA→Prop} {zaa:(Sl Gate)} {lv0:(Sl Line)} {zM2:Nat→List PV} {iv1:Int} {zaP:Int} {za2:Int} {zoa:Int} {zob:Int} {X1:St→Prop} {P1:Int→Int→Int→Int→Int→Bool} {S1:Int→Int→Int→Int→Int→(Frac×Frac)} {iv2:Int} {zB5:Bool} {zzt:Int} {zzu:Int} {zsi:Int} {zsj:Int} {iv3:Int} {zlR:Int} {zlS:Int} {zuG:Int} {zuH:Int} {iv4:Int} {zzv:Bool} {zn4:Int} {zn5:Int}
def zzw (S1:Int→Int→Int→Int→Int→(Frac×Frac)) (lv0:(Sl Line)) (zlR:Int) (zlS:Int) (iv4:Int) (zzv:Bool) (zn4:Int) (zn5:Int):(Frac×Frac) :=
  (cond zzv
 (S1 (w64 (iv4+(1:Int))) zlR zlS ((lv0.get iv4.toNat).Slope.Num) ((lv0.get iv4.toNat).Slope.Den))
 (S1 (w64 (iv4+(1:Int))) zlR zlS zn4 zn5))
def zzx (P1:Int→Int→Int→Int→Int→Bool) (lv0:(Sl Line)) (zlR:Int) (zlS:Int) (iv4:Int) (zzv:Bool) (zn4:Int) (zn5:Int):Bool :=
  (cond zzv
 (decide ((0≤iv4∧iv4 < (lv0.len:Int))) &&
 (P1 (w64 (iv4+(1:Int))) zlR zlS ((lv0.get iv4.toNat).Slope.Num) ((lv0.get iv4.toNat).Slope.Den)))
 (P1 (w64 (iv4+(1:Int))) zlR zlS zn4 zn5))
def zsk (S1:Int→Int→Int→Int→Int→(Frac×Frac)) (lv0:(Sl Line)) (iv3:Int) (zlR:Int) (zlS:Int) (zuG:Int) (zuH:Int):(Frac×Frac) :=
  (zzw S1 lv0 zlR zlS iv3 (s29 (⟨zuG,zuH⟩:Frac) ((lv0.get iv3.toNat).Slope)) zuG zuH)
def zsl (P1:Int→Int→Int→Int→Int→Bool) (lv0:(Sl Line)) (iv3:Int) (zlR:Int) (zlS:Int) (zuG:Int) (zuH:Int):Bool :=
  (decide ((0≤iv3∧iv3 < (lv0.len:Int))) &&
 (zzx P1 lv0 zlR zlS iv3 (s29 (⟨zuG,zuH⟩:Frac) ((lv0.get iv3.toNat).Slope)) zuG zuH))
def zzy (S1:Int→Int→Int→Int→Int→(Frac×Frac)) (lv0:(Sl Line)) (iv2:Int) (zB5:Bool) (zzt:Int) (zzu:Int) (zsi:Int) (zsj:Int):(Frac×Frac) :=
  (cond zB5
 (zsk S1 lv0 iv2 ((lv0.get iv2.toNat).Slope.Num) ((lv0.get iv2.toNat).Slope.Den) zsi zsj)
 (zsk S1 lv0 iv2 zzt zzu zsi zsj))
def zzz (P1:Int→Int→Int→Int→Int→Bool) (lv0:(Sl Line)) (iv2:Int) (zB5:Bool) (zzt:Int) (zzu:Int) (zsi:Int) (zsj:Int):Bool :=
  (cond zB5
 (decide ((0≤iv2∧iv2 < (lv0.len:Int))) &&
 (zsl P1 lv0 iv2 ((lv0.get iv2.toNat).Slope.Num) ((lv0.get iv2.toNat).Slope.Den) zsi zsj))
 (zsl P1 lv0 iv2 zzt zzu zsi zsj))
def zkZ (lv0:(Sl Line)) (S1:Int→Int→Int→Int→Int→(Frac×Frac)) (iv1:Int) (zaP:Int) (za2:Int) (zoa:Int) (zob:Int):(Frac×Frac) :=
  (cond (decide (iv1 < (lv0.len : Int)))
 (zzy S1 lv0 iv1 (s29 ((lv0.get iv1.toNat).Slope) (⟨zaP,za2⟩:Frac)) zaP za2 zoa zob)
 ((⟨zaP,za2⟩:Frac),(⟨zoa,zob⟩:Frac)))
def zk0 (lv0:(Sl Line)) (P1:Int→Int→Int→Int→Int→Bool) (iv1:Int) (zaP:Int) (za2:Int) (zoa:Int) (zob:Int):Bool :=
  (cond (decide (iv1 < (lv0.len : Int)))
 (decide ((0≤iv1∧iv1 < (lv0.len:Int))) &&
 (zzz P1 lv0 iv1 (s29 ((lv0.get iv1.toNat).Slope) (⟨zaP,za2⟩:Frac)) zaP za2 zoa zob))
 true)
def zk1 (lv0:(Sl Line)):Nat→Int→Int→Int→Int→Int→(Frac×Frac):=lpO (fun _ _ _ _ _=>default) (zkZ lv0)
def zk2 (lv0:(Sl Line)):Nat→Int→Int→Int→Int→Int→Bool:=lpO (fun _ _ _ _ _=>false) (zk0 lv0)
def zHm (lv0:(Sl Line)) (iv1:Int) (zaP:Int) (za2:Int) (zoa:Int) (zob:Int):(Frac×Frac):=zk1 lv0 Fuel iv1 zaP za2 zoa zob
def zHn (lv0:(Sl Line)) (iv1:Int) (zaP:Int) (za2:Int) (zoa:Int) (zob:Int):Bool:=zk2 lv0 Fuel iv1 zaP za2 zoa zob
def zHo (lv0:(Sl Line)):(Frac×Frac) :=
  (zHm lv0 (1:Int) ((lv0.get 0).Slope.Num) ((lv0.get 0).Slope.Den) ((lv0.get 0).Slope.Num) ((lv0.get 0).Slope.Den))
def zzA (lv0:(Sl Line)):Bool :=
  (decide ((0≤(0:Int)∧(0:Int) < (lv0.len:Int))) &&
 (decide ((0≤(0:Int)∧(0:Int) < (lv0.len:Int))) &&
 (zHn lv0 (1:Int) ((lv0.get 0).Slope.Num) ((lv0.get 0).Slope.Den) ((lv0.get 0).Slope.Num) ((lv0.get 0).Slope.Den))))
def s37 (zaa:(Sl Gate)):(Frac×Frac) :=
  (zHo (s33 zaa))
def p37 (zaa:(Sl Gate)):Bool :=
  (decide ((p33 zaa=true)) &&
 (zzA (s33 zaa)))
end
section
variable {K:List PA→Prop} {f:Frac}
end
abbrev T48:Tabs:=((((((Tabs.nil.addF 67 zpe).addF 68 zwB).addF 69 zqx).addF 75 zuC).addF 87 zBw).addF 89 zqw)
abbrev G48:Ctrs:=csm T48 (fun _ _=>[]) (fun _=>false)
def zM8:Ann:=⟨72,[(0,zK [0,3] [3]),(1,zK [0,3,14] [3]),(2,zK [4,5] []),(3,zK [3,6,7] [3,6]),(4,zK [3,6,7,21] [3,6]),(5,zK [4,5] []),(6,zK [3,6,36] [3,6]),(7,zK [4,5] []),(8,zK [3,8,9] [3,8,9]),(9,zK [8,9,10,11] [8,9,10,11]),(10,zK [8,9,10,11,50] [8,9,10,11]),(11,zK [4,5] []),(12,zK [61] []),(13,zK [4,5] []),(14,zK [4,5] [])],
 [],
 [(2,zK [0,3,14] [3]),(3,zK [0,3] [3]),(4,zK [3,6,7] [3,6]),(6,zK [3,6] [3,6]),(7,zK [3,6,36] [3,6]),(8,zK [3,6] [3,6]),(9,zK [3,8,9] [3,8,9]),(10,zK [8,9,10,11] [8,9,10,11]),(11,zK [8,9,10,11,50] [8,9,10,11]),(13,zK [61] [])],
 [],[]⟩
@[irreducible] def z48:=ptF Try.prog G48 zM8 Try.f48
section
variable {K:List PA→Prop} {zaa:(Sl Gate)} {g:Gate} {zah:Bool} {ev2:Int} {zno:(Sl Gate)} {znp:(Sl straight)} {zqT:Nat→List PV} {zqU:Nat→List PV} {zhL:(Sl Gate)} {zhM:(Sl straight)} {zqV:Nat→List PV} {zqW:Nat→List PV} {zPR:Bool} {zPS:(Sl Gate)} {zPT:(Sl straight)} {zM9:Nat→List PV} {zNa:Nat→List PV} {zPU:(Sl Gate)} {zPV:(Sl straight)} {zNb:Nat→List PV} {zNc:Nat→List PV} {zaT:Int} {zaH:Int} {zaV:Int} {zaJ:Int} {zNd:Int} {zNe:Int} {zLl:Int} {zLm:Int} {zPW:Bool} {zPX:Bool}
end
abbrev T50:Tabs:=((((Tabs.nil.addF 22 zM0).addF 29 zKH).addF 36 zM7).addF 40 zrh)
abbrev G50:Ctrs:=csm T50 (fun _ _=>[]) (fun _=>false)
def zNf:Ann:=⟨51,[(0,zK [0,3] [3]),(1,zK [0,3,19] [3]),(2,zK [4] []),(3,zK [3,5,6] [3,5,6]),(4,zK [5,6,7,8] [5,6,7,8]),(5,zK [5,6,7,8,42] [5,6,7,8]),(6,zK [4] []),(7,zK [50] []),(8,zK [4] []),(9,zK [4] [])],
 [],
 [(2,zK [0,3,19] [3]),(3,zK [0,3] [3]),(4,zK [3,5,6] [3,5,6]),(5,zK [5,6,7,8] [5,6,7,8]),(6,zK [5,6,7,8,42] [5,6,7,8]),(8,zK [50] [])],
 [],[]⟩
@[irreducible] def z50:=ptF Try.prog G50 zNf Try.f50
section
variable {K:List PA→Prop} {zaa:(Sl Gate)} {g:Gate} {zPY:Bool} {zzt:Int} {zzu:Int} {zsi:Int} {zsj:Int} {zN8:Int} {zN9:Int} {zOa:Int} {zOb:Int} {zzv:Bool} {zPZ:Bool}
end
section
variable {K:List PA→Prop} {z:Int} {x:Int} {w:Int} {y_a3:Int}
end
section
variable {K:List PA→Prop} {zaa:(Sl Gate)} {set_a1:(Sl Int)} {zNg:(Sl Int)} {zzk:Bool} {zHp:Nat→List PV} {zNh:(Sl Int)} {zHq:Nat→List PV} {zP0:(Sl Int)} {zdl:(Sl Int)} {zP1:Int} {zch:Int} {zNi:Nat→List PV} {zNj:Nat→List PV} {X2:St→Prop} {P2:(Sl Int)→(Sl Int)→Int→Int→Bool} {S2:(Sl Int)→(Sl Int)→Int→Int→Bool} {zP2:(Sl Int)} {zd5:(Sl Int)} {zP3:Int} {zP4:Int} {zP5:Bool} {zNk:Nat→List PV} {zNl:Nat→List PV}
end
section
variable {K:List PA→Prop} {zaa:(Sl Gate)} {set_a1:(Sl Int)} {iv0:Int} {zdm:(Sl Gate)} {zG4:Nat→List PV} {X0:St→Prop} {P0:Int→(Sl Gate)→Bool} {S0:Int→(Sl Gate)→(Sl Gate)}
def zk3 (zaa:(Sl Gate)) (set_a1:(Sl Int)) (S0:Int→(Sl Gate)→(Sl Gate)) (iv0:Int) (zdm:(Sl Gate)):(Sl Gate) :=
  (cond (decide (iv0 < (set_a1.len : Int)))
 (S0 (w64 (iv0+(1:Int))) (⟨(zdm.len+1),(zdv zdm.len zdm.get (fun _=>(zaa.get ((set_a1.get iv0.toNat).toNat))))⟩:Sl Gate))
 zdm)
def zk4 (zaa:(Sl Gate)) (set_a1:(Sl Int)) (P0:Int→(Sl Gate)→Bool) (iv0:Int) (zdm:(Sl Gate)):Bool :=
  (cond (decide (iv0 < (set_a1.len : Int)))
 (decide ((0≤iv0∧iv0 < (set_a1.len:Int))) &&
 (decide ((0≤(set_a1.get iv0.toNat)∧(set_a1.get iv0.toNat) < (zaa.len:Int))) &&
 (decide (((zdm.len+1) * 24≤140737488355328∧zdm.len+1≤9223372036854775807)) &&
 (P0 (w64 (iv0+(1:Int))) (⟨(zdm.len+1),(zdv zdm.len zdm.get (fun _=>(zaa.get ((set_a1.get iv0.toNat).toNat))))⟩:Sl Gate)))))
 true)
def zk5 (zaa:(Sl Gate)) (set_a1:(Sl Int)):Nat→Int→(Sl Gate)→(Sl Gate):=lpO (fun _ _=>default) (zk3 zaa set_a1)
def zk6 (zaa:(Sl Gate)) (set_a1:(Sl Int)):Nat→Int→(Sl Gate)→Bool:=lpO (fun _ _=>false) (zk4 zaa set_a1)
def zHr (zaa:(Sl Gate)) (set_a1:(Sl Int)) (iv0:Int) (zdm:(Sl Gate)):(Sl Gate):=zk5 zaa set_a1 Fuel iv0 zdm
def zHs (zaa:(Sl Gate)) (set_a1:(Sl Int)) (iv0:Int) (zdm:(Sl Gate)):Bool:=zk6 zaa set_a1 Fuel iv0 zdm
def s47 (zaa:(Sl Gate)) (set_a1:(Sl Int)):(Sl Gate) :=
  (zHr zaa set_a1 (0:Int) (⟨0,(fun _=>default)⟩:Sl Gate))
def p47 (zaa:(Sl Gate)) (set_a1:(Sl Int)):Bool :=
  (zHs zaa set_a1 (0:Int) (⟨0,(fun _=>default)⟩:Sl Gate))
end
section
variable {K:List PA→Prop} {zaa:(Sl Gate)} {set_a1:(Sl Int)} {zNg:(Sl Int)} {iv0:Int} {zHp:Nat→List PV} {X0:St→Prop} {P0:(Sl Int)→Int→Bool} {S0:(Sl Int)→Int→Bool} {zNh:(Sl Int)} {iv1:Int} {zP6:Bool} {zHq:Nat→List PV}
end
section
variable {K:List PA→Prop} {zaa:(Sl Gate)} {iv0:Int} {X0:St→Prop} {P0:Int→Bool} {S0:Int→(Sl Int)} {iv1:Int} {kv1:Int} {X1:St→Prop} {P1:Int→Int→Bool} {S1:Int→Int→(Sl Int)} {iv3:Int} {kv3:Int} {zB6:Bool} {iv4:Int} {X4:St→Prop} {P4:Int→Bool} {S4:Int→(Sl Int)} {iv5:Int} {kv5:Int} {X5:St→Prop} {P5:Int→Int→Bool} {S5:Int→Int→(Sl Int)} {iv6:Int} {kv6:Int} {jv6:Int} {X6:St→Prop} {P6:Int→Int→Int→Bool} {S6:Int→Int→Int→(Sl Int)} {iv7:Int} {kv7:Int} {jv7:Int} {zB7:Bool}
def zzB (S4:Int→(Sl Int)) (S5:Int→Int→(Sl Int)) (S6:Int→Int→Int→(Sl Int)) (zaa:(Sl Gate)) (iv7:Int) (kv7:Int) (jv7:Int) (zB7:Bool):(Sl Int) :=
  (cond zB7
 (⟨3,(zhn iv7 [iv7,kv7,jv7])⟩:(Sl Int))
 (S6 iv7 kv7 (w64 (jv7+(1:Int)))))
def zzC (P4:Int→Bool) (P5:Int→Int→Bool) (P6:Int→Int→Int→Bool) (zaa:(Sl Gate)) (iv7:Int) (kv7:Int) (jv7:Int) (zB7:Bool):Bool :=
  (cond zB7
 true
 (P6 iv7 kv7 (w64 (jv7+(1:Int)))))
def zk7 (S4:Int→(Sl Int)) (S5:Int→Int→(Sl Int)) (zaa:(Sl Gate)) (S6:Int→Int→Int→(Sl Int)) (iv6:Int) (kv6:Int) (jv6:Int):(Sl Int) :=
  (cond (decide (jv6 < (zaa.len : Int)))
 (zzB S4 S5 S6 zaa iv6 kv6 jv6 (!(s21 (s47 zaa (⟨3,zbN (zcK [(zaj iv6),(zaj kv6),(zaj jv6)])⟩:(Sl Int))))))
 (S5 iv6 (w64 (kv6+(1:Int)))))
def zk8 (P4:Int→Bool) (P5:Int→Int→Bool) (zaa:(Sl Gate)) (P6:Int→Int→Int→Bool) (iv6:Int) (kv6:Int) (jv6:Int):Bool :=
  (cond (decide (jv6 < (zaa.len : Int)))
 (decide ((p47 zaa (⟨3,zbN (zcK [(zaj iv6),(zaj kv6),(zaj jv6)])⟩:(Sl Int))=true)) &&
 (decide ((p21 (s47 zaa (⟨3,zbN (zcK [(zaj iv6),(zaj kv6),(zaj jv6)])⟩:(Sl Int)))=true)) &&
 (zzC P4 P5 P6 zaa iv6 kv6 jv6 (!(s21 (s47 zaa (⟨3,zbN (zcK [(zaj iv6),(zaj kv6),(zaj jv6)])⟩:(Sl Int))))))))
 (P5 iv6 (w64 (kv6+(1:Int)))))
def zk9 (S4:Int→(Sl Int)) (S5:Int→Int→(Sl Int)) (zaa:(Sl Gate)):Nat→Int→Int→Int→(Sl Int):=lpO (fun _ _ _=>default) (zk7 S4 S5 zaa)
def zla (P4:Int→Bool) (P5:Int→Int→Bool) (zaa:(Sl Gate)):Nat→Int→Int→Int→Bool:=lpO (fun _ _ _=>false) (zk8 P4 P5 zaa)
def zzD (S4:Int→(Sl Int)) (S5:Int→Int→(Sl Int)) (zaa:(Sl Gate)) (iv6:Int) (kv6:Int) (jv6:Int):(Sl Int):=zk9 S4 S5 zaa Fuel iv6 kv6 jv6
def zzE (P4:Int→Bool) (P5:Int→Int→Bool) (zaa:(Sl Gate)) (iv6:Int) (kv6:Int) (jv6:Int):Bool:=zla P4 P5 zaa Fuel iv6 kv6 jv6
def zlb (S4:Int→(Sl Int)) (zaa:(Sl Gate)) (S5:Int→Int→(Sl Int)) (iv5:Int) (kv5:Int):(Sl Int) :=
  (cond (decide (kv5 < (zaa.len : Int)))
 (zzD S4 S5 zaa iv5 kv5 (w64 (kv5+(1:Int))))
 (S4 (w64 (iv5+(1:Int)))))
def zlc (P4:Int→Bool) (zaa:(Sl Gate)) (P5:Int→Int→Bool) (iv5:Int) (kv5:Int):Bool :=
  (cond (decide (kv5 < (zaa.len : Int)))
 (zzE P4 P5 zaa iv5 kv5 (w64 (kv5+(1:Int))))
 (P4 (w64 (iv5+(1:Int)))))
def zld (S4:Int→(Sl Int)) (zaa:(Sl Gate)):Nat→Int→Int→(Sl Int):=lpO (fun _ _=>default) (zlb S4 zaa)
def zle (P4:Int→Bool) (zaa:(Sl Gate)):Nat→Int→Int→Bool:=lpO (fun _ _=>false) (zlc P4 zaa)
def zzF (S4:Int→(Sl Int)) (zaa:(Sl Gate)) (iv5:Int) (kv5:Int):(Sl Int):=zld S4 zaa Fuel iv5 kv5
def zzG (P4:Int→Bool) (zaa:(Sl Gate)) (iv5:Int) (kv5:Int):Bool:=zle P4 zaa Fuel iv5 kv5
def zlf (zaa:(Sl Gate)) (S4:Int→(Sl Int)) (iv4:Int):(Sl Int) :=
  (cond (decide (iv4 < (zaa.len : Int)))
 (zzF S4 zaa iv4 (w64 (iv4+(1:Int))))
 (⟨0,fun _=>default⟩:(Sl Int)))
def zlg (zaa:(Sl Gate)) (P4:Int→Bool) (iv4:Int):Bool :=
  (cond (decide (iv4 < (zaa.len : Int)))
 (zzG P4 zaa iv4 (w64 (iv4+(1:Int))))
 true)
def zlh (zaa:(Sl Gate)):Nat→Int→(Sl Int):=lpO (fun _=>default) (zlf zaa)
def zli (zaa:(Sl Gate)):Nat→Int→Bool:=lpO (fun _=>false) (zlg zaa)
def zHt (zaa:(Sl Gate)) (iv4:Int):(Sl Int):=zlh zaa Fuel iv4
def zHu (zaa:(Sl Gate)) (iv4:Int):Bool:=zli zaa Fuel iv4
def zzH (S0:Int→(Sl Int)) (S1:Int→Int→(Sl Int)) (zaa:(Sl Gate)) (iv3:Int) (kv3:Int) (zB6:Bool):(Sl Int) :=
  (cond zB6
 (⟨2,(zhn iv3 [iv3,kv3])⟩:(Sl Int))
 (S1 iv3 (w64 (kv3+(1:Int)))))
def zzI (P0:Int→Bool) (P1:Int→Int→Bool) (zaa:(Sl Gate)) (iv3:Int) (kv3:Int) (zB6:Bool):Bool :=
  (cond zB6
 true
 (P1 iv3 (w64 (kv3+(1:Int)))))
def zHv (zaa:(Sl Gate)):(Sl Int) :=
  (zHt zaa (0:Int))
def zHw (zaa:(Sl Gate)):Bool :=
  (zHu zaa (0:Int))
def zlj (S0:Int→(Sl Int)) (zaa:(Sl Gate)) (S1:Int→Int→(Sl Int)) (iv1:Int) (kv1:Int):(Sl Int) :=
  (cond (decide (kv1 < (zaa.len : Int)))
 (zzH S0 S1 zaa iv1 kv1 (!(s21 (s47 zaa (⟨2,zbN (zcK [(zaj iv1),(zaj kv1)])⟩:(Sl Int))))))
 (S0 (w64 (iv1+(1:Int)))))
def zlk (P0:Int→Bool) (zaa:(Sl Gate)) (P1:Int→Int→Bool) (iv1:Int) (kv1:Int):Bool :=
  (cond (decide (kv1 < (zaa.len : Int)))
 (decide ((p47 zaa (⟨2,zbN (zcK [(zaj iv1),(zaj kv1)])⟩:(Sl Int))=true)) &&
 (decide ((p21 (s47 zaa (⟨2,zbN (zcK [(zaj iv1),(zaj kv1)])⟩:(Sl Int)))=true)) &&
 (zzI P0 P1 zaa iv1 kv1 (!(s21 (s47 zaa (⟨2,zbN (zcK [(zaj iv1),(zaj kv1)])⟩:(Sl Int))))))))
 (P0 (w64 (iv1+(1:Int)))))
def zll (S0:Int→(Sl Int)) (zaa:(Sl Gate)):Nat→Int→Int→(Sl Int):=lpO (fun _ _=>default) (zlj S0 zaa)
def zlm (P0:Int→Bool) (zaa:(Sl Gate)):Nat→Int→Int→Bool:=lpO (fun _ _=>false) (zlk P0 zaa)
def zzJ (S0:Int→(Sl Int)) (zaa:(Sl Gate)) (iv1:Int) (kv1:Int):(Sl Int):=zll S0 zaa Fuel iv1 kv1
def zzK (P0:Int→Bool) (zaa:(Sl Gate)) (iv1:Int) (kv1:Int):Bool:=zlm P0 zaa Fuel iv1 kv1
def zln (zaa:(Sl Gate)) (S0:Int→(Sl Int)) (iv0:Int):(Sl Int) :=
  (cond (decide (iv0 < (zaa.len : Int)))
 (zzJ S0 zaa iv0 (w64 (iv0+(1:Int))))
 (zHv zaa))
def zlo (zaa:(Sl Gate)) (P0:Int→Bool) (iv0:Int):Bool :=
  (cond (decide (iv0 < (zaa.len : Int)))
 (zzK P0 zaa iv0 (w64 (iv0+(1:Int))))
 (zHw zaa))
def zlp (zaa:(Sl Gate)):Nat→Int→(Sl Int):=lpO (fun _=>default) (zln zaa)
def zlq (zaa:(Sl Gate)):Nat→Int→Bool:=lpO (fun _=>false) (zlo zaa)
def zHx (zaa:(Sl Gate)) (iv0:Int):(Sl Int):=zlp zaa Fuel iv0
def zHy (zaa:(Sl Gate)) (iv0:Int):Bool:=zlq zaa Fuel iv0
def s43 (zaa:(Sl Gate)):(Sl Int) :=
  (zHx zaa (0:Int))
def p43 (zaa:(Sl Gate)):Bool :=
  (zHy zaa (0:Int))
end
end Go.Proofs
namespace Go.Pm
open Go
theorem zaD {i n:Nat} (h:i < n) (hn:n≤9223372036854775807):w64 ((i:Int)+(1:Int))=((i+1:Nat):Int):=by
 rw [zaC (by omega) (by omega)];omega
theorem zzL {β : Type} {good : Nat → Bool} {bad fin : β} {finP : Bool} {n : Nat} {lpS : Nat → Int → β} {lpP : Nat → Int → Bool}
    (hS:∀ (k i:Nat),i < n→lpS (k+1) (i:Int)=cond (good i) (lpS k (w64 ((i:Int)+(1:Int)))) bad)
    (hE:∀ k,lpS (k+1) (n:Int)=fin)
    (hP:∀ (k i:Nat),i < n→lpP (k+1) (i:Int)=cond (good i) (lpP k (w64 ((i:Int)+(1:Int)))) true)
    (hPE:∀ k,lpP (k+1) (n:Int)=finP) (hn:n≤9223372036854775807) :
    ((∀ i,i < n→good i=true)→lpP Fuel 0=finP∧lpS Fuel 0=fin)∧((¬ ∀ i,i < n→good i=true)→lpP Fuel 0=true∧lpS Fuel 0=bad):=by
  have key:∀ (m k i:Nat),i+m=n→m < k→((∀ j,i≤j→j < n→good j=true)→lpP k (i:Int)=finP∧lpS k (i:Int)=fin)∧((¬ ∀ j,i≤j→j < n→good j=true)→lpP k (i:Int)=true∧lpS k (i:Int)=bad):=by
    intro m
    induction m with
    | zero =>
      intro k i hi hk
      obtain ⟨k,rfl⟩:∃ k',k=k'+1:=⟨k - 1,by omega⟩
      have:i=n:=by omega
      subst this
      rw [hE,hPE]
      exact ⟨fun _=>⟨rfl,rfl⟩,fun h=>absurd (fun j h1 h2=>absurd h2 (by omega)) h⟩
    | succ m ih =>
      intro k i hi hk
      obtain ⟨k,rfl⟩:∃ k',k=k'+1:=⟨k - 1,by omega⟩
      rw [hS k i (by omega),hP k i (by omega),zaD (n:=n) (by omega) hn]
      obtain ⟨h1,h2⟩:=ih k (i+1) (by omega) (by omega)
      cases hg:good i
      · refine ⟨fun h => ?_, fun _ => ⟨rfl, rfl⟩⟩
        have:=h i (Nat.le_refl _) (by omega)
        rw [hg] at this;cases this
      · refine ⟨fun h => h1 fun j a b => h j (by omega) b, fun h => h2 fun h' => h fun j a b => ?_⟩
        by_cases hji:j=i
        · rw [hji];exact hg
        · exact h' j (by omega) b
  have:=key n Fuel 0 (by omega) (by simp only [Fuel];omega)
  simpa using this
def zhd {σ : Type} (step : Nat → σ → σ) : Nat → Nat → σ → σ
  | 0,_,s=>s
  | m+1,i,s=>zhd step m (i+1) (step i s)
theorem zfC {σ β : Type} {step : Nat → σ → σ} {E : σ → β} {EP : σ → Bool} {Inv : Nat → σ → Prop} {a n : Nat} {lpS : Nat → σ → Int → β} {lpP : Nat → σ → Int → Bool}
    (hS:∀ (k i:Nat) (s:σ),a≤i→i < n→Inv i s→lpS (k+1) s (i:Int)=lpS k (step i s) (w64 ((i:Int)+(1:Int))))
    (hE:∀ k s,lpS (k+1) s (n:Int)=E s)
    (hP:∀ (k i:Nat) (s:σ),a≤i→i < n→Inv i s→lpP (k+1) s (i:Int)=lpP k (step i s) (w64 ((i:Int)+(1:Int))))
    (hPE:∀ k s,lpP (k+1) s (n:Int)=EP s)
    (hI:∀ i s,a≤i→i < n→Inv i s→Inv (i+1) (step i s)) (ha:a≤n) (hn:n≤9223372036854775807) (s:σ) (h0:Inv a s) :
    lpP Fuel s (a:Int)=EP (zhd step (n - a) a s)∧lpS Fuel s (a:Int)=E (zhd step (n - a) a s):=by
  have key:∀ (m k i:Nat) (s:σ),a≤i→i+m=n→m < k→Inv i s→lpP k s (i:Int)=EP (zhd step m i s)∧lpS k s (i:Int)=E (zhd step m i s):=by
    intro m
    induction m with
    | zero =>
      intro k i s h1 hi hk _
      obtain ⟨k,rfl⟩:∃ k',k=k'+1:=⟨k - 1,by omega⟩
      have:i=n:=by omega
      subst this
      rw [hE,hPE]
      exact ⟨rfl,rfl⟩
    | succ m ih =>
      intro k i s h1 hi hk hs
      obtain ⟨k,rfl⟩:∃ k',k=k'+1:=⟨k - 1,by omega⟩
      rw [hS k i s h1 (by omega) hs,hP k i s h1 (by omega) hs,zaD (n:=n) (by omega) hn]
      exact ih k (i+1) (step i s) (by omega) (by omega) (by omega) (hI i s h1 (by omega) hs)
  exact key (n - a) Fuel a s (Nat.le_refl _) (by omega) (by simp only [Fuel];omega) h0
end Go.Pm
namespace Go.Proofs
open Go Go.Pm
set_option maxRecDepth 100000
theorem ztF (n a b:Int):s70 n a b=decide (a≤n∧n≤b):=by
 unfold s70;by_cases h:n ≥ a
 ·rw [decide_eq_true h,cond_true];exact decide_eq_decide.2 ⟨fun k=>⟨h,k⟩,fun k=>k.2⟩
 ·rw [decide_eq_false h,cond_false];exact (decide_eq_false fun k=>h k.1).symm
theorem zpy (n a b:Int):s74 n a b=decide (a≤n∧n≤b):=ztF n a b
def zez (g:Gate):Prop:=(0≤g.Z∧g.Z≤100000)∧-1000000≤g.Low∧g.Low≤g.High∧g.High≤1000000
def zak (l:Sl Gate):Prop:=(∀ i,i < l.len→zez (l.get i))∧1≤l.len∧l.len≤24
theorem zfT (a b:Bool):cond a b false=(a && b):=by cases a <;> rfl
theorem zDn (g:Gate):s87 g=true↔zez g:=by
 unfold s87 zez
 rw [zpy,zfT,zfT,zfT,Bool.and_eq_true,Bool.and_eq_true,Bool.and_eq_true,decide_eq_true_eq,decide_eq_true_eq,decide_eq_true_eq,decide_eq_true_eq]
theorem zDo (g:Gate):s49 g=true↔zez g:=by
 unfold s49 zez
 rw [ztF,ztF,zfT,zfT,Bool.and_eq_true,Bool.and_eq_true,decide_eq_true_eq,decide_eq_true_eq,decide_eq_true_eq]
 omega
theorem zpz (l:Sl Gate) (hn:l.len≤9223372036854775807):p64 l=true∧(s64 l=true↔zak l):=by
  have := zsY (good := fun i => s87 (l.get i)) (fin := s74 (l.len : Int) 1 24) (n := l.len) (lpS := zhI l) (lpP := zhJ l)
    (fun k i hi=>by
      show zhG l (zhI l k) (i:Int)=_
      generalize zhI l k=S
      unfold zhG zqJ
      rw [decide_eq_true (show (i:Int) < (l.len:Int) by omega),cond_true,Int.toNat_natCast]
      cases s87 (l.get i) <;> rfl)
    (fun k=>by
      show zhG l (zhI l k) (l.len:Int)=_
      unfold zhG
      rw [decide_eq_false (show ¬ (l.len:Int) < (l.len:Int) by omega),cond_false])
    (fun k i hi=>by
      show zhH l (zhJ l k) (i:Int)=_
      generalize zhJ l k=S
      unfold zhH zqK
      rw [decide_eq_true (show (i:Int) < (l.len:Int) by omega),cond_true,Int.toNat_natCast,decide_eq_true (show 0≤(i:Int)∧(i:Int) < (l.len:Int) by omega),Bool.true_and]
      cases s87 (l.get i) <;> rfl)
    (fun k=>by
      show zhH l (zhJ l k) (l.len:Int)=_
      unfold zhH
      rw [decide_eq_false (show ¬ (l.len:Int) < (l.len:Int) by omega),cond_false])
    hn
  refine ⟨this.1,this.2.trans ?_⟩
  rw [zpy,decide_eq_true_eq]
  exact ⟨fun k=>⟨fun i hi=>(zDn _).1 (k.1 i hi),by omega,by omega⟩,fun k=>⟨fun i hi=>(zDn _).2 (k.1 i hi),by have:=k.2;omega⟩⟩
theorem ztG (l:Sl Gate) (hn:l.len≤9223372036854775807):p20 l=true∧(s20 l=true↔zak l):=by
  have := zsY (good := fun i => s49 (l.get i)) (fin := s70 (l.len : Int) 1 24) (n := l.len) (lpS := zib l) (lpP := zic l)
    (fun k i hi=>by
      show zh9 l (zib l k) (i:Int)=_
      generalize zib l k=S
      unfold zh9 zrY
      rw [decide_eq_true (show (i:Int) < (l.len:Int) by omega),cond_true,Int.toNat_natCast]
      cases s49 (l.get i) <;> rfl)
    (fun k=>by
      show zh9 l (zib l k) (l.len:Int)=_
      unfold zh9
      rw [decide_eq_false (show ¬ (l.len:Int) < (l.len:Int) by omega),cond_false])
    (fun k i hi=>by
      show zia l (zic l k) (i:Int)=_
      generalize zic l k=S
      unfold zia zrZ
      rw [decide_eq_true (show (i:Int) < (l.len:Int) by omega),cond_true,Int.toNat_natCast,decide_eq_true (show 0≤(i:Int)∧(i:Int) < (l.len:Int) by omega),Bool.true_and]
      cases s49 (l.get i) <;> rfl)
    (fun k=>by
      show zia l (zic l k) (l.len:Int)=_
      unfold zia
      rw [decide_eq_false (show ¬ (l.len:Int) < (l.len:Int) by omega),cond_false])
    hn
  refine ⟨this.1,this.2.trans ?_⟩
  rw [ztF,decide_eq_true_eq]
  exact ⟨fun k=>⟨fun i hi=>(zDo _).1 (k.1 i hi),by omega,by omega⟩,fun k=>⟨fun i hi=>(zDo _).2 (k.1 i hi),by have:=k.2;omega⟩⟩
theorem zKI (l:Sl Gate) (hn:l.len≤9223372036854775807):s64 l=s20 l :=
 Bool.eq_iff_iff.2 ((zpz l hn).2.trans (ztG l hn).2.symm)
-- the greatest common divisor
theorem zzM:∀ (k:Nat) (a b:Int),0≤a→0≤b→b < (k:Int) →
  (ziX k a b=true∧ziW k a b=(Int.gcd a b:Int))∧(znG k a b=true∧znF k a b=(Int.gcd a b:Int)):=by
 intro k
 induction k with
 | zero=>intro a b _ h1 h2;omega
 | succ k ih =>
  intro a b ha hb hk
  show (ziV (ziX k) a b=true∧ziU (ziW k) a b=_)∧(znE (znG k) a b=true∧znD (znF k) a b=_)
  unfold ziV ziU znE znD
  by_cases h0:b=0
  ·subst h0
   simp [Int.natAbs_of_nonneg ha]
  ·have hb0 : b > 0 := by omega
   have e1:(b != (0:Int))=true:=by simpa using h0
   have m0:0≤a.tmod b:=Int.tmod_nonneg b ha
   have m1:a.tmod b < b:=Int.tmod_lt_of_pos a hb0
   have g:Int.gcd b (a.tmod b)=Int.gcd a b:=by
    obtain ⟨m,rfl⟩:=Int.eq_ofNat_of_zero_le ha
    obtain ⟨n,rfl⟩:=Int.eq_ofNat_of_zero_le hb
    show Nat.gcd n (m % n)=Nat.gcd m n
    rw [Nat.gcd_comm m n,Nat.gcd_rec n m,Nat.gcd_comm]
   obtain ⟨⟨i1,i2⟩,i3,i4⟩:=ih b (a.tmod b) hb m0 (by omega)
   rw [decide_eq_true hb0,e1,decide_eq_true (show b ≠ 0 from h0),cond_true,cond_true,cond_true,cond_true,Bool.true_and,Bool.true_and,i1,i2,i3,i4,g]
   exact ⟨⟨rfl,rfl⟩,rfl,rfl⟩
theorem zHz (a b:Int) (ha:0≤a) (hb:0≤b) (hk:b≤9223372036854775807):zLd a b=true∧zEl a b=(Int.gcd a b:Int) :=
 (zzM Fuel a b ha hb (by simp only [Fuel];omega)).1
theorem zDp (a b:Int) (ha:0≤a) (hb:0≤b) (hk:b≤9223372036854775807):p73 a b=true∧s73 a b=(Int.gcd a b:Int) :=
 (zzM Fuel a b ha hb (by simp only [Fuel];omega)).2
-- the order of equal lists
def SEq {α:Type} (a b:Sl α):Prop:=a.len=b.len∧∀ i,i < a.len→a.get i=b.get i
theorem zB8 (a b:Sl Int) (h:SEq a b) (hn:a.len≤9223372036854775807):p39 a b=true∧s39 a b=0:=by
  obtain ⟨h1,h2⟩:=h
  have e := zzL (good := fun _ => true) (bad := (0:Int)) (fin := 0) (finP := true) (n := a.len) (lpS := zh3 a b) (lpP := zh4 a b)
    (fun k i hi=>by
      show zh1 a b (zh3 a b k) (i:Int)=_
      generalize zh3 a b k=S
      unfold zh1
      rw [← h1,decide_eq_true (show (i:Int) < (a.len:Int) by omega),cond_true,cond_true,Int.toNat_natCast,h2 i hi,decide_eq_false (show ¬ b.get i < b.get i by omega)]
      rfl)
    (fun k=>by
      show zh1 a b (zh3 a b k) (a.len:Int)=_
      unfold zh1 znC
      rw [← h1,decide_eq_false (show ¬ (a.len:Int) < (a.len:Int) by omega)]
      rfl)
    (fun k i hi=>by
      show zh2 a b (zh4 a b k) (i:Int)=_
      generalize zh4 a b k=S
      unfold zh2
      rw [← h1,decide_eq_true (show (i:Int) < (a.len:Int) by omega),decide_eq_true (show 0≤(i:Int)∧(i:Int) < (a.len:Int) by omega),cond_true,cond_true,Int.toNat_natCast,h2 i hi,decide_eq_false (show ¬ b.get i < b.get i by omega)]
      rfl)
    (fun k=>by
      show zh2 a b (zh4 a b k) (a.len:Int)=_
      unfold zh2
      rw [decide_eq_false (show ¬ (a.len:Int) < (a.len:Int) by omega)]
      rfl)
    hn
  exact e.1 fun _ _=>rfl
end Go.Proofs
namespace Go.Proofs
open Go Go.Pm
set_option maxRecDepth 100000
theorem zhe {σ : Type} {step : Nat → σ → σ} {Inv : Nat → σ → Prop} {n : Nat} (hI : ∀ i s, i < n → Inv i s → Inv (i + 1) (step i s)) :
    ∀ (m i:Nat) (s:σ),i+m=n→Inv i s→Inv n (zhd step m i s):=by
  intro m
  induction m with
  | zero => intro i s h hs; have : i = n := by omega
            subst this;exact hs
  | succ m ih=>intro i s h hs;exact ih (i+1) (step i s) (by omega) (hI i s (by omega) hs)
def addI (l:Line) (zaa:Sl Gate) (i:Nat) (v:Sl Int):Sl Int:=cond (s72 l (zaa.get i)) (⟨v.len+1,zdv v.len v.get (fun _=>(i:Int))⟩:Sl Int) v
def zLn (l:Line) (zaa:Sl Gate):Sl Int:=zhd (addI l zaa) zaa.len 0 (⟨0,fun _=>default⟩:Sl Int)
theorem ztH (l:Line) (zaa:Sl Gate) (i:Nat) (v:Sl Int) (h:v.len≤i):(addI l zaa i v).len≤i+1:=by
 unfold addI;cases s72 l (zaa.get i)
 ·exact Nat.le_succ_of_le h
 ·exact Nat.succ_le_succ h
theorem zKJ (l:Line) (zaa:Sl Gate) (hn:zaa.len≤40):p27 l zaa=true∧s27 l zaa=zLn l zaa:=by
  have := zfC (σ := Sl Int) (step := addI l zaa) (E := id) (EP := fun _ => true) (Inv := fun i v => v.len ≤ i) (a := 0) (n := zaa.len) (lpS := fun k v i => zkx l zaa k i v) (lpP := fun k v i => zky l zaa k i v)
    (fun k i v _ hi _=>by
      show zkv l zaa (zkx l zaa k) (i:Int) v=_
      generalize zkx l zaa k=S
      unfold zkv zy9 addI
      rw [decide_eq_true (show (i:Int) < (zaa.len:Int) by omega),cond_true,Int.toNat_natCast]
      cases s72 l (zaa.get i) <;> rfl)
    (fun k v=>by
      show zkv l zaa (zkx l zaa k) (zaa.len:Int) v=_
      unfold zkv
      rw [decide_eq_false (show ¬ (zaa.len:Int) < (zaa.len:Int) by omega),cond_false];rfl)
    (fun k i v _ hi hv=>by
      show zkw l zaa (zky l zaa k) (i:Int) v=_
      generalize zky l zaa k=S
      unfold zkw zza addI
      rw [decide_eq_true (show (i:Int) < (zaa.len:Int) by omega),cond_true,Int.toNat_natCast,decide_eq_true (show 0≤(i:Int)∧(i:Int) < (zaa.len:Int) by omega),decide_eq_true (show (v.len+1) * 8≤140737488355328∧v.len+1≤9223372036854775807 by omega)]
      cases s72 l (zaa.get i) <;> rfl)
    (fun k v=>by
      show zkw l zaa (zky l zaa k) (zaa.len:Int) v=_
      unfold zkw
      rw [decide_eq_false (show ¬ (zaa.len:Int) < (zaa.len:Int) by omega),cond_false])
    (fun i v _ _ h=>ztH l zaa i v h) (Nat.zero_le _) (by omega) (⟨0,fun _=>default⟩:Sl Int) (Nat.le_refl _)
  exact this
end Go.Proofs
namespace Go.Proofs
open Go Go.Pm
set_option maxRecDepth 100000
end Go.Proofs
namespace Go.Proofs
open Go Go.Pm
set_option maxRecDepth 100000
def red (num den:Int):Frac:=⟨num.tdiv (Int.gcd num den:Int),den.tdiv (Int.gcd num den:Int)⟩
theorem zDq (num:Int):(if -num > num then -num else num)=(num.natAbs:Int):=by split <;> omega
theorem zzN (num den:Int):Int.gcd (num.natAbs:Int) den=Int.gcd num den:=by
 unfold Int.gcd;rw [Int.natAbs_natCast]
theorem zcs {num den:Int} (hd:0 < den):0 < (Int.gcd num den:Int):=by
 have:Int.gcd num den ≠ 0:=fun h=>by have:=(Int.gcd_eq_zero_iff.1 h).2;omega
 omega
theorem zOc (num den:Int):∃ a,num=(Int.gcd num den:Int) * a:=Int.gcd_dvd_left num den
theorem zOd (num den:Int):∃ a,den=(Int.gcd num den:Int) * a:=Int.gcd_dvd_right num den
theorem zdn {num den:Int} (hd:0 < den):(Int.gcd num den:Int) * (red num den).Num=num:=by
 have hg:=zcs (num:=num) hd
 obtain ⟨a,ha⟩:=zOc num den
 show (Int.gcd num den:Int) * num.tdiv (Int.gcd num den:Int)=num
 generalize (Int.gcd num den:Int)=g at ha hg ⊢
 rw [ha,Int.mul_tdiv_cancel_left _ (by omega)]
theorem zc6 {num den:Int} (hd:0 < den):(Int.gcd num den:Int) * (red num den).Den=den:=by
 have hg:=zcs (num:=num) hd
 obtain ⟨a,ha⟩:=zOd num den
 show (Int.gcd num den:Int) * den.tdiv (Int.gcd num den:Int)=den
 generalize (Int.gcd num den:Int)=g at ha hg ⊢
 rw [ha,Int.mul_tdiv_cancel_left _ (by omega)]
theorem zcG {num den:Int} (hd:0 < den):0 < (red num den).Den:=by
 have h1:=zc6 (num:=num) hd
 have hg:=zcs (num:=num) hd
 rcases Int.lt_or_le 0 (red num den).Den with h | h
 ·exact h
 ·have := Int.mul_le_mul_of_nonneg_left h (Int.le_of_lt hg)
  rw [h1,Int.mul_zero] at this
  omega
theorem zlr {num den:Int} (hd:0 < den):(red num den).Den≤den:=by
 have h1:=zc6 (num:=num) hd
 have hg:=zcs (num:=num) hd
 have:=Int.mul_le_mul_of_nonneg_right (show (1:Int)≤(Int.gcd num den:Int) by omega) (Int.le_of_lt (zcG (num:=num) hd))
 omega
theorem zgz {num den:Int} (hd:0 < den) : -(num.natAbs:Int)≤(red num den).Num∧(red num den).Num≤(num.natAbs:Int):=by
 have h1:=zdn (num:=num) hd
 have hg:=zcs (num:=num) hd
 have h2:num.natAbs=(Int.gcd num den) * (red num den).Num.natAbs:=by
  have:=congrArg Int.natAbs h1
  rw [Int.natAbs_mul] at this
  simpa using this.symm
 have h3:(red num den).Num.natAbs≤num.natAbs:=by
  rw [h2];exact Nat.le_mul_of_pos_left _ (by omega)
 omega
theorem zzO {num den:Int} (hd:0 < den):Int.gcd (red num den).Num (red num den).Den=1:=by
 have h1:=zdn (num:=num) hd
 have h2:=zc6 (num:=num) hd
 have hg:=zcs (num:=num) hd
 have h3:Int.gcd ((Int.gcd num den:Int) * (red num den).Num) ((Int.gcd num den:Int) * (red num den).Den)=Int.gcd num den * Int.gcd (red num den).Num (red num den).Den:=by
  rw [Int.gcd_mul_left];simp
 rw [h1,h2] at h3
 have h4:Int.gcd num den * 1=Int.gcd num den * Int.gcd (red num den).Num (red num den).Den:=by rw [Nat.mul_one];exact h3
 exact (Nat.eq_of_mul_eq_mul_left (by omega) h4).symm
theorem ztI {a b c d:Int} (hb:0 < b) (hd:0 < d):red a b=red c d↔a * d=c * b:=by
 have a1:=zdn (num:=a) hb
 have a2:=zc6 (num:=a) hb
 have c1:=zdn (num:=c) hd
 have c2:=zc6 (num:=c) hd
 constructor
 ·intro h
  rw [h] at a1 a2
  generalize hG:(Int.gcd a b:Int)=G at a1 a2
  generalize hK:(Int.gcd c d:Int)=K at c1 c2
  generalize (red c d).Num=x at a1 c1
  generalize (red c d).Den=y at a2 c2
  subst a1;subst a2;subst c1;subst c2
  ac_rfl
 ·intro h
  have ga:=zzO (num:=a) hb
  have gc:=zzO (num:=c) hd
  have pa:=zcG (num:=a) hb
  have pc:=zcG (num:=c) hd
  have hG:=zcs (num:=a) hb
  have hK:=zcs (num:=c) hd
  -- cross products of the lowest forms
  have hx:(red a b).Num * (red c d).Den=(red c d).Num * (red a b).Den:=by
   have e:((Int.gcd a b:Int) * (Int.gcd c d:Int)) * ((red a b).Num * (red c d).Den)=((Int.gcd a b:Int) * (Int.gcd c d:Int)) * ((red c d).Num * (red a b).Den):=by
    have l1:((Int.gcd a b:Int) * (Int.gcd c d:Int)) * ((red a b).Num * (red c d).Den)=((Int.gcd a b:Int) * (red a b).Num) * ((Int.gcd c d:Int) * (red c d).Den):=by
     generalize (Int.gcd a b:Int)=G;generalize (Int.gcd c d:Int)=K
     ac_rfl
    have l2:((Int.gcd a b:Int) * (Int.gcd c d:Int)) * ((red c d).Num * (red a b).Den)=((Int.gcd c d:Int) * (red c d).Num) * ((Int.gcd a b:Int) * (red a b).Den):=by
     generalize (Int.gcd a b:Int)=G;generalize (Int.gcd c d:Int)=K
     ac_rfl
    rw [l1,l2,a1,a2,c1,c2];exact h
   exact Int.eq_of_mul_eq_mul_left (by have:=Int.mul_pos hG hK;omega) e
  have hx':=congrArg Int.natAbs hx
  rw [Int.natAbs_mul,Int.natAbs_mul] at hx'
  have ga':Nat.Coprime (red a b).Den.natAbs (red a b).Num.natAbs:=(Nat.gcd_comm _ _).trans ga
  have gc':Nat.Coprime (red c d).Den.natAbs (red c d).Num.natAbs:=(Nat.gcd_comm _ _).trans gc
  have d1:(red a b).Den ∣ (red c d).Den:=Int.natAbs_dvd_natAbs.1 (ga'.dvd_of_dvd_mul_left ⟨(red c d).Num.natAbs,by rw [hx',Nat.mul_comm]⟩)
  have d2:(red c d).Den ∣ (red a b).Den:=Int.natAbs_dvd_natAbs.1 (gc'.dvd_of_dvd_mul_left ⟨(red a b).Num.natAbs,by rw [← hx',Nat.mul_comm]⟩)
  have hden:(red a b).Den=(red c d).Den:=Int.le_antisymm (Int.le_of_dvd pc d1) (Int.le_of_dvd pa d2)
  rw [← hden] at hx
  have hnum:=Int.eq_of_mul_eq_mul_right (by omega) hx
  cases h1:red a b;cases h2:red c d
  rw [h1,h2] at hden hnum
  simp only at hden hnum
  rw [hden,hnum]
theorem zmt {num den:Int} (h1 : -4611686018427387904≤num) (h2:num≤4611686018427387904) (hd:0 < den) (hd2:den≤4611686018427387904):p89 num den=true∧s89 num den=red num den:=by
 have e:w64 (0 - num) = -num:=by rw [zaC (by omega) (by omega)];omega
 obtain ⟨g1,g2⟩:=zHz (num.natAbs:Int) den (by omega) (by omega) (by omega)
 have hg:=zcs (num:=num) hd
 have r1:=zgz (num:=num) hd
 have r2:=zlr (num:=num) hd
 have r3:=zcG (num:=num) hd
 unfold p89 s89
 rw [e,zDq,g1,g2,zzN]
 have w1:w64 (num.tdiv (Int.gcd num den:Int))=(red num den).Num:=zaC (by show _≤(red num den).Num;omega) (by show (red num den).Num≤_;omega)
 have w2:w64 (den.tdiv (Int.gcd num den:Int))=(red num den).Den:=zaC (by show _≤(red num den).Den;omega) (by show (red num den).Den≤_;omega)
 rw [w1,w2,decide_eq_true (show (Int.gcd num den:Int) ≠ 0 by omega)]
 exact ⟨by simp only [decide_true,Bool.and_self],by cases red num den;simp only⟩
theorem ze7 {num den:Int} (h1 : -4611686018427387904≤num) (h2:num≤4611686018427387904) (hd:0 < den) (hd2:den≤4611686018427387904):p40 num den=true∧s40 num den=red num den:=by
 have e:w64 (0 - num) = -num:=by rw [zaC (by omega) (by omega)];omega
 obtain ⟨g1,g2⟩:=zDp (num.natAbs:Int) den (by omega) (by omega) (by omega)
 have hg:=zcs (num:=num) hd
 have r1:=zgz (num:=num) hd
 have r2:=zlr (num:=num) hd
 have r3:=zcG (num:=num) hd
 unfold p40 s40
 rw [e,zDq,g1,g2,zzN]
 have w1:w64 (num.tdiv (Int.gcd num den:Int))=(red num den).Num:=zaC (by show _≤(red num den).Num;omega) (by show (red num den).Num≤_;omega)
 have w2:w64 (den.tdiv (Int.gcd num den:Int))=(red num den).Den:=zaC (by show _≤(red num den).Den;omega) (by show (red num den).Den≤_;omega)
 rw [w1,w2,decide_eq_true (show (Int.gcd num den:Int) ≠ 0 by omega)]
 exact ⟨by simp only [decide_true,Bool.and_self],by cases red num den;simp only⟩
end Go.Proofs
namespace Go.Proofs
open Go Go.Pm
set_option maxRecDepth 100000
theorem ziJ {x y X Y:Int} (h1 : -X≤x) (h2:x≤X) (h3:0≤y) (h4:y≤Y) : -(X * Y)≤x * y∧x * y≤X * Y:=by
 have hX:0≤X:=by omega
 have a:=Int.mul_le_mul_of_nonneg_right h2 h3
 have b:=Int.mul_le_mul_of_nonneg_left h4 hX
 have c:=Int.mul_le_mul_of_nonneg_right h1 h3
 rw [Int.neg_mul] at c
 omega
def thr (z p y q:Int):straight:=if z > y then ⟨p - q,q * z - p * y,z - y⟩ else ⟨q - p,p * y - q * z,y - z⟩
def toL (s:straight):Line:=⟨red s.slope s.den,red s.start s.den⟩
theorem zoc {z p y q:Int} (hz:0≤z∧z≤100000) (hy:0≤y∧y≤100000) (hp : -1000000≤p∧p≤1000000) (hq : -1000000≤q∧q≤1000000):zlF z p y q=thr z p y q:=by
 have b1:=ziJ hp.1 hp.2 hy.1 hy.2
 have b2:=ziJ hq.1 hq.2 hz.1 hz.2
 unfold zlF ziY thr
 rw [zaC (x:=p * y) (by omega) (by omega),zaC (x:=q * z) (by omega) (by omega)]
 by_cases h:z > y
 ·rw [decide_eq_true h,cond_true,if_pos h,zaC (by omega) (by omega),zaC (by omega) (by omega),zaC (by omega) (by omega)]
 ·rw [decide_eq_false h,cond_false,if_neg h,zaC (by omega) (by omega),zaC (by omega) (by omega),zaC (by omega) (by omega)]
theorem zKK {z p y q:Int} (hz:0≤z∧z≤100000) (hy:0≤y∧y≤100000) (hp : -1000000≤p∧p≤1000000) (hq : -1000000≤q∧q≤1000000) (hn:z ≠ y):p26 z p y q=true∧s26 z p y q=toL (thr z p y q):=by
 have b1:=ziJ hp.1 hp.2 hy.1 hy.2
 have b2:=ziJ hq.1 hq.2 hz.1 hz.2
 unfold p26 s26 zsc zsb thr toL
 rw [zaC (x:=p * y) (by omega) (by omega),zaC (x:=q * z) (by omega) (by omega)]
 by_cases h:z > y
 ·rw [decide_eq_true (show y < z from h), cond_true, cond_true, if_pos h, zaC (x := p - q) (by omega) (by omega), zaC (x := z - y) (by omega) (by omega), zaC (x := q * z - p * y) (by omega) (by omega)]
  obtain ⟨c1,c2⟩:=ze7 (num:=p - q) (den:=z - y) (by omega) (by omega) (by omega) (by omega)
  obtain ⟨d1,d2⟩:=ze7 (num:=q * z - p * y) (den:=z - y) (by omega) (by omega) (by omega) (by omega)
  rw [c1,c2,d1,d2]
  exact ⟨by simp only [decide_true,Bool.and_self],rfl⟩
 ·rw [decide_eq_false (show ¬ y < z from h), cond_false, cond_false, if_neg h, zaC (x := q - p) (by omega) (by omega), zaC (x := y - z) (by omega) (by omega), zaC (x := p * y - q * z) (by omega) (by omega)]
  obtain ⟨c1,c2⟩:=ze7 (num:=q - p) (den:=y - z) (by omega) (by omega) (by omega) (by omega)
  obtain ⟨d1,d2⟩:=ze7 (num:=p * y - q * z) (den:=y - z) (by omega) (by omega) (by omega) (by omega)
  rw [c1,c2,d1,d2]
  exact ⟨by simp only [decide_true,Bool.and_self],rfl⟩
def zpA (a b:Gate):List straight:=if a.Z=b.Z then [] else [thr a.Z a.Low b.Z b.Low,thr a.Z a.Low b.Z b.High,thr a.Z a.High b.Z b.Low,thr a.Z a.High b.Z b.High]
def zpB (g : Sl Gate) (i : Nat) : Nat → Nat → List straight
  | 0,_=>[]
  | m+1,k=>zpA (g.get i) (g.get k) ++ zpB g i m (k+1)
def zAp (g : Sl Gate) : Nat → Nat → List straight
  | 0,_=>[]
  | m+1,i=>zpB g i (g.len - (i+1)) (i+1) ++ zAp g m (i+1)
def cst (g:Sl Gate):List straight:=zAp g g.len 0
theorem ze1 {g:Gate} (h:zez g) : -1000000≤g.Low∧g.Low≤1000000:=⟨h.2.1,by have:=h.2;omega⟩
theorem zfD {g:Gate} (h:zez g) : -1000000≤g.High∧g.High≤1000000:=⟨by have:=h.2;omega,h.2.2.2⟩
theorem zNm (g : Sl Gate) (G : zak g) (i : Nat) (hi : i < g.len) (sl : Sl Gate) (hs : sl.len = g.len - (i + 1)) (hg : ∀ x, sl.get x = g.get (x + (i + 1)))
    (S0:Int→List straight) (P0:Int→Bool):∀ (m k j:Nat),j+m=sl.len→m < k →
    zdx P0 ⟨g⟩ k (i:Int) sl (sl.len:Int) (j:Int) (g.get i).Z (g.get i).Low (g.get i).High=P0 ((i+1:Nat):Int) ∧
    zdw S0 ⟨g⟩ k (i:Int) sl (sl.len:Int) (j:Int) (g.get i).Z (g.get i).Low (g.get i).High=zpB g i m (j+(i+1)) ++ S0 ((i+1:Nat):Int):=by
  have hl:=G.2.2
  intro m
  induction m with
  | zero =>
    intro k j hj hk
    obtain ⟨k,rfl⟩:∃ k',k=k'+1:=⟨k - 1,by omega⟩
    show zeQ P0 ⟨g⟩ (zdx P0 ⟨g⟩ k) _ _ _ _ _ _ _=_∧zeP S0 ⟨g⟩ (zdw S0 ⟨g⟩ k) _ _ _ _ _ _ _=_
    unfold zeQ zeP
    rw [decide_eq_false (show ¬ (j:Int) < (sl.len:Int) by omega),cond_false,cond_false,zaD (n:=g.len) hi (by omega)]
    exact ⟨rfl,rfl⟩
  | succ m ih =>
    intro k j hj hk
    obtain ⟨k,rfl⟩:∃ k',k=k'+1:=⟨k - 1,by omega⟩
    obtain ⟨i1,i2⟩:=ih k (j+1) (by omega) (by omega)
    show zeQ P0 ⟨g⟩ (zdx P0 ⟨g⟩ k) _ _ _ _ _ _ _=_∧zeP S0 ⟨g⟩ (zdw S0 ⟨g⟩ k) _ _ _ _ _ _ _=zpB g i (m+1) (j+(i+1)) ++ _
    generalize zdx P0 ⟨g⟩ k=P at i1
    generalize zdw S0 ⟨g⟩ k=S at i2
    unfold zeQ zeP
    have gi:=G.1 i hi
    have gk:=G.1 (j+(i+1)) (by omega)
    rw [decide_eq_true (show (j:Int) < (sl.len:Int) by omega),decide_eq_true (show 0≤(j:Int)∧(j:Int) < (sl.len:Int) by omega),cond_true,cond_true,Bool.true_and,Int.toNat_natCast,hg,
      zaD (n:=sl.len) (by omega) (by omega),i1,i2,zoc gi.1 gk.1 (ze1 gi) (ze1 gk),zoc gi.1 gk.1 (ze1 gi) (zfD gk),zoc gi.1 gk.1 (zfD gi) (ze1 gk),zoc gi.1 gk.1 (zfD gi) (zfD gk)]
    show _∧_=(zpA (g.get i) (g.get (j+(i+1))) ++ zpB g i m (j+(i+1)+1)) ++ _
    rw [show j+1+(i+1)=j+(i+1)+1 by omega]
    unfold zpA
    by_cases hz:(g.get i).Z=(g.get (j+(i+1))).Z
    · rw [if_pos hz, show ((g.get i).Z == (g.get (j + (i + 1))).Z) = true by simpa using hz]
      exact ⟨rfl,rfl⟩
    · rw [if_neg hz, show ((g.get i).Z == (g.get (j + (i + 1))).Z) = false by simpa using hz]
      exact ⟨rfl,rfl⟩
theorem zHA (g:Sl Gate) (G:zak g):zEO ⟨g⟩=true∧zCW ⟨g⟩=cst g:=by
 have hl:=G.2.2
 have key:∀ (m k i:Nat),i+m=g.len→m < k→zdz ⟨g⟩ k (i:Int)=true∧zdy ⟨g⟩ k (i:Int)=zAp g m i:=by
  intro m
  induction m with
  | zero =>
   intro k i hi hk
   obtain ⟨k,rfl⟩:∃ k',k=k'+1:=⟨k - 1,by omega⟩
   show zeS ⟨g⟩ (zdz ⟨g⟩ k) _=_∧zeR ⟨g⟩ (zdy ⟨g⟩ k) _=_
   unfold zeS zeR
   rw [decide_eq_false (show ¬ (i:Int) < (g.len:Int) by omega),cond_false,cond_false]
   exact ⟨rfl,rfl⟩
  | succ m ih =>
   intro k i hi hk
   obtain ⟨k,rfl⟩:∃ k',k=k'+1:=⟨k - 1,by omega⟩
   obtain ⟨i1,i2⟩:=ih k (i+1) (by omega) (by omega)
   show zeS ⟨g⟩ (zdz ⟨g⟩ k) _=_∧zeR ⟨g⟩ (zdy ⟨g⟩ k) _=zpB g i (g.len - (i+1)) (i+1) ++ zAp g m (i+1)
   generalize zdz ⟨g⟩ k=P at i1
   generalize zdy ⟨g⟩ k=S at i2
   unfold zeS zeR znc znb
   rw [zaD (n:=g.len) (by omega) (by omega)]
   rw [decide_eq_true (show (i:Int) < (g.len:Int) by omega),decide_eq_true (show 0≤(i:Int)∧(i:Int) < (g.len:Int) by omega),decide_eq_true (show 0≤((i+1:Nat):Int)∧((i+1:Nat):Int)≤(g.len:Int)∧(g.len:Int)≤(g.len:Int) by omega),
    cond_true,cond_true,Bool.true_and,Bool.true_and,Int.toNat_natCast,Int.toNat_natCast]
   have hs:((g.len:Int) - ((i+1:Nat):Int)).toNat=g.len - (i+1):=by omega
   have:=zNm g G i (by omega) (⟨((g.len:Int) - ((i+1:Nat):Int)).toNat,fun x=>g.get (x+(i+1))⟩:Sl Gate) hs (fun _=>rfl) S P (g.len - (i+1)) Fuel 0 (by show 0+(g.len - (i+1))=((g.len:Int) - ((i+1:Nat):Int)).toNat;omega) (by simp only [Fuel];omega)
   rw [i1,i2,Nat.zero_add] at this
   exact this
 exact key g.len Fuel 0 (by omega) (by simp only [Fuel];omega)
end Go.Proofs
namespace Go.Proofs
open Go Go.Pm
set_option maxRecDepth 100000
def apL {α:Type} (v:Sl α) (x:α):Sl α:=⟨v.len+1,zdv v.len v.get (fun _=>x)⟩
theorem zod (g:Gate):zAo g 0=g.Low:=rfl
theorem zoe (g:Gate):zAo g 1=g.High:=rfl
theorem zNn (g : Sl Gate) (G : zak g) (i k : Nat) (hi : i < g.len) (hk : k < g.len) (S0 : Int → Sl Line → Sl Line) (S1 : Int → Int → Sl Line → Sl Line) (P0 : Int → Sl Line → Bool) (P1 : Int → Int → Sl Line → Bool) (v : Sl Line) (hv : v.len ≤ 100000) (F : Nat) (hF : 5 ≤ F) :
  zdU P0 P1 g F (i:Int) (k:Int) 0 v=P1 (i:Int) ((k+1:Nat):Int) (((zpA (g.get i) (g.get k)).map toL).foldl apL v) ∧
  zdT S0 S1 g F (i:Int) (k:Int) 0 v=S1 (i:Int) ((k+1:Nat):Int) (((zpA (g.get i) (g.get k)).map toL).foldl apL v):=by
 have hl:=G.2.2
 obtain ⟨f,rfl⟩:∃ f,F=f+5:=⟨F - 5,by omega⟩
 have gi:=G.1 i hi
 have gk:=G.1 k hk
 have ei:decide (0≤(i:Int)∧(i:Int) < (g.len:Int))=true:=decide_eq_true (by omega)
 have ek:decide (0≤(k:Int)∧(k:Int) < (g.len:Int))=true:=decide_eq_true (by omega)
 have e2:decide ((2:Int) ≠ 0)=true:=by decide
 have sk:w64 ((k:Int)+(1:Int))=((k+1:Nat):Int):=zaD (n:=g.len) hk (by omega)
 -- one round
 have step:∀ (m:Nat) (e:Int) (v:Sl Line) (p q:Int),(0≤e∧e < 4)→v.len≤200000→zAo (g.get i) (w64 (e.tdiv (2:Int)))=p→zAo (g.get k) (e.tmod (2:Int))=q →
   (-1000000≤p∧p≤1000000)→(-1000000≤q∧q≤1000000)→(g.get i).Z ≠ (g.get k).Z →
   zdU P0 P1 g (m+1) (i:Int) (k:Int) e v=zdU P0 P1 g m (i:Int) (k:Int) (e+1) (apL v (toL (thr (g.get i).Z p (g.get k).Z q))) ∧
   zdT S0 S1 g (m+1) (i:Int) (k:Int) e v=zdT S0 S1 g m (i:Int) (k:Int) (e+1) (apL v (toL (thr (g.get i).Z p (g.get k).Z q))):=by
  intro m e v p q he hv hp hq bp bq hz
  show zgy P0 P1 g (zdU P0 P1 g m) _ _ _ _=_∧zgx S0 S1 g (zdT S0 S1 g m) _ _ _ _=_
  generalize zdU P0 P1 g m=P
  generalize zdT S0 S1 g m=S
  obtain ⟨t1,t2⟩:=zKK gi.1 gk.1 bp bq hz
  unfold zgy zgx
  rw [Int.toNat_natCast,Int.toNat_natCast,hp,hq,t1,t2,decide_eq_true (show e < 4 from he.2),ei,ek,e2,zaC (x:=e+1) (by omega) (by omega),
   show ((g.get i).Z != (g.get k).Z)=true by simpa using hz,decide_eq_true (show (v.len+1) * 32≤140737488355328∧v.len+1≤9223372036854775807 by omega)]
  exact ⟨rfl,rfl⟩
 unfold zpA
 by_cases hz:(g.get i).Z=(g.get k).Z
 ·rw [if_pos hz]
  show zgy P0 P1 g (zdU P0 P1 g (f+4)) _ _ _ _=_∧zgx S0 S1 g (zdT S0 S1 g (f+4)) _ _ _ _=_
  generalize zdU P0 P1 g (f+4)=P
  generalize zdT S0 S1 g (f+4)=S
  unfold zgy zgx
  rw [Int.toNat_natCast,Int.toNat_natCast,ei,ek,sk,decide_eq_true (show (0:Int) < 4 by omega),show ((g.get i).Z != (g.get k).Z)=false by simpa using hz]
  exact ⟨rfl,rfl⟩
 ·rw [if_neg hz]
  have a0:=step (f+4) 0 v _ _ (by omega) (by omega) (zod _) (zod _) (ze1 gi) (ze1 gk) hz
  generalize hv1:apL v (toL (thr (g.get i).Z (g.get i).Low (g.get k).Z (g.get k).Low))=v1 at a0
  have l1:v1.len=v.len+1:=by rw [← hv1];rfl
  have a1:=step (f+3) 1 v1 _ _ (by omega) (by omega) (zod _) (zoe _) (ze1 gi) (zfD gk) hz
  generalize hv2:apL v1 (toL (thr (g.get i).Z (g.get i).Low (g.get k).Z (g.get k).High))=v2 at a1
  have l2:v2.len=v1.len+1:=by rw [← hv2];rfl
  have a2:=step (f+2) 2 v2 _ _ (by omega) (by omega) (zoe _) (zod _) (zfD gi) (ze1 gk) hz
  generalize hv3:apL v2 (toL (thr (g.get i).Z (g.get i).High (g.get k).Z (g.get k).Low))=v3 at a2
  have l3:v3.len=v2.len+1:=by rw [← hv3];rfl
  have a3:=step (f+1) 3 v3 _ _ (by omega) (by omega) (zoe _) (zoe _) (zfD gi) (zfD gk) hz
  generalize hv4:apL v3 (toL (thr (g.get i).Z (g.get i).High (g.get k).Z (g.get k).High))=v4 at a3
  have b4:zdU P0 P1 g (f+1) (i:Int) (k:Int) 4 v4=P1 (i:Int) ((k+1:Nat):Int) v4∧zdT S0 S1 g (f+1) (i:Int) (k:Int) 4 v4=S1 (i:Int) ((k+1:Nat):Int) v4:=by
   show zgy P0 P1 g (zdU P0 P1 g f) _ _ _ _=_∧zgx S0 S1 g (zdT S0 S1 g f) _ _ _ _=_
   generalize zdU P0 P1 g f=P
   generalize zdT S0 S1 g f=S
   unfold zgy zgx
   rw [sk,decide_eq_false (show ¬ (4:Int) < 4 by omega)]
   exact ⟨rfl,rfl⟩
  have fin:(([thr (g.get i).Z (g.get i).Low (g.get k).Z (g.get k).Low,thr (g.get i).Z (g.get i).Low (g.get k).Z (g.get k).High,thr (g.get i).Z (g.get i).High (g.get k).Z (g.get k).Low,thr (g.get i).Z (g.get i).High (g.get k).Z (g.get k).High]:List straight).map toL).foldl apL v=v4:=by
   simp only [List.map_cons,List.map_nil,List.foldl_cons,List.foldl_nil,hv1,hv2,hv3,hv4]
  rw [fin]
  exact ⟨(a0.1.trans (a1.1.trans (a2.1.trans a3.1))).trans b4.1,(a0.2.trans (a1.2.trans (a2.2.trans a3.2))).trans b4.2⟩
theorem zcv {α:Type} (l:List α):∀ v:Sl α,(l.foldl apL v).len=v.len+l.length:=by
 induction l with
 | nil=>intro v;rfl
 | cons x l ih=>intro v;rw [List.foldl_cons,ih];show v.len+1+l.length=v.len+(l.length+1);omega
theorem ztJ (a b:Gate):(zpA a b).length≤4:=by unfold zpA;split <;> simp
theorem ztK (g:Sl Gate) (i m k:Nat):(zpB g i m k).length≤4 * m:=by
 induction m generalizing k with
 | zero=>exact Nat.le_refl _
 | succ m ih=>show (zpA _ _ ++ zpB g i m (k+1)).length≤_;rw [List.length_append];have:=ih (k+1);have:=ztJ (g.get i) (g.get k);omega
theorem zP7 (g:Sl Gate) (G:zak g) (i:Nat) (hi:i < g.len) (S0:Int→Sl Line→Sl Line) (P0:Int→Sl Line→Bool):∀ (m F k:Nat) (v:Sl Line),k+m=g.len→m < F→v.len+4 * m≤100000 →
  zih P0 g F (i:Int) (k:Int) v=P0 ((i+1:Nat):Int) (((zpB g i m k).map toL).foldl apL v) ∧
  zif S0 g F (i:Int) (k:Int) v=S0 ((i+1:Nat):Int) (((zpB g i m k).map toL).foldl apL v):=by
 have hl:=G.2.2
 intro m
 induction m with
 | zero =>
  intro F k v hk hF hv
  obtain ⟨f,rfl⟩:∃ f,F=f+1:=⟨F - 1,by omega⟩
  show zkA P0 g (zih P0 g f) _ _ _=_∧zkz S0 g (zif S0 g f) _ _ _=_
  generalize zih P0 g f=P
  generalize zif S0 g f=S
  unfold zkA zkz
  rw [decide_eq_false (show ¬ (k:Int) < (g.len:Int) by omega),cond_false,cond_false,zaD (n:=g.len) hi (by omega)]
  exact ⟨rfl,rfl⟩
 | succ m ih =>
  intro F k v hk hF hv
  obtain ⟨f,rfl⟩:∃ f,F=f+1:=⟨F - 1,by omega⟩
  have ih:=fun v h=>ih f (k+1) v (by omega) (by omega) h
  show zkA P0 g (zih P0 g f) _ _ _=_∧zkz S0 g (zif S0 g f) _ _ _=_
  generalize zih P0 g f=P at ih
  generalize zif S0 g f=S at ih
  unfold zkA zkz zzc zzb
  rw [decide_eq_true (show (k:Int) < (g.len:Int) by omega),cond_true,cond_true]
  obtain ⟨b1,b2⟩:=zNn g G i k hi (by omega) S0 S P0 P v (by omega) Fuel (by simp only [Fuel];omega)
  rw [b1,b2]
  have q4:=ztJ (g.get i) (g.get k)
  have:=ih (((zpA (g.get i) (g.get k)).map toL).foldl apL v) (by rw [zcv,List.length_map];omega)
  rw [← List.foldl_append,← List.map_append] at this
  exact this
theorem zKL (g:Sl Gate) (G:zak g):p80 g=true∧s80 g=((cst g).map toL).foldl apL ⟨0,fun _=>default⟩:=by
 have hl:=G.2.2
 have key:∀ (m F i:Nat) (v:Sl Line),i+m=g.len→m < F→v.len+100 * m≤50000→zkE g F (i:Int) v=true∧zkD g F (i:Int) v=((zAp g m i).map toL).foldl apL v:=by
  intro m
  induction m with
  | zero =>
   intro F i v hi hF hv
   obtain ⟨f,rfl⟩:∃ f,F=f+1:=⟨F - 1,by omega⟩
   show zkC g (zkE g f) _ _=_∧zkB g (zkD g f) _ _=_
   unfold zkC zkB
   rw [decide_eq_false (show ¬ (i:Int) < (g.len:Int) by omega),cond_false,cond_false]
   exact ⟨rfl,rfl⟩
  | succ m ih =>
   intro F i v hi hF hv
   obtain ⟨f,rfl⟩:∃ f,F=f+1:=⟨F - 1,by omega⟩
   have ih:=fun v h=>ih f (i+1) v (by omega) (by omega) h
   show zkC g (zkE g f) _ _=_∧zkB g (zkD g f) _ _=_
   generalize zkE g f=P at ih
   generalize zkD g f=S at ih
   unfold zkC zkB zze zzd
   rw [decide_eq_true (show (i:Int) < (g.len:Int) by omega),cond_true,cond_true,zaD (n:=g.len) (by omega) (by omega)]
   obtain ⟨b1,b2⟩:=zP7 g G i (by omega) S P (g.len - (i+1)) Fuel (i+1) v (by omega) (by simp only [Fuel];omega) (by omega)
   rw [b1,b2]
   have c4:=ztK g i (g.len - (i+1)) (i+1)
   have:=ih (((zpB g i (g.len - (i+1)) (i+1)).map toL).foldl apL v) (by rw [zcv,List.length_map];omega)
   rw [← List.foldl_append,← List.map_append] at this
   exact this
 exact key g.len Fuel 0 _ (by omega) (by simp only [Fuel];omega) (by show 0+_≤_;omega)
end Go.Proofs
namespace Go.Proofs
open Go Go.Pm
set_option maxRecDepth 100000
def SOK (s:straight):Prop:=(-2000000≤s.slope∧s.slope≤2000000)∧(-200000000000≤s.start∧s.start≤200000000000)∧1≤s.den∧s.den≤100000
theorem zKM {z p y q:Int} (hz:0≤z∧z≤100000) (hy:0≤y∧y≤100000) (hp : -1000000≤p∧p≤1000000) (hq : -1000000≤q∧q≤1000000) (hn:z ≠ y):SOK (thr z p y q):=by
 have b1:=ziJ hp.1 hp.2 hy.1 hy.2
 have b2:=ziJ hq.1 hq.2 hz.1 hz.2
 unfold thr SOK
 by_cases h:z > y
 ·rw [if_pos h];exact ⟨⟨by show _≤p - q;omega,by show p - q≤_;omega⟩,⟨by show _≤q * z - p * y;omega,by show q * z - p * y≤_;omega⟩,by show _≤z - y;omega,by show z - y≤_;omega⟩
 ·rw [if_neg h];exact ⟨⟨by show _≤q - p;omega,by show q - p≤_;omega⟩,⟨by show _≤p * y - q * z;omega,by show p * y - q * z≤_;omega⟩,by show _≤y - z;omega,by show y - z≤_;omega⟩
theorem zB9 {a b:Gate} {s:straight} (h:s∈zpA a b):a.Z ≠ b.Z∧∃ p q,(p=a.Low∨p=a.High)∧(q=b.Low∨q=b.High)∧s=thr a.Z p b.Z q:=by
 unfold zpA at h
 by_cases hz:a.Z=b.Z
 ·rw [if_pos hz] at h;cases h
 ·rw [if_neg hz] at h
  refine ⟨hz,?_⟩
  simp only [List.mem_cons,List.not_mem_nil,or_false] at h
  rcases h with h | h | h | h
  ·exact ⟨_,_,.inl rfl,.inl rfl,h⟩
  ·exact ⟨_,_,.inl rfl,.inr rfl,h⟩
  ·exact ⟨_,_,.inr rfl,.inl rfl,h⟩
  ·exact ⟨_,_,.inr rfl,.inr rfl,h⟩
theorem ztL {g : Sl Gate} {i : Nat} {s : straight} : ∀ {m k : Nat}, s ∈ zpB g i m k → ∃ j, k ≤ j ∧ j < k + m ∧ s ∈ zpA (g.get i) (g.get j)
  | 0,_,h=>by cases h
  | m+1,k,h=>by
    rcases List.mem_append.1 h with h | h
    · exact ⟨k,Nat.le_refl _,by omega,h⟩
    · obtain ⟨j, a, b, c⟩ := ztL h
      exact ⟨j,by omega,by omega,c⟩
theorem ztM {g : Sl Gate} {s : straight} : ∀ {m i : Nat}, s ∈ zAp g m i → ∃ a b, i ≤ a ∧ a < i + m ∧ a < b ∧ b < g.len ∧ s ∈ zpA (g.get a) (g.get b)
  | 0,_,h=>by cases h
  | m+1,i,h=>by
    rcases List.mem_append.1 h with h | h
    · obtain ⟨j, a, b, c⟩ := ztL h
      exact ⟨i,j,Nat.le_refl _,by omega,by omega,by omega,c⟩
    · obtain ⟨a, b, h1, h2, h3, h4, h5⟩ := ztM h
      exact ⟨a,b,by omega,by omega,h3,h4,h5⟩
theorem zzP {g:Sl Gate} {s:straight} (h:s∈cst g):∃ a b,a < b∧b < g.len∧(g.get a).Z ≠ (g.get b).Z∧∃ p q,(p=(g.get a).Low∨p=(g.get a).High)∧(q=(g.get b).Low∨q=(g.get b).High)∧s=thr (g.get a).Z p (g.get b).Z q:=by
 obtain ⟨a,b,_,_,h3,h4,h5⟩:=ztM h
 obtain ⟨hz,r⟩:=zB9 h5
 exact ⟨a,b,h3,h4,hz,r⟩
theorem zls {g:Sl Gate} (G:zak g) {s:straight} (h:s∈cst g):SOK s:=by
 obtain ⟨a,b,h1,h2,hz,p,q,hp,hq,rfl⟩:=zzP h
 have ga:=G.1 a (by omega)
 have gb:=G.1 b h2
 refine zKM ga.1 gb.1 ?_ ?_ hz
 ·rcases hp with rfl | rfl;exact ze1 ga;exact zfD ga
 ·rcases hq with rfl | rfl;exact ze1 gb;exact zfD gb
def plc (s:straight) (z:Int):Int:=s.start+s.slope * z
def zhf (s:straight) (g:Gate):Bool:=decide (g.Low * s.den≤plc s g.Z∧plc s g.Z≤g.High * s.den)
def zDr (s:straight) (g:Gate):Bool:=decide (plc s g.Z=g.Low * s.den)
theorem zzQ {s:straight} (S:SOK s) {g:Gate} (G:zez g):zEd s g=zhf s g:=by
 obtain ⟨S1,S2,S3⟩:=S
 have b1:=ziJ S1.1 S1.2 G.1.1 G.1.2
 have b2:=ziJ (ze1 G).1 (ze1 G).2 (show 0≤s.den by omega) S3.2
 have b3:=ziJ (zfD G).1 (zfD G).2 (show 0≤s.den by omega) S3.2
 unfold zEd zhf plc
 rw [zpy,zaC (x:=s.slope * g.Z) (by omega) (by omega),zaC (x:=s.start+s.slope * g.Z) (by omega) (by omega),zaC (x:=g.Low * s.den) (by omega) (by omega),zaC (x:=g.High * s.den) (by omega) (by omega)]
theorem zhg {a x y:Int} (h:0 < a):a * x≤a * y↔x≤y:=⟨fun k=>Int.le_of_mul_le_mul_left k h,fun k=>Int.mul_le_mul_of_nonneg_left k (Int.le_of_lt h)⟩
theorem ztN {a x y:Int} (h:0 < a):a * x=a * y↔x=y:=⟨fun k=>Int.eq_of_mul_eq_mul_left (by omega) k,fun k=>by rw [k]⟩
theorem zzR {s:straight} (S:SOK s) {z:Int} (hz:0≤z∧z≤100000):∃ n d k,zuJ (toL s) z=(n,d)∧0 < k∧k * n=s.den * plc s z∧k * d=s.den * s.den∧0 < d∧d≤10000000000:=by
  obtain ⟨S1,S2,S3⟩:=S
  have hd:0 < s.den:=by omega
  have g1:=zcs (num:=s.slope) hd
  have g2:=zcs (num:=s.start) hd
  have r1:=zgz (num:=s.slope) hd
  have r2:=zgz (num:=s.start) hd
  have e1:=zdn (num:=s.slope) hd
  have e2:=zc6 (num:=s.slope) hd
  have e3:=zdn (num:=s.start) hd
  have e4:=zc6 (num:=s.start) hd
  have p1:=zcG (num:=s.slope) hd
  have p2:=zcG (num:=s.start) hd
  have q1:=zlr (num:=s.slope) hd
  have q2:=zlr (num:=s.start) hd
  unfold zuJ toL
  simp only
  generalize (red s.slope s.den).Num=a at *
  generalize (red s.slope s.den).Den=b at *
  generalize (red s.start s.den).Num=c at *
  generalize (red s.start s.den).Den=d at *
  generalize (Int.gcd s.slope s.den:Int)=G1 at *
  generalize (Int.gcd s.start s.den:Int)=G2 at *
  have m1:=ziJ (x:=c) (X:=200000000000) (y:=b) (Y:=100000) (by omega) (by omega) (by omega) (by omega)
  have m2:=ziJ (x:=a) (X:=2000000) (y:=z) (Y:=100000) (by omega) (by omega) hz.1 hz.2
  have m3:=ziJ (x:=a * z) (X:=2000000 * 100000) (y:=d) (Y:=100000) (by omega) (by omega) (by omega) (by omega)
  have m4:=ziJ (x:=d) (X:=100000) (y:=b) (Y:=100000) (by omega) (by omega) (by omega) (by omega)
  have m5:=Int.mul_pos p2 p1
  rw [zaC (x:=c * b) (by omega) (by omega),zaC (x:=a * z) (by omega) (by omega),zaC (x:=a * z * d) (by omega) (by omega),zaC (x:=c * b+a * z * d) (by omega) (by omega),zaC (x:=d * b) (by omega) (by omega)]
  refine ⟨_,_,G1 * G2,rfl,Int.mul_pos g1 g2,?_,?_,m5,by omega⟩
  · unfold plc
    have t1:G1 * G2 * (c * b)=s.den * s.start:=by
      calc G1 * G2 * (c * b) = (G1 * b) * (G2 * c) := by ac_rfl
        _=_:=by rw [e2,e3]
    have t2:G1 * G2 * (a * z * d)=s.den * (s.slope * z):=by
      calc G1 * G2 * (a * z * d) = (G2 * d) * ((G1 * a) * z) := by ac_rfl
        _=_:=by rw [e4,e1]
    rw [Int.mul_add,t1,t2,Int.mul_add]
  · calc G1 * G2 * (d * b) = (G1 * b) * (G2 * d) := by ac_rfl
      _=_:=by rw [e2,e4]
theorem ztO {s:straight} (S:SOK s) {g:Gate} (G:zez g):s72 (toL s) g=zhf s g:=by
  obtain ⟨n,d,k,e,hk,kn,kd,d1,d2⟩:=zzR S G.1
  have hd:0 < s.den:=by have:=S.2.2;omega
  have b2:=ziJ (ze1 G).1 (ze1 G).2 (show 0≤d by omega) d2
  have b3:=ziJ (zfD G).1 (zfD G).2 (show 0≤d by omega) d2
  have key:∀ x:Int,k * (x * d)=s.den * (x * s.den):=fun x=>by
    calc k * (x * d) = x * (k * d) := by ac_rfl
      _=s.den * (x * s.den):=by rw [kd];ac_rfl
  unfold s72 zhf
  rw [e,zfT]
  simp only
  rw [zaC (x:=g.Low * d) (by omega) (by omega),zaC (x:=g.High * d) (by omega) (by omega),Bool.decide_and]
  congr 1
  · refine decide_eq_decide.2 ?_
    rw [← zhg hk,key,kn,zhg hd]
  · refine decide_eq_decide.2 ?_
    rw [← zhg hk,key,kn,zhg hd]
theorem zzS {s:straight} (S:SOK s) {g:Gate} (G:zez g):((zuJ (toL s) g.Z).1 == w64 (g.Low * (zuJ (toL s) g.Z).2))=zDr s g:=by
  obtain ⟨n,d,k,e,hk,kn,kd,d1,d2⟩:=zzR S G.1
  have hd:0 < s.den:=by have:=S.2.2;omega
  have b2:=ziJ (ze1 G).1 (ze1 G).2 (show 0≤d by omega) d2
  have key:∀ x:Int,k * (x * d)=s.den * (x * s.den):=fun x=>by
    calc k * (x * d) = x * (k * d) := by ac_rfl
      _=s.den * (x * s.den):=by rw [kd];ac_rfl
  unfold zDr
  rw [e]
  simp only
  rw [zaC (x:=g.Low * d) (by omega) (by omega)]
  refine Bool.eq_iff_iff.2 ?_
  rw [beq_iff_eq,decide_eq_true_eq,← ztN hk,key,kn,ztN hd]
end Go.Proofs
