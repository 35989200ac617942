/- Part 5 of what the proof rests on: a machine that runs functions of the program on pure values, proved sound; the functions that the law reaches, and what they compute. -/
import Derived.Test.YtkpjhhoafenogaaQ4
set_option linter.all false
namespace Go.Proofs
open Go Go.Pm
set_option maxRecDepth 100000
set_option linter.unusedVariables false
attribute [local irreducible] Go.Pm.vcFun Go.Pm.vc Go.Pm.vcIter
abbrev T76:Tabs:=Tabs.nil
theorem okT76:TabsOk Try.prog T76:=TabsOk.nil
abbrev G76:Ctrs:=csm T76 (fun _ _=>[]) (fun _=>false)
def ann76:Ann:=⟨11,[(0,⟨[1,2],[2],[],[],[],[],[]⟩),(1,⟨[3],[],[],[],[],[],[]⟩)],
  [],
  [],
  [],[]⟩
theorem f76_top (c0 : Int) (l_a0 : list) (K : List PA → Prop) :
  vcFun Try.prog G76 ann76 76 [.agg [.sl l_a0.Gates.len 3 (fun i=>enc_55 (l_a0.Gates.get i))],.one (.fp (enc_3 c0) 0)] K =
  (((0≤(0:Int)∧(0:Int) < (l_a0.Gates.len:Int))) ∧
  (K [.one (.bool ((l_a0.Gates.get 0).Z == c0))])):=by kernel_rfl
abbrev e76 (r:Bool):List PA:=[.one (.bool r)]
def s76 (c0:Int) (l_a0:list):Bool :=
  ((l_a0.Gates.get 0).Z == c0)
def p76 (c0:Int) (l_a0:list):Bool :=
  (decide ((0≤(0:Int)∧(0:Int) < (l_a0.Gates.len:Int))) &&
  true)
theorem q76 (c0:Int) (l_a0:list) (K:List PA→Prop) (hs:p76 c0 l_a0=true) (hk:K (e76 (s76 c0 l_a0))):vcFun Try.prog G76 ann76 76 [.agg [.sl l_a0.Gates.len 3 (fun i=>enc_55 (l_a0.Gates.get i))],.one (.fp (enc_3 c0) 0)] K:=by
  refine ofEq (f76_top c0 l_a0 K) ?_
  unfold p76 at hs
  unfold s76 at hk
  exact (andK hs fun hc hs=>⟨hc,hk⟩)
def ctr76 : List PA → COut
  | [.agg [.sl a0_Gates_n a0_Gates_s a0_Gates_g],.one (.fp [.int .i64 c0] 0)]=>.det (IsE enc_55 3 a0_Gates_s a0_Gates_g∧p76 c0 (⟨(⟨a0_Gates_n,decF_55 a0_Gates_g⟩:(Sl Gate))⟩:list)=true) [.one (.bool (s76 c0 (⟨(⟨a0_Gates_n,decF_55 a0_Gates_g⟩:(Sl Gate))⟩:list)))]
  | _=>.no
theorem call76:Callable Try.prog 76:=⟨_,rfl,rfl,by kernel_rfl⟩
theorem ok76:Ok Try.prog 76 ctr76:=ok_tab okT76 call76 fun args K h=>by
  unfold ctr76 at h
  split at h
  · rename_i a0_Gates_n a0_Gates_s a0_Gates_g c0
    obtain ⟨⟨⟨rfl,a0_Gates_f,rfl⟩,hs⟩,hk⟩:=h
    try rw [decF_enc_55 a0_Gates_f] at hs
    try rw [decF_enc_55 a0_Gates_f] at hk
    exact ⟨(fun _ _=>[]),(fun _=>false),ann76,q76 c0 (⟨(⟨a0_Gates_n,a0_Gates_f⟩:(Sl Gate))⟩:list) K hs hk⟩
  · exact h.elim
abbrev T77:Tabs:=Tabs.nil
theorem okT77:TabsOk Try.prog T77:=TabsOk.nil
abbrev G77:Ctrs:=csm T77 (fun _ _=>[]) (fun _=>false)
def ann77:Ann:=⟨3,[(0,⟨[],[],[],[],[],[],[]⟩),(1,⟨[2],[],[],[],[],[],[]⟩)],
  [],
  [],
  [],[]⟩
theorem f77_top (a0_a0 : list) (K : List PA → Prop) :
  vcFun Try.prog G77 ann77 77 [.agg [.sl a0_a0.Gates.len 3 (fun i=>enc_55 (a0_a0.Gates.get i))]] K =
  (K [.one (.bool false)]):=by kernel_rfl
abbrev e77 (r:Bool):List PA:=[.one (.bool r)]
def s77 (a0_a0:list):Bool :=
  false
theorem q77 (a0_a0:list) (K:List PA→Prop) (hk:K (e77 (s77 a0_a0))):vcFun Try.prog G77 ann77 77 [.agg [.sl a0_a0.Gates.len 3 (fun i=>enc_55 (a0_a0.Gates.get i))]] K:=by
  refine ofEq (f77_top a0_a0 K) ?_
  unfold s77 at hk
  exact hk
def ctr77 : List PA → COut
  | [.agg [.sl a0_Gates_n a0_Gates_s a0_Gates_g]]=>.det (IsE enc_55 3 a0_Gates_s a0_Gates_g) [.one (.bool (s77 (⟨(⟨a0_Gates_n,decF_55 a0_Gates_g⟩:(Sl Gate))⟩:list)))]
  | _=>.no
theorem call77:Callable Try.prog 77:=⟨_,rfl,rfl,by kernel_rfl⟩
theorem ok77:Ok Try.prog 77 ctr77:=ok_tab okT77 call77 fun args K h=>by
  unfold ctr77 at h
  split at h
  · rename_i a0_Gates_n a0_Gates_s a0_Gates_g
    obtain ⟨⟨rfl,a0_Gates_f,rfl⟩,hk⟩:=h
    try rw [decF_enc_55 a0_Gates_f] at hk
    exact ⟨(fun _ _=>[]),(fun _=>false),ann77,q77 (⟨(⟨a0_Gates_n,a0_Gates_f⟩:(Sl Gate))⟩:list) K hk⟩
  · exact h.elim
abbrev T88:Tabs:=Tabs.nil
theorem okT88:TabsOk Try.prog T88:=TabsOk.nil
abbrev G88:Ctrs:=csm T88 (fun _ _=>[]) (fun _=>false)
def ann88:Ann:=⟨3,[(0,⟨[],[],[],[],[],[],[]⟩),(1,⟨[2],[],[],[],[],[],[]⟩)],
  [],
  [],
  [],[]⟩
theorem f88_top (a0_a0 : list) (K : List PA → Prop) :
  vcFun Try.prog G88 ann88 88 [.agg [.sl a0_a0.Gates.len 3 (fun i=>enc_55 (a0_a0.Gates.get i))]] K =
  (K [.one (.bool true)]):=by kernel_rfl
abbrev e88 (r:Bool):List PA:=[.one (.bool r)]
def s88 (a0_a0:list):Bool :=
  true
theorem q88 (a0_a0:list) (K:List PA→Prop) (hk:K (e88 (s88 a0_a0))):vcFun Try.prog G88 ann88 88 [.agg [.sl a0_a0.Gates.len 3 (fun i=>enc_55 (a0_a0.Gates.get i))]] K:=by
  refine ofEq (f88_top a0_a0 K) ?_
  unfold s88 at hk
  exact hk
def ctr88 : List PA → COut
  | [.agg [.sl a0_Gates_n a0_Gates_s a0_Gates_g]]=>.det (IsE enc_55 3 a0_Gates_s a0_Gates_g) [.one (.bool (s88 (⟨(⟨a0_Gates_n,decF_55 a0_Gates_g⟩:(Sl Gate))⟩:list)))]
  | _=>.no
theorem call88:Callable Try.prog 88:=⟨_,rfl,rfl,by kernel_rfl⟩
theorem ok88:Ok Try.prog 88 ctr88:=ok_tab okT88 call88 fun args K h=>by
  unfold ctr88 at h
  split at h
  · rename_i a0_Gates_n a0_Gates_s a0_Gates_g
    obtain ⟨⟨rfl,a0_Gates_f,rfl⟩,hk⟩:=h
    try rw [decF_enc_55 a0_Gates_f] at hk
    exact ⟨(fun _ _=>[]),(fun _=>false),ann88,q88 (⟨(⟨a0_Gates_n,a0_Gates_f⟩:(Sl Gate))⟩:list) K hk⟩
  · exact h.elim
abbrev T75:Tabs:=(((((((Tabs.nil.addF 64 ctr64).addF 65 ctr65).addF 66 ctr66).addF 67 ctr67).addF 76 ctr76).addF 77 ctr77).addF 88 ctr88)
theorem okT75:TabsOk Try.prog T75:=(((((((TabsOk.nil.addF ok64).addF ok65).addF ok66).addF ok67).addF ok76).addF ok77).addF ok88)
abbrev G75:Ctrs:=csm T75 (fun _ _=>[]) (fun _=>false)
def ann75:Ann:=⟨31,[(0,⟨[0,1,4],[4],[],[],[],[],[]⟩),(1,⟨[0,1,4,9],[4],[],[],[],[],[]⟩),(2,⟨[4,5],[4],[],[],[],[],[]⟩),(3,⟨[1,4,6],[4,6],[],[],[],[],[]⟩),(4,⟨[1,4,6,13],[4,6],[],[],[],[],[]⟩),(5,⟨[4,5],[4],[],[],[],[],[]⟩),(6,⟨[4,6,18],[4,6],[],[],[],[],[]⟩),(7,⟨[4,5],[4],[],[],[],[],[]⟩),(8,⟨[4,5],[4],[],[],[],[],[]⟩)],
  [],
  [(3,⟨[0,1,4],[4],[],[],[],[],[]⟩)],
  [],[]⟩
def f75_g0 (gates:(Sl Gate)):St:=⟨[(0,.one (.c (.p (.sl gates.len 3 (fun i=>enc_55 (gates.get i)))))),(1,.one (.c (.p (.fn 77 [] [])))),(4,.one (.c (.ptr 4 0)))],[(4,.box 104 [.p (.nils),.p (.nils)])],[]⟩
def f75_at0 (K:List PA→Prop) (gates:(Sl Gate)):Prop:=vc Try.prog G75 ann75 (cdF Try.f75 [1,1]) (bodyK Try.prog Try.f75 K) (f75_g0 gates)
theorem f75_top (gates : (Sl Gate)) (K : List PA → Prop) :
  vcFun Try.prog G75 ann75 75 [.one (.sl gates.len 3 (fun i=>enc_55 (gates.get i))),.one (.fn 77 [] [])] K =
  ((IsE enc_55 3 3 (fun i=>enc_55 (gates.get i))∧(p64 gates=true)) ∧
  (condP (!(s64 gates))
   (K [.agg [.nils,.nils],.one (.int .i64 (2:Int))])
   (f75_at0 K gates))):=by kernel_rfl
theorem f75_eq0 (K : List PA → Prop) (gates : (Sl Gate)) :
  f75_at0 K gates =
  ((IsE enc_55 3 3 (fun i=>enc_55 (gates.get i))∧(p65 gates=true)) ∧
  ((IsE enc_55 3 3 (fun i=>enc_55 ((s65 gates).list.Gates.get i))∧IsE enc_118 3 3 (fun i=>enc_118 ((s65 gates).corners.get i))∧(p66 (s65 gates)=true)) ∧
  (condP (!(s66 (s65 gates)))
   (K [.agg [.nils,.nils],.one (.int .i64 (5:Int))])
   ((IsE enc_55 3 3 (fun i=>enc_55 ((s65 gates).list.Gates.get i))∧(p67 ((s65 gates).list)=true)) ∧
   (condP (s67 ((s65 gates).list))
    ((IsE enc_55 3 3 (fun i=>enc_55 ((s65 gates).list.Gates.get i))) ∧
    (condP (!(s77 ((s65 gates).list)))
     (K [.agg [.nils,.nils],.one (.int .i64 (6:Int))])
     (K [.agg [.sl ((s65 gates).list.Gates.len) 3 (fun i=>enc_55 ((s65 gates).list.Gates.get i)),.sl ((s65 gates).corners.len) 3 (fun i=>enc_118 ((s65 gates).corners.get i))],.one (.int .i64 (0:Int))])))
    (K [.agg [.sl ((s65 gates).list.Gates.len) 3 (fun i=>enc_55 ((s65 gates).list.Gates.get i)),.sl ((s65 gates).corners.len) 3 (fun i=>enc_118 ((s65 gates).corners.get i))],.one (.int .i64 (0:Int))])))))):=by kernel_rfl
abbrev e75 (r:(set×Int)):List PA:=[.agg [.sl r.1.list.Gates.len 3 (fun i=>enc_55 (r.1.list.Gates.get i)),.sl r.1.corners.len 3 (fun i=>enc_118 (r.1.corners.get i))],.one (.int .i64 r.2)]
attribute [irreducible] f75_at0
def s75_at0 (gates:(Sl Gate)):(set×Int) :=
  (cond (!(s66 (s65 gates)))
   ((⟨(⟨(⟨0,fun _=>default⟩:(Sl Gate))⟩:list),(⟨0,fun _=>default⟩:(Sl straight))⟩:set),(5:Int))
   (cond (s67 ((s65 gates).list))
    (cond (!(s77 ((s65 gates).list)))
     ((⟨(⟨(⟨0,fun _=>default⟩:(Sl Gate))⟩:list),(⟨0,fun _=>default⟩:(Sl straight))⟩:set),(6:Int))
     ((s65 gates),(0:Int)))
    ((s65 gates),(0:Int))))
def p75_at0 (gates:(Sl Gate)):Bool :=
  (decide ((p65 gates=true)) &&
  (decide ((p66 (s65 gates)=true)) &&
  (cond (!(s66 (s65 gates)))
   true
   (decide ((p67 ((s65 gates).list)=true)) &&
   true))))
theorem q75_at0 (K:List PA→Prop) (gates:(Sl Gate)) (hs:p75_at0 gates=true) (hk:K (e75 (s75_at0 gates))):f75_at0 (Wk K) gates:=by
  refine ofEq (f75_eq0 (Wk K) gates) ?_
  unfold p75_at0 at hs
  unfold s75_at0 at hk
  exact (andK hs fun hc hs => ⟨⟨isE, hc⟩, (andK hs fun hc hs => ⟨⟨isE, isE, hc⟩, (condB_go (K := fun r => K (e75 r))
   (fun hs hk=>(wk hk (rl_c (.agg (rl_c (.nil _ _) (rl_c (.nil _ _) rl_n))) (rl_c (.one (.rfl _)) rl_n))))
   (fun hs hk => (andK hs fun hc hs => ⟨⟨isE, hc⟩, (condP_gt (K := fun r => K (e75 r))
    (fun hk => ⟨isE, (condP_gt (K := fun r => K (e75 r))
     (fun hk=>(wk hk (rl_c (.agg (rl_c (.nil _ _) (rl_c (.nil _ _) rl_n))) (rl_c (.one (.rfl _)) rl_n))))
     (fun hk=>(wk_rfl hk)) hk)⟩)
    (fun hk=>(wk_rfl hk)) hk)⟩)) hs hk)⟩)⟩)
def s75 (gates:(Sl Gate)):(set×Int) :=
  (cond (!(s64 gates))
   ((⟨(⟨(⟨0,fun _=>default⟩:(Sl Gate))⟩:list),(⟨0,fun _=>default⟩:(Sl straight))⟩:set),(2:Int))
   (s75_at0 gates))
def p75 (gates:(Sl Gate)):Bool :=
  (decide ((p64 gates=true)) &&
  (cond (!(s64 gates))
   true
   (p75_at0 gates)))
theorem q75 (gates:(Sl Gate)) (K:List PA→Prop) (hs:p75 gates=true) (hk:K (e75 (s75 gates))):vcFun Try.prog G75 ann75 75 [.one (.sl gates.len 3 (fun i=>enc_55 (gates.get i))),.one (.fn 77 [] [])] (Wk K):=by
  refine ofEq (f75_top gates (Wk K)) ?_
  unfold p75 at hs
  unfold s75 at hk
  exact (andK hs fun hc hs => ⟨⟨isE, hc⟩, (condB_go (K := fun r => K (e75 r))
   (fun hs hk=>(wk hk (rl_c (.agg (rl_c (.nil _ _) (rl_c (.nil _ _) rl_n))) (rl_c (.one (.rfl _)) rl_n))))
   (fun hs hk=>(q75_at0 K gates hs hk)) hs hk)⟩)
abbrev G75a:Ctrs:=csm T75 (fun _ _=>[]) (fun _=>false)
def ann75a:Ann:=⟨31,[(0,⟨[0,1,4],[4],[],[],[],[],[]⟩),(1,⟨[0,1,4,9],[4],[],[],[],[],[]⟩),(2,⟨[4,5],[4],[],[],[],[],[]⟩),(3,⟨[1,4,6],[4,6],[],[],[],[],[]⟩),(4,⟨[1,4,6,13],[4,6],[],[],[],[],[]⟩),(5,⟨[4,5],[4],[],[],[],[],[]⟩),(6,⟨[4,6,18],[4,6],[],[],[],[],[]⟩),(7,⟨[4,5],[4],[],[],[],[],[]⟩),(8,⟨[4,5],[4],[],[],[],[],[]⟩)],
  [],
  [(3,⟨[0,1,4],[4],[],[],[],[],[]⟩)],
  [],[]⟩
def f75a_g0 (c0:Int) (gates:(Sl Gate)):St:=⟨[(0,.one (.c (.p (.sl gates.len 3 (fun i=>enc_55 (gates.get i)))))),(1,.one (.c (.p (.fn 76 [] [.fp (enc_3 c0) 0])))),(4,.one (.c (.ptr 4 0)))],[(4,.box 104 [.p (.nils),.p (.nils)])],[]⟩
def f75a_at0 (K:List PA→Prop) (c0:Int) (gates:(Sl Gate)):Prop:=vc Try.prog G75a ann75a (cdF Try.f75 [1,1]) (bodyK Try.prog Try.f75 K) (f75a_g0 c0 gates)
theorem f75a_top (c0 : Int) (gates : (Sl Gate)) (K : List PA → Prop) :
  vcFun Try.prog G75a ann75a 75 [.one (.sl gates.len 3 (fun i=>enc_55 (gates.get i))),.one (.fn 76 [] [.fp (enc_3 c0) 0])] K =
  ((IsE enc_55 3 3 (fun i=>enc_55 (gates.get i))∧(p64 gates=true)) ∧
  (condP (!(s64 gates))
   (K [.agg [.nils,.nils],.one (.int .i64 (2:Int))])
   (f75a_at0 K c0 gates))):=by kernel_rfl
theorem f75a_eq0 (K : List PA → Prop) (c0 : Int) (gates : (Sl Gate)) :
  f75a_at0 K c0 gates =
  ((IsE enc_55 3 3 (fun i=>enc_55 (gates.get i))∧(p65 gates=true)) ∧
  ((IsE enc_55 3 3 (fun i=>enc_55 ((s65 gates).list.Gates.get i))∧IsE enc_118 3 3 (fun i=>enc_118 ((s65 gates).corners.get i))∧(p66 (s65 gates)=true)) ∧
  (condP (!(s66 (s65 gates)))
   (K [.agg [.nils,.nils],.one (.int .i64 (5:Int))])
   ((IsE enc_55 3 3 (fun i=>enc_55 ((s65 gates).list.Gates.get i))∧(p67 ((s65 gates).list)=true)) ∧
   (condP (s67 ((s65 gates).list))
    ((IsE enc_55 3 3 (fun i=>enc_55 ((s65 gates).list.Gates.get i))∧(p76 c0 ((s65 gates).list)=true)) ∧
    (condP (!(s76 c0 ((s65 gates).list)))
     (K [.agg [.nils,.nils],.one (.int .i64 (6:Int))])
     (K [.agg [.sl ((s65 gates).list.Gates.len) 3 (fun i=>enc_55 ((s65 gates).list.Gates.get i)),.sl ((s65 gates).corners.len) 3 (fun i=>enc_118 ((s65 gates).corners.get i))],.one (.int .i64 (0:Int))])))
    (K [.agg [.sl ((s65 gates).list.Gates.len) 3 (fun i=>enc_55 ((s65 gates).list.Gates.get i)),.sl ((s65 gates).corners.len) 3 (fun i=>enc_118 ((s65 gates).corners.get i))],.one (.int .i64 (0:Int))])))))):=by kernel_rfl
abbrev e75a (r:(set×Int)):List PA:=[.agg [.sl r.1.list.Gates.len 3 (fun i=>enc_55 (r.1.list.Gates.get i)),.sl r.1.corners.len 3 (fun i=>enc_118 (r.1.corners.get i))],.one (.int .i64 r.2)]
attribute [irreducible] f75a_at0
def s75a_at0 (c0:Int) (gates:(Sl Gate)):(set×Int) :=
  (cond (!(s66 (s65 gates)))
   ((⟨(⟨(⟨0,fun _=>default⟩:(Sl Gate))⟩:list),(⟨0,fun _=>default⟩:(Sl straight))⟩:set),(5:Int))
   (cond (s67 ((s65 gates).list))
    (cond (!(s76 c0 ((s65 gates).list)))
     ((⟨(⟨(⟨0,fun _=>default⟩:(Sl Gate))⟩:list),(⟨0,fun _=>default⟩:(Sl straight))⟩:set),(6:Int))
     ((s65 gates),(0:Int)))
    ((s65 gates),(0:Int))))
def p75a_at0 (c0:Int) (gates:(Sl Gate)):Bool :=
  (decide ((p65 gates=true)) &&
  (decide ((p66 (s65 gates)=true)) &&
  (cond (!(s66 (s65 gates)))
   true
   (decide ((p67 ((s65 gates).list)=true)) &&
   (cond (s67 ((s65 gates).list))
    (decide ((p76 c0 ((s65 gates).list)=true)) &&
    true)
    true)))))
theorem q75a_at0 (K:List PA→Prop) (c0:Int) (gates:(Sl Gate)) (hs:p75a_at0 c0 gates=true) (hk:K (e75a (s75a_at0 c0 gates))):f75a_at0 (Wk K) c0 gates:=by
  refine ofEq (f75a_eq0 (Wk K) c0 gates) ?_
  unfold p75a_at0 at hs
  unfold s75a_at0 at hk
  exact (andK hs fun hc hs => ⟨⟨isE, hc⟩, (andK hs fun hc hs => ⟨⟨isE, isE, hc⟩, (condB_go (K := fun r => K (e75a r))
   (fun hs hk=>(wk hk (rl_c (.agg (rl_c (.nil _ _) (rl_c (.nil _ _) rl_n))) (rl_c (.one (.rfl _)) rl_n))))
   (fun hs hk => (andK hs fun hc hs => ⟨⟨isE, hc⟩, (condB_go (K := fun r => K (e75a r))
    (fun hs hk => (andK hs fun hc hs => ⟨⟨isE, hc⟩, (condP_gt (K := fun r => K (e75a r))
     (fun hk=>(wk hk (rl_c (.agg (rl_c (.nil _ _) (rl_c (.nil _ _) rl_n))) (rl_c (.one (.rfl _)) rl_n))))
     (fun hk=>(wk_rfl hk)) hk)⟩))
    (fun hs hk=>(wk_rfl hk)) hs hk)⟩)) hs hk)⟩)⟩)
def s75a (c0:Int) (gates:(Sl Gate)):(set×Int) :=
  (cond (!(s64 gates))
   ((⟨(⟨(⟨0,fun _=>default⟩:(Sl Gate))⟩:list),(⟨0,fun _=>default⟩:(Sl straight))⟩:set),(2:Int))
   (s75a_at0 c0 gates))
def p75a (c0:Int) (gates:(Sl Gate)):Bool :=
  (decide ((p64 gates=true)) &&
  (cond (!(s64 gates))
   true
   (p75a_at0 c0 gates)))
theorem q75a (c0:Int) (gates:(Sl Gate)) (K:List PA→Prop) (hs:p75a c0 gates=true) (hk:K (e75a (s75a c0 gates))):vcFun Try.prog G75a ann75a 75 [.one (.sl gates.len 3 (fun i=>enc_55 (gates.get i))),.one (.fn 76 [] [.fp (enc_3 c0) 0])] (Wk K):=by
  refine ofEq (f75a_top c0 gates (Wk K)) ?_
  unfold p75a at hs
  unfold s75a at hk
  exact (andK hs fun hc hs => ⟨⟨isE, hc⟩, (condB_go (K := fun r => K (e75a r))
   (fun hs hk=>(wk hk (rl_c (.agg (rl_c (.nil _ _) (rl_c (.nil _ _) rl_n))) (rl_c (.one (.rfl _)) rl_n))))
   (fun hs hk=>(q75a_at0 K c0 gates hs hk)) hs hk)⟩)
abbrev G75b:Ctrs:=csm T75 (fun _ _=>[]) (fun _=>false)
def ann75b:Ann:=⟨31,[(0,⟨[0,1,4],[4],[],[],[],[],[]⟩),(1,⟨[0,1,4,9],[4],[],[],[],[],[]⟩),(2,⟨[4,5],[4],[],[],[],[],[]⟩),(3,⟨[1,4,6],[4,6],[],[],[],[],[]⟩),(4,⟨[1,4,6,13],[4,6],[],[],[],[],[]⟩),(5,⟨[4,5],[4],[],[],[],[],[]⟩),(6,⟨[4,6,18],[4,6],[],[],[],[],[]⟩),(7,⟨[4,5],[4],[],[],[],[],[]⟩),(8,⟨[4,5],[4],[],[],[],[],[]⟩)],
  [],
  [(3,⟨[0,1,4],[4],[],[],[],[],[]⟩)],
  [],[]⟩
def f75b_g0 (gates:(Sl Gate)):St:=⟨[(0,.one (.c (.p (.sl gates.len 3 (fun i=>enc_55 (gates.get i)))))),(1,.one (.c (.p (.fn 88 [] [])))),(4,.one (.c (.ptr 4 0)))],[(4,.box 104 [.p (.nils),.p (.nils)])],[]⟩
def f75b_at0 (K:List PA→Prop) (gates:(Sl Gate)):Prop:=vc Try.prog G75b ann75b (cdF Try.f75 [1,1]) (bodyK Try.prog Try.f75 K) (f75b_g0 gates)
theorem f75b_top (gates : (Sl Gate)) (K : List PA → Prop) :
  vcFun Try.prog G75b ann75b 75 [.one (.sl gates.len 3 (fun i=>enc_55 (gates.get i))),.one (.fn 88 [] [])] K =
  ((IsE enc_55 3 3 (fun i=>enc_55 (gates.get i))∧(p64 gates=true)) ∧
  (condP (!(s64 gates))
   (K [.agg [.nils,.nils],.one (.int .i64 (2:Int))])
   (f75b_at0 K gates))):=by kernel_rfl
theorem f75b_eq0 (K : List PA → Prop) (gates : (Sl Gate)) :
  f75b_at0 K gates =
  ((IsE enc_55 3 3 (fun i=>enc_55 (gates.get i))∧(p65 gates=true)) ∧
  ((IsE enc_55 3 3 (fun i=>enc_55 ((s65 gates).list.Gates.get i))∧IsE enc_118 3 3 (fun i=>enc_118 ((s65 gates).corners.get i))∧(p66 (s65 gates)=true)) ∧
  (condP (!(s66 (s65 gates)))
   (K [.agg [.nils,.nils],.one (.int .i64 (5:Int))])
   ((IsE enc_55 3 3 (fun i=>enc_55 ((s65 gates).list.Gates.get i))∧(p67 ((s65 gates).list)=true)) ∧
   (condP (s67 ((s65 gates).list))
    ((IsE enc_55 3 3 (fun i=>enc_55 ((s65 gates).list.Gates.get i))) ∧
    (condP (!(s88 ((s65 gates).list)))
     (K [.agg [.nils,.nils],.one (.int .i64 (6:Int))])
     (K [.agg [.sl ((s65 gates).list.Gates.len) 3 (fun i=>enc_55 ((s65 gates).list.Gates.get i)),.sl ((s65 gates).corners.len) 3 (fun i=>enc_118 ((s65 gates).corners.get i))],.one (.int .i64 (0:Int))])))
    (K [.agg [.sl ((s65 gates).list.Gates.len) 3 (fun i=>enc_55 ((s65 gates).list.Gates.get i)),.sl ((s65 gates).corners.len) 3 (fun i=>enc_118 ((s65 gates).corners.get i))],.one (.int .i64 (0:Int))])))))):=by kernel_rfl
abbrev e75b (r:(set×Int)):List PA:=[.agg [.sl r.1.list.Gates.len 3 (fun i=>enc_55 (r.1.list.Gates.get i)),.sl r.1.corners.len 3 (fun i=>enc_118 (r.1.corners.get i))],.one (.int .i64 r.2)]
attribute [irreducible] f75b_at0
def s75b_at0 (gates:(Sl Gate)):(set×Int) :=
  (cond (!(s66 (s65 gates)))
   ((⟨(⟨(⟨0,fun _=>default⟩:(Sl Gate))⟩:list),(⟨0,fun _=>default⟩:(Sl straight))⟩:set),(5:Int))
   (cond (s67 ((s65 gates).list))
    (cond (!(s88 ((s65 gates).list)))
     ((⟨(⟨(⟨0,fun _=>default⟩:(Sl Gate))⟩:list),(⟨0,fun _=>default⟩:(Sl straight))⟩:set),(6:Int))
     ((s65 gates),(0:Int)))
    ((s65 gates),(0:Int))))
def p75b_at0 (gates:(Sl Gate)):Bool :=
  (decide ((p65 gates=true)) &&
  (decide ((p66 (s65 gates)=true)) &&
  (cond (!(s66 (s65 gates)))
   true
   (decide ((p67 ((s65 gates).list)=true)) &&
   true))))
theorem q75b_at0 (K:List PA→Prop) (gates:(Sl Gate)) (hs:p75b_at0 gates=true) (hk:K (e75b (s75b_at0 gates))):f75b_at0 (Wk K) gates:=by
  refine ofEq (f75b_eq0 (Wk K) gates) ?_
  unfold p75b_at0 at hs
  unfold s75b_at0 at hk
  exact (andK hs fun hc hs => ⟨⟨isE, hc⟩, (andK hs fun hc hs => ⟨⟨isE, isE, hc⟩, (condB_go (K := fun r => K (e75b r))
   (fun hs hk=>(wk hk (rl_c (.agg (rl_c (.nil _ _) (rl_c (.nil _ _) rl_n))) (rl_c (.one (.rfl _)) rl_n))))
   (fun hs hk => (andK hs fun hc hs => ⟨⟨isE, hc⟩, (condP_gt (K := fun r => K (e75b r))
    (fun hk => ⟨isE, (condP_gt (K := fun r => K (e75b r))
     (fun hk=>(wk hk (rl_c (.agg (rl_c (.nil _ _) (rl_c (.nil _ _) rl_n))) (rl_c (.one (.rfl _)) rl_n))))
     (fun hk=>(wk_rfl hk)) hk)⟩)
    (fun hk=>(wk_rfl hk)) hk)⟩)) hs hk)⟩)⟩)
def s75b (gates:(Sl Gate)):(set×Int) :=
  (cond (!(s64 gates))
   ((⟨(⟨(⟨0,fun _=>default⟩:(Sl Gate))⟩:list),(⟨0,fun _=>default⟩:(Sl straight))⟩:set),(2:Int))
   (s75b_at0 gates))
def p75b (gates:(Sl Gate)):Bool :=
  (decide ((p64 gates=true)) &&
  (cond (!(s64 gates))
   true
   (p75b_at0 gates)))
theorem q75b (gates:(Sl Gate)) (K:List PA→Prop) (hs:p75b gates=true) (hk:K (e75b (s75b gates))):vcFun Try.prog G75b ann75b 75 [.one (.sl gates.len 3 (fun i=>enc_55 (gates.get i))),.one (.fn 88 [] [])] (Wk K):=by
  refine ofEq (f75b_top gates (Wk K)) ?_
  unfold p75b at hs
  unfold s75b at hk
  exact (andK hs fun hc hs => ⟨⟨isE, hc⟩, (condB_go (K := fun r => K (e75b r))
   (fun hs hk=>(wk hk (rl_c (.agg (rl_c (.nil _ _) (rl_c (.nil _ _) rl_n))) (rl_c (.one (.rfl _)) rl_n))))
   (fun hs hk=>(q75b_at0 K gates hs hk)) hs hk)⟩)
def ctr75 : List PA → COut
  | [.one (.sl a0_n a0_s a0_g),.one (.fn 77 [] [])]=>.det (IsE enc_55 3 a0_s a0_g∧p75 (⟨a0_n,decF_55 a0_g⟩:(Sl Gate))=true) [.agg [.sl (((s75 (⟨a0_n,decF_55 a0_g⟩:(Sl Gate))).1).list.Gates.len) 3 (fun i=>enc_55 (((s75 (⟨a0_n,decF_55 a0_g⟩:(Sl Gate))).1).list.Gates.get i)),.sl (((s75 (⟨a0_n,decF_55 a0_g⟩:(Sl Gate))).1).corners.len) 3 (fun i=>enc_118 (((s75 (⟨a0_n,decF_55 a0_g⟩:(Sl Gate))).1).corners.get i))],.one (.int .i64 ((s75 (⟨a0_n,decF_55 a0_g⟩:(Sl Gate))).2))]
  | [.one (.sl a0_n a0_s a0_g),.one (.fn 76 [] [.fp [.int .i64 c0] 0])]=>.det (IsE enc_55 3 a0_s a0_g∧p75a c0 (⟨a0_n,decF_55 a0_g⟩:(Sl Gate))=true) [.agg [.sl (((s75a c0 (⟨a0_n,decF_55 a0_g⟩:(Sl Gate))).1).list.Gates.len) 3 (fun i=>enc_55 (((s75a c0 (⟨a0_n,decF_55 a0_g⟩:(Sl Gate))).1).list.Gates.get i)),.sl (((s75a c0 (⟨a0_n,decF_55 a0_g⟩:(Sl Gate))).1).corners.len) 3 (fun i=>enc_118 (((s75a c0 (⟨a0_n,decF_55 a0_g⟩:(Sl Gate))).1).corners.get i))],.one (.int .i64 ((s75a c0 (⟨a0_n,decF_55 a0_g⟩:(Sl Gate))).2))]
  | [.one (.sl a0_n a0_s a0_g),.one (.fn 88 [] [])]=>.det (IsE enc_55 3 a0_s a0_g∧p75b (⟨a0_n,decF_55 a0_g⟩:(Sl Gate))=true) [.agg [.sl (((s75b (⟨a0_n,decF_55 a0_g⟩:(Sl Gate))).1).list.Gates.len) 3 (fun i=>enc_55 (((s75b (⟨a0_n,decF_55 a0_g⟩:(Sl Gate))).1).list.Gates.get i)),.sl (((s75b (⟨a0_n,decF_55 a0_g⟩:(Sl Gate))).1).corners.len) 3 (fun i=>enc_118 (((s75b (⟨a0_n,decF_55 a0_g⟩:(Sl Gate))).1).corners.get i))],.one (.int .i64 ((s75b (⟨a0_n,decF_55 a0_g⟩:(Sl Gate))).2))]
  | _=>.no
theorem call75:Callable Try.prog 75:=⟨_,rfl,rfl,by kernel_rfl⟩
theorem ok75:Ok Try.prog 75 ctr75:=ok_tabW okT75 call75 fun args K h=>by
  unfold ctr75 at h
  split at h
  · rename_i a0_n a0_s a0_g
    obtain ⟨⟨⟨rfl,a0_f,rfl⟩,hs⟩,hk⟩:=h
    try rw [decF_enc_55 a0_f] at hs
    try rw [decF_enc_55 a0_f] at hk
    exact ⟨_,rl_rfl pa_rfl _,(fun _ _=>[]),(fun _=>false),ann75,q75 (⟨a0_n,a0_f⟩:(Sl Gate)) K hs hk⟩
  · rename_i a0_n a0_s a0_g c0
    obtain ⟨⟨⟨rfl,a0_f,rfl⟩,hs⟩,hk⟩:=h
    try rw [decF_enc_55 a0_f] at hs
    try rw [decF_enc_55 a0_f] at hk
    exact ⟨_,rl_rfl pa_rfl _,(fun _ _=>[]),(fun _=>false),ann75a,q75a c0 (⟨a0_n,a0_f⟩:(Sl Gate)) K hs hk⟩
  · rename_i a0_n a0_s a0_g
    obtain ⟨⟨⟨rfl,a0_f,rfl⟩,hs⟩,hk⟩:=h
    try rw [decF_enc_55 a0_f] at hs
    try rw [decF_enc_55 a0_f] at hk
    exact ⟨_,rl_rfl pa_rfl _,(fun _ _=>[]),(fun _=>false),ann75b,q75b (⟨a0_n,a0_f⟩:(Sl Gate)) K hs hk⟩
  · exact h.elim
abbrev T30:Tabs:=(((Tabs.nil.addF 68 ctr68).addF 74 ctr74).addF 75 ctr75)
theorem okT30:TabsOk Try.prog T30:=(((TabsOk.nil.addF ok68).addF ok74).addF ok75)
abbrev G30:Ctrs:=csm T30 (fun _ _=>[]) (fun _=>false)
def ann30:Ann:=⟨35,[(0,⟨[0,3,4,5],[3,4,5],[],[],[],[],[]⟩),(1,⟨[0,3,4,5,13],[3,4,5],[],[],[],[],[]⟩),(2,⟨[4,5,6],[4,5],[],[],[],[],[]⟩),(3,⟨[3,4,5,7,8],[3,4,5,7],[],[],[],[],[]⟩),(4,⟨[3,4,5,7,8,23],[3,4,5,7],[],[],[],[],[]⟩),(5,⟨[4,5,6],[4,5],[],[],[],[],[]⟩),(6,⟨[4,5,9,10],[4,5,9,10],[],[],[],[],[]⟩),(7,⟨[4,5,6],[4,5],[],[],[],[],[]⟩)],
  [],
  [(2,⟨[0,3,4,5,13],[3,4,5],[],[],[],[],[]⟩),(3,⟨[0,3,4,5],[3,4,5],[],[],[],[],[]⟩),(4,⟨[3,4,5,7,8],[3,4,5,7],[],[],[],[],[]⟩),(6,⟨[3,4,5,7],[3,4,5,7],[],[],[],[],[]⟩),(7,⟨[4,5,9,10],[4,5,9,10],[],[],[],[],[]⟩)],
  [],[]⟩
def f30_g0 (gates:(Sl Gate)) (z:Int) (t13v0:Bool):St:=⟨[(0,.one (.c (.p (.sl gates.len 3 (fun i=>enc_55 (gates.get i)))))),(3,.one (.c (.ptr 3 0))),(4,.one (.c (.ptr 4 0))),(5,.one (.c (.ptr 5 0))),(13,.one (.c (.p (.bool t13v0))))],[(3,.box 3 [.p (.int .i64 z)]),(4,.box 25 [.p (.int .i64 (0:Int)),.p (.int .i64 (0:Int))]),(5,.box 25 [.p (.int .i64 (0:Int)),.p (.int .i64 (0:Int))])],[]⟩
def f30_at0 (K:List PA→Prop) (gates:(Sl Gate)) (z:Int) (t13v0:Bool):Prop:=vc Try.prog G30 ann30 (cdF Try.f30 [1,0,1]) (sqK Try.prog G30 ann30 (cdF Try.f30 [1,1]) (bodyK Try.prog Try.f30 K)) (f30_g0 gates z t13v0)
def f30_g1 (gates:(Sl Gate)) (z:Int):St:=⟨[(0,.one (.c (.p (.sl gates.len 3 (fun i=>enc_55 (gates.get i)))))),(3,.one (.c (.ptr 3 0))),(4,.one (.c (.ptr 4 0))),(5,.one (.c (.ptr 5 0)))],[(3,.box 3 [.p (.int .i64 z)]),(4,.box 25 [.p (.int .i64 (0:Int)),.p (.int .i64 (0:Int))]),(5,.box 25 [.p (.int .i64 (0:Int)),.p (.int .i64 (0:Int))])],[]⟩
def f30_at1 (K:List PA→Prop) (gates:(Sl Gate)) (z:Int):Prop:=vc Try.prog G30 ann30 (cdF Try.f30 [1,1]) (bodyK Try.prog Try.f30 K) (f30_g1 gates z)
def f30_g2 (z:Int) (ev2:Int) (s_0v2_n:Nat) (s_0v2_g:Nat→List PV) (s_1v2_n:Nat) (s_1v2_g:Nat→List PV):St:=⟨[(3,.one (.c (.ptr 3 0))),(4,.one (.c (.ptr 4 0))),(5,.one (.c (.ptr 5 0))),(7,.one (.c (.ptr 7 0))),(8,.one (.c (.p (.int .i64 ev2))))],[(3,.fbox [.int .i64 z]),(4,.box 25 [.p (.int .i64 (0:Int)),.p (.int .i64 (0:Int))]),(5,.box 25 [.p (.int .i64 (0:Int)),.p (.int .i64 (0:Int))]),(7,.box 104 [.p (.sl s_0v2_n 3 s_0v2_g),.p (.sl s_1v2_n 3 s_1v2_g)])],[]⟩
def f30_at2 (K:List PA→Prop) (z:Int) (ev2:Int) (s_0v2_n:Nat) (s_0v2_g:Nat→List PV) (s_1v2_n:Nat) (s_1v2_g:Nat→List PV):Prop:=vc Try.prog G30 ann30 (cdF Try.f30 [1,1,1]) (bodyK Try.prog Try.f30 K) (f30_g2 z ev2 s_0v2_n s_0v2_g s_1v2_n s_1v2_g)
def f30_g3 (z:Int) (s_0v3_n:Nat) (s_0v3_g:Nat→List PV) (s_1v3_n:Nat) (s_1v3_g:Nat→List PV):St:=⟨[(3,.one (.c (.ptr 3 0))),(4,.one (.c (.ptr 4 0))),(5,.one (.c (.ptr 5 0))),(7,.one (.c (.ptr 7 0)))],[(3,.fbox [.int .i64 z]),(4,.box 25 [.p (.int .i64 (0:Int)),.p (.int .i64 (0:Int))]),(5,.box 25 [.p (.int .i64 (0:Int)),.p (.int .i64 (0:Int))]),(7,.box 104 [.p (.sl s_0v3_n 3 s_0v3_g),.p (.sl s_1v3_n 3 s_1v3_g)])],[]⟩
def f30_at3 (K:List PA→Prop) (z:Int) (s_0v3_n:Nat) (s_0v3_g:Nat→List PV) (s_1v3_n:Nat) (s_1v3_g:Nat→List PV):Prop:=vc Try.prog G30 ann30 (cdF Try.f30 [1,1,1,1]) (bodyK Try.prog Try.f30 K) (f30_g3 z s_0v3_n s_0v3_g s_1v3_n s_1v3_g)
def f30_g4 (low_0v4:Int) (low_1v4:Int) (high_0v4:Int) (high_1v4:Int):St:=⟨[(4,.one (.c (.ptr 4 0))),(5,.one (.c (.ptr 5 0))),(9,.one (.c (.ptr 9 0))),(10,.one (.c (.ptr 10 0)))],[(4,.box 25 [.p (.int .i64 (0:Int)),.p (.int .i64 (0:Int))]),(5,.box 25 [.p (.int .i64 (0:Int)),.p (.int .i64 (0:Int))]),(9,.box 25 [.p (.int .i64 low_0v4),.p (.int .i64 low_1v4)]),(10,.box 25 [.p (.int .i64 high_0v4),.p (.int .i64 high_1v4)])],[]⟩
def f30_at4 (K:List PA→Prop) (low_0v4:Int) (low_1v4:Int) (high_0v4:Int) (high_1v4:Int):Prop:=vc Try.prog G30 ann30 (cdF Try.f30 [1,1,1,1,1]) (bodyK Try.prog Try.f30 K) (f30_g4 low_0v4 low_1v4 high_0v4 high_1v4)
theorem f30_top (gates : (Sl Gate)) (z : Int) (K : List PA → Prop) :
  vcFun Try.prog G30 ann30 30 [.one (.sl gates.len 3 (fun i=>enc_55 (gates.get i))),.one (.int .i64 z)] K =
  (f30_at0 K gates z (!(s74 z (-100000:Int) (200000:Int)))):=by kernel_rfl
theorem f30_eq0 (K : List PA → Prop) (gates : (Sl Gate)) (z : Int) (t13v0 : Bool) :
  f30_at0 K gates z t13v0 =
  (condP t13v0
   (K [.agg [.int .i64 (0:Int),.int .i64 (0:Int)],.agg [.int .i64 (0:Int),.int .i64 (0:Int)],.one (.int .i64 (2:Int))])
   (f30_at1 K gates z)):=by kernel_rfl
theorem f30_eq1 (K : List PA → Prop) (gates : (Sl Gate)) (z : Int) :
  f30_at1 K gates z =
  ((IsE enc_55 3 3 (fun i=>enc_55 (gates.get i))∧(p75a z gates=true)) ∧
  (f30_at2 K z ((s75a z gates).2) (((s75a z gates).1).list.Gates.len) (fun i=>enc_55 (((s75a z gates).1).list.Gates.get i)) (((s75a z gates).1).corners.len) (fun i=>enc_118 (((s75a z gates).1).corners.get i)))):=by kernel_rfl
theorem f30_eq2 (K : List PA → Prop) (z : Int) (ev2 : Int) (s_0v2 : (Sl Gate)) (s_1v2 : (Sl straight)) :
  f30_at2 K z ev2 s_0v2.len (fun i=>enc_55 (s_0v2.get i)) s_1v2.len (fun i=>enc_118 (s_1v2.get i)) =
  (condP (ev2 != (0:Int))
   (K [.agg [.int .i64 (0:Int),.int .i64 (0:Int)],.agg [.int .i64 (0:Int),.int .i64 (0:Int)],.one (.int .i64 ev2)])
   (f30_at3 K z s_0v2.len (fun i=>enc_55 (s_0v2.get i)) s_1v2.len (fun i=>enc_118 (s_1v2.get i)))):=by kernel_rfl
theorem f30_eq3 (K : List PA → Prop) (z : Int) (s_0v3 : (Sl Gate)) (s_1v3 : (Sl straight)) :
  f30_at3 K z s_0v3.len (fun i=>enc_55 (s_0v3.get i)) s_1v3.len (fun i=>enc_118 (s_1v3.get i)) =
  ((IsE enc_55 3 3 (fun i=>enc_55 (s_0v3.get i))∧IsE enc_118 3 3 (fun i=>enc_118 (s_1v3.get i))∧(p68 (⟨(⟨s_0v3⟩:list),s_1v3⟩:set) z=true)) ∧
  (f30_at4 K (((s68 (⟨(⟨s_0v3⟩:list),s_1v3⟩:set) z).1).Num) (((s68 (⟨(⟨s_0v3⟩:list),s_1v3⟩:set) z).1).Den) (((s68 (⟨(⟨s_0v3⟩:list),s_1v3⟩:set) z).2).Num) (((s68 (⟨(⟨s_0v3⟩:list),s_1v3⟩:set) z).2).Den))):=by kernel_rfl
theorem f30_eq4 (K : List PA → Prop) (low_0v4 : Int) (low_1v4 : Int) (high_0v4 : Int) (high_1v4 : Int) :
  f30_at4 K low_0v4 low_1v4 high_0v4 high_1v4 =
  (K [.agg [.int .i64 low_0v4,.int .i64 low_1v4],.agg [.int .i64 high_0v4,.int .i64 high_1v4],.one (.int .i64 (0:Int))]):=by kernel_rfl
abbrev e30 (r:(Frac×Frac×Int)):List PA:=[.agg [.int .i64 r.1.Num,.int .i64 r.1.Den],.agg [.int .i64 r.2.1.Num,.int .i64 r.2.1.Den],.one (.int .i64 r.2.2)]
attribute [irreducible] f30_at0 f30_at1 f30_at2 f30_at3 f30_at4
def s30_at4 (low_0v4:Int) (low_1v4:Int) (high_0v4:Int) (high_1v4:Int):(Frac×Frac×Int) :=
  ((⟨low_0v4,low_1v4⟩:Frac),(⟨high_0v4,high_1v4⟩:Frac),(0:Int))
theorem q30_at4 (K:List PA→Prop) (low_0v4:Int) (low_1v4:Int) (high_0v4:Int) (high_1v4:Int) (hk:K (e30 (s30_at4 low_0v4 low_1v4 high_0v4 high_1v4))):f30_at4 K low_0v4 low_1v4 high_0v4 high_1v4:=by
  refine ofEq (f30_eq4 K low_0v4 low_1v4 high_0v4 high_1v4) ?_
  unfold s30_at4 at hk
  exact hk
def s30_at3 (z:Int) (s_0v3:(Sl Gate)) (s_1v3:(Sl straight)):(Frac×Frac×Int) :=
  (s30_at4 (((s68 (⟨(⟨s_0v3⟩:list),s_1v3⟩:set) z).1).Num) (((s68 (⟨(⟨s_0v3⟩:list),s_1v3⟩:set) z).1).Den) (((s68 (⟨(⟨s_0v3⟩:list),s_1v3⟩:set) z).2).Num) (((s68 (⟨(⟨s_0v3⟩:list),s_1v3⟩:set) z).2).Den))
def p30_at3 (z:Int) (s_0v3:(Sl Gate)) (s_1v3:(Sl straight)):Bool :=
  (decide ((p68 (⟨(⟨s_0v3⟩:list),s_1v3⟩:set) z=true)) &&
  true)
theorem q30_at3 (K:List PA→Prop) (z:Int) (s_0v3:(Sl Gate)) (s_1v3:(Sl straight)) (s_0v3_g:Nat→List PV) (s_0v3_h:s_0v3_g=fun i=>enc_55 (s_0v3.get i)) (s_1v3_g:Nat→List PV) (s_1v3_h:s_1v3_g=fun i=>enc_118 (s_1v3.get i)) (hs:p30_at3 z s_0v3 s_1v3=true) (hk:K (e30 (s30_at3 z s_0v3 s_1v3))):f30_at3 K z s_0v3.len s_0v3_g s_1v3.len s_1v3_g:=by
  subst s_0v3_h
  subst s_1v3_h
  refine ofEq (f30_eq3 K z s_0v3 s_1v3) ?_
  unfold p30_at3 at hs
  unfold s30_at3 at hk
  exact (andK hs fun hc hs=>⟨⟨isE,isE,hc⟩,(q30_at4 K (((s68 (⟨(⟨s_0v3⟩:list),s_1v3⟩:set) z).1).Num) (((s68 (⟨(⟨s_0v3⟩:list),s_1v3⟩:set) z).1).Den) (((s68 (⟨(⟨s_0v3⟩:list),s_1v3⟩:set) z).2).Num) (((s68 (⟨(⟨s_0v3⟩:list),s_1v3⟩:set) z).2).Den) hk)⟩)
def s30_at2 (z:Int) (ev2:Int) (s_0v2:(Sl Gate)) (s_1v2:(Sl straight)):(Frac×Frac×Int) :=
  (cond (ev2 != (0:Int))
   ((⟨(0:Int),(0:Int)⟩:Frac),(⟨(0:Int),(0:Int)⟩:Frac),ev2)
   (s30_at3 z s_0v2 s_1v2))
def p30_at2 (z:Int) (ev2:Int) (s_0v2:(Sl Gate)) (s_1v2:(Sl straight)):Bool :=
  (cond (ev2 != (0:Int))
   true
   (p30_at3 z s_0v2 s_1v2))
theorem q30_at2 (K:List PA→Prop) (z:Int) (ev2:Int) (s_0v2:(Sl Gate)) (s_1v2:(Sl straight)) (s_0v2_g:Nat→List PV) (s_0v2_h:s_0v2_g=fun i=>enc_55 (s_0v2.get i)) (s_1v2_g:Nat→List PV) (s_1v2_h:s_1v2_g=fun i=>enc_118 (s_1v2.get i)) (hs:p30_at2 z ev2 s_0v2 s_1v2=true) (hk:K (e30 (s30_at2 z ev2 s_0v2 s_1v2))):f30_at2 K z ev2 s_0v2.len s_0v2_g s_1v2.len s_1v2_g:=by
  subst s_0v2_h
  subst s_1v2_h
  refine ofEq (f30_eq2 K z ev2 s_0v2 s_1v2) ?_
  unfold p30_at2 at hs
  unfold s30_at2 at hk
  exact (condB_go (K := fun r => K (e30 r))
   (fun hs hk=>hk)
   (fun hs hk=>(q30_at3 K z s_0v2 s_1v2 (fun i=>enc_55 (s_0v2.get i)) rfl (fun i=>enc_118 (s_1v2.get i)) rfl hs hk)) hs hk)
def s30_at1 (gates:(Sl Gate)) (z:Int):(Frac×Frac×Int) :=
  (s30_at2 z ((s75a z gates).2) (((s75a z gates).1).list.Gates) (((s75a z gates).1).corners))
def p30_at1 (gates:(Sl Gate)) (z:Int):Bool :=
  (decide ((p75a z gates=true)) &&
  (p30_at2 z ((s75a z gates).2) (((s75a z gates).1).list.Gates) (((s75a z gates).1).corners)))
theorem q30_at1 (K:List PA→Prop) (gates:(Sl Gate)) (z:Int) (hs:p30_at1 gates z=true) (hk:K (e30 (s30_at1 gates z))):f30_at1 K gates z:=by
  refine ofEq (f30_eq1 K gates z) ?_
  unfold p30_at1 at hs
  unfold s30_at1 at hk
  exact (andK hs fun hc hs=>⟨⟨isE,hc⟩,(q30_at2 K z ((s75a z gates).2) (((s75a z gates).1).list.Gates) (((s75a z gates).1).corners) (fun i=>enc_55 (((s75a z gates).1).list.Gates.get i)) rfl (fun i=>enc_118 (((s75a z gates).1).corners.get i)) rfl hs hk)⟩)
def s30_at0 (gates:(Sl Gate)) (z:Int) (t13v0:Bool):(Frac×Frac×Int) :=
  (cond t13v0
   ((⟨(0:Int),(0:Int)⟩:Frac),(⟨(0:Int),(0:Int)⟩:Frac),(2:Int))
   (s30_at1 gates z))
def p30_at0 (gates:(Sl Gate)) (z:Int) (t13v0:Bool):Bool :=
  (cond t13v0
   true
   (p30_at1 gates z))
theorem q30_at0 (K:List PA→Prop) (gates:(Sl Gate)) (z:Int) (t13v0:Bool) (hs:p30_at0 gates z t13v0=true) (hk:K (e30 (s30_at0 gates z t13v0))):f30_at0 K gates z t13v0:=by
  refine ofEq (f30_eq0 K gates z t13v0) ?_
  unfold p30_at0 at hs
  unfold s30_at0 at hk
  exact (condB_go (K := fun r => K (e30 r))
   (fun hs hk=>hk)
   (fun hs hk=>(q30_at1 K gates z hs hk)) hs hk)
def s30 (gates:(Sl Gate)) (z:Int):(Frac×Frac×Int) :=
  (s30_at0 gates z (!(s74 z (-100000:Int) (200000:Int))))
def p30 (gates:(Sl Gate)) (z:Int):Bool :=
  (p30_at0 gates z (!(s74 z (-100000:Int) (200000:Int))))
theorem q30 (gates:(Sl Gate)) (z:Int) (K:List PA→Prop) (hs:p30 gates z=true) (hk:K (e30 (s30 gates z))):vcFun Try.prog G30 ann30 30 [.one (.sl gates.len 3 (fun i=>enc_55 (gates.get i))),.one (.int .i64 z)] K:=by
  refine ofEq (f30_top gates z K) ?_
  unfold p30 at hs
  unfold s30 at hk
  exact (q30_at0 K gates z (!(s74 z (-100000:Int) (200000:Int))) hs hk)
def ctr30 : List PA → COut
  | [.one (.sl a0_n a0_s a0_g),.one (.int .i64 a1)]=>.det (IsE enc_55 3 a0_s a0_g∧p30 (⟨a0_n,decF_55 a0_g⟩:(Sl Gate)) a1=true) [.agg [.int .i64 (((s30 (⟨a0_n,decF_55 a0_g⟩:(Sl Gate)) a1).1).Num),.int .i64 (((s30 (⟨a0_n,decF_55 a0_g⟩:(Sl Gate)) a1).1).Den)],.agg [.int .i64 (((s30 (⟨a0_n,decF_55 a0_g⟩:(Sl Gate)) a1).2.1).Num),.int .i64 (((s30 (⟨a0_n,decF_55 a0_g⟩:(Sl Gate)) a1).2.1).Den)],.one (.int .i64 ((s30 (⟨a0_n,decF_55 a0_g⟩:(Sl Gate)) a1).2.2))]
  | _=>.no
theorem call30:Callable Try.prog 30:=⟨_,rfl,rfl,by kernel_rfl⟩
theorem ok30:Ok Try.prog 30 ctr30:=ok_tab okT30 call30 fun args K h=>by
  unfold ctr30 at h
  split at h
  · rename_i a0_n a0_s a0_g a1
    obtain ⟨⟨⟨rfl,a0_f,rfl⟩,hs⟩,hk⟩:=h
    try rw [decF_enc_55 a0_f] at hs
    try rw [decF_enc_55 a0_f] at hk
    exact ⟨(fun _ _=>[]),(fun _=>false),ann30,q30 (⟨a0_n,a0_f⟩:(Sl Gate)) a1 K hs hk⟩
  · exact h.elim
abbrev T105:Tabs:=Tabs.nil
theorem okT105:TabsOk Try.prog T105:=TabsOk.nil
abbrev G105:Ctrs:=csm T105 (fun _ _=>[]) (fun _=>false)
def ann105:Ann:=⟨8,[(0,⟨[0],[],[],[],[],[],[]⟩),(1,⟨[0,4],[],[],[],[],[],[]⟩),(2,⟨[2],[],[],[],[],[],[]⟩),(3,⟨[2],[5],[],[],[],[],[]⟩)],
  [],
  [],
  [],[]⟩
theorem f105_top (n : Nat) (get : Nat → List PV) : vcOwn Try.prog G105 ann105 105 [.one (.sl n 3 get)] 118 3 24 n get =
  ((True)∧(∃ r1:Bool,(n ≠ 0→r1=false))∧∀ r1:Bool,(n ≠ 0→r1=false) →
  (condP r1
   (True∧n=0)
   ((((0+n) * 24≤140737488355328∧0+n≤9223372036854775807)) ∧
   (True∧118=118∧3=3∧24=24∧(0+n)=n∧∀ i,i < n→(appG 0 (getL []) get) i=get i)))):=by kernel_rfl
abbrev own105:OwnK:=.clone 118 3 24
theorem call105:Callable Try.prog 105:=⟨_,rfl,rfl,by kernel_rfl⟩
theorem ok105:OwnOk Try.prog 105 own105:=clone_tab okT105 call105 fun n get h1 h2=>by
  refine ⟨fun _ _=>[],fun _=>false,ann105,?_⟩
  show vcOwn Try.prog G105 ann105 105 _ _ _ _ _ _
  rw [f105_top]
  refine ⟨trivial,⟨decide (n=0),fun h=>decide_eq_false h⟩,fun r1 hr=>?_⟩
  cases r1
  · refine ⟨⟨by omega,by omega⟩,trivial,rfl,rfl,rfl,Nat.zero_add n,fun i _=>rfl⟩
  · exact ⟨trivial,Classical.byContradiction fun h=>by simpa using hr h⟩
abbrev own106:OwnK:=.sort 118 3 24
theorem ok106:OwnOk Try.prog 106 own106:=sortF_own Try.laysS106 rfl rfl rfl (fun h=>h) ⟨_,rfl,rfl,by kernel_rfl⟩
abbrev T108:Tabs:=(Tabs.nil.addF 99 ctr99)
theorem okT108:TabsOk Try.prog T108:=(TabsOk.nil.addF ok99)
abbrev G108:Ctrs:=csm T108 (fun _ _=>[]) (fun _=>false)
def ann108:Ann:=⟨10,[(0,⟨[2,3],[2,3],[],[],[],[],[]⟩),(1,⟨[4],[],[],[],[],[],[]⟩)],
  [],
  [],
  [],[]⟩
theorem f108_top (s : set) (x : straight) (K : List PA → Prop) :
  vcFun Try.prog G108 ann108 108 [.agg [.sl s.list.Gates.len 3 (fun i=>enc_55 (s.list.Gates.get i)),.sl s.corners.len 3 (fun i=>enc_118 (s.corners.get i))],.agg [.int .i64 x.slope,.int .i64 x.start,.int .i64 x.den]] K =
  ((IsE enc_55 3 3 (fun i=>enc_55 (s.list.Gates.get i))∧(p99b x s.list.Gates=true)) ∧
  (K [.one (.bool (s99b x s.list.Gates))])):=by kernel_rfl
abbrev e108 (r:Bool):List PA:=[.one (.bool r)]
def s108 (s:set) (x:straight):Bool :=
  (s99b x s.list.Gates)
def p108 (s:set) (x:straight):Bool :=
  (decide ((p99b x s.list.Gates=true)) &&
  true)
theorem q108 (s:set) (x:straight) (K:List PA→Prop) (hs:p108 s x=true) (hk:K (e108 (s108 s x))):vcFun Try.prog G108 ann108 108 [.agg [.sl s.list.Gates.len 3 (fun i=>enc_55 (s.list.Gates.get i)),.sl s.corners.len 3 (fun i=>enc_118 (s.corners.get i))],.agg [.int .i64 x.slope,.int .i64 x.start,.int .i64 x.den]] K:=by
  refine ofEq (f108_top s x K) ?_
  unfold p108 at hs
  unfold s108 at hk
  exact (andK hs fun hc hs=>⟨⟨isE,hc⟩,hk⟩)
def ctr108 : List PA → COut
  | [.agg [.sl a0_list_Gates_n a0_list_Gates_s a0_list_Gates_g,.sl a0_corners_n a0_corners_s a0_corners_g],.agg [.int .i64 a1_slope,.int .i64 a1_start,.int .i64 a1_den]]=>.det (IsE enc_55 3 a0_list_Gates_s a0_list_Gates_g∧IsE enc_118 3 a0_corners_s a0_corners_g∧p108 (⟨(⟨(⟨a0_list_Gates_n,decF_55 a0_list_Gates_g⟩:(Sl Gate))⟩:list),(⟨a0_corners_n,decF_118 a0_corners_g⟩:(Sl straight))⟩:set) (⟨a1_slope,a1_start,a1_den⟩:straight)=true) [.one (.bool (s108 (⟨(⟨(⟨a0_list_Gates_n,decF_55 a0_list_Gates_g⟩:(Sl Gate))⟩:list),(⟨a0_corners_n,decF_118 a0_corners_g⟩:(Sl straight))⟩:set) (⟨a1_slope,a1_start,a1_den⟩:straight)))]
  | _=>.no
theorem call108:Callable Try.prog 108:=⟨_,rfl,rfl,by kernel_rfl⟩
theorem ok108:Ok Try.prog 108 ctr108:=ok_tab okT108 call108 fun args K h=>by
  unfold ctr108 at h
  split at h
  · rename_i a0_list_Gates_n a0_list_Gates_s a0_list_Gates_g a0_corners_n a0_corners_s a0_corners_g a1_slope a1_start a1_den
    obtain ⟨⟨⟨rfl,a0_list_Gates_f,rfl⟩,⟨rfl,a0_corners_f,rfl⟩,hs⟩,hk⟩:=h
    try rw [decF_enc_55 a0_list_Gates_f] at hs
    try rw [decF_enc_55 a0_list_Gates_f] at hk
    try rw [decF_enc_118 a0_corners_f] at hs
    try rw [decF_enc_118 a0_corners_f] at hk
    exact ⟨(fun _ _=>[]),(fun _=>false),ann108,q108 (⟨(⟨(⟨a0_list_Gates_n,a0_list_Gates_f⟩:(Sl Gate))⟩:list),(⟨a0_corners_n,a0_corners_f⟩:(Sl straight))⟩:set) (⟨a1_slope,a1_start,a1_den⟩:straight) K hs hk⟩
  · exact h.elim
abbrev T107:Tabs:=(((Tabs.nil.addF 69 ctr69).addF 89 ctr89).addF 108 ctr108)
theorem okT107:TabsOk Try.prog T107:=(((TabsOk.nil.addF ok69).addF ok89).addF ok108)
abbrev G107:Ctrs:=csm T107 (fun _ _=>[]) (fun _=>false)
def ann107:Ann:=⟨38,[(0,⟨[2,3,4],[3,4],[],[],[],[],[]⟩),(1,⟨[3,4,6,7],[3,4],[],[],[],[],[]⟩),(2,⟨[6,7,8],[],[],[],[],[],[]⟩),(3,⟨[6,7,8,26],[],[],[],[],[],[]⟩),(4,⟨[5],[],[],[],[],[],[]⟩),(5,⟨[7,8,32],[],[],[],[],[],[]⟩),(6,⟨[5],[],[],[],[],[],[]⟩),(7,⟨[8,34],[],[],[],[],[],[]⟩),(8,⟨[5],[],[],[],[],[],[]⟩),(9,⟨[5],[],[],[],[],[],[]⟩)],
  [],
  [],
  [],[]⟩
theorem f107_top (c0 : set) (a : straight) (b : straight) (K : List PA → Prop) :
  vcFun Try.prog G107 ann107 107 [.agg [.int .i64 a.slope,.int .i64 a.start,.int .i64 a.den],.agg [.int .i64 b.slope,.int .i64 b.start,.int .i64 b.den],.one (.fp (enc_104 c0) 0)] K =
  ((IsE enc_55 3 3 (fun i=>enc_55 (c0.list.Gates.get i))∧IsE enc_118 3 3 (fun i=>enc_118 (c0.corners.get i))∧(p108 c0 a=true)) ∧
  ((IsE enc_55 3 3 (fun i=>enc_55 (c0.list.Gates.get i))∧IsE enc_118 3 3 (fun i=>enc_118 (c0.corners.get i))∧(p108 c0 b=true)) ∧
  (((p89 a.slope a.den=true)) ∧
  (((p89 b.slope b.den=true)) ∧
  (condP (s108 c0 a)
   (condP (s108 c0 b)
    (K [.one (.int .i64 (s69 (s89 a.slope a.den) (s89 b.slope b.den)))])
    (condP (s108 c0 a)
     (K [.one (.int .i64 (-1:Int))])
     (condP (s108 c0 b)
      (K [.one (.int .i64 (1:Int))])
      (K [.one (.int .i64 (w64 (0 - (s69 (s89 a.slope a.den) (s89 b.slope b.den)))))]))))
   (condP (s108 c0 a)
    (K [.one (.int .i64 (-1:Int))])
    (condP (s108 c0 b)
     (K [.one (.int .i64 (1:Int))])
     (K [.one (.int .i64 (w64 (0 - (s69 (s89 a.slope a.den) (s89 b.slope b.den)))))])))))))):=by kernel_rfl
abbrev e107 (r:Int):List PA:=[.one (.int .i64 r)]
def s107 (c0:set) (a:straight) (b:straight):Int :=
  (cond (s108 c0 a)
   (cond (s108 c0 b)
    (s69 (s89 a.slope a.den) (s89 b.slope b.den))
    (cond (s108 c0 a)
     (-1:Int)
     (cond (s108 c0 b)
      (1:Int)
      (w64 (0 - (s69 (s89 a.slope a.den) (s89 b.slope b.den)))))))
   (cond (s108 c0 a)
    (-1:Int)
    (cond (s108 c0 b)
     (1:Int)
     (w64 (0 - (s69 (s89 a.slope a.den) (s89 b.slope b.den)))))))
def p107 (c0:set) (a:straight) (b:straight):Bool :=
  (decide ((p108 c0 a=true)) &&
  (decide ((p108 c0 b=true)) &&
  (decide ((p89 a.slope a.den=true)) &&
  (decide ((p89 b.slope b.den=true)) &&
  true))))
theorem q107 (c0:set) (a:straight) (b:straight) (K:List PA→Prop) (hs:p107 c0 a b=true) (hk:K (e107 (s107 c0 a b))):vcFun Try.prog G107 ann107 107 [.agg [.int .i64 a.slope,.int .i64 a.start,.int .i64 a.den],.agg [.int .i64 b.slope,.int .i64 b.start,.int .i64 b.den],.one (.fp (enc_104 c0) 0)] K:=by
  refine ofEq (f107_top c0 a b K) ?_
  unfold p107 at hs
  unfold s107 at hk
  exact (andK hs fun hc hs => ⟨⟨isE, isE, hc⟩, (andK hs fun hc hs => ⟨⟨isE, isE, hc⟩, (andK hs fun hc hs => ⟨hc, (andK hs fun hc hs => ⟨hc, (condP_gt (K := fun r => K (e107 r))
   (fun hk => (condP_gt (K := fun r => K (e107 r))
    (fun hk=>hk)
    (fun hk => (condP_gt (K := fun r => K (e107 r))
     (fun hk=>hk)
     (fun hk => (condP_gt (K := fun r => K (e107 r))
      (fun hk=>hk)
      (fun hk=>hk) hk)) hk)) hk))
   (fun hk => (condP_gt (K := fun r => K (e107 r))
    (fun hk=>hk)
    (fun hk => (condP_gt (K := fun r => K (e107 r))
     (fun hk=>hk)
     (fun hk=>hk) hk)) hk)) hk)⟩)⟩)⟩)⟩)
def ctr107 : List PA → COut
  | [.agg [.int .i64 a0_slope,.int .i64 a0_start,.int .i64 a0_den],.agg [.int .i64 a1_slope,.int .i64 a1_start,.int .i64 a1_den],.one (.fp [.sl c0_list_Gates_n c0_list_Gates_s c0_list_Gates_g,.sl c0_corners_n c0_corners_s c0_corners_g] 0)]=>.det (IsE enc_55 3 c0_list_Gates_s c0_list_Gates_g∧IsE enc_118 3 c0_corners_s c0_corners_g∧p107 (⟨(⟨(⟨c0_list_Gates_n,decF_55 c0_list_Gates_g⟩:(Sl Gate))⟩:list),(⟨c0_corners_n,decF_118 c0_corners_g⟩:(Sl straight))⟩:set) (⟨a0_slope,a0_start,a0_den⟩:straight) (⟨a1_slope,a1_start,a1_den⟩:straight)=true) [.one (.int .i64 (s107 (⟨(⟨(⟨c0_list_Gates_n,decF_55 c0_list_Gates_g⟩:(Sl Gate))⟩:list),(⟨c0_corners_n,decF_118 c0_corners_g⟩:(Sl straight))⟩:set) (⟨a0_slope,a0_start,a0_den⟩:straight) (⟨a1_slope,a1_start,a1_den⟩:straight)))]
  | _=>.no
theorem call107:Callable Try.prog 107:=⟨_,rfl,rfl,by kernel_rfl⟩
theorem ok107:Ok Try.prog 107 ctr107:=ok_tab okT107 call107 fun args K h=>by
  unfold ctr107 at h
  split at h
  · rename_i a0_slope a0_start a0_den a1_slope a1_start a1_den c0_list_Gates_n c0_list_Gates_s c0_list_Gates_g c0_corners_n c0_corners_s c0_corners_g
    obtain ⟨⟨⟨rfl,c0_list_Gates_f,rfl⟩,⟨rfl,c0_corners_f,rfl⟩,hs⟩,hk⟩:=h
    try rw [decF_enc_55 c0_list_Gates_f] at hs
    try rw [decF_enc_55 c0_list_Gates_f] at hk
    try rw [decF_enc_118 c0_corners_f] at hs
    try rw [decF_enc_118 c0_corners_f] at hk
    exact ⟨(fun _ _=>[]),(fun _=>false),ann107,q107 (⟨(⟨(⟨c0_list_Gates_n,c0_list_Gates_f⟩:(Sl Gate))⟩:list),(⟨c0_corners_n,c0_corners_f⟩:(Sl straight))⟩:set) (⟨a0_slope,a0_start,a0_den⟩:straight) (⟨a1_slope,a1_start,a1_den⟩:straight) K hs hk⟩
  · exact h.elim
abbrev T78:Tabs:=(((Tabs.nil.addO 105 own105).addO 106 own106).addF 107 ctr107)
theorem okT78:TabsOk Try.prog T78:=(((TabsOk.nil.addO ok105).addO ok106).addF ok107)
abbrev G78:Ctrs:=csm T78 (fun _ _=>[]) (fun _=>false)
def ann78:Ann:=⟨11,[(0,⟨[1],[1],[],[],[],[],[]⟩),(1,⟨[1,3],[1,6],[],[],[],[],[]⟩),(2,⟨[3],[6],[],[],[],[],[]⟩),(3,⟨[2],[6],[],[],[],[],[]⟩)],
  [],
  [],
  [],[]⟩
theorem f78_top (s : set) (K : List PA → Prop) :
  vcFun Try.prog G78 ann78 78 [.agg [.sl s.list.Gates.len 3 (fun i=>enc_55 (s.list.Gates.get i)),.sl s.corners.len 3 (fun i=>enc_118 (s.corners.get i))]] K =
  (((s.corners.len * 24≤140737488355328∧s.corners.len≤9223372036854775807)) ∧
  (((s.corners.len≤4611686018427387)∧((∀ i j,i < s.corners.len→j < s.corners.len→cmpS (ctr107) [.fp (enc_104 s) 0] true (fun i=>enc_118 (s.corners.get i)) i j)∧STO s.corners.len (cmpV (ctr107) [.fp (enc_104 s) 0] true (fun i=>enc_118 (s.corners.get i))))) ∧
  (K [.one (.sl s.corners.len 3 (fun i=>enc_118 ((sortG s.corners.len (fun i j=>(s107 s (s.corners.get i) (s.corners.get j))) s.corners.get) i)))]))):=by kernel_rfl
abbrev e78 (r:(Sl straight)):List PA:=[.one (.sl r.len 3 (fun i=>enc_118 (r.get i)))]
def s78 (s:set):(Sl straight) :=
  (⟨s.corners.len,(sortG s.corners.len (fun i j=>(s107 s (s.corners.get i) (s.corners.get j))) s.corners.get)⟩:(Sl straight))
def p78 (s:set):Bool :=
  (decide ((s.corners.len * 24≤140737488355328∧s.corners.len≤9223372036854775807)) &&
  (decide ((s.corners.len≤4611686018427387)∧(sortB s.corners.len (fun i j=>decide (p107 s (s.corners.get i) (s.corners.get j)=true)) (fun i j=>(s107 s (s.corners.get i) (s.corners.get j)))=true)) &&
  true))
theorem q78 (s:set) (K:List PA→Prop) (hs:p78 s=true) (hk:K (e78 (s78 s))):vcFun Try.prog G78 ann78 78 [.agg [.sl s.list.Gates.len 3 (fun i=>enc_55 (s.list.Gates.get i)),.sl s.corners.len 3 (fun i=>enc_118 (s.corners.get i))]] K:=by
  refine ofEq (f78_top s K) ?_
  unfold p78 at hs
  unfold s78 at hk
  exact (andK hs fun hc hs=>⟨hc,(andK hs fun hc hs=>⟨⟨(hc.1),(sortB_ok (hc.2) (fun i j h=>(show IsE enc_55 3 3 (fun i=>enc_55 (s.list.Gates.get i))∧IsE enc_118 3 3 (fun i=>enc_118 (s.corners.get i))∧(p107 s (s.corners.get i) (s.corners.get j)=true) from ⟨isE,isE,(of_decide_eq_true h)⟩)) rfl)⟩,hk⟩)⟩)
def ctr78 : List PA → COut
  | [.agg [.sl a0_list_Gates_n a0_list_Gates_s a0_list_Gates_g,.sl a0_corners_n a0_corners_s a0_corners_g]]=>.det (IsE enc_55 3 a0_list_Gates_s a0_list_Gates_g∧IsE enc_118 3 a0_corners_s a0_corners_g∧p78 (⟨(⟨(⟨a0_list_Gates_n,decF_55 a0_list_Gates_g⟩:(Sl Gate))⟩:list),(⟨a0_corners_n,decF_118 a0_corners_g⟩:(Sl straight))⟩:set)=true) [.one (.sl ((s78 (⟨(⟨(⟨a0_list_Gates_n,decF_55 a0_list_Gates_g⟩:(Sl Gate))⟩:list),(⟨a0_corners_n,decF_118 a0_corners_g⟩:(Sl straight))⟩:set)).len) 3 (fun i=>enc_118 ((s78 (⟨(⟨(⟨a0_list_Gates_n,decF_55 a0_list_Gates_g⟩:(Sl Gate))⟩:list),(⟨a0_corners_n,decF_118 a0_corners_g⟩:(Sl straight))⟩:set)).get i)))]
  | _=>.no
theorem call78:Callable Try.prog 78:=⟨_,rfl,rfl,by kernel_rfl⟩
theorem ok78:Ok Try.prog 78 ctr78:=ok_tab okT78 call78 fun args K h=>by
  unfold ctr78 at h
  split at h
  · rename_i a0_list_Gates_n a0_list_Gates_s a0_list_Gates_g a0_corners_n a0_corners_s a0_corners_g
    obtain ⟨⟨⟨rfl,a0_list_Gates_f,rfl⟩,⟨rfl,a0_corners_f,rfl⟩,hs⟩,hk⟩:=h
    try rw [decF_enc_55 a0_list_Gates_f] at hs
    try rw [decF_enc_55 a0_list_Gates_f] at hk
    try rw [decF_enc_118 a0_corners_f] at hs
    try rw [decF_enc_118 a0_corners_f] at hk
    exact ⟨(fun _ _=>[]),(fun _=>false),ann78,q78 (⟨(⟨(⟨a0_list_Gates_n,a0_list_Gates_f⟩:(Sl Gate))⟩:list),(⟨a0_corners_n,a0_corners_f⟩:(Sl straight))⟩:set) K hs hk⟩
  · exact h.elim
end Go.Proofs
namespace Go.Proofs
open Go Go.Pm
set_option maxRecDepth 100000
set_option linter.unusedVariables false
attribute [local irreducible] Go.Pm.vcFun Go.Pm.vc Go.Pm.vcIter
abbrev T31:Tabs:=(((Tabs.nil.addF 75 ctr75).addF 78 ctr78).addF 79 ctr79)
theorem okT31:TabsOk Try.prog T31:=(((TabsOk.nil.addF ok75).addF ok78).addF ok79)
abbrev G31:Ctrs:=csm T31 (fun _ _=>[]) (fun _=>false)
def ann31:Ann:=⟨31,[(0,⟨[0],[],[],[],[],[],[]⟩),(1,⟨[4,5],[4],[],[],[],[],[]⟩),(2,⟨[4,5,15],[4],[],[],[],[],[]⟩),(3,⟨[2,3],[],[],[],[],[],[]⟩),(4,⟨[4,6],[4],[],[],[],[],[]⟩),(5,⟨[6,18,19,20],[],[],[],[],[],[]⟩),(6,⟨[6,18,19,20,21],[28],[],[],[],[],[]⟩),(7,⟨[6,8,18,19,20],[8,28],[],[],[],[],[]⟩),(8,⟨[6,18,19,20],[28],[],[],[],[],[]⟩),(9,⟨[6,18,19,20],[28],[],[],[],[],[]⟩),(10,⟨[2,3],[28],[],[],[],[],[]⟩)],
  [(6,⟨[6,18,19,20],[28],[(6,28,37,fun _=>enc_37 default)],[],[],[],[]⟩)],
  [(2,⟨[4,5],[4],[],[],[],[],[]⟩),(4,⟨[4],[4],[],[],[],[],[]⟩),(6,⟨[6,18,19,20],[],[],[],[],[],[]⟩)],
  [],[]⟩
def f31_g0 (ev0:Int) (s_0v0_n:Nat) (s_0v0_g:Nat→List PV) (s_1v0_n:Nat) (s_1v0_g:Nat→List PV):St:=⟨[(4,.one (.c (.ptr 4 0))),(5,.one (.c (.p (.int .i64 ev0))))],[(4,.box 104 [.p (.sl s_0v0_n 3 s_0v0_g),.p (.sl s_1v0_n 3 s_1v0_g)])],[]⟩
def f31_at0 (K:List PA→Prop) (ev0:Int) (s_0v0_n:Nat) (s_0v0_g:Nat→List PV) (s_1v0_n:Nat) (s_1v0_g:Nat→List PV):Prop:=vc Try.prog G31 ann31 (cdF Try.f31 [1,1]) (bodyK Try.prog Try.f31 K) (f31_g0 ev0 s_0v0_n s_0v0_g s_1v0_n s_1v0_g)
def f31_g1 (s_0v1_n:Nat) (s_0v1_g:Nat→List PV) (s_1v1_n:Nat) (s_1v1_g:Nat→List PV):St:=⟨[(4,.one (.c (.ptr 4 0)))],[(4,.box 104 [.p (.sl s_0v1_n 3 s_0v1_g),.p (.sl s_1v1_n 3 s_1v1_g)])],[]⟩
def f31_at1 (K:List PA→Prop) (s_0v1_n:Nat) (s_0v1_g:Nat→List PV) (s_1v1_n:Nat) (s_1v1_g:Nat→List PV):Prop:=vc Try.prog G31 ann31 (cdF Try.f31 [1,1,1]) (bodyK Try.prog Try.f31 K) (f31_g1 s_0v1_n s_0v1_g s_1v1_n s_1v1_g)
def f31_g2 (t18v2_n:Nat) (t18v2_g:Nat→List PV) (t19v2:Int):St:=⟨[(6,.one (.c (.p (.nils)))),(18,.one (.c (.p (.sl t18v2_n 3 t18v2_g)))),(19,.one (.c (.p (.int .i64 t19v2)))),(20,.one (.c (.p (.int .i64 (0:Int)))))],[],[]⟩
def f31_at2 (K:List PA→Prop) (t18v2_n:Nat) (t18v2_g:Nat→List PV) (t19v2:Int):Prop:=vc Try.prog G31 ann31 (cdF Try.f31 [1,1,1,1,0,1]) (sqK Try.prog G31 ann31 (cdF Try.f31 [1,1,1,1,1]) (bodyK Try.prog Try.f31 K)) (f31_g2 t18v2_n t18v2_g t19v2)
def f31_g3 (t18v2:(Sl straight)) (t19v2:Int) (t20v3:Int) (v28v3_n:Nat) (v28v3_g:Nat→List PV):St:=⟨[(6,.one (.c (.vec 28))),(18,.one (.c (.p (.sl t18v2.len 3 (fun i=>enc_118 (t18v2.get i)))))),(19,.one (.c (.p (.int .i64 t19v2)))),(20,.one (.c (.p (.int .i64 t20v3))))],[(28,.vec 37 4 32 v28v3_n v28v3_g)],[]⟩
def f31_at3 (K:List PA→Prop) (t18v2:(Sl straight)) (t19v2:Int) (t20v3:Int) (v28v3_n:Nat) (v28v3_g:Nat→List PV):Prop:=vc Try.prog G31 ann31 (cdF Try.f31 [1,1,1,1,0,1,0]) (blockK 0 (sqK Try.prog G31 ann31 (cdF Try.f31 [1,1,1,1,1]) (bodyK Try.prog Try.f31 K))) (f31_g3 t18v2 t19v2 t20v3 v28v3_n v28v3_g)
theorem f31_top (gates : (Sl Gate)) (K : List PA → Prop) :
  vcFun Try.prog G31 ann31 31 [.one (.sl gates.len 3 (fun i=>enc_55 (gates.get i)))] K =
  ((IsE enc_55 3 3 (fun i=>enc_55 (gates.get i))∧(p75 gates=true)) ∧
  (f31_at0 K ((s75 gates).2) (((s75 gates).1).list.Gates.len) (fun i=>enc_55 (((s75 gates).1).list.Gates.get i)) (((s75 gates).1).corners.len) (fun i=>enc_118 (((s75 gates).1).corners.get i)))):=by kernel_rfl
theorem f31_eq0 (K : List PA → Prop) (ev0 : Int) (s_0v0 : (Sl Gate)) (s_1v0 : (Sl straight)) :
  f31_at0 K ev0 s_0v0.len (fun i=>enc_55 (s_0v0.get i)) s_1v0.len (fun i=>enc_118 (s_1v0.get i)) =
  (condP (ev0 != (0:Int))
   (K [.one (.nils),.one (.int .i64 ev0)])
   (f31_at1 K s_0v0.len (fun i=>enc_55 (s_0v0.get i)) s_1v0.len (fun i=>enc_118 (s_1v0.get i)))):=by kernel_rfl
theorem f31_eq1 (K : List PA → Prop) (s_0v1 : (Sl Gate)) (s_1v1 : (Sl straight)) :
  f31_at1 K s_0v1.len (fun i=>enc_55 (s_0v1.get i)) s_1v1.len (fun i=>enc_118 (s_1v1.get i)) =
  ((IsE enc_55 3 3 (fun i=>enc_55 (s_0v1.get i))∧IsE enc_118 3 3 (fun i=>enc_118 (s_1v1.get i))∧(p78 (⟨(⟨s_0v1⟩:list),s_1v1⟩:set)=true)) ∧
  (f31_at2 K ((s78 (⟨(⟨s_0v1⟩:list),s_1v1⟩:set)).len) (fun i=>enc_118 ((s78 (⟨(⟨s_0v1⟩:list),s_1v1⟩:set)).get i)) ((s78 (⟨(⟨s_0v1⟩:list),s_1v1⟩:set)).len:Int))):=by kernel_rfl
theorem f31_eq2 (K : List PA → Prop) (t18v2 : (Sl straight)) (t19v2 : Int) :
  f31_at2 K t18v2.len (fun i=>enc_118 (t18v2.get i)) t19v2 =
  (f31_at3 K t18v2 t19v2 (0:Int) 0 (fun i=>enc_37 ((fun _=>default) i))):=by kernel_rfl
def f31_step3 (K:List PA→Prop) (X3:St→Prop) (t18v2:(Sl straight)) (t19v2:Int) (t20v3:Int) (v28v3:(Sl Line)):Prop :=
  (condP (decide (t20v3 < t19v2))
   (((0≤t20v3∧t20v3 < (t18v2.len:Int))) ∧
   (((p79 (t18v2.get t20v3.toNat)=true)) ∧
   ((((v28v3.len+1) * 32≤140737488355328∧v28v3.len+1≤9223372036854775807)) ∧
   (X3 (f31_g3 t18v2 t19v2 (w64 (t20v3+(1:Int))) (v28v3.len+1) (appG v28v3.len (fun i=>enc_37 (v28v3.get i)) (fun _=>(enc_37 (s79 (t18v2.get t20v3.toNat))))))))))
   (K [.one (.sl v28v3.len 4 (fun i=>enc_37 (v28v3.get i))),.one (.int .i64 (0:Int))]))
theorem f31_stepeq3 (K : List PA → Prop) (X3 : St → Prop) (t18v2 : (Sl straight)) (t19v2 : Int) (t20v3 : Int) (v28v3 : (Sl Line)) :
  vc Try.prog G31 ann31 (cd (cdF Try.f31 [1,1,1,1,0,1,0]) [0]) (loopK Try.prog ann31 6 X3 (blockK 0 (sqK Try.prog G31 ann31 (cdF Try.f31 [1,1,1,1,1]) (bodyK Try.prog Try.f31 K)))) (f31_g3 t18v2 t19v2 t20v3 v28v3.len (fun i=>enc_37 (v28v3.get i))) =
  f31_step3 K X3 t18v2 t19v2 t20v3 v28v3:=by kernel_rfl
theorem f31_loop3 (K : List PA → Prop) (t18v2 : (Sl straight)) (t19v2 : Int) (t20v3 : Int) (v28v3_n : Nat) (v28v3_g : Nat → List PV)
  (h:∀ X3:St→Prop,(∀ (t20v3:Int) (v28v3:(Sl Line)),f31_step3 K X3 t18v2 t19v2 t20v3 v28v3→X3 (f31_g3 t18v2 t19v2 t20v3 v28v3.len (fun i=>enc_37 (v28v3.get i))))→X3 (f31_g3 t18v2 t19v2 t20v3 v28v3_n v28v3_g)) :
  f31_at3 K t18v2 t19v2 t20v3 v28v3_n v28v3_g:=by
  have e:f31_at3 K t18v2 t19v2 t20v3 v28v3_n v28v3_g=(∀ X:St→Prop,(∀ s,vc Try.prog G31 ann31 (cd (cdF Try.f31 [1,1,1,1,0,1,0]) [0]) (loopK Try.prog ann31 6 X (blockK 0 (sqK Try.prog G31 ann31 (cdF Try.f31 [1,1,1,1,1]) (bodyK Try.prog Try.f31 K)))) s→X s)→X (f31_g3 t18v2 t19v2 t20v3 v28v3_n v28v3_g)):=by kernel_rfl
  refine ofEq e ?_
  intro X hX
  refine h X ?_
  intro t20v3 v28v3 hs
  refine hX _ ?_
  have e2:=f31_stepeq3 K X t18v2 t19v2 t20v3 v28v3
  rw [e2]
  exact hs
abbrev e31 (r:((Sl Line)×Int)):List PA:=[.one (.sl r.1.len 4 (fun i=>enc_37 (r.1.get i))),.one (.int .i64 r.2)]
attribute [irreducible] f31_at0 f31_at1 f31_at2 f31_at3
def s31_st3 (t18v2:(Sl straight)) (t19v2:Int) (S3:Int→(Sl Line)→((Sl Line)×Int)) (t20v3:Int) (v28v3:(Sl Line)):((Sl Line)×Int) :=
  (cond (decide (t20v3 < t19v2))
   (S3 (w64 (t20v3+(1:Int))) (⟨(v28v3.len+1),(appT v28v3.len v28v3.get (fun _=>(s79 (t18v2.get t20v3.toNat))))⟩:Sl Line))
   (v28v3,(0:Int)))
def p31_st3 (t18v2:(Sl straight)) (t19v2:Int) (P3:Int→(Sl Line)→Bool) (t20v3:Int) (v28v3:(Sl Line)):Bool :=
  (cond (decide (t20v3 < t19v2))
   (decide ((0≤t20v3∧t20v3 < (t18v2.len:Int))) &&
   (decide ((p79 (t18v2.get t20v3.toNat)=true)) &&
   (decide (((v28v3.len+1) * 32≤140737488355328∧v28v3.len+1≤9223372036854775807)) &&
   (P3 (w64 (t20v3+(1:Int))) (⟨(v28v3.len+1),(appT v28v3.len v28v3.get (fun _=>(s79 (t18v2.get t20v3.toNat))))⟩:Sl Line)))))
   true)
def s31_lp3 (t18v2 : (Sl straight)) (t19v2 : Int) : Nat → Int → (Sl Line) → ((Sl Line) × Int)
  | 0=>fun _ _=>default
  | k+1=>s31_st3 t18v2 t19v2 (s31_lp3 t18v2 t19v2 k)
def p31_lp3 (t18v2 : (Sl straight)) (t19v2 : Int) : Nat → Int → (Sl Line) → Bool
  | 0=>fun _ _=>false
  | k+1=>p31_st3 t18v2 t19v2 (p31_lp3 t18v2 t19v2 k)
def s31_at3 (t18v2:(Sl straight)) (t19v2:Int) (t20v3:Int) (v28v3:(Sl Line)):((Sl Line)×Int):=s31_lp3 t18v2 t19v2 Fuel t20v3 v28v3
def p31_at3 (t18v2:(Sl straight)) (t19v2:Int) (t20v3:Int) (v28v3:(Sl Line)):Bool:=p31_lp3 t18v2 t19v2 Fuel t20v3 v28v3
theorem q31_at3 (K:List PA→Prop) (t18v2:(Sl straight)) (t19v2:Int) (t20v3:Int) (v28v3:(Sl Line)) (v28v3_g:Nat→List PV) (v28v3_h:v28v3_g=fun i=>enc_37 (v28v3.get i)) (hs:p31_at3 t18v2 t19v2 t20v3 v28v3=true) (hk:K (e31 (s31_at3 t18v2 t19v2 t20v3 v28v3))):f31_at3 (Wk K) t18v2 t19v2 t20v3 v28v3.len v28v3_g:=by
  refine f31_loop3 (Wk K) t18v2 t19v2 t20v3 v28v3.len v28v3_g ?_
  intro X3 hstep
  have key:∀ (k:Nat) (t20v3:Int) (v28v3:(Sl Line)) (v28v3_g:Nat→List PV) (v28v3_h:v28v3_g=fun i=>enc_37 (v28v3.get i)),p31_lp3 t18v2 t19v2 k t20v3 v28v3=true→K (e31 (s31_lp3 t18v2 t19v2 k t20v3 v28v3))→X3 (f31_g3 t18v2 t19v2 t20v3 v28v3.len v28v3_g):=by
    intro k
    induction k with
    | zero=>intro t20v3 v28v3 v28v3_g v28v3_h hs;exact absurd hs Bool.false_ne_true
    | succ k ih =>
      intro t20v3 v28v3 v28v3_g v28v3_h hs hk
      subst v28v3_h
      refine hstep t20v3 v28v3 ?_
      have hs:p31_st3 t18v2 t19v2 (p31_lp3 t18v2 t19v2 k) t20v3 v28v3=true:=hs
      have hk:K (e31 (s31_st3 t18v2 t19v2 (s31_lp3 t18v2 t19v2 k) t20v3 v28v3)):=hk
      unfold p31_st3 at hs
      unfold s31_st3 at hk
      generalize s31_lp3 t18v2 t19v2 k=S3 at hk ih
      generalize p31_lp3 t18v2 t19v2 k=P3 at hs ih
      have hX3:=ih
      exact (condB_go (K := fun r => K (e31 r))
       (fun hs hk=>(andK hs fun hc hs=>⟨hc,(andK hs fun hc hs=>⟨hc,(andK hs fun hc hs=>⟨hc,(hX3 (w64 (t20v3+(1:Int))) (⟨(v28v3.len+1),(appT v28v3.len v28v3.get (fun _=>(s79 (t18v2.get t20v3.toNat))))⟩:Sl Line) (appG v28v3.len (fun i=>enc_37 (v28v3.get i)) (fun _=>(enc_37 (s79 (t18v2.get t20v3.toNat))))) (appG_e (enc:=enc_37) (f:=v28v3.get) (h:=(fun _=>(s79 (t18v2.get t20v3.toNat)))) rfl rfl) hs hk)⟩)⟩)⟩))
       (fun hs hk=>(wk_rfl hk)) hs hk)
  exact key _ t20v3 v28v3 v28v3_g v28v3_h hs hk
def s31_at2 (t18v2:(Sl straight)) (t19v2:Int):((Sl Line)×Int) :=
  (s31_at3 t18v2 t19v2 (0:Int) (⟨0,(fun _=>default)⟩:Sl Line))
def p31_at2 (t18v2:(Sl straight)) (t19v2:Int):Bool :=
  (p31_at3 t18v2 t19v2 (0:Int) (⟨0,(fun _=>default)⟩:Sl Line))
theorem q31_at2 (K:List PA→Prop) (t18v2:(Sl straight)) (t19v2:Int) (t18v2_g:Nat→List PV) (t18v2_h:t18v2_g=fun i=>enc_118 (t18v2.get i)) (hs:p31_at2 t18v2 t19v2=true) (hk:K (e31 (s31_at2 t18v2 t19v2))):f31_at2 (Wk K) t18v2.len t18v2_g t19v2:=by
  subst t18v2_h
  refine ofEq (f31_eq2 (Wk K) t18v2 t19v2) ?_
  unfold p31_at2 at hs
  unfold s31_at2 at hk
  exact (q31_at3 K t18v2 t19v2 (0:Int) (⟨0,(fun _=>default)⟩:Sl Line) (fun i=>enc_37 ((fun _=>default) i)) rfl hs hk)
def s31_at1 (s_0v1:(Sl Gate)) (s_1v1:(Sl straight)):((Sl Line)×Int) :=
  (s31_at2 (s78 (⟨(⟨s_0v1⟩:list),s_1v1⟩:set)) ((s78 (⟨(⟨s_0v1⟩:list),s_1v1⟩:set)).len:Int))
def p31_at1 (s_0v1:(Sl Gate)) (s_1v1:(Sl straight)):Bool :=
  (decide ((p78 (⟨(⟨s_0v1⟩:list),s_1v1⟩:set)=true)) &&
  (p31_at2 (s78 (⟨(⟨s_0v1⟩:list),s_1v1⟩:set)) ((s78 (⟨(⟨s_0v1⟩:list),s_1v1⟩:set)).len:Int)))
theorem q31_at1 (K:List PA→Prop) (s_0v1:(Sl Gate)) (s_1v1:(Sl straight)) (s_0v1_g:Nat→List PV) (s_0v1_h:s_0v1_g=fun i=>enc_55 (s_0v1.get i)) (s_1v1_g:Nat→List PV) (s_1v1_h:s_1v1_g=fun i=>enc_118 (s_1v1.get i)) (hs:p31_at1 s_0v1 s_1v1=true) (hk:K (e31 (s31_at1 s_0v1 s_1v1))):f31_at1 (Wk K) s_0v1.len s_0v1_g s_1v1.len s_1v1_g:=by
  subst s_0v1_h
  subst s_1v1_h
  refine ofEq (f31_eq1 (Wk K) s_0v1 s_1v1) ?_
  unfold p31_at1 at hs
  unfold s31_at1 at hk
  exact (andK hs fun hc hs=>⟨⟨isE,isE,hc⟩,(q31_at2 K (s78 (⟨(⟨s_0v1⟩:list),s_1v1⟩:set)) ((s78 (⟨(⟨s_0v1⟩:list),s_1v1⟩:set)).len:Int) (fun i=>enc_118 ((s78 (⟨(⟨s_0v1⟩:list),s_1v1⟩:set)).get i)) rfl hs hk)⟩)
def s31_at0 (ev0:Int) (s_0v0:(Sl Gate)) (s_1v0:(Sl straight)):((Sl Line)×Int) :=
  (cond (ev0 != (0:Int))
   ((⟨0,fun _=>default⟩:(Sl Line)),ev0)
   (s31_at1 s_0v0 s_1v0))
def p31_at0 (ev0:Int) (s_0v0:(Sl Gate)) (s_1v0:(Sl straight)):Bool :=
  (cond (ev0 != (0:Int))
   true
   (p31_at1 s_0v0 s_1v0))
theorem q31_at0 (K:List PA→Prop) (ev0:Int) (s_0v0:(Sl Gate)) (s_1v0:(Sl straight)) (s_0v0_g:Nat→List PV) (s_0v0_h:s_0v0_g=fun i=>enc_55 (s_0v0.get i)) (s_1v0_g:Nat→List PV) (s_1v0_h:s_1v0_g=fun i=>enc_118 (s_1v0.get i)) (hs:p31_at0 ev0 s_0v0 s_1v0=true) (hk:K (e31 (s31_at0 ev0 s_0v0 s_1v0))):f31_at0 (Wk K) ev0 s_0v0.len s_0v0_g s_1v0.len s_1v0_g:=by
  subst s_0v0_h
  subst s_1v0_h
  refine ofEq (f31_eq0 (Wk K) ev0 s_0v0 s_1v0) ?_
  unfold p31_at0 at hs
  unfold s31_at0 at hk
  exact (condB_go (K := fun r => K (e31 r))
   (fun hs hk=>(wk hk (rl_c (.one (.nil _ _)) (rl_c (.one (.rfl _)) rl_n))))
   (fun hs hk=>(q31_at1 K s_0v0 s_1v0 (fun i=>enc_55 (s_0v0.get i)) rfl (fun i=>enc_118 (s_1v0.get i)) rfl hs hk)) hs hk)
def s31 (gates:(Sl Gate)):((Sl Line)×Int) :=
  (s31_at0 ((s75 gates).2) (((s75 gates).1).list.Gates) (((s75 gates).1).corners))
def p31 (gates:(Sl Gate)):Bool :=
  (decide ((p75 gates=true)) &&
  (p31_at0 ((s75 gates).2) (((s75 gates).1).list.Gates) (((s75 gates).1).corners)))
theorem q31 (gates:(Sl Gate)) (K:List PA→Prop) (hs:p31 gates=true) (hk:K (e31 (s31 gates))):vcFun Try.prog G31 ann31 31 [.one (.sl gates.len 3 (fun i=>enc_55 (gates.get i)))] (Wk K):=by
  refine ofEq (f31_top gates (Wk K)) ?_
  unfold p31 at hs
  unfold s31 at hk
  exact (andK hs fun hc hs=>⟨⟨isE,hc⟩,(q31_at0 K ((s75 gates).2) (((s75 gates).1).list.Gates) (((s75 gates).1).corners) (fun i=>enc_55 (((s75 gates).1).list.Gates.get i)) rfl (fun i=>enc_118 (((s75 gates).1).corners.get i)) rfl hs hk)⟩)
def ctr31 : List PA → COut
  | [.one (.sl a0_n a0_s a0_g)]=>.det (IsE enc_55 3 a0_s a0_g∧p31 (⟨a0_n,decF_55 a0_g⟩:(Sl Gate))=true) [.one (.sl (((s31 (⟨a0_n,decF_55 a0_g⟩:(Sl Gate))).1).len) 4 (fun i=>enc_37 (((s31 (⟨a0_n,decF_55 a0_g⟩:(Sl Gate))).1).get i))),.one (.int .i64 ((s31 (⟨a0_n,decF_55 a0_g⟩:(Sl Gate))).2))]
  | _=>.no
theorem call31:Callable Try.prog 31:=⟨_,rfl,rfl,by kernel_rfl⟩
theorem ok31:Ok Try.prog 31 ctr31:=ok_tabW okT31 call31 fun args K h=>by
  unfold ctr31 at h
  split at h
  · rename_i a0_n a0_s a0_g
    obtain ⟨⟨⟨rfl,a0_f,rfl⟩,hs⟩,hk⟩:=h
    try rw [decF_enc_55 a0_f] at hs
    try rw [decF_enc_55 a0_f] at hk
    exact ⟨_,rl_rfl pa_rfl _,(fun _ _=>[]),(fun _=>false),ann31,q31 (⟨a0_n,a0_f⟩:(Sl Gate)) K hs hk⟩
  · exact h.elim
abbrev T34:Tabs:=Tabs.nil
theorem okT34:TabsOk Try.prog T34:=TabsOk.nil
abbrev G34:Ctrs:=csm T34 (fun _ _=>[]) (fun _=>false)
def ann34:Ann:=⟨26,[(0,⟨[0,1],[],[],[],[],[],[]⟩),(1,⟨[0,1,10],[],[],[],[],[],[]⟩),(2,⟨[4],[],[],[],[],[],[]⟩),(3,⟨[0,1,5],[],[],[],[],[],[]⟩),(4,⟨[0,1,5,14],[],[],[],[],[],[]⟩),(5,⟨[0,1,5],[],[],[],[],[],[]⟩),(6,⟨[0,1,5,25],[],[],[],[],[],[]⟩),(7,⟨[4],[],[],[],[],[],[]⟩),(8,⟨[4],[],[],[],[],[],[]⟩)],
  [(4,⟨[0,1,5],[],[],[],[],[],[]⟩)],
  [(3,⟨[0,1],[],[],[],[],[],[]⟩)],
  [],[]⟩
def f34_g0 (a:(Sl Line)) (b:(Sl Line)):St:=⟨[(0,.one (.c (.p (.sl a.len 4 (fun i=>enc_37 (a.get i)))))),(1,.one (.c (.p (.sl b.len 4 (fun i=>enc_37 (b.get i))))))],[],[]⟩
def f34_at0 (K:List PA→Prop) (a:(Sl Line)) (b:(Sl Line)):Prop:=vc Try.prog G34 ann34 (cdF Try.f34 [1,1]) (bodyK Try.prog Try.f34 K) (f34_g0 a b)
def f34_g1 (a:(Sl Line)) (b:(Sl Line)) (iv1:Int):St:=⟨[(0,.one (.c (.p (.sl a.len 4 (fun i=>enc_37 (a.get i)))))),(1,.one (.c (.p (.sl b.len 4 (fun i=>enc_37 (b.get i)))))),(5,.one (.c (.p (.int .i64 iv1))))],[],[]⟩
def f34_at1 (K:List PA→Prop) (a:(Sl Line)) (b:(Sl Line)) (iv1:Int):Prop:=vc Try.prog G34 ann34 (cdF Try.f34 [1,1,0,1,0]) (blockK 0 (sqK Try.prog G34 ann34 (cdF Try.f34 [1,1,1]) (bodyK Try.prog Try.f34 K))) (f34_g1 a b iv1)
theorem f34_top (a : (Sl Line)) (b : (Sl Line)) (K : List PA → Prop) :
  vcFun Try.prog G34 ann34 34 [.one (.sl a.len 4 (fun i=>enc_37 (a.get i))),.one (.sl b.len 4 (fun i=>enc_37 (b.get i)))] K =
  (condP ((a.len : Int) != (b.len : Int))
   (K [.one (.bool false)])
   (f34_at0 K a b)):=by kernel_rfl
theorem f34_eq0 (K : List PA → Prop) (a : (Sl Line)) (b : (Sl Line)) :
  f34_at0 K a b =
  (f34_at1 K a b (0:Int)):=by kernel_rfl
def f34_step1 (K:List PA→Prop) (X1:St→Prop) (a:(Sl Line)) (b:(Sl Line)) (iv1:Int):Prop :=
  (condP (decide (iv1 < (a.len : Int)))
   (((0≤iv1∧iv1 < (a.len:Int))) ∧
   (((0≤iv1∧iv1 < (b.len:Int))) ∧
   (condP (!(match (match ((a.get iv1.toNat).Slope.Num == (b.get iv1.toNat).Slope.Num) with | true => (match ((a.get iv1.toNat).Slope.Den == (b.get iv1.toNat).Slope.Den) with | true => true | false => false) | false => false) with | true => (match (match ((a.get iv1.toNat).Start.Num == (b.get iv1.toNat).Start.Num) with | true => (match ((a.get iv1.toNat).Start.Den == (b.get iv1.toNat).Start.Den) with | true => true | false => false) | false => false) with | true => true | false => false) | false => false))
    (K [.one (.bool false)])
    (X1 (f34_g1 a b (w64 (iv1+(1:Int))))))))
   (K [.one (.bool true)]))
theorem f34_stepeq1 (K : List PA → Prop) (X1 : St → Prop) (a : (Sl Line)) (b : (Sl Line)) (iv1 : Int) :
  vc Try.prog G34 ann34 (cd (cdF Try.f34 [1,1,0,1,0]) [0]) (loopK Try.prog ann34 4 X1 (blockK 0 (sqK Try.prog G34 ann34 (cdF Try.f34 [1,1,1]) (bodyK Try.prog Try.f34 K)))) (f34_g1 a b iv1) =
  f34_step1 K X1 a b iv1:=by kernel_rfl
theorem f34_loop1 (K : List PA → Prop) (a : (Sl Line)) (b : (Sl Line)) (iv1 : Int)
  (h:∀ X1:St→Prop,(∀ (iv1:Int),f34_step1 K X1 a b iv1→X1 (f34_g1 a b iv1))→X1 (f34_g1 a b iv1)) :
  f34_at1 K a b iv1:=by
  have e:f34_at1 K a b iv1=(∀ X:St→Prop,(∀ s,vc Try.prog G34 ann34 (cd (cdF Try.f34 [1,1,0,1,0]) [0]) (loopK Try.prog ann34 4 X (blockK 0 (sqK Try.prog G34 ann34 (cdF Try.f34 [1,1,1]) (bodyK Try.prog Try.f34 K)))) s→X s)→X (f34_g1 a b iv1)):=by kernel_rfl
  refine ofEq e ?_
  intro X hX
  refine h X ?_
  intro iv1 hs
  refine hX _ ?_
  have e2:=f34_stepeq1 K X a b iv1
  rw [e2]
  exact hs
abbrev e34 (r:Bool):List PA:=[.one (.bool r)]
attribute [irreducible] f34_at0 f34_at1
def s34_st1 (a:(Sl Line)) (b:(Sl Line)) (S1:Int→Bool) (iv1:Int):Bool :=
  (cond (decide (iv1 < (a.len : Int)))
   (cond (!(match (match ((a.get iv1.toNat).Slope.Num == (b.get iv1.toNat).Slope.Num) with | true => (match ((a.get iv1.toNat).Slope.Den == (b.get iv1.toNat).Slope.Den) with | true => true | false => false) | false => false) with | true => (match (match ((a.get iv1.toNat).Start.Num == (b.get iv1.toNat).Start.Num) with | true => (match ((a.get iv1.toNat).Start.Den == (b.get iv1.toNat).Start.Den) with | true => true | false => false) | false => false) with | true => true | false => false) | false => false))
    false
    (S1 (w64 (iv1+(1:Int)))))
   true)
def p34_st1 (a:(Sl Line)) (b:(Sl Line)) (P1:Int→Bool) (iv1:Int):Bool :=
  (cond (decide (iv1 < (a.len : Int)))
   (decide ((0≤iv1∧iv1 < (a.len:Int))) &&
   (decide ((0≤iv1∧iv1 < (b.len:Int))) &&
   (cond (!(match (match ((a.get iv1.toNat).Slope.Num == (b.get iv1.toNat).Slope.Num) with | true => (match ((a.get iv1.toNat).Slope.Den == (b.get iv1.toNat).Slope.Den) with | true => true | false => false) | false => false) with | true => (match (match ((a.get iv1.toNat).Start.Num == (b.get iv1.toNat).Start.Num) with | true => (match ((a.get iv1.toNat).Start.Den == (b.get iv1.toNat).Start.Den) with | true => true | false => false) | false => false) with | true => true | false => false) | false => false))
    true
    (P1 (w64 (iv1+(1:Int)))))))
   true)
def s34_lp1 (a : (Sl Line)) (b : (Sl Line)) : Nat → Int → Bool
  | 0=>fun _=>default
  | k+1=>s34_st1 a b (s34_lp1 a b k)
def p34_lp1 (a : (Sl Line)) (b : (Sl Line)) : Nat → Int → Bool
  | 0=>fun _=>false
  | k+1=>p34_st1 a b (p34_lp1 a b k)
def s34_at1 (a:(Sl Line)) (b:(Sl Line)) (iv1:Int):Bool:=s34_lp1 a b Fuel iv1
def p34_at1 (a:(Sl Line)) (b:(Sl Line)) (iv1:Int):Bool:=p34_lp1 a b Fuel iv1
theorem q34_at1 (K:List PA→Prop) (a:(Sl Line)) (b:(Sl Line)) (iv1:Int) (hs:p34_at1 a b iv1=true) (hk:K (e34 (s34_at1 a b iv1))):f34_at1 K a b iv1:=by
  refine f34_loop1 K a b iv1 ?_
  intro X1 hstep
  have key:∀ (k:Nat) (iv1:Int),p34_lp1 a b k iv1=true→K (e34 (s34_lp1 a b k iv1))→X1 (f34_g1 a b iv1):=by
    intro k
    induction k with
    | zero=>intro iv1 hs;exact absurd hs Bool.false_ne_true
    | succ k ih =>
      intro iv1 hs hk
      refine hstep iv1 ?_
      have hs:p34_st1 a b (p34_lp1 a b k) iv1=true:=hs
      have hk:K (e34 (s34_st1 a b (s34_lp1 a b k) iv1)):=hk
      unfold p34_st1 at hs
      unfold s34_st1 at hk
      generalize s34_lp1 a b k=S1 at hk ih
      generalize p34_lp1 a b k=P1 at hs ih
      have hX1:=ih
      exact (condB_go (K := fun r => K (e34 r))
       (fun hs hk => (andK hs fun hc hs => ⟨hc, (andK hs fun hc hs => ⟨hc, (condB_go (K := fun r => K (e34 r))
        (fun hs hk=>hk)
        (fun hs hk=>(hX1 (w64 (iv1+(1:Int))) hs hk)) hs hk)⟩)⟩))
       (fun hs hk=>hk) hs hk)
  exact key _ iv1 hs hk
def s34_at0 (a:(Sl Line)) (b:(Sl Line)):Bool :=
  (s34_at1 a b (0:Int))
def p34_at0 (a:(Sl Line)) (b:(Sl Line)):Bool :=
  (p34_at1 a b (0:Int))
theorem q34_at0 (K:List PA→Prop) (a:(Sl Line)) (b:(Sl Line)) (hs:p34_at0 a b=true) (hk:K (e34 (s34_at0 a b))):f34_at0 K a b:=by
  refine ofEq (f34_eq0 K a b) ?_
  unfold p34_at0 at hs
  unfold s34_at0 at hk
  exact (q34_at1 K a b (0:Int) hs hk)
def s34 (a:(Sl Line)) (b:(Sl Line)):Bool :=
  (cond ((a.len : Int) != (b.len : Int))
   false
   (s34_at0 a b))
def p34 (a:(Sl Line)) (b:(Sl Line)):Bool :=
  (cond ((a.len : Int) != (b.len : Int))
   true
   (p34_at0 a b))
theorem q34 (a:(Sl Line)) (b:(Sl Line)) (K:List PA→Prop) (hs:p34 a b=true) (hk:K (e34 (s34 a b))):vcFun Try.prog G34 ann34 34 [.one (.sl a.len 4 (fun i=>enc_37 (a.get i))),.one (.sl b.len 4 (fun i=>enc_37 (b.get i)))] K:=by
  refine ofEq (f34_top a b K) ?_
  unfold p34 at hs
  unfold s34 at hk
  exact (condB_go (K := fun r => K (e34 r))
   (fun hs hk=>hk)
   (fun hs hk=>(q34_at0 K a b hs hk)) hs hk)
def ctr34 : List PA → COut
  | [.one (.sl a0_n a0_s a0_g),.one (.sl a1_n a1_s a1_g)]=>.det (IsE enc_37 4 a0_s a0_g∧IsE enc_37 4 a1_s a1_g∧p34 (⟨a0_n,decF_37 a0_g⟩:(Sl Line)) (⟨a1_n,decF_37 a1_g⟩:(Sl Line))=true) [.one (.bool (s34 (⟨a0_n,decF_37 a0_g⟩:(Sl Line)) (⟨a1_n,decF_37 a1_g⟩:(Sl Line))))]
  | _=>.no
theorem call34:Callable Try.prog 34:=⟨_,rfl,rfl,by kernel_rfl⟩
theorem ok34:Ok Try.prog 34 ctr34:=ok_tab okT34 call34 fun args K h=>by
  unfold ctr34 at h
  split at h
  · rename_i a0_n a0_s a0_g a1_n a1_s a1_g
    obtain ⟨⟨⟨rfl,a0_f,rfl⟩,⟨rfl,a1_f,rfl⟩,hs⟩,hk⟩:=h
    try rw [decF_enc_37 a0_f] at hs
    try rw [decF_enc_37 a0_f] at hk
    try rw [decF_enc_37 a1_f] at hs
    try rw [decF_enc_37 a1_f] at hk
    exact ⟨(fun _ _=>[]),(fun _=>false),ann34,q34 (⟨a0_n,a0_f⟩:(Sl Line)) (⟨a1_n,a1_f⟩:(Sl Line)) K hs hk⟩
  · exact h.elim
abbrev T84:Tabs:=((Tabs.nil.addF 65 ctr65).addF 66 ctr66)
theorem okT84:TabsOk Try.prog T84:=((TabsOk.nil.addF ok65).addF ok66)
abbrev G84:Ctrs:=csm T84 (fun _ _=>[]) (fun _=>false)
def ann84:Ann:=⟨25,[(0,⟨[0,1],[],[],[],[],[],[]⟩),(1,⟨[0,1,5],[],[],[],[],[],[]⟩),(2,⟨[0,5,8,9,10],[],[],[],[],[],[]⟩),(3,⟨[0,5,8,9,10,11],[20],[],[],[],[],[]⟩),(4,⟨[0,5,7,8,9,10],[20],[],[],[],[],[]⟩),(5,⟨[0,5,8,9,10],[20],[],[],[],[],[]⟩),(6,⟨[0,5,8,9,10],[20],[],[],[],[],[]⟩),(7,⟨[4],[],[],[],[],[],[]⟩)],
  [(3,⟨[0,5,8,9,10],[20],[(5,20,55,fun _=>enc_55 default)],[],[],[],[]⟩)],
  [],
  [],[]⟩
def f84_g0 (gates:(Sl Gate)) (l_a1:(Sl Int)) (t10v0:Int) (v20v0_n:Nat) (v20v0_g:Nat→List PV):St:=⟨[(0,.one (.c (.p (.sl gates.len 3 (fun i=>enc_55 (gates.get i)))))),(5,.one (.c (.vec 20))),(8,.one (.c (.p (.sl l_a1.len 1 (fun i=>enc_3 (l_a1.get i)))))),(9,.one (.c (.p (.int .i64 (l_a1.len:Int))))),(10,.one (.c (.p (.int .i64 t10v0))))],[(20,.vec 55 3 24 v20v0_n v20v0_g)],[]⟩
def f84_at0 (K:List PA→Prop) (gates:(Sl Gate)) (l_a1:(Sl Int)) (t10v0:Int) (v20v0_n:Nat) (v20v0_g:Nat→List PV):Prop:=vc Try.prog G84 ann84 (cdF Try.f84 [1,1,0,1,0]) (blockK 0 (sqK Try.prog G84 ann84 (cdF Try.f84 [1,1,1]) (bodyK Try.prog Try.f84 K))) (f84_g0 gates l_a1 t10v0 v20v0_n v20v0_g)
theorem f84_top (gates : (Sl Gate)) (l_a1 : (Sl Int)) (K : List PA → Prop) :
  vcFun Try.prog G84 ann84 84 [.one (.sl gates.len 3 (fun i=>enc_55 (gates.get i))),.one (.sl l_a1.len 1 (fun i=>enc_3 (l_a1.get i)))] K =
  (f84_at0 K gates l_a1 (0:Int) 0 (fun i=>enc_55 ((fun _=>default) i))):=by kernel_rfl
def f84_step0 (K:List PA→Prop) (X0:St→Prop) (gates:(Sl Gate)) (l_a1:(Sl Int)) (t10v0:Int) (v20v0:(Sl Gate)):Prop :=
  (condP (decide (t10v0 < (l_a1.len : Int)))
   (((0≤t10v0∧t10v0 < (l_a1.len:Int))) ∧
   (((0≤(l_a1.get t10v0.toNat)∧(l_a1.get t10v0.toNat) < (gates.len:Int))) ∧
   ((((v20v0.len+1) * 24≤140737488355328∧v20v0.len+1≤9223372036854775807)) ∧
   (X0 (f84_g0 gates l_a1 (w64 (t10v0+(1:Int))) (v20v0.len+1) (appG v20v0.len (fun i=>enc_55 (v20v0.get i)) (fun _=>(enc_55 (gates.get ((l_a1.get t10v0.toNat).toNat))))))))))
   ((IsE enc_55 3 3 (fun i=>enc_55 (v20v0.get i))∧(p65 v20v0=true)) ∧
   ((IsE enc_55 3 3 (fun i=>enc_55 ((s65 v20v0).list.Gates.get i))∧IsE enc_118 3 3 (fun i=>enc_118 ((s65 v20v0).corners.get i))∧(p66 (s65 v20v0)=true)) ∧
   (K [.one (.bool (s66 (s65 v20v0)))]))))
theorem f84_stepeq0 (K : List PA → Prop) (X0 : St → Prop) (gates : (Sl Gate)) (l_a1 : (Sl Int)) (t10v0 : Int) (v20v0 : (Sl Gate)) :
  vc Try.prog G84 ann84 (cd (cdF Try.f84 [1,1,0,1,0]) [0]) (loopK Try.prog ann84 3 X0 (blockK 0 (sqK Try.prog G84 ann84 (cdF Try.f84 [1,1,1]) (bodyK Try.prog Try.f84 K)))) (f84_g0 gates l_a1 t10v0 v20v0.len (fun i=>enc_55 (v20v0.get i))) =
  f84_step0 K X0 gates l_a1 t10v0 v20v0:=by kernel_rfl
theorem f84_loop0 (K : List PA → Prop) (gates : (Sl Gate)) (l_a1 : (Sl Int)) (t10v0 : Int) (v20v0_n : Nat) (v20v0_g : Nat → List PV)
  (h:∀ X0:St→Prop,(∀ (t10v0:Int) (v20v0:(Sl Gate)),f84_step0 K X0 gates l_a1 t10v0 v20v0→X0 (f84_g0 gates l_a1 t10v0 v20v0.len (fun i=>enc_55 (v20v0.get i))))→X0 (f84_g0 gates l_a1 t10v0 v20v0_n v20v0_g)) :
  f84_at0 K gates l_a1 t10v0 v20v0_n v20v0_g:=by
  have e:f84_at0 K gates l_a1 t10v0 v20v0_n v20v0_g=(∀ X:St→Prop,(∀ s,vc Try.prog G84 ann84 (cd (cdF Try.f84 [1,1,0,1,0]) [0]) (loopK Try.prog ann84 3 X (blockK 0 (sqK Try.prog G84 ann84 (cdF Try.f84 [1,1,1]) (bodyK Try.prog Try.f84 K)))) s→X s)→X (f84_g0 gates l_a1 t10v0 v20v0_n v20v0_g)):=by kernel_rfl
  refine ofEq e ?_
  intro X hX
  refine h X ?_
  intro t10v0 v20v0 hs
  refine hX _ ?_
  have e2:=f84_stepeq0 K X gates l_a1 t10v0 v20v0
  rw [e2]
  exact hs
abbrev e84 (r:Bool):List PA:=[.one (.bool r)]
attribute [irreducible] f84_at0
def s84_st0 (gates:(Sl Gate)) (l_a1:(Sl Int)) (S0:Int→(Sl Gate)→Bool) (t10v0:Int) (v20v0:(Sl Gate)):Bool :=
  (cond (decide (t10v0 < (l_a1.len : Int)))
   (S0 (w64 (t10v0+(1:Int))) (⟨(v20v0.len+1),(appT v20v0.len v20v0.get (fun _=>(gates.get ((l_a1.get t10v0.toNat).toNat))))⟩:Sl Gate))
   (s66 (s65 v20v0)))
def p84_st0 (gates:(Sl Gate)) (l_a1:(Sl Int)) (P0:Int→(Sl Gate)→Bool) (t10v0:Int) (v20v0:(Sl Gate)):Bool :=
  (cond (decide (t10v0 < (l_a1.len : Int)))
   (decide ((0≤t10v0∧t10v0 < (l_a1.len:Int))) &&
   (decide ((0≤(l_a1.get t10v0.toNat)∧(l_a1.get t10v0.toNat) < (gates.len:Int))) &&
   (decide (((v20v0.len+1) * 24≤140737488355328∧v20v0.len+1≤9223372036854775807)) &&
   (P0 (w64 (t10v0+(1:Int))) (⟨(v20v0.len+1),(appT v20v0.len v20v0.get (fun _=>(gates.get ((l_a1.get t10v0.toNat).toNat))))⟩:Sl Gate)))))
   (decide ((p65 v20v0=true)) &&
   (decide ((p66 (s65 v20v0)=true)) &&
   true)))
def s84_lp0 (gates : (Sl Gate)) (l_a1 : (Sl Int)) : Nat → Int → (Sl Gate) → Bool
  | 0=>fun _ _=>default
  | k+1=>s84_st0 gates l_a1 (s84_lp0 gates l_a1 k)
def p84_lp0 (gates : (Sl Gate)) (l_a1 : (Sl Int)) : Nat → Int → (Sl Gate) → Bool
  | 0=>fun _ _=>false
  | k+1=>p84_st0 gates l_a1 (p84_lp0 gates l_a1 k)
def s84_at0 (gates:(Sl Gate)) (l_a1:(Sl Int)) (t10v0:Int) (v20v0:(Sl Gate)):Bool:=s84_lp0 gates l_a1 Fuel t10v0 v20v0
def p84_at0 (gates:(Sl Gate)) (l_a1:(Sl Int)) (t10v0:Int) (v20v0:(Sl Gate)):Bool:=p84_lp0 gates l_a1 Fuel t10v0 v20v0
theorem q84_at0 (K:List PA→Prop) (gates:(Sl Gate)) (l_a1:(Sl Int)) (t10v0:Int) (v20v0:(Sl Gate)) (v20v0_g:Nat→List PV) (v20v0_h:v20v0_g=fun i=>enc_55 (v20v0.get i)) (hs:p84_at0 gates l_a1 t10v0 v20v0=true) (hk:K (e84 (s84_at0 gates l_a1 t10v0 v20v0))):f84_at0 K gates l_a1 t10v0 v20v0.len v20v0_g:=by
  refine f84_loop0 K gates l_a1 t10v0 v20v0.len v20v0_g ?_
  intro X0 hstep
  have key:∀ (k:Nat) (t10v0:Int) (v20v0:(Sl Gate)) (v20v0_g:Nat→List PV) (v20v0_h:v20v0_g=fun i=>enc_55 (v20v0.get i)),p84_lp0 gates l_a1 k t10v0 v20v0=true→K (e84 (s84_lp0 gates l_a1 k t10v0 v20v0))→X0 (f84_g0 gates l_a1 t10v0 v20v0.len v20v0_g):=by
    intro k
    induction k with
    | zero=>intro t10v0 v20v0 v20v0_g v20v0_h hs;exact absurd hs Bool.false_ne_true
    | succ k ih =>
      intro t10v0 v20v0 v20v0_g v20v0_h hs hk
      subst v20v0_h
      refine hstep t10v0 v20v0 ?_
      have hs:p84_st0 gates l_a1 (p84_lp0 gates l_a1 k) t10v0 v20v0=true:=hs
      have hk:K (e84 (s84_st0 gates l_a1 (s84_lp0 gates l_a1 k) t10v0 v20v0)):=hk
      unfold p84_st0 at hs
      unfold s84_st0 at hk
      generalize s84_lp0 gates l_a1 k=S0 at hk ih
      generalize p84_lp0 gates l_a1 k=P0 at hs ih
      have hX0:=ih
      exact (condB_go (K := fun r => K (e84 r))
       (fun hs hk=>(andK hs fun hc hs=>⟨hc,(andK hs fun hc hs=>⟨hc,(andK hs fun hc hs=>⟨hc,(hX0 (w64 (t10v0+(1:Int))) (⟨(v20v0.len+1),(appT v20v0.len v20v0.get (fun _=>(gates.get ((l_a1.get t10v0.toNat).toNat))))⟩:Sl Gate) (appG v20v0.len (fun i=>enc_55 (v20v0.get i)) (fun _=>(enc_55 (gates.get ((l_a1.get t10v0.toNat).toNat))))) (appG_e (enc:=enc_55) (f:=v20v0.get) (h:=(fun _=>(gates.get ((l_a1.get t10v0.toNat).toNat)))) rfl rfl) hs hk)⟩)⟩)⟩))
       (fun hs hk=>(andK hs fun hc hs=>⟨⟨isE,hc⟩,(andK hs fun hc hs=>⟨⟨isE,isE,hc⟩,hk⟩)⟩)) hs hk)
  exact key _ t10v0 v20v0 v20v0_g v20v0_h hs hk
def s84 (gates:(Sl Gate)) (l_a1:(Sl Int)):Bool :=
  (s84_at0 gates l_a1 (0:Int) (⟨0,(fun _=>default)⟩:Sl Gate))
def p84 (gates:(Sl Gate)) (l_a1:(Sl Int)):Bool :=
  (p84_at0 gates l_a1 (0:Int) (⟨0,(fun _=>default)⟩:Sl Gate))
theorem q84 (gates:(Sl Gate)) (l_a1:(Sl Int)) (K:List PA→Prop) (hs:p84 gates l_a1=true) (hk:K (e84 (s84 gates l_a1))):vcFun Try.prog G84 ann84 84 [.one (.sl gates.len 3 (fun i=>enc_55 (gates.get i))),.one (.sl l_a1.len 1 (fun i=>enc_3 (l_a1.get i)))] K:=by
  refine ofEq (f84_top gates l_a1 K) ?_
  unfold p84 at hs
  unfold s84 at hk
  exact (q84_at0 K gates l_a1 (0:Int) (⟨0,(fun _=>default)⟩:Sl Gate) (fun i=>enc_55 ((fun _=>default) i)) rfl hs hk)
def ctr84 : List PA → COut
  | [.one (.sl a0_n a0_s a0_g),.one (.sl a1_n a1_s a1_g)]=>.det (IsE enc_55 3 a0_s a0_g∧IsE enc_3 1 a1_s a1_g∧p84 (⟨a0_n,decF_55 a0_g⟩:(Sl Gate)) (⟨a1_n,decF_3 a1_g⟩:(Sl Int))=true) [.one (.bool (s84 (⟨a0_n,decF_55 a0_g⟩:(Sl Gate)) (⟨a1_n,decF_3 a1_g⟩:(Sl Int))))]
  | _=>.no
theorem call84:Callable Try.prog 84:=⟨_,rfl,rfl,by kernel_rfl⟩
theorem ok84:Ok Try.prog 84 ctr84:=ok_tab okT84 call84 fun args K h=>by
  unfold ctr84 at h
  split at h
  · rename_i a0_n a0_s a0_g a1_n a1_s a1_g
    obtain ⟨⟨⟨rfl,a0_f,rfl⟩,⟨rfl,a1_f,rfl⟩,hs⟩,hk⟩:=h
    try rw [decF_enc_55 a0_f] at hs
    try rw [decF_enc_55 a0_f] at hk
    try rw [decF_enc_3 a1_f] at hs
    try rw [decF_enc_3 a1_f] at hk
    exact ⟨(fun _ _=>[]),(fun _=>false),ann84,q84 (⟨a0_n,a0_f⟩:(Sl Gate)) (⟨a1_n,a1_f⟩:(Sl Int)) K hs hk⟩
  · exact h.elim
end Go.Proofs
namespace Go.Proofs
open Go Go.Pm
set_option maxRecDepth 100000
set_option linter.unusedVariables false
attribute [local irreducible] Go.Pm.vcFun Go.Pm.vc Go.Pm.vcIter
abbrev T38:Tabs:=((Tabs.nil.addF 64 ctr64).addF 84 ctr84)
theorem okT38:TabsOk Try.prog T38:=((TabsOk.nil.addF ok64).addF ok84)
abbrev G38:Ctrs:=csm T38 (fun _ _=>[]) (fun _=>false)
def ann38:Ann:=⟨66,[(0,⟨[0],[],[],[],[],[],[]⟩),(1,⟨[0,12],[],[],[],[],[],[]⟩),(2,⟨[2,3],[],[],[],[],[],[]⟩),(3,⟨[0,4],[],[],[],[],[],[]⟩),(4,⟨[0,4,15,16],[],[],[],[],[],[]⟩),(5,⟨[0,4,15,16,17],[],[],[],[],[],[]⟩),(6,⟨[0,4,5,15,16],[],[],[],[],[],[]⟩),(7,⟨[0,4,5,6,15,16],[],[],[],[],[],[]⟩),(8,⟨[0,4,5,6,15,16,23],[],[],[],[],[],[]⟩),(9,⟨[0,4,5,6,15,16],[],[],[],[],[],[]⟩),(10,⟨[0,4,5,6,15,16,31],[],[],[],[],[],[]⟩),(11,⟨[2,3],[34],[],[],[],[],[]⟩),(12,⟨[0,4,15,16],[],[],[],[],[],[]⟩),(13,⟨[0,4,36,37],[],[],[],[],[],[]⟩),(14,⟨[0,4,36,37,38],[],[],[],[],[],[]⟩),(15,⟨[0,4,7,36,37],[],[],[],[],[],[]⟩),(16,⟨[0,4,7,8,36,37],[],[],[],[],[],[]⟩),(17,⟨[0,4,7,8,36,37,44],[],[],[],[],[],[]⟩),(18,⟨[0,4,7,8,36,37],[],[],[],[],[],[]⟩),(19,⟨[0,4,7,8,9,36,37],[],[],[],[],[],[]⟩),(20,⟨[0,4,7,8,9,36,37,51],[],[],[],[],[],[]⟩),(21,⟨[0,4,7,8,9,36,37],[],[],[],[],[],[]⟩),(22,⟨[0,4,7,8,9,36,37,60],[],[],[],[],[],[]⟩),(23,⟨[2,3],[64],[],[],[],[],[]⟩),(24,⟨[0,4,36,37],[],[],[],[],[],[]⟩),(25,⟨[2,3],[],[],[],[],[],[]⟩)],
  [(5,⟨[0,4,15,16],[],[],[],[],[],[]⟩),(8,⟨[0,4,5,6,15,16],[],[],[],[],[],[]⟩),(14,⟨[0,4,36,37],[],[],[],[],[],[]⟩),(17,⟨[0,4,7,8,36,37],[],[],[],[],[],[]⟩),(20,⟨[0,4,7,8,9,36,37],[],[],[],[],[],[]⟩)],
  [(2,⟨[0,12],[],[],[],[],[],[]⟩),(3,⟨[0],[],[],[],[],[],[]⟩),(13,⟨[0,4],[],[],[],[],[],[]⟩),(11,⟨[0,4,5,6,15,16,31],[],[],[],[],[],[]⟩),(23,⟨[0,4,7,8,9,36,37,60],[],[],[],[],[],[]⟩)],
  [],[]⟩
def f38_g0 (gates:(Sl Gate)) (t12v0:Bool):St:=⟨[(0,.one (.c (.p (.sl gates.len 3 (fun i=>enc_55 (gates.get i)))))),(12,.one (.c (.p (.bool t12v0))))],[],[]⟩
def f38_at0 (K:List PA→Prop) (gates:(Sl Gate)) (t12v0:Bool):Prop:=vc Try.prog G38 ann38 (cdF Try.f38 [1,0,1]) (sqK Try.prog G38 ann38 (cdF Try.f38 [1,1]) (bodyK Try.prog Try.f38 K)) (f38_g0 gates t12v0)
def f38_g1 (gates:(Sl Gate)):St:=⟨[(0,.one (.c (.p (.sl gates.len 3 (fun i=>enc_55 (gates.get i))))))],[],[]⟩
def f38_at1 (K:List PA→Prop) (gates:(Sl Gate)):Prop:=vc Try.prog G38 ann38 (cdF Try.f38 [1,1]) (bodyK Try.prog Try.f38 K) (f38_g1 gates)
def f38_g2 (gates:(Sl Gate)) (t16v2:Int):St:=⟨[(0,.one (.c (.p (.sl gates.len 3 (fun i=>enc_55 (gates.get i)))))),(4,.one (.c (.p (.int .i64 (gates.len:Int))))),(15,.one (.c (.p (.int .i64 (gates.len:Int))))),(16,.one (.c (.p (.int .i64 t16v2))))],[],[]⟩
def f38_at2 (K:List PA→Prop) (gates:(Sl Gate)) (t16v2:Int):Prop:=vc Try.prog G38 ann38 (cdF Try.f38 [1,1,1,0,1,0]) (blockK 0 (sqK Try.prog G38 ann38 (cdF Try.f38 [1,1,1,1]) (bodyK Try.prog Try.f38 K))) (f38_g2 gates t16v2)
def f38_g3 (gates:(Sl Gate)) (iv3:Int) (jv3:Int) (t16v3:Int):St:=⟨[(0,.one (.c (.p (.sl gates.len 3 (fun i=>enc_55 (gates.get i)))))),(4,.one (.c (.p (.int .i64 (gates.len:Int))))),(5,.one (.c (.p (.int .i64 iv3)))),(6,.one (.c (.p (.int .i64 jv3)))),(15,.one (.c (.p (.int .i64 (gates.len:Int))))),(16,.one (.c (.p (.int .i64 t16v3))))],[],[]⟩
def f38_at3 (K:List PA→Prop) (X2:St→Prop) (gates:(Sl Gate)) (iv3:Int) (jv3:Int) (t16v3:Int):Prop:=vc Try.prog G38 ann38 (cdF Try.f38 [1,1,1,0,1,0,0,1,1,0,0,1,1,0]) (blockK 2 (blockK 1 (sqK Try.prog G38 ann38 (cdF Try.f38 [1,1,1,0,1,0,0,1,1,1]) (loopK Try.prog ann38 5 X2 (blockK 0 (sqK Try.prog G38 ann38 (cdF Try.f38 [1,1,1,1]) (bodyK Try.prog Try.f38 K))))))) (f38_g3 gates iv3 jv3 t16v3)
def f38_g4 (gates:(Sl Gate)):St:=⟨[(0,.one (.c (.p (.sl gates.len 3 (fun i=>enc_55 (gates.get i)))))),(4,.one (.c (.p (.int .i64 (gates.len:Int)))))],[],[]⟩
def f38_at4 (K:List PA→Prop) (gates:(Sl Gate)):Prop:=vc Try.prog G38 ann38 (cdF Try.f38 [1,1,1,1]) (bodyK Try.prog Try.f38 K) (f38_g4 gates)
def f38_g5 (gates:(Sl Gate)) (iv5:Int) (jv5:Int) (t16v5:Int) (t31v5:Bool):St:=⟨[(0,.one (.c (.p (.sl gates.len 3 (fun i=>enc_55 (gates.get i)))))),(4,.one (.c (.p (.int .i64 (gates.len:Int))))),(5,.one (.c (.p (.int .i64 iv5)))),(6,.one (.c (.p (.int .i64 jv5)))),(15,.one (.c (.p (.int .i64 (gates.len:Int))))),(16,.one (.c (.p (.int .i64 t16v5)))),(31,.one (.c (.p (.bool t31v5))))],[],[]⟩
def f38_at5 (K:List PA→Prop) (X2:St→Prop) (X3:St→Prop) (gates:(Sl Gate)) (iv5:Int) (jv5:Int) (t16v5:Int) (t31v5:Bool):Prop:=vc Try.prog G38 ann38 (cdF Try.f38 [1,1,1,0,1,0,0,1,1,0,0,1,1,0,0,1,0,0,1]) (blockK 3 (sqK Try.prog G38 ann38 (cdF Try.f38 [1,1,1,0,1,0,0,1,1,0,0,1,1,0,0,1,1]) (loopK Try.prog ann38 8 X3 (blockK 2 (blockK 1 (sqK Try.prog G38 ann38 (cdF Try.f38 [1,1,1,0,1,0,0,1,1,1]) (loopK Try.prog ann38 5 X2 (blockK 0 (sqK Try.prog G38 ann38 (cdF Try.f38 [1,1,1,1]) (bodyK Try.prog Try.f38 K)))))))))) (f38_g5 gates iv5 jv5 t16v5 t31v5)
def f38_g6 (gates:(Sl Gate)) (t37v6:Int):St:=⟨[(0,.one (.c (.p (.sl gates.len 3 (fun i=>enc_55 (gates.get i)))))),(4,.one (.c (.p (.int .i64 (gates.len:Int))))),(36,.one (.c (.p (.int .i64 (gates.len:Int))))),(37,.one (.c (.p (.int .i64 t37v6))))],[],[]⟩
def f38_at6 (K:List PA→Prop) (gates:(Sl Gate)) (t37v6:Int):Prop:=vc Try.prog G38 ann38 (cdF Try.f38 [1,1,1,1,0,1,0]) (blockK 4 (sqK Try.prog G38 ann38 (cdF Try.f38 [1,1,1,1,1]) (bodyK Try.prog Try.f38 K))) (f38_g6 gates t37v6)
def f38_g7 (gates:(Sl Gate)) (iv7:Int) (jv7:Int) (t37v7:Int):St:=⟨[(0,.one (.c (.p (.sl gates.len 3 (fun i=>enc_55 (gates.get i)))))),(4,.one (.c (.p (.int .i64 (gates.len:Int))))),(7,.one (.c (.p (.int .i64 iv7)))),(8,.one (.c (.p (.int .i64 jv7)))),(36,.one (.c (.p (.int .i64 (gates.len:Int))))),(37,.one (.c (.p (.int .i64 t37v7))))],[],[]⟩
def f38_at7 (K:List PA→Prop) (X6:St→Prop) (gates:(Sl Gate)) (iv7:Int) (jv7:Int) (t37v7:Int):Prop:=vc Try.prog G38 ann38 (cdF Try.f38 [1,1,1,1,0,1,0,0,1,1,0,0,1,1,0]) (blockK 6 (blockK 5 (sqK Try.prog G38 ann38 (cdF Try.f38 [1,1,1,1,0,1,0,0,1,1,1]) (loopK Try.prog ann38 14 X6 (blockK 4 (sqK Try.prog G38 ann38 (cdF Try.f38 [1,1,1,1,1]) (bodyK Try.prog Try.f38 K))))))) (f38_g7 gates iv7 jv7 t37v7)
def f38_g8 (gates:(Sl Gate)) (iv8:Int) (jv8:Int) (kv8:Int) (t37v8:Int):St:=⟨[(0,.one (.c (.p (.sl gates.len 3 (fun i=>enc_55 (gates.get i)))))),(4,.one (.c (.p (.int .i64 (gates.len:Int))))),(7,.one (.c (.p (.int .i64 iv8)))),(8,.one (.c (.p (.int .i64 jv8)))),(9,.one (.c (.p (.int .i64 kv8)))),(36,.one (.c (.p (.int .i64 (gates.len:Int))))),(37,.one (.c (.p (.int .i64 t37v8))))],[],[]⟩
def f38_at8 (K:List PA→Prop) (X6:St→Prop) (X7:St→Prop) (gates:(Sl Gate)) (iv8:Int) (jv8:Int) (kv8:Int) (t37v8:Int):Prop:=vc Try.prog G38 ann38 (cdF Try.f38 [1,1,1,1,0,1,0,0,1,1,0,0,1,1,0,0,1,0,0,1,0]) (blockK 8 (blockK 7 (sqK Try.prog G38 ann38 (cdF Try.f38 [1,1,1,1,0,1,0,0,1,1,0,0,1,1,0,0,1,1]) (loopK Try.prog ann38 17 X7 (blockK 6 (blockK 5 (sqK Try.prog G38 ann38 (cdF Try.f38 [1,1,1,1,0,1,0,0,1,1,1]) (loopK Try.prog ann38 14 X6 (blockK 4 (sqK Try.prog G38 ann38 (cdF Try.f38 [1,1,1,1,1]) (bodyK Try.prog Try.f38 K))))))))))) (f38_g8 gates iv8 jv8 kv8 t37v8)
def f38_g9 (gates:(Sl Gate)) (iv9:Int) (jv9:Int) (kv9:Int) (t37v9:Int) (t60v9:Bool):St:=⟨[(0,.one (.c (.p (.sl gates.len 3 (fun i=>enc_55 (gates.get i)))))),(4,.one (.c (.p (.int .i64 (gates.len:Int))))),(7,.one (.c (.p (.int .i64 iv9)))),(8,.one (.c (.p (.int .i64 jv9)))),(9,.one (.c (.p (.int .i64 kv9)))),(36,.one (.c (.p (.int .i64 (gates.len:Int))))),(37,.one (.c (.p (.int .i64 t37v9)))),(60,.one (.c (.p (.bool t60v9))))],[],[]⟩
def f38_at9 (K:List PA→Prop) (X6:St→Prop) (X7:St→Prop) (X8:St→Prop) (gates:(Sl Gate)) (iv9:Int) (jv9:Int) (kv9:Int) (t37v9:Int) (t60v9:Bool):Prop:=vc Try.prog G38 ann38 (cdF Try.f38 [1,1,1,1,0,1,0,0,1,1,0,0,1,1,0,0,1,0,0,1,0,0,1,0,0,1]) (blockK 9 (sqK Try.prog G38 ann38 (cdF Try.f38 [1,1,1,1,0,1,0,0,1,1,0,0,1,1,0,0,1,0,0,1,0,0,1,1]) (loopK Try.prog ann38 20 X8 (blockK 8 (blockK 7 (sqK Try.prog G38 ann38 (cdF Try.f38 [1,1,1,1,0,1,0,0,1,1,0,0,1,1,0,0,1,1]) (loopK Try.prog ann38 17 X7 (blockK 6 (blockK 5 (sqK Try.prog G38 ann38 (cdF Try.f38 [1,1,1,1,0,1,0,0,1,1,1]) (loopK Try.prog ann38 14 X6 (blockK 4 (sqK Try.prog G38 ann38 (cdF Try.f38 [1,1,1,1,1]) (bodyK Try.prog Try.f38 K)))))))))))))) (f38_g9 gates iv9 jv9 kv9 t37v9 t60v9)
theorem f38_top (gates : (Sl Gate)) (K : List PA → Prop) :
  vcFun Try.prog G38 ann38 38 [.one (.sl gates.len 3 (fun i=>enc_55 (gates.get i)))] K =
  ((IsE enc_55 3 3 (fun i=>enc_55 (gates.get i))∧(p64 gates=true)) ∧
  (f38_at0 K gates (!(s64 gates)))):=by kernel_rfl
theorem f38_eq0 (K : List PA → Prop) (gates : (Sl Gate)) (t12v0 : Bool) :
  f38_at0 K gates t12v0 =
  (condP t12v0
   (K [.one (.nils),.one (.int .i64 (2:Int))])
   (f38_at1 K gates)):=by kernel_rfl
theorem f38_eq1 (K : List PA → Prop) (gates : (Sl Gate)) :
  f38_at1 K gates =
  (f38_at2 K gates (0:Int)):=by kernel_rfl
def f38_step2 (K:List PA→Prop) (X2:St→Prop) (gates:(Sl Gate)) (t16v2:Int):Prop :=
  (condP (decide (t16v2 < (gates.len : Int)))
   (f38_at3 K X2 gates t16v2 (w64 (t16v2+(1:Int))) t16v2)
   (f38_at4 K gates))
theorem f38_stepeq2 (K : List PA → Prop) (X2 : St → Prop) (gates : (Sl Gate)) (t16v2 : Int) :
  vc Try.prog G38 ann38 (cd (cdF Try.f38 [1,1,1,0,1,0]) [0]) (loopK Try.prog ann38 5 X2 (blockK 0 (sqK Try.prog G38 ann38 (cdF Try.f38 [1,1,1,1]) (bodyK Try.prog Try.f38 K)))) (f38_g2 gates t16v2) =
  f38_step2 K X2 gates t16v2:=by kernel_rfl
theorem f38_loop2 (K : List PA → Prop) (gates : (Sl Gate)) (t16v2 : Int)
  (h:∀ X2:St→Prop,(∀ (t16v2:Int),f38_step2 K X2 gates t16v2→X2 (f38_g2 gates t16v2))→X2 (f38_g2 gates t16v2)) :
  f38_at2 K gates t16v2:=by
  have e:f38_at2 K gates t16v2=(∀ X:St→Prop,(∀ s,vc Try.prog G38 ann38 (cd (cdF Try.f38 [1,1,1,0,1,0]) [0]) (loopK Try.prog ann38 5 X (blockK 0 (sqK Try.prog G38 ann38 (cdF Try.f38 [1,1,1,1]) (bodyK Try.prog Try.f38 K)))) s→X s)→X (f38_g2 gates t16v2)):=by kernel_rfl
  refine ofEq e ?_
  intro X hX
  refine h X ?_
  intro t16v2 hs
  refine hX _ ?_
  have e2:=f38_stepeq2 K X gates t16v2
  rw [e2]
  exact hs
def f38_step3 (K:List PA→Prop) (X2:St→Prop) (X3:St→Prop) (gates:(Sl Gate)) (iv3:Int) (jv3:Int) (t16v3:Int):Prop :=
  (condP (decide (jv3 < (gates.len : Int)))
   ((IsE enc_55 3 3 (fun i=>enc_55 (gates.get i))∧IsE enc_3 1 1 (getL [(enc_3 iv3),(enc_3 jv3)])∧(p84 gates (⟨2,decF_3 (getL [(enc_3 iv3),(enc_3 jv3)])⟩:(Sl Int))=true)) ∧
   (f38_at5 K X2 X3 gates iv3 jv3 t16v3 (!(s84 gates (⟨2,decF_3 (getL [(enc_3 iv3),(enc_3 jv3)])⟩:(Sl Int))))))
   (X2 (f38_g2 gates (w64 (t16v3+(1:Int))))))
theorem f38_stepeq3 (K : List PA → Prop) (X2 : St → Prop) (X3 : St → Prop) (gates : (Sl Gate)) (iv3 : Int) (jv3 : Int) (t16v3 : Int) :
  vc Try.prog G38 ann38 (cd (cdF Try.f38 [1,1,1,0,1,0,0,1,1,0,0,1,1,0]) [0]) (loopK Try.prog ann38 8 X3 (blockK 2 (blockK 1 (sqK Try.prog G38 ann38 (cdF Try.f38 [1,1,1,0,1,0,0,1,1,1]) (loopK Try.prog ann38 5 X2 (blockK 0 (sqK Try.prog G38 ann38 (cdF Try.f38 [1,1,1,1]) (bodyK Try.prog Try.f38 K)))))))) (f38_g3 gates iv3 jv3 t16v3) =
  f38_step3 K X2 X3 gates iv3 jv3 t16v3:=by kernel_rfl
theorem f38_loop3 (K : List PA → Prop) (X2 : St → Prop) (gates : (Sl Gate)) (iv3 : Int) (jv3 : Int) (t16v3 : Int)
  (h:∀ X3:St→Prop,(∀ (iv3:Int) (jv3:Int) (t16v3:Int),f38_step3 K X2 X3 gates iv3 jv3 t16v3→X3 (f38_g3 gates iv3 jv3 t16v3))→X3 (f38_g3 gates iv3 jv3 t16v3)) :
  f38_at3 K X2 gates iv3 jv3 t16v3:=by
  have e:f38_at3 K X2 gates iv3 jv3 t16v3=(∀ X:St→Prop,(∀ s,vc Try.prog G38 ann38 (cd (cdF Try.f38 [1,1,1,0,1,0,0,1,1,0,0,1,1,0]) [0]) (loopK Try.prog ann38 8 X (blockK 2 (blockK 1 (sqK Try.prog G38 ann38 (cdF Try.f38 [1,1,1,0,1,0,0,1,1,1]) (loopK Try.prog ann38 5 X2 (blockK 0 (sqK Try.prog G38 ann38 (cdF Try.f38 [1,1,1,1]) (bodyK Try.prog Try.f38 K)))))))) s→X s)→X (f38_g3 gates iv3 jv3 t16v3)):=by kernel_rfl
  refine ofEq e ?_
  intro X hX
  refine h X ?_
  intro iv3 jv3 t16v3 hs
  refine hX _ ?_
  have e2:=f38_stepeq3 K X2 X gates iv3 jv3 t16v3
  rw [e2]
  exact hs
theorem f38_eq4 (K : List PA → Prop) (gates : (Sl Gate)) :
  f38_at4 K gates =
  (f38_at6 K gates (0:Int)):=by kernel_rfl
theorem f38_eq5 (K : List PA → Prop) (X2 : St → Prop) (X3 : St → Prop) (gates : (Sl Gate)) (iv5 : Int) (jv5 : Int) (t16v5 : Int) (t31v5 : Bool) :
  f38_at5 K X2 X3 gates iv5 jv5 t16v5 t31v5 =
  (condP t31v5
   (K [.one (.sl 2 1 (getL [(enc_3 iv5),(enc_3 jv5)])),.one (.int .i64 (0:Int))])
   (X3 (f38_g3 gates iv5 (w64 (jv5+(1:Int))) t16v5))):=by kernel_rfl
def f38_step6 (K:List PA→Prop) (X6:St→Prop) (gates:(Sl Gate)) (t37v6:Int):Prop :=
  (condP (decide (t37v6 < (gates.len : Int)))
   (f38_at7 K X6 gates t37v6 (w64 (t37v6+(1:Int))) t37v6)
   (K [.one (.nils),.one (.int .i64 (7:Int))]))
theorem f38_stepeq6 (K : List PA → Prop) (X6 : St → Prop) (gates : (Sl Gate)) (t37v6 : Int) :
  vc Try.prog G38 ann38 (cd (cdF Try.f38 [1,1,1,1,0,1,0]) [0]) (loopK Try.prog ann38 14 X6 (blockK 4 (sqK Try.prog G38 ann38 (cdF Try.f38 [1,1,1,1,1]) (bodyK Try.prog Try.f38 K)))) (f38_g6 gates t37v6) =
  f38_step6 K X6 gates t37v6:=by kernel_rfl
theorem f38_loop6 (K : List PA → Prop) (gates : (Sl Gate)) (t37v6 : Int)
  (h:∀ X6:St→Prop,(∀ (t37v6:Int),f38_step6 K X6 gates t37v6→X6 (f38_g6 gates t37v6))→X6 (f38_g6 gates t37v6)) :
  f38_at6 K gates t37v6:=by
  have e:f38_at6 K gates t37v6=(∀ X:St→Prop,(∀ s,vc Try.prog G38 ann38 (cd (cdF Try.f38 [1,1,1,1,0,1,0]) [0]) (loopK Try.prog ann38 14 X (blockK 4 (sqK Try.prog G38 ann38 (cdF Try.f38 [1,1,1,1,1]) (bodyK Try.prog Try.f38 K)))) s→X s)→X (f38_g6 gates t37v6)):=by kernel_rfl
  refine ofEq e ?_
  intro X hX
  refine h X ?_
  intro t37v6 hs
  refine hX _ ?_
  have e2:=f38_stepeq6 K X gates t37v6
  rw [e2]
  exact hs
def f38_step7 (K:List PA→Prop) (X6:St→Prop) (X7:St→Prop) (gates:(Sl Gate)) (iv7:Int) (jv7:Int) (t37v7:Int):Prop :=
  (condP (decide (jv7 < (gates.len : Int)))
   (f38_at8 K X6 X7 gates iv7 jv7 (w64 (jv7+(1:Int))) t37v7)
   (X6 (f38_g6 gates (w64 (t37v7+(1:Int))))))
theorem f38_stepeq7 (K : List PA → Prop) (X6 : St → Prop) (X7 : St → Prop) (gates : (Sl Gate)) (iv7 : Int) (jv7 : Int) (t37v7 : Int) :
  vc Try.prog G38 ann38 (cd (cdF Try.f38 [1,1,1,1,0,1,0,0,1,1,0,0,1,1,0]) [0]) (loopK Try.prog ann38 17 X7 (blockK 6 (blockK 5 (sqK Try.prog G38 ann38 (cdF Try.f38 [1,1,1,1,0,1,0,0,1,1,1]) (loopK Try.prog ann38 14 X6 (blockK 4 (sqK Try.prog G38 ann38 (cdF Try.f38 [1,1,1,1,1]) (bodyK Try.prog Try.f38 K)))))))) (f38_g7 gates iv7 jv7 t37v7) =
  f38_step7 K X6 X7 gates iv7 jv7 t37v7:=by kernel_rfl
theorem f38_loop7 (K : List PA → Prop) (X6 : St → Prop) (gates : (Sl Gate)) (iv7 : Int) (jv7 : Int) (t37v7 : Int)
  (h:∀ X7:St→Prop,(∀ (iv7:Int) (jv7:Int) (t37v7:Int),f38_step7 K X6 X7 gates iv7 jv7 t37v7→X7 (f38_g7 gates iv7 jv7 t37v7))→X7 (f38_g7 gates iv7 jv7 t37v7)) :
  f38_at7 K X6 gates iv7 jv7 t37v7:=by
  have e:f38_at7 K X6 gates iv7 jv7 t37v7=(∀ X:St→Prop,(∀ s,vc Try.prog G38 ann38 (cd (cdF Try.f38 [1,1,1,1,0,1,0,0,1,1,0,0,1,1,0]) [0]) (loopK Try.prog ann38 17 X (blockK 6 (blockK 5 (sqK Try.prog G38 ann38 (cdF Try.f38 [1,1,1,1,0,1,0,0,1,1,1]) (loopK Try.prog ann38 14 X6 (blockK 4 (sqK Try.prog G38 ann38 (cdF Try.f38 [1,1,1,1,1]) (bodyK Try.prog Try.f38 K)))))))) s→X s)→X (f38_g7 gates iv7 jv7 t37v7)):=by kernel_rfl
  refine ofEq e ?_
  intro X hX
  refine h X ?_
  intro iv7 jv7 t37v7 hs
  refine hX _ ?_
  have e2:=f38_stepeq7 K X6 X gates iv7 jv7 t37v7
  rw [e2]
  exact hs
def f38_step8 (K:List PA→Prop) (X6:St→Prop) (X7:St→Prop) (X8:St→Prop) (gates:(Sl Gate)) (iv8:Int) (jv8:Int) (kv8:Int) (t37v8:Int):Prop :=
  (condP (decide (kv8 < (gates.len : Int)))
   ((IsE enc_55 3 3 (fun i=>enc_55 (gates.get i))∧IsE enc_3 1 1 (getL [(enc_3 iv8),(enc_3 jv8),(enc_3 kv8)])∧(p84 gates (⟨3,decF_3 (getL [(enc_3 iv8),(enc_3 jv8),(enc_3 kv8)])⟩:(Sl Int))=true)) ∧
   (f38_at9 K X6 X7 X8 gates iv8 jv8 kv8 t37v8 (!(s84 gates (⟨3,decF_3 (getL [(enc_3 iv8),(enc_3 jv8),(enc_3 kv8)])⟩:(Sl Int))))))
   (X7 (f38_g7 gates iv8 (w64 (jv8+(1:Int))) t37v8)))
theorem f38_stepeq8 (K : List PA → Prop) (X6 : St → Prop) (X7 : St → Prop) (X8 : St → Prop) (gates : (Sl Gate)) (iv8 : Int) (jv8 : Int) (kv8 : Int) (t37v8 : Int) :
  vc Try.prog G38 ann38 (cd (cdF Try.f38 [1,1,1,1,0,1,0,0,1,1,0,0,1,1,0,0,1,0,0,1,0]) [0]) (loopK Try.prog ann38 20 X8 (blockK 8 (blockK 7 (sqK Try.prog G38 ann38 (cdF Try.f38 [1,1,1,1,0,1,0,0,1,1,0,0,1,1,0,0,1,1]) (loopK Try.prog ann38 17 X7 (blockK 6 (blockK 5 (sqK Try.prog G38 ann38 (cdF Try.f38 [1,1,1,1,0,1,0,0,1,1,1]) (loopK Try.prog ann38 14 X6 (blockK 4 (sqK Try.prog G38 ann38 (cdF Try.f38 [1,1,1,1,1]) (bodyK Try.prog Try.f38 K)))))))))))) (f38_g8 gates iv8 jv8 kv8 t37v8) =
  f38_step8 K X6 X7 X8 gates iv8 jv8 kv8 t37v8:=by kernel_rfl
theorem f38_loop8 (K : List PA → Prop) (X6 : St → Prop) (X7 : St → Prop) (gates : (Sl Gate)) (iv8 : Int) (jv8 : Int) (kv8 : Int) (t37v8 : Int)
  (h:∀ X8:St→Prop,(∀ (iv8:Int) (jv8:Int) (kv8:Int) (t37v8:Int),f38_step8 K X6 X7 X8 gates iv8 jv8 kv8 t37v8→X8 (f38_g8 gates iv8 jv8 kv8 t37v8))→X8 (f38_g8 gates iv8 jv8 kv8 t37v8)) :
  f38_at8 K X6 X7 gates iv8 jv8 kv8 t37v8:=by
  have e:f38_at8 K X6 X7 gates iv8 jv8 kv8 t37v8=(∀ X:St→Prop,(∀ s,vc Try.prog G38 ann38 (cd (cdF Try.f38 [1,1,1,1,0,1,0,0,1,1,0,0,1,1,0,0,1,0,0,1,0]) [0]) (loopK Try.prog ann38 20 X (blockK 8 (blockK 7 (sqK Try.prog G38 ann38 (cdF Try.f38 [1,1,1,1,0,1,0,0,1,1,0,0,1,1,0,0,1,1]) (loopK Try.prog ann38 17 X7 (blockK 6 (blockK 5 (sqK Try.prog G38 ann38 (cdF Try.f38 [1,1,1,1,0,1,0,0,1,1,1]) (loopK Try.prog ann38 14 X6 (blockK 4 (sqK Try.prog G38 ann38 (cdF Try.f38 [1,1,1,1,1]) (bodyK Try.prog Try.f38 K)))))))))))) s→X s)→X (f38_g8 gates iv8 jv8 kv8 t37v8)):=by kernel_rfl
  refine ofEq e ?_
  intro X hX
  refine h X ?_
  intro iv8 jv8 kv8 t37v8 hs
  refine hX _ ?_
  have e2:=f38_stepeq8 K X6 X7 X gates iv8 jv8 kv8 t37v8
  rw [e2]
  exact hs
theorem f38_eq9 (K : List PA → Prop) (X6 : St → Prop) (X7 : St → Prop) (X8 : St → Prop) (gates : (Sl Gate)) (iv9 : Int) (jv9 : Int) (kv9 : Int) (t37v9 : Int) (t60v9 : Bool) :
  f38_at9 K X6 X7 X8 gates iv9 jv9 kv9 t37v9 t60v9 =
  (condP t60v9
   (K [.one (.sl 3 1 (getL [(enc_3 iv9),(enc_3 jv9),(enc_3 kv9)])),.one (.int .i64 (0:Int))])
   (X8 (f38_g8 gates iv9 jv9 (w64 (kv9+(1:Int))) t37v9))):=by kernel_rfl
abbrev e38 (r:((Sl Int)×Int)):List PA:=[.one (.sl r.1.len 1 (fun i=>enc_3 (r.1.get i))),.one (.int .i64 r.2)]
attribute [irreducible] f38_at0 f38_at1 f38_at2 f38_at3 f38_at4 f38_at5 f38_at6 f38_at7 f38_at8 f38_at9
def s38_at9 (S6:Int→((Sl Int)×Int)) (S7:Int→Int→Int→((Sl Int)×Int)) (S8:Int→Int→Int→Int→((Sl Int)×Int)) (gates:(Sl Gate)) (iv9:Int) (jv9:Int) (kv9:Int) (t37v9:Int) (t60v9:Bool):((Sl Int)×Int) :=
  (cond t60v9
   ((⟨3,(getT iv9 [iv9,jv9,kv9])⟩:(Sl Int)),(0:Int))
   (S8 iv9 jv9 (w64 (kv9+(1:Int))) t37v9))
def p38_at9 (P6:Int→Bool) (P7:Int→Int→Int→Bool) (P8:Int→Int→Int→Int→Bool) (gates:(Sl Gate)) (iv9:Int) (jv9:Int) (kv9:Int) (t37v9:Int) (t60v9:Bool):Bool :=
  (cond t60v9
   true
   (P8 iv9 jv9 (w64 (kv9+(1:Int))) t37v9))
theorem q38_at9 (K : List PA → Prop) (gates : (Sl Gate))
  (X6:St→Prop) (P6:Int→Bool) (S6:Int→((Sl Int)×Int))
  (hX6:∀ (t37v6:Int),P6 t37v6=true→K (e38 (S6 t37v6))→X6 (f38_g6 gates t37v6))
  (X7:St→Prop) (P7:Int→Int→Int→Bool) (S7:Int→Int→Int→((Sl Int)×Int))
  (hX7:∀ (iv7:Int) (jv7:Int) (t37v7:Int),P7 iv7 jv7 t37v7=true→K (e38 (S7 iv7 jv7 t37v7))→X7 (f38_g7 gates iv7 jv7 t37v7))
  (X8:St→Prop) (P8:Int→Int→Int→Int→Bool) (S8:Int→Int→Int→Int→((Sl Int)×Int))
  (hX8:∀ (iv8:Int) (jv8:Int) (kv8:Int) (t37v8:Int),P8 iv8 jv8 kv8 t37v8=true→K (e38 (S8 iv8 jv8 kv8 t37v8))→X8 (f38_g8 gates iv8 jv8 kv8 t37v8)) (iv9:Int) (jv9:Int) (kv9:Int) (t37v9:Int) (t60v9:Bool) (hs:p38_at9 P6 P7 P8 gates iv9 jv9 kv9 t37v9 t60v9=true) (hk:K (e38 (s38_at9 S6 S7 S8 gates iv9 jv9 kv9 t37v9 t60v9))):f38_at9 (Wk K) X6 X7 X8 gates iv9 jv9 kv9 t37v9 t60v9:=by
  refine ofEq (f38_eq9 (Wk K) X6 X7 X8 gates iv9 jv9 kv9 t37v9 t60v9) ?_
  unfold p38_at9 at hs
  unfold s38_at9 at hk
  exact (condB_go (K := fun r => K (e38 r))
   (fun hs hk=>(wk_rfl (Eq.mpr (congrArg K (congrArg (fun (g_:Nat→List PV)=>([.one (.sl 3 1 g_),.one (.int .i64 (0:Int))]:List PA)) (getL_enc (enc:=enc_3) (x:=iv9) (y:=jv9) (r:=[kv9])))) hk)))
   (fun hs hk=>(hX8 iv9 jv9 (w64 (kv9+(1:Int))) t37v9 hs hk)) hs hk)
def s38_st8 (S6:Int→((Sl Int)×Int)) (S7:Int→Int→Int→((Sl Int)×Int)) (gates:(Sl Gate)) (S8:Int→Int→Int→Int→((Sl Int)×Int)) (iv8:Int) (jv8:Int) (kv8:Int) (t37v8:Int):((Sl Int)×Int) :=
  (cond (decide (kv8 < (gates.len : Int)))
   (s38_at9 S6 S7 S8 gates iv8 jv8 kv8 t37v8 (!(s84 gates (⟨3,decF_3 (getL [(enc_3 iv8),(enc_3 jv8),(enc_3 kv8)])⟩:(Sl Int)))))
   (S7 iv8 (w64 (jv8+(1:Int))) t37v8))
def p38_st8 (P6:Int→Bool) (P7:Int→Int→Int→Bool) (gates:(Sl Gate)) (P8:Int→Int→Int→Int→Bool) (iv8:Int) (jv8:Int) (kv8:Int) (t37v8:Int):Bool :=
  (cond (decide (kv8 < (gates.len : Int)))
   (decide ((p84 gates (⟨3,decF_3 (getL [(enc_3 iv8),(enc_3 jv8),(enc_3 kv8)])⟩:(Sl Int))=true)) &&
   (p38_at9 P6 P7 P8 gates iv8 jv8 kv8 t37v8 (!(s84 gates (⟨3,decF_3 (getL [(enc_3 iv8),(enc_3 jv8),(enc_3 kv8)])⟩:(Sl Int))))))
   (P7 iv8 (w64 (jv8+(1:Int))) t37v8))
def s38_lp8 (S6 : Int → ((Sl Int) × Int)) (S7 : Int → Int → Int → ((Sl Int) × Int)) (gates : (Sl Gate)) : Nat → Int → Int → Int → Int → ((Sl Int) × Int)
  | 0=>fun _ _ _ _=>default
  | k+1=>s38_st8 S6 S7 gates (s38_lp8 S6 S7 gates k)
def p38_lp8 (P6 : Int → Bool) (P7 : Int → Int → Int → Bool) (gates : (Sl Gate)) : Nat → Int → Int → Int → Int → Bool
  | 0=>fun _ _ _ _=>false
  | k+1=>p38_st8 P6 P7 gates (p38_lp8 P6 P7 gates k)
def s38_at8 (S6:Int→((Sl Int)×Int)) (S7:Int→Int→Int→((Sl Int)×Int)) (gates:(Sl Gate)) (iv8:Int) (jv8:Int) (kv8:Int) (t37v8:Int):((Sl Int)×Int):=s38_lp8 S6 S7 gates Fuel iv8 jv8 kv8 t37v8
def p38_at8 (P6:Int→Bool) (P7:Int→Int→Int→Bool) (gates:(Sl Gate)) (iv8:Int) (jv8:Int) (kv8:Int) (t37v8:Int):Bool:=p38_lp8 P6 P7 gates Fuel iv8 jv8 kv8 t37v8
theorem q38_at8 (K : List PA → Prop) (gates : (Sl Gate))
  (X6:St→Prop) (P6:Int→Bool) (S6:Int→((Sl Int)×Int))
  (hX6:∀ (t37v6:Int),P6 t37v6=true→K (e38 (S6 t37v6))→X6 (f38_g6 gates t37v6))
  (X7:St→Prop) (P7:Int→Int→Int→Bool) (S7:Int→Int→Int→((Sl Int)×Int))
  (hX7:∀ (iv7:Int) (jv7:Int) (t37v7:Int),P7 iv7 jv7 t37v7=true→K (e38 (S7 iv7 jv7 t37v7))→X7 (f38_g7 gates iv7 jv7 t37v7)) (iv8:Int) (jv8:Int) (kv8:Int) (t37v8:Int) (hs:p38_at8 P6 P7 gates iv8 jv8 kv8 t37v8=true) (hk:K (e38 (s38_at8 S6 S7 gates iv8 jv8 kv8 t37v8))):f38_at8 (Wk K) X6 X7 gates iv8 jv8 kv8 t37v8:=by
  refine f38_loop8 (Wk K) X6 X7 gates iv8 jv8 kv8 t37v8 ?_
  intro X8 hstep
  have key:∀ (k:Nat) (iv8:Int) (jv8:Int) (kv8:Int) (t37v8:Int),p38_lp8 P6 P7 gates k iv8 jv8 kv8 t37v8=true→K (e38 (s38_lp8 S6 S7 gates k iv8 jv8 kv8 t37v8))→X8 (f38_g8 gates iv8 jv8 kv8 t37v8):=by
    intro k
    induction k with
    | zero=>intro iv8 jv8 kv8 t37v8 hs;exact absurd hs Bool.false_ne_true
    | succ k ih =>
      intro iv8 jv8 kv8 t37v8 hs hk
      refine hstep iv8 jv8 kv8 t37v8 ?_
      have hs:p38_st8 P6 P7 gates (p38_lp8 P6 P7 gates k) iv8 jv8 kv8 t37v8=true:=hs
      have hk:K (e38 (s38_st8 S6 S7 gates (s38_lp8 S6 S7 gates k) iv8 jv8 kv8 t37v8)):=hk
      unfold p38_st8 at hs
      unfold s38_st8 at hk
      generalize s38_lp8 S6 S7 gates k=S8 at hk ih
      generalize p38_lp8 P6 P7 gates k=P8 at hs ih
      have hX8:=ih
      exact (condB_go (K := fun r => K (e38 r))
       (fun hs hk=>(andK hs fun hc hs=>⟨⟨isE,(isE_list [kv8]),hc⟩,(q38_at9 K gates X6 P6 S6 hX6 X7 P7 S7 hX7 X8 P8 S8 hX8 iv8 jv8 kv8 t37v8 (!(s84 gates (⟨3,decF_3 (getL [(enc_3 iv8),(enc_3 jv8),(enc_3 kv8)])⟩:(Sl Int)))) hs hk)⟩))
       (fun hs hk=>(hX7 iv8 (w64 (jv8+(1:Int))) t37v8 hs hk)) hs hk)
  exact key _ iv8 jv8 kv8 t37v8 hs hk
def s38_st7 (S6:Int→((Sl Int)×Int)) (gates:(Sl Gate)) (S7:Int→Int→Int→((Sl Int)×Int)) (iv7:Int) (jv7:Int) (t37v7:Int):((Sl Int)×Int) :=
  (cond (decide (jv7 < (gates.len : Int)))
   (s38_at8 S6 S7 gates iv7 jv7 (w64 (jv7+(1:Int))) t37v7)
   (S6 (w64 (t37v7+(1:Int)))))
def p38_st7 (P6:Int→Bool) (gates:(Sl Gate)) (P7:Int→Int→Int→Bool) (iv7:Int) (jv7:Int) (t37v7:Int):Bool :=
  (cond (decide (jv7 < (gates.len : Int)))
   (p38_at8 P6 P7 gates iv7 jv7 (w64 (jv7+(1:Int))) t37v7)
   (P6 (w64 (t37v7+(1:Int)))))
def s38_lp7 (S6 : Int → ((Sl Int) × Int)) (gates : (Sl Gate)) : Nat → Int → Int → Int → ((Sl Int) × Int)
  | 0=>fun _ _ _=>default
  | k+1=>s38_st7 S6 gates (s38_lp7 S6 gates k)
def p38_lp7 (P6 : Int → Bool) (gates : (Sl Gate)) : Nat → Int → Int → Int → Bool
  | 0=>fun _ _ _=>false
  | k+1=>p38_st7 P6 gates (p38_lp7 P6 gates k)
def s38_at7 (S6:Int→((Sl Int)×Int)) (gates:(Sl Gate)) (iv7:Int) (jv7:Int) (t37v7:Int):((Sl Int)×Int):=s38_lp7 S6 gates Fuel iv7 jv7 t37v7
def p38_at7 (P6:Int→Bool) (gates:(Sl Gate)) (iv7:Int) (jv7:Int) (t37v7:Int):Bool:=p38_lp7 P6 gates Fuel iv7 jv7 t37v7
theorem q38_at7 (K : List PA → Prop) (gates : (Sl Gate))
  (X6:St→Prop) (P6:Int→Bool) (S6:Int→((Sl Int)×Int))
  (hX6:∀ (t37v6:Int),P6 t37v6=true→K (e38 (S6 t37v6))→X6 (f38_g6 gates t37v6)) (iv7:Int) (jv7:Int) (t37v7:Int) (hs:p38_at7 P6 gates iv7 jv7 t37v7=true) (hk:K (e38 (s38_at7 S6 gates iv7 jv7 t37v7))):f38_at7 (Wk K) X6 gates iv7 jv7 t37v7:=by
  refine f38_loop7 (Wk K) X6 gates iv7 jv7 t37v7 ?_
  intro X7 hstep
  have key:∀ (k:Nat) (iv7:Int) (jv7:Int) (t37v7:Int),p38_lp7 P6 gates k iv7 jv7 t37v7=true→K (e38 (s38_lp7 S6 gates k iv7 jv7 t37v7))→X7 (f38_g7 gates iv7 jv7 t37v7):=by
    intro k
    induction k with
    | zero=>intro iv7 jv7 t37v7 hs;exact absurd hs Bool.false_ne_true
    | succ k ih =>
      intro iv7 jv7 t37v7 hs hk
      refine hstep iv7 jv7 t37v7 ?_
      have hs:p38_st7 P6 gates (p38_lp7 P6 gates k) iv7 jv7 t37v7=true:=hs
      have hk:K (e38 (s38_st7 S6 gates (s38_lp7 S6 gates k) iv7 jv7 t37v7)):=hk
      unfold p38_st7 at hs
      unfold s38_st7 at hk
      generalize s38_lp7 S6 gates k=S7 at hk ih
      generalize p38_lp7 P6 gates k=P7 at hs ih
      have hX7:=ih
      exact (condB_go (K := fun r => K (e38 r))
       (fun hs hk=>(q38_at8 K gates X6 P6 S6 hX6 X7 P7 S7 hX7 iv7 jv7 (w64 (jv7+(1:Int))) t37v7 hs hk))
       (fun hs hk=>(hX6 (w64 (t37v7+(1:Int))) hs hk)) hs hk)
  exact key _ iv7 jv7 t37v7 hs hk
def s38_st6 (gates:(Sl Gate)) (S6:Int→((Sl Int)×Int)) (t37v6:Int):((Sl Int)×Int) :=
  (cond (decide (t37v6 < (gates.len : Int)))
   (s38_at7 S6 gates t37v6 (w64 (t37v6+(1:Int))) t37v6)
   ((⟨0,fun _=>default⟩:(Sl Int)),(7:Int)))
def p38_st6 (gates:(Sl Gate)) (P6:Int→Bool) (t37v6:Int):Bool :=
  (cond (decide (t37v6 < (gates.len : Int)))
   (p38_at7 P6 gates t37v6 (w64 (t37v6+(1:Int))) t37v6)
   true)
def s38_lp6 (gates : (Sl Gate)) : Nat → Int → ((Sl Int) × Int)
  | 0=>fun _=>default
  | k+1=>s38_st6 gates (s38_lp6 gates k)
def p38_lp6 (gates : (Sl Gate)) : Nat → Int → Bool
  | 0=>fun _=>false
  | k+1=>p38_st6 gates (p38_lp6 gates k)
def s38_at6 (gates:(Sl Gate)) (t37v6:Int):((Sl Int)×Int):=s38_lp6 gates Fuel t37v6
def p38_at6 (gates:(Sl Gate)) (t37v6:Int):Bool:=p38_lp6 gates Fuel t37v6
theorem q38_at6 (K:List PA→Prop) (gates:(Sl Gate)) (t37v6:Int) (hs:p38_at6 gates t37v6=true) (hk:K (e38 (s38_at6 gates t37v6))):f38_at6 (Wk K) gates t37v6:=by
  refine f38_loop6 (Wk K) gates t37v6 ?_
  intro X6 hstep
  have key:∀ (k:Nat) (t37v6:Int),p38_lp6 gates k t37v6=true→K (e38 (s38_lp6 gates k t37v6))→X6 (f38_g6 gates t37v6):=by
    intro k
    induction k with
    | zero=>intro t37v6 hs;exact absurd hs Bool.false_ne_true
    | succ k ih =>
      intro t37v6 hs hk
      refine hstep t37v6 ?_
      have hs:p38_st6 gates (p38_lp6 gates k) t37v6=true:=hs
      have hk:K (e38 (s38_st6 gates (s38_lp6 gates k) t37v6)):=hk
      unfold p38_st6 at hs
      unfold s38_st6 at hk
      generalize s38_lp6 gates k=S6 at hk ih
      generalize p38_lp6 gates k=P6 at hs ih
      have hX6:=ih
      exact (condB_go (K := fun r => K (e38 r))
       (fun hs hk=>(q38_at7 K gates X6 P6 S6 hX6 t37v6 (w64 (t37v6+(1:Int))) t37v6 hs hk))
       (fun hs hk=>(wk hk (rl_c (.one (.nil _ _)) (rl_c (.one (.rfl _)) rl_n)))) hs hk)
  exact key _ t37v6 hs hk
def s38_at5 (S2:Int→((Sl Int)×Int)) (S3:Int→Int→Int→((Sl Int)×Int)) (gates:(Sl Gate)) (iv5:Int) (jv5:Int) (t16v5:Int) (t31v5:Bool):((Sl Int)×Int) :=
  (cond t31v5
   ((⟨2,(getT iv5 [iv5,jv5])⟩:(Sl Int)),(0:Int))
   (S3 iv5 (w64 (jv5+(1:Int))) t16v5))
def p38_at5 (P2:Int→Bool) (P3:Int→Int→Int→Bool) (gates:(Sl Gate)) (iv5:Int) (jv5:Int) (t16v5:Int) (t31v5:Bool):Bool :=
  (cond t31v5
   true
   (P3 iv5 (w64 (jv5+(1:Int))) t16v5))
theorem q38_at5 (K : List PA → Prop) (gates : (Sl Gate))
  (X2:St→Prop) (P2:Int→Bool) (S2:Int→((Sl Int)×Int))
  (hX2:∀ (t16v2:Int),P2 t16v2=true→K (e38 (S2 t16v2))→X2 (f38_g2 gates t16v2))
  (X3:St→Prop) (P3:Int→Int→Int→Bool) (S3:Int→Int→Int→((Sl Int)×Int))
  (hX3:∀ (iv3:Int) (jv3:Int) (t16v3:Int),P3 iv3 jv3 t16v3=true→K (e38 (S3 iv3 jv3 t16v3))→X3 (f38_g3 gates iv3 jv3 t16v3)) (iv5:Int) (jv5:Int) (t16v5:Int) (t31v5:Bool) (hs:p38_at5 P2 P3 gates iv5 jv5 t16v5 t31v5=true) (hk:K (e38 (s38_at5 S2 S3 gates iv5 jv5 t16v5 t31v5))):f38_at5 (Wk K) X2 X3 gates iv5 jv5 t16v5 t31v5:=by
  refine ofEq (f38_eq5 (Wk K) X2 X3 gates iv5 jv5 t16v5 t31v5) ?_
  unfold p38_at5 at hs
  unfold s38_at5 at hk
  exact (condB_go (K := fun r => K (e38 r))
   (fun hs hk=>(wk_rfl (Eq.mpr (congrArg K (congrArg (fun (g_:Nat→List PV)=>([.one (.sl 2 1 g_),.one (.int .i64 (0:Int))]:List PA)) (getL_enc (enc:=enc_3) (x:=iv5) (y:=jv5) (r:=[])))) hk)))
   (fun hs hk=>(hX3 iv5 (w64 (jv5+(1:Int))) t16v5 hs hk)) hs hk)
def s38_at4 (gates:(Sl Gate)):((Sl Int)×Int) :=
  (s38_at6 gates (0:Int))
def p38_at4 (gates:(Sl Gate)):Bool :=
  (p38_at6 gates (0:Int))
theorem q38_at4 (K:List PA→Prop) (gates:(Sl Gate)) (hs:p38_at4 gates=true) (hk:K (e38 (s38_at4 gates))):f38_at4 (Wk K) gates:=by
  refine ofEq (f38_eq4 (Wk K) gates) ?_
  unfold p38_at4 at hs
  unfold s38_at4 at hk
  exact (q38_at6 K gates (0:Int) hs hk)
def s38_st3 (S2:Int→((Sl Int)×Int)) (gates:(Sl Gate)) (S3:Int→Int→Int→((Sl Int)×Int)) (iv3:Int) (jv3:Int) (t16v3:Int):((Sl Int)×Int) :=
  (cond (decide (jv3 < (gates.len : Int)))
   (s38_at5 S2 S3 gates iv3 jv3 t16v3 (!(s84 gates (⟨2,decF_3 (getL [(enc_3 iv3),(enc_3 jv3)])⟩:(Sl Int)))))
   (S2 (w64 (t16v3+(1:Int)))))
def p38_st3 (P2:Int→Bool) (gates:(Sl Gate)) (P3:Int→Int→Int→Bool) (iv3:Int) (jv3:Int) (t16v3:Int):Bool :=
  (cond (decide (jv3 < (gates.len : Int)))
   (decide ((p84 gates (⟨2,decF_3 (getL [(enc_3 iv3),(enc_3 jv3)])⟩:(Sl Int))=true)) &&
   (p38_at5 P2 P3 gates iv3 jv3 t16v3 (!(s84 gates (⟨2,decF_3 (getL [(enc_3 iv3),(enc_3 jv3)])⟩:(Sl Int))))))
   (P2 (w64 (t16v3+(1:Int)))))
def s38_lp3 (S2 : Int → ((Sl Int) × Int)) (gates : (Sl Gate)) : Nat → Int → Int → Int → ((Sl Int) × Int)
  | 0=>fun _ _ _=>default
  | k+1=>s38_st3 S2 gates (s38_lp3 S2 gates k)
def p38_lp3 (P2 : Int → Bool) (gates : (Sl Gate)) : Nat → Int → Int → Int → Bool
  | 0=>fun _ _ _=>false
  | k+1=>p38_st3 P2 gates (p38_lp3 P2 gates k)
def s38_at3 (S2:Int→((Sl Int)×Int)) (gates:(Sl Gate)) (iv3:Int) (jv3:Int) (t16v3:Int):((Sl Int)×Int):=s38_lp3 S2 gates Fuel iv3 jv3 t16v3
def p38_at3 (P2:Int→Bool) (gates:(Sl Gate)) (iv3:Int) (jv3:Int) (t16v3:Int):Bool:=p38_lp3 P2 gates Fuel iv3 jv3 t16v3
theorem q38_at3 (K : List PA → Prop) (gates : (Sl Gate))
  (X2:St→Prop) (P2:Int→Bool) (S2:Int→((Sl Int)×Int))
  (hX2:∀ (t16v2:Int),P2 t16v2=true→K (e38 (S2 t16v2))→X2 (f38_g2 gates t16v2)) (iv3:Int) (jv3:Int) (t16v3:Int) (hs:p38_at3 P2 gates iv3 jv3 t16v3=true) (hk:K (e38 (s38_at3 S2 gates iv3 jv3 t16v3))):f38_at3 (Wk K) X2 gates iv3 jv3 t16v3:=by
  refine f38_loop3 (Wk K) X2 gates iv3 jv3 t16v3 ?_
  intro X3 hstep
  have key:∀ (k:Nat) (iv3:Int) (jv3:Int) (t16v3:Int),p38_lp3 P2 gates k iv3 jv3 t16v3=true→K (e38 (s38_lp3 S2 gates k iv3 jv3 t16v3))→X3 (f38_g3 gates iv3 jv3 t16v3):=by
    intro k
    induction k with
    | zero=>intro iv3 jv3 t16v3 hs;exact absurd hs Bool.false_ne_true
    | succ k ih =>
      intro iv3 jv3 t16v3 hs hk
      refine hstep iv3 jv3 t16v3 ?_
      have hs:p38_st3 P2 gates (p38_lp3 P2 gates k) iv3 jv3 t16v3=true:=hs
      have hk:K (e38 (s38_st3 S2 gates (s38_lp3 S2 gates k) iv3 jv3 t16v3)):=hk
      unfold p38_st3 at hs
      unfold s38_st3 at hk
      generalize s38_lp3 S2 gates k=S3 at hk ih
      generalize p38_lp3 P2 gates k=P3 at hs ih
      have hX3:=ih
      exact (condB_go (K := fun r => K (e38 r))
       (fun hs hk=>(andK hs fun hc hs=>⟨⟨isE,(isE_list []),hc⟩,(q38_at5 K gates X2 P2 S2 hX2 X3 P3 S3 hX3 iv3 jv3 t16v3 (!(s84 gates (⟨2,decF_3 (getL [(enc_3 iv3),(enc_3 jv3)])⟩:(Sl Int)))) hs hk)⟩))
       (fun hs hk=>(hX2 (w64 (t16v3+(1:Int))) hs hk)) hs hk)
  exact key _ iv3 jv3 t16v3 hs hk
def s38_st2 (gates:(Sl Gate)) (S2:Int→((Sl Int)×Int)) (t16v2:Int):((Sl Int)×Int) :=
  (cond (decide (t16v2 < (gates.len : Int)))
   (s38_at3 S2 gates t16v2 (w64 (t16v2+(1:Int))) t16v2)
   (s38_at4 gates))
def p38_st2 (gates:(Sl Gate)) (P2:Int→Bool) (t16v2:Int):Bool :=
  (cond (decide (t16v2 < (gates.len : Int)))
   (p38_at3 P2 gates t16v2 (w64 (t16v2+(1:Int))) t16v2)
   (p38_at4 gates))
def s38_lp2 (gates : (Sl Gate)) : Nat → Int → ((Sl Int) × Int)
  | 0=>fun _=>default
  | k+1=>s38_st2 gates (s38_lp2 gates k)
def p38_lp2 (gates : (Sl Gate)) : Nat → Int → Bool
  | 0=>fun _=>false
  | k+1=>p38_st2 gates (p38_lp2 gates k)
def s38_at2 (gates:(Sl Gate)) (t16v2:Int):((Sl Int)×Int):=s38_lp2 gates Fuel t16v2
def p38_at2 (gates:(Sl Gate)) (t16v2:Int):Bool:=p38_lp2 gates Fuel t16v2
theorem q38_at2 (K:List PA→Prop) (gates:(Sl Gate)) (t16v2:Int) (hs:p38_at2 gates t16v2=true) (hk:K (e38 (s38_at2 gates t16v2))):f38_at2 (Wk K) gates t16v2:=by
  refine f38_loop2 (Wk K) gates t16v2 ?_
  intro X2 hstep
  have key:∀ (k:Nat) (t16v2:Int),p38_lp2 gates k t16v2=true→K (e38 (s38_lp2 gates k t16v2))→X2 (f38_g2 gates t16v2):=by
    intro k
    induction k with
    | zero=>intro t16v2 hs;exact absurd hs Bool.false_ne_true
    | succ k ih =>
      intro t16v2 hs hk
      refine hstep t16v2 ?_
      have hs:p38_st2 gates (p38_lp2 gates k) t16v2=true:=hs
      have hk:K (e38 (s38_st2 gates (s38_lp2 gates k) t16v2)):=hk
      unfold p38_st2 at hs
      unfold s38_st2 at hk
      generalize s38_lp2 gates k=S2 at hk ih
      generalize p38_lp2 gates k=P2 at hs ih
      have hX2:=ih
      exact (condB_go (K := fun r => K (e38 r))
       (fun hs hk=>(q38_at3 K gates X2 P2 S2 hX2 t16v2 (w64 (t16v2+(1:Int))) t16v2 hs hk))
       (fun hs hk=>(q38_at4 K gates hs hk)) hs hk)
  exact key _ t16v2 hs hk
def s38_at1 (gates:(Sl Gate)):((Sl Int)×Int) :=
  (s38_at2 gates (0:Int))
def p38_at1 (gates:(Sl Gate)):Bool :=
  (p38_at2 gates (0:Int))
theorem q38_at1 (K:List PA→Prop) (gates:(Sl Gate)) (hs:p38_at1 gates=true) (hk:K (e38 (s38_at1 gates))):f38_at1 (Wk K) gates:=by
  refine ofEq (f38_eq1 (Wk K) gates) ?_
  unfold p38_at1 at hs
  unfold s38_at1 at hk
  exact (q38_at2 K gates (0:Int) hs hk)
def s38_at0 (gates:(Sl Gate)) (t12v0:Bool):((Sl Int)×Int) :=
  (cond t12v0
   ((⟨0,fun _=>default⟩:(Sl Int)),(2:Int))
   (s38_at1 gates))
def p38_at0 (gates:(Sl Gate)) (t12v0:Bool):Bool :=
  (cond t12v0
   true
   (p38_at1 gates))
theorem q38_at0 (K:List PA→Prop) (gates:(Sl Gate)) (t12v0:Bool) (hs:p38_at0 gates t12v0=true) (hk:K (e38 (s38_at0 gates t12v0))):f38_at0 (Wk K) gates t12v0:=by
  refine ofEq (f38_eq0 (Wk K) gates t12v0) ?_
  unfold p38_at0 at hs
  unfold s38_at0 at hk
  exact (condB_go (K := fun r => K (e38 r))
   (fun hs hk=>(wk hk (rl_c (.one (.nil _ _)) (rl_c (.one (.rfl _)) rl_n))))
   (fun hs hk=>(q38_at1 K gates hs hk)) hs hk)
def s38 (gates:(Sl Gate)):((Sl Int)×Int) :=
  (s38_at0 gates (!(s64 gates)))
def p38 (gates:(Sl Gate)):Bool :=
  (decide ((p64 gates=true)) &&
  (p38_at0 gates (!(s64 gates))))
theorem q38 (gates:(Sl Gate)) (K:List PA→Prop) (hs:p38 gates=true) (hk:K (e38 (s38 gates))):vcFun Try.prog G38 ann38 38 [.one (.sl gates.len 3 (fun i=>enc_55 (gates.get i)))] (Wk K):=by
  refine ofEq (f38_top gates (Wk K)) ?_
  unfold p38 at hs
  unfold s38 at hk
  exact (andK hs fun hc hs=>⟨⟨isE,hc⟩,(q38_at0 K gates (!(s64 gates)) hs hk)⟩)
def ctr38 : List PA → COut
  | [.one (.sl a0_n a0_s a0_g)]=>.det (IsE enc_55 3 a0_s a0_g∧p38 (⟨a0_n,decF_55 a0_g⟩:(Sl Gate))=true) [.one (.sl (((s38 (⟨a0_n,decF_55 a0_g⟩:(Sl Gate))).1).len) 1 (fun i=>enc_3 (((s38 (⟨a0_n,decF_55 a0_g⟩:(Sl Gate))).1).get i))),.one (.int .i64 ((s38 (⟨a0_n,decF_55 a0_g⟩:(Sl Gate))).2))]
  | _=>.no
theorem call38:Callable Try.prog 38:=⟨_,rfl,rfl,by kernel_rfl⟩
theorem ok38:Ok Try.prog 38 ctr38:=ok_tabW okT38 call38 fun args K h=>by
  unfold ctr38 at h
  split at h
  · rename_i a0_n a0_s a0_g
    obtain ⟨⟨⟨rfl,a0_f,rfl⟩,hs⟩,hk⟩:=h
    try rw [decF_enc_55 a0_f] at hs
    try rw [decF_enc_55 a0_f] at hk
    exact ⟨_,rl_rfl pa_rfl _,(fun _ _=>[]),(fun _=>false),ann38,q38 (⟨a0_n,a0_f⟩:(Sl Gate)) K hs hk⟩
  · exact h.elim
abbrev T39:Tabs:=Tabs.nil
theorem okT39:TabsOk Try.prog T39:=TabsOk.nil
abbrev G39:Ctrs:=csm T39 (fun _ _=>[]) (fun _=>false)
def ann39:Ann:=⟨46,[(0,⟨[0,1],[],[],[],[],[],[]⟩),(1,⟨[0,1,5],[],[],[],[],[],[]⟩),(2,⟨[0,1,5,15],[],[],[],[],[],[]⟩),(3,⟨[0,1,5],[],[],[],[],[],[]⟩),(4,⟨[0,1,5,26],[],[],[],[],[],[]⟩),(5,⟨[4],[],[],[],[],[],[]⟩),(6,⟨[0,1,5,35],[],[],[],[],[],[]⟩),(7,⟨[4],[],[],[],[],[],[]⟩),(8,⟨[0,1,40],[],[],[],[],[],[]⟩),(9,⟨[4],[],[],[],[],[],[]⟩),(10,⟨[45],[],[],[],[],[],[]⟩),(11,⟨[4],[],[],[],[],[],[]⟩),(12,⟨[4],[],[],[],[],[],[]⟩)],
  [(2,⟨[0,1,5],[],[],[],[],[],[]⟩)],
  [(8,⟨[0,1],[],[],[],[],[],[]⟩)],
  [],[]⟩
def f39_g0 (a:(Sl Int)) (b:(Sl Int)) (iv0:Int):St:=⟨[(0,.one (.c (.p (.sl a.len 1 (fun i=>enc_3 (a.get i)))))),(1,.one (.c (.p (.sl b.len 1 (fun i=>enc_3 (b.get i)))))),(5,.one (.c (.p (.int .i64 iv0))))],[],[]⟩
def f39_at0 (K:List PA→Prop) (a:(Sl Int)) (b:(Sl Int)) (iv0:Int):Prop:=vc Try.prog G39 ann39 (cdF Try.f39 [1,0,1,0]) (blockK 0 (sqK Try.prog G39 ann39 (cdF Try.f39 [1,1]) (bodyK Try.prog Try.f39 K))) (f39_g0 a b iv0)
def f39_g1 (a:(Sl Int)) (b:(Sl Int)):St:=⟨[(0,.one (.c (.p (.sl a.len 1 (fun i=>enc_3 (a.get i)))))),(1,.one (.c (.p (.sl b.len 1 (fun i=>enc_3 (b.get i))))))],[],[]⟩
def f39_at1 (K:List PA→Prop) (a:(Sl Int)) (b:(Sl Int)):Prop:=vc Try.prog G39 ann39 (cdF Try.f39 [1,1]) (bodyK Try.prog Try.f39 K) (f39_g1 a b)
theorem f39_top (a : (Sl Int)) (b : (Sl Int)) (K : List PA → Prop) :
  vcFun Try.prog G39 ann39 39 [.one (.sl a.len 1 (fun i=>enc_3 (a.get i))),.one (.sl b.len 1 (fun i=>enc_3 (b.get i)))] K =
  (f39_at0 K a b (0:Int)):=by kernel_rfl
def f39_step0 (K:List PA→Prop) (X0:St→Prop) (a:(Sl Int)) (b:(Sl Int)) (iv0:Int):Prop :=
  (condP (decide (iv0 < (a.len : Int)))
   (condP (decide (iv0 < (b.len : Int)))
    (((0≤iv0∧iv0 < (a.len:Int))) ∧
    (((0≤iv0∧iv0 < (b.len:Int))) ∧
    (condP (decide ((a.get iv0.toNat) < (b.get iv0.toNat)))
     (K [.one (.int .i64 (-1:Int))])
     (((0≤iv0∧iv0 < (a.len:Int))) ∧
     (((0≤iv0∧iv0 < (b.len:Int))) ∧
     (condP (decide ((a.get iv0.toNat) > (b.get iv0.toNat)))
      (K [.one (.int .i64 (1:Int))])
      (X0 (f39_g0 a b (w64 (iv0+(1:Int)))))))))))
    (f39_at1 K a b))
   (f39_at1 K a b))
theorem f39_stepeq0 (K : List PA → Prop) (X0 : St → Prop) (a : (Sl Int)) (b : (Sl Int)) (iv0 : Int) :
  vc Try.prog G39 ann39 (cd (cdF Try.f39 [1,0,1,0]) [0]) (loopK Try.prog ann39 2 X0 (blockK 0 (sqK Try.prog G39 ann39 (cdF Try.f39 [1,1]) (bodyK Try.prog Try.f39 K)))) (f39_g0 a b iv0) =
  f39_step0 K X0 a b iv0:=by kernel_rfl
theorem f39_loop0 (K : List PA → Prop) (a : (Sl Int)) (b : (Sl Int)) (iv0 : Int)
  (h:∀ X0:St→Prop,(∀ (iv0:Int),f39_step0 K X0 a b iv0→X0 (f39_g0 a b iv0))→X0 (f39_g0 a b iv0)) :
  f39_at0 K a b iv0:=by
  have e:f39_at0 K a b iv0=(∀ X:St→Prop,(∀ s,vc Try.prog G39 ann39 (cd (cdF Try.f39 [1,0,1,0]) [0]) (loopK Try.prog ann39 2 X (blockK 0 (sqK Try.prog G39 ann39 (cdF Try.f39 [1,1]) (bodyK Try.prog Try.f39 K)))) s→X s)→X (f39_g0 a b iv0)):=by kernel_rfl
  refine ofEq e ?_
  intro X hX
  refine h X ?_
  intro iv0 hs
  refine hX _ ?_
  have e2:=f39_stepeq0 K X a b iv0
  rw [e2]
  exact hs
theorem f39_eq1 (K : List PA → Prop) (a : (Sl Int)) (b : (Sl Int)) :
  f39_at1 K a b =
  (condP (decide ((a.len : Int) < (b.len : Int)))
   (K [.one (.int .i64 (-1:Int))])
   (condP (decide ((a.len : Int) > (b.len : Int)))
    (K [.one (.int .i64 (1:Int))])
    (K [.one (.int .i64 (0:Int))]))):=by kernel_rfl
abbrev e39 (r:Int):List PA:=[.one (.int .i64 r)]
attribute [irreducible] f39_at0 f39_at1
def s39_at1 (a:(Sl Int)) (b:(Sl Int)):Int :=
  (cond (decide ((a.len : Int) < (b.len : Int)))
   (-1:Int)
   (cond (decide ((a.len : Int) > (b.len : Int)))
    (1:Int)
    (0:Int)))
theorem q39_at1 (K:List PA→Prop) (a:(Sl Int)) (b:(Sl Int)) (hk:K (e39 (s39_at1 a b))):f39_at1 K a b:=by
  refine ofEq (f39_eq1 K a b) ?_
  unfold s39_at1 at hk
  exact (condP_gt (K := fun r => K (e39 r))
   (fun hk=>hk)
   (fun hk => (condP_gt (K := fun r => K (e39 r))
    (fun hk=>hk)
    (fun hk=>hk) hk)) hk)
def s39_st0 (a:(Sl Int)) (b:(Sl Int)) (S0:Int→Int) (iv0:Int):Int :=
  (cond (decide (iv0 < (a.len : Int)))
   (cond (decide (iv0 < (b.len : Int)))
    (cond (decide ((a.get iv0.toNat) < (b.get iv0.toNat)))
     (-1:Int)
     (cond (decide ((a.get iv0.toNat) > (b.get iv0.toNat)))
      (1:Int)
      (S0 (w64 (iv0+(1:Int))))))
    (s39_at1 a b))
   (s39_at1 a b))
def p39_st0 (a:(Sl Int)) (b:(Sl Int)) (P0:Int→Bool) (iv0:Int):Bool :=
  (cond (decide (iv0 < (a.len : Int)))
   (cond (decide (iv0 < (b.len : Int)))
    (decide ((0≤iv0∧iv0 < (a.len:Int))) &&
    (decide ((0≤iv0∧iv0 < (b.len:Int))) &&
    (cond (decide ((a.get iv0.toNat) < (b.get iv0.toNat)))
     true
     (decide ((0≤iv0∧iv0 < (a.len:Int))) &&
     (decide ((0≤iv0∧iv0 < (b.len:Int))) &&
     (cond (decide ((a.get iv0.toNat) > (b.get iv0.toNat)))
      true
      (P0 (w64 (iv0+(1:Int))))))))))
    true)
   true)
def s39_lp0 (a : (Sl Int)) (b : (Sl Int)) : Nat → Int → Int
  | 0=>fun _=>default
  | k+1=>s39_st0 a b (s39_lp0 a b k)
def p39_lp0 (a : (Sl Int)) (b : (Sl Int)) : Nat → Int → Bool
  | 0=>fun _=>false
  | k+1=>p39_st0 a b (p39_lp0 a b k)
def s39_at0 (a:(Sl Int)) (b:(Sl Int)) (iv0:Int):Int:=s39_lp0 a b Fuel iv0
def p39_at0 (a:(Sl Int)) (b:(Sl Int)) (iv0:Int):Bool:=p39_lp0 a b Fuel iv0
theorem q39_at0 (K:List PA→Prop) (a:(Sl Int)) (b:(Sl Int)) (iv0:Int) (hs:p39_at0 a b iv0=true) (hk:K (e39 (s39_at0 a b iv0))):f39_at0 K a b iv0:=by
  refine f39_loop0 K a b iv0 ?_
  intro X0 hstep
  have key:∀ (k:Nat) (iv0:Int),p39_lp0 a b k iv0=true→K (e39 (s39_lp0 a b k iv0))→X0 (f39_g0 a b iv0):=by
    intro k
    induction k with
    | zero=>intro iv0 hs;exact absurd hs Bool.false_ne_true
    | succ k ih =>
      intro iv0 hs hk
      refine hstep iv0 ?_
      have hs:p39_st0 a b (p39_lp0 a b k) iv0=true:=hs
      have hk:K (e39 (s39_st0 a b (s39_lp0 a b k) iv0)):=hk
      unfold p39_st0 at hs
      unfold s39_st0 at hk
      generalize s39_lp0 a b k=S0 at hk ih
      generalize p39_lp0 a b k=P0 at hs ih
      have hX0:=ih
      exact (condB_go (K := fun r => K (e39 r))
       (fun hs hk => (condB_go (K := fun r => K (e39 r))
        (fun hs hk => (andK hs fun hc hs => ⟨hc, (andK hs fun hc hs => ⟨hc, (condB_go (K := fun r => K (e39 r))
         (fun hs hk=>hk)
         (fun hs hk => (andK hs fun hc hs => ⟨hc, (andK hs fun hc hs => ⟨hc, (condB_go (K := fun r => K (e39 r))
          (fun hs hk=>hk)
          (fun hs hk=>(hX0 (w64 (iv0+(1:Int))) hs hk)) hs hk)⟩)⟩)) hs hk)⟩)⟩))
        (fun hs hk=>(q39_at1 K a b hk)) hs hk))
       (fun hs hk=>(q39_at1 K a b hk)) hs hk)
  exact key _ iv0 hs hk
def s39 (a:(Sl Int)) (b:(Sl Int)):Int :=
  (s39_at0 a b (0:Int))
def p39 (a:(Sl Int)) (b:(Sl Int)):Bool :=
  (p39_at0 a b (0:Int))
theorem q39 (a:(Sl Int)) (b:(Sl Int)) (K:List PA→Prop) (hs:p39 a b=true) (hk:K (e39 (s39 a b))):vcFun Try.prog G39 ann39 39 [.one (.sl a.len 1 (fun i=>enc_3 (a.get i))),.one (.sl b.len 1 (fun i=>enc_3 (b.get i)))] K:=by
  refine ofEq (f39_top a b K) ?_
  unfold p39 at hs
  unfold s39 at hk
  exact (q39_at0 K a b (0:Int) hs hk)
def ctr39 : List PA → COut
  | [.one (.sl a0_n a0_s a0_g),.one (.sl a1_n a1_s a1_g)]=>.det (IsE enc_3 1 a0_s a0_g∧IsE enc_3 1 a1_s a1_g∧p39 (⟨a0_n,decF_3 a0_g⟩:(Sl Int)) (⟨a1_n,decF_3 a1_g⟩:(Sl Int))=true) [.one (.int .i64 (s39 (⟨a0_n,decF_3 a0_g⟩:(Sl Int)) (⟨a1_n,decF_3 a1_g⟩:(Sl Int))))]
  | _=>.no
theorem call39:Callable Try.prog 39:=⟨_,rfl,rfl,by kernel_rfl⟩
theorem ok39:Ok Try.prog 39 ctr39:=ok_tab okT39 call39 fun args K h=>by
  unfold ctr39 at h
  split at h
  · rename_i a0_n a0_s a0_g a1_n a1_s a1_g
    obtain ⟨⟨⟨rfl,a0_f,rfl⟩,⟨rfl,a1_f,rfl⟩,hs⟩,hk⟩:=h
    try rw [decF_enc_3 a0_f] at hs
    try rw [decF_enc_3 a0_f] at hk
    try rw [decF_enc_3 a1_f] at hs
    try rw [decF_enc_3 a1_f] at hk
    exact ⟨(fun _ _=>[]),(fun _=>false),ann39,q39 (⟨a0_n,a0_f⟩:(Sl Int)) (⟨a1_n,a1_f⟩:(Sl Int)) K hs hk⟩
  · exact h.elim
abbrev T73:Tabs:=Tabs.nil
theorem okT73:TabsOk Try.prog T73:=TabsOk.nil
abbrev G73:Ctrs:=csm T73 (fun _ _=>[]) (fun _=>false)
def ann73:Ann:=⟨12,[(0,⟨[0,1],[],[],[],[],[],[]⟩),(1,⟨[0,1,6],[],[],[],[],[],[]⟩),(2,⟨[0,1],[],[],[],[],[],[]⟩),(3,⟨[4],[],[],[],[],[],[]⟩)],
  [(1,⟨[0,1],[],[],[],[],[],[]⟩)],
  [],
  [],[]⟩
def f73_g0 (av0:Int) (bv0:Int):St:=⟨[(0,.one (.c (.p (.int .i64 av0)))),(1,.one (.c (.p (.int .i64 bv0))))],[],[]⟩
def f73_at0 (K:List PA→Prop) (av0:Int) (bv0:Int):Prop:=vc Try.prog G73 ann73 (cdF Try.f73 [1,0,0]) (blockK 0 (sqK Try.prog G73 ann73 (cdF Try.f73 [1,1]) (bodyK Try.prog Try.f73 K))) (f73_g0 av0 bv0)
theorem f73_top (a : Int) (b : Int) (K : List PA → Prop) :
  vcFun Try.prog G73 ann73 73 [.one (.int .i64 a),.one (.int .i64 b)] K =
  (f73_at0 K a b):=by kernel_rfl
def f73_step0 (K:List PA→Prop) (X0:St→Prop) (av0:Int) (bv0:Int):Prop :=
  (condP (bv0 != (0:Int))
   (((bv0 ≠ 0)) ∧
   (X0 (f73_g0 bv0 (av0.tmod bv0))))
   (K [.one (.int .i64 av0)]))
theorem f73_stepeq0 (K : List PA → Prop) (X0 : St → Prop) (av0 : Int) (bv0 : Int) :
  vc Try.prog G73 ann73 (cd (cdF Try.f73 [1,0,0]) [0]) (loopK Try.prog ann73 1 X0 (blockK 0 (sqK Try.prog G73 ann73 (cdF Try.f73 [1,1]) (bodyK Try.prog Try.f73 K)))) (f73_g0 av0 bv0) =
  f73_step0 K X0 av0 bv0:=by kernel_rfl
theorem f73_loop0 (K : List PA → Prop) (av0 : Int) (bv0 : Int)
  (h:∀ X0:St→Prop,(∀ (av0:Int) (bv0:Int),f73_step0 K X0 av0 bv0→X0 (f73_g0 av0 bv0))→X0 (f73_g0 av0 bv0)) :
  f73_at0 K av0 bv0:=by
  have e:f73_at0 K av0 bv0=(∀ X:St→Prop,(∀ s,vc Try.prog G73 ann73 (cd (cdF Try.f73 [1,0,0]) [0]) (loopK Try.prog ann73 1 X (blockK 0 (sqK Try.prog G73 ann73 (cdF Try.f73 [1,1]) (bodyK Try.prog Try.f73 K)))) s→X s)→X (f73_g0 av0 bv0)):=by kernel_rfl
  refine ofEq e ?_
  intro X hX
  refine h X ?_
  intro av0 bv0 hs
  refine hX _ ?_
  have e2:=f73_stepeq0 K X av0 bv0
  rw [e2]
  exact hs
abbrev e73 (r:Int):List PA:=[.one (.int .i64 r)]
attribute [irreducible] f73_at0
def s73_st0 (S0:Int→Int→Int) (av0:Int) (bv0:Int):Int :=
  (cond (bv0 != (0:Int))
   (S0 bv0 (av0.tmod bv0))
   av0)
def p73_st0 (P0:Int→Int→Bool) (av0:Int) (bv0:Int):Bool :=
  (cond (bv0 != (0:Int))
   (decide ((bv0 ≠ 0)) &&
   (P0 bv0 (av0.tmod bv0)))
   true)
def s73_lp0 : Nat → Int → Int → Int
  | 0=>fun _ _=>default
  | k+1=>s73_st0 (s73_lp0 k)
def p73_lp0 : Nat → Int → Int → Bool
  | 0=>fun _ _=>false
  | k+1=>p73_st0 (p73_lp0 k)
def s73_at0 (av0:Int) (bv0:Int):Int:=s73_lp0 Fuel av0 bv0
def p73_at0 (av0:Int) (bv0:Int):Bool:=p73_lp0 Fuel av0 bv0
theorem q73_at0 (K:List PA→Prop) (av0:Int) (bv0:Int) (hs:p73_at0 av0 bv0=true) (hk:K (e73 (s73_at0 av0 bv0))):f73_at0 K av0 bv0:=by
  refine f73_loop0 K av0 bv0 ?_
  intro X0 hstep
  have key:∀ (k:Nat) (av0:Int) (bv0:Int),p73_lp0 k av0 bv0=true→K (e73 (s73_lp0 k av0 bv0))→X0 (f73_g0 av0 bv0):=by
    intro k
    induction k with
    | zero=>intro av0 bv0 hs;exact absurd hs Bool.false_ne_true
    | succ k ih =>
      intro av0 bv0 hs hk
      refine hstep av0 bv0 ?_
      have hs:p73_st0 (p73_lp0 k) av0 bv0=true:=hs
      have hk:K (e73 (s73_st0 (s73_lp0 k) av0 bv0)):=hk
      unfold p73_st0 at hs
      unfold s73_st0 at hk
      generalize s73_lp0 k=S0 at hk ih
      generalize p73_lp0 k=P0 at hs ih
      have hX0:=ih
      exact (condB_go (K := fun r => K (e73 r))
       (fun hs hk=>(andK hs fun hc hs=>⟨hc,(hX0 bv0 (av0.tmod bv0) hs hk)⟩))
       (fun hs hk=>hk) hs hk)
  exact key _ av0 bv0 hs hk
def s73 (a:Int) (b:Int):Int :=
  (s73_at0 a b)
def p73 (a:Int) (b:Int):Bool :=
  (p73_at0 a b)
theorem q73 (a:Int) (b:Int) (K:List PA→Prop) (hs:p73 a b=true) (hk:K (e73 (s73 a b))):vcFun Try.prog G73 ann73 73 [.one (.int .i64 a),.one (.int .i64 b)] K:=by
  refine ofEq (f73_top a b K) ?_
  unfold p73 at hs
  unfold s73 at hk
  exact (q73_at0 K a b hs hk)
def ctr73 : List PA → COut
  | [.one (.int .i64 a0),.one (.int .i64 a1)]=>.det (p73 a0 a1=true) [.one (.int .i64 (s73 a0 a1))]
  | _=>.no
theorem call73:Callable Try.prog 73:=⟨_,rfl,rfl,by kernel_rfl⟩
theorem ok73:Ok Try.prog 73 ctr73:=ok_tab okT73 call73 fun args K h=>by
  unfold ctr73 at h
  split at h
  · rename_i a0 a1
    obtain ⟨hs,hk⟩:=h
    exact ⟨(fun _ _=>[]),(fun _=>false),ann73,q73 a0 a1 K hs hk⟩
  · exact h.elim
abbrev T40:Tabs:=(Tabs.nil.addF 73 ctr73)
theorem okT40:TabsOk Try.prog T40:=(TabsOk.nil.addF ok73)
abbrev G40:Ctrs:=csm T40 (fun _ _=>[]) (fun _=>false)
def ann40:Ann:=⟨19,[(0,⟨[0,1,4],[4],[],[],[],[],[]⟩),(1,⟨[0,1,4,5],[4],[],[],[],[],[]⟩),(2,⟨[4],[4],[],[],[],[],[]⟩)],
  [],
  [],
  [],[]⟩
theorem f40_top (num : Int) (den : Int) (K : List PA → Prop) :
  vcFun Try.prog G40 ann40 40 [.one (.int .i64 num),.one (.int .i64 den)] K =
  (((p73 (if (w64 (0 - num)) > num then (w64 (0 - num)) else num) den=true)) ∧
  ((((s73 (if (w64 (0 - num)) > num then (w64 (0 - num)) else num) den) ≠ 0)) ∧
  ((((s73 (if (w64 (0 - num)) > num then (w64 (0 - num)) else num) den) ≠ 0)) ∧
  (K [.agg [.int .i64 (w64 (num.tdiv (s73 (if (w64 (0 - num)) > num then (w64 (0 - num)) else num) den))),.int .i64 (w64 (den.tdiv (s73 (if (w64 (0 - num)) > num then (w64 (0 - num)) else num) den)))]])))):=by kernel_rfl
abbrev e40 (r:Frac):List PA:=[.agg [.int .i64 r.Num,.int .i64 r.Den]]
def s40 (num:Int) (den:Int):Frac :=
  (⟨(w64 (num.tdiv (s73 (if (w64 (0 - num)) > num then (w64 (0 - num)) else num) den))),(w64 (den.tdiv (s73 (if (w64 (0 - num)) > num then (w64 (0 - num)) else num) den)))⟩:Frac)
def p40 (num:Int) (den:Int):Bool :=
  (decide ((p73 (if (w64 (0 - num)) > num then (w64 (0 - num)) else num) den=true)) &&
  (decide (((s73 (if (w64 (0 - num)) > num then (w64 (0 - num)) else num) den) ≠ 0)) &&
  (decide (((s73 (if (w64 (0 - num)) > num then (w64 (0 - num)) else num) den) ≠ 0)) &&
  true)))
theorem q40 (num:Int) (den:Int) (K:List PA→Prop) (hs:p40 num den=true) (hk:K (e40 (s40 num den))):vcFun Try.prog G40 ann40 40 [.one (.int .i64 num),.one (.int .i64 den)] K:=by
  refine ofEq (f40_top num den K) ?_
  unfold p40 at hs
  unfold s40 at hk
  exact (andK hs fun hc hs=>⟨hc,(andK hs fun hc hs=>⟨hc,(andK hs fun hc hs=>⟨hc,hk⟩)⟩)⟩)
def ctr40 : List PA → COut
  | [.one (.int .i64 a0),.one (.int .i64 a1)]=>.det (p40 a0 a1=true) [.agg [.int .i64 ((s40 a0 a1).Num),.int .i64 ((s40 a0 a1).Den)]]
  | _=>.no
theorem call40:Callable Try.prog 40:=⟨_,rfl,rfl,by kernel_rfl⟩
theorem ok40:Ok Try.prog 40 ctr40:=ok_tab okT40 call40 fun args K h=>by
  unfold ctr40 at h
  split at h
  · rename_i a0 a1
    obtain ⟨hs,hk⟩:=h
    exact ⟨(fun _ _=>[]),(fun _=>false),ann40,q40 a0 a1 K hs hk⟩
  · exact h.elim
abbrev T85:Tabs:=Tabs.nil
theorem okT85:TabsOk Try.prog T85:=TabsOk.nil
abbrev G85:Ctrs:=csm T85 (fun _ _=>[]) (fun _=>false)
def ann85:Ann:=⟨47,[(0,⟨[0,1,2,3,4,5],[],[],[],[],[],[]⟩),(1,⟨[0,1,2,13],[],[],[],[],[],[]⟩),(2,⟨[13,14],[],[],[],[],[],[]⟩),(3,⟨[12],[],[],[],[],[],[]⟩)],
  [],
  [],
  [],[]⟩
theorem f85_top (u : Int) (v : Int) (w : Int) (p : Int) (q : Int) (r_a5 : Int) (K : List PA → Prop) :
  vcFun Try.prog G85 ann85 85 [.one (.int .i64 u),.one (.int .i64 v),.one (.int .i64 w),.one (.int .i64 p),.one (.int .i64 q),.one (.int .i64 r_a5)] K =
  ((((w64 ((w64 (v - u)) * (w64 (w - v)))) ≠ 0)) ∧
  (K [.one (.int .i64 (w64 ((w64 ((w64 ((w64 ((1000:Int) * (if (w64 (0 - (w64 ((w64 ((w64 (r_a5 - q)) * (w64 (v - u)))) - (w64 ((w64 (q - p)) * (w64 (w - v)))))))) > (w64 ((w64 ((w64 (r_a5 - q)) * (w64 (v - u)))) - (w64 ((w64 (q - p)) * (w64 (w - v)))))) then (w64 (0 - (w64 ((w64 ((w64 (r_a5 - q)) * (w64 (v - u)))) - (w64 ((w64 (q - p)) * (w64 (w - v)))))))) else (w64 ((w64 ((w64 (r_a5 - q)) * (w64 (v - u)))) - (w64 ((w64 (q - p)) * (w64 (w - v)))))))))+(w64 ((w64 (v - u)) * (w64 (w - v)))))) - (1:Int))).tdiv (w64 ((w64 (v - u)) * (w64 (w - v)))))))])):=by kernel_rfl
abbrev e85 (r:Int):List PA:=[.one (.int .i64 r)]
def s85 (u:Int) (v:Int) (w:Int) (p:Int) (q:Int) (r_a5:Int):Int :=
  (w64 ((w64 ((w64 ((w64 ((1000:Int) * (if (w64 (0 - (w64 ((w64 ((w64 (r_a5 - q)) * (w64 (v - u)))) - (w64 ((w64 (q - p)) * (w64 (w - v)))))))) > (w64 ((w64 ((w64 (r_a5 - q)) * (w64 (v - u)))) - (w64 ((w64 (q - p)) * (w64 (w - v)))))) then (w64 (0 - (w64 ((w64 ((w64 (r_a5 - q)) * (w64 (v - u)))) - (w64 ((w64 (q - p)) * (w64 (w - v)))))))) else (w64 ((w64 ((w64 (r_a5 - q)) * (w64 (v - u)))) - (w64 ((w64 (q - p)) * (w64 (w - v)))))))))+(w64 ((w64 (v - u)) * (w64 (w - v)))))) - (1:Int))).tdiv (w64 ((w64 (v - u)) * (w64 (w - v))))))
def p85 (u:Int) (v:Int) (w:Int) (p:Int) (q:Int) (r_a5:Int):Bool :=
  (decide (((w64 ((w64 (v - u)) * (w64 (w - v)))) ≠ 0)) &&
  true)
theorem q85 (u:Int) (v:Int) (w:Int) (p:Int) (q:Int) (r_a5:Int) (K:List PA→Prop) (hs:p85 u v w p q r_a5=true) (hk:K (e85 (s85 u v w p q r_a5))):vcFun Try.prog G85 ann85 85 [.one (.int .i64 u),.one (.int .i64 v),.one (.int .i64 w),.one (.int .i64 p),.one (.int .i64 q),.one (.int .i64 r_a5)] K:=by
  refine ofEq (f85_top u v w p q r_a5 K) ?_
  unfold p85 at hs
  unfold s85 at hk
  exact (andK hs fun hc hs=>⟨hc,hk⟩)
def ctr85 : List PA → COut
  | [.one (.int .i64 a0),.one (.int .i64 a1),.one (.int .i64 a2),.one (.int .i64 a3),.one (.int .i64 a4),.one (.int .i64 a5)]=>.det (p85 a0 a1 a2 a3 a4 a5=true) [.one (.int .i64 (s85 a0 a1 a2 a3 a4 a5))]
  | _=>.no
theorem call85:Callable Try.prog 85:=⟨_,rfl,rfl,by kernel_rfl⟩
theorem ok85:Ok Try.prog 85 ctr85:=ok_tab okT85 call85 fun args K h=>by
  unfold ctr85 at h
  split at h
  · rename_i a0 a1 a2 a3 a4 a5
    obtain ⟨hs,hk⟩:=h
    exact ⟨(fun _ _=>[]),(fun _=>false),ann85,q85 a0 a1 a2 a3 a4 a5 K hs hk⟩
  · exact h.elim
end Go.Proofs
namespace Go.Proofs
open Go Go.Pm
set_option maxRecDepth 100000
set_option linter.unusedVariables false
attribute [local irreducible] Go.Pm.vcFun Go.Pm.vc Go.Pm.vcIter
abbrev T19:Tabs:=((((((Tabs.nil.addF 64 ctr64).addF 65 ctr65).addF 66 ctr66).addF 67 ctr67).addF 68 ctr68).addF 69 ctr69)
theorem okT19:TabsOk Try.prog T19:=((((((TabsOk.nil.addF ok64).addF ok65).addF ok66).addF ok67).addF ok68).addF ok69)
abbrev G19:Ctrs:=csm T19 (fun _ _=>[]) (fun _=>false)
def ann19:Ann:=⟨124,[(0,⟨[0,1,2,3,9,10],[9,10],[],[],[],[],[]⟩),(1,⟨[0,1,2,3,9,10,12],[9,10,12],[],[],[],[],[]⟩),(2,⟨[0,1,2,3,9,10,12,44],[9,10,12],[],[],[],[],[]⟩),(3,⟨[8,9,10,11],[9,10],[],[],[],[],[]⟩),(4,⟨[2,3,9,10,12,13,14],[9,10,12,13,14],[],[],[],[],[]⟩),(5,⟨[2,3,9,10,12,13,14,58],[9,10,12,13,14],[],[],[],[],[]⟩),(6,⟨[8,9,10,11],[9,10],[],[],[],[],[]⟩),(7,⟨[2,3,9,10,12,13,14,68],[9,10,12,13,14],[],[],[],[],[]⟩),(8,⟨[8,9,10,11],[9,10],[],[],[],[],[]⟩),(9,⟨[2,3,9,10,12,13,14,15,16],[9,10,12,13,14,15,16],[],[],[],[],[]⟩),(10,⟨[2,3,9,10,12,13,14,15,16,17],[9,10,12,13,14,15,16],[],[],[],[],[]⟩),(11,⟨[2,3,9,10,12,13,14,15,16,17,76,77],[9,10,12,13,14,15,16],[],[],[],[],[]⟩),(12,⟨[2,3,9,10,12,13,14,15,16,17,76,77,78],[9,10,12,13,14,15,16],[],[],[],[],[]⟩),(13,⟨[2,3,9,10,12,13,14,15,16,17,18,76,77],[9,10,12,13,14,15,16],[],[],[],[],[]⟩),(14,⟨[2,3,9,10,12,13,14,15,16,17,18,19,20,76,77],[9,10,12,13,14,15,16,19,20],[],[],[],[],[]⟩),(15,⟨[2,3,9,10,12,13,14,15,16,17,18,19,20,21,22,76,77],[9,10,12,13,14,15,16,19,20,21,22],[],[],[],[],[]⟩),(16,⟨[2,3,9,10,12,13,14,15,16,17,18,19,20,21,22,76,77],[9,10,12,13,14,15,16,19,20,21,22],[],[],[],[],[]⟩),(17,⟨[2,3,9,10,12,13,14,15,16,17,18,20,21,22,76,77,101],[9,10,12,13,14,15,16,20,21,22],[],[],[],[],[]⟩),(18,⟨[2,3,9,10,12,13,14,15,16,17,18,20,22,76,77],[9,10,12,13,14,15,16,20,22],[],[],[],[],[]⟩),(19,⟨[2,3,9,10,12,13,14,15,16,17,18,22,76,77,106],[9,10,12,13,14,15,16,22],[],[],[],[],[]⟩),(20,⟨[2,3,9,10,12,13,14,15,16,17,18,76,77],[9,10,12,13,14,15,16],[],[],[],[],[]⟩),(21,⟨[2,3,9,10,12,13,14,15,16,17,18,76,77,111],[9,10,12,13,14,15,16],[],[],[],[],[]⟩),(22,⟨[3,9,10,12,15,16,17],[9,10,12,15,16],[],[],[],[],[]⟩),(23,⟨[2,3,9,10,12,13,14,15,16,17,76,77],[9,10,12,13,14,15,16],[],[],[],[],[]⟩),(24,⟨[9,10,12,15,16,17,118],[9,10,12,15,16],[],[],[],[],[]⟩),(25,⟨[8,9,10,11],[9,10],[],[],[],[],[]⟩),(26,⟨[8,9,10,11],[9,10],[],[],[],[],[]⟩)],
  [(12,⟨[2,3,9,10,12,13,14,15,16,17,76,77],[9,10,12,13,14,15,16],[],[],[],[],[]⟩)],
  [(3,⟨[0,1,2,3,9,10,12,44],[9,10,12],[],[],[],[],[]⟩),(4,⟨[0,1,2,3,9,10,12],[9,10,12],[],[],[],[],[]⟩),(5,⟨[2,3,9,10,12,13,14],[9,10,12,13,14],[],[],[],[],[]⟩),(6,⟨[2,3,9,10,12,13,14,58],[9,10,12,13,14],[],[],[],[],[]⟩),(7,⟨[2,3,9,10,12,13,14],[9,10,12,13,14],[],[],[],[],[]⟩),(8,⟨[2,3,9,10,12,13,14,68],[9,10,12,13,14],[],[],[],[],[]⟩),(9,⟨[2,3,9,10,12,13,14],[9,10,12,13,14],[],[],[],[],[]⟩),(15,⟨[2,3,9,10,12,13,14,15,16,17,18,19,20,76,77],[9,10,12,13,14,15,16,19,20],[],[],[],[],[]⟩),(24,⟨[3,9,10,12,15,16,17],[9,10,12,15,16],[],[],[],[],[]⟩),(16,⟨[2,3,9,10,12,13,14,15,16,17,18,19,20,21,22,76,77],[9,10,12,13,14,15,16,19,20,21,22],[],[],[],[],[]⟩),(18,⟨[2,3,9,10,12,13,14,15,16,17,18,20,21,22,76,77,101],[9,10,12,13,14,15,16,20,21,22],[],[],[],[],[]⟩),(19,⟨[2,3,9,10,12,13,14,15,16,17,18,20,22,76,77],[9,10,12,13,14,15,16,20,22],[],[],[],[],[]⟩),(20,⟨[2,3,9,10,12,13,14,15,16,17,18,22,76,77,106],[9,10,12,13,14,15,16,22],[],[],[],[],[]⟩),(22,⟨[2,3,9,10,12,13,14,15,16,17,18,76,77,111],[9,10,12,13,14,15,16],[],[],[],[],[]⟩)],
  [],[]⟩
def f19_g0 (a:(Sl Gate)) (b:(Sl Gate)) (low:Int) (high:Int) (t44v0:Bool):St:=⟨[(0,.one (.c (.p (.sl a.len 3 (fun i=>enc_55 (a.get i)))))),(1,.one (.c (.p (.sl b.len 3 (fun i=>enc_55 (b.get i)))))),(2,.one (.c (.p (.int .i64 low)))),(3,.one (.c (.p (.int .i64 high)))),(9,.one (.c (.ptr 9 0))),(10,.one (.c (.ptr 10 0))),(12,.one (.c (.ptr 12 0))),(44,.one (.c (.p (.bool t44v0))))],[(9,.box 25 [.p (.int .i64 (0:Int)),.p (.int .i64 (0:Int))]),(10,.box 25 [.p (.int .i64 (0:Int)),.p (.int .i64 (0:Int))]),(12,.box 25 [.p (.int .i64 (0:Int)),.p (.int .i64 (0:Int))])],[]⟩
def f19_at0 (K:List PA→Prop) (a:(Sl Gate)) (b:(Sl Gate)) (low:Int) (high:Int) (t44v0:Bool):Prop:=vc Try.prog G19 ann19 (cdF Try.f19 [1,0,1,0,1]) (sqK Try.prog G19 ann19 (cdF Try.f19 [1,0,1,1]) (scopeK (bodyK Try.prog Try.f19 K))) (f19_g0 a b low high t44v0)
def f19_g1 (a:(Sl Gate)) (b:(Sl Gate)) (low:Int) (high:Int):St:=⟨[(0,.one (.c (.p (.sl a.len 3 (fun i=>enc_55 (a.get i)))))),(1,.one (.c (.p (.sl b.len 3 (fun i=>enc_55 (b.get i)))))),(2,.one (.c (.p (.int .i64 low)))),(3,.one (.c (.p (.int .i64 high)))),(9,.one (.c (.ptr 9 0))),(10,.one (.c (.ptr 10 0))),(12,.one (.c (.ptr 12 0)))],[(9,.box 25 [.p (.int .i64 (0:Int)),.p (.int .i64 (0:Int))]),(10,.box 25 [.p (.int .i64 (0:Int)),.p (.int .i64 (0:Int))]),(12,.box 25 [.p (.int .i64 (0:Int)),.p (.int .i64 (0:Int))])],[]⟩
def f19_at1 (K:List PA→Prop) (a:(Sl Gate)) (b:(Sl Gate)) (low:Int) (high:Int):Prop:=vc Try.prog G19 ann19 (cdF Try.f19 [1,0,1,1]) (scopeK (bodyK Try.prog Try.f19 K)) (f19_g1 a b low high)
def f19_g2 (low:Int) (high:Int) (x_0v2_n:Nat) (x_0v2_g:Nat→List PV) (x_1v2_n:Nat) (x_1v2_g:Nat→List PV) (y_0v2_n:Nat) (y_0v2_g:Nat→List PV) (y_1v2_n:Nat) (y_1v2_g:Nat→List PV):St:=⟨[(2,.one (.c (.p (.int .i64 low)))),(3,.one (.c (.p (.int .i64 high)))),(9,.one (.c (.ptr 9 0))),(10,.one (.c (.ptr 10 0))),(12,.one (.c (.ptr 12 0))),(13,.one (.c (.ptr 13 0))),(14,.one (.c (.ptr 14 0)))],[(9,.box 25 [.p (.int .i64 (0:Int)),.p (.int .i64 (0:Int))]),(10,.box 25 [.p (.int .i64 (0:Int)),.p (.int .i64 (0:Int))]),(12,.box 25 [.p (.int .i64 (0:Int)),.p (.int .i64 (0:Int))]),(13,.box 104 [.p (.sl x_0v2_n 3 x_0v2_g),.p (.sl x_1v2_n 3 x_1v2_g)]),(14,.box 104 [.p (.sl y_0v2_n 3 y_0v2_g),.p (.sl y_1v2_n 3 y_1v2_g)])],[]⟩
def f19_at2 (K:List PA→Prop) (low:Int) (high:Int) (x_0v2_n:Nat) (x_0v2_g:Nat→List PV) (x_1v2_n:Nat) (x_1v2_g:Nat→List PV) (y_0v2_n:Nat) (y_0v2_g:Nat→List PV) (y_1v2_n:Nat) (y_1v2_g:Nat→List PV):Prop:=vc Try.prog G19 ann19 (cdF Try.f19 [1,0,1,1,1]) (scopeK (bodyK Try.prog Try.f19 K)) (f19_g2 low high x_0v2_n x_0v2_g x_1v2_n x_1v2_g y_0v2_n y_0v2_g y_1v2_n y_1v2_g)
def f19_g3 (low:Int) (high:Int) (x_0v2:(Sl Gate)) (x_1v2:(Sl straight)) (y_0v2:(Sl Gate)) (y_1v2:(Sl straight)) (t58v3:Bool):St:=⟨[(2,.one (.c (.p (.int .i64 low)))),(3,.one (.c (.p (.int .i64 high)))),(9,.one (.c (.ptr 9 0))),(10,.one (.c (.ptr 10 0))),(12,.one (.c (.ptr 12 0))),(13,.one (.c (.ptr 13 0))),(14,.one (.c (.ptr 14 0))),(58,.one (.c (.p (.bool t58v3))))],[(9,.box 25 [.p (.int .i64 (0:Int)),.p (.int .i64 (0:Int))]),(10,.box 25 [.p (.int .i64 (0:Int)),.p (.int .i64 (0:Int))]),(12,.box 25 [.p (.int .i64 (0:Int)),.p (.int .i64 (0:Int))]),(13,.box 104 [.p (.sl x_0v2.len 3 (fun i=>enc_55 (x_0v2.get i))),.p (.sl x_1v2.len 3 (fun i=>enc_118 (x_1v2.get i)))]),(14,.box 104 [.p (.sl y_0v2.len 3 (fun i=>enc_55 (y_0v2.get i))),.p (.sl y_1v2.len 3 (fun i=>enc_118 (y_1v2.get i)))])],[]⟩
def f19_at3 (K:List PA→Prop) (low:Int) (high:Int) (x_0v2:(Sl Gate)) (x_1v2:(Sl straight)) (y_0v2:(Sl Gate)) (y_1v2:(Sl straight)) (t58v3:Bool):Prop:=vc Try.prog G19 ann19 (cdF Try.f19 [1,0,1,1,1,0,1]) (sqK Try.prog G19 ann19 (cdF Try.f19 [1,0,1,1,1,1]) (scopeK (bodyK Try.prog Try.f19 K))) (f19_g3 low high x_0v2 x_1v2 y_0v2 y_1v2 t58v3)
def f19_g4 (low:Int) (high:Int) (x_0v2:(Sl Gate)) (x_1v2:(Sl straight)) (y_0v2:(Sl Gate)) (y_1v2:(Sl straight)):St:=⟨[(2,.one (.c (.p (.int .i64 low)))),(3,.one (.c (.p (.int .i64 high)))),(9,.one (.c (.ptr 9 0))),(10,.one (.c (.ptr 10 0))),(12,.one (.c (.ptr 12 0))),(13,.one (.c (.ptr 13 0))),(14,.one (.c (.ptr 14 0)))],[(9,.box 25 [.p (.int .i64 (0:Int)),.p (.int .i64 (0:Int))]),(10,.box 25 [.p (.int .i64 (0:Int)),.p (.int .i64 (0:Int))]),(12,.box 25 [.p (.int .i64 (0:Int)),.p (.int .i64 (0:Int))]),(13,.box 104 [.p (.sl x_0v2.len 3 (fun i=>enc_55 (x_0v2.get i))),.p (.sl x_1v2.len 3 (fun i=>enc_118 (x_1v2.get i)))]),(14,.box 104 [.p (.sl y_0v2.len 3 (fun i=>enc_55 (y_0v2.get i))),.p (.sl y_1v2.len 3 (fun i=>enc_118 (y_1v2.get i)))])],[]⟩
def f19_at4 (K:List PA→Prop) (low:Int) (high:Int) (x_0v2:(Sl Gate)) (x_1v2:(Sl straight)) (y_0v2:(Sl Gate)) (y_1v2:(Sl straight)):Prop:=vc Try.prog G19 ann19 (cdF Try.f19 [1,0,1,1,1,1]) (scopeK (bodyK Try.prog Try.f19 K)) (f19_g4 low high x_0v2 x_1v2 y_0v2 y_1v2)
def f19_g5 (low:Int) (high:Int) (x_0v2:(Sl Gate)) (x_1v2:(Sl straight)) (y_0v2:(Sl Gate)) (y_1v2:(Sl straight)) (t68v5:Bool):St:=⟨[(2,.one (.c (.p (.int .i64 low)))),(3,.one (.c (.p (.int .i64 high)))),(9,.one (.c (.ptr 9 0))),(10,.one (.c (.ptr 10 0))),(12,.one (.c (.ptr 12 0))),(13,.one (.c (.ptr 13 0))),(14,.one (.c (.ptr 14 0))),(68,.one (.c (.p (.bool t68v5))))],[(9,.box 25 [.p (.int .i64 (0:Int)),.p (.int .i64 (0:Int))]),(10,.box 25 [.p (.int .i64 (0:Int)),.p (.int .i64 (0:Int))]),(12,.box 25 [.p (.int .i64 (0:Int)),.p (.int .i64 (0:Int))]),(13,.box 104 [.p (.sl x_0v2.len 3 (fun i=>enc_55 (x_0v2.get i))),.p (.sl x_1v2.len 3 (fun i=>enc_118 (x_1v2.get i)))]),(14,.box 104 [.p (.sl y_0v2.len 3 (fun i=>enc_55 (y_0v2.get i))),.p (.sl y_1v2.len 3 (fun i=>enc_118 (y_1v2.get i)))])],[]⟩
def f19_at5 (K:List PA→Prop) (low:Int) (high:Int) (x_0v2:(Sl Gate)) (x_1v2:(Sl straight)) (y_0v2:(Sl Gate)) (y_1v2:(Sl straight)) (t68v5:Bool):Prop:=vc Try.prog G19 ann19 (cdF Try.f19 [1,0,1,1,1,1,0,1]) (sqK Try.prog G19 ann19 (cdF Try.f19 [1,0,1,1,1,1,1]) (scopeK (bodyK Try.prog Try.f19 K))) (f19_g5 low high x_0v2 x_1v2 y_0v2 y_1v2 t68v5)
def f19_g6 (low:Int) (high:Int) (x_0v2:(Sl Gate)) (x_1v2:(Sl straight)) (y_0v2:(Sl Gate)) (y_1v2:(Sl straight)):St:=⟨[(2,.one (.c (.p (.int .i64 low)))),(3,.one (.c (.p (.int .i64 high)))),(9,.one (.c (.ptr 9 0))),(10,.one (.c (.ptr 10 0))),(12,.one (.c (.ptr 12 0))),(13,.one (.c (.ptr 13 0))),(14,.one (.c (.ptr 14 0)))],[(9,.box 25 [.p (.int .i64 (0:Int)),.p (.int .i64 (0:Int))]),(10,.box 25 [.p (.int .i64 (0:Int)),.p (.int .i64 (0:Int))]),(12,.box 25 [.p (.int .i64 (0:Int)),.p (.int .i64 (0:Int))]),(13,.box 104 [.p (.sl x_0v2.len 3 (fun i=>enc_55 (x_0v2.get i))),.p (.sl x_1v2.len 3 (fun i=>enc_118 (x_1v2.get i)))]),(14,.box 104 [.p (.sl y_0v2.len 3 (fun i=>enc_55 (y_0v2.get i))),.p (.sl y_1v2.len 3 (fun i=>enc_118 (y_1v2.get i)))])],[]⟩
def f19_at6 (K:List PA→Prop) (low:Int) (high:Int) (x_0v2:(Sl Gate)) (x_1v2:(Sl straight)) (y_0v2:(Sl Gate)) (y_1v2:(Sl straight)):Prop:=vc Try.prog G19 ann19 (cdF Try.f19 [1,0,1,1,1,1,1]) (scopeK (bodyK Try.prog Try.f19 K)) (f19_g6 low high x_0v2 x_1v2 y_0v2 y_1v2)
def f19_g7 (low:Int) (high:Int) (x_0v2:(Sl Gate)) (x_1v2:(Sl straight)) (y_0v2:(Sl Gate)) (y_1v2:(Sl straight)) (t77v7:Int) (from_0v7:Int) (from_1v7:Int) (to_0v7:Int) (to_1v7:Int):St:=⟨[(2,.one (.c (.p (.int .i64 low)))),(3,.one (.c (.p (.int .i64 high)))),(9,.one (.c (.ptr 9 0))),(10,.one (.c (.ptr 10 0))),(12,.one (.c (.ptr 12 0))),(13,.one (.c (.ptr 13 0))),(14,.one (.c (.ptr 14 0))),(15,.one (.c (.ptr 15 0))),(16,.one (.c (.ptr 16 0))),(17,.one (.c (.p (.int .i64 (w64 (high+(1:Int))))))),(76,.one (.c (.p (.int .i64 (w64 ((w64 (high - low))+(1:Int))))))),(77,.one (.c (.p (.int .i64 t77v7))))],[(9,.box 25 [.p (.int .i64 (0:Int)),.p (.int .i64 (0:Int))]),(10,.box 25 [.p (.int .i64 (0:Int)),.p (.int .i64 (0:Int))]),(12,.box 25 [.p (.int .i64 (0:Int)),.p (.int .i64 (0:Int))]),(13,.box 104 [.p (.sl x_0v2.len 3 (fun i=>enc_55 (x_0v2.get i))),.p (.sl x_1v2.len 3 (fun i=>enc_118 (x_1v2.get i)))]),(14,.box 104 [.p (.sl y_0v2.len 3 (fun i=>enc_55 (y_0v2.get i))),.p (.sl y_1v2.len 3 (fun i=>enc_118 (y_1v2.get i)))]),(15,.box 25 [.p (.int .i64 from_0v7),.p (.int .i64 from_1v7)]),(16,.box 25 [.p (.int .i64 to_0v7),.p (.int .i64 to_1v7)])],[]⟩
def f19_at7 (K:List PA→Prop) (low:Int) (high:Int) (x_0v2:(Sl Gate)) (x_1v2:(Sl straight)) (y_0v2:(Sl Gate)) (y_1v2:(Sl straight)) (t77v7:Int) (from_0v7:Int) (from_1v7:Int) (to_0v7:Int) (to_1v7:Int):Prop:=vc Try.prog G19 ann19 (cdF Try.f19 [1,0,1,1,1,1,1,1,1,1,0,1,0]) (blockK 0 (sqK Try.prog G19 ann19 (cdF Try.f19 [1,0,1,1,1,1,1,1,1,1,1]) (scopeK (bodyK Try.prog Try.f19 K)))) (f19_g7 low high x_0v2 x_1v2 y_0v2 y_1v2 t77v7 from_0v7 from_1v7 to_0v7 to_1v7)
def f19_g8 (low:Int) (high:Int) (x_0v2:(Sl Gate)) (x_1v2:(Sl straight)) (y_0v2:(Sl Gate)) (y_1v2:(Sl straight)) (iv8:Int) (t77v8:Int) (from_0v8:Int) (from_1v8:Int) (to_0v8:Int) (to_1v8:Int) (p_0v8:Int) (p_1v8:Int) (q_0v8:Int) (q_1v8:Int):St:=⟨[(2,.one (.c (.p (.int .i64 low)))),(3,.one (.c (.p (.int .i64 high)))),(9,.one (.c (.ptr 9 0))),(10,.one (.c (.ptr 10 0))),(12,.one (.c (.ptr 12 0))),(13,.one (.c (.ptr 13 0))),(14,.one (.c (.ptr 14 0))),(15,.one (.c (.ptr 15 0))),(16,.one (.c (.ptr 16 0))),(17,.one (.c (.p (.int .i64 (w64 (high+(1:Int))))))),(18,.one (.c (.p (.int .i64 iv8)))),(19,.one (.c (.ptr 19 0))),(20,.one (.c (.ptr 20 0))),(76,.one (.c (.p (.int .i64 (w64 ((w64 (high - low))+(1:Int))))))),(77,.one (.c (.p (.int .i64 t77v8))))],[(9,.box 25 [.p (.int .i64 (0:Int)),.p (.int .i64 (0:Int))]),(10,.box 25 [.p (.int .i64 (0:Int)),.p (.int .i64 (0:Int))]),(12,.box 25 [.p (.int .i64 (0:Int)),.p (.int .i64 (0:Int))]),(13,.box 104 [.p (.sl x_0v2.len 3 (fun i=>enc_55 (x_0v2.get i))),.p (.sl x_1v2.len 3 (fun i=>enc_118 (x_1v2.get i)))]),(14,.box 104 [.p (.sl y_0v2.len 3 (fun i=>enc_55 (y_0v2.get i))),.p (.sl y_1v2.len 3 (fun i=>enc_118 (y_1v2.get i)))]),(15,.box 25 [.p (.int .i64 from_0v8),.p (.int .i64 from_1v8)]),(16,.box 25 [.p (.int .i64 to_0v8),.p (.int .i64 to_1v8)]),(19,.box 25 [.p (.int .i64 p_0v8),.p (.int .i64 p_1v8)]),(20,.box 25 [.p (.int .i64 q_0v8),.p (.int .i64 q_1v8)])],[]⟩
def f19_at8 (K:List PA→Prop) (X7:St→Prop) (low:Int) (high:Int) (x_0v2:(Sl Gate)) (x_1v2:(Sl straight)) (y_0v2:(Sl Gate)) (y_1v2:(Sl straight)) (iv8:Int) (t77v8:Int) (from_0v8:Int) (from_1v8:Int) (to_0v8:Int) (to_1v8:Int) (p_0v8:Int) (p_1v8:Int) (q_0v8:Int) (q_1v8:Int):Prop:=vc Try.prog G19 ann19 (cdF Try.f19 [1,0,1,1,1,1,1,1,1,1,0,1,0,0,1,1,0,0,1,1]) (blockK 1 (sqK Try.prog G19 ann19 (cdF Try.f19 [1,0,1,1,1,1,1,1,1,1,0,1,0,0,1,1,1]) (loopK Try.prog ann19 12 X7 (blockK 0 (sqK Try.prog G19 ann19 (cdF Try.f19 [1,0,1,1,1,1,1,1,1,1,1]) (scopeK (bodyK Try.prog Try.f19 K))))))) (f19_g8 low high x_0v2 x_1v2 y_0v2 y_1v2 iv8 t77v8 from_0v8 from_1v8 to_0v8 to_1v8 p_0v8 p_1v8 q_0v8 q_1v8)
def f19_g9 (high:Int) (atv9:Int) (from_0v9:Int) (from_1v9:Int) (to_0v9:Int) (to_1v9:Int):St:=⟨[(3,.one (.c (.p (.int .i64 high)))),(9,.one (.c (.ptr 9 0))),(10,.one (.c (.ptr 10 0))),(12,.one (.c (.ptr 12 0))),(15,.one (.c (.ptr 15 0))),(16,.one (.c (.ptr 16 0))),(17,.one (.c (.p (.int .i64 atv9))))],[(9,.box 25 [.p (.int .i64 (0:Int)),.p (.int .i64 (0:Int))]),(10,.box 25 [.p (.int .i64 (0:Int)),.p (.int .i64 (0:Int))]),(12,.box 25 [.p (.int .i64 (0:Int)),.p (.int .i64 (0:Int))]),(15,.box 25 [.p (.int .i64 from_0v9),.p (.int .i64 from_1v9)]),(16,.box 25 [.p (.int .i64 to_0v9),.p (.int .i64 to_1v9)])],[]⟩
def f19_at9 (K:List PA→Prop) (high:Int) (atv9:Int) (from_0v9:Int) (from_1v9:Int) (to_0v9:Int) (to_1v9:Int):Prop:=vc Try.prog G19 ann19 (cdF Try.f19 [1,0,1,1,1,1,1,1,1,1,1]) (scopeK (bodyK Try.prog Try.f19 K)) (f19_g9 high atv9 from_0v9 from_1v9 to_0v9 to_1v9)
def f19_g10 (low:Int) (high:Int) (x_0v2:(Sl Gate)) (x_1v2:(Sl straight)) (y_0v2:(Sl Gate)) (y_1v2:(Sl straight)) (p_0v8:Int) (p_1v8:Int) (q_0v8:Int) (q_1v8:Int) (iv10:Int) (t77v10:Int) (from_0v10:Int) (from_1v10:Int) (to_0v10:Int) (to_1v10:Int) (r_0v10:Int) (r_1v10:Int) (s_0v10:Int) (s_1v10:Int):St:=⟨[(2,.one (.c (.p (.int .i64 low)))),(3,.one (.c (.p (.int .i64 high)))),(9,.one (.c (.ptr 9 0))),(10,.one (.c (.ptr 10 0))),(12,.one (.c (.ptr 12 0))),(13,.one (.c (.ptr 13 0))),(14,.one (.c (.ptr 14 0))),(15,.one (.c (.ptr 15 0))),(16,.one (.c (.ptr 16 0))),(17,.one (.c (.p (.int .i64 (w64 (high+(1:Int))))))),(18,.one (.c (.p (.int .i64 iv10)))),(19,.one (.c (.ptr 19 0))),(20,.one (.c (.ptr 20 0))),(21,.one (.c (.ptr 21 0))),(22,.one (.c (.ptr 22 0))),(76,.one (.c (.p (.int .i64 (w64 ((w64 (high - low))+(1:Int))))))),(77,.one (.c (.p (.int .i64 t77v10))))],[(9,.box 25 [.p (.int .i64 (0:Int)),.p (.int .i64 (0:Int))]),(10,.box 25 [.p (.int .i64 (0:Int)),.p (.int .i64 (0:Int))]),(12,.box 25 [.p (.int .i64 (0:Int)),.p (.int .i64 (0:Int))]),(13,.box 104 [.p (.sl x_0v2.len 3 (fun i=>enc_55 (x_0v2.get i))),.p (.sl x_1v2.len 3 (fun i=>enc_118 (x_1v2.get i)))]),(14,.box 104 [.p (.sl y_0v2.len 3 (fun i=>enc_55 (y_0v2.get i))),.p (.sl y_1v2.len 3 (fun i=>enc_118 (y_1v2.get i)))]),(15,.box 25 [.p (.int .i64 from_0v10),.p (.int .i64 from_1v10)]),(16,.box 25 [.p (.int .i64 to_0v10),.p (.int .i64 to_1v10)]),(19,.box 25 [.p (.int .i64 p_0v8),.p (.int .i64 p_1v8)]),(20,.box 25 [.p (.int .i64 q_0v8),.p (.int .i64 q_1v8)]),(21,.box 25 [.p (.int .i64 r_0v10),.p (.int .i64 r_1v10)]),(22,.box 25 [.p (.int .i64 s_0v10),.p (.int .i64 s_1v10)])],[]⟩
def f19_at10 (K:List PA→Prop) (X7:St→Prop) (low:Int) (high:Int) (x_0v2:(Sl Gate)) (x_1v2:(Sl straight)) (y_0v2:(Sl Gate)) (y_1v2:(Sl straight)) (p_0v8:Int) (p_1v8:Int) (q_0v8:Int) (q_1v8:Int) (iv10:Int) (t77v10:Int) (from_0v10:Int) (from_1v10:Int) (to_0v10:Int) (to_1v10:Int) (r_0v10:Int) (r_1v10:Int) (s_0v10:Int) (s_1v10:Int):Prop:=vc Try.prog G19 ann19 (cdF Try.f19 [1,0,1,1,1,1,1,1,1,1,0,1,0,0,1,1,0,0,1,1,1]) (blockK 1 (sqK Try.prog G19 ann19 (cdF Try.f19 [1,0,1,1,1,1,1,1,1,1,0,1,0,0,1,1,1]) (loopK Try.prog ann19 12 X7 (blockK 0 (sqK Try.prog G19 ann19 (cdF Try.f19 [1,0,1,1,1,1,1,1,1,1,1]) (scopeK (bodyK Try.prog Try.f19 K))))))) (f19_g10 low high x_0v2 x_1v2 y_0v2 y_1v2 p_0v8 p_1v8 q_0v8 q_1v8 iv10 t77v10 from_0v10 from_1v10 to_0v10 to_1v10 r_0v10 r_1v10 s_0v10 s_1v10)
def f19_g11 (low:Int) (high:Int) (x_0v2:(Sl Gate)) (x_1v2:(Sl straight)) (y_0v2:(Sl Gate)) (y_1v2:(Sl straight)) (p_0v8:Int) (p_1v8:Int) (q_0v8:Int) (q_1v8:Int) (r_0v10:Int) (r_1v10:Int) (s_0v10:Int) (s_1v10:Int) (iv11:Int) (t77v11:Int) (t101v11:Bool):St:=⟨[(2,.one (.c (.p (.int .i64 low)))),(3,.one (.c (.p (.int .i64 high)))),(9,.one (.c (.ptr 9 0))),(10,.one (.c (.ptr 10 0))),(12,.one (.c (.ptr 12 0))),(13,.one (.c (.ptr 13 0))),(14,.one (.c (.ptr 14 0))),(15,.one (.c (.ptr 15 0))),(16,.one (.c (.ptr 16 0))),(17,.one (.c (.p (.int .i64 (w64 (high+(1:Int))))))),(18,.one (.c (.p (.int .i64 iv11)))),(20,.one (.c (.ptr 20 0))),(21,.one (.c (.ptr 21 0))),(22,.one (.c (.ptr 22 0))),(76,.one (.c (.p (.int .i64 (w64 ((w64 (high - low))+(1:Int))))))),(77,.one (.c (.p (.int .i64 t77v11)))),(101,.one (.c (.p (.bool t101v11))))],[(9,.box 25 [.p (.int .i64 (0:Int)),.p (.int .i64 (0:Int))]),(10,.box 25 [.p (.int .i64 (0:Int)),.p (.int .i64 (0:Int))]),(12,.box 25 [.p (.int .i64 (0:Int)),.p (.int .i64 (0:Int))]),(13,.box 104 [.p (.sl x_0v2.len 3 (fun i=>enc_55 (x_0v2.get i))),.p (.sl x_1v2.len 3 (fun i=>enc_118 (x_1v2.get i)))]),(14,.box 104 [.p (.sl y_0v2.len 3 (fun i=>enc_55 (y_0v2.get i))),.p (.sl y_1v2.len 3 (fun i=>enc_118 (y_1v2.get i)))]),(15,.box 25 [.p (.int .i64 p_0v8),.p (.int .i64 p_1v8)]),(16,.box 25 [.p (.int .i64 q_0v8),.p (.int .i64 q_1v8)]),(20,.box 25 [.p (.int .i64 q_0v8),.p (.int .i64 q_1v8)]),(21,.box 25 [.p (.int .i64 r_0v10),.p (.int .i64 r_1v10)]),(22,.box 25 [.p (.int .i64 s_0v10),.p (.int .i64 s_1v10)])],[]⟩
def f19_at11 (K:List PA→Prop) (X7:St→Prop) (low:Int) (high:Int) (x_0v2:(Sl Gate)) (x_1v2:(Sl straight)) (y_0v2:(Sl Gate)) (y_1v2:(Sl straight)) (p_0v8:Int) (p_1v8:Int) (q_0v8:Int) (q_1v8:Int) (r_0v10:Int) (r_1v10:Int) (s_0v10:Int) (s_1v10:Int) (iv11:Int) (t77v11:Int) (t101v11:Bool):Prop:=vc Try.prog G19 ann19 (cdF Try.f19 [1,0,1,1,1,1,1,1,1,1,0,1,0,0,1,1,0,0,1,1,1,1,0,1]) (sqK Try.prog G19 ann19 (cdF Try.f19 [1,0,1,1,1,1,1,1,1,1,0,1,0,0,1,1,0,0,1,1,1,1,1]) (blockK 1 (sqK Try.prog G19 ann19 (cdF Try.f19 [1,0,1,1,1,1,1,1,1,1,0,1,0,0,1,1,1]) (loopK Try.prog ann19 12 X7 (blockK 0 (sqK Try.prog G19 ann19 (cdF Try.f19 [1,0,1,1,1,1,1,1,1,1,1]) (scopeK (bodyK Try.prog Try.f19 K)))))))) (f19_g11 low high x_0v2 x_1v2 y_0v2 y_1v2 p_0v8 p_1v8 q_0v8 q_1v8 r_0v10 r_1v10 s_0v10 s_1v10 iv11 t77v11 t101v11)
def f19_g12 (low:Int) (high:Int) (x_0v2:(Sl Gate)) (x_1v2:(Sl straight)) (y_0v2:(Sl Gate)) (y_1v2:(Sl straight)) (q_0v8:Int) (q_1v8:Int) (s_0v10:Int) (s_1v10:Int) (iv12:Int) (t77v12:Int) (from_0v12:Int) (from_1v12:Int):St:=⟨[(2,.one (.c (.p (.int .i64 low)))),(3,.one (.c (.p (.int .i64 high)))),(9,.one (.c (.ptr 9 0))),(10,.one (.c (.ptr 10 0))),(12,.one (.c (.ptr 12 0))),(13,.one (.c (.ptr 13 0))),(14,.one (.c (.ptr 14 0))),(15,.one (.c (.ptr 15 0))),(16,.one (.c (.ptr 16 0))),(17,.one (.c (.p (.int .i64 (w64 (high+(1:Int))))))),(18,.one (.c (.p (.int .i64 iv12)))),(20,.one (.c (.ptr 20 0))),(22,.one (.c (.ptr 22 0))),(76,.one (.c (.p (.int .i64 (w64 ((w64 (high - low))+(1:Int))))))),(77,.one (.c (.p (.int .i64 t77v12))))],[(9,.box 25 [.p (.int .i64 (0:Int)),.p (.int .i64 (0:Int))]),(10,.box 25 [.p (.int .i64 (0:Int)),.p (.int .i64 (0:Int))]),(12,.box 25 [.p (.int .i64 (0:Int)),.p (.int .i64 (0:Int))]),(13,.box 104 [.p (.sl x_0v2.len 3 (fun i=>enc_55 (x_0v2.get i))),.p (.sl x_1v2.len 3 (fun i=>enc_118 (x_1v2.get i)))]),(14,.box 104 [.p (.sl y_0v2.len 3 (fun i=>enc_55 (y_0v2.get i))),.p (.sl y_1v2.len 3 (fun i=>enc_118 (y_1v2.get i)))]),(15,.box 25 [.p (.int .i64 from_0v12),.p (.int .i64 from_1v12)]),(16,.box 25 [.p (.int .i64 q_0v8),.p (.int .i64 q_1v8)]),(20,.box 25 [.p (.int .i64 q_0v8),.p (.int .i64 q_1v8)]),(22,.box 25 [.p (.int .i64 s_0v10),.p (.int .i64 s_1v10)])],[]⟩
def f19_at12 (K:List PA→Prop) (X7:St→Prop) (low:Int) (high:Int) (x_0v2:(Sl Gate)) (x_1v2:(Sl straight)) (y_0v2:(Sl Gate)) (y_1v2:(Sl straight)) (q_0v8:Int) (q_1v8:Int) (s_0v10:Int) (s_1v10:Int) (iv12:Int) (t77v12:Int) (from_0v12:Int) (from_1v12:Int):Prop:=vc Try.prog G19 ann19 (cdF Try.f19 [1,0,1,1,1,1,1,1,1,1,0,1,0,0,1,1,0,0,1,1,1,1,1]) (blockK 1 (sqK Try.prog G19 ann19 (cdF Try.f19 [1,0,1,1,1,1,1,1,1,1,0,1,0,0,1,1,1]) (loopK Try.prog ann19 12 X7 (blockK 0 (sqK Try.prog G19 ann19 (cdF Try.f19 [1,0,1,1,1,1,1,1,1,1,1]) (scopeK (bodyK Try.prog Try.f19 K))))))) (f19_g12 low high x_0v2 x_1v2 y_0v2 y_1v2 q_0v8 q_1v8 s_0v10 s_1v10 iv12 t77v12 from_0v12 from_1v12)
def f19_g13 (low:Int) (high:Int) (x_0v2:(Sl Gate)) (x_1v2:(Sl straight)) (y_0v2:(Sl Gate)) (y_1v2:(Sl straight)) (q_0v8:Int) (q_1v8:Int) (s_0v10:Int) (s_1v10:Int) (from_0v12:Int) (from_1v12:Int) (iv13:Int) (t77v13:Int) (t106v13:Bool):St:=⟨[(2,.one (.c (.p (.int .i64 low)))),(3,.one (.c (.p (.int .i64 high)))),(9,.one (.c (.ptr 9 0))),(10,.one (.c (.ptr 10 0))),(12,.one (.c (.ptr 12 0))),(13,.one (.c (.ptr 13 0))),(14,.one (.c (.ptr 14 0))),(15,.one (.c (.ptr 15 0))),(16,.one (.c (.ptr 16 0))),(17,.one (.c (.p (.int .i64 (w64 (high+(1:Int))))))),(18,.one (.c (.p (.int .i64 iv13)))),(22,.one (.c (.ptr 22 0))),(76,.one (.c (.p (.int .i64 (w64 ((w64 (high - low))+(1:Int))))))),(77,.one (.c (.p (.int .i64 t77v13)))),(106,.one (.c (.p (.bool t106v13))))],[(9,.box 25 [.p (.int .i64 (0:Int)),.p (.int .i64 (0:Int))]),(10,.box 25 [.p (.int .i64 (0:Int)),.p (.int .i64 (0:Int))]),(12,.box 25 [.p (.int .i64 (0:Int)),.p (.int .i64 (0:Int))]),(13,.box 104 [.p (.sl x_0v2.len 3 (fun i=>enc_55 (x_0v2.get i))),.p (.sl x_1v2.len 3 (fun i=>enc_118 (x_1v2.get i)))]),(14,.box 104 [.p (.sl y_0v2.len 3 (fun i=>enc_55 (y_0v2.get i))),.p (.sl y_1v2.len 3 (fun i=>enc_118 (y_1v2.get i)))]),(15,.box 25 [.p (.int .i64 from_0v12),.p (.int .i64 from_1v12)]),(16,.box 25 [.p (.int .i64 q_0v8),.p (.int .i64 q_1v8)]),(22,.box 25 [.p (.int .i64 s_0v10),.p (.int .i64 s_1v10)])],[]⟩
def f19_at13 (K:List PA→Prop) (X7:St→Prop) (low:Int) (high:Int) (x_0v2:(Sl Gate)) (x_1v2:(Sl straight)) (y_0v2:(Sl Gate)) (y_1v2:(Sl straight)) (q_0v8:Int) (q_1v8:Int) (s_0v10:Int) (s_1v10:Int) (from_0v12:Int) (from_1v12:Int) (iv13:Int) (t77v13:Int) (t106v13:Bool):Prop:=vc Try.prog G19 ann19 (cdF Try.f19 [1,0,1,1,1,1,1,1,1,1,0,1,0,0,1,1,0,0,1,1,1,1,1,0,1]) (sqK Try.prog G19 ann19 (cdF Try.f19 [1,0,1,1,1,1,1,1,1,1,0,1,0,0,1,1,0,0,1,1,1,1,1,1]) (blockK 1 (sqK Try.prog G19 ann19 (cdF Try.f19 [1,0,1,1,1,1,1,1,1,1,0,1,0,0,1,1,1]) (loopK Try.prog ann19 12 X7 (blockK 0 (sqK Try.prog G19 ann19 (cdF Try.f19 [1,0,1,1,1,1,1,1,1,1,1]) (scopeK (bodyK Try.prog Try.f19 K)))))))) (f19_g13 low high x_0v2 x_1v2 y_0v2 y_1v2 q_0v8 q_1v8 s_0v10 s_1v10 from_0v12 from_1v12 iv13 t77v13 t106v13)
def f19_g14 (low:Int) (high:Int) (x_0v2:(Sl Gate)) (x_1v2:(Sl straight)) (y_0v2:(Sl Gate)) (y_1v2:(Sl straight)) (from_0v12:Int) (from_1v12:Int) (iv14:Int) (t77v14:Int) (t111v14:Bool) (to_0v14:Int) (to_1v14:Int):St:=⟨[(2,.one (.c (.p (.int .i64 low)))),(3,.one (.c (.p (.int .i64 high)))),(9,.one (.c (.ptr 9 0))),(10,.one (.c (.ptr 10 0))),(12,.one (.c (.ptr 12 0))),(13,.one (.c (.ptr 13 0))),(14,.one (.c (.ptr 14 0))),(15,.one (.c (.ptr 15 0))),(16,.one (.c (.ptr 16 0))),(17,.one (.c (.p (.int .i64 (w64 (high+(1:Int))))))),(18,.one (.c (.p (.int .i64 iv14)))),(76,.one (.c (.p (.int .i64 (w64 ((w64 (high - low))+(1:Int))))))),(77,.one (.c (.p (.int .i64 t77v14)))),(111,.one (.c (.p (.bool t111v14))))],[(9,.box 25 [.p (.int .i64 (0:Int)),.p (.int .i64 (0:Int))]),(10,.box 25 [.p (.int .i64 (0:Int)),.p (.int .i64 (0:Int))]),(12,.box 25 [.p (.int .i64 (0:Int)),.p (.int .i64 (0:Int))]),(13,.box 104 [.p (.sl x_0v2.len 3 (fun i=>enc_55 (x_0v2.get i))),.p (.sl x_1v2.len 3 (fun i=>enc_118 (x_1v2.get i)))]),(14,.box 104 [.p (.sl y_0v2.len 3 (fun i=>enc_55 (y_0v2.get i))),.p (.sl y_1v2.len 3 (fun i=>enc_118 (y_1v2.get i)))]),(15,.box 25 [.p (.int .i64 from_0v12),.p (.int .i64 from_1v12)]),(16,.box 25 [.p (.int .i64 to_0v14),.p (.int .i64 to_1v14)])],[]⟩
def f19_at14 (K:List PA→Prop) (X7:St→Prop) (low:Int) (high:Int) (x_0v2:(Sl Gate)) (x_1v2:(Sl straight)) (y_0v2:(Sl Gate)) (y_1v2:(Sl straight)) (from_0v12:Int) (from_1v12:Int) (iv14:Int) (t77v14:Int) (t111v14:Bool) (to_0v14:Int) (to_1v14:Int):Prop:=vc Try.prog G19 ann19 (cdF Try.f19 [1,0,1,1,1,1,1,1,1,1,0,1,0,0,1,1,0,0,1,1,1,1,1,1,1]) (blockK 1 (sqK Try.prog G19 ann19 (cdF Try.f19 [1,0,1,1,1,1,1,1,1,1,0,1,0,0,1,1,1]) (loopK Try.prog ann19 12 X7 (blockK 0 (sqK Try.prog G19 ann19 (cdF Try.f19 [1,0,1,1,1,1,1,1,1,1,1]) (scopeK (bodyK Try.prog Try.f19 K))))))) (f19_g14 low high x_0v2 x_1v2 y_0v2 y_1v2 from_0v12 from_1v12 iv14 t77v14 t111v14 to_0v14 to_1v14)
theorem f19_top (a : (Sl Gate)) (b : (Sl Gate)) (low : Int) (high : Int) (K : List PA → Prop) :
  vcFun Try.prog G19 ann19 19 [.one (.sl a.len 3 (fun i=>enc_55 (a.get i))),.one (.sl b.len 3 (fun i=>enc_55 (b.get i))),.one (.int .i64 low),.one (.int .i64 high)] K =
  (condP (decide (low < (-100000:Int)))
   (f19_at0 K a b low high true)
   (condP (decide (low > high))
    (f19_at0 K a b low high true)
    (condP (decide (high > (200000:Int)))
     (f19_at0 K a b low high true)
     ((IsE enc_55 3 3 (fun i=>enc_55 (a.get i))∧(p64 a=true)) ∧
     (condP (!(s64 a))
      (f19_at0 K a b low high true)
      ((IsE enc_55 3 3 (fun i=>enc_55 (b.get i))∧(p64 b=true)) ∧
      (f19_at0 K a b low high (!(s64 b))))))))):=by kernel_rfl
theorem f19_eq0 (K : List PA → Prop) (a : (Sl Gate)) (b : (Sl Gate)) (low : Int) (high : Int) (t44v0 : Bool) :
  f19_at0 K a b low high t44v0 =
  (condP t44v0
   (K [.one (.int .i64 (0:Int)),.agg [.int .i64 (0:Int),.int .i64 (0:Int)],.agg [.int .i64 (0:Int),.int .i64 (0:Int)],.one (.int .i64 (2:Int))])
   (f19_at1 K a b low high)):=by kernel_rfl
theorem f19_eq1 (K : List PA → Prop) (a : (Sl Gate)) (b : (Sl Gate)) (low : Int) (high : Int) :
  f19_at1 K a b low high =
  ((IsE enc_55 3 3 (fun i=>enc_55 (a.get i))∧(p65 a=true)) ∧
  ((IsE enc_55 3 3 (fun i=>enc_55 (b.get i))∧(p65 b=true)) ∧
  (f19_at2 K low high ((s65 a).list.Gates.len) (fun i=>enc_55 ((s65 a).list.Gates.get i)) ((s65 a).corners.len) (fun i=>enc_118 ((s65 a).corners.get i)) ((s65 b).list.Gates.len) (fun i=>enc_55 ((s65 b).list.Gates.get i)) ((s65 b).corners.len) (fun i=>enc_118 ((s65 b).corners.get i))))):=by kernel_rfl
theorem f19_eq2 (K : List PA → Prop) (low : Int) (high : Int) (x_0v2 : (Sl Gate)) (x_1v2 : (Sl straight)) (y_0v2 : (Sl Gate)) (y_1v2 : (Sl straight)) :
  f19_at2 K low high x_0v2.len (fun i=>enc_55 (x_0v2.get i)) x_1v2.len (fun i=>enc_118 (x_1v2.get i)) y_0v2.len (fun i=>enc_55 (y_0v2.get i)) y_1v2.len (fun i=>enc_118 (y_1v2.get i)) =
  ((IsE enc_55 3 3 (fun i=>enc_55 (x_0v2.get i))∧IsE enc_118 3 3 (fun i=>enc_118 (x_1v2.get i))∧(p66 (⟨(⟨x_0v2⟩:list),x_1v2⟩:set)=true)) ∧
  (condP (!(s66 (⟨(⟨x_0v2⟩ : list), x_1v2⟩ : set)))
   (f19_at3 K low high x_0v2 x_1v2 y_0v2 y_1v2 true)
   ((IsE enc_55 3 3 (fun i=>enc_55 (y_0v2.get i))∧IsE enc_118 3 3 (fun i=>enc_118 (y_1v2.get i))∧(p66 (⟨(⟨y_0v2⟩:list),y_1v2⟩:set)=true)) ∧
   (f19_at3 K low high x_0v2 x_1v2 y_0v2 y_1v2 (!(s66 (⟨(⟨y_0v2⟩:list),y_1v2⟩:set))))))):=by kernel_rfl
theorem f19_eq3 (K : List PA → Prop) (low : Int) (high : Int) (x_0v2 : (Sl Gate)) (x_1v2 : (Sl straight)) (y_0v2 : (Sl Gate)) (y_1v2 : (Sl straight)) (t58v3 : Bool) :
  f19_at3 K low high x_0v2 x_1v2 y_0v2 y_1v2 t58v3 =
  (condP t58v3
   (K [.one (.int .i64 (0:Int)),.agg [.int .i64 (0:Int),.int .i64 (0:Int)],.agg [.int .i64 (0:Int),.int .i64 (0:Int)],.one (.int .i64 (5:Int))])
   (f19_at4 K low high x_0v2 x_1v2 y_0v2 y_1v2)):=by kernel_rfl
theorem f19_eq4 (K : List PA → Prop) (low : Int) (high : Int) (x_0v2 : (Sl Gate)) (x_1v2 : (Sl straight)) (y_0v2 : (Sl Gate)) (y_1v2 : (Sl straight)) :
  f19_at4 K low high x_0v2 x_1v2 y_0v2 y_1v2 =
  ((IsE enc_55 3 3 (fun i=>enc_55 (x_0v2.get i))∧(p67 (⟨x_0v2⟩:list)=true)) ∧
  (condP (s67 (⟨x_0v2⟩ : list))
   (f19_at5 K low high x_0v2 x_1v2 y_0v2 y_1v2 true)
   ((IsE enc_55 3 3 (fun i=>enc_55 (y_0v2.get i))∧(p67 (⟨y_0v2⟩:list)=true)) ∧
   (f19_at5 K low high x_0v2 x_1v2 y_0v2 y_1v2 (s67 (⟨y_0v2⟩:list)))))):=by kernel_rfl
theorem f19_eq5 (K : List PA → Prop) (low : Int) (high : Int) (x_0v2 : (Sl Gate)) (x_1v2 : (Sl straight)) (y_0v2 : (Sl Gate)) (y_1v2 : (Sl straight)) (t68v5 : Bool) :
  f19_at5 K low high x_0v2 x_1v2 y_0v2 y_1v2 t68v5 =
  (condP t68v5
   (K [.one (.int .i64 (0:Int)),.agg [.int .i64 (0:Int),.int .i64 (0:Int)],.agg [.int .i64 (0:Int),.int .i64 (0:Int)],.one (.int .i64 (6:Int))])
   (f19_at6 K low high x_0v2 x_1v2 y_0v2 y_1v2)):=by kernel_rfl
theorem f19_eq6 (K : List PA → Prop) (low : Int) (high : Int) (x_0v2 : (Sl Gate)) (x_1v2 : (Sl straight)) (y_0v2 : (Sl Gate)) (y_1v2 : (Sl straight)) :
  f19_at6 K low high x_0v2 x_1v2 y_0v2 y_1v2 =
  (f19_at7 K low high x_0v2 x_1v2 y_0v2 y_1v2 (0:Int) (0:Int) (0:Int) (0:Int) (0:Int)):=by kernel_rfl
def f19_step7 (K:List PA→Prop) (X7:St→Prop) (low:Int) (high:Int) (x_0v2:(Sl Gate)) (x_1v2:(Sl straight)) (y_0v2:(Sl Gate)) (y_1v2:(Sl straight)) (t77v7:Int) (from_0v7:Int) (from_1v7:Int) (to_0v7:Int) (to_1v7:Int):Prop :=
  (condP (decide (t77v7 < (w64 ((w64 (high - low)) + (1:Int)))))
   ((IsE enc_55 3 3 (fun i=>enc_55 (x_0v2.get i))∧IsE enc_118 3 3 (fun i=>enc_118 (x_1v2.get i))∧(p68 (⟨(⟨x_0v2⟩:list),x_1v2⟩:set) (w64 (low+t77v7))=true)) ∧
   (f19_at8 K X7 low high x_0v2 x_1v2 y_0v2 y_1v2 t77v7 t77v7 from_0v7 from_1v7 to_0v7 to_1v7 (((s68 (⟨(⟨x_0v2⟩:list),x_1v2⟩:set) (w64 (low+t77v7))).1).Num) (((s68 (⟨(⟨x_0v2⟩:list),x_1v2⟩:set) (w64 (low+t77v7))).1).Den) (((s68 (⟨(⟨x_0v2⟩:list),x_1v2⟩:set) (w64 (low+t77v7))).2).Num) (((s68 (⟨(⟨x_0v2⟩:list),x_1v2⟩:set) (w64 (low+t77v7))).2).Den)))
   (f19_at9 K high (w64 (high+(1:Int))) from_0v7 from_1v7 to_0v7 to_1v7))
theorem f19_stepeq7 (K : List PA → Prop) (X7 : St → Prop) (low : Int) (high : Int) (x_0v2 : (Sl Gate)) (x_1v2 : (Sl straight)) (y_0v2 : (Sl Gate)) (y_1v2 : (Sl straight)) (t77v7 : Int) (from_0v7 : Int) (from_1v7 : Int) (to_0v7 : Int) (to_1v7 : Int) :
  vc Try.prog G19 ann19 (cd (cdF Try.f19 [1,0,1,1,1,1,1,1,1,1,0,1,0]) [0]) (loopK Try.prog ann19 12 X7 (blockK 0 (sqK Try.prog G19 ann19 (cdF Try.f19 [1,0,1,1,1,1,1,1,1,1,1]) (scopeK (bodyK Try.prog Try.f19 K))))) (f19_g7 low high x_0v2 x_1v2 y_0v2 y_1v2 t77v7 from_0v7 from_1v7 to_0v7 to_1v7) =
  f19_step7 K X7 low high x_0v2 x_1v2 y_0v2 y_1v2 t77v7 from_0v7 from_1v7 to_0v7 to_1v7:=by kernel_rfl
theorem f19_loop7 (K : List PA → Prop) (low : Int) (high : Int) (x_0v2 : (Sl Gate)) (x_1v2 : (Sl straight)) (y_0v2 : (Sl Gate)) (y_1v2 : (Sl straight)) (t77v7 : Int) (from_0v7 : Int) (from_1v7 : Int) (to_0v7 : Int) (to_1v7 : Int)
  (h:∀ X7:St→Prop,(∀ (t77v7:Int) (from_0v7:Int) (from_1v7:Int) (to_0v7:Int) (to_1v7:Int),f19_step7 K X7 low high x_0v2 x_1v2 y_0v2 y_1v2 t77v7 from_0v7 from_1v7 to_0v7 to_1v7→X7 (f19_g7 low high x_0v2 x_1v2 y_0v2 y_1v2 t77v7 from_0v7 from_1v7 to_0v7 to_1v7))→X7 (f19_g7 low high x_0v2 x_1v2 y_0v2 y_1v2 t77v7 from_0v7 from_1v7 to_0v7 to_1v7)) :
  f19_at7 K low high x_0v2 x_1v2 y_0v2 y_1v2 t77v7 from_0v7 from_1v7 to_0v7 to_1v7:=by
  have e:f19_at7 K low high x_0v2 x_1v2 y_0v2 y_1v2 t77v7 from_0v7 from_1v7 to_0v7 to_1v7=(∀ X:St→Prop,(∀ s,vc Try.prog G19 ann19 (cd (cdF Try.f19 [1,0,1,1,1,1,1,1,1,1,0,1,0]) [0]) (loopK Try.prog ann19 12 X (blockK 0 (sqK Try.prog G19 ann19 (cdF Try.f19 [1,0,1,1,1,1,1,1,1,1,1]) (scopeK (bodyK Try.prog Try.f19 K))))) s→X s)→X (f19_g7 low high x_0v2 x_1v2 y_0v2 y_1v2 t77v7 from_0v7 from_1v7 to_0v7 to_1v7)):=by kernel_rfl
  refine ofEq e ?_
  intro X hX
  refine h X ?_
  intro t77v7 from_0v7 from_1v7 to_0v7 to_1v7 hs
  refine hX _ ?_
  have e2:=f19_stepeq7 K X low high x_0v2 x_1v2 y_0v2 y_1v2 t77v7 from_0v7 from_1v7 to_0v7 to_1v7
  rw [e2]
  exact hs
theorem f19_eq8 (K : List PA → Prop) (X7 : St → Prop) (low : Int) (high : Int) (x_0v2 : (Sl Gate)) (x_1v2 : (Sl straight)) (y_0v2 : (Sl Gate)) (y_1v2 : (Sl straight)) (iv8 : Int) (t77v8 : Int) (from_0v8 : Int) (from_1v8 : Int) (to_0v8 : Int) (to_1v8 : Int) (p_0v8 : Int) (p_1v8 : Int) (q_0v8 : Int) (q_1v8 : Int) :
  f19_at8 K X7 low high x_0v2 x_1v2 y_0v2 y_1v2 iv8 t77v8 from_0v8 from_1v8 to_0v8 to_1v8 p_0v8 p_1v8 q_0v8 q_1v8 =
  ((IsE enc_55 3 3 (fun i=>enc_55 (y_0v2.get i))∧IsE enc_118 3 3 (fun i=>enc_118 (y_1v2.get i))∧(p68 (⟨(⟨y_0v2⟩:list),y_1v2⟩:set) (w64 (low+iv8))=true)) ∧
  (f19_at10 K X7 low high x_0v2 x_1v2 y_0v2 y_1v2 p_0v8 p_1v8 q_0v8 q_1v8 iv8 t77v8 from_0v8 from_1v8 to_0v8 to_1v8 (((s68 (⟨(⟨y_0v2⟩:list),y_1v2⟩:set) (w64 (low+iv8))).1).Num) (((s68 (⟨(⟨y_0v2⟩:list),y_1v2⟩:set) (w64 (low+iv8))).1).Den) (((s68 (⟨(⟨y_0v2⟩:list),y_1v2⟩:set) (w64 (low+iv8))).2).Num) (((s68 (⟨(⟨y_0v2⟩:list),y_1v2⟩:set) (w64 (low+iv8))).2).Den))):=by kernel_rfl
theorem f19_eq9 (K : List PA → Prop) (high : Int) (atv9 : Int) (from_0v9 : Int) (from_1v9 : Int) (to_0v9 : Int) (to_1v9 : Int) :
  f19_at9 K high atv9 from_0v9 from_1v9 to_0v9 to_1v9 =
  (condP (decide (atv9 > high))
   (K [.one (.int .i64 (0:Int)),.agg [.int .i64 (0:Int),.int .i64 (0:Int)],.agg [.int .i64 (0:Int),.int .i64 (0:Int)],.one (.int .i64 (5:Int))])
   (K [.one (.int .i64 atv9),.agg [.int .i64 from_0v9,.int .i64 from_1v9],.agg [.int .i64 to_0v9,.int .i64 to_1v9],.one (.int .i64 (0:Int))])):=by kernel_rfl
theorem f19_eq10 (K : List PA → Prop) (X7 : St → Prop) (low : Int) (high : Int) (x_0v2 : (Sl Gate)) (x_1v2 : (Sl straight)) (y_0v2 : (Sl Gate)) (y_1v2 : (Sl straight)) (p_0v8 : Int) (p_1v8 : Int) (q_0v8 : Int) (q_1v8 : Int) (iv10 : Int) (t77v10 : Int) (from_0v10 : Int) (from_1v10 : Int) (to_0v10 : Int) (to_1v10 : Int) (r_0v10 : Int) (r_1v10 : Int) (s_0v10 : Int) (s_1v10 : Int) :
  f19_at10 K X7 low high x_0v2 x_1v2 y_0v2 y_1v2 p_0v8 p_1v8 q_0v8 q_1v8 iv10 t77v10 from_0v10 from_1v10 to_0v10 to_1v10 r_0v10 r_1v10 s_0v10 s_1v10 =
  (f19_at11 K X7 low high x_0v2 x_1v2 y_0v2 y_1v2 p_0v8 p_1v8 q_0v8 q_1v8 r_0v10 r_1v10 s_0v10 s_1v10 iv10 t77v10 (decide ((s69 (⟨r_0v10,r_1v10⟩:Frac) (⟨p_0v8,p_1v8⟩:Frac)) > (0:Int)))):=by kernel_rfl
theorem f19_eq11 (K : List PA → Prop) (X7 : St → Prop) (low : Int) (high : Int) (x_0v2 : (Sl Gate)) (x_1v2 : (Sl straight)) (y_0v2 : (Sl Gate)) (y_1v2 : (Sl straight)) (p_0v8 : Int) (p_1v8 : Int) (q_0v8 : Int) (q_1v8 : Int) (r_0v10 : Int) (r_1v10 : Int) (s_0v10 : Int) (s_1v10 : Int) (iv11 : Int) (t77v11 : Int) (t101v11 : Bool) :
  f19_at11 K X7 low high x_0v2 x_1v2 y_0v2 y_1v2 p_0v8 p_1v8 q_0v8 q_1v8 r_0v10 r_1v10 s_0v10 s_1v10 iv11 t77v11 t101v11 =
  (condP t101v11
   (f19_at12 K X7 low high x_0v2 x_1v2 y_0v2 y_1v2 q_0v8 q_1v8 s_0v10 s_1v10 iv11 t77v11 r_0v10 r_1v10)
   (f19_at12 K X7 low high x_0v2 x_1v2 y_0v2 y_1v2 q_0v8 q_1v8 s_0v10 s_1v10 iv11 t77v11 p_0v8 p_1v8)):=by kernel_rfl
theorem f19_eq12 (K : List PA → Prop) (X7 : St → Prop) (low : Int) (high : Int) (x_0v2 : (Sl Gate)) (x_1v2 : (Sl straight)) (y_0v2 : (Sl Gate)) (y_1v2 : (Sl straight)) (q_0v8 : Int) (q_1v8 : Int) (s_0v10 : Int) (s_1v10 : Int) (iv12 : Int) (t77v12 : Int) (from_0v12 : Int) (from_1v12 : Int) :
  f19_at12 K X7 low high x_0v2 x_1v2 y_0v2 y_1v2 q_0v8 q_1v8 s_0v10 s_1v10 iv12 t77v12 from_0v12 from_1v12 =
  (f19_at13 K X7 low high x_0v2 x_1v2 y_0v2 y_1v2 q_0v8 q_1v8 s_0v10 s_1v10 from_0v12 from_1v12 iv12 t77v12 (decide ((s69 (⟨s_0v10,s_1v10⟩:Frac) (⟨q_0v8,q_1v8⟩:Frac)) < (0:Int)))):=by kernel_rfl
theorem f19_eq13 (K : List PA → Prop) (X7 : St → Prop) (low : Int) (high : Int) (x_0v2 : (Sl Gate)) (x_1v2 : (Sl straight)) (y_0v2 : (Sl Gate)) (y_1v2 : (Sl straight)) (q_0v8 : Int) (q_1v8 : Int) (s_0v10 : Int) (s_1v10 : Int) (from_0v12 : Int) (from_1v12 : Int) (iv13 : Int) (t77v13 : Int) (t106v13 : Bool) :
  f19_at13 K X7 low high x_0v2 x_1v2 y_0v2 y_1v2 q_0v8 q_1v8 s_0v10 s_1v10 from_0v12 from_1v12 iv13 t77v13 t106v13 =
  (condP t106v13
   (f19_at14 K X7 low high x_0v2 x_1v2 y_0v2 y_1v2 from_0v12 from_1v12 iv13 t77v13 (decide ((s69 (⟨from_0v12,from_1v12⟩:Frac) (⟨s_0v10,s_1v10⟩:Frac))≤(0:Int))) s_0v10 s_1v10)
   (f19_at14 K X7 low high x_0v2 x_1v2 y_0v2 y_1v2 from_0v12 from_1v12 iv13 t77v13 (decide ((s69 (⟨from_0v12,from_1v12⟩:Frac) (⟨q_0v8,q_1v8⟩:Frac))≤(0:Int))) q_0v8 q_1v8)):=by kernel_rfl
theorem f19_eq14 (K : List PA → Prop) (X7 : St → Prop) (low : Int) (high : Int) (x_0v2 : (Sl Gate)) (x_1v2 : (Sl straight)) (y_0v2 : (Sl Gate)) (y_1v2 : (Sl straight)) (from_0v12 : Int) (from_1v12 : Int) (iv14 : Int) (t77v14 : Int) (t111v14 : Bool) (to_0v14 : Int) (to_1v14 : Int) :
  f19_at14 K X7 low high x_0v2 x_1v2 y_0v2 y_1v2 from_0v12 from_1v12 iv14 t77v14 t111v14 to_0v14 to_1v14 =
  (condP t111v14
   (f19_at9 K high (w64 (low+iv14)) from_0v12 from_1v12 to_0v14 to_1v14)
   (X7 (f19_g7 low high x_0v2 x_1v2 y_0v2 y_1v2 (w64 (t77v14+(1:Int))) from_0v12 from_1v12 to_0v14 to_1v14))):=by kernel_rfl
abbrev e19 (r:(Int×Frac×Frac×Int)):List PA:=[.one (.int .i64 r.1),.agg [.int .i64 r.2.1.Num,.int .i64 r.2.1.Den],.agg [.int .i64 r.2.2.1.Num,.int .i64 r.2.2.1.Den],.one (.int .i64 r.2.2.2)]
attribute [irreducible] f19_at0 f19_at1 f19_at2 f19_at3 f19_at4 f19_at5 f19_at6 f19_at7 f19_at8 f19_at9 f19_at10 f19_at11 f19_at12 f19_at13 f19_at14
def s19_at9 (high:Int) (atv9:Int) (from_0v9:Int) (from_1v9:Int) (to_0v9:Int) (to_1v9:Int):(Int×Frac×Frac×Int) :=
  (cond (decide (atv9 > high))
   ((0:Int),(⟨(0:Int),(0:Int)⟩:Frac),(⟨(0:Int),(0:Int)⟩:Frac),(5:Int))
   (atv9,(⟨from_0v9,from_1v9⟩:Frac),(⟨to_0v9,to_1v9⟩:Frac),(0:Int)))
theorem q19_at9 (K:List PA→Prop) (high:Int) (atv9:Int) (from_0v9:Int) (from_1v9:Int) (to_0v9:Int) (to_1v9:Int) (hk:K (e19 (s19_at9 high atv9 from_0v9 from_1v9 to_0v9 to_1v9))):f19_at9 K high atv9 from_0v9 from_1v9 to_0v9 to_1v9:=by
  refine ofEq (f19_eq9 K high atv9 from_0v9 from_1v9 to_0v9 to_1v9) ?_
  unfold s19_at9 at hk
  exact (condP_gt (K := fun r => K (e19 r))
   (fun hk=>hk)
   (fun hk=>hk) hk)
def s19_at14 (S7:Int→Int→Int→Int→Int→(Int×Frac×Frac×Int)) (low:Int) (high:Int) (x_0v2:(Sl Gate)) (x_1v2:(Sl straight)) (y_0v2:(Sl Gate)) (y_1v2:(Sl straight)) (from_0v12:Int) (from_1v12:Int) (iv14:Int) (t77v14:Int) (t111v14:Bool) (to_0v14:Int) (to_1v14:Int):(Int×Frac×Frac×Int) :=
  (cond t111v14
   (s19_at9 high (w64 (low+iv14)) from_0v12 from_1v12 to_0v14 to_1v14)
   (S7 (w64 (t77v14+(1:Int))) from_0v12 from_1v12 to_0v14 to_1v14))
def p19_at14 (P7:Int→Int→Int→Int→Int→Bool) (low:Int) (high:Int) (x_0v2:(Sl Gate)) (x_1v2:(Sl straight)) (y_0v2:(Sl Gate)) (y_1v2:(Sl straight)) (from_0v12:Int) (from_1v12:Int) (iv14:Int) (t77v14:Int) (t111v14:Bool) (to_0v14:Int) (to_1v14:Int):Bool :=
  (cond t111v14
   true
   (P7 (w64 (t77v14+(1:Int))) from_0v12 from_1v12 to_0v14 to_1v14))
theorem q19_at14 (K : List PA → Prop) (low : Int) (high : Int) (x_0v2 : (Sl Gate)) (x_1v2 : (Sl straight)) (y_0v2 : (Sl Gate)) (y_1v2 : (Sl straight)) (from_0v12 : Int) (from_1v12 : Int)
  (X7:St→Prop) (P7:Int→Int→Int→Int→Int→Bool) (S7:Int→Int→Int→Int→Int→(Int×Frac×Frac×Int))
  (hX7:∀ (t77v7:Int) (from_0v7:Int) (from_1v7:Int) (to_0v7:Int) (to_1v7:Int),P7 t77v7 from_0v7 from_1v7 to_0v7 to_1v7=true→K (e19 (S7 t77v7 from_0v7 from_1v7 to_0v7 to_1v7))→X7 (f19_g7 low high x_0v2 x_1v2 y_0v2 y_1v2 t77v7 from_0v7 from_1v7 to_0v7 to_1v7)) (iv14:Int) (t77v14:Int) (t111v14:Bool) (to_0v14:Int) (to_1v14:Int) (hs:p19_at14 P7 low high x_0v2 x_1v2 y_0v2 y_1v2 from_0v12 from_1v12 iv14 t77v14 t111v14 to_0v14 to_1v14=true) (hk:K (e19 (s19_at14 S7 low high x_0v2 x_1v2 y_0v2 y_1v2 from_0v12 from_1v12 iv14 t77v14 t111v14 to_0v14 to_1v14))):f19_at14 K X7 low high x_0v2 x_1v2 y_0v2 y_1v2 from_0v12 from_1v12 iv14 t77v14 t111v14 to_0v14 to_1v14:=by
  refine ofEq (f19_eq14 K X7 low high x_0v2 x_1v2 y_0v2 y_1v2 from_0v12 from_1v12 iv14 t77v14 t111v14 to_0v14 to_1v14) ?_
  unfold p19_at14 at hs
  unfold s19_at14 at hk
  exact (condB_go (K := fun r => K (e19 r))
   (fun hs hk=>(q19_at9 K high (w64 (low+iv14)) from_0v12 from_1v12 to_0v14 to_1v14 hk))
   (fun hs hk=>(hX7 (w64 (t77v14+(1:Int))) from_0v12 from_1v12 to_0v14 to_1v14 hs hk)) hs hk)
def s19_at13 (S7:Int→Int→Int→Int→Int→(Int×Frac×Frac×Int)) (low:Int) (high:Int) (x_0v2:(Sl Gate)) (x_1v2:(Sl straight)) (y_0v2:(Sl Gate)) (y_1v2:(Sl straight)) (q_0v8:Int) (q_1v8:Int) (s_0v10:Int) (s_1v10:Int) (from_0v12:Int) (from_1v12:Int) (iv13:Int) (t77v13:Int) (t106v13:Bool):(Int×Frac×Frac×Int) :=
  (cond t106v13
   (s19_at14 S7 low high x_0v2 x_1v2 y_0v2 y_1v2 from_0v12 from_1v12 iv13 t77v13 (decide ((s69 (⟨from_0v12,from_1v12⟩:Frac) (⟨s_0v10,s_1v10⟩:Frac))≤(0:Int))) s_0v10 s_1v10)
   (s19_at14 S7 low high x_0v2 x_1v2 y_0v2 y_1v2 from_0v12 from_1v12 iv13 t77v13 (decide ((s69 (⟨from_0v12,from_1v12⟩:Frac) (⟨q_0v8,q_1v8⟩:Frac))≤(0:Int))) q_0v8 q_1v8))
def p19_at13 (P7:Int→Int→Int→Int→Int→Bool) (low:Int) (high:Int) (x_0v2:(Sl Gate)) (x_1v2:(Sl straight)) (y_0v2:(Sl Gate)) (y_1v2:(Sl straight)) (q_0v8:Int) (q_1v8:Int) (s_0v10:Int) (s_1v10:Int) (from_0v12:Int) (from_1v12:Int) (iv13:Int) (t77v13:Int) (t106v13:Bool):Bool :=
  (cond t106v13
   (p19_at14 P7 low high x_0v2 x_1v2 y_0v2 y_1v2 from_0v12 from_1v12 iv13 t77v13 (decide ((s69 (⟨from_0v12,from_1v12⟩:Frac) (⟨s_0v10,s_1v10⟩:Frac))≤(0:Int))) s_0v10 s_1v10)
   (p19_at14 P7 low high x_0v2 x_1v2 y_0v2 y_1v2 from_0v12 from_1v12 iv13 t77v13 (decide ((s69 (⟨from_0v12,from_1v12⟩:Frac) (⟨q_0v8,q_1v8⟩:Frac))≤(0:Int))) q_0v8 q_1v8))
theorem q19_at13 (K : List PA → Prop) (low : Int) (high : Int) (x_0v2 : (Sl Gate)) (x_1v2 : (Sl straight)) (y_0v2 : (Sl Gate)) (y_1v2 : (Sl straight)) (q_0v8 : Int) (q_1v8 : Int) (s_0v10 : Int) (s_1v10 : Int) (from_0v12 : Int) (from_1v12 : Int)
  (X7:St→Prop) (P7:Int→Int→Int→Int→Int→Bool) (S7:Int→Int→Int→Int→Int→(Int×Frac×Frac×Int))
  (hX7:∀ (t77v7:Int) (from_0v7:Int) (from_1v7:Int) (to_0v7:Int) (to_1v7:Int),P7 t77v7 from_0v7 from_1v7 to_0v7 to_1v7=true→K (e19 (S7 t77v7 from_0v7 from_1v7 to_0v7 to_1v7))→X7 (f19_g7 low high x_0v2 x_1v2 y_0v2 y_1v2 t77v7 from_0v7 from_1v7 to_0v7 to_1v7)) (iv13:Int) (t77v13:Int) (t106v13:Bool) (hs:p19_at13 P7 low high x_0v2 x_1v2 y_0v2 y_1v2 q_0v8 q_1v8 s_0v10 s_1v10 from_0v12 from_1v12 iv13 t77v13 t106v13=true) (hk:K (e19 (s19_at13 S7 low high x_0v2 x_1v2 y_0v2 y_1v2 q_0v8 q_1v8 s_0v10 s_1v10 from_0v12 from_1v12 iv13 t77v13 t106v13))):f19_at13 K X7 low high x_0v2 x_1v2 y_0v2 y_1v2 q_0v8 q_1v8 s_0v10 s_1v10 from_0v12 from_1v12 iv13 t77v13 t106v13:=by
  refine ofEq (f19_eq13 K X7 low high x_0v2 x_1v2 y_0v2 y_1v2 q_0v8 q_1v8 s_0v10 s_1v10 from_0v12 from_1v12 iv13 t77v13 t106v13) ?_
  unfold p19_at13 at hs
  unfold s19_at13 at hk
  exact (condB_go (K := fun r => K (e19 r))
   (fun hs hk=>(q19_at14 K low high x_0v2 x_1v2 y_0v2 y_1v2 from_0v12 from_1v12 X7 P7 S7 hX7 iv13 t77v13 (decide ((s69 (⟨from_0v12,from_1v12⟩:Frac) (⟨s_0v10,s_1v10⟩:Frac))≤(0:Int))) s_0v10 s_1v10 hs hk))
   (fun hs hk=>(q19_at14 K low high x_0v2 x_1v2 y_0v2 y_1v2 from_0v12 from_1v12 X7 P7 S7 hX7 iv13 t77v13 (decide ((s69 (⟨from_0v12,from_1v12⟩:Frac) (⟨q_0v8,q_1v8⟩:Frac))≤(0:Int))) q_0v8 q_1v8 hs hk)) hs hk)
def s19_at12 (S7:Int→Int→Int→Int→Int→(Int×Frac×Frac×Int)) (low:Int) (high:Int) (x_0v2:(Sl Gate)) (x_1v2:(Sl straight)) (y_0v2:(Sl Gate)) (y_1v2:(Sl straight)) (q_0v8:Int) (q_1v8:Int) (s_0v10:Int) (s_1v10:Int) (iv12:Int) (t77v12:Int) (from_0v12:Int) (from_1v12:Int):(Int×Frac×Frac×Int) :=
  (s19_at13 S7 low high x_0v2 x_1v2 y_0v2 y_1v2 q_0v8 q_1v8 s_0v10 s_1v10 from_0v12 from_1v12 iv12 t77v12 (decide ((s69 (⟨s_0v10,s_1v10⟩:Frac) (⟨q_0v8,q_1v8⟩:Frac)) < (0:Int))))
def p19_at12 (P7:Int→Int→Int→Int→Int→Bool) (low:Int) (high:Int) (x_0v2:(Sl Gate)) (x_1v2:(Sl straight)) (y_0v2:(Sl Gate)) (y_1v2:(Sl straight)) (q_0v8:Int) (q_1v8:Int) (s_0v10:Int) (s_1v10:Int) (iv12:Int) (t77v12:Int) (from_0v12:Int) (from_1v12:Int):Bool :=
  (p19_at13 P7 low high x_0v2 x_1v2 y_0v2 y_1v2 q_0v8 q_1v8 s_0v10 s_1v10 from_0v12 from_1v12 iv12 t77v12 (decide ((s69 (⟨s_0v10,s_1v10⟩:Frac) (⟨q_0v8,q_1v8⟩:Frac)) < (0:Int))))
theorem q19_at12 (K : List PA → Prop) (low : Int) (high : Int) (x_0v2 : (Sl Gate)) (x_1v2 : (Sl straight)) (y_0v2 : (Sl Gate)) (y_1v2 : (Sl straight)) (q_0v8 : Int) (q_1v8 : Int) (s_0v10 : Int) (s_1v10 : Int)
  (X7:St→Prop) (P7:Int→Int→Int→Int→Int→Bool) (S7:Int→Int→Int→Int→Int→(Int×Frac×Frac×Int))
  (hX7:∀ (t77v7:Int) (from_0v7:Int) (from_1v7:Int) (to_0v7:Int) (to_1v7:Int),P7 t77v7 from_0v7 from_1v7 to_0v7 to_1v7=true→K (e19 (S7 t77v7 from_0v7 from_1v7 to_0v7 to_1v7))→X7 (f19_g7 low high x_0v2 x_1v2 y_0v2 y_1v2 t77v7 from_0v7 from_1v7 to_0v7 to_1v7)) (iv12:Int) (t77v12:Int) (from_0v12:Int) (from_1v12:Int) (hs:p19_at12 P7 low high x_0v2 x_1v2 y_0v2 y_1v2 q_0v8 q_1v8 s_0v10 s_1v10 iv12 t77v12 from_0v12 from_1v12=true) (hk:K (e19 (s19_at12 S7 low high x_0v2 x_1v2 y_0v2 y_1v2 q_0v8 q_1v8 s_0v10 s_1v10 iv12 t77v12 from_0v12 from_1v12))):f19_at12 K X7 low high x_0v2 x_1v2 y_0v2 y_1v2 q_0v8 q_1v8 s_0v10 s_1v10 iv12 t77v12 from_0v12 from_1v12:=by
  refine ofEq (f19_eq12 K X7 low high x_0v2 x_1v2 y_0v2 y_1v2 q_0v8 q_1v8 s_0v10 s_1v10 iv12 t77v12 from_0v12 from_1v12) ?_
  unfold p19_at12 at hs
  unfold s19_at12 at hk
  exact (q19_at13 K low high x_0v2 x_1v2 y_0v2 y_1v2 q_0v8 q_1v8 s_0v10 s_1v10 from_0v12 from_1v12 X7 P7 S7 hX7 iv12 t77v12 (decide ((s69 (⟨s_0v10,s_1v10⟩:Frac) (⟨q_0v8,q_1v8⟩:Frac)) < (0:Int))) hs hk)
def s19_at11 (S7:Int→Int→Int→Int→Int→(Int×Frac×Frac×Int)) (low:Int) (high:Int) (x_0v2:(Sl Gate)) (x_1v2:(Sl straight)) (y_0v2:(Sl Gate)) (y_1v2:(Sl straight)) (p_0v8:Int) (p_1v8:Int) (q_0v8:Int) (q_1v8:Int) (r_0v10:Int) (r_1v10:Int) (s_0v10:Int) (s_1v10:Int) (iv11:Int) (t77v11:Int) (t101v11:Bool):(Int×Frac×Frac×Int) :=
  (cond t101v11
   (s19_at12 S7 low high x_0v2 x_1v2 y_0v2 y_1v2 q_0v8 q_1v8 s_0v10 s_1v10 iv11 t77v11 r_0v10 r_1v10)
   (s19_at12 S7 low high x_0v2 x_1v2 y_0v2 y_1v2 q_0v8 q_1v8 s_0v10 s_1v10 iv11 t77v11 p_0v8 p_1v8))
def p19_at11 (P7:Int→Int→Int→Int→Int→Bool) (low:Int) (high:Int) (x_0v2:(Sl Gate)) (x_1v2:(Sl straight)) (y_0v2:(Sl Gate)) (y_1v2:(Sl straight)) (p_0v8:Int) (p_1v8:Int) (q_0v8:Int) (q_1v8:Int) (r_0v10:Int) (r_1v10:Int) (s_0v10:Int) (s_1v10:Int) (iv11:Int) (t77v11:Int) (t101v11:Bool):Bool :=
  (cond t101v11
   (p19_at12 P7 low high x_0v2 x_1v2 y_0v2 y_1v2 q_0v8 q_1v8 s_0v10 s_1v10 iv11 t77v11 r_0v10 r_1v10)
   (p19_at12 P7 low high x_0v2 x_1v2 y_0v2 y_1v2 q_0v8 q_1v8 s_0v10 s_1v10 iv11 t77v11 p_0v8 p_1v8))
theorem q19_at11 (K : List PA → Prop) (low : Int) (high : Int) (x_0v2 : (Sl Gate)) (x_1v2 : (Sl straight)) (y_0v2 : (Sl Gate)) (y_1v2 : (Sl straight)) (p_0v8 : Int) (p_1v8 : Int) (q_0v8 : Int) (q_1v8 : Int) (r_0v10 : Int) (r_1v10 : Int) (s_0v10 : Int) (s_1v10 : Int)
  (X7:St→Prop) (P7:Int→Int→Int→Int→Int→Bool) (S7:Int→Int→Int→Int→Int→(Int×Frac×Frac×Int))
  (hX7:∀ (t77v7:Int) (from_0v7:Int) (from_1v7:Int) (to_0v7:Int) (to_1v7:Int),P7 t77v7 from_0v7 from_1v7 to_0v7 to_1v7=true→K (e19 (S7 t77v7 from_0v7 from_1v7 to_0v7 to_1v7))→X7 (f19_g7 low high x_0v2 x_1v2 y_0v2 y_1v2 t77v7 from_0v7 from_1v7 to_0v7 to_1v7)) (iv11:Int) (t77v11:Int) (t101v11:Bool) (hs:p19_at11 P7 low high x_0v2 x_1v2 y_0v2 y_1v2 p_0v8 p_1v8 q_0v8 q_1v8 r_0v10 r_1v10 s_0v10 s_1v10 iv11 t77v11 t101v11=true) (hk:K (e19 (s19_at11 S7 low high x_0v2 x_1v2 y_0v2 y_1v2 p_0v8 p_1v8 q_0v8 q_1v8 r_0v10 r_1v10 s_0v10 s_1v10 iv11 t77v11 t101v11))):f19_at11 K X7 low high x_0v2 x_1v2 y_0v2 y_1v2 p_0v8 p_1v8 q_0v8 q_1v8 r_0v10 r_1v10 s_0v10 s_1v10 iv11 t77v11 t101v11:=by
  refine ofEq (f19_eq11 K X7 low high x_0v2 x_1v2 y_0v2 y_1v2 p_0v8 p_1v8 q_0v8 q_1v8 r_0v10 r_1v10 s_0v10 s_1v10 iv11 t77v11 t101v11) ?_
  unfold p19_at11 at hs
  unfold s19_at11 at hk
  exact (condB_go (K := fun r => K (e19 r))
   (fun hs hk=>(q19_at12 K low high x_0v2 x_1v2 y_0v2 y_1v2 q_0v8 q_1v8 s_0v10 s_1v10 X7 P7 S7 hX7 iv11 t77v11 r_0v10 r_1v10 hs hk))
   (fun hs hk=>(q19_at12 K low high x_0v2 x_1v2 y_0v2 y_1v2 q_0v8 q_1v8 s_0v10 s_1v10 X7 P7 S7 hX7 iv11 t77v11 p_0v8 p_1v8 hs hk)) hs hk)
def s19_at10 (S7:Int→Int→Int→Int→Int→(Int×Frac×Frac×Int)) (low:Int) (high:Int) (x_0v2:(Sl Gate)) (x_1v2:(Sl straight)) (y_0v2:(Sl Gate)) (y_1v2:(Sl straight)) (p_0v8:Int) (p_1v8:Int) (q_0v8:Int) (q_1v8:Int) (iv10:Int) (t77v10:Int) (from_0v10:Int) (from_1v10:Int) (to_0v10:Int) (to_1v10:Int) (r_0v10:Int) (r_1v10:Int) (s_0v10:Int) (s_1v10:Int):(Int×Frac×Frac×Int) :=
  (s19_at11 S7 low high x_0v2 x_1v2 y_0v2 y_1v2 p_0v8 p_1v8 q_0v8 q_1v8 r_0v10 r_1v10 s_0v10 s_1v10 iv10 t77v10 (decide ((s69 (⟨r_0v10,r_1v10⟩:Frac) (⟨p_0v8,p_1v8⟩:Frac)) > (0:Int))))
def p19_at10 (P7:Int→Int→Int→Int→Int→Bool) (low:Int) (high:Int) (x_0v2:(Sl Gate)) (x_1v2:(Sl straight)) (y_0v2:(Sl Gate)) (y_1v2:(Sl straight)) (p_0v8:Int) (p_1v8:Int) (q_0v8:Int) (q_1v8:Int) (iv10:Int) (t77v10:Int) (from_0v10:Int) (from_1v10:Int) (to_0v10:Int) (to_1v10:Int) (r_0v10:Int) (r_1v10:Int) (s_0v10:Int) (s_1v10:Int):Bool :=
  (p19_at11 P7 low high x_0v2 x_1v2 y_0v2 y_1v2 p_0v8 p_1v8 q_0v8 q_1v8 r_0v10 r_1v10 s_0v10 s_1v10 iv10 t77v10 (decide ((s69 (⟨r_0v10,r_1v10⟩:Frac) (⟨p_0v8,p_1v8⟩:Frac)) > (0:Int))))
theorem q19_at10 (K : List PA → Prop) (low : Int) (high : Int) (x_0v2 : (Sl Gate)) (x_1v2 : (Sl straight)) (y_0v2 : (Sl Gate)) (y_1v2 : (Sl straight)) (p_0v8 : Int) (p_1v8 : Int) (q_0v8 : Int) (q_1v8 : Int)
  (X7:St→Prop) (P7:Int→Int→Int→Int→Int→Bool) (S7:Int→Int→Int→Int→Int→(Int×Frac×Frac×Int))
  (hX7:∀ (t77v7:Int) (from_0v7:Int) (from_1v7:Int) (to_0v7:Int) (to_1v7:Int),P7 t77v7 from_0v7 from_1v7 to_0v7 to_1v7=true→K (e19 (S7 t77v7 from_0v7 from_1v7 to_0v7 to_1v7))→X7 (f19_g7 low high x_0v2 x_1v2 y_0v2 y_1v2 t77v7 from_0v7 from_1v7 to_0v7 to_1v7)) (iv10:Int) (t77v10:Int) (from_0v10:Int) (from_1v10:Int) (to_0v10:Int) (to_1v10:Int) (r_0v10:Int) (r_1v10:Int) (s_0v10:Int) (s_1v10:Int) (hs:p19_at10 P7 low high x_0v2 x_1v2 y_0v2 y_1v2 p_0v8 p_1v8 q_0v8 q_1v8 iv10 t77v10 from_0v10 from_1v10 to_0v10 to_1v10 r_0v10 r_1v10 s_0v10 s_1v10=true) (hk:K (e19 (s19_at10 S7 low high x_0v2 x_1v2 y_0v2 y_1v2 p_0v8 p_1v8 q_0v8 q_1v8 iv10 t77v10 from_0v10 from_1v10 to_0v10 to_1v10 r_0v10 r_1v10 s_0v10 s_1v10))):f19_at10 K X7 low high x_0v2 x_1v2 y_0v2 y_1v2 p_0v8 p_1v8 q_0v8 q_1v8 iv10 t77v10 from_0v10 from_1v10 to_0v10 to_1v10 r_0v10 r_1v10 s_0v10 s_1v10:=by
  refine ofEq (f19_eq10 K X7 low high x_0v2 x_1v2 y_0v2 y_1v2 p_0v8 p_1v8 q_0v8 q_1v8 iv10 t77v10 from_0v10 from_1v10 to_0v10 to_1v10 r_0v10 r_1v10 s_0v10 s_1v10) ?_
  unfold p19_at10 at hs
  unfold s19_at10 at hk
  exact (q19_at11 K low high x_0v2 x_1v2 y_0v2 y_1v2 p_0v8 p_1v8 q_0v8 q_1v8 r_0v10 r_1v10 s_0v10 s_1v10 X7 P7 S7 hX7 iv10 t77v10 (decide ((s69 (⟨r_0v10,r_1v10⟩:Frac) (⟨p_0v8,p_1v8⟩:Frac)) > (0:Int))) hs hk)
def s19_at8 (S7:Int→Int→Int→Int→Int→(Int×Frac×Frac×Int)) (low:Int) (high:Int) (x_0v2:(Sl Gate)) (x_1v2:(Sl straight)) (y_0v2:(Sl Gate)) (y_1v2:(Sl straight)) (iv8:Int) (t77v8:Int) (from_0v8:Int) (from_1v8:Int) (to_0v8:Int) (to_1v8:Int) (p_0v8:Int) (p_1v8:Int) (q_0v8:Int) (q_1v8:Int):(Int×Frac×Frac×Int) :=
  (s19_at10 S7 low high x_0v2 x_1v2 y_0v2 y_1v2 p_0v8 p_1v8 q_0v8 q_1v8 iv8 t77v8 from_0v8 from_1v8 to_0v8 to_1v8 (((s68 (⟨(⟨y_0v2⟩:list),y_1v2⟩:set) (w64 (low+iv8))).1).Num) (((s68 (⟨(⟨y_0v2⟩:list),y_1v2⟩:set) (w64 (low+iv8))).1).Den) (((s68 (⟨(⟨y_0v2⟩:list),y_1v2⟩:set) (w64 (low+iv8))).2).Num) (((s68 (⟨(⟨y_0v2⟩:list),y_1v2⟩:set) (w64 (low+iv8))).2).Den))
def p19_at8 (P7:Int→Int→Int→Int→Int→Bool) (low:Int) (high:Int) (x_0v2:(Sl Gate)) (x_1v2:(Sl straight)) (y_0v2:(Sl Gate)) (y_1v2:(Sl straight)) (iv8:Int) (t77v8:Int) (from_0v8:Int) (from_1v8:Int) (to_0v8:Int) (to_1v8:Int) (p_0v8:Int) (p_1v8:Int) (q_0v8:Int) (q_1v8:Int):Bool :=
  (decide ((p68 (⟨(⟨y_0v2⟩:list),y_1v2⟩:set) (w64 (low+iv8))=true)) &&
  (p19_at10 P7 low high x_0v2 x_1v2 y_0v2 y_1v2 p_0v8 p_1v8 q_0v8 q_1v8 iv8 t77v8 from_0v8 from_1v8 to_0v8 to_1v8 (((s68 (⟨(⟨y_0v2⟩:list),y_1v2⟩:set) (w64 (low+iv8))).1).Num) (((s68 (⟨(⟨y_0v2⟩:list),y_1v2⟩:set) (w64 (low+iv8))).1).Den) (((s68 (⟨(⟨y_0v2⟩:list),y_1v2⟩:set) (w64 (low+iv8))).2).Num) (((s68 (⟨(⟨y_0v2⟩:list),y_1v2⟩:set) (w64 (low+iv8))).2).Den)))
theorem q19_at8 (K : List PA → Prop) (low : Int) (high : Int) (x_0v2 : (Sl Gate)) (x_1v2 : (Sl straight)) (y_0v2 : (Sl Gate)) (y_1v2 : (Sl straight))
  (X7:St→Prop) (P7:Int→Int→Int→Int→Int→Bool) (S7:Int→Int→Int→Int→Int→(Int×Frac×Frac×Int))
  (hX7:∀ (t77v7:Int) (from_0v7:Int) (from_1v7:Int) (to_0v7:Int) (to_1v7:Int),P7 t77v7 from_0v7 from_1v7 to_0v7 to_1v7=true→K (e19 (S7 t77v7 from_0v7 from_1v7 to_0v7 to_1v7))→X7 (f19_g7 low high x_0v2 x_1v2 y_0v2 y_1v2 t77v7 from_0v7 from_1v7 to_0v7 to_1v7)) (iv8:Int) (t77v8:Int) (from_0v8:Int) (from_1v8:Int) (to_0v8:Int) (to_1v8:Int) (p_0v8:Int) (p_1v8:Int) (q_0v8:Int) (q_1v8:Int) (hs:p19_at8 P7 low high x_0v2 x_1v2 y_0v2 y_1v2 iv8 t77v8 from_0v8 from_1v8 to_0v8 to_1v8 p_0v8 p_1v8 q_0v8 q_1v8=true) (hk:K (e19 (s19_at8 S7 low high x_0v2 x_1v2 y_0v2 y_1v2 iv8 t77v8 from_0v8 from_1v8 to_0v8 to_1v8 p_0v8 p_1v8 q_0v8 q_1v8))):f19_at8 K X7 low high x_0v2 x_1v2 y_0v2 y_1v2 iv8 t77v8 from_0v8 from_1v8 to_0v8 to_1v8 p_0v8 p_1v8 q_0v8 q_1v8:=by
  refine ofEq (f19_eq8 K X7 low high x_0v2 x_1v2 y_0v2 y_1v2 iv8 t77v8 from_0v8 from_1v8 to_0v8 to_1v8 p_0v8 p_1v8 q_0v8 q_1v8) ?_
  unfold p19_at8 at hs
  unfold s19_at8 at hk
  exact (andK hs fun hc hs=>⟨⟨isE,isE,hc⟩,(q19_at10 K low high x_0v2 x_1v2 y_0v2 y_1v2 p_0v8 p_1v8 q_0v8 q_1v8 X7 P7 S7 hX7 iv8 t77v8 from_0v8 from_1v8 to_0v8 to_1v8 (((s68 (⟨(⟨y_0v2⟩:list),y_1v2⟩:set) (w64 (low+iv8))).1).Num) (((s68 (⟨(⟨y_0v2⟩:list),y_1v2⟩:set) (w64 (low+iv8))).1).Den) (((s68 (⟨(⟨y_0v2⟩:list),y_1v2⟩:set) (w64 (low+iv8))).2).Num) (((s68 (⟨(⟨y_0v2⟩:list),y_1v2⟩:set) (w64 (low+iv8))).2).Den) hs hk)⟩)
def s19_st7 (low:Int) (high:Int) (x_0v2:(Sl Gate)) (x_1v2:(Sl straight)) (y_0v2:(Sl Gate)) (y_1v2:(Sl straight)) (S7:Int→Int→Int→Int→Int→(Int×Frac×Frac×Int)) (t77v7:Int) (from_0v7:Int) (from_1v7:Int) (to_0v7:Int) (to_1v7:Int):(Int×Frac×Frac×Int) :=
  (cond (decide (t77v7 < (w64 ((w64 (high - low)) + (1:Int)))))
   (s19_at8 S7 low high x_0v2 x_1v2 y_0v2 y_1v2 t77v7 t77v7 from_0v7 from_1v7 to_0v7 to_1v7 (((s68 (⟨(⟨x_0v2⟩:list),x_1v2⟩:set) (w64 (low+t77v7))).1).Num) (((s68 (⟨(⟨x_0v2⟩:list),x_1v2⟩:set) (w64 (low+t77v7))).1).Den) (((s68 (⟨(⟨x_0v2⟩:list),x_1v2⟩:set) (w64 (low+t77v7))).2).Num) (((s68 (⟨(⟨x_0v2⟩:list),x_1v2⟩:set) (w64 (low+t77v7))).2).Den))
   (s19_at9 high (w64 (high+(1:Int))) from_0v7 from_1v7 to_0v7 to_1v7))
def p19_st7 (low:Int) (high:Int) (x_0v2:(Sl Gate)) (x_1v2:(Sl straight)) (y_0v2:(Sl Gate)) (y_1v2:(Sl straight)) (P7:Int→Int→Int→Int→Int→Bool) (t77v7:Int) (from_0v7:Int) (from_1v7:Int) (to_0v7:Int) (to_1v7:Int):Bool :=
  (cond (decide (t77v7 < (w64 ((w64 (high - low)) + (1:Int)))))
   (decide ((p68 (⟨(⟨x_0v2⟩:list),x_1v2⟩:set) (w64 (low+t77v7))=true)) &&
   (p19_at8 P7 low high x_0v2 x_1v2 y_0v2 y_1v2 t77v7 t77v7 from_0v7 from_1v7 to_0v7 to_1v7 (((s68 (⟨(⟨x_0v2⟩:list),x_1v2⟩:set) (w64 (low+t77v7))).1).Num) (((s68 (⟨(⟨x_0v2⟩:list),x_1v2⟩:set) (w64 (low+t77v7))).1).Den) (((s68 (⟨(⟨x_0v2⟩:list),x_1v2⟩:set) (w64 (low+t77v7))).2).Num) (((s68 (⟨(⟨x_0v2⟩:list),x_1v2⟩:set) (w64 (low+t77v7))).2).Den)))
   true)
def s19_lp7 (low : Int) (high : Int) (x_0v2 : (Sl Gate)) (x_1v2 : (Sl straight)) (y_0v2 : (Sl Gate)) (y_1v2 : (Sl straight)) : Nat → Int → Int → Int → Int → Int → (Int × Frac × Frac × Int)
  | 0=>fun _ _ _ _ _=>default
  | k+1=>s19_st7 low high x_0v2 x_1v2 y_0v2 y_1v2 (s19_lp7 low high x_0v2 x_1v2 y_0v2 y_1v2 k)
def p19_lp7 (low : Int) (high : Int) (x_0v2 : (Sl Gate)) (x_1v2 : (Sl straight)) (y_0v2 : (Sl Gate)) (y_1v2 : (Sl straight)) : Nat → Int → Int → Int → Int → Int → Bool
  | 0=>fun _ _ _ _ _=>false
  | k+1=>p19_st7 low high x_0v2 x_1v2 y_0v2 y_1v2 (p19_lp7 low high x_0v2 x_1v2 y_0v2 y_1v2 k)
def s19_at7 (low:Int) (high:Int) (x_0v2:(Sl Gate)) (x_1v2:(Sl straight)) (y_0v2:(Sl Gate)) (y_1v2:(Sl straight)) (t77v7:Int) (from_0v7:Int) (from_1v7:Int) (to_0v7:Int) (to_1v7:Int):(Int×Frac×Frac×Int):=s19_lp7 low high x_0v2 x_1v2 y_0v2 y_1v2 Fuel t77v7 from_0v7 from_1v7 to_0v7 to_1v7
def p19_at7 (low:Int) (high:Int) (x_0v2:(Sl Gate)) (x_1v2:(Sl straight)) (y_0v2:(Sl Gate)) (y_1v2:(Sl straight)) (t77v7:Int) (from_0v7:Int) (from_1v7:Int) (to_0v7:Int) (to_1v7:Int):Bool:=p19_lp7 low high x_0v2 x_1v2 y_0v2 y_1v2 Fuel t77v7 from_0v7 from_1v7 to_0v7 to_1v7
theorem q19_at7 (K:List PA→Prop) (low:Int) (high:Int) (x_0v2:(Sl Gate)) (x_1v2:(Sl straight)) (y_0v2:(Sl Gate)) (y_1v2:(Sl straight)) (t77v7:Int) (from_0v7:Int) (from_1v7:Int) (to_0v7:Int) (to_1v7:Int) (hs:p19_at7 low high x_0v2 x_1v2 y_0v2 y_1v2 t77v7 from_0v7 from_1v7 to_0v7 to_1v7=true) (hk:K (e19 (s19_at7 low high x_0v2 x_1v2 y_0v2 y_1v2 t77v7 from_0v7 from_1v7 to_0v7 to_1v7))):f19_at7 K low high x_0v2 x_1v2 y_0v2 y_1v2 t77v7 from_0v7 from_1v7 to_0v7 to_1v7:=by
  refine f19_loop7 K low high x_0v2 x_1v2 y_0v2 y_1v2 t77v7 from_0v7 from_1v7 to_0v7 to_1v7 ?_
  intro X7 hstep
  have key:∀ (k:Nat) (t77v7:Int) (from_0v7:Int) (from_1v7:Int) (to_0v7:Int) (to_1v7:Int),p19_lp7 low high x_0v2 x_1v2 y_0v2 y_1v2 k t77v7 from_0v7 from_1v7 to_0v7 to_1v7=true→K (e19 (s19_lp7 low high x_0v2 x_1v2 y_0v2 y_1v2 k t77v7 from_0v7 from_1v7 to_0v7 to_1v7))→X7 (f19_g7 low high x_0v2 x_1v2 y_0v2 y_1v2 t77v7 from_0v7 from_1v7 to_0v7 to_1v7):=by
    intro k
    induction k with
    | zero=>intro t77v7 from_0v7 from_1v7 to_0v7 to_1v7 hs;exact absurd hs Bool.false_ne_true
    | succ k ih =>
      intro t77v7 from_0v7 from_1v7 to_0v7 to_1v7 hs hk
      refine hstep t77v7 from_0v7 from_1v7 to_0v7 to_1v7 ?_
      have hs:p19_st7 low high x_0v2 x_1v2 y_0v2 y_1v2 (p19_lp7 low high x_0v2 x_1v2 y_0v2 y_1v2 k) t77v7 from_0v7 from_1v7 to_0v7 to_1v7=true:=hs
      have hk:K (e19 (s19_st7 low high x_0v2 x_1v2 y_0v2 y_1v2 (s19_lp7 low high x_0v2 x_1v2 y_0v2 y_1v2 k) t77v7 from_0v7 from_1v7 to_0v7 to_1v7)):=hk
      unfold p19_st7 at hs
      unfold s19_st7 at hk
      generalize s19_lp7 low high x_0v2 x_1v2 y_0v2 y_1v2 k=S7 at hk ih
      generalize p19_lp7 low high x_0v2 x_1v2 y_0v2 y_1v2 k=P7 at hs ih
      have hX7:=ih
      exact (condB_go (K := fun r => K (e19 r))
       (fun hs hk=>(andK hs fun hc hs=>⟨⟨isE,isE,hc⟩,(q19_at8 K low high x_0v2 x_1v2 y_0v2 y_1v2 X7 P7 S7 hX7 t77v7 t77v7 from_0v7 from_1v7 to_0v7 to_1v7 (((s68 (⟨(⟨x_0v2⟩:list),x_1v2⟩:set) (w64 (low+t77v7))).1).Num) (((s68 (⟨(⟨x_0v2⟩:list),x_1v2⟩:set) (w64 (low+t77v7))).1).Den) (((s68 (⟨(⟨x_0v2⟩:list),x_1v2⟩:set) (w64 (low+t77v7))).2).Num) (((s68 (⟨(⟨x_0v2⟩:list),x_1v2⟩:set) (w64 (low+t77v7))).2).Den) hs hk)⟩))
       (fun hs hk=>(q19_at9 K high (w64 (high+(1:Int))) from_0v7 from_1v7 to_0v7 to_1v7 hk)) hs hk)
  exact key _ t77v7 from_0v7 from_1v7 to_0v7 to_1v7 hs hk
def s19_at6 (low:Int) (high:Int) (x_0v2:(Sl Gate)) (x_1v2:(Sl straight)) (y_0v2:(Sl Gate)) (y_1v2:(Sl straight)):(Int×Frac×Frac×Int) :=
  (s19_at7 low high x_0v2 x_1v2 y_0v2 y_1v2 (0:Int) (0:Int) (0:Int) (0:Int) (0:Int))
def p19_at6 (low:Int) (high:Int) (x_0v2:(Sl Gate)) (x_1v2:(Sl straight)) (y_0v2:(Sl Gate)) (y_1v2:(Sl straight)):Bool :=
  (p19_at7 low high x_0v2 x_1v2 y_0v2 y_1v2 (0:Int) (0:Int) (0:Int) (0:Int) (0:Int))
theorem q19_at6 (K:List PA→Prop) (low:Int) (high:Int) (x_0v2:(Sl Gate)) (x_1v2:(Sl straight)) (y_0v2:(Sl Gate)) (y_1v2:(Sl straight)) (hs:p19_at6 low high x_0v2 x_1v2 y_0v2 y_1v2=true) (hk:K (e19 (s19_at6 low high x_0v2 x_1v2 y_0v2 y_1v2))):f19_at6 K low high x_0v2 x_1v2 y_0v2 y_1v2:=by
  refine ofEq (f19_eq6 K low high x_0v2 x_1v2 y_0v2 y_1v2) ?_
  unfold p19_at6 at hs
  unfold s19_at6 at hk
  exact (q19_at7 K low high x_0v2 x_1v2 y_0v2 y_1v2 (0:Int) (0:Int) (0:Int) (0:Int) (0:Int) hs hk)
def s19_at5 (low:Int) (high:Int) (x_0v2:(Sl Gate)) (x_1v2:(Sl straight)) (y_0v2:(Sl Gate)) (y_1v2:(Sl straight)) (t68v5:Bool):(Int×Frac×Frac×Int) :=
  (cond t68v5
   ((0:Int),(⟨(0:Int),(0:Int)⟩:Frac),(⟨(0:Int),(0:Int)⟩:Frac),(6:Int))
   (s19_at6 low high x_0v2 x_1v2 y_0v2 y_1v2))
def p19_at5 (low:Int) (high:Int) (x_0v2:(Sl Gate)) (x_1v2:(Sl straight)) (y_0v2:(Sl Gate)) (y_1v2:(Sl straight)) (t68v5:Bool):Bool :=
  (cond t68v5
   true
   (p19_at6 low high x_0v2 x_1v2 y_0v2 y_1v2))
theorem q19_at5 (K:List PA→Prop) (low:Int) (high:Int) (x_0v2:(Sl Gate)) (x_1v2:(Sl straight)) (y_0v2:(Sl Gate)) (y_1v2:(Sl straight)) (t68v5:Bool) (hs:p19_at5 low high x_0v2 x_1v2 y_0v2 y_1v2 t68v5=true) (hk:K (e19 (s19_at5 low high x_0v2 x_1v2 y_0v2 y_1v2 t68v5))):f19_at5 K low high x_0v2 x_1v2 y_0v2 y_1v2 t68v5:=by
  refine ofEq (f19_eq5 K low high x_0v2 x_1v2 y_0v2 y_1v2 t68v5) ?_
  unfold p19_at5 at hs
  unfold s19_at5 at hk
  exact (condB_go (K := fun r => K (e19 r))
   (fun hs hk=>hk)
   (fun hs hk=>(q19_at6 K low high x_0v2 x_1v2 y_0v2 y_1v2 hs hk)) hs hk)
def s19_at4 (low:Int) (high:Int) (x_0v2:(Sl Gate)) (x_1v2:(Sl straight)) (y_0v2:(Sl Gate)) (y_1v2:(Sl straight)):(Int×Frac×Frac×Int) :=
  (cond (s67 (⟨x_0v2⟩ : list))
   (s19_at5 low high x_0v2 x_1v2 y_0v2 y_1v2 true)
   (s19_at5 low high x_0v2 x_1v2 y_0v2 y_1v2 (s67 (⟨y_0v2⟩:list))))
def p19_at4 (low:Int) (high:Int) (x_0v2:(Sl Gate)) (x_1v2:(Sl straight)) (y_0v2:(Sl Gate)) (y_1v2:(Sl straight)):Bool :=
  (decide ((p67 (⟨x_0v2⟩:list)=true)) &&
  (cond (s67 (⟨x_0v2⟩ : list))
   (p19_at5 low high x_0v2 x_1v2 y_0v2 y_1v2 true)
   (decide ((p67 (⟨y_0v2⟩:list)=true)) &&
   (p19_at5 low high x_0v2 x_1v2 y_0v2 y_1v2 (s67 (⟨y_0v2⟩:list))))))
theorem q19_at4 (K:List PA→Prop) (low:Int) (high:Int) (x_0v2:(Sl Gate)) (x_1v2:(Sl straight)) (y_0v2:(Sl Gate)) (y_1v2:(Sl straight)) (hs:p19_at4 low high x_0v2 x_1v2 y_0v2 y_1v2=true) (hk:K (e19 (s19_at4 low high x_0v2 x_1v2 y_0v2 y_1v2))):f19_at4 K low high x_0v2 x_1v2 y_0v2 y_1v2:=by
  refine ofEq (f19_eq4 K low high x_0v2 x_1v2 y_0v2 y_1v2) ?_
  unfold p19_at4 at hs
  unfold s19_at4 at hk
  exact (andK hs fun hc hs => ⟨⟨isE, hc⟩, (condB_go (K := fun r => K (e19 r))
   (fun hs hk=>(q19_at5 K low high x_0v2 x_1v2 y_0v2 y_1v2 true hs hk))
   (fun hs hk=>(andK hs fun hc hs=>⟨⟨isE,hc⟩,(q19_at5 K low high x_0v2 x_1v2 y_0v2 y_1v2 (s67 (⟨y_0v2⟩:list)) hs hk)⟩)) hs hk)⟩)
def s19_at3 (low:Int) (high:Int) (x_0v2:(Sl Gate)) (x_1v2:(Sl straight)) (y_0v2:(Sl Gate)) (y_1v2:(Sl straight)) (t58v3:Bool):(Int×Frac×Frac×Int) :=
  (cond t58v3
   ((0:Int),(⟨(0:Int),(0:Int)⟩:Frac),(⟨(0:Int),(0:Int)⟩:Frac),(5:Int))
   (s19_at4 low high x_0v2 x_1v2 y_0v2 y_1v2))
def p19_at3 (low:Int) (high:Int) (x_0v2:(Sl Gate)) (x_1v2:(Sl straight)) (y_0v2:(Sl Gate)) (y_1v2:(Sl straight)) (t58v3:Bool):Bool :=
  (cond t58v3
   true
   (p19_at4 low high x_0v2 x_1v2 y_0v2 y_1v2))
theorem q19_at3 (K:List PA→Prop) (low:Int) (high:Int) (x_0v2:(Sl Gate)) (x_1v2:(Sl straight)) (y_0v2:(Sl Gate)) (y_1v2:(Sl straight)) (t58v3:Bool) (hs:p19_at3 low high x_0v2 x_1v2 y_0v2 y_1v2 t58v3=true) (hk:K (e19 (s19_at3 low high x_0v2 x_1v2 y_0v2 y_1v2 t58v3))):f19_at3 K low high x_0v2 x_1v2 y_0v2 y_1v2 t58v3:=by
  refine ofEq (f19_eq3 K low high x_0v2 x_1v2 y_0v2 y_1v2 t58v3) ?_
  unfold p19_at3 at hs
  unfold s19_at3 at hk
  exact (condB_go (K := fun r => K (e19 r))
   (fun hs hk=>hk)
   (fun hs hk=>(q19_at4 K low high x_0v2 x_1v2 y_0v2 y_1v2 hs hk)) hs hk)
def s19_at2 (low:Int) (high:Int) (x_0v2:(Sl Gate)) (x_1v2:(Sl straight)) (y_0v2:(Sl Gate)) (y_1v2:(Sl straight)):(Int×Frac×Frac×Int) :=
  (cond (!(s66 (⟨(⟨x_0v2⟩ : list), x_1v2⟩ : set)))
   (s19_at3 low high x_0v2 x_1v2 y_0v2 y_1v2 true)
   (s19_at3 low high x_0v2 x_1v2 y_0v2 y_1v2 (!(s66 (⟨(⟨y_0v2⟩:list),y_1v2⟩:set)))))
def p19_at2 (low:Int) (high:Int) (x_0v2:(Sl Gate)) (x_1v2:(Sl straight)) (y_0v2:(Sl Gate)) (y_1v2:(Sl straight)):Bool :=
  (decide ((p66 (⟨(⟨x_0v2⟩:list),x_1v2⟩:set)=true)) &&
  (cond (!(s66 (⟨(⟨x_0v2⟩ : list), x_1v2⟩ : set)))
   (p19_at3 low high x_0v2 x_1v2 y_0v2 y_1v2 true)
   (decide ((p66 (⟨(⟨y_0v2⟩:list),y_1v2⟩:set)=true)) &&
   (p19_at3 low high x_0v2 x_1v2 y_0v2 y_1v2 (!(s66 (⟨(⟨y_0v2⟩:list),y_1v2⟩:set)))))))
theorem q19_at2 (K:List PA→Prop) (low:Int) (high:Int) (x_0v2:(Sl Gate)) (x_1v2:(Sl straight)) (y_0v2:(Sl Gate)) (y_1v2:(Sl straight)) (x_0v2_g:Nat→List PV) (x_0v2_h:x_0v2_g=fun i=>enc_55 (x_0v2.get i)) (x_1v2_g:Nat→List PV) (x_1v2_h:x_1v2_g=fun i=>enc_118 (x_1v2.get i)) (y_0v2_g:Nat→List PV) (y_0v2_h:y_0v2_g=fun i=>enc_55 (y_0v2.get i)) (y_1v2_g:Nat→List PV) (y_1v2_h:y_1v2_g=fun i=>enc_118 (y_1v2.get i)) (hs:p19_at2 low high x_0v2 x_1v2 y_0v2 y_1v2=true) (hk:K (e19 (s19_at2 low high x_0v2 x_1v2 y_0v2 y_1v2))):f19_at2 K low high x_0v2.len x_0v2_g x_1v2.len x_1v2_g y_0v2.len y_0v2_g y_1v2.len y_1v2_g:=by
  subst x_0v2_h
  subst x_1v2_h
  subst y_0v2_h
  subst y_1v2_h
  refine ofEq (f19_eq2 K low high x_0v2 x_1v2 y_0v2 y_1v2) ?_
  unfold p19_at2 at hs
  unfold s19_at2 at hk
  exact (andK hs fun hc hs => ⟨⟨isE, isE, hc⟩, (condB_go (K := fun r => K (e19 r))
   (fun hs hk=>(q19_at3 K low high x_0v2 x_1v2 y_0v2 y_1v2 true hs hk))
   (fun hs hk=>(andK hs fun hc hs=>⟨⟨isE,isE,hc⟩,(q19_at3 K low high x_0v2 x_1v2 y_0v2 y_1v2 (!(s66 (⟨(⟨y_0v2⟩:list),y_1v2⟩:set))) hs hk)⟩)) hs hk)⟩)
def s19_at1 (a:(Sl Gate)) (b:(Sl Gate)) (low:Int) (high:Int):(Int×Frac×Frac×Int) :=
  (s19_at2 low high ((s65 a).list.Gates) ((s65 a).corners) ((s65 b).list.Gates) ((s65 b).corners))
def p19_at1 (a:(Sl Gate)) (b:(Sl Gate)) (low:Int) (high:Int):Bool :=
  (decide ((p65 a=true)) &&
  (decide ((p65 b=true)) &&
  (p19_at2 low high ((s65 a).list.Gates) ((s65 a).corners) ((s65 b).list.Gates) ((s65 b).corners))))
theorem q19_at1 (K:List PA→Prop) (a:(Sl Gate)) (b:(Sl Gate)) (low:Int) (high:Int) (hs:p19_at1 a b low high=true) (hk:K (e19 (s19_at1 a b low high))):f19_at1 K a b low high:=by
  refine ofEq (f19_eq1 K a b low high) ?_
  unfold p19_at1 at hs
  unfold s19_at1 at hk
  exact (andK hs fun hc hs=>⟨⟨isE,hc⟩,(andK hs fun hc hs=>⟨⟨isE,hc⟩,(q19_at2 K low high ((s65 a).list.Gates) ((s65 a).corners) ((s65 b).list.Gates) ((s65 b).corners) (fun i=>enc_55 ((s65 a).list.Gates.get i)) rfl (fun i=>enc_118 ((s65 a).corners.get i)) rfl (fun i=>enc_55 ((s65 b).list.Gates.get i)) rfl (fun i=>enc_118 ((s65 b).corners.get i)) rfl hs hk)⟩)⟩)
def s19_at0 (a:(Sl Gate)) (b:(Sl Gate)) (low:Int) (high:Int) (t44v0:Bool):(Int×Frac×Frac×Int) :=
  (cond t44v0
   ((0:Int),(⟨(0:Int),(0:Int)⟩:Frac),(⟨(0:Int),(0:Int)⟩:Frac),(2:Int))
   (s19_at1 a b low high))
def p19_at0 (a:(Sl Gate)) (b:(Sl Gate)) (low:Int) (high:Int) (t44v0:Bool):Bool :=
  (cond t44v0
   true
   (p19_at1 a b low high))
theorem q19_at0 (K:List PA→Prop) (a:(Sl Gate)) (b:(Sl Gate)) (low:Int) (high:Int) (t44v0:Bool) (hs:p19_at0 a b low high t44v0=true) (hk:K (e19 (s19_at0 a b low high t44v0))):f19_at0 K a b low high t44v0:=by
  refine ofEq (f19_eq0 K a b low high t44v0) ?_
  unfold p19_at0 at hs
  unfold s19_at0 at hk
  exact (condB_go (K := fun r => K (e19 r))
   (fun hs hk=>hk)
   (fun hs hk=>(q19_at1 K a b low high hs hk)) hs hk)
def s19 (a:(Sl Gate)) (b:(Sl Gate)) (low:Int) (high:Int):(Int×Frac×Frac×Int) :=
  (cond (decide (low < (-100000:Int)))
   (s19_at0 a b low high true)
   (cond (decide (low > high))
    (s19_at0 a b low high true)
    (cond (decide (high > (200000:Int)))
     (s19_at0 a b low high true)
     (cond (!(s64 a))
      (s19_at0 a b low high true)
      (s19_at0 a b low high (!(s64 b)))))))
def p19 (a:(Sl Gate)) (b:(Sl Gate)) (low:Int) (high:Int):Bool :=
  (cond (decide (low < (-100000:Int)))
   (p19_at0 a b low high true)
   (cond (decide (low > high))
    (p19_at0 a b low high true)
    (cond (decide (high > (200000:Int)))
     (p19_at0 a b low high true)
     (decide ((p64 a=true)) &&
     (cond (!(s64 a))
      (p19_at0 a b low high true)
      (decide ((p64 b=true)) &&
      (p19_at0 a b low high (!(s64 b)))))))))
theorem q19 (a:(Sl Gate)) (b:(Sl Gate)) (low:Int) (high:Int) (K:List PA→Prop) (hs:p19 a b low high=true) (hk:K (e19 (s19 a b low high))):vcFun Try.prog G19 ann19 19 [.one (.sl a.len 3 (fun i=>enc_55 (a.get i))),.one (.sl b.len 3 (fun i=>enc_55 (b.get i))),.one (.int .i64 low),.one (.int .i64 high)] K:=by
  refine ofEq (f19_top a b low high K) ?_
  unfold p19 at hs
  unfold s19 at hk
  exact (condB_go (K := fun r => K (e19 r))
   (fun hs hk=>(q19_at0 K a b low high true hs hk))
   (fun hs hk => (condB_go (K := fun r => K (e19 r))
    (fun hs hk=>(q19_at0 K a b low high true hs hk))
    (fun hs hk => (condB_go (K := fun r => K (e19 r))
     (fun hs hk=>(q19_at0 K a b low high true hs hk))
     (fun hs hk => (andK hs fun hc hs => ⟨⟨isE, hc⟩, (condB_go (K := fun r => K (e19 r))
      (fun hs hk=>(q19_at0 K a b low high true hs hk))
      (fun hs hk=>(andK hs fun hc hs=>⟨⟨isE,hc⟩,(q19_at0 K a b low high (!(s64 b)) hs hk)⟩)) hs hk)⟩)) hs hk)) hs hk)) hs hk)
def ctr19 : List PA → COut
  | [.one (.sl a0_n a0_s a0_g),.one (.sl a1_n a1_s a1_g),.one (.int .i64 a2),.one (.int .i64 a3)]=>.det (IsE enc_55 3 a0_s a0_g∧IsE enc_55 3 a1_s a1_g∧p19 (⟨a0_n,decF_55 a0_g⟩:(Sl Gate)) (⟨a1_n,decF_55 a1_g⟩:(Sl Gate)) a2 a3=true) [.one (.int .i64 ((s19 (⟨a0_n,decF_55 a0_g⟩:(Sl Gate)) (⟨a1_n,decF_55 a1_g⟩:(Sl Gate)) a2 a3).1)),.agg [.int .i64 (((s19 (⟨a0_n,decF_55 a0_g⟩:(Sl Gate)) (⟨a1_n,decF_55 a1_g⟩:(Sl Gate)) a2 a3).2.1).Num),.int .i64 (((s19 (⟨a0_n,decF_55 a0_g⟩:(Sl Gate)) (⟨a1_n,decF_55 a1_g⟩:(Sl Gate)) a2 a3).2.1).Den)],.agg [.int .i64 (((s19 (⟨a0_n,decF_55 a0_g⟩:(Sl Gate)) (⟨a1_n,decF_55 a1_g⟩:(Sl Gate)) a2 a3).2.2.1).Num),.int .i64 (((s19 (⟨a0_n,decF_55 a0_g⟩:(Sl Gate)) (⟨a1_n,decF_55 a1_g⟩:(Sl Gate)) a2 a3).2.2.1).Den)],.one (.int .i64 ((s19 (⟨a0_n,decF_55 a0_g⟩:(Sl Gate)) (⟨a1_n,decF_55 a1_g⟩:(Sl Gate)) a2 a3).2.2.2))]
  | _=>.no
theorem call19:Callable Try.prog 19:=⟨_,rfl,rfl,by kernel_rfl⟩
theorem ok19:Ok Try.prog 19 ctr19:=ok_tab okT19 call19 fun args K h=>by
  unfold ctr19 at h
  split at h
  · rename_i a0_n a0_s a0_g a1_n a1_s a1_g a2 a3
    obtain ⟨⟨⟨rfl,a0_f,rfl⟩,⟨rfl,a1_f,rfl⟩,hs⟩,hk⟩:=h
    try rw [decF_enc_55 a0_f] at hs
    try rw [decF_enc_55 a0_f] at hk
    try rw [decF_enc_55 a1_f] at hs
    try rw [decF_enc_55 a1_f] at hk
    exact ⟨(fun _ _=>[]),(fun _=>false),ann19,q19 (⟨a0_n,a0_f⟩:(Sl Gate)) (⟨a1_n,a1_f⟩:(Sl Gate)) a2 a3 K hs hk⟩
  · exact h.elim
end Go.Proofs
namespace Go.Proofs
open Go Go.Pm
set_option maxRecDepth 100000
set_option linter.unusedVariables false
attribute [local irreducible] Go.Pm.vcFun Go.Pm.vc Go.Pm.vcIter
abbrev T92:Tabs:=((Tabs.nil.addF 64 ctr64).addF 74 ctr74)
theorem okT92:TabsOk Try.prog T92:=((TabsOk.nil.addF ok64).addF ok74)
abbrev G92:Ctrs:=csm T92 (fun _ _=>[]) (fun _=>false)
def ann92:Ann:=⟨41,[(0,⟨[0],[],[],[],[],[],[]⟩),(1,⟨[0,5,6,7],[],[],[],[],[],[]⟩),(2,⟨[0,5,6,7,8],[],[],[],[],[],[]⟩),(3,⟨[0,3,4,5,6,7],[4],[],[],[],[],[]⟩),(4,⟨[0,5,6,7,32],[],[],[],[],[],[]⟩),(5,⟨[2],[],[],[],[],[],[]⟩),(6,⟨[0,5,6,7],[],[],[],[],[],[]⟩),(7,⟨[2],[],[],[],[],[],[]⟩)],
  [(2,⟨[0,5,6,7],[],[],[],[],[],[]⟩)],
  [],
  [],[]⟩
def f92_g0 (gates:(Sl Gate)) (t7v0:Int):St:=⟨[(0,.one (.c (.p (.sl gates.len 3 (fun i=>enc_55 (gates.get i)))))),(5,.one (.c (.p (.sl gates.len 3 (fun i=>enc_55 (gates.get i)))))),(6,.one (.c (.p (.int .i64 (gates.len:Int))))),(7,.one (.c (.p (.int .i64 t7v0))))],[],[]⟩
def f92_at0 (K:List PA→Prop) (gates:(Sl Gate)) (t7v0:Int):Prop:=vc Try.prog G92 ann92 (cdF Try.f92 [1,0,1,0]) (blockK 0 (sqK Try.prog G92 ann92 (cdF Try.f92 [1,1]) (bodyK Try.prog Try.f92 K))) (f92_g0 gates t7v0)
theorem f92_top (gates : (Sl Gate)) (K : List PA → Prop) :
  vcFun Try.prog G92 ann92 92 [.one (.sl gates.len 3 (fun i=>enc_55 (gates.get i)))] K =
  (f92_at0 K gates (0:Int)):=by kernel_rfl
def f92_step0 (K:List PA→Prop) (X0:St→Prop) (gates:(Sl Gate)) (t7v0:Int):Prop :=
  (condP (decide (t7v0 < (gates.len : Int)))
   (((0≤t7v0∧t7v0 < (gates.len:Int))) ∧
   (condP (decide ((w64 ((gates.get t7v0.toNat).High - (gates.get t7v0.toNat).Low)) > (60:Int)))
    (K [.one (.bool false)])
    (condP (decide (t7v0 > (0:Int)))
     (((0≤(w64 (t7v0 - (1:Int)))∧(w64 (t7v0 - (1:Int))) < (gates.len:Int))) ∧
     (condP (decide ((gates.get t7v0.toNat).Z ≤ (gates.get ((w64 (t7v0 - (1:Int))).toNat)).Z))
      (K [.one (.bool false)])
      (X0 (f92_g0 gates (w64 (t7v0+(1:Int)))))))
     (X0 (f92_g0 gates (w64 (t7v0+(1:Int))))))))
   (condP (s74 (gates.len : Int) (2:Int) (8:Int))
    ((IsE enc_55 3 3 (fun i=>enc_55 (gates.get i))∧(p64 gates=true)) ∧
    (K [.one (.bool (s64 gates))]))
    (K [.one (.bool false)])))
theorem f92_stepeq0 (K : List PA → Prop) (X0 : St → Prop) (gates : (Sl Gate)) (t7v0 : Int) :
  vc Try.prog G92 ann92 (cd (cdF Try.f92 [1,0,1,0]) [0]) (loopK Try.prog ann92 2 X0 (blockK 0 (sqK Try.prog G92 ann92 (cdF Try.f92 [1,1]) (bodyK Try.prog Try.f92 K)))) (f92_g0 gates t7v0) =
  f92_step0 K X0 gates t7v0:=by kernel_rfl
theorem f92_loop0 (K : List PA → Prop) (gates : (Sl Gate)) (t7v0 : Int)
  (h:∀ X0:St→Prop,(∀ (t7v0:Int),f92_step0 K X0 gates t7v0→X0 (f92_g0 gates t7v0))→X0 (f92_g0 gates t7v0)) :
  f92_at0 K gates t7v0:=by
  have e:f92_at0 K gates t7v0=(∀ X:St→Prop,(∀ s,vc Try.prog G92 ann92 (cd (cdF Try.f92 [1,0,1,0]) [0]) (loopK Try.prog ann92 2 X (blockK 0 (sqK Try.prog G92 ann92 (cdF Try.f92 [1,1]) (bodyK Try.prog Try.f92 K)))) s→X s)→X (f92_g0 gates t7v0)):=by kernel_rfl
  refine ofEq e ?_
  intro X hX
  refine h X ?_
  intro t7v0 hs
  refine hX _ ?_
  have e2:=f92_stepeq0 K X gates t7v0
  rw [e2]
  exact hs
abbrev e92 (r:Bool):List PA:=[.one (.bool r)]
attribute [irreducible] f92_at0
def s92_st0 (gates:(Sl Gate)) (S0:Int→Bool) (t7v0:Int):Bool :=
  (cond (decide (t7v0 < (gates.len : Int)))
   (cond (decide ((w64 ((gates.get t7v0.toNat).High - (gates.get t7v0.toNat).Low)) > (60:Int)))
    false
    (cond (decide (t7v0 > (0:Int)))
     (cond (decide ((gates.get t7v0.toNat).Z ≤ (gates.get ((w64 (t7v0 - (1:Int))).toNat)).Z))
      false
      (S0 (w64 (t7v0+(1:Int)))))
     (S0 (w64 (t7v0+(1:Int))))))
   (cond (s74 (gates.len : Int) (2:Int) (8:Int))
    (s64 gates)
    false))
def p92_st0 (gates:(Sl Gate)) (P0:Int→Bool) (t7v0:Int):Bool :=
  (cond (decide (t7v0 < (gates.len : Int)))
   (decide ((0≤t7v0∧t7v0 < (gates.len:Int))) &&
   (cond (decide ((w64 ((gates.get t7v0.toNat).High - (gates.get t7v0.toNat).Low)) > (60:Int)))
    true
    (cond (decide (t7v0 > (0:Int)))
     (decide ((0≤(w64 (t7v0 - (1:Int)))∧(w64 (t7v0 - (1:Int))) < (gates.len:Int))) &&
     (cond (decide ((gates.get t7v0.toNat).Z ≤ (gates.get ((w64 (t7v0 - (1:Int))).toNat)).Z))
      true
      (P0 (w64 (t7v0+(1:Int))))))
     (P0 (w64 (t7v0+(1:Int)))))))
   (cond (s74 (gates.len : Int) (2:Int) (8:Int))
    (decide ((p64 gates=true)) &&
    true)
    true))
def s92_lp0 (gates : (Sl Gate)) : Nat → Int → Bool
  | 0=>fun _=>default
  | k+1=>s92_st0 gates (s92_lp0 gates k)
def p92_lp0 (gates : (Sl Gate)) : Nat → Int → Bool
  | 0=>fun _=>false
  | k+1=>p92_st0 gates (p92_lp0 gates k)
def s92_at0 (gates:(Sl Gate)) (t7v0:Int):Bool:=s92_lp0 gates Fuel t7v0
def p92_at0 (gates:(Sl Gate)) (t7v0:Int):Bool:=p92_lp0 gates Fuel t7v0
theorem q92_at0 (K:List PA→Prop) (gates:(Sl Gate)) (t7v0:Int) (hs:p92_at0 gates t7v0=true) (hk:K (e92 (s92_at0 gates t7v0))):f92_at0 K gates t7v0:=by
  refine f92_loop0 K gates t7v0 ?_
  intro X0 hstep
  have key:∀ (k:Nat) (t7v0:Int),p92_lp0 gates k t7v0=true→K (e92 (s92_lp0 gates k t7v0))→X0 (f92_g0 gates t7v0):=by
    intro k
    induction k with
    | zero=>intro t7v0 hs;exact absurd hs Bool.false_ne_true
    | succ k ih =>
      intro t7v0 hs hk
      refine hstep t7v0 ?_
      have hs:p92_st0 gates (p92_lp0 gates k) t7v0=true:=hs
      have hk:K (e92 (s92_st0 gates (s92_lp0 gates k) t7v0)):=hk
      unfold p92_st0 at hs
      unfold s92_st0 at hk
      generalize s92_lp0 gates k=S0 at hk ih
      generalize p92_lp0 gates k=P0 at hs ih
      have hX0:=ih
      exact (condB_go (K := fun r => K (e92 r))
       (fun hs hk => (andK hs fun hc hs => ⟨hc, (condB_go (K := fun r => K (e92 r))
        (fun hs hk=>hk)
        (fun hs hk => (condB_go (K := fun r => K (e92 r))
         (fun hs hk => (andK hs fun hc hs => ⟨hc, (condB_go (K := fun r => K (e92 r))
          (fun hs hk=>hk)
          (fun hs hk=>(hX0 (w64 (t7v0+(1:Int))) hs hk)) hs hk)⟩))
         (fun hs hk=>(hX0 (w64 (t7v0+(1:Int))) hs hk)) hs hk)) hs hk)⟩))
       (fun hs hk => (condB_go (K := fun r => K (e92 r))
        (fun hs hk=>(andK hs fun hc hs=>⟨⟨isE,hc⟩,hk⟩))
        (fun hs hk=>hk) hs hk)) hs hk)
  exact key _ t7v0 hs hk
def s92 (gates:(Sl Gate)):Bool :=
  (s92_at0 gates (0:Int))
def p92 (gates:(Sl Gate)):Bool :=
  (p92_at0 gates (0:Int))
theorem q92 (gates:(Sl Gate)) (K:List PA→Prop) (hs:p92 gates=true) (hk:K (e92 (s92 gates))):vcFun Try.prog G92 ann92 92 [.one (.sl gates.len 3 (fun i=>enc_55 (gates.get i)))] K:=by
  refine ofEq (f92_top gates K) ?_
  unfold p92 at hs
  unfold s92 at hk
  exact (q92_at0 K gates (0:Int) hs hk)
def ctr92 : List PA → COut
  | [.one (.sl a0_n a0_s a0_g)]=>.det (IsE enc_55 3 a0_s a0_g∧p92 (⟨a0_n,decF_55 a0_g⟩:(Sl Gate))=true) [.one (.bool (s92 (⟨a0_n,decF_55 a0_g⟩:(Sl Gate))))]
  | _=>.no
theorem call92:Callable Try.prog 92:=⟨_,rfl,rfl,by kernel_rfl⟩
theorem ok92:Ok Try.prog 92 ctr92:=ok_tab okT92 call92 fun args K h=>by
  unfold ctr92 at h
  split at h
  · rename_i a0_n a0_s a0_g
    obtain ⟨⟨⟨rfl,a0_f,rfl⟩,hs⟩,hk⟩:=h
    try rw [decF_enc_55 a0_f] at hs
    try rw [decF_enc_55 a0_f] at hk
    exact ⟨(fun _ _=>[]),(fun _=>false),ann92,q92 (⟨a0_n,a0_f⟩:(Sl Gate)) K hs hk⟩
  · exact h.elim
end Go.Proofs
namespace Go.Proofs
open Go Go.Pm
set_option maxRecDepth 100000
set_option linter.unusedVariables false
attribute [local irreducible] Go.Pm.vcFun Go.Pm.vc Go.Pm.vcIter
abbrev T93:Tabs:=(Tabs.nil.addF 85 ctr85)
theorem okT93:TabsOk Try.prog T93:=(TabsOk.nil.addF ok85)
abbrev G93:Ctrs:=csm T93 (fun _ _=>[]) (fun l=>Nat.beq l 15 || Nat.beq l 24)
def ann93:Ann:=⟨131,[(0,⟨[0],[],[],[],[],[],[]⟩),(1,⟨[0,3],[],[],[],[],[],[]⟩),(2,⟨[0,3,4],[15],[],[],[],[],[]⟩),(3,⟨[0,3,4,5],[15],[],[],[],[],[]⟩),(4,⟨[0,3,4,5,19],[15],[],[],[],[],[]⟩),(5,⟨[0,3,4,5],[15],[],[],[],[],[]⟩),(6,⟨[0,3,4,5],[15],[],[],[],[],[]⟩),(7,⟨[0,3,4,5,6],[15],[],[],[],[],[]⟩),(8,⟨[0,3,4,5,6,37],[15],[],[],[],[],[]⟩),(9,⟨[0,3,4,5,6],[15],[],[],[],[],[]⟩),(10,⟨[0,3,4,5,6,7],[15],[],[],[],[],[]⟩),(11,⟨[0,3,4,5,6,7,53],[15],[],[],[],[],[]⟩),(12,⟨[0,3,4,5,6,7],[15],[],[],[],[],[]⟩),(13,⟨[0,3,4,5,6,7,59],[15],[],[],[],[],[]⟩),(14,⟨[0,3,4,5,6,7],[15],[],[],[],[],[]⟩),(15,⟨[0,3,4,5,6,7,8],[15],[],[],[],[],[]⟩),(16,⟨[0,3,4,5,6,7,8,9],[15],[],[],[],[],[]⟩),(17,⟨[0,3,4,5,6,7,8,9,80],[15],[],[],[],[],[]⟩),(18,⟨[0,3,4,5,6,7,8,9],[15],[],[],[],[],[]⟩),(19,⟨[0,3,4,5,6,7,8,9,10],[15],[],[],[],[],[]⟩),(20,⟨[0,3,4,5,6,7,8,9,10,120],[15],[],[],[],[],[]⟩),(21,⟨[0,3,4,5,6,7,8,9],[15],[],[],[],[],[]⟩),(22,⟨[0,3,4,5,6,7],[15],[],[],[],[],[]⟩),(23,⟨[2],[15],[],[],[],[],[]⟩)],
  [(4,⟨[0,3,4,5],[15],[],[],[],[],[]⟩),(8,⟨[0,3,4,5,6],[15],[],[],[],[],[]⟩),(11,⟨[0,3,4,5,6,7],[15],[],[],[],[],[]⟩),(17,⟨[0,3,4,5,6,7,8,9],[15],[],[],[],[],[]⟩)],
  [(15,⟨[0,3,4,5,6,7],[15],[],[],[],[],[]⟩),(20,⟨[0,3,4,5,6,7,8,9,10],[15],[],[],[],[],[]⟩)],
  [],[]⟩
def f93_g0 (gates:(Sl Gate)) (iv0:Int) (u15v0_n:Nat) (u15v0_mk:(Nat→Bool)) (u15v0_nn:(Nat→Nat)) (u15v0_F:(Nat→List Int→Option (List Int))):St:=⟨[(0,.one (.c (.p (.sl gates.len 3 (fun i=>enc_55 (gates.get i)))))),(3,.one (.c (.p (.int .i64 (gates.len:Int))))),(4,.one (.c (.vec 15))),(5,.one (.c (.p (.int .i64 iv0))))],[(15,.vm 129 8 131 3 (true,2,false,[some .i64]) u15v0_n u15v0_mk u15v0_nn u15v0_F)],[]⟩
def f93_at0 (K:List PA→Prop) (gates:(Sl Gate)) (iv0:Int) (u15v0_n:Nat) (u15v0_mk:(Nat→Bool)) (u15v0_nn:(Nat→Nat)) (u15v0_F:(Nat→List Int→Option (List Int))):Prop:=vc Try.prog G93 ann93 (cdF Try.f93 [1,1,1,0,1,0]) (blockK 0 (sqK Try.prog G93 ann93 (cdF Try.f93 [1,1,1,1]) (bodyK Try.prog Try.f93 K))) (f93_g0 gates iv0 u15v0_n u15v0_mk u15v0_nn u15v0_F)
def f93_g1 (gates:(Sl Gate)) (iv1:Int) (pv1:Int) (u15v1_n:Nat) (u15v1_mk:(Nat→Bool)) (u15v1_nn:(Nat→Nat)) (u15v1_F:(Nat→List Int→Option (List Int))):St:=⟨[(0,.one (.c (.p (.sl gates.len 3 (fun i=>enc_55 (gates.get i)))))),(3,.one (.c (.p (.int .i64 (gates.len:Int))))),(4,.one (.c (.vec 15))),(5,.one (.c (.p (.int .i64 iv1)))),(6,.one (.c (.p (.int .i64 pv1))))],[(15,.vm 129 8 131 3 (true,2,false,[some .i64]) u15v1_n u15v1_mk u15v1_nn u15v1_F)],[]⟩
def f93_at1 (K:List PA→Prop) (X0:St→Prop) (gates:(Sl Gate)) (iv1:Int) (pv1:Int) (u15v1_n:Nat) (u15v1_mk:(Nat→Bool)) (u15v1_nn:(Nat→Nat)) (u15v1_F:(Nat→List Int→Option (List Int))):Prop:=vc Try.prog G93 ann93 (cdF Try.f93 [1,1,1,0,1,0,0,1,0,0,1,1,0]) (blockK 2 (blockK 1 (sqK Try.prog G93 ann93 (cdF Try.f93 [1,1,1,0,1,0,0,1,1]) (loopK Try.prog ann93 4 X0 (blockK 0 (sqK Try.prog G93 ann93 (cdF Try.f93 [1,1,1,1]) (bodyK Try.prog Try.f93 K))))))) (f93_g1 gates iv1 pv1 u15v1_n u15v1_mk u15v1_nn u15v1_F)
def f93_g2 (gates:(Sl Gate)) (iv2:Int) (pv2:Int) (qv2:Int) (u15v2_n:Nat) (u15v2_mk:(Nat→Bool)) (u15v2_nn:(Nat→Nat)) (u15v2_F:(Nat→List Int→Option (List Int))):St:=⟨[(0,.one (.c (.p (.sl gates.len 3 (fun i=>enc_55 (gates.get i)))))),(3,.one (.c (.p (.int .i64 (gates.len:Int))))),(4,.one (.c (.vec 15))),(5,.one (.c (.p (.int .i64 iv2)))),(6,.one (.c (.p (.int .i64 pv2)))),(7,.one (.c (.p (.int .i64 qv2))))],[(15,.vm 129 8 131 3 (true,2,false,[some .i64]) u15v2_n u15v2_mk u15v2_nn u15v2_F)],[]⟩
def f93_at2 (K:List PA→Prop) (X0:St→Prop) (X1:St→Prop) (gates:(Sl Gate)) (iv2:Int) (pv2:Int) (qv2:Int) (u15v2_n:Nat) (u15v2_mk:(Nat→Bool)) (u15v2_nn:(Nat→Nat)) (u15v2_F:(Nat→List Int→Option (List Int))):Prop:=vc Try.prog G93 ann93 (cdF Try.f93 [1,1,1,0,1,0,0,1,0,0,1,1,0,0,1,0,0,1,0]) (blockK 4 (blockK 3 (sqK Try.prog G93 ann93 (cdF Try.f93 [1,1,1,0,1,0,0,1,0,0,1,1,0,0,1,1]) (loopK Try.prog ann93 8 X1 (blockK 2 (blockK 1 (sqK Try.prog G93 ann93 (cdF Try.f93 [1,1,1,0,1,0,0,1,1]) (loopK Try.prog ann93 4 X0 (blockK 0 (sqK Try.prog G93 ann93 (cdF Try.f93 [1,1,1,1]) (bodyK Try.prog Try.f93 K))))))))))) (f93_g2 gates iv2 pv2 qv2 u15v2_n u15v2_mk u15v2_nn u15v2_F)
def f93_g3 (gates:(Sl Gate)) (iv3:Int) (pv3:Int) (qv3:Int) (u15v3_n:Nat) (u15v3_mk:(Nat→Bool)) (u15v3_nn:(Nat→Nat)) (u15v3_F:(Nat→List Int→Option (List Int))):St:=⟨[(0,.one (.c (.p (.sl gates.len 3 (fun i=>enc_55 (gates.get i)))))),(3,.one (.c (.p (.int .i64 (gates.len:Int))))),(4,.one (.c (.vec 15))),(5,.one (.c (.p (.int .i64 iv3)))),(6,.one (.c (.p (.int .i64 pv3)))),(7,.one (.c (.p (.int .i64 qv3))))],[(15,.vm 129 8 131 3 (true,2,false,[some .i64]) u15v3_n u15v3_mk u15v3_nn u15v3_F)],[]⟩
def f93_at3 (K:List PA→Prop) (X0:St→Prop) (X1:St→Prop) (X2:St→Prop) (gates:(Sl Gate)) (iv3:Int) (pv3:Int) (qv3:Int) (u15v3_n:Nat) (u15v3_mk:(Nat→Bool)) (u15v3_nn:(Nat→Nat)) (u15v3_F:(Nat→List Int→Option (List Int))):Prop:=vc Try.prog G93 ann93 (cdF Try.f93 [1,1,1,0,1,0,0,1,0,0,1,1,0,0,1,0,0,1,0,0,1,0,0,1]) (blockK 5 (sqK Try.prog G93 ann93 (cdF Try.f93 [1,1,1,0,1,0,0,1,0,0,1,1,0,0,1,0,0,1,0,0,1,1]) (loopK Try.prog ann93 11 X2 (blockK 4 (blockK 3 (sqK Try.prog G93 ann93 (cdF Try.f93 [1,1,1,0,1,0,0,1,0,0,1,1,0,0,1,1]) (loopK Try.prog ann93 8 X1 (blockK 2 (blockK 1 (sqK Try.prog G93 ann93 (cdF Try.f93 [1,1,1,0,1,0,0,1,1]) (loopK Try.prog ann93 4 X0 (blockK 0 (sqK Try.prog G93 ann93 (cdF Try.f93 [1,1,1,1]) (bodyK Try.prog Try.f93 K)))))))))))))) (f93_g3 gates iv3 pv3 qv3 u15v3_n u15v3_mk u15v3_nn u15v3_F)
def f93_g4 (gates:(Sl Gate)) (qv3:Int) (iv4:Int) (pv4:Int) (bestv4:Int) (rv4:Int) (u15v4_n:Nat) (u15v4_mk:(Nat→Bool)) (u15v4_nn:(Nat→Nat)) (u15v4_F:(Nat→List Int→Option (List Int))):St:=⟨[(0,.one (.c (.p (.sl gates.len 3 (fun i=>enc_55 (gates.get i)))))),(3,.one (.c (.p (.int .i64 (gates.len:Int))))),(4,.one (.c (.vec 15))),(5,.one (.c (.p (.int .i64 iv4)))),(6,.one (.c (.p (.int .i64 pv4)))),(7,.one (.c (.p (.int .i64 qv3)))),(8,.one (.c (.p (.int .i64 bestv4)))),(9,.one (.c (.p (.int .i64 rv4))))],[(15,.vm 129 8 131 3 (true,2,false,[some .i64]) u15v4_n u15v4_mk u15v4_nn u15v4_F)],[]⟩
def f93_at4 (K:List PA→Prop) (X0:St→Prop) (X1:St→Prop) (X2:St→Prop) (gates:(Sl Gate)) (qv3:Int) (iv4:Int) (pv4:Int) (bestv4:Int) (rv4:Int) (u15v4_n:Nat) (u15v4_mk:(Nat→Bool)) (u15v4_nn:(Nat→Nat)) (u15v4_F:(Nat→List Int→Option (List Int))):Prop:=vc Try.prog G93 ann93 (cdF Try.f93 [1,1,1,0,1,0,0,1,0,0,1,1,0,0,1,0,0,1,0,0,1,0,0,1,1,0,1,0]) (blockK 6 (sqK Try.prog G93 ann93 (cdF Try.f93 [1,1,1,0,1,0,0,1,0,0,1,1,0,0,1,0,0,1,0,0,1,0,0,1,1,1]) (blockK 5 (sqK Try.prog G93 ann93 (cdF Try.f93 [1,1,1,0,1,0,0,1,0,0,1,1,0,0,1,0,0,1,0,0,1,1]) (loopK Try.prog ann93 11 X2 (blockK 4 (blockK 3 (sqK Try.prog G93 ann93 (cdF Try.f93 [1,1,1,0,1,0,0,1,0,0,1,1,0,0,1,1]) (loopK Try.prog ann93 8 X1 (blockK 2 (blockK 1 (sqK Try.prog G93 ann93 (cdF Try.f93 [1,1,1,0,1,0,0,1,1]) (loopK Try.prog ann93 4 X0 (blockK 0 (sqK Try.prog G93 ann93 (cdF Try.f93 [1,1,1,1]) (bodyK Try.prog Try.f93 K)))))))))))))))) (f93_g4 gates qv3 iv4 pv4 bestv4 rv4 u15v4_n u15v4_mk u15v4_nn u15v4_F)
def f93_g5 (gates:(Sl Gate)) (qv3:Int) (iv5:Int) (pv5:Int) (bestv5:Int) (rv5:Int) (kv5:Int) (u15v5_n:Nat) (u15v5_mk:(Nat→Bool)) (u15v5_nn:(Nat→Nat)) (u15v5_F:(Nat→List Int→Option (List Int))):St:=⟨[(0,.one (.c (.p (.sl gates.len 3 (fun i=>enc_55 (gates.get i)))))),(3,.one (.c (.p (.int .i64 (gates.len:Int))))),(4,.one (.c (.vec 15))),(5,.one (.c (.p (.int .i64 iv5)))),(6,.one (.c (.p (.int .i64 pv5)))),(7,.one (.c (.p (.int .i64 qv3)))),(8,.one (.c (.p (.int .i64 bestv5)))),(9,.one (.c (.p (.int .i64 rv5)))),(10,.one (.c (.p (.int .i64 kv5))))],[(15,.vm 129 8 131 3 (true,2,false,[some .i64]) u15v5_n u15v5_mk u15v5_nn u15v5_F)],[]⟩
def f93_at5 (K:List PA→Prop) (X0:St→Prop) (X1:St→Prop) (X2:St→Prop) (X4:St→Prop) (gates:(Sl Gate)) (qv3:Int) (iv5:Int) (pv5:Int) (bestv5:Int) (rv5:Int) (kv5:Int) (u15v5_n:Nat) (u15v5_mk:(Nat→Bool)) (u15v5_nn:(Nat→Nat)) (u15v5_F:(Nat→List Int→Option (List Int))):Prop:=vc Try.prog G93 ann93 (cdF Try.f93 [1,1,1,0,1,0,0,1,0,0,1,1,0,0,1,0,0,1,0,0,1,0,0,1,1,0,1,0,0,1,0,0,1]) (blockK 7 (sqK Try.prog G93 ann93 (cdF Try.f93 [1,1,1,0,1,0,0,1,0,0,1,1,0,0,1,0,0,1,0,0,1,0,0,1,1,0,1,0,0,1,1]) (loopK Try.prog ann93 17 X4 (blockK 6 (sqK Try.prog G93 ann93 (cdF Try.f93 [1,1,1,0,1,0,0,1,0,0,1,1,0,0,1,0,0,1,0,0,1,0,0,1,1,1]) (blockK 5 (sqK Try.prog G93 ann93 (cdF Try.f93 [1,1,1,0,1,0,0,1,0,0,1,1,0,0,1,0,0,1,0,0,1,1]) (loopK Try.prog ann93 11 X2 (blockK 4 (blockK 3 (sqK Try.prog G93 ann93 (cdF Try.f93 [1,1,1,0,1,0,0,1,0,0,1,1,0,0,1,1]) (loopK Try.prog ann93 8 X1 (blockK 2 (blockK 1 (sqK Try.prog G93 ann93 (cdF Try.f93 [1,1,1,0,1,0,0,1,1]) (loopK Try.prog ann93 4 X0 (blockK 0 (sqK Try.prog G93 ann93 (cdF Try.f93 [1,1,1,1]) (bodyK Try.prog Try.f93 K))))))))))))))))))) (f93_g5 gates qv3 iv5 pv5 bestv5 rv5 kv5 u15v5_n u15v5_mk u15v5_nn u15v5_F)
theorem f93_top (gates : (Sl Gate)) (K : List PA → Prop) :
  vcFun Try.prog G93 ann93 93 [.one (.sl gates.len 3 (fun i=>enc_55 (gates.get i)))] K =
  (((0≤(w64 ((gates.len:Int) - (1:Int)))∧(w64 ((gates.len:Int) - (1:Int)))=(w64 ((gates.len:Int) - (1:Int)))∧(w64 ((gates.len:Int) - (1:Int)))≤1000000)) ∧
  (f93_at0 K gates (w64 ((gates.len:Int) - (2:Int))) ((w64 ((gates.len:Int) - (1:Int))).toNat) (fun _=>false) (fun _=>0) (fun _ _=>none))):=by kernel_rfl
def f93_step0 (K:List PA→Prop) (X0:St→Prop) (gates:(Sl Gate)) (iv0:Int) (u15v0_n:Nat) (u15v0_mk:(Nat→Bool)) (u15v0_nn:(Nat→Nat)) (u15v0_F:(Nat→List Int→Option (List Int))):Prop :=
  (condP (decide (iv0 ≥ (0:Int)))
   (((0≤iv0∧iv0 < (u15v0_n:Int))) ∧
   (((iv0.toNat < u15v0_n∧u15v0_mk iv0.toNat=false)) ∧
   (((0≤iv0∧iv0 < (gates.len:Int))) ∧
   (f93_at1 K X0 gates iv0 ((gates.get iv0.toNat).Low) u15v0_n (updI iv0.toNat true u15v0_mk) (updI iv0.toNat 0 u15v0_nn) (updI iv0.toNat (fun _=>none) u15v0_F)))))
   (K [.one (.sl u15v0_n 1 (fun i=>enc_129 ((fun i=>(⟨u15v0_nn i,u15v0_F i⟩:Mp)) i)))]))
theorem f93_stepeq0 (K : List PA → Prop) (X0 : St → Prop) (gates : (Sl Gate)) (iv0 : Int) (u15v0_n : Nat) (u15v0_mk : (Nat → Bool)) (u15v0_nn : (Nat → Nat)) (u15v0_F : (Nat → List Int → Option (List Int))) :
  vc Try.prog G93 ann93 (cd (cdF Try.f93 [1,1,1,0,1,0]) [0]) (loopK Try.prog ann93 4 X0 (blockK 0 (sqK Try.prog G93 ann93 (cdF Try.f93 [1,1,1,1]) (bodyK Try.prog Try.f93 K)))) (f93_g0 gates iv0 u15v0_n u15v0_mk u15v0_nn u15v0_F) =
  f93_step0 K X0 gates iv0 u15v0_n u15v0_mk u15v0_nn u15v0_F:=by kernel_rfl
theorem f93_loop0 (K : List PA → Prop) (gates : (Sl Gate)) (iv0 : Int) (u15v0_n : Nat) (u15v0_mk : (Nat → Bool)) (u15v0_nn : (Nat → Nat)) (u15v0_F : (Nat → List Int → Option (List Int)))
  (h:∀ X0:St→Prop,(∀ (iv0:Int) (u15v0_n:Nat) (u15v0_mk:(Nat→Bool)) (u15v0_nn:(Nat→Nat)) (u15v0_F:(Nat→List Int→Option (List Int))),f93_step0 K X0 gates iv0 u15v0_n u15v0_mk u15v0_nn u15v0_F→X0 (f93_g0 gates iv0 u15v0_n u15v0_mk u15v0_nn u15v0_F))→X0 (f93_g0 gates iv0 u15v0_n u15v0_mk u15v0_nn u15v0_F)) :
  f93_at0 K gates iv0 u15v0_n u15v0_mk u15v0_nn u15v0_F:=by
  have e:f93_at0 K gates iv0 u15v0_n u15v0_mk u15v0_nn u15v0_F=(∀ X:St→Prop,(∀ s,vc Try.prog G93 ann93 (cd (cdF Try.f93 [1,1,1,0,1,0]) [0]) (loopK Try.prog ann93 4 X (blockK 0 (sqK Try.prog G93 ann93 (cdF Try.f93 [1,1,1,1]) (bodyK Try.prog Try.f93 K)))) s→X s)→X (f93_g0 gates iv0 u15v0_n u15v0_mk u15v0_nn u15v0_F)):=by kernel_rfl
  refine ofEq e ?_
  intro X hX
  refine h X ?_
  intro iv0 u15v0_n u15v0_mk u15v0_nn u15v0_F hs
  refine hX _ ?_
  have e2:=f93_stepeq0 K X gates iv0 u15v0_n u15v0_mk u15v0_nn u15v0_F
  rw [e2]
  exact hs
def f93_step1 (K:List PA→Prop) (X0:St→Prop) (X1:St→Prop) (gates:(Sl Gate)) (iv1:Int) (pv1:Int) (u15v1_n:Nat) (u15v1_mk:(Nat→Bool)) (u15v1_nn:(Nat→Nat)) (u15v1_F:(Nat→List Int→Option (List Int))):Prop :=
  (((0≤iv1∧iv1 < (gates.len:Int))) ∧
  (condP (decide (pv1 ≤ (gates.get iv1.toNat).High))
   (((0≤(w64 (iv1+(1:Int)))∧(w64 (iv1+(1:Int))) < (gates.len:Int))) ∧
   (f93_at2 K X0 X1 gates iv1 pv1 ((gates.get ((w64 (iv1+(1:Int))).toNat)).Low) u15v1_n u15v1_mk u15v1_nn u15v1_F))
   (X0 (f93_g0 gates (w64 (iv1 - (1:Int))) u15v1_n u15v1_mk u15v1_nn u15v1_F))))
theorem f93_stepeq1 (K : List PA → Prop) (X0 : St → Prop) (X1 : St → Prop) (gates : (Sl Gate)) (iv1 : Int) (pv1 : Int) (u15v1_n : Nat) (u15v1_mk : (Nat → Bool)) (u15v1_nn : (Nat → Nat)) (u15v1_F : (Nat → List Int → Option (List Int))) :
  vc Try.prog G93 ann93 (cd (cdF Try.f93 [1,1,1,0,1,0,0,1,0,0,1,1,0]) [0]) (loopK Try.prog ann93 8 X1 (blockK 2 (blockK 1 (sqK Try.prog G93 ann93 (cdF Try.f93 [1,1,1,0,1,0,0,1,1]) (loopK Try.prog ann93 4 X0 (blockK 0 (sqK Try.prog G93 ann93 (cdF Try.f93 [1,1,1,1]) (bodyK Try.prog Try.f93 K)))))))) (f93_g1 gates iv1 pv1 u15v1_n u15v1_mk u15v1_nn u15v1_F) =
  f93_step1 K X0 X1 gates iv1 pv1 u15v1_n u15v1_mk u15v1_nn u15v1_F:=by kernel_rfl
theorem f93_loop1 (K : List PA → Prop) (X0 : St → Prop) (gates : (Sl Gate)) (iv1 : Int) (pv1 : Int) (u15v1_n : Nat) (u15v1_mk : (Nat → Bool)) (u15v1_nn : (Nat → Nat)) (u15v1_F : (Nat → List Int → Option (List Int)))
  (h:∀ X1:St→Prop,(∀ (iv1:Int) (pv1:Int) (u15v1_n:Nat) (u15v1_mk:(Nat→Bool)) (u15v1_nn:(Nat→Nat)) (u15v1_F:(Nat→List Int→Option (List Int))),f93_step1 K X0 X1 gates iv1 pv1 u15v1_n u15v1_mk u15v1_nn u15v1_F→X1 (f93_g1 gates iv1 pv1 u15v1_n u15v1_mk u15v1_nn u15v1_F))→X1 (f93_g1 gates iv1 pv1 u15v1_n u15v1_mk u15v1_nn u15v1_F)) :
  f93_at1 K X0 gates iv1 pv1 u15v1_n u15v1_mk u15v1_nn u15v1_F:=by
  have e:f93_at1 K X0 gates iv1 pv1 u15v1_n u15v1_mk u15v1_nn u15v1_F=(∀ X:St→Prop,(∀ s,vc Try.prog G93 ann93 (cd (cdF Try.f93 [1,1,1,0,1,0,0,1,0,0,1,1,0]) [0]) (loopK Try.prog ann93 8 X (blockK 2 (blockK 1 (sqK Try.prog G93 ann93 (cdF Try.f93 [1,1,1,0,1,0,0,1,1]) (loopK Try.prog ann93 4 X0 (blockK 0 (sqK Try.prog G93 ann93 (cdF Try.f93 [1,1,1,1]) (bodyK Try.prog Try.f93 K)))))))) s→X s)→X (f93_g1 gates iv1 pv1 u15v1_n u15v1_mk u15v1_nn u15v1_F)):=by kernel_rfl
  refine ofEq e ?_
  intro X hX
  refine h X ?_
  intro iv1 pv1 u15v1_n u15v1_mk u15v1_nn u15v1_F hs
  refine hX _ ?_
  have e2:=f93_stepeq1 K X0 X gates iv1 pv1 u15v1_n u15v1_mk u15v1_nn u15v1_F
  rw [e2]
  exact hs
def f93_step2 (K:List PA→Prop) (X0:St→Prop) (X1:St→Prop) (X2:St→Prop) (gates:(Sl Gate)) (iv2:Int) (pv2:Int) (qv2:Int) (u15v2_n:Nat) (u15v2_mk:(Nat→Bool)) (u15v2_nn:(Nat→Nat)) (u15v2_F:(Nat→List Int→Option (List Int))):Prop :=
  (((0≤(w64 (iv2+(1:Int)))∧(w64 (iv2+(1:Int))) < (gates.len:Int))) ∧
  (condP (decide (qv2 ≤ (gates.get ((w64 (iv2 + (1:Int))).toNat)).High))
   (condP (iv2 == (w64 ((gates.len : Int) - (2:Int))))
    (((0≤iv2∧iv2 < (u15v2_n:Int))) ∧
    (((iv2.toNat < u15v2_n∧u15v2_mk iv2.toNat=true)) ∧
    (((iv2.toNat < u15v2_n)) ∧
    (X2 (f93_g2 gates iv2 pv2 (w64 (qv2+(1:Int))) u15v2_n u15v2_mk (updI iv2.toNat (addN ((u15v2_F iv2.toNat) [pv2,qv2]) (u15v2_nn iv2.toNat)) u15v2_nn) (updI iv2.toNat (setM [pv2,qv2] [(0:Int)] (u15v2_F iv2.toNat)) u15v2_F))))))
    (f93_at3 K X0 X1 X2 gates iv2 pv2 qv2 u15v2_n u15v2_mk u15v2_nn u15v2_F))
   (X1 (f93_g1 gates iv2 (w64 (pv2+(1:Int))) u15v2_n u15v2_mk u15v2_nn u15v2_F))))
theorem f93_stepeq2 (K : List PA → Prop) (X0 : St → Prop) (X1 : St → Prop) (X2 : St → Prop) (gates : (Sl Gate)) (iv2 : Int) (pv2 : Int) (qv2 : Int) (u15v2_n : Nat) (u15v2_mk : (Nat → Bool)) (u15v2_nn : (Nat → Nat)) (u15v2_F : (Nat → List Int → Option (List Int))) :
  vc Try.prog G93 ann93 (cd (cdF Try.f93 [1,1,1,0,1,0,0,1,0,0,1,1,0,0,1,0,0,1,0]) [0]) (loopK Try.prog ann93 11 X2 (blockK 4 (blockK 3 (sqK Try.prog G93 ann93 (cdF Try.f93 [1,1,1,0,1,0,0,1,0,0,1,1,0,0,1,1]) (loopK Try.prog ann93 8 X1 (blockK 2 (blockK 1 (sqK Try.prog G93 ann93 (cdF Try.f93 [1,1,1,0,1,0,0,1,1]) (loopK Try.prog ann93 4 X0 (blockK 0 (sqK Try.prog G93 ann93 (cdF Try.f93 [1,1,1,1]) (bodyK Try.prog Try.f93 K)))))))))))) (f93_g2 gates iv2 pv2 qv2 u15v2_n u15v2_mk u15v2_nn u15v2_F) =
  f93_step2 K X0 X1 X2 gates iv2 pv2 qv2 u15v2_n u15v2_mk u15v2_nn u15v2_F:=by kernel_rfl
theorem f93_loop2 (K : List PA → Prop) (X0 : St → Prop) (X1 : St → Prop) (gates : (Sl Gate)) (iv2 : Int) (pv2 : Int) (qv2 : Int) (u15v2_n : Nat) (u15v2_mk : (Nat → Bool)) (u15v2_nn : (Nat → Nat)) (u15v2_F : (Nat → List Int → Option (List Int)))
  (h:∀ X2:St→Prop,(∀ (iv2:Int) (pv2:Int) (qv2:Int) (u15v2_n:Nat) (u15v2_mk:(Nat→Bool)) (u15v2_nn:(Nat→Nat)) (u15v2_F:(Nat→List Int→Option (List Int))),f93_step2 K X0 X1 X2 gates iv2 pv2 qv2 u15v2_n u15v2_mk u15v2_nn u15v2_F→X2 (f93_g2 gates iv2 pv2 qv2 u15v2_n u15v2_mk u15v2_nn u15v2_F))→X2 (f93_g2 gates iv2 pv2 qv2 u15v2_n u15v2_mk u15v2_nn u15v2_F)) :
  f93_at2 K X0 X1 gates iv2 pv2 qv2 u15v2_n u15v2_mk u15v2_nn u15v2_F:=by
  have e:f93_at2 K X0 X1 gates iv2 pv2 qv2 u15v2_n u15v2_mk u15v2_nn u15v2_F=(∀ X:St→Prop,(∀ s,vc Try.prog G93 ann93 (cd (cdF Try.f93 [1,1,1,0,1,0,0,1,0,0,1,1,0,0,1,0,0,1,0]) [0]) (loopK Try.prog ann93 11 X (blockK 4 (blockK 3 (sqK Try.prog G93 ann93 (cdF Try.f93 [1,1,1,0,1,0,0,1,0,0,1,1,0,0,1,1]) (loopK Try.prog ann93 8 X1 (blockK 2 (blockK 1 (sqK Try.prog G93 ann93 (cdF Try.f93 [1,1,1,0,1,0,0,1,1]) (loopK Try.prog ann93 4 X0 (blockK 0 (sqK Try.prog G93 ann93 (cdF Try.f93 [1,1,1,1]) (bodyK Try.prog Try.f93 K)))))))))))) s→X s)→X (f93_g2 gates iv2 pv2 qv2 u15v2_n u15v2_mk u15v2_nn u15v2_F)):=by kernel_rfl
  refine ofEq e ?_
  intro X hX
  refine h X ?_
  intro iv2 pv2 qv2 u15v2_n u15v2_mk u15v2_nn u15v2_F hs
  refine hX _ ?_
  have e2:=f93_stepeq2 K X0 X1 X gates iv2 pv2 qv2 u15v2_n u15v2_mk u15v2_nn u15v2_F
  rw [e2]
  exact hs
theorem f93_eq3 (K : List PA → Prop) (X0 : St → Prop) (X1 : St → Prop) (X2 : St → Prop) (gates : (Sl Gate)) (iv3 : Int) (pv3 : Int) (qv3 : Int) (u15v3_n : Nat) (u15v3_mk : (Nat → Bool)) (u15v3_nn : (Nat → Nat)) (u15v3_F : (Nat → List Int → Option (List Int))) :
  f93_at3 K X0 X1 X2 gates iv3 pv3 qv3 u15v3_n u15v3_mk u15v3_nn u15v3_F =
  (((0≤(w64 (iv3+(2:Int)))∧(w64 (iv3+(2:Int))) < (gates.len:Int))) ∧
  (f93_at4 K X0 X1 X2 gates qv3 iv3 pv3 (-1:Int) ((gates.get ((w64 (iv3+(2:Int))).toNat)).Low) u15v3_n u15v3_mk u15v3_nn u15v3_F)):=by kernel_rfl
def f93_step4 (K:List PA→Prop) (X0:St→Prop) (X1:St→Prop) (X2:St→Prop) (X4:St→Prop) (gates:(Sl Gate)) (qv3:Int) (iv4:Int) (pv4:Int) (bestv4:Int) (rv4:Int) (u15v4_n:Nat) (u15v4_mk:(Nat→Bool)) (u15v4_nn:(Nat→Nat)) (u15v4_F:(Nat→List Int→Option (List Int))):Prop :=
  (((0≤(w64 (iv4+(2:Int)))∧(w64 (iv4+(2:Int))) < (gates.len:Int))) ∧
  (condP (decide (rv4 ≤ (gates.get ((w64 (iv4 + (2:Int))).toNat)).High))
   (((0≤iv4∧iv4 < (gates.len:Int))) ∧
   (((0≤(w64 (iv4+(1:Int)))∧(w64 (iv4+(1:Int))) < (gates.len:Int))) ∧
   (((0≤(w64 (iv4+(2:Int)))∧(w64 (iv4+(2:Int))) < (gates.len:Int))) ∧
   (((p85 ((gates.get iv4.toNat).Z) ((gates.get ((w64 (iv4+(1:Int))).toNat)).Z) ((gates.get ((w64 (iv4+(2:Int))).toNat)).Z) pv4 qv3 rv4=true)) ∧
   (((0≤(w64 (iv4+(1:Int)))∧(w64 (iv4+(1:Int))) < (u15v4_n:Int))) ∧
   ((((w64 (iv4+(1:Int))).toNat < u15v4_n∧u15v4_mk ((w64 (iv4+(1:Int))).toNat)=true)) ∧
   ((((w64 (iv4+(1:Int))).toNat < u15v4_n)) ∧
   (f93_at5 K X0 X1 X2 X4 gates qv3 iv4 pv4 bestv4 rv4 (if (nthO ((u15v4_F ((w64 (iv4+(1:Int))).toNat)) [qv3,rv4]) 0) > (s85 ((gates.get iv4.toNat).Z) ((gates.get ((w64 (iv4+(1:Int))).toNat)).Z) ((gates.get ((w64 (iv4+(2:Int))).toNat)).Z) pv4 qv3 rv4) then (nthO ((u15v4_F ((w64 (iv4+(1:Int))).toNat)) [qv3,rv4]) 0) else (s85 ((gates.get iv4.toNat).Z) ((gates.get ((w64 (iv4+(1:Int))).toNat)).Z) ((gates.get ((w64 (iv4+(2:Int))).toNat)).Z) pv4 qv3 rv4)) u15v4_n u15v4_mk u15v4_nn u15v4_F))))))))
   (((0≤iv4∧iv4 < (u15v4_n:Int))) ∧
   (((iv4.toNat < u15v4_n∧u15v4_mk iv4.toNat=true)) ∧
   (((iv4.toNat < u15v4_n)) ∧
   (X2 (f93_g2 gates iv4 pv4 (w64 (qv3+(1:Int))) u15v4_n u15v4_mk (updI iv4.toNat (addN ((u15v4_F iv4.toNat) [pv4,qv3]) (u15v4_nn iv4.toNat)) u15v4_nn) (updI iv4.toNat (setM [pv4,qv3] [bestv4] (u15v4_F iv4.toNat)) u15v4_F))))))))
theorem f93_stepeq4 (K : List PA → Prop) (X0 : St → Prop) (X1 : St → Prop) (X2 : St → Prop) (X4 : St → Prop) (gates : (Sl Gate)) (qv3 : Int) (iv4 : Int) (pv4 : Int) (bestv4 : Int) (rv4 : Int) (u15v4_n : Nat) (u15v4_mk : (Nat → Bool)) (u15v4_nn : (Nat → Nat)) (u15v4_F : (Nat → List Int → Option (List Int))) :
  vc Try.prog G93 ann93 (cd (cdF Try.f93 [1,1,1,0,1,0,0,1,0,0,1,1,0,0,1,0,0,1,0,0,1,0,0,1,1,0,1,0]) [0]) (loopK Try.prog ann93 17 X4 (blockK 6 (sqK Try.prog G93 ann93 (cdF Try.f93 [1,1,1,0,1,0,0,1,0,0,1,1,0,0,1,0,0,1,0,0,1,0,0,1,1,1]) (blockK 5 (sqK Try.prog G93 ann93 (cdF Try.f93 [1,1,1,0,1,0,0,1,0,0,1,1,0,0,1,0,0,1,0,0,1,1]) (loopK Try.prog ann93 11 X2 (blockK 4 (blockK 3 (sqK Try.prog G93 ann93 (cdF Try.f93 [1,1,1,0,1,0,0,1,0,0,1,1,0,0,1,1]) (loopK Try.prog ann93 8 X1 (blockK 2 (blockK 1 (sqK Try.prog G93 ann93 (cdF Try.f93 [1,1,1,0,1,0,0,1,1]) (loopK Try.prog ann93 4 X0 (blockK 0 (sqK Try.prog G93 ann93 (cdF Try.f93 [1,1,1,1]) (bodyK Try.prog Try.f93 K))))))))))))))))) (f93_g4 gates qv3 iv4 pv4 bestv4 rv4 u15v4_n u15v4_mk u15v4_nn u15v4_F) =
  f93_step4 K X0 X1 X2 X4 gates qv3 iv4 pv4 bestv4 rv4 u15v4_n u15v4_mk u15v4_nn u15v4_F:=by kernel_rfl
theorem f93_loop4 (K : List PA → Prop) (X0 : St → Prop) (X1 : St → Prop) (X2 : St → Prop) (gates : (Sl Gate)) (qv3 : Int) (iv4 : Int) (pv4 : Int) (bestv4 : Int) (rv4 : Int) (u15v4_n : Nat) (u15v4_mk : (Nat → Bool)) (u15v4_nn : (Nat → Nat)) (u15v4_F : (Nat → List Int → Option (List Int)))
  (h:∀ X4:St→Prop,(∀ (iv4:Int) (pv4:Int) (bestv4:Int) (rv4:Int) (u15v4_n:Nat) (u15v4_mk:(Nat→Bool)) (u15v4_nn:(Nat→Nat)) (u15v4_F:(Nat→List Int→Option (List Int))),f93_step4 K X0 X1 X2 X4 gates qv3 iv4 pv4 bestv4 rv4 u15v4_n u15v4_mk u15v4_nn u15v4_F→X4 (f93_g4 gates qv3 iv4 pv4 bestv4 rv4 u15v4_n u15v4_mk u15v4_nn u15v4_F))→X4 (f93_g4 gates qv3 iv4 pv4 bestv4 rv4 u15v4_n u15v4_mk u15v4_nn u15v4_F)) :
  f93_at4 K X0 X1 X2 gates qv3 iv4 pv4 bestv4 rv4 u15v4_n u15v4_mk u15v4_nn u15v4_F:=by
  have e:f93_at4 K X0 X1 X2 gates qv3 iv4 pv4 bestv4 rv4 u15v4_n u15v4_mk u15v4_nn u15v4_F=(∀ X:St→Prop,(∀ s,vc Try.prog G93 ann93 (cd (cdF Try.f93 [1,1,1,0,1,0,0,1,0,0,1,1,0,0,1,0,0,1,0,0,1,0,0,1,1,0,1,0]) [0]) (loopK Try.prog ann93 17 X (blockK 6 (sqK Try.prog G93 ann93 (cdF Try.f93 [1,1,1,0,1,0,0,1,0,0,1,1,0,0,1,0,0,1,0,0,1,0,0,1,1,1]) (blockK 5 (sqK Try.prog G93 ann93 (cdF Try.f93 [1,1,1,0,1,0,0,1,0,0,1,1,0,0,1,0,0,1,0,0,1,1]) (loopK Try.prog ann93 11 X2 (blockK 4 (blockK 3 (sqK Try.prog G93 ann93 (cdF Try.f93 [1,1,1,0,1,0,0,1,0,0,1,1,0,0,1,1]) (loopK Try.prog ann93 8 X1 (blockK 2 (blockK 1 (sqK Try.prog G93 ann93 (cdF Try.f93 [1,1,1,0,1,0,0,1,1]) (loopK Try.prog ann93 4 X0 (blockK 0 (sqK Try.prog G93 ann93 (cdF Try.f93 [1,1,1,1]) (bodyK Try.prog Try.f93 K))))))))))))))))) s→X s)→X (f93_g4 gates qv3 iv4 pv4 bestv4 rv4 u15v4_n u15v4_mk u15v4_nn u15v4_F)):=by kernel_rfl
  refine ofEq e ?_
  intro X hX
  refine h X ?_
  intro iv4 pv4 bestv4 rv4 u15v4_n u15v4_mk u15v4_nn u15v4_F hs
  refine hX _ ?_
  have e2:=f93_stepeq4 K X0 X1 X2 X gates qv3 iv4 pv4 bestv4 rv4 u15v4_n u15v4_mk u15v4_nn u15v4_F
  rw [e2]
  exact hs
theorem f93_eq5 (K : List PA → Prop) (X0 : St → Prop) (X1 : St → Prop) (X2 : St → Prop) (X4 : St → Prop) (gates : (Sl Gate)) (qv3 : Int) (iv5 : Int) (pv5 : Int) (bestv5 : Int) (rv5 : Int) (kv5 : Int) (u15v5_n : Nat) (u15v5_mk : (Nat → Bool)) (u15v5_nn : (Nat → Nat)) (u15v5_F : (Nat → List Int → Option (List Int))) :
  f93_at5 K X0 X1 X2 X4 gates qv3 iv5 pv5 bestv5 rv5 kv5 u15v5_n u15v5_mk u15v5_nn u15v5_F =
  (condP (decide (bestv5 < (0:Int)))
   (X4 (f93_g4 gates qv3 iv5 pv5 kv5 (w64 (rv5+(1:Int))) u15v5_n u15v5_mk u15v5_nn u15v5_F))
   (condP (decide (kv5 < bestv5))
    (X4 (f93_g4 gates qv3 iv5 pv5 kv5 (w64 (rv5+(1:Int))) u15v5_n u15v5_mk u15v5_nn u15v5_F))
    (X4 (f93_g4 gates qv3 iv5 pv5 bestv5 (w64 (rv5+(1:Int))) u15v5_n u15v5_mk u15v5_nn u15v5_F)))):=by kernel_rfl
abbrev e93 (r:(Sl Mp)):List PA:=[.one (.sl r.len 1 (fun i=>enc_129 (r.get i)))]
attribute [irreducible] f93_at0 f93_at1 f93_at2 f93_at3 f93_at4 f93_at5
def s93_at5 (S0:Int→Nat→(Nat→Bool)→(Nat→Nat)→(Nat→List Int→Option (List Int))→(Sl Mp)) (S1:Int→Int→Nat→(Nat→Bool)→(Nat→Nat)→(Nat→List Int→Option (List Int))→(Sl Mp)) (S2:Int→Int→Int→Nat→(Nat→Bool)→(Nat→Nat)→(Nat→List Int→Option (List Int))→(Sl Mp)) (S4:Int→Int→Int→Int→Nat→(Nat→Bool)→(Nat→Nat)→(Nat→List Int→Option (List Int))→(Sl Mp)) (gates:(Sl Gate)) (qv3:Int) (iv5:Int) (pv5:Int) (bestv5:Int) (rv5:Int) (kv5:Int) (u15v5_n:Nat) (u15v5_mk:(Nat→Bool)) (u15v5_nn:(Nat→Nat)) (u15v5_F:(Nat→List Int→Option (List Int))):(Sl Mp) :=
  (cond (decide (bestv5 < (0:Int)))
   (S4 iv5 pv5 kv5 (w64 (rv5+(1:Int))) u15v5_n u15v5_mk u15v5_nn u15v5_F)
   (cond (decide (kv5 < bestv5))
    (S4 iv5 pv5 kv5 (w64 (rv5+(1:Int))) u15v5_n u15v5_mk u15v5_nn u15v5_F)
    (S4 iv5 pv5 bestv5 (w64 (rv5+(1:Int))) u15v5_n u15v5_mk u15v5_nn u15v5_F)))
def p93_at5 (P0:Int→Nat→(Nat→Bool)→(Nat→Nat)→(Nat→List Int→Option (List Int))→Bool) (P1:Int→Int→Nat→(Nat→Bool)→(Nat→Nat)→(Nat→List Int→Option (List Int))→Bool) (P2:Int→Int→Int→Nat→(Nat→Bool)→(Nat→Nat)→(Nat→List Int→Option (List Int))→Bool) (P4:Int→Int→Int→Int→Nat→(Nat→Bool)→(Nat→Nat)→(Nat→List Int→Option (List Int))→Bool) (gates:(Sl Gate)) (qv3:Int) (iv5:Int) (pv5:Int) (bestv5:Int) (rv5:Int) (kv5:Int) (u15v5_n:Nat) (u15v5_mk:(Nat→Bool)) (u15v5_nn:(Nat→Nat)) (u15v5_F:(Nat→List Int→Option (List Int))):Bool :=
  (cond (decide (bestv5 < (0:Int)))
   (P4 iv5 pv5 kv5 (w64 (rv5+(1:Int))) u15v5_n u15v5_mk u15v5_nn u15v5_F)
   (cond (decide (kv5 < bestv5))
    (P4 iv5 pv5 kv5 (w64 (rv5+(1:Int))) u15v5_n u15v5_mk u15v5_nn u15v5_F)
    (P4 iv5 pv5 bestv5 (w64 (rv5+(1:Int))) u15v5_n u15v5_mk u15v5_nn u15v5_F)))
theorem q93_at5 (K : List PA → Prop) (gates : (Sl Gate)) (qv3 : Int)
  (X0:St→Prop) (P0:Int→Nat→(Nat→Bool)→(Nat→Nat)→(Nat→List Int→Option (List Int))→Bool) (S0:Int→Nat→(Nat→Bool)→(Nat→Nat)→(Nat→List Int→Option (List Int))→(Sl Mp))
  (hX0:∀ (iv0:Int) (u15v0_n:Nat) (u15v0_mk:(Nat→Bool)) (u15v0_nn:(Nat→Nat)) (u15v0_F:(Nat→List Int→Option (List Int))),P0 iv0 u15v0_n u15v0_mk u15v0_nn u15v0_F=true→K (e93 (S0 iv0 u15v0_n u15v0_mk u15v0_nn u15v0_F))→X0 (f93_g0 gates iv0 u15v0_n u15v0_mk u15v0_nn u15v0_F))
  (X1:St→Prop) (P1:Int→Int→Nat→(Nat→Bool)→(Nat→Nat)→(Nat→List Int→Option (List Int))→Bool) (S1:Int→Int→Nat→(Nat→Bool)→(Nat→Nat)→(Nat→List Int→Option (List Int))→(Sl Mp))
  (hX1:∀ (iv1:Int) (pv1:Int) (u15v1_n:Nat) (u15v1_mk:(Nat→Bool)) (u15v1_nn:(Nat→Nat)) (u15v1_F:(Nat→List Int→Option (List Int))),P1 iv1 pv1 u15v1_n u15v1_mk u15v1_nn u15v1_F=true→K (e93 (S1 iv1 pv1 u15v1_n u15v1_mk u15v1_nn u15v1_F))→X1 (f93_g1 gates iv1 pv1 u15v1_n u15v1_mk u15v1_nn u15v1_F))
  (X2:St→Prop) (P2:Int→Int→Int→Nat→(Nat→Bool)→(Nat→Nat)→(Nat→List Int→Option (List Int))→Bool) (S2:Int→Int→Int→Nat→(Nat→Bool)→(Nat→Nat)→(Nat→List Int→Option (List Int))→(Sl Mp))
  (hX2:∀ (iv2:Int) (pv2:Int) (qv2:Int) (u15v2_n:Nat) (u15v2_mk:(Nat→Bool)) (u15v2_nn:(Nat→Nat)) (u15v2_F:(Nat→List Int→Option (List Int))),P2 iv2 pv2 qv2 u15v2_n u15v2_mk u15v2_nn u15v2_F=true→K (e93 (S2 iv2 pv2 qv2 u15v2_n u15v2_mk u15v2_nn u15v2_F))→X2 (f93_g2 gates iv2 pv2 qv2 u15v2_n u15v2_mk u15v2_nn u15v2_F))
  (X4:St→Prop) (P4:Int→Int→Int→Int→Nat→(Nat→Bool)→(Nat→Nat)→(Nat→List Int→Option (List Int))→Bool) (S4:Int→Int→Int→Int→Nat→(Nat→Bool)→(Nat→Nat)→(Nat→List Int→Option (List Int))→(Sl Mp))
  (hX4:∀ (iv4:Int) (pv4:Int) (bestv4:Int) (rv4:Int) (u15v4_n:Nat) (u15v4_mk:(Nat→Bool)) (u15v4_nn:(Nat→Nat)) (u15v4_F:(Nat→List Int→Option (List Int))),P4 iv4 pv4 bestv4 rv4 u15v4_n u15v4_mk u15v4_nn u15v4_F=true→K (e93 (S4 iv4 pv4 bestv4 rv4 u15v4_n u15v4_mk u15v4_nn u15v4_F))→X4 (f93_g4 gates qv3 iv4 pv4 bestv4 rv4 u15v4_n u15v4_mk u15v4_nn u15v4_F)) (iv5:Int) (pv5:Int) (bestv5:Int) (rv5:Int) (kv5:Int) (u15v5_n:Nat) (u15v5_mk:(Nat→Bool)) (u15v5_nn:(Nat→Nat)) (u15v5_F:(Nat→List Int→Option (List Int))) (hs:p93_at5 P0 P1 P2 P4 gates qv3 iv5 pv5 bestv5 rv5 kv5 u15v5_n u15v5_mk u15v5_nn u15v5_F=true) (hk:K (e93 (s93_at5 S0 S1 S2 S4 gates qv3 iv5 pv5 bestv5 rv5 kv5 u15v5_n u15v5_mk u15v5_nn u15v5_F))):f93_at5 K X0 X1 X2 X4 gates qv3 iv5 pv5 bestv5 rv5 kv5 u15v5_n u15v5_mk u15v5_nn u15v5_F:=by
  refine ofEq (f93_eq5 K X0 X1 X2 X4 gates qv3 iv5 pv5 bestv5 rv5 kv5 u15v5_n u15v5_mk u15v5_nn u15v5_F) ?_
  unfold p93_at5 at hs
  unfold s93_at5 at hk
  exact (condB_go (K := fun r => K (e93 r))
   (fun hs hk=>(hX4 iv5 pv5 kv5 (w64 (rv5+(1:Int))) u15v5_n u15v5_mk u15v5_nn u15v5_F hs hk))
   (fun hs hk => (condB_go (K := fun r => K (e93 r))
    (fun hs hk=>(hX4 iv5 pv5 kv5 (w64 (rv5+(1:Int))) u15v5_n u15v5_mk u15v5_nn u15v5_F hs hk))
    (fun hs hk=>(hX4 iv5 pv5 bestv5 (w64 (rv5+(1:Int))) u15v5_n u15v5_mk u15v5_nn u15v5_F hs hk)) hs hk)) hs hk)
def s93_st4 (S0:Int→Nat→(Nat→Bool)→(Nat→Nat)→(Nat→List Int→Option (List Int))→(Sl Mp)) (S1:Int→Int→Nat→(Nat→Bool)→(Nat→Nat)→(Nat→List Int→Option (List Int))→(Sl Mp)) (S2:Int→Int→Int→Nat→(Nat→Bool)→(Nat→Nat)→(Nat→List Int→Option (List Int))→(Sl Mp)) (gates:(Sl Gate)) (qv3:Int) (S4:Int→Int→Int→Int→Nat→(Nat→Bool)→(Nat→Nat)→(Nat→List Int→Option (List Int))→(Sl Mp)) (iv4:Int) (pv4:Int) (bestv4:Int) (rv4:Int) (u15v4_n:Nat) (u15v4_mk:(Nat→Bool)) (u15v4_nn:(Nat→Nat)) (u15v4_F:(Nat→List Int→Option (List Int))):(Sl Mp) :=
  (cond (decide (rv4 ≤ (gates.get ((w64 (iv4 + (2:Int))).toNat)).High))
   (s93_at5 S0 S1 S2 S4 gates qv3 iv4 pv4 bestv4 rv4 (if (nthO ((u15v4_F ((w64 (iv4+(1:Int))).toNat)) [qv3,rv4]) 0) > (s85 ((gates.get iv4.toNat).Z) ((gates.get ((w64 (iv4+(1:Int))).toNat)).Z) ((gates.get ((w64 (iv4+(2:Int))).toNat)).Z) pv4 qv3 rv4) then (nthO ((u15v4_F ((w64 (iv4+(1:Int))).toNat)) [qv3,rv4]) 0) else (s85 ((gates.get iv4.toNat).Z) ((gates.get ((w64 (iv4+(1:Int))).toNat)).Z) ((gates.get ((w64 (iv4+(2:Int))).toNat)).Z) pv4 qv3 rv4)) u15v4_n u15v4_mk u15v4_nn u15v4_F)
   (S2 iv4 pv4 (w64 (qv3+(1:Int))) u15v4_n u15v4_mk (updI iv4.toNat (addN ((u15v4_F iv4.toNat) [pv4,qv3]) (u15v4_nn iv4.toNat)) u15v4_nn) (updI iv4.toNat (setM [pv4,qv3] [bestv4] (u15v4_F iv4.toNat)) u15v4_F)))
def p93_st4 (P0:Int→Nat→(Nat→Bool)→(Nat→Nat)→(Nat→List Int→Option (List Int))→Bool) (P1:Int→Int→Nat→(Nat→Bool)→(Nat→Nat)→(Nat→List Int→Option (List Int))→Bool) (P2:Int→Int→Int→Nat→(Nat→Bool)→(Nat→Nat)→(Nat→List Int→Option (List Int))→Bool) (gates:(Sl Gate)) (qv3:Int) (P4:Int→Int→Int→Int→Nat→(Nat→Bool)→(Nat→Nat)→(Nat→List Int→Option (List Int))→Bool) (iv4:Int) (pv4:Int) (bestv4:Int) (rv4:Int) (u15v4_n:Nat) (u15v4_mk:(Nat→Bool)) (u15v4_nn:(Nat→Nat)) (u15v4_F:(Nat→List Int→Option (List Int))):Bool :=
  (decide ((0≤(w64 (iv4+(2:Int)))∧(w64 (iv4+(2:Int))) < (gates.len:Int))) &&
  (cond (decide (rv4 ≤ (gates.get ((w64 (iv4 + (2:Int))).toNat)).High))
   (decide ((0≤iv4∧iv4 < (gates.len:Int))) &&
   (decide ((0≤(w64 (iv4+(1:Int)))∧(w64 (iv4+(1:Int))) < (gates.len:Int))) &&
   (decide ((0≤(w64 (iv4+(2:Int)))∧(w64 (iv4+(2:Int))) < (gates.len:Int))) &&
   (decide ((p85 ((gates.get iv4.toNat).Z) ((gates.get ((w64 (iv4+(1:Int))).toNat)).Z) ((gates.get ((w64 (iv4+(2:Int))).toNat)).Z) pv4 qv3 rv4=true)) &&
   (decide ((0≤(w64 (iv4+(1:Int)))∧(w64 (iv4+(1:Int))) < (u15v4_n:Int))) &&
   (decide (((w64 (iv4+(1:Int))).toNat < u15v4_n∧u15v4_mk ((w64 (iv4+(1:Int))).toNat)=true)) &&
   (decide (((w64 (iv4+(1:Int))).toNat < u15v4_n)) &&
   (p93_at5 P0 P1 P2 P4 gates qv3 iv4 pv4 bestv4 rv4 (if (nthO ((u15v4_F ((w64 (iv4+(1:Int))).toNat)) [qv3,rv4]) 0) > (s85 ((gates.get iv4.toNat).Z) ((gates.get ((w64 (iv4+(1:Int))).toNat)).Z) ((gates.get ((w64 (iv4+(2:Int))).toNat)).Z) pv4 qv3 rv4) then (nthO ((u15v4_F ((w64 (iv4+(1:Int))).toNat)) [qv3,rv4]) 0) else (s85 ((gates.get iv4.toNat).Z) ((gates.get ((w64 (iv4+(1:Int))).toNat)).Z) ((gates.get ((w64 (iv4+(2:Int))).toNat)).Z) pv4 qv3 rv4)) u15v4_n u15v4_mk u15v4_nn u15v4_F))))))))
   (decide ((0≤iv4∧iv4 < (u15v4_n:Int))) &&
   (decide ((iv4.toNat < u15v4_n∧u15v4_mk iv4.toNat=true)) &&
   (decide ((iv4.toNat < u15v4_n)) &&
   (P2 iv4 pv4 (w64 (qv3+(1:Int))) u15v4_n u15v4_mk (updI iv4.toNat (addN ((u15v4_F iv4.toNat) [pv4,qv3]) (u15v4_nn iv4.toNat)) u15v4_nn) (updI iv4.toNat (setM [pv4,qv3] [bestv4] (u15v4_F iv4.toNat)) u15v4_F)))))))
def s93_lp4 (S0 : Int → Nat → (Nat → Bool) → (Nat → Nat) → (Nat → List Int → Option (List Int)) → (Sl Mp)) (S1 : Int → Int → Nat → (Nat → Bool) → (Nat → Nat) → (Nat → List Int → Option (List Int)) → (Sl Mp)) (S2 : Int → Int → Int → Nat → (Nat → Bool) → (Nat → Nat) → (Nat → List Int → Option (List Int)) → (Sl Mp)) (gates : (Sl Gate)) (qv3 : Int) : Nat → Int → Int → Int → Int → Nat → (Nat → Bool) → (Nat → Nat) → (Nat → List Int → Option (List Int)) → (Sl Mp)
  | 0=>fun _ _ _ _ _ _ _ _=>default
  | k+1=>s93_st4 S0 S1 S2 gates qv3 (s93_lp4 S0 S1 S2 gates qv3 k)
def p93_lp4 (P0 : Int → Nat → (Nat → Bool) → (Nat → Nat) → (Nat → List Int → Option (List Int)) → Bool) (P1 : Int → Int → Nat → (Nat → Bool) → (Nat → Nat) → (Nat → List Int → Option (List Int)) → Bool) (P2 : Int → Int → Int → Nat → (Nat → Bool) → (Nat → Nat) → (Nat → List Int → Option (List Int)) → Bool) (gates : (Sl Gate)) (qv3 : Int) : Nat → Int → Int → Int → Int → Nat → (Nat → Bool) → (Nat → Nat) → (Nat → List Int → Option (List Int)) → Bool
  | 0=>fun _ _ _ _ _ _ _ _=>false
  | k+1=>p93_st4 P0 P1 P2 gates qv3 (p93_lp4 P0 P1 P2 gates qv3 k)
def s93_at4 (S0:Int→Nat→(Nat→Bool)→(Nat→Nat)→(Nat→List Int→Option (List Int))→(Sl Mp)) (S1:Int→Int→Nat→(Nat→Bool)→(Nat→Nat)→(Nat→List Int→Option (List Int))→(Sl Mp)) (S2:Int→Int→Int→Nat→(Nat→Bool)→(Nat→Nat)→(Nat→List Int→Option (List Int))→(Sl Mp)) (gates:(Sl Gate)) (qv3:Int) (iv4:Int) (pv4:Int) (bestv4:Int) (rv4:Int) (u15v4_n:Nat) (u15v4_mk:(Nat→Bool)) (u15v4_nn:(Nat→Nat)) (u15v4_F:(Nat→List Int→Option (List Int))):(Sl Mp):=s93_lp4 S0 S1 S2 gates qv3 Fuel iv4 pv4 bestv4 rv4 u15v4_n u15v4_mk u15v4_nn u15v4_F
def p93_at4 (P0:Int→Nat→(Nat→Bool)→(Nat→Nat)→(Nat→List Int→Option (List Int))→Bool) (P1:Int→Int→Nat→(Nat→Bool)→(Nat→Nat)→(Nat→List Int→Option (List Int))→Bool) (P2:Int→Int→Int→Nat→(Nat→Bool)→(Nat→Nat)→(Nat→List Int→Option (List Int))→Bool) (gates:(Sl Gate)) (qv3:Int) (iv4:Int) (pv4:Int) (bestv4:Int) (rv4:Int) (u15v4_n:Nat) (u15v4_mk:(Nat→Bool)) (u15v4_nn:(Nat→Nat)) (u15v4_F:(Nat→List Int→Option (List Int))):Bool:=p93_lp4 P0 P1 P2 gates qv3 Fuel iv4 pv4 bestv4 rv4 u15v4_n u15v4_mk u15v4_nn u15v4_F
theorem q93_at4 (K : List PA → Prop) (gates : (Sl Gate)) (qv3 : Int)
  (X0:St→Prop) (P0:Int→Nat→(Nat→Bool)→(Nat→Nat)→(Nat→List Int→Option (List Int))→Bool) (S0:Int→Nat→(Nat→Bool)→(Nat→Nat)→(Nat→List Int→Option (List Int))→(Sl Mp))
  (hX0:∀ (iv0:Int) (u15v0_n:Nat) (u15v0_mk:(Nat→Bool)) (u15v0_nn:(Nat→Nat)) (u15v0_F:(Nat→List Int→Option (List Int))),P0 iv0 u15v0_n u15v0_mk u15v0_nn u15v0_F=true→K (e93 (S0 iv0 u15v0_n u15v0_mk u15v0_nn u15v0_F))→X0 (f93_g0 gates iv0 u15v0_n u15v0_mk u15v0_nn u15v0_F))
  (X1:St→Prop) (P1:Int→Int→Nat→(Nat→Bool)→(Nat→Nat)→(Nat→List Int→Option (List Int))→Bool) (S1:Int→Int→Nat→(Nat→Bool)→(Nat→Nat)→(Nat→List Int→Option (List Int))→(Sl Mp))
  (hX1:∀ (iv1:Int) (pv1:Int) (u15v1_n:Nat) (u15v1_mk:(Nat→Bool)) (u15v1_nn:(Nat→Nat)) (u15v1_F:(Nat→List Int→Option (List Int))),P1 iv1 pv1 u15v1_n u15v1_mk u15v1_nn u15v1_F=true→K (e93 (S1 iv1 pv1 u15v1_n u15v1_mk u15v1_nn u15v1_F))→X1 (f93_g1 gates iv1 pv1 u15v1_n u15v1_mk u15v1_nn u15v1_F))
  (X2:St→Prop) (P2:Int→Int→Int→Nat→(Nat→Bool)→(Nat→Nat)→(Nat→List Int→Option (List Int))→Bool) (S2:Int→Int→Int→Nat→(Nat→Bool)→(Nat→Nat)→(Nat→List Int→Option (List Int))→(Sl Mp))
  (hX2:∀ (iv2:Int) (pv2:Int) (qv2:Int) (u15v2_n:Nat) (u15v2_mk:(Nat→Bool)) (u15v2_nn:(Nat→Nat)) (u15v2_F:(Nat→List Int→Option (List Int))),P2 iv2 pv2 qv2 u15v2_n u15v2_mk u15v2_nn u15v2_F=true→K (e93 (S2 iv2 pv2 qv2 u15v2_n u15v2_mk u15v2_nn u15v2_F))→X2 (f93_g2 gates iv2 pv2 qv2 u15v2_n u15v2_mk u15v2_nn u15v2_F)) (iv4:Int) (pv4:Int) (bestv4:Int) (rv4:Int) (u15v4_n:Nat) (u15v4_mk:(Nat→Bool)) (u15v4_nn:(Nat→Nat)) (u15v4_F:(Nat→List Int→Option (List Int))) (hs:p93_at4 P0 P1 P2 gates qv3 iv4 pv4 bestv4 rv4 u15v4_n u15v4_mk u15v4_nn u15v4_F=true) (hk:K (e93 (s93_at4 S0 S1 S2 gates qv3 iv4 pv4 bestv4 rv4 u15v4_n u15v4_mk u15v4_nn u15v4_F))):f93_at4 K X0 X1 X2 gates qv3 iv4 pv4 bestv4 rv4 u15v4_n u15v4_mk u15v4_nn u15v4_F:=by
  refine f93_loop4 K X0 X1 X2 gates qv3 iv4 pv4 bestv4 rv4 u15v4_n u15v4_mk u15v4_nn u15v4_F ?_
  intro X4 hstep
  have key:∀ (k:Nat) (iv4:Int) (pv4:Int) (bestv4:Int) (rv4:Int) (u15v4_n:Nat) (u15v4_mk:(Nat→Bool)) (u15v4_nn:(Nat→Nat)) (u15v4_F:(Nat→List Int→Option (List Int))),p93_lp4 P0 P1 P2 gates qv3 k iv4 pv4 bestv4 rv4 u15v4_n u15v4_mk u15v4_nn u15v4_F=true→K (e93 (s93_lp4 S0 S1 S2 gates qv3 k iv4 pv4 bestv4 rv4 u15v4_n u15v4_mk u15v4_nn u15v4_F))→X4 (f93_g4 gates qv3 iv4 pv4 bestv4 rv4 u15v4_n u15v4_mk u15v4_nn u15v4_F):=by
    intro k
    induction k with
    | zero=>intro iv4 pv4 bestv4 rv4 u15v4_n u15v4_mk u15v4_nn u15v4_F hs;exact absurd hs Bool.false_ne_true
    | succ k ih =>
      intro iv4 pv4 bestv4 rv4 u15v4_n u15v4_mk u15v4_nn u15v4_F hs hk
      refine hstep iv4 pv4 bestv4 rv4 u15v4_n u15v4_mk u15v4_nn u15v4_F ?_
      have hs:p93_st4 P0 P1 P2 gates qv3 (p93_lp4 P0 P1 P2 gates qv3 k) iv4 pv4 bestv4 rv4 u15v4_n u15v4_mk u15v4_nn u15v4_F=true:=hs
      have hk:K (e93 (s93_st4 S0 S1 S2 gates qv3 (s93_lp4 S0 S1 S2 gates qv3 k) iv4 pv4 bestv4 rv4 u15v4_n u15v4_mk u15v4_nn u15v4_F)):=hk
      unfold p93_st4 at hs
      unfold s93_st4 at hk
      generalize s93_lp4 S0 S1 S2 gates qv3 k=S4 at hk ih
      generalize p93_lp4 P0 P1 P2 gates qv3 k=P4 at hs ih
      have hX4:=ih
      exact (andK hs fun hc hs => ⟨hc, (condB_go (K := fun r => K (e93 r))
       (fun hs hk=>(andK hs fun hc hs=>⟨hc,(andK hs fun hc hs=>⟨hc,(andK hs fun hc hs=>⟨hc,(andK hs fun hc hs=>⟨hc,(andK hs fun hc hs=>⟨hc,(andK hs fun hc hs=>⟨hc,(andK hs fun hc hs=>⟨hc,(q93_at5 K gates qv3 X0 P0 S0 hX0 X1 P1 S1 hX1 X2 P2 S2 hX2 X4 P4 S4 hX4 iv4 pv4 bestv4 rv4 (if (nthO ((u15v4_F ((w64 (iv4+(1:Int))).toNat)) [qv3,rv4]) 0) > (s85 ((gates.get iv4.toNat).Z) ((gates.get ((w64 (iv4+(1:Int))).toNat)).Z) ((gates.get ((w64 (iv4+(2:Int))).toNat)).Z) pv4 qv3 rv4) then (nthO ((u15v4_F ((w64 (iv4+(1:Int))).toNat)) [qv3,rv4]) 0) else (s85 ((gates.get iv4.toNat).Z) ((gates.get ((w64 (iv4+(1:Int))).toNat)).Z) ((gates.get ((w64 (iv4+(2:Int))).toNat)).Z) pv4 qv3 rv4)) u15v4_n u15v4_mk u15v4_nn u15v4_F hs hk)⟩)⟩)⟩)⟩)⟩)⟩)⟩))
       (fun hs hk=>(andK hs fun hc hs=>⟨hc,(andK hs fun hc hs=>⟨hc,(andK hs fun hc hs=>⟨hc,(hX2 iv4 pv4 (w64 (qv3+(1:Int))) u15v4_n u15v4_mk (updI iv4.toNat (addN ((u15v4_F iv4.toNat) [pv4,qv3]) (u15v4_nn iv4.toNat)) u15v4_nn) (updI iv4.toNat (setM [pv4,qv3] [bestv4] (u15v4_F iv4.toNat)) u15v4_F) hs hk)⟩)⟩)⟩)) hs hk)⟩)
  exact key _ iv4 pv4 bestv4 rv4 u15v4_n u15v4_mk u15v4_nn u15v4_F hs hk
def s93_at3 (S0:Int→Nat→(Nat→Bool)→(Nat→Nat)→(Nat→List Int→Option (List Int))→(Sl Mp)) (S1:Int→Int→Nat→(Nat→Bool)→(Nat→Nat)→(Nat→List Int→Option (List Int))→(Sl Mp)) (S2:Int→Int→Int→Nat→(Nat→Bool)→(Nat→Nat)→(Nat→List Int→Option (List Int))→(Sl Mp)) (gates:(Sl Gate)) (iv3:Int) (pv3:Int) (qv3:Int) (u15v3_n:Nat) (u15v3_mk:(Nat→Bool)) (u15v3_nn:(Nat→Nat)) (u15v3_F:(Nat→List Int→Option (List Int))):(Sl Mp) :=
  (s93_at4 S0 S1 S2 gates qv3 iv3 pv3 (-1:Int) ((gates.get ((w64 (iv3+(2:Int))).toNat)).Low) u15v3_n u15v3_mk u15v3_nn u15v3_F)
def p93_at3 (P0:Int→Nat→(Nat→Bool)→(Nat→Nat)→(Nat→List Int→Option (List Int))→Bool) (P1:Int→Int→Nat→(Nat→Bool)→(Nat→Nat)→(Nat→List Int→Option (List Int))→Bool) (P2:Int→Int→Int→Nat→(Nat→Bool)→(Nat→Nat)→(Nat→List Int→Option (List Int))→Bool) (gates:(Sl Gate)) (iv3:Int) (pv3:Int) (qv3:Int) (u15v3_n:Nat) (u15v3_mk:(Nat→Bool)) (u15v3_nn:(Nat→Nat)) (u15v3_F:(Nat→List Int→Option (List Int))):Bool :=
  (decide ((0≤(w64 (iv3+(2:Int)))∧(w64 (iv3+(2:Int))) < (gates.len:Int))) &&
  (p93_at4 P0 P1 P2 gates qv3 iv3 pv3 (-1:Int) ((gates.get ((w64 (iv3+(2:Int))).toNat)).Low) u15v3_n u15v3_mk u15v3_nn u15v3_F))
theorem q93_at3 (K : List PA → Prop) (gates : (Sl Gate))
  (X0:St→Prop) (P0:Int→Nat→(Nat→Bool)→(Nat→Nat)→(Nat→List Int→Option (List Int))→Bool) (S0:Int→Nat→(Nat→Bool)→(Nat→Nat)→(Nat→List Int→Option (List Int))→(Sl Mp))
  (hX0:∀ (iv0:Int) (u15v0_n:Nat) (u15v0_mk:(Nat→Bool)) (u15v0_nn:(Nat→Nat)) (u15v0_F:(Nat→List Int→Option (List Int))),P0 iv0 u15v0_n u15v0_mk u15v0_nn u15v0_F=true→K (e93 (S0 iv0 u15v0_n u15v0_mk u15v0_nn u15v0_F))→X0 (f93_g0 gates iv0 u15v0_n u15v0_mk u15v0_nn u15v0_F))
  (X1:St→Prop) (P1:Int→Int→Nat→(Nat→Bool)→(Nat→Nat)→(Nat→List Int→Option (List Int))→Bool) (S1:Int→Int→Nat→(Nat→Bool)→(Nat→Nat)→(Nat→List Int→Option (List Int))→(Sl Mp))
  (hX1:∀ (iv1:Int) (pv1:Int) (u15v1_n:Nat) (u15v1_mk:(Nat→Bool)) (u15v1_nn:(Nat→Nat)) (u15v1_F:(Nat→List Int→Option (List Int))),P1 iv1 pv1 u15v1_n u15v1_mk u15v1_nn u15v1_F=true→K (e93 (S1 iv1 pv1 u15v1_n u15v1_mk u15v1_nn u15v1_F))→X1 (f93_g1 gates iv1 pv1 u15v1_n u15v1_mk u15v1_nn u15v1_F))
  (X2:St→Prop) (P2:Int→Int→Int→Nat→(Nat→Bool)→(Nat→Nat)→(Nat→List Int→Option (List Int))→Bool) (S2:Int→Int→Int→Nat→(Nat→Bool)→(Nat→Nat)→(Nat→List Int→Option (List Int))→(Sl Mp))
  (hX2:∀ (iv2:Int) (pv2:Int) (qv2:Int) (u15v2_n:Nat) (u15v2_mk:(Nat→Bool)) (u15v2_nn:(Nat→Nat)) (u15v2_F:(Nat→List Int→Option (List Int))),P2 iv2 pv2 qv2 u15v2_n u15v2_mk u15v2_nn u15v2_F=true→K (e93 (S2 iv2 pv2 qv2 u15v2_n u15v2_mk u15v2_nn u15v2_F))→X2 (f93_g2 gates iv2 pv2 qv2 u15v2_n u15v2_mk u15v2_nn u15v2_F)) (iv3:Int) (pv3:Int) (qv3:Int) (u15v3_n:Nat) (u15v3_mk:(Nat→Bool)) (u15v3_nn:(Nat→Nat)) (u15v3_F:(Nat→List Int→Option (List Int))) (hs:p93_at3 P0 P1 P2 gates iv3 pv3 qv3 u15v3_n u15v3_mk u15v3_nn u15v3_F=true) (hk:K (e93 (s93_at3 S0 S1 S2 gates iv3 pv3 qv3 u15v3_n u15v3_mk u15v3_nn u15v3_F))):f93_at3 K X0 X1 X2 gates iv3 pv3 qv3 u15v3_n u15v3_mk u15v3_nn u15v3_F:=by
  refine ofEq (f93_eq3 K X0 X1 X2 gates iv3 pv3 qv3 u15v3_n u15v3_mk u15v3_nn u15v3_F) ?_
  unfold p93_at3 at hs
  unfold s93_at3 at hk
  exact (andK hs fun hc hs=>⟨hc,(q93_at4 K gates qv3 X0 P0 S0 hX0 X1 P1 S1 hX1 X2 P2 S2 hX2 iv3 pv3 (-1:Int) ((gates.get ((w64 (iv3+(2:Int))).toNat)).Low) u15v3_n u15v3_mk u15v3_nn u15v3_F hs hk)⟩)
def s93_st2 (S0:Int→Nat→(Nat→Bool)→(Nat→Nat)→(Nat→List Int→Option (List Int))→(Sl Mp)) (S1:Int→Int→Nat→(Nat→Bool)→(Nat→Nat)→(Nat→List Int→Option (List Int))→(Sl Mp)) (gates:(Sl Gate)) (S2:Int→Int→Int→Nat→(Nat→Bool)→(Nat→Nat)→(Nat→List Int→Option (List Int))→(Sl Mp)) (iv2:Int) (pv2:Int) (qv2:Int) (u15v2_n:Nat) (u15v2_mk:(Nat→Bool)) (u15v2_nn:(Nat→Nat)) (u15v2_F:(Nat→List Int→Option (List Int))):(Sl Mp) :=
  (cond (decide (qv2 ≤ (gates.get ((w64 (iv2 + (1:Int))).toNat)).High))
   (cond (iv2 == (w64 ((gates.len : Int) - (2:Int))))
    (S2 iv2 pv2 (w64 (qv2+(1:Int))) u15v2_n u15v2_mk (updI iv2.toNat (addN ((u15v2_F iv2.toNat) [pv2,qv2]) (u15v2_nn iv2.toNat)) u15v2_nn) (updI iv2.toNat (setM [pv2,qv2] [(0:Int)] (u15v2_F iv2.toNat)) u15v2_F))
    (s93_at3 S0 S1 S2 gates iv2 pv2 qv2 u15v2_n u15v2_mk u15v2_nn u15v2_F))
   (S1 iv2 (w64 (pv2+(1:Int))) u15v2_n u15v2_mk u15v2_nn u15v2_F))
def p93_st2 (P0:Int→Nat→(Nat→Bool)→(Nat→Nat)→(Nat→List Int→Option (List Int))→Bool) (P1:Int→Int→Nat→(Nat→Bool)→(Nat→Nat)→(Nat→List Int→Option (List Int))→Bool) (gates:(Sl Gate)) (P2:Int→Int→Int→Nat→(Nat→Bool)→(Nat→Nat)→(Nat→List Int→Option (List Int))→Bool) (iv2:Int) (pv2:Int) (qv2:Int) (u15v2_n:Nat) (u15v2_mk:(Nat→Bool)) (u15v2_nn:(Nat→Nat)) (u15v2_F:(Nat→List Int→Option (List Int))):Bool :=
  (decide ((0≤(w64 (iv2+(1:Int)))∧(w64 (iv2+(1:Int))) < (gates.len:Int))) &&
  (cond (decide (qv2 ≤ (gates.get ((w64 (iv2 + (1:Int))).toNat)).High))
   (cond (iv2 == (w64 ((gates.len : Int) - (2:Int))))
    (decide ((0≤iv2∧iv2 < (u15v2_n:Int))) &&
    (decide ((iv2.toNat < u15v2_n∧u15v2_mk iv2.toNat=true)) &&
    (decide ((iv2.toNat < u15v2_n)) &&
    (P2 iv2 pv2 (w64 (qv2+(1:Int))) u15v2_n u15v2_mk (updI iv2.toNat (addN ((u15v2_F iv2.toNat) [pv2,qv2]) (u15v2_nn iv2.toNat)) u15v2_nn) (updI iv2.toNat (setM [pv2,qv2] [(0:Int)] (u15v2_F iv2.toNat)) u15v2_F)))))
    (p93_at3 P0 P1 P2 gates iv2 pv2 qv2 u15v2_n u15v2_mk u15v2_nn u15v2_F))
   (P1 iv2 (w64 (pv2+(1:Int))) u15v2_n u15v2_mk u15v2_nn u15v2_F)))
def s93_lp2 (S0 : Int → Nat → (Nat → Bool) → (Nat → Nat) → (Nat → List Int → Option (List Int)) → (Sl Mp)) (S1 : Int → Int → Nat → (Nat → Bool) → (Nat → Nat) → (Nat → List Int → Option (List Int)) → (Sl Mp)) (gates : (Sl Gate)) : Nat → Int → Int → Int → Nat → (Nat → Bool) → (Nat → Nat) → (Nat → List Int → Option (List Int)) → (Sl Mp)
  | 0=>fun _ _ _ _ _ _ _=>default
  | k+1=>s93_st2 S0 S1 gates (s93_lp2 S0 S1 gates k)
def p93_lp2 (P0 : Int → Nat → (Nat → Bool) → (Nat → Nat) → (Nat → List Int → Option (List Int)) → Bool) (P1 : Int → Int → Nat → (Nat → Bool) → (Nat → Nat) → (Nat → List Int → Option (List Int)) → Bool) (gates : (Sl Gate)) : Nat → Int → Int → Int → Nat → (Nat → Bool) → (Nat → Nat) → (Nat → List Int → Option (List Int)) → Bool
  | 0=>fun _ _ _ _ _ _ _=>false
  | k+1=>p93_st2 P0 P1 gates (p93_lp2 P0 P1 gates k)
def s93_at2 (S0:Int→Nat→(Nat→Bool)→(Nat→Nat)→(Nat→List Int→Option (List Int))→(Sl Mp)) (S1:Int→Int→Nat→(Nat→Bool)→(Nat→Nat)→(Nat→List Int→Option (List Int))→(Sl Mp)) (gates:(Sl Gate)) (iv2:Int) (pv2:Int) (qv2:Int) (u15v2_n:Nat) (u15v2_mk:(Nat→Bool)) (u15v2_nn:(Nat→Nat)) (u15v2_F:(Nat→List Int→Option (List Int))):(Sl Mp):=s93_lp2 S0 S1 gates Fuel iv2 pv2 qv2 u15v2_n u15v2_mk u15v2_nn u15v2_F
def p93_at2 (P0:Int→Nat→(Nat→Bool)→(Nat→Nat)→(Nat→List Int→Option (List Int))→Bool) (P1:Int→Int→Nat→(Nat→Bool)→(Nat→Nat)→(Nat→List Int→Option (List Int))→Bool) (gates:(Sl Gate)) (iv2:Int) (pv2:Int) (qv2:Int) (u15v2_n:Nat) (u15v2_mk:(Nat→Bool)) (u15v2_nn:(Nat→Nat)) (u15v2_F:(Nat→List Int→Option (List Int))):Bool:=p93_lp2 P0 P1 gates Fuel iv2 pv2 qv2 u15v2_n u15v2_mk u15v2_nn u15v2_F
theorem q93_at2 (K : List PA → Prop) (gates : (Sl Gate))
  (X0:St→Prop) (P0:Int→Nat→(Nat→Bool)→(Nat→Nat)→(Nat→List Int→Option (List Int))→Bool) (S0:Int→Nat→(Nat→Bool)→(Nat→Nat)→(Nat→List Int→Option (List Int))→(Sl Mp))
  (hX0:∀ (iv0:Int) (u15v0_n:Nat) (u15v0_mk:(Nat→Bool)) (u15v0_nn:(Nat→Nat)) (u15v0_F:(Nat→List Int→Option (List Int))),P0 iv0 u15v0_n u15v0_mk u15v0_nn u15v0_F=true→K (e93 (S0 iv0 u15v0_n u15v0_mk u15v0_nn u15v0_F))→X0 (f93_g0 gates iv0 u15v0_n u15v0_mk u15v0_nn u15v0_F))
  (X1:St→Prop) (P1:Int→Int→Nat→(Nat→Bool)→(Nat→Nat)→(Nat→List Int→Option (List Int))→Bool) (S1:Int→Int→Nat→(Nat→Bool)→(Nat→Nat)→(Nat→List Int→Option (List Int))→(Sl Mp))
  (hX1:∀ (iv1:Int) (pv1:Int) (u15v1_n:Nat) (u15v1_mk:(Nat→Bool)) (u15v1_nn:(Nat→Nat)) (u15v1_F:(Nat→List Int→Option (List Int))),P1 iv1 pv1 u15v1_n u15v1_mk u15v1_nn u15v1_F=true→K (e93 (S1 iv1 pv1 u15v1_n u15v1_mk u15v1_nn u15v1_F))→X1 (f93_g1 gates iv1 pv1 u15v1_n u15v1_mk u15v1_nn u15v1_F)) (iv2:Int) (pv2:Int) (qv2:Int) (u15v2_n:Nat) (u15v2_mk:(Nat→Bool)) (u15v2_nn:(Nat→Nat)) (u15v2_F:(Nat→List Int→Option (List Int))) (hs:p93_at2 P0 P1 gates iv2 pv2 qv2 u15v2_n u15v2_mk u15v2_nn u15v2_F=true) (hk:K (e93 (s93_at2 S0 S1 gates iv2 pv2 qv2 u15v2_n u15v2_mk u15v2_nn u15v2_F))):f93_at2 K X0 X1 gates iv2 pv2 qv2 u15v2_n u15v2_mk u15v2_nn u15v2_F:=by
  refine f93_loop2 K X0 X1 gates iv2 pv2 qv2 u15v2_n u15v2_mk u15v2_nn u15v2_F ?_
  intro X2 hstep
  have key:∀ (k:Nat) (iv2:Int) (pv2:Int) (qv2:Int) (u15v2_n:Nat) (u15v2_mk:(Nat→Bool)) (u15v2_nn:(Nat→Nat)) (u15v2_F:(Nat→List Int→Option (List Int))),p93_lp2 P0 P1 gates k iv2 pv2 qv2 u15v2_n u15v2_mk u15v2_nn u15v2_F=true→K (e93 (s93_lp2 S0 S1 gates k iv2 pv2 qv2 u15v2_n u15v2_mk u15v2_nn u15v2_F))→X2 (f93_g2 gates iv2 pv2 qv2 u15v2_n u15v2_mk u15v2_nn u15v2_F):=by
    intro k
    induction k with
    | zero=>intro iv2 pv2 qv2 u15v2_n u15v2_mk u15v2_nn u15v2_F hs;exact absurd hs Bool.false_ne_true
    | succ k ih =>
      intro iv2 pv2 qv2 u15v2_n u15v2_mk u15v2_nn u15v2_F hs hk
      refine hstep iv2 pv2 qv2 u15v2_n u15v2_mk u15v2_nn u15v2_F ?_
      have hs:p93_st2 P0 P1 gates (p93_lp2 P0 P1 gates k) iv2 pv2 qv2 u15v2_n u15v2_mk u15v2_nn u15v2_F=true:=hs
      have hk:K (e93 (s93_st2 S0 S1 gates (s93_lp2 S0 S1 gates k) iv2 pv2 qv2 u15v2_n u15v2_mk u15v2_nn u15v2_F)):=hk
      unfold p93_st2 at hs
      unfold s93_st2 at hk
      generalize s93_lp2 S0 S1 gates k=S2 at hk ih
      generalize p93_lp2 P0 P1 gates k=P2 at hs ih
      have hX2:=ih
      exact (andK hs fun hc hs => ⟨hc, (condB_go (K := fun r => K (e93 r))
       (fun hs hk => (condB_go (K := fun r => K (e93 r))
        (fun hs hk=>(andK hs fun hc hs=>⟨hc,(andK hs fun hc hs=>⟨hc,(andK hs fun hc hs=>⟨hc,(hX2 iv2 pv2 (w64 (qv2+(1:Int))) u15v2_n u15v2_mk (updI iv2.toNat (addN ((u15v2_F iv2.toNat) [pv2,qv2]) (u15v2_nn iv2.toNat)) u15v2_nn) (updI iv2.toNat (setM [pv2,qv2] [(0:Int)] (u15v2_F iv2.toNat)) u15v2_F) hs hk)⟩)⟩)⟩))
        (fun hs hk=>(q93_at3 K gates X0 P0 S0 hX0 X1 P1 S1 hX1 X2 P2 S2 hX2 iv2 pv2 qv2 u15v2_n u15v2_mk u15v2_nn u15v2_F hs hk)) hs hk))
       (fun hs hk=>(hX1 iv2 (w64 (pv2+(1:Int))) u15v2_n u15v2_mk u15v2_nn u15v2_F hs hk)) hs hk)⟩)
  exact key _ iv2 pv2 qv2 u15v2_n u15v2_mk u15v2_nn u15v2_F hs hk
def s93_st1 (S0:Int→Nat→(Nat→Bool)→(Nat→Nat)→(Nat→List Int→Option (List Int))→(Sl Mp)) (gates:(Sl Gate)) (S1:Int→Int→Nat→(Nat→Bool)→(Nat→Nat)→(Nat→List Int→Option (List Int))→(Sl Mp)) (iv1:Int) (pv1:Int) (u15v1_n:Nat) (u15v1_mk:(Nat→Bool)) (u15v1_nn:(Nat→Nat)) (u15v1_F:(Nat→List Int→Option (List Int))):(Sl Mp) :=
  (cond (decide (pv1 ≤ (gates.get iv1.toNat).High))
   (s93_at2 S0 S1 gates iv1 pv1 ((gates.get ((w64 (iv1+(1:Int))).toNat)).Low) u15v1_n u15v1_mk u15v1_nn u15v1_F)
   (S0 (w64 (iv1 - (1:Int))) u15v1_n u15v1_mk u15v1_nn u15v1_F))
def p93_st1 (P0:Int→Nat→(Nat→Bool)→(Nat→Nat)→(Nat→List Int→Option (List Int))→Bool) (gates:(Sl Gate)) (P1:Int→Int→Nat→(Nat→Bool)→(Nat→Nat)→(Nat→List Int→Option (List Int))→Bool) (iv1:Int) (pv1:Int) (u15v1_n:Nat) (u15v1_mk:(Nat→Bool)) (u15v1_nn:(Nat→Nat)) (u15v1_F:(Nat→List Int→Option (List Int))):Bool :=
  (decide ((0≤iv1∧iv1 < (gates.len:Int))) &&
  (cond (decide (pv1 ≤ (gates.get iv1.toNat).High))
   (decide ((0≤(w64 (iv1+(1:Int)))∧(w64 (iv1+(1:Int))) < (gates.len:Int))) &&
   (p93_at2 P0 P1 gates iv1 pv1 ((gates.get ((w64 (iv1+(1:Int))).toNat)).Low) u15v1_n u15v1_mk u15v1_nn u15v1_F))
   (P0 (w64 (iv1 - (1:Int))) u15v1_n u15v1_mk u15v1_nn u15v1_F)))
def s93_lp1 (S0 : Int → Nat → (Nat → Bool) → (Nat → Nat) → (Nat → List Int → Option (List Int)) → (Sl Mp)) (gates : (Sl Gate)) : Nat → Int → Int → Nat → (Nat → Bool) → (Nat → Nat) → (Nat → List Int → Option (List Int)) → (Sl Mp)
  | 0=>fun _ _ _ _ _ _=>default
  | k+1=>s93_st1 S0 gates (s93_lp1 S0 gates k)
def p93_lp1 (P0 : Int → Nat → (Nat → Bool) → (Nat → Nat) → (Nat → List Int → Option (List Int)) → Bool) (gates : (Sl Gate)) : Nat → Int → Int → Nat → (Nat → Bool) → (Nat → Nat) → (Nat → List Int → Option (List Int)) → Bool
  | 0=>fun _ _ _ _ _ _=>false
  | k+1=>p93_st1 P0 gates (p93_lp1 P0 gates k)
def s93_at1 (S0:Int→Nat→(Nat→Bool)→(Nat→Nat)→(Nat→List Int→Option (List Int))→(Sl Mp)) (gates:(Sl Gate)) (iv1:Int) (pv1:Int) (u15v1_n:Nat) (u15v1_mk:(Nat→Bool)) (u15v1_nn:(Nat→Nat)) (u15v1_F:(Nat→List Int→Option (List Int))):(Sl Mp):=s93_lp1 S0 gates Fuel iv1 pv1 u15v1_n u15v1_mk u15v1_nn u15v1_F
def p93_at1 (P0:Int→Nat→(Nat→Bool)→(Nat→Nat)→(Nat→List Int→Option (List Int))→Bool) (gates:(Sl Gate)) (iv1:Int) (pv1:Int) (u15v1_n:Nat) (u15v1_mk:(Nat→Bool)) (u15v1_nn:(Nat→Nat)) (u15v1_F:(Nat→List Int→Option (List Int))):Bool:=p93_lp1 P0 gates Fuel iv1 pv1 u15v1_n u15v1_mk u15v1_nn u15v1_F
theorem q93_at1 (K : List PA → Prop) (gates : (Sl Gate))
  (X0:St→Prop) (P0:Int→Nat→(Nat→Bool)→(Nat→Nat)→(Nat→List Int→Option (List Int))→Bool) (S0:Int→Nat→(Nat→Bool)→(Nat→Nat)→(Nat→List Int→Option (List Int))→(Sl Mp))
  (hX0:∀ (iv0:Int) (u15v0_n:Nat) (u15v0_mk:(Nat→Bool)) (u15v0_nn:(Nat→Nat)) (u15v0_F:(Nat→List Int→Option (List Int))),P0 iv0 u15v0_n u15v0_mk u15v0_nn u15v0_F=true→K (e93 (S0 iv0 u15v0_n u15v0_mk u15v0_nn u15v0_F))→X0 (f93_g0 gates iv0 u15v0_n u15v0_mk u15v0_nn u15v0_F)) (iv1:Int) (pv1:Int) (u15v1_n:Nat) (u15v1_mk:(Nat→Bool)) (u15v1_nn:(Nat→Nat)) (u15v1_F:(Nat→List Int→Option (List Int))) (hs:p93_at1 P0 gates iv1 pv1 u15v1_n u15v1_mk u15v1_nn u15v1_F=true) (hk:K (e93 (s93_at1 S0 gates iv1 pv1 u15v1_n u15v1_mk u15v1_nn u15v1_F))):f93_at1 K X0 gates iv1 pv1 u15v1_n u15v1_mk u15v1_nn u15v1_F:=by
  refine f93_loop1 K X0 gates iv1 pv1 u15v1_n u15v1_mk u15v1_nn u15v1_F ?_
  intro X1 hstep
  have key:∀ (k:Nat) (iv1:Int) (pv1:Int) (u15v1_n:Nat) (u15v1_mk:(Nat→Bool)) (u15v1_nn:(Nat→Nat)) (u15v1_F:(Nat→List Int→Option (List Int))),p93_lp1 P0 gates k iv1 pv1 u15v1_n u15v1_mk u15v1_nn u15v1_F=true→K (e93 (s93_lp1 S0 gates k iv1 pv1 u15v1_n u15v1_mk u15v1_nn u15v1_F))→X1 (f93_g1 gates iv1 pv1 u15v1_n u15v1_mk u15v1_nn u15v1_F):=by
    intro k
    induction k with
    | zero=>intro iv1 pv1 u15v1_n u15v1_mk u15v1_nn u15v1_F hs;exact absurd hs Bool.false_ne_true
    | succ k ih =>
      intro iv1 pv1 u15v1_n u15v1_mk u15v1_nn u15v1_F hs hk
      refine hstep iv1 pv1 u15v1_n u15v1_mk u15v1_nn u15v1_F ?_
      have hs:p93_st1 P0 gates (p93_lp1 P0 gates k) iv1 pv1 u15v1_n u15v1_mk u15v1_nn u15v1_F=true:=hs
      have hk:K (e93 (s93_st1 S0 gates (s93_lp1 S0 gates k) iv1 pv1 u15v1_n u15v1_mk u15v1_nn u15v1_F)):=hk
      unfold p93_st1 at hs
      unfold s93_st1 at hk
      generalize s93_lp1 S0 gates k=S1 at hk ih
      generalize p93_lp1 P0 gates k=P1 at hs ih
      have hX1:=ih
      exact (andK hs fun hc hs => ⟨hc, (condB_go (K := fun r => K (e93 r))
       (fun hs hk=>(andK hs fun hc hs=>⟨hc,(q93_at2 K gates X0 P0 S0 hX0 X1 P1 S1 hX1 iv1 pv1 ((gates.get ((w64 (iv1+(1:Int))).toNat)).Low) u15v1_n u15v1_mk u15v1_nn u15v1_F hs hk)⟩))
       (fun hs hk=>(hX0 (w64 (iv1 - (1:Int))) u15v1_n u15v1_mk u15v1_nn u15v1_F hs hk)) hs hk)⟩)
  exact key _ iv1 pv1 u15v1_n u15v1_mk u15v1_nn u15v1_F hs hk
def s93_st0 (gates:(Sl Gate)) (S0:Int→Nat→(Nat→Bool)→(Nat→Nat)→(Nat→List Int→Option (List Int))→(Sl Mp)) (iv0:Int) (u15v0_n:Nat) (u15v0_mk:(Nat→Bool)) (u15v0_nn:(Nat→Nat)) (u15v0_F:(Nat→List Int→Option (List Int))):(Sl Mp) :=
  (cond (decide (iv0 ≥ (0:Int)))
   (s93_at1 S0 gates iv0 ((gates.get iv0.toNat).Low) u15v0_n (updI iv0.toNat true u15v0_mk) (updI iv0.toNat 0 u15v0_nn) (updI iv0.toNat (fun _=>none) u15v0_F))
   (⟨u15v0_n,(fun i=>(⟨u15v0_nn i,u15v0_F i⟩:Mp))⟩:(Sl Mp)))
def p93_st0 (gates:(Sl Gate)) (P0:Int→Nat→(Nat→Bool)→(Nat→Nat)→(Nat→List Int→Option (List Int))→Bool) (iv0:Int) (u15v0_n:Nat) (u15v0_mk:(Nat→Bool)) (u15v0_nn:(Nat→Nat)) (u15v0_F:(Nat→List Int→Option (List Int))):Bool :=
  (cond (decide (iv0 ≥ (0:Int)))
   (decide ((0≤iv0∧iv0 < (u15v0_n:Int))) &&
   (decide ((iv0.toNat < u15v0_n∧u15v0_mk iv0.toNat=false)) &&
   (decide ((0≤iv0∧iv0 < (gates.len:Int))) &&
   (p93_at1 P0 gates iv0 ((gates.get iv0.toNat).Low) u15v0_n (updI iv0.toNat true u15v0_mk) (updI iv0.toNat 0 u15v0_nn) (updI iv0.toNat (fun _=>none) u15v0_F)))))
   true)
def s93_lp0 (gates : (Sl Gate)) : Nat → Int → Nat → (Nat → Bool) → (Nat → Nat) → (Nat → List Int → Option (List Int)) → (Sl Mp)
  | 0=>fun _ _ _ _ _=>default
  | k+1=>s93_st0 gates (s93_lp0 gates k)
def p93_lp0 (gates : (Sl Gate)) : Nat → Int → Nat → (Nat → Bool) → (Nat → Nat) → (Nat → List Int → Option (List Int)) → Bool
  | 0=>fun _ _ _ _ _=>false
  | k+1=>p93_st0 gates (p93_lp0 gates k)
def s93_at0 (gates:(Sl Gate)) (iv0:Int) (u15v0_n:Nat) (u15v0_mk:(Nat→Bool)) (u15v0_nn:(Nat→Nat)) (u15v0_F:(Nat→List Int→Option (List Int))):(Sl Mp):=s93_lp0 gates Fuel iv0 u15v0_n u15v0_mk u15v0_nn u15v0_F
def p93_at0 (gates:(Sl Gate)) (iv0:Int) (u15v0_n:Nat) (u15v0_mk:(Nat→Bool)) (u15v0_nn:(Nat→Nat)) (u15v0_F:(Nat→List Int→Option (List Int))):Bool:=p93_lp0 gates Fuel iv0 u15v0_n u15v0_mk u15v0_nn u15v0_F
theorem q93_at0 (K:List PA→Prop) (gates:(Sl Gate)) (iv0:Int) (u15v0_n:Nat) (u15v0_mk:(Nat→Bool)) (u15v0_nn:(Nat→Nat)) (u15v0_F:(Nat→List Int→Option (List Int))) (hs:p93_at0 gates iv0 u15v0_n u15v0_mk u15v0_nn u15v0_F=true) (hk:K (e93 (s93_at0 gates iv0 u15v0_n u15v0_mk u15v0_nn u15v0_F))):f93_at0 K gates iv0 u15v0_n u15v0_mk u15v0_nn u15v0_F:=by
  refine f93_loop0 K gates iv0 u15v0_n u15v0_mk u15v0_nn u15v0_F ?_
  intro X0 hstep
  have key:∀ (k:Nat) (iv0:Int) (u15v0_n:Nat) (u15v0_mk:(Nat→Bool)) (u15v0_nn:(Nat→Nat)) (u15v0_F:(Nat→List Int→Option (List Int))),p93_lp0 gates k iv0 u15v0_n u15v0_mk u15v0_nn u15v0_F=true→K (e93 (s93_lp0 gates k iv0 u15v0_n u15v0_mk u15v0_nn u15v0_F))→X0 (f93_g0 gates iv0 u15v0_n u15v0_mk u15v0_nn u15v0_F):=by
    intro k
    induction k with
    | zero=>intro iv0 u15v0_n u15v0_mk u15v0_nn u15v0_F hs;exact absurd hs Bool.false_ne_true
    | succ k ih =>
      intro iv0 u15v0_n u15v0_mk u15v0_nn u15v0_F hs hk
      refine hstep iv0 u15v0_n u15v0_mk u15v0_nn u15v0_F ?_
      have hs:p93_st0 gates (p93_lp0 gates k) iv0 u15v0_n u15v0_mk u15v0_nn u15v0_F=true:=hs
      have hk:K (e93 (s93_st0 gates (s93_lp0 gates k) iv0 u15v0_n u15v0_mk u15v0_nn u15v0_F)):=hk
      unfold p93_st0 at hs
      unfold s93_st0 at hk
      generalize s93_lp0 gates k=S0 at hk ih
      generalize p93_lp0 gates k=P0 at hs ih
      have hX0:=ih
      exact (condB_go (K := fun r => K (e93 r))
       (fun hs hk=>(andK hs fun hc hs=>⟨hc,(andK hs fun hc hs=>⟨hc,(andK hs fun hc hs=>⟨hc,(q93_at1 K gates X0 P0 S0 hX0 iv0 ((gates.get iv0.toNat).Low) u15v0_n (updI iv0.toNat true u15v0_mk) (updI iv0.toNat 0 u15v0_nn) (updI iv0.toNat (fun _=>none) u15v0_F) hs hk)⟩)⟩)⟩))
       (fun hs hk=>hk) hs hk)
  exact key _ iv0 u15v0_n u15v0_mk u15v0_nn u15v0_F hs hk
def s93 (gates:(Sl Gate)):(Sl Mp) :=
  (s93_at0 gates (w64 ((gates.len:Int) - (2:Int))) ((w64 ((gates.len:Int) - (1:Int))).toNat) (fun _=>false) (fun _=>0) (fun _ _=>none))
def p93 (gates:(Sl Gate)):Bool :=
  (decide ((0≤(w64 ((gates.len:Int) - (1:Int)))∧(w64 ((gates.len:Int) - (1:Int)))=(w64 ((gates.len:Int) - (1:Int)))∧(w64 ((gates.len:Int) - (1:Int)))≤1000000)) &&
  (p93_at0 gates (w64 ((gates.len:Int) - (2:Int))) ((w64 ((gates.len:Int) - (1:Int))).toNat) (fun _=>false) (fun _=>0) (fun _ _=>none)))
theorem q93 (gates:(Sl Gate)) (K:List PA→Prop) (hs:p93 gates=true) (hk:K (e93 (s93 gates))):vcFun Try.prog G93 ann93 93 [.one (.sl gates.len 3 (fun i=>enc_55 (gates.get i)))] K:=by
  refine ofEq (f93_top gates K) ?_
  unfold p93 at hs
  unfold s93 at hk
  exact (andK hs fun hc hs=>⟨hc,(q93_at0 K gates (w64 ((gates.len:Int) - (2:Int))) ((w64 ((gates.len:Int) - (1:Int))).toNat) (fun _=>false) (fun _=>0) (fun _ _=>none) hs hk)⟩)
def ctr93 : List PA → COut
  | [.one (.sl a0_n a0_s a0_g)]=>.det (IsE enc_55 3 a0_s a0_g∧p93 (⟨a0_n,decF_55 a0_g⟩:(Sl Gate))=true) [.one (.sl ((s93 (⟨a0_n,decF_55 a0_g⟩:(Sl Gate))).len) 1 (fun i=>enc_129 ((s93 (⟨a0_n,decF_55 a0_g⟩:(Sl Gate))).get i)))]
  | _=>.no
theorem call93:Callable Try.prog 93:=⟨_,rfl,rfl,by kernel_rfl⟩
theorem ok93:Ok Try.prog 93 ctr93:=ok_tab okT93 call93 fun args K h=>by
  unfold ctr93 at h
  split at h
  · rename_i a0_n a0_s a0_g
    obtain ⟨⟨⟨rfl,a0_f,rfl⟩,hs⟩,hk⟩:=h
    try rw [decF_enc_55 a0_f] at hs
    try rw [decF_enc_55 a0_f] at hk
    exact ⟨(fun _ _=>[]),(fun l=>Nat.beq l 15 || Nat.beq l 24),ann93,q93 (⟨a0_n,a0_f⟩:(Sl Gate)) K hs hk⟩
  · exact h.elim
end Go.Proofs
