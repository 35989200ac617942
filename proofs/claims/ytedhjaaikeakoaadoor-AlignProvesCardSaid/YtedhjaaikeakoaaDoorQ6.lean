/- Part 6 of what the proof rests on: a machine that runs functions of the program on pure values, proved sound; the functions that the law reaches, and what they compute. -/
import Derived.Test.YtedhjaaikeakoaaDoorQ5
import Derived.Test.YtedhjaaikeakoaaDoorProg
import Derived.Tactics
import Derived.Tactics2
import Derived.Recover
import Derived.RecoverIn
import Derived.TacticsInMore
import Derived.Test.YtedhjaaikeakoaaDoorTie
import Derived.ProofKit
import Derived.LaidMore
import Derived.OpenShut
import Derived.Stop.Joined
import Derived.Test.YtedhjaaikeakoaaDoorCards
import Derived.WalkKit
set_option linter.all false
namespace Go.Pm
open Go.RowKit (Below)
section
variable (P:Program) (Γ:Ctrs)
def zuN (fi : FuncId) : Code → Option (Nat × Nat)
  | .region id ops false=>match ops.toList with
    | [o1,o2]=>match o1.op,o1.dst,o1.guard,o2.op,o2.dst,o2.guard with
      | .makeFunc (.func f) first caps,some t,none,.defer { callee:=.value (.tmp t'),args,argTypes:=_ },none,none=>match Nat.beq f fi && Nat.beq t t' && first.isEmpty && args.isEmpty && Nat.beq caps.size 2 with
        | true=>some (id,t)
        | false=>none
      | _,_,_,_,_,_=>none
    | _=>none
  | _=>none
def zCn (fi : FuncId) (ann : Ann) : Code → (Exit → St → Prop) → St → Prop
  | .seq a b,K,σ=>match zuN fi a with
    | some (id,t)=>match Nat.blt t ann.nt with
      | true=>zDN P ann id (vc P Γ ann b K) ⟨(t,.junk) :: σ.env,σ.objs,[]⟩
      | false=>False
    | none=>vc P Γ ann a (zCM (zCn fi ann b K) K) σ
  | c,K,σ=>vc P Γ ann c K σ
def zuO (fi:FuncId) (ann:Ann) (f:FuncId) (args:List PA) (K:List PA→Prop):Prop :=
 match P.funcs[f]? with
 | some fn=>match fn.body with
  | some c=>match Nat.beq ann.nt fn.ntmps && Nat.ble args.length ann.nt with
   | true=>zCn P Γ fi ann c (zbl P fn K) ⟨zhD 0 args,[],[]⟩
   | false=>False
  | none=>False
 | none=>False
end
section
variable {P:Program} {Γ:Ctrs} {B:Nat} {w0:World}
theorem zmN {fi:FuncId} {c:Code} {id t:Nat} (h:zuN fi c=some (id,t)):∃ (o1 o2:Oper) (caps:Array Operand) (ats:Array TypeId),c=.region id #[o1,o2] false∧caps.size=2∧o1.op=.makeFunc (.func fi) #[] caps∧o1.dst=some t∧o1.guard=none ∧
  o2.op=.defer { callee:=.value (.tmp t),args:=#[],argTypes:=ats }∧o2.dst=none∧o2.guard=none:=by
 unfold zuN at h
 split at h
 ·rename_i id' ops
  split at h
  ·rename_i o1 o2 hops
   split at h
   ·rename_i f first caps t' t2 args ats e1 e2 e3 e4 e5 e6
    split at h
    ·rename_i hc
     simp only [Bool.and_eq_true] at hc
     simp only [Option.some.injEq,Prod.mk.injEq] at h
     obtain ⟨rfl,rfl⟩:=h
     obtain ⟨⟨⟨⟨h1,h2⟩,h3⟩,h4⟩,h5⟩:=hc
     have h5:=Nat.eq_of_beq_eq_true h5
     have h1:=Nat.eq_of_beq_eq_true h1
     have h2:=Nat.eq_of_beq_eq_true h2
     have h3:first = #[]:=by simpa using h3
     have h4:args = #[]:=by simpa using h4
     subst h1 h2 h3 h4
     refine ⟨o1,o2,caps,ats,?_,h5,e1,e2,e3,e4,e5,e6⟩
     rw [← Array.toArray_toList (xs:=ops),hops]
    ·cases h
   ·cases h
  ·cases h
 ·cases h
theorem zvK {fi : FuncId} (hidle : ∀ caps : Array Value, caps.size = 2 → zm0 P { target := .fn (.func fi) caps, args := #[] }) {c : Code} {id t nt n : Nat} {h0 : Fz} {D : List Nat} {a0 a : Act} {σ : St} {g : Gh} {w : World} {Q : Exit → Act → World → Prop}
    (h:zuN fi c=some (id,t)) (ht:t < nt) (htD:t∈D) (S:Sim P nt B w0 h0 g σ a w) (hkp:Kp D a0 a)
    (hQ:∀ a',Sim P nt B w0 h0 g ⟨(t,.junk) :: σ.env,σ.objs,[]⟩ a' w→Kp D a0 a'→Q .normal a' w):c.wpIn (FR none) n P Q a w:=by
  obtain ⟨o1,o2,caps,ats,rfl,e0,e1,e2,e3,e4,e5,e6⟩:=zmN h
  refine wpIn_region ?_
  show wpOpsIn (FR none) n P #[o1,o2] Q [0,1] a w
  have w1:∀ tm,Region.wanted o1 (yielded #[o1,o2] tm)=true:=fun tm=>by simp [Region.wanted,e3]
  have w2:∀ tm,Region.wanted o2 (yielded #[o1,o2] tm)=true:=fun tm=>by simp [Region.wanted,e6]
  have r1:(execOp a.eval o1).run P w=.ok (.value (.func (.func fi) #[] (caps.map a.eval))) w:=by
    simp only [execOp,e1,Instr.makeFunc,Sem.run_bind,Sem.run_pure,Result.andThen_ok];simp
  have ets:t < a.tmps.size:=Nat.lt_of_lt_of_le ht S.size
  have ev:(a.put (some t) (.func (.func fi) #[] (caps.map a.eval))).eval (.tmp t)=.func (.func fi) #[] (caps.map a.eval):=by
    simp [Act.put,Act.eval,Array.getD_eq_getD_getElem?,ets]
  have r2:(execOp (a.put (some t) (.func (.func fi) #[] (caps.map a.eval))).eval o2).run P w=.ok (.defer { target:=.fn (.func fi) (caps.map a.eval),args:=#[] }) w:=by
    simp only [execOp,e4,resolve,Sem.run_bind,ev,Deferred.ofValue,Sem.run_pure,Result.andThen_ok];simp
  show (if Region.wanted o1 (yielded #[o1,o2] a.tmps) then o1.wpIn (FR none) n P a w (wpOpsIn (FR none) n P #[o1,o2] Q [1]) Q else _)
  rw [if_pos (w1 _)]
  refine ⟨fun _ _=>trivial,?_⟩
  rw [show o1.semAt (FR none).round a.eval=execOp a.eval o1 from rfl,r1]
  show wpOpsIn (FR none) n P #[o1,o2] Q [1] (a.put o1.dst _) w
  rw [e2]
  show (if Region.wanted o2 (yielded #[o1,o2] (a.put (some t) _).tmps) then o2.wpIn (FR none) n P (a.put (some t) _) w (wpOpsIn (FR none) n P #[o1,o2] Q []) Q else _)
  rw [if_pos (w2 _)]
  refine ⟨fun _ _=>trivial,?_⟩
  have r3:Sem.run P (o2.semAt (FR none).round (a.put (some t) (.func (.func fi) #[] (caps.map a.eval))).eval) w=.ok (.defer { target:=.fn (.func fi) (caps.map a.eval),args:=#[] }) w:=r2
  rw [r3]
  have S1:=S.put (dst:=some t) (d:=.junk) (v:=.func (.func fi) #[] (caps.map a.eval)) (by simpa [zbN,Nat.blt_eq] using ht) trivial (fun L hL=>by simp [za3,zbu,zaK] at hL) []
  refine hQ _ (S1.act ?_ ?_ ?_) ?_
  · obtain ⟨es, m1, m2, m3, m4⟩ := S1.dfr
    refine ⟨.inr { target:=.fn (.func fi) (caps.map a.eval),args:=#[] } :: es,m1,?_,fun E hE=>?_,fun d hd=>?_⟩
    · rw [e5,List.map_cons,← m2];rfl
    · rcases List.mem_cons.1 hE with e | hE
      · cases e
      · exact m3 E hE
    · rcases List.mem_cons.1 hd with e | hd
      · cases e;exact hidle _ (by simpa using e0)
      · exact m4 d hd
  · rw [e5];exact S1.size
  · rw [e5];exact S1.env
  · rw [e5]
    exact hkp.put (dst:=some t) (fun z hz=>by cases hz;exact htD) _ a.defers
theorem zyJ (hok:OkAll P Γ) {fi:FuncId} (hidle:∀ caps:Array Value,caps.size=2→zm0 P { target:=.fn (.func fi) caps,args:=#[] }) (ann:Ann):∀ (c:Code) (n:Nat) (h0:Fz) (D:List Nat) (a0:Act) (K:Exit→St→Prop) (σ:St) (g:Gh) (a:Act) (w:World),
  (∀ t∈zhB c,t∈D)→zCn P Γ fi ann c K σ→Sim P ann.nt B w0 h0 g σ a w→Kp D a0 a→c.wpIn (FR none) n P (PostR P ann.nt B w0 h0 D a0 K) a w
 | .seq x y,n,h0,D,a0,K,σ,g,a,w,hD,h,S,hkp=>by
  have hDx:∀ t∈zhB x,t∈D:=fun t ht=>hD t (List.mem_append.2 (.inl ht))
  have hDy:∀ t∈zhB y,t∈D:=fun t ht=>hD t (List.mem_append.2 (.inr ht))
  simp only [zCn] at h
  split at h
  ·rename_i id t hdf
   split at h
   ·rename_i hlt
    have ht:t < ann.nt:=by simpa [Nat.blt_eq] using hlt
    have htD:t∈D:=by
     obtain ⟨o1,o2,caps,ats,rfl,_,_,e2,_,_,e5,_⟩:=zmN hdf
     exact hDx t (by simp [zhB,zv4,e2])
    refine wpIn_seq (zvK hidle hdf ht htD S hkp fun a' S' hk'=>?_)
    have hk:∀ s g2,vc P Γ ann y K s→Sim P ann.nt B w0 h0 g2 s a' w→y.wpIn (FR none) n P (PostR P ann.nt B w0 h0 D a0 K) a' w:=fun s g2 hv S2=>zdI hok ann y none n h0 D a0 K s g2 a' w hDy (Rnd.none h0) hv S2 hk'
    unfold zDN at h
    split at h
    ·split at h
     ·rename_i s hs
      obtain ⟨g2,S2⟩:=zbD hs S'
      exact hk s g2 h S2
     ·exact h.elim
    ·exact hk _ g h S'
   ·exact h.elim
  ·refine wpIn_seq (wpIn_mono (zdI hok ann x none n h0 D a0 _ σ g a w hDx (Rnd.none h0) h S hkp) ?_)
   rintro e a' w' ⟨g',σ',hK,S',hk'⟩
   cases e with
   | normal=>exact zyJ hok hidle ann y n h0 D a0 K σ' g' a' w' hDy hK S' hk'
   | exit id=>exact ⟨g',σ',hK,S',hk'⟩
   | goto l=>exact ⟨g',σ',hK,S',hk'⟩
   | ret=>exact ⟨g',σ',hK,S',hk'⟩
   | panic ch=>exact ⟨g',σ',hK,S',hk'⟩
   | outgrown=>exact ⟨g',σ',hK,S',hk'⟩
 | .skip,n,h0,D,a0,K,σ,g,a,w,hD,h,S,hkp=>zdI hok ann .skip none n h0 D a0 K σ g a w hD (Rnd.none h0) h S hkp
 | .region i o d,n,h0,D,a0,K,σ,g,a,w,hD,h,S,hkp=>zdI hok ann (.region i o d) none n h0 D a0 K σ g a w hD (Rnd.none h0) h S hkp
 | .cond c x y,n,h0,D,a0,K,σ,g,a,w,hD,h,S,hkp=>zdI hok ann (.cond c x y) none n h0 D a0 K σ g a w hD (Rnd.none h0) h S hkp
 | .block i x,n,h0,D,a0,K,σ,g,a,w,hD,h,S,hkp=>zdI hok ann (.block i x) none n h0 D a0 K σ g a w hD (Rnd.none h0) h S hkp
 | .loop x,n,h0,D,a0,K,σ,g,a,w,hD,h,S,hkp=>zdI hok ann (.loop x) none n h0 D a0 K σ g a w hD (Rnd.none h0) h S hkp
 | .scope x,n,h0,D,a0,K,σ,g,a,w,hD,h,S,hkp=>zdI hok ann (.scope x) none n h0 D a0 K σ g a w hD (Rnd.none h0) h S hkp
 | .exit i,n,h0,D,a0,K,σ,g,a,w,hD,h,S,hkp=>zdI hok ann (.exit i) none n h0 D a0 K σ g a w hD (Rnd.none h0) h S hkp
 | .goto i,n,h0,D,a0,K,σ,g,a,w,hD,h,S,hkp=>zdI hok ann (.goto i) none n h0 D a0 K σ g a w hD (Rnd.none h0) h S hkp
 | .label i,n,h0,D,a0,K,σ,g,a,w,hD,h,S,hkp=>zdI hok ann (.label i) none n h0 D a0 K σ g a w hD (Rnd.none h0) h S hkp
 | .ret,n,h0,D,a0,K,σ,g,a,w,hD,h,S,hkp=>zdI hok ann .ret none n h0 D a0 K σ g a w hD (Rnd.none h0) h S hkp
 | .rangeFunc f p x y,n,h0,D,a0,K,σ,g,a,w,hD,h,S,hkp=>zdI hok ann (.rangeFunc f p x y) none n h0 D a0 K σ g a w hD (Rnd.none h0) h S hkp
 | .refuse x,n,h0,D,a0,K,σ,g,a,w,hD,h,S,hkp=>zdI hok ann (.refuse x) none n h0 D a0 K σ g a w hD (Rnd.none h0) h S hkp
theorem zCo {G : Ctrs} (hok : OkAll P G) {f fi : FuncId} (hidle : ∀ caps : Array Value, caps.size = 2 → zm0 P { target := .fn (.func fi) caps, args := #[] }) {args : List PA} {K : List PA → Prop} {ann : Ann} (hv : zuO P G fi ann f args K) {w : World} {h0 : Fz} {vs : List Value} (hvs : RL (paR h0) args vs) (hfz : Hw h0 w) (hgl : zel h0) :
  Calls P f vs.toArray w fun e w'=>∃ (h':Fz) (rs:List PA) (v:Value),K rs∧e=.returned v∧zov h' rs v∧Bel h0 w.heap.size w w' ∧
   Fle h0 h'∧Hw h' w'∧∀ b o,h' b=some o→h0 b=some o∨w.heap.size≤b:=by
 unfold zuO at hv
 split at hv
 ·rename_i fn hfn
  split at hv
  ·rename_i c hbody
   split at hv
   ·rename_i hnt
    simp only [Bool.and_eq_true,Nat.ble_eq] at hnt
    have S:=zkI (P:=P) (Nat.eq_of_beq_eq_true hnt.1) hnt.2 hvs hfz hgl
    have hwp:=zyJ (B:=w.heap.size) (w0:=w) hok hidle ann c 0 h0 (zhB c) _ _ _ _ _ _ (fun _ h=>h) hv S (Kp.refl _ _)
    refine (callsIn_wide (n:=0)).1 ?_
    refine callsIn_of_wp_marks (F:=FR none) hfn hbody trivial (wpIn_mono hwp ?_)
    have h0b:∀ b,h0 b=some (.fz (.deferred (some [])))→b < w.heap.size:=fun b h=>hfz.lt h
    rintro e a' w' ⟨g',σ',hK',S',_⟩
    have fin:zHD P fn K σ'→LeavesInM (FR none) 0 P fn a'.tmps (fun e w'=>∃ (h':Fz) (rs:List PA) (v:Value),K rs∧e=.returned v∧zov h' rs v∧Bel h0 w.heap.size w w' ∧
      Fle h0 h'∧Hw h' w'∧∀ b o,h' b=some o→h0 b=some o∨w.heap.size≤b) a'.defers .returning w':=by
     intro hf
     obtain ⟨Ds,h1,h2,h3,h4⟩:=S'.dfr
     refine zkH h0b Ds g' a' w' h1 h2 h3 h4 S' fun g2 a2 w2 _ S2=>?_
     unfold zHD at hf
     split at hf
     ·rename_i l hl
      obtain ⟨u,v,hu,hrun,hres⟩:=zkG S2 hl
      obtain ⟨h',S3,F⟩:=S2.freeze hu
      exact ⟨v,hrun,h',l,v,hf,rfl,hres h' F,S3.below,S3.le0,S3.hw,S3.hn⟩
     ·exact hf.elim
    cases e with
    | normal=>exact fin hK'
    | ret=>exact fin hK'
    | exit id=>exact hK'.elim
    | goto l=>exact hK'.elim
    | panic ch=>exact hK'.elim
    | outgrown=>exact hK'.elim
   ·exact hv.elim
  ·exact hv.elim
 ·exact hv.elim
theorem zCp {T : Tabs} (hT : TabsOk P T) {f fi : FuncId} {C : List PA → COut} (hc : zaw P f) (hidle : ∀ caps : Array Value, caps.size = 2 → zm0 P { target := .fn (.func fi) caps, args := #[] })
    (h:∀ args K,(C args).wp K→∃ args',RL PAle args args'∧∃ memo vv ann,zuO P (csm T memo vv) fi ann f args' (Wk K)):Ok P f C:=by
  intro args K hK w h0 vs hvs hfz hgl
  obtain ⟨args',hle,memo,vv,ann,hv⟩:=h args K hK
  refine ⟨hc,(zCo (hT.all memo vv) hidle hv (zxu (R:=paR h0) (S:=PAle) (T:=paR h0) (fun _ _ _ e r=>zBS e r) _ _ _ hle hvs) hfz hgl).mono ?_⟩
  rintro e w' ⟨h',rs,v,⟨rs',hr,hk⟩,he,hres,rest⟩
  exact ⟨h',rs',v,hk,he,zxv hr hres,rest⟩
end
end Go.Pm
namespace Go.Pm
open Go Go.Proofs
set_option maxRecDepth 100000
theorem zI8:∀ caps:Array Value,caps.size=2→zm0 Tryd.prog { target:=.fn (.func 68) caps,args:=#[] }:=fun caps hc=>by
 match caps,hc with
 | ⟨[x,y]⟩,_ =>
 refine ⟨.func 68,#[x,y],68,#[x,y],rfl,fun w=>?_,fun n w=>?_⟩
 ·have h : zaw Tryd.prog 68 := ⟨_, rfl, rfl, by kernel_rfl⟩
  show (callFunc 68 (#[] ++ #[x,y])).run Tryd.prog w=_
  exact zcs h
 have key:CallsDIn { fn:=fun _=>True,depth:=none,alive:=false,round:=none } n Tryd.prog 68 #[x,y] .returning w fun e u' w'=>e=.returned (.tuple #[])∧u'=.returning∧w'=w:=by
  refine callsDIn_of_wpSIn Tryd.func68 rfl trivial fun c₀ cs hu=>?_
  apply wpSIn_seq
  apply wpSIn_region
  simp [wpOpsSIn,go_sem,recoverD,hu,Tryd.ntmps68,Exit.thenS]
  apply wpSIn_seq
  apply wpSIn_region
  simp [wpOpsSIn,go_sem,recoverD,hu,Tryd.ntmps68,Exit.thenS]
  refine wpSIn_cond (t:=false) (by simp [Act.eval,Array.replicate]) ?_
  simp only [Bool.false_eq_true,if_false]
  refine wpSIn_of_wpIn rfl (wpIn_skip ?_)
  cases c₀
  simp_all [bodyPostS,results,Tryd.results68]
 exact key.mono fun e u' w' h=>⟨⟨_,h.1⟩,h.2⟩
end Go.Pm
namespace Go.Proofs
open Go Go.Pm
set_option maxRecDepth 100000
set_option linter.unusedVariables false
attribute [local irreducible] Go.Pm.vcFun Go.Pm.vc Go.Pm.vcIter
abbrev T22:Tabs:=(((Tabs.nil.addF 67 zvy).addM 69 zI3).addF 70 zFf)
theorem zLw:TabsOk Tryd.prog T22:=(((TabsOk.nil.addF zKC).addM zNe).addF zNg)
abbrev G22:Ctrs:=csm T22 (fun _ _=>[]) (fun l=>Nat.beq l 12)
def zFg:Ann:=⟨29,[(0,zK [1,2,3] [1,2,3]),(1,zK [1,2,3,9] [1,2,3]),(2,zK [2,3] [2,3]),(3,zK [1,2,3] [1,2,3]),(4,zK [2,3,4] [2,3,12,14]),(5,zK [2,3,4,15] [2,3,12,14]),(6,zK [2,3,4,15,16] [2,3,12,14]),(7,zK [2,3,4,5,15] [2,3,12,14]),(8,zK [2,3,4,6,15] [2,3,12,14]),(9,zK [2,3,4,6,15,23] [2,3,12,14]),(10,zK [2,3] [2,3]),(11,zK [2,3,4,15] [2,3,12,14])],
 [(6,zK [2,3,4,15] [2,3,12,14])],
 [],
 [],[]⟩
abbrev R22:=((Sl Int)×Int)
abbrev e22 (r:R22):List PA:=[.one (.sl r.1.len 1 (fun i=>enc_3 (r.1.get i))),.one (.int .i64 r.2)]
@[irreducible] def z22:=ptF Tryd.prog G22 zFg Tryd.f22
def zDi (zbv:Int) (zbA:Int) (zbq:(Sl Tie)) (zbB:Nat) (zbC:(List Int→Option (List Int))) (zdv:Nat→List PV):St:=⟨[(2,zp 2 0),(3,zp 3 0),(4,zp 14 0),(15,zI zbv)],[(2,.box 27 [.p (.nils)]),(3,.box 28 [zi (0:Int)]),(12,.mo 3 4 (false,1,false,[none]) zbB zbC),(14,.box 105 [zi zbA,.p (.sl zbq.len 4 zdv),.mo 12])],[]⟩
abbrev zI9 (K:List PA→Prop) (X:St→Prop) (P:Int→Int→(Sl Tie)→Nat→(List Int→Option (List Int))→Bool) (S:Int→Int→(Sl Tie)→Nat→(List Int→Option (List Int))→((Sl Int)×Int)):Prop:=∀ ⦃zbv:Int⦄ ⦃zbA:Int⦄ ⦃zbq:(Sl Tie)⦄ ⦃zbB:Nat⦄ ⦃zbC:(List Int→Option (List Int))⦄ ⦃zdv:Nat→List PV⦄,P zbv zbA zbq zbB zbC=true→K (e22 (S zbv zbA zbq zbB zbC))→zdv=zg enc_40 zbq→X (zDi zbv zbA zbq zbB zbC zdv)
section
variable {K:List PA→Prop} {n:Net} {zbv:Int} {zbA:Int} {zbq:(Sl Tie)} {zbB:Nat} {zbC:(List Int→Option (List Int))} {zdv:Nat→List PV} {X0:St→Prop} {P0:Int→Int→(Sl Tie)→Nat→(List Int→Option (List Int))→Bool} {S0:Int→Int→(Sl Tie)→Nat→(List Int→Option (List Int))→((Sl Int)×Int)}
def zyK (S0:Int→Int→(Sl Tie)→Nat→(List Int→Option (List Int))→((Sl Int)×Int)) (zbv:Int) (zbA:Int) (zbq:(Sl Tie)) (zbB:Nat) (zbC:(List Int→Option (List Int))):((Sl Int)×Int) :=
  (cond (decide (zbv < (4:Int)))
 (cond (decide ((((s69 (⟨(⟨zbA, zbq⟩ : Net), (⟨zbB, zbC⟩ : Mp)⟩ : web) zbv).1).len : Int) > (0:Int)))
 ((s70 ((s69 (⟨(⟨zbA,zbq⟩:Net),(⟨zbB,zbC⟩:Mp)⟩:web) zbv).1)),(0:Int))
 (S0 (w64 (zbv+(1:Int))) (((s69 (⟨(⟨zbA,zbq⟩:Net),(⟨zbB,zbC⟩:Mp)⟩:web) zbv).2).Net.Nodes) (((s69 (⟨(⟨zbA,zbq⟩:Net),(⟨zbB,zbC⟩:Mp)⟩:web) zbv).2).Net.Ties) ((((s69 (⟨(⟨zbA,zbq⟩:Net),(⟨zbB,zbC⟩:Mp)⟩:web) zbv).2).out).n) ((((s69 (⟨(⟨zbA,zbq⟩:Net),(⟨zbB,zbC⟩:Mp)⟩:web) zbv).2).out).F)))
 default)
def zyL (P0:Int→Int→(Sl Tie)→Nat→(List Int→Option (List Int))→Bool) (zbv:Int) (zbA:Int) (zbq:(Sl Tie)) (zbB:Nat) (zbC:(List Int→Option (List Int))):Bool :=
  (cond (decide (zbv < (4:Int)))
 (decide ((p69 (⟨(⟨zbA,zbq⟩:Net),(⟨zbB,zbC⟩:Mp)⟩:web) zbv=true)) &&
 (cond (decide ((((s69 (⟨(⟨zbA, zbq⟩ : Net), (⟨zbB, zbC⟩ : Mp)⟩ : web) zbv).1).len : Int) > (0:Int)))
 (decide ((p70 ((s69 (⟨(⟨zbA,zbq⟩:Net),(⟨zbB,zbC⟩:Mp)⟩:web) zbv).1)=true)) &&
 true)
 (P0 (w64 (zbv+(1:Int))) (((s69 (⟨(⟨zbA,zbq⟩:Net),(⟨zbB,zbC⟩:Mp)⟩:web) zbv).2).Net.Nodes) (((s69 (⟨(⟨zbA,zbq⟩:Net),(⟨zbB,zbC⟩:Mp)⟩:web) zbv).2).Net.Ties) ((((s69 (⟨(⟨zbA,zbq⟩:Net),(⟨zbB,zbC⟩:Mp)⟩:web) zbv).2).out).n) ((((s69 (⟨(⟨zbA,zbq⟩:Net),(⟨zbB,zbC⟩:Mp)⟩:web) zbv).2).out).F))))
 false)
def zyM:Nat→Int→Int→(Sl Tie)→Nat→(List Int→Option (List Int))→((Sl Int)×Int):=lpO (fun _ _ _ _ _=>default) (zyK)
def zyN:Nat→Int→Int→(Sl Tie)→Nat→(List Int→Option (List Int))→Bool:=lpO (fun _ _ _ _ _=>false) (zyL)
def zyO (zbv:Int) (zbA:Int) (zbq:(Sl Tie)) (zbB:Nat) (zbC:(List Int→Option (List Int))):((Sl Int)×Int):=zyM Fuel zbv zbA zbq zbB zbC
def zyP (zbv:Int) (zbA:Int) (zbq:(Sl Tie)) (zbB:Nat) (zbC:(List Int→Option (List Int))):Bool:=zyN Fuel zbv zbA zbq zbB zbC
theorem zFh (hs:zyP zbv zbA zbq zbB zbC=true) (hk:K (e22 (zyO zbv zbA zbq zbB zbC))) (zlr:zdv=zg enc_40 zbq):z22 (Wk K) [1,1,1,1,0,1,0] [] (zDi zbv zbA zbq zbB zbC zdv) :=
  zl (fun X=>z22 (Wk K) [1,1,1,1,0,1,0,0] [X]) (by kernel_rfl) fun X0 hX =>
  (show ∀ k, zI9 K X0 (zyN k) (zyM k) from zjH _ _ (zyL) (zyK) (zI9 K X0)
 (by intro _ _ _ _ _ _ hs;exact absurd hs Bool.false_ne_true)
 (by intro P0 S0 hX0 zbv zbA zbq zbB zbC zdv hs hk zlr;subst zlr;exact hX _ (zbd (by kernel_rfl) (zc hs hk (fun hs hk=>(za2 hs fun hc hs=>And.intro (And.intro (zE enc_40 4 zbq.get) (And.intro (rfl:((false,1,false,[none]):MQ)=(false,1,false,[none])) hc)) (zc hs hk (fun hs hk=>(za2 hs fun hc hs=>And.intro (And.intro (zE zcl 1 (((s69 (⟨(⟨zbA,zbq⟩:Net),(⟨zbB,zbC⟩:Mp)⟩:web) zbv).1).get)) hc) ((zgS hk):Wk K [.one (.sl ((s70 ((s69 (⟨(⟨zbA,zbq⟩:Net),(⟨zbB,zbC⟩:Mp)⟩:web) zbv).1)).len) 1 (fun i=>enc_3 ((s70 ((s69 (⟨(⟨zbA,zbq⟩:Net),(⟨zbB,zbC⟩:Mp)⟩:web) zbv).1)).get i))),.one (.int .i64 (0:Int))]))) (fun hs hk=>(hX0 hs hk rfl))))) (fun hs hk=>(absurd hs Bool.false_ne_true:False)))))) _ hs hk zlr
def s22 (n:Net):((Sl Int)×Int) :=
  (cond (!(s67 n))
 ((⟨0,fun _=>default⟩:(Sl Int)),(2:Int))
 (zyO (0:Int) n.Nodes n.Ties 0 (fun _=>none)))
def p22 (n:Net):Bool :=
  (decide ((p67 n=true)) &&
 (cond (!(s67 n))
 true
 (zyP (0:Int) n.Nodes n.Ties 0 (fun _=>none))))
end
theorem q22 (n:Net) (K:List PA→Prop) (hs:p22 n=true) (hk:K (e22 (s22 n))):zuO Tryd.prog G22 68 zFg 22 [.agg (enc_24 n)] (Wk K) :=
  zbd (by kernel_rfl) (za2 hs fun hc hs=>And.intro (And.intro (zE enc_40 4 n.Ties.get) hc) (zc hs hk (fun hs hk=>((wk hk (zib (.one (.nil _ _)) (zib (.one (.rfl _)) zow))):Wk K [.one (.nils),.one (.int .i64 (2:Int))])) (fun hs hk=>(zFh hs hk rfl))))
def zFi : List PA → COut
  | [.agg [.int .i64 zah,.sl zad zaz zac]]=>.det (IsE enc_40 4 zaz zac∧p22 (⟨zah,(⟨zad,zal zac⟩:(Sl Tie))⟩:Net)=true) [.one (.sl (((s22 (⟨zah,(⟨zad,zal zac⟩:(Sl Tie))⟩:Net)).1).len) 1 (fun i=>enc_3 (((s22 (⟨zah,(⟨zad,zal zac⟩:(Sl Tie))⟩:Net)).1).get i))),.one (.int .i64 ((s22 (⟨zah,(⟨zad,zal zac⟩:(Sl Tie))⟩:Net)).2))]
  | _=>.no
theorem zJa:zaw Tryd.prog 22:=⟨_,rfl,rfl,by kernel_rfl⟩
theorem zNh:Ok Tryd.prog 22 zFi:=zCp zLw zJa zI8 fun args K h=>by
  unfold zFi at h
  split at h
  · rename_i zah zad zaz zac
    obtain ⟨⟨⟨rfl,zaq,rfl⟩,hs⟩,hk⟩:=h
    try rw [zam zaq] at hs
    try rw [zam zaq] at hk
    exact ⟨_,zfK zgR _,(fun _ _=>[]),(fun l=>Nat.beq l 12),zFg,q22 (⟨zah,(⟨zad,zaq⟩:(Sl Tie))⟩:Net) K hs hk⟩
  · exact h.elim
abbrev T25:Tabs:=Tabs.nil
theorem zLx:TabsOk Tryd.prog T25:=TabsOk.nil
abbrev G25:Ctrs:=csm T25 (fun _ _=>[]) (fun _=>false)
def zFj:Ann:=⟨26,[(0,zK [0,1] []),(1,zK [0,1,10] []),(2,zK [4] []),(3,zK [0,1,5] []),(4,zK [0,1,5,14] []),(5,zK [0,1,5] []),(6,zK [0,1,5,25] []),(7,zK [4] []),(8,zK [4] [])],
 [(4,zK [0,1,5] [])],
 [(3,zK [0,1] [])],
 [],[]⟩
abbrev R25:=Bool
abbrev e25 (r:R25):List PA:=[.one (.bool r)]
@[irreducible] def z25:=ptF Tryd.prog G25 zFj Tryd.f25
def zDj (a:(Sl Int)) (b:(Sl Int)) (iv1:Int):St:=⟨[(0,zS enc_3 1 a),(1,zS enc_3 1 b),(5,zI iv1)],[],[]⟩
abbrev zJb (K:List PA→Prop) (a:(Sl Int)) (b:(Sl Int)) (X:St→Prop) (P:Int→Bool) (S:Int→Bool):Prop:=∀ ⦃iv1:Int⦄,P iv1=true→K (e25 (S iv1))→X (zDj a b iv1)
section
variable {K:List PA→Prop} {a:(Sl Int)} {b:(Sl Int)} {iv1:Int} {X1:St→Prop} {P1:Int→Bool} {S1:Int→Bool}
def zyQ (a:(Sl Int)) (b:(Sl Int)) (S1:Int→Bool) (iv1:Int):Bool :=
  (cond (decide (iv1 < (a.len : Int)))
 (cond ((a.get iv1.toNat) != (b.get iv1.toNat))
 false
 (S1 (w64 (iv1+(1:Int)))))
 true)
def zyR (a:(Sl Int)) (b:(Sl Int)) (P1:Int→Bool) (iv1:Int):Bool :=
  (cond (decide (iv1 < (a.len : Int)))
 (decide ((0≤iv1∧iv1 < (a.len:Int))) &&
 (decide ((0≤iv1∧iv1 < (b.len:Int))) &&
 (cond ((a.get iv1.toNat) != (b.get iv1.toNat))
 true
 (P1 (w64 (iv1+(1:Int)))))))
 true)
def zyS (a:(Sl Int)) (b:(Sl Int)):Nat→Int→Bool:=lpO (fun _=>default) (zyQ a b)
def zyT (a:(Sl Int)) (b:(Sl Int)):Nat→Int→Bool:=lpO (fun _=>false) (zyR a b)
def zyU (a:(Sl Int)) (b:(Sl Int)) (iv1:Int):Bool:=zyS a b Fuel iv1
def zyV (a:(Sl Int)) (b:(Sl Int)) (iv1:Int):Bool:=zyT a b Fuel iv1
theorem zFk (hs:zyV a b iv1=true) (hk:K (e25 (zyU a b iv1))):z25 K [1,1,0,1,0] [] (zDj a b iv1) :=
  zl (fun X=>z25 K [1,1,0,1,0,0] [X]) (by kernel_rfl) fun X1 hX =>
  (show ∀ k, zJb K a b X1 (zyT a b k) (zyS a b k) from zjH _ _ (zyR a b) (zyQ a b) (zJb K a b X1)
 (by intro _ hs;exact absurd hs Bool.false_ne_true)
 (by intro P1 S1 hX1 iv1 hs hk;exact hX _ (zbd (by kernel_rfl) (zc hs hk (fun hs hk=>(za2 hs fun hc hs=>And.intro hc (za2 hs fun hc hs=>And.intro hc (zc hs hk (fun hs hk=>hk) (fun hs hk=>(hX1 hs hk)))))) (fun hs hk=>hk))))) _ hs hk
def zyW (a:(Sl Int)) (b:(Sl Int)):Bool :=
  (zyU a b (0:Int))
def zyX (a:(Sl Int)) (b:(Sl Int)):Bool :=
  (zyV a b (0:Int))
theorem zFl (hs:zyX a b=true) (hk:K (e25 (zyW a b))):z25 K [1,1] [] ⟨[(0,zS enc_3 1 a),(1,zS enc_3 1 b)],[],[]⟩:=zbd (by kernel_rfl) (zFk hs hk)
def s25 (a:(Sl Int)) (b:(Sl Int)):Bool :=
  (cond ((a.len : Int) != (b.len : Int))
 false
 (zyW a b))
def p25 (a:(Sl Int)) (b:(Sl Int)):Bool :=
  (cond ((a.len : Int) != (b.len : Int))
 true
 (zyX a b))
end
theorem q25 (a:(Sl Int)) (b:(Sl Int)) (K:List PA→Prop) (hs:p25 a b=true) (hk:K (e25 (s25 a b))):vcFun Tryd.prog G25 zFj 25 [.one (.sl a.len 1 (fun i=>enc_3 (a.get i))),.one (.sl b.len 1 (fun i=>enc_3 (b.get i)))] K :=
  zbd (by kernel_rfl) (zc hs hk (fun hs hk=>hk) (fun hs hk=>(zFl hs hk)))
def zFm : List PA → COut
  | [.one (.sl zfU zmL zfV),.one (.sl zd2 ziD zdU)]=>.det (IsE enc_3 1 zmL zfV∧IsE enc_3 1 ziD zdU∧p25 (⟨zfU,zar zfV⟩:(Sl Int)) (⟨zd2,zar zdU⟩:(Sl Int))=true) [.one (.bool (s25 (⟨zfU,zar zfV⟩:(Sl Int)) (⟨zd2,zar zdU⟩:(Sl Int))))]
  | _=>.no
theorem zJc:zaw Tryd.prog 25:=⟨_,rfl,rfl,by kernel_rfl⟩
theorem zNi:Ok Tryd.prog 25 zFm:=zbF zLx zJc fun args K h=>by
  unfold zFm at h
  split at h
  · rename_i zfU zmL zfV zd2 ziD zdU
    obtain ⟨⟨⟨rfl,ziC,rfl⟩,⟨rfl,zfX,rfl⟩,hs⟩,hk⟩:=h
    try rw [zbm ziC] at hs
    try rw [zbm ziC] at hk
    try rw [zbm zfX] at hs
    try rw [zbm zfX] at hk
    exact ⟨(fun _ _=>[]),(fun _=>false),zFj,q25 (⟨zfU,ziC⟩:(Sl Int)) (⟨zd2,zfX⟩:(Sl Int)) K hs hk⟩
  · exact h.elim
abbrev T74:Tabs:=(((Tabs.nil.addF 67 zvy).addF 81 zvx).addF 88 zxI)
theorem zLy:TabsOk Tryd.prog T74:=(((TabsOk.nil.addF zKC).addF zKB).addF zLc)
abbrev G74:Ctrs:=csm T74 (fun _ _=>[]) (fun _=>false)
def zCq:Ann:=⟨31,[(0,zK [1,2] [2]),(1,zK [1,2,6] [2,11]),(2,zK [1,2,6,14] [2,11]),(3,zK [4,5] []),(4,zK [2,6,15,16,17] [2,11]),(5,zK [2,6,15,16,17,18] [2,11]),(6,zK [2,6,8,15,16,17] [2,11]),(7,zK [2,6,15,16,17,26] [2,11]),(8,zK [4,5] []),(9,zK [2,6,15,16,17] [2,11]),(10,zK [6,29] [11]),(11,zK [4,5] []),(12,zK [4,5] [11])],
 [(5,zK [2,6,15,16,17] [2,11])],
 [(3,zK [1,2,6,14] [2,11]),(4,zK [1,2,6] [2,11]),(8,zK [2,6,15,16,17,26] [2,11]),(11,zK [6,29] [11])],
 [],[]⟩
abbrev R74:=(web×Int)
abbrev e74 (r:R74):List PA:=cond (r.2 == 0) [.one (.fp (zaD r.1) 0),.one (.int .i64 (0:Int))] [.one (.nilp),.one (.int .i64 r.2)]
@[irreducible] def z74:=ptF Tryd.prog G74 zCq Tryd.f74
def zDk (n:Net) (nodes:(Sl Int)) (zdV:Int):St:=⟨[(2,zp 2 0),(6,zp 11 0),(15,zS enc_3 1 nodes),(16,zI (nodes.len:Int)),(17,zI zdV)],[(2,.box 24 (zm (enc_24 n))),(11,.box 105 (zm (zaD (⟨n,(⟨0,(fun _=>none)⟩:Mp)⟩:web))))],[]⟩
abbrev zFn (K:List PA→Prop) (n:Net) (nodes:(Sl Int)) (X:St→Prop) (P:Int→Bool) (S:Int→(web×Int)):Prop:=∀ ⦃zdV:Int⦄,P zdV=true→K (e74 (S zdV))→X (zDk n nodes zdV)
section
variable {K:List PA→Prop} {n:Net} {nodes:(Sl Int)} {zrK:Bool} {zdV:Int} {X2:St→Prop} {P2:Int→Bool} {S2:Int→(web×Int)} {zrL:Int} {zrM:Bool} {zCr:Bool}
def zrN (n:Net) (zCr:Bool):(web×Int) :=
  (cond zCr
 ((default:web),(5:Int))
 ((⟨n,(⟨0,(fun _=>none)⟩:Mp)⟩:web),(0:Int)))
theorem zFo (hk:K (e74 (zrN n zCr))):z74 K [1,1,1,1,0,1] [] ⟨[(6,zp 11 0),(29,zB zCr)],[(11,.box 105 (zm (zaD (⟨n,(⟨0,(fun _=>none)⟩:Mp)⟩:web))))],[]⟩:=zbd (by kernel_rfl) (zt hk (fun hk=>hk) (fun hk=>hk))
def zrO (S2:Int→(web×Int)) (n:Net) (nodes:(Sl Int)) (zrL:Int) (zrM:Bool):(web×Int) :=
  (cond zrM
 ((default:web),(2:Int))
 (S2 (w64 (zrL+(1:Int)))))
def zrP (P2:Int→Bool) (n:Net) (nodes:(Sl Int)) (zrL:Int) (zrM:Bool):Bool :=
  (cond zrM
 true
 (P2 (w64 (zrL+(1:Int)))))
theorem zFp (hX2:zFn K n nodes X2 P2 S2) (hs:zrP P2 n nodes zrL zrM=true) (hk:K (e74 (zrO S2 n nodes zrL zrM))):z74 K [1,1,1,0,1,0,0,1,1,0,0,1,1] [X2] ⟨[(2,zp 2 0),(6,zp 11 0),(15,zS enc_3 1 nodes),(16,zI (nodes.len:Int)),(17,zI zrL),(26,zB zrM)],[(2,.box 24 (zm (enc_24 n))),(11,.box 105 (zm (zaD (⟨n,(⟨0,(fun _=>none)⟩:Mp)⟩:web))))],[]⟩:=zbd (by kernel_rfl) (zc hs hk (fun hs hk=>hk) (fun hs hk=>(hX2 hs hk)))
def ziJ (n:Net) (nodes:(Sl Int)) (S2:Int→(web×Int)) (zdV:Int):(web×Int) :=
  (cond (decide (zdV < (nodes.len : Int)))
 (zrO S2 n nodes zdV (!(s81 (nodes.get zdV.toNat) (0:Int) (w64 (n.Nodes - (1:Int))))))
 (zrN n (s88 (⟨n,(⟨0,(fun _=>none)⟩:Mp)⟩:web))))
def ziK (n:Net) (nodes:(Sl Int)) (P2:Int→Bool) (zdV:Int):Bool :=
  (cond (decide (zdV < (nodes.len : Int)))
 (decide ((0≤zdV∧zdV < (nodes.len:Int))) &&
 (zrP P2 n nodes zdV (!(s81 (nodes.get zdV.toNat) (0:Int) (w64 (n.Nodes - (1:Int)))))))
 (decide ((p88 (⟨n,(⟨0,(fun _=>none)⟩:Mp)⟩:web)=true)) &&
 true))
def ziL (n:Net) (nodes:(Sl Int)):Nat→Int→(web×Int):=lpO (fun _=>default) (ziJ n nodes)
def ziM (n:Net) (nodes:(Sl Int)):Nat→Int→Bool:=lpO (fun _=>false) (ziK n nodes)
def zrQ (n:Net) (nodes:(Sl Int)) (zdV:Int):(web×Int):=ziL n nodes Fuel zdV
def zrR (n:Net) (nodes:(Sl Int)) (zdV:Int):Bool:=ziM n nodes Fuel zdV
theorem zFq (hs:zrR n nodes zdV=true) (hk:K (e74 (zrQ n nodes zdV))):z74 K [1,1,1,0,1,0] [] (zDk n nodes zdV) :=
  zl (fun X=>z74 K [1,1,1,0,1,0,0] [X]) (by kernel_rfl) fun X2 hX =>
  (show ∀ k, zFn K n nodes X2 (ziM n nodes k) (ziL n nodes k) from zjH _ _ (ziK n nodes) (ziJ n nodes) (zFn K n nodes X2)
 (by intro _ hs;exact absurd hs Bool.false_ne_true)
 (by intro P2 S2 hX2 zdV hs hk;exact hX _ (zbd (by kernel_rfl) (zc hs hk (fun hs hk=>(za2 hs fun hc hs=>And.intro hc (zFp hX2 hs hk))) (fun hs hk=>(za2 hs fun hc hs=>And.intro (And.intro (zE enc_40 4 n.Ties.get) (And.intro (rfl:((false,1,false,[none]):MQ)=(false,1,false,[none])) hc)) (zFo hk))))))) _ hs hk
def zrS (n:Net) (nodes:(Sl Int)):(web×Int) :=
  (zrQ n nodes (0:Int))
def zrT (n:Net) (nodes:(Sl Int)):Bool :=
  (zrR n nodes (0:Int))
theorem zFr (hs:zrT n nodes=true) (hk:K (e74 (zrS n nodes))):z74 K [1,1,1] [] ⟨[(1,zS enc_3 1 nodes),(2,zp 2 0),(6,zp 11 0)],[(2,.box 24 (zm (enc_24 n))),(11,.box 105 (zm (zaD (⟨n,(⟨0,(fun _=>none)⟩:Mp)⟩:web))))],[]⟩:=zbd (by kernel_rfl) (zFq hs hk)
def zrU (n:Net) (nodes:(Sl Int)) (zrK:Bool):(web×Int) :=
  (cond zrK
 ((default:web),(2:Int))
 (zrS n nodes))
def zrV (n:Net) (nodes:(Sl Int)) (zrK:Bool):Bool :=
  (cond zrK
 true
 (zrT n nodes))
theorem zFs (hs:zrV n nodes zrK=true) (hk:K (e74 (zrU n nodes zrK))):z74 K [1,1,0,1] [] ⟨[(1,zS enc_3 1 nodes),(2,zp 2 0),(6,zp 11 0),(14,zB zrK)],[(2,.box 24 (zm (enc_24 n))),(11,.box 105 (zm (zaD (⟨n,(⟨0,(fun _=>none)⟩:Mp)⟩:web))))],[]⟩:=zbd (by kernel_rfl) (zc hs hk (fun hs hk=>hk) (fun hs hk=>(zFr hs hk)))
def s74 (n:Net) (nodes:(Sl Int)):(web×Int) :=
  (zrU n nodes (!(s67 n)))
def p74 (n:Net) (nodes:(Sl Int)):Bool :=
  (decide ((p67 n=true)) &&
 (zrV n nodes (!(s67 n))))
end
theorem q74 (n:Net) (nodes:(Sl Int)) (K:List PA→Prop) (hs:p74 n nodes=true) (hk:K (e74 (s74 n nodes))):vcFun Tryd.prog G74 zCq 74 [.agg (enc_24 n),.one (.sl nodes.len 1 (fun i=>enc_3 (nodes.get i)))] K :=
  zbd (by kernel_rfl) (za2 hs fun hc hs=>And.intro (And.intro (zE enc_40 4 n.Ties.get) hc) (zFs hs hk))
def zvL : List PA → COut
  | [.agg [.int .i64 zah,.sl zad zaz zac],.one (.sl zd2 ziD zdU)]=>.alt ((s74 (⟨zah,(⟨zad,zal zac⟩:(Sl Tie))⟩:Net) (⟨zd2,zar zdU⟩:(Sl Int))).2 == 0) (IsE enc_40 4 zaz zac∧IsE enc_3 1 ziD zdU∧p74 (⟨zah,(⟨zad,zal zac⟩:(Sl Tie))⟩:Net) (⟨zd2,zar zdU⟩:(Sl Int))=true) [.one (.fp (zaD (⟨(s74 (⟨zah,(⟨zad,zal zac⟩:(Sl Tie))⟩:Net) (⟨zd2,zar zdU⟩:(Sl Int))).1.Net,((s74 (⟨zah,(⟨zad,zal zac⟩:(Sl Tie))⟩:Net) (⟨zd2,zar zdU⟩:(Sl Int))).1.out)⟩:web)) 0),.one (.int .i64 (0:Int))] (IsE enc_40 4 zaz zac∧IsE enc_3 1 ziD zdU∧p74 (⟨zah,(⟨zad,zal zac⟩:(Sl Tie))⟩:Net) (⟨zd2,zar zdU⟩:(Sl Int))=true) [.one (.nilp),.one (.int .i64 ((s74 (⟨zah,(⟨zad,zal zac⟩:(Sl Tie))⟩:Net) (⟨zd2,zar zdU⟩:(Sl Int))).2))]
  | [.agg [.int .i64 zah,.sl zad zaz zac],.one (.nils)]=>.alt ((s74 (⟨zah,(⟨zad,zal zac⟩:(Sl Tie))⟩:Net) (⟨0,fun _=>default⟩:(Sl Int))).2 == 0) (IsE enc_40 4 zaz zac∧p74 (⟨zah,(⟨zad,zal zac⟩:(Sl Tie))⟩:Net) (⟨0,fun _=>default⟩:(Sl Int))=true) [.one (.fp (zaD (⟨(s74 (⟨zah,(⟨zad,zal zac⟩:(Sl Tie))⟩:Net) (⟨0,fun _=>default⟩:(Sl Int))).1.Net,((s74 (⟨zah,(⟨zad,zal zac⟩:(Sl Tie))⟩:Net) (⟨0,fun _=>default⟩:(Sl Int))).1.out)⟩:web)) 0),.one (.int .i64 (0:Int))] (IsE enc_40 4 zaz zac∧p74 (⟨zah,(⟨zad,zal zac⟩:(Sl Tie))⟩:Net) (⟨0,fun _=>default⟩:(Sl Int))=true) [.one (.nilp),.one (.int .i64 ((s74 (⟨zah,(⟨zad,zal zac⟩:(Sl Tie))⟩:Net) (⟨0,fun _=>default⟩:(Sl Int))).2))]
  | _=>.no
theorem zJd:zaw Tryd.prog 74:=⟨_,rfl,rfl,by kernel_rfl⟩
theorem zKH:Ok Tryd.prog 74 zvL:=zir zLy zJd fun args K h=>by
  unfold zvL at h
  split at h
  · rename_i zah zad zaz zac zd2 ziD zdU
    have h:=zIm h
    obtain ⟨⟨⟨rfl,zaq,rfl⟩,⟨rfl,zfX,rfl⟩,hs⟩,hk⟩:=h
    try rw [zam zaq] at hs
    try rw [zam zaq] at hk
    try rw [zbm zfX] at hs
    try rw [zbm zfX] at hk
    exact ⟨_,zfK zgR _,(fun _ _=>[]),(fun _=>false),zCq,q74 (⟨zah,(⟨zad,zaq⟩:(Sl Tie))⟩:Net) (⟨zd2,zfX⟩:(Sl Int)) (Wk K) hs (zgS hk)⟩
  · rename_i zah zad zaz zac
    have h:=zIm h
    obtain ⟨⟨⟨rfl,zaq,rfl⟩,hs⟩,hk⟩:=h
    try rw [zam zaq] at hs
    try rw [zam zaq] at hk
    exact ⟨_,(zib (zgR _) (zib (.one (.nil _ _)) zow)),(fun _ _=>[]),(fun _=>false),zCq,q74 (⟨zah,(⟨zad,zaq⟩:(Sl Tie))⟩:Net) (⟨0,fun _=>default⟩:(Sl Int)) (Wk K) hs (zgS hk)⟩
  · exact h.elim
abbrev T75:Tabs:=(((Tabs.nil.addF 93 zpn).addF 104 zpt).addI 110 zpp)
theorem zLz:TabsOk Tryd.prog T75:=(((TabsOk.nil.addF zHF).addF zEE).addI zvA)
abbrev G75:Ctrs:=csm T75 (fun _ _=>[]) (fun _=>false)
def zcD:Ann:=⟨66,[(0,zK [0,1,4] [4]),(1,zK [0,1,4,5] [4,5]),(2,zK [0,1,4,5,10] [4,5]),(3,zK [0,1,4,5,10,11] [4,5]),(4,zK [0,1,4,5,6,10] [4,5]),(5,zK [0,1,4,5,10] [4,5]),(6,zK [0,1,4,5,10] [4,5]),(7,zK [0,4,5] [4,5]),(8,zK [0,4,5,7] [4,5,7]),(9,zK [0,4,5,7,20] [4,5,7]),(10,zK [0,4,5,7] [4,5,7]),(11,zK [0,4,5,7,22] [4,5,7]),(12,zK [0,4,5,7,8,22] [4,5,7,8]),(13,zK [0,4,5,7,8,22,29] [4,5,7,8]),(14,zK [0,4,5,7,8,9,22] [4,5,7,8,9]),(15,zK [0,4,5,7,8,9,22] [4,5,7,8,9]),(16,zK [0,4,5,7,22] [4,5,7]),(17,zK [0,4,5,64] [4,5]),(18,zK [0,4,5,7] [4,5,7]),(19,zK [4] [4])],
 [(3,zK [0,1,4,5,10] [4,5]),(9,zK [0,4,5,7] [4,5,7]),(12,zK [0,4,5,7,22] [4,5,7])],
 [(7,zK [0,1,4,5] [4,5])],
 [],[]⟩
def zls (w:web) (node:Int) (zaL:Int) (t4t0:Tab) (dt0:Tab):St:=⟨[(0,.one (.c (.p (.fp (zaD w) 0)))),(1,.one (.c (.p (.int .i64 node)))),(4,.one (.c (.ptr 4 0))),(5,.one (.c (.ptr 5 0))),(10,.one (.c (.p (.int .i64 zaL))))],[(4,.box 116 (zm (zae t4t0))),(5,.box 116 (zm (zae dt0)))],[]⟩
def zlt (K:List PA→Prop) (w:web) (node:Int) (zaL:Int) (t4t0:Tab) (dt0:Tab):Prop:=vc Tryd.prog G75 zcD (cdF Tryd.f75 [1,1,0,1,0]) (zak 0 (sqK Tryd.prog G75 zcD (cdF Tryd.f75 [1,1,1]) (zbl Tryd.prog Tryd.f75 K))) (zls w node zaL t4t0 dt0)
def zJe (w:web) (node:Int) (t4t1:Tab) (dt1:Tab):St:=⟨[(0,.one (.c (.p (.fp (zaD w) 0)))),(1,.one (.c (.p (.int .i64 node)))),(4,.one (.c (.ptr 4 0))),(5,.one (.c (.ptr 5 0)))],[(4,.box 116 (zm (zae t4t1))),(5,.box 116 (zm (zae dt1)))],[]⟩
def zn5 (K:List PA→Prop) (w:web) (node:Int) (t4t1:Tab) (dt1:Tab):Prop:=vc Tryd.prog G75 zcD (cdF Tryd.f75 [1,1,1]) (zbl Tryd.prog Tryd.f75 K) (zJe w node t4t1 dt1)
def zjq (w:web) (zaj:Bool) (t4t2:Tab) (dt2:Tab):St:=⟨[(0,.one (.c (.p (.fp (zaD w) 0)))),(4,.one (.c (.ptr 4 0))),(5,.one (.c (.ptr 5 0))),(7,.one (.c (.ptr 7 0)))],[(4,.box 116 (zm (zae t4t2))),(5,.box 116 (zm (zae dt2))),(7,.box 4 [.p (.bool zaj)])],[]⟩
def zlu (K:List PA→Prop) (w:web) (zaj:Bool) (t4t2:Tab) (dt2:Tab):Prop:=vc Tryd.prog G75 zcD (cdF Tryd.f75 [1,1,1,1,0,1,0]) (zak 2 (sqK Tryd.prog G75 zcD (cdF Tryd.f75 [1,1,1,1,1]) (zbl Tryd.prog Tryd.f75 K))) (zjq w zaj t4t2 dt2)
def zf6 (w:web) (zab:Bool) (t4t3:Tab) (dt3:Tab):St:=⟨[(0,.one (.c (.p (.fp (zaD w) 0)))),(4,.one (.c (.ptr 4 0))),(5,.one (.c (.ptr 5 0))),(7,.one (.c (.ptr 7 0))),(22,.one (.c (.p (.fn 110 [] [.fp [.fp (zaD w) 0] 0]))))],[(4,.box 116 (zm (zae t4t3))),(5,.box 116 (zm (zae dt3))),(7,.box 4 [.p (.bool zab)])],[]⟩
def zlv (K:List PA→Prop) (X2:St→Prop) (w:web) (zab:Bool) (t4t3:Tab) (dt3:Tab):Prop:=vc Tryd.prog G75 zcD (cdF Tryd.f75 [1,1,1,1,0,1,0,0,1,0,0,1,1,0]) (zak 4 (zak 3 (sqK Tryd.prog G75 zcD (cdF Tryd.f75 [1,1,1,1,0,1,0,0,1,1]) (zbn Tryd.prog zcD 9 X2 (zak 2 (sqK Tryd.prog G75 zcD (cdF Tryd.f75 [1,1,1,1,1]) (zbl Tryd.prog Tryd.f75 K))))))) (zf6 w zab t4t3 dt3)
theorem zFt (w : web) (node : Int) (K : List PA → Prop) :
  vcFun Tryd.prog G75 zcD 75 [.one (.fp (zaD w) 0),.one (.int .i64 node)] K =
  (zlt K w node (0:Int) (fun _=>(0:Int)) (fun _=>(0:Int))):=by kernel_rfl
def zpS (K:List PA→Prop) (X0:St→Prop) (w:web) (node:Int) (zaL:Int) (t4t0:Tab) (dt0:Tab):Prop :=
  (zbR (decide (zaL < (40:Int)))
 (((0≤zaL∧zaL < (40:Int))) ∧
 (X0 (zls w node (w64 (zaL+(1:Int))) t4t0 (ts 80 dt0 (0+zaL.toNat * 2+0) [(1000000000000:Int),(0:Int)]))))
 (zn5 K w node t4t0 dt0))
theorem zrW (K : List PA → Prop) (X0 : St → Prop) (w : web) (node : Int) (zaL : Int) (t4t0 : Tab) (dt0 : Tab) :
  vc Tryd.prog G75 zcD (cd (cdF Tryd.f75 [1,1,0,1,0]) [0]) (zbn Tryd.prog zcD 3 X0 (zak 0 (sqK Tryd.prog G75 zcD (cdF Tryd.f75 [1,1,1]) (zbl Tryd.prog Tryd.f75 K)))) (zls w node zaL t4t0 dt0) =
  zpS K X0 w node zaL t4t0 dt0:=by kernel_rfl
theorem zyY (K : List PA → Prop) (w : web) (node : Int) (zaL : Int) (t4t0 : Tab) (dt0 : Tab)
  (h:∀ X0:St→Prop,(∀ (zaL:Int) (t4t0:Tab) (dt0:Tab),zpS K X0 w node zaL t4t0 dt0→X0 (zls w node zaL t4t0 dt0))→X0 (zls w node zaL t4t0 dt0)) :
  zlt K w node zaL t4t0 dt0:=by
  have e:zlt K w node zaL t4t0 dt0=(∀ X:St→Prop,(∀ s,vc Tryd.prog G75 zcD (cd (cdF Tryd.f75 [1,1,0,1,0]) [0]) (zbn Tryd.prog zcD 3 X (zak 0 (sqK Tryd.prog G75 zcD (cdF Tryd.f75 [1,1,1]) (zbl Tryd.prog Tryd.f75 K)))) s→X s)→X (zls w node zaL t4t0 dt0)):=by kernel_rfl
  refine zbd e ?_
  intro X hX
  refine h X ?_
  intro zaL t4t0 dt0 hs
  refine hX _ ?_
  have e2:=zrW K X w node zaL t4t0 dt0
  rw [e2]
  exact hs
theorem zFu (K : List PA → Prop) (w : web) (node : Int) (t4t1 : Tab) (dt1 : Tab) :
  zn5 K w node t4t1 dt1 =
  (((0≤node∧node < (40:Int))) ∧
 (zlu K w true t4t1 (ts 80 dt1 (0+node.toNat * 2+0) [(0:Int),(0:Int)]))):=by kernel_rfl
def zpT (K:List PA→Prop) (X2:St→Prop) (w:web) (zaj:Bool) (t4t2:Tab) (dt2:Tab):Prop :=
  (zbR zaj
 ((IsE enc_40 4 4 (fun i=>enc_40 (w.Net.Ties.get i))∧((false,1,false,[none]):MQ)=(false,1,false,[none])) ∧
 (zlv K X2 w false t4t2 dt2))
 (K [.agg (zae dt2)]))
theorem zrX (K : List PA → Prop) (X2 : St → Prop) (w : web) (zaj : Bool) (t4t2 : Tab) (dt2 : Tab) :
  vc Tryd.prog G75 zcD (cd (cdF Tryd.f75 [1,1,1,1,0,1,0]) [0]) (zbn Tryd.prog zcD 9 X2 (zak 2 (sqK Tryd.prog G75 zcD (cdF Tryd.f75 [1,1,1,1,1]) (zbl Tryd.prog Tryd.f75 K)))) (zjq w zaj t4t2 dt2) =
  zpT K X2 w zaj t4t2 dt2:=by kernel_rfl
theorem zyZ (K : List PA → Prop) (w : web) (zaj : Bool) (t4t2 : Tab) (dt2 : Tab)
  (h:∀ X2:St→Prop,(∀ (zaj:Bool) (t4t2:Tab) (dt2:Tab),zpT K X2 w zaj t4t2 dt2→X2 (zjq w zaj t4t2 dt2))→X2 (zjq w zaj t4t2 dt2)) :
  zlu K w zaj t4t2 dt2:=by
  have e:zlu K w zaj t4t2 dt2=(∀ X:St→Prop,(∀ s,vc Tryd.prog G75 zcD (cd (cdF Tryd.f75 [1,1,1,1,0,1,0]) [0]) (zbn Tryd.prog zcD 9 X (zak 2 (sqK Tryd.prog G75 zcD (cdF Tryd.f75 [1,1,1,1,1]) (zbl Tryd.prog Tryd.f75 K)))) s→X s)→X (zjq w zaj t4t2 dt2)):=by kernel_rfl
  refine zbd e ?_
  intro X hX
  refine h X ?_
  intro zaj t4t2 dt2 hs
  refine hX _ ?_
  have e2:=zrX K X w zaj t4t2 dt2
  rw [e2]
  exact hs
def zpU (K:List PA→Prop) (X2:St→Prop) (w:web) (zab:Bool) (t4t3:Tab) (dt3:Tab):Prop :=
  (X2 (zjq w zab t4t3 dt3))
def zpV (K:List PA→Prop) (X2:St→Prop) (X3:List (List PA)→St→Prop) (y3:step) (rest3:List (List PA)) (w:web) (zab:Bool) (t4t3:Tab) (dt3:Tab):Prop :=
  (((0≤y3.to∧y3.to < (40:Int))) ∧
 (zbR (nvr (tL dt3 y3.to) (tU dt3 y3.to))
 (X3 rest3 (zf6 w zab t4t3 dt3))
 (((0≤y3.from_∧y3.from_ < (40:Int))) ∧
 (((0≤y3.to∧y3.to < (40:Int))) ∧
 (((0≤y3.to∧y3.to < (40:Int))) ∧
 ((IsE zcy 2 2 (fun _=>(zcy (⟨(w64 ((tL dt3 y3.to)+y3.length)),(w64 ((tV dt3 y3.to)+(1:Int)))⟩:far)))∧(zvW (⟨(tL dt3 y3.from_),(tU dt3 y3.from_)⟩:far) (⟨1,fun _=>(⟨(w64 ((tL dt3 y3.to)+y3.length)),(w64 ((tV dt3 y3.to)+(1:Int)))⟩:far)⟩:(Sl far))=true)) ∧
 (zbR zab
 (((0≤y3.from_∧y3.from_ < (40:Int))) ∧
 (X3 rest3 (zf6 w true t4t3 (ts 80 dt3 (0+y3.from_.toNat * 2+0) [(zcb (⟨(tL dt3 y3.from_),(tU dt3 y3.from_)⟩:far) (⟨1,fun _=>(⟨(w64 ((tL dt3 y3.to)+y3.length)),(w64 ((tV dt3 y3.to)+(1:Int)))⟩:far)⟩:(Sl far))).length,(zcb (⟨(tL dt3 y3.from_),(tU dt3 y3.from_)⟩:far) (⟨1,fun _=>(⟨(w64 ((tL dt3 y3.to)+y3.length)),(w64 ((tV dt3 y3.to)+(1:Int)))⟩:far)⟩:(Sl far))).uses]))))
 (((0≤y3.from_∧y3.from_ < (40:Int))) ∧
 (((0≤y3.from_∧y3.from_ < (40:Int))) ∧
 (X3 rest3 (zf6 w (!(match ((zcb (⟨(tL dt3 y3.from_),(tU dt3 y3.from_)⟩:far) (⟨1,fun _=>(⟨(w64 ((tL dt3 y3.to)+y3.length)),(w64 ((tV dt3 y3.to)+(1:Int)))⟩:far)⟩:(Sl far))).length == (tL dt3 y3.from_)) with | true=>(match ((zcb (⟨(tL dt3 y3.from_),(tU dt3 y3.from_)⟩:far) (⟨1,fun _=>(⟨(w64 ((tL dt3 y3.to)+y3.length)),(w64 ((tV dt3 y3.to)+(1:Int)))⟩:far)⟩:(Sl far))).uses == (tU dt3 y3.from_)) with | true=>true | false=>false) | false=>false)) t4t3 (ts 80 dt3 (0+y3.from_.toNat * 2+0) [(zcb (⟨(tL dt3 y3.from_),(tU dt3 y3.from_)⟩:far) (⟨1,fun _=>(⟨(w64 ((tL dt3 y3.to)+y3.length)),(w64 ((tV dt3 y3.to)+(1:Int)))⟩:far)⟩:(Sl far))).length,(zcb (⟨(tL dt3 y3.from_),(tU dt3 y3.from_)⟩:far) (⟨1,fun _=>(⟨(w64 ((tL dt3 y3.to)+y3.length)),(w64 ((tV dt3 y3.to)+(1:Int)))⟩:far)⟩:(Sl far))).uses]))))))))))))
theorem zrY (K:List PA→Prop) (X2:St→Prop) (w:web) (zab:Bool) (t4t3:Tab) (dt3:Tab):(zak 4 (zak 3 (sqK Tryd.prog G75 zcD (cdF Tryd.f75 [1,1,1,1,0,1,0,0,1,1]) (zbn Tryd.prog zcD 9 X2 (zak 2 (sqK Tryd.prog G75 zcD (cdF Tryd.f75 [1,1,1,1,1]) (zbl Tryd.prog Tryd.f75 K))))))) .normal (zf6 w zab t4t3 dt3)=zpU K X2 w zab t4t3 dt3:=by kernel_rfl
theorem zrZ (K : List PA → Prop) (X2 : St → Prop) (X3 : List (List PA) → St → Prop) (y3 : step) (rest3 : List (List PA)) (w : web) (zab : Bool) (t4t3 : Tab) (dt3 : Tab) :
  zvV Tryd.prog G75 zcD 12 [23] (cd (cdF Tryd.f75 [1,1,1,1,0,1,0,0,1,0,0,1,1,0]) [0]) (cd (cdF Tryd.f75 [1,1,1,1,0,1,0,0,1,0,0,1,1,0]) [1]) X3 (zak 4 (zak 3 (sqK Tryd.prog G75 zcD (cdF Tryd.f75 [1,1,1,1,0,1,0,0,1,1]) (zbn Tryd.prog zcD 9 X2 (zak 2 (sqK Tryd.prog G75 zcD (cdF Tryd.f75 [1,1,1,1,1]) (zbl Tryd.prog Tryd.f75 K))))))) [.agg (zaf y3)] rest3 (zf6 w zab t4t3 dt3)=zpV K X2 X3 y3 rest3 w zab t4t3 dt3:=by kernel_rfl
theorem zy0 (K : List PA → Prop) (X2 : St → Prop) (w : web) (zab : Bool) (t4t3 : Tab) (dt3 : Tab)
  (hsafe:IsE enc_40 4 4 (fun i=>enc_40 (w.Net.Ties.get i))∧((false,1,false,[none]):MQ)=(false,1,false,[none])∧(zl0 w=true)) (h:∀ X3:List (List PA)→St→Prop,(∀ (zab:Bool) (t4t3:Tab) (dt3:Tab),zpU K X2 w zab t4t3 dt3→X3 [] (zf6 w zab t4t3 dt3))→(∀ (y:step) (rest:List (List PA)) (zab:Bool) (t4t3:Tab) (dt3:Tab),zpV K X2 X3 y rest w zab t4t3 dt3→X3 ([.agg (zaf y)] :: rest) (zf6 w zab t4t3 dt3))→X3 ((zic w).map fun y=>[.agg (zaf y)]) (zf6 w zab t4t3 dt3)) :
  zlv K X2 w zab t4t3 dt3:=by
  have e:zlv K X2 w zab t4t3 dt3=((IsE enc_40 4 4 (fun i=>enc_40 (w.Net.Ties.get i))∧((false,1,false,[none]):MQ)=(false,1,false,[none])∧(zl0 w=true))∧∀ X:List (List PA)→St→Prop,(∀ s,(zak 4 (zak 3 (sqK Tryd.prog G75 zcD (cdF Tryd.f75 [1,1,1,1,0,1,0,0,1,1]) (zbn Tryd.prog zcD 9 X2 (zak 2 (sqK Tryd.prog G75 zcD (cdF Tryd.f75 [1,1,1,1,1]) (zbl Tryd.prog Tryd.f75 K))))))) .normal s→X [] s)→(∀ y rest s,zvV Tryd.prog G75 zcD 12 [23] (cd (cdF Tryd.f75 [1,1,1,1,0,1,0,0,1,0,0,1,1,0]) [0]) (cd (cdF Tryd.f75 [1,1,1,1,0,1,0,0,1,0,0,1,1,0]) [1]) X (zak 4 (zak 3 (sqK Tryd.prog G75 zcD (cdF Tryd.f75 [1,1,1,1,0,1,0,0,1,1]) (zbn Tryd.prog zcD 9 X2 (zak 2 (sqK Tryd.prog G75 zcD (cdF Tryd.f75 [1,1,1,1,1]) (zbl Tryd.prog Tryd.f75 K))))))) y rest s→X (y :: rest) s)→X ((zic w).map fun y=>[.agg (zaf y)]) (zf6 w zab t4t3 dt3)):=by kernel_rfl
  refine zbd e ⟨hsafe,?_⟩
  intro X h0 h1
  refine h X (fun zab t4t3 dt3 hs=>h0 _ ?_) (fun y rest zab t4t3 dt3 hs=>h1 _ rest _ ?_)
  · rw [zrY K X2 w zab t4t3 dt3];exact hs
  · have e2 := zrZ K X2 X y rest w zab t4t3 dt3
    rw [e2];exact hs
abbrev e75 (r:Tab):List PA:=[.agg (zae r)]
attribute [irreducible] zlt zn5 zlu zlv
def zr0 (S2:Bool→Tab→Tab→Tab) (w:web) (zab:Bool) (t4t3:Tab) (dt3:Tab):Tab :=
  (S2 zab t4t3 dt3)
def zr1 (P2:Bool→Tab→Tab→Bool) (w:web) (zab:Bool) (t4t3:Tab) (dt3:Tab):Bool :=
  (P2 zab t4t3 dt3)
def zlw (S2:Bool→Tab→Tab→Tab) (w:web) (y3:step) (S3:Bool→Tab→Tab→Tab) (zab:Bool) (t4t3:Tab) (dt3:Tab):Tab :=
  (cond (nvr (tL dt3 y3.to) (tU dt3 y3.to))
 (S3 zab t4t3 dt3)
 (cond zab
 (S3 true t4t3 (ts 80 dt3 (0+y3.from_.toNat * 2+0) [(zcb (⟨(tL dt3 y3.from_),(tU dt3 y3.from_)⟩:far) (⟨1,fun _=>(⟨(w64 ((tL dt3 y3.to)+y3.length)),(w64 ((tV dt3 y3.to)+(1:Int)))⟩:far)⟩:(Sl far))).length,(zcb (⟨(tL dt3 y3.from_),(tU dt3 y3.from_)⟩:far) (⟨1,fun _=>(⟨(w64 ((tL dt3 y3.to)+y3.length)),(w64 ((tV dt3 y3.to)+(1:Int)))⟩:far)⟩:(Sl far))).uses]))
 (S3 (!(match ((zcb (⟨(tL dt3 y3.from_),(tU dt3 y3.from_)⟩:far) (⟨1,fun _=>(⟨(w64 ((tL dt3 y3.to)+y3.length)),(w64 ((tV dt3 y3.to)+(1:Int)))⟩:far)⟩:(Sl far))).length == (tL dt3 y3.from_)) with | true=>(match ((zcb (⟨(tL dt3 y3.from_),(tU dt3 y3.from_)⟩:far) (⟨1,fun _=>(⟨(w64 ((tL dt3 y3.to)+y3.length)),(w64 ((tV dt3 y3.to)+(1:Int)))⟩:far)⟩:(Sl far))).uses == (tU dt3 y3.from_)) with | true=>true | false=>false) | false=>false)) t4t3 (ts 80 dt3 (0+y3.from_.toNat * 2+0) [(zcb (⟨(tL dt3 y3.from_),(tU dt3 y3.from_)⟩:far) (⟨1,fun _=>(⟨(w64 ((tL dt3 y3.to)+y3.length)),(w64 ((tV dt3 y3.to)+(1:Int)))⟩:far)⟩:(Sl far))).length,(zcb (⟨(tL dt3 y3.from_),(tU dt3 y3.from_)⟩:far) (⟨1,fun _=>(⟨(w64 ((tL dt3 y3.to)+y3.length)),(w64 ((tV dt3 y3.to)+(1:Int)))⟩:far)⟩:(Sl far))).uses]))))
def zlx (P2:Bool→Tab→Tab→Bool) (w:web) (y3:step) (P3:Bool→Tab→Tab→Bool) (zab:Bool) (t4t3:Tab) (dt3:Tab):Bool :=
  (decide ((0≤y3.to∧y3.to < (40:Int))) &&
 (cond (nvr (tL dt3 y3.to) (tU dt3 y3.to))
 (P3 zab t4t3 dt3)
 (decide ((0≤y3.from_∧y3.from_ < (40:Int))) &&
 (decide ((0≤y3.to∧y3.to < (40:Int))) &&
 (decide ((0≤y3.to∧y3.to < (40:Int))) &&
 (decide ((zvW (⟨(tL dt3 y3.from_),(tU dt3 y3.from_)⟩:far) (⟨1,fun _=>(⟨(w64 ((tL dt3 y3.to)+y3.length)),(w64 ((tV dt3 y3.to)+(1:Int)))⟩:far)⟩:(Sl far))=true)) &&
 (cond zab
 (decide ((0≤y3.from_∧y3.from_ < (40:Int))) &&
 (P3 true t4t3 (ts 80 dt3 (0+y3.from_.toNat * 2+0) [(zcb (⟨(tL dt3 y3.from_),(tU dt3 y3.from_)⟩:far) (⟨1,fun _=>(⟨(w64 ((tL dt3 y3.to)+y3.length)),(w64 ((tV dt3 y3.to)+(1:Int)))⟩:far)⟩:(Sl far))).length,(zcb (⟨(tL dt3 y3.from_),(tU dt3 y3.from_)⟩:far) (⟨1,fun _=>(⟨(w64 ((tL dt3 y3.to)+y3.length)),(w64 ((tV dt3 y3.to)+(1:Int)))⟩:far)⟩:(Sl far))).uses])))
 (decide ((0≤y3.from_∧y3.from_ < (40:Int))) &&
 (decide ((0≤y3.from_∧y3.from_ < (40:Int))) &&
 (P3 (!(match ((zcb (⟨(tL dt3 y3.from_),(tU dt3 y3.from_)⟩:far) (⟨1,fun _=>(⟨(w64 ((tL dt3 y3.to)+y3.length)),(w64 ((tV dt3 y3.to)+(1:Int)))⟩:far)⟩:(Sl far))).length == (tL dt3 y3.from_)) with | true=>(match ((zcb (⟨(tL dt3 y3.from_),(tU dt3 y3.from_)⟩:far) (⟨1,fun _=>(⟨(w64 ((tL dt3 y3.to)+y3.length)),(w64 ((tV dt3 y3.to)+(1:Int)))⟩:far)⟩:(Sl far))).uses == (tU dt3 y3.from_)) with | true=>true | false=>false) | false=>false)) t4t3 (ts 80 dt3 (0+y3.from_.toNat * 2+0) [(zcb (⟨(tL dt3 y3.from_),(tU dt3 y3.from_)⟩:far) (⟨1,fun _=>(⟨(w64 ((tL dt3 y3.to)+y3.length)),(w64 ((tV dt3 y3.to)+(1:Int)))⟩:far)⟩:(Sl far))).length,(zcb (⟨(tL dt3 y3.from_),(tU dt3 y3.from_)⟩:far) (⟨1,fun _=>(⟨(w64 ((tL dt3 y3.to)+y3.length)),(w64 ((tV dt3 y3.to)+(1:Int)))⟩:far)⟩:(Sl far))).uses])))))))))))
def zhd (S2 : Bool → Tab → Tab → Tab) (w : web) : List step → Bool → Tab → Tab → Tab
  | []=>zr0 S2 w
  | y :: r=>zlw S2 w y (zhd S2 w r)
def zhe (P2 : Bool → Tab → Tab → Bool) (w : web) : List step → Bool → Tab → Tab → Bool
  | []=>zr1 P2 w
  | y :: r=>zlx P2 w y (zhe P2 w r)
def zr2 (S2:Bool→Tab→Tab→Tab) (w:web) (zab:Bool) (t4t3:Tab) (dt3:Tab):Tab:=zhd S2 w (zic w) zab t4t3 dt3
def zn6 (P2:Bool→Tab→Tab→Bool) (w:web) (zab:Bool) (t4t3:Tab) (dt3:Tab):Bool:=decide ((zl0 w=true)) && zhe P2 w (zic w) zab t4t3 dt3
theorem zFv (K : List PA → Prop) (w : web)
  (X2:St→Prop) (P2:Bool→Tab→Tab→Bool) (S2:Bool→Tab→Tab→Tab)
  (hX2:∀ (zaj:Bool) (t4t2:Tab) (dt2:Tab),P2 zaj t4t2 dt2=true→K (e75 (S2 zaj t4t2 dt2))→X2 (zjq w zaj t4t2 dt2)) (zab:Bool) (t4t3:Tab) (dt3:Tab) (hs:zn6 P2 w zab t4t3 dt3=true) (hk:K (e75 (zr2 S2 w zab t4t3 dt3))):zlv K X2 w zab t4t3 dt3:=by
  unfold zn6 at hs
  rw [Bool.and_eq_true] at hs
  obtain ⟨hsf,hs⟩:=hs
  have hc:=of_decide_eq_true hsf
  refine zy0 K X2 w zab t4t3 dt3 ⟨isE,rfl,hc⟩ ?_
  intro X3 hexit hstep
  have key:∀ (l:List step) (zab:Bool) (t4t3:Tab) (dt3:Tab),zhe P2 w l zab t4t3 dt3=true→K (e75 (zhd S2 w l zab t4t3 dt3))→X3 (l.map fun y=>[.agg (zaf y)]) (zf6 w zab t4t3 dt3):=by
    intro l
    induction l with
    | nil =>
      intro zab t4t3 dt3 hs hk
      refine hexit zab t4t3 dt3 ?_
      have hs:zr1 P2 w zab t4t3 dt3=true:=hs
      have hk:K (e75 (zr0 S2 w zab t4t3 dt3)):=hk
      unfold zr1 at hs
      unfold zr0 at hk
      exact (hX2 zab t4t3 dt3 hs hk)
    | cons y3 l ih =>
      intro zab t4t3 dt3 hs hk
      refine hstep y3 _ zab t4t3 dt3 ?_
      have hs:zlx P2 w y3 (zhe P2 w l) zab t4t3 dt3=true:=hs
      have hk:K (e75 (zlw S2 w y3 (zhd S2 w l) zab t4t3 dt3)):=hk
      unfold zlx at hs
      unfold zlw at hk
      generalize zhd S2 w l=S3 at hk ih
      generalize zhe P2 w l=P3 at hs ih
      have hX3:=ih
      exact (za2 hs fun hc hs => ⟨hc, (zaZ (K := fun r => K (e75 r))
 (fun hs hk=>(hX3 zab t4t3 dt3 hs hk))
 (fun hs hk => (za2 hs fun hc hs => ⟨hc, (za2 hs fun hc hs => ⟨hc, (za2 hs fun hc hs => ⟨hc, (za2 hs fun hc hs => ⟨⟨zxt, hc⟩, (zaZ (K := fun r => K (e75 r))
 (fun hs hk=>(za2 hs fun hc hs=>⟨hc,(hX3 true t4t3 (ts 80 dt3 (0+y3.from_.toNat * 2+0) [(zcb (⟨(tL dt3 y3.from_),(tU dt3 y3.from_)⟩:far) (⟨1,fun _=>(⟨(w64 ((tL dt3 y3.to)+y3.length)),(w64 ((tV dt3 y3.to)+(1:Int)))⟩:far)⟩:(Sl far))).length,(zcb (⟨(tL dt3 y3.from_),(tU dt3 y3.from_)⟩:far) (⟨1,fun _=>(⟨(w64 ((tL dt3 y3.to)+y3.length)),(w64 ((tV dt3 y3.to)+(1:Int)))⟩:far)⟩:(Sl far))).uses]) hs hk)⟩))
 (fun hs hk=>(za2 hs fun hc hs=>⟨hc,(za2 hs fun hc hs=>⟨hc,(hX3 (!(match ((zcb (⟨(tL dt3 y3.from_),(tU dt3 y3.from_)⟩:far) (⟨1,fun _=>(⟨(w64 ((tL dt3 y3.to)+y3.length)),(w64 ((tV dt3 y3.to)+(1:Int)))⟩:far)⟩:(Sl far))).length == (tL dt3 y3.from_)) with | true=>(match ((zcb (⟨(tL dt3 y3.from_),(tU dt3 y3.from_)⟩:far) (⟨1,fun _=>(⟨(w64 ((tL dt3 y3.to)+y3.length)),(w64 ((tV dt3 y3.to)+(1:Int)))⟩:far)⟩:(Sl far))).uses == (tU dt3 y3.from_)) with | true=>true | false=>false) | false=>false)) t4t3 (ts 80 dt3 (0+y3.from_.toNat * 2+0) [(zcb (⟨(tL dt3 y3.from_),(tU dt3 y3.from_)⟩:far) (⟨1,fun _=>(⟨(w64 ((tL dt3 y3.to)+y3.length)),(w64 ((tV dt3 y3.to)+(1:Int)))⟩:far)⟩:(Sl far))).length,(zcb (⟨(tL dt3 y3.from_),(tU dt3 y3.from_)⟩:far) (⟨1,fun _=>(⟨(w64 ((tL dt3 y3.to)+y3.length)),(w64 ((tV dt3 y3.to)+(1:Int)))⟩:far)⟩:(Sl far))).uses]) hs hk)⟩)⟩)) hs hk)⟩)⟩)⟩)⟩)) hs hk)⟩)
  exact key _ zab t4t3 dt3 hs hk
def zly (w:web) (S2:Bool→Tab→Tab→Tab) (zaj:Bool) (t4t2:Tab) (dt2:Tab):Tab :=
  (cond zaj
 (zr2 S2 w false t4t2 dt2)
 dt2)
def zlz (w:web) (P2:Bool→Tab→Tab→Bool) (zaj:Bool) (t4t2:Tab) (dt2:Tab):Bool :=
  (cond zaj
 (zn6 P2 w false t4t2 dt2)
 true)
def zeg (w : web) : Nat → Bool → Tab → Tab → Tab
  | 0=>fun _ _ _=>default
  | k+1=>zly w (zeg w k)
def zeh (w : web) : Nat → Bool → Tab → Tab → Bool
  | 0=>fun _ _ _=>false
  | k+1=>zlz w (zeh w k)
def zr3 (w:web) (zaj:Bool) (t4t2:Tab) (dt2:Tab):Tab:=zeg w Fuel zaj t4t2 dt2
def zr4 (w:web) (zaj:Bool) (t4t2:Tab) (dt2:Tab):Bool:=zeh w Fuel zaj t4t2 dt2
theorem zFw (K:List PA→Prop) (w:web) (zaj:Bool) (t4t2:Tab) (dt2:Tab) (hs:zr4 w zaj t4t2 dt2=true) (hk:K (e75 (zr3 w zaj t4t2 dt2))):zlu K w zaj t4t2 dt2:=by
  refine zyZ K w zaj t4t2 dt2 ?_
  intro X2 hstep
  have key:∀ (k:Nat) (zaj:Bool) (t4t2:Tab) (dt2:Tab),zeh w k zaj t4t2 dt2=true→K (e75 (zeg w k zaj t4t2 dt2))→X2 (zjq w zaj t4t2 dt2):=by
    intro k
    induction k with
    | zero=>intro zaj t4t2 dt2 hs;exact absurd hs Bool.false_ne_true
    | succ k ih =>
      intro zaj t4t2 dt2 hs hk
      refine hstep zaj t4t2 dt2 ?_
      have hs:zlz w (zeh w k) zaj t4t2 dt2=true:=hs
      have hk:K (e75 (zly w (zeg w k) zaj t4t2 dt2)):=hk
      unfold zlz at hs
      unfold zly at hk
      generalize zeg w k=S2 at hk ih
      generalize zeh w k=P2 at hs ih
      have hX2:=ih
      exact (zaZ (K := fun r => K (e75 r))
 (fun hs hk=>⟨⟨isE,rfl⟩,(zFv K w X2 P2 S2 hX2 false t4t2 dt2 hs hk)⟩)
 (fun hs hk=>hk) hs hk)
  exact key _ zaj t4t2 dt2 hs hk
def zlA (w:web) (node:Int) (t4t1:Tab) (dt1:Tab):Tab :=
  (zr3 w true t4t1 (ts 80 dt1 (0+node.toNat * 2+0) [(0:Int),(0:Int)]))
def zlB (w:web) (node:Int) (t4t1:Tab) (dt1:Tab):Bool :=
  (decide ((0≤node∧node < (40:Int))) &&
 (zr4 w true t4t1 (ts 80 dt1 (0+node.toNat * 2+0) [(0:Int),(0:Int)])))
theorem zFx (K:List PA→Prop) (w:web) (node:Int) (t4t1:Tab) (dt1:Tab) (hs:zlB w node t4t1 dt1=true) (hk:K (e75 (zlA w node t4t1 dt1))):zn5 K w node t4t1 dt1:=by
  refine zbd (zFu K w node t4t1 dt1) ?_
  unfold zlB at hs
  unfold zlA at hk
  exact (za2 hs fun hc hs=>⟨hc,(zFw K w true t4t1 (ts 80 dt1 (0+node.toNat * 2+0) [(0:Int),(0:Int)]) hs hk)⟩)
def zhf (w:web) (node:Int) (S0:Int→Tab→Tab→Tab) (zaL:Int) (t4t0:Tab) (dt0:Tab):Tab :=
  (cond (decide (zaL < (40:Int)))
 (S0 (w64 (zaL+(1:Int))) t4t0 (ts 80 dt0 (0+zaL.toNat * 2+0) [(1000000000000:Int),(0:Int)]))
 (zlA w node t4t0 dt0))
def zhg (w:web) (node:Int) (P0:Int→Tab→Tab→Bool) (zaL:Int) (t4t0:Tab) (dt0:Tab):Bool :=
  (cond (decide (zaL < (40:Int)))
 (decide ((0≤zaL∧zaL < (40:Int))) &&
 (P0 (w64 (zaL+(1:Int))) t4t0 (ts 80 dt0 (0+zaL.toNat * 2+0) [(1000000000000:Int),(0:Int)])))
 (zlB w node t4t0 dt0))
def zfh (w : web) (node : Int) : Nat → Int → Tab → Tab → Tab
  | 0=>fun _ _ _=>default
  | k+1=>zhf w node (zfh w node k)
def zfi (w : web) (node : Int) : Nat → Int → Tab → Tab → Bool
  | 0=>fun _ _ _=>false
  | k+1=>zhg w node (zfi w node k)
def zy1 (w:web) (node:Int) (zaL:Int) (t4t0:Tab) (dt0:Tab):Tab:=zfh w node Fuel zaL t4t0 dt0
def zy2 (w:web) (node:Int) (zaL:Int) (t4t0:Tab) (dt0:Tab):Bool:=zfi w node Fuel zaL t4t0 dt0
theorem zFy (K:List PA→Prop) (w:web) (node:Int) (zaL:Int) (t4t0:Tab) (dt0:Tab) (hs:zy2 w node zaL t4t0 dt0=true) (hk:K (e75 (zy1 w node zaL t4t0 dt0))):zlt K w node zaL t4t0 dt0:=by
  refine zyY K w node zaL t4t0 dt0 ?_
  intro X0 hstep
  have key:∀ (k:Nat) (zaL:Int) (t4t0:Tab) (dt0:Tab),zfi w node k zaL t4t0 dt0=true→K (e75 (zfh w node k zaL t4t0 dt0))→X0 (zls w node zaL t4t0 dt0):=by
    intro k
    induction k with
    | zero=>intro zaL t4t0 dt0 hs;exact absurd hs Bool.false_ne_true
    | succ k ih =>
      intro zaL t4t0 dt0 hs hk
      refine hstep zaL t4t0 dt0 ?_
      have hs:zhg w node (zfi w node k) zaL t4t0 dt0=true:=hs
      have hk:K (e75 (zhf w node (zfh w node k) zaL t4t0 dt0)):=hk
      unfold zhg at hs
      unfold zhf at hk
      generalize zfh w node k=S0 at hk ih
      generalize zfi w node k=P0 at hs ih
      have hX0:=ih
      exact (zaZ (K := fun r => K (e75 r))
 (fun hs hk=>(za2 hs fun hc hs=>⟨hc,(hX0 (w64 (zaL+(1:Int))) t4t0 (ts 80 dt0 (0+zaL.toNat * 2+0) [(1000000000000:Int),(0:Int)]) hs hk)⟩))
 (fun hs hk=>(zFx K w node t4t0 dt0 hs hk)) hs hk)
  exact key _ zaL t4t0 dt0 hs hk
def s75 (w:web) (node:Int):Tab :=
  (zy1 w node (0:Int) (fun _=>(0:Int)) (fun _=>(0:Int)))
def p75 (w:web) (node:Int):Bool :=
  (zy2 w node (0:Int) (fun _=>(0:Int)) (fun _=>(0:Int)))
theorem q75 (w:web) (node:Int) (K:List PA→Prop) (hs:p75 w node=true) (hk:K (e75 (s75 w node))):vcFun Tryd.prog G75 zcD 75 [.one (.fp (zaD w) 0),.one (.int .i64 node)] K:=by
  refine zbd (zFt w node K) ?_
  unfold p75 at hs
  unfold s75 at hk
  exact (zFy K w node (0:Int) (fun _=>(0:Int)) (fun _=>(0:Int)) hs hk)
def zvM : List PA → COut
  | [.one (.fp [.int .i64 zau,.sl zan zaP zao,.fm zbK zaR zaS] 0),.one (.int .i64 a1)]=>.det (IsE enc_40 4 zaP zao∧zbK=(false,1,false,[none])∧p75 (⟨(⟨zau,(⟨zan,zal zao⟩:(Sl Tie))⟩:Net),(⟨zaR,zaS⟩:Mp)⟩:web) a1=true) [.agg (zae ((s75 (⟨(⟨zau,(⟨zan,zal zao⟩:(Sl Tie))⟩:Net),(⟨zaR,zaS⟩:Mp)⟩:web) a1)))]
  | _=>.no
theorem zJf:zaw Tryd.prog 75:=⟨_,rfl,rfl,by kernel_rfl⟩
theorem zKI:Ok Tryd.prog 75 zvM:=zbF zLz zJf fun args K h=>by
  unfold zvM at h
  split at h
  · rename_i zau zan zaP zao zbK zaR zaS a1
    obtain ⟨⟨⟨rfl,zaC,rfl⟩,rfl,hs⟩,hk⟩:=h
    try rw [zam zaC] at hs
    try rw [zam zaC] at hk
    exact ⟨(fun _ _=>[]),(fun _=>false),zcD,q75 (⟨(⟨zau,(⟨zan,zaC⟩:(Sl Tie))⟩:Net),(⟨zaR,zaS⟩:Mp)⟩:web) a1 K hs hk⟩
  · exact h.elim
abbrev T76:Tabs:=(((Tabs.nil.addF 93 zpn).addF 104 zpt).addI 110 zpp)
theorem zLA:TabsOk Tryd.prog T76:=(((TabsOk.nil.addF zHF).addF zEE).addI zvA)
abbrev G76:Ctrs:=csm T76 (fun _ _=>[]) (fun _=>false)
def zcE:Ann:=⟨66,[(0,zK [0,1,4] [4]),(1,zK [0,1,4,5] [4,5]),(2,zK [0,1,4,5,10] [4,5]),(3,zK [0,1,4,5,10,11] [4,5]),(4,zK [0,1,4,5,6,10] [4,5]),(5,zK [0,1,4,5,10] [4,5]),(6,zK [0,1,4,5,10] [4,5]),(7,zK [0,4,5] [4,5]),(8,zK [0,4,5,7] [4,5,7]),(9,zK [0,4,5,7,20] [4,5,7]),(10,zK [0,4,5,7] [4,5,7]),(11,zK [0,4,5,7,22] [4,5,7]),(12,zK [0,4,5,7,8,22] [4,5,7,8]),(13,zK [0,4,5,7,8,22,29] [4,5,7,8]),(14,zK [0,4,5,7,8,9,22] [4,5,7,8,9]),(15,zK [0,4,5,7,8,9,22] [4,5,7,8,9]),(16,zK [0,4,5,7,22] [4,5,7]),(17,zK [0,4,5,64] [4,5]),(18,zK [0,4,5,7] [4,5,7]),(19,zK [4] [4])],
 [(3,zK [0,1,4,5,10] [4,5]),(9,zK [0,4,5,7] [4,5,7]),(12,zK [0,4,5,7,22] [4,5,7])],
 [(7,zK [0,1,4,5] [4,5])],
 [],[]⟩
def zlC (w:web) (node:Int) (zaL:Int) (t4t0:Tab) (dt0:Tab):St:=⟨[(0,.one (.c (.p (.fp (zaD w) 0)))),(1,.one (.c (.p (.int .i64 node)))),(4,.one (.c (.ptr 4 0))),(5,.one (.c (.ptr 5 0))),(10,.one (.c (.p (.int .i64 zaL))))],[(4,.box 116 (zm (zae t4t0))),(5,.box 116 (zm (zae dt0)))],[]⟩
def zlD (K:List PA→Prop) (w:web) (node:Int) (zaL:Int) (t4t0:Tab) (dt0:Tab):Prop:=vc Tryd.prog G76 zcE (cdF Tryd.f76 [1,1,0,1,0]) (zak 0 (sqK Tryd.prog G76 zcE (cdF Tryd.f76 [1,1,1]) (zbl Tryd.prog Tryd.f76 K))) (zlC w node zaL t4t0 dt0)
def zJg (w:web) (node:Int) (t4t1:Tab) (dt1:Tab):St:=⟨[(0,.one (.c (.p (.fp (zaD w) 0)))),(1,.one (.c (.p (.int .i64 node)))),(4,.one (.c (.ptr 4 0))),(5,.one (.c (.ptr 5 0)))],[(4,.box 116 (zm (zae t4t1))),(5,.box 116 (zm (zae dt1)))],[]⟩
def zn7 (K:List PA→Prop) (w:web) (node:Int) (t4t1:Tab) (dt1:Tab):Prop:=vc Tryd.prog G76 zcE (cdF Tryd.f76 [1,1,1]) (zbl Tryd.prog Tryd.f76 K) (zJg w node t4t1 dt1)
def zjr (w:web) (zaj:Bool) (t4t2:Tab) (dt2:Tab):St:=⟨[(0,.one (.c (.p (.fp (zaD w) 0)))),(4,.one (.c (.ptr 4 0))),(5,.one (.c (.ptr 5 0))),(7,.one (.c (.ptr 7 0)))],[(4,.box 116 (zm (zae t4t2))),(5,.box 116 (zm (zae dt2))),(7,.box 4 [.p (.bool zaj)])],[]⟩
def zlE (K:List PA→Prop) (w:web) (zaj:Bool) (t4t2:Tab) (dt2:Tab):Prop:=vc Tryd.prog G76 zcE (cdF Tryd.f76 [1,1,1,1,0,1,0]) (zak 2 (sqK Tryd.prog G76 zcE (cdF Tryd.f76 [1,1,1,1,1]) (zbl Tryd.prog Tryd.f76 K))) (zjr w zaj t4t2 dt2)
def zf7 (w:web) (zab:Bool) (t4t3:Tab) (dt3:Tab):St:=⟨[(0,.one (.c (.p (.fp (zaD w) 0)))),(4,.one (.c (.ptr 4 0))),(5,.one (.c (.ptr 5 0))),(7,.one (.c (.ptr 7 0))),(22,.one (.c (.p (.fn 110 [] [.fp [.fp (zaD w) 0] 0]))))],[(4,.box 116 (zm (zae t4t3))),(5,.box 116 (zm (zae dt3))),(7,.box 4 [.p (.bool zab)])],[]⟩
def zlF (K:List PA→Prop) (X2:St→Prop) (w:web) (zab:Bool) (t4t3:Tab) (dt3:Tab):Prop:=vc Tryd.prog G76 zcE (cdF Tryd.f76 [1,1,1,1,0,1,0,0,1,0,0,1,1,0]) (zak 4 (zak 3 (sqK Tryd.prog G76 zcE (cdF Tryd.f76 [1,1,1,1,0,1,0,0,1,1]) (zbn Tryd.prog zcE 9 X2 (zak 2 (sqK Tryd.prog G76 zcE (cdF Tryd.f76 [1,1,1,1,1]) (zbl Tryd.prog Tryd.f76 K))))))) (zf7 w zab t4t3 dt3)
theorem zFz (w : web) (node : Int) (K : List PA → Prop) :
  vcFun Tryd.prog G76 zcE 76 [.one (.fp (zaD w) 0),.one (.int .i64 node)] K =
  (zlD K w node (0:Int) (fun _=>(0:Int)) (fun _=>(0:Int))):=by kernel_rfl
def zpW (K:List PA→Prop) (X0:St→Prop) (w:web) (node:Int) (zaL:Int) (t4t0:Tab) (dt0:Tab):Prop :=
  (zbR (decide (zaL < (40:Int)))
 (((0≤zaL∧zaL < (40:Int))) ∧
 (X0 (zlC w node (w64 (zaL+(1:Int))) t4t0 (ts 80 dt0 (0+zaL.toNat * 2+0) [(1000000000000:Int),(0:Int)]))))
 (zn7 K w node t4t0 dt0))
theorem zr5 (K : List PA → Prop) (X0 : St → Prop) (w : web) (node : Int) (zaL : Int) (t4t0 : Tab) (dt0 : Tab) :
  vc Tryd.prog G76 zcE (cd (cdF Tryd.f76 [1,1,0,1,0]) [0]) (zbn Tryd.prog zcE 3 X0 (zak 0 (sqK Tryd.prog G76 zcE (cdF Tryd.f76 [1,1,1]) (zbl Tryd.prog Tryd.f76 K)))) (zlC w node zaL t4t0 dt0) =
  zpW K X0 w node zaL t4t0 dt0:=by kernel_rfl
theorem zy3 (K : List PA → Prop) (w : web) (node : Int) (zaL : Int) (t4t0 : Tab) (dt0 : Tab)
  (h:∀ X0:St→Prop,(∀ (zaL:Int) (t4t0:Tab) (dt0:Tab),zpW K X0 w node zaL t4t0 dt0→X0 (zlC w node zaL t4t0 dt0))→X0 (zlC w node zaL t4t0 dt0)) :
  zlD K w node zaL t4t0 dt0:=by
  have e:zlD K w node zaL t4t0 dt0=(∀ X:St→Prop,(∀ s,vc Tryd.prog G76 zcE (cd (cdF Tryd.f76 [1,1,0,1,0]) [0]) (zbn Tryd.prog zcE 3 X (zak 0 (sqK Tryd.prog G76 zcE (cdF Tryd.f76 [1,1,1]) (zbl Tryd.prog Tryd.f76 K)))) s→X s)→X (zlC w node zaL t4t0 dt0)):=by kernel_rfl
  refine zbd e ?_
  intro X hX
  refine h X ?_
  intro zaL t4t0 dt0 hs
  refine hX _ ?_
  have e2:=zr5 K X w node zaL t4t0 dt0
  rw [e2]
  exact hs
theorem zFA (K : List PA → Prop) (w : web) (node : Int) (t4t1 : Tab) (dt1 : Tab) :
  zn7 K w node t4t1 dt1 =
  (((0≤node∧node < (40:Int))) ∧
 (zlE K w true t4t1 (ts 80 dt1 (0+node.toNat * 2+0) [(0:Int),(0:Int)]))):=by kernel_rfl
def zpX (K:List PA→Prop) (X2:St→Prop) (w:web) (zaj:Bool) (t4t2:Tab) (dt2:Tab):Prop :=
  (zbR zaj
 ((IsE enc_40 4 4 (fun i=>enc_40 (w.Net.Ties.get i))∧((false,1,false,[none]):MQ)=(false,1,false,[none])) ∧
 (zlF K X2 w false t4t2 dt2))
 (K [.agg (zae dt2)]))
theorem zr6 (K : List PA → Prop) (X2 : St → Prop) (w : web) (zaj : Bool) (t4t2 : Tab) (dt2 : Tab) :
  vc Tryd.prog G76 zcE (cd (cdF Tryd.f76 [1,1,1,1,0,1,0]) [0]) (zbn Tryd.prog zcE 9 X2 (zak 2 (sqK Tryd.prog G76 zcE (cdF Tryd.f76 [1,1,1,1,1]) (zbl Tryd.prog Tryd.f76 K)))) (zjr w zaj t4t2 dt2) =
  zpX K X2 w zaj t4t2 dt2:=by kernel_rfl
theorem zy4 (K : List PA → Prop) (w : web) (zaj : Bool) (t4t2 : Tab) (dt2 : Tab)
  (h:∀ X2:St→Prop,(∀ (zaj:Bool) (t4t2:Tab) (dt2:Tab),zpX K X2 w zaj t4t2 dt2→X2 (zjr w zaj t4t2 dt2))→X2 (zjr w zaj t4t2 dt2)) :
  zlE K w zaj t4t2 dt2:=by
  have e:zlE K w zaj t4t2 dt2=(∀ X:St→Prop,(∀ s,vc Tryd.prog G76 zcE (cd (cdF Tryd.f76 [1,1,1,1,0,1,0]) [0]) (zbn Tryd.prog zcE 9 X (zak 2 (sqK Tryd.prog G76 zcE (cdF Tryd.f76 [1,1,1,1,1]) (zbl Tryd.prog Tryd.f76 K)))) s→X s)→X (zjr w zaj t4t2 dt2)):=by kernel_rfl
  refine zbd e ?_
  intro X hX
  refine h X ?_
  intro zaj t4t2 dt2 hs
  refine hX _ ?_
  have e2:=zr6 K X w zaj t4t2 dt2
  rw [e2]
  exact hs
def zpY (K:List PA→Prop) (X2:St→Prop) (w:web) (zab:Bool) (t4t3:Tab) (dt3:Tab):Prop :=
  (X2 (zjr w zab t4t3 dt3))
def zpZ (K:List PA→Prop) (X2:St→Prop) (X3:List (List PA)→St→Prop) (y3:step) (rest3:List (List PA)) (w:web) (zab:Bool) (t4t3:Tab) (dt3:Tab):Prop :=
  (((0≤y3.from_∧y3.from_ < (40:Int))) ∧
 (zbR (nvr (tL dt3 y3.from_) (tU dt3 y3.from_))
 (X3 rest3 (zf7 w zab t4t3 dt3))
 (((0≤y3.to∧y3.to < (40:Int))) ∧
 (((0≤y3.from_∧y3.from_ < (40:Int))) ∧
 (((0≤y3.from_∧y3.from_ < (40:Int))) ∧
 ((IsE zcy 2 2 (fun _=>(zcy (⟨(w64 ((tL dt3 y3.from_)+y3.length)),(w64 ((tV dt3 y3.from_)+(1:Int)))⟩:far)))∧(zvW (⟨(tL dt3 y3.to),(tU dt3 y3.to)⟩:far) (⟨1,fun _=>(⟨(w64 ((tL dt3 y3.from_)+y3.length)),(w64 ((tV dt3 y3.from_)+(1:Int)))⟩:far)⟩:(Sl far))=true)) ∧
 (zbR zab
 (((0≤y3.to∧y3.to < (40:Int))) ∧
 (X3 rest3 (zf7 w true t4t3 (ts 80 dt3 (0+y3.to.toNat * 2+0) [(zcb (⟨(tL dt3 y3.to),(tU dt3 y3.to)⟩:far) (⟨1,fun _=>(⟨(w64 ((tL dt3 y3.from_)+y3.length)),(w64 ((tV dt3 y3.from_)+(1:Int)))⟩:far)⟩:(Sl far))).length,(zcb (⟨(tL dt3 y3.to),(tU dt3 y3.to)⟩:far) (⟨1,fun _=>(⟨(w64 ((tL dt3 y3.from_)+y3.length)),(w64 ((tV dt3 y3.from_)+(1:Int)))⟩:far)⟩:(Sl far))).uses]))))
 (((0≤y3.to∧y3.to < (40:Int))) ∧
 (((0≤y3.to∧y3.to < (40:Int))) ∧
 (X3 rest3 (zf7 w (!(match ((zcb (⟨(tL dt3 y3.to),(tU dt3 y3.to)⟩:far) (⟨1,fun _=>(⟨(w64 ((tL dt3 y3.from_)+y3.length)),(w64 ((tV dt3 y3.from_)+(1:Int)))⟩:far)⟩:(Sl far))).length == (tL dt3 y3.to)) with | true=>(match ((zcb (⟨(tL dt3 y3.to),(tU dt3 y3.to)⟩:far) (⟨1,fun _=>(⟨(w64 ((tL dt3 y3.from_)+y3.length)),(w64 ((tV dt3 y3.from_)+(1:Int)))⟩:far)⟩:(Sl far))).uses == (tU dt3 y3.to)) with | true=>true | false=>false) | false=>false)) t4t3 (ts 80 dt3 (0+y3.to.toNat * 2+0) [(zcb (⟨(tL dt3 y3.to),(tU dt3 y3.to)⟩:far) (⟨1,fun _=>(⟨(w64 ((tL dt3 y3.from_)+y3.length)),(w64 ((tV dt3 y3.from_)+(1:Int)))⟩:far)⟩:(Sl far))).length,(zcb (⟨(tL dt3 y3.to),(tU dt3 y3.to)⟩:far) (⟨1,fun _=>(⟨(w64 ((tL dt3 y3.from_)+y3.length)),(w64 ((tV dt3 y3.from_)+(1:Int)))⟩:far)⟩:(Sl far))).uses]))))))))))))
theorem zr7 (K:List PA→Prop) (X2:St→Prop) (w:web) (zab:Bool) (t4t3:Tab) (dt3:Tab):(zak 4 (zak 3 (sqK Tryd.prog G76 zcE (cdF Tryd.f76 [1,1,1,1,0,1,0,0,1,1]) (zbn Tryd.prog zcE 9 X2 (zak 2 (sqK Tryd.prog G76 zcE (cdF Tryd.f76 [1,1,1,1,1]) (zbl Tryd.prog Tryd.f76 K))))))) .normal (zf7 w zab t4t3 dt3)=zpY K X2 w zab t4t3 dt3:=by kernel_rfl
theorem zr8 (K : List PA → Prop) (X2 : St → Prop) (X3 : List (List PA) → St → Prop) (y3 : step) (rest3 : List (List PA)) (w : web) (zab : Bool) (t4t3 : Tab) (dt3 : Tab) :
  zvV Tryd.prog G76 zcE 12 [23] (cd (cdF Tryd.f76 [1,1,1,1,0,1,0,0,1,0,0,1,1,0]) [0]) (cd (cdF Tryd.f76 [1,1,1,1,0,1,0,0,1,0,0,1,1,0]) [1]) X3 (zak 4 (zak 3 (sqK Tryd.prog G76 zcE (cdF Tryd.f76 [1,1,1,1,0,1,0,0,1,1]) (zbn Tryd.prog zcE 9 X2 (zak 2 (sqK Tryd.prog G76 zcE (cdF Tryd.f76 [1,1,1,1,1]) (zbl Tryd.prog Tryd.f76 K))))))) [.agg (zaf y3)] rest3 (zf7 w zab t4t3 dt3)=zpZ K X2 X3 y3 rest3 w zab t4t3 dt3:=by kernel_rfl
theorem zy5 (K : List PA → Prop) (X2 : St → Prop) (w : web) (zab : Bool) (t4t3 : Tab) (dt3 : Tab)
  (hsafe:IsE enc_40 4 4 (fun i=>enc_40 (w.Net.Ties.get i))∧((false,1,false,[none]):MQ)=(false,1,false,[none])∧(zl0 w=true)) (h:∀ X3:List (List PA)→St→Prop,(∀ (zab:Bool) (t4t3:Tab) (dt3:Tab),zpY K X2 w zab t4t3 dt3→X3 [] (zf7 w zab t4t3 dt3))→(∀ (y:step) (rest:List (List PA)) (zab:Bool) (t4t3:Tab) (dt3:Tab),zpZ K X2 X3 y rest w zab t4t3 dt3→X3 ([.agg (zaf y)] :: rest) (zf7 w zab t4t3 dt3))→X3 ((zic w).map fun y=>[.agg (zaf y)]) (zf7 w zab t4t3 dt3)) :
  zlF K X2 w zab t4t3 dt3:=by
  have e:zlF K X2 w zab t4t3 dt3=((IsE enc_40 4 4 (fun i=>enc_40 (w.Net.Ties.get i))∧((false,1,false,[none]):MQ)=(false,1,false,[none])∧(zl0 w=true))∧∀ X:List (List PA)→St→Prop,(∀ s,(zak 4 (zak 3 (sqK Tryd.prog G76 zcE (cdF Tryd.f76 [1,1,1,1,0,1,0,0,1,1]) (zbn Tryd.prog zcE 9 X2 (zak 2 (sqK Tryd.prog G76 zcE (cdF Tryd.f76 [1,1,1,1,1]) (zbl Tryd.prog Tryd.f76 K))))))) .normal s→X [] s)→(∀ y rest s,zvV Tryd.prog G76 zcE 12 [23] (cd (cdF Tryd.f76 [1,1,1,1,0,1,0,0,1,0,0,1,1,0]) [0]) (cd (cdF Tryd.f76 [1,1,1,1,0,1,0,0,1,0,0,1,1,0]) [1]) X (zak 4 (zak 3 (sqK Tryd.prog G76 zcE (cdF Tryd.f76 [1,1,1,1,0,1,0,0,1,1]) (zbn Tryd.prog zcE 9 X2 (zak 2 (sqK Tryd.prog G76 zcE (cdF Tryd.f76 [1,1,1,1,1]) (zbl Tryd.prog Tryd.f76 K))))))) y rest s→X (y :: rest) s)→X ((zic w).map fun y=>[.agg (zaf y)]) (zf7 w zab t4t3 dt3)):=by kernel_rfl
  refine zbd e ⟨hsafe,?_⟩
  intro X h0 h1
  refine h X (fun zab t4t3 dt3 hs=>h0 _ ?_) (fun y rest zab t4t3 dt3 hs=>h1 _ rest _ ?_)
  · rw [zr7 K X2 w zab t4t3 dt3];exact hs
  · have e2 := zr8 K X2 X y rest w zab t4t3 dt3
    rw [e2];exact hs
abbrev e76 (r:Tab):List PA:=[.agg (zae r)]
attribute [irreducible] zlD zn7 zlE zlF
def zr9 (S2:Bool→Tab→Tab→Tab) (w:web) (zab:Bool) (t4t3:Tab) (dt3:Tab):Tab :=
  (S2 zab t4t3 dt3)
def zsa (P2:Bool→Tab→Tab→Bool) (w:web) (zab:Bool) (t4t3:Tab) (dt3:Tab):Bool :=
  (P2 zab t4t3 dt3)
def zlG (S2:Bool→Tab→Tab→Tab) (w:web) (y3:step) (S3:Bool→Tab→Tab→Tab) (zab:Bool) (t4t3:Tab) (dt3:Tab):Tab :=
  (cond (nvr (tL dt3 y3.from_) (tU dt3 y3.from_))
 (S3 zab t4t3 dt3)
 (cond zab
 (S3 true t4t3 (ts 80 dt3 (0+y3.to.toNat * 2+0) [(zcb (⟨(tL dt3 y3.to),(tU dt3 y3.to)⟩:far) (⟨1,fun _=>(⟨(w64 ((tL dt3 y3.from_)+y3.length)),(w64 ((tV dt3 y3.from_)+(1:Int)))⟩:far)⟩:(Sl far))).length,(zcb (⟨(tL dt3 y3.to),(tU dt3 y3.to)⟩:far) (⟨1,fun _=>(⟨(w64 ((tL dt3 y3.from_)+y3.length)),(w64 ((tV dt3 y3.from_)+(1:Int)))⟩:far)⟩:(Sl far))).uses]))
 (S3 (!(match ((zcb (⟨(tL dt3 y3.to),(tU dt3 y3.to)⟩:far) (⟨1,fun _=>(⟨(w64 ((tL dt3 y3.from_)+y3.length)),(w64 ((tV dt3 y3.from_)+(1:Int)))⟩:far)⟩:(Sl far))).length == (tL dt3 y3.to)) with | true=>(match ((zcb (⟨(tL dt3 y3.to),(tU dt3 y3.to)⟩:far) (⟨1,fun _=>(⟨(w64 ((tL dt3 y3.from_)+y3.length)),(w64 ((tV dt3 y3.from_)+(1:Int)))⟩:far)⟩:(Sl far))).uses == (tU dt3 y3.to)) with | true=>true | false=>false) | false=>false)) t4t3 (ts 80 dt3 (0+y3.to.toNat * 2+0) [(zcb (⟨(tL dt3 y3.to),(tU dt3 y3.to)⟩:far) (⟨1,fun _=>(⟨(w64 ((tL dt3 y3.from_)+y3.length)),(w64 ((tV dt3 y3.from_)+(1:Int)))⟩:far)⟩:(Sl far))).length,(zcb (⟨(tL dt3 y3.to),(tU dt3 y3.to)⟩:far) (⟨1,fun _=>(⟨(w64 ((tL dt3 y3.from_)+y3.length)),(w64 ((tV dt3 y3.from_)+(1:Int)))⟩:far)⟩:(Sl far))).uses]))))
def zlH (P2:Bool→Tab→Tab→Bool) (w:web) (y3:step) (P3:Bool→Tab→Tab→Bool) (zab:Bool) (t4t3:Tab) (dt3:Tab):Bool :=
  (decide ((0≤y3.from_∧y3.from_ < (40:Int))) &&
 (cond (nvr (tL dt3 y3.from_) (tU dt3 y3.from_))
 (P3 zab t4t3 dt3)
 (decide ((0≤y3.to∧y3.to < (40:Int))) &&
 (decide ((0≤y3.from_∧y3.from_ < (40:Int))) &&
 (decide ((0≤y3.from_∧y3.from_ < (40:Int))) &&
 (decide ((zvW (⟨(tL dt3 y3.to),(tU dt3 y3.to)⟩:far) (⟨1,fun _=>(⟨(w64 ((tL dt3 y3.from_)+y3.length)),(w64 ((tV dt3 y3.from_)+(1:Int)))⟩:far)⟩:(Sl far))=true)) &&
 (cond zab
 (decide ((0≤y3.to∧y3.to < (40:Int))) &&
 (P3 true t4t3 (ts 80 dt3 (0+y3.to.toNat * 2+0) [(zcb (⟨(tL dt3 y3.to),(tU dt3 y3.to)⟩:far) (⟨1,fun _=>(⟨(w64 ((tL dt3 y3.from_)+y3.length)),(w64 ((tV dt3 y3.from_)+(1:Int)))⟩:far)⟩:(Sl far))).length,(zcb (⟨(tL dt3 y3.to),(tU dt3 y3.to)⟩:far) (⟨1,fun _=>(⟨(w64 ((tL dt3 y3.from_)+y3.length)),(w64 ((tV dt3 y3.from_)+(1:Int)))⟩:far)⟩:(Sl far))).uses])))
 (decide ((0≤y3.to∧y3.to < (40:Int))) &&
 (decide ((0≤y3.to∧y3.to < (40:Int))) &&
 (P3 (!(match ((zcb (⟨(tL dt3 y3.to),(tU dt3 y3.to)⟩:far) (⟨1,fun _=>(⟨(w64 ((tL dt3 y3.from_)+y3.length)),(w64 ((tV dt3 y3.from_)+(1:Int)))⟩:far)⟩:(Sl far))).length == (tL dt3 y3.to)) with | true=>(match ((zcb (⟨(tL dt3 y3.to),(tU dt3 y3.to)⟩:far) (⟨1,fun _=>(⟨(w64 ((tL dt3 y3.from_)+y3.length)),(w64 ((tV dt3 y3.from_)+(1:Int)))⟩:far)⟩:(Sl far))).uses == (tU dt3 y3.to)) with | true=>true | false=>false) | false=>false)) t4t3 (ts 80 dt3 (0+y3.to.toNat * 2+0) [(zcb (⟨(tL dt3 y3.to),(tU dt3 y3.to)⟩:far) (⟨1,fun _=>(⟨(w64 ((tL dt3 y3.from_)+y3.length)),(w64 ((tV dt3 y3.from_)+(1:Int)))⟩:far)⟩:(Sl far))).length,(zcb (⟨(tL dt3 y3.to),(tU dt3 y3.to)⟩:far) (⟨1,fun _=>(⟨(w64 ((tL dt3 y3.from_)+y3.length)),(w64 ((tV dt3 y3.from_)+(1:Int)))⟩:far)⟩:(Sl far))).uses])))))))))))
def zhh (S2 : Bool → Tab → Tab → Tab) (w : web) : List step → Bool → Tab → Tab → Tab
  | []=>zr9 S2 w
  | y :: r=>zlG S2 w y (zhh S2 w r)
def zhi (P2 : Bool → Tab → Tab → Bool) (w : web) : List step → Bool → Tab → Tab → Bool
  | []=>zsa P2 w
  | y :: r=>zlH P2 w y (zhi P2 w r)
def zsb (S2:Bool→Tab→Tab→Tab) (w:web) (zab:Bool) (t4t3:Tab) (dt3:Tab):Tab:=zhh S2 w (zic w) zab t4t3 dt3
def zn8 (P2:Bool→Tab→Tab→Bool) (w:web) (zab:Bool) (t4t3:Tab) (dt3:Tab):Bool:=decide ((zl0 w=true)) && zhi P2 w (zic w) zab t4t3 dt3
theorem zFB (K : List PA → Prop) (w : web)
  (X2:St→Prop) (P2:Bool→Tab→Tab→Bool) (S2:Bool→Tab→Tab→Tab)
  (hX2:∀ (zaj:Bool) (t4t2:Tab) (dt2:Tab),P2 zaj t4t2 dt2=true→K (e76 (S2 zaj t4t2 dt2))→X2 (zjr w zaj t4t2 dt2)) (zab:Bool) (t4t3:Tab) (dt3:Tab) (hs:zn8 P2 w zab t4t3 dt3=true) (hk:K (e76 (zsb S2 w zab t4t3 dt3))):zlF K X2 w zab t4t3 dt3:=by
  unfold zn8 at hs
  rw [Bool.and_eq_true] at hs
  obtain ⟨hsf,hs⟩:=hs
  have hc:=of_decide_eq_true hsf
  refine zy5 K X2 w zab t4t3 dt3 ⟨isE,rfl,hc⟩ ?_
  intro X3 hexit hstep
  have key:∀ (l:List step) (zab:Bool) (t4t3:Tab) (dt3:Tab),zhi P2 w l zab t4t3 dt3=true→K (e76 (zhh S2 w l zab t4t3 dt3))→X3 (l.map fun y=>[.agg (zaf y)]) (zf7 w zab t4t3 dt3):=by
    intro l
    induction l with
    | nil =>
      intro zab t4t3 dt3 hs hk
      refine hexit zab t4t3 dt3 ?_
      have hs:zsa P2 w zab t4t3 dt3=true:=hs
      have hk:K (e76 (zr9 S2 w zab t4t3 dt3)):=hk
      unfold zsa at hs
      unfold zr9 at hk
      exact (hX2 zab t4t3 dt3 hs hk)
    | cons y3 l ih =>
      intro zab t4t3 dt3 hs hk
      refine hstep y3 _ zab t4t3 dt3 ?_
      have hs:zlH P2 w y3 (zhi P2 w l) zab t4t3 dt3=true:=hs
      have hk:K (e76 (zlG S2 w y3 (zhh S2 w l) zab t4t3 dt3)):=hk
      unfold zlH at hs
      unfold zlG at hk
      generalize zhh S2 w l=S3 at hk ih
      generalize zhi P2 w l=P3 at hs ih
      have hX3:=ih
      exact (za2 hs fun hc hs => ⟨hc, (zaZ (K := fun r => K (e76 r))
 (fun hs hk=>(hX3 zab t4t3 dt3 hs hk))
 (fun hs hk => (za2 hs fun hc hs => ⟨hc, (za2 hs fun hc hs => ⟨hc, (za2 hs fun hc hs => ⟨hc, (za2 hs fun hc hs => ⟨⟨zxt, hc⟩, (zaZ (K := fun r => K (e76 r))
 (fun hs hk=>(za2 hs fun hc hs=>⟨hc,(hX3 true t4t3 (ts 80 dt3 (0+y3.to.toNat * 2+0) [(zcb (⟨(tL dt3 y3.to),(tU dt3 y3.to)⟩:far) (⟨1,fun _=>(⟨(w64 ((tL dt3 y3.from_)+y3.length)),(w64 ((tV dt3 y3.from_)+(1:Int)))⟩:far)⟩:(Sl far))).length,(zcb (⟨(tL dt3 y3.to),(tU dt3 y3.to)⟩:far) (⟨1,fun _=>(⟨(w64 ((tL dt3 y3.from_)+y3.length)),(w64 ((tV dt3 y3.from_)+(1:Int)))⟩:far)⟩:(Sl far))).uses]) hs hk)⟩))
 (fun hs hk=>(za2 hs fun hc hs=>⟨hc,(za2 hs fun hc hs=>⟨hc,(hX3 (!(match ((zcb (⟨(tL dt3 y3.to),(tU dt3 y3.to)⟩:far) (⟨1,fun _=>(⟨(w64 ((tL dt3 y3.from_)+y3.length)),(w64 ((tV dt3 y3.from_)+(1:Int)))⟩:far)⟩:(Sl far))).length == (tL dt3 y3.to)) with | true=>(match ((zcb (⟨(tL dt3 y3.to),(tU dt3 y3.to)⟩:far) (⟨1,fun _=>(⟨(w64 ((tL dt3 y3.from_)+y3.length)),(w64 ((tV dt3 y3.from_)+(1:Int)))⟩:far)⟩:(Sl far))).uses == (tU dt3 y3.to)) with | true=>true | false=>false) | false=>false)) t4t3 (ts 80 dt3 (0+y3.to.toNat * 2+0) [(zcb (⟨(tL dt3 y3.to),(tU dt3 y3.to)⟩:far) (⟨1,fun _=>(⟨(w64 ((tL dt3 y3.from_)+y3.length)),(w64 ((tV dt3 y3.from_)+(1:Int)))⟩:far)⟩:(Sl far))).length,(zcb (⟨(tL dt3 y3.to),(tU dt3 y3.to)⟩:far) (⟨1,fun _=>(⟨(w64 ((tL dt3 y3.from_)+y3.length)),(w64 ((tV dt3 y3.from_)+(1:Int)))⟩:far)⟩:(Sl far))).uses]) hs hk)⟩)⟩)) hs hk)⟩)⟩)⟩)⟩)) hs hk)⟩)
  exact key _ zab t4t3 dt3 hs hk
def zlI (w:web) (S2:Bool→Tab→Tab→Tab) (zaj:Bool) (t4t2:Tab) (dt2:Tab):Tab :=
  (cond zaj
 (zsb S2 w false t4t2 dt2)
 dt2)
def zlJ (w:web) (P2:Bool→Tab→Tab→Bool) (zaj:Bool) (t4t2:Tab) (dt2:Tab):Bool :=
  (cond zaj
 (zn8 P2 w false t4t2 dt2)
 true)
def zei (w : web) : Nat → Bool → Tab → Tab → Tab
  | 0=>fun _ _ _=>default
  | k+1=>zlI w (zei w k)
def zej (w : web) : Nat → Bool → Tab → Tab → Bool
  | 0=>fun _ _ _=>false
  | k+1=>zlJ w (zej w k)
def zsc (w:web) (zaj:Bool) (t4t2:Tab) (dt2:Tab):Tab:=zei w Fuel zaj t4t2 dt2
def zsd (w:web) (zaj:Bool) (t4t2:Tab) (dt2:Tab):Bool:=zej w Fuel zaj t4t2 dt2
theorem zFC (K:List PA→Prop) (w:web) (zaj:Bool) (t4t2:Tab) (dt2:Tab) (hs:zsd w zaj t4t2 dt2=true) (hk:K (e76 (zsc w zaj t4t2 dt2))):zlE K w zaj t4t2 dt2:=by
  refine zy4 K w zaj t4t2 dt2 ?_
  intro X2 hstep
  have key:∀ (k:Nat) (zaj:Bool) (t4t2:Tab) (dt2:Tab),zej w k zaj t4t2 dt2=true→K (e76 (zei w k zaj t4t2 dt2))→X2 (zjr w zaj t4t2 dt2):=by
    intro k
    induction k with
    | zero=>intro zaj t4t2 dt2 hs;exact absurd hs Bool.false_ne_true
    | succ k ih =>
      intro zaj t4t2 dt2 hs hk
      refine hstep zaj t4t2 dt2 ?_
      have hs:zlJ w (zej w k) zaj t4t2 dt2=true:=hs
      have hk:K (e76 (zlI w (zei w k) zaj t4t2 dt2)):=hk
      unfold zlJ at hs
      unfold zlI at hk
      generalize zei w k=S2 at hk ih
      generalize zej w k=P2 at hs ih
      have hX2:=ih
      exact (zaZ (K := fun r => K (e76 r))
 (fun hs hk=>⟨⟨isE,rfl⟩,(zFB K w X2 P2 S2 hX2 false t4t2 dt2 hs hk)⟩)
 (fun hs hk=>hk) hs hk)
  exact key _ zaj t4t2 dt2 hs hk
def zlK (w:web) (node:Int) (t4t1:Tab) (dt1:Tab):Tab :=
  (zsc w true t4t1 (ts 80 dt1 (0+node.toNat * 2+0) [(0:Int),(0:Int)]))
def zlL (w:web) (node:Int) (t4t1:Tab) (dt1:Tab):Bool :=
  (decide ((0≤node∧node < (40:Int))) &&
 (zsd w true t4t1 (ts 80 dt1 (0+node.toNat * 2+0) [(0:Int),(0:Int)])))
theorem zFD (K:List PA→Prop) (w:web) (node:Int) (t4t1:Tab) (dt1:Tab) (hs:zlL w node t4t1 dt1=true) (hk:K (e76 (zlK w node t4t1 dt1))):zn7 K w node t4t1 dt1:=by
  refine zbd (zFA K w node t4t1 dt1) ?_
  unfold zlL at hs
  unfold zlK at hk
  exact (za2 hs fun hc hs=>⟨hc,(zFC K w true t4t1 (ts 80 dt1 (0+node.toNat * 2+0) [(0:Int),(0:Int)]) hs hk)⟩)
def zhj (w:web) (node:Int) (S0:Int→Tab→Tab→Tab) (zaL:Int) (t4t0:Tab) (dt0:Tab):Tab :=
  (cond (decide (zaL < (40:Int)))
 (S0 (w64 (zaL+(1:Int))) t4t0 (ts 80 dt0 (0+zaL.toNat * 2+0) [(1000000000000:Int),(0:Int)]))
 (zlK w node t4t0 dt0))
def zhk (w:web) (node:Int) (P0:Int→Tab→Tab→Bool) (zaL:Int) (t4t0:Tab) (dt0:Tab):Bool :=
  (cond (decide (zaL < (40:Int)))
 (decide ((0≤zaL∧zaL < (40:Int))) &&
 (P0 (w64 (zaL+(1:Int))) t4t0 (ts 80 dt0 (0+zaL.toNat * 2+0) [(1000000000000:Int),(0:Int)])))
 (zlL w node t4t0 dt0))
def zfj (w : web) (node : Int) : Nat → Int → Tab → Tab → Tab
  | 0=>fun _ _ _=>default
  | k+1=>zhj w node (zfj w node k)
def zfk (w : web) (node : Int) : Nat → Int → Tab → Tab → Bool
  | 0=>fun _ _ _=>false
  | k+1=>zhk w node (zfk w node k)
def zy6 (w:web) (node:Int) (zaL:Int) (t4t0:Tab) (dt0:Tab):Tab:=zfj w node Fuel zaL t4t0 dt0
def zy7 (w:web) (node:Int) (zaL:Int) (t4t0:Tab) (dt0:Tab):Bool:=zfk w node Fuel zaL t4t0 dt0
theorem zFE (K:List PA→Prop) (w:web) (node:Int) (zaL:Int) (t4t0:Tab) (dt0:Tab) (hs:zy7 w node zaL t4t0 dt0=true) (hk:K (e76 (zy6 w node zaL t4t0 dt0))):zlD K w node zaL t4t0 dt0:=by
  refine zy3 K w node zaL t4t0 dt0 ?_
  intro X0 hstep
  have key:∀ (k:Nat) (zaL:Int) (t4t0:Tab) (dt0:Tab),zfk w node k zaL t4t0 dt0=true→K (e76 (zfj w node k zaL t4t0 dt0))→X0 (zlC w node zaL t4t0 dt0):=by
    intro k
    induction k with
    | zero=>intro zaL t4t0 dt0 hs;exact absurd hs Bool.false_ne_true
    | succ k ih =>
      intro zaL t4t0 dt0 hs hk
      refine hstep zaL t4t0 dt0 ?_
      have hs:zhk w node (zfk w node k) zaL t4t0 dt0=true:=hs
      have hk:K (e76 (zhj w node (zfj w node k) zaL t4t0 dt0)):=hk
      unfold zhk at hs
      unfold zhj at hk
      generalize zfj w node k=S0 at hk ih
      generalize zfk w node k=P0 at hs ih
      have hX0:=ih
      exact (zaZ (K := fun r => K (e76 r))
 (fun hs hk=>(za2 hs fun hc hs=>⟨hc,(hX0 (w64 (zaL+(1:Int))) t4t0 (ts 80 dt0 (0+zaL.toNat * 2+0) [(1000000000000:Int),(0:Int)]) hs hk)⟩))
 (fun hs hk=>(zFD K w node t4t0 dt0 hs hk)) hs hk)
  exact key _ zaL t4t0 dt0 hs hk
def s76 (w:web) (node:Int):Tab :=
  (zy6 w node (0:Int) (fun _=>(0:Int)) (fun _=>(0:Int)))
def p76 (w:web) (node:Int):Bool :=
  (zy7 w node (0:Int) (fun _=>(0:Int)) (fun _=>(0:Int)))
theorem q76 (w:web) (node:Int) (K:List PA→Prop) (hs:p76 w node=true) (hk:K (e76 (s76 w node))):vcFun Tryd.prog G76 zcE 76 [.one (.fp (zaD w) 0),.one (.int .i64 node)] K:=by
  refine zbd (zFz w node K) ?_
  unfold p76 at hs
  unfold s76 at hk
  exact (zFE K w node (0:Int) (fun _=>(0:Int)) (fun _=>(0:Int)) hs hk)
def zvN : List PA → COut
  | [.one (.fp [.int .i64 zau,.sl zan zaP zao,.fm zbK zaR zaS] 0),.one (.int .i64 a1)]=>.det (IsE enc_40 4 zaP zao∧zbK=(false,1,false,[none])∧p76 (⟨(⟨zau,(⟨zan,zal zao⟩:(Sl Tie))⟩:Net),(⟨zaR,zaS⟩:Mp)⟩:web) a1=true) [.agg (zae ((s76 (⟨(⟨zau,(⟨zan,zal zao⟩:(Sl Tie))⟩:Net),(⟨zaR,zaS⟩:Mp)⟩:web) a1)))]
  | _=>.no
theorem zJh:zaw Tryd.prog 76:=⟨_,rfl,rfl,by kernel_rfl⟩
theorem zKJ:Ok Tryd.prog 76 zvN:=zbF zLA zJh fun args K h=>by
  unfold zvN at h
  split at h
  · rename_i zau zan zaP zao zbK zaR zaS a1
    obtain ⟨⟨⟨rfl,zaC,rfl⟩,rfl,hs⟩,hk⟩:=h
    try rw [zam zaC] at hs
    try rw [zam zaC] at hk
    exact ⟨(fun _ _=>[]),(fun _=>false),zcE,q76 (⟨(⟨zau,(⟨zan,zaC⟩:(Sl Tie))⟩:Net),(⟨zaR,zaS⟩:Mp)⟩:web) a1 K hs hk⟩
  · exact h.elim
abbrev T26:Tabs:=(((Tabs.nil.addF 74 zvL).addF 75 zvM).addF 76 zvN)
theorem zLB:TabsOk Tryd.prog T26:=(((TabsOk.nil.addF zKH).addF zKI).addF zKJ)
abbrev G26:Ctrs:=csm T26 (fun _ _=>[]) (fun _=>false)
def zFF:Ann:=⟨45,[(0,zK [1] [1]),(1,zK [1,4,5] [1]),(2,zK [1,4,5,16] [1]),(3,zK [2,3] []),(4,zK [1,6,7] [1,6,7]),(5,zK [6,7,8] [6,7,24]),(6,zK [6,7,8,26,27] [6,7,24]),(7,zK [6,7,8,26,27,28] [6,7,24]),(8,zK [6,7,8,9,26,27] [6,7,24]),(9,zK [6,7,8,26,27] [6,7,24]),(10,zK [6,7,8,26,27] [6,7,24]),(11,zK [2,3] [24])],
 [(7,zK [6,7,8,26,27] [6,7,24])],
 [],
 [],[]⟩
abbrev R26:=((Sl Span)×Int)
abbrev e26 (r:R26):List PA:=[.one (.sl r.1.len 2 (fun i=>zbM (r.1.get i))),.one (.int .i64 r.2)]
@[irreducible] def z26:=ptF Tryd.prog G26 zFF Tryd.f26
def zDl (n:Net) (zcF:Int) (zdg:(Sl Span)) (tot0:Tab) (fromt0:Tab) (zf8:Nat→List PV):St:=⟨[(6,zp 6 0),(7,zp 7 0),(8,zv 24),(26,zI (n.Nodes.toNat:Int)),(27,zI zcF)],[(6,.box 116 (zm (zae tot0))),(7,.box 116 (zm (zae fromt0))),(24,.vec 43 2 16 zdg.len zf8)],[]⟩
abbrev zJi (K:List PA→Prop) (n:Net) (X:St→Prop) (P:Int→(Sl Span)→Tab→Tab→Bool) (S:Int→(Sl Span)→Tab→Tab→((Sl Span)×Int)):Prop:=∀ ⦃zcF:Int⦄ ⦃zdg:(Sl Span)⦄ ⦃tot0:Tab⦄ ⦃fromt0:Tab⦄ ⦃zf8:Nat→List PV⦄,P zcF zdg tot0 fromt0=true→K (e26 (S zcF zdg tot0 fromt0))→zf8=zg zbM zdg→X (zDl n zcF zdg tot0 fromt0 zf8)
section
variable {K:List PA→Prop} {n:Net} {zcF:Int} {zdg:(Sl Span)} {tot0:Tab} {fromt0:Tab} {zf8:Nat→List PV} {X0:St→Prop} {P0:Int→(Sl Span)→Tab→Tab→Bool} {S0:Int→(Sl Span)→Tab→Tab→((Sl Span)×Int)}
def zy8 (n:Net) (S0:Int→(Sl Span)→Tab→Tab→((Sl Span)×Int)) (zcF:Int) (zdg:(Sl Span)) (tot0:Tab) (fromt0:Tab):((Sl Span)×Int) :=
  (cond (decide (zcF < (n.Nodes.toNat : Int)))
 (S0 (w64 (zcF+(1:Int))) (⟨zdg.len,(setT zcF.toNat (⟨(w64 (0 - (tg 80 tot0 (0+zcF.toNat * 2+0)))),(tg 80 fromt0 (0+zcF.toNat * 2+0))⟩:Span) zdg.get)⟩:Sl Span) tot0 fromt0)
 (zdg,(0:Int)))
def zy9 (n:Net) (P0:Int→(Sl Span)→Tab→Tab→Bool) (zcF:Int) (zdg:(Sl Span)) (tot0:Tab) (fromt0:Tab):Bool :=
  (cond (decide (zcF < (n.Nodes.toNat : Int)))
 (decide ((0≤zcF∧zcF < (40:Int))) &&
 (decide ((0≤zcF∧zcF < (40:Int))) &&
 (decide ((0≤zcF∧zcF < (zdg.len:Int))) &&
 (decide ((zcF.toNat < zdg.len)) &&
 (P0 (w64 (zcF+(1:Int))) (⟨zdg.len,(setT zcF.toNat (⟨(w64 (0 - (tg 80 tot0 (0+zcF.toNat * 2+0)))),(tg 80 fromt0 (0+zcF.toNat * 2+0))⟩:Span) zdg.get)⟩:Sl Span) tot0 fromt0)))))
 true)
def zza (n:Net):Nat→Int→(Sl Span)→Tab→Tab→((Sl Span)×Int):=lpO (fun _ _ _ _=>default) (zy8 n)
def zzb (n:Net):Nat→Int→(Sl Span)→Tab→Tab→Bool:=lpO (fun _ _ _ _=>false) (zy9 n)
def zzc (n:Net) (zcF:Int) (zdg:(Sl Span)) (tot0:Tab) (fromt0:Tab):((Sl Span)×Int):=zza n Fuel zcF zdg tot0 fromt0
def zzd (n:Net) (zcF:Int) (zdg:(Sl Span)) (tot0:Tab) (fromt0:Tab):Bool:=zzb n Fuel zcF zdg tot0 fromt0
theorem zFG (hs:zzd n zcF zdg tot0 fromt0=true) (hk:K (e26 (zzc n zcF zdg tot0 fromt0))) (zse:zf8=zg zbM zdg):z26 (Wk K) [1,1,1,1,1,0,1,0] [] (zDl n zcF zdg tot0 fromt0 zf8) :=
  zl (fun X=>z26 (Wk K) [1,1,1,1,1,0,1,0,0] [X]) (by kernel_rfl) fun X0 hX =>
  (show ∀ k, zJi K n X0 (zzb n k) (zza n k) from zjH _ _ (zy9 n) (zy8 n) (zJi K n X0)
 (by intro _ _ _ _ _ hs;exact absurd hs Bool.false_ne_true)
 (by intro P0 S0 hX0 zcF zdg tot0 fromt0 zf8 hs hk zse;subst zse;exact hX _ (zbd (by kernel_rfl) (zc hs hk (fun hs hk=>(za2 hs fun hc hs=>And.intro hc (za2 hs fun hc hs=>And.intro hc (za2 hs fun hc hs=>And.intro hc (za2 hs fun hc hs=>And.intro hc (hX0 hs hk (zmE (enc:=zbM) (i:=zcF.toNat) (k:=0) (f:=zdg.get) (new:=(zbM (⟨(w64 (0 - (tg 80 tot0 (0+zcF.toNat * 2+0)))),(tg 80 fromt0 (0+zcF.toNat * 2+0))⟩:Span))) (v:=(⟨(w64 (0 - (tg 80 tot0 (0+zcF.toNat * 2+0)))),(tg 80 fromt0 (0+zcF.toNat * 2+0))⟩:Span)) rfl rfl))))))) (fun hs hk=>((zgS hk):Wk K [.one (.sl zdg.len 2 (fun i=>zbM (zdg.get i))),.one (.int .i64 (0:Int))])))))) _ hs hk zse
def s26 (n:Net):((Sl Span)×Int) :=
  (cond ((s74 n (⟨0, fun _ => default⟩ : (Sl Int))).2 == 0)
 (cond ((0:Int) != (0:Int))
 ((⟨0,fun _=>default⟩:(Sl Span)),(0:Int))
 (zzc n (0:Int) (⟨n.Nodes.toNat,(fun _=>(⟨(0:Int),(0:Int)⟩:Span))⟩:Sl Span) (s75 (⟨(s74 n (⟨0,fun _=>default⟩:(Sl Int))).1.Net,((s74 n (⟨0,fun _=>default⟩:(Sl Int))).1.out)⟩:web) (0:Int)) (s76 (⟨(s74 n (⟨0,fun _=>default⟩:(Sl Int))).1.Net,((s74 n (⟨0,fun _=>default⟩:(Sl Int))).1.out)⟩:web) (0:Int))))
 (cond ((s74 n (⟨0, fun _ => default⟩ : (Sl Int))).2 != (0:Int))
 ((⟨0,fun _=>default⟩:(Sl Span)),(s74 n (⟨0,fun _=>default⟩:(Sl Int))).2)
 default))
def p26 (n:Net):Bool :=
  (cond ((s74 n (⟨0, fun _ => default⟩ : (Sl Int))).2 == 0)
 (decide ((p74 n (⟨0,fun _=>default⟩:(Sl Int))=true)) &&
 (cond ((0:Int) != (0:Int))
 true
 (decide ((p75 (⟨(s74 n (⟨0,fun _=>default⟩:(Sl Int))).1.Net,((s74 n (⟨0,fun _=>default⟩:(Sl Int))).1.out)⟩:web) (0:Int)=true)) &&
 (decide ((p76 (⟨(s74 n (⟨0,fun _=>default⟩:(Sl Int))).1.Net,((s74 n (⟨0,fun _=>default⟩:(Sl Int))).1.out)⟩:web) (0:Int)=true)) &&
 (decide ((0≤n.Nodes∧n.Nodes=n.Nodes∧n.Nodes≤1000000)) &&
 (zzd n (0:Int) (⟨n.Nodes.toNat,(fun _=>(⟨(0:Int),(0:Int)⟩:Span))⟩:Sl Span) (s75 (⟨(s74 n (⟨0,fun _=>default⟩:(Sl Int))).1.Net,((s74 n (⟨0,fun _=>default⟩:(Sl Int))).1.out)⟩:web) (0:Int)) (s76 (⟨(s74 n (⟨0,fun _=>default⟩:(Sl Int))).1.Net,((s74 n (⟨0,fun _=>default⟩:(Sl Int))).1.out)⟩:web) (0:Int))))))))
 (decide ((p74 n (⟨0,fun _=>default⟩:(Sl Int))=true)) &&
 (cond ((s74 n (⟨0, fun _ => default⟩ : (Sl Int))).2 != (0:Int))
 true
 false)))
end
theorem q26 (n:Net) (K:List PA→Prop) (hs:p26 n=true) (hk:K (e26 (s26 n))):vcFun Tryd.prog G26 zFF 26 [.agg (enc_24 n)] (Wk K) :=
  zbd (by kernel_rfl) (zc hs hk (fun hs hk=>(za2 hs fun hc hs=>And.intro (And.intro (zE enc_40 4 n.Ties.get) hc) (zc hs hk (fun hs hk=>((wk hk (zib (.one (.nil _ _)) (zib (.one (.rfl _)) zow))):Wk K [.one (.nils),.one (.int .i64 (0:Int))])) (fun hs hk=>(za2 hs fun hc hs=>And.intro (And.intro (zE enc_40 4 ((s74 n (⟨0,fun _=>default⟩:(Sl Int))).1.Net.Ties.get)) (And.intro (rfl:((false,1,false,[none]):MQ)=(false,1,false,[none])) hc)) (za2 hs fun hc hs=>And.intro (And.intro (zE enc_40 4 ((s74 n (⟨0,fun _=>default⟩:(Sl Int))).1.Net.Ties.get)) (And.intro (rfl:((false,1,false,[none]):MQ)=(false,1,false,[none])) hc)) (za2 hs fun hc hs=>And.intro hc (zFG hs hk rfl)))))))) (fun hs hk=>(za2 hs fun hc hs=>And.intro (And.intro (zE enc_40 4 n.Ties.get) hc) (zc hs hk (fun hs hk=>((wk hk (zib (.one (.nil _ _)) (zib (.one (.rfl _)) zow))):Wk K [.one (.nils),.one (.int .i64 ((s74 n (⟨0,fun _=>default⟩:(Sl Int))).2))])) (fun hs hk=>(absurd hs Bool.false_ne_true:False))))))
def zFH : List PA → COut
  | [.agg [.int .i64 zah,.sl zad zaz zac]]=>.det (IsE enc_40 4 zaz zac∧p26 (⟨zah,(⟨zad,zal zac⟩:(Sl Tie))⟩:Net)=true) [.one (.sl (((s26 (⟨zah,(⟨zad,zal zac⟩:(Sl Tie))⟩:Net)).1).len) 2 (fun i=>zbM (((s26 (⟨zah,(⟨zad,zal zac⟩:(Sl Tie))⟩:Net)).1).get i))),.one (.int .i64 ((s26 (⟨zah,(⟨zad,zal zac⟩:(Sl Tie))⟩:Net)).2))]
  | _=>.no
theorem zJj:zaw Tryd.prog 26:=⟨_,rfl,rfl,by kernel_rfl⟩
theorem zNj:Ok Tryd.prog 26 zFH:=zir zLB zJj fun args K h=>by
  unfold zFH at h
  split at h
  · rename_i zah zad zaz zac
    obtain ⟨⟨⟨rfl,zaq,rfl⟩,hs⟩,hk⟩:=h
    try rw [zam zaq] at hs
    try rw [zam zaq] at hk
    exact ⟨_,zfK zgR _,(fun _ _=>[]),(fun _=>false),zFF,q26 (⟨zah,(⟨zad,zaq⟩:(Sl Tie))⟩:Net) K hs hk⟩
  · exact h.elim
abbrev T29:Tabs:=Tabs.nil
theorem zLC:TabsOk Tryd.prog T29:=TabsOk.nil
abbrev G29:Ctrs:=csm T29 (fun _ _=>[]) (fun _=>false)
def zJk:Ann:=⟨13,[(0,zK [2,3,4] [2,3,4]),(1,zK [2,4] [2,4,7]),(2,zK [4] [4,7])],
 [],
 [],
 [],[]⟩
abbrev R29:=Net
abbrev e29 (r:R29):List PA:=[.agg [.int .i64 r.Nodes,.sl r.Ties.len 4 (fun i=>enc_40 (r.Ties.get i))]]
section
variable {K:List PA→Prop} {n:Net} {t:Tie}
def s29 (n:Net) (t:Tie):Net :=
  (⟨n.Nodes,(⟨(n.Ties.len+1),(zg8 n.Ties.len n.Ties.get (fun _=>t))⟩:(Sl Tie))⟩:Net)
def p29 (n:Net) (t:Tie):Bool :=
  (decide ((n.Ties.len * 32≤140737488355328∧n.Ties.len≤9223372036854775807)) &&
 (decide (((n.Ties.len+1) * 32≤140737488355328∧n.Ties.len+1≤9223372036854775807)) &&
 true))
end
theorem q29 (n:Net) (t:Tie) (K:List PA→Prop) (hs:p29 n t=true) (hk:K (e29 (s29 n t))):vcFun Tryd.prog G29 zJk 29 [.agg (enc_24 n),.agg (enc_40 t)] K :=
  zbd (by kernel_rfl) (za2 hs fun hc hs=>And.intro hc (za2 hs fun hc hs=>And.intro hc (Eq.mpr (congrArg K (congrArg (fun (g_:Nat→List PV)=>([.agg [.int .i64 n.Nodes,.sl (n.Ties.len+1) 4 g_]]:List PA)) (zkN (enc:=enc_40) (f:=n.Ties.get) (h:=(fun _=>t)) rfl rfl))) hk)))
def zFI : List PA → COut
  | [.agg [.int .i64 zah,.sl zad zaz zac],.agg [.int .i64 zeJ,.int .i64 zl6,.int .i64 zgU,.int .i64 zeK]]=>.det (IsE enc_40 4 zaz zac∧p29 (⟨zah,(⟨zad,zal zac⟩:(Sl Tie))⟩:Net) (⟨zeJ,zl6,zgU,zeK⟩:Tie)=true) [.agg [.int .i64 ((s29 (⟨zah,(⟨zad,zal zac⟩:(Sl Tie))⟩:Net) (⟨zeJ,zl6,zgU,zeK⟩:Tie)).Nodes),.sl ((s29 (⟨zah,(⟨zad,zal zac⟩:(Sl Tie))⟩:Net) (⟨zeJ,zl6,zgU,zeK⟩:Tie)).Ties.len) 4 (fun i=>enc_40 ((s29 (⟨zah,(⟨zad,zal zac⟩:(Sl Tie))⟩:Net) (⟨zeJ,zl6,zgU,zeK⟩:Tie)).Ties.get i))]]
  | _=>.no
theorem zJl:zaw Tryd.prog 29:=⟨_,rfl,rfl,by kernel_rfl⟩
theorem zNk:Ok Tryd.prog 29 zFI:=zbF zLC zJl fun args K h=>by
  unfold zFI at h
  split at h
  · rename_i zah zad zaz zac zeJ zl6 zgU zeK
    obtain ⟨⟨⟨rfl,zaq,rfl⟩,hs⟩,hk⟩:=h
    try rw [zam zaq] at hs
    try rw [zam zaq] at hk
    exact ⟨(fun _ _=>[]),(fun _=>false),zJk,q29 (⟨zah,(⟨zad,zaq⟩:(Sl Tie))⟩:Net) (⟨zeJ,zl6,zgU,zeK⟩:Tie) K hs hk⟩
  · exact h.elim
abbrev T32:Tabs:=Tabs.nil
theorem zLD:TabsOk Tryd.prog T32:=TabsOk.nil
abbrev G32:Ctrs:=csm T32 (fun _ _=>[]) (fun _=>false)
def zFJ:Ann:=⟨26,[(0,zK [0,1] []),(1,zK [0,1,10] []),(2,zK [4] []),(3,zK [0,1,5] []),(4,zK [0,1,5,14] []),(5,zK [0,1,5] []),(6,zK [0,1,5,25] []),(7,zK [4] []),(8,zK [4] [])],
 [(4,zK [0,1,5] [])],
 [(3,zK [0,1] [])],
 [],[]⟩
abbrev R32:=Bool
abbrev e32 (r:R32):List PA:=[.one (.bool r)]
@[irreducible] def z32:=ptF Tryd.prog G32 zFJ Tryd.f32
def zDm (a:(Sl Span)) (b:(Sl Span)) (iv1:Int):St:=⟨[(0,zS zbM 2 a),(1,zS zbM 2 b),(5,zI iv1)],[],[]⟩
abbrev zJm (K:List PA→Prop) (a:(Sl Span)) (b:(Sl Span)) (X:St→Prop) (P:Int→Bool) (S:Int→Bool):Prop:=∀ ⦃iv1:Int⦄,P iv1=true→K (e32 (S iv1))→X (zDm a b iv1)
section
variable {K:List PA→Prop} {a:(Sl Span)} {b:(Sl Span)} {iv1:Int} {X1:St→Prop} {P1:Int→Bool} {S1:Int→Bool}
def zze (a:(Sl Span)) (b:(Sl Span)) (S1:Int→Bool) (iv1:Int):Bool :=
  (cond (decide (iv1 < (a.len : Int)))
 (cond (!(match ((a.get iv1.toNat).Low == (b.get iv1.toNat).Low) with | true => (match ((a.get iv1.toNat).High == (b.get iv1.toNat).High) with | true => true | false => false) | false => false))
 false
 (S1 (w64 (iv1+(1:Int)))))
 true)
def zzf (a:(Sl Span)) (b:(Sl Span)) (P1:Int→Bool) (iv1:Int):Bool :=
  (cond (decide (iv1 < (a.len : Int)))
 (decide ((0≤iv1∧iv1 < (a.len:Int))) &&
 (decide ((0≤iv1∧iv1 < (b.len:Int))) &&
 (cond (!(match ((a.get iv1.toNat).Low == (b.get iv1.toNat).Low) with | true => (match ((a.get iv1.toNat).High == (b.get iv1.toNat).High) with | true => true | false => false) | false => false))
 true
 (P1 (w64 (iv1+(1:Int)))))))
 true)
def zzg (a:(Sl Span)) (b:(Sl Span)):Nat→Int→Bool:=lpO (fun _=>default) (zze a b)
def zzh (a:(Sl Span)) (b:(Sl Span)):Nat→Int→Bool:=lpO (fun _=>false) (zzf a b)
def zzi (a:(Sl Span)) (b:(Sl Span)) (iv1:Int):Bool:=zzg a b Fuel iv1
def zzj (a:(Sl Span)) (b:(Sl Span)) (iv1:Int):Bool:=zzh a b Fuel iv1
theorem zFK (hs:zzj a b iv1=true) (hk:K (e32 (zzi a b iv1))):z32 K [1,1,0,1,0] [] (zDm a b iv1) :=
  zl (fun X=>z32 K [1,1,0,1,0,0] [X]) (by kernel_rfl) fun X1 hX =>
  (show ∀ k, zJm K a b X1 (zzh a b k) (zzg a b k) from zjH _ _ (zzf a b) (zze a b) (zJm K a b X1)
 (by intro _ hs;exact absurd hs Bool.false_ne_true)
 (by intro P1 S1 hX1 iv1 hs hk;exact hX _ (zbd (by kernel_rfl) (zc hs hk (fun hs hk=>(za2 hs fun hc hs=>And.intro hc (za2 hs fun hc hs=>And.intro hc (zc hs hk (fun hs hk=>hk) (fun hs hk=>(hX1 hs hk)))))) (fun hs hk=>hk))))) _ hs hk
def zzk (a:(Sl Span)) (b:(Sl Span)):Bool :=
  (zzi a b (0:Int))
def zzl (a:(Sl Span)) (b:(Sl Span)):Bool :=
  (zzj a b (0:Int))
theorem zFL (hs:zzl a b=true) (hk:K (e32 (zzk a b))):z32 K [1,1] [] ⟨[(0,zS zbM 2 a),(1,zS zbM 2 b)],[],[]⟩:=zbd (by kernel_rfl) (zFK hs hk)
def s32 (a:(Sl Span)) (b:(Sl Span)):Bool :=
  (cond ((a.len : Int) != (b.len : Int))
 false
 (zzk a b))
def p32 (a:(Sl Span)) (b:(Sl Span)):Bool :=
  (cond ((a.len : Int) != (b.len : Int))
 true
 (zzl a b))
end
theorem q32 (a:(Sl Span)) (b:(Sl Span)) (K:List PA→Prop) (hs:p32 a b=true) (hk:K (e32 (s32 a b))):vcFun Tryd.prog G32 zFJ 32 [.one (.sl a.len 2 (fun i=>zbM (a.get i))),.one (.sl b.len 2 (fun i=>zbM (b.get i)))] K :=
  zbd (by kernel_rfl) (zc hs hk (fun hs hk=>hk) (fun hs hk=>(zFL hs hk)))
def zFM : List PA → COut
  | [.one (.sl zfU zmL zfV),.one (.sl zd2 ziD zdU)]=>.det (IsE zbM 2 zmL zfV∧IsE zbM 2 ziD zdU∧p32 (⟨zfU,zfL zfV⟩:(Sl Span)) (⟨zd2,zfL zdU⟩:(Sl Span))=true) [.one (.bool (s32 (⟨zfU,zfL zfV⟩:(Sl Span)) (⟨zd2,zfL zdU⟩:(Sl Span))))]
  | _=>.no
theorem zJn:zaw Tryd.prog 32:=⟨_,rfl,rfl,by kernel_rfl⟩
theorem ok32:Ok Tryd.prog 32 zFM:=zbF zLD zJn fun args K h=>by
  unfold zFM at h
  split at h
  · rename_i zfU zmL zfV zd2 ziD zdU
    obtain ⟨⟨⟨rfl,ziC,rfl⟩,⟨rfl,zfX,rfl⟩,hs⟩,hk⟩:=h
    try rw [zfa ziC] at hs
    try rw [zfa ziC] at hk
    try rw [zfa zfX] at hs
    try rw [zfa zfX] at hk
    exact ⟨(fun _ _=>[]),(fun _=>false),zFJ,q32 (⟨zfU,ziC⟩:(Sl Span)) (⟨zd2,zfX⟩:(Sl Span)) K hs hk⟩
  · exact h.elim
abbrev T83:Tabs:=((Tabs.nil.addF 75 zvM).addF 76 zvN)
theorem zLE:TabsOk Tryd.prog T83:=((TabsOk.nil.addF zKI).addF zKJ)
abbrev G83:Ctrs:=csm T83 (fun _ _=>[]) (fun _=>false)
def zFN:Ann:=⟨31,[(0,zK [0] []),(1,zK [0,3,4] [3,4]),(2,zK [3,4,14,15] [3,4]),(3,zK [3,4,14,15,16] [3,4]),(4,zK [3,4,5,14,15] [3,4]),(5,zK [3,4,14,15,29] [3,4]),(6,zK [2] []),(7,zK [3,4,14,15] [3,4]),(8,zK [2] [])],
 [(3,zK [3,4,14,15] [3,4])],
 [(2,zK [0,3,4] [3,4])],
 [],[]⟩
abbrev R83:=Bool
abbrev e83 (r:R83):List PA:=[.one (.bool r)]
@[irreducible] def z83:=ptF Tryd.prog G83 zFN Tryd.f83
def zDn (w:web) (zcZ:Int) (tot1:Tab) (fromt1:Tab):St:=⟨[(3,zp 3 0),(4,zp 4 0),(14,zI w.Net.Nodes),(15,zI zcZ)],[(3,.box 116 (zm (zae tot1))),(4,.box 116 (zm (zae fromt1)))],[]⟩
abbrev zJo (K:List PA→Prop) (w:web) (X:St→Prop) (P:Int→Tab→Tab→Bool) (S:Int→Tab→Tab→Bool):Prop:=∀ ⦃zcZ:Int⦄ ⦃tot1:Tab⦄ ⦃fromt1:Tab⦄,P zcZ tot1 fromt1=true→K (e83 (S zcZ tot1 fromt1))→X (zDn w zcZ tot1 fromt1)
section
variable {K:List PA→Prop} {w:web} {tot0:Tab} {fromt0:Tab} {zcZ:Int} {tot1:Tab} {fromt1:Tab} {X1:St→Prop} {P1:Int→Tab→Tab→Bool} {S1:Int→Tab→Tab→Bool}
def zzm (w:web) (S1:Int→Tab→Tab→Bool) (zcZ:Int) (tot1:Tab) (fromt1:Tab):Bool :=
  (cond (decide (zcZ < w.Net.Nodes))
 (cond (match ((tg 80 tot1 (0 + zcZ.toNat * 2 + 0)) == (1000000000000:Int)) with | true => (match ((tg 80 tot1 (0 + zcZ.toNat * 2 + 0 + 1)) == (0:Int)) with | true => true | false => false) | false => false)
 false
 (cond (match ((tg 80 fromt1 (0 + zcZ.toNat * 2 + 0)) == (1000000000000:Int)) with | true => (match ((tg 80 fromt1 (0 + zcZ.toNat * 2 + 0 + 1)) == (0:Int)) with | true => true | false => false) | false => false)
 false
 (S1 (w64 (zcZ+(1:Int))) tot1 fromt1)))
 true)
def zzn (w:web) (P1:Int→Tab→Tab→Bool) (zcZ:Int) (tot1:Tab) (fromt1:Tab):Bool :=
  (cond (decide (zcZ < w.Net.Nodes))
 (decide ((0≤zcZ∧zcZ < (40:Int))) &&
 (cond (match ((tg 80 tot1 (0 + zcZ.toNat * 2 + 0)) == (1000000000000:Int)) with | true => (match ((tg 80 tot1 (0 + zcZ.toNat * 2 + 0 + 1)) == (0:Int)) with | true => true | false => false) | false => false)
 true
 (decide ((0≤zcZ∧zcZ < (40:Int))) &&
 (cond (match ((tg 80 fromt1 (0 + zcZ.toNat * 2 + 0)) == (1000000000000:Int)) with | true => (match ((tg 80 fromt1 (0 + zcZ.toNat * 2 + 0 + 1)) == (0:Int)) with | true => true | false => false) | false => false)
 true
 (P1 (w64 (zcZ+(1:Int))) tot1 fromt1)))))
 true)
def zzo (w:web):Nat→Int→Tab→Tab→Bool:=lpO (fun _ _ _=>default) (zzm w)
def zzp (w:web):Nat→Int→Tab→Tab→Bool:=lpO (fun _ _ _=>false) (zzn w)
def zzq (w:web) (zcZ:Int) (tot1:Tab) (fromt1:Tab):Bool:=zzo w Fuel zcZ tot1 fromt1
def zzr (w:web) (zcZ:Int) (tot1:Tab) (fromt1:Tab):Bool:=zzp w Fuel zcZ tot1 fromt1
theorem zFO (hs:zzr w zcZ tot1 fromt1=true) (hk:K (e83 (zzq w zcZ tot1 fromt1))):z83 K [1,1,0,1,0] [] (zDn w zcZ tot1 fromt1) :=
  zl (fun X=>z83 K [1,1,0,1,0,0] [X]) (by kernel_rfl) fun X1 hX =>
  (show ∀ k, zJo K w X1 (zzp w k) (zzo w k) from zjH _ _ (zzn w) (zzm w) (zJo K w X1)
 (by intro _ _ _ hs;exact absurd hs Bool.false_ne_true)
 (by intro P1 S1 hX1 zcZ tot1 fromt1 hs hk;exact hX _ (zbd (by kernel_rfl) (zc hs hk (fun hs hk=>(za2 hs fun hc hs=>And.intro hc (zc hs hk (fun hs hk=>hk) (fun hs hk=>(za2 hs fun hc hs=>And.intro hc (zc hs hk (fun hs hk=>hk) (fun hs hk=>(hX1 hs hk)))))))) (fun hs hk=>hk))))) _ hs hk
def zzs (w:web) (tot0:Tab) (fromt0:Tab):Bool :=
  (zzq w (0:Int) tot0 fromt0)
def zzt (w:web) (tot0:Tab) (fromt0:Tab):Bool :=
  (zzr w (0:Int) tot0 fromt0)
theorem zFP (hs:zzt w tot0 fromt0=true) (hk:K (e83 (zzs w tot0 fromt0))):z83 K [1,1] [] ⟨[(0,zP (.fp (zaD w) 0)),(3,zp 3 0),(4,zp 4 0)],[(3,.box 116 (zm (zae tot0))),(4,.box 116 (zm (zae fromt0)))],[]⟩:=zbd (by kernel_rfl) (zFO hs hk)
def s83 (w:web):Bool :=
  (zzs w (s75 w (0:Int)) (s76 w (0:Int)))
def p83 (w:web):Bool :=
  (decide ((p75 w (0:Int)=true)) &&
 (decide ((p76 w (0:Int)=true)) &&
 (zzt w (s75 w (0:Int)) (s76 w (0:Int)))))
end
theorem q83 (w:web) (K:List PA→Prop) (hs:p83 w=true) (hk:K (e83 (s83 w))):vcFun Tryd.prog G83 zFN 83 [.one (.fp (zaD w) 0)] K :=
  zbd (by kernel_rfl) (za2 hs fun hc hs=>And.intro (And.intro (zE enc_40 4 w.Net.Ties.get) (And.intro (rfl:((false,1,false,[none]):MQ)=(false,1,false,[none])) hc)) (za2 hs fun hc hs=>And.intro (And.intro (zE enc_40 4 w.Net.Ties.get) (And.intro (rfl:((false,1,false,[none]):MQ)=(false,1,false,[none])) hc)) (zFP hs hk)))
def zFQ : List PA → COut
  | [.one (.fp [.int .i64 zau,.sl zan zaP zao,.fm zbK zaR zaS] 0)]=>.det (IsE enc_40 4 zaP zao∧zbK=(false,1,false,[none])∧p83 (⟨(⟨zau,(⟨zan,zal zao⟩:(Sl Tie))⟩:Net),(⟨zaR,zaS⟩:Mp)⟩:web)=true) [.one (.bool (s83 (⟨(⟨zau,(⟨zan,zal zao⟩:(Sl Tie))⟩:Net),(⟨zaR,zaS⟩:Mp)⟩:web)))]
  | _=>.no
theorem zJp:zaw Tryd.prog 83:=⟨_,rfl,rfl,by kernel_rfl⟩
theorem zNl:Ok Tryd.prog 83 zFQ:=zbF zLE zJp fun args K h=>by
  unfold zFQ at h
  split at h
  · rename_i zau zan zaP zao zbK zaR zaS
    obtain ⟨⟨⟨rfl,zaC,rfl⟩,rfl,hs⟩,hk⟩:=h
    try rw [zam zaC] at hs
    try rw [zam zaC] at hk
    exact ⟨(fun _ _=>[]),(fun _=>false),zFN,q83 (⟨(⟨zau,(⟨zan,zaC⟩:(Sl Tie))⟩:Net),(⟨zaR,zaS⟩:Mp)⟩:web) K hs hk⟩
  · exact h.elim
abbrev T87:Tabs:=Tabs.nil
theorem zLF:TabsOk Tryd.prog T87:=TabsOk.nil
abbrev G87:Ctrs:=csm T87 (fun _ _=>[]) (fun _=>false)
def zJq:Ann:=⟨12,[(0,zK [0,1] []),(1,zK [3] [])],
 [],
 [],
 [],[]⟩
abbrev R87:=Int
abbrev e87 (r:R87):List PA:=[.one (.int .i64 r)]
section
variable {K:List PA→Prop} {c0:Tab} {i_a0:Int}
def s87 (c0:Tab) (i_a0:Int):Int :=
  (w64 ((tg 80 c0 (0+i_a0.toNat * 2+0)) - (tg 80 c0 (0+0 * 2+0))))
def p87 (c0:Tab) (i_a0:Int):Bool :=
  (decide ((0≤i_a0∧i_a0 < (40:Int))) &&
 (decide ((0≤(0:Int)∧(0:Int) < (40:Int))) &&
 true))
end
theorem q87 (c0:Tab) (i_a0:Int) (K:List PA→Prop) (hs:p87 c0 i_a0=true) (hk:K (e87 (s87 c0 i_a0))):vcFun Tryd.prog G87 zJq 87 [.one (.int .i64 i_a0),.one (.fp (zae c0) 0)] K :=
  zbd (by kernel_rfl) (za2 hs fun hc hs=>And.intro hc (za2 hs fun hc hs=>And.intro hc hk))
def zFR : List PA → COut
  | [.one (.int .i64 a0),.one (.fp c0_t 0)]=>.det (c0_t=zae (zbi c0_t)∧p87 (zbi c0_t) a0=true) [.one (.int .i64 (s87 (zbi c0_t) a0))]
  | _=>.no
theorem zJr:zaw Tryd.prog 87:=⟨_,rfl,rfl,by kernel_rfl⟩
theorem zNm:Ok Tryd.prog 87 zFR:=zbF zLF zJr fun args K h=>by
  unfold zFR at h
  split at h
  · rename_i a0 c0_t
    obtain ⟨⟨hT_c0,hs⟩,hk⟩:=h
    exact ⟨(fun _ _=>[]),(fun _=>false),zJq,(by have hq:=q87 (zbi c0_t) a0 K hs hk;rw [← hT_c0] at hq;exact hq)⟩
  · exact h.elim
abbrev T84:Tabs:=(Tabs.nil.addF 87 zFR)
theorem zLG:TabsOk Tryd.prog T84:=(TabsOk.nil.addF zNm)
abbrev G84:Ctrs:=csm T84 (fun _ _=>[]) (fun _=>false)
def zFS:Ann:=⟨26,[(0,zK [0,1] []),(1,zK [1,5] [12]),(2,zK [1,5,14,15] [12]),(3,zK [1,5,14,15,16] [12]),(4,zK [1,5,6,14,15] [12]),(5,zK [1,5,14,15] [12]),(6,zK [1,5,14,15] [12]),(7,zK [4] [12])],
 [(3,zK [1,5,14,15] [12])],
 [],
 [],[]⟩
abbrev R84:=(Sl Int)
abbrev e84 (r:R84):List PA:=[.one (.sl r.len 1 (fun i=>enc_3 (r.get i)))]
@[irreducible] def z84:=ptF Tryd.prog G84 zFS Tryd.f84
def zDo (c0:Tab) (w:web) (zbv:Int) (zdw:(Sl Int)) (zf9:Nat→List PV):St:=⟨[(1,zP (.fn 87 [] [.fp (zae c0) 0])),(5,zv 12),(14,zI (w.Net.Nodes.toNat:Int)),(15,zI zbv)],[(12,.vec 3 1 8 zdw.len zf9)],[]⟩
abbrev zJs (K:List PA→Prop) (c0:Tab) (w:web) (X:St→Prop) (P:Int→(Sl Int)→Bool) (S:Int→(Sl Int)→(Sl Int)):Prop:=∀ ⦃zbv:Int⦄ ⦃zdw:(Sl Int)⦄ ⦃zf9:Nat→List PV⦄,P zbv zdw=true→K (e84 (S zbv zdw))→zf9=zg enc_3 zdw→X (zDo c0 w zbv zdw zf9)
section
variable {K:List PA→Prop} {c0:Tab} {w:web} {zbv:Int} {zdw:(Sl Int)} {zf9:Nat→List PV} {X0:St→Prop} {P0:Int→(Sl Int)→Bool} {S0:Int→(Sl Int)→(Sl Int)}
def zzu (c0:Tab) (w:web) (S0:Int→(Sl Int)→(Sl Int)) (zbv:Int) (zdw:(Sl Int)):(Sl Int) :=
  (cond (decide (zbv < (w.Net.Nodes.toNat : Int)))
 (S0 (w64 (zbv+(1:Int))) (⟨zdw.len,(setT zbv.toNat (s87 (zbi (zae c0)) zbv) zdw.get)⟩:Sl Int))
 zdw)
def zzv (c0:Tab) (w:web) (P0:Int→(Sl Int)→Bool) (zbv:Int) (zdw:(Sl Int)):Bool :=
  (cond (decide (zbv < (w.Net.Nodes.toNat : Int)))
 (decide ((p87 (zbi (zae c0)) zbv=true)) &&
 (decide ((0≤zbv∧zbv < (zdw.len:Int))) &&
 (decide ((zbv.toNat < zdw.len)) &&
 (P0 (w64 (zbv+(1:Int))) (⟨zdw.len,(setT zbv.toNat (s87 (zbi (zae c0)) zbv) zdw.get)⟩:Sl Int)))))
 true)
def zzw (c0:Tab) (w:web):Nat→Int→(Sl Int)→(Sl Int):=lpO (fun _ _=>default) (zzu c0 w)
def zzx (c0:Tab) (w:web):Nat→Int→(Sl Int)→Bool:=lpO (fun _ _=>false) (zzv c0 w)
def zzy (c0:Tab) (w:web) (zbv:Int) (zdw:(Sl Int)):(Sl Int):=zzw c0 w Fuel zbv zdw
def zzz (c0:Tab) (w:web) (zbv:Int) (zdw:(Sl Int)):Bool:=zzx c0 w Fuel zbv zdw
theorem zFT (hs:zzz c0 w zbv zdw=true) (hk:K (e84 (zzy c0 w zbv zdw))) (zsf:zf9=zg enc_3 zdw):z84 K [1,1,0,1,0] [] (zDo c0 w zbv zdw zf9) :=
  zl (fun X=>z84 K [1,1,0,1,0,0] [X]) (by kernel_rfl) fun X0 hX =>
  (show ∀ k, zJs K c0 w X0 (zzx c0 w k) (zzw c0 w k) from zjH _ _ (zzv c0 w) (zzu c0 w) (zJs K c0 w X0)
 (by intro _ _ _ hs;exact absurd hs Bool.false_ne_true)
 (by intro P0 S0 hX0 zbv zdw zf9 hs hk zsf;subst zsf;exact hX _ (zbd (by kernel_rfl) (zc hs hk (fun hs hk=>(za2 hs fun hc hs=>And.intro (And.intro (znA:zae c0=zae (zbi (zae c0))) hc) (za2 hs fun hc hs=>And.intro hc (za2 hs fun hc hs=>And.intro hc (hX0 hs hk (zmE (enc:=enc_3) (i:=zbv.toNat) (k:=0) (f:=zdw.get) (new:=(enc_3 (s87 (zbi (zae c0)) zbv))) (v:=(s87 (zbi (zae c0)) zbv)) rfl rfl)))))) (fun hs hk=>hk))))) _ hs hk zsf
def s84 (c0:Tab) (w:web):(Sl Int) :=
  (zzy c0 w (0:Int) (⟨w.Net.Nodes.toNat,(fun _=>(0:Int))⟩:Sl Int))
def p84 (c0:Tab) (w:web):Bool :=
  (decide ((0≤w.Net.Nodes∧w.Net.Nodes=w.Net.Nodes∧w.Net.Nodes≤1000000)) &&
 (zzz c0 w (0:Int) (⟨w.Net.Nodes.toNat,(fun _=>(0:Int))⟩:Sl Int)))
end
theorem q84 (c0:Tab) (w:web) (K:List PA→Prop) (hs:p84 c0 w=true) (hk:K (e84 (s84 c0 w))):vcFun Tryd.prog G84 zFS 84 [.one (.fp (zaD w) 0),.one (.fn 87 [] [.fp (zae c0) 0])] K :=
  zbd (by kernel_rfl) (za2 hs fun hc hs=>And.intro hc (zFT hs hk rfl))
def zFU : List PA → COut
  | [.one (.fp [.int .i64 zau,.sl zan zaP zao,.fm zbK zaR zaS] 0),.one (.fn 87 [] [.fp c0_t 0])]=>.det (IsE enc_40 4 zaP zao∧zbK=(false,1,false,[none])∧c0_t=zae (zbi c0_t)∧p84 (zbi c0_t) (⟨(⟨zau,(⟨zan,zal zao⟩:(Sl Tie))⟩:Net),(⟨zaR,zaS⟩:Mp)⟩:web)=true) [.one (.sl ((s84 (zbi c0_t) (⟨(⟨zau,(⟨zan,zal zao⟩:(Sl Tie))⟩:Net),(⟨zaR,zaS⟩:Mp)⟩:web)).len) 1 (fun i=>enc_3 ((s84 (zbi c0_t) (⟨(⟨zau,(⟨zan,zal zao⟩:(Sl Tie))⟩:Net),(⟨zaR,zaS⟩:Mp)⟩:web)).get i)))]
  | _=>.no
theorem zJt:zaw Tryd.prog 84:=⟨_,rfl,rfl,by kernel_rfl⟩
theorem zNn:Ok Tryd.prog 84 zFU:=zbF zLG zJt fun args K h=>by
  unfold zFU at h
  split at h
  · rename_i zau zan zaP zao zbK zaR zaS c0_t
    obtain ⟨⟨⟨rfl,zaC,rfl⟩,rfl,hT_c0,hs⟩,hk⟩:=h
    try rw [zam zaC] at hs
    try rw [zam zaC] at hk
    exact ⟨(fun _ _=>[]),(fun _=>false),zFS,(by have hq:=q84 (zbi c0_t) (⟨(⟨zau,(⟨zan,zaC⟩:(Sl Tie))⟩:Net),(⟨zaR,zaS⟩:Mp)⟩:web) K hs hk;rw [← hT_c0] at hq;exact hq)⟩
  · exact h.elim
abbrev T45:Tabs:=((((Tabs.nil.addF 74 zvL).addF 76 zvN).addF 83 zFQ).addF 84 zFU)
theorem zLH:TabsOk Tryd.prog T45:=((((TabsOk.nil.addF zKH).addF zKJ).addF zNl).addF zNn)
abbrev G45:Ctrs:=csm T45 (fun _ _=>[]) (fun _=>false)
def zJu:Ann:=⟨31,[(0,zK [1,2,3] [3]),(1,zK [1,8,9] []),(2,zK [1,8,9,20] []),(3,zK [6,7] []),(4,zK [1,8,24] []),(5,zK [6,7] []),(6,zK [8,10] [10]),(7,zK [6,7] [])],
 [],
 [],
 [],[]⟩
abbrev R45:=((Sl Int)×Int)
abbrev e45 (r:R45):List PA:=[.one (.sl r.1.len 1 (fun i=>enc_3 (r.1.get i))),.one (.int .i64 r.2)]
section
variable {K:List PA→Prop} {n:Net} {from_a1:Int} {to:Int}
def s45 (n:Net) (from_a1:Int) (to:Int):((Sl Int)×Int) :=
  (cond ((s74 n (⟨2, zar (zbw [(enc_3 from_a1), (enc_3 to)])⟩ : (Sl Int))).2 == 0)
 (cond ((0:Int) != (0:Int))
 ((⟨0,fun _=>default⟩:(Sl Int)),(0:Int))
 (cond (!(s83 (⟨(s74 n (⟨2, zar (zbw [(enc_3 from_a1), (enc_3 to)])⟩ : (Sl Int))).1.Net, ((s74 n (⟨2, zar (zbw [(enc_3 from_a1), (enc_3 to)])⟩ : (Sl Int))).1.out)⟩ : web)))
 ((⟨0,fun _=>default⟩:(Sl Int)),(6:Int))
 ((s84 (zbi (zae (s76 (⟨(s74 n (⟨2,zar (zbw [(enc_3 from_a1),(enc_3 to)])⟩:(Sl Int))).1.Net,((s74 n (⟨2,zar (zbw [(enc_3 from_a1),(enc_3 to)])⟩:(Sl Int))).1.out)⟩:web) from_a1))) (⟨(s74 n (⟨2,zar (zbw [(enc_3 from_a1),(enc_3 to)])⟩:(Sl Int))).1.Net,((s74 n (⟨2,zar (zbw [(enc_3 from_a1),(enc_3 to)])⟩:(Sl Int))).1.out)⟩:web)),(0:Int))))
 (cond ((s74 n (⟨2, zar (zbw [(enc_3 from_a1), (enc_3 to)])⟩ : (Sl Int))).2 != (0:Int))
 ((⟨0,fun _=>default⟩:(Sl Int)),(s74 n (⟨2,zar (zbw [(enc_3 from_a1),(enc_3 to)])⟩:(Sl Int))).2)
 default))
def p45 (n:Net) (from_a1:Int) (to:Int):Bool :=
  (cond ((s74 n (⟨2, zar (zbw [(enc_3 from_a1), (enc_3 to)])⟩ : (Sl Int))).2 == 0)
 (decide ((p74 n (⟨2,zar (zbw [(enc_3 from_a1),(enc_3 to)])⟩:(Sl Int))=true)) &&
 (cond ((0:Int) != (0:Int))
 true
 (decide ((p83 (⟨(s74 n (⟨2,zar (zbw [(enc_3 from_a1),(enc_3 to)])⟩:(Sl Int))).1.Net,((s74 n (⟨2,zar (zbw [(enc_3 from_a1),(enc_3 to)])⟩:(Sl Int))).1.out)⟩:web)=true)) &&
 (cond (!(s83 (⟨(s74 n (⟨2, zar (zbw [(enc_3 from_a1), (enc_3 to)])⟩ : (Sl Int))).1.Net, ((s74 n (⟨2, zar (zbw [(enc_3 from_a1), (enc_3 to)])⟩ : (Sl Int))).1.out)⟩ : web)))
 true
 (decide ((p76 (⟨(s74 n (⟨2,zar (zbw [(enc_3 from_a1),(enc_3 to)])⟩:(Sl Int))).1.Net,((s74 n (⟨2,zar (zbw [(enc_3 from_a1),(enc_3 to)])⟩:(Sl Int))).1.out)⟩:web) from_a1=true)) &&
 (decide ((p84 (zbi (zae (s76 (⟨(s74 n (⟨2,zar (zbw [(enc_3 from_a1),(enc_3 to)])⟩:(Sl Int))).1.Net,((s74 n (⟨2,zar (zbw [(enc_3 from_a1),(enc_3 to)])⟩:(Sl Int))).1.out)⟩:web) from_a1))) (⟨(s74 n (⟨2,zar (zbw [(enc_3 from_a1),(enc_3 to)])⟩:(Sl Int))).1.Net,((s74 n (⟨2,zar (zbw [(enc_3 from_a1),(enc_3 to)])⟩:(Sl Int))).1.out)⟩:web)=true)) &&
 true))))))
 (decide ((p74 n (⟨2,zar (zbw [(enc_3 from_a1),(enc_3 to)])⟩:(Sl Int))=true)) &&
 (cond ((s74 n (⟨2, zar (zbw [(enc_3 from_a1), (enc_3 to)])⟩ : (Sl Int))).2 != (0:Int))
 true
 false)))
end
theorem q45 (n:Net) (from_a1:Int) (to:Int) (K:List PA→Prop) (hs:p45 n from_a1 to=true) (hk:K (e45 (s45 n from_a1 to))):vcFun Tryd.prog G45 zJu 45 [.agg (enc_24 n),.one (.int .i64 from_a1),.one (.int .i64 to)] (Wk K) :=
  zbd (by kernel_rfl) (zc hs hk (fun hs hk=>(za2 hs fun hc hs=>And.intro (And.intro (zE enc_40 4 n.Ties.get) (And.intro ((zdo []):IsE enc_3 1 1 (zbw [(enc_3 from_a1),(enc_3 to)])) hc)) (zc hs hk (fun hs hk=>((wk hk (zib (.one (.nil _ _)) (zib (.one (.rfl _)) zow))):Wk K [.one (.nils),.one (.int .i64 (0:Int))])) (fun hs hk=>(za2 hs fun hc hs=>And.intro (And.intro (zE enc_40 4 ((s74 n (⟨2,zar (zbw [(enc_3 from_a1),(enc_3 to)])⟩:(Sl Int))).1.Net.Ties.get)) (And.intro (rfl:((false,1,false,[none]):MQ)=(false,1,false,[none])) hc)) (zc hs hk (fun hs hk=>((wk hk (zib (.one (.nil _ _)) (zib (.one (.rfl _)) zow))):Wk K [.one (.nils),.one (.int .i64 (6:Int))])) (fun hs hk=>(za2 hs fun hc hs=>And.intro (And.intro (zE enc_40 4 ((s74 n (⟨2,zar (zbw [(enc_3 from_a1),(enc_3 to)])⟩:(Sl Int))).1.Net.Ties.get)) (And.intro (rfl:((false,1,false,[none]):MQ)=(false,1,false,[none])) hc)) (za2 hs fun hc hs=>And.intro (And.intro (zE enc_40 4 ((s74 n (⟨2,zar (zbw [(enc_3 from_a1),(enc_3 to)])⟩:(Sl Int))).1.Net.Ties.get)) (And.intro (rfl:((false,1,false,[none]):MQ)=(false,1,false,[none])) (And.intro (znA:zae (s76 (⟨(s74 n (⟨2,zar (zbw [(enc_3 from_a1),(enc_3 to)])⟩:(Sl Int))).1.Net,((s74 n (⟨2,zar (zbw [(enc_3 from_a1),(enc_3 to)])⟩:(Sl Int))).1.out)⟩:web) from_a1)=zae (zbi (zae (s76 (⟨(s74 n (⟨2,zar (zbw [(enc_3 from_a1),(enc_3 to)])⟩:(Sl Int))).1.Net,((s74 n (⟨2,zar (zbw [(enc_3 from_a1),(enc_3 to)])⟩:(Sl Int))).1.out)⟩:web) from_a1)))) hc))) ((zgS hk):Wk K [.one (.sl ((s84 (zbi (zae (s76 (⟨(s74 n (⟨2,zar (zbw [(enc_3 from_a1),(enc_3 to)])⟩:(Sl Int))).1.Net,((s74 n (⟨2,zar (zbw [(enc_3 from_a1),(enc_3 to)])⟩:(Sl Int))).1.out)⟩:web) from_a1))) (⟨(s74 n (⟨2,zar (zbw [(enc_3 from_a1),(enc_3 to)])⟩:(Sl Int))).1.Net,((s74 n (⟨2,zar (zbw [(enc_3 from_a1),(enc_3 to)])⟩:(Sl Int))).1.out)⟩:web)).len) 1 (fun i=>enc_3 ((s84 (zbi (zae (s76 (⟨(s74 n (⟨2,zar (zbw [(enc_3 from_a1),(enc_3 to)])⟩:(Sl Int))).1.Net,((s74 n (⟨2,zar (zbw [(enc_3 from_a1),(enc_3 to)])⟩:(Sl Int))).1.out)⟩:web) from_a1))) (⟨(s74 n (⟨2,zar (zbw [(enc_3 from_a1),(enc_3 to)])⟩:(Sl Int))).1.Net,((s74 n (⟨2,zar (zbw [(enc_3 from_a1),(enc_3 to)])⟩:(Sl Int))).1.out)⟩:web)).get i))),.one (.int .i64 (0:Int))])))))))))) (fun hs hk=>(za2 hs fun hc hs=>And.intro (And.intro (zE enc_40 4 n.Ties.get) (And.intro ((zdo []):IsE enc_3 1 1 (zbw [(enc_3 from_a1),(enc_3 to)])) hc)) (zc hs hk (fun hs hk=>((wk hk (zib (.one (.nil _ _)) (zib (.one (.rfl _)) zow))):Wk K [.one (.nils),.one (.int .i64 ((s74 n (⟨2,zar (zbw [(enc_3 from_a1),(enc_3 to)])⟩:(Sl Int))).2))])) (fun hs hk=>(absurd hs Bool.false_ne_true:False))))))
def zFV : List PA → COut
  | [.agg [.int .i64 zah,.sl zad zaz zac],.one (.int .i64 a1),.one (.int .i64 a2)]=>.det (IsE enc_40 4 zaz zac∧p45 (⟨zah,(⟨zad,zal zac⟩:(Sl Tie))⟩:Net) a1 a2=true) [.one (.sl (((s45 (⟨zah,(⟨zad,zal zac⟩:(Sl Tie))⟩:Net) a1 a2).1).len) 1 (fun i=>enc_3 (((s45 (⟨zah,(⟨zad,zal zac⟩:(Sl Tie))⟩:Net) a1 a2).1).get i))),.one (.int .i64 ((s45 (⟨zah,(⟨zad,zal zac⟩:(Sl Tie))⟩:Net) a1 a2).2))]
  | _=>.no
theorem zJv:zaw Tryd.prog 45:=⟨_,rfl,rfl,by kernel_rfl⟩
theorem zNo:Ok Tryd.prog 45 zFV:=zir zLH zJv fun args K h=>by
  unfold zFV at h
  split at h
  · rename_i zah zad zaz zac a1 a2
    obtain ⟨⟨⟨rfl,zaq,rfl⟩,hs⟩,hk⟩:=h
    try rw [zam zaq] at hs
    try rw [zam zaq] at hk
    exact ⟨_,zfK zgR _,(fun _ _=>[]),(fun _=>false),zJu,q45 (⟨zah,(⟨zad,zaq⟩:(Sl Tie))⟩:Net) a1 a2 K hs hk⟩
  · exact h.elim
abbrev T49:Tabs:=(((Tabs.nil.addF 67 zvy).addF 88 zxI).addF 89 zCh)
theorem zLI:TabsOk Tryd.prog T49:=(((TabsOk.nil.addF zKC).addF zLc).addF zMB)
abbrev G49:Ctrs:=csm T49 (fun _ _=>[]) (fun _=>false)
def zFW:Ann:=⟨31,[(0,zK [1] [1]),(1,zK [1,10] [1]),(2,zK [2,3] []),(3,zK [4] [13]),(4,zK [4,16] [13]),(5,zK [2,3] []),(6,zK [4,5] [13]),(7,zK [5,18,19,20] []),(8,zK [5,18,19,20,21] [28]),(9,zK [5,7,18,19,20] [7,28]),(10,zK [5,18,19,20] [28]),(11,zK [5,18,19,20] [28]),(12,zK [2,3] [28])],
 [(8,⟨[5,18,19,20],[28],[(5,28,75,fun _=>enc_75 default)],[],[],[],[]⟩)],
 [(2,zK [1,10] [1]),(3,zK [1] [1]),(5,zK [4,16] [13]),(6,zK [4] [13]),(8,zK [5,18,19,20] [])],
 [],[]⟩
abbrev R49:=((Sl Use)×Int)
abbrev e49 (r:R49):List PA:=[.one (.sl r.1.len 2 (fun i=>enc_75 (r.1.get i))),.one (.int .i64 r.2)]
@[irreducible] def z49:=ptF Tryd.prog G49 zFW Tryd.f49
def zDp (zcT:(Sl step)) (zc0:Int) (zdE:Int) (zda:(Sl Use)) (zga:Nat→List PV):St:=⟨[(5,zv 28),(18,zS zaf 5 zcT),(19,zI zc0),(20,zI zdE)],[(28,.vec 75 2 16 zda.len zga)],[]⟩
abbrev zJw (K:List PA→Prop) (zcT:(Sl step)) (zc0:Int) (X:St→Prop) (P:Int→(Sl Use)→Bool) (S:Int→(Sl Use)→((Sl Use)×Int)):Prop:=∀ ⦃zdE:Int⦄ ⦃zda:(Sl Use)⦄ ⦃zga:Nat→List PV⦄,P zdE zda=true→K (e49 (S zdE zda))→zga=zg enc_75 zda→X (zDp zcT zc0 zdE zda zga)
section
variable {K:List PA→Prop} {n:Net} {zaL:Bool} {zsg:Bool} {zcT:(Sl step)} {zc0:Int} {zzA:Nat→List PV} {zdE:Int} {zda:(Sl Use)} {zga:Nat→List PV} {X5:St→Prop} {P5:Int→(Sl Use)→Bool} {S5:Int→(Sl Use)→((Sl Use)×Int)}
def zzB (zcT:(Sl step)) (zc0:Int) (S5:Int→(Sl Use)→((Sl Use)×Int)) (zdE:Int) (zda:(Sl Use)):((Sl Use)×Int) :=
  (cond (decide (zdE < zc0))
 (S5 (w64 (zdE+(1:Int))) (⟨(zda.len+1),(zg8 zda.len zda.get (fun _=>(zcT.get zdE.toNat).Use))⟩:Sl Use))
 (zda,(0:Int)))
def zzC (zcT:(Sl step)) (zc0:Int) (P5:Int→(Sl Use)→Bool) (zdE:Int) (zda:(Sl Use)):Bool :=
  (cond (decide (zdE < zc0))
 (decide ((0≤zdE∧zdE < (zcT.len:Int))) &&
 (decide (((zda.len+1) * 16≤140737488355328∧zda.len+1≤9223372036854775807)) &&
 (P5 (w64 (zdE+(1:Int))) (⟨(zda.len+1),(zg8 zda.len zda.get (fun _=>(zcT.get zdE.toNat).Use))⟩:Sl Use))))
 true)
def zzD (zcT:(Sl step)) (zc0:Int):Nat→Int→(Sl Use)→((Sl Use)×Int):=lpO (fun _ _=>default) (zzB zcT zc0)
def zzE (zcT:(Sl step)) (zc0:Int):Nat→Int→(Sl Use)→Bool:=lpO (fun _ _=>false) (zzC zcT zc0)
def zzF (zcT:(Sl step)) (zc0:Int) (zdE:Int) (zda:(Sl Use)):((Sl Use)×Int):=zzD zcT zc0 Fuel zdE zda
def zzG (zcT:(Sl step)) (zc0:Int) (zdE:Int) (zda:(Sl Use)):Bool:=zzE zcT zc0 Fuel zdE zda
theorem zFX (hs:zzG zcT zc0 zdE zda=true) (hk:K (e49 (zzF zcT zc0 zdE zda))) (zsh:zga=zg enc_75 zda):z49 (Wk K) [1,1,1,1,1,0,1,0] [] (zDp zcT zc0 zdE zda zga) :=
  zl (fun X=>z49 (Wk K) [1,1,1,1,1,0,1,0,0] [X]) (by kernel_rfl) fun X5 hX =>
  (show ∀ k, zJw K zcT zc0 X5 (zzE zcT zc0 k) (zzD zcT zc0 k) from zjH _ _ (zzC zcT zc0) (zzB zcT zc0) (zJw K zcT zc0 X5)
 (by intro _ _ _ hs;exact absurd hs Bool.false_ne_true)
 (by intro P5 S5 hX5 zdE zda zga hs hk zsh;subst zsh;exact hX _ (zbd (by kernel_rfl) (zc hs hk (fun hs hk=>(za2 hs fun hc hs=>And.intro hc (za2 hs fun hc hs=>And.intro hc (hX5 hs hk (zkN (enc:=enc_75) (f:=zda.get) (h:=(fun _=>(zcT.get zdE.toNat).Use)) rfl rfl))))) (fun hs hk=>((zgS hk):Wk K [.one (.sl zda.len 2 (fun i=>enc_75 (zda.get i))),.one (.int .i64 (0:Int))])))))) _ hs hk zsh
def zzH (zcT:(Sl step)) (zc0:Int):((Sl Use)×Int) :=
  (zzF zcT zc0 (0:Int) (⟨0,(fun _=>default)⟩:Sl Use))
def zzI (zcT:(Sl step)) (zc0:Int):Bool :=
  (zzG zcT zc0 (0:Int) (⟨0,(fun _=>default)⟩:Sl Use))
theorem zFY (hs:zzI zcT zc0=true) (hk:K (e49 (zzH zcT zc0))) (zFZ:zzA=zg zaf zcT):z49 (Wk K) [1,1,1,1,1,0,1] [] ⟨[(5,zP (.nils)),(18,zP (.sl zcT.len 5 zzA)),(19,zI zc0),(20,zI (0:Int))],[],[]⟩:=by subst zFZ;exact zbd (by kernel_rfl) (zFX hs hk rfl)
def zzJ (n:Net):((Sl Use)×Int) :=
  (zzH (s89 (⟨n,(⟨0,(fun _=>none)⟩:Mp)⟩:web)) ((s89 (⟨n,(⟨0,(fun _=>none)⟩:Mp)⟩:web)).len:Int))
def zzK (n:Net):Bool :=
  (decide ((p89 (⟨n,(⟨0,(fun _=>none)⟩:Mp)⟩:web)=true)) &&
 (zzI (s89 (⟨n,(⟨0,(fun _=>none)⟩:Mp)⟩:web)) ((s89 (⟨n,(⟨0,(fun _=>none)⟩:Mp)⟩:web)).len:Int)))
theorem zF0 (hs:zzK n=true) (hk:K (e49 (zzJ n))):z49 (Wk K) [1,1,1,1] [] ⟨[(4,zp 13 0)],[(13,.box 105 (zm (zaD (⟨n,(⟨0,(fun _=>none)⟩:Mp)⟩:web))))],[]⟩:=zbd (by kernel_rfl) (za2 hs fun hc hs=>And.intro (And.intro ((fun _=>rfl):(∀ i,sc2 ((fun i=>zaf ((s89 (⟨n,(⟨0,(fun _=>none)⟩:Mp)⟩:web)).get i)) i)=true)) (And.intro (zE enc_40 4 n.Ties.get) (And.intro (rfl:((false,1,false,[none]):MQ)=(false,1,false,[none])) hc))) (zFY hs hk rfl))
def zzL (n:Net) (zsg:Bool):((Sl Use)×Int) :=
  (cond zsg
 ((⟨0,fun _=>default⟩:(Sl Use)),(6:Int))
 (zzJ n))
def zzM (n:Net) (zsg:Bool):Bool :=
  (cond zsg
 true
 (zzK n))
theorem zF1 (hs:zzM n zsg=true) (hk:K (e49 (zzL n zsg))):z49 (Wk K) [1,1,1,0,1] [] ⟨[(4,zp 13 0),(16,zB zsg)],[(13,.box 105 (zm (zaD (⟨n,(⟨0,(fun _=>none)⟩:Mp)⟩:web))))],[]⟩:=zbd (by kernel_rfl) (zc hs hk (fun hs hk=>((wk hk (zib (.one (.nil _ _)) (zib (.one (.rfl _)) zow))):Wk K [.one (.nils),.one (.int .i64 (6:Int))])) (fun hs hk=>(zF0 hs hk)))
def zzN (n:Net):((Sl Use)×Int) :=
  (zzL n (!(s88 (⟨n,(⟨0,(fun _=>none)⟩:Mp)⟩:web))))
def zzO (n:Net):Bool :=
  (decide ((p88 (⟨n,(⟨0,(fun _=>none)⟩:Mp)⟩:web)=true)) &&
 (zzM n (!(s88 (⟨n,(⟨0,(fun _=>none)⟩:Mp)⟩:web)))))
theorem zF2 (hs:zzO n=true) (hk:K (e49 (zzN n))):z49 (Wk K) [1,1] [] ⟨[(1,zp 1 0)],[(1,.box 24 (zm (enc_24 n)))],[]⟩:=zbd (by kernel_rfl) (za2 hs fun hc hs=>And.intro (And.intro (zE enc_40 4 n.Ties.get) (And.intro (rfl:((false,1,false,[none]):MQ)=(false,1,false,[none])) hc)) (zF1 hs hk))
def zzP (n:Net) (zaL:Bool):((Sl Use)×Int) :=
  (cond zaL
 ((⟨0,fun _=>default⟩:(Sl Use)),(2:Int))
 (zzN n))
def zzQ (n:Net) (zaL:Bool):Bool :=
  (cond zaL
 true
 (zzO n))
theorem zF3 (hs:zzQ n zaL=true) (hk:K (e49 (zzP n zaL))):z49 (Wk K) [1,0,1] [] ⟨[(1,zp 1 0),(10,zB zaL)],[(1,.box 24 (zm (enc_24 n)))],[]⟩:=zbd (by kernel_rfl) (zc hs hk (fun hs hk=>((wk hk (zib (.one (.nil _ _)) (zib (.one (.rfl _)) zow))):Wk K [.one (.nils),.one (.int .i64 (2:Int))])) (fun hs hk=>(zF2 hs hk)))
def s49 (n:Net):((Sl Use)×Int) :=
  (zzP n (!(s67 n)))
def p49 (n:Net):Bool :=
  (decide ((p67 n=true)) &&
 (zzQ n (!(s67 n))))
end
theorem q49 (n:Net) (K:List PA→Prop) (hs:p49 n=true) (hk:K (e49 (s49 n))):vcFun Tryd.prog G49 zFW 49 [.agg (enc_24 n)] (Wk K) :=
  zbd (by kernel_rfl) (za2 hs fun hc hs=>And.intro (And.intro (zE enc_40 4 n.Ties.get) hc) (zF3 hs hk))
def zF4 : List PA → COut
  | [.agg [.int .i64 zah,.sl zad zaz zac]]=>.det (IsE enc_40 4 zaz zac∧p49 (⟨zah,(⟨zad,zal zac⟩:(Sl Tie))⟩:Net)=true) [.one (.sl (((s49 (⟨zah,(⟨zad,zal zac⟩:(Sl Tie))⟩:Net)).1).len) 2 (fun i=>enc_75 (((s49 (⟨zah,(⟨zad,zal zac⟩:(Sl Tie))⟩:Net)).1).get i))),.one (.int .i64 ((s49 (⟨zah,(⟨zad,zal zac⟩:(Sl Tie))⟩:Net)).2))]
  | _=>.no
theorem zJx:zaw Tryd.prog 49:=⟨_,rfl,rfl,by kernel_rfl⟩
theorem zNp:Ok Tryd.prog 49 zF4:=zir zLI zJx fun args K h=>by
  unfold zF4 at h
  split at h
  · rename_i zah zad zaz zac
    obtain ⟨⟨⟨rfl,zaq,rfl⟩,hs⟩,hk⟩:=h
    try rw [zam zaq] at hs
    try rw [zam zaq] at hk
    exact ⟨_,zfK zgR _,(fun _ _=>[]),(fun _=>false),zFW,q49 (⟨zah,(⟨zad,zaq⟩:(Sl Tie))⟩:Net) K hs hk⟩
  · exact h.elim
abbrev T53:Tabs:=Tabs.nil
theorem zLJ:TabsOk Tryd.prog T53:=TabsOk.nil
abbrev G53:Ctrs:=csm T53 (fun _ _=>[]) (fun _=>false)
def zF5:Ann:=⟨26,[(0,zK [0,1] []),(1,zK [0,1,10] []),(2,zK [4] []),(3,zK [0,1,5] []),(4,zK [0,1,5,14] []),(5,zK [0,1,5] []),(6,zK [0,1,5,25] []),(7,zK [4] []),(8,zK [4] [])],
 [(4,zK [0,1,5] [])],
 [(3,zK [0,1] [])],
 [],[]⟩
abbrev R53:=Bool
abbrev e53 (r:R53):List PA:=[.one (.bool r)]
@[irreducible] def z53:=ptF Tryd.prog G53 zF5 Tryd.f53
def zDq (a:(Sl Use)) (b:(Sl Use)) (iv1:Int):St:=⟨[(0,zS enc_75 2 a),(1,zS enc_75 2 b),(5,zI iv1)],[],[]⟩
abbrev zJy (K:List PA→Prop) (a:(Sl Use)) (b:(Sl Use)) (X:St→Prop) (P:Int→Bool) (S:Int→Bool):Prop:=∀ ⦃iv1:Int⦄,P iv1=true→K (e53 (S iv1))→X (zDq a b iv1)
section
variable {K:List PA→Prop} {a:(Sl Use)} {b:(Sl Use)} {iv1:Int} {X1:St→Prop} {P1:Int→Bool} {S1:Int→Bool}
def zzR (a:(Sl Use)) (b:(Sl Use)) (S1:Int→Bool) (iv1:Int):Bool :=
  (cond (decide (iv1 < (a.len : Int)))
 (cond (!(match ((a.get iv1.toNat).Tie == (b.get iv1.toNat).Tie) with | true => (match ((a.get iv1.toNat).Back == (b.get iv1.toNat).Back) with | true => true | false => false) | false => false))
 false
 (S1 (w64 (iv1+(1:Int)))))
 true)
def zzS (a:(Sl Use)) (b:(Sl Use)) (P1:Int→Bool) (iv1:Int):Bool :=
  (cond (decide (iv1 < (a.len : Int)))
 (decide ((0≤iv1∧iv1 < (a.len:Int))) &&
 (decide ((0≤iv1∧iv1 < (b.len:Int))) &&
 (cond (!(match ((a.get iv1.toNat).Tie == (b.get iv1.toNat).Tie) with | true => (match ((a.get iv1.toNat).Back == (b.get iv1.toNat).Back) with | true => true | false => false) | false => false))
 true
 (P1 (w64 (iv1+(1:Int)))))))
 true)
def zzT (a:(Sl Use)) (b:(Sl Use)):Nat→Int→Bool:=lpO (fun _=>default) (zzR a b)
def zzU (a:(Sl Use)) (b:(Sl Use)):Nat→Int→Bool:=lpO (fun _=>false) (zzS a b)
def zzV (a:(Sl Use)) (b:(Sl Use)) (iv1:Int):Bool:=zzT a b Fuel iv1
def zzW (a:(Sl Use)) (b:(Sl Use)) (iv1:Int):Bool:=zzU a b Fuel iv1
theorem zF6 (hs:zzW a b iv1=true) (hk:K (e53 (zzV a b iv1))):z53 K [1,1,0,1,0] [] (zDq a b iv1) :=
  zl (fun X=>z53 K [1,1,0,1,0,0] [X]) (by kernel_rfl) fun X1 hX =>
  (show ∀ k, zJy K a b X1 (zzU a b k) (zzT a b k) from zjH _ _ (zzS a b) (zzR a b) (zJy K a b X1)
 (by intro _ hs;exact absurd hs Bool.false_ne_true)
 (by intro P1 S1 hX1 iv1 hs hk;exact hX _ (zbd (by kernel_rfl) (zc hs hk (fun hs hk=>(za2 hs fun hc hs=>And.intro hc (za2 hs fun hc hs=>And.intro hc (zc hs hk (fun hs hk=>hk) (fun hs hk=>(hX1 hs hk)))))) (fun hs hk=>hk))))) _ hs hk
def zzX (a:(Sl Use)) (b:(Sl Use)):Bool :=
  (zzV a b (0:Int))
def zzY (a:(Sl Use)) (b:(Sl Use)):Bool :=
  (zzW a b (0:Int))
theorem zF7 (hs:zzY a b=true) (hk:K (e53 (zzX a b))):z53 K [1,1] [] ⟨[(0,zS enc_75 2 a),(1,zS enc_75 2 b)],[],[]⟩:=zbd (by kernel_rfl) (zF6 hs hk)
def s53 (a:(Sl Use)) (b:(Sl Use)):Bool :=
  (cond ((a.len : Int) != (b.len : Int))
 false
 (zzX a b))
def p53 (a:(Sl Use)) (b:(Sl Use)):Bool :=
  (cond ((a.len : Int) != (b.len : Int))
 true
 (zzY a b))
end
theorem q53 (a:(Sl Use)) (b:(Sl Use)) (K:List PA→Prop) (hs:p53 a b=true) (hk:K (e53 (s53 a b))):vcFun Tryd.prog G53 zF5 53 [.one (.sl a.len 2 (fun i=>enc_75 (a.get i))),.one (.sl b.len 2 (fun i=>enc_75 (b.get i)))] K :=
  zbd (by kernel_rfl) (zc hs hk (fun hs hk=>hk) (fun hs hk=>(zF7 hs hk)))
def zF8 : List PA → COut
  | [.one (.sl zfU zmL zfV),.one (.sl zd2 ziD zdU)]=>.det (IsE enc_75 2 zmL zfV∧IsE enc_75 2 ziD zdU∧p53 (⟨zfU,zb6 zfV⟩:(Sl Use)) (⟨zd2,zb6 zdU⟩:(Sl Use))=true) [.one (.bool (s53 (⟨zfU,zb6 zfV⟩:(Sl Use)) (⟨zd2,zb6 zdU⟩:(Sl Use))))]
  | _=>.no
theorem zJz:zaw Tryd.prog 53:=⟨_,rfl,rfl,by kernel_rfl⟩
theorem zNq:Ok Tryd.prog 53 zF8:=zbF zLJ zJz fun args K h=>by
  unfold zF8 at h
  split at h
  · rename_i zfU zmL zfV zd2 ziD zdU
    obtain ⟨⟨⟨rfl,ziC,rfl⟩,⟨rfl,zfX,rfl⟩,hs⟩,hk⟩:=h
    try rw [zb2 ziC] at hs
    try rw [zb2 ziC] at hk
    try rw [zb2 zfX] at hs
    try rw [zb2 zfX] at hk
    exact ⟨(fun _ _=>[]),(fun _=>false),zF5,q53 (⟨zfU,ziC⟩:(Sl Use)) (⟨zd2,zfX⟩:(Sl Use)) K hs hk⟩
  · exact h.elim
abbrev T92:Tabs:=((Tabs.nil.addF 93 zpn).addI 110 zpp)
theorem zLK:TabsOk Tryd.prog T92:=((TabsOk.nil.addF zHF).addI zvA)
abbrev G92:Ctrs:=csm T92 (fun _ _=>[]) (fun _=>false)
def zjw:Ann:=⟨49,[(0,zK [0,1,2,3,4] [0,1,2,3,4,4099]),(1,zK [0,1,2,3,4,7] [0,1,2,3,4,4099]),(2,zK [0,1,2,3,4,5,7] [0,1,2,3,4,5,4099]),(3,zK [0,1,2,3,4,5,7,41] [0,1,2,3,4,5,4099]),(4,zK [0,1,2,3,4,5] [0,1,2,3,4,5,4099]),(5,zK [0,1,2,3,4] [0,1,2,3,4,4099]),(6,zK [0,1,2,3,4] [0,1,2,3,4,4099]),(7,zK [0,1,2,3,4] [0,1,2,3,4,4099])],
 [(2,zK [0,1,2,3,4,7] [0,1,2,3,4,4099])],
 [],
 [],[]⟩
def zgb (w:web) (at_:Int) (d:Tab) (out:(Sl Use)):St:=⟨[(0,.one (.c (.ptr 0 0))),(1,.one (.c (.ptr 1 0))),(2,.one (.c (.ptr 2 0))),(3,.one (.c (.ptr 3 0))),(4,.one (.c (.ptr 4 0))),(7,.one (.c (.p (.fn 110 [] [.fp [.fp (zaD w) 0] 0]))))],[(0,.box 102 [.p (.fp (zaD w) 0)]),(1,.box 3 [.p (.int .i64 at_)]),(2,.box 116 (zm (zae d))),(3,.box 67 [.vec 4099]),(4,.box 4 [.p (.bool false)]),(4099,.vec 75 2 16 out.len (fun i=>enc_75 (out.get i)))],[]⟩
def zlM (K:List PA×List XA→Prop) (w:web) (at_:Int) (d:Tab) (out:(Sl Use)):Prop:=vc Tryd.prog G92 zjw (cdF Tryd.f92 [1,0,1,0]) (zak 0 (sqK Tryd.prog G92 zjw (cdF Tryd.f92 [1,1]) (zl5 Tryd.prog Tryd.f92 [.box 102 [.p (.fp (zaD w) 0)],.box 3 [.p (.int .i64 at_)],.box 116 (xcm (zae d)),.box 67 [.vec 75 2 16 out.len (fun i=>enc_75 (out.get i))]] (fun a b=>K (a,b))))) (zgb w at_ d out)
theorem zF9 (w : web) (at_ : Int) (d : Tab) (out : (Sl Use)) (K : List PA × List XA → Prop) :
  zkJ Tryd.prog G92 zjw 92 [.box 102 [.p (.fp (zaD w) 0)],.box 3 [.p (.int .i64 at_)],.box 116 (xcm (zae d)),.box 67 [.vec 75 2 16 out.len (fun i=>enc_75 (out.get i))]] (fun a b=>K (a,b)) =
  ((IsE enc_40 4 4 (fun i=>enc_40 (w.Net.Ties.get i))∧((false,1,false,[none]):MQ)=(false,1,false,[none])) ∧
 (zlM K w at_ d out)):=by kernel_rfl
def zp0 (K:List PA×List XA→Prop) (w:web) (at_:Int) (d:Tab) (out:(Sl Use)):Prop :=
  (K ([.one (.bool false)],[.box 102 [.p (.fp (zaD w) 0)],.box 3 [.p (.int .i64 at_)],.box 116 (xcm (zae d)),.box 67 [.vec 75 2 16 out.len (fun i=>enc_75 (out.get i))]]))
def zp1 (K:List PA×List XA→Prop) (X0:List (List PA)→St→Prop) (y0:step) (rest0:List (List PA)) (w:web) (at_:Int) (d:Tab) (out:(Sl Use)):Prop :=
  (zbR (y0.from_ == at_)
 (((0≤y0.to∧y0.to < (40:Int))) ∧
 (zbR (!(match ((tg 80 d (0 + y0.to.toNat * 2 + 0)) == (1000000000000:Int)) with | true => (match ((tg 80 d (0 + y0.to.toNat * 2 + 0 + 1)) == (0:Int)) with | true => true | false => false) | false => false))
 (((0≤y0.to∧y0.to < (40:Int))) ∧
 (((0≤y0.to∧y0.to < (40:Int))) ∧
 (((0≤at_∧at_ < (40:Int))) ∧
 (zbR (match ((w64 ((tg 80 d (0 + y0.to.toNat * 2 + 0)) + y0.length)) == (tg 80 d (0 + at_.toNat * 2 + 0))) with | true => (match ((w64 ((tg 80 d (0 + y0.to.toNat * 2 + 1)) + (1:Int))) == (tg 80 d (0 + at_.toNat * 2 + 0 + 1))) with | true => true | false => false) | false => false)
 ((((out.len+1) * 16≤140737488355328∧out.len+1≤9223372036854775807)) ∧
 (K ([.one (.bool true)],[.box 102 [.p (.fp (zaD w) 0)],.box 3 [.p (.int .i64 y0.to)],.box 116 (xcm (zae d)),.box 67 [.vec 75 2 16 (out.len+1) (appG out.len (fun i=>enc_75 (out.get i)) (fun _=>(enc_75 y0.Use)))]])))
 (X0 rest0 (zgb w at_ d out))))))
 (X0 rest0 (zgb w at_ d out))))
 (X0 rest0 (zgb w at_ d out)))
theorem zsi (K:List PA×List XA→Prop) (w:web) (at_:Int) (d:Tab) (out:(Sl Use)):(zak 0 (sqK Tryd.prog G92 zjw (cdF Tryd.f92 [1,1]) (zl5 Tryd.prog Tryd.f92 [.box 102 [.p (.fp (zaD w) 0)],.box 3 [.p (.int .i64 at_)],.box 116 (xcm (zae d)),.box 67 [.vec 75 2 16 out.len (fun i=>enc_75 (out.get i))]] (fun a b=>K (a,b))))) .normal (zgb w at_ d out)=zp0 K w at_ d out:=by kernel_rfl
theorem zsj (K : List PA × List XA → Prop) (X0 : List (List PA) → St → Prop) (y0 : step) (rest0 : List (List PA)) (w : web) (at_ : Int) (d : Tab) (out : (Sl Use)) :
  zvV Tryd.prog G92 zjw 2 [8] (cd (cdF Tryd.f92 [1,0,1,0]) [0]) (cd (cdF Tryd.f92 [1,0,1,0]) [1]) X0 (zak 0 (sqK Tryd.prog G92 zjw (cdF Tryd.f92 [1,1]) (zl5 Tryd.prog Tryd.f92 [.box 102 [.p (.fp (zaD w) 0)],.box 3 [.p (.int .i64 at_)],.box 116 (xcm (zae d)),.box 67 [.vec 75 2 16 out.len (fun i=>enc_75 (out.get i))]] (fun a b=>K (a,b))))) [.agg (zaf y0)] rest0 (zgb w at_ d out)=zp1 K X0 y0 rest0 w at_ d out:=by kernel_rfl
theorem zzZ (K : List PA × List XA → Prop) (w : web) (at_ : Int) (d : Tab) (out : (Sl Use))
  (hsafe:IsE enc_40 4 4 (fun i=>enc_40 (w.Net.Ties.get i))∧((false,1,false,[none]):MQ)=(false,1,false,[none])∧(zl0 w=true)) (h:∀ X0:List (List PA)→St→Prop,(∀ (_:Unit),zp0 K w at_ d out→X0 [] (zgb w at_ d out))→(∀ (y:step) (rest:List (List PA)) (_:Unit),zp1 K X0 y rest w at_ d out→X0 ([.agg (zaf y)] :: rest) (zgb w at_ d out))→X0 ((zic w).map fun y=>[.agg (zaf y)]) (zgb w at_ d out)) :
  zlM K w at_ d out:=by
  have e:zlM K w at_ d out=((IsE enc_40 4 4 (fun i=>enc_40 (w.Net.Ties.get i))∧((false,1,false,[none]):MQ)=(false,1,false,[none])∧(zl0 w=true))∧∀ X:List (List PA)→St→Prop,(∀ s,(zak 0 (sqK Tryd.prog G92 zjw (cdF Tryd.f92 [1,1]) (zl5 Tryd.prog Tryd.f92 [.box 102 [.p (.fp (zaD w) 0)],.box 3 [.p (.int .i64 at_)],.box 116 (xcm (zae d)),.box 67 [.vec 75 2 16 out.len (fun i=>enc_75 (out.get i))]] (fun a b=>K (a,b))))) .normal s→X [] s)→(∀ y rest s,zvV Tryd.prog G92 zjw 2 [8] (cd (cdF Tryd.f92 [1,0,1,0]) [0]) (cd (cdF Tryd.f92 [1,0,1,0]) [1]) X (zak 0 (sqK Tryd.prog G92 zjw (cdF Tryd.f92 [1,1]) (zl5 Tryd.prog Tryd.f92 [.box 102 [.p (.fp (zaD w) 0)],.box 3 [.p (.int .i64 at_)],.box 116 (xcm (zae d)),.box 67 [.vec 75 2 16 out.len (fun i=>enc_75 (out.get i))]] (fun a b=>K (a,b))))) y rest s→X (y :: rest) s)→X ((zic w).map fun y=>[.agg (zaf y)]) (zgb w at_ d out)):=by kernel_rfl
  refine zbd e ⟨hsafe,?_⟩
  intro X h0 h1
  refine h X (fun _ hs=>h0 _ ?_) (fun y rest _ hs=>h1 _ rest _ ?_)
  · rw [zsi K w at_ d out];exact hs
  · have e2 := zsj K X y rest w at_ d out
    rw [e2];exact hs
abbrev e92 (w:web) (d:Tab) (r:(Bool×Int×(Sl Use))):List PA×List XA:=([.one (.bool r.1)],[.box 102 [.p (.fp (zaD w) 0)],.box 3 [.p (.int .i64 r.2.1)],.box 116 (xcm (zae d)),.box 67 [.vec 75 2 16 r.2.2.len (fun i=>enc_75 (r.2.2.get i))]])
attribute [irreducible] zlM
def zsk (w:web) (at_:Int) (d:Tab) (out:(Sl Use)):(Bool×Int×(Sl Use)) :=
  (false,at_,(⟨out.len,out.get⟩:(Sl Use)))
def zsl (w:web) (at_:Int) (d:Tab) (out:(Sl Use)):Bool :=
  true
def zsm (w:web) (at_:Int) (d:Tab) (out:(Sl Use)) (y0:step) (S0:(Bool×Int×(Sl Use))):(Bool×Int×(Sl Use)) :=
  (cond (y0.from_ == at_)
 (cond (!(match ((tg 80 d (0 + y0.to.toNat * 2 + 0)) == (1000000000000:Int)) with | true => (match ((tg 80 d (0 + y0.to.toNat * 2 + 0 + 1)) == (0:Int)) with | true => true | false => false) | false => false))
 (cond (match ((w64 ((tg 80 d (0 + y0.to.toNat * 2 + 0)) + y0.length)) == (tg 80 d (0 + at_.toNat * 2 + 0))) with | true => (match ((w64 ((tg 80 d (0 + y0.to.toNat * 2 + 1)) + (1:Int))) == (tg 80 d (0 + at_.toNat * 2 + 0 + 1))) with | true => true | false => false) | false => false)
 (true,y0.to,(⟨(out.len+1),(zg8 out.len out.get (fun _=>y0.Use))⟩:(Sl Use)))
 (S0))
 (S0))
 (S0))
def zsn (w:web) (at_:Int) (d:Tab) (out:(Sl Use)) (y0:step) (P0:Bool):Bool :=
  (cond (y0.from_ == at_)
 (decide ((0≤y0.to∧y0.to < (40:Int))) &&
 (cond (!(match ((tg 80 d (0 + y0.to.toNat * 2 + 0)) == (1000000000000:Int)) with | true => (match ((tg 80 d (0 + y0.to.toNat * 2 + 0 + 1)) == (0:Int)) with | true => true | false => false) | false => false))
 (decide ((0≤y0.to∧y0.to < (40:Int))) &&
 (decide ((0≤y0.to∧y0.to < (40:Int))) &&
 (decide ((0≤at_∧at_ < (40:Int))) &&
 (cond (match ((w64 ((tg 80 d (0 + y0.to.toNat * 2 + 0)) + y0.length)) == (tg 80 d (0 + at_.toNat * 2 + 0))) with | true => (match ((w64 ((tg 80 d (0 + y0.to.toNat * 2 + 1)) + (1:Int))) == (tg 80 d (0 + at_.toNat * 2 + 0 + 1))) with | true => true | false => false) | false => false)
 (decide (((out.len+1) * 16≤140737488355328∧out.len+1≤9223372036854775807)) &&
 true)
 (P0)))))
 (P0)))
 (P0))
def zlN (w : web) (at_ : Int) (d : Tab) (out : (Sl Use)) : List step → (Bool × Int × (Sl Use))
  | []=>zsk w at_ d out
  | y :: r=>zsm w at_ d out y (zlN w at_ d out r)
def zlO (w : web) (at_ : Int) (d : Tab) (out : (Sl Use)) : List step → Bool
  | []=>zsl w at_ d out
  | y :: r=>zsn w at_ d out y (zlO w at_ d out r)
def zz0 (w:web) (at_:Int) (d:Tab) (out:(Sl Use)):(Bool×Int×(Sl Use)):=zlN w at_ d out (zic w)
def zso (w:web) (at_:Int) (d:Tab) (out:(Sl Use)):Bool:=decide ((zl0 w=true)) && zlO w at_ d out (zic w)
theorem zGa (K:List PA×List XA→Prop) (w:web) (at_:Int) (d:Tab) (out:(Sl Use)) (hs:zso w at_ d out=true) (hk:K (e92 w d (zz0 w at_ d out))):zlM K w at_ d out:=by
  unfold zso at hs
  rw [Bool.and_eq_true] at hs
  obtain ⟨hsf,hs⟩:=hs
  have hc:=of_decide_eq_true hsf
  refine zzZ K w at_ d out ⟨isE,rfl,hc⟩ ?_
  intro X0 hexit hstep
  have key:∀ (l:List step),zlO w at_ d out l=true→K (e92 w d (zlN w at_ d out l))→X0 (l.map fun y=>[.agg (zaf y)]) (zgb w at_ d out):=by
    intro l
    induction l with
    | nil =>
      intro hs hk
      refine hexit () ?_
      have hs:zsl w at_ d out=true:=hs
      have hk:K (e92 w d (zsk w at_ d out)):=hk
      unfold zsl at hs
      unfold zsk at hk
      exact hk
    | cons y0 l ih =>
      intro hs hk
      refine hstep y0 _ () ?_
      have hs:zsn w at_ d out y0 (zlO w at_ d out l)=true:=hs
      have hk:K (e92 w d (zsm w at_ d out y0 (zlN w at_ d out l))):=hk
      unfold zsn at hs
      unfold zsm at hk
      generalize zlN w at_ d out l=S0 at hk ih
      generalize zlO w at_ d out l=P0 at hs ih
      have hX0:=ih
      exact (zaZ (K := fun r => K (e92 w d r))
 (fun hs hk => (za2 hs fun hc hs => ⟨hc, (zaZ (K := fun r => K (e92 w d r))
 (fun hs hk => (za2 hs fun hc hs => ⟨hc, (za2 hs fun hc hs => ⟨hc, (za2 hs fun hc hs => ⟨hc, (zaZ (K := fun r => K (e92 w d r))
 (fun hs hk=>(za2 hs fun hc hs=>⟨hc,(Eq.mpr (congrArg K (congrArg (fun (g_:Nat→List PV)=>(([.one (.bool true)],[.box 102 [.p (.fp (zaD w) 0)],.box 3 [.p (.int .i64 y0.to)],.box 116 (xcm (zae d)),.box 67 [.vec 75 2 16 (out.len+1) g_]]):List PA×List XA)) (zkN (enc:=enc_75) (f:=out.get) (h:=(fun _=>y0.Use)) rfl rfl))) hk)⟩))
 (fun hs hk=>(hX0 hs hk)) hs hk)⟩)⟩)⟩))
 (fun hs hk=>(hX0 hs hk)) hs hk)⟩))
 (fun hs hk=>(hX0 hs hk)) hs hk)
  exact key _ hs hk
def s92 (w:web) (at_:Int) (d:Tab) (out:(Sl Use)):(Bool×Int×(Sl Use)) :=
  (zz0 w at_ d out)
def p92 (w:web) (at_:Int) (d:Tab) (out:(Sl Use)):Bool :=
  (zso w at_ d out)
theorem q92 (w:web) (at_:Int) (d:Tab) (out:(Sl Use)) (K:List PA×List XA→Prop) (hs:p92 w at_ d out=true) (hk:K (e92 w d (s92 w at_ d out))):zkJ Tryd.prog G92 zjw 92 [.box 102 [.p (.fp (zaD w) 0)],.box 3 [.p (.int .i64 at_)],.box 116 (xcm (zae d)),.box 67 [.vec 75 2 16 out.len (fun i=>enc_75 (out.get i))]] (fun a b=>K (a,b)):=by
  refine zbd (zF9 w at_ d out K) ?_
  unfold p92 at hs
  unfold s92 at hk
  exact ⟨⟨isE,rfl⟩,(zGa K w at_ d out hs hk)⟩
def zGb : MK
  | [.box 102 [.p (.fp [.int .i64 b0_Net_Nodes,.sl b0_Net_Ties_n b0_Net_Ties_s b0_Net_Ties_g,.fm b0_out_q b0_out_n b0_out_F] 0)],.box 3 [.p (.int .i64 b1)],.box 116 b2_cs,.box 67 [.vec 75 2 16 b3_n b3_g]]=>some (IsE enc_40 4 b0_Net_Ties_s b0_Net_Ties_g∧b0_out_q=(false,1,false,[none])∧b2_cs=xcm (zae (zbi (unX b2_cs)))∧IsE enc_75 2 2 b3_g∧p92 (⟨(⟨b0_Net_Nodes,(⟨b0_Net_Ties_n,zal b0_Net_Ties_g⟩:(Sl Tie))⟩:Net),(⟨b0_out_n,b0_out_F⟩:Mp)⟩:web) b1 (zbi (unX b2_cs)) (⟨b3_n,zb6 b3_g⟩:(Sl Use))=true,[.one (.bool ((s92 (⟨(⟨b0_Net_Nodes,(⟨b0_Net_Ties_n,zal b0_Net_Ties_g⟩:(Sl Tie))⟩:Net),(⟨b0_out_n,b0_out_F⟩:Mp)⟩:web) b1 (zbi (unX b2_cs)) (⟨b3_n,zb6 b3_g⟩:(Sl Use))).1))],[.box 102 [.p (.fp [.int .i64 b0_Net_Nodes,.sl b0_Net_Ties_n b0_Net_Ties_s b0_Net_Ties_g,.fm b0_out_q b0_out_n b0_out_F] 0)],.box 3 [.p (.int .i64 ((s92 (⟨(⟨b0_Net_Nodes,(⟨b0_Net_Ties_n,zal b0_Net_Ties_g⟩:(Sl Tie))⟩:Net),(⟨b0_out_n,b0_out_F⟩:Mp)⟩:web) b1 (zbi (unX b2_cs)) (⟨b3_n,zb6 b3_g⟩:(Sl Use))).2.1))],.box 116 b2_cs,.box 67 [.vec 75 2 16 (((s92 (⟨(⟨b0_Net_Nodes,(⟨b0_Net_Ties_n,zal b0_Net_Ties_g⟩:(Sl Tie))⟩:Net),(⟨b0_out_n,b0_out_F⟩:Mp)⟩:web) b1 (zbi (unX b2_cs)) (⟨b3_n,zb6 b3_g⟩:(Sl Use))).2.2).len) (fun i=>enc_75 (((s92 (⟨(⟨b0_Net_Nodes,(⟨b0_Net_Ties_n,zal b0_Net_Ties_g⟩:(Sl Tie))⟩:Net),(⟨b0_out_n,b0_out_F⟩:Mp)⟩:web) b1 (zbi (unX b2_cs)) (⟨b3_n,zb6 b3_g⟩:(Sl Use))).2.2).get i))]])
  | _=>none
theorem zJA:zaw Tryd.prog 92:=⟨_,rfl,rfl,by kernel_rfl⟩
theorem zNr:zju Tryd.prog 92 zGb:=zEl zLK zJA fun xs safe rs ys h hs K hk=>by
  unfold zGb at h
  split at h
  · rename_i b0_Net_Nodes b0_Net_Ties_n b0_Net_Ties_s b0_Net_Ties_g b0_out_q b0_out_n b0_out_F b1 b2_cs b3_n b3_g
    simp only [Option.some.injEq,Prod.mk.injEq] at h
    obtain ⟨rfl,rfl,rfl⟩:=h
    obtain ⟨⟨rfl,b0_Net_Ties_f,rfl⟩,rfl,hT_b2,⟨_,b3_f,rfl⟩,hs⟩:=hs
    try rw [zam b0_Net_Ties_f] at hs
    try rw [zam b0_Net_Ties_f] at hk
    try rw [zb2 b3_f] at hs
    try rw [zb2 b3_f] at hk
    refine ⟨fun _ _=>[],fun _=>false,zjw,?_⟩
    show zkJ Tryd.prog G92 zjw 92 _ K
    have hq:=q92 (⟨(⟨b0_Net_Nodes,(⟨b0_Net_Ties_n,b0_Net_Ties_f⟩:(Sl Tie))⟩:Net),(⟨b0_out_n,b0_out_F⟩:Mp)⟩:web) b1 (zbi (unX b2_cs)) (⟨b3_n,b3_f⟩:(Sl Use)) (fun x=>K x.1 x.2) hs
    dsimp only [e92] at hq
    rw [← hT_b2] at hq
    exact hq hk
  · cases h
abbrev T54:Tabs:=(((Tabs.nil.addF 74 zvL).addF 75 zvM).addM 92 zGb)
theorem zLL:TabsOk Tryd.prog T54:=(((TabsOk.nil.addF zKH).addF zKI).addM zNr)
abbrev G54:Ctrs:=csm T54 (fun _ _=>[]) (fun _=>false)
def zGc:Ann:=⟨45,[(0,zK [1,2,3] [3]),(1,zK [1,2,8,9] [8]),(2,zK [1,2,8,9,23] [8]),(3,zK [6,7] []),(4,zK [1,8,10] [8,10]),(5,zK [1,8,10,32] [8,10]),(6,zK [6,7] []),(7,zK [1,8,10,11] [8,10,11]),(8,zK [8,10,11,12] [8,10,11,12]),(9,zK [10,11,12,13] [8,10,11,12]),(10,zK [10,11,12,13,43] [8,10,11,12,5000]),(11,zK [6,7] [5000])],
 [(10,⟨[10,11,12,13],[8,10,11,12,5000],[],[(11,0,5000,75,fun _=>enc_75 default)],[],[],[]⟩)],
 [],
 [],[]⟩
abbrev R54:=((Sl Use)×Int)
abbrev e54 (r:R54):List PA:=[.one (.sl r.1.len 2 (fun i=>enc_75 (r.1.get i))),.one (.int .i64 r.2)]
@[irreducible] def z54:=ptF Tryd.prog G54 zGc Tryd.f54
def zDr (n:Net) (from_a1:Int) (to:Int) (zhs:Int) (za8:(Sl Use)) (dt0:Tab) (zdx:Nat→List PV):St:=⟨[(10,zp 10 0),(11,zp 11 0),(12,zp 12 0),(13,.one (.c (.clo 92 [.b 8,.b 12,.b 10,.b 11])))],[(8,.box 102 [.p (.fp (zaD (⟨(s74 n (⟨2,zar (zbw [(enc_3 from_a1),(enc_3 to)])⟩:(Sl Int))).1.Net,((s74 n (⟨2,zar (zbw [(enc_3 from_a1),(enc_3 to)])⟩:(Sl Int))).1.out)⟩:web)) 0)]),(10,.box 116 (zm (zae dt0))),(11,.box 67 [.vec 5000]),(12,.box 3 [zi zhs]),(5000,.vec 75 2 16 za8.len zdx)],[]⟩
abbrev zJB (K:List PA→Prop) (n:Net) (from_a1:Int) (to:Int) (X:St→Prop) (P:Int→(Sl Use)→Tab→Bool) (S:Int→(Sl Use)→Tab→((Sl Use)×Int)):Prop:=∀ ⦃zhs:Int⦄ ⦃za8:(Sl Use)⦄ ⦃dt0:Tab⦄ ⦃zdx:Nat→List PV⦄,P zhs za8 dt0=true→K (e54 (S zhs za8 dt0))→zdx=zg enc_75 za8→X (zDr n from_a1 to zhs za8 dt0 zdx)
section
variable {K:List PA→Prop} {n:Net} {from_a1:Int} {to:Int} {zhs:Int} {za8:(Sl Use)} {dt0:Tab} {zdx:Nat→List PV} {X0:St→Prop} {P0:Int→(Sl Use)→Tab→Bool} {S0:Int→(Sl Use)→Tab→((Sl Use)×Int)}
def zz1 (n:Net) (from_a1:Int) (to:Int) (S0:Int→(Sl Use)→Tab→((Sl Use)×Int)) (zhs:Int) (za8:(Sl Use)) (dt0:Tab):((Sl Use)×Int) :=
  (cond (decide ((tg 80 dt0 (0 + zhs.toNat * 2 + 1)) > (0:Int)))
 (cond ((s92 (⟨(s74 n (⟨2, zar (zbw [(enc_3 from_a1), (enc_3 to)])⟩ : (Sl Int))).1.Net, ((s74 n (⟨2, zar (zbw [(enc_3 from_a1), (enc_3 to)])⟩ : (Sl Int))).1.out)⟩ : web) zhs (zbi (unX (xcm (zae dt0)))) (⟨za8.len, za8.get⟩ : (Sl Use))).1)
 (S0 ((s92 (⟨(s74 n (⟨2,zar (zbw [(enc_3 from_a1),(enc_3 to)])⟩:(Sl Int))).1.Net,((s74 n (⟨2,zar (zbw [(enc_3 from_a1),(enc_3 to)])⟩:(Sl Int))).1.out)⟩:web) zhs (zbi (unX (xcm (zae dt0)))) (⟨za8.len,za8.get⟩:(Sl Use))).2.1) ((s92 (⟨(s74 n (⟨2,zar (zbw [(enc_3 from_a1),(enc_3 to)])⟩:(Sl Int))).1.Net,((s74 n (⟨2,zar (zbw [(enc_3 from_a1),(enc_3 to)])⟩:(Sl Int))).1.out)⟩:web) zhs (zbi (unX (xcm (zae dt0)))) (⟨za8.len,za8.get⟩:(Sl Use))).2.2) dt0)
 (((s92 (⟨(s74 n (⟨2,zar (zbw [(enc_3 from_a1),(enc_3 to)])⟩:(Sl Int))).1.Net,((s74 n (⟨2,zar (zbw [(enc_3 from_a1),(enc_3 to)])⟩:(Sl Int))).1.out)⟩:web) zhs (zbi (unX (xcm (zae dt0)))) (⟨za8.len,za8.get⟩:(Sl Use))).2.2),(0:Int)))
 (za8,(0:Int)))
def zz2 (n:Net) (from_a1:Int) (to:Int) (P0:Int→(Sl Use)→Tab→Bool) (zhs:Int) (za8:(Sl Use)) (dt0:Tab):Bool :=
  (decide ((0≤zhs∧zhs < (40:Int))) &&
 (cond (decide ((tg 80 dt0 (0 + zhs.toNat * 2 + 1)) > (0:Int)))
 (decide ((p92 (⟨(s74 n (⟨2,zar (zbw [(enc_3 from_a1),(enc_3 to)])⟩:(Sl Int))).1.Net,((s74 n (⟨2,zar (zbw [(enc_3 from_a1),(enc_3 to)])⟩:(Sl Int))).1.out)⟩:web) zhs (zbi (unX (xcm (zae dt0)))) (⟨za8.len,za8.get⟩:(Sl Use))=true)) &&
 (cond ((s92 (⟨(s74 n (⟨2, zar (zbw [(enc_3 from_a1), (enc_3 to)])⟩ : (Sl Int))).1.Net, ((s74 n (⟨2, zar (zbw [(enc_3 from_a1), (enc_3 to)])⟩ : (Sl Int))).1.out)⟩ : web) zhs (zbi (unX (xcm (zae dt0)))) (⟨za8.len, za8.get⟩ : (Sl Use))).1)
 (P0 ((s92 (⟨(s74 n (⟨2,zar (zbw [(enc_3 from_a1),(enc_3 to)])⟩:(Sl Int))).1.Net,((s74 n (⟨2,zar (zbw [(enc_3 from_a1),(enc_3 to)])⟩:(Sl Int))).1.out)⟩:web) zhs (zbi (unX (xcm (zae dt0)))) (⟨za8.len,za8.get⟩:(Sl Use))).2.1) ((s92 (⟨(s74 n (⟨2,zar (zbw [(enc_3 from_a1),(enc_3 to)])⟩:(Sl Int))).1.Net,((s74 n (⟨2,zar (zbw [(enc_3 from_a1),(enc_3 to)])⟩:(Sl Int))).1.out)⟩:web) zhs (zbi (unX (xcm (zae dt0)))) (⟨za8.len,za8.get⟩:(Sl Use))).2.2) dt0)
 true))
 true))
def zz3 (n:Net) (from_a1:Int) (to:Int):Nat→Int→(Sl Use)→Tab→((Sl Use)×Int):=lpO (fun _ _ _=>default) (zz1 n from_a1 to)
def zz4 (n:Net) (from_a1:Int) (to:Int):Nat→Int→(Sl Use)→Tab→Bool:=lpO (fun _ _ _=>false) (zz2 n from_a1 to)
def zz5 (n:Net) (from_a1:Int) (to:Int) (zhs:Int) (za8:(Sl Use)) (dt0:Tab):((Sl Use)×Int):=zz3 n from_a1 to Fuel zhs za8 dt0
def zz6 (n:Net) (from_a1:Int) (to:Int) (zhs:Int) (za8:(Sl Use)) (dt0:Tab):Bool:=zz4 n from_a1 to Fuel zhs za8 dt0
theorem zGd (hs:zz6 n from_a1 to zhs za8 dt0=true) (hk:K (e54 (zz5 n from_a1 to zhs za8 dt0))) (zlP:zdx=zg enc_75 za8):z54 (Wk K) [1,1,1,1,1,1,1,1,0,0] [] (zDr n from_a1 to zhs za8 dt0 zdx) :=
  zl (fun X=>z54 (Wk K) [1,1,1,1,1,1,1,1,0,0,0] [X]) (by kernel_rfl) fun X0 hX =>
  (show ∀ k, zJB K n from_a1 to X0 (zz4 n from_a1 to k) (zz3 n from_a1 to k) from zjH _ _ (zz2 n from_a1 to) (zz1 n from_a1 to) (zJB K n from_a1 to X0)
 (by intro _ _ _ _ hs;exact absurd hs Bool.false_ne_true)
 (by intro P0 S0 hX0 zhs za8 dt0 zdx hs hk zlP;subst zlP;exact hX _ (zbd (by kernel_rfl) (za2 hs fun hc hs=>And.intro hc (zc hs hk (fun hs hk=>(za2 hs fun hc hs=>And.intro (And.intro (zE enc_40 4 ((s74 n (⟨2,zar (zbw [(enc_3 from_a1),(enc_3 to)])⟩:(Sl Int))).1.Net.Ties.get)) (And.intro (rfl:((false,1,false,[none]):MQ)=(false,1,false,[none])) (And.intro (zEm:xcm (zae dt0)=xcm (zae (zbi (unX (xcm (zae dt0)))))) (And.intro (zE enc_75 2 za8.get) hc)))) (zc hs hk (fun hs hk=>(hX0 hs hk rfl)) (fun hs hk=>((zgS hk):Wk K [.one (.sl (((s92 (⟨(s74 n (⟨2,zar (zbw [(enc_3 from_a1),(enc_3 to)])⟩:(Sl Int))).1.Net,((s74 n (⟨2,zar (zbw [(enc_3 from_a1),(enc_3 to)])⟩:(Sl Int))).1.out)⟩:web) zhs (zbi (unX (xcm (zae dt0)))) (⟨za8.len,za8.get⟩:(Sl Use))).2.2).len) 2 (fun i=>enc_75 (((s92 (⟨(s74 n (⟨2,zar (zbw [(enc_3 from_a1),(enc_3 to)])⟩:(Sl Int))).1.Net,((s74 n (⟨2,zar (zbw [(enc_3 from_a1),(enc_3 to)])⟩:(Sl Int))).1.out)⟩:web) zhs (zbi (unX (xcm (zae dt0)))) (⟨za8.len,za8.get⟩:(Sl Use))).2.2).get i))),.one (.int .i64 (0:Int))]))))) (fun hs hk=>((zgS hk):Wk K [.one (.sl za8.len 2 (fun i=>enc_75 (za8.get i))),.one (.int .i64 (0:Int))]))))))) _ hs hk zlP
def s54 (n:Net) (from_a1:Int) (to:Int):((Sl Use)×Int) :=
  (cond ((s74 n (⟨2, zar (zbw [(enc_3 from_a1), (enc_3 to)])⟩ : (Sl Int))).2 == 0)
 (cond ((0:Int) != (0:Int))
 ((⟨0,fun _=>default⟩:(Sl Use)),(0:Int))
 (cond (match ((tg 80 (s75 (⟨(s74 n (⟨2, zar (zbw [(enc_3 from_a1), (enc_3 to)])⟩ : (Sl Int))).1.Net, ((s74 n (⟨2, zar (zbw [(enc_3 from_a1), (enc_3 to)])⟩ : (Sl Int))).1.out)⟩ : web) to) (0 + from_a1.toNat * 2 + 0)) == (1000000000000:Int)) with | true => (match ((tg 80 (s75 (⟨(s74 n (⟨2, zar (zbw [(enc_3 from_a1), (enc_3 to)])⟩ : (Sl Int))).1.Net, ((s74 n (⟨2, zar (zbw [(enc_3 from_a1), (enc_3 to)])⟩ : (Sl Int))).1.out)⟩ : web) to) (0 + from_a1.toNat * 2 + 0 + 1)) == (0:Int)) with | true => true | false => false) | false => false)
 ((⟨0,fun _=>default⟩:(Sl Use)),(6:Int))
 (zz5 n from_a1 to from_a1 (⟨0,(fun _=>default)⟩:Sl Use) (s75 (⟨(s74 n (⟨2,zar (zbw [(enc_3 from_a1),(enc_3 to)])⟩:(Sl Int))).1.Net,((s74 n (⟨2,zar (zbw [(enc_3 from_a1),(enc_3 to)])⟩:(Sl Int))).1.out)⟩:web) to))))
 (cond ((s74 n (⟨2, zar (zbw [(enc_3 from_a1), (enc_3 to)])⟩ : (Sl Int))).2 != (0:Int))
 ((⟨0,fun _=>default⟩:(Sl Use)),(s74 n (⟨2,zar (zbw [(enc_3 from_a1),(enc_3 to)])⟩:(Sl Int))).2)
 default))
def p54 (n:Net) (from_a1:Int) (to:Int):Bool :=
  (cond ((s74 n (⟨2, zar (zbw [(enc_3 from_a1), (enc_3 to)])⟩ : (Sl Int))).2 == 0)
 (decide ((p74 n (⟨2,zar (zbw [(enc_3 from_a1),(enc_3 to)])⟩:(Sl Int))=true)) &&
 (cond ((0:Int) != (0:Int))
 true
 (decide ((p75 (⟨(s74 n (⟨2,zar (zbw [(enc_3 from_a1),(enc_3 to)])⟩:(Sl Int))).1.Net,((s74 n (⟨2,zar (zbw [(enc_3 from_a1),(enc_3 to)])⟩:(Sl Int))).1.out)⟩:web) to=true)) &&
 (decide ((0≤from_a1∧from_a1 < (40:Int))) &&
 (cond (match ((tg 80 (s75 (⟨(s74 n (⟨2, zar (zbw [(enc_3 from_a1), (enc_3 to)])⟩ : (Sl Int))).1.Net, ((s74 n (⟨2, zar (zbw [(enc_3 from_a1), (enc_3 to)])⟩ : (Sl Int))).1.out)⟩ : web) to) (0 + from_a1.toNat * 2 + 0)) == (1000000000000:Int)) with | true => (match ((tg 80 (s75 (⟨(s74 n (⟨2, zar (zbw [(enc_3 from_a1), (enc_3 to)])⟩ : (Sl Int))).1.Net, ((s74 n (⟨2, zar (zbw [(enc_3 from_a1), (enc_3 to)])⟩ : (Sl Int))).1.out)⟩ : web) to) (0 + from_a1.toNat * 2 + 0 + 1)) == (0:Int)) with | true => true | false => false) | false => false)
 true
 (zz6 n from_a1 to from_a1 (⟨0,(fun _=>default)⟩:Sl Use) (s75 (⟨(s74 n (⟨2,zar (zbw [(enc_3 from_a1),(enc_3 to)])⟩:(Sl Int))).1.Net,((s74 n (⟨2,zar (zbw [(enc_3 from_a1),(enc_3 to)])⟩:(Sl Int))).1.out)⟩:web) to)))))))
 (decide ((p74 n (⟨2,zar (zbw [(enc_3 from_a1),(enc_3 to)])⟩:(Sl Int))=true)) &&
 (cond ((s74 n (⟨2, zar (zbw [(enc_3 from_a1), (enc_3 to)])⟩ : (Sl Int))).2 != (0:Int))
 true
 false)))
end
theorem q54 (n:Net) (from_a1:Int) (to:Int) (K:List PA→Prop) (hs:p54 n from_a1 to=true) (hk:K (e54 (s54 n from_a1 to))):vcFun Tryd.prog G54 zGc 54 [.agg (enc_24 n),.one (.int .i64 from_a1),.one (.int .i64 to)] (Wk K) :=
  zbd (by kernel_rfl) (zc hs hk (fun hs hk=>(za2 hs fun hc hs=>And.intro (And.intro (zE enc_40 4 n.Ties.get) (And.intro ((zdo []):IsE enc_3 1 1 (zbw [(enc_3 from_a1),(enc_3 to)])) hc)) (zc hs hk (fun hs hk=>((wk hk (zib (.one (.nil _ _)) (zib (.one (.rfl _)) zow))):Wk K [.one (.nils),.one (.int .i64 (0:Int))])) (fun hs hk=>(za2 hs fun hc hs=>And.intro (And.intro (zE enc_40 4 ((s74 n (⟨2,zar (zbw [(enc_3 from_a1),(enc_3 to)])⟩:(Sl Int))).1.Net.Ties.get)) (And.intro (rfl:((false,1,false,[none]):MQ)=(false,1,false,[none])) hc)) (za2 hs fun hc hs=>And.intro hc (zc hs hk (fun hs hk=>((wk hk (zib (.one (.nil _ _)) (zib (.one (.rfl _)) zow))):Wk K [.one (.nils),.one (.int .i64 (6:Int))])) (fun hs hk=>(zGd hs hk rfl))))))))) (fun hs hk=>(za2 hs fun hc hs=>And.intro (And.intro (zE enc_40 4 n.Ties.get) (And.intro ((zdo []):IsE enc_3 1 1 (zbw [(enc_3 from_a1),(enc_3 to)])) hc)) (zc hs hk (fun hs hk=>((wk hk (zib (.one (.nil _ _)) (zib (.one (.rfl _)) zow))):Wk K [.one (.nils),.one (.int .i64 ((s74 n (⟨2,zar (zbw [(enc_3 from_a1),(enc_3 to)])⟩:(Sl Int))).2))])) (fun hs hk=>(absurd hs Bool.false_ne_true:False))))))
def zGe : List PA → COut
  | [.agg [.int .i64 zah,.sl zad zaz zac],.one (.int .i64 a1),.one (.int .i64 a2)]=>.det (IsE enc_40 4 zaz zac∧p54 (⟨zah,(⟨zad,zal zac⟩:(Sl Tie))⟩:Net) a1 a2=true) [.one (.sl (((s54 (⟨zah,(⟨zad,zal zac⟩:(Sl Tie))⟩:Net) a1 a2).1).len) 2 (fun i=>enc_75 (((s54 (⟨zah,(⟨zad,zal zac⟩:(Sl Tie))⟩:Net) a1 a2).1).get i))),.one (.int .i64 ((s54 (⟨zah,(⟨zad,zal zac⟩:(Sl Tie))⟩:Net) a1 a2).2))]
  | _=>.no
theorem zJC:zaw Tryd.prog 54:=⟨_,rfl,rfl,by kernel_rfl⟩
theorem zNs:Ok Tryd.prog 54 zGe:=zir zLL zJC fun args K h=>by
  unfold zGe at h
  split at h
  · rename_i zah zad zaz zac a1 a2
    obtain ⟨⟨⟨rfl,zaq,rfl⟩,hs⟩,hk⟩:=h
    try rw [zam zaq] at hs
    try rw [zam zaq] at hk
    exact ⟨_,zfK zgR _,(fun _ _=>[]),(fun _=>false),zGc,q54 (⟨zah,(⟨zad,zaq⟩:(Sl Tie))⟩:Net) a1 a2 K hs hk⟩
  · exact h.elim
abbrev T66:Tabs:=Tabs.nil
theorem zLM:TabsOk Tryd.prog T66:=TabsOk.nil
abbrev G66:Ctrs:=csm T66 (fun _ _=>[]) (fun _=>false)
def zJD:Ann:=⟨6,[(0,zK [0] [0]),(1,zK [0] [0,4])],
 [],
 [],
 [],[]⟩
abbrev R66:=Net
abbrev e66 (r:R66):List PA:=[.agg [.int .i64 r.Nodes,.sl r.Ties.len 4 (fun i=>enc_40 (r.Ties.get i))]]
section
variable {K:List PA→Prop}
def s66:Net :=
  (⟨(3:Int),(⟨3,(zqm (⟨(0:Int),(1:Int),(5:Int),(8:Int)⟩:Tie) [(⟨(0:Int),(1:Int),(5:Int),(8:Int)⟩:Tie),(⟨(1:Int),(2:Int),(-2:Int),(3:Int)⟩:Tie),(⟨(2:Int),(0:Int),(-9:Int),(1000000000000:Int)⟩:Tie)])⟩:(Sl Tie))⟩:Net)
end
theorem q66 (K:List PA→Prop) (hk:K (e66 (s66))):vcFun Tryd.prog G66 zJD 66 [] K :=
  zbd (by kernel_rfl) (Eq.mpr (congrArg K (congrArg (fun (g_:Nat→List PV)=>([.agg [.int .i64 (3:Int),.sl 3 4 g_]]:List PA)) (zui (enc:=enc_40) (x:=(⟨(0:Int),(1:Int),(5:Int),(8:Int)⟩:Tie)) (y:=(⟨(1:Int),(2:Int),(-2:Int),(3:Int)⟩:Tie)) (r:=[(⟨(2:Int),(0:Int),(-9:Int),(1000000000000:Int)⟩:Tie)])))) hk)
def zGf : List PA → COut
  | []=>.tot [.agg [.int .i64 ((s66).Nodes),.sl ((s66).Ties.len) 4 (fun i=>enc_40 ((s66).Ties.get i))]]
  | _=>.no
theorem zJE:zaw Tryd.prog 66:=⟨_,rfl,rfl,by kernel_rfl⟩
theorem zNt:Ok Tryd.prog 66 zGf:=zbF zLM zJE fun args K h=>by
  unfold zGf at h
  split at h
  · have hk := h
    exact ⟨(fun _ _=>[]),(fun _=>false),zJD,q66 K hk⟩
  · exact h.elim
abbrev T21:Tabs:=((((((((((Tabs.nil.addF 22 zFi).addF 25 zFm).addF 26 zFH).addF 29 zFI).addF 32 zFM).addF 45 zFV).addF 49 zF4).addF 53 zF8).addF 54 zGe).addF 66 zGf)
theorem zLN:TabsOk Tryd.prog T21:=((((((((((TabsOk.nil.addF zNh).addF zNi).addF zNj).addF zNk).addF ok32).addF zNo).addF zNp).addF zNq).addF zNs).addF zNt)
abbrev G21:Ctrs:=csm T21 (fun _ _=>[]) (fun _=>false)
def zGg:Ann:=⟨87,[(0,zK [] []),(1,zK [1,2] []),(2,zK [1,2,3,4] []),(3,zK [1,2,3,4,5,6] []),(4,zK [1,2,3,4,5,6,7] [7]),(5,zK [1,2,3,4,5,6,7,8,9] [7]),(6,zK [1,2,3,4,5,6,8,9,10,11] []),(7,zK [1,3,5,8,10,57] []),(8,zK [0] []),(9,zK [0] [])],
 [],
 [(2,zK [1,2] []),(3,zK [1,2,3,4] []),(4,zK [1,2,3,4,5,6] []),(5,zK [1,2,3,4,5,6,7] [7]),(6,zK [1,2,3,4,5,6,7,8,9] [7]),(7,zK [1,2,3,4,5,6,8,9,10,11] []),(9,zK [1,3,5,8,10] [])],
 [],[]⟩
abbrev R21:=Bool
abbrev e21 (r:R21):List PA:=[.one (.bool r)]
@[irreducible] def z21:=ptF Tryd.prog G21 zGg Tryd.f21
section
variable {K:List PA→Prop} {bv0:(Sl Span)} {ev0:Int} {zJF:Nat→List PV} {cv1:(Sl Use)} {fv1:Int} {zJG:Nat→List PV} {vv2:(Sl Int)} {gv2:Int} {zJH:Nat→List PV} {zen:Int} {zdF:(Sl Tie)} {zz7:Nat→List PV} {xv4:(Sl Use)} {hv4:Int} {zJI:Nat→List PV} {lv5:(Sl Int)} {iv5:Int} {zJJ:Nat→List PV}
def zz8 (bv0:(Sl Span)) (cv1:(Sl Use)) (vv2:(Sl Int)) (xv4:(Sl Use)) (lv5:(Sl Int)):Bool :=
  (cond (s32 bv0 (⟨3, zfL (zbw [(zbM (⟨(0:Int), (0:Int)⟩ : Span)), (zbM (⟨(5:Int), (8:Int)⟩ : Span)), (zbM (⟨(3:Int), (9:Int)⟩ : Span))])⟩ : (Sl Span)))
 (cond (s53 cv1 (⟨1, fun _ => (⟨(2:Int), true⟩ : Use)⟩ : (Sl Use)))
 (cond (s25 vv2 (⟨3, zar (zbw [(enc_3 (0:Int)), (enc_3 (5:Int)), (enc_3 (8:Int))])⟩ : (Sl Int)))
 (cond (s53 xv4 (⟨2, zb6 (zbw [(enc_75 (⟨(2:Int), true⟩ : Use)), (enc_75 (⟨(3:Int), true⟩ : Use))])⟩ : (Sl Use)))
 (s25 lv5 (⟨1,fun _=>(2:Int)⟩:(Sl Int)))
 false)
 false)
 false)
 false)
def zz9 (bv0:(Sl Span)) (cv1:(Sl Use)) (vv2:(Sl Int)) (xv4:(Sl Use)) (lv5:(Sl Int)):Bool :=
  (decide ((p32 bv0 (⟨3,zfL (zbw [(zbM (⟨(0:Int),(0:Int)⟩:Span)),(zbM (⟨(5:Int),(8:Int)⟩:Span)),(zbM (⟨(3:Int),(9:Int)⟩:Span))])⟩:(Sl Span))=true)) &&
 (cond (s32 bv0 (⟨3, zfL (zbw [(zbM (⟨(0:Int), (0:Int)⟩ : Span)), (zbM (⟨(5:Int), (8:Int)⟩ : Span)), (zbM (⟨(3:Int), (9:Int)⟩ : Span))])⟩ : (Sl Span)))
 (decide ((p53 cv1 (⟨1,fun _=>(⟨(2:Int),true⟩:Use)⟩:(Sl Use))=true)) &&
 (cond (s53 cv1 (⟨1, fun _ => (⟨(2:Int), true⟩ : Use)⟩ : (Sl Use)))
 (decide ((p25 vv2 (⟨3,zar (zbw [(enc_3 (0:Int)),(enc_3 (5:Int)),(enc_3 (8:Int))])⟩:(Sl Int))=true)) &&
 (cond (s25 vv2 (⟨3, zar (zbw [(enc_3 (0:Int)), (enc_3 (5:Int)), (enc_3 (8:Int))])⟩ : (Sl Int)))
 (decide ((p53 xv4 (⟨2,zb6 (zbw [(enc_75 (⟨(2:Int),true⟩:Use)),(enc_75 (⟨(3:Int),true⟩:Use))])⟩:(Sl Use))=true)) &&
 (cond (s53 xv4 (⟨2, zb6 (zbw [(enc_75 (⟨(2:Int), true⟩ : Use)), (enc_75 (⟨(3:Int), true⟩ : Use))])⟩ : (Sl Use)))
 (decide ((p25 lv5 (⟨1,fun _=>(2:Int)⟩:(Sl Int))=true)) &&
 true)
 true))
 true))
 true))
 true))
theorem zGh (hs:zz9 bv0 cv1 vv2 xv4 lv5=true) (hk:K (e21 (zz8 bv0 cv1 vv2 xv4 lv5))):z21 K [1,1,1,1,1,1,1,1] [] ⟨[(1,zS zbM 2 bv0),(3,zS enc_75 2 cv1),(5,zS enc_3 1 vv2),(8,zS enc_75 2 xv4),(10,zS enc_3 1 lv5)],[],[]⟩:=zbd (by kernel_rfl) (za2 hs fun hc hs=>And.intro (And.intro (zE zbM 2 bv0.get) (And.intro ((zdo [(⟨(3:Int),(9:Int)⟩:Span)]):IsE zbM 2 2 (zbw [(zbM (⟨(0:Int),(0:Int)⟩:Span)),(zbM (⟨(5:Int),(8:Int)⟩:Span)),(zbM (⟨(3:Int),(9:Int)⟩:Span))])) hc)) (zc hs hk (fun hs hk=>(za2 hs fun hc hs=>And.intro (And.intro (zE enc_75 2 cv1.get) (And.intro (zxt:IsE enc_75 2 2 (fun _=>(enc_75 (⟨(2:Int),true⟩:Use)))) hc)) (zc hs hk (fun hs hk=>(za2 hs fun hc hs=>And.intro (And.intro (zE enc_3 1 vv2.get) (And.intro ((zdo [(8:Int)]):IsE enc_3 1 1 (zbw [(enc_3 (0:Int)),(enc_3 (5:Int)),(enc_3 (8:Int))])) hc)) (zc hs hk (fun hs hk=>(za2 hs fun hc hs=>And.intro (And.intro (zE enc_75 2 xv4.get) (And.intro ((zdo []):IsE enc_75 2 2 (zbw [(enc_75 (⟨(2:Int),true⟩:Use)),(enc_75 (⟨(3:Int),true⟩:Use))])) hc)) (zc hs hk (fun hs hk=>(za2 hs fun hc hs=>And.intro (And.intro (zE enc_3 1 lv5.get) (And.intro (zxt:IsE enc_3 1 1 (fun _=>(enc_3 (2:Int)))) hc)) hk)) (fun hs hk=>hk)))) (fun hs hk=>hk)))) (fun hs hk=>hk)))) (fun hs hk=>hk)))
def zAa (bv0:(Sl Span)) (ev0:Int) (cv1:(Sl Use)) (fv1:Int) (vv2:(Sl Int)) (gv2:Int) (xv4:(Sl Use)) (hv4:Int) (lv5:(Sl Int)) (iv5:Int):Bool :=
  (cond (ev0 != (0:Int))
 false
 (cond (fv1 != (0:Int))
 false
 (cond (gv2 != (0:Int))
 false
 (cond (hv4 != (0:Int))
 false
 (cond (iv5 != (0:Int))
 false
 (zz8 bv0 cv1 vv2 xv4 lv5))))))
def zAb (bv0:(Sl Span)) (ev0:Int) (cv1:(Sl Use)) (fv1:Int) (vv2:(Sl Int)) (gv2:Int) (xv4:(Sl Use)) (hv4:Int) (lv5:(Sl Int)) (iv5:Int):Bool :=
  (cond (ev0 != (0:Int))
 true
 (cond (fv1 != (0:Int))
 true
 (cond (gv2 != (0:Int))
 true
 (cond (hv4 != (0:Int))
 true
 (cond (iv5 != (0:Int))
 true
 (zz9 bv0 cv1 vv2 xv4 lv5))))))
theorem zGi (hs:zAb bv0 ev0 cv1 fv1 vv2 gv2 xv4 hv4 lv5 iv5=true) (hk:K (e21 (zAa bv0 ev0 cv1 fv1 vv2 gv2 xv4 hv4 lv5 iv5))) (zLO:zJJ=zg enc_3 lv5):z21 K [1,1,1,1,1,1,1] [] ⟨[(1,zS zbM 2 bv0),(2,zI ev0),(3,zS enc_75 2 cv1),(4,zI fv1),(5,zS enc_3 1 vv2),(6,zI gv2),(8,zS enc_75 2 xv4),(9,zI hv4),(10,zP (.sl lv5.len 1 zJJ)),(11,zI iv5)],[],[]⟩:=by subst zLO;exact zbd (by kernel_rfl) (zc hs hk (fun hs hk=>hk) (fun hs hk=>(zc hs hk (fun hs hk=>hk) (fun hs hk=>(zc hs hk (fun hs hk=>hk) (fun hs hk=>(zc hs hk (fun hs hk=>hk) (fun hs hk=>(zc hs hk (fun hs hk=>hk) (fun hs hk=>(zGh hs hk)))))))))))
def zAc (bv0:(Sl Span)) (ev0:Int) (cv1:(Sl Use)) (fv1:Int) (vv2:(Sl Int)) (gv2:Int) (zen:Int) (zdF:(Sl Tie)) (xv4:(Sl Use)) (hv4:Int):Bool :=
  (zAa bv0 ev0 cv1 fv1 vv2 gv2 xv4 hv4 ((s22 (⟨zen,zdF⟩:Net)).1) ((s22 (⟨zen,zdF⟩:Net)).2))
def zAd (bv0:(Sl Span)) (ev0:Int) (cv1:(Sl Use)) (fv1:Int) (vv2:(Sl Int)) (gv2:Int) (zen:Int) (zdF:(Sl Tie)) (xv4:(Sl Use)) (hv4:Int):Bool :=
  (decide ((p22 (⟨zen,zdF⟩:Net)=true)) &&
 (zAb bv0 ev0 cv1 fv1 vv2 gv2 xv4 hv4 ((s22 (⟨zen,zdF⟩:Net)).1) ((s22 (⟨zen,zdF⟩:Net)).2)))
theorem zGj (hs:zAd bv0 ev0 cv1 fv1 vv2 gv2 zen zdF xv4 hv4=true) (hk:K (e21 (zAc bv0 ev0 cv1 fv1 vv2 gv2 zen zdF xv4 hv4))) (zLP:zJI=zg enc_75 xv4):z21 K [1,1,1,1,1,1] [] ⟨[(1,zS zbM 2 bv0),(2,zI ev0),(3,zS enc_75 2 cv1),(4,zI fv1),(5,zS enc_3 1 vv2),(6,zI gv2),(7,zp 7 0),(8,zP (.sl xv4.len 2 zJI)),(9,zI hv4)],[(7,.box 24 (zm (enc_24 (⟨zen,zdF⟩:Net))))],[]⟩:=by subst zLP;exact zbd (by kernel_rfl) (za2 hs fun hc hs=>And.intro (And.intro (zE enc_40 4 zdF.get) hc) (zGi hs hk rfl))
def zAe (bv0:(Sl Span)) (ev0:Int) (cv1:(Sl Use)) (fv1:Int) (vv2:(Sl Int)) (gv2:Int) (zen:Int) (zdF:(Sl Tie)):Bool :=
  (zAc bv0 ev0 cv1 fv1 vv2 gv2 zen zdF ((s49 (⟨zen,zdF⟩:Net)).1) ((s49 (⟨zen,zdF⟩:Net)).2))
def zAf (bv0:(Sl Span)) (ev0:Int) (cv1:(Sl Use)) (fv1:Int) (vv2:(Sl Int)) (gv2:Int) (zen:Int) (zdF:(Sl Tie)):Bool :=
  (decide ((p49 (⟨zen,zdF⟩:Net)=true)) &&
 (zAd bv0 ev0 cv1 fv1 vv2 gv2 zen zdF ((s49 (⟨zen,zdF⟩:Net)).1) ((s49 (⟨zen,zdF⟩:Net)).2)))
theorem zGk (hs:zAf bv0 ev0 cv1 fv1 vv2 gv2 zen zdF=true) (hk:K (e21 (zAe bv0 ev0 cv1 fv1 vv2 gv2 zen zdF))) (zGl:zz7=zg enc_40 zdF):z21 K [1,1,1,1,1] [] ⟨[(1,zS zbM 2 bv0),(2,zI ev0),(3,zS enc_75 2 cv1),(4,zI fv1),(5,zS enc_3 1 vv2),(6,zI gv2),(7,zp 7 0)],[(7,.box 24 [zi zen,.p (.sl zdF.len 4 zz7)])],[]⟩:=by subst zGl;exact zbd (by kernel_rfl) (za2 hs fun hc hs=>And.intro (And.intro (zE enc_40 4 zdF.get) hc) (zGj hs hk rfl))
def zAg (bv0:(Sl Span)) (ev0:Int) (cv1:(Sl Use)) (fv1:Int) (vv2:(Sl Int)) (gv2:Int):Bool :=
  (zAe bv0 ev0 cv1 fv1 vv2 gv2 ((s29 s66 (⟨(0:Int),(2:Int),(10:Int),(12:Int)⟩:Tie)).Nodes) ((s29 s66 (⟨(0:Int),(2:Int),(10:Int),(12:Int)⟩:Tie)).Ties))
def zAh (bv0:(Sl Span)) (ev0:Int) (cv1:(Sl Use)) (fv1:Int) (vv2:(Sl Int)) (gv2:Int):Bool :=
  (decide ((p29 s66 (⟨(0:Int),(2:Int),(10:Int),(12:Int)⟩:Tie)=true)) &&
 (zAf bv0 ev0 cv1 fv1 vv2 gv2 ((s29 s66 (⟨(0:Int),(2:Int),(10:Int),(12:Int)⟩:Tie)).Nodes) ((s29 s66 (⟨(0:Int),(2:Int),(10:Int),(12:Int)⟩:Tie)).Ties)))
theorem zGm (hs:zAh bv0 ev0 cv1 fv1 vv2 gv2=true) (hk:K (e21 (zAg bv0 ev0 cv1 fv1 vv2 gv2))) (zLQ:zJH=zg enc_3 vv2):z21 K [1,1,1,1] [] ⟨[(1,zS zbM 2 bv0),(2,zI ev0),(3,zS enc_75 2 cv1),(4,zI fv1),(5,zP (.sl vv2.len 1 zJH)),(6,zI gv2)],[],[]⟩:=by subst zLQ;exact zbd (by kernel_rfl) (za2 hs fun hc hs=>And.intro (And.intro (zE enc_40 4 s66.Ties.get) hc) (zGk hs hk rfl))
def zAi (bv0:(Sl Span)) (ev0:Int) (cv1:(Sl Use)) (fv1:Int):Bool :=
  (zAg bv0 ev0 cv1 fv1 ((s45 s66 (1:Int) (0:Int)).1) ((s45 s66 (1:Int) (0:Int)).2))
def zAj (bv0:(Sl Span)) (ev0:Int) (cv1:(Sl Use)) (fv1:Int):Bool :=
  (decide ((p45 s66 (1:Int) (0:Int)=true)) &&
 (zAh bv0 ev0 cv1 fv1 ((s45 s66 (1:Int) (0:Int)).1) ((s45 s66 (1:Int) (0:Int)).2)))
theorem zGn (hs:zAj bv0 ev0 cv1 fv1=true) (hk:K (e21 (zAi bv0 ev0 cv1 fv1))) (zLR:zJG=zg enc_75 cv1):z21 K [1,1,1] [] ⟨[(1,zS zbM 2 bv0),(2,zI ev0),(3,zP (.sl cv1.len 2 zJG)),(4,zI fv1)],[],[]⟩:=by subst zLR;exact zbd (by kernel_rfl) (za2 hs fun hc hs=>And.intro (And.intro (zE enc_40 4 s66.Ties.get) hc) (zGm hs hk rfl))
def zAk (bv0:(Sl Span)) (ev0:Int):Bool :=
  (zAi bv0 ev0 ((s54 s66 (0:Int) (2:Int)).1) ((s54 s66 (0:Int) (2:Int)).2))
def zAl (bv0:(Sl Span)) (ev0:Int):Bool :=
  (decide ((p54 s66 (0:Int) (2:Int)=true)) &&
 (zAj bv0 ev0 ((s54 s66 (0:Int) (2:Int)).1) ((s54 s66 (0:Int) (2:Int)).2)))
theorem zGo (hs:zAl bv0 ev0=true) (hk:K (e21 (zAk bv0 ev0))) (zLS:zJF=zg zbM bv0):z21 K [1,1] [] ⟨[(1,zP (.sl bv0.len 2 zJF)),(2,zI ev0)],[],[]⟩:=by subst zLS;exact zbd (by kernel_rfl) (za2 hs fun hc hs=>And.intro (And.intro (zE enc_40 4 s66.Ties.get) hc) (zGn hs hk rfl))
def s21:Bool :=
  (zAk ((s26 s66).1) ((s26 s66).2))
def p21:Bool :=
  (decide ((p26 s66=true)) &&
 (zAl ((s26 s66).1) ((s26 s66).2)))
end
theorem q21 (K:List PA→Prop) (hs:p21=true) (hk:K (e21 (s21))):vcFun Tryd.prog G21 zGg 21 [] K :=
  zbd (by kernel_rfl) (za2 hs fun hc hs=>And.intro (And.intro (zE enc_40 4 s66.Ties.get) hc) (zGo hs hk rfl))
theorem zJK:p21=true:=by kernel_rfl
theorem zJL:s21=true:=by kernel_rfl
def zGp : List PA → COut
  | []=>.tot [.one (.bool true)]
  | _=>.no
theorem zJM:zaw Tryd.prog 21:=⟨_,rfl,rfl,by kernel_rfl⟩
theorem zNu:Ok Tryd.prog 21 zGp:=zbF zLN zJM fun args K h=>by
  unfold zGp at h
  split at h
  · refine ⟨fun _ _ => [], fun _ => false, zGg, q21 K zJK ?_⟩
    show K [.one (.bool s21)]
    rw [zJL];exact h
  · exact h.elim
abbrev T20:Tabs:=Tabs.nil
theorem zLT:TabsOk Tryd.prog T20:=TabsOk.nil
abbrev G20:Ctrs:=csm T20 (fun _ _=>[]) (fun _=>false)
def zJN:Ann:=⟨32,[(0,zK [1,2] [2]),(1,zK [4] [])],
 [],
 [],
 [],[]⟩
abbrev R20:=Bool
abbrev e20 (r:R20):List PA:=[.one (.bool r)]
section
variable {K:List PA→Prop} {n:Net} {ties:Int}
def s20 (n:Net) (ties:Int):Bool :=
  (cond (decide (n.Nodes ≤ (7:Int)))
 (cond (decide ((n.Ties.len : Int) ≤ ties))
 true
 (cond (decide ((n.Ties.len : Int) > (200:Int)))
 (decide ((n.Ties.len:Int)≤(210:Int)))
 false))
 (cond (decide (n.Nodes > (40:Int)))
 (cond (decide ((n.Ties.len : Int) ≤ ties))
 true
 (cond (decide ((n.Ties.len : Int) > (200:Int)))
 (decide ((n.Ties.len:Int)≤(210:Int)))
 false))
 false))
end
theorem q20 (n:Net) (ties:Int) (K:List PA→Prop) (hk:K (e20 (s20 n ties))):vcFun Tryd.prog G20 zJN 20 [.agg (enc_24 n),.one (.int .i64 ties)] K :=
  zbd (by kernel_rfl) (zt hk (fun hk=>(zt hk (fun hk=>hk) (fun hk=>(zt hk (fun hk=>hk) (fun hk=>hk))))) (fun hk=>(zt hk (fun hk=>(zt hk (fun hk=>hk) (fun hk=>(zt hk (fun hk=>hk) (fun hk=>hk))))) (fun hk=>hk))))
def zGq : List PA → COut
  | [.agg [.int .i64 zah,.sl zad zaz zac],.one (.int .i64 a1)]=>.det (IsE enc_40 4 zaz zac) [.one (.bool (s20 (⟨zah,(⟨zad,zal zac⟩:(Sl Tie))⟩:Net) a1))]
  | _=>.no
theorem zJO:zaw Tryd.prog 20:=⟨_,rfl,rfl,by kernel_rfl⟩
theorem zNv:Ok Tryd.prog 20 zGq:=zbF zLT zJO fun args K h=>by
  unfold zGq at h
  split at h
  · rename_i zah zad zaz zac a1
    obtain ⟨⟨rfl,zaq,rfl⟩,hk⟩:=h
    try rw [zam zaq] at hk
    exact ⟨(fun _ _=>[]),(fun _=>false),zJN,q20 (⟨zah,(⟨zad,zaq⟩:(Sl Tie))⟩:Net) a1 K hk⟩
  · exact h.elim
abbrev T39:Tabs:=Tabs.nil
theorem zLU:TabsOk Tryd.prog T39:=TabsOk.nil
abbrev G39:Ctrs:=csm T39 (fun _ _=>[]) (fun _=>false)
def zJP:Ann:=⟨37,[(0,zK [1,2] [2]),(1,zK [2,5] [2]),(2,zK [4] [])],
 [],
 [],
 [],[]⟩
abbrev R39:=Bool
abbrev e39 (r:R39):List PA:=[.one (.bool r)]
section
variable {K:List PA→Prop} {t:Tie} {values:(Sl Int)}
def s39 (t:Tie) (values:(Sl Int)):Bool :=
  (cond (t.Low == (-1000000000000:Int))
 (cond (t.High == (1000000000000:Int))
 true
 (decide ((w64 ((values.get t.To.toNat) - (values.get t.From.toNat)))≤t.High)))
 (cond (decide ((w64 ((values.get t.To.toNat) - (values.get t.From.toNat))) ≥ t.Low))
 (cond (t.High == (1000000000000:Int))
 true
 (decide ((w64 ((values.get t.To.toNat) - (values.get t.From.toNat)))≤t.High)))
 false))
def p39 (t:Tie) (values:(Sl Int)):Bool :=
  (decide ((0≤t.To∧t.To < (values.len:Int))) &&
 (decide ((0≤t.From∧t.From < (values.len:Int))) &&
 true))
end
theorem q39 (t:Tie) (values:(Sl Int)) (K:List PA→Prop) (hs:p39 t values=true) (hk:K (e39 (s39 t values))):vcFun Tryd.prog G39 zJP 39 [.agg (enc_40 t),.one (.sl values.len 1 (fun i=>enc_3 (values.get i)))] K :=
  zbd (by kernel_rfl) (za2 hs fun hc hs=>And.intro hc (za2 hs fun hc hs=>And.intro hc (zt hk (fun hk=>(zt hk (fun hk=>hk) (fun hk=>hk))) (fun hk=>(zt hk (fun hk=>(zt hk (fun hk=>hk) (fun hk=>hk))) (fun hk=>hk))))))
def zGr : List PA → COut
  | [.agg [.int .i64 zfM,.int .i64 zpm,.int .i64 zjf,.int .i64 zfN],.one (.sl zd2 ziD zdU)]=>.det (IsE enc_3 1 ziD zdU∧p39 (⟨zfM,zpm,zjf,zfN⟩:Tie) (⟨zd2,zar zdU⟩:(Sl Int))=true) [.one (.bool (s39 (⟨zfM,zpm,zjf,zfN⟩:Tie) (⟨zd2,zar zdU⟩:(Sl Int))))]
  | _=>.no
theorem zJQ:zaw Tryd.prog 39:=⟨_,rfl,rfl,by kernel_rfl⟩
theorem zNw:Ok Tryd.prog 39 zGr:=zbF zLU zJQ fun args K h=>by
  unfold zGr at h
  split at h
  · rename_i zfM zpm zjf zfN zd2 ziD zdU
    obtain ⟨⟨⟨rfl,zfX,rfl⟩,hs⟩,hk⟩:=h
    try rw [zbm zfX] at hs
    try rw [zbm zfX] at hk
    exact ⟨(fun _ _=>[]),(fun _=>false),zJP,q39 (⟨zfM,zpm,zjf,zfN⟩:Tie) (⟨zd2,zfX⟩:(Sl Int)) K hs hk⟩
  · exact h.elim
abbrev T72:Tabs:=Tabs.nil
theorem zLV:TabsOk Tryd.prog T72:=TabsOk.nil
abbrev G72:Ctrs:=csm T72 (fun _ _=>[]) (fun _=>false)
def zJR:Ann:=⟨15,[(0,zK [0,1,2] []),(1,zK [6] [])],
 [],
 [],
 [],[]⟩
abbrev R72:=Bool
abbrev e72 (r:R72):List PA:=[.one (.bool r)]
section
variable {K:List PA→Prop} {x:Int} {low:Int} {high:Int}
def s72 (x:Int) (low:Int) (high:Int):Bool :=
  (cond (decide (x ≥ low))
 (decide (x≤high))
 false)
end
theorem q72 (x:Int) (low:Int) (high:Int) (K:List PA→Prop) (hk:K (e72 (s72 x low high))):vcFun Tryd.prog G72 zJR 72 [.one (.int .i64 x),.one (.int .i64 low),.one (.int .i64 high)] K :=
  zbd (by kernel_rfl) (zt hk (fun hk=>hk) (fun hk=>hk))
def zvO : List PA → COut
  | [.one (.int .i64 a0),.one (.int .i64 a1),.one (.int .i64 a2)]=>.tot [.one (.bool (s72 a0 a1 a2))]
  | _=>.no
theorem zJS:zaw Tryd.prog 72:=⟨_,rfl,rfl,by kernel_rfl⟩
theorem zKK:Ok Tryd.prog 72 zvO:=zbF zLV zJS fun args K h=>by
  unfold zvO at h
  split at h
  · rename_i a0 a1 a2
    have hk:=h
    exact ⟨(fun _ _=>[]),(fun _=>false),zJR,q72 a0 a1 a2 K hk⟩
  · exact h.elim
abbrev T80:Tabs:=(Tabs.nil.addF 72 zvO)
theorem zLW:TabsOk Tryd.prog T80:=(TabsOk.nil.addF zKK)
abbrev G80:Ctrs:=csm T80 (fun _ _=>[]) (fun _=>false)
def zGs:Ann:=⟨29,[(0,zK [1,2] [2]),(1,zK [1,16] []),(2,zK [4] []),(3,zK [1,5] []),(4,zK [1,5,20] []),(5,zK [1,5] []),(6,zK [1,5,28] []),(7,zK [4] []),(8,zK [4] [])],
 [(4,zK [1,5] [])],
 [(3,zK [1] []),(7,zK [1,5,28] [])],
 [],[]⟩
abbrev R80:=Bool
abbrev e80 (r:R80):List PA:=[.one (.bool r)]
@[irreducible] def z80:=ptF Tryd.prog G80 zGs Tryd.f80
def zDs (values:(Sl Int)) (iv1:Int):St:=⟨[(1,zS enc_3 1 values),(5,zI iv1)],[],[]⟩
abbrev zGt (K:List PA→Prop) (values:(Sl Int)) (X:St→Prop) (P:Int→Bool) (S:Int→Bool):Prop:=∀ ⦃iv1:Int⦄,P iv1=true→K (e80 (S iv1))→X (zDs values iv1)
section
variable {K:List PA→Prop} {n:Net} {values:(Sl Int)} {iv1:Int} {X1:St→Prop} {P1:Int→Bool} {S1:Int→Bool} {iv2:Int} {zp2:Bool}
def zsp (S1:Int→Bool) (values:(Sl Int)) (iv2:Int) (zp2:Bool):Bool :=
  (cond zp2
 false
 (S1 (w64 (iv2+(1:Int)))))
def zsq (P1:Int→Bool) (values:(Sl Int)) (iv2:Int) (zp2:Bool):Bool :=
  (cond zp2
 true
 (P1 (w64 (iv2+(1:Int)))))
theorem zGu (hX1:zGt K values X1 P1 S1) (hs:zsq P1 values iv2 zp2=true) (hk:K (e80 (zsp S1 values iv2 zp2))):z80 K [1,1,0,1,0,0,1,0,0,1] [X1] ⟨[(1,zS enc_3 1 values),(5,zI iv2),(28,zB zp2)],[],[]⟩:=zbd (by kernel_rfl) (zc hs hk (fun hs hk=>hk) (fun hs hk=>(hX1 hs hk)))
def ziN (values:(Sl Int)) (S1:Int→Bool) (iv1:Int):Bool :=
  (cond (decide (iv1 < (values.len : Int)))
 (zsp S1 values iv1 (!(s72 (values.get iv1.toNat) (-1000000000000:Int) (1000000000000:Int))))
 true)
def ziO (values:(Sl Int)) (P1:Int→Bool) (iv1:Int):Bool :=
  (cond (decide (iv1 < (values.len : Int)))
 (decide ((0≤iv1∧iv1 < (values.len:Int))) &&
 (zsq P1 values iv1 (!(s72 (values.get iv1.toNat) (-1000000000000:Int) (1000000000000:Int)))))
 true)
def zhl (values:(Sl Int)):Nat→Int→Bool:=lpO (fun _=>default) (ziN values)
def ziP (values:(Sl Int)):Nat→Int→Bool:=lpO (fun _=>false) (ziO values)
def zsr (values:(Sl Int)) (iv1:Int):Bool:=zhl values Fuel iv1
def zss (values:(Sl Int)) (iv1:Int):Bool:=ziP values Fuel iv1
theorem zGv (hs:zss values iv1=true) (hk:K (e80 (zsr values iv1))):z80 K [1,1,0,1,0] [] (zDs values iv1) :=
  zl (fun X=>z80 K [1,1,0,1,0,0] [X]) (by kernel_rfl) fun X1 hX =>
  (show ∀ k, zGt K values X1 (ziP values k) (zhl values k) from zjH _ _ (ziO values) (ziN values) (zGt K values X1)
 (by intro _ hs;exact absurd hs Bool.false_ne_true)
 (by intro P1 S1 hX1 iv1 hs hk;exact hX _ (zbd (by kernel_rfl) (zc hs hk (fun hs hk=>(za2 hs fun hc hs=>And.intro hc (zGu hX1 hs hk))) (fun hs hk=>hk))))) _ hs hk
def zst (values:(Sl Int)):Bool :=
  (zsr values (0:Int))
def zsu (values:(Sl Int)):Bool :=
  (zss values (0:Int))
theorem zGw (hs:zsu values=true) (hk:K (e80 (zst values))):z80 K [1,1] [] ⟨[(1,zS enc_3 1 values)],[],[]⟩:=zbd (by kernel_rfl) (zGv hs hk)
def s80 (n:Net) (values:(Sl Int)):Bool :=
  (cond ((values.len : Int) != n.Nodes)
 false
 (cond ((values.get 0) != (0:Int))
 false
 (zst values)))
def p80 (n:Net) (values:(Sl Int)):Bool :=
  (cond ((values.len : Int) != n.Nodes)
 true
 (decide ((0≤(0:Int)∧(0:Int) < (values.len:Int))) &&
 (cond ((values.get 0) != (0:Int))
 true
 (zsu values))))
end
theorem q80 (n:Net) (values:(Sl Int)) (K:List PA→Prop) (hs:p80 n values=true) (hk:K (e80 (s80 n values))):vcFun Tryd.prog G80 zGs 80 [.agg (enc_24 n),.one (.sl values.len 1 (fun i=>enc_3 (values.get i)))] K :=
  zbd (by kernel_rfl) (zc hs hk (fun hs hk=>hk) (fun hs hk=>(za2 hs fun hc hs=>And.intro hc (zc hs hk (fun hs hk=>hk) (fun hs hk=>(zGw hs hk))))))
def zGx : List PA → COut
  | [.agg [.int .i64 zah,.sl zad zaz zac],.one (.sl zd2 ziD zdU)]=>.det (IsE enc_40 4 zaz zac∧IsE enc_3 1 ziD zdU∧p80 (⟨zah,(⟨zad,zal zac⟩:(Sl Tie))⟩:Net) (⟨zd2,zar zdU⟩:(Sl Int))=true) [.one (.bool (s80 (⟨zah,(⟨zad,zal zac⟩:(Sl Tie))⟩:Net) (⟨zd2,zar zdU⟩:(Sl Int))))]
  | _=>.no
theorem zJT:zaw Tryd.prog 80:=⟨_,rfl,rfl,by kernel_rfl⟩
theorem zNx:Ok Tryd.prog 80 zGx:=zbF zLW zJT fun args K h=>by
  unfold zGx at h
  split at h
  · rename_i zah zad zaz zac zd2 ziD zdU
    obtain ⟨⟨⟨rfl,zaq,rfl⟩,⟨rfl,zfX,rfl⟩,hs⟩,hk⟩:=h
    try rw [zam zaq] at hs
    try rw [zam zaq] at hk
    try rw [zbm zfX] at hs
    try rw [zbm zfX] at hk
    exact ⟨(fun _ _=>[]),(fun _=>false),zGs,q80 (⟨zah,(⟨zad,zaq⟩:(Sl Tie))⟩:Net) (⟨zd2,zfX⟩:(Sl Int)) K hs hk⟩
  · exact h.elim
abbrev T38:Tabs:=((Tabs.nil.addF 39 zGr).addF 80 zGx)
theorem zLX:TabsOk Tryd.prog T38:=((TabsOk.nil.addF zNw).addF zNx)
abbrev G38:Ctrs:=csm T38 (fun _ _=>[]) (fun _=>false)
def zGy:Ann:=⟨25,[(0,zK [1,2] [2]),(1,zK [1,2,9] [2]),(2,zK [4] []),(3,zK [1,2,5] [2]),(4,zK [1,2,5,14] [2]),(5,zK [1,2,5] [2]),(6,zK [1,2,5,24] [2]),(7,zK [4] []),(8,zK [4] [])],
 [(4,zK [1,2,5] [2])],
 [(2,zK [1,2,9] [2]),(3,zK [1,2] [2]),(7,zK [1,2,5,24] [2])],
 [],[]⟩
abbrev R38:=Bool
abbrev e38 (r:R38):List PA:=[.one (.bool r)]
@[irreducible] def z38:=ptF Tryd.prog G38 zGy Tryd.f38
def zDt (n:Net) (values:(Sl Int)) (iv2:Int):St:=⟨[(1,zS enc_3 1 values),(2,zp 2 0),(5,zI iv2)],[(2,.box 24 (zm (enc_24 n)))],[]⟩
abbrev zGz (K:List PA→Prop) (n:Net) (values:(Sl Int)) (X:St→Prop) (P:Int→Bool) (S:Int→Bool):Prop:=∀ ⦃iv2:Int⦄,P iv2=true→K (e38 (S iv2))→X (zDt n values iv2)
section
variable {K:List PA→Prop} {n:Net} {values:(Sl Int)} {zhc:Bool} {iv2:Int} {X2:St→Prop} {P2:Int→Bool} {S2:Int→Bool} {iv3:Int} {zsv:Bool}
def zsw (S2:Int→Bool) (n:Net) (values:(Sl Int)) (iv3:Int) (zsv:Bool):Bool :=
  (cond zsv
 false
 (S2 (w64 (iv3+(1:Int)))))
def zsx (P2:Int→Bool) (n:Net) (values:(Sl Int)) (iv3:Int) (zsv:Bool):Bool :=
  (cond zsv
 true
 (P2 (w64 (iv3+(1:Int)))))
theorem zGA (hX2:zGz K n values X2 P2 S2) (hs:zsx P2 n values iv3 zsv=true) (hk:K (e38 (zsw S2 n values iv3 zsv))):z38 K [1,1,0,1,0,0,1,0,0,1] [X2] ⟨[(1,zS enc_3 1 values),(2,zp 2 0),(5,zI iv3),(24,zB zsv)],[(2,.box 24 (zm (enc_24 n)))],[]⟩:=zbd (by kernel_rfl) (zc hs hk (fun hs hk=>hk) (fun hs hk=>(hX2 hs hk)))
def ziQ (n:Net) (values:(Sl Int)) (S2:Int→Bool) (iv2:Int):Bool :=
  (cond (decide (iv2 < (n.Ties.len : Int)))
 (zsw S2 n values iv2 (!(s39 (n.Ties.get iv2.toNat) values)))
 true)
def ziR (n:Net) (values:(Sl Int)) (P2:Int→Bool) (iv2:Int):Bool :=
  (cond (decide (iv2 < (n.Ties.len : Int)))
 (decide ((0≤iv2∧iv2 < (n.Ties.len:Int))) &&
 (decide ((p39 (n.Ties.get iv2.toNat) values=true)) &&
 (zsx P2 n values iv2 (!(s39 (n.Ties.get iv2.toNat) values)))))
 true)
def ziS (n:Net) (values:(Sl Int)):Nat→Int→Bool:=lpO (fun _=>default) (ziQ n values)
def ziT (n:Net) (values:(Sl Int)):Nat→Int→Bool:=lpO (fun _=>false) (ziR n values)
def zsy (n:Net) (values:(Sl Int)) (iv2:Int):Bool:=ziS n values Fuel iv2
def zsz (n:Net) (values:(Sl Int)) (iv2:Int):Bool:=ziT n values Fuel iv2
theorem zGB (hs:zsz n values iv2=true) (hk:K (e38 (zsy n values iv2))):z38 K [1,1,0,1,0] [] (zDt n values iv2) :=
  zl (fun X=>z38 K [1,1,0,1,0,0] [X]) (by kernel_rfl) fun X2 hX =>
  (show ∀ k, zGz K n values X2 (ziT n values k) (ziS n values k) from zjH _ _ (ziR n values) (ziQ n values) (zGz K n values X2)
 (by intro _ hs;exact absurd hs Bool.false_ne_true)
 (by intro P2 S2 hX2 iv2 hs hk;exact hX _ (zbd (by kernel_rfl) (zc hs hk (fun hs hk=>(za2 hs fun hc hs=>And.intro hc (za2 hs fun hc hs=>And.intro (And.intro (zE enc_3 1 values.get) hc) (zGA hX2 hs hk)))) (fun hs hk=>hk))))) _ hs hk
def zsA (n:Net) (values:(Sl Int)):Bool :=
  (zsy n values (0:Int))
def zsB (n:Net) (values:(Sl Int)):Bool :=
  (zsz n values (0:Int))
theorem zGC (hs:zsB n values=true) (hk:K (e38 (zsA n values))):z38 K [1,1] [] ⟨[(1,zS enc_3 1 values),(2,zp 2 0)],[(2,.box 24 (zm (enc_24 n)))],[]⟩:=zbd (by kernel_rfl) (zGB hs hk)
def zsC (n:Net) (values:(Sl Int)) (zhc:Bool):Bool :=
  (cond zhc
 false
 (zsA n values))
def zsD (n:Net) (values:(Sl Int)) (zhc:Bool):Bool :=
  (cond zhc
 true
 (zsB n values))
theorem zGD (hs:zsD n values zhc=true) (hk:K (e38 (zsC n values zhc))):z38 K [1,0,1] [] ⟨[(1,zS enc_3 1 values),(2,zp 2 0),(9,zB zhc)],[(2,.box 24 (zm (enc_24 n)))],[]⟩:=zbd (by kernel_rfl) (zc hs hk (fun hs hk=>hk) (fun hs hk=>(zGC hs hk)))
def s38 (n:Net) (values:(Sl Int)):Bool :=
  (zsC n values (!(s80 n values)))
def p38 (n:Net) (values:(Sl Int)):Bool :=
  (decide ((p80 n values=true)) &&
 (zsD n values (!(s80 n values))))
end
theorem q38 (n:Net) (values:(Sl Int)) (K:List PA→Prop) (hs:p38 n values=true) (hk:K (e38 (s38 n values))):vcFun Tryd.prog G38 zGy 38 [.agg (enc_24 n),.one (.sl values.len 1 (fun i=>enc_3 (values.get i)))] K :=
  zbd (by kernel_rfl) (za2 hs fun hc hs=>And.intro (And.intro (zE enc_40 4 n.Ties.get) (And.intro (zE enc_3 1 values.get) hc)) (zGD hs hk))
def zGE : List PA → COut
  | [.agg [.int .i64 zah,.sl zad zaz zac],.one (.sl zd2 ziD zdU)]=>.det (IsE enc_40 4 zaz zac∧IsE enc_3 1 ziD zdU∧p38 (⟨zah,(⟨zad,zal zac⟩:(Sl Tie))⟩:Net) (⟨zd2,zar zdU⟩:(Sl Int))=true) [.one (.bool (s38 (⟨zah,(⟨zad,zal zac⟩:(Sl Tie))⟩:Net) (⟨zd2,zar zdU⟩:(Sl Int))))]
  | _=>.no
theorem zJU:zaw Tryd.prog 38:=⟨_,rfl,rfl,by kernel_rfl⟩
theorem zNy:Ok Tryd.prog 38 zGE:=zbF zLX zJU fun args K h=>by
  unfold zGE at h
  split at h
  · rename_i zah zad zaz zac zd2 ziD zdU
    obtain ⟨⟨⟨rfl,zaq,rfl⟩,⟨rfl,zfX,rfl⟩,hs⟩,hk⟩:=h
    try rw [zam zaq] at hs
    try rw [zam zaq] at hk
    try rw [zbm zfX] at hs
    try rw [zbm zfX] at hk
    exact ⟨(fun _ _=>[]),(fun _=>false),zGy,q38 (⟨zah,(⟨zad,zaq⟩:(Sl Tie))⟩:Net) (⟨zd2,zfX⟩:(Sl Int)) K hs hk⟩
  · exact h.elim
abbrev T56:Tabs:=((((Tabs.nil.addF 67 zvy).addF 81 zvx).addF 94 zBW).addF 95 zBX)
theorem zLY:TabsOk Tryd.prog T56:=((((TabsOk.nil.addF zKC).addF zKB).addF zMm).addF zMn)
abbrev G56:Ctrs:=csm T56 (fun _ _=>[]) (fun _=>false)
def zGF:Ann:=⟨85,[(0,zK [1,2,3] [3]),(1,zK [1,2,3,31] [3]),(2,zK [6,7,8] []),(3,zK [2,3,9,10] [3]),(4,zK [3,9,10,33,34,35] [3]),(5,zK [3,9,10,33,34,35,36] [3]),(6,zK [3,9,10,12,33,34,35] [3,12]),(7,zK [3,9,10,12,33,34,35,46] [3,12]),(8,zK [6,7,8] []),(9,zK [3,9,10,12,13,33,34,35] [3,12,13]),(10,zK [3,9,10,12,13,14,15,33,34,35] [3,12,13,14]),(11,zK [3,9,10,13,14,15,33,34,35,62] [3,13,14]),(12,zK [3,9,10,14,15,33,34,35] [3,14]),(13,zK [3,10,14,33,34,35,75] [3,14]),(14,zK [6,7,8] []),(15,zK [3,9,10,33,34,35] [3]),(16,zK [3,9,10,33,34,35] [3]),(17,zK [6,7,8] [])],
 [(5,zK [3,9,10,33,34,35] [3])],
 [(2,zK [1,2,3,31] [3]),(3,zK [1,2,3] [3]),(8,zK [3,9,10,12,33,34,35,46] [3,12]),(9,zK [3,9,10,12,33,34,35] [3,12]),(11,zK [3,9,10,12,13,14,15,33,34,35] [3,12,13,14]),(13,zK [3,9,10,14,15,33,34,35] [3,14])],
 [],[]⟩
abbrev R56:=(Int×Int×Bool)
abbrev e56 (r:R56):List PA:=[.one (.int .i64 r.1),.one (.int .i64 r.2.1),.one (.bool r.2.2)]
@[irreducible] def z56:=ptF Tryd.prog G56 zGF Tryd.f56
def zDu (n:Net) (chain:(Sl Use)) (zcz:Int) (zay:Int) (zdh:Int):St:=⟨[(3,zp 3 0),(9,zI zcz),(10,zI zay),(33,zS enc_75 2 chain),(34,zI (chain.len:Int)),(35,zI zdh)],[(3,.box 24 (zm (enc_24 n)))],[]⟩
abbrev zvP (K:List PA→Prop) (n:Net) (chain:(Sl Use)) (X:St→Prop) (P:Int→Int→Int→Bool) (S:Int→Int→Int→(Int×Int×Bool)):Prop:=∀ ⦃zcz:Int⦄ ⦃zay:Int⦄ ⦃zdh:Int⦄,P zcz zay zdh=true→K (e56 (S zcz zay zdh))→X (zDu n chain zcz zay zdh)
section
variable {K:List PA→Prop} {n:Net} {from_a1:Int} {chain:(Sl Use)} {zsE:Bool} {zcz:Int} {zay:Int} {zdh:Int} {X2:St→Prop} {P2:Int→Int→Int→Bool} {S2:Int→Int→Int→(Int×Int×Bool)} {ziU:Int} {zbt:Int} {zsF:Int} {zsG:Bool} {zsH:Int} {zsI:Bool} {zgE:Int} {za5:Int} {zsJ:Int} {zcj:Int} {zsK:Bool} {zCs:Int} {zdW:Int} {zGG:Bool} {zn9:Int} {zAm:Int} {zsL:Bool} {zgc:Int} {zgd:Int} {zge:Int} {zgf:Int} {zgg:Int} {zsM:Int} {zsN:Bool} {zsO:Int} {zsP:Int} {zsQ:Int} {zdp:Int} {zaJ:Int} {zGH:Bool} {zsR:Int} {zAn:Int} {zAo:Bool} {zsS:Int} {zsU:Int} {zsV:Int}
def zoa (S2:Int→Int→Int→(Int×Int×Bool)) (n:Net) (chain:(Sl Use)) (zdp:Int) (zaJ:Int) (zGH:Bool) (zsR:Int) (zAn:Int) (zAo:Bool) (zsS:Int) (zsU:Int) (zsV:Int):(Int×Int×Bool) :=
  (cond (!zGH)
 ((0:Int),(0:Int),false)
 (cond (zsS != zdp)
 ((0:Int),(0:Int),false)
 (S2 zsU (w64 (zaJ+zsV)) (w64 (zsR+(1:Int))))))
def zob (P2:Int→Int→Int→Bool) (n:Net) (chain:(Sl Use)) (zdp:Int) (zaJ:Int) (zGH:Bool) (zsR:Int) (zAn:Int) (zAo:Bool) (zsS:Int) (zsU:Int) (zsV:Int):Bool :=
  (cond (!zGH)
 true
 (cond (zsS != zdp)
 true
 (P2 zsU (w64 (zaJ+zsV)) (w64 (zsR+(1:Int))))))
theorem zAp (hX2:zvP K n chain X2 P2 S2) (hs:zob P2 n chain zdp zaJ zGH zsR zAn zAo zsS zsU zsV=true) (hk:K (e56 (zoa S2 n chain zdp zaJ zGH zsR zAn zAo zsS zsU zsV))):z56 K [1,1,1,0,1,0,0,1,1,0,0,1,1,1,1,1] [X2] ⟨[(3,zp 3 0),(9,zI zdp),(10,zI zaJ),(14,zp 14 0),(15,zB zGH),(33,zS enc_75 2 chain),(34,zI (chain.len:Int)),(35,zI zsR)],[(3,.box 24 (zm (enc_24 n))),(14,.box 130 (zm (zaf (⟨(⟨zAn,zAo⟩:Use),zsS,zsU,zsV⟩:step))))],[]⟩:=zbd (by kernel_rfl) (zc hs hk (fun hs hk=>hk) (fun hs hk=>(zc hs hk (fun hs hk=>hk) (fun hs hk=>(hX2 hs hk)))))
def zsW (S2:Int→Int→Int→(Int×Int×Bool)) (n:Net) (chain:(Sl Use)) (zCs:Int) (zdW:Int) (zGG:Bool) (zn9:Int) (zAm:Int) (zsL:Bool) (zgc:Int) (zgd:Int) (zge:Int) (zgf:Int) (zgg:Int) (zsM:Int) (zsN:Bool) (zsO:Int) (zsP:Int) (zsQ:Int):(Int×Int×Bool) :=
  (cond zsL
 (zoa S2 n chain zCs zdW ((s95 (⟨(⟨zgc,zgd,zge,zgf⟩:Tie),zgg⟩:tie)).2) zn9 (((s95 (⟨(⟨zgc,zgd,zge,zgf⟩:Tie),zgg⟩:tie)).1).Use.Tie) (((s95 (⟨(⟨zgc,zgd,zge,zgf⟩:Tie),zgg⟩:tie)).1).Use.Back) (((s95 (⟨(⟨zgc,zgd,zge,zgf⟩:Tie),zgg⟩:tie)).1).from_) (((s95 (⟨(⟨zgc,zgd,zge,zgf⟩:Tie),zgg⟩:tie)).1).to) (((s95 (⟨(⟨zgc,zgd,zge,zgf⟩:Tie),zgg⟩:tie)).1).length))
 (zoa S2 n chain zCs zdW zGG zn9 zsM zsN zsO zsP zsQ))
def zsX (P2:Int→Int→Int→Bool) (n:Net) (chain:(Sl Use)) (zCs:Int) (zdW:Int) (zGG:Bool) (zn9:Int) (zAm:Int) (zsL:Bool) (zgc:Int) (zgd:Int) (zge:Int) (zgf:Int) (zgg:Int) (zsM:Int) (zsN:Bool) (zsO:Int) (zsP:Int) (zsQ:Int):Bool :=
  (cond zsL
 (zob P2 n chain zCs zdW ((s95 (⟨(⟨zgc,zgd,zge,zgf⟩:Tie),zgg⟩:tie)).2) zn9 (((s95 (⟨(⟨zgc,zgd,zge,zgf⟩:Tie),zgg⟩:tie)).1).Use.Tie) (((s95 (⟨(⟨zgc,zgd,zge,zgf⟩:Tie),zgg⟩:tie)).1).Use.Back) (((s95 (⟨(⟨zgc,zgd,zge,zgf⟩:Tie),zgg⟩:tie)).1).from_) (((s95 (⟨(⟨zgc,zgd,zge,zgf⟩:Tie),zgg⟩:tie)).1).to) (((s95 (⟨(⟨zgc,zgd,zge,zgf⟩:Tie),zgg⟩:tie)).1).length))
 (zob P2 n chain zCs zdW zGG zn9 zsM zsN zsO zsP zsQ))
theorem zGI (hX2:zvP K n chain X2 P2 S2) (hs:zsX P2 n chain zCs zdW zGG zn9 zAm zsL zgc zgd zge zgf zgg zsM zsN zsO zsP zsQ=true) (hk:K (e56 (zsW S2 n chain zCs zdW zGG zn9 zAm zsL zgc zgd zge zgf zgg zsM zsN zsO zsP zsQ))):z56 K [1,1,1,0,1,0,0,1,1,0,0,1,1,1,1] [X2] ⟨[(3,zp 3 0),(9,zI zCs),(10,zI zdW),(12,zp 12 0),(13,zp 13 0),(14,zp 14 0),(15,zB zGG),(33,zS enc_75 2 chain),(34,zI (chain.len:Int)),(35,zI zn9)],[(3,.box 24 (zm (enc_24 n))),(12,.box 75 (zm (enc_75 (⟨zAm,zsL⟩:Use)))),(13,.box 136 (zm (zqX (⟨(⟨zgc,zgd,zge,zgf⟩:Tie),zgg⟩:tie)))),(14,.box 130 (zm (zaf (⟨(⟨zsM,zsN⟩:Use),zsO,zsP,zsQ⟩:step))))],[]⟩:=zbd (by kernel_rfl) (zc hs hk (fun hs hk=>(zAp hX2 hs hk)) (fun hs hk=>(zAp hX2 hs hk)))
def zsY (S2:Int→Int→Int→(Int×Int×Bool)) (n:Net) (chain:(Sl Use)) (zgE:Int) (za5:Int) (zsJ:Int) (zcj:Int) (zsK:Bool):(Int×Int×Bool) :=
  (zsW S2 n chain zgE za5 ((s94 (⟨(n.Ties.get zcj.toNat),zcj⟩:tie)).2) zsJ zcj zsK ((n.Ties.get zcj.toNat).From) ((n.Ties.get zcj.toNat).To) ((n.Ties.get zcj.toNat).Low) ((n.Ties.get zcj.toNat).High) zcj (((s94 (⟨(n.Ties.get zcj.toNat),zcj⟩:tie)).1).Use.Tie) (((s94 (⟨(n.Ties.get zcj.toNat),zcj⟩:tie)).1).Use.Back) (((s94 (⟨(n.Ties.get zcj.toNat),zcj⟩:tie)).1).from_) (((s94 (⟨(n.Ties.get zcj.toNat),zcj⟩:tie)).1).to) (((s94 (⟨(n.Ties.get zcj.toNat),zcj⟩:tie)).1).length))
def zsZ (P2:Int→Int→Int→Bool) (n:Net) (chain:(Sl Use)) (zgE:Int) (za5:Int) (zsJ:Int) (zcj:Int) (zsK:Bool):Bool :=
  (decide ((0≤zcj∧zcj < (n.Ties.len:Int))) &&
 (zsX P2 n chain zgE za5 ((s94 (⟨(n.Ties.get zcj.toNat),zcj⟩:tie)).2) zsJ zcj zsK ((n.Ties.get zcj.toNat).From) ((n.Ties.get zcj.toNat).To) ((n.Ties.get zcj.toNat).Low) ((n.Ties.get zcj.toNat).High) zcj (((s94 (⟨(n.Ties.get zcj.toNat),zcj⟩:tie)).1).Use.Tie) (((s94 (⟨(n.Ties.get zcj.toNat),zcj⟩:tie)).1).Use.Back) (((s94 (⟨(n.Ties.get zcj.toNat),zcj⟩:tie)).1).from_) (((s94 (⟨(n.Ties.get zcj.toNat),zcj⟩:tie)).1).to) (((s94 (⟨(n.Ties.get zcj.toNat),zcj⟩:tie)).1).length)))
theorem zGJ (hX2:zvP K n chain X2 P2 S2) (hs:zsZ P2 n chain zgE za5 zsJ zcj zsK=true) (hk:K (e56 (zsY S2 n chain zgE za5 zsJ zcj zsK))):z56 K [1,1,1,0,1,0,0,1,1,0,0,1,1] [X2] ⟨[(3,zp 3 0),(9,zI zgE),(10,zI za5),(12,zp 12 0),(33,zS enc_75 2 chain),(34,zI (chain.len:Int)),(35,zI zsJ)],[(3,.box 24 (zm (enc_24 n))),(12,.box 75 (zm (enc_75 (⟨zcj,zsK⟩:Use))))],[]⟩:=zbd (by kernel_rfl) (za2 hs fun hc hs=>And.intro hc (zGI hX2 hs hk))
def zs3 (S2:Int→Int→Int→(Int×Int×Bool)) (n:Net) (chain:(Sl Use)) (ziU:Int) (zbt:Int) (zsF:Int) (zsG:Bool) (zsH:Int) (zsI:Bool):(Int×Int×Bool) :=
  (cond zsG
 ((0:Int),(0:Int),false)
 (zsY S2 n chain ziU zbt zsF zsH zsI))
def zs4 (P2:Int→Int→Int→Bool) (n:Net) (chain:(Sl Use)) (ziU:Int) (zbt:Int) (zsF:Int) (zsG:Bool) (zsH:Int) (zsI:Bool):Bool :=
  (cond zsG
 true
 (zsZ P2 n chain ziU zbt zsF zsH zsI))
theorem zGK (hX2:zvP K n chain X2 P2 S2) (hs:zs4 P2 n chain ziU zbt zsF zsG zsH zsI=true) (hk:K (e56 (zs3 S2 n chain ziU zbt zsF zsG zsH zsI))):z56 K [1,1,1,0,1,0,0,1,1,0,0,1,0,1] [X2] ⟨[(3,zp 3 0),(9,zI ziU),(10,zI zbt),(12,zp 12 0),(33,zS enc_75 2 chain),(34,zI (chain.len:Int)),(35,zI zsF),(46,zB zsG)],[(3,.box 24 (zm (enc_24 n))),(12,.box 75 (zm (enc_75 (⟨zsH,zsI⟩:Use))))],[]⟩:=zbd (by kernel_rfl) (zc hs hk (fun hs hk=>hk) (fun hs hk=>(zGJ hX2 hs hk)))
def ziV (n:Net) (chain:(Sl Use)) (S2:Int→Int→Int→(Int×Int×Bool)) (zcz:Int) (zay:Int) (zdh:Int):(Int×Int×Bool) :=
  (cond (decide (zdh < (chain.len : Int)))
 (zs3 S2 n chain zcz zay zdh (!(s81 ((chain.get zdh.toNat).Tie) (0:Int) (w64 ((n.Ties.len:Int) - (1:Int))))) ((chain.get zdh.toNat).Tie) ((chain.get zdh.toNat).Back))
 (zcz,zay,true))
def ziW (n:Net) (chain:(Sl Use)) (P2:Int→Int→Int→Bool) (zcz:Int) (zay:Int) (zdh:Int):Bool :=
  (cond (decide (zdh < (chain.len : Int)))
 (decide ((0≤zdh∧zdh < (chain.len:Int))) &&
 (zs4 P2 n chain zcz zay zdh (!(s81 ((chain.get zdh.toNat).Tie) (0:Int) (w64 ((n.Ties.len:Int) - (1:Int))))) ((chain.get zdh.toNat).Tie) ((chain.get zdh.toNat).Back)))
 true)
def zhm (n:Net) (chain:(Sl Use)):Nat→Int→Int→Int→(Int×Int×Bool):=lpO (fun _ _ _=>default) (ziV n chain)
def ziX (n:Net) (chain:(Sl Use)):Nat→Int→Int→Int→Bool:=lpO (fun _ _ _=>false) (ziW n chain)
def zAq (n:Net) (chain:(Sl Use)) (zcz:Int) (zay:Int) (zdh:Int):(Int×Int×Bool):=zhm n chain Fuel zcz zay zdh
def zAr (n:Net) (chain:(Sl Use)) (zcz:Int) (zay:Int) (zdh:Int):Bool:=ziX n chain Fuel zcz zay zdh
theorem zGL (hs:zAr n chain zcz zay zdh=true) (hk:K (e56 (zAq n chain zcz zay zdh))):z56 K [1,1,1,0,1,0] [] (zDu n chain zcz zay zdh) :=
  zl (fun X=>z56 K [1,1,1,0,1,0,0] [X]) (by kernel_rfl) fun X2 hX =>
  (show ∀ k, zvP K n chain X2 (ziX n chain k) (zhm n chain k) from zjH _ _ (ziW n chain) (ziV n chain) (zvP K n chain X2)
 (by intro _ _ _ hs;exact absurd hs Bool.false_ne_true)
 (by intro P2 S2 hX2 zcz zay zdh hs hk;exact hX _ (zbd (by kernel_rfl) (zc hs hk (fun hs hk=>(za2 hs fun hc hs=>And.intro hc (zGK hX2 hs hk))) (fun hs hk=>hk))))) _ hs hk
def zAs (n:Net) (from_a1:Int) (chain:(Sl Use)):(Int×Int×Bool) :=
  (zAq n chain from_a1 (0:Int) (0:Int))
def zAt (n:Net) (from_a1:Int) (chain:(Sl Use)):Bool :=
  (zAr n chain from_a1 (0:Int) (0:Int))
theorem zGM (hs:zAt n from_a1 chain=true) (hk:K (e56 (zAs n from_a1 chain))):z56 K [1,1] [] ⟨[(1,zI from_a1),(2,zS enc_75 2 chain),(3,zp 3 0)],[(3,.box 24 (zm (enc_24 n)))],[]⟩:=zbd (by kernel_rfl) (zGL hs hk)
def zoc (n:Net) (from_a1:Int) (chain:(Sl Use)) (zsE:Bool):(Int×Int×Bool) :=
  (cond zsE
 ((0:Int),(0:Int),false)
 (zAs n from_a1 chain))
def zod (n:Net) (from_a1:Int) (chain:(Sl Use)) (zsE:Bool):Bool :=
  (cond zsE
 true
 (zAt n from_a1 chain))
theorem zs5 (hs:zod n from_a1 chain zsE=true) (hk:K (e56 (zoc n from_a1 chain zsE))):z56 K [1,0,1] [] ⟨[(1,zI from_a1),(2,zS enc_75 2 chain),(3,zp 3 0),(31,zB zsE)],[(3,.box 24 (zm (enc_24 n)))],[]⟩:=zbd (by kernel_rfl) (zc hs hk (fun hs hk=>hk) (fun hs hk=>(zGM hs hk)))
def s56 (n:Net) (from_a1:Int) (chain:(Sl Use)):(Int×Int×Bool) :=
  (cond (!(s67 n))
 (zoc n from_a1 chain true)
 (cond (!(s81 from_a1 (0:Int) (w64 (n.Nodes - (1:Int)))))
 (zoc n from_a1 chain true)
 (zoc n from_a1 chain (decide ((chain.len:Int) > (40:Int))))))
def p56 (n:Net) (from_a1:Int) (chain:(Sl Use)):Bool :=
  (decide ((p67 n=true)) &&
 (cond (!(s67 n))
 (zod n from_a1 chain true)
 (cond (!(s81 from_a1 (0:Int) (w64 (n.Nodes - (1:Int)))))
 (zod n from_a1 chain true)
 (zod n from_a1 chain (decide ((chain.len:Int) > (40:Int)))))))
end
theorem q56 (n:Net) (from_a1:Int) (chain:(Sl Use)) (K:List PA→Prop) (hs:p56 n from_a1 chain=true) (hk:K (e56 (s56 n from_a1 chain))):vcFun Tryd.prog G56 zGF 56 [.agg (enc_24 n),.one (.int .i64 from_a1),.one (.sl chain.len 2 (fun i=>enc_75 (chain.get i)))] K :=
  zbd (by kernel_rfl) (za2 hs fun hc hs=>And.intro (And.intro (zE enc_40 4 n.Ties.get) hc) (zc hs hk (fun hs hk=>(zs5 hs hk)) (fun hs hk=>(zc hs hk (fun hs hk=>(zs5 hs hk)) (fun hs hk=>(zs5 hs hk))))))
def zGN : List PA → COut
  | [.agg [.int .i64 zah,.sl zad zaz zac],.one (.int .i64 a1),.one (.sl zjJ zxN zjK)]=>.det (IsE enc_40 4 zaz zac∧IsE enc_75 2 zxN zjK∧p56 (⟨zah,(⟨zad,zal zac⟩:(Sl Tie))⟩:Net) a1 (⟨zjJ,zb6 zjK⟩:(Sl Use))=true) [.one (.int .i64 ((s56 (⟨zah,(⟨zad,zal zac⟩:(Sl Tie))⟩:Net) a1 (⟨zjJ,zb6 zjK⟩:(Sl Use))).1)),.one (.int .i64 ((s56 (⟨zah,(⟨zad,zal zac⟩:(Sl Tie))⟩:Net) a1 (⟨zjJ,zb6 zjK⟩:(Sl Use))).2.1)),.one (.bool ((s56 (⟨zah,(⟨zad,zal zac⟩:(Sl Tie))⟩:Net) a1 (⟨zjJ,zb6 zjK⟩:(Sl Use))).2.2))]
  | _=>.no
theorem zJV:zaw Tryd.prog 56:=⟨_,rfl,rfl,by kernel_rfl⟩
theorem zNz:Ok Tryd.prog 56 zGN:=zbF zLY zJV fun args K h=>by
  unfold zGN at h
  split at h
  · rename_i zah zad zaz zac a1 zjJ zxN zjK
    obtain ⟨⟨⟨rfl,zaq,rfl⟩,⟨rfl,zq8,rfl⟩,hs⟩,hk⟩:=h
    try rw [zam zaq] at hs
    try rw [zam zaq] at hk
    try rw [zb2 zq8] at hs
    try rw [zb2 zq8] at hk
    exact ⟨(fun _ _=>[]),(fun _=>false),zGF,q56 (⟨zah,(⟨zad,zaq⟩:(Sl Tie))⟩:Net) a1 (⟨zjJ,zq8⟩:(Sl Use)) K hs hk⟩
  · exact h.elim
abbrev T30:Tabs:=(((Tabs.nil.addF 74 zvL).addF 75 zvM).addF 76 zvN)
theorem zLZ:TabsOk Tryd.prog T30:=(((TabsOk.nil.addF zKH).addF zKI).addF zKJ)
abbrev G30:Ctrs:=csm T30 (fun _ _=>[]) (fun _=>false)
def zJW:Ann:=⟨36,[(0,zK [1,2,3,6] [3,6]),(1,zK [1,2,6,8,9] [6]),(2,zK [1,2,6,8,9,19] [6]),(3,zK [6,7] [6]),(4,zK [6,7] [6])],
 [],
 [],
 [],[]⟩
abbrev R30:=(Span×Int)
abbrev e30 (r:R30):List PA:=[.agg [.int .i64 r.1.Low,.int .i64 r.1.High],.one (.int .i64 r.2)]
section
variable {K:List PA→Prop} {n:Net} {from_a1:Int} {to:Int}
def s30 (n:Net) (from_a1:Int) (to:Int):(Span×Int) :=
  (cond ((s74 n (⟨2, zar (zbw [(enc_3 from_a1), (enc_3 to)])⟩ : (Sl Int))).2 == 0)
 (cond ((0:Int) != (0:Int))
 ((⟨(0:Int),(0:Int)⟩:Span),(0:Int))
 ((⟨(w64 (0 - (tg 80 (s75 (⟨(s74 n (⟨2,zar (zbw [(enc_3 from_a1),(enc_3 to)])⟩:(Sl Int))).1.Net,((s74 n (⟨2,zar (zbw [(enc_3 from_a1),(enc_3 to)])⟩:(Sl Int))).1.out)⟩:web) from_a1) (0+to.toNat * 2+0)))),(tg 80 (s76 (⟨(s74 n (⟨2,zar (zbw [(enc_3 from_a1),(enc_3 to)])⟩:(Sl Int))).1.Net,((s74 n (⟨2,zar (zbw [(enc_3 from_a1),(enc_3 to)])⟩:(Sl Int))).1.out)⟩:web) from_a1) (0+to.toNat * 2+0))⟩:Span),(0:Int)))
 (cond ((s74 n (⟨2, zar (zbw [(enc_3 from_a1), (enc_3 to)])⟩ : (Sl Int))).2 != (0:Int))
 ((⟨(0:Int),(0:Int)⟩:Span),(s74 n (⟨2,zar (zbw [(enc_3 from_a1),(enc_3 to)])⟩:(Sl Int))).2)
 default))
def p30 (n:Net) (from_a1:Int) (to:Int):Bool :=
  (cond ((s74 n (⟨2, zar (zbw [(enc_3 from_a1), (enc_3 to)])⟩ : (Sl Int))).2 == 0)
 (decide ((p74 n (⟨2,zar (zbw [(enc_3 from_a1),(enc_3 to)])⟩:(Sl Int))=true)) &&
 (cond ((0:Int) != (0:Int))
 true
 (decide ((p75 (⟨(s74 n (⟨2,zar (zbw [(enc_3 from_a1),(enc_3 to)])⟩:(Sl Int))).1.Net,((s74 n (⟨2,zar (zbw [(enc_3 from_a1),(enc_3 to)])⟩:(Sl Int))).1.out)⟩:web) from_a1=true)) &&
 (decide ((0≤to∧to < (40:Int))) &&
 (decide ((p76 (⟨(s74 n (⟨2,zar (zbw [(enc_3 from_a1),(enc_3 to)])⟩:(Sl Int))).1.Net,((s74 n (⟨2,zar (zbw [(enc_3 from_a1),(enc_3 to)])⟩:(Sl Int))).1.out)⟩:web) from_a1=true)) &&
 (decide ((0≤to∧to < (40:Int))) &&
 true))))))
 (decide ((p74 n (⟨2,zar (zbw [(enc_3 from_a1),(enc_3 to)])⟩:(Sl Int))=true)) &&
 (cond ((s74 n (⟨2, zar (zbw [(enc_3 from_a1), (enc_3 to)])⟩ : (Sl Int))).2 != (0:Int))
 true
 false)))
end
theorem q30 (n:Net) (from_a1:Int) (to:Int) (K:List PA→Prop) (hs:p30 n from_a1 to=true) (hk:K (e30 (s30 n from_a1 to))):vcFun Tryd.prog G30 zJW 30 [.agg (enc_24 n),.one (.int .i64 from_a1),.one (.int .i64 to)] K :=
  zbd (by kernel_rfl) (zc hs hk (fun hs hk=>(za2 hs fun hc hs=>And.intro (And.intro (zE enc_40 4 n.Ties.get) (And.intro ((zdo []):IsE enc_3 1 1 (zbw [(enc_3 from_a1),(enc_3 to)])) hc)) (zc hs hk (fun hs hk=>hk) (fun hs hk=>(za2 hs fun hc hs=>And.intro (And.intro (zE enc_40 4 ((s74 n (⟨2,zar (zbw [(enc_3 from_a1),(enc_3 to)])⟩:(Sl Int))).1.Net.Ties.get)) (And.intro (rfl:((false,1,false,[none]):MQ)=(false,1,false,[none])) hc)) (za2 hs fun hc hs=>And.intro hc (za2 hs fun hc hs=>And.intro (And.intro (zE enc_40 4 ((s74 n (⟨2,zar (zbw [(enc_3 from_a1),(enc_3 to)])⟩:(Sl Int))).1.Net.Ties.get)) (And.intro (rfl:((false,1,false,[none]):MQ)=(false,1,false,[none])) hc)) (za2 hs fun hc hs=>And.intro hc hk)))))))) (fun hs hk=>(za2 hs fun hc hs=>And.intro (And.intro (zE enc_40 4 n.Ties.get) (And.intro ((zdo []):IsE enc_3 1 1 (zbw [(enc_3 from_a1),(enc_3 to)])) hc)) (zc hs hk (fun hs hk=>hk) (fun hs hk=>(absurd hs Bool.false_ne_true:False))))))
def zGO : List PA → COut
  | [.agg [.int .i64 zah,.sl zad zaz zac],.one (.int .i64 a1),.one (.int .i64 a2)]=>.det (IsE enc_40 4 zaz zac∧p30 (⟨zah,(⟨zad,zal zac⟩:(Sl Tie))⟩:Net) a1 a2=true) [.agg [.int .i64 (((s30 (⟨zah,(⟨zad,zal zac⟩:(Sl Tie))⟩:Net) a1 a2).1).Low),.int .i64 (((s30 (⟨zah,(⟨zad,zal zac⟩:(Sl Tie))⟩:Net) a1 a2).1).High)],.one (.int .i64 ((s30 (⟨zah,(⟨zad,zal zac⟩:(Sl Tie))⟩:Net) a1 a2).2))]
  | _=>.no
theorem zJX:zaw Tryd.prog 30:=⟨_,rfl,rfl,by kernel_rfl⟩
theorem zNA:Ok Tryd.prog 30 zGO:=zbF zLZ zJX fun args K h=>by
  unfold zGO at h
  split at h
  · rename_i zah zad zaz zac a1 a2
    obtain ⟨⟨⟨rfl,zaq,rfl⟩,hs⟩,hk⟩:=h
    try rw [zam zaq] at hs
    try rw [zam zaq] at hk
    exact ⟨(fun _ _=>[]),(fun _=>false),zJW,q30 (⟨zah,(⟨zad,zaq⟩:(Sl Tie))⟩:Net) a1 a2 K hs hk⟩
  · exact h.elim
abbrev T36:Tabs:=(Tabs.nil.addF 72 zvO)
theorem zL0:TabsOk Tryd.prog T36:=(TabsOk.nil.addF zKK)
abbrev G36:Ctrs:=csm T36 (fun _ _=>[]) (fun _=>false)
def zGP:Ann:=⟨51,[(0,zK [0,3] [3]),(1,zK [3,32] [3]),(2,zK [4] []),(3,zK [4] [])],
 [],
 [(2,zK [3,32] [3]),(3,zK [3] [3])],
 [],[]⟩
abbrev R36:=Bool
abbrev e36 (r:R36):List PA:=[.one (.bool r)]
@[irreducible] def z36:=ptF Tryd.prog G36 zGP Tryd.f36
section
variable {K:List PA→Prop} {nodes:Int} {t:Tie} {zCt:Bool}
def zs6 (t:Tie):Bool :=
  (cond (t.Low == (-1000000000000:Int))
 (cond (t.High == (1000000000000:Int))
 true
 (s72 t.High (-1000000000:Int) (1000000000:Int)))
 (cond (s72 t.Low (-1000000000:Int) (1000000000:Int))
 (cond (t.High == (1000000000000:Int))
 true
 (s72 t.High (-1000000000:Int) (1000000000:Int)))
 false))
theorem zGQ (hk:K (e36 (zs6 t))):z36 K [1,1] [] ⟨[(3,zp 3 0)],[(3,.box 40 (zm (enc_40 t)))],[]⟩:=zbd (by kernel_rfl) (zt hk (fun hk=>(zt hk (fun hk=>hk) (fun hk=>hk))) (fun hk=>(zt hk (fun hk=>(zt hk (fun hk=>hk) (fun hk=>hk))) (fun hk=>hk))))
def ziY (t:Tie) (zCt:Bool):Bool :=
  (cond zCt
 false
 (zs6 t))
theorem zoe (hk:K (e36 (ziY t zCt))):z36 K [1,0,1] [] ⟨[(3,zp 3 0),(32,zB zCt)],[(3,.box 40 (zm (enc_40 t)))],[]⟩:=zbd (by kernel_rfl) (zt hk (fun hk=>hk) (fun hk=>(zGQ hk)))
def s36 (nodes:Int) (t:Tie):Bool :=
  (cond (!(s72 t.From (0:Int) (w64 (nodes - (1:Int)))))
 (ziY t true)
 (cond (!(s72 t.To (0:Int) (w64 (nodes - (1:Int)))))
 (ziY t true)
 (cond (t.From == t.To)
 (ziY t true)
 (ziY t (decide (t.Low > t.High))))))
end
theorem q36 (nodes:Int) (t:Tie) (K:List PA→Prop) (hk:K (e36 (s36 nodes t))):vcFun Tryd.prog G36 zGP 36 [.one (.int .i64 nodes),.agg (enc_40 t)] K :=
  zbd (by kernel_rfl) (zt hk (fun hk=>(zoe hk)) (fun hk=>(zt hk (fun hk=>(zoe hk)) (fun hk=>(zt hk (fun hk=>(zoe hk)) (fun hk=>(zoe hk)))))))
def zGR : List PA → COut
  | [.one (.int .i64 a0),.agg [.int .i64 zeJ,.int .i64 zl6,.int .i64 zgU,.int .i64 zeK]]=>.tot [.one (.bool (s36 a0 (⟨zeJ,zl6,zgU,zeK⟩:Tie)))]
  | _=>.no
theorem zJY:zaw Tryd.prog 36:=⟨_,rfl,rfl,by kernel_rfl⟩
theorem zNB:Ok Tryd.prog 36 zGR:=zbF zL0 zJY fun args K h=>by
  unfold zGR at h
  split at h
  · rename_i a0 zeJ zl6 zgU zeK
    have hk:=h
    exact ⟨(fun _ _=>[]),(fun _=>false),zGP,q36 a0 (⟨zeJ,zl6,zgU,zeK⟩:Tie) K hk⟩
  · exact h.elim
abbrev T23:Tabs:=((Tabs.nil.addF 36 zGR).addF 72 zvO)
theorem zL1:TabsOk Tryd.prog T23:=((TabsOk.nil.addF zNB).addF zKK)
abbrev G23:Ctrs:=csm T23 (fun _ _=>[]) (fun _=>false)
def zGS:Ann:=⟨30,[(0,zK [1] [1]),(1,zK [1,13] [1]),(2,zK [2] []),(3,zK [1,3] [1]),(4,zK [1,3,18] [1]),(5,zK [1,3] [1]),(6,zK [1,3,29] [1]),(7,zK [2] []),(8,zK [2] [])],
 [(4,zK [1,3] [1])],
 [(2,zK [1,13] [1]),(3,zK [1] [1]),(7,zK [1,3,29] [1])],
 [],[]⟩
abbrev R23:=Bool
abbrev e23 (r:R23):List PA:=[.one (.bool r)]
@[irreducible] def z23:=ptF Tryd.prog G23 zGS Tryd.f23
def zDv (n:Net) (iv2:Int):St:=⟨[(1,zp 1 0),(3,zI iv2)],[(1,.box 24 (zm (enc_24 n)))],[]⟩
abbrev zGT (K:List PA→Prop) (n:Net) (X:St→Prop) (P:Int→Bool) (S:Int→Bool):Prop:=∀ ⦃iv2:Int⦄,P iv2=true→K (e23 (S iv2))→X (zDv n iv2)
section
variable {K:List PA→Prop} {n:Net} {zcf:Bool} {iv2:Int} {X2:St→Prop} {P2:Int→Bool} {S2:Int→Bool} {iv3:Int} {zs7:Bool}
def zs8 (S2:Int→Bool) (n:Net) (iv3:Int) (zs7:Bool):Bool :=
  (cond zs7
 false
 (S2 (w64 (iv3+(1:Int)))))
def zs9 (P2:Int→Bool) (n:Net) (iv3:Int) (zs7:Bool):Bool :=
  (cond zs7
 true
 (P2 (w64 (iv3+(1:Int)))))
theorem zGU (hX2:zGT K n X2 P2 S2) (hs:zs9 P2 n iv3 zs7=true) (hk:K (e23 (zs8 S2 n iv3 zs7))):z23 K [1,1,0,1,0,0,1,0,0,1] [X2] ⟨[(1,zp 1 0),(3,zI iv3),(29,zB zs7)],[(1,.box 24 (zm (enc_24 n)))],[]⟩:=zbd (by kernel_rfl) (zc hs hk (fun hs hk=>hk) (fun hs hk=>(hX2 hs hk)))
def ziZ (n:Net) (S2:Int→Bool) (iv2:Int):Bool :=
  (cond (decide (iv2 < (n.Ties.len : Int)))
 (zs8 S2 n iv2 (!(s36 n.Nodes (n.Ties.get iv2.toNat))))
 true)
def zi0 (n:Net) (P2:Int→Bool) (iv2:Int):Bool :=
  (cond (decide (iv2 < (n.Ties.len : Int)))
 (decide ((0≤iv2∧iv2 < (n.Ties.len:Int))) &&
 (zs9 P2 n iv2 (!(s36 n.Nodes (n.Ties.get iv2.toNat)))))
 true)
def zhn (n:Net):Nat→Int→Bool:=lpO (fun _=>default) (ziZ n)
def zi1 (n:Net):Nat→Int→Bool:=lpO (fun _=>false) (zi0 n)
def zta (n:Net) (iv2:Int):Bool:=zhn n Fuel iv2
def ztb (n:Net) (iv2:Int):Bool:=zi1 n Fuel iv2
theorem zGV (hs:ztb n iv2=true) (hk:K (e23 (zta n iv2))):z23 K [1,1,0,1,0] [] (zDv n iv2) :=
  zl (fun X=>z23 K [1,1,0,1,0,0] [X]) (by kernel_rfl) fun X2 hX =>
  (show ∀ k, zGT K n X2 (zi1 n k) (zhn n k) from zjH _ _ (zi0 n) (ziZ n) (zGT K n X2)
 (by intro _ hs;exact absurd hs Bool.false_ne_true)
 (by intro P2 S2 hX2 iv2 hs hk;exact hX _ (zbd (by kernel_rfl) (zc hs hk (fun hs hk=>(za2 hs fun hc hs=>And.intro hc (zGU hX2 hs hk))) (fun hs hk=>hk))))) _ hs hk
def ztc (n:Net):Bool :=
  (zta n (0:Int))
def ztd (n:Net):Bool :=
  (ztb n (0:Int))
theorem zGW (hs:ztd n=true) (hk:K (e23 (ztc n))):z23 K [1,1] [] ⟨[(1,zp 1 0)],[(1,.box 24 (zm (enc_24 n)))],[]⟩:=zbd (by kernel_rfl) (zGV hs hk)
def zof (n:Net) (zcf:Bool):Bool :=
  (cond zcf
 false
 (ztc n))
def zog (n:Net) (zcf:Bool):Bool :=
  (cond zcf
 true
 (ztd n))
theorem zAu (hs:zog n zcf=true) (hk:K (e23 (zof n zcf))):z23 K [1,0,1] [] ⟨[(1,zp 1 0),(13,zB zcf)],[(1,.box 24 (zm (enc_24 n)))],[]⟩:=zbd (by kernel_rfl) (zc hs hk (fun hs hk=>hk) (fun hs hk=>(zGW hs hk)))
def s23 (n:Net):Bool :=
  (cond (!(s72 n.Nodes (1:Int) (40:Int)))
 (zof n true)
 (zof n (decide ((n.Ties.len:Int) > (200:Int)))))
def p23 (n:Net):Bool :=
  (cond (!(s72 n.Nodes (1:Int) (40:Int)))
 (zog n true)
 (zog n (decide ((n.Ties.len:Int) > (200:Int)))))
end
theorem q23 (n:Net) (K:List PA→Prop) (hs:p23 n=true) (hk:K (e23 (s23 n))):vcFun Tryd.prog G23 zGS 23 [.agg (enc_24 n)] K :=
  zbd (by kernel_rfl) (zc hs hk (fun hs hk=>(zAu hs hk)) (fun hs hk=>(zAu hs hk)))
def zGX : List PA → COut
  | [.agg [.int .i64 zah,.sl zad zaz zac]]=>.det (IsE enc_40 4 zaz zac∧p23 (⟨zah,(⟨zad,zal zac⟩:(Sl Tie))⟩:Net)=true) [.one (.bool (s23 (⟨zah,(⟨zad,zal zac⟩:(Sl Tie))⟩:Net)))]
  | _=>.no
theorem zJZ:zaw Tryd.prog 23:=⟨_,rfl,rfl,by kernel_rfl⟩
theorem zNC:Ok Tryd.prog 23 zGX:=zbF zL1 zJZ fun args K h=>by
  unfold zGX at h
  split at h
  · rename_i zah zad zaz zac
    obtain ⟨⟨⟨rfl,zaq,rfl⟩,hs⟩,hk⟩:=h
    try rw [zam zaq] at hs
    try rw [zam zaq] at hk
    exact ⟨(fun _ _=>[]),(fun _=>false),zGS,q23 (⟨zah,(⟨zad,zaq⟩:(Sl Tie))⟩:Net) K hs hk⟩
  · exact h.elim
abbrev T77:Tabs:=Tabs.nil
theorem zL2:TabsOk Tryd.prog T77:=TabsOk.nil
abbrev G77:Ctrs:=csm T77 (fun _ _=>[]) (fun _=>false)
def zGY:Ann:=⟨50,[(0,zK [1] [1]),(1,zK [1,3] [1]),(2,zK [1,3,4] [1]),(3,zK [1,3,4,10] [1,32]),(4,zK [1,3,4] [1,32]),(5,zK [1,3,4,5] [1,5,32]),(6,zK [1,3,4,5,20] [1,5,32]),(7,zK [1,3,4,5] [1,5,32]),(8,zK [1,3,4,5,35] [1,5,32]),(9,zK [1,3,4] [1,32]),(10,zK [2] [32])],
 [(3,⟨[1,3,4],[1,32],[(3,32,121,fun _=>zdC default)],[],[],[],[]⟩)],
 [(8,⟨[1,3,4,5],[1,5,32],[(3,32,121,fun _=>zdC default)],[],[],[],[]⟩)],
 [],[]⟩
abbrev R77:=(Sl Step)
abbrev e77 (r:R77):List PA:=[.one (.sl r.len 5 (fun i=>zdC (r.get i)))]
@[irreducible] def z77:=ptF Tryd.prog G77 zGY Tryd.f77
def zDw (n:Net) (iv0:Int) (zdb:(Sl Step)) (zgh:Nat→List PV):St:=⟨[(1,zp 1 0),(3,zv 32),(4,zI iv0)],[(1,.box 24 (zm (enc_24 n))),(32,.vec 121 5 40 zdb.len zgh)],[]⟩
abbrev zGZ (K:List PA→Prop) (n:Net) (X:St→Prop) (P:Int→(Sl Step)→Bool) (S:Int→(Sl Step)→(Sl Step)):Prop:=∀ ⦃iv0:Int⦄ ⦃zdb:(Sl Step)⦄ ⦃zgh:Nat→List PV⦄,P iv0 zdb=true→K (e77 (S iv0 zdb))→zgh=zg zdC zdb→X (zDw n iv0 zdb zgh)
section
variable {K:List PA→Prop} {n:Net} {iv0:Int} {zdb:(Sl Step)} {zgh:Nat→List PV} {X0:St→Prop} {P0:Int→(Sl Step)→Bool} {S0:Int→(Sl Step)→(Sl Step)} {iv1:Int} {zp3:Int} {zp4:Int} {zl7:Int} {zAv:Int} {zgi:(Sl Step)} {zAw:Nat→List PV}
def zoh (S0:Int→(Sl Step)→(Sl Step)) (n:Net) (iv1:Int) (zp3:Int) (zp4:Int) (zl7:Int) (zAv:Int) (zgi:(Sl Step)):(Sl Step) :=
  (cond (zl7 != (-1000000000000:Int))
 (S0 (w64 (iv1+(1:Int))) (⟨(zgi.len+1),(zg8 zgi.len zgi.get (fun _=>(⟨zp4,zp3,(w64 (0 - zl7)),(⟨iv1,true⟩:Use)⟩:Step)))⟩:Sl Step))
 (S0 (w64 (iv1+(1:Int))) zgi))
def zoi (P0:Int→(Sl Step)→Bool) (n:Net) (iv1:Int) (zp3:Int) (zp4:Int) (zl7:Int) (zAv:Int) (zgi:(Sl Step)):Bool :=
  (cond (zl7 != (-1000000000000:Int))
 (decide (((zgi.len+1) * 40≤140737488355328∧zgi.len+1≤9223372036854775807)) &&
 (P0 (w64 (iv1+(1:Int))) (⟨(zgi.len+1),(zg8 zgi.len zgi.get (fun _=>(⟨zp4,zp3,(w64 (0 - zl7)),(⟨iv1,true⟩:Use)⟩:Step)))⟩:Sl Step)))
 (P0 (w64 (iv1+(1:Int))) zgi))
theorem zAx (hX0:zGZ K n X0 P0 S0) (hs:zoi P0 n iv1 zp3 zp4 zl7 zAv zgi=true) (hk:K (e77 (zoh S0 n iv1 zp3 zp4 zl7 zAv zgi))) (zG0:zAw=zg zdC zgi):z77 K [1,1,0,1,0,0,1,0,0,1,1] [X0] ⟨[(1,zp 1 0),(3,zv 32),(4,zI iv1),(5,zp 5 0)],[(1,.box 24 (zm (enc_24 n))),(5,.box 40 (zm (enc_40 (⟨zp3,zp4,zl7,zAv⟩:Tie)))),(32,.vec 121 5 40 zgi.len zAw)],[]⟩:=by subst zG0;exact zbd (by kernel_rfl) (zc hs hk (fun hs hk=>(za2 hs fun hc hs=>And.intro hc (hX0 hs hk (zkN (enc:=zdC) (f:=zgi.get) (h:=(fun _=>(⟨zp4,zp3,(w64 (0 - zl7)),(⟨iv1,true⟩:Use)⟩:Step))) rfl rfl)))) (fun hs hk=>(hX0 hs hk rfl)))
def zi2 (n:Net) (S0:Int→(Sl Step)→(Sl Step)) (iv0:Int) (zdb:(Sl Step)):(Sl Step) :=
  (cond (decide (iv0 < (n.Ties.len : Int)))
 (cond ((n.Ties.get iv0.toNat).High != (1000000000000:Int))
 (zoh S0 n iv0 ((n.Ties.get iv0.toNat).From) ((n.Ties.get iv0.toNat).To) ((n.Ties.get iv0.toNat).Low) ((n.Ties.get iv0.toNat).High) (⟨(zdb.len+1),(zg8 zdb.len zdb.get (fun _=>(⟨(n.Ties.get iv0.toNat).From,(n.Ties.get iv0.toNat).To,(n.Ties.get iv0.toNat).High,(⟨iv0,false⟩:Use)⟩:Step)))⟩:Sl Step))
 (zoh S0 n iv0 ((n.Ties.get iv0.toNat).From) ((n.Ties.get iv0.toNat).To) ((n.Ties.get iv0.toNat).Low) ((n.Ties.get iv0.toNat).High) zdb))
 zdb)
def zi3 (n:Net) (P0:Int→(Sl Step)→Bool) (iv0:Int) (zdb:(Sl Step)):Bool :=
  (cond (decide (iv0 < (n.Ties.len : Int)))
 (decide ((0≤iv0∧iv0 < (n.Ties.len:Int))) &&
 (cond ((n.Ties.get iv0.toNat).High != (1000000000000:Int))
 (decide (((zdb.len+1) * 40≤140737488355328∧zdb.len+1≤9223372036854775807)) &&
 (zoi P0 n iv0 ((n.Ties.get iv0.toNat).From) ((n.Ties.get iv0.toNat).To) ((n.Ties.get iv0.toNat).Low) ((n.Ties.get iv0.toNat).High) (⟨(zdb.len+1),(zg8 zdb.len zdb.get (fun _=>(⟨(n.Ties.get iv0.toNat).From,(n.Ties.get iv0.toNat).To,(n.Ties.get iv0.toNat).High,(⟨iv0,false⟩:Use)⟩:Step)))⟩:Sl Step)))
 (zoi P0 n iv0 ((n.Ties.get iv0.toNat).From) ((n.Ties.get iv0.toNat).To) ((n.Ties.get iv0.toNat).Low) ((n.Ties.get iv0.toNat).High) zdb)))
 true)
def zdG (n:Net):Nat→Int→(Sl Step)→(Sl Step):=lpO (fun _ _=>default) (zi2 n)
def zdH (n:Net):Nat→Int→(Sl Step)→Bool:=lpO (fun _ _=>false) (zi3 n)
def zAy (n:Net) (iv0:Int) (zdb:(Sl Step)):(Sl Step):=zdG n Fuel iv0 zdb
def zAz (n:Net) (iv0:Int) (zdb:(Sl Step)):Bool:=zdH n Fuel iv0 zdb
theorem zG1 (hs:zAz n iv0 zdb=true) (hk:K (e77 (zAy n iv0 zdb))) (zte:zgh=zg zdC zdb):z77 K [1,1,0,1,0] [] (zDw n iv0 zdb zgh) :=
  zl (fun X=>z77 K [1,1,0,1,0,0] [X]) (by kernel_rfl) fun X0 hX =>
  (show ∀ k, zGZ K n X0 (zdH n k) (zdG n k) from zjH _ _ (zi3 n) (zi2 n) (zGZ K n X0)
 (by intro _ _ _ hs;exact absurd hs Bool.false_ne_true)
 (by intro P0 S0 hX0 iv0 zdb zgh hs hk zte;subst zte;exact hX _ (zbd (by kernel_rfl) (zc hs hk (fun hs hk=>(za2 hs fun hc hs=>And.intro hc (zc hs hk (fun hs hk=>(za2 hs fun hc hs=>And.intro hc (zAx hX0 hs hk (zkN (enc:=zdC) (f:=zdb.get) (h:=(fun _=>(⟨(n.Ties.get iv0.toNat).From,(n.Ties.get iv0.toNat).To,(n.Ties.get iv0.toNat).High,(⟨iv0,false⟩:Use)⟩:Step))) rfl rfl)))) (fun hs hk=>(zAx hX0 hs hk rfl))))) (fun hs hk=>hk))))) _ hs hk zte
def s77 (n:Net):(Sl Step) :=
  (zAy n (0:Int) (⟨0,(fun _=>default)⟩:Sl Step))
def p77 (n:Net):Bool :=
  (zAz n (0:Int) (⟨0,(fun _=>default)⟩:Sl Step))
end
theorem q77 (n:Net) (K:List PA→Prop) (hs:p77 n=true) (hk:K (e77 (s77 n))):vcFun Tryd.prog G77 zGY 77 [.agg (enc_24 n)] K :=
  zbd (by kernel_rfl) (zG1 hs hk rfl)
def zG2 : List PA → COut
  | [.agg [.int .i64 zah,.sl zad zaz zac]]=>.det (IsE enc_40 4 zaz zac∧p77 (⟨zah,(⟨zad,zal zac⟩:(Sl Tie))⟩:Net)=true) [.one (.sl ((s77 (⟨zah,(⟨zad,zal zac⟩:(Sl Tie))⟩:Net)).len) 5 (fun i=>zdC ((s77 (⟨zah,(⟨zad,zal zac⟩:(Sl Tie))⟩:Net)).get i)))]
  | _=>.no
theorem zJ0:zaw Tryd.prog 77:=⟨_,rfl,rfl,by kernel_rfl⟩
theorem zND:Ok Tryd.prog 77 zG2:=zbF zL2 zJ0 fun args K h=>by
  unfold zG2 at h
  split at h
  · rename_i zah zad zaz zac
    obtain ⟨⟨⟨rfl,zaq,rfl⟩,hs⟩,hk⟩:=h
    try rw [zam zaq] at hs
    try rw [zam zaq] at hk
    exact ⟨(fun _ _=>[]),(fun _=>false),zGY,q77 (⟨zah,(⟨zad,zaq⟩:(Sl Tie))⟩:Net) K hs hk⟩
  · exact h.elim
abbrev T57:Tabs:=(((Tabs.nil.addF 23 zGX).addF 72 zvO).addF 77 zG2)
theorem zL3:TabsOk Tryd.prog T57:=(((TabsOk.nil.addF zNC).addF zKK).addF zND)
abbrev G57:Ctrs:=csm T57 (fun _ _=>[]) (fun _=>false)
def zG3:Ann:=⟨85,[(0,zK [1,2,3] [3]),(1,zK [1,2,3,30] [3]),(2,zK [6,7,8] []),(3,zK [1,2,9] []),(4,zK [2,9,10,11] []),(5,zK [2,9,10,11,12] []),(6,zK [2,9,10,11,12,37] []),(7,zK [2,9,10,11,12] []),(8,zK [2,9,10,11,12,13] []),(9,zK [2,9,10,11,12,13,14] []),(10,zK [2,9,10,11,12,13,14,47] []),(11,zK [2,9,10,11,12,13,14] []),(12,zK [2,9,10,11,12,13,14,68] []),(13,zK [2,9,10,11,12,13,14] []),(14,zK [2,9,10,11,12,82] []),(15,zK [6,7,8] []),(16,zK [6,7,8] [])],
 [(6,zK [2,9,10,11,12] []),(10,zK [2,9,10,11,12,13,14] [])],
 [(2,zK [1,2,3,30] [3]),(3,zK [1,2,3] [3]),(4,zK [1,2,9] [])],
 [],[]⟩
abbrev R57:=(Int×Int×Bool)
abbrev e57 (r:R57):List PA:=[.one (.int .i64 r.1),.one (.int .i64 r.2.1),.one (.bool r.2.2)]
@[irreducible] def z57:=ptF Tryd.prog G57 zG3 Tryd.f57
def zDx (chain:(Sl Use)) (lv2:(Sl Step)) (ziU:Int) (zbt:Int) (iv3:Int):St:=⟨[(2,zS enc_75 2 chain),(9,zS zdC 5 lv2),(10,zI ziU),(11,zI zbt),(12,zI iv3)],[],[]⟩
abbrev zG4 (K:List PA→Prop) (chain:(Sl Use)) (lv2:(Sl Step)) (X:St→Prop) (P:Int→Int→Int→Bool) (S:Int→Int→Int→(Int×Int×Bool)):Prop:=∀ ⦃ziU:Int⦄ ⦃zbt:Int⦄ ⦃iv3:Int⦄,P ziU zbt iv3=true→K (e57 (S ziU zbt iv3))→X (zDx chain lv2 ziU zbt iv3)
def zDy (chain:(Sl Use)) (lv2:(Sl Step)) (zgE:Int) (za5:Int) (iv4:Int) (zdy:Bool) (kv4:Int):St:=⟨[(2,zS enc_75 2 chain),(9,zS zdC 5 lv2),(10,zI zgE),(11,zI za5),(12,zI iv4),(13,zB zdy),(14,zI kv4)],[],[]⟩
abbrev zJ1 (K:List PA→Prop) (chain:(Sl Use)) (lv2:(Sl Step)) (X:St→Prop) (P:Int→Int→Int→Bool→Int→Bool) (S:Int→Int→Int→Bool→Int→(Int×Int×Bool)):Prop:=∀ ⦃zgE:Int⦄ ⦃za5:Int⦄ ⦃iv4:Int⦄ ⦃zdy:Bool⦄ ⦃kv4:Int⦄,P zgE za5 iv4 zdy kv4=true→K (e57 (S zgE za5 iv4 zdy kv4))→X (zDy chain lv2 zgE za5 iv4 zdy kv4)
section
variable {K:List PA→Prop} {n:Net} {from_a1:Int} {chain:(Sl Use)} {ztf:Bool} {lv2:(Sl Step)} {zJ2:Nat→List PV} {ziU:Int} {zbt:Int} {iv3:Int} {X3:St→Prop} {P3:Int→Int→Int→Bool} {S3:Int→Int→Int→(Int×Int×Bool)} {zgE:Int} {za5:Int} {iv4:Int} {zdy:Bool} {kv4:Int} {X4:St→Prop} {P4:Int→Int→Int→Bool→Int→Bool} {S4:Int→Int→Int→Bool→Int→(Int×Int×Bool)}
def zgj (S3:Int→Int→Int→(Int×Int×Bool)) (chain:(Sl Use)) (lv2:(Sl Step)) (S4:Int→Int→Int→Bool→Int→(Int×Int×Bool)) (zgE:Int) (za5:Int) (iv4:Int) (zdy:Bool) (kv4:Int):(Int×Int×Bool) :=
  (cond (decide (kv4 < (lv2.len : Int)))
 (cond (!zdy)
 (cond (match ((lv2.get kv4.toNat).Use.Tie == (chain.get iv4.toNat).Tie) with | true => (match ((lv2.get kv4.toNat).Use.Back == (chain.get iv4.toNat).Back) with | true => true | false => false) | false => false)
 (cond ((lv2.get kv4.toNat).From == zgE)
 (S4 ((lv2.get kv4.toNat).To) (w64 (za5+(lv2.get kv4.toNat).Length)) iv4 true (w64 (kv4+(1:Int))))
 (S4 zgE za5 iv4 zdy (w64 (kv4+(1:Int)))))
 (S4 zgE za5 iv4 zdy (w64 (kv4+(1:Int)))))
 (cond (!zdy)
 ((0:Int),(0:Int),false)
 (S3 zgE za5 (w64 (iv4+(1:Int))))))
 (cond (!zdy)
 ((0:Int),(0:Int),false)
 (S3 zgE za5 (w64 (iv4+(1:Int))))))
def zgk (P3:Int→Int→Int→Bool) (chain:(Sl Use)) (lv2:(Sl Step)) (P4:Int→Int→Int→Bool→Int→Bool) (zgE:Int) (za5:Int) (iv4:Int) (zdy:Bool) (kv4:Int):Bool :=
  (cond (decide (kv4 < (lv2.len : Int)))
 (cond (!zdy)
 (decide ((0≤kv4∧kv4 < (lv2.len:Int))) &&
 (decide ((0≤iv4∧iv4 < (chain.len:Int))) &&
 (cond (match ((lv2.get kv4.toNat).Use.Tie == (chain.get iv4.toNat).Tie) with | true => (match ((lv2.get kv4.toNat).Use.Back == (chain.get iv4.toNat).Back) with | true => true | false => false) | false => false)
 (decide ((0≤kv4∧kv4 < (lv2.len:Int))) &&
 (cond ((lv2.get kv4.toNat).From == zgE)
 (decide ((0≤kv4∧kv4 < (lv2.len:Int))) &&
 (decide ((0≤kv4∧kv4 < (lv2.len:Int))) &&
 (P4 ((lv2.get kv4.toNat).To) (w64 (za5+(lv2.get kv4.toNat).Length)) iv4 true (w64 (kv4+(1:Int))))))
 (P4 zgE za5 iv4 zdy (w64 (kv4+(1:Int))))))
 (P4 zgE za5 iv4 zdy (w64 (kv4+(1:Int)))))))
 (cond (!zdy)
 true
 (P3 zgE za5 (w64 (iv4+(1:Int))))))
 (cond (!zdy)
 true
 (P3 zgE za5 (w64 (iv4+(1:Int))))))
def zdd (S3:Int→Int→Int→(Int×Int×Bool)) (chain:(Sl Use)) (lv2:(Sl Step)):Nat→Int→Int→Int→Bool→Int→(Int×Int×Bool):=lpO (fun _ _ _ _ _=>default) (zgj S3 chain lv2)
def zde (P3:Int→Int→Int→Bool) (chain:(Sl Use)) (lv2:(Sl Step)):Nat→Int→Int→Int→Bool→Int→Bool:=lpO (fun _ _ _ _ _=>false) (zgk P3 chain lv2)
def zAA (S3:Int→Int→Int→(Int×Int×Bool)) (chain:(Sl Use)) (lv2:(Sl Step)) (zgE:Int) (za5:Int) (iv4:Int) (zdy:Bool) (kv4:Int):(Int×Int×Bool):=zdd S3 chain lv2 Fuel zgE za5 iv4 zdy kv4
def zAB (P3:Int→Int→Int→Bool) (chain:(Sl Use)) (lv2:(Sl Step)) (zgE:Int) (za5:Int) (iv4:Int) (zdy:Bool) (kv4:Int):Bool:=zde P3 chain lv2 Fuel zgE za5 iv4 zdy kv4
theorem zG5 (hX3:zG4 K chain lv2 X3 P3 S3) (hs:zAB P3 chain lv2 zgE za5 iv4 zdy kv4=true) (hk:K (e57 (zAA S3 chain lv2 zgE za5 iv4 zdy kv4))):z57 K [1,1,1,1,0,1,0,0,1,0,0,1,0,1,0] [X3] (zDy chain lv2 zgE za5 iv4 zdy kv4) :=
  zl (fun X=>z57 K [1,1,1,1,0,1,0,0,1,0,0,1,0,1,0,0] [X3,X]) (by kernel_rfl) fun X4 hX =>
  (show ∀ k, zJ1 K chain lv2 X4 (zde P3 chain lv2 k) (zdd S3 chain lv2 k) from zjH _ _ (zgk P3 chain lv2) (zgj S3 chain lv2) (zJ1 K chain lv2 X4)
 (by intro _ _ _ _ _ hs;exact absurd hs Bool.false_ne_true)
 (by intro P4 S4 hX4 zgE za5 iv4 zdy kv4 hs hk;exact hX _ (zbd (by kernel_rfl) (zc hs hk (fun hs hk=>(zc hs hk (fun hs hk=>(za2 hs fun hc hs=>And.intro hc (za2 hs fun hc hs=>And.intro hc (zc hs hk (fun hs hk=>(za2 hs fun hc hs=>And.intro hc (zc hs hk (fun hs hk=>(za2 hs fun hc hs=>And.intro hc (za2 hs fun hc hs=>And.intro hc (hX4 hs hk)))) (fun hs hk=>(hX4 hs hk))))) (fun hs hk=>(hX4 hs hk)))))) (fun hs hk=>(zc hs hk (fun hs hk=>hk) (fun hs hk=>(hX3 hs hk)))))) (fun hs hk=>(zc hs hk (fun hs hk=>hk) (fun hs hk=>(hX3 hs hk)))))))) _ hs hk
def zi4 (chain:(Sl Use)) (lv2:(Sl Step)) (S3:Int→Int→Int→(Int×Int×Bool)) (ziU:Int) (zbt:Int) (iv3:Int):(Int×Int×Bool) :=
  (cond (decide (iv3 < (chain.len : Int)))
 (zAA S3 chain lv2 ziU zbt iv3 false (0:Int))
 (ziU,zbt,true))
def zi5 (chain:(Sl Use)) (lv2:(Sl Step)) (P3:Int→Int→Int→Bool) (ziU:Int) (zbt:Int) (iv3:Int):Bool :=
  (cond (decide (iv3 < (chain.len : Int)))
 (zAB P3 chain lv2 ziU zbt iv3 false (0:Int))
 true)
def zfl (chain:(Sl Use)) (lv2:(Sl Step)):Nat→Int→Int→Int→(Int×Int×Bool):=lpO (fun _ _ _=>default) (zi4 chain lv2)
def zfm (chain:(Sl Use)) (lv2:(Sl Step)):Nat→Int→Int→Int→Bool:=lpO (fun _ _ _=>false) (zi5 chain lv2)
def ztg (chain:(Sl Use)) (lv2:(Sl Step)) (ziU:Int) (zbt:Int) (iv3:Int):(Int×Int×Bool):=zfl chain lv2 Fuel ziU zbt iv3
def zth (chain:(Sl Use)) (lv2:(Sl Step)) (ziU:Int) (zbt:Int) (iv3:Int):Bool:=zfm chain lv2 Fuel ziU zbt iv3
theorem zG6 (hs:zth chain lv2 ziU zbt iv3=true) (hk:K (e57 (ztg chain lv2 ziU zbt iv3))):z57 K [1,1,1,1,0,1,0] [] (zDx chain lv2 ziU zbt iv3) :=
  zl (fun X=>z57 K [1,1,1,1,0,1,0,0] [X]) (by kernel_rfl) fun X3 hX =>
  (show ∀ k, zG4 K chain lv2 X3 (zfm chain lv2 k) (zfl chain lv2 k) from zjH _ _ (zi5 chain lv2) (zi4 chain lv2) (zG4 K chain lv2 X3)
 (by intro _ _ _ hs;exact absurd hs Bool.false_ne_true)
 (by intro P3 S3 hX3 ziU zbt iv3 hs hk;exact hX _ (zbd (by kernel_rfl) (zc hs hk (fun hs hk=>(zG5 hX3 hs hk)) (fun hs hk=>hk))))) _ hs hk
def zti (from_a1:Int) (chain:(Sl Use)) (lv2:(Sl Step)):(Int×Int×Bool) :=
  (ztg chain lv2 from_a1 (0:Int) (0:Int))
def ztj (from_a1:Int) (chain:(Sl Use)) (lv2:(Sl Step)):Bool :=
  (zth chain lv2 from_a1 (0:Int) (0:Int))
theorem zG7 (hs:ztj from_a1 chain lv2=true) (hk:K (e57 (zti from_a1 chain lv2))) (zL4:zJ2=zg zdC lv2):z57 K [1,1,1] [] ⟨[(1,zI from_a1),(2,zS enc_75 2 chain),(9,zP (.sl lv2.len 5 zJ2))],[],[]⟩:=by subst zL4;exact zbd (by kernel_rfl) (zG6 hs hk)
def ztk (n:Net) (from_a1:Int) (chain:(Sl Use)):(Int×Int×Bool) :=
  (zti from_a1 chain (s77 n))
def ztl (n:Net) (from_a1:Int) (chain:(Sl Use)):Bool :=
  (decide ((p77 n=true)) &&
 (ztj from_a1 chain (s77 n)))
theorem zG8 (hs:ztl n from_a1 chain=true) (hk:K (e57 (ztk n from_a1 chain))):z57 K [1,1] [] ⟨[(1,zI from_a1),(2,zS enc_75 2 chain),(3,zp 3 0)],[(3,.box 24 (zm (enc_24 n)))],[]⟩:=zbd (by kernel_rfl) (za2 hs fun hc hs=>And.intro (And.intro (zE enc_40 4 n.Ties.get) hc) (zG7 hs hk rfl))
def zlQ (n:Net) (from_a1:Int) (chain:(Sl Use)) (ztf:Bool):(Int×Int×Bool) :=
  (cond ztf
 ((0:Int),(0:Int),false)
 (ztk n from_a1 chain))
def zlR (n:Net) (from_a1:Int) (chain:(Sl Use)) (ztf:Bool):Bool :=
  (cond ztf
 true
 (ztl n from_a1 chain))
theorem ztm (hs:zlR n from_a1 chain ztf=true) (hk:K (e57 (zlQ n from_a1 chain ztf))):z57 K [1,0,1] [] ⟨[(1,zI from_a1),(2,zS enc_75 2 chain),(3,zp 3 0),(30,zB ztf)],[(3,.box 24 (zm (enc_24 n)))],[]⟩:=zbd (by kernel_rfl) (zc hs hk (fun hs hk=>hk) (fun hs hk=>(zG8 hs hk)))
def s57 (n:Net) (from_a1:Int) (chain:(Sl Use)):(Int×Int×Bool) :=
  (cond (!(s23 n))
 (zlQ n from_a1 chain true)
 (cond (!(s72 from_a1 (0:Int) (w64 (n.Nodes - (1:Int)))))
 (zlQ n from_a1 chain true)
 (zlQ n from_a1 chain (decide ((chain.len:Int) > (40:Int))))))
def p57 (n:Net) (from_a1:Int) (chain:(Sl Use)):Bool :=
  (decide ((p23 n=true)) &&
 (cond (!(s23 n))
 (zlR n from_a1 chain true)
 (cond (!(s72 from_a1 (0:Int) (w64 (n.Nodes - (1:Int)))))
 (zlR n from_a1 chain true)
 (zlR n from_a1 chain (decide ((chain.len:Int) > (40:Int)))))))
end
theorem q57 (n:Net) (from_a1:Int) (chain:(Sl Use)) (K:List PA→Prop) (hs:p57 n from_a1 chain=true) (hk:K (e57 (s57 n from_a1 chain))):vcFun Tryd.prog G57 zG3 57 [.agg (enc_24 n),.one (.int .i64 from_a1),.one (.sl chain.len 2 (fun i=>enc_75 (chain.get i)))] K :=
  zbd (by kernel_rfl) (za2 hs fun hc hs=>And.intro (And.intro (zE enc_40 4 n.Ties.get) hc) (zc hs hk (fun hs hk=>(ztm hs hk)) (fun hs hk=>(zc hs hk (fun hs hk=>(ztm hs hk)) (fun hs hk=>(ztm hs hk))))))
def zG9 : List PA → COut
  | [.agg [.int .i64 zah,.sl zad zaz zac],.one (.int .i64 a1),.one (.sl zjJ zxN zjK)]=>.det (IsE enc_40 4 zaz zac∧IsE enc_75 2 zxN zjK∧p57 (⟨zah,(⟨zad,zal zac⟩:(Sl Tie))⟩:Net) a1 (⟨zjJ,zb6 zjK⟩:(Sl Use))=true) [.one (.int .i64 ((s57 (⟨zah,(⟨zad,zal zac⟩:(Sl Tie))⟩:Net) a1 (⟨zjJ,zb6 zjK⟩:(Sl Use))).1)),.one (.int .i64 ((s57 (⟨zah,(⟨zad,zal zac⟩:(Sl Tie))⟩:Net) a1 (⟨zjJ,zb6 zjK⟩:(Sl Use))).2.1)),.one (.bool ((s57 (⟨zah,(⟨zad,zal zac⟩:(Sl Tie))⟩:Net) a1 (⟨zjJ,zb6 zjK⟩:(Sl Use))).2.2))]
  | _=>.no
theorem zJ3:zaw Tryd.prog 57:=⟨_,rfl,rfl,by kernel_rfl⟩
theorem zNE:Ok Tryd.prog 57 zG9:=zbF zL3 zJ3 fun args K h=>by
  unfold zG9 at h
  split at h
  · rename_i zah zad zaz zac a1 zjJ zxN zjK
    obtain ⟨⟨⟨rfl,zaq,rfl⟩,⟨rfl,zq8,rfl⟩,hs⟩,hk⟩:=h
    try rw [zam zaq] at hs
    try rw [zam zaq] at hk
    try rw [zb2 zq8] at hs
    try rw [zb2 zq8] at hk
    exact ⟨(fun _ _=>[]),(fun _=>false),zG3,q57 (⟨zah,(⟨zad,zaq⟩:(Sl Tie))⟩:Net) a1 (⟨zjJ,zq8⟩:(Sl Use)) K hs hk⟩
  · exact h.elim
abbrev T14:Tabs:=((((((Tabs.nil.addF 20 zGq).addF 21 zGp).addF 30 zGO).addF 38 zGE).addF 56 zGN).addF 57 zG9)
theorem zL5:TabsOk Tryd.prog T14:=((((((TabsOk.nil.addF zNv).addF zNu).addF zNA).addF zNy).addF zNz).addF zNE)
abbrev G14:Ctrs:=csm T14 (fun _ _=>[]) (fun _=>false)
def zHa:Ann:=⟨110,[(0,zK [1,2,3,4] [4]),(1,zK [1,2,3,4,29] [4]),(2,zK [8] []),(3,zK [1,2,3,4,9,10,11] [4]),(4,zK [1,3,4,9,10,11,12,13,14] [4]),(5,zK [1,3,4,9,10,11,59] [4]),(6,zK [8] []),(7,zK [1,3,4,9,10,61] [4]),(8,zK [8] []),(9,zK [1,3,4,9,10,15,16] [4,15]),(10,zK [1,3,4,9,10,16,85] [4]),(11,zK [8] []),(12,zK [8] [])],
 [],
 [(2,zK [1,2,3,4,29] [4]),(3,zK [1,2,3,4] [4]),(4,zK [1,2,3,4,9,10,11] [4]),(5,zK [1,3,4,9,10,11,12,13,14] [4]),(7,zK [1,3,4,9,10,11] [4]),(9,zK [1,3,4,9,10] [4]),(10,zK [1,3,4,9,10,15,16] [4,15]),(12,zK [1,3,4,9,10,16] [4])],
 [],[]⟩
abbrev R14:=Bool
abbrev e14 (r:R14):List PA:=[.one (.bool r)]
@[irreducible] def z14:=ptF Tryd.prog G14 zHa Tryd.f14
section
variable {K:List PA→Prop} {n:Net} {from_a1:Int} {chain:(Sl Use)} {values:(Sl Int)} {ztn:Bool} {zcz:Int} {zay:Int} {zlS:Bool} {xv3:Int} {yv3:Int} {zto:Bool} {ev6:Int} {zAC:Int} {ztp:Int}
def zho (n:Net) (from_a1:Int) (values:(Sl Int)) (zcz:Int) (zay:Int) (ev6:Int):Bool :=
  (cond (!(s38 n values))
 true
 (cond (ev6 == (0:Int))
 (cond (decide ((w64 ((values.get zcz.toNat) - (values.get from_a1.toNat))) ≤ zay))
 true
 false)
 false))
def zhp (n:Net) (from_a1:Int) (values:(Sl Int)) (zcz:Int) (zay:Int) (ev6:Int):Bool :=
  (decide ((p38 n values=true)) &&
 (cond (!(s38 n values))
 true
 (cond (ev6 == (0:Int))
 (decide ((0≤zcz∧zcz < (values.len:Int))) &&
 (decide ((0≤from_a1∧from_a1 < (values.len:Int))) &&
 true))
 true)))
theorem zoj (hs:zhp n from_a1 values zcz zay ev6=true) (hk:K (e14 (zho n from_a1 values zcz zay ev6))):z14 K [1,1,1,1,1,1,1,1] [] ⟨[(1,zI from_a1),(3,zS enc_3 1 values),(4,zp 4 0),(9,zI zcz),(10,zI zay),(16,zI ev6)],[(4,.box 24 (zm (enc_24 n)))],[]⟩:=zbd (by kernel_rfl) (za2 hs fun hc hs=>And.intro (And.intro (zE enc_40 4 n.Ties.get) (And.intro (zE enc_3 1 values.get) hc)) (zc hs hk (fun hs hk=>hk) (fun hs hk=>(zc hs hk (fun hs hk=>(za2 hs fun hc hs=>And.intro hc (za2 hs fun hc hs=>And.intro hc (zt hk (fun hk=>hk) (fun hk=>hk))))) (fun hs hk=>hk)))))
def zok (n:Net) (from_a1:Int) (values:(Sl Int)) (zcz:Int) (zay:Int) (ev6:Int) (zAC:Int) (ztp:Int):Bool :=
  (cond (ev6 == (0:Int))
 (cond (decide (ztp > zay))
 false
 (cond (ev6 != (0:Int))
 (cond (ev6 != (5:Int))
 false
 (zho n from_a1 values zcz zay ev6))
 (zho n from_a1 values zcz zay ev6)))
 (cond (ev6 != (0:Int))
 (cond (ev6 != (5:Int))
 false
 (zho n from_a1 values zcz zay ev6))
 (zho n from_a1 values zcz zay ev6)))
def zol (n:Net) (from_a1:Int) (values:(Sl Int)) (zcz:Int) (zay:Int) (ev6:Int) (zAC:Int) (ztp:Int):Bool :=
  (cond (ev6 == (0:Int))
 (cond (decide (ztp > zay))
 true
 (cond (ev6 != (0:Int))
 (cond (ev6 != (5:Int))
 true
 (zhp n from_a1 values zcz zay ev6))
 (zhp n from_a1 values zcz zay ev6)))
 (cond (ev6 != (0:Int))
 (cond (ev6 != (5:Int))
 true
 (zhp n from_a1 values zcz zay ev6))
 (zhp n from_a1 values zcz zay ev6)))
theorem zHb (hs:zol n from_a1 values zcz zay ev6 zAC ztp=true) (hk:K (e14 (zok n from_a1 values zcz zay ev6 zAC ztp))):z14 K [1,1,1,1,1,1,1] [] ⟨[(1,zI from_a1),(3,zS enc_3 1 values),(4,zp 4 0),(9,zI zcz),(10,zI zay),(15,zp 15 0),(16,zI ev6)],[(4,.box 24 (zm (enc_24 n))),(15,.box 43 (zm (zbM (⟨zAC,ztp⟩:Span))))],[]⟩:=zbd (by kernel_rfl) (zc hs hk (fun hs hk=>(zc hs hk (fun hs hk=>hk) (fun hs hk=>(zc hs hk (fun hs hk=>(zc hs hk (fun hs hk=>hk) (fun hs hk=>(zoj hs hk)))) (fun hs hk=>(zoj hs hk)))))) (fun hs hk=>(zc hs hk (fun hs hk=>(zc hs hk (fun hs hk=>hk) (fun hs hk=>(zoj hs hk)))) (fun hs hk=>(zoj hs hk)))))
def zom (n:Net) (from_a1:Int) (values:(Sl Int)) (zcz:Int) (zay:Int):Bool :=
  (zok n from_a1 values zcz zay ((s30 n from_a1 zcz).2) (((s30 n from_a1 zcz).1).Low) (((s30 n from_a1 zcz).1).High))
def zon (n:Net) (from_a1:Int) (values:(Sl Int)) (zcz:Int) (zay:Int):Bool :=
  (decide ((p30 n from_a1 zcz=true)) &&
 (zol n from_a1 values zcz zay ((s30 n from_a1 zcz).2) (((s30 n from_a1 zcz).1).Low) (((s30 n from_a1 zcz).1).High)))
theorem zHc (hs:zon n from_a1 values zcz zay=true) (hk:K (e14 (zom n from_a1 values zcz zay))):z14 K [1,1,1,1,1,1] [] ⟨[(1,zI from_a1),(3,zS enc_3 1 values),(4,zp 4 0),(9,zI zcz),(10,zI zay)],[(4,.box 24 (zm (enc_24 n)))],[]⟩:=zbd (by kernel_rfl) (za2 hs fun hc hs=>And.intro (And.intro (zE enc_40 4 n.Ties.get) hc) (zHb hs hk))
def ztq (n:Net) (from_a1:Int) (values:(Sl Int)) (zcz:Int) (zay:Int) (zlS:Bool):Bool :=
  (cond (!zlS)
 true
 (zom n from_a1 values zcz zay))
def ztr (n:Net) (from_a1:Int) (values:(Sl Int)) (zcz:Int) (zay:Int) (zlS:Bool):Bool :=
  (cond (!zlS)
 true
 (zon n from_a1 values zcz zay))
theorem zHd (hs:ztr n from_a1 values zcz zay zlS=true) (hk:K (e14 (ztq n from_a1 values zcz zay zlS))):z14 K [1,1,1,1,1] [] ⟨[(1,zI from_a1),(3,zS enc_3 1 values),(4,zp 4 0),(9,zI zcz),(10,zI zay),(11,zB zlS)],[(4,.box 24 (zm (enc_24 n)))],[]⟩:=zbd (by kernel_rfl) (zc hs hk (fun hs hk=>hk) (fun hs hk=>(zHc hs hk)))
def zts (n:Net) (from_a1:Int) (values:(Sl Int)) (zcz:Int) (zay:Int) (zlS:Bool) (xv3:Int) (yv3:Int) (zto:Bool):Bool :=
  (cond (zcz != xv3)
 false
 (cond (zay != yv3)
 false
 (cond (zlS != zto)
 false
 (ztq n from_a1 values zcz zay zlS))))
def ztt (n:Net) (from_a1:Int) (values:(Sl Int)) (zcz:Int) (zay:Int) (zlS:Bool) (xv3:Int) (yv3:Int) (zto:Bool):Bool :=
  (cond (zcz != xv3)
 true
 (cond (zay != yv3)
 true
 (cond (zlS != zto)
 true
 (ztr n from_a1 values zcz zay zlS))))
theorem zHe (hs:ztt n from_a1 values zcz zay zlS xv3 yv3 zto=true) (hk:K (e14 (zts n from_a1 values zcz zay zlS xv3 yv3 zto))):z14 K [1,1,1,1] [] ⟨[(1,zI from_a1),(3,zS enc_3 1 values),(4,zp 4 0),(9,zI zcz),(10,zI zay),(11,zB zlS),(12,zI xv3),(13,zI yv3),(14,zB zto)],[(4,.box 24 (zm (enc_24 n)))],[]⟩:=zbd (by kernel_rfl) (zc hs hk (fun hs hk=>hk) (fun hs hk=>(zc hs hk (fun hs hk=>hk) (fun hs hk=>(zc hs hk (fun hs hk=>hk) (fun hs hk=>(zHd hs hk)))))))
def ztu (n:Net) (from_a1:Int) (chain:(Sl Use)) (values:(Sl Int)) (zcz:Int) (zay:Int) (zlS:Bool):Bool :=
  (zts n from_a1 values zcz zay zlS ((s57 n from_a1 chain).1) ((s57 n from_a1 chain).2.1) ((s57 n from_a1 chain).2.2))
def ztv (n:Net) (from_a1:Int) (chain:(Sl Use)) (values:(Sl Int)) (zcz:Int) (zay:Int) (zlS:Bool):Bool :=
  (decide ((p57 n from_a1 chain=true)) &&
 (ztt n from_a1 values zcz zay zlS ((s57 n from_a1 chain).1) ((s57 n from_a1 chain).2.1) ((s57 n from_a1 chain).2.2)))
theorem zHf (hs:ztv n from_a1 chain values zcz zay zlS=true) (hk:K (e14 (ztu n from_a1 chain values zcz zay zlS))):z14 K [1,1,1] [] ⟨[(1,zI from_a1),(2,zS enc_75 2 chain),(3,zS enc_3 1 values),(4,zp 4 0),(9,zI zcz),(10,zI zay),(11,zB zlS)],[(4,.box 24 (zm (enc_24 n)))],[]⟩:=zbd (by kernel_rfl) (za2 hs fun hc hs=>And.intro (And.intro (zE enc_40 4 n.Ties.get) (And.intro (zE enc_75 2 chain.get) hc)) (zHe hs hk))
def zoo (n:Net) (from_a1:Int) (chain:(Sl Use)) (values:(Sl Int)):Bool :=
  (ztu n from_a1 chain values ((s56 n from_a1 chain).1) ((s56 n from_a1 chain).2.1) ((s56 n from_a1 chain).2.2))
def zop (n:Net) (from_a1:Int) (chain:(Sl Use)) (values:(Sl Int)):Bool :=
  (decide ((p56 n from_a1 chain=true)) &&
 (ztv n from_a1 chain values ((s56 n from_a1 chain).1) ((s56 n from_a1 chain).2.1) ((s56 n from_a1 chain).2.2)))
theorem zHg (hs:zop n from_a1 chain values=true) (hk:K (e14 (zoo n from_a1 chain values))):z14 K [1,1] [] ⟨[(1,zI from_a1),(2,zS enc_75 2 chain),(3,zS enc_3 1 values),(4,zp 4 0)],[(4,.box 24 (zm (enc_24 n)))],[]⟩:=zbd (by kernel_rfl) (za2 hs fun hc hs=>And.intro (And.intro (zE enc_40 4 n.Ties.get) (And.intro (zE enc_75 2 chain.get) hc)) (zHf hs hk))
def zlT (n:Net) (from_a1:Int) (chain:(Sl Use)) (values:(Sl Int)) (ztn:Bool):Bool :=
  (cond ztn
 true
 (zoo n from_a1 chain values))
def zlU (n:Net) (from_a1:Int) (chain:(Sl Use)) (values:(Sl Int)) (ztn:Bool):Bool :=
  (cond ztn
 true
 (zop n from_a1 chain values))
theorem ztw (hs:zlU n from_a1 chain values ztn=true) (hk:K (e14 (zlT n from_a1 chain values ztn))):z14 K [1,0,1] [] ⟨[(1,zI from_a1),(2,zS enc_75 2 chain),(3,zS enc_3 1 values),(4,zp 4 0),(29,zB ztn)],[(4,.box 24 (zm (enc_24 n)))],[]⟩:=zbd (by kernel_rfl) (zc hs hk (fun hs hk=>hk) (fun hs hk=>(zHg hs hk)))
def s14 (n:Net) (from_a1:Int) (chain:(Sl Use)) (values:(Sl Int)):Bool :=
  (cond (!(s20 n (20:Int)))
 (zlT n from_a1 chain values true)
 (cond (decide ((chain.len : Int) > (50:Int)))
 (zlT n from_a1 chain values true)
 (zlT n from_a1 chain values (decide ((values.len:Int) > (50:Int))))))
def p14 (n:Net) (from_a1:Int) (chain:(Sl Use)) (values:(Sl Int)):Bool :=
  (cond (!(s20 n (20:Int)))
 (zlU n from_a1 chain values true)
 (cond (decide ((chain.len : Int) > (50:Int)))
 (zlU n from_a1 chain values true)
 (zlU n from_a1 chain values (decide ((values.len:Int) > (50:Int))))))
end
theorem q14 (n:Net) (from_a1:Int) (chain:(Sl Use)) (values:(Sl Int)) (K:List PA→Prop) (hs:p14 n from_a1 chain values=true) (hk:K (e14 (s14 n from_a1 chain values))):vcFun Tryd.prog G14 zHa 14 [.agg (enc_24 n),.one (.int .i64 from_a1),.one (.sl chain.len 2 (fun i=>enc_75 (chain.get i))),.one (.sl values.len 1 (fun i=>enc_3 (values.get i)))] K :=
  zbd (by kernel_rfl) (And.intro (zE enc_40 4 n.Ties.get) (zc hs hk (fun hs hk=>(ztw hs hk)) (fun hs hk=>(zc hs hk (fun hs hk=>(ztw hs hk)) (fun hs hk=>(ztw hs hk))))))
def zJ4 : List PA → COut
  | [.agg [.int .i64 zah,.sl zad zaz zac],.one (.int .i64 a1),.one (.sl zjJ zxN zjK),.one (.sl zKL zMC zKM)]=>.det (IsE enc_40 4 zaz zac∧IsE enc_75 2 zxN zjK∧IsE enc_3 1 zMC zKM∧p14 (⟨zah,(⟨zad,zal zac⟩:(Sl Tie))⟩:Net) a1 (⟨zjJ,zb6 zjK⟩:(Sl Use)) (⟨zKL,zar zKM⟩:(Sl Int))=true) [.one (.bool (s14 (⟨zah,(⟨zad,zal zac⟩:(Sl Tie))⟩:Net) a1 (⟨zjJ,zb6 zjK⟩:(Sl Use)) (⟨zKL,zar zKM⟩:(Sl Int))))]
  | _=>.no
theorem call14:zaw Tryd.prog 14:=⟨_,rfl,rfl,by kernel_rfl⟩
theorem ok14:Ok Tryd.prog 14 zJ4:=zbF zL5 call14 fun args K h=>by
  unfold zJ4 at h
  split at h
  · rename_i zah zad zaz zac a1 zjJ zxN zjK zKL zMC zKM
    obtain ⟨⟨⟨rfl,zaq,rfl⟩,⟨rfl,zq8,rfl⟩,⟨rfl,zL6,rfl⟩,hs⟩,hk⟩:=h
    try rw [zam zaq] at hs
    try rw [zam zaq] at hk
    try rw [zb2 zq8] at hs
    try rw [zb2 zq8] at hk
    try rw [zbm zL6] at hs
    try rw [zbm zL6] at hk
    exact ⟨(fun _ _=>[]),(fun _=>false),zHa,q14 (⟨zah,(⟨zad,zaq⟩:(Sl Tie))⟩:Net) a1 (⟨zjJ,zq8⟩:(Sl Use)) (⟨zKL,zL6⟩:(Sl Int)) K hs hk⟩
  · exact h.elim
end Go.Proofs
namespace Go.Proofs.YtedhjaaikeakoaaDoor
open Go Go.Pm Go.ChangeShapes
set_option maxRecDepth 100000
abbrev laid1 : List (String × DataW Unit) := [("overburden/align.never", Rows.laid_overburden_align_never)]
theorem zDz : Tryd.prog.globalNamed "overburden/align.never" = some 0 := by kernel_rfl
theorem zJ5:(Tryd.prog.globals[0]?).map (·.type)=some 114:=by kernel_rfl
theorem zJ6:Tryd.prog.cellsOf 114=2:=by kernel_rfl
theorem zMD:Tryd.prog.cellsOf 3=1:=by kernel_rfl
theorem door_met (os:Os) (args:Array Value):laidMetH Tryd.prog laid1 ((World.doorLaid Tryd.prog 400 os).forCall (fun _ _=>0) ⟨#[],args,[]⟩).memory :=
 laidMetH_of_parts3 (fuel:=8) (laidMet_of_run' 8 (by kernel_rfl) (by kernel_rfl)) (by kernel_rfl) (by kernel_rfl)
theorem gl_of {W:World} (h:laidMetH Tryd.prog laid1 W):zel (H0 W):=by
 rw [MakeChecks.laidMetH_plain _ _ _ (by kernel_rfl)] at h
 obtain ⟨ps,⟨g0,t0,cs0,f0,p0,q0,hg0,ht0,hv0,hd0,_,_⟩,_,_⟩:=h
 obtain rfl:=Option.some.inj (zDz.symm.trans hg0)
 obtain rfl:=Option.some.inj (zJ5.symm.trans ht0)
 obtain ⟨y0,y1,n,hx,hl,h0,h1⟩:=trod_struct2 Tryd.underlying114 hd0
 simp only [Prod.mk.injEq] at hx
 obtain ⟨hx,-⟩:=hx
 simp only [Rows.laid_overburden_align_never,DataW.agg.injEq,List.cons.injEq,and_true] at hx
 obtain ⟨k0,e0,d0,_⟩:=DataW.trod_int Tryd.underlying3 h0
 obtain ⟨k1,e1,d1,_⟩:=DataW.trod_int Tryd.underlying3 h1
 rw [zJ6] at hl
 have e0':cs0.toList.take 1=[.int .i64 k0]:=by
  have:=e0
  rw [show Tryd.prog.cellsOf _=1 from zMD] at this
  simpa using this
 have e1':(cs0.toList.drop 1).take 1=[.int .i64 k1]:=by
  have:=e1
  rw [show Tryd.prog.cellsOf _=1 from zMD] at this
  simpa using this
 have hk0:k0=1000000000000:=by have:=hx.1;rw [d0] at this;injection this with a;injection a with _ a;exact a.symm
 have hk1:k1=0:=by have:=hx.2;rw [d1] at this;injection this with a;injection a with _ a;exact a.symm
 have hC:cs0.toList=[.int .i64 1000000000000,.int .i64 0]:=by
  have h2:cs0.toList=cs0.toList.take 1 ++ (cs0.toList.drop 1).take 1:=by
   rw [← List.take_add,List.take_of_length_le (by omega)]
  rw [h2,e0',e1',hk0,hk1];rfl
 intro k l hk
 unfold World.var? at hv0
 rw [zDz] at hv0
 simp only [Option.bind_some] at hv0
 cases k with
 | succ k=>cases hk
 | zero =>
  obtain rfl:[PV.int .i64 1000000000000,.int .i64 0]=l:=Option.some.inj hk
  cases eo:W.heap[0]? with
  | none=>rw [eo] at hv0;cases hv0
  | some o =>
   rw [eo] at hv0
   cases o with
   | cells C ty fr =>
    simp only [Option.some.injEq] at hv0
    subst hv0
    exact ⟨_,ty,fr,by unfold H0;rw [eo];rfl,by rw [hC];exact ⟨.int _ _,.int _ _,trivial⟩⟩
   | _=>cases hv0
end Go.Proofs.YtedhjaaikeakoaaDoor
namespace Go.Proofs.YtedhjaaikeakoaaDoor
set_option maxRecDepth 100000
def dc : Nat → Nat → List Char
  | 0,_=>[]
  | k+1,n=>Char.ofNat (n % 128) :: dc k (n / 128)
def ioR:List (List Char):=[dc 2 14945,dc 38 107265865644741724912243125268531249640326942553430557205577479631290979090791279,dc 38 108293077817484906734254386447616441263814988321737617043972465573863363972791151,dc 38 93370879016013017278412803021783510280543711028000410236402271261457424383048559,dc 38 107258694022858408970435192345127867927486736974969802526482043864463718682819439,dc 39 13746719959472648153406769131206406626558510298776447130317981093147086104311724911,dc 38 107266209769642888316488957616301258915172789321380384129051881327065490379078511,dc 39 13738338888634744287462113483281891133786406809494667074737303271467843731645365103,dc 38 107308724040215521434011850380931925905298338556088488294726402895071789331348335,dc 43 3689337697451499537899652006011379275272339788637320245734945509069109267079825879406836591,dc 38 106339254617564648824502995819756623291246721172574690728430612464564447869500271,dc 38 107330772524736890892060720350443696785457349727637599143704802418857719933533039,dc 38 107266380701743786104986999119182321999123657451770743386930499759721679104342895,dc 38 107308728471136676073553801914045189487148679029700448428114571309412341010496367,dc 37 837954515553292543489687687552621780150771894250034810644180755742461368302447,dc 38 107287017468262091873827311208814906259154281073825133055543027267698112966785903,dc 38 107374028509112486977837548216825331243033985081330090052312008930171490580134767,dc 38 107265533895345759970156929786145176805363222797160045994169685653949991330872175]
def ioN:List Char:=dc 748 14110378018767575964226655308004126793045208087310171201555892242252648960690434620806224759478349222793457564936136773140206884019406577404308477398112682127111429688458091804136369451876026010391452929509304596612007749348823331848074321521876163367611471766311661795807971626777430789606670518996161301806853738256348343737238826384171739901612950230839336053519876648582653265928992265003442337249315020340640568624042171724319570015876863120612063908539839480788963015814409324055605425425582212723687691771037045010066064867754736841809752569547023397197010564985861497252960727260554984899190782686002829257997185443421456271698218584945985148990383891392482548262956659989814614329905290488435125286744085629934720469444029598243369313538259143807170350259387234145666063103371643809341342441092158617040725699310351084585854817129011753246127748964030413854525633190715875548631480060648955255476518703717934493416584654287151545453027212072361023366870608725576042669368667333719675724995494706645777621137060304017521484702088503639607947747215026989263530504204523251982333933107210391579300884546305432560571086131943194743723205005815139772394062686780566686930384812217785365992657908782936586832589627342388339882126362151219006413773645814561079952905486963953952063552645778936398310246717058410743450648594152841163565946295251582585294350653230459132165827590128826417871324965536217148578987470925657879977171716100377657863588641203253643922875913460814715430695689192746980757875303892414899783421563436119681070640173712093473782554642421452415184974056
theorem ioS:Tryd.prog.initOrder=String.ofList ioN:=by kernel_rfl
theorem ioL:Tryd.prog.initOrder.toList=ioN:=(congrArg String.toList ioS).trans String.toList_ofList
theorem ioW:wordsSigns Tryd.prog.initOrder.toList=(dc 7 509754063237352) :: (dc 64 583581952082889979719035725534559484815115086455805852996510235646750355970935781905203483690318741732481452225105900421668580921071669) :: (dc 3 1915619) :: ioR:=(congrArg wordsSigns ioL).trans (by kernel_rfl)
theorem ioB:behindMainWord (wordsSigns Tryd.prog.initOrder.toList)=(dc 3 1915619) :: ioR:=(congrArg behindMainWord ioW).trans (by kernel_rfl)
theorem zp5 {P : Program} {l : List (List Char)} (h : behindMainWord (wordsSigns P.initOrder.toList) = l) : P.headLifts = (if (stripLifts liftWords l).2.head? == some "cut".toList then (stripLifts liftWords l).1 else []) := by subst h; rfl
theorem zHh {P:Program} {rest:List (List Char)} (h:behindMainWord (wordsSigns P.initOrder.toList)=(dc 3 1915619) :: rest):P.make=some .cut:=by unfold Program.make;rw [h];rfl
theorem zCu {P:Program} {rest:List (List Char)} (h:behindMainWord (wordsSigns P.initOrder.toList)=(dc 3 1915619) :: rest) (hl:P.headLifts=[]):P.liftsFinal=false:=by unfold Program.liftsFinal;rw [h,hl];rfl
theorem zHi {P : Program} {a b : List Char} {rest : List (List Char)} (h : wordsSigns P.initOrder.toList = a :: b :: rest) (hs : isSumSigns b = true) (ha : (a == "harness".toList) = true) : P.mainIs = some (true, b) := by unfold Program.mainIs; rw [h]; simp only [hs, ha]; rfl
theorem zCv {P : Program} {c : List Char} {rest : List (List Char)} (h : behindMainWord (wordsSigns P.initOrder.toList) = c :: rest) (hst : (stripLifts liftWords (c :: rest)).2.head? = some "cut".toList)
    (hs1:(stripLifts liftWords (c :: rest)).1=[]) (hlay:P.laysLater=false) (hb:P.bearsReflect=false) (hd:P.doorFits []=true):P.mayEnter=true:=by
  unfold Program.mayEnter
  rw [h]
  simp [hst,hs1,hlay,hb,hd]
theorem ioH:Tryd.prog.headLifts=[]:=(zp5 ioB).trans (by kernel_rfl)
theorem ioK:Tryd.prog.make=some .cut:=zHh ioB
theorem ioF:Tryd.prog.liftsFinal=false:=zCu ioB ioH
theorem ioM : Tryd.prog.mainIs = some (true, "5097d02014b7f9bdc457588f16a61179f96daee4a085c0a2c5462d863db43dbf".toList) := (zHi ioW (by kernel_rfl) (by kernel_rfl)).trans (by kernel_rfl)
theorem ioE:Tryd.prog.mayEnter=true:=zCv ioB (by kernel_rfl) (by kernel_rfl) (by kernel_rfl) (by kernel_rfl) (by kernel_rfl)
end Go.Proofs.YtedhjaaikeakoaaDoor
namespace Go.Pm
open Go

theorem zcv {x:Int} (h1 : -9223372036854775808≤x) (h2:x≤9223372036854775807):w64 x=x:=by
 have hb:IntKind.i64.bits=64:=rfl
 have hs:IntKind.i64.signed=true:=rfl
 unfold w64 IntKind.wrap
 rw [hb,hs]
 simp only [Bool.true_and,decide_eq_true_eq]
 split <;> omega
def zME (c : Nat → Bool) : Nat → Nat → Nat
  | 0,i=>i
  | m+1,i=>match c i with | true=>i | false=>zME c m (i+1)
def fst (c:Nat→Bool) (n:Nat):Nat:=zME c n 0
theorem zjO {good : Nat → Bool} {fin : Bool} {n : Nat} {lpS lpP : Nat → Int → Bool}
    (hS:∀ (k i:Nat),i < n→lpS (k+1) (i:Int)=cond (good i) (lpS k (w64 ((i:Int)+(1:Int)))) false)
    (hE:∀ k,lpS (k+1) (n:Int)=fin)
    (hP:∀ (k i:Nat),i < n→lpP (k+1) (i:Int)=cond (good i) (lpP k (w64 ((i:Int)+(1:Int)))) true)
    (hPE:∀ k,lpP (k+1) (n:Int)=true) (hn:n≤9223372036854775807) :
    lpP Fuel 0=true∧(lpS Fuel 0=true↔(∀ i,i < n→good i=true)∧fin=true):=by
  have key:∀ (m k i:Nat),i+m=n→m < k→lpP k (i:Int)=true∧(lpS k (i:Int)=true↔(∀ j,i≤j→j < n→good j=true)∧fin=true):=by
    intro m
    induction m with
    | zero =>
      intro k i hi hk
      obtain ⟨k,rfl⟩:∃ k',k=k'+1:=⟨k - 1,by omega⟩
      have:i=n:=by omega
      subst this
      rw [hE,hPE]
      exact ⟨rfl,⟨fun h=>⟨fun j h1 h2=>absurd h2 (by omega),h⟩,fun h=>h.2⟩⟩
    | succ m ih =>
      intro k i hi hk
      obtain ⟨k,rfl⟩:∃ k',k=k'+1:=⟨k - 1,by omega⟩
      rw [hS k i (by omega),hP k i (by omega)]
      have e3:w64 ((i:Int)+1)=((i+1:Nat):Int):=by rw [zcv (by omega) (by omega)];omega
      rw [e3]
      obtain ⟨h1,h2⟩:=ih k (i+1) (by omega) (by omega)
      cases hg:good i
      · refine ⟨rfl, ⟨fun h => (by cases h), fun h => ?_⟩⟩
        have:=h.1 i (Nat.le_refl _) (by omega)
        rw [hg] at this;cases this
      · refine ⟨h1, h2.trans ⟨fun h => ⟨fun j hj1 hj2 => ?_, h.2⟩, fun h => ⟨fun j hj1 hj2 => h.1 j (by omega) hj2, h.2⟩⟩⟩
        by_cases hji:j=i
        · rw [hji];exact hg
        · exact h.1 j (by omega) hj2
  have:=key n Fuel 0 (by omega) (by simp only [Fuel];omega)
  simpa using this

end Go.Pm
namespace Go.Pm
open Go
theorem zoq {i n:Nat} (h:i < n) (hn:n≤9223372036854775807):w64 ((i:Int)+(1:Int))=((i+1:Nat):Int):=by
 rw [zcv (by omega) (by omega)];omega
theorem zHj {β : Type} {good : Nat → Bool} {bad fin : β} {finP : Bool} {n : Nat} {lpS : Nat → Int → β} {lpP : Nat → Int → Bool}
    (hS:∀ (k i:Nat),i < n→lpS (k+1) (i:Int)=cond (good i) (lpS k (w64 ((i:Int)+(1:Int)))) bad)
    (hE:∀ k,lpS (k+1) (n:Int)=fin)
    (hP:∀ (k i:Nat),i < n→lpP (k+1) (i:Int)=cond (good i) (lpP k (w64 ((i:Int)+(1:Int)))) true)
    (hPE:∀ k,lpP (k+1) (n:Int)=finP) (hn:n≤9223372036854775807) :
    ((∀ i,i < n→good i=true)→lpP Fuel 0=finP∧lpS Fuel 0=fin)∧((¬ ∀ i,i < n→good i=true)→lpP Fuel 0=true∧lpS Fuel 0=bad):=by
  have key:∀ (m k i:Nat),i+m=n→m < k→((∀ j,i≤j→j < n→good j=true)→lpP k (i:Int)=finP∧lpS k (i:Int)=fin)∧((¬ ∀ j,i≤j→j < n→good j=true)→lpP k (i:Int)=true∧lpS k (i:Int)=bad):=by
    intro m
    induction m with
    | zero =>
      intro k i hi hk
      obtain ⟨k,rfl⟩:∃ k',k=k'+1:=⟨k - 1,by omega⟩
      have:i=n:=by omega
      subst this
      rw [hE,hPE]
      exact ⟨fun _=>⟨rfl,rfl⟩,fun h=>absurd (fun j h1 h2=>absurd h2 (by omega)) h⟩
    | succ m ih =>
      intro k i hi hk
      obtain ⟨k,rfl⟩:∃ k',k=k'+1:=⟨k - 1,by omega⟩
      rw [hS k i (by omega),hP k i (by omega),zoq (n:=n) (by omega) hn]
      obtain ⟨h1,h2⟩:=ih k (i+1) (by omega) (by omega)
      cases hg:good i
      · refine ⟨fun h => ?_, fun _ => ⟨rfl, rfl⟩⟩
        have:=h i (Nat.le_refl _) (by omega)
        rw [hg] at this;cases this
      · refine ⟨fun h => h1 fun j a b => h j (by omega) b, fun h => h2 fun h' => h fun j a b => ?_⟩
        by_cases hji:j=i
        · rw [hji];exact hg
        · exact h' j (by omega) b
  have:=key n Fuel 0 (by omega) (by simp only [Fuel];omega)
  simpa using this
end Go.Pm
namespace Go.Proofs
open Go Go.Pm
set_option maxRecDepth 100000
set_option linter.unusedVariables false
attribute [local irreducible] Go.Pm.vcFun Go.Pm.vc Go.Pm.vcIter
end Go.Proofs
namespace Go.Proofs
open Go Go.Pm
set_option maxRecDepth 100000
theorem zlV (n a b:Int):s81 n a b=decide (a≤n∧n≤b):=by
 unfold s81
 by_cases h:a≤n
 ·rw [decide_eq_true (show n ≥ a from h),cond_true];exact decide_eq_decide.2 ⟨fun k=>⟨h,k⟩,fun k=>k.2⟩
 ·rw [decide_eq_false (show ¬ n ≥ a from h),cond_false];exact (decide_eq_false (fun k=>h k.1)).symm
theorem zp6 (n a b:Int):s72 n a b=decide (a≤n∧n≤b):=zlV n a b
theorem zuP (n:Net) (hn:n.Ties.len≤9223372036854775807):p67 n=true∧(s67 n=true↔(∀ i,i < n.Ties.len→s78 (n.Ties.get i) n.Nodes=true)∧(1≤n.Nodes∧n.Nodes≤40)∧n.Ties.len≤200):=by
  have := zjO (good := fun i => s78 (n.Ties.get i) n.Nodes) (fin := cond (s81 n.Nodes (1:Int) (40:Int)) (decide ((n.Ties.len : Int) ≤ (200:Int))) false) (n := n.Ties.len) (lpS := ziu n) (lpP := ziv n)
    (fun k i hi=>by
      show zis n (ziu n k) (i:Int)=_
      generalize ziu n k=S
      unfold zis zqZ
      rw [decide_eq_true (show (i:Int) < (n.Ties.len:Int) by omega),cond_true,Int.toNat_natCast]
      cases s78 (n.Ties.get i) n.Nodes <;> rfl)
    (fun k=>by
      show zis n (ziu n k) (n.Ties.len:Int)=_
      unfold zis
      rw [decide_eq_false (show ¬ (n.Ties.len:Int) < (n.Ties.len:Int) by omega),cond_false])
    (fun k i hi=>by
      show zit n (ziv n k) (i:Int)=_
      generalize ziv n k=S
      unfold zit zq0
      rw [decide_eq_true (show (i:Int) < (n.Ties.len:Int) by omega),cond_true,Int.toNat_natCast,decide_eq_true (show 0≤(i:Int)∧(i:Int) < (n.Ties.len:Int) by omega),Bool.true_and]
      cases s78 (n.Ties.get i) n.Nodes <;> rfl)
    (fun k=>by
      show zit n (ziv n k) (n.Ties.len:Int)=_
      unfold zit
      rw [decide_eq_false (show ¬ (n.Ties.len:Int) < (n.Ties.len:Int) by omega),cond_false])
    hn
  refine ⟨this.1,this.2.trans ?_⟩
  rw [zlV]
  by_cases h:1≤n.Nodes∧n.Nodes≤40
  · rw [decide_eq_true h,cond_true,decide_eq_true_eq];exact ⟨fun k=>⟨k.1,h,by omega⟩,fun k=>⟨k.1,by omega⟩⟩
  · rw [decide_eq_false h,cond_false];exact ⟨fun k=>absurd k.2 (by decide),fun k=>absurd k.2.1 h⟩
end Go.Proofs
namespace Go.Proofs
open Go Go.Pm
set_option maxRecDepth 100000
set_option linter.unusedVariables false
attribute [local irreducible] Go.Pm.vcFun Go.Pm.vc Go.Pm.vcIter
section
variable {K:List PA→Prop} {n:Net} {values:(Sl Int)} {zNF:Bool} {zp2:Int} {X2:St→Prop} {P2:Int→Bool} {S2:Int→Bool} {zNG:Int} {zNH:Bool} {zNI:Int} {X5:St→Prop} {P5:Int→Bool} {S5:Int→Bool}
end
section
variable {K:List PA→Prop} {n:Net}
end
end Go.Proofs
namespace Go.Proofs
open Go Go.Pm
set_option maxRecDepth 100000
set_option linter.unusedVariables false
theorem dgt (x y:Int):decide (x > y) = !decide (x≤y):=by
 by_cases h:x > y
 ·rw [decide_eq_true h,decide_eq_false (show ¬ x≤y by omega)];rfl
 ·rw [decide_eq_false h,decide_eq_true (show x≤y by omega)];rfl
theorem zDA (nodes:Int) (t:Tie):s36 nodes t=s78 t nodes:=by
 unfold s36 ziY zs6 s78 zkR zkQ
 simp only [zp6,zlV,bne,dgt]
 generalize decide (0≤t.From∧t.From≤w64 (nodes - (1:Int)))=a
 generalize decide (0≤t.To∧t.To≤w64 (nodes - (1:Int)))=b
 generalize (t.From == t.To)=c
 generalize (t.Low == (-1000000000000:Int))=d
 generalize (t.High == (1000000000000:Int))=e
 generalize decide (-1000000000≤t.Low∧t.Low≤1000000000)=f
 generalize decide (-1000000000≤t.High∧t.High≤1000000000)=g
 generalize decide (t.Low≤t.High)=h
 cases a <;> cases b <;> cases c <;> cases d <;> cases e <;> cases f <;> cases g <;> cases h <;> rfl
structure TieOk (t : Tie) (nodes : Int) : Prop where
  f0:0≤t.From
  f1:t.From < nodes
  t0:0≤t.To
  t1:t.To < nodes
  ne:t.From ≠ t.To
  lo:t.Low = -1000000000000∨(-1000000000≤t.Low∧t.Low≤1000000000)
  hi:t.High=1000000000000∨(-1000000000≤t.High∧t.High≤1000000000)
  le:t.Low≤t.High
theorem zAD (t:Tie) (nodes:Int) (h1:1≤nodes) (h2:nodes≤40):s78 t nodes=true↔TieOk t nodes:=by
 have e:s78 t nodes=(decide (0≤t.From∧t.From < nodes) && (decide (0≤t.To∧t.To < nodes) && (!(t.From == t.To) && (((t.Low == (-1000000000000:Int)) || decide (-1000000000≤t.Low∧t.Low≤1000000000)) && (((t.High == (1000000000000:Int)) || decide (-1000000000≤t.High∧t.High≤1000000000)) && decide (t.Low≤t.High)))))):=by
  unfold s78 zkR zkQ
  rw [zcv (x:=nodes - 1) (by omega) (by omega)]
  simp only [zlV]
  rw [decide_eq_decide.2 (show (0≤t.From∧t.From≤nodes - 1)↔(0≤t.From∧t.From < nodes) by omega),decide_eq_decide.2 (show (0≤t.To∧t.To≤nodes - 1)↔(0≤t.To∧t.To < nodes) by omega)]
  simp only [bne]
  generalize decide (0≤t.From∧t.From < nodes)=a
  generalize decide (0≤t.To∧t.To < nodes)=b
  generalize (t.From == t.To)=c
  generalize (t.Low == (-1000000000000:Int))=d
  generalize (t.High == (1000000000000:Int))=e
  generalize decide (-1000000000≤t.Low∧t.Low≤1000000000)=f
  generalize decide (-1000000000≤t.High∧t.High≤1000000000)=g
  generalize decide (t.Low≤t.High)=h
  cases a <;> cases b <;> cases c <;> cases d <;> cases e <;> cases f <;> cases g <;> cases h <;> rfl
 rw [e]
 simp only [Bool.and_eq_true,Bool.or_eq_true,decide_eq_true_eq,Bool.not_eq_true',beq_eq_false_iff_ne,beq_iff_eq]
 constructor
 ·rintro ⟨⟨a,b⟩,⟨c,d⟩,e,f,g,h⟩;exact ⟨a,b,c,d,e,f,g,h⟩
 ·rintro ⟨a,b,c,d,e,f,g,h⟩;exact ⟨⟨a,b⟩,⟨c,d⟩,e,f,g,h⟩
structure NetOk (n : Net) : Prop where
  n1:1≤n.Nodes
  n40:n.Nodes≤40
  len:n.Ties.len≤200
  tie:∀ i,i < n.Ties.len→TieOk (n.Ties.get i) n.Nodes
theorem zAE (n:Net) (hn:n.Ties.len≤9223372036854775807):p67 n=true∧(s67 n=true↔NetOk n):=by
 obtain ⟨h1,h2⟩:=zuP n hn
 refine ⟨h1,h2.trans ?_⟩
 constructor
 ·rintro ⟨a,⟨b,c⟩,d⟩;exact ⟨b,c,by omega,fun i hi=>(zAD _ _ b c).1 (a i hi)⟩
 ·rintro ⟨b,c,d,a⟩;exact ⟨fun i hi=>(zAD _ _ b c).2 (a i hi),⟨b,c⟩,by omega⟩
theorem zDB (n:Net) (hn:n.Ties.len≤9223372036854775807):p23 n=true∧s23 n=s67 n:=by
  have hl := zjO (good := fun i => s36 n.Nodes (n.Ties.get i)) (fin := true) (n := n.Ties.len) (lpS := zhn n) (lpP := zi1 n)
    (fun k i hi=>by
      show ziZ n (zhn n k) (i:Int)=_
      generalize zhn n k=S
      unfold ziZ zs8
      rw [decide_eq_true (show (i:Int) < (n.Ties.len:Int) by omega),cond_true,Int.toNat_natCast]
      cases s36 n.Nodes (n.Ties.get i) <;> rfl)
    (fun k=>by
      show ziZ n (zhn n k) (n.Ties.len:Int)=_
      unfold ziZ
      rw [decide_eq_false (show ¬ (n.Ties.len:Int) < (n.Ties.len:Int) by omega),cond_false])
    (fun k i hi=>by
      show zi0 n (zi1 n k) (i:Int)=_
      generalize zi1 n k=S
      unfold zi0 zs9
      rw [decide_eq_true (show (i:Int) < (n.Ties.len:Int) by omega),cond_true,Int.toNat_natCast,decide_eq_true (show 0≤(i:Int)∧(i:Int) < (n.Ties.len:Int) by omega),Bool.true_and]
      cases s36 n.Nodes (n.Ties.get i) <;> rfl)
    (fun k=>by
      show zi0 n (zi1 n k) (n.Ties.len:Int)=_
      unfold zi0
      rw [decide_eq_false (show ¬ (n.Ties.len:Int) < (n.Ties.len:Int) by omega),cond_false])
    hn
  obtain ⟨h1,h2⟩:=zuP n hn
  unfold p23 s23 zog zof ztd ztc ztb zta
  rw [hl.1,zp6,dgt]
  refine ⟨by cases decide (1≤n.Nodes∧n.Nodes≤40) <;> cases decide ((n.Ties.len:Int)≤200) <;> rfl,?_⟩
  have h3:=hl.2
  have h4:zhn n Fuel 0=true↔∀ i,i < n.Ties.len→s78 (n.Ties.get i) n.Nodes=true:=h3.trans ⟨fun h i hi=>by rw [← zDA];exact h.1 i hi,fun h=>⟨fun i hi=>by rw [zDA];exact h i hi,rfl⟩⟩
  rw [Bool.eq_iff_iff,h2]
  by_cases a:1≤n.Nodes∧n.Nodes≤40
  · rw [decide_eq_true a]
    by_cases b:(n.Ties.len:Int)≤200
    · rw [decide_eq_true b];exact h4.trans ⟨fun h=>⟨h,a,by omega⟩,fun h=>h.1⟩
    · rw [decide_eq_false b];exact ⟨fun h=>absurd h Bool.false_ne_true,fun h=>absurd h.2.2 (by omega)⟩
  · rw [decide_eq_false a];exact ⟨fun h=>absurd h Bool.false_ne_true,fun h=>absurd h.2.1 a⟩
structure ValOk (n : Net) (v : Sl Int) : Prop where
  len:(v.len:Int)=n.Nodes
  zero:v.get 0=0
  b:∀ i,i < v.len→-1000000000000≤v.get i∧v.get i≤1000000000000
def Keep (t:Tie) (v:Sl Int):Prop:=(t.Low = -1000000000000∨t.Low≤v.get t.To.toNat - v.get t.From.toNat)∧(t.High=1000000000000∨v.get t.To.toNat - v.get t.From.toNat≤t.High)
structure AgOk (n : Net) (v : Sl Int) : Prop where
  val:ValOk n v
  keep:∀ i,i < n.Ties.len→Keep (n.Ties.get i) v
theorem zHk (n:Net) (h1:1≤n.Nodes) (v:Sl Int) (hv:v.len≤9223372036854775807):p80 n v=true∧(s80 n v=true↔ValOk n v):=by
  have hl := zjO (good := fun i => s72 (v.get i) (-1000000000000:Int) (1000000000000:Int)) (fin := true) (n := v.len) (lpS := zhl v) (lpP := ziP v)
    (fun k i hi=>by
      show ziN v (zhl v k) (i:Int)=_
      generalize zhl v k=S
      unfold ziN zsp
      rw [decide_eq_true (show (i:Int) < (v.len:Int) by omega),cond_true,Int.toNat_natCast]
      cases s72 (v.get i) (-1000000000000:Int) (1000000000000:Int) <;> rfl)
    (fun k=>by
      show ziN v (zhl v k) (v.len:Int)=_
      unfold ziN
      rw [decide_eq_false (show ¬ (v.len:Int) < (v.len:Int) by omega),cond_false])
    (fun k i hi=>by
      show ziO v (ziP v k) (i:Int)=_
      generalize ziP v k=S
      unfold ziO zsq
      rw [decide_eq_true (show (i:Int) < (v.len:Int) by omega),cond_true,Int.toNat_natCast,decide_eq_true (show 0≤(i:Int)∧(i:Int) < (v.len:Int) by omega),Bool.true_and]
      cases s72 (v.get i) (-1000000000000:Int) (1000000000000:Int) <;> rfl)
    (fun k=>by
      show ziO v (ziP v k) (v.len:Int)=_
      unfold ziO
      rw [decide_eq_false (show ¬ (v.len:Int) < (v.len:Int) by omega),cond_false])
    hv
  have h3:zhl v Fuel 0=true↔∀ i,i < v.len→-1000000000000≤v.get i∧v.get i≤1000000000000:=hl.2.trans ⟨fun h i hi=>by have:=h.1 i hi;rw [zp6] at this;exact of_decide_eq_true this,fun h=>⟨fun i hi=>by rw [zp6];exact decide_eq_true (h i hi),rfl⟩⟩
  unfold p80 s80 zsu zst zss zsr
  rw [hl.1]
  by_cases a:(v.len:Int)=n.Nodes
  · rw [show ((v.len : Int) != n.Nodes) = false by rw [a]; exact bne_self_eq_false _, cond_false, cond_false]
    by_cases b:v.get 0=0
    · rw [show (v.get 0 != (0:Int)) = false by rw [b]; rfl, cond_false, cond_false]
      exact ⟨by rw [decide_eq_true (show 0≤(0:Int)∧(0:Int) < (v.len:Int) by omega)];rfl,h3.trans ⟨fun h=>⟨a,b,h⟩,fun h=>h.b⟩⟩
    · rw [show (v.get 0 != (0:Int)) = true from bne_iff_ne.2 b, cond_true, cond_true]
      exact ⟨by rw [decide_eq_true (show 0≤(0:Int)∧(0:Int) < (v.len:Int) by omega)];rfl,fun h=>absurd h Bool.false_ne_true,fun h=>absurd h.zero b⟩
  · rw [show ((v.len : Int) != n.Nodes) = true from bne_iff_ne.2 a, cond_true, cond_true]
    exact ⟨rfl,fun h=>absurd h Bool.false_ne_true,fun h=>absurd h.len a⟩
theorem ztx (t:Tie) (n:Net) (v:Sl Int) (ht:TieOk t n.Nodes) (hv:ValOk n v):p39 t v=true∧(s39 t v=true↔Keep t v):=by
 have h1:=hv.b t.To.toNat (by have:=ht.t0;have:=ht.t1;have:=hv.len;omega)
 have h2:=hv.b t.From.toNat (by have:=ht.f0;have:=ht.f1;have:=hv.len;omega)
 have:=ht.f0;have:=ht.f1;have:=ht.t0;have:=ht.t1;have:=hv.len
 constructor
 ·unfold p39
  rw [decide_eq_true (show 0≤t.To∧t.To < (v.len:Int) by omega),decide_eq_true (show 0≤t.From∧t.From < (v.len:Int) by omega)];rfl
 ·unfold s39 Keep
  rw [zcv (by omega) (by omega)]
  by_cases a:t.Low = -1000000000000
  ·rw [show (t.Low == (-1000000000000:Int)) = true from beq_iff_eq.2 a, cond_true]
   by_cases b:t.High=1000000000000
   ·rw [show (t.High == (1000000000000:Int))=true from beq_iff_eq.2 b,cond_true];exact ⟨fun _=>⟨.inl a,.inl b⟩,fun _=>rfl⟩
   ·rw [show (t.High == (1000000000000:Int))=false from beq_eq_false_iff_ne.2 b,cond_false,decide_eq_true_eq];exact ⟨fun h=>⟨.inl a,.inr h⟩,fun h=>h.2.resolve_left b⟩
  ·rw [show (t.Low == (-1000000000000:Int)) = false from beq_eq_false_iff_ne.2 a, cond_false]
   by_cases c:t.Low≤v.get t.To.toNat - v.get t.From.toNat
   ·rw [decide_eq_true (show v.get t.To.toNat - v.get t.From.toNat ≥ t.Low from c), cond_true]
    by_cases b:t.High=1000000000000
    ·rw [show (t.High == (1000000000000:Int))=true from beq_iff_eq.2 b,cond_true];exact ⟨fun _=>⟨.inr c,.inl b⟩,fun _=>rfl⟩
    ·rw [show (t.High == (1000000000000:Int))=false from beq_eq_false_iff_ne.2 b,cond_false,decide_eq_true_eq];exact ⟨fun h=>⟨.inr c,.inr h⟩,fun h=>h.2.resolve_left b⟩
   ·rw [decide_eq_false (show ¬ v.get t.To.toNat - v.get t.From.toNat ≥ t.Low from c), cond_false]
    exact ⟨fun h=>absurd h Bool.false_ne_true,fun h=>absurd (h.1.resolve_left a) c⟩
theorem zHl (n:Net) (v:Sl Int) (hn:NetOk n) (hv:v.len≤9223372036854775807):p38 n v=true∧(s38 n v=true↔AgOk n v):=by
  obtain ⟨h1,h2⟩:=zHk n hn.n1 v hv
  unfold p38 s38
  rw [h1]
  by_cases hV:s80 n v=true
  · have hV' := h2.1 hV
    have hlen:=hn.len
    have hl := zjO (good := fun i => s39 (n.Ties.get i) v) (fin := true) (n := n.Ties.len) (lpS := ziS n v) (lpP := ziT n v)
      (fun k i hi=>by
        show ziQ n v (ziS n v k) (i:Int)=_
        generalize ziS n v k=S
        unfold ziQ zsw
        rw [decide_eq_true (show (i:Int) < (n.Ties.len:Int) by omega),cond_true,Int.toNat_natCast]
        cases s39 (n.Ties.get i) v <;> rfl)
      (fun k=>by
        show ziQ n v (ziS n v k) (n.Ties.len:Int)=_
        unfold ziQ
        rw [decide_eq_false (show ¬ (n.Ties.len:Int) < (n.Ties.len:Int) by omega),cond_false])
      (fun k i hi=>by
        show ziR n v (ziT n v k) (i:Int)=_
        generalize ziT n v k=S
        unfold ziR zsx
        rw [decide_eq_true (show (i:Int) < (n.Ties.len:Int) by omega),cond_true,Int.toNat_natCast,decide_eq_true (show 0≤(i:Int)∧(i:Int) < (n.Ties.len:Int) by omega),Bool.true_and,decide_eq_true (ztx _ n v (hn.tie i hi) hV').1,Bool.true_and]
        cases s39 (n.Ties.get i) v <;> rfl)
      (fun k=>by
        show ziR n v (ziT n v k) (n.Ties.len:Int)=_
        unfold ziR
        rw [decide_eq_false (show ¬ (n.Ties.len:Int) < (n.Ties.len:Int) by omega),cond_false])
      (by omega)
    rw [hV]
    unfold zsD zsC zsB zsA zsz zsy
    refine ⟨by rw [hl.1];rfl,Iff.trans (Iff.trans (by rfl) hl.2) ?_⟩
    exact ⟨fun h=>⟨hV',fun i hi=>(ztx _ n v (hn.tie i hi) hV').2.1 (h.1 i hi)⟩,fun h=>⟨fun i hi=>(ztx _ n v (hn.tie i hi) hV').2.2 (h.keep i hi),rfl⟩⟩
  · have hV0 : s80 n v = false := Bool.eq_false_iff.2 hV
    rw [hV0]
    exact ⟨rfl,fun h=>absurd h Bool.false_ne_true,fun h=>absurd (h2.2 h.val) hV⟩
theorem zAF {n:Net} {t:Int} (h:s20 n t=true) (ht:t≤210):n.Ties.len≤210:=by
 unfold s20 at h
 by_cases h1:(n.Ties.len:Int)≤t
 ·omega
 ·by_cases h2 : (n.Ties.len : Int) ≤ 210
  ·omega
  ·rw [decide_eq_false h1, decide_eq_false h2] at h
   exact absurd h (by cases decide (n.Nodes≤7) <;> cases decide (n.Nodes > 40) <;> cases decide ((n.Ties.len:Int) > 200) <;> decide)
end Go.Proofs
