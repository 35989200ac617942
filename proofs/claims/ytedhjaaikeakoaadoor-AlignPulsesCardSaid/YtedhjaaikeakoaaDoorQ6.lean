/- Part 6 of what the proof rests on: a machine that runs functions of the program on pure values, proved sound; the functions that the law reaches, and what they compute. -/
import Derived.Test.YtedhjaaikeakoaaDoorQ5
import Derived.Test.YtedhjaaikeakoaaDoorProg
import Derived.Tactics
import Derived.Tactics2
import Derived.Recover
import Derived.RecoverIn
import Derived.TacticsInMore
import Derived.Test.YtedhjaaikeakoaaDoorTie
import Derived.ProofKit
import Derived.LaidMore
import Derived.OpenShut
import Derived.Stop.Joined
import Derived.Test.YtedhjaaikeakoaaDoorCards
import Derived.WalkKit
set_option linter.all false
namespace Go.Pm
open Go.RowKit (Below)
section
variable (P:Program) (Γ:Ctrs)
def zrQ (fi : FuncId) : Code → Option (Nat × Nat)
  | .region id ops false=>match ops.toList with
    | [o1,o2]=>match o1.op,o1.dst,o1.guard,o2.op,o2.dst,o2.guard with
      | .makeFunc (.func f) first caps,some t,none,.defer { callee:=.value (.tmp t'),args,argTypes:=_ },none,none=>match Nat.beq f fi && Nat.beq t t' && first.isEmpty && args.isEmpty && Nat.beq caps.size 2 with
        | true=>some (id,t)
        | false=>none
      | _,_,_,_,_,_=>none
    | _=>none
  | _=>none
def zzp (fi : FuncId) (ann : Ann) : Code → (Exit → St → Prop) → St → Prop
  | .seq a b,K,σ=>match zrQ fi a with
    | some (id,t)=>match Nat.blt t ann.nt with
      | true=>zAz P ann id (vc P Γ ann b K) ⟨(t,.junk) :: σ.env,σ.objs,[]⟩
      | false=>False
    | none=>vc P Γ ann a (zzI (zzp fi ann b K) K) σ
  | c,K,σ=>vc P Γ ann c K σ
def zrR (fi:FuncId) (ann:Ann) (f:FuncId) (args:List PA) (K:List PA→Prop):Prop :=
 match P.funcs[f]? with
 | some fn=>match fn.body with
  | some c=>match Nat.beq ann.nt fn.ntmps && Nat.ble args.length ann.nt with
   | true=>zzp P Γ fi ann c (zba P fn K) ⟨zgi 0 args,[],[]⟩
   | false=>False
  | none=>False
 | none=>False
end
section
variable {P:Program} {Γ:Ctrs} {B:Nat} {w0:World}
theorem zkZ {fi:FuncId} {c:Code} {id t:Nat} (h:zrQ fi c=some (id,t)):∃ (o1 o2:Oper) (caps:Array Operand) (ats:Array TypeId),c=.region id #[o1,o2] false∧caps.size=2∧o1.op=.makeFunc (.func fi) #[] caps∧o1.dst=some t∧o1.guard=none ∧
  o2.op=.defer { callee:=.value (.tmp t),args:=#[],argTypes:=ats }∧o2.dst=none∧o2.guard=none:=by
 unfold zrQ at h
 split at h
 ·rename_i id' ops
  split at h
  ·rename_i o1 o2 hops
   split at h
   ·rename_i f first caps t' t2 args ats e1 e2 e3 e4 e5 e6
    split at h
    ·rename_i hc
     simp only [Bool.and_eq_true] at hc
     simp only [Option.some.injEq,Prod.mk.injEq] at h
     obtain ⟨rfl,rfl⟩:=h
     obtain ⟨⟨⟨⟨h1,h2⟩,h3⟩,h4⟩,h5⟩:=hc
     have h5:=Nat.eq_of_beq_eq_true h5
     have h1:=Nat.eq_of_beq_eq_true h1
     have h2:=Nat.eq_of_beq_eq_true h2
     have h3:first = #[]:=by simpa using h3
     have h4:args = #[]:=by simpa using h4
     subst h1 h2 h3 h4
     refine ⟨o1,o2,caps,ats,?_,h5,e1,e2,e3,e4,e5,e6⟩
     rw [← Array.toArray_toList (xs:=ops),hops]
    ·cases h
   ·cases h
  ·cases h
 ·cases h
theorem zsG {fi : FuncId} (hidle : ∀ caps : Array Value, caps.size = 2 → zld P { target := .fn (.func fi) caps, args := #[] }) {c : Code} {id t nt n : Nat} {h0 : Fz} {D : List Nat} {a0 a : Act} {σ : St} {g : Gh} {w : World} {Q : Exit → Act → World → Prop}
    (h:zrQ fi c=some (id,t)) (ht:t < nt) (htD:t∈D) (S:Sim P nt B w0 h0 g σ a w) (hkp:Kp D a0 a)
    (hQ:∀ a',Sim P nt B w0 h0 g ⟨(t,.junk) :: σ.env,σ.objs,[]⟩ a' w→Kp D a0 a'→Q .normal a' w):c.wpIn (FR none) n P Q a w:=by
  obtain ⟨o1,o2,caps,ats,rfl,e0,e1,e2,e3,e4,e5,e6⟩:=zkZ h
  refine wpIn_region ?_
  show wpOpsIn (FR none) n P #[o1,o2] Q [0,1] a w
  have w1:∀ tm,Region.wanted o1 (yielded #[o1,o2] tm)=true:=fun tm=>by simp [Region.wanted,e3]
  have w2:∀ tm,Region.wanted o2 (yielded #[o1,o2] tm)=true:=fun tm=>by simp [Region.wanted,e6]
  have r1:(execOp a.eval o1).run P w=.ok (.value (.func (.func fi) #[] (caps.map a.eval))) w:=by
    simp only [execOp,e1,Instr.makeFunc,Sem.run_bind,Sem.run_pure,Result.andThen_ok];simp
  have ets:t < a.tmps.size:=Nat.lt_of_lt_of_le ht S.size
  have ev:(a.put (some t) (.func (.func fi) #[] (caps.map a.eval))).eval (.tmp t)=.func (.func fi) #[] (caps.map a.eval):=by
    simp [Act.put,Act.eval,Array.getD_eq_getD_getElem?,ets]
  have r2:(execOp (a.put (some t) (.func (.func fi) #[] (caps.map a.eval))).eval o2).run P w=.ok (.defer { target:=.fn (.func fi) (caps.map a.eval),args:=#[] }) w:=by
    simp only [execOp,e4,resolve,Sem.run_bind,ev,Deferred.ofValue,Sem.run_pure,Result.andThen_ok];simp
  show (if Region.wanted o1 (yielded #[o1,o2] a.tmps) then o1.wpIn (FR none) n P a w (wpOpsIn (FR none) n P #[o1,o2] Q [1]) Q else _)
  rw [if_pos (w1 _)]
  refine ⟨fun _ _=>trivial,?_⟩
  rw [show o1.semAt (FR none).round a.eval=execOp a.eval o1 from rfl,r1]
  show wpOpsIn (FR none) n P #[o1,o2] Q [1] (a.put o1.dst _) w
  rw [e2]
  show (if Region.wanted o2 (yielded #[o1,o2] (a.put (some t) _).tmps) then o2.wpIn (FR none) n P (a.put (some t) _) w (wpOpsIn (FR none) n P #[o1,o2] Q []) Q else _)
  rw [if_pos (w2 _)]
  refine ⟨fun _ _=>trivial,?_⟩
  have r3:Sem.run P (o2.semAt (FR none).round (a.put (some t) (.func (.func fi) #[] (caps.map a.eval))).eval) w=.ok (.defer { target:=.fn (.func fi) (caps.map a.eval),args:=#[] }) w:=r2
  rw [r3]
  have S1:=S.put (dst:=some t) (d:=.junk) (v:=.func (.func fi) #[] (caps.map a.eval)) (by simpa [zbv,Nat.blt_eq] using ht) trivial (fun L hL=>by simp [zaT,zbf,zaC] at hL) []
  refine hQ _ (S1.act ?_ ?_ ?_) ?_
  · obtain ⟨es, m1, m2, m3, m4⟩ := S1.dfr
    refine ⟨.inr { target:=.fn (.func fi) (caps.map a.eval),args:=#[] } :: es,m1,?_,fun E hE=>?_,fun d hd=>?_⟩
    · rw [e5,List.map_cons,← m2];rfl
    · rcases List.mem_cons.1 hE with e | hE
      · cases e
      · exact m3 E hE
    · rcases List.mem_cons.1 hd with e | hd
      · cases e;exact hidle _ (by simpa using e0)
      · exact m4 d hd
  · rw [e5];exact S1.size
  · rw [e5];exact S1.env
  · rw [e5]
    exact hkp.put (dst:=some t) (fun z hz=>by cases hz;exact htD) _ a.defers
theorem zvH (hok:OkAll P Γ) {fi:FuncId} (hidle:∀ caps:Array Value,caps.size=2→zld P { target:=.fn (.func fi) caps,args:=#[] }) (ann:Ann):∀ (c:Code) (n:Nat) (h0:Fz) (D:List Nat) (a0:Act) (K:Exit→St→Prop) (σ:St) (g:Gh) (a:Act) (w:World),
  (∀ t∈zgg c,t∈D)→zzp P Γ fi ann c K σ→Sim P ann.nt B w0 h0 g σ a w→Kp D a0 a→c.wpIn (FR none) n P (PostR P ann.nt B w0 h0 D a0 K) a w
 | .seq x y,n,h0,D,a0,K,σ,g,a,w,hD,h,S,hkp=>by
  have hDx:∀ t∈zgg x,t∈D:=fun t ht=>hD t (List.mem_append.2 (.inl ht))
  have hDy:∀ t∈zgg y,t∈D:=fun t ht=>hD t (List.mem_append.2 (.inr ht))
  simp only [zzp] at h
  split at h
  ·rename_i id t hdf
   split at h
   ·rename_i hlt
    have ht:t < ann.nt:=by simpa [Nat.blt_eq] using hlt
    have htD:t∈D:=by
     obtain ⟨o1,o2,caps,ats,rfl,_,_,e2,_,_,e5,_⟩:=zkZ hdf
     exact hDx t (by simp [zgg,zsV,e2])
    refine wpIn_seq (zsG hidle hdf ht htD S hkp fun a' S' hk'=>?_)
    have hk:∀ s g2,vc P Γ ann y K s→Sim P ann.nt B w0 h0 g2 s a' w→y.wpIn (FR none) n P (PostR P ann.nt B w0 h0 D a0 K) a' w:=fun s g2 hv S2=>zdb hok ann y none n h0 D a0 K s g2 a' w hDy (Rnd.none h0) hv S2 hk'
    unfold zAz at h
    split at h
    ·split at h
     ·rename_i s hs
      obtain ⟨g2,S2⟩:=zbo hs S'
      exact hk s g2 h S2
     ·exact h.elim
    ·exact hk _ g h S'
   ·exact h.elim
  ·refine wpIn_seq (wpIn_mono (zdb hok ann x none n h0 D a0 _ σ g a w hDx (Rnd.none h0) h S hkp) ?_)
   rintro e a' w' ⟨g',σ',hK,S',hk'⟩
   cases e with
   | normal=>exact zvH hok hidle ann y n h0 D a0 K σ' g' a' w' hDy hK S' hk'
   | exit id=>exact ⟨g',σ',hK,S',hk'⟩
   | goto l=>exact ⟨g',σ',hK,S',hk'⟩
   | ret=>exact ⟨g',σ',hK,S',hk'⟩
   | panic ch=>exact ⟨g',σ',hK,S',hk'⟩
   | outgrown=>exact ⟨g',σ',hK,S',hk'⟩
 | .skip,n,h0,D,a0,K,σ,g,a,w,hD,h,S,hkp=>zdb hok ann .skip none n h0 D a0 K σ g a w hD (Rnd.none h0) h S hkp
 | .region i o d,n,h0,D,a0,K,σ,g,a,w,hD,h,S,hkp=>zdb hok ann (.region i o d) none n h0 D a0 K σ g a w hD (Rnd.none h0) h S hkp
 | .cond c x y,n,h0,D,a0,K,σ,g,a,w,hD,h,S,hkp=>zdb hok ann (.cond c x y) none n h0 D a0 K σ g a w hD (Rnd.none h0) h S hkp
 | .block i x,n,h0,D,a0,K,σ,g,a,w,hD,h,S,hkp=>zdb hok ann (.block i x) none n h0 D a0 K σ g a w hD (Rnd.none h0) h S hkp
 | .loop x,n,h0,D,a0,K,σ,g,a,w,hD,h,S,hkp=>zdb hok ann (.loop x) none n h0 D a0 K σ g a w hD (Rnd.none h0) h S hkp
 | .scope x,n,h0,D,a0,K,σ,g,a,w,hD,h,S,hkp=>zdb hok ann (.scope x) none n h0 D a0 K σ g a w hD (Rnd.none h0) h S hkp
 | .exit i,n,h0,D,a0,K,σ,g,a,w,hD,h,S,hkp=>zdb hok ann (.exit i) none n h0 D a0 K σ g a w hD (Rnd.none h0) h S hkp
 | .goto i,n,h0,D,a0,K,σ,g,a,w,hD,h,S,hkp=>zdb hok ann (.goto i) none n h0 D a0 K σ g a w hD (Rnd.none h0) h S hkp
 | .label i,n,h0,D,a0,K,σ,g,a,w,hD,h,S,hkp=>zdb hok ann (.label i) none n h0 D a0 K σ g a w hD (Rnd.none h0) h S hkp
 | .ret,n,h0,D,a0,K,σ,g,a,w,hD,h,S,hkp=>zdb hok ann .ret none n h0 D a0 K σ g a w hD (Rnd.none h0) h S hkp
 | .rangeFunc f p x y,n,h0,D,a0,K,σ,g,a,w,hD,h,S,hkp=>zdb hok ann (.rangeFunc f p x y) none n h0 D a0 K σ g a w hD (Rnd.none h0) h S hkp
 | .refuse x,n,h0,D,a0,K,σ,g,a,w,hD,h,S,hkp=>zdb hok ann (.refuse x) none n h0 D a0 K σ g a w hD (Rnd.none h0) h S hkp
theorem zzq {G : Ctrs} (hok : OkAll P G) {f fi : FuncId} (hidle : ∀ caps : Array Value, caps.size = 2 → zld P { target := .fn (.func fi) caps, args := #[] }) {args : List PA} {K : List PA → Prop} {ann : Ann} (hv : zrR P G fi ann f args K) {w : World} {h0 : Fz} {vs : List Value} (hvs : RL (paR h0) args vs) (hfz : Hw h0 w) (hgl : zdH h0) :
  Calls P f vs.toArray w fun e w'=>∃ (h':Fz) (rs:List PA) (v:Value),K rs∧e=.returned v∧zml h' rs v∧Bel h0 w.heap.size w w' ∧
   Fle h0 h'∧Hw h' w'∧∀ b o,h' b=some o→h0 b=some o∨w.heap.size≤b:=by
 unfold zrR at hv
 split at hv
 ·rename_i fn hfn
  split at hv
  ·rename_i c hbody
   split at hv
   ·rename_i hnt
    simp only [Bool.and_eq_true,Nat.ble_eq] at hnt
    have S:=ziY (P:=P) (Nat.eq_of_beq_eq_true hnt.1) hnt.2 hvs hfz hgl
    have hwp:=zvH (B:=w.heap.size) (w0:=w) hok hidle ann c 0 h0 (zgg c) _ _ _ _ _ _ (fun _ h=>h) hv S (Kp.refl _ _)
    refine (callsIn_wide (n:=0)).1 ?_
    refine callsIn_of_wp_marks (F:=FR none) hfn hbody trivial (wpIn_mono hwp ?_)
    have h0b:∀ b,h0 b=some (.fz (.deferred (some [])))→b < w.heap.size:=fun b h=>hfz.lt h
    rintro e a' w' ⟨g',σ',hK',S',_⟩
    have fin:zDH P fn K σ'→LeavesInM (FR none) 0 P fn a'.tmps (fun e w'=>∃ (h':Fz) (rs:List PA) (v:Value),K rs∧e=.returned v∧zml h' rs v∧Bel h0 w.heap.size w w' ∧
      Fle h0 h'∧Hw h' w'∧∀ b o,h' b=some o→h0 b=some o∨w.heap.size≤b) a'.defers .returning w':=by
     intro hf
     obtain ⟨Ds,h1,h2,h3,h4⟩:=S'.dfr
     refine ziX h0b Ds g' a' w' h1 h2 h3 h4 S' fun g2 a2 w2 _ S2=>?_
     unfold zDH at hf
     split at hf
     ·rename_i l hl
      obtain ⟨u,v,hu,hrun,hres⟩:=ziW S2 hl
      obtain ⟨h',S3,F⟩:=S2.freeze hu
      exact ⟨v,hrun,h',l,v,hf,rfl,hres h' F,S3.below,S3.le0,S3.hw,S3.hn⟩
     ·exact hf.elim
    cases e with
    | normal=>exact fin hK'
    | ret=>exact fin hK'
    | exit id=>exact hK'.elim
    | goto l=>exact hK'.elim
    | panic ch=>exact hK'.elim
    | outgrown=>exact hK'.elim
   ·exact hv.elim
  ·exact hv.elim
 ·exact hv.elim
theorem zzr {T : Tabs} (hT : TabsOk P T) {f fi : FuncId} {C : List PA → COut} (hc : zas P f) (hidle : ∀ caps : Array Value, caps.size = 2 → zld P { target := .fn (.func fi) caps, args := #[] })
    (h:∀ args K,(C args).wp K→∃ args',RL PAle args args'∧∃ memo vv ann,zrR P (csm T memo vv) fi ann f args' (Wk K)):Ok P f C:=by
  intro args K hK w h0 vs hvs hfz hgl
  obtain ⟨args',hle,memo,vv,ann,hv⟩:=h args K hK
  refine ⟨hc,(zzq (hT.all memo vv) hidle hv (zuq (R:=paR h0) (S:=PAle) (T:=paR h0) (fun _ _ _ e r=>zyX e r) _ _ _ hle hvs) hfz hgl).mono ?_⟩
  rintro e w' ⟨h',rs,v,⟨rs',hr,hk⟩,he,hres,rest⟩
  exact ⟨h',rs',v,hk,he,zur hr hres,rest⟩
end
end Go.Pm
namespace Go.Pm
open Go Go.Proofs
set_option maxRecDepth 100000
theorem zFb:∀ caps:Array Value,caps.size=2→zld Tryd.prog { target:=.fn (.func 68) caps,args:=#[] }:=fun caps hc=>by
 match caps,hc with
 | ⟨[x,y]⟩,_ =>
 refine ⟨.func 68,#[x,y],68,#[x,y],rfl,fun w=>?_,fun n w=>?_⟩
 ·have h : zas Tryd.prog 68 := ⟨_, rfl, rfl, by kernel_rfl⟩
  show (callFunc 68 (#[] ++ #[x,y])).run Tryd.prog w=_
  exact zb4 h
 have key:CallsDIn { fn:=fun _=>True,depth:=none,alive:=false,round:=none } n Tryd.prog 68 #[x,y] .returning w fun e u' w'=>e=.returned (.tuple #[])∧u'=.returning∧w'=w:=by
  refine callsDIn_of_wpSIn Tryd.func68 rfl trivial fun c₀ cs hu=>?_
  apply wpSIn_seq
  apply wpSIn_region
  simp [wpOpsSIn,go_sem,recoverD,hu,Tryd.ntmps68,Exit.thenS]
  apply wpSIn_seq
  apply wpSIn_region
  simp [wpOpsSIn,go_sem,recoverD,hu,Tryd.ntmps68,Exit.thenS]
  refine wpSIn_cond (t:=false) (by simp [Act.eval,Array.replicate]) ?_
  simp only [Bool.false_eq_true,if_false]
  refine wpSIn_of_wpIn rfl (wpIn_skip ?_)
  cases c₀
  simp_all [bodyPostS,results,Tryd.results68]
 exact key.mono fun e u' w' h=>⟨⟨_,h.1⟩,h.2⟩
end Go.Pm
namespace Go.Proofs
open Go Go.Pm
set_option maxRecDepth 100000
set_option linter.unusedVariables false
attribute [local irreducible] Go.Pm.vcFun Go.Pm.vc Go.Pm.vcIter
abbrev T22:Tabs:=(((Tabs.nil.addF 67 zsu).addM 69 zE6).addF 70 zB2)
theorem zGY:TabsOk Tryd.prog T22:=(((TabsOk.nil.addF zGd).addM zIr).addF zIt)
abbrev G22:Ctrs:=csm T22 (fun _ _=>[]) (fun l=>Nat.beq l 12)
def zB3:Ann:=⟨29,[(0,zK [1,2,3] [1,2,3]),(1,zK [1,2,3,9] [1,2,3]),(2,zK [2,3] [2,3]),(3,zK [1,2,3] [1,2,3]),(4,zK [2,3,4] [2,3,12,14]),(5,zK [2,3,4,15] [2,3,12,14]),(6,zK [2,3,4,15,16] [2,3,12,14]),(7,zK [2,3,4,5,15] [2,3,12,14]),(8,zK [2,3,4,6,15] [2,3,12,14]),(9,zK [2,3,4,6,15,23] [2,3,12,14]),(10,zK [2,3] [2,3]),(11,zK [2,3,4,15] [2,3,12,14])],
 [(6,zK [2,3,4,15] [2,3,12,14])],
 [],
 [],[]⟩
abbrev R22:=((Sl Int)×Int)
abbrev e22 (r:R22):List PA:=[.one (.sl r.1.len 1 (fun i=>zai (r.1.get i))),.one (.int .i64 r.2)]
@[irreducible] def z22:=ptF Tryd.prog G22 zB3 Tryd.f22
def zAf (zbg:Int) (zbl:Int) (zbc:(Sl Tie)) (zbm:Nat) (zbn:(List Int→Option (List Int))) (zc2:Nat→List PV):St:=⟨[(2,zp 2 0),(3,zp 3 0),(4,zp 14 0),(15,zI zbg)],[(2,.box 27 [.p (.nils)]),(3,.box 28 [zi (0:Int)]),(12,.mo 3 4 (false,1,false,[none]) zbm zbn),(14,.box 105 [zi zbl,.p (.sl zbc.len 4 zc2),.mo 12])],[]⟩
abbrev zFc (K:List PA→Prop) (X:St→Prop) (P:Int→Int→(Sl Tie)→Nat→(List Int→Option (List Int))→Bool) (S:Int→Int→(Sl Tie)→Nat→(List Int→Option (List Int))→((Sl Int)×Int)):Prop:=∀ ⦃zbg:Int⦄ ⦃zbl:Int⦄ ⦃zbc:(Sl Tie)⦄ ⦃zbm:Nat⦄ ⦃zbn:(List Int→Option (List Int))⦄ ⦃zc2:Nat→List PV⦄,P zbg zbl zbc zbm zbn=true→K (e22 (S zbg zbl zbc zbm zbn))→zc2=zg zaj zbc→X (zAf zbg zbl zbc zbm zbn zc2)
section
variable {K:List PA→Prop} {n:Net} {zbg:Int} {zbl:Int} {zbc:(Sl Tie)} {zbm:Nat} {zbn:(List Int→Option (List Int))} {zc2:Nat→List PV} {X0:St→Prop} {P0:Int→Int→(Sl Tie)→Nat→(List Int→Option (List Int))→Bool} {S0:Int→Int→(Sl Tie)→Nat→(List Int→Option (List Int))→((Sl Int)×Int)}
def zvI (S0:Int→Int→(Sl Tie)→Nat→(List Int→Option (List Int))→((Sl Int)×Int)) (zbg:Int) (zbl:Int) (zbc:(Sl Tie)) (zbm:Nat) (zbn:(List Int→Option (List Int))):((Sl Int)×Int) :=
  (cond (decide (zbg < (4:Int)))
 (cond (decide ((((s69 (⟨(⟨zbl, zbc⟩ : Net), (⟨zbm, zbn⟩ : Mp)⟩ : web) zbg).1).len : Int) > (0:Int)))
 ((s70 ((s69 (⟨(⟨zbl,zbc⟩:Net),(⟨zbm,zbn⟩:Mp)⟩:web) zbg).1)),(0:Int))
 (S0 (w64 (zbg+(1:Int))) (((s69 (⟨(⟨zbl,zbc⟩:Net),(⟨zbm,zbn⟩:Mp)⟩:web) zbg).2).Net.Nodes) (((s69 (⟨(⟨zbl,zbc⟩:Net),(⟨zbm,zbn⟩:Mp)⟩:web) zbg).2).Net.Ties) ((((s69 (⟨(⟨zbl,zbc⟩:Net),(⟨zbm,zbn⟩:Mp)⟩:web) zbg).2).out).n) ((((s69 (⟨(⟨zbl,zbc⟩:Net),(⟨zbm,zbn⟩:Mp)⟩:web) zbg).2).out).F)))
 default)
def zvJ (P0:Int→Int→(Sl Tie)→Nat→(List Int→Option (List Int))→Bool) (zbg:Int) (zbl:Int) (zbc:(Sl Tie)) (zbm:Nat) (zbn:(List Int→Option (List Int))):Bool :=
  (cond (decide (zbg < (4:Int)))
 (decide ((p69 (⟨(⟨zbl,zbc⟩:Net),(⟨zbm,zbn⟩:Mp)⟩:web) zbg=true)) &&
 (cond (decide ((((s69 (⟨(⟨zbl, zbc⟩ : Net), (⟨zbm, zbn⟩ : Mp)⟩ : web) zbg).1).len : Int) > (0:Int)))
 (decide ((p70 ((s69 (⟨(⟨zbl,zbc⟩:Net),(⟨zbm,zbn⟩:Mp)⟩:web) zbg).1)=true)) &&
 true)
 (P0 (w64 (zbg+(1:Int))) (((s69 (⟨(⟨zbl,zbc⟩:Net),(⟨zbm,zbn⟩:Mp)⟩:web) zbg).2).Net.Nodes) (((s69 (⟨(⟨zbl,zbc⟩:Net),(⟨zbm,zbn⟩:Mp)⟩:web) zbg).2).Net.Ties) ((((s69 (⟨(⟨zbl,zbc⟩:Net),(⟨zbm,zbn⟩:Mp)⟩:web) zbg).2).out).n) ((((s69 (⟨(⟨zbl,zbc⟩:Net),(⟨zbm,zbn⟩:Mp)⟩:web) zbg).2).out).F))))
 false)
def zvK:Nat→Int→Int→(Sl Tie)→Nat→(List Int→Option (List Int))→((Sl Int)×Int):=lpO (fun _ _ _ _ _=>default) (zvI)
def zvL:Nat→Int→Int→(Sl Tie)→Nat→(List Int→Option (List Int))→Bool:=lpO (fun _ _ _ _ _=>false) (zvJ)
def zvM (zbg:Int) (zbl:Int) (zbc:(Sl Tie)) (zbm:Nat) (zbn:(List Int→Option (List Int))):((Sl Int)×Int):=zvK Fuel zbg zbl zbc zbm zbn
def zvN (zbg:Int) (zbl:Int) (zbc:(Sl Tie)) (zbm:Nat) (zbn:(List Int→Option (List Int))):Bool:=zvL Fuel zbg zbl zbc zbm zbn
theorem zB4 (hs:zvN zbg zbl zbc zbm zbn=true) (hk:K (e22 (zvM zbg zbl zbc zbm zbn))) (zjI:zc2=zg zaj zbc):z22 (Wk K) [1,1,1,1,0,1,0] [] (zAf zbg zbl zbc zbm zbn zc2) :=
  zl (fun X=>z22 (Wk K) [1,1,1,1,0,1,0,0] [X]) (by kernel_rfl) fun X0 hX =>
  (show ∀ k, zFc K X0 (zvL k) (zvK k) from zkR _ _ (zvJ) (zvI) (zFc K X0)
 (by intro _ _ _ _ _ _ hs;exact absurd hs Bool.false_ne_true)
 (by intro P0 S0 hX0 zbg zbl zbc zbm zbn zc2 hs hk zjI;subst zjI;exact hX _ (zbh (by kernel_rfl) (zc hs hk (fun hs hk=>(za7 hs fun hc hs=>And.intro (And.intro (zE zaj 4 zbc.get) (And.intro (rfl:((false,1,false,[none]):MQ)=(false,1,false,[none])) hc)) (zc hs hk (fun hs hk=>(za7 hs fun hc hs=>And.intro (And.intro (zE zb0 1 (((s69 (⟨(⟨zbl,zbc⟩:Net),(⟨zbm,zbn⟩:Mp)⟩:web) zbg).1).get)) hc) ((zeB hk):Wk K [.one (.sl ((s70 ((s69 (⟨(⟨zbl,zbc⟩:Net),(⟨zbm,zbn⟩:Mp)⟩:web) zbg).1)).len) 1 (fun i=>zai ((s70 ((s69 (⟨(⟨zbl,zbc⟩:Net),(⟨zbm,zbn⟩:Mp)⟩:web) zbg).1)).get i))),.one (.int .i64 (0:Int))]))) (fun hs hk=>(hX0 hs hk rfl))))) (fun hs hk=>(absurd hs Bool.false_ne_true:False)))))) _ hs hk zjI
def s22 (n:Net):((Sl Int)×Int) :=
  (cond (!(s67 n))
 ((⟨0,fun _=>default⟩:(Sl Int)),(2:Int))
 (zvM (0:Int) n.Nodes n.Ties 0 (fun _=>none)))
def p22 (n:Net):Bool :=
  (decide ((p67 n=true)) &&
 (cond (!(s67 n))
 true
 (zvN (0:Int) n.Nodes n.Ties 0 (fun _=>none))))
end
theorem q22 (n:Net) (K:List PA→Prop) (hs:p22 n=true) (hk:K (e22 (s22 n))):zrR Tryd.prog G22 68 zB3 22 [.agg (zcn n)] (Wk K) :=
  zbh (by kernel_rfl) (za7 hs fun hc hs=>And.intro (And.intro (zE zaj 4 n.Ties.get) hc) (zc hs hk (fun hs hk=>((wk hk (zc5 (.one (.nil _ _)) (zc5 (.one (.rfl _)) zgw))):Wk K [.one (.nils),.one (.int .i64 (2:Int))])) (fun hs hk=>(zB4 hs hk rfl))))
def zB5 : List PA → COut
  | [.agg [.int .i64 a0_Nodes,.sl a0_Ties_n a0_Ties_s a0_Ties_g]]=>.det (IsE zaj 4 a0_Ties_s a0_Ties_g∧p22 (⟨a0_Nodes,(⟨a0_Ties_n,zaa a0_Ties_g⟩:(Sl Tie))⟩:Net)=true) [.one (.sl (((s22 (⟨a0_Nodes,(⟨a0_Ties_n,zaa a0_Ties_g⟩:(Sl Tie))⟩:Net)).1).len) 1 (fun i=>zai (((s22 (⟨a0_Nodes,(⟨a0_Ties_n,zaa a0_Ties_g⟩:(Sl Tie))⟩:Net)).1).get i))),.one (.int .i64 ((s22 (⟨a0_Nodes,(⟨a0_Ties_n,zaa a0_Ties_g⟩:(Sl Tie))⟩:Net)).2))]
  | _=>.no
theorem zFd:zas Tryd.prog 22:=⟨_,rfl,rfl,by kernel_rfl⟩
theorem zIu:Ok Tryd.prog 22 zB5:=zzr zGY zFd zFb fun args K h=>by
  unfold zB5 at h
  split at h
  · rename_i a0_Nodes a0_Ties_n a0_Ties_s a0_Ties_g
    obtain ⟨⟨⟨rfl,a0_Ties_f,rfl⟩,hs⟩,hk⟩:=h
    try rw [zar a0_Ties_f] at hs
    try rw [zar a0_Ties_f] at hk
    exact ⟨_,zec zeA _,(fun _ _=>[]),(fun l=>Nat.beq l 12),zB3,q22 (⟨a0_Nodes,(⟨a0_Ties_n,a0_Ties_f⟩:(Sl Tie))⟩:Net) K hs hk⟩
  · exact h.elim
abbrev T25:Tabs:=Tabs.nil
theorem zGZ:TabsOk Tryd.prog T25:=TabsOk.nil
abbrev G25:Ctrs:=csm T25 (fun _ _=>[]) (fun _=>false)
def zB6:Ann:=⟨26,[(0,zK [0,1] []),(1,zK [0,1,10] []),(2,zK [4] []),(3,zK [0,1,5] []),(4,zK [0,1,5,14] []),(5,zK [0,1,5] []),(6,zK [0,1,5,25] []),(7,zK [4] []),(8,zK [4] [])],
 [(4,zK [0,1,5] [])],
 [(3,zK [0,1] [])],
 [],[]⟩
abbrev R25:=Bool
abbrev e25 (r:R25):List PA:=[.one (.bool r)]
@[irreducible] def z25:=ptF Tryd.prog G25 zB6 Tryd.f25
def zAg (a:(Sl Int)) (b:(Sl Int)) (iv1:Int):St:=⟨[(0,zS zai 1 a),(1,zS zai 1 b),(5,zI iv1)],[],[]⟩
abbrev zFe (K:List PA→Prop) (a:(Sl Int)) (b:(Sl Int)) (X:St→Prop) (P:Int→Bool) (S:Int→Bool):Prop:=∀ ⦃iv1:Int⦄,P iv1=true→K (e25 (S iv1))→X (zAg a b iv1)
section
variable {K:List PA→Prop} {a:(Sl Int)} {b:(Sl Int)} {iv1:Int} {X1:St→Prop} {P1:Int→Bool} {S1:Int→Bool}
def zvO (a:(Sl Int)) (b:(Sl Int)) (S1:Int→Bool) (iv1:Int):Bool :=
  (cond (decide (iv1 < (a.len : Int)))
 (cond ((a.get iv1.toNat) != (b.get iv1.toNat))
 false
 (S1 (w64 (iv1+(1:Int)))))
 true)
def zvP (a:(Sl Int)) (b:(Sl Int)) (P1:Int→Bool) (iv1:Int):Bool :=
  (cond (decide (iv1 < (a.len : Int)))
 (decide ((0≤iv1∧iv1 < (a.len:Int))) &&
 (decide ((0≤iv1∧iv1 < (b.len:Int))) &&
 (cond ((a.get iv1.toNat) != (b.get iv1.toNat))
 true
 (P1 (w64 (iv1+(1:Int)))))))
 true)
def zvQ (a:(Sl Int)) (b:(Sl Int)):Nat→Int→Bool:=lpO (fun _=>default) (zvO a b)
def zvR (a:(Sl Int)) (b:(Sl Int)):Nat→Int→Bool:=lpO (fun _=>false) (zvP a b)
def zvS (a:(Sl Int)) (b:(Sl Int)) (iv1:Int):Bool:=zvQ a b Fuel iv1
def zvT (a:(Sl Int)) (b:(Sl Int)) (iv1:Int):Bool:=zvR a b Fuel iv1
theorem zB7 (hs:zvT a b iv1=true) (hk:K (e25 (zvS a b iv1))):z25 K [1,1,0,1,0] [] (zAg a b iv1) :=
  zl (fun X=>z25 K [1,1,0,1,0,0] [X]) (by kernel_rfl) fun X1 hX =>
  (show ∀ k, zFe K a b X1 (zvR a b k) (zvQ a b k) from zkR _ _ (zvP a b) (zvO a b) (zFe K a b X1)
 (by intro _ hs;exact absurd hs Bool.false_ne_true)
 (by intro P1 S1 hX1 iv1 hs hk;exact hX _ (zbh (by kernel_rfl) (zc hs hk (fun hs hk=>(za7 hs fun hc hs=>And.intro hc (za7 hs fun hc hs=>And.intro hc (zc hs hk (fun hs hk=>hk) (fun hs hk=>(hX1 hs hk)))))) (fun hs hk=>hk))))) _ hs hk
def zvU (a:(Sl Int)) (b:(Sl Int)):Bool :=
  (zvS a b (0:Int))
def zvV (a:(Sl Int)) (b:(Sl Int)):Bool :=
  (zvT a b (0:Int))
theorem zB8 (hs:zvV a b=true) (hk:K (e25 (zvU a b))):z25 K [1,1] [] ⟨[(0,zS zai 1 a),(1,zS zai 1 b)],[],[]⟩:=zbh (by kernel_rfl) (zB7 hs hk)
def s25 (a:(Sl Int)) (b:(Sl Int)):Bool :=
  (cond ((a.len : Int) != (b.len : Int))
 false
 (zvU a b))
def p25 (a:(Sl Int)) (b:(Sl Int)):Bool :=
  (cond ((a.len : Int) != (b.len : Int))
 true
 (zvV a b))
end
theorem q25 (a:(Sl Int)) (b:(Sl Int)) (K:List PA→Prop) (hs:p25 a b=true) (hk:K (e25 (s25 a b))):vcFun Tryd.prog G25 zB6 25 [.one (.sl a.len 1 (fun i=>zai (a.get i))),.one (.sl b.len 1 (fun i=>zai (b.get i)))] K :=
  zbh (by kernel_rfl) (zc hs hk (fun hs hk=>hk) (fun hs hk=>(zB8 hs hk)))
def zB9 : List PA → COut
  | [.one (.sl a0_n a0_s a0_g),.one (.sl a1_n a1_s a1_g)]=>.det (IsE zai 1 a0_s a0_g∧IsE zai 1 a1_s a1_g∧p25 (⟨a0_n,zat a0_g⟩:(Sl Int)) (⟨a1_n,zat a1_g⟩:(Sl Int))=true) [.one (.bool (s25 (⟨a0_n,zat a0_g⟩:(Sl Int)) (⟨a1_n,zat a1_g⟩:(Sl Int))))]
  | _=>.no
theorem zFf:zas Tryd.prog 25:=⟨_,rfl,rfl,by kernel_rfl⟩
theorem zIv:Ok Tryd.prog 25 zB9:=zbJ zGZ zFf fun args K h=>by
  unfold zB9 at h
  split at h
  · rename_i a0_n a0_s a0_g a1_n a1_s a1_g
    obtain ⟨⟨⟨rfl,a0_f,rfl⟩,⟨rfl,a1_f,rfl⟩,hs⟩,hk⟩:=h
    try rw [zbR a0_f] at hs
    try rw [zbR a0_f] at hk
    try rw [zbR a1_f] at hs
    try rw [zbR a1_f] at hk
    exact ⟨(fun _ _=>[]),(fun _=>false),zB6,q25 (⟨a0_n,a0_f⟩:(Sl Int)) (⟨a1_n,a1_f⟩:(Sl Int)) K hs hk⟩
  · exact h.elim
abbrev T74:Tabs:=(((Tabs.nil.addF 67 zsu).addF 81 zst).addF 88 zuG)
theorem zG0:TabsOk Tryd.prog T74:=(((TabsOk.nil.addF zGd).addF zGc).addF zGE)
abbrev G74:Ctrs:=csm T74 (fun _ _=>[]) (fun _=>false)
def zzs:Ann:=⟨31,[(0,zK [1,2] [2]),(1,zK [1,2,6] [2,11]),(2,zK [1,2,6,14] [2,11]),(3,zK [4,5] []),(4,zK [2,6,15,16,17] [2,11]),(5,zK [2,6,15,16,17,18] [2,11]),(6,zK [2,6,8,15,16,17] [2,11]),(7,zK [2,6,15,16,17,26] [2,11]),(8,zK [4,5] []),(9,zK [2,6,15,16,17] [2,11]),(10,zK [6,29] [11]),(11,zK [4,5] []),(12,zK [4,5] [11])],
 [(5,zK [2,6,15,16,17] [2,11])],
 [(3,zK [1,2,6,14] [2,11]),(4,zK [1,2,6] [2,11]),(8,zK [2,6,15,16,17,26] [2,11]),(11,zK [6,29] [11])],
 [],[]⟩
abbrev R74:=(web×Int)
abbrev e74 (r:R74):List PA:=cond (r.2 == 0) [.one (.fp (zaw r.1) 0),.one (.int .i64 (0:Int))] [.one (.nilp),.one (.int .i64 r.2)]
@[irreducible] def z74:=ptF Tryd.prog G74 zzs Tryd.f74
def zAh (n:Net) (nodes:(Sl Int)) (zdm:Int):St:=⟨[(2,zp 2 0),(6,zp 11 0),(15,zS zai 1 nodes),(16,zI (nodes.len:Int)),(17,zI zdm)],[(2,.box 24 (zm (zcn n))),(11,.box 105 (zm (zaw (⟨n,(⟨0,(fun _=>none)⟩:Mp)⟩:web))))],[]⟩
abbrev zCa (K:List PA→Prop) (n:Net) (nodes:(Sl Int)) (X:St→Prop) (P:Int→Bool) (S:Int→(web×Int)):Prop:=∀ ⦃zdm:Int⦄,P zdm=true→K (e74 (S zdm))→X (zAh n nodes zdm)
section
variable {K:List PA→Prop} {n:Net} {nodes:(Sl Int)} {zpu:Bool} {zdm:Int} {X2:St→Prop} {P2:Int→Bool} {S2:Int→(web×Int)} {zpv:Int} {zpw:Bool} {zzt:Bool}
def zvW (n:Net) (zzt:Bool):(web×Int) :=
  (cond zzt
 ((default:web),(5:Int))
 ((⟨n,(⟨0,(fun _=>none)⟩:Mp)⟩:web),(0:Int)))
theorem zCb (hk:K (e74 (zvW n zzt))):z74 K [1,1,1,1,0,1] [] ⟨[(6,zp 11 0),(29,zB zzt)],[(11,.box 105 (zm (zaw (⟨n,(⟨0,(fun _=>none)⟩:Mp)⟩:web))))],[]⟩:=zbh (by kernel_rfl) (zt hk (fun hk=>hk) (fun hk=>hk))
def zvX (S2:Int→(web×Int)) (n:Net) (nodes:(Sl Int)) (zpv:Int) (zpw:Bool):(web×Int) :=
  (cond zpw
 ((default:web),(2:Int))
 (S2 (w64 (zpv+(1:Int)))))
def zvY (P2:Int→Bool) (n:Net) (nodes:(Sl Int)) (zpv:Int) (zpw:Bool):Bool :=
  (cond zpw
 true
 (P2 (w64 (zpv+(1:Int)))))
theorem zCc (hX2:zCa K n nodes X2 P2 S2) (hs:zvY P2 n nodes zpv zpw=true) (hk:K (e74 (zvX S2 n nodes zpv zpw))):z74 K [1,1,1,0,1,0,0,1,1,0,0,1,1] [X2] ⟨[(2,zp 2 0),(6,zp 11 0),(15,zS zai 1 nodes),(16,zI (nodes.len:Int)),(17,zI zpv),(26,zB zpw)],[(2,.box 24 (zm (zcn n))),(11,.box 105 (zm (zaw (⟨n,(⟨0,(fun _=>none)⟩:Mp)⟩:web))))],[]⟩:=zbh (by kernel_rfl) (zc hs hk (fun hs hk=>hk) (fun hs hk=>(hX2 hs hk)))
def zvZ (n:Net) (nodes:(Sl Int)) (S2:Int→(web×Int)) (zdm:Int):(web×Int) :=
  (cond (decide (zdm < (nodes.len : Int)))
 (zvX S2 n nodes zdm (!(s81 (nodes.get zdm.toNat) (0:Int) (w64 (n.Nodes - (1:Int))))))
 (zvW n (s88 (⟨n,(⟨0,(fun _=>none)⟩:Mp)⟩:web))))
def zv0 (n:Net) (nodes:(Sl Int)) (P2:Int→Bool) (zdm:Int):Bool :=
  (cond (decide (zdm < (nodes.len : Int)))
 (decide ((0≤zdm∧zdm < (nodes.len:Int))) &&
 (zvY P2 n nodes zdm (!(s81 (nodes.get zdm.toNat) (0:Int) (w64 (n.Nodes - (1:Int)))))))
 (decide ((p88 (⟨n,(⟨0,(fun _=>none)⟩:Mp)⟩:web)=true)) &&
 true))
def zv1 (n:Net) (nodes:(Sl Int)):Nat→Int→(web×Int):=lpO (fun _=>default) (zvZ n nodes)
def zv2 (n:Net) (nodes:(Sl Int)):Nat→Int→Bool:=lpO (fun _=>false) (zv0 n nodes)
def zv3 (n:Net) (nodes:(Sl Int)) (zdm:Int):(web×Int):=zv1 n nodes Fuel zdm
def zv4 (n:Net) (nodes:(Sl Int)) (zdm:Int):Bool:=zv2 n nodes Fuel zdm
theorem zCd (hs:zv4 n nodes zdm=true) (hk:K (e74 (zv3 n nodes zdm))):z74 K [1,1,1,0,1,0] [] (zAh n nodes zdm) :=
  zl (fun X=>z74 K [1,1,1,0,1,0,0] [X]) (by kernel_rfl) fun X2 hX =>
  (show ∀ k, zCa K n nodes X2 (zv2 n nodes k) (zv1 n nodes k) from zkR _ _ (zv0 n nodes) (zvZ n nodes) (zCa K n nodes X2)
 (by intro _ hs;exact absurd hs Bool.false_ne_true)
 (by intro P2 S2 hX2 zdm hs hk;exact hX _ (zbh (by kernel_rfl) (zc hs hk (fun hs hk=>(za7 hs fun hc hs=>And.intro hc (zCc hX2 hs hk))) (fun hs hk=>(za7 hs fun hc hs=>And.intro (And.intro (zE zaj 4 n.Ties.get) (And.intro (rfl:((false,1,false,[none]):MQ)=(false,1,false,[none])) hc)) (zCb hk))))))) _ hs hk
def zv5 (n:Net) (nodes:(Sl Int)):(web×Int) :=
  (zv3 n nodes (0:Int))
def zv6 (n:Net) (nodes:(Sl Int)):Bool :=
  (zv4 n nodes (0:Int))
theorem zCe (hs:zv6 n nodes=true) (hk:K (e74 (zv5 n nodes))):z74 K [1,1,1] [] ⟨[(1,zS zai 1 nodes),(2,zp 2 0),(6,zp 11 0)],[(2,.box 24 (zm (zcn n))),(11,.box 105 (zm (zaw (⟨n,(⟨0,(fun _=>none)⟩:Mp)⟩:web))))],[]⟩:=zbh (by kernel_rfl) (zCd hs hk)
def zv7 (n:Net) (nodes:(Sl Int)) (zpu:Bool):(web×Int) :=
  (cond zpu
 ((default:web),(2:Int))
 (zv5 n nodes))
def zv8 (n:Net) (nodes:(Sl Int)) (zpu:Bool):Bool :=
  (cond zpu
 true
 (zv6 n nodes))
theorem zCf (hs:zv8 n nodes zpu=true) (hk:K (e74 (zv7 n nodes zpu))):z74 K [1,1,0,1] [] ⟨[(1,zS zai 1 nodes),(2,zp 2 0),(6,zp 11 0),(14,zB zpu)],[(2,.box 24 (zm (zcn n))),(11,.box 105 (zm (zaw (⟨n,(⟨0,(fun _=>none)⟩:Mp)⟩:web))))],[]⟩:=zbh (by kernel_rfl) (zc hs hk (fun hs hk=>hk) (fun hs hk=>(zCe hs hk)))
def s74 (n:Net) (nodes:(Sl Int)):(web×Int) :=
  (zv7 n nodes (!(s67 n)))
def p74 (n:Net) (nodes:(Sl Int)):Bool :=
  (decide ((p67 n=true)) &&
 (zv8 n nodes (!(s67 n))))
end
theorem q74 (n:Net) (nodes:(Sl Int)) (K:List PA→Prop) (hs:p74 n nodes=true) (hk:K (e74 (s74 n nodes))):vcFun Tryd.prog G74 zzs 74 [.agg (zcn n),.one (.sl nodes.len 1 (fun i=>zai (nodes.get i)))] K :=
  zbh (by kernel_rfl) (za7 hs fun hc hs=>And.intro (And.intro (zE zaj 4 n.Ties.get) hc) (zCf hs hk))
def zv9 : List PA → COut
  | [.agg [.int .i64 a0_Nodes,.sl a0_Ties_n a0_Ties_s a0_Ties_g],.one (.sl a1_n a1_s a1_g)]=>.alt ((s74 (⟨a0_Nodes,(⟨a0_Ties_n,zaa a0_Ties_g⟩:(Sl Tie))⟩:Net) (⟨a1_n,zat a1_g⟩:(Sl Int))).2 == 0) (IsE zaj 4 a0_Ties_s a0_Ties_g∧IsE zai 1 a1_s a1_g∧p74 (⟨a0_Nodes,(⟨a0_Ties_n,zaa a0_Ties_g⟩:(Sl Tie))⟩:Net) (⟨a1_n,zat a1_g⟩:(Sl Int))=true) [.one (.fp (zaw (⟨(s74 (⟨a0_Nodes,(⟨a0_Ties_n,zaa a0_Ties_g⟩:(Sl Tie))⟩:Net) (⟨a1_n,zat a1_g⟩:(Sl Int))).1.Net,((s74 (⟨a0_Nodes,(⟨a0_Ties_n,zaa a0_Ties_g⟩:(Sl Tie))⟩:Net) (⟨a1_n,zat a1_g⟩:(Sl Int))).1.out)⟩:web)) 0),.one (.int .i64 (0:Int))] (IsE zaj 4 a0_Ties_s a0_Ties_g∧IsE zai 1 a1_s a1_g∧p74 (⟨a0_Nodes,(⟨a0_Ties_n,zaa a0_Ties_g⟩:(Sl Tie))⟩:Net) (⟨a1_n,zat a1_g⟩:(Sl Int))=true) [.one (.nilp),.one (.int .i64 ((s74 (⟨a0_Nodes,(⟨a0_Ties_n,zaa a0_Ties_g⟩:(Sl Tie))⟩:Net) (⟨a1_n,zat a1_g⟩:(Sl Int))).2))]
  | [.agg [.int .i64 a0_Nodes,.sl a0_Ties_n a0_Ties_s a0_Ties_g],.one (.nils)]=>.alt ((s74 (⟨a0_Nodes,(⟨a0_Ties_n,zaa a0_Ties_g⟩:(Sl Tie))⟩:Net) (⟨0,fun _=>default⟩:(Sl Int))).2 == 0) (IsE zaj 4 a0_Ties_s a0_Ties_g∧p74 (⟨a0_Nodes,(⟨a0_Ties_n,zaa a0_Ties_g⟩:(Sl Tie))⟩:Net) (⟨0,fun _=>default⟩:(Sl Int))=true) [.one (.fp (zaw (⟨(s74 (⟨a0_Nodes,(⟨a0_Ties_n,zaa a0_Ties_g⟩:(Sl Tie))⟩:Net) (⟨0,fun _=>default⟩:(Sl Int))).1.Net,((s74 (⟨a0_Nodes,(⟨a0_Ties_n,zaa a0_Ties_g⟩:(Sl Tie))⟩:Net) (⟨0,fun _=>default⟩:(Sl Int))).1.out)⟩:web)) 0),.one (.int .i64 (0:Int))] (IsE zaj 4 a0_Ties_s a0_Ties_g∧p74 (⟨a0_Nodes,(⟨a0_Ties_n,zaa a0_Ties_g⟩:(Sl Tie))⟩:Net) (⟨0,fun _=>default⟩:(Sl Int))=true) [.one (.nilp),.one (.int .i64 ((s74 (⟨a0_Nodes,(⟨a0_Ties_n,zaa a0_Ties_g⟩:(Sl Tie))⟩:Net) (⟨0,fun _=>default⟩:(Sl Int))).2))]
  | _=>.no
theorem zFg:zas Tryd.prog 74:=⟨_,rfl,rfl,by kernel_rfl⟩
theorem zG1:Ok Tryd.prog 74 zv9:=zeW zG0 zFg fun args K h=>by
  unfold zv9 at h
  split at h
  · rename_i a0_Nodes a0_Ties_n a0_Ties_s a0_Ties_g a1_n a1_s a1_g
    have h:=zEq h
    obtain ⟨⟨⟨rfl,a0_Ties_f,rfl⟩,⟨rfl,a1_f,rfl⟩,hs⟩,hk⟩:=h
    try rw [zar a0_Ties_f] at hs
    try rw [zar a0_Ties_f] at hk
    try rw [zbR a1_f] at hs
    try rw [zbR a1_f] at hk
    exact ⟨_,zec zeA _,(fun _ _=>[]),(fun _=>false),zzs,q74 (⟨a0_Nodes,(⟨a0_Ties_n,a0_Ties_f⟩:(Sl Tie))⟩:Net) (⟨a1_n,a1_f⟩:(Sl Int)) (Wk K) hs (zeB hk)⟩
  · rename_i a0_Nodes a0_Ties_n a0_Ties_s a0_Ties_g
    have h:=zEq h
    obtain ⟨⟨⟨rfl,a0_Ties_f,rfl⟩,hs⟩,hk⟩:=h
    try rw [zar a0_Ties_f] at hs
    try rw [zar a0_Ties_f] at hk
    exact ⟨_,(zc5 (zeA _) (zc5 (.one (.nil _ _)) zgw)),(fun _ _=>[]),(fun _=>false),zzs,q74 (⟨a0_Nodes,(⟨a0_Ties_n,a0_Ties_f⟩:(Sl Tie))⟩:Net) (⟨0,fun _=>default⟩:(Sl Int)) (Wk K) hs (zeB hk)⟩
  · exact h.elim
abbrev T75:Tabs:=(((Tabs.nil.addF 93 znc).addF 104 zni).addI 110 zne)
theorem zG2:TabsOk Tryd.prog T75:=(((TabsOk.nil.addF zDJ).addF zBr).addI zsw)
abbrev G75:Ctrs:=csm T75 (fun _ _=>[]) (fun _=>false)
def zcc:Ann:=⟨66,[(0,⟨[0,1,4],[4],[],[],[],[],[]⟩),(1,⟨[0,1,4,5],[4,5],[],[],[],[],[]⟩),(2,⟨[0,1,4,5,10],[4,5],[],[],[],[],[]⟩),(3,⟨[0,1,4,5,10,11],[4,5],[],[],[],[],[]⟩),(4,⟨[0,1,4,5,6,10],[4,5],[],[],[],[],[]⟩),(5,⟨[0,1,4,5,10],[4,5],[],[],[],[],[]⟩),(6,⟨[0,1,4,5,10],[4,5],[],[],[],[],[]⟩),(7,⟨[0,4,5],[4,5],[],[],[],[],[]⟩),(8,⟨[0,4,5,7],[4,5,7],[],[],[],[],[]⟩),(9,⟨[0,4,5,7,20],[4,5,7],[],[],[],[],[]⟩),(10,⟨[0,4,5,7],[4,5,7],[],[],[],[],[]⟩),(11,⟨[0,4,5,7,22],[4,5,7],[],[],[],[],[]⟩),(12,⟨[0,4,5,7,8,22],[4,5,7,8],[],[],[],[],[]⟩),(13,⟨[0,4,5,7,8,22,29],[4,5,7,8],[],[],[],[],[]⟩),(14,⟨[0,4,5,7,8,9,22],[4,5,7,8,9],[],[],[],[],[]⟩),(15,⟨[0,4,5,7,8,9,22],[4,5,7,8,9],[],[],[],[],[]⟩),(16,⟨[0,4,5,7,22],[4,5,7],[],[],[],[],[]⟩),(17,⟨[0,4,5,64],[4,5],[],[],[],[],[]⟩),(18,⟨[0,4,5,7],[4,5,7],[],[],[],[],[]⟩),(19,⟨[4],[4],[],[],[],[],[]⟩)],
 [(3,⟨[0,1,4,5,10],[4,5],[],[],[],[],[]⟩),(9,⟨[0,4,5,7],[4,5,7],[],[],[],[],[]⟩),(12,⟨[0,4,5,7,22],[4,5,7],[],[],[],[],[]⟩)],
 [(7,⟨[0,1,4,5],[4,5],[],[],[],[],[]⟩)],
 [],[]⟩
def zjJ (w:web) (node:Int) (zaD:Int) (t4t0:Tab) (dt0:Tab):St:=⟨[(0,.one (.c (.p (.fp (zaw w) 0)))),(1,.one (.c (.p (.int .i64 node)))),(4,.one (.c (.ptr 4 0))),(5,.one (.c (.ptr 5 0))),(10,.one (.c (.p (.int .i64 zaD))))],[(4,.box 116 (zm (zad t4t0))),(5,.box 116 (zm (zad dt0)))],[]⟩
def zjK (K:List PA→Prop) (w:web) (node:Int) (zaD:Int) (t4t0:Tab) (dt0:Tab):Prop:=vc Tryd.prog G75 zcc (cdF Tryd.f75 [1,1,0,1,0]) (zak 0 (sqK Tryd.prog G75 zcc (cdF Tryd.f75 [1,1,1]) (zba Tryd.prog Tryd.f75 K))) (zjJ w node zaD t4t0 dt0)
def zFh (w:web) (node:Int) (t4t1:Tab) (dt1:Tab):St:=⟨[(0,.one (.c (.p (.fp (zaw w) 0)))),(1,.one (.c (.p (.int .i64 node)))),(4,.one (.c (.ptr 4 0))),(5,.one (.c (.ptr 5 0)))],[(4,.box 116 (zm (zad t4t1))),(5,.box 116 (zm (zad dt1)))],[]⟩
def zmg (K:List PA→Prop) (w:web) (node:Int) (t4t1:Tab) (dt1:Tab):Prop:=vc Tryd.prog G75 zcc (cdF Tryd.f75 [1,1,1]) (zba Tryd.prog Tryd.f75 K) (zFh w node t4t1 dt1)
def zhK (w:web) (zah:Bool) (t4t2:Tab) (dt2:Tab):St:=⟨[(0,.one (.c (.p (.fp (zaw w) 0)))),(4,.one (.c (.ptr 4 0))),(5,.one (.c (.ptr 5 0))),(7,.one (.c (.ptr 7 0)))],[(4,.box 116 (zm (zad t4t2))),(5,.box 116 (zm (zad dt2))),(7,.box 4 [.p (.bool zah)])],[]⟩
def zjL (K:List PA→Prop) (w:web) (zah:Bool) (t4t2:Tab) (dt2:Tab):Prop:=vc Tryd.prog G75 zcc (cdF Tryd.f75 [1,1,1,1,0,1,0]) (zak 2 (sqK Tryd.prog G75 zcc (cdF Tryd.f75 [1,1,1,1,1]) (zba Tryd.prog Tryd.f75 K))) (zhK w zah t4t2 dt2)
def zfd (w:web) (zac:Bool) (t4t3:Tab) (dt3:Tab):St:=⟨[(0,.one (.c (.p (.fp (zaw w) 0)))),(4,.one (.c (.ptr 4 0))),(5,.one (.c (.ptr 5 0))),(7,.one (.c (.ptr 7 0))),(22,.one (.c (.p (.fn 110 [] [.fp [.fp (zaw w) 0] 0]))))],[(4,.box 116 (zm (zad t4t3))),(5,.box 116 (zm (zad dt3))),(7,.box 4 [.p (.bool zac)])],[]⟩
def zjM (K:List PA→Prop) (X2:St→Prop) (w:web) (zac:Bool) (t4t3:Tab) (dt3:Tab):Prop:=vc Tryd.prog G75 zcc (cdF Tryd.f75 [1,1,1,1,0,1,0,0,1,0,0,1,1,0]) (zak 4 (zak 3 (sqK Tryd.prog G75 zcc (cdF Tryd.f75 [1,1,1,1,0,1,0,0,1,1]) (zbb Tryd.prog zcc 9 X2 (zak 2 (sqK Tryd.prog G75 zcc (cdF Tryd.f75 [1,1,1,1,1]) (zba Tryd.prog Tryd.f75 K))))))) (zfd w zac t4t3 dt3)
theorem zCg (w : web) (node : Int) (K : List PA → Prop) :
  vcFun Tryd.prog G75 zcc 75 [.one (.fp (zaw w) 0),.one (.int .i64 node)] K =
  (zjK K w node (0:Int) (fun _=>(0:Int)) (fun _=>(0:Int))):=by kernel_rfl
def znG (K:List PA→Prop) (X0:St→Prop) (w:web) (node:Int) (zaD:Int) (t4t0:Tab) (dt0:Tab):Prop :=
  (zbA (decide (zaD < (40:Int)))
 (((0≤zaD∧zaD < (40:Int))) ∧
 (X0 (zjJ w node (w64 (zaD+(1:Int))) t4t0 (ts 80 dt0 (0+zaD.toNat * 2+0) [(1000000000000:Int),(0:Int)]))))
 (zmg K w node t4t0 dt0))
theorem zpx (K : List PA → Prop) (X0 : St → Prop) (w : web) (node : Int) (zaD : Int) (t4t0 : Tab) (dt0 : Tab) :
  vc Tryd.prog G75 zcc (cd (cdF Tryd.f75 [1,1,0,1,0]) [0]) (zbb Tryd.prog zcc 3 X0 (zak 0 (sqK Tryd.prog G75 zcc (cdF Tryd.f75 [1,1,1]) (zba Tryd.prog Tryd.f75 K)))) (zjJ w node zaD t4t0 dt0) =
  znG K X0 w node zaD t4t0 dt0:=by kernel_rfl
theorem zwa (K : List PA → Prop) (w : web) (node : Int) (zaD : Int) (t4t0 : Tab) (dt0 : Tab)
  (h:∀ X0:St→Prop,(∀ (zaD:Int) (t4t0:Tab) (dt0:Tab),znG K X0 w node zaD t4t0 dt0→X0 (zjJ w node zaD t4t0 dt0))→X0 (zjJ w node zaD t4t0 dt0)) :
  zjK K w node zaD t4t0 dt0:=by
  have e:zjK K w node zaD t4t0 dt0=(∀ X:St→Prop,(∀ s,vc Tryd.prog G75 zcc (cd (cdF Tryd.f75 [1,1,0,1,0]) [0]) (zbb Tryd.prog zcc 3 X (zak 0 (sqK Tryd.prog G75 zcc (cdF Tryd.f75 [1,1,1]) (zba Tryd.prog Tryd.f75 K)))) s→X s)→X (zjJ w node zaD t4t0 dt0)):=by kernel_rfl
  refine zbh e ?_
  intro X hX
  refine h X ?_
  intro zaD t4t0 dt0 hs
  refine hX _ ?_
  have e2:=zpx K X w node zaD t4t0 dt0
  rw [e2]
  exact hs
theorem zCh (K : List PA → Prop) (w : web) (node : Int) (t4t1 : Tab) (dt1 : Tab) :
  zmg K w node t4t1 dt1 =
  (((0≤node∧node < (40:Int))) ∧
 (zjL K w true t4t1 (ts 80 dt1 (0+node.toNat * 2+0) [(0:Int),(0:Int)]))):=by kernel_rfl
def znH (K:List PA→Prop) (X2:St→Prop) (w:web) (zah:Bool) (t4t2:Tab) (dt2:Tab):Prop :=
  (zbA zah
 ((IsE zaj 4 4 (fun i=>zaj (w.Net.Ties.get i))∧((false,1,false,[none]):MQ)=(false,1,false,[none])) ∧
 (zjM K X2 w false t4t2 dt2))
 (K [.agg [.int .i64 (dt2 0),.int .i64 (dt2 1),.int .i64 (dt2 2),.int .i64 (dt2 3),.int .i64 (dt2 4),.int .i64 (dt2 5),.int .i64 (dt2 6),.int .i64 (dt2 7),.int .i64 (dt2 8),.int .i64 (dt2 9),.int .i64 (dt2 10),.int .i64 (dt2 11),.int .i64 (dt2 12),.int .i64 (dt2 13),.int .i64 (dt2 14),.int .i64 (dt2 15),.int .i64 (dt2 16),.int .i64 (dt2 17),.int .i64 (dt2 18),.int .i64 (dt2 19),.int .i64 (dt2 20),.int .i64 (dt2 21),.int .i64 (dt2 22),.int .i64 (dt2 23),.int .i64 (dt2 24),.int .i64 (dt2 25),.int .i64 (dt2 26),.int .i64 (dt2 27),.int .i64 (dt2 28),.int .i64 (dt2 29),.int .i64 (dt2 30),.int .i64 (dt2 31),.int .i64 (dt2 32),.int .i64 (dt2 33),.int .i64 (dt2 34),.int .i64 (dt2 35),.int .i64 (dt2 36),.int .i64 (dt2 37),.int .i64 (dt2 38),.int .i64 (dt2 39),.int .i64 (dt2 40),.int .i64 (dt2 41),.int .i64 (dt2 42),.int .i64 (dt2 43),.int .i64 (dt2 44),.int .i64 (dt2 45),.int .i64 (dt2 46),.int .i64 (dt2 47),.int .i64 (dt2 48),.int .i64 (dt2 49),.int .i64 (dt2 50),.int .i64 (dt2 51),.int .i64 (dt2 52),.int .i64 (dt2 53),.int .i64 (dt2 54),.int .i64 (dt2 55),.int .i64 (dt2 56),.int .i64 (dt2 57),.int .i64 (dt2 58),.int .i64 (dt2 59),.int .i64 (dt2 60),.int .i64 (dt2 61),.int .i64 (dt2 62),.int .i64 (dt2 63),.int .i64 (dt2 64),.int .i64 (dt2 65),.int .i64 (dt2 66),.int .i64 (dt2 67),.int .i64 (dt2 68),.int .i64 (dt2 69),.int .i64 (dt2 70),.int .i64 (dt2 71),.int .i64 (dt2 72),.int .i64 (dt2 73),.int .i64 (dt2 74),.int .i64 (dt2 75),.int .i64 (dt2 76),.int .i64 (dt2 77),.int .i64 (dt2 78),.int .i64 (dt2 79)]]))
theorem zpy (K : List PA → Prop) (X2 : St → Prop) (w : web) (zah : Bool) (t4t2 : Tab) (dt2 : Tab) :
  vc Tryd.prog G75 zcc (cd (cdF Tryd.f75 [1,1,1,1,0,1,0]) [0]) (zbb Tryd.prog zcc 9 X2 (zak 2 (sqK Tryd.prog G75 zcc (cdF Tryd.f75 [1,1,1,1,1]) (zba Tryd.prog Tryd.f75 K)))) (zhK w zah t4t2 dt2) =
  znH K X2 w zah t4t2 dt2:=by kernel_rfl
theorem zwb (K : List PA → Prop) (w : web) (zah : Bool) (t4t2 : Tab) (dt2 : Tab)
  (h:∀ X2:St→Prop,(∀ (zah:Bool) (t4t2:Tab) (dt2:Tab),znH K X2 w zah t4t2 dt2→X2 (zhK w zah t4t2 dt2))→X2 (zhK w zah t4t2 dt2)) :
  zjL K w zah t4t2 dt2:=by
  have e:zjL K w zah t4t2 dt2=(∀ X:St→Prop,(∀ s,vc Tryd.prog G75 zcc (cd (cdF Tryd.f75 [1,1,1,1,0,1,0]) [0]) (zbb Tryd.prog zcc 9 X (zak 2 (sqK Tryd.prog G75 zcc (cdF Tryd.f75 [1,1,1,1,1]) (zba Tryd.prog Tryd.f75 K)))) s→X s)→X (zhK w zah t4t2 dt2)):=by kernel_rfl
  refine zbh e ?_
  intro X hX
  refine h X ?_
  intro zah t4t2 dt2 hs
  refine hX _ ?_
  have e2:=zpy K X w zah t4t2 dt2
  rw [e2]
  exact hs
def znI (K:List PA→Prop) (X2:St→Prop) (w:web) (zac:Bool) (t4t3:Tab) (dt3:Tab):Prop :=
  (X2 (zhK w zac t4t3 dt3))
def znJ (K:List PA→Prop) (X2:St→Prop) (X3:List (List PA)→St→Prop) (y3:step) (rest3:List (List PA)) (w:web) (zac:Bool) (t4t3:Tab) (dt3:Tab):Prop :=
  (((0≤y3.to∧y3.to < (40:Int))) ∧
 (zbA (match ((tg 80 dt3 (0 + y3.to.toNat * 2 + 0)) == (1000000000000:Int)) with | true => (match ((tg 80 dt3 (0 + y3.to.toNat * 2 + 0 + 1)) == (0:Int)) with | true => true | false => false) | false => false)
 (X3 rest3 (zfd w zac t4t3 dt3))
 (((0≤y3.from_∧y3.from_ < (40:Int))) ∧
 (((0≤y3.to∧y3.to < (40:Int))) ∧
 (((0≤y3.to∧y3.to < (40:Int))) ∧
 ((IsE zb9 2 2 (fun _=>(zb9 (⟨(w64 ((tg 80 dt3 (0+y3.to.toNat * 2+0))+y3.length)),(w64 ((tg 80 dt3 (0+y3.to.toNat * 2+1))+(1:Int)))⟩:far)))∧(zz2 (⟨(tg 80 dt3 (0+y3.from_.toNat * 2+0)),(tg 80 dt3 (0+y3.from_.toNat * 2+0+1))⟩:far) (⟨1,fun _=>(⟨(w64 ((tg 80 dt3 (0+y3.to.toNat * 2+0))+y3.length)),(w64 ((tg 80 dt3 (0+y3.to.toNat * 2+1))+(1:Int)))⟩:far)⟩:(Sl far))=true)) ∧
 (zbA zac
 (((0≤y3.from_∧y3.from_ < (40:Int))) ∧
 (X3 rest3 (zfd w true t4t3 (ts 80 dt3 (0+y3.from_.toNat * 2+0) [(zcz (⟨(tg 80 dt3 (0+y3.from_.toNat * 2+0)),(tg 80 dt3 (0+y3.from_.toNat * 2+0+1))⟩:far) (⟨1,fun _=>(⟨(w64 ((tg 80 dt3 (0+y3.to.toNat * 2+0))+y3.length)),(w64 ((tg 80 dt3 (0+y3.to.toNat * 2+1))+(1:Int)))⟩:far)⟩:(Sl far))).length,(zcz (⟨(tg 80 dt3 (0+y3.from_.toNat * 2+0)),(tg 80 dt3 (0+y3.from_.toNat * 2+0+1))⟩:far) (⟨1,fun _=>(⟨(w64 ((tg 80 dt3 (0+y3.to.toNat * 2+0))+y3.length)),(w64 ((tg 80 dt3 (0+y3.to.toNat * 2+1))+(1:Int)))⟩:far)⟩:(Sl far))).uses]))))
 (((0≤y3.from_∧y3.from_ < (40:Int))) ∧
 (((0≤y3.from_∧y3.from_ < (40:Int))) ∧
 (X3 rest3 (zfd w (!(match ((zcz (⟨(tg 80 dt3 (0+y3.from_.toNat * 2+0)),(tg 80 dt3 (0+y3.from_.toNat * 2+0+1))⟩:far) (⟨1,fun _=>(⟨(w64 ((tg 80 dt3 (0+y3.to.toNat * 2+0))+y3.length)),(w64 ((tg 80 dt3 (0+y3.to.toNat * 2+1))+(1:Int)))⟩:far)⟩:(Sl far))).length == (tg 80 dt3 (0+y3.from_.toNat * 2+0))) with | true=>(match ((zcz (⟨(tg 80 dt3 (0+y3.from_.toNat * 2+0)),(tg 80 dt3 (0+y3.from_.toNat * 2+0+1))⟩:far) (⟨1,fun _=>(⟨(w64 ((tg 80 dt3 (0+y3.to.toNat * 2+0))+y3.length)),(w64 ((tg 80 dt3 (0+y3.to.toNat * 2+1))+(1:Int)))⟩:far)⟩:(Sl far))).uses == (tg 80 dt3 (0+y3.from_.toNat * 2+0+1))) with | true=>true | false=>false) | false=>false)) t4t3 (ts 80 dt3 (0+y3.from_.toNat * 2+0) [(zcz (⟨(tg 80 dt3 (0+y3.from_.toNat * 2+0)),(tg 80 dt3 (0+y3.from_.toNat * 2+0+1))⟩:far) (⟨1,fun _=>(⟨(w64 ((tg 80 dt3 (0+y3.to.toNat * 2+0))+y3.length)),(w64 ((tg 80 dt3 (0+y3.to.toNat * 2+1))+(1:Int)))⟩:far)⟩:(Sl far))).length,(zcz (⟨(tg 80 dt3 (0+y3.from_.toNat * 2+0)),(tg 80 dt3 (0+y3.from_.toNat * 2+0+1))⟩:far) (⟨1,fun _=>(⟨(w64 ((tg 80 dt3 (0+y3.to.toNat * 2+0))+y3.length)),(w64 ((tg 80 dt3 (0+y3.to.toNat * 2+1))+(1:Int)))⟩:far)⟩:(Sl far))).uses]))))))))))))
theorem zpz (K:List PA→Prop) (X2:St→Prop) (w:web) (zac:Bool) (t4t3:Tab) (dt3:Tab):(zak 4 (zak 3 (sqK Tryd.prog G75 zcc (cdF Tryd.f75 [1,1,1,1,0,1,0,0,1,1]) (zbb Tryd.prog zcc 9 X2 (zak 2 (sqK Tryd.prog G75 zcc (cdF Tryd.f75 [1,1,1,1,1]) (zba Tryd.prog Tryd.f75 K))))))) .normal (zfd w zac t4t3 dt3)=znI K X2 w zac t4t3 dt3:=by kernel_rfl
theorem zpA (K : List PA → Prop) (X2 : St → Prop) (X3 : List (List PA) → St → Prop) (y3 : step) (rest3 : List (List PA)) (w : web) (zac : Bool) (t4t3 : Tab) (dt3 : Tab) :
  zsL Tryd.prog G75 zcc 12 [23] (cd (cdF Tryd.f75 [1,1,1,1,0,1,0,0,1,0,0,1,1,0]) [0]) (cd (cdF Tryd.f75 [1,1,1,1,0,1,0,0,1,0,0,1,1,0]) [1]) X3 (zak 4 (zak 3 (sqK Tryd.prog G75 zcc (cdF Tryd.f75 [1,1,1,1,0,1,0,0,1,1]) (zbb Tryd.prog zcc 9 X2 (zak 2 (sqK Tryd.prog G75 zcc (cdF Tryd.f75 [1,1,1,1,1]) (zba Tryd.prog Tryd.f75 K))))))) [.agg (zae y3)] rest3 (zfd w zac t4t3 dt3)=znJ K X2 X3 y3 rest3 w zac t4t3 dt3:=by kernel_rfl
theorem zwc (K : List PA → Prop) (X2 : St → Prop) (w : web) (zac : Bool) (t4t3 : Tab) (dt3 : Tab)
  (hsafe:IsE zaj 4 4 (fun i=>zaj (w.Net.Ties.get i))∧((false,1,false,[none]):MQ)=(false,1,false,[none])∧(zkj w=true)) (h:∀ X3:List (List PA)→St→Prop,(∀ (zac:Bool) (t4t3:Tab) (dt3:Tab),znI K X2 w zac t4t3 dt3→X3 [] (zfd w zac t4t3 dt3))→(∀ (y:step) (rest:List (List PA)) (zac:Bool) (t4t3:Tab) (dt3:Tab),znJ K X2 X3 y rest w zac t4t3 dt3→X3 ([.agg (zae y)] :: rest) (zfd w zac t4t3 dt3))→X3 ((zha w).map fun y=>[.agg (zae y)]) (zfd w zac t4t3 dt3)) :
  zjM K X2 w zac t4t3 dt3:=by
  have e:zjM K X2 w zac t4t3 dt3=((IsE zaj 4 4 (fun i=>zaj (w.Net.Ties.get i))∧((false,1,false,[none]):MQ)=(false,1,false,[none])∧(zkj w=true))∧∀ X:List (List PA)→St→Prop,(∀ s,(zak 4 (zak 3 (sqK Tryd.prog G75 zcc (cdF Tryd.f75 [1,1,1,1,0,1,0,0,1,1]) (zbb Tryd.prog zcc 9 X2 (zak 2 (sqK Tryd.prog G75 zcc (cdF Tryd.f75 [1,1,1,1,1]) (zba Tryd.prog Tryd.f75 K))))))) .normal s→X [] s)→(∀ y rest s,zsL Tryd.prog G75 zcc 12 [23] (cd (cdF Tryd.f75 [1,1,1,1,0,1,0,0,1,0,0,1,1,0]) [0]) (cd (cdF Tryd.f75 [1,1,1,1,0,1,0,0,1,0,0,1,1,0]) [1]) X (zak 4 (zak 3 (sqK Tryd.prog G75 zcc (cdF Tryd.f75 [1,1,1,1,0,1,0,0,1,1]) (zbb Tryd.prog zcc 9 X2 (zak 2 (sqK Tryd.prog G75 zcc (cdF Tryd.f75 [1,1,1,1,1]) (zba Tryd.prog Tryd.f75 K))))))) y rest s→X (y :: rest) s)→X ((zha w).map fun y=>[.agg (zae y)]) (zfd w zac t4t3 dt3)):=by kernel_rfl
  refine zbh e ⟨hsafe,?_⟩
  intro X h0 h1
  refine h X (fun zac t4t3 dt3 hs=>h0 _ ?_) (fun y rest zac t4t3 dt3 hs=>h1 _ rest _ ?_)
  · rw [zpz K X2 w zac t4t3 dt3];exact hs
  · have e2 := zpA K X2 X y rest w zac t4t3 dt3
    rw [e2];exact hs
abbrev e75 (r:Tab):List PA:=[.agg [.int .i64 (r 0),.int .i64 (r 1),.int .i64 (r 2),.int .i64 (r 3),.int .i64 (r 4),.int .i64 (r 5),.int .i64 (r 6),.int .i64 (r 7),.int .i64 (r 8),.int .i64 (r 9),.int .i64 (r 10),.int .i64 (r 11),.int .i64 (r 12),.int .i64 (r 13),.int .i64 (r 14),.int .i64 (r 15),.int .i64 (r 16),.int .i64 (r 17),.int .i64 (r 18),.int .i64 (r 19),.int .i64 (r 20),.int .i64 (r 21),.int .i64 (r 22),.int .i64 (r 23),.int .i64 (r 24),.int .i64 (r 25),.int .i64 (r 26),.int .i64 (r 27),.int .i64 (r 28),.int .i64 (r 29),.int .i64 (r 30),.int .i64 (r 31),.int .i64 (r 32),.int .i64 (r 33),.int .i64 (r 34),.int .i64 (r 35),.int .i64 (r 36),.int .i64 (r 37),.int .i64 (r 38),.int .i64 (r 39),.int .i64 (r 40),.int .i64 (r 41),.int .i64 (r 42),.int .i64 (r 43),.int .i64 (r 44),.int .i64 (r 45),.int .i64 (r 46),.int .i64 (r 47),.int .i64 (r 48),.int .i64 (r 49),.int .i64 (r 50),.int .i64 (r 51),.int .i64 (r 52),.int .i64 (r 53),.int .i64 (r 54),.int .i64 (r 55),.int .i64 (r 56),.int .i64 (r 57),.int .i64 (r 58),.int .i64 (r 59),.int .i64 (r 60),.int .i64 (r 61),.int .i64 (r 62),.int .i64 (r 63),.int .i64 (r 64),.int .i64 (r 65),.int .i64 (r 66),.int .i64 (r 67),.int .i64 (r 68),.int .i64 (r 69),.int .i64 (r 70),.int .i64 (r 71),.int .i64 (r 72),.int .i64 (r 73),.int .i64 (r 74),.int .i64 (r 75),.int .i64 (r 76),.int .i64 (r 77),.int .i64 (r 78),.int .i64 (r 79)]]
attribute [irreducible] zjK zmg zjL zjM
def zpB (S2:Bool→Tab→Tab→Tab) (w:web) (zac:Bool) (t4t3:Tab) (dt3:Tab):Tab :=
  (S2 zac t4t3 dt3)
def zpC (P2:Bool→Tab→Tab→Bool) (w:web) (zac:Bool) (t4t3:Tab) (dt3:Tab):Bool :=
  (P2 zac t4t3 dt3)
def zpD (S2:Bool→Tab→Tab→Tab) (w:web) (y3:step) (S3:Bool→Tab→Tab→Tab) (zac:Bool) (t4t3:Tab) (dt3:Tab):Tab :=
  (cond (match ((tg 80 dt3 (0 + y3.to.toNat * 2 + 0)) == (1000000000000:Int)) with | true => (match ((tg 80 dt3 (0 + y3.to.toNat * 2 + 0 + 1)) == (0:Int)) with | true => true | false => false) | false => false)
 (S3 zac t4t3 dt3)
 (cond zac
 (S3 true t4t3 (ts 80 dt3 (0+y3.from_.toNat * 2+0) [(zcz (⟨(tg 80 dt3 (0+y3.from_.toNat * 2+0)),(tg 80 dt3 (0+y3.from_.toNat * 2+0+1))⟩:far) (⟨1,fun _=>(⟨(w64 ((tg 80 dt3 (0+y3.to.toNat * 2+0))+y3.length)),(w64 ((tg 80 dt3 (0+y3.to.toNat * 2+1))+(1:Int)))⟩:far)⟩:(Sl far))).length,(zcz (⟨(tg 80 dt3 (0+y3.from_.toNat * 2+0)),(tg 80 dt3 (0+y3.from_.toNat * 2+0+1))⟩:far) (⟨1,fun _=>(⟨(w64 ((tg 80 dt3 (0+y3.to.toNat * 2+0))+y3.length)),(w64 ((tg 80 dt3 (0+y3.to.toNat * 2+1))+(1:Int)))⟩:far)⟩:(Sl far))).uses]))
 (S3 (!(match ((zcz (⟨(tg 80 dt3 (0+y3.from_.toNat * 2+0)),(tg 80 dt3 (0+y3.from_.toNat * 2+0+1))⟩:far) (⟨1,fun _=>(⟨(w64 ((tg 80 dt3 (0+y3.to.toNat * 2+0))+y3.length)),(w64 ((tg 80 dt3 (0+y3.to.toNat * 2+1))+(1:Int)))⟩:far)⟩:(Sl far))).length == (tg 80 dt3 (0+y3.from_.toNat * 2+0))) with | true=>(match ((zcz (⟨(tg 80 dt3 (0+y3.from_.toNat * 2+0)),(tg 80 dt3 (0+y3.from_.toNat * 2+0+1))⟩:far) (⟨1,fun _=>(⟨(w64 ((tg 80 dt3 (0+y3.to.toNat * 2+0))+y3.length)),(w64 ((tg 80 dt3 (0+y3.to.toNat * 2+1))+(1:Int)))⟩:far)⟩:(Sl far))).uses == (tg 80 dt3 (0+y3.from_.toNat * 2+0+1))) with | true=>true | false=>false) | false=>false)) t4t3 (ts 80 dt3 (0+y3.from_.toNat * 2+0) [(zcz (⟨(tg 80 dt3 (0+y3.from_.toNat * 2+0)),(tg 80 dt3 (0+y3.from_.toNat * 2+0+1))⟩:far) (⟨1,fun _=>(⟨(w64 ((tg 80 dt3 (0+y3.to.toNat * 2+0))+y3.length)),(w64 ((tg 80 dt3 (0+y3.to.toNat * 2+1))+(1:Int)))⟩:far)⟩:(Sl far))).length,(zcz (⟨(tg 80 dt3 (0+y3.from_.toNat * 2+0)),(tg 80 dt3 (0+y3.from_.toNat * 2+0+1))⟩:far) (⟨1,fun _=>(⟨(w64 ((tg 80 dt3 (0+y3.to.toNat * 2+0))+y3.length)),(w64 ((tg 80 dt3 (0+y3.to.toNat * 2+1))+(1:Int)))⟩:far)⟩:(Sl far))).uses]))))
def zpE (P2:Bool→Tab→Tab→Bool) (w:web) (y3:step) (P3:Bool→Tab→Tab→Bool) (zac:Bool) (t4t3:Tab) (dt3:Tab):Bool :=
  (decide ((0≤y3.to∧y3.to < (40:Int))) &&
 (cond (match ((tg 80 dt3 (0 + y3.to.toNat * 2 + 0)) == (1000000000000:Int)) with | true => (match ((tg 80 dt3 (0 + y3.to.toNat * 2 + 0 + 1)) == (0:Int)) with | true => true | false => false) | false => false)
 (P3 zac t4t3 dt3)
 (decide ((0≤y3.from_∧y3.from_ < (40:Int))) &&
 (decide ((0≤y3.to∧y3.to < (40:Int))) &&
 (decide ((0≤y3.to∧y3.to < (40:Int))) &&
 (decide ((zz2 (⟨(tg 80 dt3 (0+y3.from_.toNat * 2+0)),(tg 80 dt3 (0+y3.from_.toNat * 2+0+1))⟩:far) (⟨1,fun _=>(⟨(w64 ((tg 80 dt3 (0+y3.to.toNat * 2+0))+y3.length)),(w64 ((tg 80 dt3 (0+y3.to.toNat * 2+1))+(1:Int)))⟩:far)⟩:(Sl far))=true)) &&
 (cond zac
 (decide ((0≤y3.from_∧y3.from_ < (40:Int))) &&
 (P3 true t4t3 (ts 80 dt3 (0+y3.from_.toNat * 2+0) [(zcz (⟨(tg 80 dt3 (0+y3.from_.toNat * 2+0)),(tg 80 dt3 (0+y3.from_.toNat * 2+0+1))⟩:far) (⟨1,fun _=>(⟨(w64 ((tg 80 dt3 (0+y3.to.toNat * 2+0))+y3.length)),(w64 ((tg 80 dt3 (0+y3.to.toNat * 2+1))+(1:Int)))⟩:far)⟩:(Sl far))).length,(zcz (⟨(tg 80 dt3 (0+y3.from_.toNat * 2+0)),(tg 80 dt3 (0+y3.from_.toNat * 2+0+1))⟩:far) (⟨1,fun _=>(⟨(w64 ((tg 80 dt3 (0+y3.to.toNat * 2+0))+y3.length)),(w64 ((tg 80 dt3 (0+y3.to.toNat * 2+1))+(1:Int)))⟩:far)⟩:(Sl far))).uses])))
 (decide ((0≤y3.from_∧y3.from_ < (40:Int))) &&
 (decide ((0≤y3.from_∧y3.from_ < (40:Int))) &&
 (P3 (!(match ((zcz (⟨(tg 80 dt3 (0+y3.from_.toNat * 2+0)),(tg 80 dt3 (0+y3.from_.toNat * 2+0+1))⟩:far) (⟨1,fun _=>(⟨(w64 ((tg 80 dt3 (0+y3.to.toNat * 2+0))+y3.length)),(w64 ((tg 80 dt3 (0+y3.to.toNat * 2+1))+(1:Int)))⟩:far)⟩:(Sl far))).length == (tg 80 dt3 (0+y3.from_.toNat * 2+0))) with | true=>(match ((zcz (⟨(tg 80 dt3 (0+y3.from_.toNat * 2+0)),(tg 80 dt3 (0+y3.from_.toNat * 2+0+1))⟩:far) (⟨1,fun _=>(⟨(w64 ((tg 80 dt3 (0+y3.to.toNat * 2+0))+y3.length)),(w64 ((tg 80 dt3 (0+y3.to.toNat * 2+1))+(1:Int)))⟩:far)⟩:(Sl far))).uses == (tg 80 dt3 (0+y3.from_.toNat * 2+0+1))) with | true=>true | false=>false) | false=>false)) t4t3 (ts 80 dt3 (0+y3.from_.toNat * 2+0) [(zcz (⟨(tg 80 dt3 (0+y3.from_.toNat * 2+0)),(tg 80 dt3 (0+y3.from_.toNat * 2+0+1))⟩:far) (⟨1,fun _=>(⟨(w64 ((tg 80 dt3 (0+y3.to.toNat * 2+0))+y3.length)),(w64 ((tg 80 dt3 (0+y3.to.toNat * 2+1))+(1:Int)))⟩:far)⟩:(Sl far))).length,(zcz (⟨(tg 80 dt3 (0+y3.from_.toNat * 2+0)),(tg 80 dt3 (0+y3.from_.toNat * 2+0+1))⟩:far) (⟨1,fun _=>(⟨(w64 ((tg 80 dt3 (0+y3.to.toNat * 2+0))+y3.length)),(w64 ((tg 80 dt3 (0+y3.to.toNat * 2+1))+(1:Int)))⟩:far)⟩:(Sl far))).uses])))))))))))
def zjN (S2 : Bool → Tab → Tab → Tab) (w : web) : List step → Bool → Tab → Tab → Tab
  | []=>zpB S2 w
  | y :: r=>zpD S2 w y (zjN S2 w r)
def zjO (P2 : Bool → Tab → Tab → Bool) (w : web) : List step → Bool → Tab → Tab → Bool
  | []=>zpC P2 w
  | y :: r=>zpE P2 w y (zjO P2 w r)
def zwd (S2:Bool→Tab→Tab→Tab) (w:web) (zac:Bool) (t4t3:Tab) (dt3:Tab):Tab:=zjN S2 w (zha w) zac t4t3 dt3
def zpF (P2:Bool→Tab→Tab→Bool) (w:web) (zac:Bool) (t4t3:Tab) (dt3:Tab):Bool:=decide ((zkj w=true)) && zjO P2 w (zha w) zac t4t3 dt3
theorem zCi (K : List PA → Prop) (w : web)
  (X2:St→Prop) (P2:Bool→Tab→Tab→Bool) (S2:Bool→Tab→Tab→Tab)
  (hX2:∀ (zah:Bool) (t4t2:Tab) (dt2:Tab),P2 zah t4t2 dt2=true→K (e75 (S2 zah t4t2 dt2))→X2 (zhK w zah t4t2 dt2)) (zac:Bool) (t4t3:Tab) (dt3:Tab) (hs:zpF P2 w zac t4t3 dt3=true) (hk:K (e75 (zwd S2 w zac t4t3 dt3))):zjM K X2 w zac t4t3 dt3:=by
  unfold zpF at hs
  rw [Bool.and_eq_true] at hs
  obtain ⟨hsf,hs⟩:=hs
  have hc:=of_decide_eq_true hsf
  refine zwc K X2 w zac t4t3 dt3 ⟨isE,rfl,hc⟩ ?_
  intro X3 hexit hstep
  have key:∀ (l:List step) (zac:Bool) (t4t3:Tab) (dt3:Tab),zjO P2 w l zac t4t3 dt3=true→K (e75 (zjN S2 w l zac t4t3 dt3))→X3 (l.map fun y=>[.agg (zae y)]) (zfd w zac t4t3 dt3):=by
    intro l
    induction l with
    | nil =>
      intro zac t4t3 dt3 hs hk
      refine hexit zac t4t3 dt3 ?_
      have hs:zpC P2 w zac t4t3 dt3=true:=hs
      have hk:K (e75 (zpB S2 w zac t4t3 dt3)):=hk
      unfold zpC at hs
      unfold zpB at hk
      exact (hX2 zac t4t3 dt3 hs hk)
    | cons y3 l ih =>
      intro zac t4t3 dt3 hs hk
      refine hstep y3 _ zac t4t3 dt3 ?_
      have hs:zpE P2 w y3 (zjO P2 w l) zac t4t3 dt3=true:=hs
      have hk:K (e75 (zpD S2 w y3 (zjN S2 w l) zac t4t3 dt3)):=hk
      unfold zpE at hs
      unfold zpD at hk
      generalize zjN S2 w l=S3 at hk ih
      generalize zjO P2 w l=P3 at hs ih
      have hX3:=ih
      exact (za7 hs fun hc hs => ⟨hc, (zaP (K := fun r => K (e75 r))
 (fun hs hk=>(hX3 zac t4t3 dt3 hs hk))
 (fun hs hk => (za7 hs fun hc hs => ⟨hc, (za7 hs fun hc hs => ⟨hc, (za7 hs fun hc hs => ⟨hc, (za7 hs fun hc hs => ⟨⟨zup, hc⟩, (zaP (K := fun r => K (e75 r))
 (fun hs hk=>(za7 hs fun hc hs=>⟨hc,(hX3 true t4t3 (ts 80 dt3 (0+y3.from_.toNat * 2+0) [(zcz (⟨(tg 80 dt3 (0+y3.from_.toNat * 2+0)),(tg 80 dt3 (0+y3.from_.toNat * 2+0+1))⟩:far) (⟨1,fun _=>(⟨(w64 ((tg 80 dt3 (0+y3.to.toNat * 2+0))+y3.length)),(w64 ((tg 80 dt3 (0+y3.to.toNat * 2+1))+(1:Int)))⟩:far)⟩:(Sl far))).length,(zcz (⟨(tg 80 dt3 (0+y3.from_.toNat * 2+0)),(tg 80 dt3 (0+y3.from_.toNat * 2+0+1))⟩:far) (⟨1,fun _=>(⟨(w64 ((tg 80 dt3 (0+y3.to.toNat * 2+0))+y3.length)),(w64 ((tg 80 dt3 (0+y3.to.toNat * 2+1))+(1:Int)))⟩:far)⟩:(Sl far))).uses]) hs hk)⟩))
 (fun hs hk=>(za7 hs fun hc hs=>⟨hc,(za7 hs fun hc hs=>⟨hc,(hX3 (!(match ((zcz (⟨(tg 80 dt3 (0+y3.from_.toNat * 2+0)),(tg 80 dt3 (0+y3.from_.toNat * 2+0+1))⟩:far) (⟨1,fun _=>(⟨(w64 ((tg 80 dt3 (0+y3.to.toNat * 2+0))+y3.length)),(w64 ((tg 80 dt3 (0+y3.to.toNat * 2+1))+(1:Int)))⟩:far)⟩:(Sl far))).length == (tg 80 dt3 (0+y3.from_.toNat * 2+0))) with | true=>(match ((zcz (⟨(tg 80 dt3 (0+y3.from_.toNat * 2+0)),(tg 80 dt3 (0+y3.from_.toNat * 2+0+1))⟩:far) (⟨1,fun _=>(⟨(w64 ((tg 80 dt3 (0+y3.to.toNat * 2+0))+y3.length)),(w64 ((tg 80 dt3 (0+y3.to.toNat * 2+1))+(1:Int)))⟩:far)⟩:(Sl far))).uses == (tg 80 dt3 (0+y3.from_.toNat * 2+0+1))) with | true=>true | false=>false) | false=>false)) t4t3 (ts 80 dt3 (0+y3.from_.toNat * 2+0) [(zcz (⟨(tg 80 dt3 (0+y3.from_.toNat * 2+0)),(tg 80 dt3 (0+y3.from_.toNat * 2+0+1))⟩:far) (⟨1,fun _=>(⟨(w64 ((tg 80 dt3 (0+y3.to.toNat * 2+0))+y3.length)),(w64 ((tg 80 dt3 (0+y3.to.toNat * 2+1))+(1:Int)))⟩:far)⟩:(Sl far))).length,(zcz (⟨(tg 80 dt3 (0+y3.from_.toNat * 2+0)),(tg 80 dt3 (0+y3.from_.toNat * 2+0+1))⟩:far) (⟨1,fun _=>(⟨(w64 ((tg 80 dt3 (0+y3.to.toNat * 2+0))+y3.length)),(w64 ((tg 80 dt3 (0+y3.to.toNat * 2+1))+(1:Int)))⟩:far)⟩:(Sl far))).uses]) hs hk)⟩)⟩)) hs hk)⟩)⟩)⟩)⟩)) hs hk)⟩)
  exact key _ zac t4t3 dt3 hs hk
def zpG (w:web) (S2:Bool→Tab→Tab→Tab) (zah:Bool) (t4t2:Tab) (dt2:Tab):Tab :=
  (cond zah
 (zwd S2 w false t4t2 dt2)
 dt2)
def zpH (w:web) (P2:Bool→Tab→Tab→Bool) (zah:Bool) (t4t2:Tab) (dt2:Tab):Bool :=
  (cond zah
 (zpF P2 w false t4t2 dt2)
 true)
def zjP (w : web) : Nat → Bool → Tab → Tab → Tab
  | 0=>fun _ _ _=>default
  | k+1=>zpG w (zjP w k)
def zjQ (w : web) : Nat → Bool → Tab → Tab → Bool
  | 0=>fun _ _ _=>false
  | k+1=>zpH w (zjQ w k)
def zwe (w:web) (zah:Bool) (t4t2:Tab) (dt2:Tab):Tab:=zjP w Fuel zah t4t2 dt2
def zwf (w:web) (zah:Bool) (t4t2:Tab) (dt2:Tab):Bool:=zjQ w Fuel zah t4t2 dt2
theorem zCj (K:List PA→Prop) (w:web) (zah:Bool) (t4t2:Tab) (dt2:Tab) (hs:zwf w zah t4t2 dt2=true) (hk:K (e75 (zwe w zah t4t2 dt2))):zjL K w zah t4t2 dt2:=by
  refine zwb K w zah t4t2 dt2 ?_
  intro X2 hstep
  have key:∀ (k:Nat) (zah:Bool) (t4t2:Tab) (dt2:Tab),zjQ w k zah t4t2 dt2=true→K (e75 (zjP w k zah t4t2 dt2))→X2 (zhK w zah t4t2 dt2):=by
    intro k
    induction k with
    | zero=>intro zah t4t2 dt2 hs;exact absurd hs Bool.false_ne_true
    | succ k ih =>
      intro zah t4t2 dt2 hs hk
      refine hstep zah t4t2 dt2 ?_
      have hs:zpH w (zjQ w k) zah t4t2 dt2=true:=hs
      have hk:K (e75 (zpG w (zjP w k) zah t4t2 dt2)):=hk
      unfold zpH at hs
      unfold zpG at hk
      generalize zjP w k=S2 at hk ih
      generalize zjQ w k=P2 at hs ih
      have hX2:=ih
      exact (zaP (K := fun r => K (e75 r))
 (fun hs hk=>⟨⟨isE,rfl⟩,(zCi K w X2 P2 S2 hX2 false t4t2 dt2 hs hk)⟩)
 (fun hs hk=>hk) hs hk)
  exact key _ zah t4t2 dt2 hs hk
def zpI (w:web) (node:Int) (t4t1:Tab) (dt1:Tab):Tab :=
  (zwe w true t4t1 (ts 80 dt1 (0+node.toNat * 2+0) [(0:Int),(0:Int)]))
def zpJ (w:web) (node:Int) (t4t1:Tab) (dt1:Tab):Bool :=
  (decide ((0≤node∧node < (40:Int))) &&
 (zwf w true t4t1 (ts 80 dt1 (0+node.toNat * 2+0) [(0:Int),(0:Int)])))
theorem zCk (K:List PA→Prop) (w:web) (node:Int) (t4t1:Tab) (dt1:Tab) (hs:zpJ w node t4t1 dt1=true) (hk:K (e75 (zpI w node t4t1 dt1))):zmg K w node t4t1 dt1:=by
  refine zbh (zCh K w node t4t1 dt1) ?_
  unfold zpJ at hs
  unfold zpI at hk
  exact (za7 hs fun hc hs=>⟨hc,(zCj K w true t4t1 (ts 80 dt1 (0+node.toNat * 2+0) [(0:Int),(0:Int)]) hs hk)⟩)
def zpK (w:web) (node:Int) (S0:Int→Tab→Tab→Tab) (zaD:Int) (t4t0:Tab) (dt0:Tab):Tab :=
  (cond (decide (zaD < (40:Int)))
 (S0 (w64 (zaD+(1:Int))) t4t0 (ts 80 dt0 (0+zaD.toNat * 2+0) [(1000000000000:Int),(0:Int)]))
 (zpI w node t4t0 dt0))
def zpL (w:web) (node:Int) (P0:Int→Tab→Tab→Bool) (zaD:Int) (t4t0:Tab) (dt0:Tab):Bool :=
  (cond (decide (zaD < (40:Int)))
 (decide ((0≤zaD∧zaD < (40:Int))) &&
 (P0 (w64 (zaD+(1:Int))) t4t0 (ts 80 dt0 (0+zaD.toNat * 2+0) [(1000000000000:Int),(0:Int)])))
 (zpJ w node t4t0 dt0))
def zjR (w : web) (node : Int) : Nat → Int → Tab → Tab → Tab
  | 0=>fun _ _ _=>default
  | k+1=>zpK w node (zjR w node k)
def zjS (w : web) (node : Int) : Nat → Int → Tab → Tab → Bool
  | 0=>fun _ _ _=>false
  | k+1=>zpL w node (zjS w node k)
def zwg (w:web) (node:Int) (zaD:Int) (t4t0:Tab) (dt0:Tab):Tab:=zjR w node Fuel zaD t4t0 dt0
def zwh (w:web) (node:Int) (zaD:Int) (t4t0:Tab) (dt0:Tab):Bool:=zjS w node Fuel zaD t4t0 dt0
theorem zCl (K:List PA→Prop) (w:web) (node:Int) (zaD:Int) (t4t0:Tab) (dt0:Tab) (hs:zwh w node zaD t4t0 dt0=true) (hk:K (e75 (zwg w node zaD t4t0 dt0))):zjK K w node zaD t4t0 dt0:=by
  refine zwa K w node zaD t4t0 dt0 ?_
  intro X0 hstep
  have key:∀ (k:Nat) (zaD:Int) (t4t0:Tab) (dt0:Tab),zjS w node k zaD t4t0 dt0=true→K (e75 (zjR w node k zaD t4t0 dt0))→X0 (zjJ w node zaD t4t0 dt0):=by
    intro k
    induction k with
    | zero=>intro zaD t4t0 dt0 hs;exact absurd hs Bool.false_ne_true
    | succ k ih =>
      intro zaD t4t0 dt0 hs hk
      refine hstep zaD t4t0 dt0 ?_
      have hs:zpL w node (zjS w node k) zaD t4t0 dt0=true:=hs
      have hk:K (e75 (zpK w node (zjR w node k) zaD t4t0 dt0)):=hk
      unfold zpL at hs
      unfold zpK at hk
      generalize zjR w node k=S0 at hk ih
      generalize zjS w node k=P0 at hs ih
      have hX0:=ih
      exact (zaP (K := fun r => K (e75 r))
 (fun hs hk=>(za7 hs fun hc hs=>⟨hc,(hX0 (w64 (zaD+(1:Int))) t4t0 (ts 80 dt0 (0+zaD.toNat * 2+0) [(1000000000000:Int),(0:Int)]) hs hk)⟩))
 (fun hs hk=>(zCk K w node t4t0 dt0 hs hk)) hs hk)
  exact key _ zaD t4t0 dt0 hs hk
def s75 (w:web) (node:Int):Tab :=
  (zwg w node (0:Int) (fun _=>(0:Int)) (fun _=>(0:Int)))
def p75 (w:web) (node:Int):Bool :=
  (zwh w node (0:Int) (fun _=>(0:Int)) (fun _=>(0:Int)))
theorem q75 (w:web) (node:Int) (K:List PA→Prop) (hs:p75 w node=true) (hk:K (e75 (s75 w node))):vcFun Tryd.prog G75 zcc 75 [.one (.fp (zaw w) 0),.one (.int .i64 node)] K:=by
  refine zbh (zCg w node K) ?_
  unfold p75 at hs
  unfold s75 at hk
  exact (zCl K w node (0:Int) (fun _=>(0:Int)) (fun _=>(0:Int)) hs hk)
def zwi : List PA → COut
  | [.one (.fp [.int .i64 a0_Net_Nodes,.sl a0_Net_Ties_n a0_Net_Ties_s a0_Net_Ties_g,.fm a0_out_q a0_out_n a0_out_F] 0),.one (.int .i64 a1)]=>.det (IsE zaj 4 a0_Net_Ties_s a0_Net_Ties_g∧a0_out_q=(false,1,false,[none])∧p75 (⟨(⟨a0_Net_Nodes,(⟨a0_Net_Ties_n,zaa a0_Net_Ties_g⟩:(Sl Tie))⟩:Net),(⟨a0_out_n,a0_out_F⟩:Mp)⟩:web) a1=true) [.agg [.int .i64 ((s75 (⟨(⟨a0_Net_Nodes,(⟨a0_Net_Ties_n,zaa a0_Net_Ties_g⟩:(Sl Tie))⟩:Net),(⟨a0_out_n,a0_out_F⟩:Mp)⟩:web) a1) 0),.int .i64 ((s75 (⟨(⟨a0_Net_Nodes,(⟨a0_Net_Ties_n,zaa a0_Net_Ties_g⟩:(Sl Tie))⟩:Net),(⟨a0_out_n,a0_out_F⟩:Mp)⟩:web) a1) 1),.int .i64 ((s75 (⟨(⟨a0_Net_Nodes,(⟨a0_Net_Ties_n,zaa a0_Net_Ties_g⟩:(Sl Tie))⟩:Net),(⟨a0_out_n,a0_out_F⟩:Mp)⟩:web) a1) 2),.int .i64 ((s75 (⟨(⟨a0_Net_Nodes,(⟨a0_Net_Ties_n,zaa a0_Net_Ties_g⟩:(Sl Tie))⟩:Net),(⟨a0_out_n,a0_out_F⟩:Mp)⟩:web) a1) 3),.int .i64 ((s75 (⟨(⟨a0_Net_Nodes,(⟨a0_Net_Ties_n,zaa a0_Net_Ties_g⟩:(Sl Tie))⟩:Net),(⟨a0_out_n,a0_out_F⟩:Mp)⟩:web) a1) 4),.int .i64 ((s75 (⟨(⟨a0_Net_Nodes,(⟨a0_Net_Ties_n,zaa a0_Net_Ties_g⟩:(Sl Tie))⟩:Net),(⟨a0_out_n,a0_out_F⟩:Mp)⟩:web) a1) 5),.int .i64 ((s75 (⟨(⟨a0_Net_Nodes,(⟨a0_Net_Ties_n,zaa a0_Net_Ties_g⟩:(Sl Tie))⟩:Net),(⟨a0_out_n,a0_out_F⟩:Mp)⟩:web) a1) 6),.int .i64 ((s75 (⟨(⟨a0_Net_Nodes,(⟨a0_Net_Ties_n,zaa a0_Net_Ties_g⟩:(Sl Tie))⟩:Net),(⟨a0_out_n,a0_out_F⟩:Mp)⟩:web) a1) 7),.int .i64 ((s75 (⟨(⟨a0_Net_Nodes,(⟨a0_Net_Ties_n,zaa a0_Net_Ties_g⟩:(Sl Tie))⟩:Net),(⟨a0_out_n,a0_out_F⟩:Mp)⟩:web) a1) 8),.int .i64 ((s75 (⟨(⟨a0_Net_Nodes,(⟨a0_Net_Ties_n,zaa a0_Net_Ties_g⟩:(Sl Tie))⟩:Net),(⟨a0_out_n,a0_out_F⟩:Mp)⟩:web) a1) 9),.int .i64 ((s75 (⟨(⟨a0_Net_Nodes,(⟨a0_Net_Ties_n,zaa a0_Net_Ties_g⟩:(Sl Tie))⟩:Net),(⟨a0_out_n,a0_out_F⟩:Mp)⟩:web) a1) 10),.int .i64 ((s75 (⟨(⟨a0_Net_Nodes,(⟨a0_Net_Ties_n,zaa a0_Net_Ties_g⟩:(Sl Tie))⟩:Net),(⟨a0_out_n,a0_out_F⟩:Mp)⟩:web) a1) 11),.int .i64 ((s75 (⟨(⟨a0_Net_Nodes,(⟨a0_Net_Ties_n,zaa a0_Net_Ties_g⟩:(Sl Tie))⟩:Net),(⟨a0_out_n,a0_out_F⟩:Mp)⟩:web) a1) 12),.int .i64 ((s75 (⟨(⟨a0_Net_Nodes,(⟨a0_Net_Ties_n,zaa a0_Net_Ties_g⟩:(Sl Tie))⟩:Net),(⟨a0_out_n,a0_out_F⟩:Mp)⟩:web) a1) 13),.int .i64 ((s75 (⟨(⟨a0_Net_Nodes,(⟨a0_Net_Ties_n,zaa a0_Net_Ties_g⟩:(Sl Tie))⟩:Net),(⟨a0_out_n,a0_out_F⟩:Mp)⟩:web) a1) 14),.int .i64 ((s75 (⟨(⟨a0_Net_Nodes,(⟨a0_Net_Ties_n,zaa a0_Net_Ties_g⟩:(Sl Tie))⟩:Net),(⟨a0_out_n,a0_out_F⟩:Mp)⟩:web) a1) 15),.int .i64 ((s75 (⟨(⟨a0_Net_Nodes,(⟨a0_Net_Ties_n,zaa a0_Net_Ties_g⟩:(Sl Tie))⟩:Net),(⟨a0_out_n,a0_out_F⟩:Mp)⟩:web) a1) 16),.int .i64 ((s75 (⟨(⟨a0_Net_Nodes,(⟨a0_Net_Ties_n,zaa a0_Net_Ties_g⟩:(Sl Tie))⟩:Net),(⟨a0_out_n,a0_out_F⟩:Mp)⟩:web) a1) 17),.int .i64 ((s75 (⟨(⟨a0_Net_Nodes,(⟨a0_Net_Ties_n,zaa a0_Net_Ties_g⟩:(Sl Tie))⟩:Net),(⟨a0_out_n,a0_out_F⟩:Mp)⟩:web) a1) 18),.int .i64 ((s75 (⟨(⟨a0_Net_Nodes,(⟨a0_Net_Ties_n,zaa a0_Net_Ties_g⟩:(Sl Tie))⟩:Net),(⟨a0_out_n,a0_out_F⟩:Mp)⟩:web) a1) 19),.int .i64 ((s75 (⟨(⟨a0_Net_Nodes,(⟨a0_Net_Ties_n,zaa a0_Net_Ties_g⟩:(Sl Tie))⟩:Net),(⟨a0_out_n,a0_out_F⟩:Mp)⟩:web) a1) 20),.int .i64 ((s75 (⟨(⟨a0_Net_Nodes,(⟨a0_Net_Ties_n,zaa a0_Net_Ties_g⟩:(Sl Tie))⟩:Net),(⟨a0_out_n,a0_out_F⟩:Mp)⟩:web) a1) 21),.int .i64 ((s75 (⟨(⟨a0_Net_Nodes,(⟨a0_Net_Ties_n,zaa a0_Net_Ties_g⟩:(Sl Tie))⟩:Net),(⟨a0_out_n,a0_out_F⟩:Mp)⟩:web) a1) 22),.int .i64 ((s75 (⟨(⟨a0_Net_Nodes,(⟨a0_Net_Ties_n,zaa a0_Net_Ties_g⟩:(Sl Tie))⟩:Net),(⟨a0_out_n,a0_out_F⟩:Mp)⟩:web) a1) 23),.int .i64 ((s75 (⟨(⟨a0_Net_Nodes,(⟨a0_Net_Ties_n,zaa a0_Net_Ties_g⟩:(Sl Tie))⟩:Net),(⟨a0_out_n,a0_out_F⟩:Mp)⟩:web) a1) 24),.int .i64 ((s75 (⟨(⟨a0_Net_Nodes,(⟨a0_Net_Ties_n,zaa a0_Net_Ties_g⟩:(Sl Tie))⟩:Net),(⟨a0_out_n,a0_out_F⟩:Mp)⟩:web) a1) 25),.int .i64 ((s75 (⟨(⟨a0_Net_Nodes,(⟨a0_Net_Ties_n,zaa a0_Net_Ties_g⟩:(Sl Tie))⟩:Net),(⟨a0_out_n,a0_out_F⟩:Mp)⟩:web) a1) 26),.int .i64 ((s75 (⟨(⟨a0_Net_Nodes,(⟨a0_Net_Ties_n,zaa a0_Net_Ties_g⟩:(Sl Tie))⟩:Net),(⟨a0_out_n,a0_out_F⟩:Mp)⟩:web) a1) 27),.int .i64 ((s75 (⟨(⟨a0_Net_Nodes,(⟨a0_Net_Ties_n,zaa a0_Net_Ties_g⟩:(Sl Tie))⟩:Net),(⟨a0_out_n,a0_out_F⟩:Mp)⟩:web) a1) 28),.int .i64 ((s75 (⟨(⟨a0_Net_Nodes,(⟨a0_Net_Ties_n,zaa a0_Net_Ties_g⟩:(Sl Tie))⟩:Net),(⟨a0_out_n,a0_out_F⟩:Mp)⟩:web) a1) 29),.int .i64 ((s75 (⟨(⟨a0_Net_Nodes,(⟨a0_Net_Ties_n,zaa a0_Net_Ties_g⟩:(Sl Tie))⟩:Net),(⟨a0_out_n,a0_out_F⟩:Mp)⟩:web) a1) 30),.int .i64 ((s75 (⟨(⟨a0_Net_Nodes,(⟨a0_Net_Ties_n,zaa a0_Net_Ties_g⟩:(Sl Tie))⟩:Net),(⟨a0_out_n,a0_out_F⟩:Mp)⟩:web) a1) 31),.int .i64 ((s75 (⟨(⟨a0_Net_Nodes,(⟨a0_Net_Ties_n,zaa a0_Net_Ties_g⟩:(Sl Tie))⟩:Net),(⟨a0_out_n,a0_out_F⟩:Mp)⟩:web) a1) 32),.int .i64 ((s75 (⟨(⟨a0_Net_Nodes,(⟨a0_Net_Ties_n,zaa a0_Net_Ties_g⟩:(Sl Tie))⟩:Net),(⟨a0_out_n,a0_out_F⟩:Mp)⟩:web) a1) 33),.int .i64 ((s75 (⟨(⟨a0_Net_Nodes,(⟨a0_Net_Ties_n,zaa a0_Net_Ties_g⟩:(Sl Tie))⟩:Net),(⟨a0_out_n,a0_out_F⟩:Mp)⟩:web) a1) 34),.int .i64 ((s75 (⟨(⟨a0_Net_Nodes,(⟨a0_Net_Ties_n,zaa a0_Net_Ties_g⟩:(Sl Tie))⟩:Net),(⟨a0_out_n,a0_out_F⟩:Mp)⟩:web) a1) 35),.int .i64 ((s75 (⟨(⟨a0_Net_Nodes,(⟨a0_Net_Ties_n,zaa a0_Net_Ties_g⟩:(Sl Tie))⟩:Net),(⟨a0_out_n,a0_out_F⟩:Mp)⟩:web) a1) 36),.int .i64 ((s75 (⟨(⟨a0_Net_Nodes,(⟨a0_Net_Ties_n,zaa a0_Net_Ties_g⟩:(Sl Tie))⟩:Net),(⟨a0_out_n,a0_out_F⟩:Mp)⟩:web) a1) 37),.int .i64 ((s75 (⟨(⟨a0_Net_Nodes,(⟨a0_Net_Ties_n,zaa a0_Net_Ties_g⟩:(Sl Tie))⟩:Net),(⟨a0_out_n,a0_out_F⟩:Mp)⟩:web) a1) 38),.int .i64 ((s75 (⟨(⟨a0_Net_Nodes,(⟨a0_Net_Ties_n,zaa a0_Net_Ties_g⟩:(Sl Tie))⟩:Net),(⟨a0_out_n,a0_out_F⟩:Mp)⟩:web) a1) 39),.int .i64 ((s75 (⟨(⟨a0_Net_Nodes,(⟨a0_Net_Ties_n,zaa a0_Net_Ties_g⟩:(Sl Tie))⟩:Net),(⟨a0_out_n,a0_out_F⟩:Mp)⟩:web) a1) 40),.int .i64 ((s75 (⟨(⟨a0_Net_Nodes,(⟨a0_Net_Ties_n,zaa a0_Net_Ties_g⟩:(Sl Tie))⟩:Net),(⟨a0_out_n,a0_out_F⟩:Mp)⟩:web) a1) 41),.int .i64 ((s75 (⟨(⟨a0_Net_Nodes,(⟨a0_Net_Ties_n,zaa a0_Net_Ties_g⟩:(Sl Tie))⟩:Net),(⟨a0_out_n,a0_out_F⟩:Mp)⟩:web) a1) 42),.int .i64 ((s75 (⟨(⟨a0_Net_Nodes,(⟨a0_Net_Ties_n,zaa a0_Net_Ties_g⟩:(Sl Tie))⟩:Net),(⟨a0_out_n,a0_out_F⟩:Mp)⟩:web) a1) 43),.int .i64 ((s75 (⟨(⟨a0_Net_Nodes,(⟨a0_Net_Ties_n,zaa a0_Net_Ties_g⟩:(Sl Tie))⟩:Net),(⟨a0_out_n,a0_out_F⟩:Mp)⟩:web) a1) 44),.int .i64 ((s75 (⟨(⟨a0_Net_Nodes,(⟨a0_Net_Ties_n,zaa a0_Net_Ties_g⟩:(Sl Tie))⟩:Net),(⟨a0_out_n,a0_out_F⟩:Mp)⟩:web) a1) 45),.int .i64 ((s75 (⟨(⟨a0_Net_Nodes,(⟨a0_Net_Ties_n,zaa a0_Net_Ties_g⟩:(Sl Tie))⟩:Net),(⟨a0_out_n,a0_out_F⟩:Mp)⟩:web) a1) 46),.int .i64 ((s75 (⟨(⟨a0_Net_Nodes,(⟨a0_Net_Ties_n,zaa a0_Net_Ties_g⟩:(Sl Tie))⟩:Net),(⟨a0_out_n,a0_out_F⟩:Mp)⟩:web) a1) 47),.int .i64 ((s75 (⟨(⟨a0_Net_Nodes,(⟨a0_Net_Ties_n,zaa a0_Net_Ties_g⟩:(Sl Tie))⟩:Net),(⟨a0_out_n,a0_out_F⟩:Mp)⟩:web) a1) 48),.int .i64 ((s75 (⟨(⟨a0_Net_Nodes,(⟨a0_Net_Ties_n,zaa a0_Net_Ties_g⟩:(Sl Tie))⟩:Net),(⟨a0_out_n,a0_out_F⟩:Mp)⟩:web) a1) 49),.int .i64 ((s75 (⟨(⟨a0_Net_Nodes,(⟨a0_Net_Ties_n,zaa a0_Net_Ties_g⟩:(Sl Tie))⟩:Net),(⟨a0_out_n,a0_out_F⟩:Mp)⟩:web) a1) 50),.int .i64 ((s75 (⟨(⟨a0_Net_Nodes,(⟨a0_Net_Ties_n,zaa a0_Net_Ties_g⟩:(Sl Tie))⟩:Net),(⟨a0_out_n,a0_out_F⟩:Mp)⟩:web) a1) 51),.int .i64 ((s75 (⟨(⟨a0_Net_Nodes,(⟨a0_Net_Ties_n,zaa a0_Net_Ties_g⟩:(Sl Tie))⟩:Net),(⟨a0_out_n,a0_out_F⟩:Mp)⟩:web) a1) 52),.int .i64 ((s75 (⟨(⟨a0_Net_Nodes,(⟨a0_Net_Ties_n,zaa a0_Net_Ties_g⟩:(Sl Tie))⟩:Net),(⟨a0_out_n,a0_out_F⟩:Mp)⟩:web) a1) 53),.int .i64 ((s75 (⟨(⟨a0_Net_Nodes,(⟨a0_Net_Ties_n,zaa a0_Net_Ties_g⟩:(Sl Tie))⟩:Net),(⟨a0_out_n,a0_out_F⟩:Mp)⟩:web) a1) 54),.int .i64 ((s75 (⟨(⟨a0_Net_Nodes,(⟨a0_Net_Ties_n,zaa a0_Net_Ties_g⟩:(Sl Tie))⟩:Net),(⟨a0_out_n,a0_out_F⟩:Mp)⟩:web) a1) 55),.int .i64 ((s75 (⟨(⟨a0_Net_Nodes,(⟨a0_Net_Ties_n,zaa a0_Net_Ties_g⟩:(Sl Tie))⟩:Net),(⟨a0_out_n,a0_out_F⟩:Mp)⟩:web) a1) 56),.int .i64 ((s75 (⟨(⟨a0_Net_Nodes,(⟨a0_Net_Ties_n,zaa a0_Net_Ties_g⟩:(Sl Tie))⟩:Net),(⟨a0_out_n,a0_out_F⟩:Mp)⟩:web) a1) 57),.int .i64 ((s75 (⟨(⟨a0_Net_Nodes,(⟨a0_Net_Ties_n,zaa a0_Net_Ties_g⟩:(Sl Tie))⟩:Net),(⟨a0_out_n,a0_out_F⟩:Mp)⟩:web) a1) 58),.int .i64 ((s75 (⟨(⟨a0_Net_Nodes,(⟨a0_Net_Ties_n,zaa a0_Net_Ties_g⟩:(Sl Tie))⟩:Net),(⟨a0_out_n,a0_out_F⟩:Mp)⟩:web) a1) 59),.int .i64 ((s75 (⟨(⟨a0_Net_Nodes,(⟨a0_Net_Ties_n,zaa a0_Net_Ties_g⟩:(Sl Tie))⟩:Net),(⟨a0_out_n,a0_out_F⟩:Mp)⟩:web) a1) 60),.int .i64 ((s75 (⟨(⟨a0_Net_Nodes,(⟨a0_Net_Ties_n,zaa a0_Net_Ties_g⟩:(Sl Tie))⟩:Net),(⟨a0_out_n,a0_out_F⟩:Mp)⟩:web) a1) 61),.int .i64 ((s75 (⟨(⟨a0_Net_Nodes,(⟨a0_Net_Ties_n,zaa a0_Net_Ties_g⟩:(Sl Tie))⟩:Net),(⟨a0_out_n,a0_out_F⟩:Mp)⟩:web) a1) 62),.int .i64 ((s75 (⟨(⟨a0_Net_Nodes,(⟨a0_Net_Ties_n,zaa a0_Net_Ties_g⟩:(Sl Tie))⟩:Net),(⟨a0_out_n,a0_out_F⟩:Mp)⟩:web) a1) 63),.int .i64 ((s75 (⟨(⟨a0_Net_Nodes,(⟨a0_Net_Ties_n,zaa a0_Net_Ties_g⟩:(Sl Tie))⟩:Net),(⟨a0_out_n,a0_out_F⟩:Mp)⟩:web) a1) 64),.int .i64 ((s75 (⟨(⟨a0_Net_Nodes,(⟨a0_Net_Ties_n,zaa a0_Net_Ties_g⟩:(Sl Tie))⟩:Net),(⟨a0_out_n,a0_out_F⟩:Mp)⟩:web) a1) 65),.int .i64 ((s75 (⟨(⟨a0_Net_Nodes,(⟨a0_Net_Ties_n,zaa a0_Net_Ties_g⟩:(Sl Tie))⟩:Net),(⟨a0_out_n,a0_out_F⟩:Mp)⟩:web) a1) 66),.int .i64 ((s75 (⟨(⟨a0_Net_Nodes,(⟨a0_Net_Ties_n,zaa a0_Net_Ties_g⟩:(Sl Tie))⟩:Net),(⟨a0_out_n,a0_out_F⟩:Mp)⟩:web) a1) 67),.int .i64 ((s75 (⟨(⟨a0_Net_Nodes,(⟨a0_Net_Ties_n,zaa a0_Net_Ties_g⟩:(Sl Tie))⟩:Net),(⟨a0_out_n,a0_out_F⟩:Mp)⟩:web) a1) 68),.int .i64 ((s75 (⟨(⟨a0_Net_Nodes,(⟨a0_Net_Ties_n,zaa a0_Net_Ties_g⟩:(Sl Tie))⟩:Net),(⟨a0_out_n,a0_out_F⟩:Mp)⟩:web) a1) 69),.int .i64 ((s75 (⟨(⟨a0_Net_Nodes,(⟨a0_Net_Ties_n,zaa a0_Net_Ties_g⟩:(Sl Tie))⟩:Net),(⟨a0_out_n,a0_out_F⟩:Mp)⟩:web) a1) 70),.int .i64 ((s75 (⟨(⟨a0_Net_Nodes,(⟨a0_Net_Ties_n,zaa a0_Net_Ties_g⟩:(Sl Tie))⟩:Net),(⟨a0_out_n,a0_out_F⟩:Mp)⟩:web) a1) 71),.int .i64 ((s75 (⟨(⟨a0_Net_Nodes,(⟨a0_Net_Ties_n,zaa a0_Net_Ties_g⟩:(Sl Tie))⟩:Net),(⟨a0_out_n,a0_out_F⟩:Mp)⟩:web) a1) 72),.int .i64 ((s75 (⟨(⟨a0_Net_Nodes,(⟨a0_Net_Ties_n,zaa a0_Net_Ties_g⟩:(Sl Tie))⟩:Net),(⟨a0_out_n,a0_out_F⟩:Mp)⟩:web) a1) 73),.int .i64 ((s75 (⟨(⟨a0_Net_Nodes,(⟨a0_Net_Ties_n,zaa a0_Net_Ties_g⟩:(Sl Tie))⟩:Net),(⟨a0_out_n,a0_out_F⟩:Mp)⟩:web) a1) 74),.int .i64 ((s75 (⟨(⟨a0_Net_Nodes,(⟨a0_Net_Ties_n,zaa a0_Net_Ties_g⟩:(Sl Tie))⟩:Net),(⟨a0_out_n,a0_out_F⟩:Mp)⟩:web) a1) 75),.int .i64 ((s75 (⟨(⟨a0_Net_Nodes,(⟨a0_Net_Ties_n,zaa a0_Net_Ties_g⟩:(Sl Tie))⟩:Net),(⟨a0_out_n,a0_out_F⟩:Mp)⟩:web) a1) 76),.int .i64 ((s75 (⟨(⟨a0_Net_Nodes,(⟨a0_Net_Ties_n,zaa a0_Net_Ties_g⟩:(Sl Tie))⟩:Net),(⟨a0_out_n,a0_out_F⟩:Mp)⟩:web) a1) 77),.int .i64 ((s75 (⟨(⟨a0_Net_Nodes,(⟨a0_Net_Ties_n,zaa a0_Net_Ties_g⟩:(Sl Tie))⟩:Net),(⟨a0_out_n,a0_out_F⟩:Mp)⟩:web) a1) 78),.int .i64 ((s75 (⟨(⟨a0_Net_Nodes,(⟨a0_Net_Ties_n,zaa a0_Net_Ties_g⟩:(Sl Tie))⟩:Net),(⟨a0_out_n,a0_out_F⟩:Mp)⟩:web) a1) 79)]]
  | _=>.no
theorem zFi:zas Tryd.prog 75:=⟨_,rfl,rfl,by kernel_rfl⟩
theorem zG3:Ok Tryd.prog 75 zwi:=zbJ zG2 zFi fun args K h=>by
  unfold zwi at h
  split at h
  · rename_i a0_Net_Nodes a0_Net_Ties_n a0_Net_Ties_s a0_Net_Ties_g a0_out_q a0_out_n a0_out_F a1
    obtain ⟨⟨⟨rfl,a0_Net_Ties_f,rfl⟩,rfl,hs⟩,hk⟩:=h
    try rw [zar a0_Net_Ties_f] at hs
    try rw [zar a0_Net_Ties_f] at hk
    exact ⟨(fun _ _=>[]),(fun _=>false),zcc,q75 (⟨(⟨a0_Net_Nodes,(⟨a0_Net_Ties_n,a0_Net_Ties_f⟩:(Sl Tie))⟩:Net),(⟨a0_out_n,a0_out_F⟩:Mp)⟩:web) a1 K hs hk⟩
  · exact h.elim
abbrev T76:Tabs:=(((Tabs.nil.addF 93 znc).addF 104 zni).addI 110 zne)
theorem zG4:TabsOk Tryd.prog T76:=(((TabsOk.nil.addF zDJ).addF zBr).addI zsw)
abbrev G76:Ctrs:=csm T76 (fun _ _=>[]) (fun _=>false)
def zcd:Ann:=⟨66,[(0,⟨[0,1,4],[4],[],[],[],[],[]⟩),(1,⟨[0,1,4,5],[4,5],[],[],[],[],[]⟩),(2,⟨[0,1,4,5,10],[4,5],[],[],[],[],[]⟩),(3,⟨[0,1,4,5,10,11],[4,5],[],[],[],[],[]⟩),(4,⟨[0,1,4,5,6,10],[4,5],[],[],[],[],[]⟩),(5,⟨[0,1,4,5,10],[4,5],[],[],[],[],[]⟩),(6,⟨[0,1,4,5,10],[4,5],[],[],[],[],[]⟩),(7,⟨[0,4,5],[4,5],[],[],[],[],[]⟩),(8,⟨[0,4,5,7],[4,5,7],[],[],[],[],[]⟩),(9,⟨[0,4,5,7,20],[4,5,7],[],[],[],[],[]⟩),(10,⟨[0,4,5,7],[4,5,7],[],[],[],[],[]⟩),(11,⟨[0,4,5,7,22],[4,5,7],[],[],[],[],[]⟩),(12,⟨[0,4,5,7,8,22],[4,5,7,8],[],[],[],[],[]⟩),(13,⟨[0,4,5,7,8,22,29],[4,5,7,8],[],[],[],[],[]⟩),(14,⟨[0,4,5,7,8,9,22],[4,5,7,8,9],[],[],[],[],[]⟩),(15,⟨[0,4,5,7,8,9,22],[4,5,7,8,9],[],[],[],[],[]⟩),(16,⟨[0,4,5,7,22],[4,5,7],[],[],[],[],[]⟩),(17,⟨[0,4,5,64],[4,5],[],[],[],[],[]⟩),(18,⟨[0,4,5,7],[4,5,7],[],[],[],[],[]⟩),(19,⟨[4],[4],[],[],[],[],[]⟩)],
 [(3,⟨[0,1,4,5,10],[4,5],[],[],[],[],[]⟩),(9,⟨[0,4,5,7],[4,5,7],[],[],[],[],[]⟩),(12,⟨[0,4,5,7,22],[4,5,7],[],[],[],[],[]⟩)],
 [(7,⟨[0,1,4,5],[4,5],[],[],[],[],[]⟩)],
 [],[]⟩
def zjT (w:web) (node:Int) (zaD:Int) (t4t0:Tab) (dt0:Tab):St:=⟨[(0,.one (.c (.p (.fp (zaw w) 0)))),(1,.one (.c (.p (.int .i64 node)))),(4,.one (.c (.ptr 4 0))),(5,.one (.c (.ptr 5 0))),(10,.one (.c (.p (.int .i64 zaD))))],[(4,.box 116 (zm (zad t4t0))),(5,.box 116 (zm (zad dt0)))],[]⟩
def zjU (K:List PA→Prop) (w:web) (node:Int) (zaD:Int) (t4t0:Tab) (dt0:Tab):Prop:=vc Tryd.prog G76 zcd (cdF Tryd.f76 [1,1,0,1,0]) (zak 0 (sqK Tryd.prog G76 zcd (cdF Tryd.f76 [1,1,1]) (zba Tryd.prog Tryd.f76 K))) (zjT w node zaD t4t0 dt0)
def zFj (w:web) (node:Int) (t4t1:Tab) (dt1:Tab):St:=⟨[(0,.one (.c (.p (.fp (zaw w) 0)))),(1,.one (.c (.p (.int .i64 node)))),(4,.one (.c (.ptr 4 0))),(5,.one (.c (.ptr 5 0)))],[(4,.box 116 (zm (zad t4t1))),(5,.box 116 (zm (zad dt1)))],[]⟩
def zmh (K:List PA→Prop) (w:web) (node:Int) (t4t1:Tab) (dt1:Tab):Prop:=vc Tryd.prog G76 zcd (cdF Tryd.f76 [1,1,1]) (zba Tryd.prog Tryd.f76 K) (zFj w node t4t1 dt1)
def zhL (w:web) (zah:Bool) (t4t2:Tab) (dt2:Tab):St:=⟨[(0,.one (.c (.p (.fp (zaw w) 0)))),(4,.one (.c (.ptr 4 0))),(5,.one (.c (.ptr 5 0))),(7,.one (.c (.ptr 7 0)))],[(4,.box 116 (zm (zad t4t2))),(5,.box 116 (zm (zad dt2))),(7,.box 4 [.p (.bool zah)])],[]⟩
def zjV (K:List PA→Prop) (w:web) (zah:Bool) (t4t2:Tab) (dt2:Tab):Prop:=vc Tryd.prog G76 zcd (cdF Tryd.f76 [1,1,1,1,0,1,0]) (zak 2 (sqK Tryd.prog G76 zcd (cdF Tryd.f76 [1,1,1,1,1]) (zba Tryd.prog Tryd.f76 K))) (zhL w zah t4t2 dt2)
def zfe (w:web) (zac:Bool) (t4t3:Tab) (dt3:Tab):St:=⟨[(0,.one (.c (.p (.fp (zaw w) 0)))),(4,.one (.c (.ptr 4 0))),(5,.one (.c (.ptr 5 0))),(7,.one (.c (.ptr 7 0))),(22,.one (.c (.p (.fn 110 [] [.fp [.fp (zaw w) 0] 0]))))],[(4,.box 116 (zm (zad t4t3))),(5,.box 116 (zm (zad dt3))),(7,.box 4 [.p (.bool zac)])],[]⟩
def zjW (K:List PA→Prop) (X2:St→Prop) (w:web) (zac:Bool) (t4t3:Tab) (dt3:Tab):Prop:=vc Tryd.prog G76 zcd (cdF Tryd.f76 [1,1,1,1,0,1,0,0,1,0,0,1,1,0]) (zak 4 (zak 3 (sqK Tryd.prog G76 zcd (cdF Tryd.f76 [1,1,1,1,0,1,0,0,1,1]) (zbb Tryd.prog zcd 9 X2 (zak 2 (sqK Tryd.prog G76 zcd (cdF Tryd.f76 [1,1,1,1,1]) (zba Tryd.prog Tryd.f76 K))))))) (zfe w zac t4t3 dt3)
theorem zCm (w : web) (node : Int) (K : List PA → Prop) :
  vcFun Tryd.prog G76 zcd 76 [.one (.fp (zaw w) 0),.one (.int .i64 node)] K =
  (zjU K w node (0:Int) (fun _=>(0:Int)) (fun _=>(0:Int))):=by kernel_rfl
def znK (K:List PA→Prop) (X0:St→Prop) (w:web) (node:Int) (zaD:Int) (t4t0:Tab) (dt0:Tab):Prop :=
  (zbA (decide (zaD < (40:Int)))
 (((0≤zaD∧zaD < (40:Int))) ∧
 (X0 (zjT w node (w64 (zaD+(1:Int))) t4t0 (ts 80 dt0 (0+zaD.toNat * 2+0) [(1000000000000:Int),(0:Int)]))))
 (zmh K w node t4t0 dt0))
theorem zpM (K : List PA → Prop) (X0 : St → Prop) (w : web) (node : Int) (zaD : Int) (t4t0 : Tab) (dt0 : Tab) :
  vc Tryd.prog G76 zcd (cd (cdF Tryd.f76 [1,1,0,1,0]) [0]) (zbb Tryd.prog zcd 3 X0 (zak 0 (sqK Tryd.prog G76 zcd (cdF Tryd.f76 [1,1,1]) (zba Tryd.prog Tryd.f76 K)))) (zjT w node zaD t4t0 dt0) =
  znK K X0 w node zaD t4t0 dt0:=by kernel_rfl
theorem zwj (K : List PA → Prop) (w : web) (node : Int) (zaD : Int) (t4t0 : Tab) (dt0 : Tab)
  (h:∀ X0:St→Prop,(∀ (zaD:Int) (t4t0:Tab) (dt0:Tab),znK K X0 w node zaD t4t0 dt0→X0 (zjT w node zaD t4t0 dt0))→X0 (zjT w node zaD t4t0 dt0)) :
  zjU K w node zaD t4t0 dt0:=by
  have e:zjU K w node zaD t4t0 dt0=(∀ X:St→Prop,(∀ s,vc Tryd.prog G76 zcd (cd (cdF Tryd.f76 [1,1,0,1,0]) [0]) (zbb Tryd.prog zcd 3 X (zak 0 (sqK Tryd.prog G76 zcd (cdF Tryd.f76 [1,1,1]) (zba Tryd.prog Tryd.f76 K)))) s→X s)→X (zjT w node zaD t4t0 dt0)):=by kernel_rfl
  refine zbh e ?_
  intro X hX
  refine h X ?_
  intro zaD t4t0 dt0 hs
  refine hX _ ?_
  have e2:=zpM K X w node zaD t4t0 dt0
  rw [e2]
  exact hs
theorem zCn (K : List PA → Prop) (w : web) (node : Int) (t4t1 : Tab) (dt1 : Tab) :
  zmh K w node t4t1 dt1 =
  (((0≤node∧node < (40:Int))) ∧
 (zjV K w true t4t1 (ts 80 dt1 (0+node.toNat * 2+0) [(0:Int),(0:Int)]))):=by kernel_rfl
def znL (K:List PA→Prop) (X2:St→Prop) (w:web) (zah:Bool) (t4t2:Tab) (dt2:Tab):Prop :=
  (zbA zah
 ((IsE zaj 4 4 (fun i=>zaj (w.Net.Ties.get i))∧((false,1,false,[none]):MQ)=(false,1,false,[none])) ∧
 (zjW K X2 w false t4t2 dt2))
 (K [.agg [.int .i64 (dt2 0),.int .i64 (dt2 1),.int .i64 (dt2 2),.int .i64 (dt2 3),.int .i64 (dt2 4),.int .i64 (dt2 5),.int .i64 (dt2 6),.int .i64 (dt2 7),.int .i64 (dt2 8),.int .i64 (dt2 9),.int .i64 (dt2 10),.int .i64 (dt2 11),.int .i64 (dt2 12),.int .i64 (dt2 13),.int .i64 (dt2 14),.int .i64 (dt2 15),.int .i64 (dt2 16),.int .i64 (dt2 17),.int .i64 (dt2 18),.int .i64 (dt2 19),.int .i64 (dt2 20),.int .i64 (dt2 21),.int .i64 (dt2 22),.int .i64 (dt2 23),.int .i64 (dt2 24),.int .i64 (dt2 25),.int .i64 (dt2 26),.int .i64 (dt2 27),.int .i64 (dt2 28),.int .i64 (dt2 29),.int .i64 (dt2 30),.int .i64 (dt2 31),.int .i64 (dt2 32),.int .i64 (dt2 33),.int .i64 (dt2 34),.int .i64 (dt2 35),.int .i64 (dt2 36),.int .i64 (dt2 37),.int .i64 (dt2 38),.int .i64 (dt2 39),.int .i64 (dt2 40),.int .i64 (dt2 41),.int .i64 (dt2 42),.int .i64 (dt2 43),.int .i64 (dt2 44),.int .i64 (dt2 45),.int .i64 (dt2 46),.int .i64 (dt2 47),.int .i64 (dt2 48),.int .i64 (dt2 49),.int .i64 (dt2 50),.int .i64 (dt2 51),.int .i64 (dt2 52),.int .i64 (dt2 53),.int .i64 (dt2 54),.int .i64 (dt2 55),.int .i64 (dt2 56),.int .i64 (dt2 57),.int .i64 (dt2 58),.int .i64 (dt2 59),.int .i64 (dt2 60),.int .i64 (dt2 61),.int .i64 (dt2 62),.int .i64 (dt2 63),.int .i64 (dt2 64),.int .i64 (dt2 65),.int .i64 (dt2 66),.int .i64 (dt2 67),.int .i64 (dt2 68),.int .i64 (dt2 69),.int .i64 (dt2 70),.int .i64 (dt2 71),.int .i64 (dt2 72),.int .i64 (dt2 73),.int .i64 (dt2 74),.int .i64 (dt2 75),.int .i64 (dt2 76),.int .i64 (dt2 77),.int .i64 (dt2 78),.int .i64 (dt2 79)]]))
theorem zpN (K : List PA → Prop) (X2 : St → Prop) (w : web) (zah : Bool) (t4t2 : Tab) (dt2 : Tab) :
  vc Tryd.prog G76 zcd (cd (cdF Tryd.f76 [1,1,1,1,0,1,0]) [0]) (zbb Tryd.prog zcd 9 X2 (zak 2 (sqK Tryd.prog G76 zcd (cdF Tryd.f76 [1,1,1,1,1]) (zba Tryd.prog Tryd.f76 K)))) (zhL w zah t4t2 dt2) =
  znL K X2 w zah t4t2 dt2:=by kernel_rfl
theorem zwk (K : List PA → Prop) (w : web) (zah : Bool) (t4t2 : Tab) (dt2 : Tab)
  (h:∀ X2:St→Prop,(∀ (zah:Bool) (t4t2:Tab) (dt2:Tab),znL K X2 w zah t4t2 dt2→X2 (zhL w zah t4t2 dt2))→X2 (zhL w zah t4t2 dt2)) :
  zjV K w zah t4t2 dt2:=by
  have e:zjV K w zah t4t2 dt2=(∀ X:St→Prop,(∀ s,vc Tryd.prog G76 zcd (cd (cdF Tryd.f76 [1,1,1,1,0,1,0]) [0]) (zbb Tryd.prog zcd 9 X (zak 2 (sqK Tryd.prog G76 zcd (cdF Tryd.f76 [1,1,1,1,1]) (zba Tryd.prog Tryd.f76 K)))) s→X s)→X (zhL w zah t4t2 dt2)):=by kernel_rfl
  refine zbh e ?_
  intro X hX
  refine h X ?_
  intro zah t4t2 dt2 hs
  refine hX _ ?_
  have e2:=zpN K X w zah t4t2 dt2
  rw [e2]
  exact hs
def znM (K:List PA→Prop) (X2:St→Prop) (w:web) (zac:Bool) (t4t3:Tab) (dt3:Tab):Prop :=
  (X2 (zhL w zac t4t3 dt3))
def znN (K:List PA→Prop) (X2:St→Prop) (X3:List (List PA)→St→Prop) (y3:step) (rest3:List (List PA)) (w:web) (zac:Bool) (t4t3:Tab) (dt3:Tab):Prop :=
  (((0≤y3.from_∧y3.from_ < (40:Int))) ∧
 (zbA (match ((tg 80 dt3 (0 + y3.from_.toNat * 2 + 0)) == (1000000000000:Int)) with | true => (match ((tg 80 dt3 (0 + y3.from_.toNat * 2 + 0 + 1)) == (0:Int)) with | true => true | false => false) | false => false)
 (X3 rest3 (zfe w zac t4t3 dt3))
 (((0≤y3.to∧y3.to < (40:Int))) ∧
 (((0≤y3.from_∧y3.from_ < (40:Int))) ∧
 (((0≤y3.from_∧y3.from_ < (40:Int))) ∧
 ((IsE zb9 2 2 (fun _=>(zb9 (⟨(w64 ((tg 80 dt3 (0+y3.from_.toNat * 2+0))+y3.length)),(w64 ((tg 80 dt3 (0+y3.from_.toNat * 2+1))+(1:Int)))⟩:far)))∧(zz2 (⟨(tg 80 dt3 (0+y3.to.toNat * 2+0)),(tg 80 dt3 (0+y3.to.toNat * 2+0+1))⟩:far) (⟨1,fun _=>(⟨(w64 ((tg 80 dt3 (0+y3.from_.toNat * 2+0))+y3.length)),(w64 ((tg 80 dt3 (0+y3.from_.toNat * 2+1))+(1:Int)))⟩:far)⟩:(Sl far))=true)) ∧
 (zbA zac
 (((0≤y3.to∧y3.to < (40:Int))) ∧
 (X3 rest3 (zfe w true t4t3 (ts 80 dt3 (0+y3.to.toNat * 2+0) [(zcz (⟨(tg 80 dt3 (0+y3.to.toNat * 2+0)),(tg 80 dt3 (0+y3.to.toNat * 2+0+1))⟩:far) (⟨1,fun _=>(⟨(w64 ((tg 80 dt3 (0+y3.from_.toNat * 2+0))+y3.length)),(w64 ((tg 80 dt3 (0+y3.from_.toNat * 2+1))+(1:Int)))⟩:far)⟩:(Sl far))).length,(zcz (⟨(tg 80 dt3 (0+y3.to.toNat * 2+0)),(tg 80 dt3 (0+y3.to.toNat * 2+0+1))⟩:far) (⟨1,fun _=>(⟨(w64 ((tg 80 dt3 (0+y3.from_.toNat * 2+0))+y3.length)),(w64 ((tg 80 dt3 (0+y3.from_.toNat * 2+1))+(1:Int)))⟩:far)⟩:(Sl far))).uses]))))
 (((0≤y3.to∧y3.to < (40:Int))) ∧
 (((0≤y3.to∧y3.to < (40:Int))) ∧
 (X3 rest3 (zfe w (!(match ((zcz (⟨(tg 80 dt3 (0+y3.to.toNat * 2+0)),(tg 80 dt3 (0+y3.to.toNat * 2+0+1))⟩:far) (⟨1,fun _=>(⟨(w64 ((tg 80 dt3 (0+y3.from_.toNat * 2+0))+y3.length)),(w64 ((tg 80 dt3 (0+y3.from_.toNat * 2+1))+(1:Int)))⟩:far)⟩:(Sl far))).length == (tg 80 dt3 (0+y3.to.toNat * 2+0))) with | true=>(match ((zcz (⟨(tg 80 dt3 (0+y3.to.toNat * 2+0)),(tg 80 dt3 (0+y3.to.toNat * 2+0+1))⟩:far) (⟨1,fun _=>(⟨(w64 ((tg 80 dt3 (0+y3.from_.toNat * 2+0))+y3.length)),(w64 ((tg 80 dt3 (0+y3.from_.toNat * 2+1))+(1:Int)))⟩:far)⟩:(Sl far))).uses == (tg 80 dt3 (0+y3.to.toNat * 2+0+1))) with | true=>true | false=>false) | false=>false)) t4t3 (ts 80 dt3 (0+y3.to.toNat * 2+0) [(zcz (⟨(tg 80 dt3 (0+y3.to.toNat * 2+0)),(tg 80 dt3 (0+y3.to.toNat * 2+0+1))⟩:far) (⟨1,fun _=>(⟨(w64 ((tg 80 dt3 (0+y3.from_.toNat * 2+0))+y3.length)),(w64 ((tg 80 dt3 (0+y3.from_.toNat * 2+1))+(1:Int)))⟩:far)⟩:(Sl far))).length,(zcz (⟨(tg 80 dt3 (0+y3.to.toNat * 2+0)),(tg 80 dt3 (0+y3.to.toNat * 2+0+1))⟩:far) (⟨1,fun _=>(⟨(w64 ((tg 80 dt3 (0+y3.from_.toNat * 2+0))+y3.length)),(w64 ((tg 80 dt3 (0+y3.from_.toNat * 2+1))+(1:Int)))⟩:far)⟩:(Sl far))).uses]))))))))))))
theorem zpO (K:List PA→Prop) (X2:St→Prop) (w:web) (zac:Bool) (t4t3:Tab) (dt3:Tab):(zak 4 (zak 3 (sqK Tryd.prog G76 zcd (cdF Tryd.f76 [1,1,1,1,0,1,0,0,1,1]) (zbb Tryd.prog zcd 9 X2 (zak 2 (sqK Tryd.prog G76 zcd (cdF Tryd.f76 [1,1,1,1,1]) (zba Tryd.prog Tryd.f76 K))))))) .normal (zfe w zac t4t3 dt3)=znM K X2 w zac t4t3 dt3:=by kernel_rfl
theorem zpP (K : List PA → Prop) (X2 : St → Prop) (X3 : List (List PA) → St → Prop) (y3 : step) (rest3 : List (List PA)) (w : web) (zac : Bool) (t4t3 : Tab) (dt3 : Tab) :
  zsL Tryd.prog G76 zcd 12 [23] (cd (cdF Tryd.f76 [1,1,1,1,0,1,0,0,1,0,0,1,1,0]) [0]) (cd (cdF Tryd.f76 [1,1,1,1,0,1,0,0,1,0,0,1,1,0]) [1]) X3 (zak 4 (zak 3 (sqK Tryd.prog G76 zcd (cdF Tryd.f76 [1,1,1,1,0,1,0,0,1,1]) (zbb Tryd.prog zcd 9 X2 (zak 2 (sqK Tryd.prog G76 zcd (cdF Tryd.f76 [1,1,1,1,1]) (zba Tryd.prog Tryd.f76 K))))))) [.agg (zae y3)] rest3 (zfe w zac t4t3 dt3)=znN K X2 X3 y3 rest3 w zac t4t3 dt3:=by kernel_rfl
theorem zwl (K : List PA → Prop) (X2 : St → Prop) (w : web) (zac : Bool) (t4t3 : Tab) (dt3 : Tab)
  (hsafe:IsE zaj 4 4 (fun i=>zaj (w.Net.Ties.get i))∧((false,1,false,[none]):MQ)=(false,1,false,[none])∧(zkj w=true)) (h:∀ X3:List (List PA)→St→Prop,(∀ (zac:Bool) (t4t3:Tab) (dt3:Tab),znM K X2 w zac t4t3 dt3→X3 [] (zfe w zac t4t3 dt3))→(∀ (y:step) (rest:List (List PA)) (zac:Bool) (t4t3:Tab) (dt3:Tab),znN K X2 X3 y rest w zac t4t3 dt3→X3 ([.agg (zae y)] :: rest) (zfe w zac t4t3 dt3))→X3 ((zha w).map fun y=>[.agg (zae y)]) (zfe w zac t4t3 dt3)) :
  zjW K X2 w zac t4t3 dt3:=by
  have e:zjW K X2 w zac t4t3 dt3=((IsE zaj 4 4 (fun i=>zaj (w.Net.Ties.get i))∧((false,1,false,[none]):MQ)=(false,1,false,[none])∧(zkj w=true))∧∀ X:List (List PA)→St→Prop,(∀ s,(zak 4 (zak 3 (sqK Tryd.prog G76 zcd (cdF Tryd.f76 [1,1,1,1,0,1,0,0,1,1]) (zbb Tryd.prog zcd 9 X2 (zak 2 (sqK Tryd.prog G76 zcd (cdF Tryd.f76 [1,1,1,1,1]) (zba Tryd.prog Tryd.f76 K))))))) .normal s→X [] s)→(∀ y rest s,zsL Tryd.prog G76 zcd 12 [23] (cd (cdF Tryd.f76 [1,1,1,1,0,1,0,0,1,0,0,1,1,0]) [0]) (cd (cdF Tryd.f76 [1,1,1,1,0,1,0,0,1,0,0,1,1,0]) [1]) X (zak 4 (zak 3 (sqK Tryd.prog G76 zcd (cdF Tryd.f76 [1,1,1,1,0,1,0,0,1,1]) (zbb Tryd.prog zcd 9 X2 (zak 2 (sqK Tryd.prog G76 zcd (cdF Tryd.f76 [1,1,1,1,1]) (zba Tryd.prog Tryd.f76 K))))))) y rest s→X (y :: rest) s)→X ((zha w).map fun y=>[.agg (zae y)]) (zfe w zac t4t3 dt3)):=by kernel_rfl
  refine zbh e ⟨hsafe,?_⟩
  intro X h0 h1
  refine h X (fun zac t4t3 dt3 hs=>h0 _ ?_) (fun y rest zac t4t3 dt3 hs=>h1 _ rest _ ?_)
  · rw [zpO K X2 w zac t4t3 dt3];exact hs
  · have e2 := zpP K X2 X y rest w zac t4t3 dt3
    rw [e2];exact hs
abbrev e76 (r:Tab):List PA:=[.agg [.int .i64 (r 0),.int .i64 (r 1),.int .i64 (r 2),.int .i64 (r 3),.int .i64 (r 4),.int .i64 (r 5),.int .i64 (r 6),.int .i64 (r 7),.int .i64 (r 8),.int .i64 (r 9),.int .i64 (r 10),.int .i64 (r 11),.int .i64 (r 12),.int .i64 (r 13),.int .i64 (r 14),.int .i64 (r 15),.int .i64 (r 16),.int .i64 (r 17),.int .i64 (r 18),.int .i64 (r 19),.int .i64 (r 20),.int .i64 (r 21),.int .i64 (r 22),.int .i64 (r 23),.int .i64 (r 24),.int .i64 (r 25),.int .i64 (r 26),.int .i64 (r 27),.int .i64 (r 28),.int .i64 (r 29),.int .i64 (r 30),.int .i64 (r 31),.int .i64 (r 32),.int .i64 (r 33),.int .i64 (r 34),.int .i64 (r 35),.int .i64 (r 36),.int .i64 (r 37),.int .i64 (r 38),.int .i64 (r 39),.int .i64 (r 40),.int .i64 (r 41),.int .i64 (r 42),.int .i64 (r 43),.int .i64 (r 44),.int .i64 (r 45),.int .i64 (r 46),.int .i64 (r 47),.int .i64 (r 48),.int .i64 (r 49),.int .i64 (r 50),.int .i64 (r 51),.int .i64 (r 52),.int .i64 (r 53),.int .i64 (r 54),.int .i64 (r 55),.int .i64 (r 56),.int .i64 (r 57),.int .i64 (r 58),.int .i64 (r 59),.int .i64 (r 60),.int .i64 (r 61),.int .i64 (r 62),.int .i64 (r 63),.int .i64 (r 64),.int .i64 (r 65),.int .i64 (r 66),.int .i64 (r 67),.int .i64 (r 68),.int .i64 (r 69),.int .i64 (r 70),.int .i64 (r 71),.int .i64 (r 72),.int .i64 (r 73),.int .i64 (r 74),.int .i64 (r 75),.int .i64 (r 76),.int .i64 (r 77),.int .i64 (r 78),.int .i64 (r 79)]]
attribute [irreducible] zjU zmh zjV zjW
def zpQ (S2:Bool→Tab→Tab→Tab) (w:web) (zac:Bool) (t4t3:Tab) (dt3:Tab):Tab :=
  (S2 zac t4t3 dt3)
def zpR (P2:Bool→Tab→Tab→Bool) (w:web) (zac:Bool) (t4t3:Tab) (dt3:Tab):Bool :=
  (P2 zac t4t3 dt3)
def zpS (S2:Bool→Tab→Tab→Tab) (w:web) (y3:step) (S3:Bool→Tab→Tab→Tab) (zac:Bool) (t4t3:Tab) (dt3:Tab):Tab :=
  (cond (match ((tg 80 dt3 (0 + y3.from_.toNat * 2 + 0)) == (1000000000000:Int)) with | true => (match ((tg 80 dt3 (0 + y3.from_.toNat * 2 + 0 + 1)) == (0:Int)) with | true => true | false => false) | false => false)
 (S3 zac t4t3 dt3)
 (cond zac
 (S3 true t4t3 (ts 80 dt3 (0+y3.to.toNat * 2+0) [(zcz (⟨(tg 80 dt3 (0+y3.to.toNat * 2+0)),(tg 80 dt3 (0+y3.to.toNat * 2+0+1))⟩:far) (⟨1,fun _=>(⟨(w64 ((tg 80 dt3 (0+y3.from_.toNat * 2+0))+y3.length)),(w64 ((tg 80 dt3 (0+y3.from_.toNat * 2+1))+(1:Int)))⟩:far)⟩:(Sl far))).length,(zcz (⟨(tg 80 dt3 (0+y3.to.toNat * 2+0)),(tg 80 dt3 (0+y3.to.toNat * 2+0+1))⟩:far) (⟨1,fun _=>(⟨(w64 ((tg 80 dt3 (0+y3.from_.toNat * 2+0))+y3.length)),(w64 ((tg 80 dt3 (0+y3.from_.toNat * 2+1))+(1:Int)))⟩:far)⟩:(Sl far))).uses]))
 (S3 (!(match ((zcz (⟨(tg 80 dt3 (0+y3.to.toNat * 2+0)),(tg 80 dt3 (0+y3.to.toNat * 2+0+1))⟩:far) (⟨1,fun _=>(⟨(w64 ((tg 80 dt3 (0+y3.from_.toNat * 2+0))+y3.length)),(w64 ((tg 80 dt3 (0+y3.from_.toNat * 2+1))+(1:Int)))⟩:far)⟩:(Sl far))).length == (tg 80 dt3 (0+y3.to.toNat * 2+0))) with | true=>(match ((zcz (⟨(tg 80 dt3 (0+y3.to.toNat * 2+0)),(tg 80 dt3 (0+y3.to.toNat * 2+0+1))⟩:far) (⟨1,fun _=>(⟨(w64 ((tg 80 dt3 (0+y3.from_.toNat * 2+0))+y3.length)),(w64 ((tg 80 dt3 (0+y3.from_.toNat * 2+1))+(1:Int)))⟩:far)⟩:(Sl far))).uses == (tg 80 dt3 (0+y3.to.toNat * 2+0+1))) with | true=>true | false=>false) | false=>false)) t4t3 (ts 80 dt3 (0+y3.to.toNat * 2+0) [(zcz (⟨(tg 80 dt3 (0+y3.to.toNat * 2+0)),(tg 80 dt3 (0+y3.to.toNat * 2+0+1))⟩:far) (⟨1,fun _=>(⟨(w64 ((tg 80 dt3 (0+y3.from_.toNat * 2+0))+y3.length)),(w64 ((tg 80 dt3 (0+y3.from_.toNat * 2+1))+(1:Int)))⟩:far)⟩:(Sl far))).length,(zcz (⟨(tg 80 dt3 (0+y3.to.toNat * 2+0)),(tg 80 dt3 (0+y3.to.toNat * 2+0+1))⟩:far) (⟨1,fun _=>(⟨(w64 ((tg 80 dt3 (0+y3.from_.toNat * 2+0))+y3.length)),(w64 ((tg 80 dt3 (0+y3.from_.toNat * 2+1))+(1:Int)))⟩:far)⟩:(Sl far))).uses]))))
def zpT (P2:Bool→Tab→Tab→Bool) (w:web) (y3:step) (P3:Bool→Tab→Tab→Bool) (zac:Bool) (t4t3:Tab) (dt3:Tab):Bool :=
  (decide ((0≤y3.from_∧y3.from_ < (40:Int))) &&
 (cond (match ((tg 80 dt3 (0 + y3.from_.toNat * 2 + 0)) == (1000000000000:Int)) with | true => (match ((tg 80 dt3 (0 + y3.from_.toNat * 2 + 0 + 1)) == (0:Int)) with | true => true | false => false) | false => false)
 (P3 zac t4t3 dt3)
 (decide ((0≤y3.to∧y3.to < (40:Int))) &&
 (decide ((0≤y3.from_∧y3.from_ < (40:Int))) &&
 (decide ((0≤y3.from_∧y3.from_ < (40:Int))) &&
 (decide ((zz2 (⟨(tg 80 dt3 (0+y3.to.toNat * 2+0)),(tg 80 dt3 (0+y3.to.toNat * 2+0+1))⟩:far) (⟨1,fun _=>(⟨(w64 ((tg 80 dt3 (0+y3.from_.toNat * 2+0))+y3.length)),(w64 ((tg 80 dt3 (0+y3.from_.toNat * 2+1))+(1:Int)))⟩:far)⟩:(Sl far))=true)) &&
 (cond zac
 (decide ((0≤y3.to∧y3.to < (40:Int))) &&
 (P3 true t4t3 (ts 80 dt3 (0+y3.to.toNat * 2+0) [(zcz (⟨(tg 80 dt3 (0+y3.to.toNat * 2+0)),(tg 80 dt3 (0+y3.to.toNat * 2+0+1))⟩:far) (⟨1,fun _=>(⟨(w64 ((tg 80 dt3 (0+y3.from_.toNat * 2+0))+y3.length)),(w64 ((tg 80 dt3 (0+y3.from_.toNat * 2+1))+(1:Int)))⟩:far)⟩:(Sl far))).length,(zcz (⟨(tg 80 dt3 (0+y3.to.toNat * 2+0)),(tg 80 dt3 (0+y3.to.toNat * 2+0+1))⟩:far) (⟨1,fun _=>(⟨(w64 ((tg 80 dt3 (0+y3.from_.toNat * 2+0))+y3.length)),(w64 ((tg 80 dt3 (0+y3.from_.toNat * 2+1))+(1:Int)))⟩:far)⟩:(Sl far))).uses])))
 (decide ((0≤y3.to∧y3.to < (40:Int))) &&
 (decide ((0≤y3.to∧y3.to < (40:Int))) &&
 (P3 (!(match ((zcz (⟨(tg 80 dt3 (0+y3.to.toNat * 2+0)),(tg 80 dt3 (0+y3.to.toNat * 2+0+1))⟩:far) (⟨1,fun _=>(⟨(w64 ((tg 80 dt3 (0+y3.from_.toNat * 2+0))+y3.length)),(w64 ((tg 80 dt3 (0+y3.from_.toNat * 2+1))+(1:Int)))⟩:far)⟩:(Sl far))).length == (tg 80 dt3 (0+y3.to.toNat * 2+0))) with | true=>(match ((zcz (⟨(tg 80 dt3 (0+y3.to.toNat * 2+0)),(tg 80 dt3 (0+y3.to.toNat * 2+0+1))⟩:far) (⟨1,fun _=>(⟨(w64 ((tg 80 dt3 (0+y3.from_.toNat * 2+0))+y3.length)),(w64 ((tg 80 dt3 (0+y3.from_.toNat * 2+1))+(1:Int)))⟩:far)⟩:(Sl far))).uses == (tg 80 dt3 (0+y3.to.toNat * 2+0+1))) with | true=>true | false=>false) | false=>false)) t4t3 (ts 80 dt3 (0+y3.to.toNat * 2+0) [(zcz (⟨(tg 80 dt3 (0+y3.to.toNat * 2+0)),(tg 80 dt3 (0+y3.to.toNat * 2+0+1))⟩:far) (⟨1,fun _=>(⟨(w64 ((tg 80 dt3 (0+y3.from_.toNat * 2+0))+y3.length)),(w64 ((tg 80 dt3 (0+y3.from_.toNat * 2+1))+(1:Int)))⟩:far)⟩:(Sl far))).length,(zcz (⟨(tg 80 dt3 (0+y3.to.toNat * 2+0)),(tg 80 dt3 (0+y3.to.toNat * 2+0+1))⟩:far) (⟨1,fun _=>(⟨(w64 ((tg 80 dt3 (0+y3.from_.toNat * 2+0))+y3.length)),(w64 ((tg 80 dt3 (0+y3.from_.toNat * 2+1))+(1:Int)))⟩:far)⟩:(Sl far))).uses])))))))))))
def zjX (S2 : Bool → Tab → Tab → Tab) (w : web) : List step → Bool → Tab → Tab → Tab
  | []=>zpQ S2 w
  | y :: r=>zpS S2 w y (zjX S2 w r)
def zjY (P2 : Bool → Tab → Tab → Bool) (w : web) : List step → Bool → Tab → Tab → Bool
  | []=>zpR P2 w
  | y :: r=>zpT P2 w y (zjY P2 w r)
def zwm (S2:Bool→Tab→Tab→Tab) (w:web) (zac:Bool) (t4t3:Tab) (dt3:Tab):Tab:=zjX S2 w (zha w) zac t4t3 dt3
def zpU (P2:Bool→Tab→Tab→Bool) (w:web) (zac:Bool) (t4t3:Tab) (dt3:Tab):Bool:=decide ((zkj w=true)) && zjY P2 w (zha w) zac t4t3 dt3
theorem zCo (K : List PA → Prop) (w : web)
  (X2:St→Prop) (P2:Bool→Tab→Tab→Bool) (S2:Bool→Tab→Tab→Tab)
  (hX2:∀ (zah:Bool) (t4t2:Tab) (dt2:Tab),P2 zah t4t2 dt2=true→K (e76 (S2 zah t4t2 dt2))→X2 (zhL w zah t4t2 dt2)) (zac:Bool) (t4t3:Tab) (dt3:Tab) (hs:zpU P2 w zac t4t3 dt3=true) (hk:K (e76 (zwm S2 w zac t4t3 dt3))):zjW K X2 w zac t4t3 dt3:=by
  unfold zpU at hs
  rw [Bool.and_eq_true] at hs
  obtain ⟨hsf,hs⟩:=hs
  have hc:=of_decide_eq_true hsf
  refine zwl K X2 w zac t4t3 dt3 ⟨isE,rfl,hc⟩ ?_
  intro X3 hexit hstep
  have key:∀ (l:List step) (zac:Bool) (t4t3:Tab) (dt3:Tab),zjY P2 w l zac t4t3 dt3=true→K (e76 (zjX S2 w l zac t4t3 dt3))→X3 (l.map fun y=>[.agg (zae y)]) (zfe w zac t4t3 dt3):=by
    intro l
    induction l with
    | nil =>
      intro zac t4t3 dt3 hs hk
      refine hexit zac t4t3 dt3 ?_
      have hs:zpR P2 w zac t4t3 dt3=true:=hs
      have hk:K (e76 (zpQ S2 w zac t4t3 dt3)):=hk
      unfold zpR at hs
      unfold zpQ at hk
      exact (hX2 zac t4t3 dt3 hs hk)
    | cons y3 l ih =>
      intro zac t4t3 dt3 hs hk
      refine hstep y3 _ zac t4t3 dt3 ?_
      have hs:zpT P2 w y3 (zjY P2 w l) zac t4t3 dt3=true:=hs
      have hk:K (e76 (zpS S2 w y3 (zjX S2 w l) zac t4t3 dt3)):=hk
      unfold zpT at hs
      unfold zpS at hk
      generalize zjX S2 w l=S3 at hk ih
      generalize zjY P2 w l=P3 at hs ih
      have hX3:=ih
      exact (za7 hs fun hc hs => ⟨hc, (zaP (K := fun r => K (e76 r))
 (fun hs hk=>(hX3 zac t4t3 dt3 hs hk))
 (fun hs hk => (za7 hs fun hc hs => ⟨hc, (za7 hs fun hc hs => ⟨hc, (za7 hs fun hc hs => ⟨hc, (za7 hs fun hc hs => ⟨⟨zup, hc⟩, (zaP (K := fun r => K (e76 r))
 (fun hs hk=>(za7 hs fun hc hs=>⟨hc,(hX3 true t4t3 (ts 80 dt3 (0+y3.to.toNat * 2+0) [(zcz (⟨(tg 80 dt3 (0+y3.to.toNat * 2+0)),(tg 80 dt3 (0+y3.to.toNat * 2+0+1))⟩:far) (⟨1,fun _=>(⟨(w64 ((tg 80 dt3 (0+y3.from_.toNat * 2+0))+y3.length)),(w64 ((tg 80 dt3 (0+y3.from_.toNat * 2+1))+(1:Int)))⟩:far)⟩:(Sl far))).length,(zcz (⟨(tg 80 dt3 (0+y3.to.toNat * 2+0)),(tg 80 dt3 (0+y3.to.toNat * 2+0+1))⟩:far) (⟨1,fun _=>(⟨(w64 ((tg 80 dt3 (0+y3.from_.toNat * 2+0))+y3.length)),(w64 ((tg 80 dt3 (0+y3.from_.toNat * 2+1))+(1:Int)))⟩:far)⟩:(Sl far))).uses]) hs hk)⟩))
 (fun hs hk=>(za7 hs fun hc hs=>⟨hc,(za7 hs fun hc hs=>⟨hc,(hX3 (!(match ((zcz (⟨(tg 80 dt3 (0+y3.to.toNat * 2+0)),(tg 80 dt3 (0+y3.to.toNat * 2+0+1))⟩:far) (⟨1,fun _=>(⟨(w64 ((tg 80 dt3 (0+y3.from_.toNat * 2+0))+y3.length)),(w64 ((tg 80 dt3 (0+y3.from_.toNat * 2+1))+(1:Int)))⟩:far)⟩:(Sl far))).length == (tg 80 dt3 (0+y3.to.toNat * 2+0))) with | true=>(match ((zcz (⟨(tg 80 dt3 (0+y3.to.toNat * 2+0)),(tg 80 dt3 (0+y3.to.toNat * 2+0+1))⟩:far) (⟨1,fun _=>(⟨(w64 ((tg 80 dt3 (0+y3.from_.toNat * 2+0))+y3.length)),(w64 ((tg 80 dt3 (0+y3.from_.toNat * 2+1))+(1:Int)))⟩:far)⟩:(Sl far))).uses == (tg 80 dt3 (0+y3.to.toNat * 2+0+1))) with | true=>true | false=>false) | false=>false)) t4t3 (ts 80 dt3 (0+y3.to.toNat * 2+0) [(zcz (⟨(tg 80 dt3 (0+y3.to.toNat * 2+0)),(tg 80 dt3 (0+y3.to.toNat * 2+0+1))⟩:far) (⟨1,fun _=>(⟨(w64 ((tg 80 dt3 (0+y3.from_.toNat * 2+0))+y3.length)),(w64 ((tg 80 dt3 (0+y3.from_.toNat * 2+1))+(1:Int)))⟩:far)⟩:(Sl far))).length,(zcz (⟨(tg 80 dt3 (0+y3.to.toNat * 2+0)),(tg 80 dt3 (0+y3.to.toNat * 2+0+1))⟩:far) (⟨1,fun _=>(⟨(w64 ((tg 80 dt3 (0+y3.from_.toNat * 2+0))+y3.length)),(w64 ((tg 80 dt3 (0+y3.from_.toNat * 2+1))+(1:Int)))⟩:far)⟩:(Sl far))).uses]) hs hk)⟩)⟩)) hs hk)⟩)⟩)⟩)⟩)) hs hk)⟩)
  exact key _ zac t4t3 dt3 hs hk
def zpV (w:web) (S2:Bool→Tab→Tab→Tab) (zah:Bool) (t4t2:Tab) (dt2:Tab):Tab :=
  (cond zah
 (zwm S2 w false t4t2 dt2)
 dt2)
def zpW (w:web) (P2:Bool→Tab→Tab→Bool) (zah:Bool) (t4t2:Tab) (dt2:Tab):Bool :=
  (cond zah
 (zpU P2 w false t4t2 dt2)
 true)
def zjZ (w : web) : Nat → Bool → Tab → Tab → Tab
  | 0=>fun _ _ _=>default
  | k+1=>zpV w (zjZ w k)
def zj0 (w : web) : Nat → Bool → Tab → Tab → Bool
  | 0=>fun _ _ _=>false
  | k+1=>zpW w (zj0 w k)
def zwn (w:web) (zah:Bool) (t4t2:Tab) (dt2:Tab):Tab:=zjZ w Fuel zah t4t2 dt2
def zwo (w:web) (zah:Bool) (t4t2:Tab) (dt2:Tab):Bool:=zj0 w Fuel zah t4t2 dt2
theorem zCp (K:List PA→Prop) (w:web) (zah:Bool) (t4t2:Tab) (dt2:Tab) (hs:zwo w zah t4t2 dt2=true) (hk:K (e76 (zwn w zah t4t2 dt2))):zjV K w zah t4t2 dt2:=by
  refine zwk K w zah t4t2 dt2 ?_
  intro X2 hstep
  have key:∀ (k:Nat) (zah:Bool) (t4t2:Tab) (dt2:Tab),zj0 w k zah t4t2 dt2=true→K (e76 (zjZ w k zah t4t2 dt2))→X2 (zhL w zah t4t2 dt2):=by
    intro k
    induction k with
    | zero=>intro zah t4t2 dt2 hs;exact absurd hs Bool.false_ne_true
    | succ k ih =>
      intro zah t4t2 dt2 hs hk
      refine hstep zah t4t2 dt2 ?_
      have hs:zpW w (zj0 w k) zah t4t2 dt2=true:=hs
      have hk:K (e76 (zpV w (zjZ w k) zah t4t2 dt2)):=hk
      unfold zpW at hs
      unfold zpV at hk
      generalize zjZ w k=S2 at hk ih
      generalize zj0 w k=P2 at hs ih
      have hX2:=ih
      exact (zaP (K := fun r => K (e76 r))
 (fun hs hk=>⟨⟨isE,rfl⟩,(zCo K w X2 P2 S2 hX2 false t4t2 dt2 hs hk)⟩)
 (fun hs hk=>hk) hs hk)
  exact key _ zah t4t2 dt2 hs hk
def zpX (w:web) (node:Int) (t4t1:Tab) (dt1:Tab):Tab :=
  (zwn w true t4t1 (ts 80 dt1 (0+node.toNat * 2+0) [(0:Int),(0:Int)]))
def zpY (w:web) (node:Int) (t4t1:Tab) (dt1:Tab):Bool :=
  (decide ((0≤node∧node < (40:Int))) &&
 (zwo w true t4t1 (ts 80 dt1 (0+node.toNat * 2+0) [(0:Int),(0:Int)])))
theorem zCq (K:List PA→Prop) (w:web) (node:Int) (t4t1:Tab) (dt1:Tab) (hs:zpY w node t4t1 dt1=true) (hk:K (e76 (zpX w node t4t1 dt1))):zmh K w node t4t1 dt1:=by
  refine zbh (zCn K w node t4t1 dt1) ?_
  unfold zpY at hs
  unfold zpX at hk
  exact (za7 hs fun hc hs=>⟨hc,(zCp K w true t4t1 (ts 80 dt1 (0+node.toNat * 2+0) [(0:Int),(0:Int)]) hs hk)⟩)
def zpZ (w:web) (node:Int) (S0:Int→Tab→Tab→Tab) (zaD:Int) (t4t0:Tab) (dt0:Tab):Tab :=
  (cond (decide (zaD < (40:Int)))
 (S0 (w64 (zaD+(1:Int))) t4t0 (ts 80 dt0 (0+zaD.toNat * 2+0) [(1000000000000:Int),(0:Int)]))
 (zpX w node t4t0 dt0))
def zp0 (w:web) (node:Int) (P0:Int→Tab→Tab→Bool) (zaD:Int) (t4t0:Tab) (dt0:Tab):Bool :=
  (cond (decide (zaD < (40:Int)))
 (decide ((0≤zaD∧zaD < (40:Int))) &&
 (P0 (w64 (zaD+(1:Int))) t4t0 (ts 80 dt0 (0+zaD.toNat * 2+0) [(1000000000000:Int),(0:Int)])))
 (zpY w node t4t0 dt0))
def zj1 (w : web) (node : Int) : Nat → Int → Tab → Tab → Tab
  | 0=>fun _ _ _=>default
  | k+1=>zpZ w node (zj1 w node k)
def zj2 (w : web) (node : Int) : Nat → Int → Tab → Tab → Bool
  | 0=>fun _ _ _=>false
  | k+1=>zp0 w node (zj2 w node k)
def zwp (w:web) (node:Int) (zaD:Int) (t4t0:Tab) (dt0:Tab):Tab:=zj1 w node Fuel zaD t4t0 dt0
def zwq (w:web) (node:Int) (zaD:Int) (t4t0:Tab) (dt0:Tab):Bool:=zj2 w node Fuel zaD t4t0 dt0
theorem zCr (K:List PA→Prop) (w:web) (node:Int) (zaD:Int) (t4t0:Tab) (dt0:Tab) (hs:zwq w node zaD t4t0 dt0=true) (hk:K (e76 (zwp w node zaD t4t0 dt0))):zjU K w node zaD t4t0 dt0:=by
  refine zwj K w node zaD t4t0 dt0 ?_
  intro X0 hstep
  have key:∀ (k:Nat) (zaD:Int) (t4t0:Tab) (dt0:Tab),zj2 w node k zaD t4t0 dt0=true→K (e76 (zj1 w node k zaD t4t0 dt0))→X0 (zjT w node zaD t4t0 dt0):=by
    intro k
    induction k with
    | zero=>intro zaD t4t0 dt0 hs;exact absurd hs Bool.false_ne_true
    | succ k ih =>
      intro zaD t4t0 dt0 hs hk
      refine hstep zaD t4t0 dt0 ?_
      have hs:zp0 w node (zj2 w node k) zaD t4t0 dt0=true:=hs
      have hk:K (e76 (zpZ w node (zj1 w node k) zaD t4t0 dt0)):=hk
      unfold zp0 at hs
      unfold zpZ at hk
      generalize zj1 w node k=S0 at hk ih
      generalize zj2 w node k=P0 at hs ih
      have hX0:=ih
      exact (zaP (K := fun r => K (e76 r))
 (fun hs hk=>(za7 hs fun hc hs=>⟨hc,(hX0 (w64 (zaD+(1:Int))) t4t0 (ts 80 dt0 (0+zaD.toNat * 2+0) [(1000000000000:Int),(0:Int)]) hs hk)⟩))
 (fun hs hk=>(zCq K w node t4t0 dt0 hs hk)) hs hk)
  exact key _ zaD t4t0 dt0 hs hk
def s76 (w:web) (node:Int):Tab :=
  (zwp w node (0:Int) (fun _=>(0:Int)) (fun _=>(0:Int)))
def p76 (w:web) (node:Int):Bool :=
  (zwq w node (0:Int) (fun _=>(0:Int)) (fun _=>(0:Int)))
theorem q76 (w:web) (node:Int) (K:List PA→Prop) (hs:p76 w node=true) (hk:K (e76 (s76 w node))):vcFun Tryd.prog G76 zcd 76 [.one (.fp (zaw w) 0),.one (.int .i64 node)] K:=by
  refine zbh (zCm w node K) ?_
  unfold p76 at hs
  unfold s76 at hk
  exact (zCr K w node (0:Int) (fun _=>(0:Int)) (fun _=>(0:Int)) hs hk)
def zwr : List PA → COut
  | [.one (.fp [.int .i64 a0_Net_Nodes,.sl a0_Net_Ties_n a0_Net_Ties_s a0_Net_Ties_g,.fm a0_out_q a0_out_n a0_out_F] 0),.one (.int .i64 a1)]=>.det (IsE zaj 4 a0_Net_Ties_s a0_Net_Ties_g∧a0_out_q=(false,1,false,[none])∧p76 (⟨(⟨a0_Net_Nodes,(⟨a0_Net_Ties_n,zaa a0_Net_Ties_g⟩:(Sl Tie))⟩:Net),(⟨a0_out_n,a0_out_F⟩:Mp)⟩:web) a1=true) [.agg [.int .i64 ((s76 (⟨(⟨a0_Net_Nodes,(⟨a0_Net_Ties_n,zaa a0_Net_Ties_g⟩:(Sl Tie))⟩:Net),(⟨a0_out_n,a0_out_F⟩:Mp)⟩:web) a1) 0),.int .i64 ((s76 (⟨(⟨a0_Net_Nodes,(⟨a0_Net_Ties_n,zaa a0_Net_Ties_g⟩:(Sl Tie))⟩:Net),(⟨a0_out_n,a0_out_F⟩:Mp)⟩:web) a1) 1),.int .i64 ((s76 (⟨(⟨a0_Net_Nodes,(⟨a0_Net_Ties_n,zaa a0_Net_Ties_g⟩:(Sl Tie))⟩:Net),(⟨a0_out_n,a0_out_F⟩:Mp)⟩:web) a1) 2),.int .i64 ((s76 (⟨(⟨a0_Net_Nodes,(⟨a0_Net_Ties_n,zaa a0_Net_Ties_g⟩:(Sl Tie))⟩:Net),(⟨a0_out_n,a0_out_F⟩:Mp)⟩:web) a1) 3),.int .i64 ((s76 (⟨(⟨a0_Net_Nodes,(⟨a0_Net_Ties_n,zaa a0_Net_Ties_g⟩:(Sl Tie))⟩:Net),(⟨a0_out_n,a0_out_F⟩:Mp)⟩:web) a1) 4),.int .i64 ((s76 (⟨(⟨a0_Net_Nodes,(⟨a0_Net_Ties_n,zaa a0_Net_Ties_g⟩:(Sl Tie))⟩:Net),(⟨a0_out_n,a0_out_F⟩:Mp)⟩:web) a1) 5),.int .i64 ((s76 (⟨(⟨a0_Net_Nodes,(⟨a0_Net_Ties_n,zaa a0_Net_Ties_g⟩:(Sl Tie))⟩:Net),(⟨a0_out_n,a0_out_F⟩:Mp)⟩:web) a1) 6),.int .i64 ((s76 (⟨(⟨a0_Net_Nodes,(⟨a0_Net_Ties_n,zaa a0_Net_Ties_g⟩:(Sl Tie))⟩:Net),(⟨a0_out_n,a0_out_F⟩:Mp)⟩:web) a1) 7),.int .i64 ((s76 (⟨(⟨a0_Net_Nodes,(⟨a0_Net_Ties_n,zaa a0_Net_Ties_g⟩:(Sl Tie))⟩:Net),(⟨a0_out_n,a0_out_F⟩:Mp)⟩:web) a1) 8),.int .i64 ((s76 (⟨(⟨a0_Net_Nodes,(⟨a0_Net_Ties_n,zaa a0_Net_Ties_g⟩:(Sl Tie))⟩:Net),(⟨a0_out_n,a0_out_F⟩:Mp)⟩:web) a1) 9),.int .i64 ((s76 (⟨(⟨a0_Net_Nodes,(⟨a0_Net_Ties_n,zaa a0_Net_Ties_g⟩:(Sl Tie))⟩:Net),(⟨a0_out_n,a0_out_F⟩:Mp)⟩:web) a1) 10),.int .i64 ((s76 (⟨(⟨a0_Net_Nodes,(⟨a0_Net_Ties_n,zaa a0_Net_Ties_g⟩:(Sl Tie))⟩:Net),(⟨a0_out_n,a0_out_F⟩:Mp)⟩:web) a1) 11),.int .i64 ((s76 (⟨(⟨a0_Net_Nodes,(⟨a0_Net_Ties_n,zaa a0_Net_Ties_g⟩:(Sl Tie))⟩:Net),(⟨a0_out_n,a0_out_F⟩:Mp)⟩:web) a1) 12),.int .i64 ((s76 (⟨(⟨a0_Net_Nodes,(⟨a0_Net_Ties_n,zaa a0_Net_Ties_g⟩:(Sl Tie))⟩:Net),(⟨a0_out_n,a0_out_F⟩:Mp)⟩:web) a1) 13),.int .i64 ((s76 (⟨(⟨a0_Net_Nodes,(⟨a0_Net_Ties_n,zaa a0_Net_Ties_g⟩:(Sl Tie))⟩:Net),(⟨a0_out_n,a0_out_F⟩:Mp)⟩:web) a1) 14),.int .i64 ((s76 (⟨(⟨a0_Net_Nodes,(⟨a0_Net_Ties_n,zaa a0_Net_Ties_g⟩:(Sl Tie))⟩:Net),(⟨a0_out_n,a0_out_F⟩:Mp)⟩:web) a1) 15),.int .i64 ((s76 (⟨(⟨a0_Net_Nodes,(⟨a0_Net_Ties_n,zaa a0_Net_Ties_g⟩:(Sl Tie))⟩:Net),(⟨a0_out_n,a0_out_F⟩:Mp)⟩:web) a1) 16),.int .i64 ((s76 (⟨(⟨a0_Net_Nodes,(⟨a0_Net_Ties_n,zaa a0_Net_Ties_g⟩:(Sl Tie))⟩:Net),(⟨a0_out_n,a0_out_F⟩:Mp)⟩:web) a1) 17),.int .i64 ((s76 (⟨(⟨a0_Net_Nodes,(⟨a0_Net_Ties_n,zaa a0_Net_Ties_g⟩:(Sl Tie))⟩:Net),(⟨a0_out_n,a0_out_F⟩:Mp)⟩:web) a1) 18),.int .i64 ((s76 (⟨(⟨a0_Net_Nodes,(⟨a0_Net_Ties_n,zaa a0_Net_Ties_g⟩:(Sl Tie))⟩:Net),(⟨a0_out_n,a0_out_F⟩:Mp)⟩:web) a1) 19),.int .i64 ((s76 (⟨(⟨a0_Net_Nodes,(⟨a0_Net_Ties_n,zaa a0_Net_Ties_g⟩:(Sl Tie))⟩:Net),(⟨a0_out_n,a0_out_F⟩:Mp)⟩:web) a1) 20),.int .i64 ((s76 (⟨(⟨a0_Net_Nodes,(⟨a0_Net_Ties_n,zaa a0_Net_Ties_g⟩:(Sl Tie))⟩:Net),(⟨a0_out_n,a0_out_F⟩:Mp)⟩:web) a1) 21),.int .i64 ((s76 (⟨(⟨a0_Net_Nodes,(⟨a0_Net_Ties_n,zaa a0_Net_Ties_g⟩:(Sl Tie))⟩:Net),(⟨a0_out_n,a0_out_F⟩:Mp)⟩:web) a1) 22),.int .i64 ((s76 (⟨(⟨a0_Net_Nodes,(⟨a0_Net_Ties_n,zaa a0_Net_Ties_g⟩:(Sl Tie))⟩:Net),(⟨a0_out_n,a0_out_F⟩:Mp)⟩:web) a1) 23),.int .i64 ((s76 (⟨(⟨a0_Net_Nodes,(⟨a0_Net_Ties_n,zaa a0_Net_Ties_g⟩:(Sl Tie))⟩:Net),(⟨a0_out_n,a0_out_F⟩:Mp)⟩:web) a1) 24),.int .i64 ((s76 (⟨(⟨a0_Net_Nodes,(⟨a0_Net_Ties_n,zaa a0_Net_Ties_g⟩:(Sl Tie))⟩:Net),(⟨a0_out_n,a0_out_F⟩:Mp)⟩:web) a1) 25),.int .i64 ((s76 (⟨(⟨a0_Net_Nodes,(⟨a0_Net_Ties_n,zaa a0_Net_Ties_g⟩:(Sl Tie))⟩:Net),(⟨a0_out_n,a0_out_F⟩:Mp)⟩:web) a1) 26),.int .i64 ((s76 (⟨(⟨a0_Net_Nodes,(⟨a0_Net_Ties_n,zaa a0_Net_Ties_g⟩:(Sl Tie))⟩:Net),(⟨a0_out_n,a0_out_F⟩:Mp)⟩:web) a1) 27),.int .i64 ((s76 (⟨(⟨a0_Net_Nodes,(⟨a0_Net_Ties_n,zaa a0_Net_Ties_g⟩:(Sl Tie))⟩:Net),(⟨a0_out_n,a0_out_F⟩:Mp)⟩:web) a1) 28),.int .i64 ((s76 (⟨(⟨a0_Net_Nodes,(⟨a0_Net_Ties_n,zaa a0_Net_Ties_g⟩:(Sl Tie))⟩:Net),(⟨a0_out_n,a0_out_F⟩:Mp)⟩:web) a1) 29),.int .i64 ((s76 (⟨(⟨a0_Net_Nodes,(⟨a0_Net_Ties_n,zaa a0_Net_Ties_g⟩:(Sl Tie))⟩:Net),(⟨a0_out_n,a0_out_F⟩:Mp)⟩:web) a1) 30),.int .i64 ((s76 (⟨(⟨a0_Net_Nodes,(⟨a0_Net_Ties_n,zaa a0_Net_Ties_g⟩:(Sl Tie))⟩:Net),(⟨a0_out_n,a0_out_F⟩:Mp)⟩:web) a1) 31),.int .i64 ((s76 (⟨(⟨a0_Net_Nodes,(⟨a0_Net_Ties_n,zaa a0_Net_Ties_g⟩:(Sl Tie))⟩:Net),(⟨a0_out_n,a0_out_F⟩:Mp)⟩:web) a1) 32),.int .i64 ((s76 (⟨(⟨a0_Net_Nodes,(⟨a0_Net_Ties_n,zaa a0_Net_Ties_g⟩:(Sl Tie))⟩:Net),(⟨a0_out_n,a0_out_F⟩:Mp)⟩:web) a1) 33),.int .i64 ((s76 (⟨(⟨a0_Net_Nodes,(⟨a0_Net_Ties_n,zaa a0_Net_Ties_g⟩:(Sl Tie))⟩:Net),(⟨a0_out_n,a0_out_F⟩:Mp)⟩:web) a1) 34),.int .i64 ((s76 (⟨(⟨a0_Net_Nodes,(⟨a0_Net_Ties_n,zaa a0_Net_Ties_g⟩:(Sl Tie))⟩:Net),(⟨a0_out_n,a0_out_F⟩:Mp)⟩:web) a1) 35),.int .i64 ((s76 (⟨(⟨a0_Net_Nodes,(⟨a0_Net_Ties_n,zaa a0_Net_Ties_g⟩:(Sl Tie))⟩:Net),(⟨a0_out_n,a0_out_F⟩:Mp)⟩:web) a1) 36),.int .i64 ((s76 (⟨(⟨a0_Net_Nodes,(⟨a0_Net_Ties_n,zaa a0_Net_Ties_g⟩:(Sl Tie))⟩:Net),(⟨a0_out_n,a0_out_F⟩:Mp)⟩:web) a1) 37),.int .i64 ((s76 (⟨(⟨a0_Net_Nodes,(⟨a0_Net_Ties_n,zaa a0_Net_Ties_g⟩:(Sl Tie))⟩:Net),(⟨a0_out_n,a0_out_F⟩:Mp)⟩:web) a1) 38),.int .i64 ((s76 (⟨(⟨a0_Net_Nodes,(⟨a0_Net_Ties_n,zaa a0_Net_Ties_g⟩:(Sl Tie))⟩:Net),(⟨a0_out_n,a0_out_F⟩:Mp)⟩:web) a1) 39),.int .i64 ((s76 (⟨(⟨a0_Net_Nodes,(⟨a0_Net_Ties_n,zaa a0_Net_Ties_g⟩:(Sl Tie))⟩:Net),(⟨a0_out_n,a0_out_F⟩:Mp)⟩:web) a1) 40),.int .i64 ((s76 (⟨(⟨a0_Net_Nodes,(⟨a0_Net_Ties_n,zaa a0_Net_Ties_g⟩:(Sl Tie))⟩:Net),(⟨a0_out_n,a0_out_F⟩:Mp)⟩:web) a1) 41),.int .i64 ((s76 (⟨(⟨a0_Net_Nodes,(⟨a0_Net_Ties_n,zaa a0_Net_Ties_g⟩:(Sl Tie))⟩:Net),(⟨a0_out_n,a0_out_F⟩:Mp)⟩:web) a1) 42),.int .i64 ((s76 (⟨(⟨a0_Net_Nodes,(⟨a0_Net_Ties_n,zaa a0_Net_Ties_g⟩:(Sl Tie))⟩:Net),(⟨a0_out_n,a0_out_F⟩:Mp)⟩:web) a1) 43),.int .i64 ((s76 (⟨(⟨a0_Net_Nodes,(⟨a0_Net_Ties_n,zaa a0_Net_Ties_g⟩:(Sl Tie))⟩:Net),(⟨a0_out_n,a0_out_F⟩:Mp)⟩:web) a1) 44),.int .i64 ((s76 (⟨(⟨a0_Net_Nodes,(⟨a0_Net_Ties_n,zaa a0_Net_Ties_g⟩:(Sl Tie))⟩:Net),(⟨a0_out_n,a0_out_F⟩:Mp)⟩:web) a1) 45),.int .i64 ((s76 (⟨(⟨a0_Net_Nodes,(⟨a0_Net_Ties_n,zaa a0_Net_Ties_g⟩:(Sl Tie))⟩:Net),(⟨a0_out_n,a0_out_F⟩:Mp)⟩:web) a1) 46),.int .i64 ((s76 (⟨(⟨a0_Net_Nodes,(⟨a0_Net_Ties_n,zaa a0_Net_Ties_g⟩:(Sl Tie))⟩:Net),(⟨a0_out_n,a0_out_F⟩:Mp)⟩:web) a1) 47),.int .i64 ((s76 (⟨(⟨a0_Net_Nodes,(⟨a0_Net_Ties_n,zaa a0_Net_Ties_g⟩:(Sl Tie))⟩:Net),(⟨a0_out_n,a0_out_F⟩:Mp)⟩:web) a1) 48),.int .i64 ((s76 (⟨(⟨a0_Net_Nodes,(⟨a0_Net_Ties_n,zaa a0_Net_Ties_g⟩:(Sl Tie))⟩:Net),(⟨a0_out_n,a0_out_F⟩:Mp)⟩:web) a1) 49),.int .i64 ((s76 (⟨(⟨a0_Net_Nodes,(⟨a0_Net_Ties_n,zaa a0_Net_Ties_g⟩:(Sl Tie))⟩:Net),(⟨a0_out_n,a0_out_F⟩:Mp)⟩:web) a1) 50),.int .i64 ((s76 (⟨(⟨a0_Net_Nodes,(⟨a0_Net_Ties_n,zaa a0_Net_Ties_g⟩:(Sl Tie))⟩:Net),(⟨a0_out_n,a0_out_F⟩:Mp)⟩:web) a1) 51),.int .i64 ((s76 (⟨(⟨a0_Net_Nodes,(⟨a0_Net_Ties_n,zaa a0_Net_Ties_g⟩:(Sl Tie))⟩:Net),(⟨a0_out_n,a0_out_F⟩:Mp)⟩:web) a1) 52),.int .i64 ((s76 (⟨(⟨a0_Net_Nodes,(⟨a0_Net_Ties_n,zaa a0_Net_Ties_g⟩:(Sl Tie))⟩:Net),(⟨a0_out_n,a0_out_F⟩:Mp)⟩:web) a1) 53),.int .i64 ((s76 (⟨(⟨a0_Net_Nodes,(⟨a0_Net_Ties_n,zaa a0_Net_Ties_g⟩:(Sl Tie))⟩:Net),(⟨a0_out_n,a0_out_F⟩:Mp)⟩:web) a1) 54),.int .i64 ((s76 (⟨(⟨a0_Net_Nodes,(⟨a0_Net_Ties_n,zaa a0_Net_Ties_g⟩:(Sl Tie))⟩:Net),(⟨a0_out_n,a0_out_F⟩:Mp)⟩:web) a1) 55),.int .i64 ((s76 (⟨(⟨a0_Net_Nodes,(⟨a0_Net_Ties_n,zaa a0_Net_Ties_g⟩:(Sl Tie))⟩:Net),(⟨a0_out_n,a0_out_F⟩:Mp)⟩:web) a1) 56),.int .i64 ((s76 (⟨(⟨a0_Net_Nodes,(⟨a0_Net_Ties_n,zaa a0_Net_Ties_g⟩:(Sl Tie))⟩:Net),(⟨a0_out_n,a0_out_F⟩:Mp)⟩:web) a1) 57),.int .i64 ((s76 (⟨(⟨a0_Net_Nodes,(⟨a0_Net_Ties_n,zaa a0_Net_Ties_g⟩:(Sl Tie))⟩:Net),(⟨a0_out_n,a0_out_F⟩:Mp)⟩:web) a1) 58),.int .i64 ((s76 (⟨(⟨a0_Net_Nodes,(⟨a0_Net_Ties_n,zaa a0_Net_Ties_g⟩:(Sl Tie))⟩:Net),(⟨a0_out_n,a0_out_F⟩:Mp)⟩:web) a1) 59),.int .i64 ((s76 (⟨(⟨a0_Net_Nodes,(⟨a0_Net_Ties_n,zaa a0_Net_Ties_g⟩:(Sl Tie))⟩:Net),(⟨a0_out_n,a0_out_F⟩:Mp)⟩:web) a1) 60),.int .i64 ((s76 (⟨(⟨a0_Net_Nodes,(⟨a0_Net_Ties_n,zaa a0_Net_Ties_g⟩:(Sl Tie))⟩:Net),(⟨a0_out_n,a0_out_F⟩:Mp)⟩:web) a1) 61),.int .i64 ((s76 (⟨(⟨a0_Net_Nodes,(⟨a0_Net_Ties_n,zaa a0_Net_Ties_g⟩:(Sl Tie))⟩:Net),(⟨a0_out_n,a0_out_F⟩:Mp)⟩:web) a1) 62),.int .i64 ((s76 (⟨(⟨a0_Net_Nodes,(⟨a0_Net_Ties_n,zaa a0_Net_Ties_g⟩:(Sl Tie))⟩:Net),(⟨a0_out_n,a0_out_F⟩:Mp)⟩:web) a1) 63),.int .i64 ((s76 (⟨(⟨a0_Net_Nodes,(⟨a0_Net_Ties_n,zaa a0_Net_Ties_g⟩:(Sl Tie))⟩:Net),(⟨a0_out_n,a0_out_F⟩:Mp)⟩:web) a1) 64),.int .i64 ((s76 (⟨(⟨a0_Net_Nodes,(⟨a0_Net_Ties_n,zaa a0_Net_Ties_g⟩:(Sl Tie))⟩:Net),(⟨a0_out_n,a0_out_F⟩:Mp)⟩:web) a1) 65),.int .i64 ((s76 (⟨(⟨a0_Net_Nodes,(⟨a0_Net_Ties_n,zaa a0_Net_Ties_g⟩:(Sl Tie))⟩:Net),(⟨a0_out_n,a0_out_F⟩:Mp)⟩:web) a1) 66),.int .i64 ((s76 (⟨(⟨a0_Net_Nodes,(⟨a0_Net_Ties_n,zaa a0_Net_Ties_g⟩:(Sl Tie))⟩:Net),(⟨a0_out_n,a0_out_F⟩:Mp)⟩:web) a1) 67),.int .i64 ((s76 (⟨(⟨a0_Net_Nodes,(⟨a0_Net_Ties_n,zaa a0_Net_Ties_g⟩:(Sl Tie))⟩:Net),(⟨a0_out_n,a0_out_F⟩:Mp)⟩:web) a1) 68),.int .i64 ((s76 (⟨(⟨a0_Net_Nodes,(⟨a0_Net_Ties_n,zaa a0_Net_Ties_g⟩:(Sl Tie))⟩:Net),(⟨a0_out_n,a0_out_F⟩:Mp)⟩:web) a1) 69),.int .i64 ((s76 (⟨(⟨a0_Net_Nodes,(⟨a0_Net_Ties_n,zaa a0_Net_Ties_g⟩:(Sl Tie))⟩:Net),(⟨a0_out_n,a0_out_F⟩:Mp)⟩:web) a1) 70),.int .i64 ((s76 (⟨(⟨a0_Net_Nodes,(⟨a0_Net_Ties_n,zaa a0_Net_Ties_g⟩:(Sl Tie))⟩:Net),(⟨a0_out_n,a0_out_F⟩:Mp)⟩:web) a1) 71),.int .i64 ((s76 (⟨(⟨a0_Net_Nodes,(⟨a0_Net_Ties_n,zaa a0_Net_Ties_g⟩:(Sl Tie))⟩:Net),(⟨a0_out_n,a0_out_F⟩:Mp)⟩:web) a1) 72),.int .i64 ((s76 (⟨(⟨a0_Net_Nodes,(⟨a0_Net_Ties_n,zaa a0_Net_Ties_g⟩:(Sl Tie))⟩:Net),(⟨a0_out_n,a0_out_F⟩:Mp)⟩:web) a1) 73),.int .i64 ((s76 (⟨(⟨a0_Net_Nodes,(⟨a0_Net_Ties_n,zaa a0_Net_Ties_g⟩:(Sl Tie))⟩:Net),(⟨a0_out_n,a0_out_F⟩:Mp)⟩:web) a1) 74),.int .i64 ((s76 (⟨(⟨a0_Net_Nodes,(⟨a0_Net_Ties_n,zaa a0_Net_Ties_g⟩:(Sl Tie))⟩:Net),(⟨a0_out_n,a0_out_F⟩:Mp)⟩:web) a1) 75),.int .i64 ((s76 (⟨(⟨a0_Net_Nodes,(⟨a0_Net_Ties_n,zaa a0_Net_Ties_g⟩:(Sl Tie))⟩:Net),(⟨a0_out_n,a0_out_F⟩:Mp)⟩:web) a1) 76),.int .i64 ((s76 (⟨(⟨a0_Net_Nodes,(⟨a0_Net_Ties_n,zaa a0_Net_Ties_g⟩:(Sl Tie))⟩:Net),(⟨a0_out_n,a0_out_F⟩:Mp)⟩:web) a1) 77),.int .i64 ((s76 (⟨(⟨a0_Net_Nodes,(⟨a0_Net_Ties_n,zaa a0_Net_Ties_g⟩:(Sl Tie))⟩:Net),(⟨a0_out_n,a0_out_F⟩:Mp)⟩:web) a1) 78),.int .i64 ((s76 (⟨(⟨a0_Net_Nodes,(⟨a0_Net_Ties_n,zaa a0_Net_Ties_g⟩:(Sl Tie))⟩:Net),(⟨a0_out_n,a0_out_F⟩:Mp)⟩:web) a1) 79)]]
  | _=>.no
theorem zFk:zas Tryd.prog 76:=⟨_,rfl,rfl,by kernel_rfl⟩
theorem zG5:Ok Tryd.prog 76 zwr:=zbJ zG4 zFk fun args K h=>by
  unfold zwr at h
  split at h
  · rename_i a0_Net_Nodes a0_Net_Ties_n a0_Net_Ties_s a0_Net_Ties_g a0_out_q a0_out_n a0_out_F a1
    obtain ⟨⟨⟨rfl,a0_Net_Ties_f,rfl⟩,rfl,hs⟩,hk⟩:=h
    try rw [zar a0_Net_Ties_f] at hs
    try rw [zar a0_Net_Ties_f] at hk
    exact ⟨(fun _ _=>[]),(fun _=>false),zcd,q76 (⟨(⟨a0_Net_Nodes,(⟨a0_Net_Ties_n,a0_Net_Ties_f⟩:(Sl Tie))⟩:Net),(⟨a0_out_n,a0_out_F⟩:Mp)⟩:web) a1 K hs hk⟩
  · exact h.elim
abbrev T26:Tabs:=(((Tabs.nil.addF 74 zv9).addF 75 zwi).addF 76 zwr)
theorem zG6:TabsOk Tryd.prog T26:=(((TabsOk.nil.addF zG1).addF zG3).addF zG5)
abbrev G26:Ctrs:=csm T26 (fun _ _=>[]) (fun _=>false)
def zCs:Ann:=⟨45,[(0,zK [1] [1]),(1,zK [1,4,5] [1]),(2,zK [1,4,5,16] [1]),(3,zK [2,3] []),(4,zK [1,6,7] [1,6,7]),(5,zK [6,7,8] [6,7,24]),(6,zK [6,7,8,26,27] [6,7,24]),(7,zK [6,7,8,26,27,28] [6,7,24]),(8,zK [6,7,8,9,26,27] [6,7,24]),(9,zK [6,7,8,26,27] [6,7,24]),(10,zK [6,7,8,26,27] [6,7,24]),(11,zK [2,3] [24])],
 [(7,zK [6,7,8,26,27] [6,7,24])],
 [],
 [],[]⟩
abbrev R26:=((Sl Span)×Int)
abbrev e26 (r:R26):List PA:=[.one (.sl r.1.len 2 (fun i=>zbu (r.1.get i))),.one (.int .i64 r.2)]
@[irreducible] def z26:=ptF Tryd.prog G26 zCs Tryd.f26
def zAi (n:Net) (zce:Int) (zcN:(Sl Span)) (tot0:Tab) (fromt0:Tab) (zff:Nat→List PV):St:=⟨[(6,zp 6 0),(7,zp 7 0),(8,zv 24),(26,zI (n.Nodes.toNat:Int)),(27,zI zce)],[(6,.box 116 (zm (zad tot0))),(7,.box 116 (zm (zad fromt0))),(24,.vec 43 2 16 zcN.len zff)],[]⟩
abbrev zFl (K:List PA→Prop) (n:Net) (X:St→Prop) (P:Int→(Sl Span)→Tab→Tab→Bool) (S:Int→(Sl Span)→Tab→Tab→((Sl Span)×Int)):Prop:=∀ ⦃zce:Int⦄ ⦃zcN:(Sl Span)⦄ ⦃tot0:Tab⦄ ⦃fromt0:Tab⦄ ⦃zff:Nat→List PV⦄,P zce zcN tot0 fromt0=true→K (e26 (S zce zcN tot0 fromt0))→zff=zg zbu zcN→X (zAi n zce zcN tot0 fromt0 zff)
section
variable {K:List PA→Prop} {n:Net} {zce:Int} {zcN:(Sl Span)} {tot0:Tab} {fromt0:Tab} {zff:Nat→List PV} {X0:St→Prop} {P0:Int→(Sl Span)→Tab→Tab→Bool} {S0:Int→(Sl Span)→Tab→Tab→((Sl Span)×Int)}
def zwt (n:Net) (S0:Int→(Sl Span)→Tab→Tab→((Sl Span)×Int)) (zce:Int) (zcN:(Sl Span)) (tot0:Tab) (fromt0:Tab):((Sl Span)×Int) :=
  (cond (decide (zce < (n.Nodes.toNat : Int)))
 (S0 (w64 (zce+(1:Int))) (⟨zcN.len,(setT zce.toNat (⟨(w64 (0 - (tg 80 tot0 (0+zce.toNat * 2+0)))),(tg 80 fromt0 (0+zce.toNat * 2+0))⟩:Span) zcN.get)⟩:Sl Span) tot0 fromt0)
 (zcN,(0:Int)))
def zwu (n:Net) (P0:Int→(Sl Span)→Tab→Tab→Bool) (zce:Int) (zcN:(Sl Span)) (tot0:Tab) (fromt0:Tab):Bool :=
  (cond (decide (zce < (n.Nodes.toNat : Int)))
 (decide ((0≤zce∧zce < (40:Int))) &&
 (decide ((0≤zce∧zce < (40:Int))) &&
 (decide ((0≤zce∧zce < (zcN.len:Int))) &&
 (decide ((zce.toNat < zcN.len)) &&
 (P0 (w64 (zce+(1:Int))) (⟨zcN.len,(setT zce.toNat (⟨(w64 (0 - (tg 80 tot0 (0+zce.toNat * 2+0)))),(tg 80 fromt0 (0+zce.toNat * 2+0))⟩:Span) zcN.get)⟩:Sl Span) tot0 fromt0)))))
 true)
def zwv (n:Net):Nat→Int→(Sl Span)→Tab→Tab→((Sl Span)×Int):=lpO (fun _ _ _ _=>default) (zwt n)
def zww (n:Net):Nat→Int→(Sl Span)→Tab→Tab→Bool:=lpO (fun _ _ _ _=>false) (zwu n)
def zwx (n:Net) (zce:Int) (zcN:(Sl Span)) (tot0:Tab) (fromt0:Tab):((Sl Span)×Int):=zwv n Fuel zce zcN tot0 fromt0
def zwy (n:Net) (zce:Int) (zcN:(Sl Span)) (tot0:Tab) (fromt0:Tab):Bool:=zww n Fuel zce zcN tot0 fromt0
theorem zCt (hs:zwy n zce zcN tot0 fromt0=true) (hk:K (e26 (zwx n zce zcN tot0 fromt0))) (zp1:zff=zg zbu zcN):z26 (Wk K) [1,1,1,1,1,0,1,0] [] (zAi n zce zcN tot0 fromt0 zff) :=
  zl (fun X=>z26 (Wk K) [1,1,1,1,1,0,1,0,0] [X]) (by kernel_rfl) fun X0 hX =>
  (show ∀ k, zFl K n X0 (zww n k) (zwv n k) from zkR _ _ (zwu n) (zwt n) (zFl K n X0)
 (by intro _ _ _ _ _ hs;exact absurd hs Bool.false_ne_true)
 (by intro P0 S0 hX0 zce zcN tot0 fromt0 zff hs hk zp1;subst zp1;exact hX _ (zbh (by kernel_rfl) (zc hs hk (fun hs hk=>(za7 hs fun hc hs=>And.intro hc (za7 hs fun hc hs=>And.intro hc (za7 hs fun hc hs=>And.intro hc (za7 hs fun hc hs=>And.intro hc (hX0 hs hk (zkQ (enc:=zbu) (i:=zce.toNat) (k:=0) (f:=zcN.get) (new:=(zbu (⟨(w64 (0 - (tg 80 tot0 (0+zce.toNat * 2+0)))),(tg 80 fromt0 (0+zce.toNat * 2+0))⟩:Span))) (v:=(⟨(w64 (0 - (tg 80 tot0 (0+zce.toNat * 2+0)))),(tg 80 fromt0 (0+zce.toNat * 2+0))⟩:Span)) rfl rfl))))))) (fun hs hk=>((zeB hk):Wk K [.one (.sl zcN.len 2 (fun i=>zbu (zcN.get i))),.one (.int .i64 (0:Int))])))))) _ hs hk zp1
def s26 (n:Net):((Sl Span)×Int) :=
  (cond ((s74 n (⟨0, fun _ => default⟩ : (Sl Int))).2 == 0)
 (cond ((0:Int) != (0:Int))
 ((⟨0,fun _=>default⟩:(Sl Span)),(0:Int))
 (zwx n (0:Int) (⟨n.Nodes.toNat,(fun _=>(⟨(0:Int),(0:Int)⟩:Span))⟩:Sl Span) (s75 (⟨(s74 n (⟨0,fun _=>default⟩:(Sl Int))).1.Net,((s74 n (⟨0,fun _=>default⟩:(Sl Int))).1.out)⟩:web) (0:Int)) (s76 (⟨(s74 n (⟨0,fun _=>default⟩:(Sl Int))).1.Net,((s74 n (⟨0,fun _=>default⟩:(Sl Int))).1.out)⟩:web) (0:Int))))
 (cond ((s74 n (⟨0, fun _ => default⟩ : (Sl Int))).2 != (0:Int))
 ((⟨0,fun _=>default⟩:(Sl Span)),(s74 n (⟨0,fun _=>default⟩:(Sl Int))).2)
 default))
def p26 (n:Net):Bool :=
  (cond ((s74 n (⟨0, fun _ => default⟩ : (Sl Int))).2 == 0)
 (decide ((p74 n (⟨0,fun _=>default⟩:(Sl Int))=true)) &&
 (cond ((0:Int) != (0:Int))
 true
 (decide ((p75 (⟨(s74 n (⟨0,fun _=>default⟩:(Sl Int))).1.Net,((s74 n (⟨0,fun _=>default⟩:(Sl Int))).1.out)⟩:web) (0:Int)=true)) &&
 (decide ((p76 (⟨(s74 n (⟨0,fun _=>default⟩:(Sl Int))).1.Net,((s74 n (⟨0,fun _=>default⟩:(Sl Int))).1.out)⟩:web) (0:Int)=true)) &&
 (decide ((0≤n.Nodes∧n.Nodes=n.Nodes∧n.Nodes≤1000000)) &&
 (zwy n (0:Int) (⟨n.Nodes.toNat,(fun _=>(⟨(0:Int),(0:Int)⟩:Span))⟩:Sl Span) (s75 (⟨(s74 n (⟨0,fun _=>default⟩:(Sl Int))).1.Net,((s74 n (⟨0,fun _=>default⟩:(Sl Int))).1.out)⟩:web) (0:Int)) (s76 (⟨(s74 n (⟨0,fun _=>default⟩:(Sl Int))).1.Net,((s74 n (⟨0,fun _=>default⟩:(Sl Int))).1.out)⟩:web) (0:Int))))))))
 (decide ((p74 n (⟨0,fun _=>default⟩:(Sl Int))=true)) &&
 (cond ((s74 n (⟨0, fun _ => default⟩ : (Sl Int))).2 != (0:Int))
 true
 false)))
end
theorem q26 (n:Net) (K:List PA→Prop) (hs:p26 n=true) (hk:K (e26 (s26 n))):vcFun Tryd.prog G26 zCs 26 [.agg (zcn n)] (Wk K) :=
  zbh (by kernel_rfl) (zc hs hk (fun hs hk=>(za7 hs fun hc hs=>And.intro (And.intro (zE zaj 4 n.Ties.get) hc) (zc hs hk (fun hs hk=>((wk hk (zc5 (.one (.nil _ _)) (zc5 (.one (.rfl _)) zgw))):Wk K [.one (.nils),.one (.int .i64 (0:Int))])) (fun hs hk=>(za7 hs fun hc hs=>And.intro (And.intro (zE zaj 4 ((s74 n (⟨0,fun _=>default⟩:(Sl Int))).1.Net.Ties.get)) (And.intro (rfl:((false,1,false,[none]):MQ)=(false,1,false,[none])) hc)) (za7 hs fun hc hs=>And.intro (And.intro (zE zaj 4 ((s74 n (⟨0,fun _=>default⟩:(Sl Int))).1.Net.Ties.get)) (And.intro (rfl:((false,1,false,[none]):MQ)=(false,1,false,[none])) hc)) (za7 hs fun hc hs=>And.intro hc (zCt hs hk rfl)))))))) (fun hs hk=>(za7 hs fun hc hs=>And.intro (And.intro (zE zaj 4 n.Ties.get) hc) (zc hs hk (fun hs hk=>((wk hk (zc5 (.one (.nil _ _)) (zc5 (.one (.rfl _)) zgw))):Wk K [.one (.nils),.one (.int .i64 ((s74 n (⟨0,fun _=>default⟩:(Sl Int))).2))])) (fun hs hk=>(absurd hs Bool.false_ne_true:False))))))
def zCu : List PA → COut
  | [.agg [.int .i64 a0_Nodes,.sl a0_Ties_n a0_Ties_s a0_Ties_g]]=>.det (IsE zaj 4 a0_Ties_s a0_Ties_g∧p26 (⟨a0_Nodes,(⟨a0_Ties_n,zaa a0_Ties_g⟩:(Sl Tie))⟩:Net)=true) [.one (.sl (((s26 (⟨a0_Nodes,(⟨a0_Ties_n,zaa a0_Ties_g⟩:(Sl Tie))⟩:Net)).1).len) 2 (fun i=>zbu (((s26 (⟨a0_Nodes,(⟨a0_Ties_n,zaa a0_Ties_g⟩:(Sl Tie))⟩:Net)).1).get i))),.one (.int .i64 ((s26 (⟨a0_Nodes,(⟨a0_Ties_n,zaa a0_Ties_g⟩:(Sl Tie))⟩:Net)).2))]
  | _=>.no
theorem zFm:zas Tryd.prog 26:=⟨_,rfl,rfl,by kernel_rfl⟩
theorem zIw:Ok Tryd.prog 26 zCu:=zeW zG6 zFm fun args K h=>by
  unfold zCu at h
  split at h
  · rename_i a0_Nodes a0_Ties_n a0_Ties_s a0_Ties_g
    obtain ⟨⟨⟨rfl,a0_Ties_f,rfl⟩,hs⟩,hk⟩:=h
    try rw [zar a0_Ties_f] at hs
    try rw [zar a0_Ties_f] at hk
    exact ⟨_,zec zeA _,(fun _ _=>[]),(fun _=>false),zCs,q26 (⟨a0_Nodes,(⟨a0_Ties_n,a0_Ties_f⟩:(Sl Tie))⟩:Net) K hs hk⟩
  · exact h.elim
abbrev T29:Tabs:=Tabs.nil
theorem zG7:TabsOk Tryd.prog T29:=TabsOk.nil
abbrev G29:Ctrs:=csm T29 (fun _ _=>[]) (fun _=>false)
def zFn:Ann:=⟨13,[(0,zK [2,3,4] [2,3,4]),(1,zK [2,4] [2,4,7]),(2,zK [4] [4,7])],
 [],
 [],
 [],[]⟩
abbrev R29:=Net
abbrev e29 (r:R29):List PA:=[.agg [.int .i64 r.Nodes,.sl r.Ties.len 4 (fun i=>zaj (r.Ties.get i))]]
section
variable {K:List PA→Prop} {n:Net} {t:Tie}
def s29 (n:Net) (t:Tie):Net :=
  (⟨n.Nodes,(⟨(n.Ties.len+1),(zkP n.Ties.len n.Ties.get (fun _=>t))⟩:(Sl Tie))⟩:Net)
def p29 (n:Net) (t:Tie):Bool :=
  (decide ((n.Ties.len * 32≤140737488355328∧n.Ties.len≤9223372036854775807)) &&
 (decide (((n.Ties.len+1) * 32≤140737488355328∧n.Ties.len+1≤9223372036854775807)) &&
 true))
end
theorem q29 (n:Net) (t:Tie) (K:List PA→Prop) (hs:p29 n t=true) (hk:K (e29 (s29 n t))):vcFun Tryd.prog G29 zFn 29 [.agg (zcn n),.agg (zaj t)] K :=
  zbh (by kernel_rfl) (za7 hs fun hc hs=>And.intro hc (za7 hs fun hc hs=>And.intro hc (Eq.mpr (congrArg K (congrArg (fun (g_:Nat→List PV)=>([.agg [.int .i64 n.Nodes,.sl (n.Ties.len+1) 4 g_]]:List PA)) (zi3 (enc:=zaj) (f:=n.Ties.get) (h:=(fun _=>t)) rfl rfl))) hk)))
def zCv : List PA → COut
  | [.agg [.int .i64 a0_Nodes,.sl a0_Ties_n a0_Ties_s a0_Ties_g],.agg [.int .i64 a1_From,.int .i64 a1_To,.int .i64 a1_Low,.int .i64 a1_High]]=>.det (IsE zaj 4 a0_Ties_s a0_Ties_g∧p29 (⟨a0_Nodes,(⟨a0_Ties_n,zaa a0_Ties_g⟩:(Sl Tie))⟩:Net) (⟨a1_From,a1_To,a1_Low,a1_High⟩:Tie)=true) [.agg [.int .i64 ((s29 (⟨a0_Nodes,(⟨a0_Ties_n,zaa a0_Ties_g⟩:(Sl Tie))⟩:Net) (⟨a1_From,a1_To,a1_Low,a1_High⟩:Tie)).Nodes),.sl ((s29 (⟨a0_Nodes,(⟨a0_Ties_n,zaa a0_Ties_g⟩:(Sl Tie))⟩:Net) (⟨a1_From,a1_To,a1_Low,a1_High⟩:Tie)).Ties.len) 4 (fun i=>zaj ((s29 (⟨a0_Nodes,(⟨a0_Ties_n,zaa a0_Ties_g⟩:(Sl Tie))⟩:Net) (⟨a1_From,a1_To,a1_Low,a1_High⟩:Tie)).Ties.get i))]]
  | _=>.no
theorem zFo:zas Tryd.prog 29:=⟨_,rfl,rfl,by kernel_rfl⟩
theorem zIx:Ok Tryd.prog 29 zCv:=zbJ zG7 zFo fun args K h=>by
  unfold zCv at h
  split at h
  · rename_i a0_Nodes a0_Ties_n a0_Ties_s a0_Ties_g a1_From a1_To a1_Low a1_High
    obtain ⟨⟨⟨rfl,a0_Ties_f,rfl⟩,hs⟩,hk⟩:=h
    try rw [zar a0_Ties_f] at hs
    try rw [zar a0_Ties_f] at hk
    exact ⟨(fun _ _=>[]),(fun _=>false),zFn,q29 (⟨a0_Nodes,(⟨a0_Ties_n,a0_Ties_f⟩:(Sl Tie))⟩:Net) (⟨a1_From,a1_To,a1_Low,a1_High⟩:Tie) K hs hk⟩
  · exact h.elim
abbrev T32:Tabs:=Tabs.nil
theorem zG8:TabsOk Tryd.prog T32:=TabsOk.nil
abbrev G32:Ctrs:=csm T32 (fun _ _=>[]) (fun _=>false)
def zCw:Ann:=⟨26,[(0,zK [0,1] []),(1,zK [0,1,10] []),(2,zK [4] []),(3,zK [0,1,5] []),(4,zK [0,1,5,14] []),(5,zK [0,1,5] []),(6,zK [0,1,5,25] []),(7,zK [4] []),(8,zK [4] [])],
 [(4,zK [0,1,5] [])],
 [(3,zK [0,1] [])],
 [],[]⟩
abbrev R32:=Bool
abbrev e32 (r:R32):List PA:=[.one (.bool r)]
@[irreducible] def z32:=ptF Tryd.prog G32 zCw Tryd.f32
def zAj (a:(Sl Span)) (b:(Sl Span)) (iv1:Int):St:=⟨[(0,zS zbu 2 a),(1,zS zbu 2 b),(5,zI iv1)],[],[]⟩
abbrev zFp (K:List PA→Prop) (a:(Sl Span)) (b:(Sl Span)) (X:St→Prop) (P:Int→Bool) (S:Int→Bool):Prop:=∀ ⦃iv1:Int⦄,P iv1=true→K (e32 (S iv1))→X (zAj a b iv1)
section
variable {K:List PA→Prop} {a:(Sl Span)} {b:(Sl Span)} {iv1:Int} {X1:St→Prop} {P1:Int→Bool} {S1:Int→Bool}
def zwz (a:(Sl Span)) (b:(Sl Span)) (S1:Int→Bool) (iv1:Int):Bool :=
  (cond (decide (iv1 < (a.len : Int)))
 (cond (!(match ((a.get iv1.toNat).Low == (b.get iv1.toNat).Low) with | true => (match ((a.get iv1.toNat).High == (b.get iv1.toNat).High) with | true => true | false => false) | false => false))
 false
 (S1 (w64 (iv1+(1:Int)))))
 true)
def zwA (a:(Sl Span)) (b:(Sl Span)) (P1:Int→Bool) (iv1:Int):Bool :=
  (cond (decide (iv1 < (a.len : Int)))
 (decide ((0≤iv1∧iv1 < (a.len:Int))) &&
 (decide ((0≤iv1∧iv1 < (b.len:Int))) &&
 (cond (!(match ((a.get iv1.toNat).Low == (b.get iv1.toNat).Low) with | true => (match ((a.get iv1.toNat).High == (b.get iv1.toNat).High) with | true => true | false => false) | false => false))
 true
 (P1 (w64 (iv1+(1:Int)))))))
 true)
def zwB (a:(Sl Span)) (b:(Sl Span)):Nat→Int→Bool:=lpO (fun _=>default) (zwz a b)
def zwC (a:(Sl Span)) (b:(Sl Span)):Nat→Int→Bool:=lpO (fun _=>false) (zwA a b)
def zwD (a:(Sl Span)) (b:(Sl Span)) (iv1:Int):Bool:=zwB a b Fuel iv1
def zwE (a:(Sl Span)) (b:(Sl Span)) (iv1:Int):Bool:=zwC a b Fuel iv1
theorem zCx (hs:zwE a b iv1=true) (hk:K (e32 (zwD a b iv1))):z32 K [1,1,0,1,0] [] (zAj a b iv1) :=
  zl (fun X=>z32 K [1,1,0,1,0,0] [X]) (by kernel_rfl) fun X1 hX =>
  (show ∀ k, zFp K a b X1 (zwC a b k) (zwB a b k) from zkR _ _ (zwA a b) (zwz a b) (zFp K a b X1)
 (by intro _ hs;exact absurd hs Bool.false_ne_true)
 (by intro P1 S1 hX1 iv1 hs hk;exact hX _ (zbh (by kernel_rfl) (zc hs hk (fun hs hk=>(za7 hs fun hc hs=>And.intro hc (za7 hs fun hc hs=>And.intro hc (zc hs hk (fun hs hk=>hk) (fun hs hk=>(hX1 hs hk)))))) (fun hs hk=>hk))))) _ hs hk
def zwF (a:(Sl Span)) (b:(Sl Span)):Bool :=
  (zwD a b (0:Int))
def zwG (a:(Sl Span)) (b:(Sl Span)):Bool :=
  (zwE a b (0:Int))
theorem zCy (hs:zwG a b=true) (hk:K (e32 (zwF a b))):z32 K [1,1] [] ⟨[(0,zS zbu 2 a),(1,zS zbu 2 b)],[],[]⟩:=zbh (by kernel_rfl) (zCx hs hk)
def s32 (a:(Sl Span)) (b:(Sl Span)):Bool :=
  (cond ((a.len : Int) != (b.len : Int))
 false
 (zwF a b))
def p32 (a:(Sl Span)) (b:(Sl Span)):Bool :=
  (cond ((a.len : Int) != (b.len : Int))
 true
 (zwG a b))
end
theorem q32 (a:(Sl Span)) (b:(Sl Span)) (K:List PA→Prop) (hs:p32 a b=true) (hk:K (e32 (s32 a b))):vcFun Tryd.prog G32 zCw 32 [.one (.sl a.len 2 (fun i=>zbu (a.get i))),.one (.sl b.len 2 (fun i=>zbu (b.get i)))] K :=
  zbh (by kernel_rfl) (zc hs hk (fun hs hk=>hk) (fun hs hk=>(zCy hs hk)))
def zCz : List PA → COut
  | [.one (.sl a0_n a0_s a0_g),.one (.sl a1_n a1_s a1_g)]=>.det (IsE zbu 2 a0_s a0_g∧IsE zbu 2 a1_s a1_g∧p32 (⟨a0_n,zeX a0_g⟩:(Sl Span)) (⟨a1_n,zeX a1_g⟩:(Sl Span))=true) [.one (.bool (s32 (⟨a0_n,zeX a0_g⟩:(Sl Span)) (⟨a1_n,zeX a1_g⟩:(Sl Span))))]
  | _=>.no
theorem zFq:zas Tryd.prog 32:=⟨_,rfl,rfl,by kernel_rfl⟩
theorem ok32:Ok Tryd.prog 32 zCz:=zbJ zG8 zFq fun args K h=>by
  unfold zCz at h
  split at h
  · rename_i a0_n a0_s a0_g a1_n a1_s a1_g
    obtain ⟨⟨⟨rfl,a0_f,rfl⟩,⟨rfl,a1_f,rfl⟩,hs⟩,hk⟩:=h
    try rw [zes a0_f] at hs
    try rw [zes a0_f] at hk
    try rw [zes a1_f] at hs
    try rw [zes a1_f] at hk
    exact ⟨(fun _ _=>[]),(fun _=>false),zCw,q32 (⟨a0_n,a0_f⟩:(Sl Span)) (⟨a1_n,a1_f⟩:(Sl Span)) K hs hk⟩
  · exact h.elim
abbrev T83:Tabs:=((Tabs.nil.addF 75 zwi).addF 76 zwr)
theorem zG9:TabsOk Tryd.prog T83:=((TabsOk.nil.addF zG3).addF zG5)
abbrev G83:Ctrs:=csm T83 (fun _ _=>[]) (fun _=>false)
def zCA:Ann:=⟨31,[(0,zK [0] []),(1,zK [0,3,4] [3,4]),(2,zK [3,4,14,15] [3,4]),(3,zK [3,4,14,15,16] [3,4]),(4,zK [3,4,5,14,15] [3,4]),(5,zK [3,4,14,15,29] [3,4]),(6,zK [2] []),(7,zK [3,4,14,15] [3,4]),(8,zK [2] [])],
 [(3,zK [3,4,14,15] [3,4])],
 [(2,zK [0,3,4] [3,4])],
 [],[]⟩
abbrev R83:=Bool
abbrev e83 (r:R83):List PA:=[.one (.bool r)]
@[irreducible] def z83:=ptF Tryd.prog G83 zCA Tryd.f83
def zAk (w:web) (zcA:Int) (tot1:Tab) (fromt1:Tab):St:=⟨[(3,zp 3 0),(4,zp 4 0),(14,zI w.Net.Nodes),(15,zI zcA)],[(3,.box 116 (zm (zad tot1))),(4,.box 116 (zm (zad fromt1)))],[]⟩
abbrev zFr (K:List PA→Prop) (w:web) (X:St→Prop) (P:Int→Tab→Tab→Bool) (S:Int→Tab→Tab→Bool):Prop:=∀ ⦃zcA:Int⦄ ⦃tot1:Tab⦄ ⦃fromt1:Tab⦄,P zcA tot1 fromt1=true→K (e83 (S zcA tot1 fromt1))→X (zAk w zcA tot1 fromt1)
section
variable {K:List PA→Prop} {w:web} {tot0:Tab} {fromt0:Tab} {zcA:Int} {tot1:Tab} {fromt1:Tab} {X1:St→Prop} {P1:Int→Tab→Tab→Bool} {S1:Int→Tab→Tab→Bool}
def zwH (w:web) (S1:Int→Tab→Tab→Bool) (zcA:Int) (tot1:Tab) (fromt1:Tab):Bool :=
  (cond (decide (zcA < w.Net.Nodes))
 (cond (match ((tg 80 tot1 (0 + zcA.toNat * 2 + 0)) == (1000000000000:Int)) with | true => (match ((tg 80 tot1 (0 + zcA.toNat * 2 + 0 + 1)) == (0:Int)) with | true => true | false => false) | false => false)
 false
 (cond (match ((tg 80 fromt1 (0 + zcA.toNat * 2 + 0)) == (1000000000000:Int)) with | true => (match ((tg 80 fromt1 (0 + zcA.toNat * 2 + 0 + 1)) == (0:Int)) with | true => true | false => false) | false => false)
 false
 (S1 (w64 (zcA+(1:Int))) tot1 fromt1)))
 true)
def zwI (w:web) (P1:Int→Tab→Tab→Bool) (zcA:Int) (tot1:Tab) (fromt1:Tab):Bool :=
  (cond (decide (zcA < w.Net.Nodes))
 (decide ((0≤zcA∧zcA < (40:Int))) &&
 (cond (match ((tg 80 tot1 (0 + zcA.toNat * 2 + 0)) == (1000000000000:Int)) with | true => (match ((tg 80 tot1 (0 + zcA.toNat * 2 + 0 + 1)) == (0:Int)) with | true => true | false => false) | false => false)
 true
 (decide ((0≤zcA∧zcA < (40:Int))) &&
 (cond (match ((tg 80 fromt1 (0 + zcA.toNat * 2 + 0)) == (1000000000000:Int)) with | true => (match ((tg 80 fromt1 (0 + zcA.toNat * 2 + 0 + 1)) == (0:Int)) with | true => true | false => false) | false => false)
 true
 (P1 (w64 (zcA+(1:Int))) tot1 fromt1)))))
 true)
def zwJ (w:web):Nat→Int→Tab→Tab→Bool:=lpO (fun _ _ _=>default) (zwH w)
def zwK (w:web):Nat→Int→Tab→Tab→Bool:=lpO (fun _ _ _=>false) (zwI w)
def zwL (w:web) (zcA:Int) (tot1:Tab) (fromt1:Tab):Bool:=zwJ w Fuel zcA tot1 fromt1
def zwM (w:web) (zcA:Int) (tot1:Tab) (fromt1:Tab):Bool:=zwK w Fuel zcA tot1 fromt1
theorem zCB (hs:zwM w zcA tot1 fromt1=true) (hk:K (e83 (zwL w zcA tot1 fromt1))):z83 K [1,1,0,1,0] [] (zAk w zcA tot1 fromt1) :=
  zl (fun X=>z83 K [1,1,0,1,0,0] [X]) (by kernel_rfl) fun X1 hX =>
  (show ∀ k, zFr K w X1 (zwK w k) (zwJ w k) from zkR _ _ (zwI w) (zwH w) (zFr K w X1)
 (by intro _ _ _ hs;exact absurd hs Bool.false_ne_true)
 (by intro P1 S1 hX1 zcA tot1 fromt1 hs hk;exact hX _ (zbh (by kernel_rfl) (zc hs hk (fun hs hk=>(za7 hs fun hc hs=>And.intro hc (zc hs hk (fun hs hk=>hk) (fun hs hk=>(za7 hs fun hc hs=>And.intro hc (zc hs hk (fun hs hk=>hk) (fun hs hk=>(hX1 hs hk)))))))) (fun hs hk=>hk))))) _ hs hk
def zwN (w:web) (tot0:Tab) (fromt0:Tab):Bool :=
  (zwL w (0:Int) tot0 fromt0)
def zwO (w:web) (tot0:Tab) (fromt0:Tab):Bool :=
  (zwM w (0:Int) tot0 fromt0)
theorem zCC (hs:zwO w tot0 fromt0=true) (hk:K (e83 (zwN w tot0 fromt0))):z83 K [1,1] [] ⟨[(0,zP (.fp (zaw w) 0)),(3,zp 3 0),(4,zp 4 0)],[(3,.box 116 (zm (zad tot0))),(4,.box 116 (zm (zad fromt0)))],[]⟩:=zbh (by kernel_rfl) (zCB hs hk)
def s83 (w:web):Bool :=
  (zwN w (s75 w (0:Int)) (s76 w (0:Int)))
def p83 (w:web):Bool :=
  (decide ((p75 w (0:Int)=true)) &&
 (decide ((p76 w (0:Int)=true)) &&
 (zwO w (s75 w (0:Int)) (s76 w (0:Int)))))
end
theorem q83 (w:web) (K:List PA→Prop) (hs:p83 w=true) (hk:K (e83 (s83 w))):vcFun Tryd.prog G83 zCA 83 [.one (.fp (zaw w) 0)] K :=
  zbh (by kernel_rfl) (za7 hs fun hc hs=>And.intro (And.intro (zE zaj 4 w.Net.Ties.get) (And.intro (rfl:((false,1,false,[none]):MQ)=(false,1,false,[none])) hc)) (za7 hs fun hc hs=>And.intro (And.intro (zE zaj 4 w.Net.Ties.get) (And.intro (rfl:((false,1,false,[none]):MQ)=(false,1,false,[none])) hc)) (zCC hs hk)))
def zCD : List PA → COut
  | [.one (.fp [.int .i64 a0_Net_Nodes,.sl a0_Net_Ties_n a0_Net_Ties_s a0_Net_Ties_g,.fm a0_out_q a0_out_n a0_out_F] 0)]=>.det (IsE zaj 4 a0_Net_Ties_s a0_Net_Ties_g∧a0_out_q=(false,1,false,[none])∧p83 (⟨(⟨a0_Net_Nodes,(⟨a0_Net_Ties_n,zaa a0_Net_Ties_g⟩:(Sl Tie))⟩:Net),(⟨a0_out_n,a0_out_F⟩:Mp)⟩:web)=true) [.one (.bool (s83 (⟨(⟨a0_Net_Nodes,(⟨a0_Net_Ties_n,zaa a0_Net_Ties_g⟩:(Sl Tie))⟩:Net),(⟨a0_out_n,a0_out_F⟩:Mp)⟩:web)))]
  | _=>.no
theorem zFs:zas Tryd.prog 83:=⟨_,rfl,rfl,by kernel_rfl⟩
theorem zIy:Ok Tryd.prog 83 zCD:=zbJ zG9 zFs fun args K h=>by
  unfold zCD at h
  split at h
  · rename_i a0_Net_Nodes a0_Net_Ties_n a0_Net_Ties_s a0_Net_Ties_g a0_out_q a0_out_n a0_out_F
    obtain ⟨⟨⟨rfl,a0_Net_Ties_f,rfl⟩,rfl,hs⟩,hk⟩:=h
    try rw [zar a0_Net_Ties_f] at hs
    try rw [zar a0_Net_Ties_f] at hk
    exact ⟨(fun _ _=>[]),(fun _=>false),zCA,q83 (⟨(⟨a0_Net_Nodes,(⟨a0_Net_Ties_n,a0_Net_Ties_f⟩:(Sl Tie))⟩:Net),(⟨a0_out_n,a0_out_F⟩:Mp)⟩:web) K hs hk⟩
  · exact h.elim
abbrev T87:Tabs:=Tabs.nil
theorem zHa:TabsOk Tryd.prog T87:=TabsOk.nil
abbrev G87:Ctrs:=csm T87 (fun _ _=>[]) (fun _=>false)
def zFt:Ann:=⟨12,[(0,zK [0,1] []),(1,zK [3] [])],
 [],
 [],
 [],[]⟩
abbrev R87:=Int
abbrev e87 (r:R87):List PA:=[.one (.int .i64 r)]
section
variable {K:List PA→Prop} {c0:Tab} {i_a0:Int}
def s87 (c0:Tab) (i_a0:Int):Int :=
  (w64 ((tg 80 c0 (0+i_a0.toNat * 2+0)) - (tg 80 c0 (0+0 * 2+0))))
def p87 (c0:Tab) (i_a0:Int):Bool :=
  (decide ((0≤i_a0∧i_a0 < (40:Int))) &&
 (decide ((0≤(0:Int)∧(0:Int) < (40:Int))) &&
 true))
end
theorem q87 (c0:Tab) (i_a0:Int) (K:List PA→Prop) (hs:p87 c0 i_a0=true) (hk:K (e87 (s87 c0 i_a0))):vcFun Tryd.prog G87 zFt 87 [.one (.int .i64 i_a0),.one (.fp (zad c0) 0)] K :=
  zbh (by kernel_rfl) (za7 hs fun hc hs=>And.intro hc (za7 hs fun hc hs=>And.intro hc hk))
def zCE : List PA → COut
  | [.one (.int .i64 a0),.one (.fp c0_t 0)]=>.det (c0_t=zad (za6 c0_t)∧p87 (za6 c0_t) a0=true) [.one (.int .i64 (s87 (za6 c0_t) a0))]
  | _=>.no
theorem zFu:zas Tryd.prog 87:=⟨_,rfl,rfl,by kernel_rfl⟩
theorem zIz:Ok Tryd.prog 87 zCE:=zbJ zHa zFu fun args K h=>by
  unfold zCE at h
  split at h
  · rename_i a0 c0_t
    obtain ⟨⟨hT_c0,hs⟩,hk⟩:=h
    exact ⟨(fun _ _=>[]),(fun _=>false),zFt,(by have hq:=q87 (za6 c0_t) a0 K hs hk;rw [← hT_c0] at hq;exact hq)⟩
  · exact h.elim
abbrev T84:Tabs:=(Tabs.nil.addF 87 zCE)
theorem zHb:TabsOk Tryd.prog T84:=(TabsOk.nil.addF zIz)
abbrev G84:Ctrs:=csm T84 (fun _ _=>[]) (fun _=>false)
def zCF:Ann:=⟨26,[(0,zK [0,1] []),(1,zK [1,5] [12]),(2,zK [1,5,14,15] [12]),(3,zK [1,5,14,15,16] [12]),(4,zK [1,5,6,14,15] [12]),(5,zK [1,5,14,15] [12]),(6,zK [1,5,14,15] [12]),(7,zK [4] [12])],
 [(3,zK [1,5,14,15] [12])],
 [],
 [],[]⟩
abbrev R84:=(Sl Int)
abbrev e84 (r:R84):List PA:=[.one (.sl r.len 1 (fun i=>zai (r.get i)))]
@[irreducible] def z84:=ptF Tryd.prog G84 zCF Tryd.f84
def zAl (c0:Tab) (w:web) (zbg:Int) (zc3:(Sl Int)) (zfg:Nat→List PV):St:=⟨[(1,zP (.fn 87 [] [.fp (zad c0) 0])),(5,zv 12),(14,zI (w.Net.Nodes.toNat:Int)),(15,zI zbg)],[(12,.vec 3 1 8 zc3.len zfg)],[]⟩
abbrev zFv (K:List PA→Prop) (c0:Tab) (w:web) (X:St→Prop) (P:Int→(Sl Int)→Bool) (S:Int→(Sl Int)→(Sl Int)):Prop:=∀ ⦃zbg:Int⦄ ⦃zc3:(Sl Int)⦄ ⦃zfg:Nat→List PV⦄,P zbg zc3=true→K (e84 (S zbg zc3))→zfg=zg zai zc3→X (zAl c0 w zbg zc3 zfg)
section
variable {K:List PA→Prop} {c0:Tab} {w:web} {zbg:Int} {zc3:(Sl Int)} {zfg:Nat→List PV} {X0:St→Prop} {P0:Int→(Sl Int)→Bool} {S0:Int→(Sl Int)→(Sl Int)}
def zwP (c0:Tab) (w:web) (S0:Int→(Sl Int)→(Sl Int)) (zbg:Int) (zc3:(Sl Int)):(Sl Int) :=
  (cond (decide (zbg < (w.Net.Nodes.toNat : Int)))
 (S0 (w64 (zbg+(1:Int))) (⟨zc3.len,(setT zbg.toNat (s87 (za6 (zad c0)) zbg) zc3.get)⟩:Sl Int))
 zc3)
def zwQ (c0:Tab) (w:web) (P0:Int→(Sl Int)→Bool) (zbg:Int) (zc3:(Sl Int)):Bool :=
  (cond (decide (zbg < (w.Net.Nodes.toNat : Int)))
 (decide ((p87 (za6 (zad c0)) zbg=true)) &&
 (decide ((0≤zbg∧zbg < (zc3.len:Int))) &&
 (decide ((zbg.toNat < zc3.len)) &&
 (P0 (w64 (zbg+(1:Int))) (⟨zc3.len,(setT zbg.toNat (s87 (za6 (zad c0)) zbg) zc3.get)⟩:Sl Int)))))
 true)
def zwR (c0:Tab) (w:web):Nat→Int→(Sl Int)→(Sl Int):=lpO (fun _ _=>default) (zwP c0 w)
def zwS (c0:Tab) (w:web):Nat→Int→(Sl Int)→Bool:=lpO (fun _ _=>false) (zwQ c0 w)
def zwT (c0:Tab) (w:web) (zbg:Int) (zc3:(Sl Int)):(Sl Int):=zwR c0 w Fuel zbg zc3
def zwU (c0:Tab) (w:web) (zbg:Int) (zc3:(Sl Int)):Bool:=zwS c0 w Fuel zbg zc3
theorem zCG (hs:zwU c0 w zbg zc3=true) (hk:K (e84 (zwT c0 w zbg zc3))) (zp2:zfg=zg zai zc3):z84 K [1,1,0,1,0] [] (zAl c0 w zbg zc3 zfg) :=
  zl (fun X=>z84 K [1,1,0,1,0,0] [X]) (by kernel_rfl) fun X0 hX =>
  (show ∀ k, zFv K c0 w X0 (zwS c0 w k) (zwR c0 w k) from zkR _ _ (zwQ c0 w) (zwP c0 w) (zFv K c0 w X0)
 (by intro _ _ _ hs;exact absurd hs Bool.false_ne_true)
 (by intro P0 S0 hX0 zbg zc3 zfg hs hk zp2;subst zp2;exact hX _ (zbh (by kernel_rfl) (zc hs hk (fun hs hk=>(za7 hs fun hc hs=>And.intro (And.intro (zlN:zad c0=zad (za6 (zad c0))) hc) (za7 hs fun hc hs=>And.intro hc (za7 hs fun hc hs=>And.intro hc (hX0 hs hk (zkQ (enc:=zai) (i:=zbg.toNat) (k:=0) (f:=zc3.get) (new:=(zai (s87 (za6 (zad c0)) zbg))) (v:=(s87 (za6 (zad c0)) zbg)) rfl rfl)))))) (fun hs hk=>hk))))) _ hs hk zp2
def s84 (c0:Tab) (w:web):(Sl Int) :=
  (zwT c0 w (0:Int) (⟨w.Net.Nodes.toNat,(fun _=>(0:Int))⟩:Sl Int))
def p84 (c0:Tab) (w:web):Bool :=
  (decide ((0≤w.Net.Nodes∧w.Net.Nodes=w.Net.Nodes∧w.Net.Nodes≤1000000)) &&
 (zwU c0 w (0:Int) (⟨w.Net.Nodes.toNat,(fun _=>(0:Int))⟩:Sl Int)))
end
theorem q84 (c0:Tab) (w:web) (K:List PA→Prop) (hs:p84 c0 w=true) (hk:K (e84 (s84 c0 w))):vcFun Tryd.prog G84 zCF 84 [.one (.fp (zaw w) 0),.one (.fn 87 [] [.fp (zad c0) 0])] K :=
  zbh (by kernel_rfl) (za7 hs fun hc hs=>And.intro hc (zCG hs hk rfl))
def zCH : List PA → COut
  | [.one (.fp [.int .i64 a0_Net_Nodes,.sl a0_Net_Ties_n a0_Net_Ties_s a0_Net_Ties_g,.fm a0_out_q a0_out_n a0_out_F] 0),.one (.fn 87 [] [.fp c0_t 0])]=>.det (IsE zaj 4 a0_Net_Ties_s a0_Net_Ties_g∧a0_out_q=(false,1,false,[none])∧c0_t=zad (za6 c0_t)∧p84 (za6 c0_t) (⟨(⟨a0_Net_Nodes,(⟨a0_Net_Ties_n,zaa a0_Net_Ties_g⟩:(Sl Tie))⟩:Net),(⟨a0_out_n,a0_out_F⟩:Mp)⟩:web)=true) [.one (.sl ((s84 (za6 c0_t) (⟨(⟨a0_Net_Nodes,(⟨a0_Net_Ties_n,zaa a0_Net_Ties_g⟩:(Sl Tie))⟩:Net),(⟨a0_out_n,a0_out_F⟩:Mp)⟩:web)).len) 1 (fun i=>zai ((s84 (za6 c0_t) (⟨(⟨a0_Net_Nodes,(⟨a0_Net_Ties_n,zaa a0_Net_Ties_g⟩:(Sl Tie))⟩:Net),(⟨a0_out_n,a0_out_F⟩:Mp)⟩:web)).get i)))]
  | _=>.no
theorem zFw:zas Tryd.prog 84:=⟨_,rfl,rfl,by kernel_rfl⟩
theorem zIA:Ok Tryd.prog 84 zCH:=zbJ zHb zFw fun args K h=>by
  unfold zCH at h
  split at h
  · rename_i a0_Net_Nodes a0_Net_Ties_n a0_Net_Ties_s a0_Net_Ties_g a0_out_q a0_out_n a0_out_F c0_t
    obtain ⟨⟨⟨rfl,a0_Net_Ties_f,rfl⟩,rfl,hT_c0,hs⟩,hk⟩:=h
    try rw [zar a0_Net_Ties_f] at hs
    try rw [zar a0_Net_Ties_f] at hk
    exact ⟨(fun _ _=>[]),(fun _=>false),zCF,(by have hq:=q84 (za6 c0_t) (⟨(⟨a0_Net_Nodes,(⟨a0_Net_Ties_n,a0_Net_Ties_f⟩:(Sl Tie))⟩:Net),(⟨a0_out_n,a0_out_F⟩:Mp)⟩:web) K hs hk;rw [← hT_c0] at hq;exact hq)⟩
  · exact h.elim
abbrev T45:Tabs:=((((Tabs.nil.addF 74 zv9).addF 76 zwr).addF 83 zCD).addF 84 zCH)
theorem zHc:TabsOk Tryd.prog T45:=((((TabsOk.nil.addF zG1).addF zG5).addF zIy).addF zIA)
abbrev G45:Ctrs:=csm T45 (fun _ _=>[]) (fun _=>false)
def zFx:Ann:=⟨31,[(0,zK [1,2,3] [3]),(1,zK [1,8,9] []),(2,zK [1,8,9,20] []),(3,zK [6,7] []),(4,zK [1,8,24] []),(5,zK [6,7] []),(6,zK [8,10] [10]),(7,zK [6,7] [])],
 [],
 [],
 [],[]⟩
abbrev R45:=((Sl Int)×Int)
abbrev e45 (r:R45):List PA:=[.one (.sl r.1.len 1 (fun i=>zai (r.1.get i))),.one (.int .i64 r.2)]
section
variable {K:List PA→Prop} {n:Net} {from_a1:Int} {to:Int}
def s45 (n:Net) (from_a1:Int) (to:Int):((Sl Int)×Int) :=
  (cond ((s74 n (⟨2, zat (zbz [(zai from_a1), (zai to)])⟩ : (Sl Int))).2 == 0)
 (cond ((0:Int) != (0:Int))
 ((⟨0,fun _=>default⟩:(Sl Int)),(0:Int))
 (cond (!(s83 (⟨(s74 n (⟨2, zat (zbz [(zai from_a1), (zai to)])⟩ : (Sl Int))).1.Net, ((s74 n (⟨2, zat (zbz [(zai from_a1), (zai to)])⟩ : (Sl Int))).1.out)⟩ : web)))
 ((⟨0,fun _=>default⟩:(Sl Int)),(6:Int))
 ((s84 (za6 (zad (s76 (⟨(s74 n (⟨2,zat (zbz [(zai from_a1),(zai to)])⟩:(Sl Int))).1.Net,((s74 n (⟨2,zat (zbz [(zai from_a1),(zai to)])⟩:(Sl Int))).1.out)⟩:web) from_a1))) (⟨(s74 n (⟨2,zat (zbz [(zai from_a1),(zai to)])⟩:(Sl Int))).1.Net,((s74 n (⟨2,zat (zbz [(zai from_a1),(zai to)])⟩:(Sl Int))).1.out)⟩:web)),(0:Int))))
 (cond ((s74 n (⟨2, zat (zbz [(zai from_a1), (zai to)])⟩ : (Sl Int))).2 != (0:Int))
 ((⟨0,fun _=>default⟩:(Sl Int)),(s74 n (⟨2,zat (zbz [(zai from_a1),(zai to)])⟩:(Sl Int))).2)
 default))
def p45 (n:Net) (from_a1:Int) (to:Int):Bool :=
  (cond ((s74 n (⟨2, zat (zbz [(zai from_a1), (zai to)])⟩ : (Sl Int))).2 == 0)
 (decide ((p74 n (⟨2,zat (zbz [(zai from_a1),(zai to)])⟩:(Sl Int))=true)) &&
 (cond ((0:Int) != (0:Int))
 true
 (decide ((p83 (⟨(s74 n (⟨2,zat (zbz [(zai from_a1),(zai to)])⟩:(Sl Int))).1.Net,((s74 n (⟨2,zat (zbz [(zai from_a1),(zai to)])⟩:(Sl Int))).1.out)⟩:web)=true)) &&
 (cond (!(s83 (⟨(s74 n (⟨2, zat (zbz [(zai from_a1), (zai to)])⟩ : (Sl Int))).1.Net, ((s74 n (⟨2, zat (zbz [(zai from_a1), (zai to)])⟩ : (Sl Int))).1.out)⟩ : web)))
 true
 (decide ((p76 (⟨(s74 n (⟨2,zat (zbz [(zai from_a1),(zai to)])⟩:(Sl Int))).1.Net,((s74 n (⟨2,zat (zbz [(zai from_a1),(zai to)])⟩:(Sl Int))).1.out)⟩:web) from_a1=true)) &&
 (decide ((p84 (za6 (zad (s76 (⟨(s74 n (⟨2,zat (zbz [(zai from_a1),(zai to)])⟩:(Sl Int))).1.Net,((s74 n (⟨2,zat (zbz [(zai from_a1),(zai to)])⟩:(Sl Int))).1.out)⟩:web) from_a1))) (⟨(s74 n (⟨2,zat (zbz [(zai from_a1),(zai to)])⟩:(Sl Int))).1.Net,((s74 n (⟨2,zat (zbz [(zai from_a1),(zai to)])⟩:(Sl Int))).1.out)⟩:web)=true)) &&
 true))))))
 (decide ((p74 n (⟨2,zat (zbz [(zai from_a1),(zai to)])⟩:(Sl Int))=true)) &&
 (cond ((s74 n (⟨2, zat (zbz [(zai from_a1), (zai to)])⟩ : (Sl Int))).2 != (0:Int))
 true
 false)))
end
theorem q45 (n:Net) (from_a1:Int) (to:Int) (K:List PA→Prop) (hs:p45 n from_a1 to=true) (hk:K (e45 (s45 n from_a1 to))):vcFun Tryd.prog G45 zFx 45 [.agg (zcn n),.one (.int .i64 from_a1),.one (.int .i64 to)] (Wk K) :=
  zbh (by kernel_rfl) (zc hs hk (fun hs hk=>(za7 hs fun hc hs=>And.intro (And.intro (zE zaj 4 n.Ties.get) (And.intro ((zdS []):IsE zai 1 1 (zbz [(zai from_a1),(zai to)])) hc)) (zc hs hk (fun hs hk=>((wk hk (zc5 (.one (.nil _ _)) (zc5 (.one (.rfl _)) zgw))):Wk K [.one (.nils),.one (.int .i64 (0:Int))])) (fun hs hk=>(za7 hs fun hc hs=>And.intro (And.intro (zE zaj 4 ((s74 n (⟨2,zat (zbz [(zai from_a1),(zai to)])⟩:(Sl Int))).1.Net.Ties.get)) (And.intro (rfl:((false,1,false,[none]):MQ)=(false,1,false,[none])) hc)) (zc hs hk (fun hs hk=>((wk hk (zc5 (.one (.nil _ _)) (zc5 (.one (.rfl _)) zgw))):Wk K [.one (.nils),.one (.int .i64 (6:Int))])) (fun hs hk=>(za7 hs fun hc hs=>And.intro (And.intro (zE zaj 4 ((s74 n (⟨2,zat (zbz [(zai from_a1),(zai to)])⟩:(Sl Int))).1.Net.Ties.get)) (And.intro (rfl:((false,1,false,[none]):MQ)=(false,1,false,[none])) hc)) (za7 hs fun hc hs=>And.intro (And.intro (zE zaj 4 ((s74 n (⟨2,zat (zbz [(zai from_a1),(zai to)])⟩:(Sl Int))).1.Net.Ties.get)) (And.intro (rfl:((false,1,false,[none]):MQ)=(false,1,false,[none])) (And.intro (zlN:zad (s76 (⟨(s74 n (⟨2,zat (zbz [(zai from_a1),(zai to)])⟩:(Sl Int))).1.Net,((s74 n (⟨2,zat (zbz [(zai from_a1),(zai to)])⟩:(Sl Int))).1.out)⟩:web) from_a1)=zad (za6 (zad (s76 (⟨(s74 n (⟨2,zat (zbz [(zai from_a1),(zai to)])⟩:(Sl Int))).1.Net,((s74 n (⟨2,zat (zbz [(zai from_a1),(zai to)])⟩:(Sl Int))).1.out)⟩:web) from_a1)))) hc))) ((zeB hk):Wk K [.one (.sl ((s84 (za6 (zad (s76 (⟨(s74 n (⟨2,zat (zbz [(zai from_a1),(zai to)])⟩:(Sl Int))).1.Net,((s74 n (⟨2,zat (zbz [(zai from_a1),(zai to)])⟩:(Sl Int))).1.out)⟩:web) from_a1))) (⟨(s74 n (⟨2,zat (zbz [(zai from_a1),(zai to)])⟩:(Sl Int))).1.Net,((s74 n (⟨2,zat (zbz [(zai from_a1),(zai to)])⟩:(Sl Int))).1.out)⟩:web)).len) 1 (fun i=>zai ((s84 (za6 (zad (s76 (⟨(s74 n (⟨2,zat (zbz [(zai from_a1),(zai to)])⟩:(Sl Int))).1.Net,((s74 n (⟨2,zat (zbz [(zai from_a1),(zai to)])⟩:(Sl Int))).1.out)⟩:web) from_a1))) (⟨(s74 n (⟨2,zat (zbz [(zai from_a1),(zai to)])⟩:(Sl Int))).1.Net,((s74 n (⟨2,zat (zbz [(zai from_a1),(zai to)])⟩:(Sl Int))).1.out)⟩:web)).get i))),.one (.int .i64 (0:Int))])))))))))) (fun hs hk=>(za7 hs fun hc hs=>And.intro (And.intro (zE zaj 4 n.Ties.get) (And.intro ((zdS []):IsE zai 1 1 (zbz [(zai from_a1),(zai to)])) hc)) (zc hs hk (fun hs hk=>((wk hk (zc5 (.one (.nil _ _)) (zc5 (.one (.rfl _)) zgw))):Wk K [.one (.nils),.one (.int .i64 ((s74 n (⟨2,zat (zbz [(zai from_a1),(zai to)])⟩:(Sl Int))).2))])) (fun hs hk=>(absurd hs Bool.false_ne_true:False))))))
def zCI : List PA → COut
  | [.agg [.int .i64 a0_Nodes,.sl a0_Ties_n a0_Ties_s a0_Ties_g],.one (.int .i64 a1),.one (.int .i64 a2)]=>.det (IsE zaj 4 a0_Ties_s a0_Ties_g∧p45 (⟨a0_Nodes,(⟨a0_Ties_n,zaa a0_Ties_g⟩:(Sl Tie))⟩:Net) a1 a2=true) [.one (.sl (((s45 (⟨a0_Nodes,(⟨a0_Ties_n,zaa a0_Ties_g⟩:(Sl Tie))⟩:Net) a1 a2).1).len) 1 (fun i=>zai (((s45 (⟨a0_Nodes,(⟨a0_Ties_n,zaa a0_Ties_g⟩:(Sl Tie))⟩:Net) a1 a2).1).get i))),.one (.int .i64 ((s45 (⟨a0_Nodes,(⟨a0_Ties_n,zaa a0_Ties_g⟩:(Sl Tie))⟩:Net) a1 a2).2))]
  | _=>.no
theorem zFy:zas Tryd.prog 45:=⟨_,rfl,rfl,by kernel_rfl⟩
theorem zIB:Ok Tryd.prog 45 zCI:=zeW zHc zFy fun args K h=>by
  unfold zCI at h
  split at h
  · rename_i a0_Nodes a0_Ties_n a0_Ties_s a0_Ties_g a1 a2
    obtain ⟨⟨⟨rfl,a0_Ties_f,rfl⟩,hs⟩,hk⟩:=h
    try rw [zar a0_Ties_f] at hs
    try rw [zar a0_Ties_f] at hk
    exact ⟨_,zec zeA _,(fun _ _=>[]),(fun _=>false),zFx,q45 (⟨a0_Nodes,(⟨a0_Ties_n,a0_Ties_f⟩:(Sl Tie))⟩:Net) a1 a2 K hs hk⟩
  · exact h.elim
abbrev T49:Tabs:=(((Tabs.nil.addF 67 zsu).addF 88 zuG).addF 89 zzj)
theorem zHd:TabsOk Tryd.prog T49:=(((TabsOk.nil.addF zGd).addF zGE).addF zHR)
abbrev G49:Ctrs:=csm T49 (fun _ _=>[]) (fun _=>false)
def zCJ:Ann:=⟨31,[(0,zK [1] [1]),(1,zK [1,10] [1]),(2,zK [2,3] []),(3,zK [4] [13]),(4,zK [4,16] [13]),(5,zK [2,3] []),(6,zK [4,5] [13]),(7,zK [5,18,19,20] []),(8,zK [5,18,19,20,21] [28]),(9,zK [5,7,18,19,20] [7,28]),(10,zK [5,18,19,20] [28]),(11,zK [5,18,19,20] [28]),(12,zK [2,3] [28])],
 [(8,⟨[5,18,19,20],[28],[(5,28,75,fun _=>zaR default)],[],[],[],[]⟩)],
 [(2,zK [1,10] [1]),(3,zK [1] [1]),(5,zK [4,16] [13]),(6,zK [4] [13]),(8,zK [5,18,19,20] [])],
 [],[]⟩
abbrev R49:=((Sl Use)×Int)
abbrev e49 (r:R49):List PA:=[.one (.sl r.1.len 2 (fun i=>zaR (r.1.get i))),.one (.int .i64 r.2)]
@[irreducible] def z49:=ptF Tryd.prog G49 zCJ Tryd.f49
def zAm (zbW:(Sl step)) (zcB:Int) (zc9:Int) (zcK:(Sl Use)) (zfh:Nat→List PV):St:=⟨[(5,zv 28),(18,zS zae 5 zbW),(19,zI zcB),(20,zI zc9)],[(28,.vec 75 2 16 zcK.len zfh)],[]⟩
abbrev zFz (K:List PA→Prop) (zbW:(Sl step)) (zcB:Int) (X:St→Prop) (P:Int→(Sl Use)→Bool) (S:Int→(Sl Use)→((Sl Use)×Int)):Prop:=∀ ⦃zc9:Int⦄ ⦃zcK:(Sl Use)⦄ ⦃zfh:Nat→List PV⦄,P zc9 zcK=true→K (e49 (S zc9 zcK))→zfh=zg zaR zcK→X (zAm zbW zcB zc9 zcK zfh)
section
variable {K:List PA→Prop} {n:Net} {zaD:Bool} {zp3:Bool} {zbW:(Sl step)} {zcB:Int} {zwV:Nat→List PV} {zc9:Int} {zcK:(Sl Use)} {zfh:Nat→List PV} {X5:St→Prop} {P5:Int→(Sl Use)→Bool} {S5:Int→(Sl Use)→((Sl Use)×Int)}
def zwW (zbW:(Sl step)) (zcB:Int) (S5:Int→(Sl Use)→((Sl Use)×Int)) (zc9:Int) (zcK:(Sl Use)):((Sl Use)×Int) :=
  (cond (decide (zc9 < zcB))
 (S5 (w64 (zc9+(1:Int))) (⟨(zcK.len+1),(zkP zcK.len zcK.get (fun _=>(zbW.get zc9.toNat).Use))⟩:Sl Use))
 (zcK,(0:Int)))
def zwX (zbW:(Sl step)) (zcB:Int) (P5:Int→(Sl Use)→Bool) (zc9:Int) (zcK:(Sl Use)):Bool :=
  (cond (decide (zc9 < zcB))
 (decide ((0≤zc9∧zc9 < (zbW.len:Int))) &&
 (decide (((zcK.len+1) * 16≤140737488355328∧zcK.len+1≤9223372036854775807)) &&
 (P5 (w64 (zc9+(1:Int))) (⟨(zcK.len+1),(zkP zcK.len zcK.get (fun _=>(zbW.get zc9.toNat).Use))⟩:Sl Use))))
 true)
def zwY (zbW:(Sl step)) (zcB:Int):Nat→Int→(Sl Use)→((Sl Use)×Int):=lpO (fun _ _=>default) (zwW zbW zcB)
def zwZ (zbW:(Sl step)) (zcB:Int):Nat→Int→(Sl Use)→Bool:=lpO (fun _ _=>false) (zwX zbW zcB)
def zw0 (zbW:(Sl step)) (zcB:Int) (zc9:Int) (zcK:(Sl Use)):((Sl Use)×Int):=zwY zbW zcB Fuel zc9 zcK
def zw1 (zbW:(Sl step)) (zcB:Int) (zc9:Int) (zcK:(Sl Use)):Bool:=zwZ zbW zcB Fuel zc9 zcK
theorem zCK (hs:zw1 zbW zcB zc9 zcK=true) (hk:K (e49 (zw0 zbW zcB zc9 zcK))) (zp4:zfh=zg zaR zcK):z49 (Wk K) [1,1,1,1,1,0,1,0] [] (zAm zbW zcB zc9 zcK zfh) :=
  zl (fun X=>z49 (Wk K) [1,1,1,1,1,0,1,0,0] [X]) (by kernel_rfl) fun X5 hX =>
  (show ∀ k, zFz K zbW zcB X5 (zwZ zbW zcB k) (zwY zbW zcB k) from zkR _ _ (zwX zbW zcB) (zwW zbW zcB) (zFz K zbW zcB X5)
 (by intro _ _ _ hs;exact absurd hs Bool.false_ne_true)
 (by intro P5 S5 hX5 zc9 zcK zfh hs hk zp4;subst zp4;exact hX _ (zbh (by kernel_rfl) (zc hs hk (fun hs hk=>(za7 hs fun hc hs=>And.intro hc (za7 hs fun hc hs=>And.intro hc (hX5 hs hk (zi3 (enc:=zaR) (f:=zcK.get) (h:=(fun _=>(zbW.get zc9.toNat).Use)) rfl rfl))))) (fun hs hk=>((zeB hk):Wk K [.one (.sl zcK.len 2 (fun i=>zaR (zcK.get i))),.one (.int .i64 (0:Int))])))))) _ hs hk zp4
def zw2 (zbW:(Sl step)) (zcB:Int):((Sl Use)×Int) :=
  (zw0 zbW zcB (0:Int) (⟨0,(fun _=>default)⟩:Sl Use))
def zw3 (zbW:(Sl step)) (zcB:Int):Bool :=
  (zw1 zbW zcB (0:Int) (⟨0,(fun _=>default)⟩:Sl Use))
theorem zCL (hs:zw3 zbW zcB=true) (hk:K (e49 (zw2 zbW zcB))) (zCM:zwV=zg zae zbW):z49 (Wk K) [1,1,1,1,1,0,1] [] ⟨[(5,zP (.nils)),(18,zP (.sl zbW.len 5 zwV)),(19,zI zcB),(20,zI (0:Int))],[],[]⟩:=by subst zCM;exact zbh (by kernel_rfl) (zCK hs hk rfl)
def zw4 (n:Net):((Sl Use)×Int) :=
  (zw2 (s89 (⟨n,(⟨0,(fun _=>none)⟩:Mp)⟩:web)) ((s89 (⟨n,(⟨0,(fun _=>none)⟩:Mp)⟩:web)).len:Int))
def zw5 (n:Net):Bool :=
  (decide ((p89 (⟨n,(⟨0,(fun _=>none)⟩:Mp)⟩:web)=true)) &&
 (zw3 (s89 (⟨n,(⟨0,(fun _=>none)⟩:Mp)⟩:web)) ((s89 (⟨n,(⟨0,(fun _=>none)⟩:Mp)⟩:web)).len:Int)))
theorem zCN (hs:zw5 n=true) (hk:K (e49 (zw4 n))):z49 (Wk K) [1,1,1,1] [] ⟨[(4,zp 13 0)],[(13,.box 105 (zm (zaw (⟨n,(⟨0,(fun _=>none)⟩:Mp)⟩:web))))],[]⟩:=zbh (by kernel_rfl) (za7 hs fun hc hs=>And.intro (And.intro ((fun _=>rfl):(∀ i,sc2 ((fun i=>zae ((s89 (⟨n,(⟨0,(fun _=>none)⟩:Mp)⟩:web)).get i)) i)=true)) (And.intro (zE zaj 4 n.Ties.get) (And.intro (rfl:((false,1,false,[none]):MQ)=(false,1,false,[none])) hc))) (zCL hs hk rfl))
def zw6 (n:Net) (zp3:Bool):((Sl Use)×Int) :=
  (cond zp3
 ((⟨0,fun _=>default⟩:(Sl Use)),(6:Int))
 (zw4 n))
def zw7 (n:Net) (zp3:Bool):Bool :=
  (cond zp3
 true
 (zw5 n))
theorem zCO (hs:zw7 n zp3=true) (hk:K (e49 (zw6 n zp3))):z49 (Wk K) [1,1,1,0,1] [] ⟨[(4,zp 13 0),(16,zB zp3)],[(13,.box 105 (zm (zaw (⟨n,(⟨0,(fun _=>none)⟩:Mp)⟩:web))))],[]⟩:=zbh (by kernel_rfl) (zc hs hk (fun hs hk=>((wk hk (zc5 (.one (.nil _ _)) (zc5 (.one (.rfl _)) zgw))):Wk K [.one (.nils),.one (.int .i64 (6:Int))])) (fun hs hk=>(zCN hs hk)))
def zw8 (n:Net):((Sl Use)×Int) :=
  (zw6 n (!(s88 (⟨n,(⟨0,(fun _=>none)⟩:Mp)⟩:web))))
def zw9 (n:Net):Bool :=
  (decide ((p88 (⟨n,(⟨0,(fun _=>none)⟩:Mp)⟩:web)=true)) &&
 (zw7 n (!(s88 (⟨n,(⟨0,(fun _=>none)⟩:Mp)⟩:web)))))
theorem zCP (hs:zw9 n=true) (hk:K (e49 (zw8 n))):z49 (Wk K) [1,1] [] ⟨[(1,zp 1 0)],[(1,.box 24 (zm (zcn n)))],[]⟩:=zbh (by kernel_rfl) (za7 hs fun hc hs=>And.intro (And.intro (zE zaj 4 n.Ties.get) (And.intro (rfl:((false,1,false,[none]):MQ)=(false,1,false,[none])) hc)) (zCO hs hk))
def zxa (n:Net) (zaD:Bool):((Sl Use)×Int) :=
  (cond zaD
 ((⟨0,fun _=>default⟩:(Sl Use)),(2:Int))
 (zw8 n))
def zxb (n:Net) (zaD:Bool):Bool :=
  (cond zaD
 true
 (zw9 n))
theorem zCQ (hs:zxb n zaD=true) (hk:K (e49 (zxa n zaD))):z49 (Wk K) [1,0,1] [] ⟨[(1,zp 1 0),(10,zB zaD)],[(1,.box 24 (zm (zcn n)))],[]⟩:=zbh (by kernel_rfl) (zc hs hk (fun hs hk=>((wk hk (zc5 (.one (.nil _ _)) (zc5 (.one (.rfl _)) zgw))):Wk K [.one (.nils),.one (.int .i64 (2:Int))])) (fun hs hk=>(zCP hs hk)))
def s49 (n:Net):((Sl Use)×Int) :=
  (zxa n (!(s67 n)))
def p49 (n:Net):Bool :=
  (decide ((p67 n=true)) &&
 (zxb n (!(s67 n))))
end
theorem q49 (n:Net) (K:List PA→Prop) (hs:p49 n=true) (hk:K (e49 (s49 n))):vcFun Tryd.prog G49 zCJ 49 [.agg (zcn n)] (Wk K) :=
  zbh (by kernel_rfl) (za7 hs fun hc hs=>And.intro (And.intro (zE zaj 4 n.Ties.get) hc) (zCQ hs hk))
def zCR : List PA → COut
  | [.agg [.int .i64 a0_Nodes,.sl a0_Ties_n a0_Ties_s a0_Ties_g]]=>.det (IsE zaj 4 a0_Ties_s a0_Ties_g∧p49 (⟨a0_Nodes,(⟨a0_Ties_n,zaa a0_Ties_g⟩:(Sl Tie))⟩:Net)=true) [.one (.sl (((s49 (⟨a0_Nodes,(⟨a0_Ties_n,zaa a0_Ties_g⟩:(Sl Tie))⟩:Net)).1).len) 2 (fun i=>zaR (((s49 (⟨a0_Nodes,(⟨a0_Ties_n,zaa a0_Ties_g⟩:(Sl Tie))⟩:Net)).1).get i))),.one (.int .i64 ((s49 (⟨a0_Nodes,(⟨a0_Ties_n,zaa a0_Ties_g⟩:(Sl Tie))⟩:Net)).2))]
  | _=>.no
theorem zFA:zas Tryd.prog 49:=⟨_,rfl,rfl,by kernel_rfl⟩
theorem zIC:Ok Tryd.prog 49 zCR:=zeW zHd zFA fun args K h=>by
  unfold zCR at h
  split at h
  · rename_i a0_Nodes a0_Ties_n a0_Ties_s a0_Ties_g
    obtain ⟨⟨⟨rfl,a0_Ties_f,rfl⟩,hs⟩,hk⟩:=h
    try rw [zar a0_Ties_f] at hs
    try rw [zar a0_Ties_f] at hk
    exact ⟨_,zec zeA _,(fun _ _=>[]),(fun _=>false),zCJ,q49 (⟨a0_Nodes,(⟨a0_Ties_n,a0_Ties_f⟩:(Sl Tie))⟩:Net) K hs hk⟩
  · exact h.elim
abbrev T53:Tabs:=Tabs.nil
theorem zHe:TabsOk Tryd.prog T53:=TabsOk.nil
abbrev G53:Ctrs:=csm T53 (fun _ _=>[]) (fun _=>false)
def zCS:Ann:=⟨26,[(0,zK [0,1] []),(1,zK [0,1,10] []),(2,zK [4] []),(3,zK [0,1,5] []),(4,zK [0,1,5,14] []),(5,zK [0,1,5] []),(6,zK [0,1,5,25] []),(7,zK [4] []),(8,zK [4] [])],
 [(4,zK [0,1,5] [])],
 [(3,zK [0,1] [])],
 [],[]⟩
abbrev R53:=Bool
abbrev e53 (r:R53):List PA:=[.one (.bool r)]
@[irreducible] def z53:=ptF Tryd.prog G53 zCS Tryd.f53
def zAn (a:(Sl Use)) (b:(Sl Use)) (iv1:Int):St:=⟨[(0,zS zaR 2 a),(1,zS zaR 2 b),(5,zI iv1)],[],[]⟩
abbrev zFB (K:List PA→Prop) (a:(Sl Use)) (b:(Sl Use)) (X:St→Prop) (P:Int→Bool) (S:Int→Bool):Prop:=∀ ⦃iv1:Int⦄,P iv1=true→K (e53 (S iv1))→X (zAn a b iv1)
section
variable {K:List PA→Prop} {a:(Sl Use)} {b:(Sl Use)} {iv1:Int} {X1:St→Prop} {P1:Int→Bool} {S1:Int→Bool}
def zxc (a:(Sl Use)) (b:(Sl Use)) (S1:Int→Bool) (iv1:Int):Bool :=
  (cond (decide (iv1 < (a.len : Int)))
 (cond (!(match ((a.get iv1.toNat).Tie == (b.get iv1.toNat).Tie) with | true => (match ((a.get iv1.toNat).Back == (b.get iv1.toNat).Back) with | true => true | false => false) | false => false))
 false
 (S1 (w64 (iv1+(1:Int)))))
 true)
def zxd (a:(Sl Use)) (b:(Sl Use)) (P1:Int→Bool) (iv1:Int):Bool :=
  (cond (decide (iv1 < (a.len : Int)))
 (decide ((0≤iv1∧iv1 < (a.len:Int))) &&
 (decide ((0≤iv1∧iv1 < (b.len:Int))) &&
 (cond (!(match ((a.get iv1.toNat).Tie == (b.get iv1.toNat).Tie) with | true => (match ((a.get iv1.toNat).Back == (b.get iv1.toNat).Back) with | true => true | false => false) | false => false))
 true
 (P1 (w64 (iv1+(1:Int)))))))
 true)
def zxe (a:(Sl Use)) (b:(Sl Use)):Nat→Int→Bool:=lpO (fun _=>default) (zxc a b)
def zxf (a:(Sl Use)) (b:(Sl Use)):Nat→Int→Bool:=lpO (fun _=>false) (zxd a b)
def zxg (a:(Sl Use)) (b:(Sl Use)) (iv1:Int):Bool:=zxe a b Fuel iv1
def zxh (a:(Sl Use)) (b:(Sl Use)) (iv1:Int):Bool:=zxf a b Fuel iv1
theorem zCT (hs:zxh a b iv1=true) (hk:K (e53 (zxg a b iv1))):z53 K [1,1,0,1,0] [] (zAn a b iv1) :=
  zl (fun X=>z53 K [1,1,0,1,0,0] [X]) (by kernel_rfl) fun X1 hX =>
  (show ∀ k, zFB K a b X1 (zxf a b k) (zxe a b k) from zkR _ _ (zxd a b) (zxc a b) (zFB K a b X1)
 (by intro _ hs;exact absurd hs Bool.false_ne_true)
 (by intro P1 S1 hX1 iv1 hs hk;exact hX _ (zbh (by kernel_rfl) (zc hs hk (fun hs hk=>(za7 hs fun hc hs=>And.intro hc (za7 hs fun hc hs=>And.intro hc (zc hs hk (fun hs hk=>hk) (fun hs hk=>(hX1 hs hk)))))) (fun hs hk=>hk))))) _ hs hk
def zxi (a:(Sl Use)) (b:(Sl Use)):Bool :=
  (zxg a b (0:Int))
def zxj (a:(Sl Use)) (b:(Sl Use)):Bool :=
  (zxh a b (0:Int))
theorem zCU (hs:zxj a b=true) (hk:K (e53 (zxi a b))):z53 K [1,1] [] ⟨[(0,zS zaR 2 a),(1,zS zaR 2 b)],[],[]⟩:=zbh (by kernel_rfl) (zCT hs hk)
def s53 (a:(Sl Use)) (b:(Sl Use)):Bool :=
  (cond ((a.len : Int) != (b.len : Int))
 false
 (zxi a b))
def p53 (a:(Sl Use)) (b:(Sl Use)):Bool :=
  (cond ((a.len : Int) != (b.len : Int))
 true
 (zxj a b))
end
theorem q53 (a:(Sl Use)) (b:(Sl Use)) (K:List PA→Prop) (hs:p53 a b=true) (hk:K (e53 (s53 a b))):vcFun Tryd.prog G53 zCS 53 [.one (.sl a.len 2 (fun i=>zaR (a.get i))),.one (.sl b.len 2 (fun i=>zaR (b.get i)))] K :=
  zbh (by kernel_rfl) (zc hs hk (fun hs hk=>hk) (fun hs hk=>(zCU hs hk)))
def zCV : List PA → COut
  | [.one (.sl a0_n a0_s a0_g),.one (.sl a1_n a1_s a1_g)]=>.det (IsE zaR 2 a0_s a0_g∧IsE zaR 2 a1_s a1_g∧p53 (⟨a0_n,zcT a0_g⟩:(Sl Use)) (⟨a1_n,zcT a1_g⟩:(Sl Use))=true) [.one (.bool (s53 (⟨a0_n,zcT a0_g⟩:(Sl Use)) (⟨a1_n,zcT a1_g⟩:(Sl Use))))]
  | _=>.no
theorem zFC:zas Tryd.prog 53:=⟨_,rfl,rfl,by kernel_rfl⟩
theorem zID:Ok Tryd.prog 53 zCV:=zbJ zHe zFC fun args K h=>by
  unfold zCV at h
  split at h
  · rename_i a0_n a0_s a0_g a1_n a1_s a1_g
    obtain ⟨⟨⟨rfl,a0_f,rfl⟩,⟨rfl,a1_f,rfl⟩,hs⟩,hk⟩:=h
    try rw [zcU a0_f] at hs
    try rw [zcU a0_f] at hk
    try rw [zcU a1_f] at hs
    try rw [zcU a1_f] at hk
    exact ⟨(fun _ _=>[]),(fun _=>false),zCS,q53 (⟨a0_n,a0_f⟩:(Sl Use)) (⟨a1_n,a1_f⟩:(Sl Use)) K hs hk⟩
  · exact h.elim
abbrev T92:Tabs:=((Tabs.nil.addF 93 znc).addI 110 zne)
theorem zHf:TabsOk Tryd.prog T92:=((TabsOk.nil.addF zDJ).addI zsw)
abbrev G92:Ctrs:=csm T92 (fun _ _=>[]) (fun _=>false)
def zhR:Ann:=⟨49,[(0,⟨[0,1,2,3,4],[0,1,2,3,4,4099],[],[],[],[],[]⟩),(1,⟨[0,1,2,3,4,7],[0,1,2,3,4,4099],[],[],[],[],[]⟩),(2,⟨[0,1,2,3,4,5,7],[0,1,2,3,4,5,4099],[],[],[],[],[]⟩),(3,⟨[0,1,2,3,4,5,7,41],[0,1,2,3,4,5,4099],[],[],[],[],[]⟩),(4,⟨[0,1,2,3,4,5],[0,1,2,3,4,5,4099],[],[],[],[],[]⟩),(5,⟨[0,1,2,3,4],[0,1,2,3,4,4099],[],[],[],[],[]⟩),(6,⟨[0,1,2,3,4],[0,1,2,3,4,4099],[],[],[],[],[]⟩),(7,⟨[0,1,2,3,4],[0,1,2,3,4,4099],[],[],[],[],[]⟩)],
 [(2,⟨[0,1,2,3,4,7],[0,1,2,3,4,4099],[],[],[],[],[]⟩)],
 [],
 [],[]⟩
def zfi (w:web) (at_:Int) (d:Tab) (out:(Sl Use)):St:=⟨[(0,.one (.c (.ptr 0 0))),(1,.one (.c (.ptr 1 0))),(2,.one (.c (.ptr 2 0))),(3,.one (.c (.ptr 3 0))),(4,.one (.c (.ptr 4 0))),(7,.one (.c (.p (.fn 110 [] [.fp [.fp (zaw w) 0] 0]))))],[(0,.box 102 [.p (.fp (zaw w) 0)]),(1,.box 3 [.p (.int .i64 at_)]),(2,.box 116 (zm (zad d))),(3,.box 67 [.vec 4099]),(4,.box 4 [.p (.bool false)]),(4099,.vec 75 2 16 out.len (fun i=>zaR (out.get i)))],[]⟩
def zj3 (K:List PA×List XA→Prop) (w:web) (at_:Int) (d:Tab) (out:(Sl Use)):Prop:=vc Tryd.prog G92 zhR (cdF Tryd.f92 [1,0,1,0]) (zak 0 (sqK Tryd.prog G92 zhR (cdF Tryd.f92 [1,1]) (zki Tryd.prog Tryd.f92 [.box 102 [.p (.fp (zaw w) 0)],.box 3 [.p (.int .i64 at_)],.box 116 (xcm (zad d)),.box 67 [.vec 75 2 16 out.len (fun i=>zaR (out.get i))]] (fun a b=>K (a,b))))) (zfi w at_ d out)
theorem zCW (w : web) (at_ : Int) (d : Tab) (out : (Sl Use)) (K : List PA × List XA → Prop) :
  ziZ Tryd.prog G92 zhR 92 [.box 102 [.p (.fp (zaw w) 0)],.box 3 [.p (.int .i64 at_)],.box 116 (xcm (zad d)),.box 67 [.vec 75 2 16 out.len (fun i=>zaR (out.get i))]] (fun a b=>K (a,b)) =
  ((IsE zaj 4 4 (fun i=>zaj (w.Net.Ties.get i))∧((false,1,false,[none]):MQ)=(false,1,false,[none])) ∧
 (zj3 K w at_ d out)):=by kernel_rfl
def znO (K:List PA×List XA→Prop) (w:web) (at_:Int) (d:Tab) (out:(Sl Use)):Prop :=
  (K ([.one (.bool false)],[.box 102 [.p (.fp (zaw w) 0)],.box 3 [.p (.int .i64 at_)],.box 116 (xcm (zad d)),.box 67 [.vec 75 2 16 out.len (fun i=>zaR (out.get i))]]))
def znP (K:List PA×List XA→Prop) (X0:List (List PA)→St→Prop) (y0:step) (rest0:List (List PA)) (w:web) (at_:Int) (d:Tab) (out:(Sl Use)):Prop :=
  (zbA (y0.from_ == at_)
 (((0≤y0.to∧y0.to < (40:Int))) ∧
 (zbA (!(match ((tg 80 d (0 + y0.to.toNat * 2 + 0)) == (1000000000000:Int)) with | true => (match ((tg 80 d (0 + y0.to.toNat * 2 + 0 + 1)) == (0:Int)) with | true => true | false => false) | false => false))
 (((0≤y0.to∧y0.to < (40:Int))) ∧
 (((0≤y0.to∧y0.to < (40:Int))) ∧
 (((0≤at_∧at_ < (40:Int))) ∧
 (zbA (match ((w64 ((tg 80 d (0 + y0.to.toNat * 2 + 0)) + y0.length)) == (tg 80 d (0 + at_.toNat * 2 + 0))) with | true => (match ((w64 ((tg 80 d (0 + y0.to.toNat * 2 + 1)) + (1:Int))) == (tg 80 d (0 + at_.toNat * 2 + 0 + 1))) with | true => true | false => false) | false => false)
 ((((out.len+1) * 16≤140737488355328∧out.len+1≤9223372036854775807)) ∧
 (K ([.one (.bool true)],[.box 102 [.p (.fp (zaw w) 0)],.box 3 [.p (.int .i64 y0.to)],.box 116 (xcm (zad d)),.box 67 [.vec 75 2 16 (out.len+1) (appG out.len (fun i=>zaR (out.get i)) (fun _=>(zaR y0.Use)))]])))
 (X0 rest0 (zfi w at_ d out))))))
 (X0 rest0 (zfi w at_ d out))))
 (X0 rest0 (zfi w at_ d out)))
theorem zp5 (K:List PA×List XA→Prop) (w:web) (at_:Int) (d:Tab) (out:(Sl Use)):(zak 0 (sqK Tryd.prog G92 zhR (cdF Tryd.f92 [1,1]) (zki Tryd.prog Tryd.f92 [.box 102 [.p (.fp (zaw w) 0)],.box 3 [.p (.int .i64 at_)],.box 116 (xcm (zad d)),.box 67 [.vec 75 2 16 out.len (fun i=>zaR (out.get i))]] (fun a b=>K (a,b))))) .normal (zfi w at_ d out)=znO K w at_ d out:=by kernel_rfl
theorem zp6 (K : List PA × List XA → Prop) (X0 : List (List PA) → St → Prop) (y0 : step) (rest0 : List (List PA)) (w : web) (at_ : Int) (d : Tab) (out : (Sl Use)) :
  zsL Tryd.prog G92 zhR 2 [8] (cd (cdF Tryd.f92 [1,0,1,0]) [0]) (cd (cdF Tryd.f92 [1,0,1,0]) [1]) X0 (zak 0 (sqK Tryd.prog G92 zhR (cdF Tryd.f92 [1,1]) (zki Tryd.prog Tryd.f92 [.box 102 [.p (.fp (zaw w) 0)],.box 3 [.p (.int .i64 at_)],.box 116 (xcm (zad d)),.box 67 [.vec 75 2 16 out.len (fun i=>zaR (out.get i))]] (fun a b=>K (a,b))))) [.agg (zae y0)] rest0 (zfi w at_ d out)=znP K X0 y0 rest0 w at_ d out:=by kernel_rfl
theorem zxk (K : List PA × List XA → Prop) (w : web) (at_ : Int) (d : Tab) (out : (Sl Use))
  (hsafe:IsE zaj 4 4 (fun i=>zaj (w.Net.Ties.get i))∧((false,1,false,[none]):MQ)=(false,1,false,[none])∧(zkj w=true)) (h:∀ X0:List (List PA)→St→Prop,(∀ (_:Unit),znO K w at_ d out→X0 [] (zfi w at_ d out))→(∀ (y:step) (rest:List (List PA)) (_:Unit),znP K X0 y rest w at_ d out→X0 ([.agg (zae y)] :: rest) (zfi w at_ d out))→X0 ((zha w).map fun y=>[.agg (zae y)]) (zfi w at_ d out)) :
  zj3 K w at_ d out:=by
  have e:zj3 K w at_ d out=((IsE zaj 4 4 (fun i=>zaj (w.Net.Ties.get i))∧((false,1,false,[none]):MQ)=(false,1,false,[none])∧(zkj w=true))∧∀ X:List (List PA)→St→Prop,(∀ s,(zak 0 (sqK Tryd.prog G92 zhR (cdF Tryd.f92 [1,1]) (zki Tryd.prog Tryd.f92 [.box 102 [.p (.fp (zaw w) 0)],.box 3 [.p (.int .i64 at_)],.box 116 (xcm (zad d)),.box 67 [.vec 75 2 16 out.len (fun i=>zaR (out.get i))]] (fun a b=>K (a,b))))) .normal s→X [] s)→(∀ y rest s,zsL Tryd.prog G92 zhR 2 [8] (cd (cdF Tryd.f92 [1,0,1,0]) [0]) (cd (cdF Tryd.f92 [1,0,1,0]) [1]) X (zak 0 (sqK Tryd.prog G92 zhR (cdF Tryd.f92 [1,1]) (zki Tryd.prog Tryd.f92 [.box 102 [.p (.fp (zaw w) 0)],.box 3 [.p (.int .i64 at_)],.box 116 (xcm (zad d)),.box 67 [.vec 75 2 16 out.len (fun i=>zaR (out.get i))]] (fun a b=>K (a,b))))) y rest s→X (y :: rest) s)→X ((zha w).map fun y=>[.agg (zae y)]) (zfi w at_ d out)):=by kernel_rfl
  refine zbh e ⟨hsafe,?_⟩
  intro X h0 h1
  refine h X (fun _ hs=>h0 _ ?_) (fun y rest _ hs=>h1 _ rest _ ?_)
  · rw [zp5 K w at_ d out];exact hs
  · have e2 := zp6 K X y rest w at_ d out
    rw [e2];exact hs
abbrev e92 (w:web) (d:Tab) (r:(Bool×Int×(Sl Use))):List PA×List XA:=([.one (.bool r.1)],[.box 102 [.p (.fp (zaw w) 0)],.box 3 [.p (.int .i64 r.2.1)],.box 116 (xcm (zad d)),.box 67 [.vec 75 2 16 r.2.2.len (fun i=>zaR (r.2.2.get i))]])
attribute [irreducible] zj3
def zp7 (w:web) (at_:Int) (d:Tab) (out:(Sl Use)):(Bool×Int×(Sl Use)) :=
  (false,at_,(⟨out.len,out.get⟩:(Sl Use)))
def zp8 (w:web) (at_:Int) (d:Tab) (out:(Sl Use)):Bool :=
  true
def zp9 (w:web) (at_:Int) (d:Tab) (out:(Sl Use)) (y0:step) (S0:(Bool×Int×(Sl Use))):(Bool×Int×(Sl Use)) :=
  (cond (y0.from_ == at_)
 (cond (!(match ((tg 80 d (0 + y0.to.toNat * 2 + 0)) == (1000000000000:Int)) with | true => (match ((tg 80 d (0 + y0.to.toNat * 2 + 0 + 1)) == (0:Int)) with | true => true | false => false) | false => false))
 (cond (match ((w64 ((tg 80 d (0 + y0.to.toNat * 2 + 0)) + y0.length)) == (tg 80 d (0 + at_.toNat * 2 + 0))) with | true => (match ((w64 ((tg 80 d (0 + y0.to.toNat * 2 + 1)) + (1:Int))) == (tg 80 d (0 + at_.toNat * 2 + 0 + 1))) with | true => true | false => false) | false => false)
 (true,y0.to,(⟨(out.len+1),(zkP out.len out.get (fun _=>y0.Use))⟩:(Sl Use)))
 (S0))
 (S0))
 (S0))
def zqa (w:web) (at_:Int) (d:Tab) (out:(Sl Use)) (y0:step) (P0:Bool):Bool :=
  (cond (y0.from_ == at_)
 (decide ((0≤y0.to∧y0.to < (40:Int))) &&
 (cond (!(match ((tg 80 d (0 + y0.to.toNat * 2 + 0)) == (1000000000000:Int)) with | true => (match ((tg 80 d (0 + y0.to.toNat * 2 + 0 + 1)) == (0:Int)) with | true => true | false => false) | false => false))
 (decide ((0≤y0.to∧y0.to < (40:Int))) &&
 (decide ((0≤y0.to∧y0.to < (40:Int))) &&
 (decide ((0≤at_∧at_ < (40:Int))) &&
 (cond (match ((w64 ((tg 80 d (0 + y0.to.toNat * 2 + 0)) + y0.length)) == (tg 80 d (0 + at_.toNat * 2 + 0))) with | true => (match ((w64 ((tg 80 d (0 + y0.to.toNat * 2 + 1)) + (1:Int))) == (tg 80 d (0 + at_.toNat * 2 + 0 + 1))) with | true => true | false => false) | false => false)
 (decide (((out.len+1) * 16≤140737488355328∧out.len+1≤9223372036854775807)) &&
 true)
 (P0)))))
 (P0)))
 (P0))
def zj4 (w : web) (at_ : Int) (d : Tab) (out : (Sl Use)) : List step → (Bool × Int × (Sl Use))
  | []=>zp7 w at_ d out
  | y :: r=>zp9 w at_ d out y (zj4 w at_ d out r)
def zj5 (w : web) (at_ : Int) (d : Tab) (out : (Sl Use)) : List step → Bool
  | []=>zp8 w at_ d out
  | y :: r=>zqa w at_ d out y (zj5 w at_ d out r)
def zxl (w:web) (at_:Int) (d:Tab) (out:(Sl Use)):(Bool×Int×(Sl Use)):=zj4 w at_ d out (zha w)
def zqb (w:web) (at_:Int) (d:Tab) (out:(Sl Use)):Bool:=decide ((zkj w=true)) && zj5 w at_ d out (zha w)
theorem zCX (K:List PA×List XA→Prop) (w:web) (at_:Int) (d:Tab) (out:(Sl Use)) (hs:zqb w at_ d out=true) (hk:K (e92 w d (zxl w at_ d out))):zj3 K w at_ d out:=by
  unfold zqb at hs
  rw [Bool.and_eq_true] at hs
  obtain ⟨hsf,hs⟩:=hs
  have hc:=of_decide_eq_true hsf
  refine zxk K w at_ d out ⟨isE,rfl,hc⟩ ?_
  intro X0 hexit hstep
  have key:∀ (l:List step),zj5 w at_ d out l=true→K (e92 w d (zj4 w at_ d out l))→X0 (l.map fun y=>[.agg (zae y)]) (zfi w at_ d out):=by
    intro l
    induction l with
    | nil =>
      intro hs hk
      refine hexit () ?_
      have hs:zp8 w at_ d out=true:=hs
      have hk:K (e92 w d (zp7 w at_ d out)):=hk
      unfold zp8 at hs
      unfold zp7 at hk
      exact hk
    | cons y0 l ih =>
      intro hs hk
      refine hstep y0 _ () ?_
      have hs:zqa w at_ d out y0 (zj5 w at_ d out l)=true:=hs
      have hk:K (e92 w d (zp9 w at_ d out y0 (zj4 w at_ d out l))):=hk
      unfold zqa at hs
      unfold zp9 at hk
      generalize zj4 w at_ d out l=S0 at hk ih
      generalize zj5 w at_ d out l=P0 at hs ih
      have hX0:=ih
      exact (zaP (K := fun r => K (e92 w d r))
 (fun hs hk => (za7 hs fun hc hs => ⟨hc, (zaP (K := fun r => K (e92 w d r))
 (fun hs hk => (za7 hs fun hc hs => ⟨hc, (za7 hs fun hc hs => ⟨hc, (za7 hs fun hc hs => ⟨hc, (zaP (K := fun r => K (e92 w d r))
 (fun hs hk=>(za7 hs fun hc hs=>⟨hc,(Eq.mpr (congrArg K (congrArg (fun (g_:Nat→List PV)=>(([.one (.bool true)],[.box 102 [.p (.fp (zaw w) 0)],.box 3 [.p (.int .i64 y0.to)],.box 116 (xcm (zad d)),.box 67 [.vec 75 2 16 (out.len+1) g_]]):List PA×List XA)) (zi3 (enc:=zaR) (f:=out.get) (h:=(fun _=>y0.Use)) rfl rfl))) hk)⟩))
 (fun hs hk=>(hX0 hs hk)) hs hk)⟩)⟩)⟩))
 (fun hs hk=>(hX0 hs hk)) hs hk)⟩))
 (fun hs hk=>(hX0 hs hk)) hs hk)
  exact key _ hs hk
def s92 (w:web) (at_:Int) (d:Tab) (out:(Sl Use)):(Bool×Int×(Sl Use)) :=
  (zxl w at_ d out)
def p92 (w:web) (at_:Int) (d:Tab) (out:(Sl Use)):Bool :=
  (zqb w at_ d out)
theorem q92 (w:web) (at_:Int) (d:Tab) (out:(Sl Use)) (K:List PA×List XA→Prop) (hs:p92 w at_ d out=true) (hk:K (e92 w d (s92 w at_ d out))):ziZ Tryd.prog G92 zhR 92 [.box 102 [.p (.fp (zaw w) 0)],.box 3 [.p (.int .i64 at_)],.box 116 (xcm (zad d)),.box 67 [.vec 75 2 16 out.len (fun i=>zaR (out.get i))]] (fun a b=>K (a,b)):=by
  refine zbh (zCW w at_ d out K) ?_
  unfold p92 at hs
  unfold s92 at hk
  exact ⟨⟨isE,rfl⟩,(zCX K w at_ d out hs hk)⟩
def zCY : MK
  | [.box 102 [.p (.fp [.int .i64 b0_Net_Nodes,.sl b0_Net_Ties_n b0_Net_Ties_s b0_Net_Ties_g,.fm b0_out_q b0_out_n b0_out_F] 0)],.box 3 [.p (.int .i64 b1)],.box 116 b2_cs,.box 67 [.vec 75 2 16 b3_n b3_g]]=>some (IsE zaj 4 b0_Net_Ties_s b0_Net_Ties_g∧b0_out_q=(false,1,false,[none])∧b2_cs=xcm (zad (za6 (unX b2_cs)))∧IsE zaR 2 2 b3_g∧p92 (⟨(⟨b0_Net_Nodes,(⟨b0_Net_Ties_n,zaa b0_Net_Ties_g⟩:(Sl Tie))⟩:Net),(⟨b0_out_n,b0_out_F⟩:Mp)⟩:web) b1 (za6 (unX b2_cs)) (⟨b3_n,zcT b3_g⟩:(Sl Use))=true,[.one (.bool ((s92 (⟨(⟨b0_Net_Nodes,(⟨b0_Net_Ties_n,zaa b0_Net_Ties_g⟩:(Sl Tie))⟩:Net),(⟨b0_out_n,b0_out_F⟩:Mp)⟩:web) b1 (za6 (unX b2_cs)) (⟨b3_n,zcT b3_g⟩:(Sl Use))).1))],[.box 102 [.p (.fp [.int .i64 b0_Net_Nodes,.sl b0_Net_Ties_n b0_Net_Ties_s b0_Net_Ties_g,.fm b0_out_q b0_out_n b0_out_F] 0)],.box 3 [.p (.int .i64 ((s92 (⟨(⟨b0_Net_Nodes,(⟨b0_Net_Ties_n,zaa b0_Net_Ties_g⟩:(Sl Tie))⟩:Net),(⟨b0_out_n,b0_out_F⟩:Mp)⟩:web) b1 (za6 (unX b2_cs)) (⟨b3_n,zcT b3_g⟩:(Sl Use))).2.1))],.box 116 b2_cs,.box 67 [.vec 75 2 16 (((s92 (⟨(⟨b0_Net_Nodes,(⟨b0_Net_Ties_n,zaa b0_Net_Ties_g⟩:(Sl Tie))⟩:Net),(⟨b0_out_n,b0_out_F⟩:Mp)⟩:web) b1 (za6 (unX b2_cs)) (⟨b3_n,zcT b3_g⟩:(Sl Use))).2.2).len) (fun i=>zaR (((s92 (⟨(⟨b0_Net_Nodes,(⟨b0_Net_Ties_n,zaa b0_Net_Ties_g⟩:(Sl Tie))⟩:Net),(⟨b0_out_n,b0_out_F⟩:Mp)⟩:web) b1 (za6 (unX b2_cs)) (⟨b3_n,zcT b3_g⟩:(Sl Use))).2.2).get i))]])
  | _=>none
theorem zFD:zas Tryd.prog 92:=⟨_,rfl,rfl,by kernel_rfl⟩
theorem zIE:zhP Tryd.prog 92 zCY:=zA7 zHf zFD fun xs safe rs ys h hs K hk=>by
  unfold zCY at h
  split at h
  · rename_i b0_Net_Nodes b0_Net_Ties_n b0_Net_Ties_s b0_Net_Ties_g b0_out_q b0_out_n b0_out_F b1 b2_cs b3_n b3_g
    simp only [Option.some.injEq,Prod.mk.injEq] at h
    obtain ⟨rfl,rfl,rfl⟩:=h
    obtain ⟨⟨rfl,b0_Net_Ties_f,rfl⟩,rfl,hT_b2,⟨_,b3_f,rfl⟩,hs⟩:=hs
    try rw [zar b0_Net_Ties_f] at hs
    try rw [zar b0_Net_Ties_f] at hk
    try rw [zcU b3_f] at hs
    try rw [zcU b3_f] at hk
    refine ⟨fun _ _=>[],fun _=>false,zhR,?_⟩
    show ziZ Tryd.prog G92 zhR 92 _ K
    have hq:=q92 (⟨(⟨b0_Net_Nodes,(⟨b0_Net_Ties_n,b0_Net_Ties_f⟩:(Sl Tie))⟩:Net),(⟨b0_out_n,b0_out_F⟩:Mp)⟩:web) b1 (za6 (unX b2_cs)) (⟨b3_n,b3_f⟩:(Sl Use)) (fun x=>K x.1 x.2) hs
    dsimp only [e92] at hq
    rw [← hT_b2] at hq
    exact hq hk
  · cases h
abbrev T54:Tabs:=(((Tabs.nil.addF 74 zv9).addF 75 zwi).addM 92 zCY)
theorem zHg:TabsOk Tryd.prog T54:=(((TabsOk.nil.addF zG1).addF zG3).addM zIE)
abbrev G54:Ctrs:=csm T54 (fun _ _=>[]) (fun _=>false)
def zCZ:Ann:=⟨45,[(0,zK [1,2,3] [3]),(1,zK [1,2,8,9] [8]),(2,zK [1,2,8,9,23] [8]),(3,zK [6,7] []),(4,zK [1,8,10] [8,10]),(5,zK [1,8,10,32] [8,10]),(6,zK [6,7] []),(7,zK [1,8,10,11] [8,10,11]),(8,zK [8,10,11,12] [8,10,11,12]),(9,zK [10,11,12,13] [8,10,11,12]),(10,zK [10,11,12,13,43] [8,10,11,12,5000]),(11,zK [6,7] [5000])],
 [(10,⟨[10,11,12,13],[8,10,11,12,5000],[],[(11,0,5000,75,fun _=>zaR default)],[],[],[]⟩)],
 [],
 [],[]⟩
abbrev R54:=((Sl Use)×Int)
abbrev e54 (r:R54):List PA:=[.one (.sl r.1.len 2 (fun i=>zaR (r.1.get i))),.one (.int .i64 r.2)]
@[irreducible] def z54:=ptF Tryd.prog G54 zCZ Tryd.f54
def zAo (n:Net) (from_a1:Int) (to:Int) (zf8:Int) (zaX:(Sl Use)) (dt0:Tab) (zc4:Nat→List PV):St:=⟨[(10,zp 10 0),(11,zp 11 0),(12,zp 12 0),(13,.one (.c (.clo 92 [.b 8,.b 12,.b 10,.b 11])))],[(8,.box 102 [.p (.fp (zaw (⟨(s74 n (⟨2,zat (zbz [(zai from_a1),(zai to)])⟩:(Sl Int))).1.Net,((s74 n (⟨2,zat (zbz [(zai from_a1),(zai to)])⟩:(Sl Int))).1.out)⟩:web)) 0)]),(10,.box 116 (zm (zad dt0))),(11,.box 67 [.vec 5000]),(12,.box 3 [zi zf8]),(5000,.vec 75 2 16 zaX.len zc4)],[]⟩
abbrev zFE (K:List PA→Prop) (n:Net) (from_a1:Int) (to:Int) (X:St→Prop) (P:Int→(Sl Use)→Tab→Bool) (S:Int→(Sl Use)→Tab→((Sl Use)×Int)):Prop:=∀ ⦃zf8:Int⦄ ⦃zaX:(Sl Use)⦄ ⦃dt0:Tab⦄ ⦃zc4:Nat→List PV⦄,P zf8 zaX dt0=true→K (e54 (S zf8 zaX dt0))→zc4=zg zaR zaX→X (zAo n from_a1 to zf8 zaX dt0 zc4)
section
variable {K:List PA→Prop} {n:Net} {from_a1:Int} {to:Int} {zf8:Int} {zaX:(Sl Use)} {dt0:Tab} {zc4:Nat→List PV} {X0:St→Prop} {P0:Int→(Sl Use)→Tab→Bool} {S0:Int→(Sl Use)→Tab→((Sl Use)×Int)}
def zxm (n:Net) (from_a1:Int) (to:Int) (S0:Int→(Sl Use)→Tab→((Sl Use)×Int)) (zf8:Int) (zaX:(Sl Use)) (dt0:Tab):((Sl Use)×Int) :=
  (cond (decide ((tg 80 dt0 (0 + zf8.toNat * 2 + 1)) > (0:Int)))
 (cond ((s92 (⟨(s74 n (⟨2, zat (zbz [(zai from_a1), (zai to)])⟩ : (Sl Int))).1.Net, ((s74 n (⟨2, zat (zbz [(zai from_a1), (zai to)])⟩ : (Sl Int))).1.out)⟩ : web) zf8 (za6 (unX (xcm (zad dt0)))) (⟨zaX.len, zaX.get⟩ : (Sl Use))).1)
 (S0 ((s92 (⟨(s74 n (⟨2,zat (zbz [(zai from_a1),(zai to)])⟩:(Sl Int))).1.Net,((s74 n (⟨2,zat (zbz [(zai from_a1),(zai to)])⟩:(Sl Int))).1.out)⟩:web) zf8 (za6 (unX (xcm (zad dt0)))) (⟨zaX.len,zaX.get⟩:(Sl Use))).2.1) ((s92 (⟨(s74 n (⟨2,zat (zbz [(zai from_a1),(zai to)])⟩:(Sl Int))).1.Net,((s74 n (⟨2,zat (zbz [(zai from_a1),(zai to)])⟩:(Sl Int))).1.out)⟩:web) zf8 (za6 (unX (xcm (zad dt0)))) (⟨zaX.len,zaX.get⟩:(Sl Use))).2.2) dt0)
 (((s92 (⟨(s74 n (⟨2,zat (zbz [(zai from_a1),(zai to)])⟩:(Sl Int))).1.Net,((s74 n (⟨2,zat (zbz [(zai from_a1),(zai to)])⟩:(Sl Int))).1.out)⟩:web) zf8 (za6 (unX (xcm (zad dt0)))) (⟨zaX.len,zaX.get⟩:(Sl Use))).2.2),(0:Int)))
 (zaX,(0:Int)))
def zxn (n:Net) (from_a1:Int) (to:Int) (P0:Int→(Sl Use)→Tab→Bool) (zf8:Int) (zaX:(Sl Use)) (dt0:Tab):Bool :=
  (decide ((0≤zf8∧zf8 < (40:Int))) &&
 (cond (decide ((tg 80 dt0 (0 + zf8.toNat * 2 + 1)) > (0:Int)))
 (decide ((p92 (⟨(s74 n (⟨2,zat (zbz [(zai from_a1),(zai to)])⟩:(Sl Int))).1.Net,((s74 n (⟨2,zat (zbz [(zai from_a1),(zai to)])⟩:(Sl Int))).1.out)⟩:web) zf8 (za6 (unX (xcm (zad dt0)))) (⟨zaX.len,zaX.get⟩:(Sl Use))=true)) &&
 (cond ((s92 (⟨(s74 n (⟨2, zat (zbz [(zai from_a1), (zai to)])⟩ : (Sl Int))).1.Net, ((s74 n (⟨2, zat (zbz [(zai from_a1), (zai to)])⟩ : (Sl Int))).1.out)⟩ : web) zf8 (za6 (unX (xcm (zad dt0)))) (⟨zaX.len, zaX.get⟩ : (Sl Use))).1)
 (P0 ((s92 (⟨(s74 n (⟨2,zat (zbz [(zai from_a1),(zai to)])⟩:(Sl Int))).1.Net,((s74 n (⟨2,zat (zbz [(zai from_a1),(zai to)])⟩:(Sl Int))).1.out)⟩:web) zf8 (za6 (unX (xcm (zad dt0)))) (⟨zaX.len,zaX.get⟩:(Sl Use))).2.1) ((s92 (⟨(s74 n (⟨2,zat (zbz [(zai from_a1),(zai to)])⟩:(Sl Int))).1.Net,((s74 n (⟨2,zat (zbz [(zai from_a1),(zai to)])⟩:(Sl Int))).1.out)⟩:web) zf8 (za6 (unX (xcm (zad dt0)))) (⟨zaX.len,zaX.get⟩:(Sl Use))).2.2) dt0)
 true))
 true))
def zxo (n:Net) (from_a1:Int) (to:Int):Nat→Int→(Sl Use)→Tab→((Sl Use)×Int):=lpO (fun _ _ _=>default) (zxm n from_a1 to)
def zxp (n:Net) (from_a1:Int) (to:Int):Nat→Int→(Sl Use)→Tab→Bool:=lpO (fun _ _ _=>false) (zxn n from_a1 to)
def zxq (n:Net) (from_a1:Int) (to:Int) (zf8:Int) (zaX:(Sl Use)) (dt0:Tab):((Sl Use)×Int):=zxo n from_a1 to Fuel zf8 zaX dt0
def zxr (n:Net) (from_a1:Int) (to:Int) (zf8:Int) (zaX:(Sl Use)) (dt0:Tab):Bool:=zxp n from_a1 to Fuel zf8 zaX dt0
theorem zC0 (hs:zxr n from_a1 to zf8 zaX dt0=true) (hk:K (e54 (zxq n from_a1 to zf8 zaX dt0))) (zj6:zc4=zg zaR zaX):z54 (Wk K) [1,1,1,1,1,1,1,1,0,0] [] (zAo n from_a1 to zf8 zaX dt0 zc4) :=
  zl (fun X=>z54 (Wk K) [1,1,1,1,1,1,1,1,0,0,0] [X]) (by kernel_rfl) fun X0 hX =>
  (show ∀ k, zFE K n from_a1 to X0 (zxp n from_a1 to k) (zxo n from_a1 to k) from zkR _ _ (zxn n from_a1 to) (zxm n from_a1 to) (zFE K n from_a1 to X0)
 (by intro _ _ _ _ hs;exact absurd hs Bool.false_ne_true)
 (by intro P0 S0 hX0 zf8 zaX dt0 zc4 hs hk zj6;subst zj6;exact hX _ (zbh (by kernel_rfl) (za7 hs fun hc hs=>And.intro hc (zc hs hk (fun hs hk=>(za7 hs fun hc hs=>And.intro (And.intro (zE zaj 4 ((s74 n (⟨2,zat (zbz [(zai from_a1),(zai to)])⟩:(Sl Int))).1.Net.Ties.get)) (And.intro (rfl:((false,1,false,[none]):MQ)=(false,1,false,[none])) (And.intro (zA8:xcm (zad dt0)=xcm (zad (za6 (unX (xcm (zad dt0)))))) (And.intro (zE zaR 2 zaX.get) hc)))) (zc hs hk (fun hs hk=>(hX0 hs hk rfl)) (fun hs hk=>((zeB hk):Wk K [.one (.sl (((s92 (⟨(s74 n (⟨2,zat (zbz [(zai from_a1),(zai to)])⟩:(Sl Int))).1.Net,((s74 n (⟨2,zat (zbz [(zai from_a1),(zai to)])⟩:(Sl Int))).1.out)⟩:web) zf8 (za6 (unX (xcm (zad dt0)))) (⟨zaX.len,zaX.get⟩:(Sl Use))).2.2).len) 2 (fun i=>zaR (((s92 (⟨(s74 n (⟨2,zat (zbz [(zai from_a1),(zai to)])⟩:(Sl Int))).1.Net,((s74 n (⟨2,zat (zbz [(zai from_a1),(zai to)])⟩:(Sl Int))).1.out)⟩:web) zf8 (za6 (unX (xcm (zad dt0)))) (⟨zaX.len,zaX.get⟩:(Sl Use))).2.2).get i))),.one (.int .i64 (0:Int))]))))) (fun hs hk=>((zeB hk):Wk K [.one (.sl zaX.len 2 (fun i=>zaR (zaX.get i))),.one (.int .i64 (0:Int))]))))))) _ hs hk zj6
def s54 (n:Net) (from_a1:Int) (to:Int):((Sl Use)×Int) :=
  (cond ((s74 n (⟨2, zat (zbz [(zai from_a1), (zai to)])⟩ : (Sl Int))).2 == 0)
 (cond ((0:Int) != (0:Int))
 ((⟨0,fun _=>default⟩:(Sl Use)),(0:Int))
 (cond (match ((tg 80 (s75 (⟨(s74 n (⟨2, zat (zbz [(zai from_a1), (zai to)])⟩ : (Sl Int))).1.Net, ((s74 n (⟨2, zat (zbz [(zai from_a1), (zai to)])⟩ : (Sl Int))).1.out)⟩ : web) to) (0 + from_a1.toNat * 2 + 0)) == (1000000000000:Int)) with | true => (match ((tg 80 (s75 (⟨(s74 n (⟨2, zat (zbz [(zai from_a1), (zai to)])⟩ : (Sl Int))).1.Net, ((s74 n (⟨2, zat (zbz [(zai from_a1), (zai to)])⟩ : (Sl Int))).1.out)⟩ : web) to) (0 + from_a1.toNat * 2 + 0 + 1)) == (0:Int)) with | true => true | false => false) | false => false)
 ((⟨0,fun _=>default⟩:(Sl Use)),(6:Int))
 (zxq n from_a1 to from_a1 (⟨0,(fun _=>default)⟩:Sl Use) (s75 (⟨(s74 n (⟨2,zat (zbz [(zai from_a1),(zai to)])⟩:(Sl Int))).1.Net,((s74 n (⟨2,zat (zbz [(zai from_a1),(zai to)])⟩:(Sl Int))).1.out)⟩:web) to))))
 (cond ((s74 n (⟨2, zat (zbz [(zai from_a1), (zai to)])⟩ : (Sl Int))).2 != (0:Int))
 ((⟨0,fun _=>default⟩:(Sl Use)),(s74 n (⟨2,zat (zbz [(zai from_a1),(zai to)])⟩:(Sl Int))).2)
 default))
def p54 (n:Net) (from_a1:Int) (to:Int):Bool :=
  (cond ((s74 n (⟨2, zat (zbz [(zai from_a1), (zai to)])⟩ : (Sl Int))).2 == 0)
 (decide ((p74 n (⟨2,zat (zbz [(zai from_a1),(zai to)])⟩:(Sl Int))=true)) &&
 (cond ((0:Int) != (0:Int))
 true
 (decide ((p75 (⟨(s74 n (⟨2,zat (zbz [(zai from_a1),(zai to)])⟩:(Sl Int))).1.Net,((s74 n (⟨2,zat (zbz [(zai from_a1),(zai to)])⟩:(Sl Int))).1.out)⟩:web) to=true)) &&
 (decide ((0≤from_a1∧from_a1 < (40:Int))) &&
 (cond (match ((tg 80 (s75 (⟨(s74 n (⟨2, zat (zbz [(zai from_a1), (zai to)])⟩ : (Sl Int))).1.Net, ((s74 n (⟨2, zat (zbz [(zai from_a1), (zai to)])⟩ : (Sl Int))).1.out)⟩ : web) to) (0 + from_a1.toNat * 2 + 0)) == (1000000000000:Int)) with | true => (match ((tg 80 (s75 (⟨(s74 n (⟨2, zat (zbz [(zai from_a1), (zai to)])⟩ : (Sl Int))).1.Net, ((s74 n (⟨2, zat (zbz [(zai from_a1), (zai to)])⟩ : (Sl Int))).1.out)⟩ : web) to) (0 + from_a1.toNat * 2 + 0 + 1)) == (0:Int)) with | true => true | false => false) | false => false)
 true
 (zxr n from_a1 to from_a1 (⟨0,(fun _=>default)⟩:Sl Use) (s75 (⟨(s74 n (⟨2,zat (zbz [(zai from_a1),(zai to)])⟩:(Sl Int))).1.Net,((s74 n (⟨2,zat (zbz [(zai from_a1),(zai to)])⟩:(Sl Int))).1.out)⟩:web) to)))))))
 (decide ((p74 n (⟨2,zat (zbz [(zai from_a1),(zai to)])⟩:(Sl Int))=true)) &&
 (cond ((s74 n (⟨2, zat (zbz [(zai from_a1), (zai to)])⟩ : (Sl Int))).2 != (0:Int))
 true
 false)))
end
theorem q54 (n:Net) (from_a1:Int) (to:Int) (K:List PA→Prop) (hs:p54 n from_a1 to=true) (hk:K (e54 (s54 n from_a1 to))):vcFun Tryd.prog G54 zCZ 54 [.agg (zcn n),.one (.int .i64 from_a1),.one (.int .i64 to)] (Wk K) :=
  zbh (by kernel_rfl) (zc hs hk (fun hs hk=>(za7 hs fun hc hs=>And.intro (And.intro (zE zaj 4 n.Ties.get) (And.intro ((zdS []):IsE zai 1 1 (zbz [(zai from_a1),(zai to)])) hc)) (zc hs hk (fun hs hk=>((wk hk (zc5 (.one (.nil _ _)) (zc5 (.one (.rfl _)) zgw))):Wk K [.one (.nils),.one (.int .i64 (0:Int))])) (fun hs hk=>(za7 hs fun hc hs=>And.intro (And.intro (zE zaj 4 ((s74 n (⟨2,zat (zbz [(zai from_a1),(zai to)])⟩:(Sl Int))).1.Net.Ties.get)) (And.intro (rfl:((false,1,false,[none]):MQ)=(false,1,false,[none])) hc)) (za7 hs fun hc hs=>And.intro hc (zc hs hk (fun hs hk=>((wk hk (zc5 (.one (.nil _ _)) (zc5 (.one (.rfl _)) zgw))):Wk K [.one (.nils),.one (.int .i64 (6:Int))])) (fun hs hk=>(zC0 hs hk rfl))))))))) (fun hs hk=>(za7 hs fun hc hs=>And.intro (And.intro (zE zaj 4 n.Ties.get) (And.intro ((zdS []):IsE zai 1 1 (zbz [(zai from_a1),(zai to)])) hc)) (zc hs hk (fun hs hk=>((wk hk (zc5 (.one (.nil _ _)) (zc5 (.one (.rfl _)) zgw))):Wk K [.one (.nils),.one (.int .i64 ((s74 n (⟨2,zat (zbz [(zai from_a1),(zai to)])⟩:(Sl Int))).2))])) (fun hs hk=>(absurd hs Bool.false_ne_true:False))))))
def zC1 : List PA → COut
  | [.agg [.int .i64 a0_Nodes,.sl a0_Ties_n a0_Ties_s a0_Ties_g],.one (.int .i64 a1),.one (.int .i64 a2)]=>.det (IsE zaj 4 a0_Ties_s a0_Ties_g∧p54 (⟨a0_Nodes,(⟨a0_Ties_n,zaa a0_Ties_g⟩:(Sl Tie))⟩:Net) a1 a2=true) [.one (.sl (((s54 (⟨a0_Nodes,(⟨a0_Ties_n,zaa a0_Ties_g⟩:(Sl Tie))⟩:Net) a1 a2).1).len) 2 (fun i=>zaR (((s54 (⟨a0_Nodes,(⟨a0_Ties_n,zaa a0_Ties_g⟩:(Sl Tie))⟩:Net) a1 a2).1).get i))),.one (.int .i64 ((s54 (⟨a0_Nodes,(⟨a0_Ties_n,zaa a0_Ties_g⟩:(Sl Tie))⟩:Net) a1 a2).2))]
  | _=>.no
theorem zFF:zas Tryd.prog 54:=⟨_,rfl,rfl,by kernel_rfl⟩
theorem zIF:Ok Tryd.prog 54 zC1:=zeW zHg zFF fun args K h=>by
  unfold zC1 at h
  split at h
  · rename_i a0_Nodes a0_Ties_n a0_Ties_s a0_Ties_g a1 a2
    obtain ⟨⟨⟨rfl,a0_Ties_f,rfl⟩,hs⟩,hk⟩:=h
    try rw [zar a0_Ties_f] at hs
    try rw [zar a0_Ties_f] at hk
    exact ⟨_,zec zeA _,(fun _ _=>[]),(fun _=>false),zCZ,q54 (⟨a0_Nodes,(⟨a0_Ties_n,a0_Ties_f⟩:(Sl Tie))⟩:Net) a1 a2 K hs hk⟩
  · exact h.elim
abbrev T66:Tabs:=Tabs.nil
theorem zHh:TabsOk Tryd.prog T66:=TabsOk.nil
abbrev G66:Ctrs:=csm T66 (fun _ _=>[]) (fun _=>false)
def zFG:Ann:=⟨6,[(0,zK [0] [0]),(1,zK [0] [0,4])],
 [],
 [],
 [],[]⟩
abbrev R66:=Net
abbrev e66 (r:R66):List PA:=[.agg [.int .i64 r.Nodes,.sl r.Ties.len 4 (fun i=>zaj (r.Ties.get i))]]
section
variable {K:List PA→Prop}
def s66:Net :=
  (⟨(3:Int),(⟨3,(zn8 (⟨(0:Int),(1:Int),(5:Int),(8:Int)⟩:Tie) [(⟨(0:Int),(1:Int),(5:Int),(8:Int)⟩:Tie),(⟨(1:Int),(2:Int),(-2:Int),(3:Int)⟩:Tie),(⟨(2:Int),(0:Int),(-9:Int),(1000000000000:Int)⟩:Tie)])⟩:(Sl Tie))⟩:Net)
end
theorem q66 (K:List PA→Prop) (hk:K (e66 (s66))):vcFun Tryd.prog G66 zFG 66 [] K :=
  zbh (by kernel_rfl) (Eq.mpr (congrArg K (congrArg (fun (g_:Nat→List PV)=>([.agg [.int .i64 (3:Int),.sl 3 4 g_]]:List PA)) (zra (enc:=zaj) (x:=(⟨(0:Int),(1:Int),(5:Int),(8:Int)⟩:Tie)) (y:=(⟨(1:Int),(2:Int),(-2:Int),(3:Int)⟩:Tie)) (r:=[(⟨(2:Int),(0:Int),(-9:Int),(1000000000000:Int)⟩:Tie)])))) hk)
def zC2 : List PA → COut
  | []=>.tot [.agg [.int .i64 ((s66).Nodes),.sl ((s66).Ties.len) 4 (fun i=>zaj ((s66).Ties.get i))]]
  | _=>.no
theorem zFH:zas Tryd.prog 66:=⟨_,rfl,rfl,by kernel_rfl⟩
theorem zIG:Ok Tryd.prog 66 zC2:=zbJ zHh zFH fun args K h=>by
  unfold zC2 at h
  split at h
  · have hk := h
    exact ⟨(fun _ _=>[]),(fun _=>false),zFG,q66 K hk⟩
  · exact h.elim
abbrev T21:Tabs:=((((((((((Tabs.nil.addF 22 zB5).addF 25 zB9).addF 26 zCu).addF 29 zCv).addF 32 zCz).addF 45 zCI).addF 49 zCR).addF 53 zCV).addF 54 zC1).addF 66 zC2)
theorem zHi:TabsOk Tryd.prog T21:=((((((((((TabsOk.nil.addF zIu).addF zIv).addF zIw).addF zIx).addF ok32).addF zIB).addF zIC).addF zID).addF zIF).addF zIG)
abbrev G21:Ctrs:=csm T21 (fun _ _=>[]) (fun _=>false)
def zC3:Ann:=⟨87,[(0,zK [] []),(1,zK [1,2] []),(2,zK [1,2,3,4] []),(3,zK [1,2,3,4,5,6] []),(4,zK [1,2,3,4,5,6,7] [7]),(5,zK [1,2,3,4,5,6,7,8,9] [7]),(6,zK [1,2,3,4,5,6,8,9,10,11] []),(7,zK [1,3,5,8,10,57] []),(8,zK [0] []),(9,zK [0] [])],
 [],
 [(2,zK [1,2] []),(3,zK [1,2,3,4] []),(4,zK [1,2,3,4,5,6] []),(5,zK [1,2,3,4,5,6,7] [7]),(6,zK [1,2,3,4,5,6,7,8,9] [7]),(7,zK [1,2,3,4,5,6,8,9,10,11] []),(9,zK [1,3,5,8,10] [])],
 [],[]⟩
abbrev R21:=Bool
abbrev e21 (r:R21):List PA:=[.one (.bool r)]
@[irreducible] def z21:=ptF Tryd.prog G21 zC3 Tryd.f21
section
variable {K:List PA→Prop} {bv0:(Sl Span)} {ev0:Int} {zFI:Nat→List PV} {cv1:(Sl Use)} {fv1:Int} {zFJ:Nat→List PV} {vv2:(Sl Int)} {gv2:Int} {zFK:Nat→List PV} {zdJ:Int} {zda:(Sl Tie)} {zxs:Nat→List PV} {xv4:(Sl Use)} {hv4:Int} {zFL:Nat→List PV} {lv5:(Sl Int)} {iv5:Int} {zFM:Nat→List PV}
def zxt (bv0:(Sl Span)) (cv1:(Sl Use)) (vv2:(Sl Int)) (xv4:(Sl Use)) (lv5:(Sl Int)):Bool :=
  (cond (s32 bv0 (⟨3, zeX (zbz [(zbu (⟨(0:Int), (0:Int)⟩ : Span)), (zbu (⟨(5:Int), (8:Int)⟩ : Span)), (zbu (⟨(3:Int), (9:Int)⟩ : Span))])⟩ : (Sl Span)))
 (cond (s53 cv1 (⟨1, fun _ => (⟨(2:Int), true⟩ : Use)⟩ : (Sl Use)))
 (cond (s25 vv2 (⟨3, zat (zbz [(zai (0:Int)), (zai (5:Int)), (zai (8:Int))])⟩ : (Sl Int)))
 (cond (s53 xv4 (⟨2, zcT (zbz [(zaR (⟨(2:Int), true⟩ : Use)), (zaR (⟨(3:Int), true⟩ : Use))])⟩ : (Sl Use)))
 (s25 lv5 (⟨1,fun _=>(2:Int)⟩:(Sl Int)))
 false)
 false)
 false)
 false)
def zxu (bv0:(Sl Span)) (cv1:(Sl Use)) (vv2:(Sl Int)) (xv4:(Sl Use)) (lv5:(Sl Int)):Bool :=
  (decide ((p32 bv0 (⟨3,zeX (zbz [(zbu (⟨(0:Int),(0:Int)⟩:Span)),(zbu (⟨(5:Int),(8:Int)⟩:Span)),(zbu (⟨(3:Int),(9:Int)⟩:Span))])⟩:(Sl Span))=true)) &&
 (cond (s32 bv0 (⟨3, zeX (zbz [(zbu (⟨(0:Int), (0:Int)⟩ : Span)), (zbu (⟨(5:Int), (8:Int)⟩ : Span)), (zbu (⟨(3:Int), (9:Int)⟩ : Span))])⟩ : (Sl Span)))
 (decide ((p53 cv1 (⟨1,fun _=>(⟨(2:Int),true⟩:Use)⟩:(Sl Use))=true)) &&
 (cond (s53 cv1 (⟨1, fun _ => (⟨(2:Int), true⟩ : Use)⟩ : (Sl Use)))
 (decide ((p25 vv2 (⟨3,zat (zbz [(zai (0:Int)),(zai (5:Int)),(zai (8:Int))])⟩:(Sl Int))=true)) &&
 (cond (s25 vv2 (⟨3, zat (zbz [(zai (0:Int)), (zai (5:Int)), (zai (8:Int))])⟩ : (Sl Int)))
 (decide ((p53 xv4 (⟨2,zcT (zbz [(zaR (⟨(2:Int),true⟩:Use)),(zaR (⟨(3:Int),true⟩:Use))])⟩:(Sl Use))=true)) &&
 (cond (s53 xv4 (⟨2, zcT (zbz [(zaR (⟨(2:Int), true⟩ : Use)), (zaR (⟨(3:Int), true⟩ : Use))])⟩ : (Sl Use)))
 (decide ((p25 lv5 (⟨1,fun _=>(2:Int)⟩:(Sl Int))=true)) &&
 true)
 true))
 true))
 true))
 true))
theorem zC4 (hs:zxu bv0 cv1 vv2 xv4 lv5=true) (hk:K (e21 (zxt bv0 cv1 vv2 xv4 lv5))):z21 K [1,1,1,1,1,1,1,1] [] ⟨[(1,zS zbu 2 bv0),(3,zS zaR 2 cv1),(5,zS zai 1 vv2),(8,zS zaR 2 xv4),(10,zS zai 1 lv5)],[],[]⟩:=zbh (by kernel_rfl) (za7 hs fun hc hs=>And.intro (And.intro (zE zbu 2 bv0.get) (And.intro ((zdS [(⟨(3:Int),(9:Int)⟩:Span)]):IsE zbu 2 2 (zbz [(zbu (⟨(0:Int),(0:Int)⟩:Span)),(zbu (⟨(5:Int),(8:Int)⟩:Span)),(zbu (⟨(3:Int),(9:Int)⟩:Span))])) hc)) (zc hs hk (fun hs hk=>(za7 hs fun hc hs=>And.intro (And.intro (zE zaR 2 cv1.get) (And.intro (zup:IsE zaR 2 2 (fun _=>(zaR (⟨(2:Int),true⟩:Use)))) hc)) (zc hs hk (fun hs hk=>(za7 hs fun hc hs=>And.intro (And.intro (zE zai 1 vv2.get) (And.intro ((zdS [(8:Int)]):IsE zai 1 1 (zbz [(zai (0:Int)),(zai (5:Int)),(zai (8:Int))])) hc)) (zc hs hk (fun hs hk=>(za7 hs fun hc hs=>And.intro (And.intro (zE zaR 2 xv4.get) (And.intro ((zdS []):IsE zaR 2 2 (zbz [(zaR (⟨(2:Int),true⟩:Use)),(zaR (⟨(3:Int),true⟩:Use))])) hc)) (zc hs hk (fun hs hk=>(za7 hs fun hc hs=>And.intro (And.intro (zE zai 1 lv5.get) (And.intro (zup:IsE zai 1 1 (fun _=>(zai (2:Int)))) hc)) hk)) (fun hs hk=>hk)))) (fun hs hk=>hk)))) (fun hs hk=>hk)))) (fun hs hk=>hk)))
def zxv (bv0:(Sl Span)) (ev0:Int) (cv1:(Sl Use)) (fv1:Int) (vv2:(Sl Int)) (gv2:Int) (xv4:(Sl Use)) (hv4:Int) (lv5:(Sl Int)) (iv5:Int):Bool :=
  (cond (ev0 != (0:Int))
 false
 (cond (fv1 != (0:Int))
 false
 (cond (gv2 != (0:Int))
 false
 (cond (hv4 != (0:Int))
 false
 (cond (iv5 != (0:Int))
 false
 (zxt bv0 cv1 vv2 xv4 lv5))))))
def zxw (bv0:(Sl Span)) (ev0:Int) (cv1:(Sl Use)) (fv1:Int) (vv2:(Sl Int)) (gv2:Int) (xv4:(Sl Use)) (hv4:Int) (lv5:(Sl Int)) (iv5:Int):Bool :=
  (cond (ev0 != (0:Int))
 true
 (cond (fv1 != (0:Int))
 true
 (cond (gv2 != (0:Int))
 true
 (cond (hv4 != (0:Int))
 true
 (cond (iv5 != (0:Int))
 true
 (zxu bv0 cv1 vv2 xv4 lv5))))))
theorem zC5 (hs:zxw bv0 ev0 cv1 fv1 vv2 gv2 xv4 hv4 lv5 iv5=true) (hk:K (e21 (zxv bv0 ev0 cv1 fv1 vv2 gv2 xv4 hv4 lv5 iv5))) (zHj:zFM=zg zai lv5):z21 K [1,1,1,1,1,1,1] [] ⟨[(1,zS zbu 2 bv0),(2,zI ev0),(3,zS zaR 2 cv1),(4,zI fv1),(5,zS zai 1 vv2),(6,zI gv2),(8,zS zaR 2 xv4),(9,zI hv4),(10,zP (.sl lv5.len 1 zFM)),(11,zI iv5)],[],[]⟩:=by subst zHj;exact zbh (by kernel_rfl) (zc hs hk (fun hs hk=>hk) (fun hs hk=>(zc hs hk (fun hs hk=>hk) (fun hs hk=>(zc hs hk (fun hs hk=>hk) (fun hs hk=>(zc hs hk (fun hs hk=>hk) (fun hs hk=>(zc hs hk (fun hs hk=>hk) (fun hs hk=>(zC4 hs hk)))))))))))
def zxx (bv0:(Sl Span)) (ev0:Int) (cv1:(Sl Use)) (fv1:Int) (vv2:(Sl Int)) (gv2:Int) (zdJ:Int) (zda:(Sl Tie)) (xv4:(Sl Use)) (hv4:Int):Bool :=
  (zxv bv0 ev0 cv1 fv1 vv2 gv2 xv4 hv4 ((s22 (⟨zdJ,zda⟩:Net)).1) ((s22 (⟨zdJ,zda⟩:Net)).2))
def zxy (bv0:(Sl Span)) (ev0:Int) (cv1:(Sl Use)) (fv1:Int) (vv2:(Sl Int)) (gv2:Int) (zdJ:Int) (zda:(Sl Tie)) (xv4:(Sl Use)) (hv4:Int):Bool :=
  (decide ((p22 (⟨zdJ,zda⟩:Net)=true)) &&
 (zxw bv0 ev0 cv1 fv1 vv2 gv2 xv4 hv4 ((s22 (⟨zdJ,zda⟩:Net)).1) ((s22 (⟨zdJ,zda⟩:Net)).2)))
theorem zC6 (hs:zxy bv0 ev0 cv1 fv1 vv2 gv2 zdJ zda xv4 hv4=true) (hk:K (e21 (zxx bv0 ev0 cv1 fv1 vv2 gv2 zdJ zda xv4 hv4))) (zHk:zFL=zg zaR xv4):z21 K [1,1,1,1,1,1] [] ⟨[(1,zS zbu 2 bv0),(2,zI ev0),(3,zS zaR 2 cv1),(4,zI fv1),(5,zS zai 1 vv2),(6,zI gv2),(7,zp 7 0),(8,zP (.sl xv4.len 2 zFL)),(9,zI hv4)],[(7,.box 24 (zm (zcn (⟨zdJ,zda⟩:Net))))],[]⟩:=by subst zHk;exact zbh (by kernel_rfl) (za7 hs fun hc hs=>And.intro (And.intro (zE zaj 4 zda.get) hc) (zC5 hs hk rfl))
def zxz (bv0:(Sl Span)) (ev0:Int) (cv1:(Sl Use)) (fv1:Int) (vv2:(Sl Int)) (gv2:Int) (zdJ:Int) (zda:(Sl Tie)):Bool :=
  (zxx bv0 ev0 cv1 fv1 vv2 gv2 zdJ zda ((s49 (⟨zdJ,zda⟩:Net)).1) ((s49 (⟨zdJ,zda⟩:Net)).2))
def zxA (bv0:(Sl Span)) (ev0:Int) (cv1:(Sl Use)) (fv1:Int) (vv2:(Sl Int)) (gv2:Int) (zdJ:Int) (zda:(Sl Tie)):Bool :=
  (decide ((p49 (⟨zdJ,zda⟩:Net)=true)) &&
 (zxy bv0 ev0 cv1 fv1 vv2 gv2 zdJ zda ((s49 (⟨zdJ,zda⟩:Net)).1) ((s49 (⟨zdJ,zda⟩:Net)).2)))
theorem zC7 (hs:zxA bv0 ev0 cv1 fv1 vv2 gv2 zdJ zda=true) (hk:K (e21 (zxz bv0 ev0 cv1 fv1 vv2 gv2 zdJ zda))) (zC8:zxs=zg zaj zda):z21 K [1,1,1,1,1] [] ⟨[(1,zS zbu 2 bv0),(2,zI ev0),(3,zS zaR 2 cv1),(4,zI fv1),(5,zS zai 1 vv2),(6,zI gv2),(7,zp 7 0)],[(7,.box 24 [zi zdJ,.p (.sl zda.len 4 zxs)])],[]⟩:=by subst zC8;exact zbh (by kernel_rfl) (za7 hs fun hc hs=>And.intro (And.intro (zE zaj 4 zda.get) hc) (zC6 hs hk rfl))
def zxB (bv0:(Sl Span)) (ev0:Int) (cv1:(Sl Use)) (fv1:Int) (vv2:(Sl Int)) (gv2:Int):Bool :=
  (zxz bv0 ev0 cv1 fv1 vv2 gv2 ((s29 s66 (⟨(0:Int),(2:Int),(10:Int),(12:Int)⟩:Tie)).Nodes) ((s29 s66 (⟨(0:Int),(2:Int),(10:Int),(12:Int)⟩:Tie)).Ties))
def zxC (bv0:(Sl Span)) (ev0:Int) (cv1:(Sl Use)) (fv1:Int) (vv2:(Sl Int)) (gv2:Int):Bool :=
  (decide ((p29 s66 (⟨(0:Int),(2:Int),(10:Int),(12:Int)⟩:Tie)=true)) &&
 (zxA bv0 ev0 cv1 fv1 vv2 gv2 ((s29 s66 (⟨(0:Int),(2:Int),(10:Int),(12:Int)⟩:Tie)).Nodes) ((s29 s66 (⟨(0:Int),(2:Int),(10:Int),(12:Int)⟩:Tie)).Ties)))
theorem zC9 (hs:zxC bv0 ev0 cv1 fv1 vv2 gv2=true) (hk:K (e21 (zxB bv0 ev0 cv1 fv1 vv2 gv2))) (zHl:zFK=zg zai vv2):z21 K [1,1,1,1] [] ⟨[(1,zS zbu 2 bv0),(2,zI ev0),(3,zS zaR 2 cv1),(4,zI fv1),(5,zP (.sl vv2.len 1 zFK)),(6,zI gv2)],[],[]⟩:=by subst zHl;exact zbh (by kernel_rfl) (za7 hs fun hc hs=>And.intro (And.intro (zE zaj 4 s66.Ties.get) hc) (zC7 hs hk rfl))
def zxD (bv0:(Sl Span)) (ev0:Int) (cv1:(Sl Use)) (fv1:Int):Bool :=
  (zxB bv0 ev0 cv1 fv1 ((s45 s66 (1:Int) (0:Int)).1) ((s45 s66 (1:Int) (0:Int)).2))
def zxE (bv0:(Sl Span)) (ev0:Int) (cv1:(Sl Use)) (fv1:Int):Bool :=
  (decide ((p45 s66 (1:Int) (0:Int)=true)) &&
 (zxC bv0 ev0 cv1 fv1 ((s45 s66 (1:Int) (0:Int)).1) ((s45 s66 (1:Int) (0:Int)).2)))
theorem zDa (hs:zxE bv0 ev0 cv1 fv1=true) (hk:K (e21 (zxD bv0 ev0 cv1 fv1))) (zHm:zFJ=zg zaR cv1):z21 K [1,1,1] [] ⟨[(1,zS zbu 2 bv0),(2,zI ev0),(3,zP (.sl cv1.len 2 zFJ)),(4,zI fv1)],[],[]⟩:=by subst zHm;exact zbh (by kernel_rfl) (za7 hs fun hc hs=>And.intro (And.intro (zE zaj 4 s66.Ties.get) hc) (zC9 hs hk rfl))
def zxF (bv0:(Sl Span)) (ev0:Int):Bool :=
  (zxD bv0 ev0 ((s54 s66 (0:Int) (2:Int)).1) ((s54 s66 (0:Int) (2:Int)).2))
def zxG (bv0:(Sl Span)) (ev0:Int):Bool :=
  (decide ((p54 s66 (0:Int) (2:Int)=true)) &&
 (zxE bv0 ev0 ((s54 s66 (0:Int) (2:Int)).1) ((s54 s66 (0:Int) (2:Int)).2)))
theorem zDb (hs:zxG bv0 ev0=true) (hk:K (e21 (zxF bv0 ev0))) (zHn:zFI=zg zbu bv0):z21 K [1,1] [] ⟨[(1,zP (.sl bv0.len 2 zFI)),(2,zI ev0)],[],[]⟩:=by subst zHn;exact zbh (by kernel_rfl) (za7 hs fun hc hs=>And.intro (And.intro (zE zaj 4 s66.Ties.get) hc) (zDa hs hk rfl))
def s21:Bool :=
  (zxF ((s26 s66).1) ((s26 s66).2))
def p21:Bool :=
  (decide ((p26 s66=true)) &&
 (zxG ((s26 s66).1) ((s26 s66).2)))
end
theorem q21 (K:List PA→Prop) (hs:p21=true) (hk:K (e21 (s21))):vcFun Tryd.prog G21 zC3 21 [] K :=
  zbh (by kernel_rfl) (za7 hs fun hc hs=>And.intro (And.intro (zE zaj 4 s66.Ties.get) hc) (zDb hs hk rfl))
theorem zFN:p21=true:=by kernel_rfl
theorem zFO:s21=true:=by kernel_rfl
def zDc : List PA → COut
  | []=>.tot [.one (.bool true)]
  | _=>.no
theorem zFP:zas Tryd.prog 21:=⟨_,rfl,rfl,by kernel_rfl⟩
theorem zIH:Ok Tryd.prog 21 zDc:=zbJ zHi zFP fun args K h=>by
  unfold zDc at h
  split at h
  · refine ⟨fun _ _ => [], fun _ => false, zC3, q21 K zFN ?_⟩
    show K [.one (.bool s21)]
    rw [zFO];exact h
  · exact h.elim
abbrev T40:Tabs:=((Tabs.nil.addF 67 zsu).addF 81 zst)
theorem zHo:TabsOk Tryd.prog T40:=((TabsOk.nil.addF zGd).addF zGc)
abbrev G40:Ctrs:=csm T40 (fun _ _=>[]) (fun _=>false)
def zDd:Ann:=⟨99,[(0,zK [0,1,4] [4]),(1,zK [0,1,4,12] [4]),(2,zK [4,5] [4]),(3,zK [1,4,6] [4,6]),(4,zK [4,6,16,17,18] [4,6]),(5,zK [4,6,16,17,18,19] [4,6,91]),(6,zK [4,6,8,16,17,18] [4,6,8,91]),(7,zK [4,6,8,16,17,18,60] [4,6,8,91]),(8,zK [4,5] [4]),(9,zK [4,6,8,9,16,17,18] [4,6,8,91]),(10,zK [4,6,16,17,18] [4,6,91]),(11,zK [4,6,16,17,18] [4,6,91]),(12,zK [4,6,96] [4,6,91]),(13,zK [4,5] [4]),(14,zK [4,5] [4,91])],
 [(5,⟨[4,6,16,17,18],[4,6,91],[],[(6,1,91,40,fun _=>zaj default)],[],[],[]⟩)],
 [(3,zK [0,1,4] [4]),(8,zK [4,6,8,16,17,18,60] [4,6,8,91]),(13,zK [4,6,96] [4,6,91]),(9,zK [4,6,8,16,17,18] [4,6,8,91])],
 [],[]⟩
abbrev R40:=(Net×Int)
abbrev e40 (r:R40):List PA:=[.agg [.int .i64 r.1.Nodes,.sl r.1.Ties.len 4 (fun i=>zaj (r.1.Ties.get i))],.one (.int .i64 r.2)]
@[irreducible] def z40:=ptF Tryd.prog G40 zDd Tryd.f40
def zAp (nodes:Int) (pulses:(Sl Pulse)) (zao:Int) (zcv:(Sl Tie)) (zfj:Nat→List PV):St:=⟨[(4,zp 4 0),(6,zp 6 0),(16,zS enc_85 7 pulses),(17,zI (pulses.len:Int)),(18,zI zao)],[(4,.box 24 [zi (0:Int),.p (.nils)]),(6,.box 24 [zi nodes,.vec 91]),(91,.vec 40 4 32 zcv.len zfj)],[]⟩
abbrev zzu (K:List PA→Prop) (nodes:Int) (pulses:(Sl Pulse)) (X:St→Prop) (P:Int→(Sl Tie)→Bool) (S:Int→(Sl Tie)→(Net×Int)):Prop:=∀ ⦃zao:Int⦄ ⦃zcv:(Sl Tie)⦄ ⦃zfj:Nat→List PV⦄,P zao zcv=true→K (e40 (S zao zcv))→zfj=zg zaj zcv→X (zAp nodes pulses zao zcv zfj)
section
variable {K:List PA→Prop} {nodes:Int} {pulses:(Sl Pulse)} {zao:Int} {zcv:(Sl Tie)} {zfj:Nat→List PV} {X1:St→Prop} {P1:Int→(Sl Tie)→Bool} {S1:Int→(Sl Tie)→(Net×Int)} {zqc:Int} {zqd:Bool} {zqe:Int} {zqf:Int} {zqg:Int} {zqh:Int} {zqi:Int} {zqj:Int} {zqk:Int} {znQ:(Sl Tie)} {zxH:Nat→List PV} {zzv:Bool} {zql:(Sl Tie)} {zxI:Nat→List PV} {zbW:Int} {zfA:Int} {zfB:Int} {zet:Int} {zeu:Int} {zfC:Int} {zfD:Int} {zev:Int} {zf1:(Sl Tie)} {zxJ:Nat→List PV}
def zqm (S1:Int→(Sl Tie)→(Net×Int)) (nodes:Int) (pulses:(Sl Pulse)) (zbW:Int) (zfA:Int) (zfB:Int) (zet:Int) (zeu:Int) (zfC:Int) (zfD:Int) (zev:Int) (zf1:(Sl Tie)):(Net×Int) :=
  (S1 (w64 (zbW+(1:Int))) (⟨(zf1.len+1),(zkP zf1.len zf1.get (fun _=>(⟨zfA,zfB,(w64 ((w64 ((w64 (zeu - zet)) - zfD)) - zev)),(w64 ((w64 ((w64 (zeu - zet)) - zfC))+zev))⟩:Tie)))⟩:Sl Tie))
def zqn (P1:Int→(Sl Tie)→Bool) (nodes:Int) (pulses:(Sl Pulse)) (zbW:Int) (zfA:Int) (zfB:Int) (zet:Int) (zeu:Int) (zfC:Int) (zfD:Int) (zev:Int) (zf1:(Sl Tie)):Bool :=
  (decide (((zf1.len+1) * 32≤140737488355328∧zf1.len+1≤9223372036854775807)) &&
 (P1 (w64 (zbW+(1:Int))) (⟨(zf1.len+1),(zkP zf1.len zf1.get (fun _=>(⟨zfA,zfB,(w64 ((w64 ((w64 (zeu - zet)) - zfD)) - zev)),(w64 ((w64 ((w64 (zeu - zet)) - zfC))+zev))⟩:Tie)))⟩:Sl Tie)))
theorem zDe (hX1:zzu K nodes pulses X1 P1 S1) (hs:zqn P1 nodes pulses zbW zfA zfB zet zeu zfC zfD zev zf1=true) (hk:K (e40 (zqm S1 nodes pulses zbW zfA zfB zet zeu zfC zfD zev zf1))) (zDf:zxJ=zg zaj zf1):z40 (Wk K) [1,1,1,0,1,0,0,1,1,0,0,1,1] [X1] ⟨[(4,zp 4 0),(6,zp 6 0),(8,zp 8 0),(16,zS enc_85 7 pulses),(17,zI (pulses.len:Int)),(18,zI zbW)],[(4,.box 24 [zi (0:Int),.p (.nils)]),(6,.box 24 [zi nodes,.vec 91]),(8,.box 85 (zm (enc_85 (⟨zfA,zfB,zet,zeu,(⟨zfC,zfD⟩:Span),zev⟩:Pulse)))),(91,.vec 40 4 32 zf1.len zxJ)],[]⟩:=by subst zDf;exact zbh (by kernel_rfl) (za7 hs fun hc hs=>And.intro hc (hX1 hs hk (zi3 (enc:=zaj) (f:=zf1.get) (h:=(fun _=>(⟨zfA,zfB,(w64 ((w64 ((w64 (zeu - zet)) - zfD)) - zev)),(w64 ((w64 ((w64 (zeu - zet)) - zfC))+zev))⟩:Tie))) rfl rfl)))
def zmi (nodes:Int) (zzv:Bool) (zql:(Sl Tie)):(Net×Int) :=
  (cond zzv
 ((⟨(0:Int),(⟨0,fun _=>default⟩:(Sl Tie))⟩:Net),(2:Int))
 ((⟨nodes,zql⟩:Net),(0:Int)))
theorem zDg (hk:K (e40 (zmi nodes zzv zql))) (zDh:zxI=zg zaj zql):z40 (Wk K) [1,1,1,1,0,1] [] ⟨[(4,zp 4 0),(6,zp 6 0),(96,zB zzv)],[(4,.box 24 [zi (0:Int),.p (.nils)]),(6,.box 24 [zi nodes,.vec 91]),(91,.vec 40 4 32 zql.len zxI)],[]⟩:=by subst zDh;exact zbh (by kernel_rfl) (zt hk (fun hk=>((wk hk (zc5 (.agg (zc5 (.rfl _) (zc5 (.nil _ _) zgw))) (zc5 (.one (.rfl _)) zgw))):Wk K [.agg [.int .i64 (0:Int),.nils],.one (.int .i64 (2:Int))])) (fun hk=>((zeB hk):Wk K [.agg [.int .i64 nodes,.sl zql.len 4 (fun i=>zaj (zql.get i))],.one (.int .i64 (0:Int))])))
def zfk (S1:Int→(Sl Tie)→(Net×Int)) (nodes:Int) (pulses:(Sl Pulse)) (zqc:Int) (zqd:Bool) (zqe:Int) (zqf:Int) (zqg:Int) (zqh:Int) (zqi:Int) (zqj:Int) (zqk:Int) (znQ:(Sl Tie)):(Net×Int) :=
  (cond zqd
 ((⟨(0:Int),(⟨0,fun _=>default⟩:(Sl Tie))⟩:Net),(2:Int))
 (zqm S1 nodes pulses zqc zqe zqf zqg zqh zqi zqj zqk znQ))
def zfl (P1:Int→(Sl Tie)→Bool) (nodes:Int) (pulses:(Sl Pulse)) (zqc:Int) (zqd:Bool) (zqe:Int) (zqf:Int) (zqg:Int) (zqh:Int) (zqi:Int) (zqj:Int) (zqk:Int) (znQ:(Sl Tie)):Bool :=
  (cond zqd
 true
 (zqn P1 nodes pulses zqc zqe zqf zqg zqh zqi zqj zqk znQ))
theorem zhk (hX1:zzu K nodes pulses X1 P1 S1) (hs:zfl P1 nodes pulses zqc zqd zqe zqf zqg zqh zqi zqj zqk znQ=true) (hk:K (e40 (zfk S1 nodes pulses zqc zqd zqe zqf zqg zqh zqi zqj zqk znQ))) (zDi:zxH=zg zaj znQ):z40 (Wk K) [1,1,1,0,1,0,0,1,1,0,0,1,0,1] [X1] ⟨[(4,zp 4 0),(6,zp 6 0),(8,zp 8 0),(16,zS enc_85 7 pulses),(17,zI (pulses.len:Int)),(18,zI zqc),(60,zB zqd)],[(4,.box 24 [zi (0:Int),.p (.nils)]),(6,.box 24 [zi nodes,.vec 91]),(8,.box 85 (zm (enc_85 (⟨zqe,zqf,zqg,zqh,(⟨zqi,zqj⟩:Span),zqk⟩:Pulse)))),(91,.vec 40 4 32 znQ.len zxH)],[]⟩:=by subst zDi;exact zbh (by kernel_rfl) (zc hs hk (fun hs hk=>((wk hk (zc5 (.agg (zc5 (.rfl _) (zc5 (.nil _ _) zgw))) (zc5 (.one (.rfl _)) zgw))):Wk K [.agg [.int .i64 (0:Int),.nils],.one (.int .i64 (2:Int))])) (fun hs hk=>(zDe hX1 hs hk rfl)))
def zhl (nodes:Int) (pulses:(Sl Pulse)) (S1:Int→(Sl Tie)→(Net×Int)) (zao:Int) (zcv:(Sl Tie)):(Net×Int) :=
  (cond (decide (zao < (pulses.len : Int)))
 (cond ((pulses.get zao.toNat).A == (pulses.get zao.toNat).B)
 (zfk S1 nodes pulses zao true ((pulses.get zao.toNat).A) ((pulses.get zao.toNat).B) ((pulses.get zao.toNat).TimeA) ((pulses.get zao.toNat).TimeB) ((pulses.get zao.toNat).Flight.Low) ((pulses.get zao.toNat).Flight.High) ((pulses.get zao.toNat).Jitter) zcv)
 (cond (!(s81 ((pulses.get zao.toNat).TimeA) (-100000000:Int) (100000000:Int)))
 (zfk S1 nodes pulses zao true ((pulses.get zao.toNat).A) ((pulses.get zao.toNat).B) ((pulses.get zao.toNat).TimeA) ((pulses.get zao.toNat).TimeB) ((pulses.get zao.toNat).Flight.Low) ((pulses.get zao.toNat).Flight.High) ((pulses.get zao.toNat).Jitter) zcv)
 (cond (!(s81 ((pulses.get zao.toNat).TimeB) (-100000000:Int) (100000000:Int)))
 (zfk S1 nodes pulses zao true ((pulses.get zao.toNat).A) ((pulses.get zao.toNat).B) ((pulses.get zao.toNat).TimeA) ((pulses.get zao.toNat).TimeB) ((pulses.get zao.toNat).Flight.Low) ((pulses.get zao.toNat).Flight.High) ((pulses.get zao.toNat).Jitter) zcv)
 (cond (!(s81 ((pulses.get zao.toNat).Flight.Low) (0:Int) ((pulses.get zao.toNat).Flight.High)))
 (zfk S1 nodes pulses zao true ((pulses.get zao.toNat).A) ((pulses.get zao.toNat).B) ((pulses.get zao.toNat).TimeA) ((pulses.get zao.toNat).TimeB) ((pulses.get zao.toNat).Flight.Low) ((pulses.get zao.toNat).Flight.High) ((pulses.get zao.toNat).Jitter) zcv)
 (cond (decide ((pulses.get zao.toNat).Flight.High > (100000000:Int)))
 (zfk S1 nodes pulses zao true ((pulses.get zao.toNat).A) ((pulses.get zao.toNat).B) ((pulses.get zao.toNat).TimeA) ((pulses.get zao.toNat).TimeB) ((pulses.get zao.toNat).Flight.Low) ((pulses.get zao.toNat).Flight.High) ((pulses.get zao.toNat).Jitter) zcv)
 (zfk S1 nodes pulses zao (!(s81 ((pulses.get zao.toNat).Jitter) (0:Int) (100000000:Int))) ((pulses.get zao.toNat).A) ((pulses.get zao.toNat).B) ((pulses.get zao.toNat).TimeA) ((pulses.get zao.toNat).TimeB) ((pulses.get zao.toNat).Flight.Low) ((pulses.get zao.toNat).Flight.High) ((pulses.get zao.toNat).Jitter) zcv))))))
 (zmi nodes (!(s67 (⟨nodes,zcv⟩:Net))) zcv))
def zhm (nodes:Int) (pulses:(Sl Pulse)) (P1:Int→(Sl Tie)→Bool) (zao:Int) (zcv:(Sl Tie)):Bool :=
  (cond (decide (zao < (pulses.len : Int)))
 (decide ((0≤zao∧zao < (pulses.len:Int))) &&
 (cond ((pulses.get zao.toNat).A == (pulses.get zao.toNat).B)
 (zfl P1 nodes pulses zao true ((pulses.get zao.toNat).A) ((pulses.get zao.toNat).B) ((pulses.get zao.toNat).TimeA) ((pulses.get zao.toNat).TimeB) ((pulses.get zao.toNat).Flight.Low) ((pulses.get zao.toNat).Flight.High) ((pulses.get zao.toNat).Jitter) zcv)
 (cond (!(s81 ((pulses.get zao.toNat).TimeA) (-100000000:Int) (100000000:Int)))
 (zfl P1 nodes pulses zao true ((pulses.get zao.toNat).A) ((pulses.get zao.toNat).B) ((pulses.get zao.toNat).TimeA) ((pulses.get zao.toNat).TimeB) ((pulses.get zao.toNat).Flight.Low) ((pulses.get zao.toNat).Flight.High) ((pulses.get zao.toNat).Jitter) zcv)
 (cond (!(s81 ((pulses.get zao.toNat).TimeB) (-100000000:Int) (100000000:Int)))
 (zfl P1 nodes pulses zao true ((pulses.get zao.toNat).A) ((pulses.get zao.toNat).B) ((pulses.get zao.toNat).TimeA) ((pulses.get zao.toNat).TimeB) ((pulses.get zao.toNat).Flight.Low) ((pulses.get zao.toNat).Flight.High) ((pulses.get zao.toNat).Jitter) zcv)
 (cond (!(s81 ((pulses.get zao.toNat).Flight.Low) (0:Int) ((pulses.get zao.toNat).Flight.High)))
 (zfl P1 nodes pulses zao true ((pulses.get zao.toNat).A) ((pulses.get zao.toNat).B) ((pulses.get zao.toNat).TimeA) ((pulses.get zao.toNat).TimeB) ((pulses.get zao.toNat).Flight.Low) ((pulses.get zao.toNat).Flight.High) ((pulses.get zao.toNat).Jitter) zcv)
 (cond (decide ((pulses.get zao.toNat).Flight.High > (100000000:Int)))
 (zfl P1 nodes pulses zao true ((pulses.get zao.toNat).A) ((pulses.get zao.toNat).B) ((pulses.get zao.toNat).TimeA) ((pulses.get zao.toNat).TimeB) ((pulses.get zao.toNat).Flight.Low) ((pulses.get zao.toNat).Flight.High) ((pulses.get zao.toNat).Jitter) zcv)
 (zfl P1 nodes pulses zao (!(s81 ((pulses.get zao.toNat).Jitter) (0:Int) (100000000:Int))) ((pulses.get zao.toNat).A) ((pulses.get zao.toNat).B) ((pulses.get zao.toNat).TimeA) ((pulses.get zao.toNat).TimeB) ((pulses.get zao.toNat).Flight.Low) ((pulses.get zao.toNat).Flight.High) ((pulses.get zao.toNat).Jitter) zcv)))))))
 (decide ((p67 (⟨nodes,zcv⟩:Net)=true)) &&
 true))
def zf2 (nodes:Int) (pulses:(Sl Pulse)):Nat→Int→(Sl Tie)→(Net×Int):=lpO (fun _ _=>default) (zhl nodes pulses)
def zf3 (nodes:Int) (pulses:(Sl Pulse)):Nat→Int→(Sl Tie)→Bool:=lpO (fun _ _=>false) (zhm nodes pulses)
def zxK (nodes:Int) (pulses:(Sl Pulse)) (zao:Int) (zcv:(Sl Tie)):(Net×Int):=zf2 nodes pulses Fuel zao zcv
def zxL (nodes:Int) (pulses:(Sl Pulse)) (zao:Int) (zcv:(Sl Tie)):Bool:=zf3 nodes pulses Fuel zao zcv
theorem zDj (hs:zxL nodes pulses zao zcv=true) (hk:K (e40 (zxK nodes pulses zao zcv))) (zqo:zfj=zg zaj zcv):z40 (Wk K) [1,1,1,0,1,0] [] (zAp nodes pulses zao zcv zfj) :=
  zl (fun X=>z40 (Wk K) [1,1,1,0,1,0,0] [X]) (by kernel_rfl) fun X1 hX =>
  (show ∀ k, zzu K nodes pulses X1 (zf3 nodes pulses k) (zf2 nodes pulses k) from zkR _ _ (zhm nodes pulses) (zhl nodes pulses) (zzu K nodes pulses X1)
 (by intro _ _ _ hs;exact absurd hs Bool.false_ne_true)
 (by intro P1 S1 hX1 zao zcv zfj hs hk zqo;subst zqo;exact hX _ (zbh (by kernel_rfl) (zc hs hk (fun hs hk=>(za7 hs fun hc hs=>And.intro hc (zc hs hk (fun hs hk=>(zhk hX1 hs hk rfl)) (fun hs hk=>(zc hs hk (fun hs hk=>(zhk hX1 hs hk rfl)) (fun hs hk=>(zc hs hk (fun hs hk=>(zhk hX1 hs hk rfl)) (fun hs hk=>(zc hs hk (fun hs hk=>(zhk hX1 hs hk rfl)) (fun hs hk=>(zc hs hk (fun hs hk=>(zhk hX1 hs hk rfl)) (fun hs hk=>(zhk hX1 hs hk rfl))))))))))))) (fun hs hk=>(za7 hs fun hc hs=>And.intro (And.intro (zE zaj 4 zcv.get) hc) (zDg hk rfl))))))) _ hs hk zqo
def zj7 (nodes:Int) (pulses:(Sl Pulse)):(Net×Int) :=
  (zxK nodes pulses (0:Int) (⟨0,(fun _=>default)⟩:Sl Tie))
def zj8 (nodes:Int) (pulses:(Sl Pulse)):Bool :=
  (zxL nodes pulses (0:Int) (⟨0,(fun _=>default)⟩:Sl Tie))
theorem zDk (hs:zj8 nodes pulses=true) (hk:K (e40 (zj7 nodes pulses))):z40 (Wk K) [1,1] [] ⟨[(0,zI nodes),(1,zS enc_85 7 pulses),(4,zp 4 0)],[(4,.box 24 [zi (0:Int),.p (.nils)])],[]⟩:=zbh (by kernel_rfl) (zDj hs hk rfl)
def s40 (nodes:Int) (pulses:(Sl Pulse)):(Net×Int) :=
  (cond (decide ((pulses.len : Int) > (200:Int)))
 ((⟨(0:Int),(⟨0,fun _=>default⟩:(Sl Tie))⟩:Net),(3:Int))
 (zj7 nodes pulses))
def p40 (nodes:Int) (pulses:(Sl Pulse)):Bool :=
  (cond (decide ((pulses.len : Int) > (200:Int)))
 true
 (zj8 nodes pulses))
end
theorem q40 (nodes:Int) (pulses:(Sl Pulse)) (K:List PA→Prop) (hs:p40 nodes pulses=true) (hk:K (e40 (s40 nodes pulses))):vcFun Tryd.prog G40 zDd 40 [.one (.int .i64 nodes),.one (.sl pulses.len 7 (fun i=>enc_85 (pulses.get i)))] (Wk K) :=
  zbh (by kernel_rfl) (zc hs hk (fun hs hk=>((wk hk (zc5 (.agg (zc5 (.rfl _) (zc5 (.nil _ _) zgw))) (zc5 (.one (.rfl _)) zgw))):Wk K [.agg [.int .i64 (0:Int),.nils],.one (.int .i64 (3:Int))])) (fun hs hk=>(zDk hs hk)))
def zDl : List PA → COut
  | [.one (.int .i64 a0),.one (.sl a1_n a1_s a1_g)]=>.det (IsE enc_85 7 a1_s a1_g∧p40 a0 (⟨a1_n,zcR a1_g⟩:(Sl Pulse))=true) [.agg [.int .i64 (((s40 a0 (⟨a1_n,zcR a1_g⟩:(Sl Pulse))).1).Nodes),.sl (((s40 a0 (⟨a1_n,zcR a1_g⟩:(Sl Pulse))).1).Ties.len) 4 (fun i=>zaj (((s40 a0 (⟨a1_n,zcR a1_g⟩:(Sl Pulse))).1).Ties.get i))],.one (.int .i64 ((s40 a0 (⟨a1_n,zcR a1_g⟩:(Sl Pulse))).2))]
  | _=>.no
theorem zFQ:zas Tryd.prog 40:=⟨_,rfl,rfl,by kernel_rfl⟩
theorem zII:Ok Tryd.prog 40 zDl:=zeW zHo zFQ fun args K h=>by
  unfold zDl at h
  split at h
  · rename_i a0 a1_n a1_s a1_g
    obtain ⟨⟨⟨rfl,a1_f,rfl⟩,hs⟩,hk⟩:=h
    try rw [zcS a1_f] at hs
    try rw [zcS a1_f] at hk
    exact ⟨_,zec zeA _,(fun _ _=>[]),(fun _=>false),zDd,q40 a0 (⟨a1_n,a1_f⟩:(Sl Pulse)) K hs hk⟩
  · exact h.elim
abbrev T72:Tabs:=Tabs.nil
theorem zHp:TabsOk Tryd.prog T72:=TabsOk.nil
abbrev G72:Ctrs:=csm T72 (fun _ _=>[]) (fun _=>false)
def zFR:Ann:=⟨15,[(0,zK [0,1,2] []),(1,zK [6] [])],
 [],
 [],
 [],[]⟩
abbrev R72:=Bool
abbrev e72 (r:R72):List PA:=[.one (.bool r)]
section
variable {K:List PA→Prop} {x:Int} {low:Int} {high:Int}
def s72 (x:Int) (low:Int) (high:Int):Bool :=
  (cond (decide (x ≥ low))
 (decide (x≤high))
 false)
end
theorem q72 (x:Int) (low:Int) (high:Int) (K:List PA→Prop) (hk:K (e72 (s72 x low high))):vcFun Tryd.prog G72 zFR 72 [.one (.int .i64 x),.one (.int .i64 low),.one (.int .i64 high)] K :=
  zbh (by kernel_rfl) (zt hk (fun hk=>hk) (fun hk=>hk))
def zzw : List PA → COut
  | [.one (.int .i64 a0),.one (.int .i64 a1),.one (.int .i64 a2)]=>.tot [.one (.bool (s72 a0 a1 a2))]
  | _=>.no
theorem zFS:zas Tryd.prog 72:=⟨_,rfl,rfl,by kernel_rfl⟩
theorem zHS:Ok Tryd.prog 72 zzw:=zbJ zHp zFS fun args K h=>by
  unfold zzw at h
  split at h
  · rename_i a0 a1 a2
    have hk:=h
    exact ⟨(fun _ _=>[]),(fun _=>false),zFR,q72 a0 a1 a2 K hk⟩
  · exact h.elim
abbrev T82:Tabs:=(Tabs.nil.addF 72 zzw)
theorem zHq:TabsOk Tryd.prog T82:=(TabsOk.nil.addF zHS)
abbrev G82:Ctrs:=csm T82 (fun _ _=>[]) (fun _=>false)
def zFT:Ann:=⟨60,[(0,zK [0,3] [3]),(1,zK [4] [])],
 [],
 [],
 [],[]⟩
abbrev R82:=Bool
abbrev e82 (r:R82):List PA:=[.one (.bool r)]
section
variable {K:List PA→Prop} {nodes:Int} {p:Pulse}
def s82 (nodes:Int) (p:Pulse):Bool :=
  (cond (s72 p.A (0:Int) (w64 (nodes - (1:Int))))
 (cond (s72 p.B (0:Int) (w64 (nodes - (1:Int))))
 (cond (p.A != p.B)
 (cond (s72 p.TimeA (-100000000:Int) (100000000:Int))
 (cond (s72 p.TimeB (-100000000:Int) (100000000:Int))
 (cond (decide (p.Flight.Low ≥ (0:Int)))
 (cond (decide (p.Flight.Low ≤ p.Flight.High))
 (cond (decide (p.Flight.High ≤ (100000000:Int)))
 (s72 p.Jitter (0:Int) (100000000:Int))
 false)
 false)
 false)
 false)
 false)
 false)
 false)
 false)
end
theorem q82 (nodes:Int) (p:Pulse) (K:List PA→Prop) (hk:K (e82 (s82 nodes p))):vcFun Tryd.prog G82 zFT 82 [.one (.int .i64 nodes),.agg (enc_85 p)] K :=
  zbh (by kernel_rfl) (zt hk (fun hk=>(zt hk (fun hk=>(zt hk (fun hk=>(zt hk (fun hk=>(zt hk (fun hk=>(zt hk (fun hk=>(zt hk (fun hk=>(zt hk (fun hk=>hk) (fun hk=>hk))) (fun hk=>hk))) (fun hk=>hk))) (fun hk=>hk))) (fun hk=>hk))) (fun hk=>hk))) (fun hk=>hk))) (fun hk=>hk))
def zDm : List PA → COut
  | [.one (.int .i64 a0),.agg [.int .i64 a1_A,.int .i64 a1_B,.int .i64 a1_TimeA,.int .i64 a1_TimeB,.int .i64 a1_Flight_Low,.int .i64 a1_Flight_High,.int .i64 a1_Jitter]]=>.tot [.one (.bool (s82 a0 (⟨a1_A,a1_B,a1_TimeA,a1_TimeB,(⟨a1_Flight_Low,a1_Flight_High⟩:Span),a1_Jitter⟩:Pulse)))]
  | _=>.no
theorem zFU:zas Tryd.prog 82:=⟨_,rfl,rfl,by kernel_rfl⟩
theorem zIJ:Ok Tryd.prog 82 zDm:=zbJ zHq zFU fun args K h=>by
  unfold zDm at h
  split at h
  · rename_i a0 a1_A a1_B a1_TimeA a1_TimeB a1_Flight_Low a1_Flight_High a1_Jitter
    have hk:=h
    exact ⟨(fun _ _=>[]),(fun _=>false),zFT,q82 a0 (⟨a1_A,a1_B,a1_TimeA,a1_TimeB,(⟨a1_Flight_Low,a1_Flight_High⟩:Span),a1_Jitter⟩:Pulse) K hk⟩
  · exact h.elim
abbrev T41:Tabs:=((Tabs.nil.addF 72 zzw).addF 82 zDm)
theorem zHr:TabsOk Tryd.prog T41:=((TabsOk.nil.addF zHS).addF zIJ)
abbrev G41:Ctrs:=csm T41 (fun _ _=>[]) (fun _=>false)
def zDn:Ann:=⟨67,[(0,zK [0,1,4] [4]),(1,zK [0,1,4,12] [4]),(2,zK [4,5] [4]),(3,zK [0,1,4,16] [4]),(4,zK [4,5] [4]),(5,zK [0,1,4,6] [4,6]),(6,zK [0,1,4,6,7] [4,6]),(7,zK [0,1,4,6,7,23] [4,6,64]),(8,zK [0,1,4,6,7] [4,6,64]),(9,zK [0,1,4,6,7,8] [4,6,8,64]),(10,zK [0,1,4,6,7,8,33] [4,6,8,64]),(11,zK [4,5] [4]),(12,zK [0,1,4,6,7,8,9] [4,6,8,64]),(13,zK [0,1,4,6,7] [4,6,64]),(14,zK [4,5] [4,64])],
 [(7,⟨[0,1,4,6,7],[4,6,64],[],[(6,1,64,40,fun _=>zaj default)],[],[],[]⟩)],
 [(3,zK [0,1,4] [4]),(4,zK [0,1,4,16] [4]),(5,zK [0,1,4] [4]),(11,zK [0,1,4,6,7,8,33] [4,6,8,64]),(12,zK [0,1,4,6,7,8] [4,6,8,64])],
 [],[]⟩
abbrev R41:=(Net×Int)
abbrev e41 (r:R41):List PA:=[.agg [.int .i64 r.1.Nodes,.sl r.1.Ties.len 4 (fun i=>zaj (r.1.Ties.get i))],.one (.int .i64 r.2)]
@[irreducible] def z41:=ptF Tryd.prog G41 zDn Tryd.f41
def zAq (nodes:Int) (l_a1:(Sl Pulse)) (iv3:Int) (zdE:(Sl Tie)) (zfm:Nat→List PV):St:=⟨[(0,zI nodes),(1,zS enc_85 7 l_a1),(4,zp 4 0),(6,zp 6 0),(7,zI iv3)],[(4,.box 24 [zi (0:Int),.p (.nils)]),(6,.box 24 [zi nodes,.vec 64]),(64,.vec 40 4 32 zdE.len zfm)],[]⟩
abbrev zzx (K:List PA→Prop) (nodes:Int) (l_a1:(Sl Pulse)) (X:St→Prop) (P:Int→(Sl Tie)→Bool) (S:Int→(Sl Tie)→(Net×Int)):Prop:=∀ ⦃iv3:Int⦄ ⦃zdE:(Sl Tie)⦄ ⦃zfm:Nat→List PV⦄,P iv3 zdE=true→K (e41 (S iv3 zdE))→zfm=zg zaj zdE→X (zAq nodes l_a1 iv3 zdE zfm)
section
variable {K:List PA→Prop} {nodes:Int} {l_a1:(Sl Pulse)} {zfZ:Bool} {iv3:Int} {zdE:(Sl Tie)} {zfm:Nat→List PV} {X3:St→Prop} {P3:Int→(Sl Tie)→Bool} {S3:Int→(Sl Tie)→(Net×Int)} {iv4:Int} {zqp:Bool} {zfA:Int} {zfB:Int} {zet:Int} {zeu:Int} {zfC:Int} {zfD:Int} {zev:Int} {znR:(Sl Tie)} {zxM:Nat→List PV} {iv5:Int} {znS:Int} {znT:Int} {zj9:Int} {zka:Int} {znU:Int} {znV:Int} {zkb:Int} {zf4:(Sl Tie)} {zxN:Nat→List PV}
def zqq (S3:Int→(Sl Tie)→(Net×Int)) (nodes:Int) (l_a1:(Sl Pulse)) (iv5:Int) (znS:Int) (znT:Int) (zj9:Int) (zka:Int) (znU:Int) (znV:Int) (zkb:Int) (zf4:(Sl Tie)):(Net×Int) :=
  (S3 (w64 (iv5+(1:Int))) (⟨(zf4.len+1),(zkP zf4.len zf4.get (fun _=>(⟨znS,znT,(w64 ((w64 ((w64 (zka - zj9)) - znV)) - zkb)),(w64 ((w64 ((w64 (zka - zj9)) - znU))+zkb))⟩:Tie)))⟩:Sl Tie))
def zqr (P3:Int→(Sl Tie)→Bool) (nodes:Int) (l_a1:(Sl Pulse)) (iv5:Int) (znS:Int) (znT:Int) (zj9:Int) (zka:Int) (znU:Int) (znV:Int) (zkb:Int) (zf4:(Sl Tie)):Bool :=
  (decide (((zf4.len+1) * 32≤140737488355328∧zf4.len+1≤9223372036854775807)) &&
 (P3 (w64 (iv5+(1:Int))) (⟨(zf4.len+1),(zkP zf4.len zf4.get (fun _=>(⟨znS,znT,(w64 ((w64 ((w64 (zka - zj9)) - znV)) - zkb)),(w64 ((w64 ((w64 (zka - zj9)) - znU))+zkb))⟩:Tie)))⟩:Sl Tie)))
theorem zDo (hX3:zzx K nodes l_a1 X3 P3 S3) (hs:zqr P3 nodes l_a1 iv5 znS znT zj9 zka znU znV zkb zf4=true) (hk:K (e41 (zqq S3 nodes l_a1 iv5 znS znT zj9 zka znU znV zkb zf4))) (zDp:zxN=zg zaj zf4):z41 (Wk K) [1,1,1,1,0,1,0,0,1,0,0,1,1] [X3] ⟨[(0,zI nodes),(1,zS enc_85 7 l_a1),(4,zp 4 0),(6,zp 6 0),(7,zI iv5),(8,zp 8 0)],[(4,.box 24 [zi (0:Int),.p (.nils)]),(6,.box 24 [zi nodes,.vec 64]),(8,.box 85 (zm (enc_85 (⟨znS,znT,zj9,zka,(⟨znU,znV⟩:Span),zkb⟩:Pulse)))),(64,.vec 40 4 32 zf4.len zxN)],[]⟩:=by subst zDp;exact zbh (by kernel_rfl) (za7 hs fun hc hs=>And.intro hc (hX3 hs hk (zi3 (enc:=zaj) (f:=zf4.get) (h:=(fun _=>(⟨znS,znT,(w64 ((w64 ((w64 (zka - zj9)) - znV)) - zkb)),(w64 ((w64 ((w64 (zka - zj9)) - znU))+zkb))⟩:Tie))) rfl rfl)))
def zqs (S3:Int→(Sl Tie)→(Net×Int)) (nodes:Int) (l_a1:(Sl Pulse)) (iv4:Int) (zqp:Bool) (zfA:Int) (zfB:Int) (zet:Int) (zeu:Int) (zfC:Int) (zfD:Int) (zev:Int) (znR:(Sl Tie)):(Net×Int) :=
  (cond zqp
 ((⟨(0:Int),(⟨0,fun _=>default⟩:(Sl Tie))⟩:Net),(2:Int))
 (zqq S3 nodes l_a1 iv4 zfA zfB zet zeu zfC zfD zev znR))
def zqu (P3:Int→(Sl Tie)→Bool) (nodes:Int) (l_a1:(Sl Pulse)) (iv4:Int) (zqp:Bool) (zfA:Int) (zfB:Int) (zet:Int) (zeu:Int) (zfC:Int) (zfD:Int) (zev:Int) (znR:(Sl Tie)):Bool :=
  (cond zqp
 true
 (zqr P3 nodes l_a1 iv4 zfA zfB zet zeu zfC zfD zev znR))
theorem zDq (hX3:zzx K nodes l_a1 X3 P3 S3) (hs:zqu P3 nodes l_a1 iv4 zqp zfA zfB zet zeu zfC zfD zev znR=true) (hk:K (e41 (zqs S3 nodes l_a1 iv4 zqp zfA zfB zet zeu zfC zfD zev znR))) (zDr:zxM=zg zaj znR):z41 (Wk K) [1,1,1,1,0,1,0,0,1,0,0,1,0,1] [X3] ⟨[(0,zI nodes),(1,zS enc_85 7 l_a1),(4,zp 4 0),(6,zp 6 0),(7,zI iv4),(8,zp 8 0),(33,zB zqp)],[(4,.box 24 [zi (0:Int),.p (.nils)]),(6,.box 24 [zi nodes,.vec 64]),(8,.box 85 (zm (enc_85 (⟨zfA,zfB,zet,zeu,(⟨zfC,zfD⟩:Span),zev⟩:Pulse)))),(64,.vec 40 4 32 znR.len zxM)],[]⟩:=by subst zDr;exact zbh (by kernel_rfl) (zc hs hk (fun hs hk=>((wk hk (zc5 (.agg (zc5 (.rfl _) (zc5 (.nil _ _) zgw))) (zc5 (.one (.rfl _)) zgw))):Wk K [.agg [.int .i64 (0:Int),.nils],.one (.int .i64 (2:Int))])) (fun hs hk=>(zDo hX3 hs hk rfl)))
def zhn (nodes:Int) (l_a1:(Sl Pulse)) (S3:Int→(Sl Tie)→(Net×Int)) (iv3:Int) (zdE:(Sl Tie)):(Net×Int) :=
  (cond (decide (iv3 < (l_a1.len : Int)))
 (zqs S3 nodes l_a1 iv3 (!(s82 nodes (l_a1.get iv3.toNat))) ((l_a1.get iv3.toNat).A) ((l_a1.get iv3.toNat).B) ((l_a1.get iv3.toNat).TimeA) ((l_a1.get iv3.toNat).TimeB) ((l_a1.get iv3.toNat).Flight.Low) ((l_a1.get iv3.toNat).Flight.High) ((l_a1.get iv3.toNat).Jitter) zdE)
 ((⟨nodes,zdE⟩:Net),(0:Int)))
def zho (nodes:Int) (l_a1:(Sl Pulse)) (P3:Int→(Sl Tie)→Bool) (iv3:Int) (zdE:(Sl Tie)):Bool :=
  (cond (decide (iv3 < (l_a1.len : Int)))
 (decide ((0≤iv3∧iv3 < (l_a1.len:Int))) &&
 (zqu P3 nodes l_a1 iv3 (!(s82 nodes (l_a1.get iv3.toNat))) ((l_a1.get iv3.toNat).A) ((l_a1.get iv3.toNat).B) ((l_a1.get iv3.toNat).TimeA) ((l_a1.get iv3.toNat).TimeB) ((l_a1.get iv3.toNat).Flight.Low) ((l_a1.get iv3.toNat).Flight.High) ((l_a1.get iv3.toNat).Jitter) zdE))
 true)
def zf5 (nodes:Int) (l_a1:(Sl Pulse)):Nat→Int→(Sl Tie)→(Net×Int):=lpO (fun _ _=>default) (zhn nodes l_a1)
def zf6 (nodes:Int) (l_a1:(Sl Pulse)):Nat→Int→(Sl Tie)→Bool:=lpO (fun _ _=>false) (zho nodes l_a1)
def zxO (nodes:Int) (l_a1:(Sl Pulse)) (iv3:Int) (zdE:(Sl Tie)):(Net×Int):=zf5 nodes l_a1 Fuel iv3 zdE
def zxP (nodes:Int) (l_a1:(Sl Pulse)) (iv3:Int) (zdE:(Sl Tie)):Bool:=zf6 nodes l_a1 Fuel iv3 zdE
theorem zDs (hs:zxP nodes l_a1 iv3 zdE=true) (hk:K (e41 (zxO nodes l_a1 iv3 zdE))) (zqv:zfm=zg zaj zdE):z41 (Wk K) [1,1,1,1,0,1,0] [] (zAq nodes l_a1 iv3 zdE zfm) :=
  zl (fun X=>z41 (Wk K) [1,1,1,1,0,1,0,0] [X]) (by kernel_rfl) fun X3 hX =>
  (show ∀ k, zzx K nodes l_a1 X3 (zf6 nodes l_a1 k) (zf5 nodes l_a1 k) from zkR _ _ (zho nodes l_a1) (zhn nodes l_a1) (zzx K nodes l_a1 X3)
 (by intro _ _ _ hs;exact absurd hs Bool.false_ne_true)
 (by intro P3 S3 hX3 iv3 zdE zfm hs hk zqv;subst zqv;exact hX _ (zbh (by kernel_rfl) (zc hs hk (fun hs hk=>(za7 hs fun hc hs=>And.intro hc (zDq hX3 hs hk rfl))) (fun hs hk=>((zeB hk):Wk K [.agg [.int .i64 nodes,.sl zdE.len 4 (fun i=>zaj (zdE.get i))],.one (.int .i64 (0:Int))])))))) _ hs hk zqv
def zf7 (nodes:Int) (l_a1:(Sl Pulse)):(Net×Int) :=
  (zxO nodes l_a1 (0:Int) (⟨0,(fun _=>default)⟩:Sl Tie))
def zmj (nodes:Int) (l_a1:(Sl Pulse)):Bool :=
  (zxP nodes l_a1 (0:Int) (⟨0,(fun _=>default)⟩:Sl Tie))
theorem zDt (hs:zmj nodes l_a1=true) (hk:K (e41 (zf7 nodes l_a1))):z41 (Wk K) [1,1,1] [] ⟨[(0,zI nodes),(1,zS enc_85 7 l_a1),(4,zp 4 0)],[(4,.box 24 [zi (0:Int),.p (.nils)])],[]⟩:=zbh (by kernel_rfl) (zDs hs hk rfl)
def zqw (nodes:Int) (l_a1:(Sl Pulse)) (zfZ:Bool):(Net×Int) :=
  (cond zfZ
 ((⟨(0:Int),(⟨0,fun _=>default⟩:(Sl Tie))⟩:Net),(2:Int))
 (zf7 nodes l_a1))
def zqx (nodes:Int) (l_a1:(Sl Pulse)) (zfZ:Bool):Bool :=
  (cond zfZ
 true
 (zmj nodes l_a1))
theorem zDu (hs:zqx nodes l_a1 zfZ=true) (hk:K (e41 (zqw nodes l_a1 zfZ))):z41 (Wk K) [1,1,0,1] [] ⟨[(0,zI nodes),(1,zS enc_85 7 l_a1),(4,zp 4 0),(16,zB zfZ)],[(4,.box 24 [zi (0:Int),.p (.nils)])],[]⟩:=zbh (by kernel_rfl) (zc hs hk (fun hs hk=>((wk hk (zc5 (.agg (zc5 (.rfl _) (zc5 (.nil _ _) zgw))) (zc5 (.one (.rfl _)) zgw))):Wk K [.agg [.int .i64 (0:Int),.nils],.one (.int .i64 (2:Int))])) (fun hs hk=>(zDt hs hk)))
def zkc (nodes:Int) (l_a1:(Sl Pulse)):(Net×Int) :=
  (zqw nodes l_a1 (!(s72 nodes (1:Int) (40:Int))))
def zmk (nodes:Int) (l_a1:(Sl Pulse)):Bool :=
  (zqx nodes l_a1 (!(s72 nodes (1:Int) (40:Int))))
theorem zDv (hs:zmk nodes l_a1=true) (hk:K (e41 (zkc nodes l_a1))):z41 (Wk K) [1,1] [] ⟨[(0,zI nodes),(1,zS enc_85 7 l_a1),(4,zp 4 0)],[(4,.box 24 [zi (0:Int),.p (.nils)])],[]⟩:=zbh (by kernel_rfl) (zDu hs hk)
def s41 (nodes:Int) (l_a1:(Sl Pulse)):(Net×Int) :=
  (cond (decide ((l_a1.len : Int) > (200:Int)))
 ((⟨(0:Int),(⟨0,fun _=>default⟩:(Sl Tie))⟩:Net),(3:Int))
 (zkc nodes l_a1))
def p41 (nodes:Int) (l_a1:(Sl Pulse)):Bool :=
  (cond (decide ((l_a1.len : Int) > (200:Int)))
 true
 (zmk nodes l_a1))
end
theorem q41 (nodes:Int) (l_a1:(Sl Pulse)) (K:List PA→Prop) (hs:p41 nodes l_a1=true) (hk:K (e41 (s41 nodes l_a1))):vcFun Tryd.prog G41 zDn 41 [.one (.int .i64 nodes),.one (.sl l_a1.len 7 (fun i=>enc_85 (l_a1.get i)))] (Wk K) :=
  zbh (by kernel_rfl) (zc hs hk (fun hs hk=>((wk hk (zc5 (.agg (zc5 (.rfl _) (zc5 (.nil _ _) zgw))) (zc5 (.one (.rfl _)) zgw))):Wk K [.agg [.int .i64 (0:Int),.nils],.one (.int .i64 (3:Int))])) (fun hs hk=>(zDv hs hk)))
def zDw : List PA → COut
  | [.one (.int .i64 a0),.one (.sl a1_n a1_s a1_g)]=>.det (IsE enc_85 7 a1_s a1_g∧p41 a0 (⟨a1_n,zcR a1_g⟩:(Sl Pulse))=true) [.agg [.int .i64 (((s41 a0 (⟨a1_n,zcR a1_g⟩:(Sl Pulse))).1).Nodes),.sl (((s41 a0 (⟨a1_n,zcR a1_g⟩:(Sl Pulse))).1).Ties.len) 4 (fun i=>zaj (((s41 a0 (⟨a1_n,zcR a1_g⟩:(Sl Pulse))).1).Ties.get i))],.one (.int .i64 ((s41 a0 (⟨a1_n,zcR a1_g⟩:(Sl Pulse))).2))]
  | _=>.no
theorem zFV:zas Tryd.prog 41:=⟨_,rfl,rfl,by kernel_rfl⟩
theorem zIK:Ok Tryd.prog 41 zDw:=zeW zHr zFV fun args K h=>by
  unfold zDw at h
  split at h
  · rename_i a0 a1_n a1_s a1_g
    obtain ⟨⟨⟨rfl,a1_f,rfl⟩,hs⟩,hk⟩:=h
    try rw [zcS a1_f] at hs
    try rw [zcS a1_f] at hk
    exact ⟨_,zec zeA _,(fun _ _=>[]),(fun _=>false),zDn,q41 a0 (⟨a1_n,a1_f⟩:(Sl Pulse)) K hs hk⟩
  · exact h.elim
abbrev T42:Tabs:=Tabs.nil
theorem zHs:TabsOk Tryd.prog T42:=TabsOk.nil
abbrev G42:Ctrs:=csm T42 (fun _ _=>[]) (fun _=>false)
def zDx:Ann:=⟨38,[(0,zK [2,3] [2,3]),(1,zK [2,3,19] [2,3]),(2,zK [4] []),(3,zK [2,3,5] [2,3]),(4,zK [2,3,5,24] [2,3]),(5,zK [2,3,5] [2,3]),(6,zK [2,3,5,37] [2,3]),(7,zK [4] []),(8,zK [4] [])],
 [(4,zK [2,3,5] [2,3])],
 [(3,zK [2,3] [2,3])],
 [],[]⟩
abbrev R42:=Bool
abbrev e42 (r:R42):List PA:=[.one (.bool r)]
@[irreducible] def z42:=ptF Tryd.prog G42 zDx Tryd.f42
def zAr (a:Net) (b:Net) (iv1:Int):St:=⟨[(2,zp 2 0),(3,zp 3 0),(5,zI iv1)],[(2,.box 24 (zm (zcn a))),(3,.box 24 (zm (zcn b)))],[]⟩
abbrev zFW (K:List PA→Prop) (a:Net) (b:Net) (X:St→Prop) (P:Int→Bool) (S:Int→Bool):Prop:=∀ ⦃iv1:Int⦄,P iv1=true→K (e42 (S iv1))→X (zAr a b iv1)
section
variable {K:List PA→Prop} {a:Net} {b:Net} {iv1:Int} {X1:St→Prop} {P1:Int→Bool} {S1:Int→Bool}
def zhp (a:Net) (b:Net) (S1:Int→Bool) (iv1:Int):Bool :=
  (cond (decide (iv1 < (a.Ties.len : Int)))
 (cond (!(match ((a.Ties.get iv1.toNat).From == (b.Ties.get iv1.toNat).From) with | true => (match ((a.Ties.get iv1.toNat).To == (b.Ties.get iv1.toNat).To) with | true => (match ((a.Ties.get iv1.toNat).Low == (b.Ties.get iv1.toNat).Low) with | true => (match ((a.Ties.get iv1.toNat).High == (b.Ties.get iv1.toNat).High) with | true => true | false => false) | false => false) | false => false) | false => false))
 false
 (S1 (w64 (iv1+(1:Int)))))
 true)
def zhq (a:Net) (b:Net) (P1:Int→Bool) (iv1:Int):Bool :=
  (cond (decide (iv1 < (a.Ties.len : Int)))
 (decide ((0≤iv1∧iv1 < (a.Ties.len:Int))) &&
 (decide ((0≤iv1∧iv1 < (b.Ties.len:Int))) &&
 (cond (!(match ((a.Ties.get iv1.toNat).From == (b.Ties.get iv1.toNat).From) with | true => (match ((a.Ties.get iv1.toNat).To == (b.Ties.get iv1.toNat).To) with | true => (match ((a.Ties.get iv1.toNat).Low == (b.Ties.get iv1.toNat).Low) with | true => (match ((a.Ties.get iv1.toNat).High == (b.Ties.get iv1.toNat).High) with | true => true | false => false) | false => false) | false => false) | false => false))
 true
 (P1 (w64 (iv1+(1:Int)))))))
 true)
def zhr (a:Net) (b:Net):Nat→Int→Bool:=lpO (fun _=>default) (zhp a b)
def zhs (a:Net) (b:Net):Nat→Int→Bool:=lpO (fun _=>false) (zhq a b)
def zxQ (a:Net) (b:Net) (iv1:Int):Bool:=zhr a b Fuel iv1
def zxR (a:Net) (b:Net) (iv1:Int):Bool:=zhs a b Fuel iv1
theorem zDy (hs:zxR a b iv1=true) (hk:K (e42 (zxQ a b iv1))):z42 K [1,1,0,1,0] [] (zAr a b iv1) :=
  zl (fun X=>z42 K [1,1,0,1,0,0] [X]) (by kernel_rfl) fun X1 hX =>
  (show ∀ k, zFW K a b X1 (zhs a b k) (zhr a b k) from zkR _ _ (zhq a b) (zhp a b) (zFW K a b X1)
 (by intro _ hs;exact absurd hs Bool.false_ne_true)
 (by intro P1 S1 hX1 iv1 hs hk;exact hX _ (zbh (by kernel_rfl) (zc hs hk (fun hs hk=>(za7 hs fun hc hs=>And.intro hc (za7 hs fun hc hs=>And.intro hc (zc hs hk (fun hs hk=>hk) (fun hs hk=>(hX1 hs hk)))))) (fun hs hk=>hk))))) _ hs hk
def zqy (a:Net) (b:Net):Bool :=
  (zxQ a b (0:Int))
def zxS (a:Net) (b:Net):Bool :=
  (zxR a b (0:Int))
theorem zDz (hs:zxS a b=true) (hk:K (e42 (zqy a b))):z42 K [1,1] [] ⟨[(2,zp 2 0),(3,zp 3 0)],[(2,.box 24 (zm (zcn a))),(3,.box 24 (zm (zcn b)))],[]⟩:=zbh (by kernel_rfl) (zDy hs hk)
def s42 (a:Net) (b:Net):Bool :=
  (cond (a.Nodes != b.Nodes)
 false
 (cond ((a.Ties.len : Int) != (b.Ties.len : Int))
 false
 (zqy a b)))
def p42 (a:Net) (b:Net):Bool :=
  (cond (a.Nodes != b.Nodes)
 true
 (cond ((a.Ties.len : Int) != (b.Ties.len : Int))
 true
 (zxS a b)))
end
theorem q42 (a:Net) (b:Net) (K:List PA→Prop) (hs:p42 a b=true) (hk:K (e42 (s42 a b))):vcFun Tryd.prog G42 zDx 42 [.agg (zcn a),.agg (zcn b)] K :=
  zbh (by kernel_rfl) (zc hs hk (fun hs hk=>hk) (fun hs hk=>(zc hs hk (fun hs hk=>hk) (fun hs hk=>(zDz hs hk)))))
def zDA : List PA → COut
  | [.agg [.int .i64 a0_Nodes,.sl a0_Ties_n a0_Ties_s a0_Ties_g],.agg [.int .i64 a1_Nodes,.sl a1_Ties_n a1_Ties_s a1_Ties_g]]=>.det (IsE zaj 4 a0_Ties_s a0_Ties_g∧IsE zaj 4 a1_Ties_s a1_Ties_g∧p42 (⟨a0_Nodes,(⟨a0_Ties_n,zaa a0_Ties_g⟩:(Sl Tie))⟩:Net) (⟨a1_Nodes,(⟨a1_Ties_n,zaa a1_Ties_g⟩:(Sl Tie))⟩:Net)=true) [.one (.bool (s42 (⟨a0_Nodes,(⟨a0_Ties_n,zaa a0_Ties_g⟩:(Sl Tie))⟩:Net) (⟨a1_Nodes,(⟨a1_Ties_n,zaa a1_Ties_g⟩:(Sl Tie))⟩:Net)))]
  | _=>.no
theorem zFX:zas Tryd.prog 42:=⟨_,rfl,rfl,by kernel_rfl⟩
theorem zIL:Ok Tryd.prog 42 zDA:=zbJ zHs zFX fun args K h=>by
  unfold zDA at h
  split at h
  · rename_i a0_Nodes a0_Ties_n a0_Ties_s a0_Ties_g a1_Nodes a1_Ties_n a1_Ties_s a1_Ties_g
    obtain ⟨⟨⟨rfl,a0_Ties_f,rfl⟩,⟨rfl,a1_Ties_f,rfl⟩,hs⟩,hk⟩:=h
    try rw [zar a0_Ties_f] at hs
    try rw [zar a0_Ties_f] at hk
    try rw [zar a1_Ties_f] at hs
    try rw [zar a1_Ties_f] at hk
    exact ⟨(fun _ _=>[]),(fun _=>false),zDx,q42 (⟨a0_Nodes,(⟨a0_Ties_n,a0_Ties_f⟩:(Sl Tie))⟩:Net) (⟨a1_Nodes,(⟨a1_Ties_n,a1_Ties_f⟩:(Sl Tie))⟩:Net) K hs hk⟩
  · exact h.elim
abbrev T8:Tabs:=((((Tabs.nil.addF 21 zDc).addF 40 zDl).addF 41 zDw).addF 42 zDA)
theorem zIM:TabsOk Tryd.prog T8:=((((TabsOk.nil.addF zIH).addF zII).addF zIK).addF zIL)
abbrev G8:Ctrs:=csm T8 (fun _ _=>[]) (fun _=>false)
def zHt:Ann:=⟨46,[(0,zK [0,1] []),(1,zK [0,1,21] []),(2,zK [4] []),(3,zK [0,1,5,6] [5]),(4,zK [5,6,7,8] [5,7]),(5,zK [4] [])],
 [],
 [(3,zK [0,1] []),(4,zK [0,1,5,6] [5]),(5,zK [5,6,7,8] [5,7])],
 [],[]⟩
abbrev R8:=Bool
abbrev e8 (r:R8):List PA:=[.one (.bool r)]
@[irreducible] def z8:=ptF Tryd.prog G8 zHt Tryd.f8
section
variable {K:List PA→Prop} {nodes:Int} {l_a1:(Sl Pulse)} {ev1:Int} {zgS:Int} {zfE:(Sl Tie)} {zxT:Nat→List PV} {fv2:Int} {zew:Int} {zdn:(Sl Tie)} {zk0:Nat→List PV}
def zxU (ev1:Int) (zgS:Int) (zfE:(Sl Tie)) (fv2:Int) (zew:Int) (zdn:(Sl Tie)):Bool :=
  (cond (ev1 == fv2)
 (cond (s42 (⟨zgS, zfE⟩ : Net) (⟨zew, zdn⟩ : Net))
 true
 false)
 false)
def zxV (ev1:Int) (zgS:Int) (zfE:(Sl Tie)) (fv2:Int) (zew:Int) (zdn:(Sl Tie)):Bool :=
  (cond (ev1 == fv2)
 (decide ((p42 (⟨zgS,zfE⟩:Net) (⟨zew,zdn⟩:Net)=true)) &&
 true)
 true)
theorem zFY (hs:zxV ev1 zgS zfE fv2 zew zdn=true) (hk:K (e8 (zxU ev1 zgS zfE fv2 zew zdn))) (zsH:zk0=zg zaj zdn):z8 K [1,1,1,1] [] ⟨[(5,zp 5 0),(6,zI ev1),(7,zp 7 0),(8,zI fv2)],[(5,.box 24 (zm (zcn (⟨zgS,zfE⟩:Net)))),(7,.box 24 [zi zew,.p (.sl zdn.len 4 zk0)])],[]⟩:=by subst zsH;exact zbh (by kernel_rfl) (zc hs hk (fun hs hk=>(za7 hs fun hc hs=>And.intro (And.intro (zE zaj 4 zfE.get) (And.intro (zE zaj 4 zdn.get) hc)) (zt hk (fun hk=>hk) (fun hk=>hk)))) (fun hs hk=>hk))
def zxW (nodes:Int) (l_a1:(Sl Pulse)) (ev1:Int) (zgS:Int) (zfE:(Sl Tie)):Bool :=
  (zxU ev1 zgS zfE ((s41 nodes l_a1).2) (((s41 nodes l_a1).1).Nodes) (((s41 nodes l_a1).1).Ties))
def zxX (nodes:Int) (l_a1:(Sl Pulse)) (ev1:Int) (zgS:Int) (zfE:(Sl Tie)):Bool :=
  (decide ((p41 nodes l_a1=true)) &&
 (zxV ev1 zgS zfE ((s41 nodes l_a1).2) (((s41 nodes l_a1).1).Nodes) (((s41 nodes l_a1).1).Ties)))
theorem zFZ (hs:zxX nodes l_a1 ev1 zgS zfE=true) (hk:K (e8 (zxW nodes l_a1 ev1 zgS zfE))) (zDB:zxT=zg zaj zfE):z8 K [1,1,1] [] ⟨[(0,zI nodes),(1,zS enc_85 7 l_a1),(5,zp 5 0),(6,zI ev1)],[(5,.box 24 [zi zgS,.p (.sl zfE.len 4 zxT)])],[]⟩:=by subst zDB;exact zbh (by kernel_rfl) (za7 hs fun hc hs=>And.intro (And.intro (zE enc_85 7 l_a1.get) hc) (zFY hs hk rfl))
def znW (nodes:Int) (l_a1:(Sl Pulse)):Bool :=
  (zxW nodes l_a1 ((s40 nodes l_a1).2) (((s40 nodes l_a1).1).Nodes) (((s40 nodes l_a1).1).Ties))
def znX (nodes:Int) (l_a1:(Sl Pulse)):Bool :=
  (decide ((p40 nodes l_a1=true)) &&
 (zxX nodes l_a1 ((s40 nodes l_a1).2) (((s40 nodes l_a1).1).Nodes) (((s40 nodes l_a1).1).Ties)))
theorem zAs (hs:znX nodes l_a1=true) (hk:K (e8 (znW nodes l_a1))):z8 K [1,1] [] ⟨[(0,zI nodes),(1,zS enc_85 7 l_a1)],[],[]⟩:=zbh (by kernel_rfl) (za7 hs fun hc hs=>And.intro (And.intro (zE enc_85 7 l_a1.get) hc) (zFZ hs hk rfl))
def s8 (nodes:Int) (l_a1:(Sl Pulse)):Bool :=
  (cond (decide ((l_a1.len : Int) > (20:Int)))
 (cond (decide ((l_a1.len : Int) ≤ (200:Int)))
 true
 (cond (decide ((l_a1.len : Int) > (210:Int)))
 true
 (znW nodes l_a1)))
 (cond (decide ((l_a1.len : Int) > (210:Int)))
 true
 (znW nodes l_a1)))
def p8 (nodes:Int) (l_a1:(Sl Pulse)):Bool :=
  (cond (decide ((l_a1.len : Int) > (20:Int)))
 (cond (decide ((l_a1.len : Int) ≤ (200:Int)))
 true
 (cond (decide ((l_a1.len : Int) > (210:Int)))
 true
 (znX nodes l_a1)))
 (cond (decide ((l_a1.len : Int) > (210:Int)))
 true
 (znX nodes l_a1)))
end
theorem q8 (nodes:Int) (l_a1:(Sl Pulse)) (K:List PA→Prop) (hs:p8 nodes l_a1=true) (hk:K (e8 (s8 nodes l_a1))):vcFun Tryd.prog G8 zHt 8 [.one (.int .i64 nodes),.one (.sl l_a1.len 7 (fun i=>enc_85 (l_a1.get i)))] K :=
  zbh (by kernel_rfl) (zc hs hk (fun hs hk=>(zc hs hk (fun hs hk=>hk) (fun hs hk=>(zc hs hk (fun hs hk=>hk) (fun hs hk=>(zAs hs hk)))))) (fun hs hk=>(zc hs hk (fun hs hk=>hk) (fun hs hk=>(zAs hs hk)))))
def zHT : List PA → COut
  | [.one (.int .i64 a0),.one (.sl a1_n a1_s a1_g)]=>.det (IsE enc_85 7 a1_s a1_g∧p8 a0 (⟨a1_n,zcR a1_g⟩:(Sl Pulse))=true) [.one (.bool (s8 a0 (⟨a1_n,zcR a1_g⟩:(Sl Pulse))))]
  | _=>.no
theorem call8:zas Tryd.prog 8:=⟨_,rfl,rfl,by kernel_rfl⟩
theorem ok8:Ok Tryd.prog 8 zHT:=zbJ zIM call8 fun args K h=>by
  unfold zHT at h
  split at h
  · rename_i a0 a1_n a1_s a1_g
    obtain ⟨⟨⟨rfl,a1_f,rfl⟩,hs⟩,hk⟩:=h
    try rw [zcS a1_f] at hs
    try rw [zcS a1_f] at hk
    exact ⟨(fun _ _=>[]),(fun _=>false),zHt,q8 a0 (⟨a1_n,a1_f⟩:(Sl Pulse)) K hs hk⟩
  · exact h.elim
end Go.Proofs
namespace Go.Proofs.YtedhjaaikeakoaaDoor
open Go Go.Pm Go.ChangeShapes
set_option maxRecDepth 100000
abbrev laid1 : List (String × DataW Unit) := [("overburden/align.never", Rows.laid_overburden_align_never)]
theorem zAt : Tryd.prog.globalNamed "overburden/align.never" = some 0 := by kernel_rfl
theorem zF0:(Tryd.prog.globals[0]?).map (·.type)=some 114:=by kernel_rfl
theorem zF1:Tryd.prog.cellsOf 114=2:=by kernel_rfl
theorem zHU:Tryd.prog.cellsOf 3=1:=by kernel_rfl
theorem door_met (os:Os) (args:Array Value):laidMetH Tryd.prog laid1 ((World.doorLaid Tryd.prog 400 os).forCall (fun _ _=>0) ⟨#[],args,[]⟩).memory :=
 laidMetH_of_parts3 (fuel:=8) (laidMet_of_run' 8 (by kernel_rfl) (by kernel_rfl)) (by kernel_rfl) (by kernel_rfl)
theorem gl_of {W:World} (h:laidMetH Tryd.prog laid1 W):zdH (H0 W):=by
 rw [MakeChecks.laidMetH_plain _ _ _ (by kernel_rfl)] at h
 obtain ⟨ps,⟨g0,t0,cs0,f0,p0,q0,hg0,ht0,hv0,hd0,_,_⟩,_,_⟩:=h
 obtain rfl:=Option.some.inj (zAt.symm.trans hg0)
 obtain rfl:=Option.some.inj (zF0.symm.trans ht0)
 obtain ⟨y0,y1,n,hx,hl,h0,h1⟩:=trod_struct2 Tryd.underlying114 hd0
 simp only [Prod.mk.injEq] at hx
 obtain ⟨hx,-⟩:=hx
 simp only [Rows.laid_overburden_align_never,DataW.agg.injEq,List.cons.injEq,and_true] at hx
 obtain ⟨k0,e0,d0,_⟩:=DataW.trod_int Tryd.underlying3 h0
 obtain ⟨k1,e1,d1,_⟩:=DataW.trod_int Tryd.underlying3 h1
 rw [zF1] at hl
 have e0':cs0.toList.take 1=[.int .i64 k0]:=by
  have:=e0
  rw [show Tryd.prog.cellsOf _=1 from zHU] at this
  simpa using this
 have e1':(cs0.toList.drop 1).take 1=[.int .i64 k1]:=by
  have:=e1
  rw [show Tryd.prog.cellsOf _=1 from zHU] at this
  simpa using this
 have hk0:k0=1000000000000:=by have:=hx.1;rw [d0] at this;injection this with a;injection a with _ a;exact a.symm
 have hk1:k1=0:=by have:=hx.2;rw [d1] at this;injection this with a;injection a with _ a;exact a.symm
 have hC:cs0.toList=[.int .i64 1000000000000,.int .i64 0]:=by
  have h2:cs0.toList=cs0.toList.take 1 ++ (cs0.toList.drop 1).take 1:=by
   rw [← List.take_add,List.take_of_length_le (by omega)]
  rw [h2,e0',e1',hk0,hk1];rfl
 intro k l hk
 unfold World.var? at hv0
 rw [zAt] at hv0
 simp only [Option.bind_some] at hv0
 cases k with
 | succ k=>cases hk
 | zero =>
  obtain rfl:[PV.int .i64 1000000000000,.int .i64 0]=l:=Option.some.inj hk
  cases eo:W.heap[0]? with
  | none=>rw [eo] at hv0;cases hv0
  | some o =>
   rw [eo] at hv0
   cases o with
   | cells C ty fr =>
    simp only [Option.some.injEq] at hv0
    subst hv0
    exact ⟨_,ty,fr,by unfold H0;rw [eo];rfl,by rw [hC];exact ⟨.int _ _,.int _ _,trivial⟩⟩
   | _=>cases hv0
end Go.Proofs.YtedhjaaikeakoaaDoor
namespace Go.Proofs.YtedhjaaikeakoaaDoor
set_option maxRecDepth 100000
@[reducible] def ch (n:Nat):Char:=Char.ofNat n
theorem ioS:Tryd.prog.initOrder=String.ofList [ch 104,ch 97,ch 114,ch 110,ch 101,ch 115,ch 115,ch 32,ch 53,ch 48,ch 57,ch 55,ch 100,ch 48,ch 50,ch 48,ch 49,ch 52,ch 98,ch 55,ch 102,ch 57,ch 98,ch 100,ch 99,ch 52,ch 53,ch 55,ch 53,ch 56,ch 56,ch 102,ch 49,ch 54,ch 97,ch 54,ch 49,ch 49,ch 55,ch 57,ch 102,ch 57,ch 54,ch 100,ch 97,ch 101,ch 101,ch 52,ch 97,ch 48,ch 56,ch 53,ch 99,ch 48,ch 97,ch 50,ch 99,ch 53,ch 52,ch 54,ch 50,ch 100,ch 56,ch 54,ch 51,ch 100,ch 98,ch 52,ch 51,ch 100,ch 98,ch 102,ch 32,ch 99,ch 117,ch 116,ch 32,ch 97,ch 116,ch 32,ch 111,ch 118,ch 101,ch 114,ch 98,ch 117,ch 114,ch 100,ch 101,ch 110,ch 47,ch 111,ch 118,ch 101,ch 114,ch 98,ch 117,ch 114,ch 100,ch 101,ch 110,ch 108,ch 97,ch 119,ch 48,ch 51,ch 46,ch 65,ch 108,ch 105,ch 103,ch 110,ch 66,ch 108,ch 97,ch 109,ch 101,ch 115,ch 32,ch 111,ch 118,ch 101,ch 114,ch 98,ch 117,ch 114,ch 100,ch 101,ch 110,ch 47,ch 111,ch 118,ch 101,ch 114,ch 98,ch 117,ch 114,ch 100,ch 101,ch 110,ch 108,ch 97,ch 119,ch 48,ch 51,ch 46,ch 65,ch 108,ch 105,ch 103,ch 110,ch 70,ch 101,ch 119,ch 101,ch 115,ch 116,ch 32,ch 111,ch 118,ch 101,ch 114,ch 98,ch 117,ch 114,ch 100,ch 101,ch 110,ch 47,ch 111,ch 118,ch 101,ch 114,ch 98,ch 117,ch 114,ch 100,ch 101,ch 110,ch 108,ch 97,ch 119,ch 48,ch 51,ch 46,ch 65,ch 108,ch 105,ch 103,ch 110,ch 84,ch 117,ch 114,ch 110,ch 101,ch 100,ch 32,ch 111,ch 118,ch 101,ch 114,ch 98,ch 117,ch 114,ch 100,ch 101,ch 110,ch 47,ch 111,ch 118,ch 101,ch 114,ch 98,ch 117,ch 114,ch 100,ch 101,ch 110,ch 108,ch 97,ch 119,ch 48,ch 51,ch 46,ch 65,ch 108,ch 105,ch 103,ch 110,ch 66,ch 111,ch 117,ch 110,ch 100,ch 115,ch 32,ch 111,ch 118,ch 101,ch 114,ch 98,ch 117,ch 114,ch 100,ch 101,ch 110,ch 47,ch 111,ch 118,ch 101,ch 114,ch 98,ch 117,ch 114,ch 100,ch 101,ch 110,ch 108,ch 97,ch 119,ch 48,ch 51,ch 46,ch 65,ch 108,ch 105,ch 103,ch 110,ch 70,ch 111,ch 108,ch 108,ch 111,ch 119,ch 115,ch 32,ch 111,ch 118,ch 101,ch 114,ch 98,ch 117,ch 114,ch 100,ch 101,ch 110,ch 47,ch 111,ch 118,ch 101,ch 114,ch 98,ch 117,ch 114,ch 100,ch 101,ch 110,ch 108,ch 97,ch 119,ch 48,ch 51,ch 46,ch 65,ch 108,ch 105,ch 103,ch 110,ch 80,ch 117,ch 108,ch 115,ch 101,ch 115,ch 32,ch 111,ch 118,ch 101,ch 114,ch 98,ch 117,ch 114,ch 100,ch 101,ch 110,ch 47,ch 111,ch 118,ch 101,ch 114,ch 98,ch 117,ch 114,ch 100,ch 101,ch 110,ch 108,ch 97,ch 119,ch 48,ch 51,ch 46,ch 65,ch 108,ch 105,ch 103,ch 110,ch 65,ch 116,ch 116,ch 97,ch 105,ch 110,ch 115,ch 32,ch 111,ch 118,ch 101,ch 114,ch 98,ch 117,ch 114,ch 100,ch 101,ch 110,ch 47,ch 111,ch 118,ch 101,ch 114,ch 98,ch 117,ch 114,ch 100,ch 101,ch 110,ch 108,ch 97,ch 119,ch 48,ch 51,ch 46,ch 65,ch 108,ch 105,ch 103,ch 110,ch 67,ch 104,ch 101,ch 99,ch 107,ch 115,ch 32,ch 111,ch 118,ch 101,ch 114,ch 98,ch 117,ch 114,ch 100,ch 101,ch 110,ch 47,ch 111,ch 118,ch 101,ch 114,ch 98,ch 117,ch 114,ch 100,ch 101,ch 110,ch 108,ch 97,ch 119,ch 48,ch 51,ch 46,ch 65,ch 108,ch 105,ch 103,ch 110,ch 67,ch 111,ch 110,ch 116,ch 114,ch 97,ch 100,ch 105,ch 99,ch 116,ch 115,ch 32,ch 111,ch 118,ch 101,ch 114,ch 98,ch 117,ch 114,ch 100,ch 101,ch 110,ch 47,ch 111,ch 118,ch 101,ch 114,ch 98,ch 117,ch 114,ch 100,ch 101,ch 110,ch 108,ch 97,ch 119,ch 48,ch 51,ch 46,ch 65,ch 108,ch 105,ch 103,ch 110,ch 69,ch 105,ch 116,ch 104,ch 101,ch 114,ch 32,ch 111,ch 118,ch 101,ch 114,ch 98,ch 117,ch 114,ch 100,ch 101,ch 110,ch 47,ch 111,ch 118,ch 101,ch 114,ch 98,ch 117,ch 114,ch 100,ch 101,ch 110,ch 108,ch 97,ch 119,ch 48,ch 51,ch 46,ch 65,ch 108,ch 105,ch 103,ch 110,ch 67,ch 104,ch 97,ch 105,ch 110,ch 115,ch 32,ch 111,ch 118,ch 101,ch 114,ch 98,ch 117,ch 114,ch 100,ch 101,ch 110,ch 47,ch 111,ch 118,ch 101,ch 114,ch 98,ch 117,ch 114,ch 100,ch 101,ch 110,ch 108,ch 97,ch 119,ch 48,ch 51,ch 46,ch 65,ch 108,ch 105,ch 103,ch 110,ch 80,ch 114,ch 111,ch 118,ch 101,ch 115,ch 32,ch 111,ch 118,ch 101,ch 114,ch 98,ch 117,ch 114,ch 100,ch 101,ch 110,ch 47,ch 111,ch 118,ch 101,ch 114,ch 98,ch 117,ch 114,ch 100,ch 101,ch 110,ch 108,ch 97,ch 119,ch 48,ch 51,ch 46,ch 65,ch 108,ch 105,ch 103,ch 110,ch 67,ch 108,ch 111,ch 99,ch 107,ch 115,ch 32,ch 111,ch 118,ch 101,ch 114,ch 98,ch 117,ch 114,ch 100,ch 101,ch 110,ch 47,ch 111,ch 118,ch 101,ch 114,ch 98,ch 117,ch 114,ch 100,ch 101,ch 110,ch 108,ch 97,ch 119,ch 48,ch 51,ch 46,ch 65,ch 108,ch 105,ch 103,ch 110,ch 78,ch 101,ch 101,ch 100,ch 115,ch 32,ch 111,ch 118,ch 101,ch 114,ch 98,ch 117,ch 114,ch 100,ch 101,ch 110,ch 47,ch 111,ch 118,ch 101,ch 114,ch 98,ch 117,ch 114,ch 100,ch 101,ch 110,ch 108,ch 97,ch 119,ch 48,ch 51,ch 46,ch 65,ch 108,ch 105,ch 103,ch 110,ch 69,ch 112,ch 111,ch 99,ch 104,ch 115,ch 32,ch 111,ch 118,ch 101,ch 114,ch 98,ch 117,ch 114,ch 100,ch 101,ch 110,ch 47,ch 111,ch 118,ch 101,ch 114,ch 98,ch 117,ch 114,ch 100,ch 101,ch 110,ch 108,ch 97,ch 119,ch 48,ch 51,ch 46,ch 65,ch 108,ch 105,ch 103,ch 110,ch 68,ch 114,ch 105,ch 102,ch 116,ch 115,ch 32,ch 111,ch 118,ch 101,ch 114,ch 98,ch 117,ch 114,ch 100,ch 101,ch 110,ch 47,ch 111,ch 118,ch 101,ch 114,ch 98,ch 117,ch 114,ch 100,ch 101,ch 110,ch 108,ch 97,ch 119,ch 48,ch 51,ch 46,ch 65,ch 108,ch 105,ch 103,ch 110,ch 77,ch 101,ch 114,ch 103,ch 101,ch 115]:=by kernel_rfl
theorem ioL:Tryd.prog.initOrder.toList=[ch 104,ch 97,ch 114,ch 110,ch 101,ch 115,ch 115,ch 32,ch 53,ch 48,ch 57,ch 55,ch 100,ch 48,ch 50,ch 48,ch 49,ch 52,ch 98,ch 55,ch 102,ch 57,ch 98,ch 100,ch 99,ch 52,ch 53,ch 55,ch 53,ch 56,ch 56,ch 102,ch 49,ch 54,ch 97,ch 54,ch 49,ch 49,ch 55,ch 57,ch 102,ch 57,ch 54,ch 100,ch 97,ch 101,ch 101,ch 52,ch 97,ch 48,ch 56,ch 53,ch 99,ch 48,ch 97,ch 50,ch 99,ch 53,ch 52,ch 54,ch 50,ch 100,ch 56,ch 54,ch 51,ch 100,ch 98,ch 52,ch 51,ch 100,ch 98,ch 102,ch 32,ch 99,ch 117,ch 116,ch 32,ch 97,ch 116,ch 32,ch 111,ch 118,ch 101,ch 114,ch 98,ch 117,ch 114,ch 100,ch 101,ch 110,ch 47,ch 111,ch 118,ch 101,ch 114,ch 98,ch 117,ch 114,ch 100,ch 101,ch 110,ch 108,ch 97,ch 119,ch 48,ch 51,ch 46,ch 65,ch 108,ch 105,ch 103,ch 110,ch 66,ch 108,ch 97,ch 109,ch 101,ch 115,ch 32,ch 111,ch 118,ch 101,ch 114,ch 98,ch 117,ch 114,ch 100,ch 101,ch 110,ch 47,ch 111,ch 118,ch 101,ch 114,ch 98,ch 117,ch 114,ch 100,ch 101,ch 110,ch 108,ch 97,ch 119,ch 48,ch 51,ch 46,ch 65,ch 108,ch 105,ch 103,ch 110,ch 70,ch 101,ch 119,ch 101,ch 115,ch 116,ch 32,ch 111,ch 118,ch 101,ch 114,ch 98,ch 117,ch 114,ch 100,ch 101,ch 110,ch 47,ch 111,ch 118,ch 101,ch 114,ch 98,ch 117,ch 114,ch 100,ch 101,ch 110,ch 108,ch 97,ch 119,ch 48,ch 51,ch 46,ch 65,ch 108,ch 105,ch 103,ch 110,ch 84,ch 117,ch 114,ch 110,ch 101,ch 100,ch 32,ch 111,ch 118,ch 101,ch 114,ch 98,ch 117,ch 114,ch 100,ch 101,ch 110,ch 47,ch 111,ch 118,ch 101,ch 114,ch 98,ch 117,ch 114,ch 100,ch 101,ch 110,ch 108,ch 97,ch 119,ch 48,ch 51,ch 46,ch 65,ch 108,ch 105,ch 103,ch 110,ch 66,ch 111,ch 117,ch 110,ch 100,ch 115,ch 32,ch 111,ch 118,ch 101,ch 114,ch 98,ch 117,ch 114,ch 100,ch 101,ch 110,ch 47,ch 111,ch 118,ch 101,ch 114,ch 98,ch 117,ch 114,ch 100,ch 101,ch 110,ch 108,ch 97,ch 119,ch 48,ch 51,ch 46,ch 65,ch 108,ch 105,ch 103,ch 110,ch 70,ch 111,ch 108,ch 108,ch 111,ch 119,ch 115,ch 32,ch 111,ch 118,ch 101,ch 114,ch 98,ch 117,ch 114,ch 100,ch 101,ch 110,ch 47,ch 111,ch 118,ch 101,ch 114,ch 98,ch 117,ch 114,ch 100,ch 101,ch 110,ch 108,ch 97,ch 119,ch 48,ch 51,ch 46,ch 65,ch 108,ch 105,ch 103,ch 110,ch 80,ch 117,ch 108,ch 115,ch 101,ch 115,ch 32,ch 111,ch 118,ch 101,ch 114,ch 98,ch 117,ch 114,ch 100,ch 101,ch 110,ch 47,ch 111,ch 118,ch 101,ch 114,ch 98,ch 117,ch 114,ch 100,ch 101,ch 110,ch 108,ch 97,ch 119,ch 48,ch 51,ch 46,ch 65,ch 108,ch 105,ch 103,ch 110,ch 65,ch 116,ch 116,ch 97,ch 105,ch 110,ch 115,ch 32,ch 111,ch 118,ch 101,ch 114,ch 98,ch 117,ch 114,ch 100,ch 101,ch 110,ch 47,ch 111,ch 118,ch 101,ch 114,ch 98,ch 117,ch 114,ch 100,ch 101,ch 110,ch 108,ch 97,ch 119,ch 48,ch 51,ch 46,ch 65,ch 108,ch 105,ch 103,ch 110,ch 67,ch 104,ch 101,ch 99,ch 107,ch 115,ch 32,ch 111,ch 118,ch 101,ch 114,ch 98,ch 117,ch 114,ch 100,ch 101,ch 110,ch 47,ch 111,ch 118,ch 101,ch 114,ch 98,ch 117,ch 114,ch 100,ch 101,ch 110,ch 108,ch 97,ch 119,ch 48,ch 51,ch 46,ch 65,ch 108,ch 105,ch 103,ch 110,ch 67,ch 111,ch 110,ch 116,ch 114,ch 97,ch 100,ch 105,ch 99,ch 116,ch 115,ch 32,ch 111,ch 118,ch 101,ch 114,ch 98,ch 117,ch 114,ch 100,ch 101,ch 110,ch 47,ch 111,ch 118,ch 101,ch 114,ch 98,ch 117,ch 114,ch 100,ch 101,ch 110,ch 108,ch 97,ch 119,ch 48,ch 51,ch 46,ch 65,ch 108,ch 105,ch 103,ch 110,ch 69,ch 105,ch 116,ch 104,ch 101,ch 114,ch 32,ch 111,ch 118,ch 101,ch 114,ch 98,ch 117,ch 114,ch 100,ch 101,ch 110,ch 47,ch 111,ch 118,ch 101,ch 114,ch 98,ch 117,ch 114,ch 100,ch 101,ch 110,ch 108,ch 97,ch 119,ch 48,ch 51,ch 46,ch 65,ch 108,ch 105,ch 103,ch 110,ch 67,ch 104,ch 97,ch 105,ch 110,ch 115,ch 32,ch 111,ch 118,ch 101,ch 114,ch 98,ch 117,ch 114,ch 100,ch 101,ch 110,ch 47,ch 111,ch 118,ch 101,ch 114,ch 98,ch 117,ch 114,ch 100,ch 101,ch 110,ch 108,ch 97,ch 119,ch 48,ch 51,ch 46,ch 65,ch 108,ch 105,ch 103,ch 110,ch 80,ch 114,ch 111,ch 118,ch 101,ch 115,ch 32,ch 111,ch 118,ch 101,ch 114,ch 98,ch 117,ch 114,ch 100,ch 101,ch 110,ch 47,ch 111,ch 118,ch 101,ch 114,ch 98,ch 117,ch 114,ch 100,ch 101,ch 110,ch 108,ch 97,ch 119,ch 48,ch 51,ch 46,ch 65,ch 108,ch 105,ch 103,ch 110,ch 67,ch 108,ch 111,ch 99,ch 107,ch 115,ch 32,ch 111,ch 118,ch 101,ch 114,ch 98,ch 117,ch 114,ch 100,ch 101,ch 110,ch 47,ch 111,ch 118,ch 101,ch 114,ch 98,ch 117,ch 114,ch 100,ch 101,ch 110,ch 108,ch 97,ch 119,ch 48,ch 51,ch 46,ch 65,ch 108,ch 105,ch 103,ch 110,ch 78,ch 101,ch 101,ch 100,ch 115,ch 32,ch 111,ch 118,ch 101,ch 114,ch 98,ch 117,ch 114,ch 100,ch 101,ch 110,ch 47,ch 111,ch 118,ch 101,ch 114,ch 98,ch 117,ch 114,ch 100,ch 101,ch 110,ch 108,ch 97,ch 119,ch 48,ch 51,ch 46,ch 65,ch 108,ch 105,ch 103,ch 110,ch 69,ch 112,ch 111,ch 99,ch 104,ch 115,ch 32,ch 111,ch 118,ch 101,ch 114,ch 98,ch 117,ch 114,ch 100,ch 101,ch 110,ch 47,ch 111,ch 118,ch 101,ch 114,ch 98,ch 117,ch 114,ch 100,ch 101,ch 110,ch 108,ch 97,ch 119,ch 48,ch 51,ch 46,ch 65,ch 108,ch 105,ch 103,ch 110,ch 68,ch 114,ch 105,ch 102,ch 116,ch 115,ch 32,ch 111,ch 118,ch 101,ch 114,ch 98,ch 117,ch 114,ch 100,ch 101,ch 110,ch 47,ch 111,ch 118,ch 101,ch 114,ch 98,ch 117,ch 114,ch 100,ch 101,ch 110,ch 108,ch 97,ch 119,ch 48,ch 51,ch 46,ch 65,ch 108,ch 105,ch 103,ch 110,ch 77,ch 101,ch 114,ch 103,ch 101,ch 115]:=(congrArg String.toList ioS).trans String.toList_ofList
theorem ioW:wordsSigns Tryd.prog.initOrder.toList=[[ch 104,ch 97,ch 114,ch 110,ch 101,ch 115,ch 115],[ch 53,ch 48,ch 57,ch 55,ch 100,ch 48,ch 50,ch 48,ch 49,ch 52,ch 98,ch 55,ch 102,ch 57,ch 98,ch 100,ch 99,ch 52,ch 53,ch 55,ch 53,ch 56,ch 56,ch 102,ch 49,ch 54,ch 97,ch 54,ch 49,ch 49,ch 55,ch 57,ch 102,ch 57,ch 54,ch 100,ch 97,ch 101,ch 101,ch 52,ch 97,ch 48,ch 56,ch 53,ch 99,ch 48,ch 97,ch 50,ch 99,ch 53,ch 52,ch 54,ch 50,ch 100,ch 56,ch 54,ch 51,ch 100,ch 98,ch 52,ch 51,ch 100,ch 98,ch 102],[ch 99,ch 117,ch 116],[ch 97,ch 116],[ch 111,ch 118,ch 101,ch 114,ch 98,ch 117,ch 114,ch 100,ch 101,ch 110,ch 47,ch 111,ch 118,ch 101,ch 114,ch 98,ch 117,ch 114,ch 100,ch 101,ch 110,ch 108,ch 97,ch 119,ch 48,ch 51,ch 46,ch 65,ch 108,ch 105,ch 103,ch 110,ch 66,ch 108,ch 97,ch 109,ch 101,ch 115],[ch 111,ch 118,ch 101,ch 114,ch 98,ch 117,ch 114,ch 100,ch 101,ch 110,ch 47,ch 111,ch 118,ch 101,ch 114,ch 98,ch 117,ch 114,ch 100,ch 101,ch 110,ch 108,ch 97,ch 119,ch 48,ch 51,ch 46,ch 65,ch 108,ch 105,ch 103,ch 110,ch 70,ch 101,ch 119,ch 101,ch 115,ch 116],[ch 111,ch 118,ch 101,ch 114,ch 98,ch 117,ch 114,ch 100,ch 101,ch 110,ch 47,ch 111,ch 118,ch 101,ch 114,ch 98,ch 117,ch 114,ch 100,ch 101,ch 110,ch 108,ch 97,ch 119,ch 48,ch 51,ch 46,ch 65,ch 108,ch 105,ch 103,ch 110,ch 84,ch 117,ch 114,ch 110,ch 101,ch 100],[ch 111,ch 118,ch 101,ch 114,ch 98,ch 117,ch 114,ch 100,ch 101,ch 110,ch 47,ch 111,ch 118,ch 101,ch 114,ch 98,ch 117,ch 114,ch 100,ch 101,ch 110,ch 108,ch 97,ch 119,ch 48,ch 51,ch 46,ch 65,ch 108,ch 105,ch 103,ch 110,ch 66,ch 111,ch 117,ch 110,ch 100,ch 115],[ch 111,ch 118,ch 101,ch 114,ch 98,ch 117,ch 114,ch 100,ch 101,ch 110,ch 47,ch 111,ch 118,ch 101,ch 114,ch 98,ch 117,ch 114,ch 100,ch 101,ch 110,ch 108,ch 97,ch 119,ch 48,ch 51,ch 46,ch 65,ch 108,ch 105,ch 103,ch 110,ch 70,ch 111,ch 108,ch 108,ch 111,ch 119,ch 115],[ch 111,ch 118,ch 101,ch 114,ch 98,ch 117,ch 114,ch 100,ch 101,ch 110,ch 47,ch 111,ch 118,ch 101,ch 114,ch 98,ch 117,ch 114,ch 100,ch 101,ch 110,ch 108,ch 97,ch 119,ch 48,ch 51,ch 46,ch 65,ch 108,ch 105,ch 103,ch 110,ch 80,ch 117,ch 108,ch 115,ch 101,ch 115],[ch 111,ch 118,ch 101,ch 114,ch 98,ch 117,ch 114,ch 100,ch 101,ch 110,ch 47,ch 111,ch 118,ch 101,ch 114,ch 98,ch 117,ch 114,ch 100,ch 101,ch 110,ch 108,ch 97,ch 119,ch 48,ch 51,ch 46,ch 65,ch 108,ch 105,ch 103,ch 110,ch 65,ch 116,ch 116,ch 97,ch 105,ch 110,ch 115],[ch 111,ch 118,ch 101,ch 114,ch 98,ch 117,ch 114,ch 100,ch 101,ch 110,ch 47,ch 111,ch 118,ch 101,ch 114,ch 98,ch 117,ch 114,ch 100,ch 101,ch 110,ch 108,ch 97,ch 119,ch 48,ch 51,ch 46,ch 65,ch 108,ch 105,ch 103,ch 110,ch 67,ch 104,ch 101,ch 99,ch 107,ch 115],[ch 111,ch 118,ch 101,ch 114,ch 98,ch 117,ch 114,ch 100,ch 101,ch 110,ch 47,ch 111,ch 118,ch 101,ch 114,ch 98,ch 117,ch 114,ch 100,ch 101,ch 110,ch 108,ch 97,ch 119,ch 48,ch 51,ch 46,ch 65,ch 108,ch 105,ch 103,ch 110,ch 67,ch 111,ch 110,ch 116,ch 114,ch 97,ch 100,ch 105,ch 99,ch 116,ch 115],[ch 111,ch 118,ch 101,ch 114,ch 98,ch 117,ch 114,ch 100,ch 101,ch 110,ch 47,ch 111,ch 118,ch 101,ch 114,ch 98,ch 117,ch 114,ch 100,ch 101,ch 110,ch 108,ch 97,ch 119,ch 48,ch 51,ch 46,ch 65,ch 108,ch 105,ch 103,ch 110,ch 69,ch 105,ch 116,ch 104,ch 101,ch 114],[ch 111,ch 118,ch 101,ch 114,ch 98,ch 117,ch 114,ch 100,ch 101,ch 110,ch 47,ch 111,ch 118,ch 101,ch 114,ch 98,ch 117,ch 114,ch 100,ch 101,ch 110,ch 108,ch 97,ch 119,ch 48,ch 51,ch 46,ch 65,ch 108,ch 105,ch 103,ch 110,ch 67,ch 104,ch 97,ch 105,ch 110,ch 115],[ch 111,ch 118,ch 101,ch 114,ch 98,ch 117,ch 114,ch 100,ch 101,ch 110,ch 47,ch 111,ch 118,ch 101,ch 114,ch 98,ch 117,ch 114,ch 100,ch 101,ch 110,ch 108,ch 97,ch 119,ch 48,ch 51,ch 46,ch 65,ch 108,ch 105,ch 103,ch 110,ch 80,ch 114,ch 111,ch 118,ch 101,ch 115],[ch 111,ch 118,ch 101,ch 114,ch 98,ch 117,ch 114,ch 100,ch 101,ch 110,ch 47,ch 111,ch 118,ch 101,ch 114,ch 98,ch 117,ch 114,ch 100,ch 101,ch 110,ch 108,ch 97,ch 119,ch 48,ch 51,ch 46,ch 65,ch 108,ch 105,ch 103,ch 110,ch 67,ch 108,ch 111,ch 99,ch 107,ch 115],[ch 111,ch 118,ch 101,ch 114,ch 98,ch 117,ch 114,ch 100,ch 101,ch 110,ch 47,ch 111,ch 118,ch 101,ch 114,ch 98,ch 117,ch 114,ch 100,ch 101,ch 110,ch 108,ch 97,ch 119,ch 48,ch 51,ch 46,ch 65,ch 108,ch 105,ch 103,ch 110,ch 78,ch 101,ch 101,ch 100,ch 115],[ch 111,ch 118,ch 101,ch 114,ch 98,ch 117,ch 114,ch 100,ch 101,ch 110,ch 47,ch 111,ch 118,ch 101,ch 114,ch 98,ch 117,ch 114,ch 100,ch 101,ch 110,ch 108,ch 97,ch 119,ch 48,ch 51,ch 46,ch 65,ch 108,ch 105,ch 103,ch 110,ch 69,ch 112,ch 111,ch 99,ch 104,ch 115],[ch 111,ch 118,ch 101,ch 114,ch 98,ch 117,ch 114,ch 100,ch 101,ch 110,ch 47,ch 111,ch 118,ch 101,ch 114,ch 98,ch 117,ch 114,ch 100,ch 101,ch 110,ch 108,ch 97,ch 119,ch 48,ch 51,ch 46,ch 65,ch 108,ch 105,ch 103,ch 110,ch 68,ch 114,ch 105,ch 102,ch 116,ch 115],[ch 111,ch 118,ch 101,ch 114,ch 98,ch 117,ch 114,ch 100,ch 101,ch 110,ch 47,ch 111,ch 118,ch 101,ch 114,ch 98,ch 117,ch 114,ch 100,ch 101,ch 110,ch 108,ch 97,ch 119,ch 48,ch 51,ch 46,ch 65,ch 108,ch 105,ch 103,ch 110,ch 77,ch 101,ch 114,ch 103,ch 101,ch 115]]:=(congrArg wordsSigns ioL).trans (by kernel_rfl)
theorem ioB:behindMainWord (wordsSigns Tryd.prog.initOrder.toList)=[[ch 99,ch 117,ch 116],[ch 97,ch 116],[ch 111,ch 118,ch 101,ch 114,ch 98,ch 117,ch 114,ch 100,ch 101,ch 110,ch 47,ch 111,ch 118,ch 101,ch 114,ch 98,ch 117,ch 114,ch 100,ch 101,ch 110,ch 108,ch 97,ch 119,ch 48,ch 51,ch 46,ch 65,ch 108,ch 105,ch 103,ch 110,ch 66,ch 108,ch 97,ch 109,ch 101,ch 115],[ch 111,ch 118,ch 101,ch 114,ch 98,ch 117,ch 114,ch 100,ch 101,ch 110,ch 47,ch 111,ch 118,ch 101,ch 114,ch 98,ch 117,ch 114,ch 100,ch 101,ch 110,ch 108,ch 97,ch 119,ch 48,ch 51,ch 46,ch 65,ch 108,ch 105,ch 103,ch 110,ch 70,ch 101,ch 119,ch 101,ch 115,ch 116],[ch 111,ch 118,ch 101,ch 114,ch 98,ch 117,ch 114,ch 100,ch 101,ch 110,ch 47,ch 111,ch 118,ch 101,ch 114,ch 98,ch 117,ch 114,ch 100,ch 101,ch 110,ch 108,ch 97,ch 119,ch 48,ch 51,ch 46,ch 65,ch 108,ch 105,ch 103,ch 110,ch 84,ch 117,ch 114,ch 110,ch 101,ch 100],[ch 111,ch 118,ch 101,ch 114,ch 98,ch 117,ch 114,ch 100,ch 101,ch 110,ch 47,ch 111,ch 118,ch 101,ch 114,ch 98,ch 117,ch 114,ch 100,ch 101,ch 110,ch 108,ch 97,ch 119,ch 48,ch 51,ch 46,ch 65,ch 108,ch 105,ch 103,ch 110,ch 66,ch 111,ch 117,ch 110,ch 100,ch 115],[ch 111,ch 118,ch 101,ch 114,ch 98,ch 117,ch 114,ch 100,ch 101,ch 110,ch 47,ch 111,ch 118,ch 101,ch 114,ch 98,ch 117,ch 114,ch 100,ch 101,ch 110,ch 108,ch 97,ch 119,ch 48,ch 51,ch 46,ch 65,ch 108,ch 105,ch 103,ch 110,ch 70,ch 111,ch 108,ch 108,ch 111,ch 119,ch 115],[ch 111,ch 118,ch 101,ch 114,ch 98,ch 117,ch 114,ch 100,ch 101,ch 110,ch 47,ch 111,ch 118,ch 101,ch 114,ch 98,ch 117,ch 114,ch 100,ch 101,ch 110,ch 108,ch 97,ch 119,ch 48,ch 51,ch 46,ch 65,ch 108,ch 105,ch 103,ch 110,ch 80,ch 117,ch 108,ch 115,ch 101,ch 115],[ch 111,ch 118,ch 101,ch 114,ch 98,ch 117,ch 114,ch 100,ch 101,ch 110,ch 47,ch 111,ch 118,ch 101,ch 114,ch 98,ch 117,ch 114,ch 100,ch 101,ch 110,ch 108,ch 97,ch 119,ch 48,ch 51,ch 46,ch 65,ch 108,ch 105,ch 103,ch 110,ch 65,ch 116,ch 116,ch 97,ch 105,ch 110,ch 115],[ch 111,ch 118,ch 101,ch 114,ch 98,ch 117,ch 114,ch 100,ch 101,ch 110,ch 47,ch 111,ch 118,ch 101,ch 114,ch 98,ch 117,ch 114,ch 100,ch 101,ch 110,ch 108,ch 97,ch 119,ch 48,ch 51,ch 46,ch 65,ch 108,ch 105,ch 103,ch 110,ch 67,ch 104,ch 101,ch 99,ch 107,ch 115],[ch 111,ch 118,ch 101,ch 114,ch 98,ch 117,ch 114,ch 100,ch 101,ch 110,ch 47,ch 111,ch 118,ch 101,ch 114,ch 98,ch 117,ch 114,ch 100,ch 101,ch 110,ch 108,ch 97,ch 119,ch 48,ch 51,ch 46,ch 65,ch 108,ch 105,ch 103,ch 110,ch 67,ch 111,ch 110,ch 116,ch 114,ch 97,ch 100,ch 105,ch 99,ch 116,ch 115],[ch 111,ch 118,ch 101,ch 114,ch 98,ch 117,ch 114,ch 100,ch 101,ch 110,ch 47,ch 111,ch 118,ch 101,ch 114,ch 98,ch 117,ch 114,ch 100,ch 101,ch 110,ch 108,ch 97,ch 119,ch 48,ch 51,ch 46,ch 65,ch 108,ch 105,ch 103,ch 110,ch 69,ch 105,ch 116,ch 104,ch 101,ch 114],[ch 111,ch 118,ch 101,ch 114,ch 98,ch 117,ch 114,ch 100,ch 101,ch 110,ch 47,ch 111,ch 118,ch 101,ch 114,ch 98,ch 117,ch 114,ch 100,ch 101,ch 110,ch 108,ch 97,ch 119,ch 48,ch 51,ch 46,ch 65,ch 108,ch 105,ch 103,ch 110,ch 67,ch 104,ch 97,ch 105,ch 110,ch 115],[ch 111,ch 118,ch 101,ch 114,ch 98,ch 117,ch 114,ch 100,ch 101,ch 110,ch 47,ch 111,ch 118,ch 101,ch 114,ch 98,ch 117,ch 114,ch 100,ch 101,ch 110,ch 108,ch 97,ch 119,ch 48,ch 51,ch 46,ch 65,ch 108,ch 105,ch 103,ch 110,ch 80,ch 114,ch 111,ch 118,ch 101,ch 115],[ch 111,ch 118,ch 101,ch 114,ch 98,ch 117,ch 114,ch 100,ch 101,ch 110,ch 47,ch 111,ch 118,ch 101,ch 114,ch 98,ch 117,ch 114,ch 100,ch 101,ch 110,ch 108,ch 97,ch 119,ch 48,ch 51,ch 46,ch 65,ch 108,ch 105,ch 103,ch 110,ch 67,ch 108,ch 111,ch 99,ch 107,ch 115],[ch 111,ch 118,ch 101,ch 114,ch 98,ch 117,ch 114,ch 100,ch 101,ch 110,ch 47,ch 111,ch 118,ch 101,ch 114,ch 98,ch 117,ch 114,ch 100,ch 101,ch 110,ch 108,ch 97,ch 119,ch 48,ch 51,ch 46,ch 65,ch 108,ch 105,ch 103,ch 110,ch 78,ch 101,ch 101,ch 100,ch 115],[ch 111,ch 118,ch 101,ch 114,ch 98,ch 117,ch 114,ch 100,ch 101,ch 110,ch 47,ch 111,ch 118,ch 101,ch 114,ch 98,ch 117,ch 114,ch 100,ch 101,ch 110,ch 108,ch 97,ch 119,ch 48,ch 51,ch 46,ch 65,ch 108,ch 105,ch 103,ch 110,ch 69,ch 112,ch 111,ch 99,ch 104,ch 115],[ch 111,ch 118,ch 101,ch 114,ch 98,ch 117,ch 114,ch 100,ch 101,ch 110,ch 47,ch 111,ch 118,ch 101,ch 114,ch 98,ch 117,ch 114,ch 100,ch 101,ch 110,ch 108,ch 97,ch 119,ch 48,ch 51,ch 46,ch 65,ch 108,ch 105,ch 103,ch 110,ch 68,ch 114,ch 105,ch 102,ch 116,ch 115],[ch 111,ch 118,ch 101,ch 114,ch 98,ch 117,ch 114,ch 100,ch 101,ch 110,ch 47,ch 111,ch 118,ch 101,ch 114,ch 98,ch 117,ch 114,ch 100,ch 101,ch 110,ch 108,ch 97,ch 119,ch 48,ch 51,ch 46,ch 65,ch 108,ch 105,ch 103,ch 110,ch 77,ch 101,ch 114,ch 103,ch 101,ch 115]]:=(congrArg behindMainWord ioW).trans (by kernel_rfl)
theorem znY {P : Program} {l : List (List Char)} (h : behindMainWord (wordsSigns P.initOrder.toList) = l) : P.headLifts = (if (stripLifts liftWords l).2.head? == some "cut".toList then (stripLifts liftWords l).1 else []) := by subst h; rfl
theorem zDC {P:Program} {rest:List (List Char)} (h:behindMainWord (wordsSigns P.initOrder.toList)=[ch 99,ch 117,ch 116] :: rest):P.make=some .cut:=by unfold Program.make;rw [h];rfl
theorem zzy {P:Program} {rest:List (List Char)} (h:behindMainWord (wordsSigns P.initOrder.toList)=[ch 99,ch 117,ch 116] :: rest) (hl:P.headLifts=[]):P.liftsFinal=false:=by unfold Program.liftsFinal;rw [h,hl];rfl
theorem zDD {P : Program} {a b : List Char} {rest : List (List Char)} (h : wordsSigns P.initOrder.toList = a :: b :: rest) (hs : isSumSigns b = true) (ha : (a == "harness".toList) = true) : P.mainIs = some (true, b) := by unfold Program.mainIs; rw [h]; simp only [hs, ha]; rfl
theorem zzz {P : Program} {c : List Char} {rest : List (List Char)} (h : behindMainWord (wordsSigns P.initOrder.toList) = c :: rest) (hst : (stripLifts liftWords (c :: rest)).2.head? = some "cut".toList)
    (hs1:(stripLifts liftWords (c :: rest)).1=[]) (hlay:P.laysLater=false) (hb:P.bearsReflect=false) (hd:P.doorFits []=true):P.mayEnter=true:=by
  unfold Program.mayEnter
  rw [h]
  simp [hst,hs1,hlay,hb,hd]
theorem ioH:Tryd.prog.headLifts=[]:=(znY ioB).trans (by kernel_rfl)
theorem ioK:Tryd.prog.make=some .cut:=zDC ioB
theorem ioF:Tryd.prog.liftsFinal=false:=zzy ioB ioH
theorem ioM : Tryd.prog.mainIs = some (true, "5097d02014b7f9bdc457588f16a61179f96daee4a085c0a2c5462d863db43dbf".toList) := (zDD ioW (by kernel_rfl) (by kernel_rfl)).trans (by kernel_rfl)
theorem ioE:Tryd.prog.mayEnter=true:=zzz ioB (by kernel_rfl) (by kernel_rfl) (by kernel_rfl) (by kernel_rfl) (by kernel_rfl)
end Go.Proofs.YtedhjaaikeakoaaDoor
namespace Go.Pm
open Go

theorem zhM {x:Int} (h1 : -9223372036854775808≤x) (h2:x≤9223372036854775807):w64 x=x:=by
 have hb:IntKind.i64.bits=64:=rfl
 have hs:IntKind.i64.signed=true:=rfl
 unfold w64 IntKind.wrap
 rw [hb,hs]
 simp only [Bool.true_and,decide_eq_true_eq]
 split <;> omega
def zHV (c : Nat → Bool) : Nat → Nat → Nat
  | 0,i=>i
  | m+1,i=>match c i with | true=>i | false=>zHV c m (i+1)
def fst (c:Nat→Bool) (n:Nat):Nat:=zHV c n 0
theorem zrS {good : Nat → Bool} {fin : Bool} {n : Nat} {lpS lpP : Nat → Int → Bool}
    (hS:∀ (k i:Nat),i < n→lpS (k+1) (i:Int)=cond (good i) (lpS k (w64 ((i:Int)+(1:Int)))) false)
    (hE:∀ k,lpS (k+1) (n:Int)=fin)
    (hP:∀ (k i:Nat),i < n→lpP (k+1) (i:Int)=cond (good i) (lpP k (w64 ((i:Int)+(1:Int)))) true)
    (hPE:∀ k,lpP (k+1) (n:Int)=true) (hn:n≤9223372036854775807) :
    lpP Fuel 0=true∧(lpS Fuel 0=true↔(∀ i,i < n→good i=true)∧fin=true):=by
  have key:∀ (m k i:Nat),i+m=n→m < k→lpP k (i:Int)=true∧(lpS k (i:Int)=true↔(∀ j,i≤j→j < n→good j=true)∧fin=true):=by
    intro m
    induction m with
    | zero =>
      intro k i hi hk
      obtain ⟨k,rfl⟩:∃ k',k=k'+1:=⟨k - 1,by omega⟩
      have:i=n:=by omega
      subst this
      rw [hE,hPE]
      exact ⟨rfl,⟨fun h=>⟨fun j h1 h2=>absurd h2 (by omega),h⟩,fun h=>h.2⟩⟩
    | succ m ih =>
      intro k i hi hk
      obtain ⟨k,rfl⟩:∃ k',k=k'+1:=⟨k - 1,by omega⟩
      rw [hS k i (by omega),hP k i (by omega)]
      have e3:w64 ((i:Int)+1)=((i+1:Nat):Int):=by rw [zhM (by omega) (by omega)];omega
      rw [e3]
      obtain ⟨h1,h2⟩:=ih k (i+1) (by omega) (by omega)
      cases hg:good i
      · refine ⟨rfl, ⟨fun h => (by cases h), fun h => ?_⟩⟩
        have:=h.1 i (Nat.le_refl _) (by omega)
        rw [hg] at this;cases this
      · refine ⟨h1, h2.trans ⟨fun h => ⟨fun j hj1 hj2 => ?_, h.2⟩, fun h => ⟨fun j hj1 hj2 => h.1 j (by omega) hj2, h.2⟩⟩⟩
        by_cases hji:j=i
        · rw [hji];exact hg
        · exact h.1 j (by omega) hj2
  have:=key n Fuel 0 (by omega) (by simp only [Fuel];omega)
  simpa using this

end Go.Pm
namespace Go.Pm
open Go
theorem zzA {i n:Nat} (h:i < n) (hn:n≤9223372036854775807):w64 ((i:Int)+(1:Int))=((i+1:Nat):Int):=by
 rw [zhM (by omega) (by omega)];omega
def zqz {σ : Type} (step : Nat → σ → σ) : Nat → Nat → σ → σ
  | 0,_,s=>s
  | m+1,i,s=>zqz step m (i+1) (step i s)
end Go.Pm
namespace Go.Proofs
open Go Go.Pm
set_option maxRecDepth 100000
theorem zk1 (n a b:Int):s81 n a b=decide (a≤n∧n≤b):=by
 unfold s81
 by_cases h:a≤n
 ·rw [decide_eq_true (show n ≥ a from h),cond_true];exact decide_eq_decide.2 ⟨fun k=>⟨h,k⟩,fun k=>k.2⟩
 ·rw [decide_eq_false (show ¬ n ≥ a from h),cond_false];exact (decide_eq_false (fun k=>h k.1)).symm
theorem zAu (n a b:Int):s72 n a b=decide (a≤n∧n≤b):=zk1 n a b
theorem zF2 (n:Net) (hn:n.Ties.len≤9223372036854775807):p67 n=true∧(s67 n=true↔(∀ i,i < n.Ties.len→s78 (n.Ties.get i) n.Nodes=true)∧(1≤n.Nodes∧n.Nodes≤40)∧n.Ties.len≤200):=by
  have := zrS (good := fun i => s78 (n.Ties.get i) n.Nodes) (fin := cond (s81 n.Nodes (1:Int) (40:Int)) (decide ((n.Ties.len : Int) ≤ (200:Int))) false) (n := n.Ties.len) (lpS := zg8 n) (lpP := zg9 n)
    (fun k i hi=>by
      show zg6 n (zg8 n k) (i:Int)=_
      generalize zg8 n k=S
      unfold zg6 zoI
      rw [decide_eq_true (show (i:Int) < (n.Ties.len:Int) by omega),cond_true,Int.toNat_natCast]
      cases s78 (n.Ties.get i) n.Nodes <;> rfl)
    (fun k=>by
      show zg6 n (zg8 n k) (n.Ties.len:Int)=_
      unfold zg6
      rw [decide_eq_false (show ¬ (n.Ties.len:Int) < (n.Ties.len:Int) by omega),cond_false])
    (fun k i hi=>by
      show zg7 n (zg9 n k) (i:Int)=_
      generalize zg9 n k=S
      unfold zg7 zoJ
      rw [decide_eq_true (show (i:Int) < (n.Ties.len:Int) by omega),cond_true,Int.toNat_natCast,decide_eq_true (show 0≤(i:Int)∧(i:Int) < (n.Ties.len:Int) by omega),Bool.true_and]
      cases s78 (n.Ties.get i) n.Nodes <;> rfl)
    (fun k=>by
      show zg7 n (zg9 n k) (n.Ties.len:Int)=_
      unfold zg7
      rw [decide_eq_false (show ¬ (n.Ties.len:Int) < (n.Ties.len:Int) by omega),cond_false])
    hn
  refine ⟨this.1,this.2.trans ?_⟩
  rw [zk1]
  by_cases h:1≤n.Nodes∧n.Nodes≤40
  · rw [decide_eq_true h,cond_true,decide_eq_true_eq];exact ⟨fun k=>⟨k.1,h,by omega⟩,fun k=>⟨k.1,by omega⟩⟩
  · rw [decide_eq_false h,cond_false];exact ⟨fun k=>absurd k.2 (by decide),fun k=>absurd k.2.1 h⟩
end Go.Proofs
