/- Part 6 of what the proof rests on: a machine that runs functions of the program on pure values, proved sound; the functions that the law reaches, and what they compute. -/
import Derived.Test.YtedhjaaikeakoaaDoorQ5
import Derived.Test.YtedhjaaikeakoaaDoorProg
import Derived.Tactics
import Derived.Tactics2
import Derived.Recover
import Derived.RecoverIn
import Derived.TacticsInMore
import Derived.Test.YtedhjaaikeakoaaDoorTie
import Derived.ProofKit
import Derived.LaidMore
import Derived.OpenShut
import Derived.Stop.Joined
import Derived.Test.YtedhjaaikeakoaaDoorCards
import Derived.WalkKit
set_option linter.all false
namespace Go.Pm
open Go.RowKit (Below)
section
variable (P:Program) (Γ:Ctrs)
def zrM (fi : FuncId) : Code → Option (Nat × Nat)
  | .region id ops false=>match ops.toList with
    | [o1,o2]=>match o1.op,o1.dst,o1.guard,o2.op,o2.dst,o2.guard with
      | .makeFunc (.func f) first caps,some t,none,.defer { callee:=.value (.tmp t'),args,argTypes:=_ },none,none=>match Nat.beq f fi && Nat.beq t t' && first.isEmpty && args.isEmpty && Nat.beq caps.size 2 with
        | true=>some (id,t)
        | false=>none
      | _,_,_,_,_,_=>none
    | _=>none
  | _=>none
def zy6 (fi : FuncId) (ann : Ann) : Code → (Exit → St → Prop) → St → Prop
  | .seq a b,K,σ=>match zrM fi a with
    | some (id,t)=>match Nat.blt t ann.nt with
      | true=>zAc P ann id (vc P Γ ann b K) ⟨(t,.junk) :: σ.env,σ.objs,[]⟩
      | false=>False
    | none=>vc P Γ ann a (zzk (zy6 fi ann b K) K) σ
  | c,K,σ=>vc P Γ ann c K σ
def zrN (fi:FuncId) (ann:Ann) (f:FuncId) (args:List PA) (K:List PA→Prop):Prop :=
 match P.funcs[f]? with
 | some fn=>match fn.body with
  | some c=>match Nat.beq ann.nt fn.ntmps && Nat.ble args.length ann.nt with
   | true=>zy6 P Γ fi ann c (za8 P fn K) ⟨zfX 0 args,[],[]⟩
   | false=>False
  | none=>False
 | none=>False
end
section
variable {P:Program} {Γ:Ctrs} {B:Nat} {w0:World}
theorem zkG {fi:FuncId} {c:Code} {id t:Nat} (h:zrM fi c=some (id,t)):∃ (o1 o2:Oper) (caps:Array Operand) (ats:Array TypeId),c=.region id #[o1,o2] false∧caps.size=2∧o1.op=.makeFunc (.func fi) #[] caps∧o1.dst=some t∧o1.guard=none ∧
  o2.op=.defer { callee:=.value (.tmp t),args:=#[],argTypes:=ats }∧o2.dst=none∧o2.guard=none:=by
 unfold zrM at h
 split at h
 ·rename_i id' ops
  split at h
  ·rename_i o1 o2 hops
   split at h
   ·rename_i f first caps t' t2 args ats e1 e2 e3 e4 e5 e6
    split at h
    ·rename_i hc
     simp only [Bool.and_eq_true] at hc
     simp only [Option.some.injEq,Prod.mk.injEq] at h
     obtain ⟨rfl,rfl⟩:=h
     obtain ⟨⟨⟨⟨h1,h2⟩,h3⟩,h4⟩,h5⟩:=hc
     have h5:=Nat.eq_of_beq_eq_true h5
     have h1:=Nat.eq_of_beq_eq_true h1
     have h2:=Nat.eq_of_beq_eq_true h2
     have h3:first = #[]:=by simpa using h3
     have h4:args = #[]:=by simpa using h4
     subst h1 h2 h3 h4
     refine ⟨o1,o2,caps,ats,?_,h5,e1,e2,e3,e4,e5,e6⟩
     rw [← Array.toArray_toList (xs:=ops),hops]
    ·cases h
   ·cases h
  ·cases h
 ·cases h
theorem zsA {fi : FuncId} (hidle : ∀ caps : Array Value, caps.size = 2 → zkT P { target := .fn (.func fi) caps, args := #[] }) {c : Code} {id t nt n : Nat} {h0 : Fz} {D : List Nat} {a0 a : Act} {σ : St} {g : Gh} {w : World} {Q : Exit → Act → World → Prop}
    (h:zrM fi c=some (id,t)) (ht:t < nt) (htD:t∈D) (S:Sim P nt B w0 h0 g σ a w) (hkp:Kp D a0 a)
    (hQ:∀ a',Sim P nt B w0 h0 g ⟨(t,.junk) :: σ.env,σ.objs,[]⟩ a' w→Kp D a0 a'→Q .normal a' w):c.wpIn (FR none) n P Q a w:=by
  obtain ⟨o1,o2,caps,ats,rfl,e0,e1,e2,e3,e4,e5,e6⟩:=zkG h
  refine wpIn_region ?_
  show wpOpsIn (FR none) n P #[o1,o2] Q [0,1] a w
  have w1:∀ tm,Region.wanted o1 (yielded #[o1,o2] tm)=true:=fun tm=>by simp [Region.wanted,e3]
  have w2:∀ tm,Region.wanted o2 (yielded #[o1,o2] tm)=true:=fun tm=>by simp [Region.wanted,e6]
  have r1:(execOp a.eval o1).run P w=.ok (.value (.func (.func fi) #[] (caps.map a.eval))) w:=by
    simp only [execOp,e1,Instr.makeFunc,Sem.run_bind,Sem.run_pure,Result.andThen_ok];simp
  have ets:t < a.tmps.size:=Nat.lt_of_lt_of_le ht S.size
  have ev:(a.put (some t) (.func (.func fi) #[] (caps.map a.eval))).eval (.tmp t)=.func (.func fi) #[] (caps.map a.eval):=by
    simp [Act.put,Act.eval,Array.getD_eq_getD_getElem?,ets]
  have r2:(execOp (a.put (some t) (.func (.func fi) #[] (caps.map a.eval))).eval o2).run P w=.ok (.defer { target:=.fn (.func fi) (caps.map a.eval),args:=#[] }) w:=by
    simp only [execOp,e4,resolve,Sem.run_bind,ev,Deferred.ofValue,Sem.run_pure,Result.andThen_ok];simp
  show (if Region.wanted o1 (yielded #[o1,o2] a.tmps) then o1.wpIn (FR none) n P a w (wpOpsIn (FR none) n P #[o1,o2] Q [1]) Q else _)
  rw [if_pos (w1 _)]
  refine ⟨fun _ _=>trivial,?_⟩
  rw [show o1.semAt (FR none).round a.eval=execOp a.eval o1 from rfl,r1]
  show wpOpsIn (FR none) n P #[o1,o2] Q [1] (a.put o1.dst _) w
  rw [e2]
  show (if Region.wanted o2 (yielded #[o1,o2] (a.put (some t) _).tmps) then o2.wpIn (FR none) n P (a.put (some t) _) w (wpOpsIn (FR none) n P #[o1,o2] Q []) Q else _)
  rw [if_pos (w2 _)]
  refine ⟨fun _ _=>trivial,?_⟩
  have r3:Sem.run P (o2.semAt (FR none).round (a.put (some t) (.func (.func fi) #[] (caps.map a.eval))).eval) w=.ok (.defer { target:=.fn (.func fi) (caps.map a.eval),args:=#[] }) w:=r2
  rw [r3]
  have S1:=S.put (dst:=some t) (d:=.junk) (v:=.func (.func fi) #[] (caps.map a.eval)) (by simpa [zbt,Nat.blt_eq] using ht) trivial (fun L hL=>by simp [zaQ,zbe,zaz] at hL) []
  refine hQ _ (S1.act ?_ ?_ ?_) ?_
  · obtain ⟨es, m1, m2, m3, m4⟩ := S1.dfr
    refine ⟨.inr { target:=.fn (.func fi) (caps.map a.eval),args:=#[] } :: es,m1,?_,fun E hE=>?_,fun d hd=>?_⟩
    · rw [e5,List.map_cons,← m2];rfl
    · rcases List.mem_cons.1 hE with e | hE
      · cases e
      · exact m3 E hE
    · rcases List.mem_cons.1 hd with e | hd
      · cases e;exact hidle _ (by simpa using e0)
      · exact m4 d hd
  · rw [e5];exact S1.size
  · rw [e5];exact S1.env
  · rw [e5]
    exact hkp.put (dst:=some t) (fun z hz=>by cases hz;exact htD) _ a.defers
theorem zvy (hok:OkAll P Γ) {fi:FuncId} (hidle:∀ caps:Array Value,caps.size=2→zkT P { target:=.fn (.func fi) caps,args:=#[] }) (ann:Ann):∀ (c:Code) (n:Nat) (h0:Fz) (D:List Nat) (a0:Act) (K:Exit→St→Prop) (σ:St) (g:Gh) (a:Act) (w:World),
  (∀ t∈zfV c,t∈D)→zy6 P Γ fi ann c K σ→Sim P ann.nt B w0 h0 g σ a w→Kp D a0 a→c.wpIn (FR none) n P (PostR P ann.nt B w0 h0 D a0 K) a w
 | .seq x y,n,h0,D,a0,K,σ,g,a,w,hD,h,S,hkp=>by
  have hDx:∀ t∈zfV x,t∈D:=fun t ht=>hD t (List.mem_append.2 (.inl ht))
  have hDy:∀ t∈zfV y,t∈D:=fun t ht=>hD t (List.mem_append.2 (.inr ht))
  simp only [zy6] at h
  split at h
  ·rename_i id t hdf
   split at h
   ·rename_i hlt
    have ht:t < ann.nt:=by simpa [Nat.blt_eq] using hlt
    have htD:t∈D:=by
     obtain ⟨o1,o2,caps,ats,rfl,_,_,e2,_,_,e5,_⟩:=zkG hdf
     exact hDx t (by simp [zfV,zsL,e2])
    refine wpIn_seq (zsA hidle hdf ht htD S hkp fun a' S' hk'=>?_)
    have hk:∀ s g2,vc P Γ ann y K s→Sim P ann.nt B w0 h0 g2 s a' w→y.wpIn (FR none) n P (PostR P ann.nt B w0 h0 D a0 K) a' w:=fun s g2 hv S2=>zc5 hok ann y none n h0 D a0 K s g2 a' w hDy (Rnd.none h0) hv S2 hk'
    unfold zAc at h
    split at h
    ·split at h
     ·rename_i s hs
      obtain ⟨g2,S2⟩:=zbm hs S'
      exact hk s g2 h S2
     ·exact h.elim
    ·exact hk _ g h S'
   ·exact h.elim
  ·refine wpIn_seq (wpIn_mono (zc5 hok ann x none n h0 D a0 _ σ g a w hDx (Rnd.none h0) h S hkp) ?_)
   rintro e a' w' ⟨g',σ',hK,S',hk'⟩
   cases e with
   | normal=>exact zvy hok hidle ann y n h0 D a0 K σ' g' a' w' hDy hK S' hk'
   | exit id=>exact ⟨g',σ',hK,S',hk'⟩
   | goto l=>exact ⟨g',σ',hK,S',hk'⟩
   | ret=>exact ⟨g',σ',hK,S',hk'⟩
   | panic ch=>exact ⟨g',σ',hK,S',hk'⟩
   | outgrown=>exact ⟨g',σ',hK,S',hk'⟩
 | .skip,n,h0,D,a0,K,σ,g,a,w,hD,h,S,hkp=>zc5 hok ann .skip none n h0 D a0 K σ g a w hD (Rnd.none h0) h S hkp
 | .region i o d,n,h0,D,a0,K,σ,g,a,w,hD,h,S,hkp=>zc5 hok ann (.region i o d) none n h0 D a0 K σ g a w hD (Rnd.none h0) h S hkp
 | .cond c x y,n,h0,D,a0,K,σ,g,a,w,hD,h,S,hkp=>zc5 hok ann (.cond c x y) none n h0 D a0 K σ g a w hD (Rnd.none h0) h S hkp
 | .block i x,n,h0,D,a0,K,σ,g,a,w,hD,h,S,hkp=>zc5 hok ann (.block i x) none n h0 D a0 K σ g a w hD (Rnd.none h0) h S hkp
 | .loop x,n,h0,D,a0,K,σ,g,a,w,hD,h,S,hkp=>zc5 hok ann (.loop x) none n h0 D a0 K σ g a w hD (Rnd.none h0) h S hkp
 | .scope x,n,h0,D,a0,K,σ,g,a,w,hD,h,S,hkp=>zc5 hok ann (.scope x) none n h0 D a0 K σ g a w hD (Rnd.none h0) h S hkp
 | .exit i,n,h0,D,a0,K,σ,g,a,w,hD,h,S,hkp=>zc5 hok ann (.exit i) none n h0 D a0 K σ g a w hD (Rnd.none h0) h S hkp
 | .goto i,n,h0,D,a0,K,σ,g,a,w,hD,h,S,hkp=>zc5 hok ann (.goto i) none n h0 D a0 K σ g a w hD (Rnd.none h0) h S hkp
 | .label i,n,h0,D,a0,K,σ,g,a,w,hD,h,S,hkp=>zc5 hok ann (.label i) none n h0 D a0 K σ g a w hD (Rnd.none h0) h S hkp
 | .ret,n,h0,D,a0,K,σ,g,a,w,hD,h,S,hkp=>zc5 hok ann .ret none n h0 D a0 K σ g a w hD (Rnd.none h0) h S hkp
 | .rangeFunc f p x y,n,h0,D,a0,K,σ,g,a,w,hD,h,S,hkp=>zc5 hok ann (.rangeFunc f p x y) none n h0 D a0 K σ g a w hD (Rnd.none h0) h S hkp
 | .refuse x,n,h0,D,a0,K,σ,g,a,w,hD,h,S,hkp=>zc5 hok ann (.refuse x) none n h0 D a0 K σ g a w hD (Rnd.none h0) h S hkp
theorem zy7 {G : Ctrs} (hok : OkAll P G) {f fi : FuncId} (hidle : ∀ caps : Array Value, caps.size = 2 → zkT P { target := .fn (.func fi) caps, args := #[] }) {args : List PA} {K : List PA → Prop} {ann : Ann} (hv : zrN P G fi ann f args K) {w : World} {h0 : Fz} {vs : List Value} (hvs : RL (paR h0) args vs) (hfz : Hw h0 w) (hgl : zdA h0) :
  Calls P f vs.toArray w fun e w'=>∃ (h':Fz) (rs:List PA) (v:Value),K rs∧e=.returned v∧zma h' rs v∧Bel h0 w.heap.size w w' ∧
   Fle h0 h'∧Hw h' w'∧∀ b o,h' b=some o→h0 b=some o∨w.heap.size≤b:=by
 unfold zrN at hv
 split at hv
 ·rename_i fn hfn
  split at hv
  ·rename_i c hbody
   split at hv
   ·rename_i hnt
    simp only [Bool.and_eq_true,Nat.ble_eq] at hnt
    have S:=ziJ (P:=P) (Nat.eq_of_beq_eq_true hnt.1) hnt.2 hvs hfz hgl
    have hwp:=zvy (B:=w.heap.size) (w0:=w) hok hidle ann c 0 h0 (zfV c) _ _ _ _ _ _ (fun _ h=>h) hv S (Kp.refl _ _)
    refine (callsIn_wide (n:=0)).1 ?_
    refine callsIn_of_wp_marks (F:=FR none) hfn hbody trivial (wpIn_mono hwp ?_)
    have h0b:∀ b,h0 b=some (.fz (.deferred (some [])))→b < w.heap.size:=fun b h=>hfz.lt h
    rintro e a' w' ⟨g',σ',hK',S',_⟩
    have fin:zDC P fn K σ'→LeavesInM (FR none) 0 P fn a'.tmps (fun e w'=>∃ (h':Fz) (rs:List PA) (v:Value),K rs∧e=.returned v∧zma h' rs v∧Bel h0 w.heap.size w w' ∧
      Fle h0 h'∧Hw h' w'∧∀ b o,h' b=some o→h0 b=some o∨w.heap.size≤b) a'.defers .returning w':=by
     intro hf
     obtain ⟨Ds,h1,h2,h3,h4⟩:=S'.dfr
     refine ziI h0b Ds g' a' w' h1 h2 h3 h4 S' fun g2 a2 w2 _ S2=>?_
     unfold zDC at hf
     split at hf
     ·rename_i l hl
      obtain ⟨u,v,hu,hrun,hres⟩:=ziH S2 hl
      obtain ⟨h',S3,F⟩:=S2.freeze hu
      exact ⟨v,hrun,h',l,v,hf,rfl,hres h' F,S3.below,S3.le0,S3.hw,S3.hn⟩
     ·exact hf.elim
    cases e with
    | normal=>exact fin hK'
    | ret=>exact fin hK'
    | exit id=>exact hK'.elim
    | goto l=>exact hK'.elim
    | panic ch=>exact hK'.elim
    | outgrown=>exact hK'.elim
   ·exact hv.elim
  ·exact hv.elim
 ·exact hv.elim
theorem zy8 {T : Tabs} (hT : TabsOk P T) {f fi : FuncId} {C : List PA → COut} (hc : zan P f) (hidle : ∀ caps : Array Value, caps.size = 2 → zkT P { target := .fn (.func fi) caps, args := #[] })
    (h:∀ args K,(C args).wp K→∃ args',RL PAle args args'∧∃ memo vv ann,zrN P (csm T memo vv) fi ann f args' (Wk K)):Ok P f C:=by
  intro args K hK w h0 vs hvs hfz hgl
  obtain ⟨args',hle,memo,vv,ann,hv⟩:=h args K hK
  refine ⟨hc,(zy7 (hT.all memo vv) hidle hv (zuh (R:=paR h0) (S:=PAle) (T:=paR h0) (fun _ _ _ e r=>zyF e r) _ _ _ hle hvs) hfz hgl).mono ?_⟩
  rintro e w' ⟨h',rs,v,⟨rs',hr,hk⟩,he,hres,rest⟩
  exact ⟨h',rs',v,hk,he,zui hr hres,rest⟩
end
end Go.Pm
namespace Go.Pm
open Go Go.Proofs
set_option maxRecDepth 100000
theorem zE6:∀ caps:Array Value,caps.size=2→zkT Tryd.prog { target:=.fn (.func 68) caps,args:=#[] }:=fun caps hc=>by
 match caps,hc with
 | ⟨[x,y]⟩,_ =>
 refine ⟨.func 68,#[x,y],68,#[x,y],rfl,fun w=>?_,fun n w=>?_⟩
 ·have h : zan Tryd.prog 68 := ⟨_, rfl, rfl, by kernel_rfl⟩
  show (callFunc 68 (#[] ++ #[x,y])).run Tryd.prog w=_
  exact zb3 h
 have key:CallsDIn { fn:=fun _=>True,depth:=none,alive:=false,round:=none } n Tryd.prog 68 #[x,y] .returning w fun e u' w'=>e=.returned (.tuple #[])∧u'=.returning∧w'=w:=by
  refine callsDIn_of_wpSIn Tryd.func68 rfl trivial fun c₀ cs hu=>?_
  apply wpSIn_seq
  apply wpSIn_region
  simp [wpOpsSIn,go_sem,recoverD,hu,Tryd.ntmps68,Exit.thenS]
  apply wpSIn_seq
  apply wpSIn_region
  simp [wpOpsSIn,go_sem,recoverD,hu,Tryd.ntmps68,Exit.thenS]
  refine wpSIn_cond (t:=false) (by simp [Act.eval,Array.replicate]) ?_
  simp only [Bool.false_eq_true,if_false]
  refine wpSIn_of_wpIn rfl (wpIn_skip ?_)
  cases c₀
  simp_all [bodyPostS,results,Tryd.results68]
 exact key.mono fun e u' w' h=>⟨⟨_,h.1⟩,h.2⟩
end Go.Pm
namespace Go.Proofs
open Go Go.Pm
set_option maxRecDepth 100000
set_option linter.unusedVariables false
attribute [local irreducible] Go.Pm.vcFun Go.Pm.vc Go.Pm.vcIter
abbrev T22:Tabs:=(((Tabs.nil.addF 67 zou).addM 69 zE1).addF 70 zBG)
theorem zGW:TabsOk Tryd.prog T22:=(((TabsOk.nil.addF zEy).addM zIt).addF zIv)
abbrev G22:Ctrs:=csm T22 (fun _ _=>[]) (fun l=>Nat.beq l 12)
def zBH:Ann:=⟨29,[(0,zK [1,2,3] [1,2,3]),(1,zK [1,2,3,9] [1,2,3]),(2,zK [2,3] [2,3]),(3,zK [1,2,3] [1,2,3]),(4,zK [2,3,4] [2,3,12,14]),(5,zK [2,3,4,15] [2,3,12,14]),(6,zK [2,3,4,15,16] [2,3,12,14]),(7,zK [2,3,4,5,15] [2,3,12,14]),(8,zK [2,3,4,6,15] [2,3,12,14]),(9,zK [2,3,4,6,15,23] [2,3,12,14]),(10,zK [2,3] [2,3]),(11,zK [2,3,4,15] [2,3,12,14])],
 [(6,zK [2,3,4,15] [2,3,12,14])],
 [],
 [],[]⟩
abbrev R22:=((Sl Int)×Int)
abbrev e22 (r:R22):List PA:=[.one (.sl r.1.len 1 (fun i=>enc_3 (r.1.get i))),.one (.int .i64 r.2)]
@[irreducible] def z22:=ptF Tryd.prog G22 zBH Tryd.f22
def zzR (zbf:Int) (zbj:Int) (zbb:(Sl Tie)) (zbk:Nat) (zbl:(List Int→Option (List Int))) (zcX:Nat→List PV):St:=⟨[(2,zp 2 0),(3,zp 3 0),(4,zp 14 0),(15,zI zbf)],[(2,.box 27 [.p (.nils)]),(3,.box 28 [zi (0:Int)]),(12,.mo 3 4 (false,1,false,[none]) zbk zbl),(14,.box 105 [zi zbj,.p (.sl zbb.len 4 zcX),.mo 12])],[]⟩
abbrev zE7 (K:List PA→Prop) (X:St→Prop) (P:Int→Int→(Sl Tie)→Nat→(List Int→Option (List Int))→Bool) (S:Int→Int→(Sl Tie)→Nat→(List Int→Option (List Int))→((Sl Int)×Int)):Prop:=∀ ⦃zbf:Int⦄ ⦃zbj:Int⦄ ⦃zbb:(Sl Tie)⦄ ⦃zbk:Nat⦄ ⦃zbl:(List Int→Option (List Int))⦄ ⦃zcX:Nat→List PV⦄,P zbf zbj zbb zbk zbl=true→K (e22 (S zbf zbj zbb zbk zbl))→zcX=zg enc_40 zbb→X (zzR zbf zbj zbb zbk zbl zcX)
section
variable {K:List PA→Prop} {n:Net} {zbf:Int} {zbj:Int} {zbb:(Sl Tie)} {zbk:Nat} {zbl:(List Int→Option (List Int))} {zcX:Nat→List PV} {X0:St→Prop} {P0:Int→Int→(Sl Tie)→Nat→(List Int→Option (List Int))→Bool} {S0:Int→Int→(Sl Tie)→Nat→(List Int→Option (List Int))→((Sl Int)×Int)}
def zvz (S0:Int→Int→(Sl Tie)→Nat→(List Int→Option (List Int))→((Sl Int)×Int)) (zbf:Int) (zbj:Int) (zbb:(Sl Tie)) (zbk:Nat) (zbl:(List Int→Option (List Int))):((Sl Int)×Int) :=
  (cond (decide (zbf < (4:Int)))
 (cond (decide ((((s69 (⟨(⟨zbj, zbb⟩ : Net), (⟨zbk, zbl⟩ : Mp)⟩ : web) zbf).1).len : Int) > (0:Int)))
 ((s70 ((s69 (⟨(⟨zbj,zbb⟩:Net),(⟨zbk,zbl⟩:Mp)⟩:web) zbf).1)),(0:Int))
 (S0 (w64 (zbf+(1:Int))) (((s69 (⟨(⟨zbj,zbb⟩:Net),(⟨zbk,zbl⟩:Mp)⟩:web) zbf).2).Net.Nodes) (((s69 (⟨(⟨zbj,zbb⟩:Net),(⟨zbk,zbl⟩:Mp)⟩:web) zbf).2).Net.Ties) ((((s69 (⟨(⟨zbj,zbb⟩:Net),(⟨zbk,zbl⟩:Mp)⟩:web) zbf).2).out).n) ((((s69 (⟨(⟨zbj,zbb⟩:Net),(⟨zbk,zbl⟩:Mp)⟩:web) zbf).2).out).F)))
 default)
def zvA (P0:Int→Int→(Sl Tie)→Nat→(List Int→Option (List Int))→Bool) (zbf:Int) (zbj:Int) (zbb:(Sl Tie)) (zbk:Nat) (zbl:(List Int→Option (List Int))):Bool :=
  (cond (decide (zbf < (4:Int)))
 (decide ((p69 (⟨(⟨zbj,zbb⟩:Net),(⟨zbk,zbl⟩:Mp)⟩:web) zbf=true)) &&
 (cond (decide ((((s69 (⟨(⟨zbj, zbb⟩ : Net), (⟨zbk, zbl⟩ : Mp)⟩ : web) zbf).1).len : Int) > (0:Int)))
 (decide ((p70 ((s69 (⟨(⟨zbj,zbb⟩:Net),(⟨zbk,zbl⟩:Mp)⟩:web) zbf).1)=true)) &&
 true)
 (P0 (w64 (zbf+(1:Int))) (((s69 (⟨(⟨zbj,zbb⟩:Net),(⟨zbk,zbl⟩:Mp)⟩:web) zbf).2).Net.Nodes) (((s69 (⟨(⟨zbj,zbb⟩:Net),(⟨zbk,zbl⟩:Mp)⟩:web) zbf).2).Net.Ties) ((((s69 (⟨(⟨zbj,zbb⟩:Net),(⟨zbk,zbl⟩:Mp)⟩:web) zbf).2).out).n) ((((s69 (⟨(⟨zbj,zbb⟩:Net),(⟨zbk,zbl⟩:Mp)⟩:web) zbf).2).out).F))))
 false)
def zvB:Nat→Int→Int→(Sl Tie)→Nat→(List Int→Option (List Int))→((Sl Int)×Int):=lpO (fun _ _ _ _ _=>default) (zvz)
def zvC:Nat→Int→Int→(Sl Tie)→Nat→(List Int→Option (List Int))→Bool:=lpO (fun _ _ _ _ _=>false) (zvA)
def zvD (zbf:Int) (zbj:Int) (zbb:(Sl Tie)) (zbk:Nat) (zbl:(List Int→Option (List Int))):((Sl Int)×Int):=zvB Fuel zbf zbj zbb zbk zbl
def zvE (zbf:Int) (zbj:Int) (zbb:(Sl Tie)) (zbk:Nat) (zbl:(List Int→Option (List Int))):Bool:=zvC Fuel zbf zbj zbb zbk zbl
theorem zBI (hs:zvE zbf zbj zbb zbk zbl=true) (hk:K (e22 (zvD zbf zbj zbb zbk zbl))) (zjt:zcX=zg enc_40 zbb):z22 (Wk K) [1,1,1,1,0,1,0] [] (zzR zbf zbj zbb zbk zbl zcX) :=
  zl (fun X=>z22 (Wk K) [1,1,1,1,0,1,0,0] [X]) (by kernel_rfl) fun X0 hX =>
  (show ∀ k, zE7 K X0 (zvC k) (zvB k) from zjV _ _ (zvA) (zvz) (zE7 K X0)
 (by intro _ _ _ _ _ _ hs;exact absurd hs Bool.false_ne_true)
 (by intro P0 S0 hX0 zbf zbj zbb zbk zbl zcX hs hk zjt;subst zjt;exact hX _ (za9 (by kernel_rfl) (zc hs hk (fun hs hk=>(zaX hs fun hc hs=>And.intro (And.intro (zE enc_40 4 zbb.get) (And.intro (rfl:((false,1,false,[none]):MQ)=(false,1,false,[none])) hc)) (zc hs hk (fun hs hk=>(zaX hs fun hc hs=>And.intro (And.intro (zE zbX 1 (((s69 (⟨(⟨zbj,zbb⟩:Net),(⟨zbk,zbl⟩:Mp)⟩:web) zbf).1).get)) hc) ((zfu hk):Wk K [.one (.sl ((s70 ((s69 (⟨(⟨zbj,zbb⟩:Net),(⟨zbk,zbl⟩:Mp)⟩:web) zbf).1)).len) 1 (fun i=>enc_3 ((s70 ((s69 (⟨(⟨zbj,zbb⟩:Net),(⟨zbk,zbl⟩:Mp)⟩:web) zbf).1)).get i))),.one (.int .i64 (0:Int))]))) (fun hs hk=>(hX0 hs hk rfl))))) (fun hs hk=>(absurd hs Bool.false_ne_true:False)))))) _ hs hk zjt
def s22 (n:Net):((Sl Int)×Int) :=
  (cond (!(s67 n))
 ((⟨0,fun _=>default⟩:(Sl Int)),(2:Int))
 (zvD (0:Int) n.Nodes n.Ties 0 (fun _=>none)))
def p22 (n:Net):Bool :=
  (decide ((p67 n=true)) &&
 (cond (!(s67 n))
 true
 (zvE (0:Int) n.Nodes n.Ties 0 (fun _=>none))))
end
theorem q22 (n:Net) (K:List PA→Prop) (hs:p22 n=true) (hk:K (e22 (s22 n))):zrN Tryd.prog G22 68 zBH 22 [.agg (enc_24 n)] (Wk K) :=
  za9 (by kernel_rfl) (zaX hs fun hc hs=>And.intro (And.intro (zE enc_40 4 n.Ties.get) hc) (zc hs hk (fun hs hk=>((wk hk (zgx (.one (.nil _ _)) (zgx (.one (.rfl _)) zm1))):Wk K [.one (.nils),.one (.int .i64 (2:Int))])) (fun hs hk=>(zBI hs hk rfl))))
def zBJ : List PA → COut
  | [.agg [.int .i64 a0_Nodes,.sl a0_Ties_n a0_Ties_s a0_Ties_g]]=>.det (IsE enc_40 4 a0_Ties_s a0_Ties_g∧p22 (⟨a0_Nodes,(⟨a0_Ties_n,zaa a0_Ties_g⟩:(Sl Tie))⟩:Net)=true) [.one (.sl (((s22 (⟨a0_Nodes,(⟨a0_Ties_n,zaa a0_Ties_g⟩:(Sl Tie))⟩:Net)).1).len) 1 (fun i=>enc_3 (((s22 (⟨a0_Nodes,(⟨a0_Ties_n,zaa a0_Ties_g⟩:(Sl Tie))⟩:Net)).1).get i))),.one (.int .i64 ((s22 (⟨a0_Nodes,(⟨a0_Ties_n,zaa a0_Ties_g⟩:(Sl Tie))⟩:Net)).2))]
  | _=>.no
theorem zE8:zan Tryd.prog 22:=⟨_,rfl,rfl,by kernel_rfl⟩
theorem zIw:Ok Tryd.prog 22 zBJ:=zy8 zGW zE8 zE6 fun args K h=>by
  unfold zBJ at h
  split at h
  · rename_i a0_Nodes a0_Ties_n a0_Ties_s a0_Ties_g
    obtain ⟨⟨⟨rfl,a0_Ties_f,rfl⟩,hs⟩,hk⟩:=h
    try rw [zaj a0_Ties_f] at hs
    try rw [zaj a0_Ties_f] at hk
    exact ⟨_,zeM zft _,(fun _ _=>[]),(fun l=>Nat.beq l 12),zBH,q22 (⟨a0_Nodes,(⟨a0_Ties_n,a0_Ties_f⟩:(Sl Tie))⟩:Net) K hs hk⟩
  · exact h.elim
abbrev T25:Tabs:=Tabs.nil
theorem zGX:TabsOk Tryd.prog T25:=TabsOk.nil
abbrev G25:Ctrs:=csm T25 (fun _ _=>[]) (fun _=>false)
def zBK:Ann:=⟨26,[(0,zK [0,1] []),(1,zK [0,1,10] []),(2,zK [4] []),(3,zK [0,1,5] []),(4,zK [0,1,5,14] []),(5,zK [0,1,5] []),(6,zK [0,1,5,25] []),(7,zK [4] []),(8,zK [4] [])],
 [(4,zK [0,1,5] [])],
 [(3,zK [0,1] [])],
 [],[]⟩
abbrev R25:=Bool
abbrev e25 (r:R25):List PA:=[.one (.bool r)]
@[irreducible] def z25:=ptF Tryd.prog G25 zBK Tryd.f25
def zzS (a:(Sl Int)) (b:(Sl Int)) (iv1:Int):St:=⟨[(0,zS enc_3 1 a),(1,zS enc_3 1 b),(5,zI iv1)],[],[]⟩
abbrev zE9 (K:List PA→Prop) (a:(Sl Int)) (b:(Sl Int)) (X:St→Prop) (P:Int→Bool) (S:Int→Bool):Prop:=∀ ⦃iv1:Int⦄,P iv1=true→K (e25 (S iv1))→X (zzS a b iv1)
section
variable {K:List PA→Prop} {a:(Sl Int)} {b:(Sl Int)} {iv1:Int} {X1:St→Prop} {P1:Int→Bool} {S1:Int→Bool}
def zvF (a:(Sl Int)) (b:(Sl Int)) (S1:Int→Bool) (iv1:Int):Bool :=
  (cond (decide (iv1 < (a.len : Int)))
 (cond ((a.get iv1.toNat) != (b.get iv1.toNat))
 false
 (S1 (w64 (iv1+(1:Int)))))
 true)
def zvG (a:(Sl Int)) (b:(Sl Int)) (P1:Int→Bool) (iv1:Int):Bool :=
  (cond (decide (iv1 < (a.len : Int)))
 (decide ((0≤iv1∧iv1 < (a.len:Int))) &&
 (decide ((0≤iv1∧iv1 < (b.len:Int))) &&
 (cond ((a.get iv1.toNat) != (b.get iv1.toNat))
 true
 (P1 (w64 (iv1+(1:Int)))))))
 true)
def zvH (a:(Sl Int)) (b:(Sl Int)):Nat→Int→Bool:=lpO (fun _=>default) (zvF a b)
def zvI (a:(Sl Int)) (b:(Sl Int)):Nat→Int→Bool:=lpO (fun _=>false) (zvG a b)
def zvJ (a:(Sl Int)) (b:(Sl Int)) (iv1:Int):Bool:=zvH a b Fuel iv1
def zvK (a:(Sl Int)) (b:(Sl Int)) (iv1:Int):Bool:=zvI a b Fuel iv1
theorem zBL (hs:zvK a b iv1=true) (hk:K (e25 (zvJ a b iv1))):z25 K [1,1,0,1,0] [] (zzS a b iv1) :=
  zl (fun X=>z25 K [1,1,0,1,0,0] [X]) (by kernel_rfl) fun X1 hX =>
  (show ∀ k, zE9 K a b X1 (zvI a b k) (zvH a b k) from zjV _ _ (zvG a b) (zvF a b) (zE9 K a b X1)
 (by intro _ hs;exact absurd hs Bool.false_ne_true)
 (by intro P1 S1 hX1 iv1 hs hk;exact hX _ (za9 (by kernel_rfl) (zc hs hk (fun hs hk=>(zaX hs fun hc hs=>And.intro hc (zaX hs fun hc hs=>And.intro hc (zc hs hk (fun hs hk=>hk) (fun hs hk=>(hX1 hs hk)))))) (fun hs hk=>hk))))) _ hs hk
def zvL (a:(Sl Int)) (b:(Sl Int)):Bool :=
  (zvJ a b (0:Int))
def zvM (a:(Sl Int)) (b:(Sl Int)):Bool :=
  (zvK a b (0:Int))
theorem zBM (hs:zvM a b=true) (hk:K (e25 (zvL a b))):z25 K [1,1] [] ⟨[(0,zS enc_3 1 a),(1,zS enc_3 1 b)],[],[]⟩:=za9 (by kernel_rfl) (zBL hs hk)
def s25 (a:(Sl Int)) (b:(Sl Int)):Bool :=
  (cond ((a.len : Int) != (b.len : Int))
 false
 (zvL a b))
def p25 (a:(Sl Int)) (b:(Sl Int)):Bool :=
  (cond ((a.len : Int) != (b.len : Int))
 true
 (zvM a b))
end
theorem q25 (a:(Sl Int)) (b:(Sl Int)) (K:List PA→Prop) (hs:p25 a b=true) (hk:K (e25 (s25 a b))):vcFun Tryd.prog G25 zBK 25 [.one (.sl a.len 1 (fun i=>enc_3 (a.get i))),.one (.sl b.len 1 (fun i=>enc_3 (b.get i)))] K :=
  za9 (by kernel_rfl) (zc hs hk (fun hs hk=>hk) (fun hs hk=>(zBM hs hk)))
def zBN : List PA → COut
  | [.one (.sl a0_n a0_s a0_g),.one (.sl a1_n a1_s a1_g)]=>.det (IsE enc_3 1 a0_s a0_g∧IsE enc_3 1 a1_s a1_g∧p25 (⟨a0_n,zaq a0_g⟩:(Sl Int)) (⟨a1_n,zaq a1_g⟩:(Sl Int))=true) [.one (.bool (s25 (⟨a0_n,zaq a0_g⟩:(Sl Int)) (⟨a1_n,zaq a1_g⟩:(Sl Int))))]
  | _=>.no
theorem zFa:zan Tryd.prog 25:=⟨_,rfl,rfl,by kernel_rfl⟩
theorem zIx:Ok Tryd.prog 25 zBN:=zbr zGX zFa fun args K h=>by
  unfold zBN at h
  split at h
  · rename_i a0_n a0_s a0_g a1_n a1_s a1_g
    obtain ⟨⟨⟨rfl,a0_f,rfl⟩,⟨rfl,a1_f,rfl⟩,hs⟩,hk⟩:=h
    try rw [za0 a0_f] at hs
    try rw [za0 a0_f] at hk
    try rw [za0 a1_f] at hs
    try rw [za0 a1_f] at hk
    exact ⟨(fun _ _=>[]),(fun _=>false),zBK,q25 (⟨a0_n,a0_f⟩:(Sl Int)) (⟨a1_n,a1_f⟩:(Sl Int)) K hs hk⟩
  · exact h.elim
abbrev T74:Tabs:=(((Tabs.nil.addF 67 zou).addF 81 zso).addF 88 zux)
theorem zGY:TabsOk Tryd.prog T74:=(((TabsOk.nil.addF zEy).addF zGb).addF zGC)
abbrev G74:Ctrs:=csm T74 (fun _ _=>[]) (fun _=>false)
def zy9:Ann:=⟨31,[(0,zK [1,2] [2]),(1,zK [1,2,6] [2,11]),(2,zK [1,2,6,14] [2,11]),(3,zK [4,5] []),(4,zK [2,6,15,16,17] [2,11]),(5,zK [2,6,15,16,17,18] [2,11]),(6,zK [2,6,8,15,16,17] [2,11]),(7,zK [2,6,15,16,17,26] [2,11]),(8,zK [4,5] []),(9,zK [2,6,15,16,17] [2,11]),(10,zK [6,29] [11]),(11,zK [4,5] []),(12,zK [4,5] [11])],
 [(5,zK [2,6,15,16,17] [2,11])],
 [(3,zK [1,2,6,14] [2,11]),(4,zK [1,2,6] [2,11]),(8,zK [2,6,15,16,17,26] [2,11]),(11,zK [6,29] [11])],
 [],[]⟩
abbrev R74:=(web×Int)
abbrev e74 (r:R74):List PA:=cond (r.2 == 0) [.one (.fp (zat r.1) 0),.one (.int .i64 (0:Int))] [.one (.nilp),.one (.int .i64 r.2)]
@[irreducible] def z74:=ptF Tryd.prog G74 zy9 Tryd.f74
def zzT (n:Net) (nodes:(Sl Int)) (zdg:Int):St:=⟨[(2,zp 2 0),(6,zp 11 0),(15,zS enc_3 1 nodes),(16,zI (nodes.len:Int)),(17,zI zdg)],[(2,.box 24 (zm (enc_24 n))),(11,.box 105 (zm (zat (⟨n,(⟨0,(fun _=>none)⟩:Mp)⟩:web))))],[]⟩
abbrev zBO (K:List PA→Prop) (n:Net) (nodes:(Sl Int)) (X:St→Prop) (P:Int→Bool) (S:Int→(web×Int)):Prop:=∀ ⦃zdg:Int⦄,P zdg=true→K (e74 (S zdg))→X (zzT n nodes zdg)
section
variable {K:List PA→Prop} {n:Net} {nodes:(Sl Int)} {zfK:Bool} {zdg:Int} {X2:St→Prop} {P2:Int→Bool} {S2:Int→(web×Int)} {zpf:Int} {zpg:Bool} {zza:Bool}
def zvN (n:Net) (zza:Bool):(web×Int) :=
  (cond zza
 ((default:web),(5:Int))
 ((⟨n,(⟨0,(fun _=>none)⟩:Mp)⟩:web),(0:Int)))
theorem zBP (hk:K (e74 (zvN n zza))):z74 K [1,1,1,1,0,1] [] ⟨[(6,zp 11 0),(29,zB zza)],[(11,.box 105 (zm (zat (⟨n,(⟨0,(fun _=>none)⟩:Mp)⟩:web))))],[]⟩:=za9 (by kernel_rfl) (zt hk (fun hk=>hk) (fun hk=>hk))
def zvO (S2:Int→(web×Int)) (n:Net) (nodes:(Sl Int)) (zpf:Int) (zpg:Bool):(web×Int) :=
  (cond zpg
 ((default:web),(2:Int))
 (S2 (w64 (zpf+(1:Int)))))
def zvP (P2:Int→Bool) (n:Net) (nodes:(Sl Int)) (zpf:Int) (zpg:Bool):Bool :=
  (cond zpg
 true
 (P2 (w64 (zpf+(1:Int)))))
theorem zBQ (hX2:zBO K n nodes X2 P2 S2) (hs:zvP P2 n nodes zpf zpg=true) (hk:K (e74 (zvO S2 n nodes zpf zpg))):z74 K [1,1,1,0,1,0,0,1,1,0,0,1,1] [X2] ⟨[(2,zp 2 0),(6,zp 11 0),(15,zS enc_3 1 nodes),(16,zI (nodes.len:Int)),(17,zI zpf),(26,zB zpg)],[(2,.box 24 (zm (enc_24 n))),(11,.box 105 (zm (zat (⟨n,(⟨0,(fun _=>none)⟩:Mp)⟩:web))))],[]⟩:=za9 (by kernel_rfl) (zc hs hk (fun hs hk=>hk) (fun hs hk=>(hX2 hs hk)))
def zvQ (n:Net) (nodes:(Sl Int)) (S2:Int→(web×Int)) (zdg:Int):(web×Int) :=
  (cond (decide (zdg < (nodes.len : Int)))
 (zvO S2 n nodes zdg (!(s81 (nodes.get zdg.toNat) (0:Int) (w64 (n.Nodes - (1:Int))))))
 (zvN n (s88 (⟨n,(⟨0,(fun _=>none)⟩:Mp)⟩:web))))
def zvR (n:Net) (nodes:(Sl Int)) (P2:Int→Bool) (zdg:Int):Bool :=
  (cond (decide (zdg < (nodes.len : Int)))
 (decide ((0≤zdg∧zdg < (nodes.len:Int))) &&
 (zvP P2 n nodes zdg (!(s81 (nodes.get zdg.toNat) (0:Int) (w64 (n.Nodes - (1:Int)))))))
 (decide ((p88 (⟨n,(⟨0,(fun _=>none)⟩:Mp)⟩:web)=true)) &&
 true))
def zvS (n:Net) (nodes:(Sl Int)):Nat→Int→(web×Int):=lpO (fun _=>default) (zvQ n nodes)
def zvT (n:Net) (nodes:(Sl Int)):Nat→Int→Bool:=lpO (fun _=>false) (zvR n nodes)
def zvU (n:Net) (nodes:(Sl Int)) (zdg:Int):(web×Int):=zvS n nodes Fuel zdg
def zvV (n:Net) (nodes:(Sl Int)) (zdg:Int):Bool:=zvT n nodes Fuel zdg
theorem zBR (hs:zvV n nodes zdg=true) (hk:K (e74 (zvU n nodes zdg))):z74 K [1,1,1,0,1,0] [] (zzT n nodes zdg) :=
  zl (fun X=>z74 K [1,1,1,0,1,0,0] [X]) (by kernel_rfl) fun X2 hX =>
  (show ∀ k, zBO K n nodes X2 (zvT n nodes k) (zvS n nodes k) from zjV _ _ (zvR n nodes) (zvQ n nodes) (zBO K n nodes X2)
 (by intro _ hs;exact absurd hs Bool.false_ne_true)
 (by intro P2 S2 hX2 zdg hs hk;exact hX _ (za9 (by kernel_rfl) (zc hs hk (fun hs hk=>(zaX hs fun hc hs=>And.intro hc (zBQ hX2 hs hk))) (fun hs hk=>(zaX hs fun hc hs=>And.intro (And.intro (zE enc_40 4 n.Ties.get) (And.intro (rfl:((false,1,false,[none]):MQ)=(false,1,false,[none])) hc)) (zBP hk))))))) _ hs hk
def zvW (n:Net) (nodes:(Sl Int)):(web×Int) :=
  (zvU n nodes (0:Int))
def zvX (n:Net) (nodes:(Sl Int)):Bool :=
  (zvV n nodes (0:Int))
theorem zBS (hs:zvX n nodes=true) (hk:K (e74 (zvW n nodes))):z74 K [1,1,1] [] ⟨[(1,zS enc_3 1 nodes),(2,zp 2 0),(6,zp 11 0)],[(2,.box 24 (zm (enc_24 n))),(11,.box 105 (zm (zat (⟨n,(⟨0,(fun _=>none)⟩:Mp)⟩:web))))],[]⟩:=za9 (by kernel_rfl) (zBR hs hk)
def zvY (n:Net) (nodes:(Sl Int)) (zfK:Bool):(web×Int) :=
  (cond zfK
 ((default:web),(2:Int))
 (zvW n nodes))
def zvZ (n:Net) (nodes:(Sl Int)) (zfK:Bool):Bool :=
  (cond zfK
 true
 (zvX n nodes))
theorem zBT (hs:zvZ n nodes zfK=true) (hk:K (e74 (zvY n nodes zfK))):z74 K [1,1,0,1] [] ⟨[(1,zS enc_3 1 nodes),(2,zp 2 0),(6,zp 11 0),(14,zB zfK)],[(2,.box 24 (zm (enc_24 n))),(11,.box 105 (zm (zat (⟨n,(⟨0,(fun _=>none)⟩:Mp)⟩:web))))],[]⟩:=za9 (by kernel_rfl) (zc hs hk (fun hs hk=>hk) (fun hs hk=>(zBS hs hk)))
def s74 (n:Net) (nodes:(Sl Int)):(web×Int) :=
  (zvY n nodes (!(s67 n)))
def p74 (n:Net) (nodes:(Sl Int)):Bool :=
  (decide ((p67 n=true)) &&
 (zvZ n nodes (!(s67 n))))
end
theorem q74 (n:Net) (nodes:(Sl Int)) (K:List PA→Prop) (hs:p74 n nodes=true) (hk:K (e74 (s74 n nodes))):vcFun Tryd.prog G74 zy9 74 [.agg (enc_24 n),.one (.sl nodes.len 1 (fun i=>enc_3 (nodes.get i)))] K :=
  za9 (by kernel_rfl) (zaX hs fun hc hs=>And.intro (And.intro (zE enc_40 4 n.Ties.get) hc) (zBT hs hk))
def zv0 : List PA → COut
  | [.agg [.int .i64 a0_Nodes,.sl a0_Ties_n a0_Ties_s a0_Ties_g],.one (.sl a1_n a1_s a1_g)]=>.alt ((s74 (⟨a0_Nodes,(⟨a0_Ties_n,zaa a0_Ties_g⟩:(Sl Tie))⟩:Net) (⟨a1_n,zaq a1_g⟩:(Sl Int))).2 == 0) (IsE enc_40 4 a0_Ties_s a0_Ties_g∧IsE enc_3 1 a1_s a1_g∧p74 (⟨a0_Nodes,(⟨a0_Ties_n,zaa a0_Ties_g⟩:(Sl Tie))⟩:Net) (⟨a1_n,zaq a1_g⟩:(Sl Int))=true) [.one (.fp (zat (⟨(s74 (⟨a0_Nodes,(⟨a0_Ties_n,zaa a0_Ties_g⟩:(Sl Tie))⟩:Net) (⟨a1_n,zaq a1_g⟩:(Sl Int))).1.Net,((s74 (⟨a0_Nodes,(⟨a0_Ties_n,zaa a0_Ties_g⟩:(Sl Tie))⟩:Net) (⟨a1_n,zaq a1_g⟩:(Sl Int))).1.out)⟩:web)) 0),.one (.int .i64 (0:Int))] (IsE enc_40 4 a0_Ties_s a0_Ties_g∧IsE enc_3 1 a1_s a1_g∧p74 (⟨a0_Nodes,(⟨a0_Ties_n,zaa a0_Ties_g⟩:(Sl Tie))⟩:Net) (⟨a1_n,zaq a1_g⟩:(Sl Int))=true) [.one (.nilp),.one (.int .i64 ((s74 (⟨a0_Nodes,(⟨a0_Ties_n,zaa a0_Ties_g⟩:(Sl Tie))⟩:Net) (⟨a1_n,zaq a1_g⟩:(Sl Int))).2))]
  | [.agg [.int .i64 a0_Nodes,.sl a0_Ties_n a0_Ties_s a0_Ties_g],.one (.nils)]=>.alt ((s74 (⟨a0_Nodes,(⟨a0_Ties_n,zaa a0_Ties_g⟩:(Sl Tie))⟩:Net) (⟨0,fun _=>default⟩:(Sl Int))).2 == 0) (IsE enc_40 4 a0_Ties_s a0_Ties_g∧p74 (⟨a0_Nodes,(⟨a0_Ties_n,zaa a0_Ties_g⟩:(Sl Tie))⟩:Net) (⟨0,fun _=>default⟩:(Sl Int))=true) [.one (.fp (zat (⟨(s74 (⟨a0_Nodes,(⟨a0_Ties_n,zaa a0_Ties_g⟩:(Sl Tie))⟩:Net) (⟨0,fun _=>default⟩:(Sl Int))).1.Net,((s74 (⟨a0_Nodes,(⟨a0_Ties_n,zaa a0_Ties_g⟩:(Sl Tie))⟩:Net) (⟨0,fun _=>default⟩:(Sl Int))).1.out)⟩:web)) 0),.one (.int .i64 (0:Int))] (IsE enc_40 4 a0_Ties_s a0_Ties_g∧p74 (⟨a0_Nodes,(⟨a0_Ties_n,zaa a0_Ties_g⟩:(Sl Tie))⟩:Net) (⟨0,fun _=>default⟩:(Sl Int))=true) [.one (.nilp),.one (.int .i64 ((s74 (⟨a0_Nodes,(⟨a0_Ties_n,zaa a0_Ties_g⟩:(Sl Tie))⟩:Net) (⟨0,fun _=>default⟩:(Sl Int))).2))]
  | _=>.no
theorem zFb:zan Tryd.prog 74:=⟨_,rfl,rfl,by kernel_rfl⟩
theorem zGZ:Ok Tryd.prog 74 zv0:=zgK zGY zFb fun args K h=>by
  unfold zv0 at h
  split at h
  · rename_i a0_Nodes a0_Ties_n a0_Ties_s a0_Ties_g a1_n a1_s a1_g
    have h:=zEl h
    obtain ⟨⟨⟨rfl,a0_Ties_f,rfl⟩,⟨rfl,a1_f,rfl⟩,hs⟩,hk⟩:=h
    try rw [zaj a0_Ties_f] at hs
    try rw [zaj a0_Ties_f] at hk
    try rw [za0 a1_f] at hs
    try rw [za0 a1_f] at hk
    exact ⟨_,zeM zft _,(fun _ _=>[]),(fun _=>false),zy9,q74 (⟨a0_Nodes,(⟨a0_Ties_n,a0_Ties_f⟩:(Sl Tie))⟩:Net) (⟨a1_n,a1_f⟩:(Sl Int)) (Wk K) hs (zfu hk)⟩
  · rename_i a0_Nodes a0_Ties_n a0_Ties_s a0_Ties_g
    have h:=zEl h
    obtain ⟨⟨⟨rfl,a0_Ties_f,rfl⟩,hs⟩,hk⟩:=h
    try rw [zaj a0_Ties_f] at hs
    try rw [zaj a0_Ties_f] at hk
    exact ⟨_,(zgx (zft _) (zgx (.one (.nil _ _)) zm1)),(fun _ _=>[]),(fun _=>false),zy9,q74 (⟨a0_Nodes,(⟨a0_Ties_n,a0_Ties_f⟩:(Sl Tie))⟩:Net) (⟨0,fun _=>default⟩:(Sl Int)) (Wk K) hs (zfu hk)⟩
  · exact h.elim
abbrev T75:Tabs:=(((Tabs.nil.addF 93 zm3).addF 104 zm9).addI 110 zm5)
theorem zG0:TabsOk Tryd.prog T75:=(((TabsOk.nil.addF zDF).addF zA5).addI zsq)
abbrev G75:Ctrs:=csm T75 (fun _ _=>[]) (fun _=>false)
def zcb:Ann:=⟨66,[(0,⟨[0,1,4],[4],[],[],[],[],[]⟩),(1,⟨[0,1,4,5],[4,5],[],[],[],[],[]⟩),(2,⟨[0,1,4,5,10],[4,5],[],[],[],[],[]⟩),(3,⟨[0,1,4,5,10,11],[4,5],[],[],[],[],[]⟩),(4,⟨[0,1,4,5,6,10],[4,5],[],[],[],[],[]⟩),(5,⟨[0,1,4,5,10],[4,5],[],[],[],[],[]⟩),(6,⟨[0,1,4,5,10],[4,5],[],[],[],[],[]⟩),(7,⟨[0,4,5],[4,5],[],[],[],[],[]⟩),(8,⟨[0,4,5,7],[4,5,7],[],[],[],[],[]⟩),(9,⟨[0,4,5,7,20],[4,5,7],[],[],[],[],[]⟩),(10,⟨[0,4,5,7],[4,5,7],[],[],[],[],[]⟩),(11,⟨[0,4,5,7,22],[4,5,7],[],[],[],[],[]⟩),(12,⟨[0,4,5,7,8,22],[4,5,7,8],[],[],[],[],[]⟩),(13,⟨[0,4,5,7,8,22,29],[4,5,7,8],[],[],[],[],[]⟩),(14,⟨[0,4,5,7,8,9,22],[4,5,7,8,9],[],[],[],[],[]⟩),(15,⟨[0,4,5,7,8,9,22],[4,5,7,8,9],[],[],[],[],[]⟩),(16,⟨[0,4,5,7,22],[4,5,7],[],[],[],[],[]⟩),(17,⟨[0,4,5,64],[4,5],[],[],[],[],[]⟩),(18,⟨[0,4,5,7],[4,5,7],[],[],[],[],[]⟩),(19,⟨[4],[4],[],[],[],[],[]⟩)],
 [(3,⟨[0,1,4,5,10],[4,5],[],[],[],[],[]⟩),(9,⟨[0,4,5,7],[4,5,7],[],[],[],[],[]⟩),(12,⟨[0,4,5,7,22],[4,5,7],[],[],[],[],[]⟩)],
 [(7,⟨[0,1,4,5],[4,5],[],[],[],[],[]⟩)],
 [],[]⟩
def zju (w:web) (node:Int) (zaA:Int) (t4t0:Tab) (dt0:Tab):St:=⟨[(0,.one (.c (.p (.fp (zat w) 0)))),(1,.one (.c (.p (.int .i64 node)))),(4,.one (.c (.ptr 4 0))),(5,.one (.c (.ptr 5 0))),(10,.one (.c (.p (.int .i64 zaA))))],[(4,.box 116 (zm (zad t4t0))),(5,.box 116 (zm (zad dt0)))],[]⟩
def zjv (K:List PA→Prop) (w:web) (node:Int) (zaA:Int) (t4t0:Tab) (dt0:Tab):Prop:=vc Tryd.prog G75 zcb (cdF Tryd.f75 [1,1,0,1,0]) (zai 0 (sqK Tryd.prog G75 zcb (cdF Tryd.f75 [1,1,1]) (za8 Tryd.prog Tryd.f75 K))) (zju w node zaA t4t0 dt0)
def zFc (w:web) (node:Int) (t4t1:Tab) (dt1:Tab):St:=⟨[(0,.one (.c (.p (.fp (zat w) 0)))),(1,.one (.c (.p (.int .i64 node)))),(4,.one (.c (.ptr 4 0))),(5,.one (.c (.ptr 5 0)))],[(4,.box 116 (zm (zad t4t1))),(5,.box 116 (zm (zad dt1)))],[]⟩
def zlU (K:List PA→Prop) (w:web) (node:Int) (t4t1:Tab) (dt1:Tab):Prop:=vc Tryd.prog G75 zcb (cdF Tryd.f75 [1,1,1]) (za8 Tryd.prog Tryd.f75 K) (zFc w node t4t1 dt1)
def zhx (w:web) (zah:Bool) (t4t2:Tab) (dt2:Tab):St:=⟨[(0,.one (.c (.p (.fp (zat w) 0)))),(4,.one (.c (.ptr 4 0))),(5,.one (.c (.ptr 5 0))),(7,.one (.c (.ptr 7 0)))],[(4,.box 116 (zm (zad t4t2))),(5,.box 116 (zm (zad dt2))),(7,.box 4 [.p (.bool zah)])],[]⟩
def zjw (K:List PA→Prop) (w:web) (zah:Bool) (t4t2:Tab) (dt2:Tab):Prop:=vc Tryd.prog G75 zcb (cdF Tryd.f75 [1,1,1,1,0,1,0]) (zai 2 (sqK Tryd.prog G75 zcb (cdF Tryd.f75 [1,1,1,1,1]) (za8 Tryd.prog Tryd.f75 K))) (zhx w zah t4t2 dt2)
def ze3 (w:web) (zac:Bool) (t4t3:Tab) (dt3:Tab):St:=⟨[(0,.one (.c (.p (.fp (zat w) 0)))),(4,.one (.c (.ptr 4 0))),(5,.one (.c (.ptr 5 0))),(7,.one (.c (.ptr 7 0))),(22,.one (.c (.p (.fn 110 [] [.fp [.fp (zat w) 0] 0]))))],[(4,.box 116 (zm (zad t4t3))),(5,.box 116 (zm (zad dt3))),(7,.box 4 [.p (.bool zac)])],[]⟩
def zjx (K:List PA→Prop) (X2:St→Prop) (w:web) (zac:Bool) (t4t3:Tab) (dt3:Tab):Prop:=vc Tryd.prog G75 zcb (cdF Tryd.f75 [1,1,1,1,0,1,0,0,1,0,0,1,1,0]) (zai 4 (zai 3 (sqK Tryd.prog G75 zcb (cdF Tryd.f75 [1,1,1,1,0,1,0,0,1,1]) (zba Tryd.prog zcb 9 X2 (zai 2 (sqK Tryd.prog G75 zcb (cdF Tryd.f75 [1,1,1,1,1]) (za8 Tryd.prog Tryd.f75 K))))))) (ze3 w zac t4t3 dt3)
theorem zBU (w : web) (node : Int) (K : List PA → Prop) :
  vcFun Tryd.prog G75 zcb 75 [.one (.fp (zat w) 0),.one (.int .i64 node)] K =
  (zjv K w node (0:Int) (fun _=>(0:Int)) (fun _=>(0:Int))):=by kernel_rfl
def znx (K:List PA→Prop) (X0:St→Prop) (w:web) (node:Int) (zaA:Int) (t4t0:Tab) (dt0:Tab):Prop :=
  (zbA (decide (zaA < (40:Int)))
 (((0≤zaA∧zaA < (40:Int))) ∧
 (X0 (zju w node (w64 (zaA+(1:Int))) t4t0 (ts 80 dt0 (0+zaA.toNat * 2+0) [(1000000000000:Int),(0:Int)]))))
 (zlU K w node t4t0 dt0))
theorem zph (K : List PA → Prop) (X0 : St → Prop) (w : web) (node : Int) (zaA : Int) (t4t0 : Tab) (dt0 : Tab) :
  vc Tryd.prog G75 zcb (cd (cdF Tryd.f75 [1,1,0,1,0]) [0]) (zba Tryd.prog zcb 3 X0 (zai 0 (sqK Tryd.prog G75 zcb (cdF Tryd.f75 [1,1,1]) (za8 Tryd.prog Tryd.f75 K)))) (zju w node zaA t4t0 dt0) =
  znx K X0 w node zaA t4t0 dt0:=by kernel_rfl
theorem zv1 (K : List PA → Prop) (w : web) (node : Int) (zaA : Int) (t4t0 : Tab) (dt0 : Tab)
  (h:∀ X0:St→Prop,(∀ (zaA:Int) (t4t0:Tab) (dt0:Tab),znx K X0 w node zaA t4t0 dt0→X0 (zju w node zaA t4t0 dt0))→X0 (zju w node zaA t4t0 dt0)) :
  zjv K w node zaA t4t0 dt0:=by
  have e:zjv K w node zaA t4t0 dt0=(∀ X:St→Prop,(∀ s,vc Tryd.prog G75 zcb (cd (cdF Tryd.f75 [1,1,0,1,0]) [0]) (zba Tryd.prog zcb 3 X (zai 0 (sqK Tryd.prog G75 zcb (cdF Tryd.f75 [1,1,1]) (za8 Tryd.prog Tryd.f75 K)))) s→X s)→X (zju w node zaA t4t0 dt0)):=by kernel_rfl
  refine za9 e ?_
  intro X hX
  refine h X ?_
  intro zaA t4t0 dt0 hs
  refine hX _ ?_
  have e2:=zph K X w node zaA t4t0 dt0
  rw [e2]
  exact hs
theorem zBV (K : List PA → Prop) (w : web) (node : Int) (t4t1 : Tab) (dt1 : Tab) :
  zlU K w node t4t1 dt1 =
  (((0≤node∧node < (40:Int))) ∧
 (zjw K w true t4t1 (ts 80 dt1 (0+node.toNat * 2+0) [(0:Int),(0:Int)]))):=by kernel_rfl
def zny (K:List PA→Prop) (X2:St→Prop) (w:web) (zah:Bool) (t4t2:Tab) (dt2:Tab):Prop :=
  (zbA zah
 ((IsE enc_40 4 4 (fun i=>enc_40 (w.Net.Ties.get i))∧((false,1,false,[none]):MQ)=(false,1,false,[none])) ∧
 (zjx K X2 w false t4t2 dt2))
 (K [.agg [.int .i64 (dt2 0),.int .i64 (dt2 1),.int .i64 (dt2 2),.int .i64 (dt2 3),.int .i64 (dt2 4),.int .i64 (dt2 5),.int .i64 (dt2 6),.int .i64 (dt2 7),.int .i64 (dt2 8),.int .i64 (dt2 9),.int .i64 (dt2 10),.int .i64 (dt2 11),.int .i64 (dt2 12),.int .i64 (dt2 13),.int .i64 (dt2 14),.int .i64 (dt2 15),.int .i64 (dt2 16),.int .i64 (dt2 17),.int .i64 (dt2 18),.int .i64 (dt2 19),.int .i64 (dt2 20),.int .i64 (dt2 21),.int .i64 (dt2 22),.int .i64 (dt2 23),.int .i64 (dt2 24),.int .i64 (dt2 25),.int .i64 (dt2 26),.int .i64 (dt2 27),.int .i64 (dt2 28),.int .i64 (dt2 29),.int .i64 (dt2 30),.int .i64 (dt2 31),.int .i64 (dt2 32),.int .i64 (dt2 33),.int .i64 (dt2 34),.int .i64 (dt2 35),.int .i64 (dt2 36),.int .i64 (dt2 37),.int .i64 (dt2 38),.int .i64 (dt2 39),.int .i64 (dt2 40),.int .i64 (dt2 41),.int .i64 (dt2 42),.int .i64 (dt2 43),.int .i64 (dt2 44),.int .i64 (dt2 45),.int .i64 (dt2 46),.int .i64 (dt2 47),.int .i64 (dt2 48),.int .i64 (dt2 49),.int .i64 (dt2 50),.int .i64 (dt2 51),.int .i64 (dt2 52),.int .i64 (dt2 53),.int .i64 (dt2 54),.int .i64 (dt2 55),.int .i64 (dt2 56),.int .i64 (dt2 57),.int .i64 (dt2 58),.int .i64 (dt2 59),.int .i64 (dt2 60),.int .i64 (dt2 61),.int .i64 (dt2 62),.int .i64 (dt2 63),.int .i64 (dt2 64),.int .i64 (dt2 65),.int .i64 (dt2 66),.int .i64 (dt2 67),.int .i64 (dt2 68),.int .i64 (dt2 69),.int .i64 (dt2 70),.int .i64 (dt2 71),.int .i64 (dt2 72),.int .i64 (dt2 73),.int .i64 (dt2 74),.int .i64 (dt2 75),.int .i64 (dt2 76),.int .i64 (dt2 77),.int .i64 (dt2 78),.int .i64 (dt2 79)]]))
theorem zpi (K : List PA → Prop) (X2 : St → Prop) (w : web) (zah : Bool) (t4t2 : Tab) (dt2 : Tab) :
  vc Tryd.prog G75 zcb (cd (cdF Tryd.f75 [1,1,1,1,0,1,0]) [0]) (zba Tryd.prog zcb 9 X2 (zai 2 (sqK Tryd.prog G75 zcb (cdF Tryd.f75 [1,1,1,1,1]) (za8 Tryd.prog Tryd.f75 K)))) (zhx w zah t4t2 dt2) =
  zny K X2 w zah t4t2 dt2:=by kernel_rfl
theorem zv2 (K : List PA → Prop) (w : web) (zah : Bool) (t4t2 : Tab) (dt2 : Tab)
  (h:∀ X2:St→Prop,(∀ (zah:Bool) (t4t2:Tab) (dt2:Tab),zny K X2 w zah t4t2 dt2→X2 (zhx w zah t4t2 dt2))→X2 (zhx w zah t4t2 dt2)) :
  zjw K w zah t4t2 dt2:=by
  have e:zjw K w zah t4t2 dt2=(∀ X:St→Prop,(∀ s,vc Tryd.prog G75 zcb (cd (cdF Tryd.f75 [1,1,1,1,0,1,0]) [0]) (zba Tryd.prog zcb 9 X (zai 2 (sqK Tryd.prog G75 zcb (cdF Tryd.f75 [1,1,1,1,1]) (za8 Tryd.prog Tryd.f75 K)))) s→X s)→X (zhx w zah t4t2 dt2)):=by kernel_rfl
  refine za9 e ?_
  intro X hX
  refine h X ?_
  intro zah t4t2 dt2 hs
  refine hX _ ?_
  have e2:=zpi K X w zah t4t2 dt2
  rw [e2]
  exact hs
def znz (K:List PA→Prop) (X2:St→Prop) (w:web) (zac:Bool) (t4t3:Tab) (dt3:Tab):Prop :=
  (X2 (zhx w zac t4t3 dt3))
def znA (K:List PA→Prop) (X2:St→Prop) (X3:List (List PA)→St→Prop) (y3:step) (rest3:List (List PA)) (w:web) (zac:Bool) (t4t3:Tab) (dt3:Tab):Prop :=
  (((0≤y3.to∧y3.to < (40:Int))) ∧
 (zbA (match ((tg 80 dt3 (0 + y3.to.toNat * 2 + 0)) == (1000000000000:Int)) with | true => (match ((tg 80 dt3 (0 + y3.to.toNat * 2 + 0 + 1)) == (0:Int)) with | true => true | false => false) | false => false)
 (X3 rest3 (ze3 w zac t4t3 dt3))
 (((0≤y3.from_∧y3.from_ < (40:Int))) ∧
 (((0≤y3.to∧y3.to < (40:Int))) ∧
 (((0≤y3.to∧y3.to < (40:Int))) ∧
 ((IsE zb8 2 2 (fun _=>(zb8 (⟨(w64 ((tg 80 dt3 (0+y3.to.toNat * 2+0))+y3.length)),(w64 ((tg 80 dt3 (0+y3.to.toNat * 2+1))+(1:Int)))⟩:far)))∧(zzE (⟨(tg 80 dt3 (0+y3.from_.toNat * 2+0)),(tg 80 dt3 (0+y3.from_.toNat * 2+0+1))⟩:far) (⟨1,fun _=>(⟨(w64 ((tg 80 dt3 (0+y3.to.toNat * 2+0))+y3.length)),(w64 ((tg 80 dt3 (0+y3.to.toNat * 2+1))+(1:Int)))⟩:far)⟩:(Sl far))=true)) ∧
 (zbA zac
 (((0≤y3.from_∧y3.from_ < (40:Int))) ∧
 (X3 rest3 (ze3 w true t4t3 (ts 80 dt3 (0+y3.from_.toNat * 2+0) [(zcw (⟨(tg 80 dt3 (0+y3.from_.toNat * 2+0)),(tg 80 dt3 (0+y3.from_.toNat * 2+0+1))⟩:far) (⟨1,fun _=>(⟨(w64 ((tg 80 dt3 (0+y3.to.toNat * 2+0))+y3.length)),(w64 ((tg 80 dt3 (0+y3.to.toNat * 2+1))+(1:Int)))⟩:far)⟩:(Sl far))).length,(zcw (⟨(tg 80 dt3 (0+y3.from_.toNat * 2+0)),(tg 80 dt3 (0+y3.from_.toNat * 2+0+1))⟩:far) (⟨1,fun _=>(⟨(w64 ((tg 80 dt3 (0+y3.to.toNat * 2+0))+y3.length)),(w64 ((tg 80 dt3 (0+y3.to.toNat * 2+1))+(1:Int)))⟩:far)⟩:(Sl far))).uses]))))
 (((0≤y3.from_∧y3.from_ < (40:Int))) ∧
 (((0≤y3.from_∧y3.from_ < (40:Int))) ∧
 (X3 rest3 (ze3 w (!(match ((zcw (⟨(tg 80 dt3 (0+y3.from_.toNat * 2+0)),(tg 80 dt3 (0+y3.from_.toNat * 2+0+1))⟩:far) (⟨1,fun _=>(⟨(w64 ((tg 80 dt3 (0+y3.to.toNat * 2+0))+y3.length)),(w64 ((tg 80 dt3 (0+y3.to.toNat * 2+1))+(1:Int)))⟩:far)⟩:(Sl far))).length == (tg 80 dt3 (0+y3.from_.toNat * 2+0))) with | true=>(match ((zcw (⟨(tg 80 dt3 (0+y3.from_.toNat * 2+0)),(tg 80 dt3 (0+y3.from_.toNat * 2+0+1))⟩:far) (⟨1,fun _=>(⟨(w64 ((tg 80 dt3 (0+y3.to.toNat * 2+0))+y3.length)),(w64 ((tg 80 dt3 (0+y3.to.toNat * 2+1))+(1:Int)))⟩:far)⟩:(Sl far))).uses == (tg 80 dt3 (0+y3.from_.toNat * 2+0+1))) with | true=>true | false=>false) | false=>false)) t4t3 (ts 80 dt3 (0+y3.from_.toNat * 2+0) [(zcw (⟨(tg 80 dt3 (0+y3.from_.toNat * 2+0)),(tg 80 dt3 (0+y3.from_.toNat * 2+0+1))⟩:far) (⟨1,fun _=>(⟨(w64 ((tg 80 dt3 (0+y3.to.toNat * 2+0))+y3.length)),(w64 ((tg 80 dt3 (0+y3.to.toNat * 2+1))+(1:Int)))⟩:far)⟩:(Sl far))).length,(zcw (⟨(tg 80 dt3 (0+y3.from_.toNat * 2+0)),(tg 80 dt3 (0+y3.from_.toNat * 2+0+1))⟩:far) (⟨1,fun _=>(⟨(w64 ((tg 80 dt3 (0+y3.to.toNat * 2+0))+y3.length)),(w64 ((tg 80 dt3 (0+y3.to.toNat * 2+1))+(1:Int)))⟩:far)⟩:(Sl far))).uses]))))))))))))
theorem zpj (K:List PA→Prop) (X2:St→Prop) (w:web) (zac:Bool) (t4t3:Tab) (dt3:Tab):(zai 4 (zai 3 (sqK Tryd.prog G75 zcb (cdF Tryd.f75 [1,1,1,1,0,1,0,0,1,1]) (zba Tryd.prog zcb 9 X2 (zai 2 (sqK Tryd.prog G75 zcb (cdF Tryd.f75 [1,1,1,1,1]) (za8 Tryd.prog Tryd.f75 K))))))) .normal (ze3 w zac t4t3 dt3)=znz K X2 w zac t4t3 dt3:=by kernel_rfl
theorem zpk (K : List PA → Prop) (X2 : St → Prop) (X3 : List (List PA) → St → Prop) (y3 : step) (rest3 : List (List PA)) (w : web) (zac : Bool) (t4t3 : Tab) (dt3 : Tab) :
  zsD Tryd.prog G75 zcb 12 [23] (cd (cdF Tryd.f75 [1,1,1,1,0,1,0,0,1,0,0,1,1,0]) [0]) (cd (cdF Tryd.f75 [1,1,1,1,0,1,0,0,1,0,0,1,1,0]) [1]) X3 (zai 4 (zai 3 (sqK Tryd.prog G75 zcb (cdF Tryd.f75 [1,1,1,1,0,1,0,0,1,1]) (zba Tryd.prog zcb 9 X2 (zai 2 (sqK Tryd.prog G75 zcb (cdF Tryd.f75 [1,1,1,1,1]) (za8 Tryd.prog Tryd.f75 K))))))) [.agg (zae y3)] rest3 (ze3 w zac t4t3 dt3)=znA K X2 X3 y3 rest3 w zac t4t3 dt3:=by kernel_rfl
theorem zv3 (K : List PA → Prop) (X2 : St → Prop) (w : web) (zac : Bool) (t4t3 : Tab) (dt3 : Tab)
  (hsafe:IsE enc_40 4 4 (fun i=>enc_40 (w.Net.Ties.get i))∧((false,1,false,[none]):MQ)=(false,1,false,[none])∧(zj1 w=true)) (h:∀ X3:List (List PA)→St→Prop,(∀ (zac:Bool) (t4t3:Tab) (dt3:Tab),znz K X2 w zac t4t3 dt3→X3 [] (ze3 w zac t4t3 dt3))→(∀ (y:step) (rest:List (List PA)) (zac:Bool) (t4t3:Tab) (dt3:Tab),znA K X2 X3 y rest w zac t4t3 dt3→X3 ([.agg (zae y)] :: rest) (ze3 w zac t4t3 dt3))→X3 ((zgP w).map fun y=>[.agg (zae y)]) (ze3 w zac t4t3 dt3)) :
  zjx K X2 w zac t4t3 dt3:=by
  have e:zjx K X2 w zac t4t3 dt3=((IsE enc_40 4 4 (fun i=>enc_40 (w.Net.Ties.get i))∧((false,1,false,[none]):MQ)=(false,1,false,[none])∧(zj1 w=true))∧∀ X:List (List PA)→St→Prop,(∀ s,(zai 4 (zai 3 (sqK Tryd.prog G75 zcb (cdF Tryd.f75 [1,1,1,1,0,1,0,0,1,1]) (zba Tryd.prog zcb 9 X2 (zai 2 (sqK Tryd.prog G75 zcb (cdF Tryd.f75 [1,1,1,1,1]) (za8 Tryd.prog Tryd.f75 K))))))) .normal s→X [] s)→(∀ y rest s,zsD Tryd.prog G75 zcb 12 [23] (cd (cdF Tryd.f75 [1,1,1,1,0,1,0,0,1,0,0,1,1,0]) [0]) (cd (cdF Tryd.f75 [1,1,1,1,0,1,0,0,1,0,0,1,1,0]) [1]) X (zai 4 (zai 3 (sqK Tryd.prog G75 zcb (cdF Tryd.f75 [1,1,1,1,0,1,0,0,1,1]) (zba Tryd.prog zcb 9 X2 (zai 2 (sqK Tryd.prog G75 zcb (cdF Tryd.f75 [1,1,1,1,1]) (za8 Tryd.prog Tryd.f75 K))))))) y rest s→X (y :: rest) s)→X ((zgP w).map fun y=>[.agg (zae y)]) (ze3 w zac t4t3 dt3)):=by kernel_rfl
  refine za9 e ⟨hsafe,?_⟩
  intro X h0 h1
  refine h X (fun zac t4t3 dt3 hs=>h0 _ ?_) (fun y rest zac t4t3 dt3 hs=>h1 _ rest _ ?_)
  · rw [zpj K X2 w zac t4t3 dt3];exact hs
  · have e2 := zpk K X2 X y rest w zac t4t3 dt3
    rw [e2];exact hs
abbrev e75 (r:Tab):List PA:=[.agg [.int .i64 (r 0),.int .i64 (r 1),.int .i64 (r 2),.int .i64 (r 3),.int .i64 (r 4),.int .i64 (r 5),.int .i64 (r 6),.int .i64 (r 7),.int .i64 (r 8),.int .i64 (r 9),.int .i64 (r 10),.int .i64 (r 11),.int .i64 (r 12),.int .i64 (r 13),.int .i64 (r 14),.int .i64 (r 15),.int .i64 (r 16),.int .i64 (r 17),.int .i64 (r 18),.int .i64 (r 19),.int .i64 (r 20),.int .i64 (r 21),.int .i64 (r 22),.int .i64 (r 23),.int .i64 (r 24),.int .i64 (r 25),.int .i64 (r 26),.int .i64 (r 27),.int .i64 (r 28),.int .i64 (r 29),.int .i64 (r 30),.int .i64 (r 31),.int .i64 (r 32),.int .i64 (r 33),.int .i64 (r 34),.int .i64 (r 35),.int .i64 (r 36),.int .i64 (r 37),.int .i64 (r 38),.int .i64 (r 39),.int .i64 (r 40),.int .i64 (r 41),.int .i64 (r 42),.int .i64 (r 43),.int .i64 (r 44),.int .i64 (r 45),.int .i64 (r 46),.int .i64 (r 47),.int .i64 (r 48),.int .i64 (r 49),.int .i64 (r 50),.int .i64 (r 51),.int .i64 (r 52),.int .i64 (r 53),.int .i64 (r 54),.int .i64 (r 55),.int .i64 (r 56),.int .i64 (r 57),.int .i64 (r 58),.int .i64 (r 59),.int .i64 (r 60),.int .i64 (r 61),.int .i64 (r 62),.int .i64 (r 63),.int .i64 (r 64),.int .i64 (r 65),.int .i64 (r 66),.int .i64 (r 67),.int .i64 (r 68),.int .i64 (r 69),.int .i64 (r 70),.int .i64 (r 71),.int .i64 (r 72),.int .i64 (r 73),.int .i64 (r 74),.int .i64 (r 75),.int .i64 (r 76),.int .i64 (r 77),.int .i64 (r 78),.int .i64 (r 79)]]
attribute [irreducible] zjv zlU zjw zjx
def zpl (S2:Bool→Tab→Tab→Tab) (w:web) (zac:Bool) (t4t3:Tab) (dt3:Tab):Tab :=
  (S2 zac t4t3 dt3)
def zpm (P2:Bool→Tab→Tab→Bool) (w:web) (zac:Bool) (t4t3:Tab) (dt3:Tab):Bool :=
  (P2 zac t4t3 dt3)
def zpn (S2:Bool→Tab→Tab→Tab) (w:web) (y3:step) (S3:Bool→Tab→Tab→Tab) (zac:Bool) (t4t3:Tab) (dt3:Tab):Tab :=
  (cond (match ((tg 80 dt3 (0 + y3.to.toNat * 2 + 0)) == (1000000000000:Int)) with | true => (match ((tg 80 dt3 (0 + y3.to.toNat * 2 + 0 + 1)) == (0:Int)) with | true => true | false => false) | false => false)
 (S3 zac t4t3 dt3)
 (cond zac
 (S3 true t4t3 (ts 80 dt3 (0+y3.from_.toNat * 2+0) [(zcw (⟨(tg 80 dt3 (0+y3.from_.toNat * 2+0)),(tg 80 dt3 (0+y3.from_.toNat * 2+0+1))⟩:far) (⟨1,fun _=>(⟨(w64 ((tg 80 dt3 (0+y3.to.toNat * 2+0))+y3.length)),(w64 ((tg 80 dt3 (0+y3.to.toNat * 2+1))+(1:Int)))⟩:far)⟩:(Sl far))).length,(zcw (⟨(tg 80 dt3 (0+y3.from_.toNat * 2+0)),(tg 80 dt3 (0+y3.from_.toNat * 2+0+1))⟩:far) (⟨1,fun _=>(⟨(w64 ((tg 80 dt3 (0+y3.to.toNat * 2+0))+y3.length)),(w64 ((tg 80 dt3 (0+y3.to.toNat * 2+1))+(1:Int)))⟩:far)⟩:(Sl far))).uses]))
 (S3 (!(match ((zcw (⟨(tg 80 dt3 (0+y3.from_.toNat * 2+0)),(tg 80 dt3 (0+y3.from_.toNat * 2+0+1))⟩:far) (⟨1,fun _=>(⟨(w64 ((tg 80 dt3 (0+y3.to.toNat * 2+0))+y3.length)),(w64 ((tg 80 dt3 (0+y3.to.toNat * 2+1))+(1:Int)))⟩:far)⟩:(Sl far))).length == (tg 80 dt3 (0+y3.from_.toNat * 2+0))) with | true=>(match ((zcw (⟨(tg 80 dt3 (0+y3.from_.toNat * 2+0)),(tg 80 dt3 (0+y3.from_.toNat * 2+0+1))⟩:far) (⟨1,fun _=>(⟨(w64 ((tg 80 dt3 (0+y3.to.toNat * 2+0))+y3.length)),(w64 ((tg 80 dt3 (0+y3.to.toNat * 2+1))+(1:Int)))⟩:far)⟩:(Sl far))).uses == (tg 80 dt3 (0+y3.from_.toNat * 2+0+1))) with | true=>true | false=>false) | false=>false)) t4t3 (ts 80 dt3 (0+y3.from_.toNat * 2+0) [(zcw (⟨(tg 80 dt3 (0+y3.from_.toNat * 2+0)),(tg 80 dt3 (0+y3.from_.toNat * 2+0+1))⟩:far) (⟨1,fun _=>(⟨(w64 ((tg 80 dt3 (0+y3.to.toNat * 2+0))+y3.length)),(w64 ((tg 80 dt3 (0+y3.to.toNat * 2+1))+(1:Int)))⟩:far)⟩:(Sl far))).length,(zcw (⟨(tg 80 dt3 (0+y3.from_.toNat * 2+0)),(tg 80 dt3 (0+y3.from_.toNat * 2+0+1))⟩:far) (⟨1,fun _=>(⟨(w64 ((tg 80 dt3 (0+y3.to.toNat * 2+0))+y3.length)),(w64 ((tg 80 dt3 (0+y3.to.toNat * 2+1))+(1:Int)))⟩:far)⟩:(Sl far))).uses]))))
def zpo (P2:Bool→Tab→Tab→Bool) (w:web) (y3:step) (P3:Bool→Tab→Tab→Bool) (zac:Bool) (t4t3:Tab) (dt3:Tab):Bool :=
  (decide ((0≤y3.to∧y3.to < (40:Int))) &&
 (cond (match ((tg 80 dt3 (0 + y3.to.toNat * 2 + 0)) == (1000000000000:Int)) with | true => (match ((tg 80 dt3 (0 + y3.to.toNat * 2 + 0 + 1)) == (0:Int)) with | true => true | false => false) | false => false)
 (P3 zac t4t3 dt3)
 (decide ((0≤y3.from_∧y3.from_ < (40:Int))) &&
 (decide ((0≤y3.to∧y3.to < (40:Int))) &&
 (decide ((0≤y3.to∧y3.to < (40:Int))) &&
 (decide ((zzE (⟨(tg 80 dt3 (0+y3.from_.toNat * 2+0)),(tg 80 dt3 (0+y3.from_.toNat * 2+0+1))⟩:far) (⟨1,fun _=>(⟨(w64 ((tg 80 dt3 (0+y3.to.toNat * 2+0))+y3.length)),(w64 ((tg 80 dt3 (0+y3.to.toNat * 2+1))+(1:Int)))⟩:far)⟩:(Sl far))=true)) &&
 (cond zac
 (decide ((0≤y3.from_∧y3.from_ < (40:Int))) &&
 (P3 true t4t3 (ts 80 dt3 (0+y3.from_.toNat * 2+0) [(zcw (⟨(tg 80 dt3 (0+y3.from_.toNat * 2+0)),(tg 80 dt3 (0+y3.from_.toNat * 2+0+1))⟩:far) (⟨1,fun _=>(⟨(w64 ((tg 80 dt3 (0+y3.to.toNat * 2+0))+y3.length)),(w64 ((tg 80 dt3 (0+y3.to.toNat * 2+1))+(1:Int)))⟩:far)⟩:(Sl far))).length,(zcw (⟨(tg 80 dt3 (0+y3.from_.toNat * 2+0)),(tg 80 dt3 (0+y3.from_.toNat * 2+0+1))⟩:far) (⟨1,fun _=>(⟨(w64 ((tg 80 dt3 (0+y3.to.toNat * 2+0))+y3.length)),(w64 ((tg 80 dt3 (0+y3.to.toNat * 2+1))+(1:Int)))⟩:far)⟩:(Sl far))).uses])))
 (decide ((0≤y3.from_∧y3.from_ < (40:Int))) &&
 (decide ((0≤y3.from_∧y3.from_ < (40:Int))) &&
 (P3 (!(match ((zcw (⟨(tg 80 dt3 (0+y3.from_.toNat * 2+0)),(tg 80 dt3 (0+y3.from_.toNat * 2+0+1))⟩:far) (⟨1,fun _=>(⟨(w64 ((tg 80 dt3 (0+y3.to.toNat * 2+0))+y3.length)),(w64 ((tg 80 dt3 (0+y3.to.toNat * 2+1))+(1:Int)))⟩:far)⟩:(Sl far))).length == (tg 80 dt3 (0+y3.from_.toNat * 2+0))) with | true=>(match ((zcw (⟨(tg 80 dt3 (0+y3.from_.toNat * 2+0)),(tg 80 dt3 (0+y3.from_.toNat * 2+0+1))⟩:far) (⟨1,fun _=>(⟨(w64 ((tg 80 dt3 (0+y3.to.toNat * 2+0))+y3.length)),(w64 ((tg 80 dt3 (0+y3.to.toNat * 2+1))+(1:Int)))⟩:far)⟩:(Sl far))).uses == (tg 80 dt3 (0+y3.from_.toNat * 2+0+1))) with | true=>true | false=>false) | false=>false)) t4t3 (ts 80 dt3 (0+y3.from_.toNat * 2+0) [(zcw (⟨(tg 80 dt3 (0+y3.from_.toNat * 2+0)),(tg 80 dt3 (0+y3.from_.toNat * 2+0+1))⟩:far) (⟨1,fun _=>(⟨(w64 ((tg 80 dt3 (0+y3.to.toNat * 2+0))+y3.length)),(w64 ((tg 80 dt3 (0+y3.to.toNat * 2+1))+(1:Int)))⟩:far)⟩:(Sl far))).length,(zcw (⟨(tg 80 dt3 (0+y3.from_.toNat * 2+0)),(tg 80 dt3 (0+y3.from_.toNat * 2+0+1))⟩:far) (⟨1,fun _=>(⟨(w64 ((tg 80 dt3 (0+y3.to.toNat * 2+0))+y3.length)),(w64 ((tg 80 dt3 (0+y3.to.toNat * 2+1))+(1:Int)))⟩:far)⟩:(Sl far))).uses])))))))))))
def zjy (S2 : Bool → Tab → Tab → Tab) (w : web) : List step → Bool → Tab → Tab → Tab
  | []=>zpl S2 w
  | y :: r=>zpn S2 w y (zjy S2 w r)
def zjz (P2 : Bool → Tab → Tab → Bool) (w : web) : List step → Bool → Tab → Tab → Bool
  | []=>zpm P2 w
  | y :: r=>zpo P2 w y (zjz P2 w r)
def zv4 (S2:Bool→Tab→Tab→Tab) (w:web) (zac:Bool) (t4t3:Tab) (dt3:Tab):Tab:=zjy S2 w (zgP w) zac t4t3 dt3
def zpp (P2:Bool→Tab→Tab→Bool) (w:web) (zac:Bool) (t4t3:Tab) (dt3:Tab):Bool:=decide ((zj1 w=true)) && zjz P2 w (zgP w) zac t4t3 dt3
theorem zBW (K : List PA → Prop) (w : web)
  (X2:St→Prop) (P2:Bool→Tab→Tab→Bool) (S2:Bool→Tab→Tab→Tab)
  (hX2:∀ (zah:Bool) (t4t2:Tab) (dt2:Tab),P2 zah t4t2 dt2=true→K (e75 (S2 zah t4t2 dt2))→X2 (zhx w zah t4t2 dt2)) (zac:Bool) (t4t3:Tab) (dt3:Tab) (hs:zpp P2 w zac t4t3 dt3=true) (hk:K (e75 (zv4 S2 w zac t4t3 dt3))):zjx K X2 w zac t4t3 dt3:=by
  unfold zpp at hs
  rw [Bool.and_eq_true] at hs
  obtain ⟨hsf,hs⟩:=hs
  have hc:=of_decide_eq_true hsf
  refine zv3 K X2 w zac t4t3 dt3 ⟨isE,rfl,hc⟩ ?_
  intro X3 hexit hstep
  have key:∀ (l:List step) (zac:Bool) (t4t3:Tab) (dt3:Tab),zjz P2 w l zac t4t3 dt3=true→K (e75 (zjy S2 w l zac t4t3 dt3))→X3 (l.map fun y=>[.agg (zae y)]) (ze3 w zac t4t3 dt3):=by
    intro l
    induction l with
    | nil =>
      intro zac t4t3 dt3 hs hk
      refine hexit zac t4t3 dt3 ?_
      have hs:zpm P2 w zac t4t3 dt3=true:=hs
      have hk:K (e75 (zpl S2 w zac t4t3 dt3)):=hk
      unfold zpm at hs
      unfold zpl at hk
      exact (hX2 zac t4t3 dt3 hs hk)
    | cons y3 l ih =>
      intro zac t4t3 dt3 hs hk
      refine hstep y3 _ zac t4t3 dt3 ?_
      have hs:zpo P2 w y3 (zjz P2 w l) zac t4t3 dt3=true:=hs
      have hk:K (e75 (zpn S2 w y3 (zjy S2 w l) zac t4t3 dt3)):=hk
      unfold zpo at hs
      unfold zpn at hk
      generalize zjy S2 w l=S3 at hk ih
      generalize zjz P2 w l=P3 at hs ih
      have hX3:=ih
      exact (zaX hs fun hc hs => ⟨hc, (zaM (K := fun r => K (e75 r))
 (fun hs hk=>(hX3 zac t4t3 dt3 hs hk))
 (fun hs hk => (zaX hs fun hc hs => ⟨hc, (zaX hs fun hc hs => ⟨hc, (zaX hs fun hc hs => ⟨hc, (zaX hs fun hc hs => ⟨⟨zug, hc⟩, (zaM (K := fun r => K (e75 r))
 (fun hs hk=>(zaX hs fun hc hs=>⟨hc,(hX3 true t4t3 (ts 80 dt3 (0+y3.from_.toNat * 2+0) [(zcw (⟨(tg 80 dt3 (0+y3.from_.toNat * 2+0)),(tg 80 dt3 (0+y3.from_.toNat * 2+0+1))⟩:far) (⟨1,fun _=>(⟨(w64 ((tg 80 dt3 (0+y3.to.toNat * 2+0))+y3.length)),(w64 ((tg 80 dt3 (0+y3.to.toNat * 2+1))+(1:Int)))⟩:far)⟩:(Sl far))).length,(zcw (⟨(tg 80 dt3 (0+y3.from_.toNat * 2+0)),(tg 80 dt3 (0+y3.from_.toNat * 2+0+1))⟩:far) (⟨1,fun _=>(⟨(w64 ((tg 80 dt3 (0+y3.to.toNat * 2+0))+y3.length)),(w64 ((tg 80 dt3 (0+y3.to.toNat * 2+1))+(1:Int)))⟩:far)⟩:(Sl far))).uses]) hs hk)⟩))
 (fun hs hk=>(zaX hs fun hc hs=>⟨hc,(zaX hs fun hc hs=>⟨hc,(hX3 (!(match ((zcw (⟨(tg 80 dt3 (0+y3.from_.toNat * 2+0)),(tg 80 dt3 (0+y3.from_.toNat * 2+0+1))⟩:far) (⟨1,fun _=>(⟨(w64 ((tg 80 dt3 (0+y3.to.toNat * 2+0))+y3.length)),(w64 ((tg 80 dt3 (0+y3.to.toNat * 2+1))+(1:Int)))⟩:far)⟩:(Sl far))).length == (tg 80 dt3 (0+y3.from_.toNat * 2+0))) with | true=>(match ((zcw (⟨(tg 80 dt3 (0+y3.from_.toNat * 2+0)),(tg 80 dt3 (0+y3.from_.toNat * 2+0+1))⟩:far) (⟨1,fun _=>(⟨(w64 ((tg 80 dt3 (0+y3.to.toNat * 2+0))+y3.length)),(w64 ((tg 80 dt3 (0+y3.to.toNat * 2+1))+(1:Int)))⟩:far)⟩:(Sl far))).uses == (tg 80 dt3 (0+y3.from_.toNat * 2+0+1))) with | true=>true | false=>false) | false=>false)) t4t3 (ts 80 dt3 (0+y3.from_.toNat * 2+0) [(zcw (⟨(tg 80 dt3 (0+y3.from_.toNat * 2+0)),(tg 80 dt3 (0+y3.from_.toNat * 2+0+1))⟩:far) (⟨1,fun _=>(⟨(w64 ((tg 80 dt3 (0+y3.to.toNat * 2+0))+y3.length)),(w64 ((tg 80 dt3 (0+y3.to.toNat * 2+1))+(1:Int)))⟩:far)⟩:(Sl far))).length,(zcw (⟨(tg 80 dt3 (0+y3.from_.toNat * 2+0)),(tg 80 dt3 (0+y3.from_.toNat * 2+0+1))⟩:far) (⟨1,fun _=>(⟨(w64 ((tg 80 dt3 (0+y3.to.toNat * 2+0))+y3.length)),(w64 ((tg 80 dt3 (0+y3.to.toNat * 2+1))+(1:Int)))⟩:far)⟩:(Sl far))).uses]) hs hk)⟩)⟩)) hs hk)⟩)⟩)⟩)⟩)) hs hk)⟩)
  exact key _ zac t4t3 dt3 hs hk
def zpq (w:web) (S2:Bool→Tab→Tab→Tab) (zah:Bool) (t4t2:Tab) (dt2:Tab):Tab :=
  (cond zah
 (zv4 S2 w false t4t2 dt2)
 dt2)
def zpr (w:web) (P2:Bool→Tab→Tab→Bool) (zah:Bool) (t4t2:Tab) (dt2:Tab):Bool :=
  (cond zah
 (zpp P2 w false t4t2 dt2)
 true)
def zjA (w : web) : Nat → Bool → Tab → Tab → Tab
  | 0=>fun _ _ _=>default
  | k+1=>zpq w (zjA w k)
def zjB (w : web) : Nat → Bool → Tab → Tab → Bool
  | 0=>fun _ _ _=>false
  | k+1=>zpr w (zjB w k)
def zv5 (w:web) (zah:Bool) (t4t2:Tab) (dt2:Tab):Tab:=zjA w Fuel zah t4t2 dt2
def zv6 (w:web) (zah:Bool) (t4t2:Tab) (dt2:Tab):Bool:=zjB w Fuel zah t4t2 dt2
theorem zBX (K:List PA→Prop) (w:web) (zah:Bool) (t4t2:Tab) (dt2:Tab) (hs:zv6 w zah t4t2 dt2=true) (hk:K (e75 (zv5 w zah t4t2 dt2))):zjw K w zah t4t2 dt2:=by
  refine zv2 K w zah t4t2 dt2 ?_
  intro X2 hstep
  have key:∀ (k:Nat) (zah:Bool) (t4t2:Tab) (dt2:Tab),zjB w k zah t4t2 dt2=true→K (e75 (zjA w k zah t4t2 dt2))→X2 (zhx w zah t4t2 dt2):=by
    intro k
    induction k with
    | zero=>intro zah t4t2 dt2 hs;exact absurd hs Bool.false_ne_true
    | succ k ih =>
      intro zah t4t2 dt2 hs hk
      refine hstep zah t4t2 dt2 ?_
      have hs:zpr w (zjB w k) zah t4t2 dt2=true:=hs
      have hk:K (e75 (zpq w (zjA w k) zah t4t2 dt2)):=hk
      unfold zpr at hs
      unfold zpq at hk
      generalize zjA w k=S2 at hk ih
      generalize zjB w k=P2 at hs ih
      have hX2:=ih
      exact (zaM (K := fun r => K (e75 r))
 (fun hs hk=>⟨⟨isE,rfl⟩,(zBW K w X2 P2 S2 hX2 false t4t2 dt2 hs hk)⟩)
 (fun hs hk=>hk) hs hk)
  exact key _ zah t4t2 dt2 hs hk
def zps (w:web) (node:Int) (t4t1:Tab) (dt1:Tab):Tab :=
  (zv5 w true t4t1 (ts 80 dt1 (0+node.toNat * 2+0) [(0:Int),(0:Int)]))
def zpt (w:web) (node:Int) (t4t1:Tab) (dt1:Tab):Bool :=
  (decide ((0≤node∧node < (40:Int))) &&
 (zv6 w true t4t1 (ts 80 dt1 (0+node.toNat * 2+0) [(0:Int),(0:Int)])))
theorem zBY (K:List PA→Prop) (w:web) (node:Int) (t4t1:Tab) (dt1:Tab) (hs:zpt w node t4t1 dt1=true) (hk:K (e75 (zps w node t4t1 dt1))):zlU K w node t4t1 dt1:=by
  refine za9 (zBV K w node t4t1 dt1) ?_
  unfold zpt at hs
  unfold zps at hk
  exact (zaX hs fun hc hs=>⟨hc,(zBX K w true t4t1 (ts 80 dt1 (0+node.toNat * 2+0) [(0:Int),(0:Int)]) hs hk)⟩)
def zpu (w:web) (node:Int) (S0:Int→Tab→Tab→Tab) (zaA:Int) (t4t0:Tab) (dt0:Tab):Tab :=
  (cond (decide (zaA < (40:Int)))
 (S0 (w64 (zaA+(1:Int))) t4t0 (ts 80 dt0 (0+zaA.toNat * 2+0) [(1000000000000:Int),(0:Int)]))
 (zps w node t4t0 dt0))
def zpv (w:web) (node:Int) (P0:Int→Tab→Tab→Bool) (zaA:Int) (t4t0:Tab) (dt0:Tab):Bool :=
  (cond (decide (zaA < (40:Int)))
 (decide ((0≤zaA∧zaA < (40:Int))) &&
 (P0 (w64 (zaA+(1:Int))) t4t0 (ts 80 dt0 (0+zaA.toNat * 2+0) [(1000000000000:Int),(0:Int)])))
 (zpt w node t4t0 dt0))
def zjC (w : web) (node : Int) : Nat → Int → Tab → Tab → Tab
  | 0=>fun _ _ _=>default
  | k+1=>zpu w node (zjC w node k)
def zjD (w : web) (node : Int) : Nat → Int → Tab → Tab → Bool
  | 0=>fun _ _ _=>false
  | k+1=>zpv w node (zjD w node k)
def zv7 (w:web) (node:Int) (zaA:Int) (t4t0:Tab) (dt0:Tab):Tab:=zjC w node Fuel zaA t4t0 dt0
def zv8 (w:web) (node:Int) (zaA:Int) (t4t0:Tab) (dt0:Tab):Bool:=zjD w node Fuel zaA t4t0 dt0
theorem zBZ (K:List PA→Prop) (w:web) (node:Int) (zaA:Int) (t4t0:Tab) (dt0:Tab) (hs:zv8 w node zaA t4t0 dt0=true) (hk:K (e75 (zv7 w node zaA t4t0 dt0))):zjv K w node zaA t4t0 dt0:=by
  refine zv1 K w node zaA t4t0 dt0 ?_
  intro X0 hstep
  have key:∀ (k:Nat) (zaA:Int) (t4t0:Tab) (dt0:Tab),zjD w node k zaA t4t0 dt0=true→K (e75 (zjC w node k zaA t4t0 dt0))→X0 (zju w node zaA t4t0 dt0):=by
    intro k
    induction k with
    | zero=>intro zaA t4t0 dt0 hs;exact absurd hs Bool.false_ne_true
    | succ k ih =>
      intro zaA t4t0 dt0 hs hk
      refine hstep zaA t4t0 dt0 ?_
      have hs:zpv w node (zjD w node k) zaA t4t0 dt0=true:=hs
      have hk:K (e75 (zpu w node (zjC w node k) zaA t4t0 dt0)):=hk
      unfold zpv at hs
      unfold zpu at hk
      generalize zjC w node k=S0 at hk ih
      generalize zjD w node k=P0 at hs ih
      have hX0:=ih
      exact (zaM (K := fun r => K (e75 r))
 (fun hs hk=>(zaX hs fun hc hs=>⟨hc,(hX0 (w64 (zaA+(1:Int))) t4t0 (ts 80 dt0 (0+zaA.toNat * 2+0) [(1000000000000:Int),(0:Int)]) hs hk)⟩))
 (fun hs hk=>(zBY K w node t4t0 dt0 hs hk)) hs hk)
  exact key _ zaA t4t0 dt0 hs hk
def s75 (w:web) (node:Int):Tab :=
  (zv7 w node (0:Int) (fun _=>(0:Int)) (fun _=>(0:Int)))
def p75 (w:web) (node:Int):Bool :=
  (zv8 w node (0:Int) (fun _=>(0:Int)) (fun _=>(0:Int)))
theorem q75 (w:web) (node:Int) (K:List PA→Prop) (hs:p75 w node=true) (hk:K (e75 (s75 w node))):vcFun Tryd.prog G75 zcb 75 [.one (.fp (zat w) 0),.one (.int .i64 node)] K:=by
  refine za9 (zBU w node K) ?_
  unfold p75 at hs
  unfold s75 at hk
  exact (zBZ K w node (0:Int) (fun _=>(0:Int)) (fun _=>(0:Int)) hs hk)
def zv9 : List PA → COut
  | [.one (.fp [.int .i64 a0_Net_Nodes,.sl a0_Net_Ties_n a0_Net_Ties_s a0_Net_Ties_g,.fm a0_out_q a0_out_n a0_out_F] 0),.one (.int .i64 a1)]=>.det (IsE enc_40 4 a0_Net_Ties_s a0_Net_Ties_g∧a0_out_q=(false,1,false,[none])∧p75 (⟨(⟨a0_Net_Nodes,(⟨a0_Net_Ties_n,zaa a0_Net_Ties_g⟩:(Sl Tie))⟩:Net),(⟨a0_out_n,a0_out_F⟩:Mp)⟩:web) a1=true) [.agg [.int .i64 ((s75 (⟨(⟨a0_Net_Nodes,(⟨a0_Net_Ties_n,zaa a0_Net_Ties_g⟩:(Sl Tie))⟩:Net),(⟨a0_out_n,a0_out_F⟩:Mp)⟩:web) a1) 0),.int .i64 ((s75 (⟨(⟨a0_Net_Nodes,(⟨a0_Net_Ties_n,zaa a0_Net_Ties_g⟩:(Sl Tie))⟩:Net),(⟨a0_out_n,a0_out_F⟩:Mp)⟩:web) a1) 1),.int .i64 ((s75 (⟨(⟨a0_Net_Nodes,(⟨a0_Net_Ties_n,zaa a0_Net_Ties_g⟩:(Sl Tie))⟩:Net),(⟨a0_out_n,a0_out_F⟩:Mp)⟩:web) a1) 2),.int .i64 ((s75 (⟨(⟨a0_Net_Nodes,(⟨a0_Net_Ties_n,zaa a0_Net_Ties_g⟩:(Sl Tie))⟩:Net),(⟨a0_out_n,a0_out_F⟩:Mp)⟩:web) a1) 3),.int .i64 ((s75 (⟨(⟨a0_Net_Nodes,(⟨a0_Net_Ties_n,zaa a0_Net_Ties_g⟩:(Sl Tie))⟩:Net),(⟨a0_out_n,a0_out_F⟩:Mp)⟩:web) a1) 4),.int .i64 ((s75 (⟨(⟨a0_Net_Nodes,(⟨a0_Net_Ties_n,zaa a0_Net_Ties_g⟩:(Sl Tie))⟩:Net),(⟨a0_out_n,a0_out_F⟩:Mp)⟩:web) a1) 5),.int .i64 ((s75 (⟨(⟨a0_Net_Nodes,(⟨a0_Net_Ties_n,zaa a0_Net_Ties_g⟩:(Sl Tie))⟩:Net),(⟨a0_out_n,a0_out_F⟩:Mp)⟩:web) a1) 6),.int .i64 ((s75 (⟨(⟨a0_Net_Nodes,(⟨a0_Net_Ties_n,zaa a0_Net_Ties_g⟩:(Sl Tie))⟩:Net),(⟨a0_out_n,a0_out_F⟩:Mp)⟩:web) a1) 7),.int .i64 ((s75 (⟨(⟨a0_Net_Nodes,(⟨a0_Net_Ties_n,zaa a0_Net_Ties_g⟩:(Sl Tie))⟩:Net),(⟨a0_out_n,a0_out_F⟩:Mp)⟩:web) a1) 8),.int .i64 ((s75 (⟨(⟨a0_Net_Nodes,(⟨a0_Net_Ties_n,zaa a0_Net_Ties_g⟩:(Sl Tie))⟩:Net),(⟨a0_out_n,a0_out_F⟩:Mp)⟩:web) a1) 9),.int .i64 ((s75 (⟨(⟨a0_Net_Nodes,(⟨a0_Net_Ties_n,zaa a0_Net_Ties_g⟩:(Sl Tie))⟩:Net),(⟨a0_out_n,a0_out_F⟩:Mp)⟩:web) a1) 10),.int .i64 ((s75 (⟨(⟨a0_Net_Nodes,(⟨a0_Net_Ties_n,zaa a0_Net_Ties_g⟩:(Sl Tie))⟩:Net),(⟨a0_out_n,a0_out_F⟩:Mp)⟩:web) a1) 11),.int .i64 ((s75 (⟨(⟨a0_Net_Nodes,(⟨a0_Net_Ties_n,zaa a0_Net_Ties_g⟩:(Sl Tie))⟩:Net),(⟨a0_out_n,a0_out_F⟩:Mp)⟩:web) a1) 12),.int .i64 ((s75 (⟨(⟨a0_Net_Nodes,(⟨a0_Net_Ties_n,zaa a0_Net_Ties_g⟩:(Sl Tie))⟩:Net),(⟨a0_out_n,a0_out_F⟩:Mp)⟩:web) a1) 13),.int .i64 ((s75 (⟨(⟨a0_Net_Nodes,(⟨a0_Net_Ties_n,zaa a0_Net_Ties_g⟩:(Sl Tie))⟩:Net),(⟨a0_out_n,a0_out_F⟩:Mp)⟩:web) a1) 14),.int .i64 ((s75 (⟨(⟨a0_Net_Nodes,(⟨a0_Net_Ties_n,zaa a0_Net_Ties_g⟩:(Sl Tie))⟩:Net),(⟨a0_out_n,a0_out_F⟩:Mp)⟩:web) a1) 15),.int .i64 ((s75 (⟨(⟨a0_Net_Nodes,(⟨a0_Net_Ties_n,zaa a0_Net_Ties_g⟩:(Sl Tie))⟩:Net),(⟨a0_out_n,a0_out_F⟩:Mp)⟩:web) a1) 16),.int .i64 ((s75 (⟨(⟨a0_Net_Nodes,(⟨a0_Net_Ties_n,zaa a0_Net_Ties_g⟩:(Sl Tie))⟩:Net),(⟨a0_out_n,a0_out_F⟩:Mp)⟩:web) a1) 17),.int .i64 ((s75 (⟨(⟨a0_Net_Nodes,(⟨a0_Net_Ties_n,zaa a0_Net_Ties_g⟩:(Sl Tie))⟩:Net),(⟨a0_out_n,a0_out_F⟩:Mp)⟩:web) a1) 18),.int .i64 ((s75 (⟨(⟨a0_Net_Nodes,(⟨a0_Net_Ties_n,zaa a0_Net_Ties_g⟩:(Sl Tie))⟩:Net),(⟨a0_out_n,a0_out_F⟩:Mp)⟩:web) a1) 19),.int .i64 ((s75 (⟨(⟨a0_Net_Nodes,(⟨a0_Net_Ties_n,zaa a0_Net_Ties_g⟩:(Sl Tie))⟩:Net),(⟨a0_out_n,a0_out_F⟩:Mp)⟩:web) a1) 20),.int .i64 ((s75 (⟨(⟨a0_Net_Nodes,(⟨a0_Net_Ties_n,zaa a0_Net_Ties_g⟩:(Sl Tie))⟩:Net),(⟨a0_out_n,a0_out_F⟩:Mp)⟩:web) a1) 21),.int .i64 ((s75 (⟨(⟨a0_Net_Nodes,(⟨a0_Net_Ties_n,zaa a0_Net_Ties_g⟩:(Sl Tie))⟩:Net),(⟨a0_out_n,a0_out_F⟩:Mp)⟩:web) a1) 22),.int .i64 ((s75 (⟨(⟨a0_Net_Nodes,(⟨a0_Net_Ties_n,zaa a0_Net_Ties_g⟩:(Sl Tie))⟩:Net),(⟨a0_out_n,a0_out_F⟩:Mp)⟩:web) a1) 23),.int .i64 ((s75 (⟨(⟨a0_Net_Nodes,(⟨a0_Net_Ties_n,zaa a0_Net_Ties_g⟩:(Sl Tie))⟩:Net),(⟨a0_out_n,a0_out_F⟩:Mp)⟩:web) a1) 24),.int .i64 ((s75 (⟨(⟨a0_Net_Nodes,(⟨a0_Net_Ties_n,zaa a0_Net_Ties_g⟩:(Sl Tie))⟩:Net),(⟨a0_out_n,a0_out_F⟩:Mp)⟩:web) a1) 25),.int .i64 ((s75 (⟨(⟨a0_Net_Nodes,(⟨a0_Net_Ties_n,zaa a0_Net_Ties_g⟩:(Sl Tie))⟩:Net),(⟨a0_out_n,a0_out_F⟩:Mp)⟩:web) a1) 26),.int .i64 ((s75 (⟨(⟨a0_Net_Nodes,(⟨a0_Net_Ties_n,zaa a0_Net_Ties_g⟩:(Sl Tie))⟩:Net),(⟨a0_out_n,a0_out_F⟩:Mp)⟩:web) a1) 27),.int .i64 ((s75 (⟨(⟨a0_Net_Nodes,(⟨a0_Net_Ties_n,zaa a0_Net_Ties_g⟩:(Sl Tie))⟩:Net),(⟨a0_out_n,a0_out_F⟩:Mp)⟩:web) a1) 28),.int .i64 ((s75 (⟨(⟨a0_Net_Nodes,(⟨a0_Net_Ties_n,zaa a0_Net_Ties_g⟩:(Sl Tie))⟩:Net),(⟨a0_out_n,a0_out_F⟩:Mp)⟩:web) a1) 29),.int .i64 ((s75 (⟨(⟨a0_Net_Nodes,(⟨a0_Net_Ties_n,zaa a0_Net_Ties_g⟩:(Sl Tie))⟩:Net),(⟨a0_out_n,a0_out_F⟩:Mp)⟩:web) a1) 30),.int .i64 ((s75 (⟨(⟨a0_Net_Nodes,(⟨a0_Net_Ties_n,zaa a0_Net_Ties_g⟩:(Sl Tie))⟩:Net),(⟨a0_out_n,a0_out_F⟩:Mp)⟩:web) a1) 31),.int .i64 ((s75 (⟨(⟨a0_Net_Nodes,(⟨a0_Net_Ties_n,zaa a0_Net_Ties_g⟩:(Sl Tie))⟩:Net),(⟨a0_out_n,a0_out_F⟩:Mp)⟩:web) a1) 32),.int .i64 ((s75 (⟨(⟨a0_Net_Nodes,(⟨a0_Net_Ties_n,zaa a0_Net_Ties_g⟩:(Sl Tie))⟩:Net),(⟨a0_out_n,a0_out_F⟩:Mp)⟩:web) a1) 33),.int .i64 ((s75 (⟨(⟨a0_Net_Nodes,(⟨a0_Net_Ties_n,zaa a0_Net_Ties_g⟩:(Sl Tie))⟩:Net),(⟨a0_out_n,a0_out_F⟩:Mp)⟩:web) a1) 34),.int .i64 ((s75 (⟨(⟨a0_Net_Nodes,(⟨a0_Net_Ties_n,zaa a0_Net_Ties_g⟩:(Sl Tie))⟩:Net),(⟨a0_out_n,a0_out_F⟩:Mp)⟩:web) a1) 35),.int .i64 ((s75 (⟨(⟨a0_Net_Nodes,(⟨a0_Net_Ties_n,zaa a0_Net_Ties_g⟩:(Sl Tie))⟩:Net),(⟨a0_out_n,a0_out_F⟩:Mp)⟩:web) a1) 36),.int .i64 ((s75 (⟨(⟨a0_Net_Nodes,(⟨a0_Net_Ties_n,zaa a0_Net_Ties_g⟩:(Sl Tie))⟩:Net),(⟨a0_out_n,a0_out_F⟩:Mp)⟩:web) a1) 37),.int .i64 ((s75 (⟨(⟨a0_Net_Nodes,(⟨a0_Net_Ties_n,zaa a0_Net_Ties_g⟩:(Sl Tie))⟩:Net),(⟨a0_out_n,a0_out_F⟩:Mp)⟩:web) a1) 38),.int .i64 ((s75 (⟨(⟨a0_Net_Nodes,(⟨a0_Net_Ties_n,zaa a0_Net_Ties_g⟩:(Sl Tie))⟩:Net),(⟨a0_out_n,a0_out_F⟩:Mp)⟩:web) a1) 39),.int .i64 ((s75 (⟨(⟨a0_Net_Nodes,(⟨a0_Net_Ties_n,zaa a0_Net_Ties_g⟩:(Sl Tie))⟩:Net),(⟨a0_out_n,a0_out_F⟩:Mp)⟩:web) a1) 40),.int .i64 ((s75 (⟨(⟨a0_Net_Nodes,(⟨a0_Net_Ties_n,zaa a0_Net_Ties_g⟩:(Sl Tie))⟩:Net),(⟨a0_out_n,a0_out_F⟩:Mp)⟩:web) a1) 41),.int .i64 ((s75 (⟨(⟨a0_Net_Nodes,(⟨a0_Net_Ties_n,zaa a0_Net_Ties_g⟩:(Sl Tie))⟩:Net),(⟨a0_out_n,a0_out_F⟩:Mp)⟩:web) a1) 42),.int .i64 ((s75 (⟨(⟨a0_Net_Nodes,(⟨a0_Net_Ties_n,zaa a0_Net_Ties_g⟩:(Sl Tie))⟩:Net),(⟨a0_out_n,a0_out_F⟩:Mp)⟩:web) a1) 43),.int .i64 ((s75 (⟨(⟨a0_Net_Nodes,(⟨a0_Net_Ties_n,zaa a0_Net_Ties_g⟩:(Sl Tie))⟩:Net),(⟨a0_out_n,a0_out_F⟩:Mp)⟩:web) a1) 44),.int .i64 ((s75 (⟨(⟨a0_Net_Nodes,(⟨a0_Net_Ties_n,zaa a0_Net_Ties_g⟩:(Sl Tie))⟩:Net),(⟨a0_out_n,a0_out_F⟩:Mp)⟩:web) a1) 45),.int .i64 ((s75 (⟨(⟨a0_Net_Nodes,(⟨a0_Net_Ties_n,zaa a0_Net_Ties_g⟩:(Sl Tie))⟩:Net),(⟨a0_out_n,a0_out_F⟩:Mp)⟩:web) a1) 46),.int .i64 ((s75 (⟨(⟨a0_Net_Nodes,(⟨a0_Net_Ties_n,zaa a0_Net_Ties_g⟩:(Sl Tie))⟩:Net),(⟨a0_out_n,a0_out_F⟩:Mp)⟩:web) a1) 47),.int .i64 ((s75 (⟨(⟨a0_Net_Nodes,(⟨a0_Net_Ties_n,zaa a0_Net_Ties_g⟩:(Sl Tie))⟩:Net),(⟨a0_out_n,a0_out_F⟩:Mp)⟩:web) a1) 48),.int .i64 ((s75 (⟨(⟨a0_Net_Nodes,(⟨a0_Net_Ties_n,zaa a0_Net_Ties_g⟩:(Sl Tie))⟩:Net),(⟨a0_out_n,a0_out_F⟩:Mp)⟩:web) a1) 49),.int .i64 ((s75 (⟨(⟨a0_Net_Nodes,(⟨a0_Net_Ties_n,zaa a0_Net_Ties_g⟩:(Sl Tie))⟩:Net),(⟨a0_out_n,a0_out_F⟩:Mp)⟩:web) a1) 50),.int .i64 ((s75 (⟨(⟨a0_Net_Nodes,(⟨a0_Net_Ties_n,zaa a0_Net_Ties_g⟩:(Sl Tie))⟩:Net),(⟨a0_out_n,a0_out_F⟩:Mp)⟩:web) a1) 51),.int .i64 ((s75 (⟨(⟨a0_Net_Nodes,(⟨a0_Net_Ties_n,zaa a0_Net_Ties_g⟩:(Sl Tie))⟩:Net),(⟨a0_out_n,a0_out_F⟩:Mp)⟩:web) a1) 52),.int .i64 ((s75 (⟨(⟨a0_Net_Nodes,(⟨a0_Net_Ties_n,zaa a0_Net_Ties_g⟩:(Sl Tie))⟩:Net),(⟨a0_out_n,a0_out_F⟩:Mp)⟩:web) a1) 53),.int .i64 ((s75 (⟨(⟨a0_Net_Nodes,(⟨a0_Net_Ties_n,zaa a0_Net_Ties_g⟩:(Sl Tie))⟩:Net),(⟨a0_out_n,a0_out_F⟩:Mp)⟩:web) a1) 54),.int .i64 ((s75 (⟨(⟨a0_Net_Nodes,(⟨a0_Net_Ties_n,zaa a0_Net_Ties_g⟩:(Sl Tie))⟩:Net),(⟨a0_out_n,a0_out_F⟩:Mp)⟩:web) a1) 55),.int .i64 ((s75 (⟨(⟨a0_Net_Nodes,(⟨a0_Net_Ties_n,zaa a0_Net_Ties_g⟩:(Sl Tie))⟩:Net),(⟨a0_out_n,a0_out_F⟩:Mp)⟩:web) a1) 56),.int .i64 ((s75 (⟨(⟨a0_Net_Nodes,(⟨a0_Net_Ties_n,zaa a0_Net_Ties_g⟩:(Sl Tie))⟩:Net),(⟨a0_out_n,a0_out_F⟩:Mp)⟩:web) a1) 57),.int .i64 ((s75 (⟨(⟨a0_Net_Nodes,(⟨a0_Net_Ties_n,zaa a0_Net_Ties_g⟩:(Sl Tie))⟩:Net),(⟨a0_out_n,a0_out_F⟩:Mp)⟩:web) a1) 58),.int .i64 ((s75 (⟨(⟨a0_Net_Nodes,(⟨a0_Net_Ties_n,zaa a0_Net_Ties_g⟩:(Sl Tie))⟩:Net),(⟨a0_out_n,a0_out_F⟩:Mp)⟩:web) a1) 59),.int .i64 ((s75 (⟨(⟨a0_Net_Nodes,(⟨a0_Net_Ties_n,zaa a0_Net_Ties_g⟩:(Sl Tie))⟩:Net),(⟨a0_out_n,a0_out_F⟩:Mp)⟩:web) a1) 60),.int .i64 ((s75 (⟨(⟨a0_Net_Nodes,(⟨a0_Net_Ties_n,zaa a0_Net_Ties_g⟩:(Sl Tie))⟩:Net),(⟨a0_out_n,a0_out_F⟩:Mp)⟩:web) a1) 61),.int .i64 ((s75 (⟨(⟨a0_Net_Nodes,(⟨a0_Net_Ties_n,zaa a0_Net_Ties_g⟩:(Sl Tie))⟩:Net),(⟨a0_out_n,a0_out_F⟩:Mp)⟩:web) a1) 62),.int .i64 ((s75 (⟨(⟨a0_Net_Nodes,(⟨a0_Net_Ties_n,zaa a0_Net_Ties_g⟩:(Sl Tie))⟩:Net),(⟨a0_out_n,a0_out_F⟩:Mp)⟩:web) a1) 63),.int .i64 ((s75 (⟨(⟨a0_Net_Nodes,(⟨a0_Net_Ties_n,zaa a0_Net_Ties_g⟩:(Sl Tie))⟩:Net),(⟨a0_out_n,a0_out_F⟩:Mp)⟩:web) a1) 64),.int .i64 ((s75 (⟨(⟨a0_Net_Nodes,(⟨a0_Net_Ties_n,zaa a0_Net_Ties_g⟩:(Sl Tie))⟩:Net),(⟨a0_out_n,a0_out_F⟩:Mp)⟩:web) a1) 65),.int .i64 ((s75 (⟨(⟨a0_Net_Nodes,(⟨a0_Net_Ties_n,zaa a0_Net_Ties_g⟩:(Sl Tie))⟩:Net),(⟨a0_out_n,a0_out_F⟩:Mp)⟩:web) a1) 66),.int .i64 ((s75 (⟨(⟨a0_Net_Nodes,(⟨a0_Net_Ties_n,zaa a0_Net_Ties_g⟩:(Sl Tie))⟩:Net),(⟨a0_out_n,a0_out_F⟩:Mp)⟩:web) a1) 67),.int .i64 ((s75 (⟨(⟨a0_Net_Nodes,(⟨a0_Net_Ties_n,zaa a0_Net_Ties_g⟩:(Sl Tie))⟩:Net),(⟨a0_out_n,a0_out_F⟩:Mp)⟩:web) a1) 68),.int .i64 ((s75 (⟨(⟨a0_Net_Nodes,(⟨a0_Net_Ties_n,zaa a0_Net_Ties_g⟩:(Sl Tie))⟩:Net),(⟨a0_out_n,a0_out_F⟩:Mp)⟩:web) a1) 69),.int .i64 ((s75 (⟨(⟨a0_Net_Nodes,(⟨a0_Net_Ties_n,zaa a0_Net_Ties_g⟩:(Sl Tie))⟩:Net),(⟨a0_out_n,a0_out_F⟩:Mp)⟩:web) a1) 70),.int .i64 ((s75 (⟨(⟨a0_Net_Nodes,(⟨a0_Net_Ties_n,zaa a0_Net_Ties_g⟩:(Sl Tie))⟩:Net),(⟨a0_out_n,a0_out_F⟩:Mp)⟩:web) a1) 71),.int .i64 ((s75 (⟨(⟨a0_Net_Nodes,(⟨a0_Net_Ties_n,zaa a0_Net_Ties_g⟩:(Sl Tie))⟩:Net),(⟨a0_out_n,a0_out_F⟩:Mp)⟩:web) a1) 72),.int .i64 ((s75 (⟨(⟨a0_Net_Nodes,(⟨a0_Net_Ties_n,zaa a0_Net_Ties_g⟩:(Sl Tie))⟩:Net),(⟨a0_out_n,a0_out_F⟩:Mp)⟩:web) a1) 73),.int .i64 ((s75 (⟨(⟨a0_Net_Nodes,(⟨a0_Net_Ties_n,zaa a0_Net_Ties_g⟩:(Sl Tie))⟩:Net),(⟨a0_out_n,a0_out_F⟩:Mp)⟩:web) a1) 74),.int .i64 ((s75 (⟨(⟨a0_Net_Nodes,(⟨a0_Net_Ties_n,zaa a0_Net_Ties_g⟩:(Sl Tie))⟩:Net),(⟨a0_out_n,a0_out_F⟩:Mp)⟩:web) a1) 75),.int .i64 ((s75 (⟨(⟨a0_Net_Nodes,(⟨a0_Net_Ties_n,zaa a0_Net_Ties_g⟩:(Sl Tie))⟩:Net),(⟨a0_out_n,a0_out_F⟩:Mp)⟩:web) a1) 76),.int .i64 ((s75 (⟨(⟨a0_Net_Nodes,(⟨a0_Net_Ties_n,zaa a0_Net_Ties_g⟩:(Sl Tie))⟩:Net),(⟨a0_out_n,a0_out_F⟩:Mp)⟩:web) a1) 77),.int .i64 ((s75 (⟨(⟨a0_Net_Nodes,(⟨a0_Net_Ties_n,zaa a0_Net_Ties_g⟩:(Sl Tie))⟩:Net),(⟨a0_out_n,a0_out_F⟩:Mp)⟩:web) a1) 78),.int .i64 ((s75 (⟨(⟨a0_Net_Nodes,(⟨a0_Net_Ties_n,zaa a0_Net_Ties_g⟩:(Sl Tie))⟩:Net),(⟨a0_out_n,a0_out_F⟩:Mp)⟩:web) a1) 79)]]
  | _=>.no
theorem zFd:zan Tryd.prog 75:=⟨_,rfl,rfl,by kernel_rfl⟩
theorem zG1:Ok Tryd.prog 75 zv9:=zbr zG0 zFd fun args K h=>by
  unfold zv9 at h
  split at h
  · rename_i a0_Net_Nodes a0_Net_Ties_n a0_Net_Ties_s a0_Net_Ties_g a0_out_q a0_out_n a0_out_F a1
    obtain ⟨⟨⟨rfl,a0_Net_Ties_f,rfl⟩,rfl,hs⟩,hk⟩:=h
    try rw [zaj a0_Net_Ties_f] at hs
    try rw [zaj a0_Net_Ties_f] at hk
    exact ⟨(fun _ _=>[]),(fun _=>false),zcb,q75 (⟨(⟨a0_Net_Nodes,(⟨a0_Net_Ties_n,a0_Net_Ties_f⟩:(Sl Tie))⟩:Net),(⟨a0_out_n,a0_out_F⟩:Mp)⟩:web) a1 K hs hk⟩
  · exact h.elim
abbrev T76:Tabs:=(((Tabs.nil.addF 93 zm3).addF 104 zm9).addI 110 zm5)
theorem zG2:TabsOk Tryd.prog T76:=(((TabsOk.nil.addF zDF).addF zA5).addI zsq)
abbrev G76:Ctrs:=csm T76 (fun _ _=>[]) (fun _=>false)
def zcc:Ann:=⟨66,[(0,⟨[0,1,4],[4],[],[],[],[],[]⟩),(1,⟨[0,1,4,5],[4,5],[],[],[],[],[]⟩),(2,⟨[0,1,4,5,10],[4,5],[],[],[],[],[]⟩),(3,⟨[0,1,4,5,10,11],[4,5],[],[],[],[],[]⟩),(4,⟨[0,1,4,5,6,10],[4,5],[],[],[],[],[]⟩),(5,⟨[0,1,4,5,10],[4,5],[],[],[],[],[]⟩),(6,⟨[0,1,4,5,10],[4,5],[],[],[],[],[]⟩),(7,⟨[0,4,5],[4,5],[],[],[],[],[]⟩),(8,⟨[0,4,5,7],[4,5,7],[],[],[],[],[]⟩),(9,⟨[0,4,5,7,20],[4,5,7],[],[],[],[],[]⟩),(10,⟨[0,4,5,7],[4,5,7],[],[],[],[],[]⟩),(11,⟨[0,4,5,7,22],[4,5,7],[],[],[],[],[]⟩),(12,⟨[0,4,5,7,8,22],[4,5,7,8],[],[],[],[],[]⟩),(13,⟨[0,4,5,7,8,22,29],[4,5,7,8],[],[],[],[],[]⟩),(14,⟨[0,4,5,7,8,9,22],[4,5,7,8,9],[],[],[],[],[]⟩),(15,⟨[0,4,5,7,8,9,22],[4,5,7,8,9],[],[],[],[],[]⟩),(16,⟨[0,4,5,7,22],[4,5,7],[],[],[],[],[]⟩),(17,⟨[0,4,5,64],[4,5],[],[],[],[],[]⟩),(18,⟨[0,4,5,7],[4,5,7],[],[],[],[],[]⟩),(19,⟨[4],[4],[],[],[],[],[]⟩)],
 [(3,⟨[0,1,4,5,10],[4,5],[],[],[],[],[]⟩),(9,⟨[0,4,5,7],[4,5,7],[],[],[],[],[]⟩),(12,⟨[0,4,5,7,22],[4,5,7],[],[],[],[],[]⟩)],
 [(7,⟨[0,1,4,5],[4,5],[],[],[],[],[]⟩)],
 [],[]⟩
def zjE (w:web) (node:Int) (zaA:Int) (t4t0:Tab) (dt0:Tab):St:=⟨[(0,.one (.c (.p (.fp (zat w) 0)))),(1,.one (.c (.p (.int .i64 node)))),(4,.one (.c (.ptr 4 0))),(5,.one (.c (.ptr 5 0))),(10,.one (.c (.p (.int .i64 zaA))))],[(4,.box 116 (zm (zad t4t0))),(5,.box 116 (zm (zad dt0)))],[]⟩
def zjF (K:List PA→Prop) (w:web) (node:Int) (zaA:Int) (t4t0:Tab) (dt0:Tab):Prop:=vc Tryd.prog G76 zcc (cdF Tryd.f76 [1,1,0,1,0]) (zai 0 (sqK Tryd.prog G76 zcc (cdF Tryd.f76 [1,1,1]) (za8 Tryd.prog Tryd.f76 K))) (zjE w node zaA t4t0 dt0)
def zFe (w:web) (node:Int) (t4t1:Tab) (dt1:Tab):St:=⟨[(0,.one (.c (.p (.fp (zat w) 0)))),(1,.one (.c (.p (.int .i64 node)))),(4,.one (.c (.ptr 4 0))),(5,.one (.c (.ptr 5 0)))],[(4,.box 116 (zm (zad t4t1))),(5,.box 116 (zm (zad dt1)))],[]⟩
def zlV (K:List PA→Prop) (w:web) (node:Int) (t4t1:Tab) (dt1:Tab):Prop:=vc Tryd.prog G76 zcc (cdF Tryd.f76 [1,1,1]) (za8 Tryd.prog Tryd.f76 K) (zFe w node t4t1 dt1)
def zhy (w:web) (zah:Bool) (t4t2:Tab) (dt2:Tab):St:=⟨[(0,.one (.c (.p (.fp (zat w) 0)))),(4,.one (.c (.ptr 4 0))),(5,.one (.c (.ptr 5 0))),(7,.one (.c (.ptr 7 0)))],[(4,.box 116 (zm (zad t4t2))),(5,.box 116 (zm (zad dt2))),(7,.box 4 [.p (.bool zah)])],[]⟩
def zjG (K:List PA→Prop) (w:web) (zah:Bool) (t4t2:Tab) (dt2:Tab):Prop:=vc Tryd.prog G76 zcc (cdF Tryd.f76 [1,1,1,1,0,1,0]) (zai 2 (sqK Tryd.prog G76 zcc (cdF Tryd.f76 [1,1,1,1,1]) (za8 Tryd.prog Tryd.f76 K))) (zhy w zah t4t2 dt2)
def ze4 (w:web) (zac:Bool) (t4t3:Tab) (dt3:Tab):St:=⟨[(0,.one (.c (.p (.fp (zat w) 0)))),(4,.one (.c (.ptr 4 0))),(5,.one (.c (.ptr 5 0))),(7,.one (.c (.ptr 7 0))),(22,.one (.c (.p (.fn 110 [] [.fp [.fp (zat w) 0] 0]))))],[(4,.box 116 (zm (zad t4t3))),(5,.box 116 (zm (zad dt3))),(7,.box 4 [.p (.bool zac)])],[]⟩
def zjH (K:List PA→Prop) (X2:St→Prop) (w:web) (zac:Bool) (t4t3:Tab) (dt3:Tab):Prop:=vc Tryd.prog G76 zcc (cdF Tryd.f76 [1,1,1,1,0,1,0,0,1,0,0,1,1,0]) (zai 4 (zai 3 (sqK Tryd.prog G76 zcc (cdF Tryd.f76 [1,1,1,1,0,1,0,0,1,1]) (zba Tryd.prog zcc 9 X2 (zai 2 (sqK Tryd.prog G76 zcc (cdF Tryd.f76 [1,1,1,1,1]) (za8 Tryd.prog Tryd.f76 K))))))) (ze4 w zac t4t3 dt3)
theorem zB0 (w : web) (node : Int) (K : List PA → Prop) :
  vcFun Tryd.prog G76 zcc 76 [.one (.fp (zat w) 0),.one (.int .i64 node)] K =
  (zjF K w node (0:Int) (fun _=>(0:Int)) (fun _=>(0:Int))):=by kernel_rfl
def znB (K:List PA→Prop) (X0:St→Prop) (w:web) (node:Int) (zaA:Int) (t4t0:Tab) (dt0:Tab):Prop :=
  (zbA (decide (zaA < (40:Int)))
 (((0≤zaA∧zaA < (40:Int))) ∧
 (X0 (zjE w node (w64 (zaA+(1:Int))) t4t0 (ts 80 dt0 (0+zaA.toNat * 2+0) [(1000000000000:Int),(0:Int)]))))
 (zlV K w node t4t0 dt0))
theorem zpw (K : List PA → Prop) (X0 : St → Prop) (w : web) (node : Int) (zaA : Int) (t4t0 : Tab) (dt0 : Tab) :
  vc Tryd.prog G76 zcc (cd (cdF Tryd.f76 [1,1,0,1,0]) [0]) (zba Tryd.prog zcc 3 X0 (zai 0 (sqK Tryd.prog G76 zcc (cdF Tryd.f76 [1,1,1]) (za8 Tryd.prog Tryd.f76 K)))) (zjE w node zaA t4t0 dt0) =
  znB K X0 w node zaA t4t0 dt0:=by kernel_rfl
theorem zwa (K : List PA → Prop) (w : web) (node : Int) (zaA : Int) (t4t0 : Tab) (dt0 : Tab)
  (h:∀ X0:St→Prop,(∀ (zaA:Int) (t4t0:Tab) (dt0:Tab),znB K X0 w node zaA t4t0 dt0→X0 (zjE w node zaA t4t0 dt0))→X0 (zjE w node zaA t4t0 dt0)) :
  zjF K w node zaA t4t0 dt0:=by
  have e:zjF K w node zaA t4t0 dt0=(∀ X:St→Prop,(∀ s,vc Tryd.prog G76 zcc (cd (cdF Tryd.f76 [1,1,0,1,0]) [0]) (zba Tryd.prog zcc 3 X (zai 0 (sqK Tryd.prog G76 zcc (cdF Tryd.f76 [1,1,1]) (za8 Tryd.prog Tryd.f76 K)))) s→X s)→X (zjE w node zaA t4t0 dt0)):=by kernel_rfl
  refine za9 e ?_
  intro X hX
  refine h X ?_
  intro zaA t4t0 dt0 hs
  refine hX _ ?_
  have e2:=zpw K X w node zaA t4t0 dt0
  rw [e2]
  exact hs
theorem zB1 (K : List PA → Prop) (w : web) (node : Int) (t4t1 : Tab) (dt1 : Tab) :
  zlV K w node t4t1 dt1 =
  (((0≤node∧node < (40:Int))) ∧
 (zjG K w true t4t1 (ts 80 dt1 (0+node.toNat * 2+0) [(0:Int),(0:Int)]))):=by kernel_rfl
def znC (K:List PA→Prop) (X2:St→Prop) (w:web) (zah:Bool) (t4t2:Tab) (dt2:Tab):Prop :=
  (zbA zah
 ((IsE enc_40 4 4 (fun i=>enc_40 (w.Net.Ties.get i))∧((false,1,false,[none]):MQ)=(false,1,false,[none])) ∧
 (zjH K X2 w false t4t2 dt2))
 (K [.agg [.int .i64 (dt2 0),.int .i64 (dt2 1),.int .i64 (dt2 2),.int .i64 (dt2 3),.int .i64 (dt2 4),.int .i64 (dt2 5),.int .i64 (dt2 6),.int .i64 (dt2 7),.int .i64 (dt2 8),.int .i64 (dt2 9),.int .i64 (dt2 10),.int .i64 (dt2 11),.int .i64 (dt2 12),.int .i64 (dt2 13),.int .i64 (dt2 14),.int .i64 (dt2 15),.int .i64 (dt2 16),.int .i64 (dt2 17),.int .i64 (dt2 18),.int .i64 (dt2 19),.int .i64 (dt2 20),.int .i64 (dt2 21),.int .i64 (dt2 22),.int .i64 (dt2 23),.int .i64 (dt2 24),.int .i64 (dt2 25),.int .i64 (dt2 26),.int .i64 (dt2 27),.int .i64 (dt2 28),.int .i64 (dt2 29),.int .i64 (dt2 30),.int .i64 (dt2 31),.int .i64 (dt2 32),.int .i64 (dt2 33),.int .i64 (dt2 34),.int .i64 (dt2 35),.int .i64 (dt2 36),.int .i64 (dt2 37),.int .i64 (dt2 38),.int .i64 (dt2 39),.int .i64 (dt2 40),.int .i64 (dt2 41),.int .i64 (dt2 42),.int .i64 (dt2 43),.int .i64 (dt2 44),.int .i64 (dt2 45),.int .i64 (dt2 46),.int .i64 (dt2 47),.int .i64 (dt2 48),.int .i64 (dt2 49),.int .i64 (dt2 50),.int .i64 (dt2 51),.int .i64 (dt2 52),.int .i64 (dt2 53),.int .i64 (dt2 54),.int .i64 (dt2 55),.int .i64 (dt2 56),.int .i64 (dt2 57),.int .i64 (dt2 58),.int .i64 (dt2 59),.int .i64 (dt2 60),.int .i64 (dt2 61),.int .i64 (dt2 62),.int .i64 (dt2 63),.int .i64 (dt2 64),.int .i64 (dt2 65),.int .i64 (dt2 66),.int .i64 (dt2 67),.int .i64 (dt2 68),.int .i64 (dt2 69),.int .i64 (dt2 70),.int .i64 (dt2 71),.int .i64 (dt2 72),.int .i64 (dt2 73),.int .i64 (dt2 74),.int .i64 (dt2 75),.int .i64 (dt2 76),.int .i64 (dt2 77),.int .i64 (dt2 78),.int .i64 (dt2 79)]]))
theorem zpx (K : List PA → Prop) (X2 : St → Prop) (w : web) (zah : Bool) (t4t2 : Tab) (dt2 : Tab) :
  vc Tryd.prog G76 zcc (cd (cdF Tryd.f76 [1,1,1,1,0,1,0]) [0]) (zba Tryd.prog zcc 9 X2 (zai 2 (sqK Tryd.prog G76 zcc (cdF Tryd.f76 [1,1,1,1,1]) (za8 Tryd.prog Tryd.f76 K)))) (zhy w zah t4t2 dt2) =
  znC K X2 w zah t4t2 dt2:=by kernel_rfl
theorem zwb (K : List PA → Prop) (w : web) (zah : Bool) (t4t2 : Tab) (dt2 : Tab)
  (h:∀ X2:St→Prop,(∀ (zah:Bool) (t4t2:Tab) (dt2:Tab),znC K X2 w zah t4t2 dt2→X2 (zhy w zah t4t2 dt2))→X2 (zhy w zah t4t2 dt2)) :
  zjG K w zah t4t2 dt2:=by
  have e:zjG K w zah t4t2 dt2=(∀ X:St→Prop,(∀ s,vc Tryd.prog G76 zcc (cd (cdF Tryd.f76 [1,1,1,1,0,1,0]) [0]) (zba Tryd.prog zcc 9 X (zai 2 (sqK Tryd.prog G76 zcc (cdF Tryd.f76 [1,1,1,1,1]) (za8 Tryd.prog Tryd.f76 K)))) s→X s)→X (zhy w zah t4t2 dt2)):=by kernel_rfl
  refine za9 e ?_
  intro X hX
  refine h X ?_
  intro zah t4t2 dt2 hs
  refine hX _ ?_
  have e2:=zpx K X w zah t4t2 dt2
  rw [e2]
  exact hs
def znD (K:List PA→Prop) (X2:St→Prop) (w:web) (zac:Bool) (t4t3:Tab) (dt3:Tab):Prop :=
  (X2 (zhy w zac t4t3 dt3))
def znE (K:List PA→Prop) (X2:St→Prop) (X3:List (List PA)→St→Prop) (y3:step) (rest3:List (List PA)) (w:web) (zac:Bool) (t4t3:Tab) (dt3:Tab):Prop :=
  (((0≤y3.from_∧y3.from_ < (40:Int))) ∧
 (zbA (match ((tg 80 dt3 (0 + y3.from_.toNat * 2 + 0)) == (1000000000000:Int)) with | true => (match ((tg 80 dt3 (0 + y3.from_.toNat * 2 + 0 + 1)) == (0:Int)) with | true => true | false => false) | false => false)
 (X3 rest3 (ze4 w zac t4t3 dt3))
 (((0≤y3.to∧y3.to < (40:Int))) ∧
 (((0≤y3.from_∧y3.from_ < (40:Int))) ∧
 (((0≤y3.from_∧y3.from_ < (40:Int))) ∧
 ((IsE zb8 2 2 (fun _=>(zb8 (⟨(w64 ((tg 80 dt3 (0+y3.from_.toNat * 2+0))+y3.length)),(w64 ((tg 80 dt3 (0+y3.from_.toNat * 2+1))+(1:Int)))⟩:far)))∧(zzE (⟨(tg 80 dt3 (0+y3.to.toNat * 2+0)),(tg 80 dt3 (0+y3.to.toNat * 2+0+1))⟩:far) (⟨1,fun _=>(⟨(w64 ((tg 80 dt3 (0+y3.from_.toNat * 2+0))+y3.length)),(w64 ((tg 80 dt3 (0+y3.from_.toNat * 2+1))+(1:Int)))⟩:far)⟩:(Sl far))=true)) ∧
 (zbA zac
 (((0≤y3.to∧y3.to < (40:Int))) ∧
 (X3 rest3 (ze4 w true t4t3 (ts 80 dt3 (0+y3.to.toNat * 2+0) [(zcw (⟨(tg 80 dt3 (0+y3.to.toNat * 2+0)),(tg 80 dt3 (0+y3.to.toNat * 2+0+1))⟩:far) (⟨1,fun _=>(⟨(w64 ((tg 80 dt3 (0+y3.from_.toNat * 2+0))+y3.length)),(w64 ((tg 80 dt3 (0+y3.from_.toNat * 2+1))+(1:Int)))⟩:far)⟩:(Sl far))).length,(zcw (⟨(tg 80 dt3 (0+y3.to.toNat * 2+0)),(tg 80 dt3 (0+y3.to.toNat * 2+0+1))⟩:far) (⟨1,fun _=>(⟨(w64 ((tg 80 dt3 (0+y3.from_.toNat * 2+0))+y3.length)),(w64 ((tg 80 dt3 (0+y3.from_.toNat * 2+1))+(1:Int)))⟩:far)⟩:(Sl far))).uses]))))
 (((0≤y3.to∧y3.to < (40:Int))) ∧
 (((0≤y3.to∧y3.to < (40:Int))) ∧
 (X3 rest3 (ze4 w (!(match ((zcw (⟨(tg 80 dt3 (0+y3.to.toNat * 2+0)),(tg 80 dt3 (0+y3.to.toNat * 2+0+1))⟩:far) (⟨1,fun _=>(⟨(w64 ((tg 80 dt3 (0+y3.from_.toNat * 2+0))+y3.length)),(w64 ((tg 80 dt3 (0+y3.from_.toNat * 2+1))+(1:Int)))⟩:far)⟩:(Sl far))).length == (tg 80 dt3 (0+y3.to.toNat * 2+0))) with | true=>(match ((zcw (⟨(tg 80 dt3 (0+y3.to.toNat * 2+0)),(tg 80 dt3 (0+y3.to.toNat * 2+0+1))⟩:far) (⟨1,fun _=>(⟨(w64 ((tg 80 dt3 (0+y3.from_.toNat * 2+0))+y3.length)),(w64 ((tg 80 dt3 (0+y3.from_.toNat * 2+1))+(1:Int)))⟩:far)⟩:(Sl far))).uses == (tg 80 dt3 (0+y3.to.toNat * 2+0+1))) with | true=>true | false=>false) | false=>false)) t4t3 (ts 80 dt3 (0+y3.to.toNat * 2+0) [(zcw (⟨(tg 80 dt3 (0+y3.to.toNat * 2+0)),(tg 80 dt3 (0+y3.to.toNat * 2+0+1))⟩:far) (⟨1,fun _=>(⟨(w64 ((tg 80 dt3 (0+y3.from_.toNat * 2+0))+y3.length)),(w64 ((tg 80 dt3 (0+y3.from_.toNat * 2+1))+(1:Int)))⟩:far)⟩:(Sl far))).length,(zcw (⟨(tg 80 dt3 (0+y3.to.toNat * 2+0)),(tg 80 dt3 (0+y3.to.toNat * 2+0+1))⟩:far) (⟨1,fun _=>(⟨(w64 ((tg 80 dt3 (0+y3.from_.toNat * 2+0))+y3.length)),(w64 ((tg 80 dt3 (0+y3.from_.toNat * 2+1))+(1:Int)))⟩:far)⟩:(Sl far))).uses]))))))))))))
theorem zpy (K:List PA→Prop) (X2:St→Prop) (w:web) (zac:Bool) (t4t3:Tab) (dt3:Tab):(zai 4 (zai 3 (sqK Tryd.prog G76 zcc (cdF Tryd.f76 [1,1,1,1,0,1,0,0,1,1]) (zba Tryd.prog zcc 9 X2 (zai 2 (sqK Tryd.prog G76 zcc (cdF Tryd.f76 [1,1,1,1,1]) (za8 Tryd.prog Tryd.f76 K))))))) .normal (ze4 w zac t4t3 dt3)=znD K X2 w zac t4t3 dt3:=by kernel_rfl
theorem zpz (K : List PA → Prop) (X2 : St → Prop) (X3 : List (List PA) → St → Prop) (y3 : step) (rest3 : List (List PA)) (w : web) (zac : Bool) (t4t3 : Tab) (dt3 : Tab) :
  zsD Tryd.prog G76 zcc 12 [23] (cd (cdF Tryd.f76 [1,1,1,1,0,1,0,0,1,0,0,1,1,0]) [0]) (cd (cdF Tryd.f76 [1,1,1,1,0,1,0,0,1,0,0,1,1,0]) [1]) X3 (zai 4 (zai 3 (sqK Tryd.prog G76 zcc (cdF Tryd.f76 [1,1,1,1,0,1,0,0,1,1]) (zba Tryd.prog zcc 9 X2 (zai 2 (sqK Tryd.prog G76 zcc (cdF Tryd.f76 [1,1,1,1,1]) (za8 Tryd.prog Tryd.f76 K))))))) [.agg (zae y3)] rest3 (ze4 w zac t4t3 dt3)=znE K X2 X3 y3 rest3 w zac t4t3 dt3:=by kernel_rfl
theorem zwc (K : List PA → Prop) (X2 : St → Prop) (w : web) (zac : Bool) (t4t3 : Tab) (dt3 : Tab)
  (hsafe:IsE enc_40 4 4 (fun i=>enc_40 (w.Net.Ties.get i))∧((false,1,false,[none]):MQ)=(false,1,false,[none])∧(zj1 w=true)) (h:∀ X3:List (List PA)→St→Prop,(∀ (zac:Bool) (t4t3:Tab) (dt3:Tab),znD K X2 w zac t4t3 dt3→X3 [] (ze4 w zac t4t3 dt3))→(∀ (y:step) (rest:List (List PA)) (zac:Bool) (t4t3:Tab) (dt3:Tab),znE K X2 X3 y rest w zac t4t3 dt3→X3 ([.agg (zae y)] :: rest) (ze4 w zac t4t3 dt3))→X3 ((zgP w).map fun y=>[.agg (zae y)]) (ze4 w zac t4t3 dt3)) :
  zjH K X2 w zac t4t3 dt3:=by
  have e:zjH K X2 w zac t4t3 dt3=((IsE enc_40 4 4 (fun i=>enc_40 (w.Net.Ties.get i))∧((false,1,false,[none]):MQ)=(false,1,false,[none])∧(zj1 w=true))∧∀ X:List (List PA)→St→Prop,(∀ s,(zai 4 (zai 3 (sqK Tryd.prog G76 zcc (cdF Tryd.f76 [1,1,1,1,0,1,0,0,1,1]) (zba Tryd.prog zcc 9 X2 (zai 2 (sqK Tryd.prog G76 zcc (cdF Tryd.f76 [1,1,1,1,1]) (za8 Tryd.prog Tryd.f76 K))))))) .normal s→X [] s)→(∀ y rest s,zsD Tryd.prog G76 zcc 12 [23] (cd (cdF Tryd.f76 [1,1,1,1,0,1,0,0,1,0,0,1,1,0]) [0]) (cd (cdF Tryd.f76 [1,1,1,1,0,1,0,0,1,0,0,1,1,0]) [1]) X (zai 4 (zai 3 (sqK Tryd.prog G76 zcc (cdF Tryd.f76 [1,1,1,1,0,1,0,0,1,1]) (zba Tryd.prog zcc 9 X2 (zai 2 (sqK Tryd.prog G76 zcc (cdF Tryd.f76 [1,1,1,1,1]) (za8 Tryd.prog Tryd.f76 K))))))) y rest s→X (y :: rest) s)→X ((zgP w).map fun y=>[.agg (zae y)]) (ze4 w zac t4t3 dt3)):=by kernel_rfl
  refine za9 e ⟨hsafe,?_⟩
  intro X h0 h1
  refine h X (fun zac t4t3 dt3 hs=>h0 _ ?_) (fun y rest zac t4t3 dt3 hs=>h1 _ rest _ ?_)
  · rw [zpy K X2 w zac t4t3 dt3];exact hs
  · have e2 := zpz K X2 X y rest w zac t4t3 dt3
    rw [e2];exact hs
abbrev e76 (r:Tab):List PA:=[.agg [.int .i64 (r 0),.int .i64 (r 1),.int .i64 (r 2),.int .i64 (r 3),.int .i64 (r 4),.int .i64 (r 5),.int .i64 (r 6),.int .i64 (r 7),.int .i64 (r 8),.int .i64 (r 9),.int .i64 (r 10),.int .i64 (r 11),.int .i64 (r 12),.int .i64 (r 13),.int .i64 (r 14),.int .i64 (r 15),.int .i64 (r 16),.int .i64 (r 17),.int .i64 (r 18),.int .i64 (r 19),.int .i64 (r 20),.int .i64 (r 21),.int .i64 (r 22),.int .i64 (r 23),.int .i64 (r 24),.int .i64 (r 25),.int .i64 (r 26),.int .i64 (r 27),.int .i64 (r 28),.int .i64 (r 29),.int .i64 (r 30),.int .i64 (r 31),.int .i64 (r 32),.int .i64 (r 33),.int .i64 (r 34),.int .i64 (r 35),.int .i64 (r 36),.int .i64 (r 37),.int .i64 (r 38),.int .i64 (r 39),.int .i64 (r 40),.int .i64 (r 41),.int .i64 (r 42),.int .i64 (r 43),.int .i64 (r 44),.int .i64 (r 45),.int .i64 (r 46),.int .i64 (r 47),.int .i64 (r 48),.int .i64 (r 49),.int .i64 (r 50),.int .i64 (r 51),.int .i64 (r 52),.int .i64 (r 53),.int .i64 (r 54),.int .i64 (r 55),.int .i64 (r 56),.int .i64 (r 57),.int .i64 (r 58),.int .i64 (r 59),.int .i64 (r 60),.int .i64 (r 61),.int .i64 (r 62),.int .i64 (r 63),.int .i64 (r 64),.int .i64 (r 65),.int .i64 (r 66),.int .i64 (r 67),.int .i64 (r 68),.int .i64 (r 69),.int .i64 (r 70),.int .i64 (r 71),.int .i64 (r 72),.int .i64 (r 73),.int .i64 (r 74),.int .i64 (r 75),.int .i64 (r 76),.int .i64 (r 77),.int .i64 (r 78),.int .i64 (r 79)]]
attribute [irreducible] zjF zlV zjG zjH
def zpA (S2:Bool→Tab→Tab→Tab) (w:web) (zac:Bool) (t4t3:Tab) (dt3:Tab):Tab :=
  (S2 zac t4t3 dt3)
def zpB (P2:Bool→Tab→Tab→Bool) (w:web) (zac:Bool) (t4t3:Tab) (dt3:Tab):Bool :=
  (P2 zac t4t3 dt3)
def zpC (S2:Bool→Tab→Tab→Tab) (w:web) (y3:step) (S3:Bool→Tab→Tab→Tab) (zac:Bool) (t4t3:Tab) (dt3:Tab):Tab :=
  (cond (match ((tg 80 dt3 (0 + y3.from_.toNat * 2 + 0)) == (1000000000000:Int)) with | true => (match ((tg 80 dt3 (0 + y3.from_.toNat * 2 + 0 + 1)) == (0:Int)) with | true => true | false => false) | false => false)
 (S3 zac t4t3 dt3)
 (cond zac
 (S3 true t4t3 (ts 80 dt3 (0+y3.to.toNat * 2+0) [(zcw (⟨(tg 80 dt3 (0+y3.to.toNat * 2+0)),(tg 80 dt3 (0+y3.to.toNat * 2+0+1))⟩:far) (⟨1,fun _=>(⟨(w64 ((tg 80 dt3 (0+y3.from_.toNat * 2+0))+y3.length)),(w64 ((tg 80 dt3 (0+y3.from_.toNat * 2+1))+(1:Int)))⟩:far)⟩:(Sl far))).length,(zcw (⟨(tg 80 dt3 (0+y3.to.toNat * 2+0)),(tg 80 dt3 (0+y3.to.toNat * 2+0+1))⟩:far) (⟨1,fun _=>(⟨(w64 ((tg 80 dt3 (0+y3.from_.toNat * 2+0))+y3.length)),(w64 ((tg 80 dt3 (0+y3.from_.toNat * 2+1))+(1:Int)))⟩:far)⟩:(Sl far))).uses]))
 (S3 (!(match ((zcw (⟨(tg 80 dt3 (0+y3.to.toNat * 2+0)),(tg 80 dt3 (0+y3.to.toNat * 2+0+1))⟩:far) (⟨1,fun _=>(⟨(w64 ((tg 80 dt3 (0+y3.from_.toNat * 2+0))+y3.length)),(w64 ((tg 80 dt3 (0+y3.from_.toNat * 2+1))+(1:Int)))⟩:far)⟩:(Sl far))).length == (tg 80 dt3 (0+y3.to.toNat * 2+0))) with | true=>(match ((zcw (⟨(tg 80 dt3 (0+y3.to.toNat * 2+0)),(tg 80 dt3 (0+y3.to.toNat * 2+0+1))⟩:far) (⟨1,fun _=>(⟨(w64 ((tg 80 dt3 (0+y3.from_.toNat * 2+0))+y3.length)),(w64 ((tg 80 dt3 (0+y3.from_.toNat * 2+1))+(1:Int)))⟩:far)⟩:(Sl far))).uses == (tg 80 dt3 (0+y3.to.toNat * 2+0+1))) with | true=>true | false=>false) | false=>false)) t4t3 (ts 80 dt3 (0+y3.to.toNat * 2+0) [(zcw (⟨(tg 80 dt3 (0+y3.to.toNat * 2+0)),(tg 80 dt3 (0+y3.to.toNat * 2+0+1))⟩:far) (⟨1,fun _=>(⟨(w64 ((tg 80 dt3 (0+y3.from_.toNat * 2+0))+y3.length)),(w64 ((tg 80 dt3 (0+y3.from_.toNat * 2+1))+(1:Int)))⟩:far)⟩:(Sl far))).length,(zcw (⟨(tg 80 dt3 (0+y3.to.toNat * 2+0)),(tg 80 dt3 (0+y3.to.toNat * 2+0+1))⟩:far) (⟨1,fun _=>(⟨(w64 ((tg 80 dt3 (0+y3.from_.toNat * 2+0))+y3.length)),(w64 ((tg 80 dt3 (0+y3.from_.toNat * 2+1))+(1:Int)))⟩:far)⟩:(Sl far))).uses]))))
def zpD (P2:Bool→Tab→Tab→Bool) (w:web) (y3:step) (P3:Bool→Tab→Tab→Bool) (zac:Bool) (t4t3:Tab) (dt3:Tab):Bool :=
  (decide ((0≤y3.from_∧y3.from_ < (40:Int))) &&
 (cond (match ((tg 80 dt3 (0 + y3.from_.toNat * 2 + 0)) == (1000000000000:Int)) with | true => (match ((tg 80 dt3 (0 + y3.from_.toNat * 2 + 0 + 1)) == (0:Int)) with | true => true | false => false) | false => false)
 (P3 zac t4t3 dt3)
 (decide ((0≤y3.to∧y3.to < (40:Int))) &&
 (decide ((0≤y3.from_∧y3.from_ < (40:Int))) &&
 (decide ((0≤y3.from_∧y3.from_ < (40:Int))) &&
 (decide ((zzE (⟨(tg 80 dt3 (0+y3.to.toNat * 2+0)),(tg 80 dt3 (0+y3.to.toNat * 2+0+1))⟩:far) (⟨1,fun _=>(⟨(w64 ((tg 80 dt3 (0+y3.from_.toNat * 2+0))+y3.length)),(w64 ((tg 80 dt3 (0+y3.from_.toNat * 2+1))+(1:Int)))⟩:far)⟩:(Sl far))=true)) &&
 (cond zac
 (decide ((0≤y3.to∧y3.to < (40:Int))) &&
 (P3 true t4t3 (ts 80 dt3 (0+y3.to.toNat * 2+0) [(zcw (⟨(tg 80 dt3 (0+y3.to.toNat * 2+0)),(tg 80 dt3 (0+y3.to.toNat * 2+0+1))⟩:far) (⟨1,fun _=>(⟨(w64 ((tg 80 dt3 (0+y3.from_.toNat * 2+0))+y3.length)),(w64 ((tg 80 dt3 (0+y3.from_.toNat * 2+1))+(1:Int)))⟩:far)⟩:(Sl far))).length,(zcw (⟨(tg 80 dt3 (0+y3.to.toNat * 2+0)),(tg 80 dt3 (0+y3.to.toNat * 2+0+1))⟩:far) (⟨1,fun _=>(⟨(w64 ((tg 80 dt3 (0+y3.from_.toNat * 2+0))+y3.length)),(w64 ((tg 80 dt3 (0+y3.from_.toNat * 2+1))+(1:Int)))⟩:far)⟩:(Sl far))).uses])))
 (decide ((0≤y3.to∧y3.to < (40:Int))) &&
 (decide ((0≤y3.to∧y3.to < (40:Int))) &&
 (P3 (!(match ((zcw (⟨(tg 80 dt3 (0+y3.to.toNat * 2+0)),(tg 80 dt3 (0+y3.to.toNat * 2+0+1))⟩:far) (⟨1,fun _=>(⟨(w64 ((tg 80 dt3 (0+y3.from_.toNat * 2+0))+y3.length)),(w64 ((tg 80 dt3 (0+y3.from_.toNat * 2+1))+(1:Int)))⟩:far)⟩:(Sl far))).length == (tg 80 dt3 (0+y3.to.toNat * 2+0))) with | true=>(match ((zcw (⟨(tg 80 dt3 (0+y3.to.toNat * 2+0)),(tg 80 dt3 (0+y3.to.toNat * 2+0+1))⟩:far) (⟨1,fun _=>(⟨(w64 ((tg 80 dt3 (0+y3.from_.toNat * 2+0))+y3.length)),(w64 ((tg 80 dt3 (0+y3.from_.toNat * 2+1))+(1:Int)))⟩:far)⟩:(Sl far))).uses == (tg 80 dt3 (0+y3.to.toNat * 2+0+1))) with | true=>true | false=>false) | false=>false)) t4t3 (ts 80 dt3 (0+y3.to.toNat * 2+0) [(zcw (⟨(tg 80 dt3 (0+y3.to.toNat * 2+0)),(tg 80 dt3 (0+y3.to.toNat * 2+0+1))⟩:far) (⟨1,fun _=>(⟨(w64 ((tg 80 dt3 (0+y3.from_.toNat * 2+0))+y3.length)),(w64 ((tg 80 dt3 (0+y3.from_.toNat * 2+1))+(1:Int)))⟩:far)⟩:(Sl far))).length,(zcw (⟨(tg 80 dt3 (0+y3.to.toNat * 2+0)),(tg 80 dt3 (0+y3.to.toNat * 2+0+1))⟩:far) (⟨1,fun _=>(⟨(w64 ((tg 80 dt3 (0+y3.from_.toNat * 2+0))+y3.length)),(w64 ((tg 80 dt3 (0+y3.from_.toNat * 2+1))+(1:Int)))⟩:far)⟩:(Sl far))).uses])))))))))))
def zjI (S2 : Bool → Tab → Tab → Tab) (w : web) : List step → Bool → Tab → Tab → Tab
  | []=>zpA S2 w
  | y :: r=>zpC S2 w y (zjI S2 w r)
def zjJ (P2 : Bool → Tab → Tab → Bool) (w : web) : List step → Bool → Tab → Tab → Bool
  | []=>zpB P2 w
  | y :: r=>zpD P2 w y (zjJ P2 w r)
def zwd (S2:Bool→Tab→Tab→Tab) (w:web) (zac:Bool) (t4t3:Tab) (dt3:Tab):Tab:=zjI S2 w (zgP w) zac t4t3 dt3
def zpE (P2:Bool→Tab→Tab→Bool) (w:web) (zac:Bool) (t4t3:Tab) (dt3:Tab):Bool:=decide ((zj1 w=true)) && zjJ P2 w (zgP w) zac t4t3 dt3
theorem zB2 (K : List PA → Prop) (w : web)
  (X2:St→Prop) (P2:Bool→Tab→Tab→Bool) (S2:Bool→Tab→Tab→Tab)
  (hX2:∀ (zah:Bool) (t4t2:Tab) (dt2:Tab),P2 zah t4t2 dt2=true→K (e76 (S2 zah t4t2 dt2))→X2 (zhy w zah t4t2 dt2)) (zac:Bool) (t4t3:Tab) (dt3:Tab) (hs:zpE P2 w zac t4t3 dt3=true) (hk:K (e76 (zwd S2 w zac t4t3 dt3))):zjH K X2 w zac t4t3 dt3:=by
  unfold zpE at hs
  rw [Bool.and_eq_true] at hs
  obtain ⟨hsf,hs⟩:=hs
  have hc:=of_decide_eq_true hsf
  refine zwc K X2 w zac t4t3 dt3 ⟨isE,rfl,hc⟩ ?_
  intro X3 hexit hstep
  have key:∀ (l:List step) (zac:Bool) (t4t3:Tab) (dt3:Tab),zjJ P2 w l zac t4t3 dt3=true→K (e76 (zjI S2 w l zac t4t3 dt3))→X3 (l.map fun y=>[.agg (zae y)]) (ze4 w zac t4t3 dt3):=by
    intro l
    induction l with
    | nil =>
      intro zac t4t3 dt3 hs hk
      refine hexit zac t4t3 dt3 ?_
      have hs:zpB P2 w zac t4t3 dt3=true:=hs
      have hk:K (e76 (zpA S2 w zac t4t3 dt3)):=hk
      unfold zpB at hs
      unfold zpA at hk
      exact (hX2 zac t4t3 dt3 hs hk)
    | cons y3 l ih =>
      intro zac t4t3 dt3 hs hk
      refine hstep y3 _ zac t4t3 dt3 ?_
      have hs:zpD P2 w y3 (zjJ P2 w l) zac t4t3 dt3=true:=hs
      have hk:K (e76 (zpC S2 w y3 (zjI S2 w l) zac t4t3 dt3)):=hk
      unfold zpD at hs
      unfold zpC at hk
      generalize zjI S2 w l=S3 at hk ih
      generalize zjJ P2 w l=P3 at hs ih
      have hX3:=ih
      exact (zaX hs fun hc hs => ⟨hc, (zaM (K := fun r => K (e76 r))
 (fun hs hk=>(hX3 zac t4t3 dt3 hs hk))
 (fun hs hk => (zaX hs fun hc hs => ⟨hc, (zaX hs fun hc hs => ⟨hc, (zaX hs fun hc hs => ⟨hc, (zaX hs fun hc hs => ⟨⟨zug, hc⟩, (zaM (K := fun r => K (e76 r))
 (fun hs hk=>(zaX hs fun hc hs=>⟨hc,(hX3 true t4t3 (ts 80 dt3 (0+y3.to.toNat * 2+0) [(zcw (⟨(tg 80 dt3 (0+y3.to.toNat * 2+0)),(tg 80 dt3 (0+y3.to.toNat * 2+0+1))⟩:far) (⟨1,fun _=>(⟨(w64 ((tg 80 dt3 (0+y3.from_.toNat * 2+0))+y3.length)),(w64 ((tg 80 dt3 (0+y3.from_.toNat * 2+1))+(1:Int)))⟩:far)⟩:(Sl far))).length,(zcw (⟨(tg 80 dt3 (0+y3.to.toNat * 2+0)),(tg 80 dt3 (0+y3.to.toNat * 2+0+1))⟩:far) (⟨1,fun _=>(⟨(w64 ((tg 80 dt3 (0+y3.from_.toNat * 2+0))+y3.length)),(w64 ((tg 80 dt3 (0+y3.from_.toNat * 2+1))+(1:Int)))⟩:far)⟩:(Sl far))).uses]) hs hk)⟩))
 (fun hs hk=>(zaX hs fun hc hs=>⟨hc,(zaX hs fun hc hs=>⟨hc,(hX3 (!(match ((zcw (⟨(tg 80 dt3 (0+y3.to.toNat * 2+0)),(tg 80 dt3 (0+y3.to.toNat * 2+0+1))⟩:far) (⟨1,fun _=>(⟨(w64 ((tg 80 dt3 (0+y3.from_.toNat * 2+0))+y3.length)),(w64 ((tg 80 dt3 (0+y3.from_.toNat * 2+1))+(1:Int)))⟩:far)⟩:(Sl far))).length == (tg 80 dt3 (0+y3.to.toNat * 2+0))) with | true=>(match ((zcw (⟨(tg 80 dt3 (0+y3.to.toNat * 2+0)),(tg 80 dt3 (0+y3.to.toNat * 2+0+1))⟩:far) (⟨1,fun _=>(⟨(w64 ((tg 80 dt3 (0+y3.from_.toNat * 2+0))+y3.length)),(w64 ((tg 80 dt3 (0+y3.from_.toNat * 2+1))+(1:Int)))⟩:far)⟩:(Sl far))).uses == (tg 80 dt3 (0+y3.to.toNat * 2+0+1))) with | true=>true | false=>false) | false=>false)) t4t3 (ts 80 dt3 (0+y3.to.toNat * 2+0) [(zcw (⟨(tg 80 dt3 (0+y3.to.toNat * 2+0)),(tg 80 dt3 (0+y3.to.toNat * 2+0+1))⟩:far) (⟨1,fun _=>(⟨(w64 ((tg 80 dt3 (0+y3.from_.toNat * 2+0))+y3.length)),(w64 ((tg 80 dt3 (0+y3.from_.toNat * 2+1))+(1:Int)))⟩:far)⟩:(Sl far))).length,(zcw (⟨(tg 80 dt3 (0+y3.to.toNat * 2+0)),(tg 80 dt3 (0+y3.to.toNat * 2+0+1))⟩:far) (⟨1,fun _=>(⟨(w64 ((tg 80 dt3 (0+y3.from_.toNat * 2+0))+y3.length)),(w64 ((tg 80 dt3 (0+y3.from_.toNat * 2+1))+(1:Int)))⟩:far)⟩:(Sl far))).uses]) hs hk)⟩)⟩)) hs hk)⟩)⟩)⟩)⟩)) hs hk)⟩)
  exact key _ zac t4t3 dt3 hs hk
def zpF (w:web) (S2:Bool→Tab→Tab→Tab) (zah:Bool) (t4t2:Tab) (dt2:Tab):Tab :=
  (cond zah
 (zwd S2 w false t4t2 dt2)
 dt2)
def zpG (w:web) (P2:Bool→Tab→Tab→Bool) (zah:Bool) (t4t2:Tab) (dt2:Tab):Bool :=
  (cond zah
 (zpE P2 w false t4t2 dt2)
 true)
def zjK (w : web) : Nat → Bool → Tab → Tab → Tab
  | 0=>fun _ _ _=>default
  | k+1=>zpF w (zjK w k)
def zjL (w : web) : Nat → Bool → Tab → Tab → Bool
  | 0=>fun _ _ _=>false
  | k+1=>zpG w (zjL w k)
def zwe (w:web) (zah:Bool) (t4t2:Tab) (dt2:Tab):Tab:=zjK w Fuel zah t4t2 dt2
def zwf (w:web) (zah:Bool) (t4t2:Tab) (dt2:Tab):Bool:=zjL w Fuel zah t4t2 dt2
theorem zB3 (K:List PA→Prop) (w:web) (zah:Bool) (t4t2:Tab) (dt2:Tab) (hs:zwf w zah t4t2 dt2=true) (hk:K (e76 (zwe w zah t4t2 dt2))):zjG K w zah t4t2 dt2:=by
  refine zwb K w zah t4t2 dt2 ?_
  intro X2 hstep
  have key:∀ (k:Nat) (zah:Bool) (t4t2:Tab) (dt2:Tab),zjL w k zah t4t2 dt2=true→K (e76 (zjK w k zah t4t2 dt2))→X2 (zhy w zah t4t2 dt2):=by
    intro k
    induction k with
    | zero=>intro zah t4t2 dt2 hs;exact absurd hs Bool.false_ne_true
    | succ k ih =>
      intro zah t4t2 dt2 hs hk
      refine hstep zah t4t2 dt2 ?_
      have hs:zpG w (zjL w k) zah t4t2 dt2=true:=hs
      have hk:K (e76 (zpF w (zjK w k) zah t4t2 dt2)):=hk
      unfold zpG at hs
      unfold zpF at hk
      generalize zjK w k=S2 at hk ih
      generalize zjL w k=P2 at hs ih
      have hX2:=ih
      exact (zaM (K := fun r => K (e76 r))
 (fun hs hk=>⟨⟨isE,rfl⟩,(zB2 K w X2 P2 S2 hX2 false t4t2 dt2 hs hk)⟩)
 (fun hs hk=>hk) hs hk)
  exact key _ zah t4t2 dt2 hs hk
def zpH (w:web) (node:Int) (t4t1:Tab) (dt1:Tab):Tab :=
  (zwe w true t4t1 (ts 80 dt1 (0+node.toNat * 2+0) [(0:Int),(0:Int)]))
def zpI (w:web) (node:Int) (t4t1:Tab) (dt1:Tab):Bool :=
  (decide ((0≤node∧node < (40:Int))) &&
 (zwf w true t4t1 (ts 80 dt1 (0+node.toNat * 2+0) [(0:Int),(0:Int)])))
theorem zB4 (K:List PA→Prop) (w:web) (node:Int) (t4t1:Tab) (dt1:Tab) (hs:zpI w node t4t1 dt1=true) (hk:K (e76 (zpH w node t4t1 dt1))):zlV K w node t4t1 dt1:=by
  refine za9 (zB1 K w node t4t1 dt1) ?_
  unfold zpI at hs
  unfold zpH at hk
  exact (zaX hs fun hc hs=>⟨hc,(zB3 K w true t4t1 (ts 80 dt1 (0+node.toNat * 2+0) [(0:Int),(0:Int)]) hs hk)⟩)
def zpJ (w:web) (node:Int) (S0:Int→Tab→Tab→Tab) (zaA:Int) (t4t0:Tab) (dt0:Tab):Tab :=
  (cond (decide (zaA < (40:Int)))
 (S0 (w64 (zaA+(1:Int))) t4t0 (ts 80 dt0 (0+zaA.toNat * 2+0) [(1000000000000:Int),(0:Int)]))
 (zpH w node t4t0 dt0))
def zpK (w:web) (node:Int) (P0:Int→Tab→Tab→Bool) (zaA:Int) (t4t0:Tab) (dt0:Tab):Bool :=
  (cond (decide (zaA < (40:Int)))
 (decide ((0≤zaA∧zaA < (40:Int))) &&
 (P0 (w64 (zaA+(1:Int))) t4t0 (ts 80 dt0 (0+zaA.toNat * 2+0) [(1000000000000:Int),(0:Int)])))
 (zpI w node t4t0 dt0))
def zjM (w : web) (node : Int) : Nat → Int → Tab → Tab → Tab
  | 0=>fun _ _ _=>default
  | k+1=>zpJ w node (zjM w node k)
def zjN (w : web) (node : Int) : Nat → Int → Tab → Tab → Bool
  | 0=>fun _ _ _=>false
  | k+1=>zpK w node (zjN w node k)
def zwg (w:web) (node:Int) (zaA:Int) (t4t0:Tab) (dt0:Tab):Tab:=zjM w node Fuel zaA t4t0 dt0
def zwh (w:web) (node:Int) (zaA:Int) (t4t0:Tab) (dt0:Tab):Bool:=zjN w node Fuel zaA t4t0 dt0
theorem zB5 (K:List PA→Prop) (w:web) (node:Int) (zaA:Int) (t4t0:Tab) (dt0:Tab) (hs:zwh w node zaA t4t0 dt0=true) (hk:K (e76 (zwg w node zaA t4t0 dt0))):zjF K w node zaA t4t0 dt0:=by
  refine zwa K w node zaA t4t0 dt0 ?_
  intro X0 hstep
  have key:∀ (k:Nat) (zaA:Int) (t4t0:Tab) (dt0:Tab),zjN w node k zaA t4t0 dt0=true→K (e76 (zjM w node k zaA t4t0 dt0))→X0 (zjE w node zaA t4t0 dt0):=by
    intro k
    induction k with
    | zero=>intro zaA t4t0 dt0 hs;exact absurd hs Bool.false_ne_true
    | succ k ih =>
      intro zaA t4t0 dt0 hs hk
      refine hstep zaA t4t0 dt0 ?_
      have hs:zpK w node (zjN w node k) zaA t4t0 dt0=true:=hs
      have hk:K (e76 (zpJ w node (zjM w node k) zaA t4t0 dt0)):=hk
      unfold zpK at hs
      unfold zpJ at hk
      generalize zjM w node k=S0 at hk ih
      generalize zjN w node k=P0 at hs ih
      have hX0:=ih
      exact (zaM (K := fun r => K (e76 r))
 (fun hs hk=>(zaX hs fun hc hs=>⟨hc,(hX0 (w64 (zaA+(1:Int))) t4t0 (ts 80 dt0 (0+zaA.toNat * 2+0) [(1000000000000:Int),(0:Int)]) hs hk)⟩))
 (fun hs hk=>(zB4 K w node t4t0 dt0 hs hk)) hs hk)
  exact key _ zaA t4t0 dt0 hs hk
def s76 (w:web) (node:Int):Tab :=
  (zwg w node (0:Int) (fun _=>(0:Int)) (fun _=>(0:Int)))
def p76 (w:web) (node:Int):Bool :=
  (zwh w node (0:Int) (fun _=>(0:Int)) (fun _=>(0:Int)))
theorem q76 (w:web) (node:Int) (K:List PA→Prop) (hs:p76 w node=true) (hk:K (e76 (s76 w node))):vcFun Tryd.prog G76 zcc 76 [.one (.fp (zat w) 0),.one (.int .i64 node)] K:=by
  refine za9 (zB0 w node K) ?_
  unfold p76 at hs
  unfold s76 at hk
  exact (zB5 K w node (0:Int) (fun _=>(0:Int)) (fun _=>(0:Int)) hs hk)
def zwi : List PA → COut
  | [.one (.fp [.int .i64 a0_Net_Nodes,.sl a0_Net_Ties_n a0_Net_Ties_s a0_Net_Ties_g,.fm a0_out_q a0_out_n a0_out_F] 0),.one (.int .i64 a1)]=>.det (IsE enc_40 4 a0_Net_Ties_s a0_Net_Ties_g∧a0_out_q=(false,1,false,[none])∧p76 (⟨(⟨a0_Net_Nodes,(⟨a0_Net_Ties_n,zaa a0_Net_Ties_g⟩:(Sl Tie))⟩:Net),(⟨a0_out_n,a0_out_F⟩:Mp)⟩:web) a1=true) [.agg [.int .i64 ((s76 (⟨(⟨a0_Net_Nodes,(⟨a0_Net_Ties_n,zaa a0_Net_Ties_g⟩:(Sl Tie))⟩:Net),(⟨a0_out_n,a0_out_F⟩:Mp)⟩:web) a1) 0),.int .i64 ((s76 (⟨(⟨a0_Net_Nodes,(⟨a0_Net_Ties_n,zaa a0_Net_Ties_g⟩:(Sl Tie))⟩:Net),(⟨a0_out_n,a0_out_F⟩:Mp)⟩:web) a1) 1),.int .i64 ((s76 (⟨(⟨a0_Net_Nodes,(⟨a0_Net_Ties_n,zaa a0_Net_Ties_g⟩:(Sl Tie))⟩:Net),(⟨a0_out_n,a0_out_F⟩:Mp)⟩:web) a1) 2),.int .i64 ((s76 (⟨(⟨a0_Net_Nodes,(⟨a0_Net_Ties_n,zaa a0_Net_Ties_g⟩:(Sl Tie))⟩:Net),(⟨a0_out_n,a0_out_F⟩:Mp)⟩:web) a1) 3),.int .i64 ((s76 (⟨(⟨a0_Net_Nodes,(⟨a0_Net_Ties_n,zaa a0_Net_Ties_g⟩:(Sl Tie))⟩:Net),(⟨a0_out_n,a0_out_F⟩:Mp)⟩:web) a1) 4),.int .i64 ((s76 (⟨(⟨a0_Net_Nodes,(⟨a0_Net_Ties_n,zaa a0_Net_Ties_g⟩:(Sl Tie))⟩:Net),(⟨a0_out_n,a0_out_F⟩:Mp)⟩:web) a1) 5),.int .i64 ((s76 (⟨(⟨a0_Net_Nodes,(⟨a0_Net_Ties_n,zaa a0_Net_Ties_g⟩:(Sl Tie))⟩:Net),(⟨a0_out_n,a0_out_F⟩:Mp)⟩:web) a1) 6),.int .i64 ((s76 (⟨(⟨a0_Net_Nodes,(⟨a0_Net_Ties_n,zaa a0_Net_Ties_g⟩:(Sl Tie))⟩:Net),(⟨a0_out_n,a0_out_F⟩:Mp)⟩:web) a1) 7),.int .i64 ((s76 (⟨(⟨a0_Net_Nodes,(⟨a0_Net_Ties_n,zaa a0_Net_Ties_g⟩:(Sl Tie))⟩:Net),(⟨a0_out_n,a0_out_F⟩:Mp)⟩:web) a1) 8),.int .i64 ((s76 (⟨(⟨a0_Net_Nodes,(⟨a0_Net_Ties_n,zaa a0_Net_Ties_g⟩:(Sl Tie))⟩:Net),(⟨a0_out_n,a0_out_F⟩:Mp)⟩:web) a1) 9),.int .i64 ((s76 (⟨(⟨a0_Net_Nodes,(⟨a0_Net_Ties_n,zaa a0_Net_Ties_g⟩:(Sl Tie))⟩:Net),(⟨a0_out_n,a0_out_F⟩:Mp)⟩:web) a1) 10),.int .i64 ((s76 (⟨(⟨a0_Net_Nodes,(⟨a0_Net_Ties_n,zaa a0_Net_Ties_g⟩:(Sl Tie))⟩:Net),(⟨a0_out_n,a0_out_F⟩:Mp)⟩:web) a1) 11),.int .i64 ((s76 (⟨(⟨a0_Net_Nodes,(⟨a0_Net_Ties_n,zaa a0_Net_Ties_g⟩:(Sl Tie))⟩:Net),(⟨a0_out_n,a0_out_F⟩:Mp)⟩:web) a1) 12),.int .i64 ((s76 (⟨(⟨a0_Net_Nodes,(⟨a0_Net_Ties_n,zaa a0_Net_Ties_g⟩:(Sl Tie))⟩:Net),(⟨a0_out_n,a0_out_F⟩:Mp)⟩:web) a1) 13),.int .i64 ((s76 (⟨(⟨a0_Net_Nodes,(⟨a0_Net_Ties_n,zaa a0_Net_Ties_g⟩:(Sl Tie))⟩:Net),(⟨a0_out_n,a0_out_F⟩:Mp)⟩:web) a1) 14),.int .i64 ((s76 (⟨(⟨a0_Net_Nodes,(⟨a0_Net_Ties_n,zaa a0_Net_Ties_g⟩:(Sl Tie))⟩:Net),(⟨a0_out_n,a0_out_F⟩:Mp)⟩:web) a1) 15),.int .i64 ((s76 (⟨(⟨a0_Net_Nodes,(⟨a0_Net_Ties_n,zaa a0_Net_Ties_g⟩:(Sl Tie))⟩:Net),(⟨a0_out_n,a0_out_F⟩:Mp)⟩:web) a1) 16),.int .i64 ((s76 (⟨(⟨a0_Net_Nodes,(⟨a0_Net_Ties_n,zaa a0_Net_Ties_g⟩:(Sl Tie))⟩:Net),(⟨a0_out_n,a0_out_F⟩:Mp)⟩:web) a1) 17),.int .i64 ((s76 (⟨(⟨a0_Net_Nodes,(⟨a0_Net_Ties_n,zaa a0_Net_Ties_g⟩:(Sl Tie))⟩:Net),(⟨a0_out_n,a0_out_F⟩:Mp)⟩:web) a1) 18),.int .i64 ((s76 (⟨(⟨a0_Net_Nodes,(⟨a0_Net_Ties_n,zaa a0_Net_Ties_g⟩:(Sl Tie))⟩:Net),(⟨a0_out_n,a0_out_F⟩:Mp)⟩:web) a1) 19),.int .i64 ((s76 (⟨(⟨a0_Net_Nodes,(⟨a0_Net_Ties_n,zaa a0_Net_Ties_g⟩:(Sl Tie))⟩:Net),(⟨a0_out_n,a0_out_F⟩:Mp)⟩:web) a1) 20),.int .i64 ((s76 (⟨(⟨a0_Net_Nodes,(⟨a0_Net_Ties_n,zaa a0_Net_Ties_g⟩:(Sl Tie))⟩:Net),(⟨a0_out_n,a0_out_F⟩:Mp)⟩:web) a1) 21),.int .i64 ((s76 (⟨(⟨a0_Net_Nodes,(⟨a0_Net_Ties_n,zaa a0_Net_Ties_g⟩:(Sl Tie))⟩:Net),(⟨a0_out_n,a0_out_F⟩:Mp)⟩:web) a1) 22),.int .i64 ((s76 (⟨(⟨a0_Net_Nodes,(⟨a0_Net_Ties_n,zaa a0_Net_Ties_g⟩:(Sl Tie))⟩:Net),(⟨a0_out_n,a0_out_F⟩:Mp)⟩:web) a1) 23),.int .i64 ((s76 (⟨(⟨a0_Net_Nodes,(⟨a0_Net_Ties_n,zaa a0_Net_Ties_g⟩:(Sl Tie))⟩:Net),(⟨a0_out_n,a0_out_F⟩:Mp)⟩:web) a1) 24),.int .i64 ((s76 (⟨(⟨a0_Net_Nodes,(⟨a0_Net_Ties_n,zaa a0_Net_Ties_g⟩:(Sl Tie))⟩:Net),(⟨a0_out_n,a0_out_F⟩:Mp)⟩:web) a1) 25),.int .i64 ((s76 (⟨(⟨a0_Net_Nodes,(⟨a0_Net_Ties_n,zaa a0_Net_Ties_g⟩:(Sl Tie))⟩:Net),(⟨a0_out_n,a0_out_F⟩:Mp)⟩:web) a1) 26),.int .i64 ((s76 (⟨(⟨a0_Net_Nodes,(⟨a0_Net_Ties_n,zaa a0_Net_Ties_g⟩:(Sl Tie))⟩:Net),(⟨a0_out_n,a0_out_F⟩:Mp)⟩:web) a1) 27),.int .i64 ((s76 (⟨(⟨a0_Net_Nodes,(⟨a0_Net_Ties_n,zaa a0_Net_Ties_g⟩:(Sl Tie))⟩:Net),(⟨a0_out_n,a0_out_F⟩:Mp)⟩:web) a1) 28),.int .i64 ((s76 (⟨(⟨a0_Net_Nodes,(⟨a0_Net_Ties_n,zaa a0_Net_Ties_g⟩:(Sl Tie))⟩:Net),(⟨a0_out_n,a0_out_F⟩:Mp)⟩:web) a1) 29),.int .i64 ((s76 (⟨(⟨a0_Net_Nodes,(⟨a0_Net_Ties_n,zaa a0_Net_Ties_g⟩:(Sl Tie))⟩:Net),(⟨a0_out_n,a0_out_F⟩:Mp)⟩:web) a1) 30),.int .i64 ((s76 (⟨(⟨a0_Net_Nodes,(⟨a0_Net_Ties_n,zaa a0_Net_Ties_g⟩:(Sl Tie))⟩:Net),(⟨a0_out_n,a0_out_F⟩:Mp)⟩:web) a1) 31),.int .i64 ((s76 (⟨(⟨a0_Net_Nodes,(⟨a0_Net_Ties_n,zaa a0_Net_Ties_g⟩:(Sl Tie))⟩:Net),(⟨a0_out_n,a0_out_F⟩:Mp)⟩:web) a1) 32),.int .i64 ((s76 (⟨(⟨a0_Net_Nodes,(⟨a0_Net_Ties_n,zaa a0_Net_Ties_g⟩:(Sl Tie))⟩:Net),(⟨a0_out_n,a0_out_F⟩:Mp)⟩:web) a1) 33),.int .i64 ((s76 (⟨(⟨a0_Net_Nodes,(⟨a0_Net_Ties_n,zaa a0_Net_Ties_g⟩:(Sl Tie))⟩:Net),(⟨a0_out_n,a0_out_F⟩:Mp)⟩:web) a1) 34),.int .i64 ((s76 (⟨(⟨a0_Net_Nodes,(⟨a0_Net_Ties_n,zaa a0_Net_Ties_g⟩:(Sl Tie))⟩:Net),(⟨a0_out_n,a0_out_F⟩:Mp)⟩:web) a1) 35),.int .i64 ((s76 (⟨(⟨a0_Net_Nodes,(⟨a0_Net_Ties_n,zaa a0_Net_Ties_g⟩:(Sl Tie))⟩:Net),(⟨a0_out_n,a0_out_F⟩:Mp)⟩:web) a1) 36),.int .i64 ((s76 (⟨(⟨a0_Net_Nodes,(⟨a0_Net_Ties_n,zaa a0_Net_Ties_g⟩:(Sl Tie))⟩:Net),(⟨a0_out_n,a0_out_F⟩:Mp)⟩:web) a1) 37),.int .i64 ((s76 (⟨(⟨a0_Net_Nodes,(⟨a0_Net_Ties_n,zaa a0_Net_Ties_g⟩:(Sl Tie))⟩:Net),(⟨a0_out_n,a0_out_F⟩:Mp)⟩:web) a1) 38),.int .i64 ((s76 (⟨(⟨a0_Net_Nodes,(⟨a0_Net_Ties_n,zaa a0_Net_Ties_g⟩:(Sl Tie))⟩:Net),(⟨a0_out_n,a0_out_F⟩:Mp)⟩:web) a1) 39),.int .i64 ((s76 (⟨(⟨a0_Net_Nodes,(⟨a0_Net_Ties_n,zaa a0_Net_Ties_g⟩:(Sl Tie))⟩:Net),(⟨a0_out_n,a0_out_F⟩:Mp)⟩:web) a1) 40),.int .i64 ((s76 (⟨(⟨a0_Net_Nodes,(⟨a0_Net_Ties_n,zaa a0_Net_Ties_g⟩:(Sl Tie))⟩:Net),(⟨a0_out_n,a0_out_F⟩:Mp)⟩:web) a1) 41),.int .i64 ((s76 (⟨(⟨a0_Net_Nodes,(⟨a0_Net_Ties_n,zaa a0_Net_Ties_g⟩:(Sl Tie))⟩:Net),(⟨a0_out_n,a0_out_F⟩:Mp)⟩:web) a1) 42),.int .i64 ((s76 (⟨(⟨a0_Net_Nodes,(⟨a0_Net_Ties_n,zaa a0_Net_Ties_g⟩:(Sl Tie))⟩:Net),(⟨a0_out_n,a0_out_F⟩:Mp)⟩:web) a1) 43),.int .i64 ((s76 (⟨(⟨a0_Net_Nodes,(⟨a0_Net_Ties_n,zaa a0_Net_Ties_g⟩:(Sl Tie))⟩:Net),(⟨a0_out_n,a0_out_F⟩:Mp)⟩:web) a1) 44),.int .i64 ((s76 (⟨(⟨a0_Net_Nodes,(⟨a0_Net_Ties_n,zaa a0_Net_Ties_g⟩:(Sl Tie))⟩:Net),(⟨a0_out_n,a0_out_F⟩:Mp)⟩:web) a1) 45),.int .i64 ((s76 (⟨(⟨a0_Net_Nodes,(⟨a0_Net_Ties_n,zaa a0_Net_Ties_g⟩:(Sl Tie))⟩:Net),(⟨a0_out_n,a0_out_F⟩:Mp)⟩:web) a1) 46),.int .i64 ((s76 (⟨(⟨a0_Net_Nodes,(⟨a0_Net_Ties_n,zaa a0_Net_Ties_g⟩:(Sl Tie))⟩:Net),(⟨a0_out_n,a0_out_F⟩:Mp)⟩:web) a1) 47),.int .i64 ((s76 (⟨(⟨a0_Net_Nodes,(⟨a0_Net_Ties_n,zaa a0_Net_Ties_g⟩:(Sl Tie))⟩:Net),(⟨a0_out_n,a0_out_F⟩:Mp)⟩:web) a1) 48),.int .i64 ((s76 (⟨(⟨a0_Net_Nodes,(⟨a0_Net_Ties_n,zaa a0_Net_Ties_g⟩:(Sl Tie))⟩:Net),(⟨a0_out_n,a0_out_F⟩:Mp)⟩:web) a1) 49),.int .i64 ((s76 (⟨(⟨a0_Net_Nodes,(⟨a0_Net_Ties_n,zaa a0_Net_Ties_g⟩:(Sl Tie))⟩:Net),(⟨a0_out_n,a0_out_F⟩:Mp)⟩:web) a1) 50),.int .i64 ((s76 (⟨(⟨a0_Net_Nodes,(⟨a0_Net_Ties_n,zaa a0_Net_Ties_g⟩:(Sl Tie))⟩:Net),(⟨a0_out_n,a0_out_F⟩:Mp)⟩:web) a1) 51),.int .i64 ((s76 (⟨(⟨a0_Net_Nodes,(⟨a0_Net_Ties_n,zaa a0_Net_Ties_g⟩:(Sl Tie))⟩:Net),(⟨a0_out_n,a0_out_F⟩:Mp)⟩:web) a1) 52),.int .i64 ((s76 (⟨(⟨a0_Net_Nodes,(⟨a0_Net_Ties_n,zaa a0_Net_Ties_g⟩:(Sl Tie))⟩:Net),(⟨a0_out_n,a0_out_F⟩:Mp)⟩:web) a1) 53),.int .i64 ((s76 (⟨(⟨a0_Net_Nodes,(⟨a0_Net_Ties_n,zaa a0_Net_Ties_g⟩:(Sl Tie))⟩:Net),(⟨a0_out_n,a0_out_F⟩:Mp)⟩:web) a1) 54),.int .i64 ((s76 (⟨(⟨a0_Net_Nodes,(⟨a0_Net_Ties_n,zaa a0_Net_Ties_g⟩:(Sl Tie))⟩:Net),(⟨a0_out_n,a0_out_F⟩:Mp)⟩:web) a1) 55),.int .i64 ((s76 (⟨(⟨a0_Net_Nodes,(⟨a0_Net_Ties_n,zaa a0_Net_Ties_g⟩:(Sl Tie))⟩:Net),(⟨a0_out_n,a0_out_F⟩:Mp)⟩:web) a1) 56),.int .i64 ((s76 (⟨(⟨a0_Net_Nodes,(⟨a0_Net_Ties_n,zaa a0_Net_Ties_g⟩:(Sl Tie))⟩:Net),(⟨a0_out_n,a0_out_F⟩:Mp)⟩:web) a1) 57),.int .i64 ((s76 (⟨(⟨a0_Net_Nodes,(⟨a0_Net_Ties_n,zaa a0_Net_Ties_g⟩:(Sl Tie))⟩:Net),(⟨a0_out_n,a0_out_F⟩:Mp)⟩:web) a1) 58),.int .i64 ((s76 (⟨(⟨a0_Net_Nodes,(⟨a0_Net_Ties_n,zaa a0_Net_Ties_g⟩:(Sl Tie))⟩:Net),(⟨a0_out_n,a0_out_F⟩:Mp)⟩:web) a1) 59),.int .i64 ((s76 (⟨(⟨a0_Net_Nodes,(⟨a0_Net_Ties_n,zaa a0_Net_Ties_g⟩:(Sl Tie))⟩:Net),(⟨a0_out_n,a0_out_F⟩:Mp)⟩:web) a1) 60),.int .i64 ((s76 (⟨(⟨a0_Net_Nodes,(⟨a0_Net_Ties_n,zaa a0_Net_Ties_g⟩:(Sl Tie))⟩:Net),(⟨a0_out_n,a0_out_F⟩:Mp)⟩:web) a1) 61),.int .i64 ((s76 (⟨(⟨a0_Net_Nodes,(⟨a0_Net_Ties_n,zaa a0_Net_Ties_g⟩:(Sl Tie))⟩:Net),(⟨a0_out_n,a0_out_F⟩:Mp)⟩:web) a1) 62),.int .i64 ((s76 (⟨(⟨a0_Net_Nodes,(⟨a0_Net_Ties_n,zaa a0_Net_Ties_g⟩:(Sl Tie))⟩:Net),(⟨a0_out_n,a0_out_F⟩:Mp)⟩:web) a1) 63),.int .i64 ((s76 (⟨(⟨a0_Net_Nodes,(⟨a0_Net_Ties_n,zaa a0_Net_Ties_g⟩:(Sl Tie))⟩:Net),(⟨a0_out_n,a0_out_F⟩:Mp)⟩:web) a1) 64),.int .i64 ((s76 (⟨(⟨a0_Net_Nodes,(⟨a0_Net_Ties_n,zaa a0_Net_Ties_g⟩:(Sl Tie))⟩:Net),(⟨a0_out_n,a0_out_F⟩:Mp)⟩:web) a1) 65),.int .i64 ((s76 (⟨(⟨a0_Net_Nodes,(⟨a0_Net_Ties_n,zaa a0_Net_Ties_g⟩:(Sl Tie))⟩:Net),(⟨a0_out_n,a0_out_F⟩:Mp)⟩:web) a1) 66),.int .i64 ((s76 (⟨(⟨a0_Net_Nodes,(⟨a0_Net_Ties_n,zaa a0_Net_Ties_g⟩:(Sl Tie))⟩:Net),(⟨a0_out_n,a0_out_F⟩:Mp)⟩:web) a1) 67),.int .i64 ((s76 (⟨(⟨a0_Net_Nodes,(⟨a0_Net_Ties_n,zaa a0_Net_Ties_g⟩:(Sl Tie))⟩:Net),(⟨a0_out_n,a0_out_F⟩:Mp)⟩:web) a1) 68),.int .i64 ((s76 (⟨(⟨a0_Net_Nodes,(⟨a0_Net_Ties_n,zaa a0_Net_Ties_g⟩:(Sl Tie))⟩:Net),(⟨a0_out_n,a0_out_F⟩:Mp)⟩:web) a1) 69),.int .i64 ((s76 (⟨(⟨a0_Net_Nodes,(⟨a0_Net_Ties_n,zaa a0_Net_Ties_g⟩:(Sl Tie))⟩:Net),(⟨a0_out_n,a0_out_F⟩:Mp)⟩:web) a1) 70),.int .i64 ((s76 (⟨(⟨a0_Net_Nodes,(⟨a0_Net_Ties_n,zaa a0_Net_Ties_g⟩:(Sl Tie))⟩:Net),(⟨a0_out_n,a0_out_F⟩:Mp)⟩:web) a1) 71),.int .i64 ((s76 (⟨(⟨a0_Net_Nodes,(⟨a0_Net_Ties_n,zaa a0_Net_Ties_g⟩:(Sl Tie))⟩:Net),(⟨a0_out_n,a0_out_F⟩:Mp)⟩:web) a1) 72),.int .i64 ((s76 (⟨(⟨a0_Net_Nodes,(⟨a0_Net_Ties_n,zaa a0_Net_Ties_g⟩:(Sl Tie))⟩:Net),(⟨a0_out_n,a0_out_F⟩:Mp)⟩:web) a1) 73),.int .i64 ((s76 (⟨(⟨a0_Net_Nodes,(⟨a0_Net_Ties_n,zaa a0_Net_Ties_g⟩:(Sl Tie))⟩:Net),(⟨a0_out_n,a0_out_F⟩:Mp)⟩:web) a1) 74),.int .i64 ((s76 (⟨(⟨a0_Net_Nodes,(⟨a0_Net_Ties_n,zaa a0_Net_Ties_g⟩:(Sl Tie))⟩:Net),(⟨a0_out_n,a0_out_F⟩:Mp)⟩:web) a1) 75),.int .i64 ((s76 (⟨(⟨a0_Net_Nodes,(⟨a0_Net_Ties_n,zaa a0_Net_Ties_g⟩:(Sl Tie))⟩:Net),(⟨a0_out_n,a0_out_F⟩:Mp)⟩:web) a1) 76),.int .i64 ((s76 (⟨(⟨a0_Net_Nodes,(⟨a0_Net_Ties_n,zaa a0_Net_Ties_g⟩:(Sl Tie))⟩:Net),(⟨a0_out_n,a0_out_F⟩:Mp)⟩:web) a1) 77),.int .i64 ((s76 (⟨(⟨a0_Net_Nodes,(⟨a0_Net_Ties_n,zaa a0_Net_Ties_g⟩:(Sl Tie))⟩:Net),(⟨a0_out_n,a0_out_F⟩:Mp)⟩:web) a1) 78),.int .i64 ((s76 (⟨(⟨a0_Net_Nodes,(⟨a0_Net_Ties_n,zaa a0_Net_Ties_g⟩:(Sl Tie))⟩:Net),(⟨a0_out_n,a0_out_F⟩:Mp)⟩:web) a1) 79)]]
  | _=>.no
theorem zFf:zan Tryd.prog 76:=⟨_,rfl,rfl,by kernel_rfl⟩
theorem zG3:Ok Tryd.prog 76 zwi:=zbr zG2 zFf fun args K h=>by
  unfold zwi at h
  split at h
  · rename_i a0_Net_Nodes a0_Net_Ties_n a0_Net_Ties_s a0_Net_Ties_g a0_out_q a0_out_n a0_out_F a1
    obtain ⟨⟨⟨rfl,a0_Net_Ties_f,rfl⟩,rfl,hs⟩,hk⟩:=h
    try rw [zaj a0_Net_Ties_f] at hs
    try rw [zaj a0_Net_Ties_f] at hk
    exact ⟨(fun _ _=>[]),(fun _=>false),zcc,q76 (⟨(⟨a0_Net_Nodes,(⟨a0_Net_Ties_n,a0_Net_Ties_f⟩:(Sl Tie))⟩:Net),(⟨a0_out_n,a0_out_F⟩:Mp)⟩:web) a1 K hs hk⟩
  · exact h.elim
abbrev T26:Tabs:=(((Tabs.nil.addF 74 zv0).addF 75 zv9).addF 76 zwi)
theorem zG4:TabsOk Tryd.prog T26:=(((TabsOk.nil.addF zGZ).addF zG1).addF zG3)
abbrev G26:Ctrs:=csm T26 (fun _ _=>[]) (fun _=>false)
def zB6:Ann:=⟨45,[(0,zK [1] [1]),(1,zK [1,4,5] [1]),(2,zK [1,4,5,16] [1]),(3,zK [2,3] []),(4,zK [1,6,7] [1,6,7]),(5,zK [6,7,8] [6,7,24]),(6,zK [6,7,8,26,27] [6,7,24]),(7,zK [6,7,8,26,27,28] [6,7,24]),(8,zK [6,7,8,9,26,27] [6,7,24]),(9,zK [6,7,8,26,27] [6,7,24]),(10,zK [6,7,8,26,27] [6,7,24]),(11,zK [2,3] [24])],
 [(7,zK [6,7,8,26,27] [6,7,24])],
 [],
 [],[]⟩
abbrev R26:=((Sl Span)×Int)
abbrev e26 (r:R26):List PA:=[.one (.sl r.1.len 2 (fun i=>zbu (r.1.get i))),.one (.int .i64 r.2)]
@[irreducible] def z26:=ptF Tryd.prog G26 zB6 Tryd.f26
def zzU (n:Net) (zcd:Int) (zcK:(Sl Span)) (tot0:Tab) (fromt0:Tab) (ze5:Nat→List PV):St:=⟨[(6,zp 6 0),(7,zp 7 0),(8,zv 24),(26,zI (n.Nodes.toNat:Int)),(27,zI zcd)],[(6,.box 116 (zm (zad tot0))),(7,.box 116 (zm (zad fromt0))),(24,.vec 43 2 16 zcK.len ze5)],[]⟩
abbrev zFg (K:List PA→Prop) (n:Net) (X:St→Prop) (P:Int→(Sl Span)→Tab→Tab→Bool) (S:Int→(Sl Span)→Tab→Tab→((Sl Span)×Int)):Prop:=∀ ⦃zcd:Int⦄ ⦃zcK:(Sl Span)⦄ ⦃tot0:Tab⦄ ⦃fromt0:Tab⦄ ⦃ze5:Nat→List PV⦄,P zcd zcK tot0 fromt0=true→K (e26 (S zcd zcK tot0 fromt0))→ze5=zg zbu zcK→X (zzU n zcd zcK tot0 fromt0 ze5)
section
variable {K:List PA→Prop} {n:Net} {zcd:Int} {zcK:(Sl Span)} {tot0:Tab} {fromt0:Tab} {ze5:Nat→List PV} {X0:St→Prop} {P0:Int→(Sl Span)→Tab→Tab→Bool} {S0:Int→(Sl Span)→Tab→Tab→((Sl Span)×Int)}
def zwj (n:Net) (S0:Int→(Sl Span)→Tab→Tab→((Sl Span)×Int)) (zcd:Int) (zcK:(Sl Span)) (tot0:Tab) (fromt0:Tab):((Sl Span)×Int) :=
  (cond (decide (zcd < (n.Nodes.toNat : Int)))
 (S0 (w64 (zcd+(1:Int))) (⟨zcK.len,(setT zcd.toNat (⟨(w64 (0 - (tg 80 tot0 (0+zcd.toNat * 2+0)))),(tg 80 fromt0 (0+zcd.toNat * 2+0))⟩:Span) zcK.get)⟩:Sl Span) tot0 fromt0)
 (zcK,(0:Int)))
def zwk (n:Net) (P0:Int→(Sl Span)→Tab→Tab→Bool) (zcd:Int) (zcK:(Sl Span)) (tot0:Tab) (fromt0:Tab):Bool :=
  (cond (decide (zcd < (n.Nodes.toNat : Int)))
 (decide ((0≤zcd∧zcd < (40:Int))) &&
 (decide ((0≤zcd∧zcd < (40:Int))) &&
 (decide ((0≤zcd∧zcd < (zcK.len:Int))) &&
 (decide ((zcd.toNat < zcK.len)) &&
 (P0 (w64 (zcd+(1:Int))) (⟨zcK.len,(setT zcd.toNat (⟨(w64 (0 - (tg 80 tot0 (0+zcd.toNat * 2+0)))),(tg 80 fromt0 (0+zcd.toNat * 2+0))⟩:Span) zcK.get)⟩:Sl Span) tot0 fromt0)))))
 true)
def zwl (n:Net):Nat→Int→(Sl Span)→Tab→Tab→((Sl Span)×Int):=lpO (fun _ _ _ _=>default) (zwj n)
def zwm (n:Net):Nat→Int→(Sl Span)→Tab→Tab→Bool:=lpO (fun _ _ _ _=>false) (zwk n)
def zwn (n:Net) (zcd:Int) (zcK:(Sl Span)) (tot0:Tab) (fromt0:Tab):((Sl Span)×Int):=zwl n Fuel zcd zcK tot0 fromt0
def zwo (n:Net) (zcd:Int) (zcK:(Sl Span)) (tot0:Tab) (fromt0:Tab):Bool:=zwm n Fuel zcd zcK tot0 fromt0
theorem zB7 (hs:zwo n zcd zcK tot0 fromt0=true) (hk:K (e26 (zwn n zcd zcK tot0 fromt0))) (zpL:ze5=zg zbu zcK):z26 (Wk K) [1,1,1,1,1,0,1,0] [] (zzU n zcd zcK tot0 fromt0 ze5) :=
  zl (fun X=>z26 (Wk K) [1,1,1,1,1,0,1,0,0] [X]) (by kernel_rfl) fun X0 hX =>
  (show ∀ k, zFg K n X0 (zwm n k) (zwl n k) from zjV _ _ (zwk n) (zwj n) (zFg K n X0)
 (by intro _ _ _ _ _ hs;exact absurd hs Bool.false_ne_true)
 (by intro P0 S0 hX0 zcd zcK tot0 fromt0 ze5 hs hk zpL;subst zpL;exact hX _ (za9 (by kernel_rfl) (zc hs hk (fun hs hk=>(zaX hs fun hc hs=>And.intro hc (zaX hs fun hc hs=>And.intro hc (zaX hs fun hc hs=>And.intro hc (zaX hs fun hc hs=>And.intro hc (hX0 hs hk (zky (enc:=zbu) (i:=zcd.toNat) (k:=0) (f:=zcK.get) (new:=(zbu (⟨(w64 (0 - (tg 80 tot0 (0+zcd.toNat * 2+0)))),(tg 80 fromt0 (0+zcd.toNat * 2+0))⟩:Span))) (v:=(⟨(w64 (0 - (tg 80 tot0 (0+zcd.toNat * 2+0)))),(tg 80 fromt0 (0+zcd.toNat * 2+0))⟩:Span)) rfl rfl))))))) (fun hs hk=>((zfu hk):Wk K [.one (.sl zcK.len 2 (fun i=>zbu (zcK.get i))),.one (.int .i64 (0:Int))])))))) _ hs hk zpL
def s26 (n:Net):((Sl Span)×Int) :=
  (cond ((s74 n (⟨0, fun _ => default⟩ : (Sl Int))).2 == 0)
 (cond ((0:Int) != (0:Int))
 ((⟨0,fun _=>default⟩:(Sl Span)),(0:Int))
 (zwn n (0:Int) (⟨n.Nodes.toNat,(fun _=>(⟨(0:Int),(0:Int)⟩:Span))⟩:Sl Span) (s75 (⟨(s74 n (⟨0,fun _=>default⟩:(Sl Int))).1.Net,((s74 n (⟨0,fun _=>default⟩:(Sl Int))).1.out)⟩:web) (0:Int)) (s76 (⟨(s74 n (⟨0,fun _=>default⟩:(Sl Int))).1.Net,((s74 n (⟨0,fun _=>default⟩:(Sl Int))).1.out)⟩:web) (0:Int))))
 (cond ((s74 n (⟨0, fun _ => default⟩ : (Sl Int))).2 != (0:Int))
 ((⟨0,fun _=>default⟩:(Sl Span)),(s74 n (⟨0,fun _=>default⟩:(Sl Int))).2)
 default))
def p26 (n:Net):Bool :=
  (cond ((s74 n (⟨0, fun _ => default⟩ : (Sl Int))).2 == 0)
 (decide ((p74 n (⟨0,fun _=>default⟩:(Sl Int))=true)) &&
 (cond ((0:Int) != (0:Int))
 true
 (decide ((p75 (⟨(s74 n (⟨0,fun _=>default⟩:(Sl Int))).1.Net,((s74 n (⟨0,fun _=>default⟩:(Sl Int))).1.out)⟩:web) (0:Int)=true)) &&
 (decide ((p76 (⟨(s74 n (⟨0,fun _=>default⟩:(Sl Int))).1.Net,((s74 n (⟨0,fun _=>default⟩:(Sl Int))).1.out)⟩:web) (0:Int)=true)) &&
 (decide ((0≤n.Nodes∧n.Nodes=n.Nodes∧n.Nodes≤1000000)) &&
 (zwo n (0:Int) (⟨n.Nodes.toNat,(fun _=>(⟨(0:Int),(0:Int)⟩:Span))⟩:Sl Span) (s75 (⟨(s74 n (⟨0,fun _=>default⟩:(Sl Int))).1.Net,((s74 n (⟨0,fun _=>default⟩:(Sl Int))).1.out)⟩:web) (0:Int)) (s76 (⟨(s74 n (⟨0,fun _=>default⟩:(Sl Int))).1.Net,((s74 n (⟨0,fun _=>default⟩:(Sl Int))).1.out)⟩:web) (0:Int))))))))
 (decide ((p74 n (⟨0,fun _=>default⟩:(Sl Int))=true)) &&
 (cond ((s74 n (⟨0, fun _ => default⟩ : (Sl Int))).2 != (0:Int))
 true
 false)))
end
theorem q26 (n:Net) (K:List PA→Prop) (hs:p26 n=true) (hk:K (e26 (s26 n))):vcFun Tryd.prog G26 zB6 26 [.agg (enc_24 n)] (Wk K) :=
  za9 (by kernel_rfl) (zc hs hk (fun hs hk=>(zaX hs fun hc hs=>And.intro (And.intro (zE enc_40 4 n.Ties.get) hc) (zc hs hk (fun hs hk=>((wk hk (zgx (.one (.nil _ _)) (zgx (.one (.rfl _)) zm1))):Wk K [.one (.nils),.one (.int .i64 (0:Int))])) (fun hs hk=>(zaX hs fun hc hs=>And.intro (And.intro (zE enc_40 4 ((s74 n (⟨0,fun _=>default⟩:(Sl Int))).1.Net.Ties.get)) (And.intro (rfl:((false,1,false,[none]):MQ)=(false,1,false,[none])) hc)) (zaX hs fun hc hs=>And.intro (And.intro (zE enc_40 4 ((s74 n (⟨0,fun _=>default⟩:(Sl Int))).1.Net.Ties.get)) (And.intro (rfl:((false,1,false,[none]):MQ)=(false,1,false,[none])) hc)) (zaX hs fun hc hs=>And.intro hc (zB7 hs hk rfl)))))))) (fun hs hk=>(zaX hs fun hc hs=>And.intro (And.intro (zE enc_40 4 n.Ties.get) hc) (zc hs hk (fun hs hk=>((wk hk (zgx (.one (.nil _ _)) (zgx (.one (.rfl _)) zm1))):Wk K [.one (.nils),.one (.int .i64 ((s74 n (⟨0,fun _=>default⟩:(Sl Int))).2))])) (fun hs hk=>(absurd hs Bool.false_ne_true:False))))))
def zB8 : List PA → COut
  | [.agg [.int .i64 a0_Nodes,.sl a0_Ties_n a0_Ties_s a0_Ties_g]]=>.det (IsE enc_40 4 a0_Ties_s a0_Ties_g∧p26 (⟨a0_Nodes,(⟨a0_Ties_n,zaa a0_Ties_g⟩:(Sl Tie))⟩:Net)=true) [.one (.sl (((s26 (⟨a0_Nodes,(⟨a0_Ties_n,zaa a0_Ties_g⟩:(Sl Tie))⟩:Net)).1).len) 2 (fun i=>zbu (((s26 (⟨a0_Nodes,(⟨a0_Ties_n,zaa a0_Ties_g⟩:(Sl Tie))⟩:Net)).1).get i))),.one (.int .i64 ((s26 (⟨a0_Nodes,(⟨a0_Ties_n,zaa a0_Ties_g⟩:(Sl Tie))⟩:Net)).2))]
  | _=>.no
theorem zFh:zan Tryd.prog 26:=⟨_,rfl,rfl,by kernel_rfl⟩
theorem zIy:Ok Tryd.prog 26 zB8:=zgK zG4 zFh fun args K h=>by
  unfold zB8 at h
  split at h
  · rename_i a0_Nodes a0_Ties_n a0_Ties_s a0_Ties_g
    obtain ⟨⟨⟨rfl,a0_Ties_f,rfl⟩,hs⟩,hk⟩:=h
    try rw [zaj a0_Ties_f] at hs
    try rw [zaj a0_Ties_f] at hk
    exact ⟨_,zeM zft _,(fun _ _=>[]),(fun _=>false),zB6,q26 (⟨a0_Nodes,(⟨a0_Ties_n,a0_Ties_f⟩:(Sl Tie))⟩:Net) K hs hk⟩
  · exact h.elim
abbrev T29:Tabs:=Tabs.nil
theorem zG5:TabsOk Tryd.prog T29:=TabsOk.nil
abbrev G29:Ctrs:=csm T29 (fun _ _=>[]) (fun _=>false)
def zFi:Ann:=⟨13,[(0,zK [2,3,4] [2,3,4]),(1,zK [2,4] [2,4,7]),(2,zK [4] [4,7])],
 [],
 [],
 [],[]⟩
abbrev R29:=Net
abbrev e29 (r:R29):List PA:=[.agg [.int .i64 r.Nodes,.sl r.Ties.len 4 (fun i=>enc_40 (r.Ties.get i))]]
section
variable {K:List PA→Prop} {n:Net} {t:Tie}
def s29 (n:Net) (t:Tie):Net :=
  (⟨n.Nodes,(⟨(n.Ties.len+1),(zsn n.Ties.len n.Ties.get (fun _=>t))⟩:(Sl Tie))⟩:Net)
def p29 (n:Net) (t:Tie):Bool :=
  (decide ((n.Ties.len * 32≤140737488355328∧n.Ties.len≤9223372036854775807)) &&
 (decide (((n.Ties.len+1) * 32≤140737488355328∧n.Ties.len+1≤9223372036854775807)) &&
 true))
end
theorem q29 (n:Net) (t:Tie) (K:List PA→Prop) (hs:p29 n t=true) (hk:K (e29 (s29 n t))):vcFun Tryd.prog G29 zFi 29 [.agg (enc_24 n),.agg (enc_40 t)] K :=
  za9 (by kernel_rfl) (zaX hs fun hc hs=>And.intro hc (zaX hs fun hc hs=>And.intro hc (Eq.mpr (congrArg K (congrArg (fun (g_:Nat→List PV)=>([.agg [.int .i64 n.Nodes,.sl (n.Ties.len+1) 4 g_]]:List PA)) (zm0 (enc:=enc_40) (f:=n.Ties.get) (h:=(fun _=>t)) rfl rfl))) hk)))
def zB9 : List PA → COut
  | [.agg [.int .i64 a0_Nodes,.sl a0_Ties_n a0_Ties_s a0_Ties_g],.agg [.int .i64 a1_From,.int .i64 a1_To,.int .i64 a1_Low,.int .i64 a1_High]]=>.det (IsE enc_40 4 a0_Ties_s a0_Ties_g∧p29 (⟨a0_Nodes,(⟨a0_Ties_n,zaa a0_Ties_g⟩:(Sl Tie))⟩:Net) (⟨a1_From,a1_To,a1_Low,a1_High⟩:Tie)=true) [.agg [.int .i64 ((s29 (⟨a0_Nodes,(⟨a0_Ties_n,zaa a0_Ties_g⟩:(Sl Tie))⟩:Net) (⟨a1_From,a1_To,a1_Low,a1_High⟩:Tie)).Nodes),.sl ((s29 (⟨a0_Nodes,(⟨a0_Ties_n,zaa a0_Ties_g⟩:(Sl Tie))⟩:Net) (⟨a1_From,a1_To,a1_Low,a1_High⟩:Tie)).Ties.len) 4 (fun i=>enc_40 ((s29 (⟨a0_Nodes,(⟨a0_Ties_n,zaa a0_Ties_g⟩:(Sl Tie))⟩:Net) (⟨a1_From,a1_To,a1_Low,a1_High⟩:Tie)).Ties.get i))]]
  | _=>.no
theorem zFj:zan Tryd.prog 29:=⟨_,rfl,rfl,by kernel_rfl⟩
theorem zIz:Ok Tryd.prog 29 zB9:=zbr zG5 zFj fun args K h=>by
  unfold zB9 at h
  split at h
  · rename_i a0_Nodes a0_Ties_n a0_Ties_s a0_Ties_g a1_From a1_To a1_Low a1_High
    obtain ⟨⟨⟨rfl,a0_Ties_f,rfl⟩,hs⟩,hk⟩:=h
    try rw [zaj a0_Ties_f] at hs
    try rw [zaj a0_Ties_f] at hk
    exact ⟨(fun _ _=>[]),(fun _=>false),zFi,q29 (⟨a0_Nodes,(⟨a0_Ties_n,a0_Ties_f⟩:(Sl Tie))⟩:Net) (⟨a1_From,a1_To,a1_Low,a1_High⟩:Tie) K hs hk⟩
  · exact h.elim
abbrev T32:Tabs:=Tabs.nil
theorem zG6:TabsOk Tryd.prog T32:=TabsOk.nil
abbrev G32:Ctrs:=csm T32 (fun _ _=>[]) (fun _=>false)
def zCa:Ann:=⟨26,[(0,zK [0,1] []),(1,zK [0,1,10] []),(2,zK [4] []),(3,zK [0,1,5] []),(4,zK [0,1,5,14] []),(5,zK [0,1,5] []),(6,zK [0,1,5,25] []),(7,zK [4] []),(8,zK [4] [])],
 [(4,zK [0,1,5] [])],
 [(3,zK [0,1] [])],
 [],[]⟩
abbrev R32:=Bool
abbrev e32 (r:R32):List PA:=[.one (.bool r)]
@[irreducible] def z32:=ptF Tryd.prog G32 zCa Tryd.f32
def zzV (a:(Sl Span)) (b:(Sl Span)) (iv1:Int):St:=⟨[(0,zS zbu 2 a),(1,zS zbu 2 b),(5,zI iv1)],[],[]⟩
abbrev zFk (K:List PA→Prop) (a:(Sl Span)) (b:(Sl Span)) (X:St→Prop) (P:Int→Bool) (S:Int→Bool):Prop:=∀ ⦃iv1:Int⦄,P iv1=true→K (e32 (S iv1))→X (zzV a b iv1)
section
variable {K:List PA→Prop} {a:(Sl Span)} {b:(Sl Span)} {iv1:Int} {X1:St→Prop} {P1:Int→Bool} {S1:Int→Bool}
def zwp (a:(Sl Span)) (b:(Sl Span)) (S1:Int→Bool) (iv1:Int):Bool :=
  (cond (decide (iv1 < (a.len : Int)))
 (cond (!(match ((a.get iv1.toNat).Low == (b.get iv1.toNat).Low) with | true => (match ((a.get iv1.toNat).High == (b.get iv1.toNat).High) with | true => true | false => false) | false => false))
 false
 (S1 (w64 (iv1+(1:Int)))))
 true)
def zwq (a:(Sl Span)) (b:(Sl Span)) (P1:Int→Bool) (iv1:Int):Bool :=
  (cond (decide (iv1 < (a.len : Int)))
 (decide ((0≤iv1∧iv1 < (a.len:Int))) &&
 (decide ((0≤iv1∧iv1 < (b.len:Int))) &&
 (cond (!(match ((a.get iv1.toNat).Low == (b.get iv1.toNat).Low) with | true => (match ((a.get iv1.toNat).High == (b.get iv1.toNat).High) with | true => true | false => false) | false => false))
 true
 (P1 (w64 (iv1+(1:Int)))))))
 true)
def zwr (a:(Sl Span)) (b:(Sl Span)):Nat→Int→Bool:=lpO (fun _=>default) (zwp a b)
def zwt (a:(Sl Span)) (b:(Sl Span)):Nat→Int→Bool:=lpO (fun _=>false) (zwq a b)
def zwu (a:(Sl Span)) (b:(Sl Span)) (iv1:Int):Bool:=zwr a b Fuel iv1
def zwv (a:(Sl Span)) (b:(Sl Span)) (iv1:Int):Bool:=zwt a b Fuel iv1
theorem zCb (hs:zwv a b iv1=true) (hk:K (e32 (zwu a b iv1))):z32 K [1,1,0,1,0] [] (zzV a b iv1) :=
  zl (fun X=>z32 K [1,1,0,1,0,0] [X]) (by kernel_rfl) fun X1 hX =>
  (show ∀ k, zFk K a b X1 (zwt a b k) (zwr a b k) from zjV _ _ (zwq a b) (zwp a b) (zFk K a b X1)
 (by intro _ hs;exact absurd hs Bool.false_ne_true)
 (by intro P1 S1 hX1 iv1 hs hk;exact hX _ (za9 (by kernel_rfl) (zc hs hk (fun hs hk=>(zaX hs fun hc hs=>And.intro hc (zaX hs fun hc hs=>And.intro hc (zc hs hk (fun hs hk=>hk) (fun hs hk=>(hX1 hs hk)))))) (fun hs hk=>hk))))) _ hs hk
def zww (a:(Sl Span)) (b:(Sl Span)):Bool :=
  (zwu a b (0:Int))
def zwx (a:(Sl Span)) (b:(Sl Span)):Bool :=
  (zwv a b (0:Int))
theorem zCc (hs:zwx a b=true) (hk:K (e32 (zww a b))):z32 K [1,1] [] ⟨[(0,zS zbu 2 a),(1,zS zbu 2 b)],[],[]⟩:=za9 (by kernel_rfl) (zCb hs hk)
def s32 (a:(Sl Span)) (b:(Sl Span)):Bool :=
  (cond ((a.len : Int) != (b.len : Int))
 false
 (zww a b))
def p32 (a:(Sl Span)) (b:(Sl Span)):Bool :=
  (cond ((a.len : Int) != (b.len : Int))
 true
 (zwx a b))
end
theorem q32 (a:(Sl Span)) (b:(Sl Span)) (K:List PA→Prop) (hs:p32 a b=true) (hk:K (e32 (s32 a b))):vcFun Tryd.prog G32 zCa 32 [.one (.sl a.len 2 (fun i=>zbu (a.get i))),.one (.sl b.len 2 (fun i=>zbu (b.get i)))] K :=
  za9 (by kernel_rfl) (zc hs hk (fun hs hk=>hk) (fun hs hk=>(zCc hs hk)))
def zCd : List PA → COut
  | [.one (.sl a0_n a0_s a0_g),.one (.sl a1_n a1_s a1_g)]=>.det (IsE zbu 2 a0_s a0_g∧IsE zbu 2 a1_s a1_g∧p32 (⟨a0_n,zeN a0_g⟩:(Sl Span)) (⟨a1_n,zeN a1_g⟩:(Sl Span))=true) [.one (.bool (s32 (⟨a0_n,zeN a0_g⟩:(Sl Span)) (⟨a1_n,zeN a1_g⟩:(Sl Span))))]
  | _=>.no
theorem zFl:zan Tryd.prog 32:=⟨_,rfl,rfl,by kernel_rfl⟩
theorem ok32:Ok Tryd.prog 32 zCd:=zbr zG6 zFl fun args K h=>by
  unfold zCd at h
  split at h
  · rename_i a0_n a0_s a0_g a1_n a1_s a1_g
    obtain ⟨⟨⟨rfl,a0_f,rfl⟩,⟨rfl,a1_f,rfl⟩,hs⟩,hk⟩:=h
    try rw [zeo a0_f] at hs
    try rw [zeo a0_f] at hk
    try rw [zeo a1_f] at hs
    try rw [zeo a1_f] at hk
    exact ⟨(fun _ _=>[]),(fun _=>false),zCa,q32 (⟨a0_n,a0_f⟩:(Sl Span)) (⟨a1_n,a1_f⟩:(Sl Span)) K hs hk⟩
  · exact h.elim
abbrev T83:Tabs:=((Tabs.nil.addF 75 zv9).addF 76 zwi)
theorem zG7:TabsOk Tryd.prog T83:=((TabsOk.nil.addF zG1).addF zG3)
abbrev G83:Ctrs:=csm T83 (fun _ _=>[]) (fun _=>false)
def zCe:Ann:=⟨31,[(0,zK [0] []),(1,zK [0,3,4] [3,4]),(2,zK [3,4,14,15] [3,4]),(3,zK [3,4,14,15,16] [3,4]),(4,zK [3,4,5,14,15] [3,4]),(5,zK [3,4,14,15,29] [3,4]),(6,zK [2] []),(7,zK [3,4,14,15] [3,4]),(8,zK [2] [])],
 [(3,zK [3,4,14,15] [3,4])],
 [(2,zK [0,3,4] [3,4])],
 [],[]⟩
abbrev R83:=Bool
abbrev e83 (r:R83):List PA:=[.one (.bool r)]
@[irreducible] def z83:=ptF Tryd.prog G83 zCe Tryd.f83
def zzW (w:web) (zcx:Int) (tot1:Tab) (fromt1:Tab):St:=⟨[(3,zp 3 0),(4,zp 4 0),(14,zI w.Net.Nodes),(15,zI zcx)],[(3,.box 116 (zm (zad tot1))),(4,.box 116 (zm (zad fromt1)))],[]⟩
abbrev zFm (K:List PA→Prop) (w:web) (X:St→Prop) (P:Int→Tab→Tab→Bool) (S:Int→Tab→Tab→Bool):Prop:=∀ ⦃zcx:Int⦄ ⦃tot1:Tab⦄ ⦃fromt1:Tab⦄,P zcx tot1 fromt1=true→K (e83 (S zcx tot1 fromt1))→X (zzW w zcx tot1 fromt1)
section
variable {K:List PA→Prop} {w:web} {tot0:Tab} {fromt0:Tab} {zcx:Int} {tot1:Tab} {fromt1:Tab} {X1:St→Prop} {P1:Int→Tab→Tab→Bool} {S1:Int→Tab→Tab→Bool}
def zwy (w:web) (S1:Int→Tab→Tab→Bool) (zcx:Int) (tot1:Tab) (fromt1:Tab):Bool :=
  (cond (decide (zcx < w.Net.Nodes))
 (cond (match ((tg 80 tot1 (0 + zcx.toNat * 2 + 0)) == (1000000000000:Int)) with | true => (match ((tg 80 tot1 (0 + zcx.toNat * 2 + 0 + 1)) == (0:Int)) with | true => true | false => false) | false => false)
 false
 (cond (match ((tg 80 fromt1 (0 + zcx.toNat * 2 + 0)) == (1000000000000:Int)) with | true => (match ((tg 80 fromt1 (0 + zcx.toNat * 2 + 0 + 1)) == (0:Int)) with | true => true | false => false) | false => false)
 false
 (S1 (w64 (zcx+(1:Int))) tot1 fromt1)))
 true)
def zwz (w:web) (P1:Int→Tab→Tab→Bool) (zcx:Int) (tot1:Tab) (fromt1:Tab):Bool :=
  (cond (decide (zcx < w.Net.Nodes))
 (decide ((0≤zcx∧zcx < (40:Int))) &&
 (cond (match ((tg 80 tot1 (0 + zcx.toNat * 2 + 0)) == (1000000000000:Int)) with | true => (match ((tg 80 tot1 (0 + zcx.toNat * 2 + 0 + 1)) == (0:Int)) with | true => true | false => false) | false => false)
 true
 (decide ((0≤zcx∧zcx < (40:Int))) &&
 (cond (match ((tg 80 fromt1 (0 + zcx.toNat * 2 + 0)) == (1000000000000:Int)) with | true => (match ((tg 80 fromt1 (0 + zcx.toNat * 2 + 0 + 1)) == (0:Int)) with | true => true | false => false) | false => false)
 true
 (P1 (w64 (zcx+(1:Int))) tot1 fromt1)))))
 true)
def zwA (w:web):Nat→Int→Tab→Tab→Bool:=lpO (fun _ _ _=>default) (zwy w)
def zwB (w:web):Nat→Int→Tab→Tab→Bool:=lpO (fun _ _ _=>false) (zwz w)
def zwC (w:web) (zcx:Int) (tot1:Tab) (fromt1:Tab):Bool:=zwA w Fuel zcx tot1 fromt1
def zwD (w:web) (zcx:Int) (tot1:Tab) (fromt1:Tab):Bool:=zwB w Fuel zcx tot1 fromt1
theorem zCf (hs:zwD w zcx tot1 fromt1=true) (hk:K (e83 (zwC w zcx tot1 fromt1))):z83 K [1,1,0,1,0] [] (zzW w zcx tot1 fromt1) :=
  zl (fun X=>z83 K [1,1,0,1,0,0] [X]) (by kernel_rfl) fun X1 hX =>
  (show ∀ k, zFm K w X1 (zwB w k) (zwA w k) from zjV _ _ (zwz w) (zwy w) (zFm K w X1)
 (by intro _ _ _ hs;exact absurd hs Bool.false_ne_true)
 (by intro P1 S1 hX1 zcx tot1 fromt1 hs hk;exact hX _ (za9 (by kernel_rfl) (zc hs hk (fun hs hk=>(zaX hs fun hc hs=>And.intro hc (zc hs hk (fun hs hk=>hk) (fun hs hk=>(zaX hs fun hc hs=>And.intro hc (zc hs hk (fun hs hk=>hk) (fun hs hk=>(hX1 hs hk)))))))) (fun hs hk=>hk))))) _ hs hk
def zwE (w:web) (tot0:Tab) (fromt0:Tab):Bool :=
  (zwC w (0:Int) tot0 fromt0)
def zwF (w:web) (tot0:Tab) (fromt0:Tab):Bool :=
  (zwD w (0:Int) tot0 fromt0)
theorem zCg (hs:zwF w tot0 fromt0=true) (hk:K (e83 (zwE w tot0 fromt0))):z83 K [1,1] [] ⟨[(0,zP (.fp (zat w) 0)),(3,zp 3 0),(4,zp 4 0)],[(3,.box 116 (zm (zad tot0))),(4,.box 116 (zm (zad fromt0)))],[]⟩:=za9 (by kernel_rfl) (zCf hs hk)
def s83 (w:web):Bool :=
  (zwE w (s75 w (0:Int)) (s76 w (0:Int)))
def p83 (w:web):Bool :=
  (decide ((p75 w (0:Int)=true)) &&
 (decide ((p76 w (0:Int)=true)) &&
 (zwF w (s75 w (0:Int)) (s76 w (0:Int)))))
end
theorem q83 (w:web) (K:List PA→Prop) (hs:p83 w=true) (hk:K (e83 (s83 w))):vcFun Tryd.prog G83 zCe 83 [.one (.fp (zat w) 0)] K :=
  za9 (by kernel_rfl) (zaX hs fun hc hs=>And.intro (And.intro (zE enc_40 4 w.Net.Ties.get) (And.intro (rfl:((false,1,false,[none]):MQ)=(false,1,false,[none])) hc)) (zaX hs fun hc hs=>And.intro (And.intro (zE enc_40 4 w.Net.Ties.get) (And.intro (rfl:((false,1,false,[none]):MQ)=(false,1,false,[none])) hc)) (zCg hs hk)))
def zCh : List PA → COut
  | [.one (.fp [.int .i64 a0_Net_Nodes,.sl a0_Net_Ties_n a0_Net_Ties_s a0_Net_Ties_g,.fm a0_out_q a0_out_n a0_out_F] 0)]=>.det (IsE enc_40 4 a0_Net_Ties_s a0_Net_Ties_g∧a0_out_q=(false,1,false,[none])∧p83 (⟨(⟨a0_Net_Nodes,(⟨a0_Net_Ties_n,zaa a0_Net_Ties_g⟩:(Sl Tie))⟩:Net),(⟨a0_out_n,a0_out_F⟩:Mp)⟩:web)=true) [.one (.bool (s83 (⟨(⟨a0_Net_Nodes,(⟨a0_Net_Ties_n,zaa a0_Net_Ties_g⟩:(Sl Tie))⟩:Net),(⟨a0_out_n,a0_out_F⟩:Mp)⟩:web)))]
  | _=>.no
theorem zFn:zan Tryd.prog 83:=⟨_,rfl,rfl,by kernel_rfl⟩
theorem zIA:Ok Tryd.prog 83 zCh:=zbr zG7 zFn fun args K h=>by
  unfold zCh at h
  split at h
  · rename_i a0_Net_Nodes a0_Net_Ties_n a0_Net_Ties_s a0_Net_Ties_g a0_out_q a0_out_n a0_out_F
    obtain ⟨⟨⟨rfl,a0_Net_Ties_f,rfl⟩,rfl,hs⟩,hk⟩:=h
    try rw [zaj a0_Net_Ties_f] at hs
    try rw [zaj a0_Net_Ties_f] at hk
    exact ⟨(fun _ _=>[]),(fun _=>false),zCe,q83 (⟨(⟨a0_Net_Nodes,(⟨a0_Net_Ties_n,a0_Net_Ties_f⟩:(Sl Tie))⟩:Net),(⟨a0_out_n,a0_out_F⟩:Mp)⟩:web) K hs hk⟩
  · exact h.elim
abbrev T87:Tabs:=Tabs.nil
theorem zG8:TabsOk Tryd.prog T87:=TabsOk.nil
abbrev G87:Ctrs:=csm T87 (fun _ _=>[]) (fun _=>false)
def zFo:Ann:=⟨12,[(0,zK [0,1] []),(1,zK [3] [])],
 [],
 [],
 [],[]⟩
abbrev R87:=Int
abbrev e87 (r:R87):List PA:=[.one (.int .i64 r)]
section
variable {K:List PA→Prop} {c0:Tab} {i_a0:Int}
def s87 (c0:Tab) (i_a0:Int):Int :=
  (w64 ((tg 80 c0 (0+i_a0.toNat * 2+0)) - (tg 80 c0 (0+0 * 2+0))))
def p87 (c0:Tab) (i_a0:Int):Bool :=
  (decide ((0≤i_a0∧i_a0 < (40:Int))) &&
 (decide ((0≤(0:Int)∧(0:Int) < (40:Int))) &&
 true))
end
theorem q87 (c0:Tab) (i_a0:Int) (K:List PA→Prop) (hs:p87 c0 i_a0=true) (hk:K (e87 (s87 c0 i_a0))):vcFun Tryd.prog G87 zFo 87 [.one (.int .i64 i_a0),.one (.fp (zad c0) 0)] K :=
  za9 (by kernel_rfl) (zaX hs fun hc hs=>And.intro hc (zaX hs fun hc hs=>And.intro hc hk))
def zCi : List PA → COut
  | [.one (.int .i64 a0),.one (.fp c0_t 0)]=>.det (c0_t=zad (za5 c0_t)∧p87 (za5 c0_t) a0=true) [.one (.int .i64 (s87 (za5 c0_t) a0))]
  | _=>.no
theorem zFp:zan Tryd.prog 87:=⟨_,rfl,rfl,by kernel_rfl⟩
theorem zIB:Ok Tryd.prog 87 zCi:=zbr zG8 zFp fun args K h=>by
  unfold zCi at h
  split at h
  · rename_i a0 c0_t
    obtain ⟨⟨hT_c0,hs⟩,hk⟩:=h
    exact ⟨(fun _ _=>[]),(fun _=>false),zFo,(by have hq:=q87 (za5 c0_t) a0 K hs hk;rw [← hT_c0] at hq;exact hq)⟩
  · exact h.elim
abbrev T84:Tabs:=(Tabs.nil.addF 87 zCi)
theorem zG9:TabsOk Tryd.prog T84:=(TabsOk.nil.addF zIB)
abbrev G84:Ctrs:=csm T84 (fun _ _=>[]) (fun _=>false)
def zCj:Ann:=⟨26,[(0,zK [0,1] []),(1,zK [1,5] [12]),(2,zK [1,5,14,15] [12]),(3,zK [1,5,14,15,16] [12]),(4,zK [1,5,6,14,15] [12]),(5,zK [1,5,14,15] [12]),(6,zK [1,5,14,15] [12]),(7,zK [4] [12])],
 [(3,zK [1,5,14,15] [12])],
 [],
 [],[]⟩
abbrev R84:=(Sl Int)
abbrev e84 (r:R84):List PA:=[.one (.sl r.len 1 (fun i=>enc_3 (r.get i)))]
@[irreducible] def z84:=ptF Tryd.prog G84 zCj Tryd.f84
def zzX (c0:Tab) (w:web) (zbf:Int) (zcY:(Sl Int)) (ze6:Nat→List PV):St:=⟨[(1,zP (.fn 87 [] [.fp (zad c0) 0])),(5,zv 12),(14,zI (w.Net.Nodes.toNat:Int)),(15,zI zbf)],[(12,.vec 3 1 8 zcY.len ze6)],[]⟩
abbrev zFq (K:List PA→Prop) (c0:Tab) (w:web) (X:St→Prop) (P:Int→(Sl Int)→Bool) (S:Int→(Sl Int)→(Sl Int)):Prop:=∀ ⦃zbf:Int⦄ ⦃zcY:(Sl Int)⦄ ⦃ze6:Nat→List PV⦄,P zbf zcY=true→K (e84 (S zbf zcY))→ze6=zg enc_3 zcY→X (zzX c0 w zbf zcY ze6)
section
variable {K:List PA→Prop} {c0:Tab} {w:web} {zbf:Int} {zcY:(Sl Int)} {ze6:Nat→List PV} {X0:St→Prop} {P0:Int→(Sl Int)→Bool} {S0:Int→(Sl Int)→(Sl Int)}
def zwG (c0:Tab) (w:web) (S0:Int→(Sl Int)→(Sl Int)) (zbf:Int) (zcY:(Sl Int)):(Sl Int) :=
  (cond (decide (zbf < (w.Net.Nodes.toNat : Int)))
 (S0 (w64 (zbf+(1:Int))) (⟨zcY.len,(setT zbf.toNat (s87 (za5 (zad c0)) zbf) zcY.get)⟩:Sl Int))
 zcY)
def zwH (c0:Tab) (w:web) (P0:Int→(Sl Int)→Bool) (zbf:Int) (zcY:(Sl Int)):Bool :=
  (cond (decide (zbf < (w.Net.Nodes.toNat : Int)))
 (decide ((p87 (za5 (zad c0)) zbf=true)) &&
 (decide ((0≤zbf∧zbf < (zcY.len:Int))) &&
 (decide ((zbf.toNat < zcY.len)) &&
 (P0 (w64 (zbf+(1:Int))) (⟨zcY.len,(setT zbf.toNat (s87 (za5 (zad c0)) zbf) zcY.get)⟩:Sl Int)))))
 true)
def zwI (c0:Tab) (w:web):Nat→Int→(Sl Int)→(Sl Int):=lpO (fun _ _=>default) (zwG c0 w)
def zwJ (c0:Tab) (w:web):Nat→Int→(Sl Int)→Bool:=lpO (fun _ _=>false) (zwH c0 w)
def zwK (c0:Tab) (w:web) (zbf:Int) (zcY:(Sl Int)):(Sl Int):=zwI c0 w Fuel zbf zcY
def zwL (c0:Tab) (w:web) (zbf:Int) (zcY:(Sl Int)):Bool:=zwJ c0 w Fuel zbf zcY
theorem zCk (hs:zwL c0 w zbf zcY=true) (hk:K (e84 (zwK c0 w zbf zcY))) (zpM:ze6=zg enc_3 zcY):z84 K [1,1,0,1,0] [] (zzX c0 w zbf zcY ze6) :=
  zl (fun X=>z84 K [1,1,0,1,0,0] [X]) (by kernel_rfl) fun X0 hX =>
  (show ∀ k, zFq K c0 w X0 (zwJ c0 w k) (zwI c0 w k) from zjV _ _ (zwH c0 w) (zwG c0 w) (zFq K c0 w X0)
 (by intro _ _ _ hs;exact absurd hs Bool.false_ne_true)
 (by intro P0 S0 hX0 zbf zcY ze6 hs hk zpM;subst zpM;exact hX _ (za9 (by kernel_rfl) (zc hs hk (fun hs hk=>(zaX hs fun hc hs=>And.intro (And.intro (zlt:zad c0=zad (za5 (zad c0))) hc) (zaX hs fun hc hs=>And.intro hc (zaX hs fun hc hs=>And.intro hc (hX0 hs hk (zky (enc:=enc_3) (i:=zbf.toNat) (k:=0) (f:=zcY.get) (new:=(enc_3 (s87 (za5 (zad c0)) zbf))) (v:=(s87 (za5 (zad c0)) zbf)) rfl rfl)))))) (fun hs hk=>hk))))) _ hs hk zpM
def s84 (c0:Tab) (w:web):(Sl Int) :=
  (zwK c0 w (0:Int) (⟨w.Net.Nodes.toNat,(fun _=>(0:Int))⟩:Sl Int))
def p84 (c0:Tab) (w:web):Bool :=
  (decide ((0≤w.Net.Nodes∧w.Net.Nodes=w.Net.Nodes∧w.Net.Nodes≤1000000)) &&
 (zwL c0 w (0:Int) (⟨w.Net.Nodes.toNat,(fun _=>(0:Int))⟩:Sl Int)))
end
theorem q84 (c0:Tab) (w:web) (K:List PA→Prop) (hs:p84 c0 w=true) (hk:K (e84 (s84 c0 w))):vcFun Tryd.prog G84 zCj 84 [.one (.fp (zat w) 0),.one (.fn 87 [] [.fp (zad c0) 0])] K :=
  za9 (by kernel_rfl) (zaX hs fun hc hs=>And.intro hc (zCk hs hk rfl))
def zCl : List PA → COut
  | [.one (.fp [.int .i64 a0_Net_Nodes,.sl a0_Net_Ties_n a0_Net_Ties_s a0_Net_Ties_g,.fm a0_out_q a0_out_n a0_out_F] 0),.one (.fn 87 [] [.fp c0_t 0])]=>.det (IsE enc_40 4 a0_Net_Ties_s a0_Net_Ties_g∧a0_out_q=(false,1,false,[none])∧c0_t=zad (za5 c0_t)∧p84 (za5 c0_t) (⟨(⟨a0_Net_Nodes,(⟨a0_Net_Ties_n,zaa a0_Net_Ties_g⟩:(Sl Tie))⟩:Net),(⟨a0_out_n,a0_out_F⟩:Mp)⟩:web)=true) [.one (.sl ((s84 (za5 c0_t) (⟨(⟨a0_Net_Nodes,(⟨a0_Net_Ties_n,zaa a0_Net_Ties_g⟩:(Sl Tie))⟩:Net),(⟨a0_out_n,a0_out_F⟩:Mp)⟩:web)).len) 1 (fun i=>enc_3 ((s84 (za5 c0_t) (⟨(⟨a0_Net_Nodes,(⟨a0_Net_Ties_n,zaa a0_Net_Ties_g⟩:(Sl Tie))⟩:Net),(⟨a0_out_n,a0_out_F⟩:Mp)⟩:web)).get i)))]
  | _=>.no
theorem zFr:zan Tryd.prog 84:=⟨_,rfl,rfl,by kernel_rfl⟩
theorem zIC:Ok Tryd.prog 84 zCl:=zbr zG9 zFr fun args K h=>by
  unfold zCl at h
  split at h
  · rename_i a0_Net_Nodes a0_Net_Ties_n a0_Net_Ties_s a0_Net_Ties_g a0_out_q a0_out_n a0_out_F c0_t
    obtain ⟨⟨⟨rfl,a0_Net_Ties_f,rfl⟩,rfl,hT_c0,hs⟩,hk⟩:=h
    try rw [zaj a0_Net_Ties_f] at hs
    try rw [zaj a0_Net_Ties_f] at hk
    exact ⟨(fun _ _=>[]),(fun _=>false),zCj,(by have hq:=q84 (za5 c0_t) (⟨(⟨a0_Net_Nodes,(⟨a0_Net_Ties_n,a0_Net_Ties_f⟩:(Sl Tie))⟩:Net),(⟨a0_out_n,a0_out_F⟩:Mp)⟩:web) K hs hk;rw [← hT_c0] at hq;exact hq)⟩
  · exact h.elim
abbrev T45:Tabs:=((((Tabs.nil.addF 74 zv0).addF 76 zwi).addF 83 zCh).addF 84 zCl)
theorem zHa:TabsOk Tryd.prog T45:=((((TabsOk.nil.addF zGZ).addF zG3).addF zIA).addF zIC)
abbrev G45:Ctrs:=csm T45 (fun _ _=>[]) (fun _=>false)
def zFs:Ann:=⟨31,[(0,zK [1,2,3] [3]),(1,zK [1,8,9] []),(2,zK [1,8,9,20] []),(3,zK [6,7] []),(4,zK [1,8,24] []),(5,zK [6,7] []),(6,zK [8,10] [10]),(7,zK [6,7] [])],
 [],
 [],
 [],[]⟩
abbrev R45:=((Sl Int)×Int)
abbrev e45 (r:R45):List PA:=[.one (.sl r.1.len 1 (fun i=>enc_3 (r.1.get i))),.one (.int .i64 r.2)]
section
variable {K:List PA→Prop} {n:Net} {from_a1:Int} {to:Int}
def s45 (n:Net) (from_a1:Int) (to:Int):((Sl Int)×Int) :=
  (cond ((s74 n (⟨2, zaq (zbz [(enc_3 from_a1), (enc_3 to)])⟩ : (Sl Int))).2 == 0)
 (cond ((0:Int) != (0:Int))
 ((⟨0,fun _=>default⟩:(Sl Int)),(0:Int))
 (cond (!(s83 (⟨(s74 n (⟨2, zaq (zbz [(enc_3 from_a1), (enc_3 to)])⟩ : (Sl Int))).1.Net, ((s74 n (⟨2, zaq (zbz [(enc_3 from_a1), (enc_3 to)])⟩ : (Sl Int))).1.out)⟩ : web)))
 ((⟨0,fun _=>default⟩:(Sl Int)),(6:Int))
 ((s84 (za5 (zad (s76 (⟨(s74 n (⟨2,zaq (zbz [(enc_3 from_a1),(enc_3 to)])⟩:(Sl Int))).1.Net,((s74 n (⟨2,zaq (zbz [(enc_3 from_a1),(enc_3 to)])⟩:(Sl Int))).1.out)⟩:web) from_a1))) (⟨(s74 n (⟨2,zaq (zbz [(enc_3 from_a1),(enc_3 to)])⟩:(Sl Int))).1.Net,((s74 n (⟨2,zaq (zbz [(enc_3 from_a1),(enc_3 to)])⟩:(Sl Int))).1.out)⟩:web)),(0:Int))))
 (cond ((s74 n (⟨2, zaq (zbz [(enc_3 from_a1), (enc_3 to)])⟩ : (Sl Int))).2 != (0:Int))
 ((⟨0,fun _=>default⟩:(Sl Int)),(s74 n (⟨2,zaq (zbz [(enc_3 from_a1),(enc_3 to)])⟩:(Sl Int))).2)
 default))
def p45 (n:Net) (from_a1:Int) (to:Int):Bool :=
  (cond ((s74 n (⟨2, zaq (zbz [(enc_3 from_a1), (enc_3 to)])⟩ : (Sl Int))).2 == 0)
 (decide ((p74 n (⟨2,zaq (zbz [(enc_3 from_a1),(enc_3 to)])⟩:(Sl Int))=true)) &&
 (cond ((0:Int) != (0:Int))
 true
 (decide ((p83 (⟨(s74 n (⟨2,zaq (zbz [(enc_3 from_a1),(enc_3 to)])⟩:(Sl Int))).1.Net,((s74 n (⟨2,zaq (zbz [(enc_3 from_a1),(enc_3 to)])⟩:(Sl Int))).1.out)⟩:web)=true)) &&
 (cond (!(s83 (⟨(s74 n (⟨2, zaq (zbz [(enc_3 from_a1), (enc_3 to)])⟩ : (Sl Int))).1.Net, ((s74 n (⟨2, zaq (zbz [(enc_3 from_a1), (enc_3 to)])⟩ : (Sl Int))).1.out)⟩ : web)))
 true
 (decide ((p76 (⟨(s74 n (⟨2,zaq (zbz [(enc_3 from_a1),(enc_3 to)])⟩:(Sl Int))).1.Net,((s74 n (⟨2,zaq (zbz [(enc_3 from_a1),(enc_3 to)])⟩:(Sl Int))).1.out)⟩:web) from_a1=true)) &&
 (decide ((p84 (za5 (zad (s76 (⟨(s74 n (⟨2,zaq (zbz [(enc_3 from_a1),(enc_3 to)])⟩:(Sl Int))).1.Net,((s74 n (⟨2,zaq (zbz [(enc_3 from_a1),(enc_3 to)])⟩:(Sl Int))).1.out)⟩:web) from_a1))) (⟨(s74 n (⟨2,zaq (zbz [(enc_3 from_a1),(enc_3 to)])⟩:(Sl Int))).1.Net,((s74 n (⟨2,zaq (zbz [(enc_3 from_a1),(enc_3 to)])⟩:(Sl Int))).1.out)⟩:web)=true)) &&
 true))))))
 (decide ((p74 n (⟨2,zaq (zbz [(enc_3 from_a1),(enc_3 to)])⟩:(Sl Int))=true)) &&
 (cond ((s74 n (⟨2, zaq (zbz [(enc_3 from_a1), (enc_3 to)])⟩ : (Sl Int))).2 != (0:Int))
 true
 false)))
end
theorem q45 (n:Net) (from_a1:Int) (to:Int) (K:List PA→Prop) (hs:p45 n from_a1 to=true) (hk:K (e45 (s45 n from_a1 to))):vcFun Tryd.prog G45 zFs 45 [.agg (enc_24 n),.one (.int .i64 from_a1),.one (.int .i64 to)] (Wk K) :=
  za9 (by kernel_rfl) (zc hs hk (fun hs hk=>(zaX hs fun hc hs=>And.intro (And.intro (zE enc_40 4 n.Ties.get) (And.intro ((zdL []):IsE enc_3 1 1 (zbz [(enc_3 from_a1),(enc_3 to)])) hc)) (zc hs hk (fun hs hk=>((wk hk (zgx (.one (.nil _ _)) (zgx (.one (.rfl _)) zm1))):Wk K [.one (.nils),.one (.int .i64 (0:Int))])) (fun hs hk=>(zaX hs fun hc hs=>And.intro (And.intro (zE enc_40 4 ((s74 n (⟨2,zaq (zbz [(enc_3 from_a1),(enc_3 to)])⟩:(Sl Int))).1.Net.Ties.get)) (And.intro (rfl:((false,1,false,[none]):MQ)=(false,1,false,[none])) hc)) (zc hs hk (fun hs hk=>((wk hk (zgx (.one (.nil _ _)) (zgx (.one (.rfl _)) zm1))):Wk K [.one (.nils),.one (.int .i64 (6:Int))])) (fun hs hk=>(zaX hs fun hc hs=>And.intro (And.intro (zE enc_40 4 ((s74 n (⟨2,zaq (zbz [(enc_3 from_a1),(enc_3 to)])⟩:(Sl Int))).1.Net.Ties.get)) (And.intro (rfl:((false,1,false,[none]):MQ)=(false,1,false,[none])) hc)) (zaX hs fun hc hs=>And.intro (And.intro (zE enc_40 4 ((s74 n (⟨2,zaq (zbz [(enc_3 from_a1),(enc_3 to)])⟩:(Sl Int))).1.Net.Ties.get)) (And.intro (rfl:((false,1,false,[none]):MQ)=(false,1,false,[none])) (And.intro (zlt:zad (s76 (⟨(s74 n (⟨2,zaq (zbz [(enc_3 from_a1),(enc_3 to)])⟩:(Sl Int))).1.Net,((s74 n (⟨2,zaq (zbz [(enc_3 from_a1),(enc_3 to)])⟩:(Sl Int))).1.out)⟩:web) from_a1)=zad (za5 (zad (s76 (⟨(s74 n (⟨2,zaq (zbz [(enc_3 from_a1),(enc_3 to)])⟩:(Sl Int))).1.Net,((s74 n (⟨2,zaq (zbz [(enc_3 from_a1),(enc_3 to)])⟩:(Sl Int))).1.out)⟩:web) from_a1)))) hc))) ((zfu hk):Wk K [.one (.sl ((s84 (za5 (zad (s76 (⟨(s74 n (⟨2,zaq (zbz [(enc_3 from_a1),(enc_3 to)])⟩:(Sl Int))).1.Net,((s74 n (⟨2,zaq (zbz [(enc_3 from_a1),(enc_3 to)])⟩:(Sl Int))).1.out)⟩:web) from_a1))) (⟨(s74 n (⟨2,zaq (zbz [(enc_3 from_a1),(enc_3 to)])⟩:(Sl Int))).1.Net,((s74 n (⟨2,zaq (zbz [(enc_3 from_a1),(enc_3 to)])⟩:(Sl Int))).1.out)⟩:web)).len) 1 (fun i=>enc_3 ((s84 (za5 (zad (s76 (⟨(s74 n (⟨2,zaq (zbz [(enc_3 from_a1),(enc_3 to)])⟩:(Sl Int))).1.Net,((s74 n (⟨2,zaq (zbz [(enc_3 from_a1),(enc_3 to)])⟩:(Sl Int))).1.out)⟩:web) from_a1))) (⟨(s74 n (⟨2,zaq (zbz [(enc_3 from_a1),(enc_3 to)])⟩:(Sl Int))).1.Net,((s74 n (⟨2,zaq (zbz [(enc_3 from_a1),(enc_3 to)])⟩:(Sl Int))).1.out)⟩:web)).get i))),.one (.int .i64 (0:Int))])))))))))) (fun hs hk=>(zaX hs fun hc hs=>And.intro (And.intro (zE enc_40 4 n.Ties.get) (And.intro ((zdL []):IsE enc_3 1 1 (zbz [(enc_3 from_a1),(enc_3 to)])) hc)) (zc hs hk (fun hs hk=>((wk hk (zgx (.one (.nil _ _)) (zgx (.one (.rfl _)) zm1))):Wk K [.one (.nils),.one (.int .i64 ((s74 n (⟨2,zaq (zbz [(enc_3 from_a1),(enc_3 to)])⟩:(Sl Int))).2))])) (fun hs hk=>(absurd hs Bool.false_ne_true:False))))))
def zCm : List PA → COut
  | [.agg [.int .i64 a0_Nodes,.sl a0_Ties_n a0_Ties_s a0_Ties_g],.one (.int .i64 a1),.one (.int .i64 a2)]=>.det (IsE enc_40 4 a0_Ties_s a0_Ties_g∧p45 (⟨a0_Nodes,(⟨a0_Ties_n,zaa a0_Ties_g⟩:(Sl Tie))⟩:Net) a1 a2=true) [.one (.sl (((s45 (⟨a0_Nodes,(⟨a0_Ties_n,zaa a0_Ties_g⟩:(Sl Tie))⟩:Net) a1 a2).1).len) 1 (fun i=>enc_3 (((s45 (⟨a0_Nodes,(⟨a0_Ties_n,zaa a0_Ties_g⟩:(Sl Tie))⟩:Net) a1 a2).1).get i))),.one (.int .i64 ((s45 (⟨a0_Nodes,(⟨a0_Ties_n,zaa a0_Ties_g⟩:(Sl Tie))⟩:Net) a1 a2).2))]
  | _=>.no
theorem zFt:zan Tryd.prog 45:=⟨_,rfl,rfl,by kernel_rfl⟩
theorem zID:Ok Tryd.prog 45 zCm:=zgK zHa zFt fun args K h=>by
  unfold zCm at h
  split at h
  · rename_i a0_Nodes a0_Ties_n a0_Ties_s a0_Ties_g a1 a2
    obtain ⟨⟨⟨rfl,a0_Ties_f,rfl⟩,hs⟩,hk⟩:=h
    try rw [zaj a0_Ties_f] at hs
    try rw [zaj a0_Ties_f] at hk
    exact ⟨_,zeM zft _,(fun _ _=>[]),(fun _=>false),zFs,q45 (⟨a0_Nodes,(⟨a0_Ties_n,a0_Ties_f⟩:(Sl Tie))⟩:Net) a1 a2 K hs hk⟩
  · exact h.elim
abbrev T49:Tabs:=(((Tabs.nil.addF 67 zou).addF 88 zux).addF 89 zy0)
theorem zHb:TabsOk Tryd.prog T49:=(((TabsOk.nil.addF zEy).addF zGC).addF zHT)
abbrev G49:Ctrs:=csm T49 (fun _ _=>[]) (fun _=>false)
def zCn:Ann:=⟨31,[(0,zK [1] [1]),(1,zK [1,10] [1]),(2,zK [2,3] []),(3,zK [4] [13]),(4,zK [4,16] [13]),(5,zK [2,3] []),(6,zK [4,5] [13]),(7,zK [5,18,19,20] []),(8,zK [5,18,19,20,21] [28]),(9,zK [5,7,18,19,20] [7,28]),(10,zK [5,18,19,20] [28]),(11,zK [5,18,19,20] [28]),(12,zK [2,3] [28])],
 [(8,⟨[5,18,19,20],[28],[(5,28,75,fun _=>zaO default)],[],[],[],[]⟩)],
 [(2,zK [1,10] [1]),(3,zK [1] [1]),(5,zK [4,16] [13]),(6,zK [4] [13]),(8,zK [5,18,19,20] [])],
 [],[]⟩
abbrev R49:=((Sl Use)×Int)
abbrev e49 (r:R49):List PA:=[.one (.sl r.1.len 2 (fun i=>zaO (r.1.get i))),.one (.int .i64 r.2)]
@[irreducible] def z49:=ptF Tryd.prog G49 zCn Tryd.f49
def zzY (zcq:(Sl step)) (zcy:Int) (zc3:Int) (zcH:(Sl Use)) (ze7:Nat→List PV):St:=⟨[(5,zv 28),(18,zS zae 5 zcq),(19,zI zcy),(20,zI zc3)],[(28,.vec 75 2 16 zcH.len ze7)],[]⟩
abbrev zFu (K:List PA→Prop) (zcq:(Sl step)) (zcy:Int) (X:St→Prop) (P:Int→(Sl Use)→Bool) (S:Int→(Sl Use)→((Sl Use)×Int)):Prop:=∀ ⦃zc3:Int⦄ ⦃zcH:(Sl Use)⦄ ⦃ze7:Nat→List PV⦄,P zc3 zcH=true→K (e49 (S zc3 zcH))→ze7=zg zaO zcH→X (zzY zcq zcy zc3 zcH ze7)
section
variable {K:List PA→Prop} {n:Net} {zaA:Bool} {zpN:Bool} {zcq:(Sl step)} {zcy:Int} {zwM:Nat→List PV} {zc3:Int} {zcH:(Sl Use)} {ze7:Nat→List PV} {X5:St→Prop} {P5:Int→(Sl Use)→Bool} {S5:Int→(Sl Use)→((Sl Use)×Int)}
def zwN (zcq:(Sl step)) (zcy:Int) (S5:Int→(Sl Use)→((Sl Use)×Int)) (zc3:Int) (zcH:(Sl Use)):((Sl Use)×Int) :=
  (cond (decide (zc3 < zcy))
 (S5 (w64 (zc3+(1:Int))) (⟨(zcH.len+1),(zsn zcH.len zcH.get (fun _=>(zcq.get zc3.toNat).Use))⟩:Sl Use))
 (zcH,(0:Int)))
def zwO (zcq:(Sl step)) (zcy:Int) (P5:Int→(Sl Use)→Bool) (zc3:Int) (zcH:(Sl Use)):Bool :=
  (cond (decide (zc3 < zcy))
 (decide ((0≤zc3∧zc3 < (zcq.len:Int))) &&
 (decide (((zcH.len+1) * 16≤140737488355328∧zcH.len+1≤9223372036854775807)) &&
 (P5 (w64 (zc3+(1:Int))) (⟨(zcH.len+1),(zsn zcH.len zcH.get (fun _=>(zcq.get zc3.toNat).Use))⟩:Sl Use))))
 true)
def zwP (zcq:(Sl step)) (zcy:Int):Nat→Int→(Sl Use)→((Sl Use)×Int):=lpO (fun _ _=>default) (zwN zcq zcy)
def zwQ (zcq:(Sl step)) (zcy:Int):Nat→Int→(Sl Use)→Bool:=lpO (fun _ _=>false) (zwO zcq zcy)
def zwR (zcq:(Sl step)) (zcy:Int) (zc3:Int) (zcH:(Sl Use)):((Sl Use)×Int):=zwP zcq zcy Fuel zc3 zcH
def zwS (zcq:(Sl step)) (zcy:Int) (zc3:Int) (zcH:(Sl Use)):Bool:=zwQ zcq zcy Fuel zc3 zcH
theorem zCo (hs:zwS zcq zcy zc3 zcH=true) (hk:K (e49 (zwR zcq zcy zc3 zcH))) (zpO:ze7=zg zaO zcH):z49 (Wk K) [1,1,1,1,1,0,1,0] [] (zzY zcq zcy zc3 zcH ze7) :=
  zl (fun X=>z49 (Wk K) [1,1,1,1,1,0,1,0,0] [X]) (by kernel_rfl) fun X5 hX =>
  (show ∀ k, zFu K zcq zcy X5 (zwQ zcq zcy k) (zwP zcq zcy k) from zjV _ _ (zwO zcq zcy) (zwN zcq zcy) (zFu K zcq zcy X5)
 (by intro _ _ _ hs;exact absurd hs Bool.false_ne_true)
 (by intro P5 S5 hX5 zc3 zcH ze7 hs hk zpO;subst zpO;exact hX _ (za9 (by kernel_rfl) (zc hs hk (fun hs hk=>(zaX hs fun hc hs=>And.intro hc (zaX hs fun hc hs=>And.intro hc (hX5 hs hk (zm0 (enc:=zaO) (f:=zcH.get) (h:=(fun _=>(zcq.get zc3.toNat).Use)) rfl rfl))))) (fun hs hk=>((zfu hk):Wk K [.one (.sl zcH.len 2 (fun i=>zaO (zcH.get i))),.one (.int .i64 (0:Int))])))))) _ hs hk zpO
def zwT (zcq:(Sl step)) (zcy:Int):((Sl Use)×Int) :=
  (zwR zcq zcy (0:Int) (⟨0,(fun _=>default)⟩:Sl Use))
def zwU (zcq:(Sl step)) (zcy:Int):Bool :=
  (zwS zcq zcy (0:Int) (⟨0,(fun _=>default)⟩:Sl Use))
theorem zCp (hs:zwU zcq zcy=true) (hk:K (e49 (zwT zcq zcy))) (zCq:zwM=zg zae zcq):z49 (Wk K) [1,1,1,1,1,0,1] [] ⟨[(5,zP (.nils)),(18,zP (.sl zcq.len 5 zwM)),(19,zI zcy),(20,zI (0:Int))],[],[]⟩:=by subst zCq;exact za9 (by kernel_rfl) (zCo hs hk rfl)
def zwV (n:Net):((Sl Use)×Int) :=
  (zwT (s89 (⟨n,(⟨0,(fun _=>none)⟩:Mp)⟩:web)) ((s89 (⟨n,(⟨0,(fun _=>none)⟩:Mp)⟩:web)).len:Int))
def zwW (n:Net):Bool :=
  (decide ((p89 (⟨n,(⟨0,(fun _=>none)⟩:Mp)⟩:web)=true)) &&
 (zwU (s89 (⟨n,(⟨0,(fun _=>none)⟩:Mp)⟩:web)) ((s89 (⟨n,(⟨0,(fun _=>none)⟩:Mp)⟩:web)).len:Int)))
theorem zCr (hs:zwW n=true) (hk:K (e49 (zwV n))):z49 (Wk K) [1,1,1,1] [] ⟨[(4,zp 13 0)],[(13,.box 105 (zm (zat (⟨n,(⟨0,(fun _=>none)⟩:Mp)⟩:web))))],[]⟩:=za9 (by kernel_rfl) (zaX hs fun hc hs=>And.intro (And.intro ((fun _=>rfl):(∀ i,sc2 ((fun i=>zae ((s89 (⟨n,(⟨0,(fun _=>none)⟩:Mp)⟩:web)).get i)) i)=true)) (And.intro (zE enc_40 4 n.Ties.get) (And.intro (rfl:((false,1,false,[none]):MQ)=(false,1,false,[none])) hc))) (zCp hs hk rfl))
def zwX (n:Net) (zpN:Bool):((Sl Use)×Int) :=
  (cond zpN
 ((⟨0,fun _=>default⟩:(Sl Use)),(6:Int))
 (zwV n))
def zwY (n:Net) (zpN:Bool):Bool :=
  (cond zpN
 true
 (zwW n))
theorem zCs (hs:zwY n zpN=true) (hk:K (e49 (zwX n zpN))):z49 (Wk K) [1,1,1,0,1] [] ⟨[(4,zp 13 0),(16,zB zpN)],[(13,.box 105 (zm (zat (⟨n,(⟨0,(fun _=>none)⟩:Mp)⟩:web))))],[]⟩:=za9 (by kernel_rfl) (zc hs hk (fun hs hk=>((wk hk (zgx (.one (.nil _ _)) (zgx (.one (.rfl _)) zm1))):Wk K [.one (.nils),.one (.int .i64 (6:Int))])) (fun hs hk=>(zCr hs hk)))
def zwZ (n:Net):((Sl Use)×Int) :=
  (zwX n (!(s88 (⟨n,(⟨0,(fun _=>none)⟩:Mp)⟩:web))))
def zw0 (n:Net):Bool :=
  (decide ((p88 (⟨n,(⟨0,(fun _=>none)⟩:Mp)⟩:web)=true)) &&
 (zwY n (!(s88 (⟨n,(⟨0,(fun _=>none)⟩:Mp)⟩:web)))))
theorem zCt (hs:zw0 n=true) (hk:K (e49 (zwZ n))):z49 (Wk K) [1,1] [] ⟨[(1,zp 1 0)],[(1,.box 24 (zm (enc_24 n)))],[]⟩:=za9 (by kernel_rfl) (zaX hs fun hc hs=>And.intro (And.intro (zE enc_40 4 n.Ties.get) (And.intro (rfl:((false,1,false,[none]):MQ)=(false,1,false,[none])) hc)) (zCs hs hk))
def zw1 (n:Net) (zaA:Bool):((Sl Use)×Int) :=
  (cond zaA
 ((⟨0,fun _=>default⟩:(Sl Use)),(2:Int))
 (zwZ n))
def zw2 (n:Net) (zaA:Bool):Bool :=
  (cond zaA
 true
 (zw0 n))
theorem zCu (hs:zw2 n zaA=true) (hk:K (e49 (zw1 n zaA))):z49 (Wk K) [1,0,1] [] ⟨[(1,zp 1 0),(10,zB zaA)],[(1,.box 24 (zm (enc_24 n)))],[]⟩:=za9 (by kernel_rfl) (zc hs hk (fun hs hk=>((wk hk (zgx (.one (.nil _ _)) (zgx (.one (.rfl _)) zm1))):Wk K [.one (.nils),.one (.int .i64 (2:Int))])) (fun hs hk=>(zCt hs hk)))
def s49 (n:Net):((Sl Use)×Int) :=
  (zw1 n (!(s67 n)))
def p49 (n:Net):Bool :=
  (decide ((p67 n=true)) &&
 (zw2 n (!(s67 n))))
end
theorem q49 (n:Net) (K:List PA→Prop) (hs:p49 n=true) (hk:K (e49 (s49 n))):vcFun Tryd.prog G49 zCn 49 [.agg (enc_24 n)] (Wk K) :=
  za9 (by kernel_rfl) (zaX hs fun hc hs=>And.intro (And.intro (zE enc_40 4 n.Ties.get) hc) (zCu hs hk))
def zCv : List PA → COut
  | [.agg [.int .i64 a0_Nodes,.sl a0_Ties_n a0_Ties_s a0_Ties_g]]=>.det (IsE enc_40 4 a0_Ties_s a0_Ties_g∧p49 (⟨a0_Nodes,(⟨a0_Ties_n,zaa a0_Ties_g⟩:(Sl Tie))⟩:Net)=true) [.one (.sl (((s49 (⟨a0_Nodes,(⟨a0_Ties_n,zaa a0_Ties_g⟩:(Sl Tie))⟩:Net)).1).len) 2 (fun i=>zaO (((s49 (⟨a0_Nodes,(⟨a0_Ties_n,zaa a0_Ties_g⟩:(Sl Tie))⟩:Net)).1).get i))),.one (.int .i64 ((s49 (⟨a0_Nodes,(⟨a0_Ties_n,zaa a0_Ties_g⟩:(Sl Tie))⟩:Net)).2))]
  | _=>.no
theorem zFv:zan Tryd.prog 49:=⟨_,rfl,rfl,by kernel_rfl⟩
theorem zIE:Ok Tryd.prog 49 zCv:=zgK zHb zFv fun args K h=>by
  unfold zCv at h
  split at h
  · rename_i a0_Nodes a0_Ties_n a0_Ties_s a0_Ties_g
    obtain ⟨⟨⟨rfl,a0_Ties_f,rfl⟩,hs⟩,hk⟩:=h
    try rw [zaj a0_Ties_f] at hs
    try rw [zaj a0_Ties_f] at hk
    exact ⟨_,zeM zft _,(fun _ _=>[]),(fun _=>false),zCn,q49 (⟨a0_Nodes,(⟨a0_Ties_n,a0_Ties_f⟩:(Sl Tie))⟩:Net) K hs hk⟩
  · exact h.elim
abbrev T53:Tabs:=Tabs.nil
theorem zHc:TabsOk Tryd.prog T53:=TabsOk.nil
abbrev G53:Ctrs:=csm T53 (fun _ _=>[]) (fun _=>false)
def zCw:Ann:=⟨26,[(0,zK [0,1] []),(1,zK [0,1,10] []),(2,zK [4] []),(3,zK [0,1,5] []),(4,zK [0,1,5,14] []),(5,zK [0,1,5] []),(6,zK [0,1,5,25] []),(7,zK [4] []),(8,zK [4] [])],
 [(4,zK [0,1,5] [])],
 [(3,zK [0,1] [])],
 [],[]⟩
abbrev R53:=Bool
abbrev e53 (r:R53):List PA:=[.one (.bool r)]
@[irreducible] def z53:=ptF Tryd.prog G53 zCw Tryd.f53
def zzZ (a:(Sl Use)) (b:(Sl Use)) (iv1:Int):St:=⟨[(0,zS zaO 2 a),(1,zS zaO 2 b),(5,zI iv1)],[],[]⟩
abbrev zFw (K:List PA→Prop) (a:(Sl Use)) (b:(Sl Use)) (X:St→Prop) (P:Int→Bool) (S:Int→Bool):Prop:=∀ ⦃iv1:Int⦄,P iv1=true→K (e53 (S iv1))→X (zzZ a b iv1)
section
variable {K:List PA→Prop} {a:(Sl Use)} {b:(Sl Use)} {iv1:Int} {X1:St→Prop} {P1:Int→Bool} {S1:Int→Bool}
def zw3 (a:(Sl Use)) (b:(Sl Use)) (S1:Int→Bool) (iv1:Int):Bool :=
  (cond (decide (iv1 < (a.len : Int)))
 (cond (!(match ((a.get iv1.toNat).Tie == (b.get iv1.toNat).Tie) with | true => (match ((a.get iv1.toNat).Back == (b.get iv1.toNat).Back) with | true => true | false => false) | false => false))
 false
 (S1 (w64 (iv1+(1:Int)))))
 true)
def zw4 (a:(Sl Use)) (b:(Sl Use)) (P1:Int→Bool) (iv1:Int):Bool :=
  (cond (decide (iv1 < (a.len : Int)))
 (decide ((0≤iv1∧iv1 < (a.len:Int))) &&
 (decide ((0≤iv1∧iv1 < (b.len:Int))) &&
 (cond (!(match ((a.get iv1.toNat).Tie == (b.get iv1.toNat).Tie) with | true => (match ((a.get iv1.toNat).Back == (b.get iv1.toNat).Back) with | true => true | false => false) | false => false))
 true
 (P1 (w64 (iv1+(1:Int)))))))
 true)
def zw5 (a:(Sl Use)) (b:(Sl Use)):Nat→Int→Bool:=lpO (fun _=>default) (zw3 a b)
def zw6 (a:(Sl Use)) (b:(Sl Use)):Nat→Int→Bool:=lpO (fun _=>false) (zw4 a b)
def zw7 (a:(Sl Use)) (b:(Sl Use)) (iv1:Int):Bool:=zw5 a b Fuel iv1
def zw8 (a:(Sl Use)) (b:(Sl Use)) (iv1:Int):Bool:=zw6 a b Fuel iv1
theorem zCx (hs:zw8 a b iv1=true) (hk:K (e53 (zw7 a b iv1))):z53 K [1,1,0,1,0] [] (zzZ a b iv1) :=
  zl (fun X=>z53 K [1,1,0,1,0,0] [X]) (by kernel_rfl) fun X1 hX =>
  (show ∀ k, zFw K a b X1 (zw6 a b k) (zw5 a b k) from zjV _ _ (zw4 a b) (zw3 a b) (zFw K a b X1)
 (by intro _ hs;exact absurd hs Bool.false_ne_true)
 (by intro P1 S1 hX1 iv1 hs hk;exact hX _ (za9 (by kernel_rfl) (zc hs hk (fun hs hk=>(zaX hs fun hc hs=>And.intro hc (zaX hs fun hc hs=>And.intro hc (zc hs hk (fun hs hk=>hk) (fun hs hk=>(hX1 hs hk)))))) (fun hs hk=>hk))))) _ hs hk
def zw9 (a:(Sl Use)) (b:(Sl Use)):Bool :=
  (zw7 a b (0:Int))
def zxa (a:(Sl Use)) (b:(Sl Use)):Bool :=
  (zw8 a b (0:Int))
theorem zCy (hs:zxa a b=true) (hk:K (e53 (zw9 a b))):z53 K [1,1] [] ⟨[(0,zS zaO 2 a),(1,zS zaO 2 b)],[],[]⟩:=za9 (by kernel_rfl) (zCx hs hk)
def s53 (a:(Sl Use)) (b:(Sl Use)):Bool :=
  (cond ((a.len : Int) != (b.len : Int))
 false
 (zw9 a b))
def p53 (a:(Sl Use)) (b:(Sl Use)):Bool :=
  (cond ((a.len : Int) != (b.len : Int))
 true
 (zxa a b))
end
theorem q53 (a:(Sl Use)) (b:(Sl Use)) (K:List PA→Prop) (hs:p53 a b=true) (hk:K (e53 (s53 a b))):vcFun Tryd.prog G53 zCw 53 [.one (.sl a.len 2 (fun i=>zaO (a.get i))),.one (.sl b.len 2 (fun i=>zaO (b.get i)))] K :=
  za9 (by kernel_rfl) (zc hs hk (fun hs hk=>hk) (fun hs hk=>(zCy hs hk)))
def zCz : List PA → COut
  | [.one (.sl a0_n a0_s a0_g),.one (.sl a1_n a1_s a1_g)]=>.det (IsE zaO 2 a0_s a0_g∧IsE zaO 2 a1_s a1_g∧p53 (⟨a0_n,zcO a0_g⟩:(Sl Use)) (⟨a1_n,zcO a1_g⟩:(Sl Use))=true) [.one (.bool (s53 (⟨a0_n,zcO a0_g⟩:(Sl Use)) (⟨a1_n,zcO a1_g⟩:(Sl Use))))]
  | _=>.no
theorem zFx:zan Tryd.prog 53:=⟨_,rfl,rfl,by kernel_rfl⟩
theorem zIF:Ok Tryd.prog 53 zCz:=zbr zHc zFx fun args K h=>by
  unfold zCz at h
  split at h
  · rename_i a0_n a0_s a0_g a1_n a1_s a1_g
    obtain ⟨⟨⟨rfl,a0_f,rfl⟩,⟨rfl,a1_f,rfl⟩,hs⟩,hk⟩:=h
    try rw [zcP a0_f] at hs
    try rw [zcP a0_f] at hk
    try rw [zcP a1_f] at hs
    try rw [zcP a1_f] at hk
    exact ⟨(fun _ _=>[]),(fun _=>false),zCw,q53 (⟨a0_n,a0_f⟩:(Sl Use)) (⟨a1_n,a1_f⟩:(Sl Use)) K hs hk⟩
  · exact h.elim
abbrev T92:Tabs:=((Tabs.nil.addF 93 zm3).addI 110 zm5)
theorem zHd:TabsOk Tryd.prog T92:=((TabsOk.nil.addF zDF).addI zsq)
abbrev G92:Ctrs:=csm T92 (fun _ _=>[]) (fun _=>false)
def zhD:Ann:=⟨49,[(0,⟨[0,1,2,3,4],[0,1,2,3,4,4099],[],[],[],[],[]⟩),(1,⟨[0,1,2,3,4,7],[0,1,2,3,4,4099],[],[],[],[],[]⟩),(2,⟨[0,1,2,3,4,5,7],[0,1,2,3,4,5,4099],[],[],[],[],[]⟩),(3,⟨[0,1,2,3,4,5,7,41],[0,1,2,3,4,5,4099],[],[],[],[],[]⟩),(4,⟨[0,1,2,3,4,5],[0,1,2,3,4,5,4099],[],[],[],[],[]⟩),(5,⟨[0,1,2,3,4],[0,1,2,3,4,4099],[],[],[],[],[]⟩),(6,⟨[0,1,2,3,4],[0,1,2,3,4,4099],[],[],[],[],[]⟩),(7,⟨[0,1,2,3,4],[0,1,2,3,4,4099],[],[],[],[],[]⟩)],
 [(2,⟨[0,1,2,3,4,7],[0,1,2,3,4,4099],[],[],[],[],[]⟩)],
 [],
 [],[]⟩
def ze8 (w:web) (at_:Int) (d:Tab) (out:(Sl Use)):St:=⟨[(0,.one (.c (.ptr 0 0))),(1,.one (.c (.ptr 1 0))),(2,.one (.c (.ptr 2 0))),(3,.one (.c (.ptr 3 0))),(4,.one (.c (.ptr 4 0))),(7,.one (.c (.p (.fn 110 [] [.fp [.fp (zat w) 0] 0]))))],[(0,.box 102 [.p (.fp (zat w) 0)]),(1,.box 3 [.p (.int .i64 at_)]),(2,.box 116 (zm (zad d))),(3,.box 67 [.vec 4099]),(4,.box 4 [.p (.bool false)]),(4099,.vec 75 2 16 out.len (fun i=>zaO (out.get i)))],[]⟩
def zjO (K:List PA×List XA→Prop) (w:web) (at_:Int) (d:Tab) (out:(Sl Use)):Prop:=vc Tryd.prog G92 zhD (cdF Tryd.f92 [1,0,1,0]) (zai 0 (sqK Tryd.prog G92 zhD (cdF Tryd.f92 [1,1]) (zj0 Tryd.prog Tryd.f92 [.box 102 [.p (.fp (zat w) 0)],.box 3 [.p (.int .i64 at_)],.box 116 (xcm (zad d)),.box 67 [.vec 75 2 16 out.len (fun i=>zaO (out.get i))]] (fun a b=>K (a,b))))) (ze8 w at_ d out)
theorem zCA (w : web) (at_ : Int) (d : Tab) (out : (Sl Use)) (K : List PA × List XA → Prop) :
  ziK Tryd.prog G92 zhD 92 [.box 102 [.p (.fp (zat w) 0)],.box 3 [.p (.int .i64 at_)],.box 116 (xcm (zad d)),.box 67 [.vec 75 2 16 out.len (fun i=>zaO (out.get i))]] (fun a b=>K (a,b)) =
  ((IsE enc_40 4 4 (fun i=>enc_40 (w.Net.Ties.get i))∧((false,1,false,[none]):MQ)=(false,1,false,[none])) ∧
 (zjO K w at_ d out)):=by kernel_rfl
def znF (K:List PA×List XA→Prop) (w:web) (at_:Int) (d:Tab) (out:(Sl Use)):Prop :=
  (K ([.one (.bool false)],[.box 102 [.p (.fp (zat w) 0)],.box 3 [.p (.int .i64 at_)],.box 116 (xcm (zad d)),.box 67 [.vec 75 2 16 out.len (fun i=>zaO (out.get i))]]))
def znG (K:List PA×List XA→Prop) (X0:List (List PA)→St→Prop) (y0:step) (rest0:List (List PA)) (w:web) (at_:Int) (d:Tab) (out:(Sl Use)):Prop :=
  (zbA (y0.from_ == at_)
 (((0≤y0.to∧y0.to < (40:Int))) ∧
 (zbA (!(match ((tg 80 d (0 + y0.to.toNat * 2 + 0)) == (1000000000000:Int)) with | true => (match ((tg 80 d (0 + y0.to.toNat * 2 + 0 + 1)) == (0:Int)) with | true => true | false => false) | false => false))
 (((0≤y0.to∧y0.to < (40:Int))) ∧
 (((0≤y0.to∧y0.to < (40:Int))) ∧
 (((0≤at_∧at_ < (40:Int))) ∧
 (zbA (match ((w64 ((tg 80 d (0 + y0.to.toNat * 2 + 0)) + y0.length)) == (tg 80 d (0 + at_.toNat * 2 + 0))) with | true => (match ((w64 ((tg 80 d (0 + y0.to.toNat * 2 + 1)) + (1:Int))) == (tg 80 d (0 + at_.toNat * 2 + 0 + 1))) with | true => true | false => false) | false => false)
 ((((out.len+1) * 16≤140737488355328∧out.len+1≤9223372036854775807)) ∧
 (K ([.one (.bool true)],[.box 102 [.p (.fp (zat w) 0)],.box 3 [.p (.int .i64 y0.to)],.box 116 (xcm (zad d)),.box 67 [.vec 75 2 16 (out.len+1) (appG out.len (fun i=>zaO (out.get i)) (fun _=>(zaO y0.Use)))]])))
 (X0 rest0 (ze8 w at_ d out))))))
 (X0 rest0 (ze8 w at_ d out))))
 (X0 rest0 (ze8 w at_ d out)))
theorem zpP (K:List PA×List XA→Prop) (w:web) (at_:Int) (d:Tab) (out:(Sl Use)):(zai 0 (sqK Tryd.prog G92 zhD (cdF Tryd.f92 [1,1]) (zj0 Tryd.prog Tryd.f92 [.box 102 [.p (.fp (zat w) 0)],.box 3 [.p (.int .i64 at_)],.box 116 (xcm (zad d)),.box 67 [.vec 75 2 16 out.len (fun i=>zaO (out.get i))]] (fun a b=>K (a,b))))) .normal (ze8 w at_ d out)=znF K w at_ d out:=by kernel_rfl
theorem zpQ (K : List PA × List XA → Prop) (X0 : List (List PA) → St → Prop) (y0 : step) (rest0 : List (List PA)) (w : web) (at_ : Int) (d : Tab) (out : (Sl Use)) :
  zsD Tryd.prog G92 zhD 2 [8] (cd (cdF Tryd.f92 [1,0,1,0]) [0]) (cd (cdF Tryd.f92 [1,0,1,0]) [1]) X0 (zai 0 (sqK Tryd.prog G92 zhD (cdF Tryd.f92 [1,1]) (zj0 Tryd.prog Tryd.f92 [.box 102 [.p (.fp (zat w) 0)],.box 3 [.p (.int .i64 at_)],.box 116 (xcm (zad d)),.box 67 [.vec 75 2 16 out.len (fun i=>zaO (out.get i))]] (fun a b=>K (a,b))))) [.agg (zae y0)] rest0 (ze8 w at_ d out)=znG K X0 y0 rest0 w at_ d out:=by kernel_rfl
theorem zxb (K : List PA × List XA → Prop) (w : web) (at_ : Int) (d : Tab) (out : (Sl Use))
  (hsafe:IsE enc_40 4 4 (fun i=>enc_40 (w.Net.Ties.get i))∧((false,1,false,[none]):MQ)=(false,1,false,[none])∧(zj1 w=true)) (h:∀ X0:List (List PA)→St→Prop,(∀ (_:Unit),znF K w at_ d out→X0 [] (ze8 w at_ d out))→(∀ (y:step) (rest:List (List PA)) (_:Unit),znG K X0 y rest w at_ d out→X0 ([.agg (zae y)] :: rest) (ze8 w at_ d out))→X0 ((zgP w).map fun y=>[.agg (zae y)]) (ze8 w at_ d out)) :
  zjO K w at_ d out:=by
  have e:zjO K w at_ d out=((IsE enc_40 4 4 (fun i=>enc_40 (w.Net.Ties.get i))∧((false,1,false,[none]):MQ)=(false,1,false,[none])∧(zj1 w=true))∧∀ X:List (List PA)→St→Prop,(∀ s,(zai 0 (sqK Tryd.prog G92 zhD (cdF Tryd.f92 [1,1]) (zj0 Tryd.prog Tryd.f92 [.box 102 [.p (.fp (zat w) 0)],.box 3 [.p (.int .i64 at_)],.box 116 (xcm (zad d)),.box 67 [.vec 75 2 16 out.len (fun i=>zaO (out.get i))]] (fun a b=>K (a,b))))) .normal s→X [] s)→(∀ y rest s,zsD Tryd.prog G92 zhD 2 [8] (cd (cdF Tryd.f92 [1,0,1,0]) [0]) (cd (cdF Tryd.f92 [1,0,1,0]) [1]) X (zai 0 (sqK Tryd.prog G92 zhD (cdF Tryd.f92 [1,1]) (zj0 Tryd.prog Tryd.f92 [.box 102 [.p (.fp (zat w) 0)],.box 3 [.p (.int .i64 at_)],.box 116 (xcm (zad d)),.box 67 [.vec 75 2 16 out.len (fun i=>zaO (out.get i))]] (fun a b=>K (a,b))))) y rest s→X (y :: rest) s)→X ((zgP w).map fun y=>[.agg (zae y)]) (ze8 w at_ d out)):=by kernel_rfl
  refine za9 e ⟨hsafe,?_⟩
  intro X h0 h1
  refine h X (fun _ hs=>h0 _ ?_) (fun y rest _ hs=>h1 _ rest _ ?_)
  · rw [zpP K w at_ d out];exact hs
  · have e2 := zpQ K X y rest w at_ d out
    rw [e2];exact hs
abbrev e92 (w:web) (d:Tab) (r:(Bool×Int×(Sl Use))):List PA×List XA:=([.one (.bool r.1)],[.box 102 [.p (.fp (zat w) 0)],.box 3 [.p (.int .i64 r.2.1)],.box 116 (xcm (zad d)),.box 67 [.vec 75 2 16 r.2.2.len (fun i=>zaO (r.2.2.get i))]])
attribute [irreducible] zjO
def zpR (w:web) (at_:Int) (d:Tab) (out:(Sl Use)):(Bool×Int×(Sl Use)) :=
  (false,at_,(⟨out.len,out.get⟩:(Sl Use)))
def zpS (w:web) (at_:Int) (d:Tab) (out:(Sl Use)):Bool :=
  true
def zpT (w:web) (at_:Int) (d:Tab) (out:(Sl Use)) (y0:step) (S0:(Bool×Int×(Sl Use))):(Bool×Int×(Sl Use)) :=
  (cond (y0.from_ == at_)
 (cond (!(match ((tg 80 d (0 + y0.to.toNat * 2 + 0)) == (1000000000000:Int)) with | true => (match ((tg 80 d (0 + y0.to.toNat * 2 + 0 + 1)) == (0:Int)) with | true => true | false => false) | false => false))
 (cond (match ((w64 ((tg 80 d (0 + y0.to.toNat * 2 + 0)) + y0.length)) == (tg 80 d (0 + at_.toNat * 2 + 0))) with | true => (match ((w64 ((tg 80 d (0 + y0.to.toNat * 2 + 1)) + (1:Int))) == (tg 80 d (0 + at_.toNat * 2 + 0 + 1))) with | true => true | false => false) | false => false)
 (true,y0.to,(⟨(out.len+1),(zsn out.len out.get (fun _=>y0.Use))⟩:(Sl Use)))
 (S0))
 (S0))
 (S0))
def zpU (w:web) (at_:Int) (d:Tab) (out:(Sl Use)) (y0:step) (P0:Bool):Bool :=
  (cond (y0.from_ == at_)
 (decide ((0≤y0.to∧y0.to < (40:Int))) &&
 (cond (!(match ((tg 80 d (0 + y0.to.toNat * 2 + 0)) == (1000000000000:Int)) with | true => (match ((tg 80 d (0 + y0.to.toNat * 2 + 0 + 1)) == (0:Int)) with | true => true | false => false) | false => false))
 (decide ((0≤y0.to∧y0.to < (40:Int))) &&
 (decide ((0≤y0.to∧y0.to < (40:Int))) &&
 (decide ((0≤at_∧at_ < (40:Int))) &&
 (cond (match ((w64 ((tg 80 d (0 + y0.to.toNat * 2 + 0)) + y0.length)) == (tg 80 d (0 + at_.toNat * 2 + 0))) with | true => (match ((w64 ((tg 80 d (0 + y0.to.toNat * 2 + 1)) + (1:Int))) == (tg 80 d (0 + at_.toNat * 2 + 0 + 1))) with | true => true | false => false) | false => false)
 (decide (((out.len+1) * 16≤140737488355328∧out.len+1≤9223372036854775807)) &&
 true)
 (P0)))))
 (P0)))
 (P0))
def zjP (w : web) (at_ : Int) (d : Tab) (out : (Sl Use)) : List step → (Bool × Int × (Sl Use))
  | []=>zpR w at_ d out
  | y :: r=>zpT w at_ d out y (zjP w at_ d out r)
def zjQ (w : web) (at_ : Int) (d : Tab) (out : (Sl Use)) : List step → Bool
  | []=>zpS w at_ d out
  | y :: r=>zpU w at_ d out y (zjQ w at_ d out r)
def zxc (w:web) (at_:Int) (d:Tab) (out:(Sl Use)):(Bool×Int×(Sl Use)):=zjP w at_ d out (zgP w)
def zpV (w:web) (at_:Int) (d:Tab) (out:(Sl Use)):Bool:=decide ((zj1 w=true)) && zjQ w at_ d out (zgP w)
theorem zCB (K:List PA×List XA→Prop) (w:web) (at_:Int) (d:Tab) (out:(Sl Use)) (hs:zpV w at_ d out=true) (hk:K (e92 w d (zxc w at_ d out))):zjO K w at_ d out:=by
  unfold zpV at hs
  rw [Bool.and_eq_true] at hs
  obtain ⟨hsf,hs⟩:=hs
  have hc:=of_decide_eq_true hsf
  refine zxb K w at_ d out ⟨isE,rfl,hc⟩ ?_
  intro X0 hexit hstep
  have key:∀ (l:List step),zjQ w at_ d out l=true→K (e92 w d (zjP w at_ d out l))→X0 (l.map fun y=>[.agg (zae y)]) (ze8 w at_ d out):=by
    intro l
    induction l with
    | nil =>
      intro hs hk
      refine hexit () ?_
      have hs:zpS w at_ d out=true:=hs
      have hk:K (e92 w d (zpR w at_ d out)):=hk
      unfold zpS at hs
      unfold zpR at hk
      exact hk
    | cons y0 l ih =>
      intro hs hk
      refine hstep y0 _ () ?_
      have hs:zpU w at_ d out y0 (zjQ w at_ d out l)=true:=hs
      have hk:K (e92 w d (zpT w at_ d out y0 (zjP w at_ d out l))):=hk
      unfold zpU at hs
      unfold zpT at hk
      generalize zjP w at_ d out l=S0 at hk ih
      generalize zjQ w at_ d out l=P0 at hs ih
      have hX0:=ih
      exact (zaM (K := fun r => K (e92 w d r))
 (fun hs hk => (zaX hs fun hc hs => ⟨hc, (zaM (K := fun r => K (e92 w d r))
 (fun hs hk => (zaX hs fun hc hs => ⟨hc, (zaX hs fun hc hs => ⟨hc, (zaX hs fun hc hs => ⟨hc, (zaM (K := fun r => K (e92 w d r))
 (fun hs hk=>(zaX hs fun hc hs=>⟨hc,(Eq.mpr (congrArg K (congrArg (fun (g_:Nat→List PV)=>(([.one (.bool true)],[.box 102 [.p (.fp (zat w) 0)],.box 3 [.p (.int .i64 y0.to)],.box 116 (xcm (zad d)),.box 67 [.vec 75 2 16 (out.len+1) g_]]):List PA×List XA)) (zm0 (enc:=zaO) (f:=out.get) (h:=(fun _=>y0.Use)) rfl rfl))) hk)⟩))
 (fun hs hk=>(hX0 hs hk)) hs hk)⟩)⟩)⟩))
 (fun hs hk=>(hX0 hs hk)) hs hk)⟩))
 (fun hs hk=>(hX0 hs hk)) hs hk)
  exact key _ hs hk
def s92 (w:web) (at_:Int) (d:Tab) (out:(Sl Use)):(Bool×Int×(Sl Use)) :=
  (zxc w at_ d out)
def p92 (w:web) (at_:Int) (d:Tab) (out:(Sl Use)):Bool :=
  (zpV w at_ d out)
theorem q92 (w:web) (at_:Int) (d:Tab) (out:(Sl Use)) (K:List PA×List XA→Prop) (hs:p92 w at_ d out=true) (hk:K (e92 w d (s92 w at_ d out))):ziK Tryd.prog G92 zhD 92 [.box 102 [.p (.fp (zat w) 0)],.box 3 [.p (.int .i64 at_)],.box 116 (xcm (zad d)),.box 67 [.vec 75 2 16 out.len (fun i=>zaO (out.get i))]] (fun a b=>K (a,b)):=by
  refine za9 (zCA w at_ d out K) ?_
  unfold p92 at hs
  unfold s92 at hk
  exact ⟨⟨isE,rfl⟩,(zCB K w at_ d out hs hk)⟩
def zCC : MK
  | [.box 102 [.p (.fp [.int .i64 b0_Net_Nodes,.sl b0_Net_Ties_n b0_Net_Ties_s b0_Net_Ties_g,.fm b0_out_q b0_out_n b0_out_F] 0)],.box 3 [.p (.int .i64 b1)],.box 116 b2_cs,.box 67 [.vec 75 2 16 b3_n b3_g]]=>some (IsE enc_40 4 b0_Net_Ties_s b0_Net_Ties_g∧b0_out_q=(false,1,false,[none])∧b2_cs=xcm (zad (za5 (unX b2_cs)))∧IsE zaO 2 2 b3_g∧p92 (⟨(⟨b0_Net_Nodes,(⟨b0_Net_Ties_n,zaa b0_Net_Ties_g⟩:(Sl Tie))⟩:Net),(⟨b0_out_n,b0_out_F⟩:Mp)⟩:web) b1 (za5 (unX b2_cs)) (⟨b3_n,zcO b3_g⟩:(Sl Use))=true,[.one (.bool ((s92 (⟨(⟨b0_Net_Nodes,(⟨b0_Net_Ties_n,zaa b0_Net_Ties_g⟩:(Sl Tie))⟩:Net),(⟨b0_out_n,b0_out_F⟩:Mp)⟩:web) b1 (za5 (unX b2_cs)) (⟨b3_n,zcO b3_g⟩:(Sl Use))).1))],[.box 102 [.p (.fp [.int .i64 b0_Net_Nodes,.sl b0_Net_Ties_n b0_Net_Ties_s b0_Net_Ties_g,.fm b0_out_q b0_out_n b0_out_F] 0)],.box 3 [.p (.int .i64 ((s92 (⟨(⟨b0_Net_Nodes,(⟨b0_Net_Ties_n,zaa b0_Net_Ties_g⟩:(Sl Tie))⟩:Net),(⟨b0_out_n,b0_out_F⟩:Mp)⟩:web) b1 (za5 (unX b2_cs)) (⟨b3_n,zcO b3_g⟩:(Sl Use))).2.1))],.box 116 b2_cs,.box 67 [.vec 75 2 16 (((s92 (⟨(⟨b0_Net_Nodes,(⟨b0_Net_Ties_n,zaa b0_Net_Ties_g⟩:(Sl Tie))⟩:Net),(⟨b0_out_n,b0_out_F⟩:Mp)⟩:web) b1 (za5 (unX b2_cs)) (⟨b3_n,zcO b3_g⟩:(Sl Use))).2.2).len) (fun i=>zaO (((s92 (⟨(⟨b0_Net_Nodes,(⟨b0_Net_Ties_n,zaa b0_Net_Ties_g⟩:(Sl Tie))⟩:Net),(⟨b0_out_n,b0_out_F⟩:Mp)⟩:web) b1 (za5 (unX b2_cs)) (⟨b3_n,zcO b3_g⟩:(Sl Use))).2.2).get i))]])
  | _=>none
theorem zFy:zan Tryd.prog 92:=⟨_,rfl,rfl,by kernel_rfl⟩
theorem zIG:zhB Tryd.prog 92 zCC:=zAK zHd zFy fun xs safe rs ys h hs K hk=>by
  unfold zCC at h
  split at h
  · rename_i b0_Net_Nodes b0_Net_Ties_n b0_Net_Ties_s b0_Net_Ties_g b0_out_q b0_out_n b0_out_F b1 b2_cs b3_n b3_g
    simp only [Option.some.injEq,Prod.mk.injEq] at h
    obtain ⟨rfl,rfl,rfl⟩:=h
    obtain ⟨⟨rfl,b0_Net_Ties_f,rfl⟩,rfl,hT_b2,⟨_,b3_f,rfl⟩,hs⟩:=hs
    try rw [zaj b0_Net_Ties_f] at hs
    try rw [zaj b0_Net_Ties_f] at hk
    try rw [zcP b3_f] at hs
    try rw [zcP b3_f] at hk
    refine ⟨fun _ _=>[],fun _=>false,zhD,?_⟩
    show ziK Tryd.prog G92 zhD 92 _ K
    have hq:=q92 (⟨(⟨b0_Net_Nodes,(⟨b0_Net_Ties_n,b0_Net_Ties_f⟩:(Sl Tie))⟩:Net),(⟨b0_out_n,b0_out_F⟩:Mp)⟩:web) b1 (za5 (unX b2_cs)) (⟨b3_n,b3_f⟩:(Sl Use)) (fun x=>K x.1 x.2) hs
    dsimp only [e92] at hq
    rw [← hT_b2] at hq
    exact hq hk
  · cases h
abbrev T54:Tabs:=(((Tabs.nil.addF 74 zv0).addF 75 zv9).addM 92 zCC)
theorem zHe:TabsOk Tryd.prog T54:=(((TabsOk.nil.addF zGZ).addF zG1).addM zIG)
abbrev G54:Ctrs:=csm T54 (fun _ _=>[]) (fun _=>false)
def zCD:Ann:=⟨45,[(0,zK [1,2,3] [3]),(1,zK [1,2,8,9] [8]),(2,zK [1,2,8,9,23] [8]),(3,zK [6,7] []),(4,zK [1,8,10] [8,10]),(5,zK [1,8,10,32] [8,10]),(6,zK [6,7] []),(7,zK [1,8,10,11] [8,10,11]),(8,zK [8,10,11,12] [8,10,11,12]),(9,zK [10,11,12,13] [8,10,11,12]),(10,zK [10,11,12,13,43] [8,10,11,12,5000]),(11,zK [6,7] [5000])],
 [(10,⟨[10,11,12,13],[8,10,11,12,5000],[],[(11,0,5000,75,fun _=>zaO default)],[],[],[]⟩)],
 [],
 [],[]⟩
abbrev R54:=((Sl Use)×Int)
abbrev e54 (r:R54):List PA:=[.one (.sl r.1.len 2 (fun i=>zaO (r.1.get i))),.one (.int .i64 r.2)]
@[irreducible] def z54:=ptF Tryd.prog G54 zCD Tryd.f54
def zz0 (n:Net) (from_a1:Int) (to:Int) (zfN:Int) (zaU:(Sl Use)) (dt0:Tab) (zcZ:Nat→List PV):St:=⟨[(10,zp 10 0),(11,zp 11 0),(12,zp 12 0),(13,.one (.c (.clo 92 [.b 8,.b 12,.b 10,.b 11])))],[(8,.box 102 [.p (.fp (zat (⟨(s74 n (⟨2,zaq (zbz [(enc_3 from_a1),(enc_3 to)])⟩:(Sl Int))).1.Net,((s74 n (⟨2,zaq (zbz [(enc_3 from_a1),(enc_3 to)])⟩:(Sl Int))).1.out)⟩:web)) 0)]),(10,.box 116 (zm (zad dt0))),(11,.box 67 [.vec 5000]),(12,.box 3 [zi zfN]),(5000,.vec 75 2 16 zaU.len zcZ)],[]⟩
abbrev zFz (K:List PA→Prop) (n:Net) (from_a1:Int) (to:Int) (X:St→Prop) (P:Int→(Sl Use)→Tab→Bool) (S:Int→(Sl Use)→Tab→((Sl Use)×Int)):Prop:=∀ ⦃zfN:Int⦄ ⦃zaU:(Sl Use)⦄ ⦃dt0:Tab⦄ ⦃zcZ:Nat→List PV⦄,P zfN zaU dt0=true→K (e54 (S zfN zaU dt0))→zcZ=zg zaO zaU→X (zz0 n from_a1 to zfN zaU dt0 zcZ)
section
variable {K:List PA→Prop} {n:Net} {from_a1:Int} {to:Int} {zfN:Int} {zaU:(Sl Use)} {dt0:Tab} {zcZ:Nat→List PV} {X0:St→Prop} {P0:Int→(Sl Use)→Tab→Bool} {S0:Int→(Sl Use)→Tab→((Sl Use)×Int)}
def zxd (n:Net) (from_a1:Int) (to:Int) (S0:Int→(Sl Use)→Tab→((Sl Use)×Int)) (zfN:Int) (zaU:(Sl Use)) (dt0:Tab):((Sl Use)×Int) :=
  (cond (decide ((tg 80 dt0 (0 + zfN.toNat * 2 + 1)) > (0:Int)))
 (cond ((s92 (⟨(s74 n (⟨2, zaq (zbz [(enc_3 from_a1), (enc_3 to)])⟩ : (Sl Int))).1.Net, ((s74 n (⟨2, zaq (zbz [(enc_3 from_a1), (enc_3 to)])⟩ : (Sl Int))).1.out)⟩ : web) zfN (za5 (unX (xcm (zad dt0)))) (⟨zaU.len, zaU.get⟩ : (Sl Use))).1)
 (S0 ((s92 (⟨(s74 n (⟨2,zaq (zbz [(enc_3 from_a1),(enc_3 to)])⟩:(Sl Int))).1.Net,((s74 n (⟨2,zaq (zbz [(enc_3 from_a1),(enc_3 to)])⟩:(Sl Int))).1.out)⟩:web) zfN (za5 (unX (xcm (zad dt0)))) (⟨zaU.len,zaU.get⟩:(Sl Use))).2.1) ((s92 (⟨(s74 n (⟨2,zaq (zbz [(enc_3 from_a1),(enc_3 to)])⟩:(Sl Int))).1.Net,((s74 n (⟨2,zaq (zbz [(enc_3 from_a1),(enc_3 to)])⟩:(Sl Int))).1.out)⟩:web) zfN (za5 (unX (xcm (zad dt0)))) (⟨zaU.len,zaU.get⟩:(Sl Use))).2.2) dt0)
 (((s92 (⟨(s74 n (⟨2,zaq (zbz [(enc_3 from_a1),(enc_3 to)])⟩:(Sl Int))).1.Net,((s74 n (⟨2,zaq (zbz [(enc_3 from_a1),(enc_3 to)])⟩:(Sl Int))).1.out)⟩:web) zfN (za5 (unX (xcm (zad dt0)))) (⟨zaU.len,zaU.get⟩:(Sl Use))).2.2),(0:Int)))
 (zaU,(0:Int)))
def zxe (n:Net) (from_a1:Int) (to:Int) (P0:Int→(Sl Use)→Tab→Bool) (zfN:Int) (zaU:(Sl Use)) (dt0:Tab):Bool :=
  (decide ((0≤zfN∧zfN < (40:Int))) &&
 (cond (decide ((tg 80 dt0 (0 + zfN.toNat * 2 + 1)) > (0:Int)))
 (decide ((p92 (⟨(s74 n (⟨2,zaq (zbz [(enc_3 from_a1),(enc_3 to)])⟩:(Sl Int))).1.Net,((s74 n (⟨2,zaq (zbz [(enc_3 from_a1),(enc_3 to)])⟩:(Sl Int))).1.out)⟩:web) zfN (za5 (unX (xcm (zad dt0)))) (⟨zaU.len,zaU.get⟩:(Sl Use))=true)) &&
 (cond ((s92 (⟨(s74 n (⟨2, zaq (zbz [(enc_3 from_a1), (enc_3 to)])⟩ : (Sl Int))).1.Net, ((s74 n (⟨2, zaq (zbz [(enc_3 from_a1), (enc_3 to)])⟩ : (Sl Int))).1.out)⟩ : web) zfN (za5 (unX (xcm (zad dt0)))) (⟨zaU.len, zaU.get⟩ : (Sl Use))).1)
 (P0 ((s92 (⟨(s74 n (⟨2,zaq (zbz [(enc_3 from_a1),(enc_3 to)])⟩:(Sl Int))).1.Net,((s74 n (⟨2,zaq (zbz [(enc_3 from_a1),(enc_3 to)])⟩:(Sl Int))).1.out)⟩:web) zfN (za5 (unX (xcm (zad dt0)))) (⟨zaU.len,zaU.get⟩:(Sl Use))).2.1) ((s92 (⟨(s74 n (⟨2,zaq (zbz [(enc_3 from_a1),(enc_3 to)])⟩:(Sl Int))).1.Net,((s74 n (⟨2,zaq (zbz [(enc_3 from_a1),(enc_3 to)])⟩:(Sl Int))).1.out)⟩:web) zfN (za5 (unX (xcm (zad dt0)))) (⟨zaU.len,zaU.get⟩:(Sl Use))).2.2) dt0)
 true))
 true))
def zxf (n:Net) (from_a1:Int) (to:Int):Nat→Int→(Sl Use)→Tab→((Sl Use)×Int):=lpO (fun _ _ _=>default) (zxd n from_a1 to)
def zxg (n:Net) (from_a1:Int) (to:Int):Nat→Int→(Sl Use)→Tab→Bool:=lpO (fun _ _ _=>false) (zxe n from_a1 to)
def zxh (n:Net) (from_a1:Int) (to:Int) (zfN:Int) (zaU:(Sl Use)) (dt0:Tab):((Sl Use)×Int):=zxf n from_a1 to Fuel zfN zaU dt0
def zxi (n:Net) (from_a1:Int) (to:Int) (zfN:Int) (zaU:(Sl Use)) (dt0:Tab):Bool:=zxg n from_a1 to Fuel zfN zaU dt0
theorem zCE (hs:zxi n from_a1 to zfN zaU dt0=true) (hk:K (e54 (zxh n from_a1 to zfN zaU dt0))) (zjR:zcZ=zg zaO zaU):z54 (Wk K) [1,1,1,1,1,1,1,1,0,0] [] (zz0 n from_a1 to zfN zaU dt0 zcZ) :=
  zl (fun X=>z54 (Wk K) [1,1,1,1,1,1,1,1,0,0,0] [X]) (by kernel_rfl) fun X0 hX =>
  (show ∀ k, zFz K n from_a1 to X0 (zxg n from_a1 to k) (zxf n from_a1 to k) from zjV _ _ (zxe n from_a1 to) (zxd n from_a1 to) (zFz K n from_a1 to X0)
 (by intro _ _ _ _ hs;exact absurd hs Bool.false_ne_true)
 (by intro P0 S0 hX0 zfN zaU dt0 zcZ hs hk zjR;subst zjR;exact hX _ (za9 (by kernel_rfl) (zaX hs fun hc hs=>And.intro hc (zc hs hk (fun hs hk=>(zaX hs fun hc hs=>And.intro (And.intro (zE enc_40 4 ((s74 n (⟨2,zaq (zbz [(enc_3 from_a1),(enc_3 to)])⟩:(Sl Int))).1.Net.Ties.get)) (And.intro (rfl:((false,1,false,[none]):MQ)=(false,1,false,[none])) (And.intro (zAL:xcm (zad dt0)=xcm (zad (za5 (unX (xcm (zad dt0)))))) (And.intro (zE zaO 2 zaU.get) hc)))) (zc hs hk (fun hs hk=>(hX0 hs hk rfl)) (fun hs hk=>((zfu hk):Wk K [.one (.sl (((s92 (⟨(s74 n (⟨2,zaq (zbz [(enc_3 from_a1),(enc_3 to)])⟩:(Sl Int))).1.Net,((s74 n (⟨2,zaq (zbz [(enc_3 from_a1),(enc_3 to)])⟩:(Sl Int))).1.out)⟩:web) zfN (za5 (unX (xcm (zad dt0)))) (⟨zaU.len,zaU.get⟩:(Sl Use))).2.2).len) 2 (fun i=>zaO (((s92 (⟨(s74 n (⟨2,zaq (zbz [(enc_3 from_a1),(enc_3 to)])⟩:(Sl Int))).1.Net,((s74 n (⟨2,zaq (zbz [(enc_3 from_a1),(enc_3 to)])⟩:(Sl Int))).1.out)⟩:web) zfN (za5 (unX (xcm (zad dt0)))) (⟨zaU.len,zaU.get⟩:(Sl Use))).2.2).get i))),.one (.int .i64 (0:Int))]))))) (fun hs hk=>((zfu hk):Wk K [.one (.sl zaU.len 2 (fun i=>zaO (zaU.get i))),.one (.int .i64 (0:Int))]))))))) _ hs hk zjR
def s54 (n:Net) (from_a1:Int) (to:Int):((Sl Use)×Int) :=
  (cond ((s74 n (⟨2, zaq (zbz [(enc_3 from_a1), (enc_3 to)])⟩ : (Sl Int))).2 == 0)
 (cond ((0:Int) != (0:Int))
 ((⟨0,fun _=>default⟩:(Sl Use)),(0:Int))
 (cond (match ((tg 80 (s75 (⟨(s74 n (⟨2, zaq (zbz [(enc_3 from_a1), (enc_3 to)])⟩ : (Sl Int))).1.Net, ((s74 n (⟨2, zaq (zbz [(enc_3 from_a1), (enc_3 to)])⟩ : (Sl Int))).1.out)⟩ : web) to) (0 + from_a1.toNat * 2 + 0)) == (1000000000000:Int)) with | true => (match ((tg 80 (s75 (⟨(s74 n (⟨2, zaq (zbz [(enc_3 from_a1), (enc_3 to)])⟩ : (Sl Int))).1.Net, ((s74 n (⟨2, zaq (zbz [(enc_3 from_a1), (enc_3 to)])⟩ : (Sl Int))).1.out)⟩ : web) to) (0 + from_a1.toNat * 2 + 0 + 1)) == (0:Int)) with | true => true | false => false) | false => false)
 ((⟨0,fun _=>default⟩:(Sl Use)),(6:Int))
 (zxh n from_a1 to from_a1 (⟨0,(fun _=>default)⟩:Sl Use) (s75 (⟨(s74 n (⟨2,zaq (zbz [(enc_3 from_a1),(enc_3 to)])⟩:(Sl Int))).1.Net,((s74 n (⟨2,zaq (zbz [(enc_3 from_a1),(enc_3 to)])⟩:(Sl Int))).1.out)⟩:web) to))))
 (cond ((s74 n (⟨2, zaq (zbz [(enc_3 from_a1), (enc_3 to)])⟩ : (Sl Int))).2 != (0:Int))
 ((⟨0,fun _=>default⟩:(Sl Use)),(s74 n (⟨2,zaq (zbz [(enc_3 from_a1),(enc_3 to)])⟩:(Sl Int))).2)
 default))
def p54 (n:Net) (from_a1:Int) (to:Int):Bool :=
  (cond ((s74 n (⟨2, zaq (zbz [(enc_3 from_a1), (enc_3 to)])⟩ : (Sl Int))).2 == 0)
 (decide ((p74 n (⟨2,zaq (zbz [(enc_3 from_a1),(enc_3 to)])⟩:(Sl Int))=true)) &&
 (cond ((0:Int) != (0:Int))
 true
 (decide ((p75 (⟨(s74 n (⟨2,zaq (zbz [(enc_3 from_a1),(enc_3 to)])⟩:(Sl Int))).1.Net,((s74 n (⟨2,zaq (zbz [(enc_3 from_a1),(enc_3 to)])⟩:(Sl Int))).1.out)⟩:web) to=true)) &&
 (decide ((0≤from_a1∧from_a1 < (40:Int))) &&
 (cond (match ((tg 80 (s75 (⟨(s74 n (⟨2, zaq (zbz [(enc_3 from_a1), (enc_3 to)])⟩ : (Sl Int))).1.Net, ((s74 n (⟨2, zaq (zbz [(enc_3 from_a1), (enc_3 to)])⟩ : (Sl Int))).1.out)⟩ : web) to) (0 + from_a1.toNat * 2 + 0)) == (1000000000000:Int)) with | true => (match ((tg 80 (s75 (⟨(s74 n (⟨2, zaq (zbz [(enc_3 from_a1), (enc_3 to)])⟩ : (Sl Int))).1.Net, ((s74 n (⟨2, zaq (zbz [(enc_3 from_a1), (enc_3 to)])⟩ : (Sl Int))).1.out)⟩ : web) to) (0 + from_a1.toNat * 2 + 0 + 1)) == (0:Int)) with | true => true | false => false) | false => false)
 true
 (zxi n from_a1 to from_a1 (⟨0,(fun _=>default)⟩:Sl Use) (s75 (⟨(s74 n (⟨2,zaq (zbz [(enc_3 from_a1),(enc_3 to)])⟩:(Sl Int))).1.Net,((s74 n (⟨2,zaq (zbz [(enc_3 from_a1),(enc_3 to)])⟩:(Sl Int))).1.out)⟩:web) to)))))))
 (decide ((p74 n (⟨2,zaq (zbz [(enc_3 from_a1),(enc_3 to)])⟩:(Sl Int))=true)) &&
 (cond ((s74 n (⟨2, zaq (zbz [(enc_3 from_a1), (enc_3 to)])⟩ : (Sl Int))).2 != (0:Int))
 true
 false)))
end
theorem q54 (n:Net) (from_a1:Int) (to:Int) (K:List PA→Prop) (hs:p54 n from_a1 to=true) (hk:K (e54 (s54 n from_a1 to))):vcFun Tryd.prog G54 zCD 54 [.agg (enc_24 n),.one (.int .i64 from_a1),.one (.int .i64 to)] (Wk K) :=
  za9 (by kernel_rfl) (zc hs hk (fun hs hk=>(zaX hs fun hc hs=>And.intro (And.intro (zE enc_40 4 n.Ties.get) (And.intro ((zdL []):IsE enc_3 1 1 (zbz [(enc_3 from_a1),(enc_3 to)])) hc)) (zc hs hk (fun hs hk=>((wk hk (zgx (.one (.nil _ _)) (zgx (.one (.rfl _)) zm1))):Wk K [.one (.nils),.one (.int .i64 (0:Int))])) (fun hs hk=>(zaX hs fun hc hs=>And.intro (And.intro (zE enc_40 4 ((s74 n (⟨2,zaq (zbz [(enc_3 from_a1),(enc_3 to)])⟩:(Sl Int))).1.Net.Ties.get)) (And.intro (rfl:((false,1,false,[none]):MQ)=(false,1,false,[none])) hc)) (zaX hs fun hc hs=>And.intro hc (zc hs hk (fun hs hk=>((wk hk (zgx (.one (.nil _ _)) (zgx (.one (.rfl _)) zm1))):Wk K [.one (.nils),.one (.int .i64 (6:Int))])) (fun hs hk=>(zCE hs hk rfl))))))))) (fun hs hk=>(zaX hs fun hc hs=>And.intro (And.intro (zE enc_40 4 n.Ties.get) (And.intro ((zdL []):IsE enc_3 1 1 (zbz [(enc_3 from_a1),(enc_3 to)])) hc)) (zc hs hk (fun hs hk=>((wk hk (zgx (.one (.nil _ _)) (zgx (.one (.rfl _)) zm1))):Wk K [.one (.nils),.one (.int .i64 ((s74 n (⟨2,zaq (zbz [(enc_3 from_a1),(enc_3 to)])⟩:(Sl Int))).2))])) (fun hs hk=>(absurd hs Bool.false_ne_true:False))))))
def zCF : List PA → COut
  | [.agg [.int .i64 a0_Nodes,.sl a0_Ties_n a0_Ties_s a0_Ties_g],.one (.int .i64 a1),.one (.int .i64 a2)]=>.det (IsE enc_40 4 a0_Ties_s a0_Ties_g∧p54 (⟨a0_Nodes,(⟨a0_Ties_n,zaa a0_Ties_g⟩:(Sl Tie))⟩:Net) a1 a2=true) [.one (.sl (((s54 (⟨a0_Nodes,(⟨a0_Ties_n,zaa a0_Ties_g⟩:(Sl Tie))⟩:Net) a1 a2).1).len) 2 (fun i=>zaO (((s54 (⟨a0_Nodes,(⟨a0_Ties_n,zaa a0_Ties_g⟩:(Sl Tie))⟩:Net) a1 a2).1).get i))),.one (.int .i64 ((s54 (⟨a0_Nodes,(⟨a0_Ties_n,zaa a0_Ties_g⟩:(Sl Tie))⟩:Net) a1 a2).2))]
  | _=>.no
theorem zFA:zan Tryd.prog 54:=⟨_,rfl,rfl,by kernel_rfl⟩
theorem zIH:Ok Tryd.prog 54 zCF:=zgK zHe zFA fun args K h=>by
  unfold zCF at h
  split at h
  · rename_i a0_Nodes a0_Ties_n a0_Ties_s a0_Ties_g a1 a2
    obtain ⟨⟨⟨rfl,a0_Ties_f,rfl⟩,hs⟩,hk⟩:=h
    try rw [zaj a0_Ties_f] at hs
    try rw [zaj a0_Ties_f] at hk
    exact ⟨_,zeM zft _,(fun _ _=>[]),(fun _=>false),zCD,q54 (⟨a0_Nodes,(⟨a0_Ties_n,a0_Ties_f⟩:(Sl Tie))⟩:Net) a1 a2 K hs hk⟩
  · exact h.elim
abbrev T66:Tabs:=Tabs.nil
theorem zHf:TabsOk Tryd.prog T66:=TabsOk.nil
abbrev G66:Ctrs:=csm T66 (fun _ _=>[]) (fun _=>false)
def zFB:Ann:=⟨6,[(0,zK [0] [0]),(1,zK [0] [0,4])],
 [],
 [],
 [],[]⟩
abbrev R66:=Net
abbrev e66 (r:R66):List PA:=[.agg [.int .i64 r.Nodes,.sl r.Ties.len 4 (fun i=>enc_40 (r.Ties.get i))]]
section
variable {K:List PA→Prop}
def s66:Net :=
  (⟨(3:Int),(⟨3,(znR (⟨(0:Int),(1:Int),(5:Int),(8:Int)⟩:Tie) [(⟨(0:Int),(1:Int),(5:Int),(8:Int)⟩:Tie),(⟨(1:Int),(2:Int),(-2:Int),(3:Int)⟩:Tie),(⟨(2:Int),(0:Int),(-9:Int),(1000000000000:Int)⟩:Tie)])⟩:(Sl Tie))⟩:Net)
end
theorem q66 (K:List PA→Prop) (hk:K (e66 (s66))):vcFun Tryd.prog G66 zFB 66 [] K :=
  za9 (by kernel_rfl) (Eq.mpr (congrArg K (congrArg (fun (g_:Nat→List PV)=>([.agg [.int .i64 (3:Int),.sl 3 4 g_]]:List PA)) (zq5 (enc:=enc_40) (x:=(⟨(0:Int),(1:Int),(5:Int),(8:Int)⟩:Tie)) (y:=(⟨(1:Int),(2:Int),(-2:Int),(3:Int)⟩:Tie)) (r:=[(⟨(2:Int),(0:Int),(-9:Int),(1000000000000:Int)⟩:Tie)])))) hk)
def zCG : List PA → COut
  | []=>.tot [.agg [.int .i64 ((s66).Nodes),.sl ((s66).Ties.len) 4 (fun i=>enc_40 ((s66).Ties.get i))]]
  | _=>.no
theorem zFC:zan Tryd.prog 66:=⟨_,rfl,rfl,by kernel_rfl⟩
theorem zII:Ok Tryd.prog 66 zCG:=zbr zHf zFC fun args K h=>by
  unfold zCG at h
  split at h
  · have hk := h
    exact ⟨(fun _ _=>[]),(fun _=>false),zFB,q66 K hk⟩
  · exact h.elim
abbrev T21:Tabs:=((((((((((Tabs.nil.addF 22 zBJ).addF 25 zBN).addF 26 zB8).addF 29 zB9).addF 32 zCd).addF 45 zCm).addF 49 zCv).addF 53 zCz).addF 54 zCF).addF 66 zCG)
theorem zHg:TabsOk Tryd.prog T21:=((((((((((TabsOk.nil.addF zIw).addF zIx).addF zIy).addF zIz).addF ok32).addF zID).addF zIE).addF zIF).addF zIH).addF zII)
abbrev G21:Ctrs:=csm T21 (fun _ _=>[]) (fun _=>false)
def zCH:Ann:=⟨87,[(0,zK [] []),(1,zK [1,2] []),(2,zK [1,2,3,4] []),(3,zK [1,2,3,4,5,6] []),(4,zK [1,2,3,4,5,6,7] [7]),(5,zK [1,2,3,4,5,6,7,8,9] [7]),(6,zK [1,2,3,4,5,6,8,9,10,11] []),(7,zK [1,3,5,8,10,57] []),(8,zK [0] []),(9,zK [0] [])],
 [],
 [(2,zK [1,2] []),(3,zK [1,2,3,4] []),(4,zK [1,2,3,4,5,6] []),(5,zK [1,2,3,4,5,6,7] [7]),(6,zK [1,2,3,4,5,6,7,8,9] [7]),(7,zK [1,2,3,4,5,6,8,9,10,11] []),(9,zK [1,3,5,8,10] [])],
 [],[]⟩
abbrev R21:=Bool
abbrev e21 (r:R21):List PA:=[.one (.bool r)]
@[irreducible] def z21:=ptF Tryd.prog G21 zCH Tryd.f21
section
variable {K:List PA→Prop} {bv0:(Sl Span)} {ev0:Int} {zFD:Nat→List PV} {cv1:(Sl Use)} {fv1:Int} {zFE:Nat→List PV} {vv2:(Sl Int)} {gv2:Int} {zFF:Nat→List PV} {zdC:Int} {zc4:(Sl Tie)} {zxj:Nat→List PV} {xv4:(Sl Use)} {hv4:Int} {zFG:Nat→List PV} {lv5:(Sl Int)} {iv5:Int} {zFH:Nat→List PV}
def zxk (bv0:(Sl Span)) (cv1:(Sl Use)) (vv2:(Sl Int)) (xv4:(Sl Use)) (lv5:(Sl Int)):Bool :=
  (cond (s32 bv0 (⟨3, zeN (zbz [(zbu (⟨(0:Int), (0:Int)⟩ : Span)), (zbu (⟨(5:Int), (8:Int)⟩ : Span)), (zbu (⟨(3:Int), (9:Int)⟩ : Span))])⟩ : (Sl Span)))
 (cond (s53 cv1 (⟨1, fun _ => (⟨(2:Int), true⟩ : Use)⟩ : (Sl Use)))
 (cond (s25 vv2 (⟨3, zaq (zbz [(enc_3 (0:Int)), (enc_3 (5:Int)), (enc_3 (8:Int))])⟩ : (Sl Int)))
 (cond (s53 xv4 (⟨2, zcO (zbz [(zaO (⟨(2:Int), true⟩ : Use)), (zaO (⟨(3:Int), true⟩ : Use))])⟩ : (Sl Use)))
 (s25 lv5 (⟨1,fun _=>(2:Int)⟩:(Sl Int)))
 false)
 false)
 false)
 false)
def zxl (bv0:(Sl Span)) (cv1:(Sl Use)) (vv2:(Sl Int)) (xv4:(Sl Use)) (lv5:(Sl Int)):Bool :=
  (decide ((p32 bv0 (⟨3,zeN (zbz [(zbu (⟨(0:Int),(0:Int)⟩:Span)),(zbu (⟨(5:Int),(8:Int)⟩:Span)),(zbu (⟨(3:Int),(9:Int)⟩:Span))])⟩:(Sl Span))=true)) &&
 (cond (s32 bv0 (⟨3, zeN (zbz [(zbu (⟨(0:Int), (0:Int)⟩ : Span)), (zbu (⟨(5:Int), (8:Int)⟩ : Span)), (zbu (⟨(3:Int), (9:Int)⟩ : Span))])⟩ : (Sl Span)))
 (decide ((p53 cv1 (⟨1,fun _=>(⟨(2:Int),true⟩:Use)⟩:(Sl Use))=true)) &&
 (cond (s53 cv1 (⟨1, fun _ => (⟨(2:Int), true⟩ : Use)⟩ : (Sl Use)))
 (decide ((p25 vv2 (⟨3,zaq (zbz [(enc_3 (0:Int)),(enc_3 (5:Int)),(enc_3 (8:Int))])⟩:(Sl Int))=true)) &&
 (cond (s25 vv2 (⟨3, zaq (zbz [(enc_3 (0:Int)), (enc_3 (5:Int)), (enc_3 (8:Int))])⟩ : (Sl Int)))
 (decide ((p53 xv4 (⟨2,zcO (zbz [(zaO (⟨(2:Int),true⟩:Use)),(zaO (⟨(3:Int),true⟩:Use))])⟩:(Sl Use))=true)) &&
 (cond (s53 xv4 (⟨2, zcO (zbz [(zaO (⟨(2:Int), true⟩ : Use)), (zaO (⟨(3:Int), true⟩ : Use))])⟩ : (Sl Use)))
 (decide ((p25 lv5 (⟨1,fun _=>(2:Int)⟩:(Sl Int))=true)) &&
 true)
 true))
 true))
 true))
 true))
theorem zCI (hs:zxl bv0 cv1 vv2 xv4 lv5=true) (hk:K (e21 (zxk bv0 cv1 vv2 xv4 lv5))):z21 K [1,1,1,1,1,1,1,1] [] ⟨[(1,zS zbu 2 bv0),(3,zS zaO 2 cv1),(5,zS enc_3 1 vv2),(8,zS zaO 2 xv4),(10,zS enc_3 1 lv5)],[],[]⟩:=za9 (by kernel_rfl) (zaX hs fun hc hs=>And.intro (And.intro (zE zbu 2 bv0.get) (And.intro ((zdL [(⟨(3:Int),(9:Int)⟩:Span)]):IsE zbu 2 2 (zbz [(zbu (⟨(0:Int),(0:Int)⟩:Span)),(zbu (⟨(5:Int),(8:Int)⟩:Span)),(zbu (⟨(3:Int),(9:Int)⟩:Span))])) hc)) (zc hs hk (fun hs hk=>(zaX hs fun hc hs=>And.intro (And.intro (zE zaO 2 cv1.get) (And.intro (zug:IsE zaO 2 2 (fun _=>(zaO (⟨(2:Int),true⟩:Use)))) hc)) (zc hs hk (fun hs hk=>(zaX hs fun hc hs=>And.intro (And.intro (zE enc_3 1 vv2.get) (And.intro ((zdL [(8:Int)]):IsE enc_3 1 1 (zbz [(enc_3 (0:Int)),(enc_3 (5:Int)),(enc_3 (8:Int))])) hc)) (zc hs hk (fun hs hk=>(zaX hs fun hc hs=>And.intro (And.intro (zE zaO 2 xv4.get) (And.intro ((zdL []):IsE zaO 2 2 (zbz [(zaO (⟨(2:Int),true⟩:Use)),(zaO (⟨(3:Int),true⟩:Use))])) hc)) (zc hs hk (fun hs hk=>(zaX hs fun hc hs=>And.intro (And.intro (zE enc_3 1 lv5.get) (And.intro (zug:IsE enc_3 1 1 (fun _=>(enc_3 (2:Int)))) hc)) hk)) (fun hs hk=>hk)))) (fun hs hk=>hk)))) (fun hs hk=>hk)))) (fun hs hk=>hk)))
def zxm (bv0:(Sl Span)) (ev0:Int) (cv1:(Sl Use)) (fv1:Int) (vv2:(Sl Int)) (gv2:Int) (xv4:(Sl Use)) (hv4:Int) (lv5:(Sl Int)) (iv5:Int):Bool :=
  (cond (ev0 != (0:Int))
 false
 (cond (fv1 != (0:Int))
 false
 (cond (gv2 != (0:Int))
 false
 (cond (hv4 != (0:Int))
 false
 (cond (iv5 != (0:Int))
 false
 (zxk bv0 cv1 vv2 xv4 lv5))))))
def zxn (bv0:(Sl Span)) (ev0:Int) (cv1:(Sl Use)) (fv1:Int) (vv2:(Sl Int)) (gv2:Int) (xv4:(Sl Use)) (hv4:Int) (lv5:(Sl Int)) (iv5:Int):Bool :=
  (cond (ev0 != (0:Int))
 true
 (cond (fv1 != (0:Int))
 true
 (cond (gv2 != (0:Int))
 true
 (cond (hv4 != (0:Int))
 true
 (cond (iv5 != (0:Int))
 true
 (zxl bv0 cv1 vv2 xv4 lv5))))))
theorem zCJ (hs:zxn bv0 ev0 cv1 fv1 vv2 gv2 xv4 hv4 lv5 iv5=true) (hk:K (e21 (zxm bv0 ev0 cv1 fv1 vv2 gv2 xv4 hv4 lv5 iv5))) (zHh:zFH=zg enc_3 lv5):z21 K [1,1,1,1,1,1,1] [] ⟨[(1,zS zbu 2 bv0),(2,zI ev0),(3,zS zaO 2 cv1),(4,zI fv1),(5,zS enc_3 1 vv2),(6,zI gv2),(8,zS zaO 2 xv4),(9,zI hv4),(10,zP (.sl lv5.len 1 zFH)),(11,zI iv5)],[],[]⟩:=by subst zHh;exact za9 (by kernel_rfl) (zc hs hk (fun hs hk=>hk) (fun hs hk=>(zc hs hk (fun hs hk=>hk) (fun hs hk=>(zc hs hk (fun hs hk=>hk) (fun hs hk=>(zc hs hk (fun hs hk=>hk) (fun hs hk=>(zc hs hk (fun hs hk=>hk) (fun hs hk=>(zCI hs hk)))))))))))
def zxo (bv0:(Sl Span)) (ev0:Int) (cv1:(Sl Use)) (fv1:Int) (vv2:(Sl Int)) (gv2:Int) (zdC:Int) (zc4:(Sl Tie)) (xv4:(Sl Use)) (hv4:Int):Bool :=
  (zxm bv0 ev0 cv1 fv1 vv2 gv2 xv4 hv4 ((s22 (⟨zdC,zc4⟩:Net)).1) ((s22 (⟨zdC,zc4⟩:Net)).2))
def zxp (bv0:(Sl Span)) (ev0:Int) (cv1:(Sl Use)) (fv1:Int) (vv2:(Sl Int)) (gv2:Int) (zdC:Int) (zc4:(Sl Tie)) (xv4:(Sl Use)) (hv4:Int):Bool :=
  (decide ((p22 (⟨zdC,zc4⟩:Net)=true)) &&
 (zxn bv0 ev0 cv1 fv1 vv2 gv2 xv4 hv4 ((s22 (⟨zdC,zc4⟩:Net)).1) ((s22 (⟨zdC,zc4⟩:Net)).2)))
theorem zCK (hs:zxp bv0 ev0 cv1 fv1 vv2 gv2 zdC zc4 xv4 hv4=true) (hk:K (e21 (zxo bv0 ev0 cv1 fv1 vv2 gv2 zdC zc4 xv4 hv4))) (zHi:zFG=zg zaO xv4):z21 K [1,1,1,1,1,1] [] ⟨[(1,zS zbu 2 bv0),(2,zI ev0),(3,zS zaO 2 cv1),(4,zI fv1),(5,zS enc_3 1 vv2),(6,zI gv2),(7,zp 7 0),(8,zP (.sl xv4.len 2 zFG)),(9,zI hv4)],[(7,.box 24 (zm (enc_24 (⟨zdC,zc4⟩:Net))))],[]⟩:=by subst zHi;exact za9 (by kernel_rfl) (zaX hs fun hc hs=>And.intro (And.intro (zE enc_40 4 zc4.get) hc) (zCJ hs hk rfl))
def zxq (bv0:(Sl Span)) (ev0:Int) (cv1:(Sl Use)) (fv1:Int) (vv2:(Sl Int)) (gv2:Int) (zdC:Int) (zc4:(Sl Tie)):Bool :=
  (zxo bv0 ev0 cv1 fv1 vv2 gv2 zdC zc4 ((s49 (⟨zdC,zc4⟩:Net)).1) ((s49 (⟨zdC,zc4⟩:Net)).2))
def zxr (bv0:(Sl Span)) (ev0:Int) (cv1:(Sl Use)) (fv1:Int) (vv2:(Sl Int)) (gv2:Int) (zdC:Int) (zc4:(Sl Tie)):Bool :=
  (decide ((p49 (⟨zdC,zc4⟩:Net)=true)) &&
 (zxp bv0 ev0 cv1 fv1 vv2 gv2 zdC zc4 ((s49 (⟨zdC,zc4⟩:Net)).1) ((s49 (⟨zdC,zc4⟩:Net)).2)))
theorem zCL (hs:zxr bv0 ev0 cv1 fv1 vv2 gv2 zdC zc4=true) (hk:K (e21 (zxq bv0 ev0 cv1 fv1 vv2 gv2 zdC zc4))) (zCM:zxj=zg enc_40 zc4):z21 K [1,1,1,1,1] [] ⟨[(1,zS zbu 2 bv0),(2,zI ev0),(3,zS zaO 2 cv1),(4,zI fv1),(5,zS enc_3 1 vv2),(6,zI gv2),(7,zp 7 0)],[(7,.box 24 [zi zdC,.p (.sl zc4.len 4 zxj)])],[]⟩:=by subst zCM;exact za9 (by kernel_rfl) (zaX hs fun hc hs=>And.intro (And.intro (zE enc_40 4 zc4.get) hc) (zCK hs hk rfl))
def zxs (bv0:(Sl Span)) (ev0:Int) (cv1:(Sl Use)) (fv1:Int) (vv2:(Sl Int)) (gv2:Int):Bool :=
  (zxq bv0 ev0 cv1 fv1 vv2 gv2 ((s29 s66 (⟨(0:Int),(2:Int),(10:Int),(12:Int)⟩:Tie)).Nodes) ((s29 s66 (⟨(0:Int),(2:Int),(10:Int),(12:Int)⟩:Tie)).Ties))
def zxt (bv0:(Sl Span)) (ev0:Int) (cv1:(Sl Use)) (fv1:Int) (vv2:(Sl Int)) (gv2:Int):Bool :=
  (decide ((p29 s66 (⟨(0:Int),(2:Int),(10:Int),(12:Int)⟩:Tie)=true)) &&
 (zxr bv0 ev0 cv1 fv1 vv2 gv2 ((s29 s66 (⟨(0:Int),(2:Int),(10:Int),(12:Int)⟩:Tie)).Nodes) ((s29 s66 (⟨(0:Int),(2:Int),(10:Int),(12:Int)⟩:Tie)).Ties)))
theorem zCN (hs:zxt bv0 ev0 cv1 fv1 vv2 gv2=true) (hk:K (e21 (zxs bv0 ev0 cv1 fv1 vv2 gv2))) (zHj:zFF=zg enc_3 vv2):z21 K [1,1,1,1] [] ⟨[(1,zS zbu 2 bv0),(2,zI ev0),(3,zS zaO 2 cv1),(4,zI fv1),(5,zP (.sl vv2.len 1 zFF)),(6,zI gv2)],[],[]⟩:=by subst zHj;exact za9 (by kernel_rfl) (zaX hs fun hc hs=>And.intro (And.intro (zE enc_40 4 s66.Ties.get) hc) (zCL hs hk rfl))
def zxu (bv0:(Sl Span)) (ev0:Int) (cv1:(Sl Use)) (fv1:Int):Bool :=
  (zxs bv0 ev0 cv1 fv1 ((s45 s66 (1:Int) (0:Int)).1) ((s45 s66 (1:Int) (0:Int)).2))
def zxv (bv0:(Sl Span)) (ev0:Int) (cv1:(Sl Use)) (fv1:Int):Bool :=
  (decide ((p45 s66 (1:Int) (0:Int)=true)) &&
 (zxt bv0 ev0 cv1 fv1 ((s45 s66 (1:Int) (0:Int)).1) ((s45 s66 (1:Int) (0:Int)).2)))
theorem zCO (hs:zxv bv0 ev0 cv1 fv1=true) (hk:K (e21 (zxu bv0 ev0 cv1 fv1))) (zHk:zFE=zg zaO cv1):z21 K [1,1,1] [] ⟨[(1,zS zbu 2 bv0),(2,zI ev0),(3,zP (.sl cv1.len 2 zFE)),(4,zI fv1)],[],[]⟩:=by subst zHk;exact za9 (by kernel_rfl) (zaX hs fun hc hs=>And.intro (And.intro (zE enc_40 4 s66.Ties.get) hc) (zCN hs hk rfl))
def zxw (bv0:(Sl Span)) (ev0:Int):Bool :=
  (zxu bv0 ev0 ((s54 s66 (0:Int) (2:Int)).1) ((s54 s66 (0:Int) (2:Int)).2))
def zxx (bv0:(Sl Span)) (ev0:Int):Bool :=
  (decide ((p54 s66 (0:Int) (2:Int)=true)) &&
 (zxv bv0 ev0 ((s54 s66 (0:Int) (2:Int)).1) ((s54 s66 (0:Int) (2:Int)).2)))
theorem zCP (hs:zxx bv0 ev0=true) (hk:K (e21 (zxw bv0 ev0))) (zHl:zFD=zg zbu bv0):z21 K [1,1] [] ⟨[(1,zP (.sl bv0.len 2 zFD)),(2,zI ev0)],[],[]⟩:=by subst zHl;exact za9 (by kernel_rfl) (zaX hs fun hc hs=>And.intro (And.intro (zE enc_40 4 s66.Ties.get) hc) (zCO hs hk rfl))
def s21:Bool :=
  (zxw ((s26 s66).1) ((s26 s66).2))
def p21:Bool :=
  (decide ((p26 s66=true)) &&
 (zxx ((s26 s66).1) ((s26 s66).2)))
end
theorem q21 (K:List PA→Prop) (hs:p21=true) (hk:K (e21 (s21))):vcFun Tryd.prog G21 zCH 21 [] K :=
  za9 (by kernel_rfl) (zaX hs fun hc hs=>And.intro (And.intro (zE enc_40 4 s66.Ties.get) hc) (zCP hs hk rfl))
theorem zFI:p21=true:=by kernel_rfl
theorem zFJ:s21=true:=by kernel_rfl
def zCQ : List PA → COut
  | []=>.tot [.one (.bool true)]
  | _=>.no
theorem zFK:zan Tryd.prog 21:=⟨_,rfl,rfl,by kernel_rfl⟩
theorem zIJ:Ok Tryd.prog 21 zCQ:=zbr zHg zFK fun args K h=>by
  unfold zCQ at h
  split at h
  · refine ⟨fun _ _ => [], fun _ => false, zCH, q21 K zFI ?_⟩
    show K [.one (.bool s21)]
    rw [zFJ];exact h
  · exact h.elim
abbrev T20:Tabs:=Tabs.nil
theorem zHm:TabsOk Tryd.prog T20:=TabsOk.nil
abbrev G20:Ctrs:=csm T20 (fun _ _=>[]) (fun _=>false)
def zFL:Ann:=⟨32,[(0,zK [1,2] [2]),(1,zK [4] [])],
 [],
 [],
 [],[]⟩
abbrev R20:=Bool
abbrev e20 (r:R20):List PA:=[.one (.bool r)]
section
variable {K:List PA→Prop} {n:Net} {ties:Int}
def s20 (n:Net) (ties:Int):Bool :=
  (cond (decide (n.Nodes ≤ (7:Int)))
 (cond (decide ((n.Ties.len : Int) ≤ ties))
 true
 (cond (decide ((n.Ties.len : Int) > (200:Int)))
 (decide ((n.Ties.len:Int)≤(210:Int)))
 false))
 (cond (decide (n.Nodes > (40:Int)))
 (cond (decide ((n.Ties.len : Int) ≤ ties))
 true
 (cond (decide ((n.Ties.len : Int) > (200:Int)))
 (decide ((n.Ties.len:Int)≤(210:Int)))
 false))
 false))
end
theorem q20 (n:Net) (ties:Int) (K:List PA→Prop) (hk:K (e20 (s20 n ties))):vcFun Tryd.prog G20 zFL 20 [.agg (enc_24 n),.one (.int .i64 ties)] K :=
  za9 (by kernel_rfl) (zt hk (fun hk=>(zt hk (fun hk=>hk) (fun hk=>(zt hk (fun hk=>hk) (fun hk=>hk))))) (fun hk=>(zt hk (fun hk=>(zt hk (fun hk=>hk) (fun hk=>(zt hk (fun hk=>hk) (fun hk=>hk))))) (fun hk=>hk))))
def zCR : List PA → COut
  | [.agg [.int .i64 a0_Nodes,.sl a0_Ties_n a0_Ties_s a0_Ties_g],.one (.int .i64 a1)]=>.det (IsE enc_40 4 a0_Ties_s a0_Ties_g) [.one (.bool (s20 (⟨a0_Nodes,(⟨a0_Ties_n,zaa a0_Ties_g⟩:(Sl Tie))⟩:Net) a1))]
  | _=>.no
theorem zFM:zan Tryd.prog 20:=⟨_,rfl,rfl,by kernel_rfl⟩
theorem zIK:Ok Tryd.prog 20 zCR:=zbr zHm zFM fun args K h=>by
  unfold zCR at h
  split at h
  · rename_i a0_Nodes a0_Ties_n a0_Ties_s a0_Ties_g a1
    obtain ⟨⟨rfl,a0_Ties_f,rfl⟩,hk⟩:=h
    try rw [zaj a0_Ties_f] at hk
    exact ⟨(fun _ _=>[]),(fun _=>false),zFL,q20 (⟨a0_Nodes,(⟨a0_Ties_n,a0_Ties_f⟩:(Sl Tie))⟩:Net) a1 K hk⟩
  · exact h.elim
abbrev T72:Tabs:=Tabs.nil
theorem zHn:TabsOk Tryd.prog T72:=TabsOk.nil
abbrev G72:Ctrs:=csm T72 (fun _ _=>[]) (fun _=>false)
def zFN:Ann:=⟨15,[(0,zK [0,1,2] []),(1,zK [6] [])],
 [],
 [],
 [],[]⟩
abbrev R72:=Bool
abbrev e72 (r:R72):List PA:=[.one (.bool r)]
section
variable {K:List PA→Prop} {x:Int} {low:Int} {high:Int}
def s72 (x:Int) (low:Int) (high:Int):Bool :=
  (cond (decide (x ≥ low))
 (decide (x≤high))
 false)
end
theorem q72 (x:Int) (low:Int) (high:Int) (K:List PA→Prop) (hk:K (e72 (s72 x low high))):vcFun Tryd.prog G72 zFN 72 [.one (.int .i64 x),.one (.int .i64 low),.one (.int .i64 high)] K :=
  za9 (by kernel_rfl) (zt hk (fun hk=>hk) (fun hk=>hk))
def zxy : List PA → COut
  | [.one (.int .i64 a0),.one (.int .i64 a1),.one (.int .i64 a2)]=>.tot [.one (.bool (s72 a0 a1 a2))]
  | _=>.no
theorem zFO:zan Tryd.prog 72:=⟨_,rfl,rfl,by kernel_rfl⟩
theorem zHo:Ok Tryd.prog 72 zxy:=zbr zHn zFO fun args K h=>by
  unfold zxy at h
  split at h
  · rename_i a0 a1 a2
    have hk:=h
    exact ⟨(fun _ _=>[]),(fun _=>false),zFN,q72 a0 a1 a2 K hk⟩
  · exact h.elim
abbrev T36:Tabs:=(Tabs.nil.addF 72 zxy)
theorem zHp:TabsOk Tryd.prog T36:=(TabsOk.nil.addF zHo)
abbrev G36:Ctrs:=csm T36 (fun _ _=>[]) (fun _=>false)
def zCS:Ann:=⟨51,[(0,zK [0,3] [3]),(1,zK [3,32] [3]),(2,zK [4] []),(3,zK [4] [])],
 [],
 [(2,zK [3,32] [3]),(3,zK [3] [3])],
 [],[]⟩
abbrev R36:=Bool
abbrev e36 (r:R36):List PA:=[.one (.bool r)]
@[irreducible] def z36:=ptF Tryd.prog G36 zCS Tryd.f36
section
variable {K:List PA→Prop} {nodes:Int} {t:Tie} {zzb:Bool}
def zpW (t:Tie):Bool :=
  (cond (t.Low == (-1000000000000:Int))
 (cond (t.High == (1000000000000:Int))
 true
 (s72 t.High (-1000000000:Int) (1000000000:Int)))
 (cond (s72 t.Low (-1000000000:Int) (1000000000:Int))
 (cond (t.High == (1000000000000:Int))
 true
 (s72 t.High (-1000000000:Int) (1000000000:Int)))
 false))
theorem zCT (hk:K (e36 (zpW t))):z36 K [1,1] [] ⟨[(3,zp 3 0)],[(3,.box 40 (zm (enc_40 t)))],[]⟩:=za9 (by kernel_rfl) (zt hk (fun hk=>(zt hk (fun hk=>hk) (fun hk=>hk))) (fun hk=>(zt hk (fun hk=>(zt hk (fun hk=>hk) (fun hk=>hk))) (fun hk=>hk))))
def zgZ (t:Tie) (zzb:Bool):Bool :=
  (cond zzb
 false
 (zpW t))
theorem zlW (hk:K (e36 (zgZ t zzb))):z36 K [1,0,1] [] ⟨[(3,zp 3 0),(32,zB zzb)],[(3,.box 40 (zm (enc_40 t)))],[]⟩:=za9 (by kernel_rfl) (zt hk (fun hk=>hk) (fun hk=>(zCT hk)))
def s36 (nodes:Int) (t:Tie):Bool :=
  (cond (!(s72 t.From (0:Int) (w64 (nodes - (1:Int)))))
 (zgZ t true)
 (cond (!(s72 t.To (0:Int) (w64 (nodes - (1:Int)))))
 (zgZ t true)
 (cond (t.From == t.To)
 (zgZ t true)
 (zgZ t (decide (t.Low > t.High))))))
end
theorem q36 (nodes:Int) (t:Tie) (K:List PA→Prop) (hk:K (e36 (s36 nodes t))):vcFun Tryd.prog G36 zCS 36 [.one (.int .i64 nodes),.agg (enc_40 t)] K :=
  za9 (by kernel_rfl) (zt hk (fun hk=>(zlW hk)) (fun hk=>(zt hk (fun hk=>(zlW hk)) (fun hk=>(zt hk (fun hk=>(zlW hk)) (fun hk=>(zlW hk)))))))
def zCU : List PA → COut
  | [.one (.int .i64 a0),.agg [.int .i64 a1_From,.int .i64 a1_To,.int .i64 a1_Low,.int .i64 a1_High]]=>.tot [.one (.bool (s36 a0 (⟨a1_From,a1_To,a1_Low,a1_High⟩:Tie)))]
  | _=>.no
theorem zFP:zan Tryd.prog 36:=⟨_,rfl,rfl,by kernel_rfl⟩
theorem zIL:Ok Tryd.prog 36 zCU:=zbr zHp zFP fun args K h=>by
  unfold zCU at h
  split at h
  · rename_i a0 a1_From a1_To a1_Low a1_High
    have hk:=h
    exact ⟨(fun _ _=>[]),(fun _=>false),zCS,q36 a0 (⟨a1_From,a1_To,a1_Low,a1_High⟩:Tie) K hk⟩
  · exact h.elim
abbrev T23:Tabs:=((Tabs.nil.addF 36 zCU).addF 72 zxy)
theorem zHq:TabsOk Tryd.prog T23:=((TabsOk.nil.addF zIL).addF zHo)
abbrev G23:Ctrs:=csm T23 (fun _ _=>[]) (fun _=>false)
def zCV:Ann:=⟨30,[(0,zK [1] [1]),(1,zK [1,13] [1]),(2,zK [2] []),(3,zK [1,3] [1]),(4,zK [1,3,18] [1]),(5,zK [1,3] [1]),(6,zK [1,3,29] [1]),(7,zK [2] []),(8,zK [2] [])],
 [(4,zK [1,3] [1])],
 [(2,zK [1,13] [1]),(3,zK [1] [1]),(7,zK [1,3,29] [1])],
 [],[]⟩
abbrev R23:=Bool
abbrev e23 (r:R23):List PA:=[.one (.bool r)]
@[irreducible] def z23:=ptF Tryd.prog G23 zCV Tryd.f23
def zz1 (n:Net) (iv2:Int):St:=⟨[(1,zp 1 0),(3,zI iv2)],[(1,.box 24 (zm (enc_24 n)))],[]⟩
abbrev zCW (K:List PA→Prop) (n:Net) (X:St→Prop) (P:Int→Bool) (S:Int→Bool):Prop:=∀ ⦃iv2:Int⦄,P iv2=true→K (e23 (S iv2))→X (zz1 n iv2)
section
variable {K:List PA→Prop} {n:Net} {zbS:Bool} {iv2:Int} {X2:St→Prop} {P2:Int→Bool} {S2:Int→Bool} {iv3:Int} {zpX:Bool}
def zpY (S2:Int→Bool) (n:Net) (iv3:Int) (zpX:Bool):Bool :=
  (cond zpX
 false
 (S2 (w64 (iv3+(1:Int)))))
def zpZ (P2:Int→Bool) (n:Net) (iv3:Int) (zpX:Bool):Bool :=
  (cond zpX
 true
 (P2 (w64 (iv3+(1:Int)))))
theorem zCX (hX2:zCW K n X2 P2 S2) (hs:zpZ P2 n iv3 zpX=true) (hk:K (e23 (zpY S2 n iv3 zpX))):z23 K [1,1,0,1,0,0,1,0,0,1] [X2] ⟨[(1,zp 1 0),(3,zI iv3),(29,zB zpX)],[(1,.box 24 (zm (enc_24 n)))],[]⟩:=za9 (by kernel_rfl) (zc hs hk (fun hs hk=>hk) (fun hs hk=>(hX2 hs hk)))
def zg0 (n:Net) (S2:Int→Bool) (iv2:Int):Bool :=
  (cond (decide (iv2 < (n.Ties.len : Int)))
 (zpY S2 n iv2 (!(s36 n.Nodes (n.Ties.get iv2.toNat))))
 true)
def zg1 (n:Net) (P2:Int→Bool) (iv2:Int):Bool :=
  (cond (decide (iv2 < (n.Ties.len : Int)))
 (decide ((0≤iv2∧iv2 < (n.Ties.len:Int))) &&
 (zpZ P2 n iv2 (!(s36 n.Nodes (n.Ties.get iv2.toNat)))))
 true)
def zfL (n:Net):Nat→Int→Bool:=lpO (fun _=>default) (zg0 n)
def zg2 (n:Net):Nat→Int→Bool:=lpO (fun _=>false) (zg1 n)
def zp0 (n:Net) (iv2:Int):Bool:=zfL n Fuel iv2
def zp1 (n:Net) (iv2:Int):Bool:=zg2 n Fuel iv2
theorem zCY (hs:zp1 n iv2=true) (hk:K (e23 (zp0 n iv2))):z23 K [1,1,0,1,0] [] (zz1 n iv2) :=
  zl (fun X=>z23 K [1,1,0,1,0,0] [X]) (by kernel_rfl) fun X2 hX =>
  (show ∀ k, zCW K n X2 (zg2 n k) (zfL n k) from zjV _ _ (zg1 n) (zg0 n) (zCW K n X2)
 (by intro _ hs;exact absurd hs Bool.false_ne_true)
 (by intro P2 S2 hX2 iv2 hs hk;exact hX _ (za9 (by kernel_rfl) (zc hs hk (fun hs hk=>(zaX hs fun hc hs=>And.intro hc (zCX hX2 hs hk))) (fun hs hk=>hk))))) _ hs hk
def zp2 (n:Net):Bool :=
  (zp0 n (0:Int))
def zp3 (n:Net):Bool :=
  (zp1 n (0:Int))
theorem zCZ (hs:zp3 n=true) (hk:K (e23 (zp2 n))):z23 K [1,1] [] ⟨[(1,zp 1 0)],[(1,.box 24 (zm (enc_24 n)))],[]⟩:=za9 (by kernel_rfl) (zCY hs hk)
def zlX (n:Net) (zbS:Bool):Bool :=
  (cond zbS
 false
 (zp2 n))
def zlY (n:Net) (zbS:Bool):Bool :=
  (cond zbS
 true
 (zp3 n))
theorem zxz (hs:zlY n zbS=true) (hk:K (e23 (zlX n zbS))):z23 K [1,0,1] [] ⟨[(1,zp 1 0),(13,zB zbS)],[(1,.box 24 (zm (enc_24 n)))],[]⟩:=za9 (by kernel_rfl) (zc hs hk (fun hs hk=>hk) (fun hs hk=>(zCZ hs hk)))
def s23 (n:Net):Bool :=
  (cond (!(s72 n.Nodes (1:Int) (40:Int)))
 (zlX n true)
 (zlX n (decide ((n.Ties.len:Int) > (200:Int)))))
def p23 (n:Net):Bool :=
  (cond (!(s72 n.Nodes (1:Int) (40:Int)))
 (zlY n true)
 (zlY n (decide ((n.Ties.len:Int) > (200:Int)))))
end
theorem q23 (n:Net) (K:List PA→Prop) (hs:p23 n=true) (hk:K (e23 (s23 n))):vcFun Tryd.prog G23 zCV 23 [.agg (enc_24 n)] K :=
  za9 (by kernel_rfl) (zc hs hk (fun hs hk=>(zxz hs hk)) (fun hs hk=>(zxz hs hk)))
def zC0 : List PA → COut
  | [.agg [.int .i64 a0_Nodes,.sl a0_Ties_n a0_Ties_s a0_Ties_g]]=>.det (IsE enc_40 4 a0_Ties_s a0_Ties_g∧p23 (⟨a0_Nodes,(⟨a0_Ties_n,zaa a0_Ties_g⟩:(Sl Tie))⟩:Net)=true) [.one (.bool (s23 (⟨a0_Nodes,(⟨a0_Ties_n,zaa a0_Ties_g⟩:(Sl Tie))⟩:Net)))]
  | _=>.no
theorem zFQ:zan Tryd.prog 23:=⟨_,rfl,rfl,by kernel_rfl⟩
theorem zIM:Ok Tryd.prog 23 zC0:=zbr zHq zFQ fun args K h=>by
  unfold zC0 at h
  split at h
  · rename_i a0_Nodes a0_Ties_n a0_Ties_s a0_Ties_g
    obtain ⟨⟨⟨rfl,a0_Ties_f,rfl⟩,hs⟩,hk⟩:=h
    try rw [zaj a0_Ties_f] at hs
    try rw [zaj a0_Ties_f] at hk
    exact ⟨(fun _ _=>[]),(fun _=>false),zCV,q23 (⟨a0_Nodes,(⟨a0_Ties_n,a0_Ties_f⟩:(Sl Tie))⟩:Net) K hs hk⟩
  · exact h.elim
abbrev T39:Tabs:=Tabs.nil
theorem zHr:TabsOk Tryd.prog T39:=TabsOk.nil
abbrev G39:Ctrs:=csm T39 (fun _ _=>[]) (fun _=>false)
def zFR:Ann:=⟨37,[(0,zK [1,2] [2]),(1,zK [2,5] [2]),(2,zK [4] [])],
 [],
 [],
 [],[]⟩
abbrev R39:=Bool
abbrev e39 (r:R39):List PA:=[.one (.bool r)]
section
variable {K:List PA→Prop} {t:Tie} {values:(Sl Int)}
def s39 (t:Tie) (values:(Sl Int)):Bool :=
  (cond (t.Low == (-1000000000000:Int))
 (cond (t.High == (1000000000000:Int))
 true
 (decide ((w64 ((values.get t.To.toNat) - (values.get t.From.toNat)))≤t.High)))
 (cond (decide ((w64 ((values.get t.To.toNat) - (values.get t.From.toNat))) ≥ t.Low))
 (cond (t.High == (1000000000000:Int))
 true
 (decide ((w64 ((values.get t.To.toNat) - (values.get t.From.toNat)))≤t.High)))
 false))
def p39 (t:Tie) (values:(Sl Int)):Bool :=
  (decide ((0≤t.To∧t.To < (values.len:Int))) &&
 (decide ((0≤t.From∧t.From < (values.len:Int))) &&
 true))
end
theorem q39 (t:Tie) (values:(Sl Int)) (K:List PA→Prop) (hs:p39 t values=true) (hk:K (e39 (s39 t values))):vcFun Tryd.prog G39 zFR 39 [.agg (enc_40 t),.one (.sl values.len 1 (fun i=>enc_3 (values.get i)))] K :=
  za9 (by kernel_rfl) (zaX hs fun hc hs=>And.intro hc (zaX hs fun hc hs=>And.intro hc (zt hk (fun hk=>(zt hk (fun hk=>hk) (fun hk=>hk))) (fun hk=>(zt hk (fun hk=>(zt hk (fun hk=>hk) (fun hk=>hk))) (fun hk=>hk))))))
def zC1 : List PA → COut
  | [.agg [.int .i64 a0_From,.int .i64 a0_To,.int .i64 a0_Low,.int .i64 a0_High],.one (.sl a1_n a1_s a1_g)]=>.det (IsE enc_3 1 a1_s a1_g∧p39 (⟨a0_From,a0_To,a0_Low,a0_High⟩:Tie) (⟨a1_n,zaq a1_g⟩:(Sl Int))=true) [.one (.bool (s39 (⟨a0_From,a0_To,a0_Low,a0_High⟩:Tie) (⟨a1_n,zaq a1_g⟩:(Sl Int))))]
  | _=>.no
theorem zFS:zan Tryd.prog 39:=⟨_,rfl,rfl,by kernel_rfl⟩
theorem zIN:Ok Tryd.prog 39 zC1:=zbr zHr zFS fun args K h=>by
  unfold zC1 at h
  split at h
  · rename_i a0_From a0_To a0_Low a0_High a1_n a1_s a1_g
    obtain ⟨⟨⟨rfl,a1_f,rfl⟩,hs⟩,hk⟩:=h
    try rw [za0 a1_f] at hs
    try rw [za0 a1_f] at hk
    exact ⟨(fun _ _=>[]),(fun _=>false),zFR,q39 (⟨a0_From,a0_To,a0_Low,a0_High⟩:Tie) (⟨a1_n,a1_f⟩:(Sl Int)) K hs hk⟩
  · exact h.elim
abbrev T80:Tabs:=(Tabs.nil.addF 72 zxy)
theorem zHs:TabsOk Tryd.prog T80:=(TabsOk.nil.addF zHo)
abbrev G80:Ctrs:=csm T80 (fun _ _=>[]) (fun _=>false)
def zC2:Ann:=⟨29,[(0,zK [1,2] [2]),(1,zK [1,16] []),(2,zK [4] []),(3,zK [1,5] []),(4,zK [1,5,20] []),(5,zK [1,5] []),(6,zK [1,5,28] []),(7,zK [4] []),(8,zK [4] [])],
 [(4,zK [1,5] [])],
 [(3,zK [1] []),(7,zK [1,5,28] [])],
 [],[]⟩
abbrev R80:=Bool
abbrev e80 (r:R80):List PA:=[.one (.bool r)]
@[irreducible] def z80:=ptF Tryd.prog G80 zC2 Tryd.f80
def zz2 (values:(Sl Int)) (iv1:Int):St:=⟨[(1,zS enc_3 1 values),(5,zI iv1)],[],[]⟩
abbrev zC3 (K:List PA→Prop) (values:(Sl Int)) (X:St→Prop) (P:Int→Bool) (S:Int→Bool):Prop:=∀ ⦃iv1:Int⦄,P iv1=true→K (e80 (S iv1))→X (zz2 values iv1)
section
variable {K:List PA→Prop} {n:Net} {values:(Sl Int)} {iv1:Int} {X1:St→Prop} {P1:Int→Bool} {S1:Int→Bool} {iv2:Int} {zcz:Bool}
def zp4 (S1:Int→Bool) (values:(Sl Int)) (iv2:Int) (zcz:Bool):Bool :=
  (cond zcz
 false
 (S1 (w64 (iv2+(1:Int)))))
def zp5 (P1:Int→Bool) (values:(Sl Int)) (iv2:Int) (zcz:Bool):Bool :=
  (cond zcz
 true
 (P1 (w64 (iv2+(1:Int)))))
theorem zC4 (hX1:zC3 K values X1 P1 S1) (hs:zp5 P1 values iv2 zcz=true) (hk:K (e80 (zp4 S1 values iv2 zcz))):z80 K [1,1,0,1,0,0,1,0,0,1] [X1] ⟨[(1,zS enc_3 1 values),(5,zI iv2),(28,zB zcz)],[],[]⟩:=za9 (by kernel_rfl) (zc hs hk (fun hs hk=>hk) (fun hs hk=>(hX1 hs hk)))
def zg3 (values:(Sl Int)) (S1:Int→Bool) (iv1:Int):Bool :=
  (cond (decide (iv1 < (values.len : Int)))
 (zp4 S1 values iv1 (!(s72 (values.get iv1.toNat) (-1000000000000:Int) (1000000000000:Int))))
 true)
def zg4 (values:(Sl Int)) (P1:Int→Bool) (iv1:Int):Bool :=
  (cond (decide (iv1 < (values.len : Int)))
 (decide ((0≤iv1∧iv1 < (values.len:Int))) &&
 (zp5 P1 values iv1 (!(s72 (values.get iv1.toNat) (-1000000000000:Int) (1000000000000:Int)))))
 true)
def zfM (values:(Sl Int)):Nat→Int→Bool:=lpO (fun _=>default) (zg3 values)
def zg5 (values:(Sl Int)):Nat→Int→Bool:=lpO (fun _=>false) (zg4 values)
def zp6 (values:(Sl Int)) (iv1:Int):Bool:=zfM values Fuel iv1
def zp7 (values:(Sl Int)) (iv1:Int):Bool:=zg5 values Fuel iv1
theorem zC5 (hs:zp7 values iv1=true) (hk:K (e80 (zp6 values iv1))):z80 K [1,1,0,1,0] [] (zz2 values iv1) :=
  zl (fun X=>z80 K [1,1,0,1,0,0] [X]) (by kernel_rfl) fun X1 hX =>
  (show ∀ k, zC3 K values X1 (zg5 values k) (zfM values k) from zjV _ _ (zg4 values) (zg3 values) (zC3 K values X1)
 (by intro _ hs;exact absurd hs Bool.false_ne_true)
 (by intro P1 S1 hX1 iv1 hs hk;exact hX _ (za9 (by kernel_rfl) (zc hs hk (fun hs hk=>(zaX hs fun hc hs=>And.intro hc (zC4 hX1 hs hk))) (fun hs hk=>hk))))) _ hs hk
def zp8 (values:(Sl Int)):Bool :=
  (zp6 values (0:Int))
def zp9 (values:(Sl Int)):Bool :=
  (zp7 values (0:Int))
theorem zC6 (hs:zp9 values=true) (hk:K (e80 (zp8 values))):z80 K [1,1] [] ⟨[(1,zS enc_3 1 values)],[],[]⟩:=za9 (by kernel_rfl) (zC5 hs hk)
def s80 (n:Net) (values:(Sl Int)):Bool :=
  (cond ((values.len : Int) != n.Nodes)
 false
 (cond ((values.get 0) != (0:Int))
 false
 (zp8 values)))
def p80 (n:Net) (values:(Sl Int)):Bool :=
  (cond ((values.len : Int) != n.Nodes)
 true
 (decide ((0≤(0:Int)∧(0:Int) < (values.len:Int))) &&
 (cond ((values.get 0) != (0:Int))
 true
 (zp9 values))))
end
theorem q80 (n:Net) (values:(Sl Int)) (K:List PA→Prop) (hs:p80 n values=true) (hk:K (e80 (s80 n values))):vcFun Tryd.prog G80 zC2 80 [.agg (enc_24 n),.one (.sl values.len 1 (fun i=>enc_3 (values.get i)))] K :=
  za9 (by kernel_rfl) (zc hs hk (fun hs hk=>hk) (fun hs hk=>(zaX hs fun hc hs=>And.intro hc (zc hs hk (fun hs hk=>hk) (fun hs hk=>(zC6 hs hk))))))
def zC7 : List PA → COut
  | [.agg [.int .i64 a0_Nodes,.sl a0_Ties_n a0_Ties_s a0_Ties_g],.one (.sl a1_n a1_s a1_g)]=>.det (IsE enc_40 4 a0_Ties_s a0_Ties_g∧IsE enc_3 1 a1_s a1_g∧p80 (⟨a0_Nodes,(⟨a0_Ties_n,zaa a0_Ties_g⟩:(Sl Tie))⟩:Net) (⟨a1_n,zaq a1_g⟩:(Sl Int))=true) [.one (.bool (s80 (⟨a0_Nodes,(⟨a0_Ties_n,zaa a0_Ties_g⟩:(Sl Tie))⟩:Net) (⟨a1_n,zaq a1_g⟩:(Sl Int))))]
  | _=>.no
theorem zFT:zan Tryd.prog 80:=⟨_,rfl,rfl,by kernel_rfl⟩
theorem zIO:Ok Tryd.prog 80 zC7:=zbr zHs zFT fun args K h=>by
  unfold zC7 at h
  split at h
  · rename_i a0_Nodes a0_Ties_n a0_Ties_s a0_Ties_g a1_n a1_s a1_g
    obtain ⟨⟨⟨rfl,a0_Ties_f,rfl⟩,⟨rfl,a1_f,rfl⟩,hs⟩,hk⟩:=h
    try rw [zaj a0_Ties_f] at hs
    try rw [zaj a0_Ties_f] at hk
    try rw [za0 a1_f] at hs
    try rw [za0 a1_f] at hk
    exact ⟨(fun _ _=>[]),(fun _=>false),zC2,q80 (⟨a0_Nodes,(⟨a0_Ties_n,a0_Ties_f⟩:(Sl Tie))⟩:Net) (⟨a1_n,a1_f⟩:(Sl Int)) K hs hk⟩
  · exact h.elim
abbrev T38:Tabs:=((Tabs.nil.addF 39 zC1).addF 80 zC7)
theorem zHt:TabsOk Tryd.prog T38:=((TabsOk.nil.addF zIN).addF zIO)
abbrev G38:Ctrs:=csm T38 (fun _ _=>[]) (fun _=>false)
def zC8:Ann:=⟨25,[(0,zK [1,2] [2]),(1,zK [1,2,9] [2]),(2,zK [4] []),(3,zK [1,2,5] [2]),(4,zK [1,2,5,14] [2]),(5,zK [1,2,5] [2]),(6,zK [1,2,5,24] [2]),(7,zK [4] []),(8,zK [4] [])],
 [(4,zK [1,2,5] [2])],
 [(2,zK [1,2,9] [2]),(3,zK [1,2] [2]),(7,zK [1,2,5,24] [2])],
 [],[]⟩
abbrev R38:=Bool
abbrev e38 (r:R38):List PA:=[.one (.bool r)]
@[irreducible] def z38:=ptF Tryd.prog G38 zC8 Tryd.f38
def zz3 (n:Net) (values:(Sl Int)) (iv2:Int):St:=⟨[(1,zS enc_3 1 values),(2,zp 2 0),(5,zI iv2)],[(2,.box 24 (zm (enc_24 n)))],[]⟩
abbrev zC9 (K:List PA→Prop) (n:Net) (values:(Sl Int)) (X:St→Prop) (P:Int→Bool) (S:Int→Bool):Prop:=∀ ⦃iv2:Int⦄,P iv2=true→K (e38 (S iv2))→X (zz3 n values iv2)
section
variable {K:List PA→Prop} {n:Net} {values:(Sl Int)} {zfJ:Bool} {iv2:Int} {X2:St→Prop} {P2:Int→Bool} {S2:Int→Bool} {iv3:Int} {zqa:Bool}
def zqb (S2:Int→Bool) (n:Net) (values:(Sl Int)) (iv3:Int) (zqa:Bool):Bool :=
  (cond zqa
 false
 (S2 (w64 (iv3+(1:Int)))))
def zqc (P2:Int→Bool) (n:Net) (values:(Sl Int)) (iv3:Int) (zqa:Bool):Bool :=
  (cond zqa
 true
 (P2 (w64 (iv3+(1:Int)))))
theorem zDa (hX2:zC9 K n values X2 P2 S2) (hs:zqc P2 n values iv3 zqa=true) (hk:K (e38 (zqb S2 n values iv3 zqa))):z38 K [1,1,0,1,0,0,1,0,0,1] [X2] ⟨[(1,zS enc_3 1 values),(2,zp 2 0),(5,zI iv3),(24,zB zqa)],[(2,.box 24 (zm (enc_24 n)))],[]⟩:=za9 (by kernel_rfl) (zc hs hk (fun hs hk=>hk) (fun hs hk=>(hX2 hs hk)))
def zg6 (n:Net) (values:(Sl Int)) (S2:Int→Bool) (iv2:Int):Bool :=
  (cond (decide (iv2 < (n.Ties.len : Int)))
 (zqb S2 n values iv2 (!(s39 (n.Ties.get iv2.toNat) values)))
 true)
def zg7 (n:Net) (values:(Sl Int)) (P2:Int→Bool) (iv2:Int):Bool :=
  (cond (decide (iv2 < (n.Ties.len : Int)))
 (decide ((0≤iv2∧iv2 < (n.Ties.len:Int))) &&
 (decide ((p39 (n.Ties.get iv2.toNat) values=true)) &&
 (zqc P2 n values iv2 (!(s39 (n.Ties.get iv2.toNat) values)))))
 true)
def zg8 (n:Net) (values:(Sl Int)):Nat→Int→Bool:=lpO (fun _=>default) (zg6 n values)
def zg9 (n:Net) (values:(Sl Int)):Nat→Int→Bool:=lpO (fun _=>false) (zg7 n values)
def zqd (n:Net) (values:(Sl Int)) (iv2:Int):Bool:=zg8 n values Fuel iv2
def zqe (n:Net) (values:(Sl Int)) (iv2:Int):Bool:=zg9 n values Fuel iv2
theorem zDb (hs:zqe n values iv2=true) (hk:K (e38 (zqd n values iv2))):z38 K [1,1,0,1,0] [] (zz3 n values iv2) :=
  zl (fun X=>z38 K [1,1,0,1,0,0] [X]) (by kernel_rfl) fun X2 hX =>
  (show ∀ k, zC9 K n values X2 (zg9 n values k) (zg8 n values k) from zjV _ _ (zg7 n values) (zg6 n values) (zC9 K n values X2)
 (by intro _ hs;exact absurd hs Bool.false_ne_true)
 (by intro P2 S2 hX2 iv2 hs hk;exact hX _ (za9 (by kernel_rfl) (zc hs hk (fun hs hk=>(zaX hs fun hc hs=>And.intro hc (zaX hs fun hc hs=>And.intro (And.intro (zE enc_3 1 values.get) hc) (zDa hX2 hs hk)))) (fun hs hk=>hk))))) _ hs hk
def zqf (n:Net) (values:(Sl Int)):Bool :=
  (zqd n values (0:Int))
def zqg (n:Net) (values:(Sl Int)):Bool :=
  (zqe n values (0:Int))
theorem zDc (hs:zqg n values=true) (hk:K (e38 (zqf n values))):z38 K [1,1] [] ⟨[(1,zS enc_3 1 values),(2,zp 2 0)],[(2,.box 24 (zm (enc_24 n)))],[]⟩:=za9 (by kernel_rfl) (zDb hs hk)
def zqh (n:Net) (values:(Sl Int)) (zfJ:Bool):Bool :=
  (cond zfJ
 false
 (zqf n values))
def zqi (n:Net) (values:(Sl Int)) (zfJ:Bool):Bool :=
  (cond zfJ
 true
 (zqg n values))
theorem zDd (hs:zqi n values zfJ=true) (hk:K (e38 (zqh n values zfJ))):z38 K [1,0,1] [] ⟨[(1,zS enc_3 1 values),(2,zp 2 0),(9,zB zfJ)],[(2,.box 24 (zm (enc_24 n)))],[]⟩:=za9 (by kernel_rfl) (zc hs hk (fun hs hk=>hk) (fun hs hk=>(zDc hs hk)))
def s38 (n:Net) (values:(Sl Int)):Bool :=
  (zqh n values (!(s80 n values)))
def p38 (n:Net) (values:(Sl Int)):Bool :=
  (decide ((p80 n values=true)) &&
 (zqi n values (!(s80 n values))))
end
theorem q38 (n:Net) (values:(Sl Int)) (K:List PA→Prop) (hs:p38 n values=true) (hk:K (e38 (s38 n values))):vcFun Tryd.prog G38 zC8 38 [.agg (enc_24 n),.one (.sl values.len 1 (fun i=>enc_3 (values.get i)))] K :=
  za9 (by kernel_rfl) (zaX hs fun hc hs=>And.intro (And.intro (zE enc_40 4 n.Ties.get) (And.intro (zE enc_3 1 values.get) hc)) (zDd hs hk))
def zDe : List PA → COut
  | [.agg [.int .i64 a0_Nodes,.sl a0_Ties_n a0_Ties_s a0_Ties_g],.one (.sl a1_n a1_s a1_g)]=>.det (IsE enc_40 4 a0_Ties_s a0_Ties_g∧IsE enc_3 1 a1_s a1_g∧p38 (⟨a0_Nodes,(⟨a0_Ties_n,zaa a0_Ties_g⟩:(Sl Tie))⟩:Net) (⟨a1_n,zaq a1_g⟩:(Sl Int))=true) [.one (.bool (s38 (⟨a0_Nodes,(⟨a0_Ties_n,zaa a0_Ties_g⟩:(Sl Tie))⟩:Net) (⟨a1_n,zaq a1_g⟩:(Sl Int))))]
  | _=>.no
theorem zFU:zan Tryd.prog 38:=⟨_,rfl,rfl,by kernel_rfl⟩
theorem zIP:Ok Tryd.prog 38 zDe:=zbr zHt zFU fun args K h=>by
  unfold zDe at h
  split at h
  · rename_i a0_Nodes a0_Ties_n a0_Ties_s a0_Ties_g a1_n a1_s a1_g
    obtain ⟨⟨⟨rfl,a0_Ties_f,rfl⟩,⟨rfl,a1_f,rfl⟩,hs⟩,hk⟩:=h
    try rw [zaj a0_Ties_f] at hs
    try rw [zaj a0_Ties_f] at hk
    try rw [za0 a1_f] at hs
    try rw [za0 a1_f] at hk
    exact ⟨(fun _ _=>[]),(fun _=>false),zC8,q38 (⟨a0_Nodes,(⟨a0_Ties_n,a0_Ties_f⟩:(Sl Tie))⟩:Net) (⟨a1_n,a1_f⟩:(Sl Int)) K hs hk⟩
  · exact h.elim
abbrev T47:Tabs:=(Tabs.nil.addF 67 zou)
theorem zHu:TabsOk Tryd.prog T47:=(TabsOk.nil.addF zEy)
abbrev G47:Ctrs:=csm T47 (fun _ _=>[]) (fun _=>false)
def zFV:Ann:=⟨6,[(0,zK [1] [1]),(1,zK [5] []),(2,zK [2] []),(3,zK [2] [])],
 [],
 [],
 [],[]⟩
abbrev R47:=Int
abbrev e47 (r:R47):List PA:=[.one (.int .i64 r)]
section
variable {K:List PA→Prop} {n:Net}
def s47 (n:Net):Int :=
  (cond (!(s67 n))
 (2:Int)
 (0:Int))
def p47 (n:Net):Bool :=
  (decide ((p67 n=true)) &&
 true)
end
theorem q47 (n:Net) (K:List PA→Prop) (hs:p47 n=true) (hk:K (e47 (s47 n))):vcFun Tryd.prog G47 zFV 47 [.agg (enc_24 n)] K :=
  za9 (by kernel_rfl) (zaX hs fun hc hs=>And.intro (And.intro (zE enc_40 4 n.Ties.get) hc) (zt hk (fun hk=>hk) (fun hk=>hk)))
def zDf : List PA → COut
  | [.agg [.int .i64 a0_Nodes,.sl a0_Ties_n a0_Ties_s a0_Ties_g]]=>.det (IsE enc_40 4 a0_Ties_s a0_Ties_g∧p47 (⟨a0_Nodes,(⟨a0_Ties_n,zaa a0_Ties_g⟩:(Sl Tie))⟩:Net)=true) [.one (.int .i64 (s47 (⟨a0_Nodes,(⟨a0_Ties_n,zaa a0_Ties_g⟩:(Sl Tie))⟩:Net)))]
  | _=>.no
theorem zFW:zan Tryd.prog 47:=⟨_,rfl,rfl,by kernel_rfl⟩
theorem zIQ:Ok Tryd.prog 47 zDf:=zbr zHu zFW fun args K h=>by
  unfold zDf at h
  split at h
  · rename_i a0_Nodes a0_Ties_n a0_Ties_s a0_Ties_g
    obtain ⟨⟨⟨rfl,a0_Ties_f,rfl⟩,hs⟩,hk⟩:=h
    try rw [zaj a0_Ties_f] at hs
    try rw [zaj a0_Ties_f] at hk
    exact ⟨(fun _ _=>[]),(fun _=>false),zFV,q47 (⟨a0_Nodes,(⟨a0_Ties_n,a0_Ties_f⟩:(Sl Tie))⟩:Net) K hs hk⟩
  · exact h.elim
abbrev T48:Tabs:=((Tabs.nil.addF 67 zou).addF 81 zso)
theorem zHv:TabsOk Tryd.prog T48:=((TabsOk.nil.addF zEy).addF zGb)
abbrev G48:Ctrs:=csm T48 (fun _ _=>[]) (fun _=>false)
def zDg:Ann:=⟨75,[(0,zK [1,2] [2]),(1,zK [1,2,25] [2]),(2,zK [4] []),(3,zK [1,2,26,27,28] [2]),(4,zK [1,2,26,27,28,29] [2]),(5,zK [1,2,6,26,27,28] [2]),(6,zK [1,2,26,27,28,34] [2]),(7,zK [4] []),(8,zK [1,2,26,27,28] [2]),(9,zK [1,37,38,39] []),(10,zK [1,37,38,39,40] []),(11,zK [1,8,37,38,39] [8]),(12,zK [1,8,9,37,38,39] [8]),(13,zK [1,37,38,39,73] []),(14,zK [4] []),(15,zK [1,37,38,39] []),(16,zK [4] [])],
 [(4,zK [1,2,26,27,28] [2]),(10,zK [1,37,38,39] [])],
 [(2,zK [1,2,25] [2]),(3,zK [1,2] [2]),(7,zK [1,2,26,27,28,34] [2]),(9,zK [1,2] [2])],
 [],[]⟩
abbrev R48:=Bool
abbrev e48 (r:R48):List PA:=[.one (.bool r)]
@[irreducible] def z48:=ptF Tryd.prog G48 zDg Tryd.f48
def zz4 (n:Net) (values:(Sl Int)) (zcz:Int):St:=⟨[(1,zS enc_3 1 values),(2,zp 2 0),(26,zS enc_3 1 values),(27,zI (values.len:Int)),(28,zI zcz)],[(2,.box 24 (zm (enc_24 n)))],[]⟩
abbrev zDh (K:List PA→Prop) (n:Net) (values:(Sl Int)) (X:St→Prop) (P:Int→Bool) (S:Int→Bool):Prop:=∀ ⦃zcz:Int⦄,P zcz=true→K (e48 (S zcz))→X (zz4 n values zcz)
def zz5 (n:Net) (values:(Sl Int)) (zbx:Int):St:=⟨[(1,zS enc_3 1 values),(37,zS enc_40 4 n.Ties),(38,zI (n.Ties.len:Int)),(39,zI zbx)],[],[]⟩
abbrev zFX (K:List PA→Prop) (n:Net) (values:(Sl Int)) (X:St→Prop) (P:Int→Bool) (S:Int→Bool):Prop:=∀ ⦃zbx:Int⦄,P zbx=true→K (e48 (S zbx))→X (zz5 n values zbx)
section
variable {K:List PA→Prop} {n:Net} {values:(Sl Int)} {zqj:Bool} {zcz:Int} {X2:St→Prop} {P2:Int→Bool} {S2:Int→Bool} {zqk:Int} {zql:Bool} {zbx:Int} {X5:St→Prop} {P5:Int→Bool} {S5:Int→Bool}
def zha (n:Net) (values:(Sl Int)) (S5:Int→Bool) (zbx:Int):Bool :=
  (cond (decide (zbx < (n.Ties.len : Int)))
 (cond ((n.Ties.get zbx.toNat).Low != (-1000000000000:Int))
 (cond (decide ((w64 ((values.get (((n.Ties.get zbx.toNat).To).toNat)) - (values.get (((n.Ties.get zbx.toNat).From).toNat)))) < (n.Ties.get zbx.toNat).Low))
 false
 (cond ((n.Ties.get zbx.toNat).High != (1000000000000:Int))
 (cond (decide ((w64 ((values.get (((n.Ties.get zbx.toNat).To).toNat)) - (values.get (((n.Ties.get zbx.toNat).From).toNat)))) > (n.Ties.get zbx.toNat).High))
 false
 (S5 (w64 (zbx+(1:Int)))))
 (S5 (w64 (zbx+(1:Int))))))
 (cond ((n.Ties.get zbx.toNat).High != (1000000000000:Int))
 (cond (decide ((w64 ((values.get (((n.Ties.get zbx.toNat).To).toNat)) - (values.get (((n.Ties.get zbx.toNat).From).toNat)))) > (n.Ties.get zbx.toNat).High))
 false
 (S5 (w64 (zbx+(1:Int)))))
 (S5 (w64 (zbx+(1:Int))))))
 true)
def zhb (n:Net) (values:(Sl Int)) (P5:Int→Bool) (zbx:Int):Bool :=
  (cond (decide (zbx < (n.Ties.len : Int)))
 (decide ((0≤zbx∧zbx < (n.Ties.len:Int))) &&
 (decide ((0≤(n.Ties.get zbx.toNat).To∧(n.Ties.get zbx.toNat).To < (values.len:Int))) &&
 (decide ((0≤(n.Ties.get zbx.toNat).From∧(n.Ties.get zbx.toNat).From < (values.len:Int))) &&
 (cond ((n.Ties.get zbx.toNat).Low != (-1000000000000:Int))
 (cond (decide ((w64 ((values.get (((n.Ties.get zbx.toNat).To).toNat)) - (values.get (((n.Ties.get zbx.toNat).From).toNat)))) < (n.Ties.get zbx.toNat).Low))
 true
 (cond ((n.Ties.get zbx.toNat).High != (1000000000000:Int))
 (cond (decide ((w64 ((values.get (((n.Ties.get zbx.toNat).To).toNat)) - (values.get (((n.Ties.get zbx.toNat).From).toNat)))) > (n.Ties.get zbx.toNat).High))
 true
 (P5 (w64 (zbx+(1:Int)))))
 (P5 (w64 (zbx+(1:Int))))))
 (cond ((n.Ties.get zbx.toNat).High != (1000000000000:Int))
 (cond (decide ((w64 ((values.get (((n.Ties.get zbx.toNat).To).toNat)) - (values.get (((n.Ties.get zbx.toNat).From).toNat)))) > (n.Ties.get zbx.toNat).High))
 true
 (P5 (w64 (zbx+(1:Int)))))
 (P5 (w64 (zbx+(1:Int)))))))))
 true)
def zhc (n:Net) (values:(Sl Int)):Nat→Int→Bool:=lpO (fun _=>default) (zha n values)
def zhd (n:Net) (values:(Sl Int)):Nat→Int→Bool:=lpO (fun _=>false) (zhb n values)
def zxA (n:Net) (values:(Sl Int)) (zbx:Int):Bool:=zhc n values Fuel zbx
def zxB (n:Net) (values:(Sl Int)) (zbx:Int):Bool:=zhd n values Fuel zbx
theorem zDi (hs:zxB n values zbx=true) (hk:K (e48 (zxA n values zbx))):z48 K [1,1,1,0,1,0] [] (zz5 n values zbx) :=
  zl (fun X=>z48 K [1,1,1,0,1,0,0] [X]) (by kernel_rfl) fun X5 hX =>
  (show ∀ k, zFX K n values X5 (zhd n values k) (zhc n values k) from zjV _ _ (zhb n values) (zha n values) (zFX K n values X5)
 (by intro _ hs;exact absurd hs Bool.false_ne_true)
 (by intro P5 S5 hX5 zbx hs hk;exact hX _ (za9 (by kernel_rfl) (zc hs hk (fun hs hk=>(zaX hs fun hc hs=>And.intro hc (zaX hs fun hc hs=>And.intro hc (zaX hs fun hc hs=>And.intro hc (zc hs hk (fun hs hk=>(zc hs hk (fun hs hk=>hk) (fun hs hk=>(zc hs hk (fun hs hk=>(zc hs hk (fun hs hk=>hk) (fun hs hk=>(hX5 hs hk)))) (fun hs hk=>(hX5 hs hk)))))) (fun hs hk=>(zc hs hk (fun hs hk=>(zc hs hk (fun hs hk=>hk) (fun hs hk=>(hX5 hs hk)))) (fun hs hk=>(hX5 hs hk))))))))) (fun hs hk=>hk))))) _ hs hk
def zjS (n:Net) (values:(Sl Int)):Bool :=
  (zxA n values (0:Int))
def zlZ (n:Net) (values:(Sl Int)):Bool :=
  (zxB n values (0:Int))
theorem zDj (hs:zlZ n values=true) (hk:K (e48 (zjS n values))):z48 K [1,1,1] [] ⟨[(1,zS enc_3 1 values),(2,zp 2 0)],[(2,.box 24 (zm (enc_24 n)))],[]⟩:=za9 (by kernel_rfl) (zDi hs hk)
def zl0 (S2:Int→Bool) (n:Net) (values:(Sl Int)) (zqk:Int) (zql:Bool):Bool :=
  (cond zql
 false
 (S2 (w64 (zqk+(1:Int)))))
def zl1 (P2:Int→Bool) (n:Net) (values:(Sl Int)) (zqk:Int) (zql:Bool):Bool :=
  (cond zql
 true
 (P2 (w64 (zqk+(1:Int)))))
theorem zDk (hX2:zDh K n values X2 P2 S2) (hs:zl1 P2 n values zqk zql=true) (hk:K (e48 (zl0 S2 n values zqk zql))):z48 K [1,1,0,1,0,0,1,1,0,0,1,1] [X2] ⟨[(1,zS enc_3 1 values),(2,zp 2 0),(26,zS enc_3 1 values),(27,zI (values.len:Int)),(28,zI zqk),(34,zB zql)],[(2,.box 24 (zm (enc_24 n)))],[]⟩:=za9 (by kernel_rfl) (zc hs hk (fun hs hk=>hk) (fun hs hk=>(hX2 hs hk)))
def zdW (n:Net) (values:(Sl Int)) (S2:Int→Bool) (zcz:Int):Bool :=
  (cond (decide (zcz < (values.len : Int)))
 (zl0 S2 n values zcz (!(s81 (values.get zcz.toNat) (-1000000000000:Int) (1000000000000:Int))))
 (zjS n values))
def zdX (n:Net) (values:(Sl Int)) (P2:Int→Bool) (zcz:Int):Bool :=
  (cond (decide (zcz < (values.len : Int)))
 (decide ((0≤zcz∧zcz < (values.len:Int))) &&
 (zl1 P2 n values zcz (!(s81 (values.get zcz.toNat) (-1000000000000:Int) (1000000000000:Int)))))
 (zlZ n values))
def zdY (n:Net) (values:(Sl Int)):Nat→Int→Bool:=lpO (fun _=>default) (zdW n values)
def zdZ (n:Net) (values:(Sl Int)):Nat→Int→Bool:=lpO (fun _=>false) (zdX n values)
def zl2 (n:Net) (values:(Sl Int)) (zcz:Int):Bool:=zdY n values Fuel zcz
def zl3 (n:Net) (values:(Sl Int)) (zcz:Int):Bool:=zdZ n values Fuel zcz
theorem zDl (hs:zl3 n values zcz=true) (hk:K (e48 (zl2 n values zcz))):z48 K [1,1,0,1,0] [] (zz4 n values zcz) :=
  zl (fun X=>z48 K [1,1,0,1,0,0] [X]) (by kernel_rfl) fun X2 hX =>
  (show ∀ k, zDh K n values X2 (zdZ n values k) (zdY n values k) from zjV _ _ (zdX n values) (zdW n values) (zDh K n values X2)
 (by intro _ hs;exact absurd hs Bool.false_ne_true)
 (by intro P2 S2 hX2 zcz hs hk;exact hX _ (za9 (by kernel_rfl) (zc hs hk (fun hs hk=>(zaX hs fun hc hs=>And.intro hc (zDk hX2 hs hk))) (fun hs hk=>(zDj hs hk)))))) _ hs hk
def zl4 (n:Net) (values:(Sl Int)):Bool :=
  (zl2 n values (0:Int))
def zl5 (n:Net) (values:(Sl Int)):Bool :=
  (zl3 n values (0:Int))
theorem zDm (hs:zl5 n values=true) (hk:K (e48 (zl4 n values))):z48 K [1,1] [] ⟨[(1,zS enc_3 1 values),(2,zp 2 0)],[(2,.box 24 (zm (enc_24 n)))],[]⟩:=za9 (by kernel_rfl) (zDl hs hk)
def zhe (n:Net) (values:(Sl Int)) (zqj:Bool):Bool :=
  (cond zqj
 false
 (zl4 n values))
def zhf (n:Net) (values:(Sl Int)) (zqj:Bool):Bool :=
  (cond zqj
 true
 (zl5 n values))
theorem zqm (hs:zhf n values zqj=true) (hk:K (e48 (zhe n values zqj))):z48 K [1,0,1] [] ⟨[(1,zS enc_3 1 values),(2,zp 2 0),(25,zB zqj)],[(2,.box 24 (zm (enc_24 n)))],[]⟩:=za9 (by kernel_rfl) (zc hs hk (fun hs hk=>hk) (fun hs hk=>(zDm hs hk)))
def s48 (n:Net) (values:(Sl Int)):Bool :=
  (cond (!(s67 n))
 (zhe n values true)
 (cond ((values.len : Int) != n.Nodes)
 (zhe n values true)
 (zhe n values ((values.get 0) != (0:Int)))))
def p48 (n:Net) (values:(Sl Int)):Bool :=
  (decide ((p67 n=true)) &&
 (cond (!(s67 n))
 (zhf n values true)
 (cond ((values.len : Int) != n.Nodes)
 (zhf n values true)
 (decide ((0≤(0:Int)∧(0:Int) < (values.len:Int))) &&
 (zhf n values ((values.get 0) != (0:Int)))))))
end
theorem q48 (n:Net) (values:(Sl Int)) (K:List PA→Prop) (hs:p48 n values=true) (hk:K (e48 (s48 n values))):vcFun Tryd.prog G48 zDg 48 [.agg (enc_24 n),.one (.sl values.len 1 (fun i=>enc_3 (values.get i)))] K :=
  za9 (by kernel_rfl) (zaX hs fun hc hs=>And.intro (And.intro (zE enc_40 4 n.Ties.get) hc) (zc hs hk (fun hs hk=>(zqm hs hk)) (fun hs hk=>(zc hs hk (fun hs hk=>(zqm hs hk)) (fun hs hk=>(zaX hs fun hc hs=>And.intro hc (zqm hs hk)))))))
def zDn : List PA → COut
  | [.agg [.int .i64 a0_Nodes,.sl a0_Ties_n a0_Ties_s a0_Ties_g],.one (.sl a1_n a1_s a1_g)]=>.det (IsE enc_40 4 a0_Ties_s a0_Ties_g∧IsE enc_3 1 a1_s a1_g∧p48 (⟨a0_Nodes,(⟨a0_Ties_n,zaa a0_Ties_g⟩:(Sl Tie))⟩:Net) (⟨a1_n,zaq a1_g⟩:(Sl Int))=true) [.one (.bool (s48 (⟨a0_Nodes,(⟨a0_Ties_n,zaa a0_Ties_g⟩:(Sl Tie))⟩:Net) (⟨a1_n,zaq a1_g⟩:(Sl Int))))]
  | _=>.no
theorem zFY:zan Tryd.prog 48:=⟨_,rfl,rfl,by kernel_rfl⟩
theorem zIR:Ok Tryd.prog 48 zDn:=zbr zHv zFY fun args K h=>by
  unfold zDn at h
  split at h
  · rename_i a0_Nodes a0_Ties_n a0_Ties_s a0_Ties_g a1_n a1_s a1_g
    obtain ⟨⟨⟨rfl,a0_Ties_f,rfl⟩,⟨rfl,a1_f,rfl⟩,hs⟩,hk⟩:=h
    try rw [zaj a0_Ties_f] at hs
    try rw [zaj a0_Ties_f] at hk
    try rw [za0 a1_f] at hs
    try rw [za0 a1_f] at hk
    exact ⟨(fun _ _=>[]),(fun _=>false),zDg,q48 (⟨a0_Nodes,(⟨a0_Ties_n,a0_Ties_f⟩:(Sl Tie))⟩:Net) (⟨a1_n,a1_f⟩:(Sl Int)) K hs hk⟩
  · exact h.elim
abbrev T10:Tabs:=((((((Tabs.nil.addF 20 zCR).addF 21 zCQ).addF 23 zC0).addF 38 zDe).addF 47 zDf).addF 48 zDn)
theorem zHw:TabsOk Tryd.prog T10:=((((((TabsOk.nil.addF zIK).addF zIJ).addF zIM).addF zIP).addF zIQ).addF zIR)
abbrev G10:Ctrs:=csm T10 (fun _ _=>[]) (fun _=>false)
def zDo:Ann:=⟨45,[(0,zK [1,2] [2]),(1,zK [1,2,14] [2]),(2,zK [4] []),(3,zK [1,2,5,6] [2]),(4,zK [1,2,5,6,23] [2]),(5,zK [4] []),(6,zK [4] [])],
 [],
 [(2,zK [1,2,14] [2]),(3,zK [1,2] [2]),(4,zK [1,2,5,6] [2]),(5,zK [1,2,5,6,23] [2]),(6,zK [1,2,5,6] [2])],
 [],[]⟩
abbrev R10:=Bool
abbrev e10 (r:R10):List PA:=[.one (.bool r)]
@[irreducible] def z10:=ptF Tryd.prog G10 zDo Tryd.f10
section
variable {K:List PA→Prop} {n:Net} {values:(Sl Int)} {zfK:Bool} {ev2:Int} {zj2:Bool} {zqn:Bool}
def zqo (n:Net) (values:(Sl Int)) (ev2:Int) (zj2:Bool):Bool :=
  (cond (ev2 == (0:Int))
 (cond (zj2 == (s38 n values))
 true
 false)
 false)
def zqp (n:Net) (values:(Sl Int)) (ev2:Int) (zj2:Bool):Bool :=
  (cond (ev2 == (0:Int))
 (decide ((p38 n values=true)) &&
 true)
 true)
theorem zDp (hs:zqp n values ev2 zj2=true) (hk:K (e10 (zqo n values ev2 zj2))):z10 K [1,1,1,1] [] ⟨[(1,zS enc_3 1 values),(2,zp 2 0),(5,zI ev2),(6,zB zj2)],[(2,.box 24 (zm (enc_24 n)))],[]⟩:=za9 (by kernel_rfl) (zc hs hk (fun hs hk=>(zaX hs fun hc hs=>And.intro (And.intro (zE enc_40 4 n.Ties.get) (And.intro (zE enc_3 1 values.get) hc)) (zt hk (fun hk=>hk) (fun hk=>hk)))) (fun hs hk=>hk))
def zqq (n:Net) (values:(Sl Int)) (ev2:Int) (zj2:Bool) (zqn:Bool):Bool :=
  (cond zqn
 (cond (ev2 == (2:Int))
 (cond (!zj2)
 true
 false)
 false)
 (zqo n values ev2 zj2))
def zqr (n:Net) (values:(Sl Int)) (ev2:Int) (zj2:Bool) (zqn:Bool):Bool :=
  (cond zqn
 true
 (zqp n values ev2 zj2))
theorem zDq (hs:zqr n values ev2 zj2 zqn=true) (hk:K (e10 (zqq n values ev2 zj2 zqn))):z10 K [1,1,1,0,1] [] ⟨[(1,zS enc_3 1 values),(2,zp 2 0),(5,zI ev2),(6,zB zj2),(23,zB zqn)],[(2,.box 24 (zm (enc_24 n)))],[]⟩:=za9 (by kernel_rfl) (zc hs hk (fun hs hk=>(zt hk (fun hk=>(zt hk (fun hk=>hk) (fun hk=>hk))) (fun hk=>hk))) (fun hs hk=>(zDp hs hk)))
def zqs (n:Net) (values:(Sl Int)) (ev2:Int) (zj2:Bool):Bool :=
  (zqq n values ev2 zj2 (!(s23 n)))
def zqu (n:Net) (values:(Sl Int)) (ev2:Int) (zj2:Bool):Bool :=
  (decide ((p23 n=true)) &&
 (zqr n values ev2 zj2 (!(s23 n))))
theorem zDr (hs:zqu n values ev2 zj2=true) (hk:K (e10 (zqs n values ev2 zj2))):z10 K [1,1,1] [] ⟨[(1,zS enc_3 1 values),(2,zp 2 0),(5,zI ev2),(6,zB zj2)],[(2,.box 24 (zm (enc_24 n)))],[]⟩:=za9 (by kernel_rfl) (zaX hs fun hc hs=>And.intro (And.intro (zE enc_40 4 n.Ties.get) hc) (zDq hs hk))
def zl6 (n:Net) (values:(Sl Int)):Bool :=
  (zqs n values (s47 n) (s48 n values))
def zl7 (n:Net) (values:(Sl Int)):Bool :=
  (decide ((p47 n=true)) &&
 (decide ((p48 n values=true)) &&
 (zqu n values (s47 n) (s48 n values))))
theorem zDs (hs:zl7 n values=true) (hk:K (e10 (zl6 n values))):z10 K [1,1] [] ⟨[(1,zS enc_3 1 values),(2,zp 2 0)],[(2,.box 24 (zm (enc_24 n)))],[]⟩:=za9 (by kernel_rfl) (zaX hs fun hc hs=>And.intro (And.intro (zE enc_40 4 n.Ties.get) hc) (zaX hs fun hc hs=>And.intro (And.intro (zE enc_40 4 n.Ties.get) (And.intro (zE enc_3 1 values.get) hc)) (zDr hs hk)))
def zl8 (n:Net) (values:(Sl Int)) (zfK:Bool):Bool :=
  (cond zfK
 true
 (zl6 n values))
def zl9 (n:Net) (values:(Sl Int)) (zfK:Bool):Bool :=
  (cond zfK
 true
 (zl7 n values))
theorem zxC (hs:zl9 n values zfK=true) (hk:K (e10 (zl8 n values zfK))):z10 K [1,0,1] [] ⟨[(1,zS enc_3 1 values),(2,zp 2 0),(14,zB zfK)],[(2,.box 24 (zm (enc_24 n)))],[]⟩:=za9 (by kernel_rfl) (zc hs hk (fun hs hk=>hk) (fun hs hk=>(zDs hs hk)))
def s10 (n:Net) (values:(Sl Int)):Bool :=
  (cond (!(s20 n (20:Int)))
 (zl8 n values true)
 (zl8 n values (decide ((values.len:Int) > (50:Int)))))
def p10 (n:Net) (values:(Sl Int)):Bool :=
  (cond (!(s20 n (20:Int)))
 (zl9 n values true)
 (zl9 n values (decide ((values.len:Int) > (50:Int)))))
end
theorem q10 (n:Net) (values:(Sl Int)) (K:List PA→Prop) (hs:p10 n values=true) (hk:K (e10 (s10 n values))):vcFun Tryd.prog G10 zDo 10 [.agg (enc_24 n),.one (.sl values.len 1 (fun i=>enc_3 (values.get i)))] K :=
  za9 (by kernel_rfl) (And.intro (zE enc_40 4 n.Ties.get) (zc hs hk (fun hs hk=>(zxC hs hk)) (fun hs hk=>(zxC hs hk))))
def zFZ : List PA → COut
  | [.agg [.int .i64 a0_Nodes,.sl a0_Ties_n a0_Ties_s a0_Ties_g],.one (.sl a1_n a1_s a1_g)]=>.det (IsE enc_40 4 a0_Ties_s a0_Ties_g∧IsE enc_3 1 a1_s a1_g∧p10 (⟨a0_Nodes,(⟨a0_Ties_n,zaa a0_Ties_g⟩:(Sl Tie))⟩:Net) (⟨a1_n,zaq a1_g⟩:(Sl Int))=true) [.one (.bool (s10 (⟨a0_Nodes,(⟨a0_Ties_n,zaa a0_Ties_g⟩:(Sl Tie))⟩:Net) (⟨a1_n,zaq a1_g⟩:(Sl Int))))]
  | _=>.no
theorem call10:zan Tryd.prog 10:=⟨_,rfl,rfl,by kernel_rfl⟩
theorem ok10:Ok Tryd.prog 10 zFZ:=zbr zHw call10 fun args K h=>by
  unfold zFZ at h
  split at h
  · rename_i a0_Nodes a0_Ties_n a0_Ties_s a0_Ties_g a1_n a1_s a1_g
    obtain ⟨⟨⟨rfl,a0_Ties_f,rfl⟩,⟨rfl,a1_f,rfl⟩,hs⟩,hk⟩:=h
    try rw [zaj a0_Ties_f] at hs
    try rw [zaj a0_Ties_f] at hk
    try rw [za0 a1_f] at hs
    try rw [za0 a1_f] at hk
    exact ⟨(fun _ _=>[]),(fun _=>false),zDo,q10 (⟨a0_Nodes,(⟨a0_Ties_n,a0_Ties_f⟩:(Sl Tie))⟩:Net) (⟨a1_n,a1_f⟩:(Sl Int)) K hs hk⟩
  · exact h.elim
end Go.Proofs
namespace Go.Proofs.YtedhjaaikeakoaaDoor
open Go Go.Pm Go.ChangeShapes
set_option maxRecDepth 100000
abbrev laid1 : List (String × DataW Unit) := [("overburden/align.never", Rows.laid_overburden_align_never)]
theorem zz6 : Tryd.prog.globalNamed "overburden/align.never" = some 0 := by kernel_rfl
theorem zF0:(Tryd.prog.globals[0]?).map (·.type)=some 114:=by kernel_rfl
theorem zF1:Tryd.prog.cellsOf 114=2:=by kernel_rfl
theorem zHU:Tryd.prog.cellsOf 3=1:=by kernel_rfl
theorem door_met (os:Os) (args:Array Value):laidMetH Tryd.prog laid1 ((World.doorLaid Tryd.prog 400 os).forCall (fun _ _=>0) ⟨#[],args,[]⟩).memory :=
 laidMetH_of_parts3 (fuel:=8) (laidMet_of_run' 8 (by kernel_rfl) (by kernel_rfl)) (by kernel_rfl) (by kernel_rfl)
theorem gl_of {W:World} (h:laidMetH Tryd.prog laid1 W):zdA (H0 W):=by
 rw [MakeChecks.laidMetH_plain _ _ _ (by kernel_rfl)] at h
 obtain ⟨ps,⟨g0,t0,cs0,f0,p0,q0,hg0,ht0,hv0,hd0,_,_⟩,_,_⟩:=h
 obtain rfl:=Option.some.inj (zz6.symm.trans hg0)
 obtain rfl:=Option.some.inj (zF0.symm.trans ht0)
 obtain ⟨y0,y1,n,hx,hl,h0,h1⟩:=trod_struct2 Tryd.underlying114 hd0
 simp only [Prod.mk.injEq] at hx
 obtain ⟨hx,-⟩:=hx
 simp only [Rows.laid_overburden_align_never,DataW.agg.injEq,List.cons.injEq,and_true] at hx
 obtain ⟨k0,e0,d0,_⟩:=DataW.trod_int Tryd.underlying3 h0
 obtain ⟨k1,e1,d1,_⟩:=DataW.trod_int Tryd.underlying3 h1
 rw [zF1] at hl
 have e0':cs0.toList.take 1=[.int .i64 k0]:=by
  have:=e0
  rw [show Tryd.prog.cellsOf _=1 from zHU] at this
  simpa using this
 have e1':(cs0.toList.drop 1).take 1=[.int .i64 k1]:=by
  have:=e1
  rw [show Tryd.prog.cellsOf _=1 from zHU] at this
  simpa using this
 have hk0:k0=1000000000000:=by have:=hx.1;rw [d0] at this;injection this with a;injection a with _ a;exact a.symm
 have hk1:k1=0:=by have:=hx.2;rw [d1] at this;injection this with a;injection a with _ a;exact a.symm
 have hC:cs0.toList=[.int .i64 1000000000000,.int .i64 0]:=by
  have h2:cs0.toList=cs0.toList.take 1 ++ (cs0.toList.drop 1).take 1:=by
   rw [← List.take_add,List.take_of_length_le (by omega)]
  rw [h2,e0',e1',hk0,hk1];rfl
 intro k l hk
 unfold World.var? at hv0
 rw [zz6] at hv0
 simp only [Option.bind_some] at hv0
 cases k with
 | succ k=>cases hk
 | zero =>
  obtain rfl:[PV.int .i64 1000000000000,.int .i64 0]=l:=Option.some.inj hk
  cases eo:W.heap[0]? with
  | none=>rw [eo] at hv0;cases hv0
  | some o =>
   rw [eo] at hv0
   cases o with
   | cells C ty fr =>
    simp only [Option.some.injEq] at hv0
    subst hv0
    exact ⟨_,ty,fr,by unfold H0;rw [eo];rfl,by rw [hC];exact ⟨.int _ _,.int _ _,trivial⟩⟩
   | _=>cases hv0
end Go.Proofs.YtedhjaaikeakoaaDoor
namespace Go.Proofs.YtedhjaaikeakoaaDoor
set_option maxRecDepth 100000
@[reducible] def ch (n:Nat):Char:=Char.ofNat n
theorem ioS:Tryd.prog.initOrder=String.ofList [ch 104,ch 97,ch 114,ch 110,ch 101,ch 115,ch 115,ch 32,ch 53,ch 48,ch 57,ch 55,ch 100,ch 48,ch 50,ch 48,ch 49,ch 52,ch 98,ch 55,ch 102,ch 57,ch 98,ch 100,ch 99,ch 52,ch 53,ch 55,ch 53,ch 56,ch 56,ch 102,ch 49,ch 54,ch 97,ch 54,ch 49,ch 49,ch 55,ch 57,ch 102,ch 57,ch 54,ch 100,ch 97,ch 101,ch 101,ch 52,ch 97,ch 48,ch 56,ch 53,ch 99,ch 48,ch 97,ch 50,ch 99,ch 53,ch 52,ch 54,ch 50,ch 100,ch 56,ch 54,ch 51,ch 100,ch 98,ch 52,ch 51,ch 100,ch 98,ch 102,ch 32,ch 99,ch 117,ch 116,ch 32,ch 97,ch 116,ch 32,ch 111,ch 118,ch 101,ch 114,ch 98,ch 117,ch 114,ch 100,ch 101,ch 110,ch 47,ch 111,ch 118,ch 101,ch 114,ch 98,ch 117,ch 114,ch 100,ch 101,ch 110,ch 108,ch 97,ch 119,ch 48,ch 51,ch 46,ch 65,ch 108,ch 105,ch 103,ch 110,ch 66,ch 108,ch 97,ch 109,ch 101,ch 115,ch 32,ch 111,ch 118,ch 101,ch 114,ch 98,ch 117,ch 114,ch 100,ch 101,ch 110,ch 47,ch 111,ch 118,ch 101,ch 114,ch 98,ch 117,ch 114,ch 100,ch 101,ch 110,ch 108,ch 97,ch 119,ch 48,ch 51,ch 46,ch 65,ch 108,ch 105,ch 103,ch 110,ch 70,ch 101,ch 119,ch 101,ch 115,ch 116,ch 32,ch 111,ch 118,ch 101,ch 114,ch 98,ch 117,ch 114,ch 100,ch 101,ch 110,ch 47,ch 111,ch 118,ch 101,ch 114,ch 98,ch 117,ch 114,ch 100,ch 101,ch 110,ch 108,ch 97,ch 119,ch 48,ch 51,ch 46,ch 65,ch 108,ch 105,ch 103,ch 110,ch 84,ch 117,ch 114,ch 110,ch 101,ch 100,ch 32,ch 111,ch 118,ch 101,ch 114,ch 98,ch 117,ch 114,ch 100,ch 101,ch 110,ch 47,ch 111,ch 118,ch 101,ch 114,ch 98,ch 117,ch 114,ch 100,ch 101,ch 110,ch 108,ch 97,ch 119,ch 48,ch 51,ch 46,ch 65,ch 108,ch 105,ch 103,ch 110,ch 66,ch 111,ch 117,ch 110,ch 100,ch 115,ch 32,ch 111,ch 118,ch 101,ch 114,ch 98,ch 117,ch 114,ch 100,ch 101,ch 110,ch 47,ch 111,ch 118,ch 101,ch 114,ch 98,ch 117,ch 114,ch 100,ch 101,ch 110,ch 108,ch 97,ch 119,ch 48,ch 51,ch 46,ch 65,ch 108,ch 105,ch 103,ch 110,ch 70,ch 111,ch 108,ch 108,ch 111,ch 119,ch 115,ch 32,ch 111,ch 118,ch 101,ch 114,ch 98,ch 117,ch 114,ch 100,ch 101,ch 110,ch 47,ch 111,ch 118,ch 101,ch 114,ch 98,ch 117,ch 114,ch 100,ch 101,ch 110,ch 108,ch 97,ch 119,ch 48,ch 51,ch 46,ch 65,ch 108,ch 105,ch 103,ch 110,ch 80,ch 117,ch 108,ch 115,ch 101,ch 115,ch 32,ch 111,ch 118,ch 101,ch 114,ch 98,ch 117,ch 114,ch 100,ch 101,ch 110,ch 47,ch 111,ch 118,ch 101,ch 114,ch 98,ch 117,ch 114,ch 100,ch 101,ch 110,ch 108,ch 97,ch 119,ch 48,ch 51,ch 46,ch 65,ch 108,ch 105,ch 103,ch 110,ch 65,ch 116,ch 116,ch 97,ch 105,ch 110,ch 115,ch 32,ch 111,ch 118,ch 101,ch 114,ch 98,ch 117,ch 114,ch 100,ch 101,ch 110,ch 47,ch 111,ch 118,ch 101,ch 114,ch 98,ch 117,ch 114,ch 100,ch 101,ch 110,ch 108,ch 97,ch 119,ch 48,ch 51,ch 46,ch 65,ch 108,ch 105,ch 103,ch 110,ch 67,ch 104,ch 101,ch 99,ch 107,ch 115,ch 32,ch 111,ch 118,ch 101,ch 114,ch 98,ch 117,ch 114,ch 100,ch 101,ch 110,ch 47,ch 111,ch 118,ch 101,ch 114,ch 98,ch 117,ch 114,ch 100,ch 101,ch 110,ch 108,ch 97,ch 119,ch 48,ch 51,ch 46,ch 65,ch 108,ch 105,ch 103,ch 110,ch 67,ch 111,ch 110,ch 116,ch 114,ch 97,ch 100,ch 105,ch 99,ch 116,ch 115,ch 32,ch 111,ch 118,ch 101,ch 114,ch 98,ch 117,ch 114,ch 100,ch 101,ch 110,ch 47,ch 111,ch 118,ch 101,ch 114,ch 98,ch 117,ch 114,ch 100,ch 101,ch 110,ch 108,ch 97,ch 119,ch 48,ch 51,ch 46,ch 65,ch 108,ch 105,ch 103,ch 110,ch 69,ch 105,ch 116,ch 104,ch 101,ch 114,ch 32,ch 111,ch 118,ch 101,ch 114,ch 98,ch 117,ch 114,ch 100,ch 101,ch 110,ch 47,ch 111,ch 118,ch 101,ch 114,ch 98,ch 117,ch 114,ch 100,ch 101,ch 110,ch 108,ch 97,ch 119,ch 48,ch 51,ch 46,ch 65,ch 108,ch 105,ch 103,ch 110,ch 67,ch 104,ch 97,ch 105,ch 110,ch 115,ch 32,ch 111,ch 118,ch 101,ch 114,ch 98,ch 117,ch 114,ch 100,ch 101,ch 110,ch 47,ch 111,ch 118,ch 101,ch 114,ch 98,ch 117,ch 114,ch 100,ch 101,ch 110,ch 108,ch 97,ch 119,ch 48,ch 51,ch 46,ch 65,ch 108,ch 105,ch 103,ch 110,ch 80,ch 114,ch 111,ch 118,ch 101,ch 115,ch 32,ch 111,ch 118,ch 101,ch 114,ch 98,ch 117,ch 114,ch 100,ch 101,ch 110,ch 47,ch 111,ch 118,ch 101,ch 114,ch 98,ch 117,ch 114,ch 100,ch 101,ch 110,ch 108,ch 97,ch 119,ch 48,ch 51,ch 46,ch 65,ch 108,ch 105,ch 103,ch 110,ch 67,ch 108,ch 111,ch 99,ch 107,ch 115,ch 32,ch 111,ch 118,ch 101,ch 114,ch 98,ch 117,ch 114,ch 100,ch 101,ch 110,ch 47,ch 111,ch 118,ch 101,ch 114,ch 98,ch 117,ch 114,ch 100,ch 101,ch 110,ch 108,ch 97,ch 119,ch 48,ch 51,ch 46,ch 65,ch 108,ch 105,ch 103,ch 110,ch 78,ch 101,ch 101,ch 100,ch 115,ch 32,ch 111,ch 118,ch 101,ch 114,ch 98,ch 117,ch 114,ch 100,ch 101,ch 110,ch 47,ch 111,ch 118,ch 101,ch 114,ch 98,ch 117,ch 114,ch 100,ch 101,ch 110,ch 108,ch 97,ch 119,ch 48,ch 51,ch 46,ch 65,ch 108,ch 105,ch 103,ch 110,ch 69,ch 112,ch 111,ch 99,ch 104,ch 115,ch 32,ch 111,ch 118,ch 101,ch 114,ch 98,ch 117,ch 114,ch 100,ch 101,ch 110,ch 47,ch 111,ch 118,ch 101,ch 114,ch 98,ch 117,ch 114,ch 100,ch 101,ch 110,ch 108,ch 97,ch 119,ch 48,ch 51,ch 46,ch 65,ch 108,ch 105,ch 103,ch 110,ch 68,ch 114,ch 105,ch 102,ch 116,ch 115,ch 32,ch 111,ch 118,ch 101,ch 114,ch 98,ch 117,ch 114,ch 100,ch 101,ch 110,ch 47,ch 111,ch 118,ch 101,ch 114,ch 98,ch 117,ch 114,ch 100,ch 101,ch 110,ch 108,ch 97,ch 119,ch 48,ch 51,ch 46,ch 65,ch 108,ch 105,ch 103,ch 110,ch 77,ch 101,ch 114,ch 103,ch 101,ch 115]:=by kernel_rfl
theorem ioL:Tryd.prog.initOrder.toList=[ch 104,ch 97,ch 114,ch 110,ch 101,ch 115,ch 115,ch 32,ch 53,ch 48,ch 57,ch 55,ch 100,ch 48,ch 50,ch 48,ch 49,ch 52,ch 98,ch 55,ch 102,ch 57,ch 98,ch 100,ch 99,ch 52,ch 53,ch 55,ch 53,ch 56,ch 56,ch 102,ch 49,ch 54,ch 97,ch 54,ch 49,ch 49,ch 55,ch 57,ch 102,ch 57,ch 54,ch 100,ch 97,ch 101,ch 101,ch 52,ch 97,ch 48,ch 56,ch 53,ch 99,ch 48,ch 97,ch 50,ch 99,ch 53,ch 52,ch 54,ch 50,ch 100,ch 56,ch 54,ch 51,ch 100,ch 98,ch 52,ch 51,ch 100,ch 98,ch 102,ch 32,ch 99,ch 117,ch 116,ch 32,ch 97,ch 116,ch 32,ch 111,ch 118,ch 101,ch 114,ch 98,ch 117,ch 114,ch 100,ch 101,ch 110,ch 47,ch 111,ch 118,ch 101,ch 114,ch 98,ch 117,ch 114,ch 100,ch 101,ch 110,ch 108,ch 97,ch 119,ch 48,ch 51,ch 46,ch 65,ch 108,ch 105,ch 103,ch 110,ch 66,ch 108,ch 97,ch 109,ch 101,ch 115,ch 32,ch 111,ch 118,ch 101,ch 114,ch 98,ch 117,ch 114,ch 100,ch 101,ch 110,ch 47,ch 111,ch 118,ch 101,ch 114,ch 98,ch 117,ch 114,ch 100,ch 101,ch 110,ch 108,ch 97,ch 119,ch 48,ch 51,ch 46,ch 65,ch 108,ch 105,ch 103,ch 110,ch 70,ch 101,ch 119,ch 101,ch 115,ch 116,ch 32,ch 111,ch 118,ch 101,ch 114,ch 98,ch 117,ch 114,ch 100,ch 101,ch 110,ch 47,ch 111,ch 118,ch 101,ch 114,ch 98,ch 117,ch 114,ch 100,ch 101,ch 110,ch 108,ch 97,ch 119,ch 48,ch 51,ch 46,ch 65,ch 108,ch 105,ch 103,ch 110,ch 84,ch 117,ch 114,ch 110,ch 101,ch 100,ch 32,ch 111,ch 118,ch 101,ch 114,ch 98,ch 117,ch 114,ch 100,ch 101,ch 110,ch 47,ch 111,ch 118,ch 101,ch 114,ch 98,ch 117,ch 114,ch 100,ch 101,ch 110,ch 108,ch 97,ch 119,ch 48,ch 51,ch 46,ch 65,ch 108,ch 105,ch 103,ch 110,ch 66,ch 111,ch 117,ch 110,ch 100,ch 115,ch 32,ch 111,ch 118,ch 101,ch 114,ch 98,ch 117,ch 114,ch 100,ch 101,ch 110,ch 47,ch 111,ch 118,ch 101,ch 114,ch 98,ch 117,ch 114,ch 100,ch 101,ch 110,ch 108,ch 97,ch 119,ch 48,ch 51,ch 46,ch 65,ch 108,ch 105,ch 103,ch 110,ch 70,ch 111,ch 108,ch 108,ch 111,ch 119,ch 115,ch 32,ch 111,ch 118,ch 101,ch 114,ch 98,ch 117,ch 114,ch 100,ch 101,ch 110,ch 47,ch 111,ch 118,ch 101,ch 114,ch 98,ch 117,ch 114,ch 100,ch 101,ch 110,ch 108,ch 97,ch 119,ch 48,ch 51,ch 46,ch 65,ch 108,ch 105,ch 103,ch 110,ch 80,ch 117,ch 108,ch 115,ch 101,ch 115,ch 32,ch 111,ch 118,ch 101,ch 114,ch 98,ch 117,ch 114,ch 100,ch 101,ch 110,ch 47,ch 111,ch 118,ch 101,ch 114,ch 98,ch 117,ch 114,ch 100,ch 101,ch 110,ch 108,ch 97,ch 119,ch 48,ch 51,ch 46,ch 65,ch 108,ch 105,ch 103,ch 110,ch 65,ch 116,ch 116,ch 97,ch 105,ch 110,ch 115,ch 32,ch 111,ch 118,ch 101,ch 114,ch 98,ch 117,ch 114,ch 100,ch 101,ch 110,ch 47,ch 111,ch 118,ch 101,ch 114,ch 98,ch 117,ch 114,ch 100,ch 101,ch 110,ch 108,ch 97,ch 119,ch 48,ch 51,ch 46,ch 65,ch 108,ch 105,ch 103,ch 110,ch 67,ch 104,ch 101,ch 99,ch 107,ch 115,ch 32,ch 111,ch 118,ch 101,ch 114,ch 98,ch 117,ch 114,ch 100,ch 101,ch 110,ch 47,ch 111,ch 118,ch 101,ch 114,ch 98,ch 117,ch 114,ch 100,ch 101,ch 110,ch 108,ch 97,ch 119,ch 48,ch 51,ch 46,ch 65,ch 108,ch 105,ch 103,ch 110,ch 67,ch 111,ch 110,ch 116,ch 114,ch 97,ch 100,ch 105,ch 99,ch 116,ch 115,ch 32,ch 111,ch 118,ch 101,ch 114,ch 98,ch 117,ch 114,ch 100,ch 101,ch 110,ch 47,ch 111,ch 118,ch 101,ch 114,ch 98,ch 117,ch 114,ch 100,ch 101,ch 110,ch 108,ch 97,ch 119,ch 48,ch 51,ch 46,ch 65,ch 108,ch 105,ch 103,ch 110,ch 69,ch 105,ch 116,ch 104,ch 101,ch 114,ch 32,ch 111,ch 118,ch 101,ch 114,ch 98,ch 117,ch 114,ch 100,ch 101,ch 110,ch 47,ch 111,ch 118,ch 101,ch 114,ch 98,ch 117,ch 114,ch 100,ch 101,ch 110,ch 108,ch 97,ch 119,ch 48,ch 51,ch 46,ch 65,ch 108,ch 105,ch 103,ch 110,ch 67,ch 104,ch 97,ch 105,ch 110,ch 115,ch 32,ch 111,ch 118,ch 101,ch 114,ch 98,ch 117,ch 114,ch 100,ch 101,ch 110,ch 47,ch 111,ch 118,ch 101,ch 114,ch 98,ch 117,ch 114,ch 100,ch 101,ch 110,ch 108,ch 97,ch 119,ch 48,ch 51,ch 46,ch 65,ch 108,ch 105,ch 103,ch 110,ch 80,ch 114,ch 111,ch 118,ch 101,ch 115,ch 32,ch 111,ch 118,ch 101,ch 114,ch 98,ch 117,ch 114,ch 100,ch 101,ch 110,ch 47,ch 111,ch 118,ch 101,ch 114,ch 98,ch 117,ch 114,ch 100,ch 101,ch 110,ch 108,ch 97,ch 119,ch 48,ch 51,ch 46,ch 65,ch 108,ch 105,ch 103,ch 110,ch 67,ch 108,ch 111,ch 99,ch 107,ch 115,ch 32,ch 111,ch 118,ch 101,ch 114,ch 98,ch 117,ch 114,ch 100,ch 101,ch 110,ch 47,ch 111,ch 118,ch 101,ch 114,ch 98,ch 117,ch 114,ch 100,ch 101,ch 110,ch 108,ch 97,ch 119,ch 48,ch 51,ch 46,ch 65,ch 108,ch 105,ch 103,ch 110,ch 78,ch 101,ch 101,ch 100,ch 115,ch 32,ch 111,ch 118,ch 101,ch 114,ch 98,ch 117,ch 114,ch 100,ch 101,ch 110,ch 47,ch 111,ch 118,ch 101,ch 114,ch 98,ch 117,ch 114,ch 100,ch 101,ch 110,ch 108,ch 97,ch 119,ch 48,ch 51,ch 46,ch 65,ch 108,ch 105,ch 103,ch 110,ch 69,ch 112,ch 111,ch 99,ch 104,ch 115,ch 32,ch 111,ch 118,ch 101,ch 114,ch 98,ch 117,ch 114,ch 100,ch 101,ch 110,ch 47,ch 111,ch 118,ch 101,ch 114,ch 98,ch 117,ch 114,ch 100,ch 101,ch 110,ch 108,ch 97,ch 119,ch 48,ch 51,ch 46,ch 65,ch 108,ch 105,ch 103,ch 110,ch 68,ch 114,ch 105,ch 102,ch 116,ch 115,ch 32,ch 111,ch 118,ch 101,ch 114,ch 98,ch 117,ch 114,ch 100,ch 101,ch 110,ch 47,ch 111,ch 118,ch 101,ch 114,ch 98,ch 117,ch 114,ch 100,ch 101,ch 110,ch 108,ch 97,ch 119,ch 48,ch 51,ch 46,ch 65,ch 108,ch 105,ch 103,ch 110,ch 77,ch 101,ch 114,ch 103,ch 101,ch 115]:=(congrArg String.toList ioS).trans String.toList_ofList
theorem ioW:wordsSigns Tryd.prog.initOrder.toList=[[ch 104,ch 97,ch 114,ch 110,ch 101,ch 115,ch 115],[ch 53,ch 48,ch 57,ch 55,ch 100,ch 48,ch 50,ch 48,ch 49,ch 52,ch 98,ch 55,ch 102,ch 57,ch 98,ch 100,ch 99,ch 52,ch 53,ch 55,ch 53,ch 56,ch 56,ch 102,ch 49,ch 54,ch 97,ch 54,ch 49,ch 49,ch 55,ch 57,ch 102,ch 57,ch 54,ch 100,ch 97,ch 101,ch 101,ch 52,ch 97,ch 48,ch 56,ch 53,ch 99,ch 48,ch 97,ch 50,ch 99,ch 53,ch 52,ch 54,ch 50,ch 100,ch 56,ch 54,ch 51,ch 100,ch 98,ch 52,ch 51,ch 100,ch 98,ch 102],[ch 99,ch 117,ch 116],[ch 97,ch 116],[ch 111,ch 118,ch 101,ch 114,ch 98,ch 117,ch 114,ch 100,ch 101,ch 110,ch 47,ch 111,ch 118,ch 101,ch 114,ch 98,ch 117,ch 114,ch 100,ch 101,ch 110,ch 108,ch 97,ch 119,ch 48,ch 51,ch 46,ch 65,ch 108,ch 105,ch 103,ch 110,ch 66,ch 108,ch 97,ch 109,ch 101,ch 115],[ch 111,ch 118,ch 101,ch 114,ch 98,ch 117,ch 114,ch 100,ch 101,ch 110,ch 47,ch 111,ch 118,ch 101,ch 114,ch 98,ch 117,ch 114,ch 100,ch 101,ch 110,ch 108,ch 97,ch 119,ch 48,ch 51,ch 46,ch 65,ch 108,ch 105,ch 103,ch 110,ch 70,ch 101,ch 119,ch 101,ch 115,ch 116],[ch 111,ch 118,ch 101,ch 114,ch 98,ch 117,ch 114,ch 100,ch 101,ch 110,ch 47,ch 111,ch 118,ch 101,ch 114,ch 98,ch 117,ch 114,ch 100,ch 101,ch 110,ch 108,ch 97,ch 119,ch 48,ch 51,ch 46,ch 65,ch 108,ch 105,ch 103,ch 110,ch 84,ch 117,ch 114,ch 110,ch 101,ch 100],[ch 111,ch 118,ch 101,ch 114,ch 98,ch 117,ch 114,ch 100,ch 101,ch 110,ch 47,ch 111,ch 118,ch 101,ch 114,ch 98,ch 117,ch 114,ch 100,ch 101,ch 110,ch 108,ch 97,ch 119,ch 48,ch 51,ch 46,ch 65,ch 108,ch 105,ch 103,ch 110,ch 66,ch 111,ch 117,ch 110,ch 100,ch 115],[ch 111,ch 118,ch 101,ch 114,ch 98,ch 117,ch 114,ch 100,ch 101,ch 110,ch 47,ch 111,ch 118,ch 101,ch 114,ch 98,ch 117,ch 114,ch 100,ch 101,ch 110,ch 108,ch 97,ch 119,ch 48,ch 51,ch 46,ch 65,ch 108,ch 105,ch 103,ch 110,ch 70,ch 111,ch 108,ch 108,ch 111,ch 119,ch 115],[ch 111,ch 118,ch 101,ch 114,ch 98,ch 117,ch 114,ch 100,ch 101,ch 110,ch 47,ch 111,ch 118,ch 101,ch 114,ch 98,ch 117,ch 114,ch 100,ch 101,ch 110,ch 108,ch 97,ch 119,ch 48,ch 51,ch 46,ch 65,ch 108,ch 105,ch 103,ch 110,ch 80,ch 117,ch 108,ch 115,ch 101,ch 115],[ch 111,ch 118,ch 101,ch 114,ch 98,ch 117,ch 114,ch 100,ch 101,ch 110,ch 47,ch 111,ch 118,ch 101,ch 114,ch 98,ch 117,ch 114,ch 100,ch 101,ch 110,ch 108,ch 97,ch 119,ch 48,ch 51,ch 46,ch 65,ch 108,ch 105,ch 103,ch 110,ch 65,ch 116,ch 116,ch 97,ch 105,ch 110,ch 115],[ch 111,ch 118,ch 101,ch 114,ch 98,ch 117,ch 114,ch 100,ch 101,ch 110,ch 47,ch 111,ch 118,ch 101,ch 114,ch 98,ch 117,ch 114,ch 100,ch 101,ch 110,ch 108,ch 97,ch 119,ch 48,ch 51,ch 46,ch 65,ch 108,ch 105,ch 103,ch 110,ch 67,ch 104,ch 101,ch 99,ch 107,ch 115],[ch 111,ch 118,ch 101,ch 114,ch 98,ch 117,ch 114,ch 100,ch 101,ch 110,ch 47,ch 111,ch 118,ch 101,ch 114,ch 98,ch 117,ch 114,ch 100,ch 101,ch 110,ch 108,ch 97,ch 119,ch 48,ch 51,ch 46,ch 65,ch 108,ch 105,ch 103,ch 110,ch 67,ch 111,ch 110,ch 116,ch 114,ch 97,ch 100,ch 105,ch 99,ch 116,ch 115],[ch 111,ch 118,ch 101,ch 114,ch 98,ch 117,ch 114,ch 100,ch 101,ch 110,ch 47,ch 111,ch 118,ch 101,ch 114,ch 98,ch 117,ch 114,ch 100,ch 101,ch 110,ch 108,ch 97,ch 119,ch 48,ch 51,ch 46,ch 65,ch 108,ch 105,ch 103,ch 110,ch 69,ch 105,ch 116,ch 104,ch 101,ch 114],[ch 111,ch 118,ch 101,ch 114,ch 98,ch 117,ch 114,ch 100,ch 101,ch 110,ch 47,ch 111,ch 118,ch 101,ch 114,ch 98,ch 117,ch 114,ch 100,ch 101,ch 110,ch 108,ch 97,ch 119,ch 48,ch 51,ch 46,ch 65,ch 108,ch 105,ch 103,ch 110,ch 67,ch 104,ch 97,ch 105,ch 110,ch 115],[ch 111,ch 118,ch 101,ch 114,ch 98,ch 117,ch 114,ch 100,ch 101,ch 110,ch 47,ch 111,ch 118,ch 101,ch 114,ch 98,ch 117,ch 114,ch 100,ch 101,ch 110,ch 108,ch 97,ch 119,ch 48,ch 51,ch 46,ch 65,ch 108,ch 105,ch 103,ch 110,ch 80,ch 114,ch 111,ch 118,ch 101,ch 115],[ch 111,ch 118,ch 101,ch 114,ch 98,ch 117,ch 114,ch 100,ch 101,ch 110,ch 47,ch 111,ch 118,ch 101,ch 114,ch 98,ch 117,ch 114,ch 100,ch 101,ch 110,ch 108,ch 97,ch 119,ch 48,ch 51,ch 46,ch 65,ch 108,ch 105,ch 103,ch 110,ch 67,ch 108,ch 111,ch 99,ch 107,ch 115],[ch 111,ch 118,ch 101,ch 114,ch 98,ch 117,ch 114,ch 100,ch 101,ch 110,ch 47,ch 111,ch 118,ch 101,ch 114,ch 98,ch 117,ch 114,ch 100,ch 101,ch 110,ch 108,ch 97,ch 119,ch 48,ch 51,ch 46,ch 65,ch 108,ch 105,ch 103,ch 110,ch 78,ch 101,ch 101,ch 100,ch 115],[ch 111,ch 118,ch 101,ch 114,ch 98,ch 117,ch 114,ch 100,ch 101,ch 110,ch 47,ch 111,ch 118,ch 101,ch 114,ch 98,ch 117,ch 114,ch 100,ch 101,ch 110,ch 108,ch 97,ch 119,ch 48,ch 51,ch 46,ch 65,ch 108,ch 105,ch 103,ch 110,ch 69,ch 112,ch 111,ch 99,ch 104,ch 115],[ch 111,ch 118,ch 101,ch 114,ch 98,ch 117,ch 114,ch 100,ch 101,ch 110,ch 47,ch 111,ch 118,ch 101,ch 114,ch 98,ch 117,ch 114,ch 100,ch 101,ch 110,ch 108,ch 97,ch 119,ch 48,ch 51,ch 46,ch 65,ch 108,ch 105,ch 103,ch 110,ch 68,ch 114,ch 105,ch 102,ch 116,ch 115],[ch 111,ch 118,ch 101,ch 114,ch 98,ch 117,ch 114,ch 100,ch 101,ch 110,ch 47,ch 111,ch 118,ch 101,ch 114,ch 98,ch 117,ch 114,ch 100,ch 101,ch 110,ch 108,ch 97,ch 119,ch 48,ch 51,ch 46,ch 65,ch 108,ch 105,ch 103,ch 110,ch 77,ch 101,ch 114,ch 103,ch 101,ch 115]]:=(congrArg wordsSigns ioL).trans (by kernel_rfl)
theorem ioB:behindMainWord (wordsSigns Tryd.prog.initOrder.toList)=[[ch 99,ch 117,ch 116],[ch 97,ch 116],[ch 111,ch 118,ch 101,ch 114,ch 98,ch 117,ch 114,ch 100,ch 101,ch 110,ch 47,ch 111,ch 118,ch 101,ch 114,ch 98,ch 117,ch 114,ch 100,ch 101,ch 110,ch 108,ch 97,ch 119,ch 48,ch 51,ch 46,ch 65,ch 108,ch 105,ch 103,ch 110,ch 66,ch 108,ch 97,ch 109,ch 101,ch 115],[ch 111,ch 118,ch 101,ch 114,ch 98,ch 117,ch 114,ch 100,ch 101,ch 110,ch 47,ch 111,ch 118,ch 101,ch 114,ch 98,ch 117,ch 114,ch 100,ch 101,ch 110,ch 108,ch 97,ch 119,ch 48,ch 51,ch 46,ch 65,ch 108,ch 105,ch 103,ch 110,ch 70,ch 101,ch 119,ch 101,ch 115,ch 116],[ch 111,ch 118,ch 101,ch 114,ch 98,ch 117,ch 114,ch 100,ch 101,ch 110,ch 47,ch 111,ch 118,ch 101,ch 114,ch 98,ch 117,ch 114,ch 100,ch 101,ch 110,ch 108,ch 97,ch 119,ch 48,ch 51,ch 46,ch 65,ch 108,ch 105,ch 103,ch 110,ch 84,ch 117,ch 114,ch 110,ch 101,ch 100],[ch 111,ch 118,ch 101,ch 114,ch 98,ch 117,ch 114,ch 100,ch 101,ch 110,ch 47,ch 111,ch 118,ch 101,ch 114,ch 98,ch 117,ch 114,ch 100,ch 101,ch 110,ch 108,ch 97,ch 119,ch 48,ch 51,ch 46,ch 65,ch 108,ch 105,ch 103,ch 110,ch 66,ch 111,ch 117,ch 110,ch 100,ch 115],[ch 111,ch 118,ch 101,ch 114,ch 98,ch 117,ch 114,ch 100,ch 101,ch 110,ch 47,ch 111,ch 118,ch 101,ch 114,ch 98,ch 117,ch 114,ch 100,ch 101,ch 110,ch 108,ch 97,ch 119,ch 48,ch 51,ch 46,ch 65,ch 108,ch 105,ch 103,ch 110,ch 70,ch 111,ch 108,ch 108,ch 111,ch 119,ch 115],[ch 111,ch 118,ch 101,ch 114,ch 98,ch 117,ch 114,ch 100,ch 101,ch 110,ch 47,ch 111,ch 118,ch 101,ch 114,ch 98,ch 117,ch 114,ch 100,ch 101,ch 110,ch 108,ch 97,ch 119,ch 48,ch 51,ch 46,ch 65,ch 108,ch 105,ch 103,ch 110,ch 80,ch 117,ch 108,ch 115,ch 101,ch 115],[ch 111,ch 118,ch 101,ch 114,ch 98,ch 117,ch 114,ch 100,ch 101,ch 110,ch 47,ch 111,ch 118,ch 101,ch 114,ch 98,ch 117,ch 114,ch 100,ch 101,ch 110,ch 108,ch 97,ch 119,ch 48,ch 51,ch 46,ch 65,ch 108,ch 105,ch 103,ch 110,ch 65,ch 116,ch 116,ch 97,ch 105,ch 110,ch 115],[ch 111,ch 118,ch 101,ch 114,ch 98,ch 117,ch 114,ch 100,ch 101,ch 110,ch 47,ch 111,ch 118,ch 101,ch 114,ch 98,ch 117,ch 114,ch 100,ch 101,ch 110,ch 108,ch 97,ch 119,ch 48,ch 51,ch 46,ch 65,ch 108,ch 105,ch 103,ch 110,ch 67,ch 104,ch 101,ch 99,ch 107,ch 115],[ch 111,ch 118,ch 101,ch 114,ch 98,ch 117,ch 114,ch 100,ch 101,ch 110,ch 47,ch 111,ch 118,ch 101,ch 114,ch 98,ch 117,ch 114,ch 100,ch 101,ch 110,ch 108,ch 97,ch 119,ch 48,ch 51,ch 46,ch 65,ch 108,ch 105,ch 103,ch 110,ch 67,ch 111,ch 110,ch 116,ch 114,ch 97,ch 100,ch 105,ch 99,ch 116,ch 115],[ch 111,ch 118,ch 101,ch 114,ch 98,ch 117,ch 114,ch 100,ch 101,ch 110,ch 47,ch 111,ch 118,ch 101,ch 114,ch 98,ch 117,ch 114,ch 100,ch 101,ch 110,ch 108,ch 97,ch 119,ch 48,ch 51,ch 46,ch 65,ch 108,ch 105,ch 103,ch 110,ch 69,ch 105,ch 116,ch 104,ch 101,ch 114],[ch 111,ch 118,ch 101,ch 114,ch 98,ch 117,ch 114,ch 100,ch 101,ch 110,ch 47,ch 111,ch 118,ch 101,ch 114,ch 98,ch 117,ch 114,ch 100,ch 101,ch 110,ch 108,ch 97,ch 119,ch 48,ch 51,ch 46,ch 65,ch 108,ch 105,ch 103,ch 110,ch 67,ch 104,ch 97,ch 105,ch 110,ch 115],[ch 111,ch 118,ch 101,ch 114,ch 98,ch 117,ch 114,ch 100,ch 101,ch 110,ch 47,ch 111,ch 118,ch 101,ch 114,ch 98,ch 117,ch 114,ch 100,ch 101,ch 110,ch 108,ch 97,ch 119,ch 48,ch 51,ch 46,ch 65,ch 108,ch 105,ch 103,ch 110,ch 80,ch 114,ch 111,ch 118,ch 101,ch 115],[ch 111,ch 118,ch 101,ch 114,ch 98,ch 117,ch 114,ch 100,ch 101,ch 110,ch 47,ch 111,ch 118,ch 101,ch 114,ch 98,ch 117,ch 114,ch 100,ch 101,ch 110,ch 108,ch 97,ch 119,ch 48,ch 51,ch 46,ch 65,ch 108,ch 105,ch 103,ch 110,ch 67,ch 108,ch 111,ch 99,ch 107,ch 115],[ch 111,ch 118,ch 101,ch 114,ch 98,ch 117,ch 114,ch 100,ch 101,ch 110,ch 47,ch 111,ch 118,ch 101,ch 114,ch 98,ch 117,ch 114,ch 100,ch 101,ch 110,ch 108,ch 97,ch 119,ch 48,ch 51,ch 46,ch 65,ch 108,ch 105,ch 103,ch 110,ch 78,ch 101,ch 101,ch 100,ch 115],[ch 111,ch 118,ch 101,ch 114,ch 98,ch 117,ch 114,ch 100,ch 101,ch 110,ch 47,ch 111,ch 118,ch 101,ch 114,ch 98,ch 117,ch 114,ch 100,ch 101,ch 110,ch 108,ch 97,ch 119,ch 48,ch 51,ch 46,ch 65,ch 108,ch 105,ch 103,ch 110,ch 69,ch 112,ch 111,ch 99,ch 104,ch 115],[ch 111,ch 118,ch 101,ch 114,ch 98,ch 117,ch 114,ch 100,ch 101,ch 110,ch 47,ch 111,ch 118,ch 101,ch 114,ch 98,ch 117,ch 114,ch 100,ch 101,ch 110,ch 108,ch 97,ch 119,ch 48,ch 51,ch 46,ch 65,ch 108,ch 105,ch 103,ch 110,ch 68,ch 114,ch 105,ch 102,ch 116,ch 115],[ch 111,ch 118,ch 101,ch 114,ch 98,ch 117,ch 114,ch 100,ch 101,ch 110,ch 47,ch 111,ch 118,ch 101,ch 114,ch 98,ch 117,ch 114,ch 100,ch 101,ch 110,ch 108,ch 97,ch 119,ch 48,ch 51,ch 46,ch 65,ch 108,ch 105,ch 103,ch 110,ch 77,ch 101,ch 114,ch 103,ch 101,ch 115]]:=(congrArg behindMainWord ioW).trans (by kernel_rfl)
theorem znH {P : Program} {l : List (List Char)} (h : behindMainWord (wordsSigns P.initOrder.toList) = l) : P.headLifts = (if (stripLifts liftWords l).2.head? == some "cut".toList then (stripLifts liftWords l).1 else []) := by subst h; rfl
theorem zDt {P:Program} {rest:List (List Char)} (h:behindMainWord (wordsSigns P.initOrder.toList)=[ch 99,ch 117,ch 116] :: rest):P.make=some .cut:=by unfold Program.make;rw [h];rfl
theorem zzc {P:Program} {rest:List (List Char)} (h:behindMainWord (wordsSigns P.initOrder.toList)=[ch 99,ch 117,ch 116] :: rest) (hl:P.headLifts=[]):P.liftsFinal=false:=by unfold Program.liftsFinal;rw [h,hl];rfl
theorem zDu {P : Program} {a b : List Char} {rest : List (List Char)} (h : wordsSigns P.initOrder.toList = a :: b :: rest) (hs : isSumSigns b = true) (ha : (a == "harness".toList) = true) : P.mainIs = some (true, b) := by unfold Program.mainIs; rw [h]; simp only [hs, ha]; rfl
theorem zzd {P : Program} {c : List Char} {rest : List (List Char)} (h : behindMainWord (wordsSigns P.initOrder.toList) = c :: rest) (hst : (stripLifts liftWords (c :: rest)).2.head? = some "cut".toList)
    (hs1:(stripLifts liftWords (c :: rest)).1=[]) (hlay:P.laysLater=false) (hb:P.bearsReflect=false) (hd:P.doorFits []=true):P.mayEnter=true:=by
  unfold Program.mayEnter
  rw [h]
  simp [hst,hs1,hlay,hb,hd]
theorem ioH:Tryd.prog.headLifts=[]:=(znH ioB).trans (by kernel_rfl)
theorem ioK:Tryd.prog.make=some .cut:=zDt ioB
theorem ioF:Tryd.prog.liftsFinal=false:=zzc ioB ioH
theorem ioM : Tryd.prog.mainIs = some (true, "5097d02014b7f9bdc457588f16a61179f96daee4a085c0a2c5462d863db43dbf".toList) := (zDu ioW (by kernel_rfl) (by kernel_rfl)).trans (by kernel_rfl)
theorem ioE:Tryd.prog.mayEnter=true:=zzd ioB (by kernel_rfl) (by kernel_rfl) (by kernel_rfl) (by kernel_rfl) (by kernel_rfl)
end Go.Proofs.YtedhjaaikeakoaaDoor
namespace Go.Pm
open Go

theorem zrO {x:Int} (h1 : -9223372036854775808≤x) (h2:x≤9223372036854775807):w64 x=x:=by
 have hb:IntKind.i64.bits=64:=rfl
 have hs:IntKind.i64.signed=true:=rfl
 unfold w64 IntKind.wrap
 rw [hb,hs]
 simp only [Bool.true_and,decide_eq_true_eq]
 split <;> omega
def zHV (c : Nat → Bool) : Nat → Nat → Nat
  | 0,i=>i
  | m+1,i=>match c i with | true=>i | false=>zHV c m (i+1)
def fst (c:Nat→Bool) (n:Nat):Nat:=zHV c n 0
theorem zfk {good : Nat → Bool} {fin : Bool} {n : Nat} {lpS lpP : Nat → Int → Bool}
    (hS:∀ (k i:Nat),i < n→lpS (k+1) (i:Int)=cond (good i) (lpS k (w64 ((i:Int)+(1:Int)))) false)
    (hE:∀ k,lpS (k+1) (n:Int)=fin)
    (hP:∀ (k i:Nat),i < n→lpP (k+1) (i:Int)=cond (good i) (lpP k (w64 ((i:Int)+(1:Int)))) true)
    (hPE:∀ k,lpP (k+1) (n:Int)=true) (hn:n≤9223372036854775807) :
    lpP Fuel 0=true∧(lpS Fuel 0=true↔(∀ i,i < n→good i=true)∧fin=true):=by
  have key:∀ (m k i:Nat),i+m=n→m < k→lpP k (i:Int)=true∧(lpS k (i:Int)=true↔(∀ j,i≤j→j < n→good j=true)∧fin=true):=by
    intro m
    induction m with
    | zero =>
      intro k i hi hk
      obtain ⟨k,rfl⟩:∃ k',k=k'+1:=⟨k - 1,by omega⟩
      have:i=n:=by omega
      subst this
      rw [hE,hPE]
      exact ⟨rfl,⟨fun h=>⟨fun j h1 h2=>absurd h2 (by omega),h⟩,fun h=>h.2⟩⟩
    | succ m ih =>
      intro k i hi hk
      obtain ⟨k,rfl⟩:∃ k',k=k'+1:=⟨k - 1,by omega⟩
      rw [hS k i (by omega),hP k i (by omega)]
      have e3:w64 ((i:Int)+1)=((i+1:Nat):Int):=by rw [zrO (by omega) (by omega)];omega
      rw [e3]
      obtain ⟨h1,h2⟩:=ih k (i+1) (by omega) (by omega)
      cases hg:good i
      · refine ⟨rfl, ⟨fun h => (by cases h), fun h => ?_⟩⟩
        have:=h.1 i (Nat.le_refl _) (by omega)
        rw [hg] at this;cases this
      · refine ⟨h1, h2.trans ⟨fun h => ⟨fun j hj1 hj2 => ?_, h.2⟩, fun h => ⟨fun j hj1 hj2 => h.1 j (by omega) hj2, h.2⟩⟩⟩
        by_cases hji:j=i
        · rw [hji];exact hg
        · exact h.1 j (by omega) hj2
  have:=key n Fuel 0 (by omega) (by simp only [Fuel];omega)
  simpa using this

end Go.Pm
