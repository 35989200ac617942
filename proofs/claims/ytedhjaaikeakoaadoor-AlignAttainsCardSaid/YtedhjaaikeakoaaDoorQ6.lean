/- Part 6 of what the proof rests on: a machine that runs functions of the program on pure values, proved sound; the functions that the law reaches, and what they compute. -/
import Derived.Test.YtedhjaaikeakoaaDoorQ5
import Derived.Test.YtedhjaaikeakoaaDoorProg
import Derived.Tactics
import Derived.Tactics2
import Derived.Recover
import Derived.RecoverIn
import Derived.TacticsInMore
import Derived.Test.YtedhjaaikeakoaaDoorTie
import Derived.ProofKit
import Derived.LaidMore
import Derived.OpenShut
import Derived.Stop.Joined
import Derived.Test.YtedhjaaikeakoaaDoorCards
import Derived.WalkKit
set_option linter.all false
namespace Go.Pm
open Go.RowKit (Below)
section
variable (P:Program) (Γ:Ctrs)
def ztl (fi : FuncId) : Code → Option (Nat × Nat)
  | .region id ops false=>match ops.toList with
    | [o1,o2]=>match o1.op,o1.dst,o1.guard,o2.op,o2.dst,o2.guard with
      | .makeFunc (.func f) first caps,some t,none,.defer { callee:=.value (.tmp t'),args,argTypes:=_ },none,none=>match Nat.beq f fi && Nat.beq t t' && first.isEmpty && args.isEmpty && Nat.beq caps.size 2 with
        | true=>some (id,t)
        | false=>none
      | _,_,_,_,_,_=>none
    | _=>none
  | _=>none
def zBM (fi : FuncId) (ann : Ann) : Code → (Exit → St → Prop) → St → Prop
  | .seq a b,K,σ=>match ztl fi a with
    | some (id,t)=>match Nat.blt t ann.nt with
      | true=>zDR P ann id (vc P Γ ann b K) ⟨(t,.junk) :: σ.env,σ.objs,[]⟩
      | false=>False
    | none=>vc P Γ ann a (zCj (zBM fi ann b K) K) σ
  | c,K,σ=>vc P Γ ann c K σ
def ztm (fi:FuncId) (ann:Ann) (f:FuncId) (args:List PA) (K:List PA->Prop):Prop :=
 match P.funcs[f]? with
 | some fn=>match fn.body with
  | some c=>match Nat.beq ann.nt fn.ntmps && Nat.ble args.length ann.nt with
   | true=>zBM P Γ fi ann c (zpf P fn K) ⟨zhm 0 args,[],[]⟩
   | false=>False
  | none=>False
 | none=>False
end
section
variable {P:Program}{Γ:Ctrs}{B:Nat}{w0:World}
theorem zlX {fi:FuncId}{c:Code}{id t:Nat}(h:ztl fi c=some (id,t)):∃ (o1 o2:Oper) (caps:Array Operand) (ats:Array TypeId),c=.region id #[o1,o2] false/\caps.size=2/\o1.op=.makeFunc (.func fi) #[] caps/\o1.dst=some t/\o1.guard=none /\
  o2.op=.defer { callee:=.value (.tmp t),args:=#[],argTypes:=ats }/\o2.dst=none/\o2.guard=none:=by
 unfold ztl at h
 split at h
 ·rename_i id' ops
  split at h
  ·rename_i o1 o2 hops
   split at h
   ·rename_i f first caps t' t2 args ats e1 e2 e3 e4 e5 e6
    split at h
    ·rename_i hc
     simp only[Bool.and_eq_true] at hc
     simp only[Option.some.injEq,Prod.mk.injEq] at h
     obtain⟨rfl,rfl⟩:=h
     obtain⟨⟨⟨⟨h1,h2⟩,h3⟩,h4⟩,h5⟩:=hc
     have h5:=Nat.eq_of_beq_eq_true h5
     have h1:=Nat.eq_of_beq_eq_true h1
     have h2:=Nat.eq_of_beq_eq_true h2
     have h3:first = #[]:=by simpa using h3
     have h4:args = #[]:=by simpa using h4
     subst h1 h2 h3 h4
     refine⟨o1,o2,caps,ats,?_,h5,e1,e2,e3,e4,e5,e6⟩
     rw[← Array.toArray_toList (xs:=ops),hops]
    ·cases h
   ·cases h
  ·cases h
 ·cases h
theorem zuf {fi : FuncId} (hidle : ∀ caps : Array Value, caps.size = 2 → zmc P { target := .fn (.func fi) caps, args := #[] }) {c : Code} {id t nt n : Nat} {h0 : Fz} {D : List Nat} {a0 a : Act} {σ : St} {g : Gh} {w : World} {Q : Exit → Act → World → Prop}
    (h:ztl fi c=some (id,t)) (ht:t < nt) (htD:t∈D) (S:Sim P nt B w0 h0 g σ a w) (hkp:Kp D a0 a)
    (hQ:∀ a',Sim P nt B w0 h0 g ⟨(t,.junk) :: σ.env,σ.objs,[]⟩ a' w->Kp D a0 a'->Q .normal a' w):c.wpIn (FR none) n P Q a w:=by
  obtain⟨o1,o2,caps,ats,rfl,e0,e1,e2,e3,e4,e5,e6⟩:=zlX h
  refine wpIn_region ?_
  show wpOpsIn (FR none) n P #[o1,o2] Q [0,1] a w
  have w1:∀ tm,Region.wanted o1 (yielded #[o1,o2] tm)=true:=λ tm=>by simp[Region.wanted,e3]
  have w2:∀ tm,Region.wanted o2 (yielded #[o1,o2] tm)=true:=λ tm=>by simp[Region.wanted,e6]
  have r1:(execOp a.eval o1).run P w=.ok (.value (.func (.func fi) #[] (caps.map a.eval))) w:=by
    simp only[execOp,e1,Instr.makeFunc,Sem.run_bind,Sem.run_pure,Result.andThen_ok];simp
  have ets:t < a.tmps.size:=Nat.lt_of_lt_of_le ht S.size
  have ev:(a.put (some t) (.func (.func fi) #[] (caps.map a.eval))).eval (.tmp t)=.func (.func fi) #[] (caps.map a.eval):=by
    simp[Act.put,Act.eval,Array.getD_eq_getD_getElem?,ets]
  have r2:(execOp (a.put (some t) (.func (.func fi) #[] (caps.map a.eval))).eval o2).run P w=.ok (.defer { target:=.fn (.func fi) (caps.map a.eval),args:=#[] }) w:=by
    simp only[execOp,e4,resolve,Sem.run_bind,ev,Deferred.ofValue,Sem.run_pure,Result.andThen_ok];simp
  show (if Region.wanted o1 (yielded #[o1,o2] a.tmps) then o1.wpIn (FR none) n P a w (wpOpsIn (FR none) n P #[o1,o2] Q [1]) Q else _)
  rw[if_pos (w1 _)]
  refine⟨λ _ _=>trivial,?_⟩
  rw[show o1.semAt (FR none).round a.eval=execOp a.eval o1 from rfl,r1]
  show wpOpsIn (FR none) n P #[o1,o2] Q [1] (a.put o1.dst _) w
  rw[e2]
  show (if Region.wanted o2 (yielded #[o1,o2] (a.put (some t) _).tmps) then o2.wpIn (FR none) n P (a.put (some t) _) w (wpOpsIn (FR none) n P #[o1,o2] Q []) Q else _)
  rw[if_pos (w2 _)]
  refine⟨λ _ _=>trivial,?_⟩
  have r3:Sem.run P (o2.semAt (FR none).round (a.put (some t) (.func (.func fi) #[] (caps.map a.eval))).eval) w=.ok (.defer { target:=.fn (.func fi) (caps.map a.eval),args:=#[] }) w:=r2
  rw[r3]
  have S1:=S.put (dst:=some t) (d:=.junk) (v:=.func (.func fi) #[] (caps.map a.eval)) (by simpa [zbp,Nat.blt_eq] using ht) trivial (λ L hL=>by simp[zaP,za6,zaF] at hL) []
  refine hQ _ (S1.act ?_ ?_ ?_) ?_
  · obtain ⟨es, m1, m2, m3, m4⟩ := S1.dfr
    refine⟨.inr { target:=.fn (.func fi) (caps.map a.eval),args:=#[] } :: es,m1,?_,λ E hE=>?_,λ d hd=>?_⟩
    · rw[e5,List.map_cons,← m2];rfl
    · rcases List.mem_cons.1 hE with e | hE
      · cases e
      · exact m3 E hE
    · rcases List.mem_cons.1 hd with e | hd
      · cases e;exact hidle _ (by simpa using e0)
      · exact m4 d hd
  · rw[e5];exact S1.size
  · rw[e5];exact S1.env
  · rw [e5]
    exact hkp.put (dst:=some t) (λ z hz=>by cases hz;exact htD) _ a.defers
theorem zxX (hok:OkAll P Γ){fi:FuncId}(hidle:∀ caps:Array Value,caps.size=2->zmc P { target:=.fn (.func fi) caps,args:=#[] }) (ann:Ann):∀ (c:Code) (n:Nat) (h0:Fz) (D:List Nat) (a0:Act) (K:Exit->St->Prop) (σ:St) (g:Gh) (a:Act) (w:World),
  (∀ t∈zhk c,t∈D)->zBM P Γ fi ann c K σ->Sim P ann.nt B w0 h0 g σ a w->Kp D a0 a->c.wpIn (FR none) n P (PostR P ann.nt B w0 h0 D a0 K) a w
 | .seq x y,n,h0,D,a0,K,σ,g,a,w,hD,h,S,hkp=>by
  have hDx:∀ t∈zhk x,t∈D:=λ t ht=>hD t (List.mem_append.2 (.inl ht))
  have hDy:∀ t∈zhk y,t∈D:=λ t ht=>hD t (List.mem_append.2 (.inr ht))
  simp only[zBM] at h
  split at h
  ·rename_i id t hdf
   split at h
   ·rename_i hlt
    have ht:t < ann.nt:=by simpa [Nat.blt_eq] using hlt
    have htD:t∈D:=by
     obtain⟨o1,o2,caps,ats,rfl,_,_,e2,_,_,e5,_⟩:=zlX hdf
     exact hDx t (by simp[zhk,zur,e2])
    refine wpIn_seq (zuf hidle hdf ht htD S hkp λ a' S' hk'=>?_)
    have hk:∀ s g2,vc P Γ ann y K s->Sim P ann.nt B w0 h0 g2 s a' w->y.wpIn (FR none) n P (PostR P ann.nt B w0 h0 D a0 K) a' w:=λ s g2 hv S2=>zdr hok ann y none n h0 D a0 K s g2 a' w hDy (Rnd.none h0) hv S2 hk'
    unfold zDR at h
    split at h
    ·split at h
     ·rename_i s hs
      obtain⟨g2,S2⟩:=zbh hs S'
      exact hk s g2 h S2
     ·exact h.elim
    ·exact hk _ g h S'
   ·exact h.elim
  ·refine wpIn_seq (wpIn_mono (zdr hok ann x none n h0 D a0 _ σ g a w hDx (Rnd.none h0) h S hkp) ?_)
   rintro e a' w' ⟨g',σ',hK,S',hk'⟩
   cases e with
   | normal=>exact zxX hok hidle ann y n h0 D a0 K σ' g' a' w' hDy hK S' hk'
   | exit id=>exact⟨g',σ',hK,S',hk'⟩
   | goto l=>exact⟨g',σ',hK,S',hk'⟩
   | ret=>exact⟨g',σ',hK,S',hk'⟩
   | panic ch=>exact⟨g',σ',hK,S',hk'⟩
   | outgrown=>exact⟨g',σ',hK,S',hk'⟩
 | .skip,n,h0,D,a0,K,σ,g,a,w,hD,h,S,hkp=>zdr hok ann .skip none n h0 D a0 K σ g a w hD (Rnd.none h0) h S hkp
 | .region i o d,n,h0,D,a0,K,σ,g,a,w,hD,h,S,hkp=>zdr hok ann (.region i o d) none n h0 D a0 K σ g a w hD (Rnd.none h0) h S hkp
 | .cond c x y,n,h0,D,a0,K,σ,g,a,w,hD,h,S,hkp=>zdr hok ann (.cond c x y) none n h0 D a0 K σ g a w hD (Rnd.none h0) h S hkp
 | .block i x,n,h0,D,a0,K,σ,g,a,w,hD,h,S,hkp=>zdr hok ann (.block i x) none n h0 D a0 K σ g a w hD (Rnd.none h0) h S hkp
 | .loop x,n,h0,D,a0,K,σ,g,a,w,hD,h,S,hkp=>zdr hok ann (.loop x) none n h0 D a0 K σ g a w hD (Rnd.none h0) h S hkp
 | .scope x,n,h0,D,a0,K,σ,g,a,w,hD,h,S,hkp=>zdr hok ann (.scope x) none n h0 D a0 K σ g a w hD (Rnd.none h0) h S hkp
 | .exit i,n,h0,D,a0,K,σ,g,a,w,hD,h,S,hkp=>zdr hok ann (.exit i) none n h0 D a0 K σ g a w hD (Rnd.none h0) h S hkp
 | .goto i,n,h0,D,a0,K,σ,g,a,w,hD,h,S,hkp=>zdr hok ann (.goto i) none n h0 D a0 K σ g a w hD (Rnd.none h0) h S hkp
 | .label i,n,h0,D,a0,K,σ,g,a,w,hD,h,S,hkp=>zdr hok ann (.label i) none n h0 D a0 K σ g a w hD (Rnd.none h0) h S hkp
 | .ret,n,h0,D,a0,K,σ,g,a,w,hD,h,S,hkp=>zdr hok ann .ret none n h0 D a0 K σ g a w hD (Rnd.none h0) h S hkp
 | .rangeFunc f p x y,n,h0,D,a0,K,σ,g,a,w,hD,h,S,hkp=>zdr hok ann (.rangeFunc f p x y) none n h0 D a0 K σ g a w hD (Rnd.none h0) h S hkp
 | .refuse x,n,h0,D,a0,K,σ,g,a,w,hD,h,S,hkp=>zdr hok ann (.refuse x) none n h0 D a0 K σ g a w hD (Rnd.none h0) h S hkp
theorem zBN {G : Ctrs} (hok : OkAll P G) {f fi : FuncId} (hidle : ∀ caps : Array Value, caps.size = 2 → zmc P { target := .fn (.func fi) caps, args := #[] }) {args : List PA} {K : List PA → Prop} {ann : Ann} (hv : ztm P G fi ann f args K) {w : World} {h0 : Fz} {vs : List Value} (hvs : RL (paR h0) args vs) (hfz : Hw h0 w) (hgl : zd0 h0) :
  Calls P f vs.toArray w λ e w'=>∃ (h':Fz) (rs:List PA) (v:Value),K rs/\e=.returned v/\znF h' rs v/\Bel h0 w.heap.size w w' /\
   Fle h0 h'/\Hw h' w'/\∀ b o,h' b=some o->h0 b=some o∨w.heap.size≤b:=by
 unfold ztm at hv
 split at hv
 ·rename_i fn hfn
  split at hv
  ·rename_i c hbody
   split at hv
   ·rename_i hnt
    simp only[Bool.and_eq_true,Nat.ble_eq] at hnt
    have S:=zkF (P:=P) (Nat.eq_of_beq_eq_true hnt.1) hnt.2 hvs hfz hgl
    have hwp:=zxX (B:=w.heap.size) (w0:=w) hok hidle ann c 0 h0 (zhk c) _ _ _ _ _ _ (λ _ h=>h) hv S (Kp.refl _ _)
    refine (callsIn_wide (n:=0)).1 ?_
    refine callsIn_of_wp_marks (F:=FR none) hfn hbody trivial (wpIn_mono hwp ?_)
    have h0b:∀ b,h0 b=some (.fz (.deferred (some [])))->b < w.heap.size:=λ b h=>hfz.lt h
    rintro e a' w' ⟨g',σ',hK',S',_⟩
    have fin:zHO P fn K σ'->LeavesInM (FR none) 0 P fn a'.tmps (λ e w'=>∃ (h':Fz) (rs:List PA) (v:Value),K rs/\e=.returned v/\znF h' rs v/\Bel h0 w.heap.size w w' /\
      Fle h0 h'/\Hw h' w'/\∀ b o,h' b=some o->h0 b=some o∨w.heap.size≤b) a'.defers .returning w':=by
     intro hf
     obtain⟨Ds,h1,h2,h3,h4⟩:=S'.dfr
     refine zkE h0b Ds g' a' w' h1 h2 h3 h4 S' λ g2 a2 w2 _ S2=>?_
     unfold zHO at hf
     split at hf
     ·rename_i l hl
      obtain⟨u,v,hu,hrun,hres⟩:=zkD S2 hl
      obtain⟨h',S3,F⟩:=S2.freeze hu
      exact⟨v,hrun,h',l,v,hf,rfl,hres h' F,S3.below,S3.le0,S3.hw,S3.hn⟩
     ·exact hf.elim
    cases e with
    | normal=>exact fin hK'
    | ret=>exact fin hK'
    | exit id=>exact hK'.elim
    | goto l=>exact hK'.elim
    | panic ch=>exact hK'.elim
    | outgrown=>exact hK'.elim
   ·exact hv.elim
  ·exact hv.elim
 ·exact hv.elim
theorem zBO {T : Tabs} (hT : TabsOk P T) {f fi : FuncId} {C : List PA → COut} (hc : zar P f) (hidle : ∀ caps : Array Value, caps.size = 2 → zmc P { target := .fn (.func fi) caps, args := #[] })
    (h:∀ args K,(C args).wp K->∃ args',RL PAle args args'/\∃ memo vv ann,ztm P (csm T memo vv) fi ann f args' (Wk K)):Ok P f C:=by
  intro args K hK w h0 vs hvs hfz hgl
  obtain⟨args',hle,memo,vv,ann,hv⟩:=h args K hK
  refine⟨hc,(zBN (hT.all memo vv) hidle hv (zvR (R:=paR h0) (S:=PAle) (T:=paR h0) (λ _ _ _ e r=>zBc e r) _ _ _ hle hvs) hfz hgl).mono ?_⟩
  rintro e w' ⟨h',rs,v,⟨rs',hr,hk⟩,he,hres,rest⟩
  exact⟨h',rs',v,hk,he,zvS hr hres,rest⟩
end
end Go.Pm
namespace Go.Pm
open Go Go.Proofs
set_option maxRecDepth 100000
theorem zJE:∀ caps:Array Value,caps.size=2->zmc Tryd.prog { target:=.fn (.func 68) caps,args:=#[] }:=λ caps hc=>by
 match caps,hc with
 | ⟨[x,y]⟩,_ =>
 refine⟨.func 68,#[x,y],68,#[x,y],rfl,λ w=>?_,λ n w=>?_⟩
 ·have h : zar Tryd.prog 68 := ⟨_, rfl, rfl, by kernel_rfl⟩
  show (callFunc 68 (#[] ++ #[x,y])).run Tryd.prog w=_
  exact zbV h
 have key:CallsDIn { fn:=λ _=>True,depth:=none,alive:=false,round:=none } n Tryd.prog 68 #[x,y] .returning w λ e u' w'=>e=.returned (.tuple #[])/\u'=.returning/\w'=w:=by
  refine callsDIn_of_wpSIn Tryd.func68 rfl trivial λ c₀ cs hu=>?_
  apply wpSIn_seq
  apply wpSIn_region
  simp[wpOpsSIn,go_sem,recoverD,hu,Tryd.ntmps68,Exit.thenS]
  apply wpSIn_seq
  apply wpSIn_region
  simp[wpOpsSIn,go_sem,recoverD,hu,Tryd.ntmps68,Exit.thenS]
  refine wpSIn_cond (t:=false) (by simp[Act.eval,Array.replicate]) ?_
  simp only[Bool.false_eq_true,if_false]
  refine wpSIn_of_wpIn rfl (wpIn_skip ?_)
  cases c₀
  simp_all [bodyPostS,results,Tryd.results68]
 exact key.mono λ e u' w' h=>⟨⟨_,h.1⟩,h.2⟩
end Go.Pm
namespace Go.Proofs
open Go Go.Pm
set_option maxRecDepth 100000
set_option linter.unusedVariables false
attribute [local irreducible] Go.Pm.vcFun Go.Pm.vc Go.Pm.vcIter
abbrev T22:Tabs:=(((Tabs.nil.addF 67 zv3).addM 69 zJz).addF 70 zFM)
theorem zMs:TabsOk Tryd.prog T22:=(((TabsOk.nil.addF zLN).addM zOm).addF zOo)
abbrev G22:Ctrs:=csm T22 (λ _ _=>[]) (λ l=>Nat.beq l 12)
def zFN:Ann:=⟨29,[(0,zK [1,2,3] [1,2,3]),(1,zK [1,2,3,9] [1,2,3]),(2,zK [2,3] [2,3]),(3,zK [1,2,3] [1,2,3]),(4,zK [2,3,4] [2,3,12,14]),(5,zK [2,3,4,15] [2,3,12,14]),(6,zK [2,3,4,15,16] [2,3,12,14]),(7,zK [2,3,4,5,15] [2,3,12,14]),(8,zK [2,3,4,6,15] [2,3,12,14]),(9,zK [2,3,4,6,15,23] [2,3,12,14]),(10,zK [2,3] [2,3]),(11,zK [2,3,4,15] [2,3,12,14])],
 [(6,zK [2,3,4,15] [2,3,12,14])],
 [],
 [],[]⟩
abbrev R22:=((Sl Int)×Int)
abbrev e22 (r:R22):List PA:=[.one (.sl r.1.len 1 (λ i=>zad (r.1.get i))),.one (.int .i64 r.2)]
@[irreducible] def z22:=ptF Tryd.prog G22 zFN Tryd.f22
def zC6 (zaG:Int) (zbd:Int) (za5:(Sl Tie)) (zbe:Nat) (zbf:(List Int->Option (List Int))) (zdf:Nat->List PV):St:=⟨[(2,zp 2 0),(3,zp 3 0),(4,zp 14 0),(15,zI zaG)],[(2,.box 27 [.p (.nils)]),(3,.box 28 [zi (0:Int)]),(12,.mo 3 4 (false,1,false,[none]) zbe zbf),(14,.box 105 [zi zbd,.p (.sl za5.len 4 zdf),.mo 12])],[]⟩
abbrev zJF (K:List PA->Prop) (X:St->Prop) (P:Int->Int->(Sl Tie)->Nat->(List Int->Option (List Int))->Bool) (S:Int->Int->(Sl Tie)->Nat->(List Int->Option (List Int))->((Sl Int)×Int)):Prop:=∀ ⦃zaG:Int⦄ ⦃zbd:Int⦄ ⦃za5:(Sl Tie)⦄ ⦃zbe:Nat⦄ ⦃zbf:(List Int->Option (List Int))⦄ ⦃zdf:Nat->List PV⦄,P zaG zbd za5 zbe zbf=true->K (e22 (S zaG zbd za5 zbe zbf))->zdf=zg enc_40 za5->X (zC6 zaG zbd za5 zbe zbf zdf)
section
variable {K:List PA->Prop}{n:Net}{zaG:Int}{zbd:Int}{za5:(Sl Tie)}{zbe:Nat}{zbf:(List Int->Option (List Int))}{zdf:Nat->List PV}{X0:St->Prop}{P0:Int->Int->(Sl Tie)->Nat->(List Int->Option (List Int))->Bool}{S0:Int->Int->(Sl Tie)->Nat->(List Int->Option (List Int))->((Sl Int)×Int)}
def zxY (S0:Int->Int->(Sl Tie)->Nat->(List Int->Option (List Int))->((Sl Int)×Int)) (zaG:Int) (zbd:Int) (za5:(Sl Tie)) (zbe:Nat) (zbf:(List Int->Option (List Int))):((Sl Int)×Int) :=
  (cond (decide (zaG < (4:Int)))
 (cond (decide ((((s69 (⟨(⟨zbd, za5⟩ : Net), (⟨zbe, zbf⟩ : Mp)⟩ : web) zaG).1).len : Int) > (0:Int)))
 ((s70 ((s69 (⟨(⟨zbd,za5⟩:Net),(⟨zbe,zbf⟩:Mp)⟩:web) zaG).1)),(0:Int))
 (S0 (w64 (zaG+(1:Int))) (((s69 (⟨(⟨zbd,za5⟩:Net),(⟨zbe,zbf⟩:Mp)⟩:web) zaG).2).Net.Nodes) (((s69 (⟨(⟨zbd,za5⟩:Net),(⟨zbe,zbf⟩:Mp)⟩:web) zaG).2).Net.Ties) ((((s69 (⟨(⟨zbd,za5⟩:Net),(⟨zbe,zbf⟩:Mp)⟩:web) zaG).2).out).n) ((((s69 (⟨(⟨zbd,za5⟩:Net),(⟨zbe,zbf⟩:Mp)⟩:web) zaG).2).out).F)))
 default)
def zxZ (P0:Int->Int->(Sl Tie)->Nat->(List Int->Option (List Int))->Bool) (zaG:Int) (zbd:Int) (za5:(Sl Tie)) (zbe:Nat) (zbf:(List Int->Option (List Int))):Bool :=
  (cond (decide (zaG < (4:Int)))
 (decide ((p69 (⟨(⟨zbd,za5⟩:Net),(⟨zbe,zbf⟩:Mp)⟩:web) zaG=true)) &&
 (cond (decide ((((s69 (⟨(⟨zbd, za5⟩ : Net), (⟨zbe, zbf⟩ : Mp)⟩ : web) zaG).1).len : Int) > (0:Int)))
 (decide ((p70 ((s69 (⟨(⟨zbd,za5⟩:Net),(⟨zbe,zbf⟩:Mp)⟩:web) zaG).1)=true)) &&
 true)
 (P0 (w64 (zaG+(1:Int))) (((s69 (⟨(⟨zbd,za5⟩:Net),(⟨zbe,zbf⟩:Mp)⟩:web) zaG).2).Net.Nodes) (((s69 (⟨(⟨zbd,za5⟩:Net),(⟨zbe,zbf⟩:Mp)⟩:web) zaG).2).Net.Ties) ((((s69 (⟨(⟨zbd,za5⟩:Net),(⟨zbe,zbf⟩:Mp)⟩:web) zaG).2).out).n) ((((s69 (⟨(⟨zbd,za5⟩:Net),(⟨zbe,zbf⟩:Mp)⟩:web) zaG).2).out).F))))
 false)
def zx0:Nat->Int->Int->(Sl Tie)->Nat->(List Int->Option (List Int))->((Sl Int)×Int):=lpO (λ _ _ _ _ _=>default) (zxY)
def zx1:Nat->Int->Int->(Sl Tie)->Nat->(List Int->Option (List Int))->Bool:=lpO (λ _ _ _ _ _=>false) (zxZ)
def zx2 (zaG:Int) (zbd:Int) (za5:(Sl Tie)) (zbe:Nat) (zbf:(List Int->Option (List Int))):((Sl Int)×Int):=zx0 Fuel zaG zbd za5 zbe zbf
def zx3 (zaG:Int) (zbd:Int) (za5:(Sl Tie)) (zbe:Nat) (zbf:(List Int->Option (List Int))):Bool:=zx1 Fuel zaG zbd za5 zbe zbf
theorem zFO (hs:zx3 zaG zbd za5 zbe zbf=true) (hk:K (e22 (zx2 zaG zbd za5 zbe zbf))) (zkZ:zdf=zg enc_40 za5):z22 (Wk K) [1,1,1,1,0,1,0] [] (zC6 zaG zbd za5 zbe zbf zdf) :=
  zl (λ X=>z22 (Wk K) [1,1,1,1,0,1,0,0] [X]) (by kernel_rfl) λ X0 hX =>
  (show ∀ k, zJF K X0 (zx1 k) (zx0 k) from zd1 _ _ (zxZ) (zxY) (zJF K X0)
 (by intro _ _ _ _ _ _ hs;exact absurd hs Bool.false_ne_true)
 (by intro P0 S0 hX0 zaG zbd za5 zbe zbf zdf hs hk zkZ;subst zkZ;exact hX _ (zaM (by kernel_rfl) (zc hs hk (λ hs hk=>(zaJ hs λ hc hs=>And.intro (And.intro (zE enc_40 4 za5.get) (And.intro (rfl:((false,1,false,[none]):MQ)=(false,1,false,[none])) hc)) (zc hs hk (λ hs hk=>(zaJ hs λ hc hs=>And.intro (And.intro (zE zbO 1 (((s69 (⟨(⟨zbd,za5⟩:Net),(⟨zbe,zbf⟩:Mp)⟩:web) zaG).1).get)) hc) ((zfl hk):Wk K [.one (.sl ((s70 ((s69 (⟨(⟨zbd,za5⟩:Net),(⟨zbe,zbf⟩:Mp)⟩:web) zaG).1)).len) 1 (λ i=>zad ((s70 ((s69 (⟨(⟨zbd,za5⟩:Net),(⟨zbe,zbf⟩:Mp)⟩:web) zaG).1)).get i))),.one (.int .i64 (0:Int))]))) (λ hs hk=>(hX0 hs hk rfl))))) (λ hs hk=>(absurd hs Bool.false_ne_true:False)))))) _ hs hk zkZ
def s22 (n:Net):((Sl Int)×Int) :=
  (cond (!(s67 n))
 ((⟨0,λ _=>default⟩:(Sl Int)),(2:Int))
 (zx2 (0:Int) n.Nodes n.Ties 0 (λ _=>none)))
def p22 (n:Net):Bool :=
  (decide ((p67 n=true)) &&
 (cond (!(s67 n))
 true
 (zx3 (0:Int) n.Nodes n.Ties 0 (λ _=>none))))
end
theorem q22 (n:Net) (K:List PA->Prop) (hs:p22 n=true) (hk:K (e22 (s22 n))):ztm Tryd.prog G22 68 zFN 22 [.agg (enc_24 n)] (Wk K) :=
  zaM (by kernel_rfl) (zaJ hs λ hc hs=>And.intro (And.intro (zE enc_40 4 n.Ties.get) hc) (zc hs hk (λ hs hk=>((wk hk (zeF (.one (.nil _ _)) (zeF (.one (.rfl _)) zkK))):Wk K [.one (.nils),.one (.int .i64 (2:Int))])) (λ hs hk=>(zFO hs hk rfl))))
def zFP : List PA → COut
  | [.agg [.int .i64 zae,.sl zac zat zab]]=>.det (IsE enc_40 4 zat zab/\p22 (⟨zae,(⟨zac,zam zab⟩:(Sl Tie))⟩:Net)=true) [.one (.sl (((s22 (⟨zae,(⟨zac,zam zab⟩:(Sl Tie))⟩:Net)).1).len) 1 (λ i=>zad (((s22 (⟨zae,(⟨zac,zam zab⟩:(Sl Tie))⟩:Net)).1).get i))),.one (.int .i64 ((s22 (⟨zae,(⟨zac,zam zab⟩:(Sl Tie))⟩:Net)).2))]
  | _=>.no
theorem zJG:zar Tryd.prog 22:=⟨_,rfl,rfl,by kernel_rfl⟩
theorem zOp:Ok Tryd.prog 22 zFP:=zBO zMs zJG zJE λ args K h=>by
  unfold zFP at h
  split at h
  · rename_i zae zac zat zab
    obtain⟨⟨⟨rfl,zan,rfl⟩,hs⟩,hk⟩:=h
    try rw[zak zan] at hs
    try rw[zak zan] at hk
    exact⟨_,zeE zfk _,(λ _ _=>[]),(λ l=>Nat.beq l 12),zFN,q22 (⟨zae,(⟨zac,zan⟩:(Sl Tie))⟩:Net) K hs hk⟩
  · exact h.elim
abbrev T25:Tabs:=Tabs.nil
theorem zMt:TabsOk Tryd.prog T25:=TabsOk.nil
abbrev G25:Ctrs:=csm T25 (λ _ _=>[]) (λ _=>false)
def zFQ:Ann:=⟨26,[(0,zK [0,1] []),(1,zK [0,1,10] []),(2,zK [4] []),(3,zK [0,1,5] []),(4,zK [0,1,5,14] []),(5,zK [0,1,5] []),(6,zK [0,1,5,25] []),(7,zK [4] []),(8,zK [4] [])],
 [(4,zK [0,1,5] [])],
 [(3,zK [0,1] [])],
 [],[]⟩
abbrev R25:=Bool
abbrev e25 (r:R25):List PA:=[.one (.bool r)]
@[irreducible] def z25:=ptF Tryd.prog G25 zFQ Tryd.f25
def zC7 (a:(Sl Int)) (b:(Sl Int)) (iv1:Int):St:=⟨[(0,zS zad 1 a),(1,zS zad 1 b),(5,zI iv1)],[],[]⟩
abbrev zJH (K:List PA->Prop) (a:(Sl Int)) (b:(Sl Int)) (X:St->Prop) (P:Int->Bool) (S:Int->Bool):Prop:=∀ ⦃iv1:Int⦄,P iv1=true->K (e25 (S iv1))->X (zC7 a b iv1)
section
variable {K:List PA->Prop}{a:(Sl Int)}{b:(Sl Int)}{iv1:Int}{X1:St->Prop}{P1:Int->Bool}{S1:Int->Bool}
def zx4 (a:(Sl Int)) (b:(Sl Int)) (S1:Int->Bool) (iv1:Int):Bool :=
  (cond (decide (iv1 < (a.len : Int)))
 (cond ((a.get iv1.toNat) != (b.get iv1.toNat))
 false
 (S1 (w64 (iv1+(1:Int)))))
 true)
def zx5 (a:(Sl Int)) (b:(Sl Int)) (P1:Int->Bool) (iv1:Int):Bool :=
  (cond (decide (iv1 < (a.len : Int)))
 (decide ((0≤iv1/\iv1 < (a.len:Int))) &&
 (decide ((0≤iv1/\iv1 < (b.len:Int))) &&
 (cond ((a.get iv1.toNat) != (b.get iv1.toNat))
 true
 (P1 (w64 (iv1+(1:Int)))))))
 true)
def zx6 (a:(Sl Int)) (b:(Sl Int)):Nat->Int->Bool:=lpO (λ _=>default) (zx4 a b)
def zx7 (a:(Sl Int)) (b:(Sl Int)):Nat->Int->Bool:=lpO (λ _=>false) (zx5 a b)
def zx8 (a:(Sl Int)) (b:(Sl Int)) (iv1:Int):Bool:=zx6 a b Fuel iv1
def zx9 (a:(Sl Int)) (b:(Sl Int)) (iv1:Int):Bool:=zx7 a b Fuel iv1
theorem zFR (hs:zx9 a b iv1=true) (hk:K (e25 (zx8 a b iv1))):z25 K [1,1,0,1,0] [] (zC7 a b iv1) :=
  zl (λ X=>z25 K [1,1,0,1,0,0] [X]) (by kernel_rfl) λ X1 hX =>
  (show ∀ k, zJH K a b X1 (zx7 a b k) (zx6 a b k) from zd1 _ _ (zx5 a b) (zx4 a b) (zJH K a b X1)
 (by intro _ hs;exact absurd hs Bool.false_ne_true)
 (by intro P1 S1 hX1 iv1 hs hk;exact hX _ (zaM (by kernel_rfl) (zc hs hk (λ hs hk=>(zaJ hs λ hc hs=>And.intro hc (zaJ hs λ hc hs=>And.intro hc (zc hs hk (λ hs hk=>hk) (λ hs hk=>(hX1 hs hk)))))) (λ hs hk=>hk))))) _ hs hk
def zya (a:(Sl Int)) (b:(Sl Int)):Bool :=
  (zx8 a b (0:Int))
def zyb (a:(Sl Int)) (b:(Sl Int)):Bool :=
  (zx9 a b (0:Int))
theorem zFS (hs:zyb a b=true) (hk:K (e25 (zya a b))):z25 K [1,1] [] ⟨[(0,zS zad 1 a),(1,zS zad 1 b)],[],[]⟩:=zaM (by kernel_rfl) (zFR hs hk)
def s25 (a:(Sl Int)) (b:(Sl Int)):Bool :=
  (cond ((a.len : Int) != (b.len : Int))
 false
 (zya a b))
def p25 (a:(Sl Int)) (b:(Sl Int)):Bool :=
  (cond ((a.len : Int) != (b.len : Int))
 true
 (zyb a b))
end
theorem q25 (a:(Sl Int)) (b:(Sl Int)) (K:List PA->Prop) (hs:p25 a b=true) (hk:K (e25 (s25 a b))):vcFun Tryd.prog G25 zFQ 25 [.one (.sl a.len 1 (λ i=>zad (a.get i))),.one (.sl b.len 1 (λ i=>zad (b.get i)))] K :=
  zaM (by kernel_rfl) (zc hs hk (λ hs hk=>hk) (λ hs hk=>(zFS hs hk)))
def zFT : List PA → COut
  | [.one (.sl zfR zlV zfS),.one (.sl zdJ zie zdB)]=>.det (IsE zad 1 zlV zfS/\IsE zad 1 zie zdB/\p25 (⟨zfR,zav zfS⟩:(Sl Int)) (⟨zdJ,zav zdB⟩:(Sl Int))=true) [.one (.bool (s25 (⟨zfR,zav zfS⟩:(Sl Int)) (⟨zdJ,zav zdB⟩:(Sl Int))))]
  | _=>.no
theorem zJI:zar Tryd.prog 25:=⟨_,rfl,rfl,by kernel_rfl⟩
theorem zOq:Ok Tryd.prog 25 zFT:=za9 zMt zJI λ args K h=>by
  unfold zFT at h
  split at h
  · rename_i zfR zlV zfS zdJ zie zdB
    obtain⟨⟨⟨rfl,zit,rfl⟩,⟨rfl,zfL,rfl⟩,hs⟩,hk⟩:=h
    try rw[zba zit] at hs
    try rw[zba zit] at hk
    try rw[zba zfL] at hs
    try rw[zba zfL] at hk
    exact⟨(λ _ _=>[]),(λ _=>false),zFQ,q25 (⟨zfR,zit⟩:(Sl Int)) (⟨zdJ,zfL⟩:(Sl Int)) K hs hk⟩
  · exact h.elim
abbrev T26:Tabs:=(((Tabs.nil.addF 74 zp5).addF 75 zt8).addF 76 zt7)
theorem zMu:TabsOk Tryd.prog T26:=(((TabsOk.nil.addF zIV).addF zLl).addF zLk)
abbrev G26:Ctrs:=csm T26 (λ _ _=>[]) (λ _=>false)
def zFU:Ann:=⟨45,[(0,zK [1] [1]),(1,zK [1,4,5] [1]),(2,zK [1,4,5,16] [1]),(3,zK [2,3] []),(4,zK [1,6,7] [1,6,7]),(5,zK [6,7,8] [6,7,24]),(6,zK [6,7,8,26,27] [6,7,24]),(7,zK [6,7,8,26,27,28] [6,7,24]),(8,zK [6,7,8,9,26,27] [6,7,24]),(9,zK [6,7,8,26,27] [6,7,24]),(10,zK [6,7,8,26,27] [6,7,24]),(11,zK [2,3] [24])],
 [(7,zK [6,7,8,26,27] [6,7,24])],
 [],
 [],[]⟩
abbrev R26:=((Sl Span)×Int)
abbrev e26 (r:R26):List PA:=[.one (.sl r.1.len 2 (λ i=>za1 (r.1.get i))),.one (.int .i64 r.2)]
@[irreducible] def z26:=ptF Tryd.prog G26 zFU Tryd.f26
def zC8 (n:Net) (zb7:Int) (zcT:(Sl Span)) (tot0:Tab) (fromt0:Tab) (zf0:Nat->List PV):St:=⟨[(6,zp 6 0),(7,zp 7 0),(8,zv 24),(26,zI (n.Nodes.toNat:Int)),(27,zI zb7)],[(6,.box 116 (zm (zaf tot0))),(7,.box 116 (zm (zaf fromt0))),(24,.vec 43 2 16 zcT.len zf0)],[]⟩
abbrev zJJ (K:List PA->Prop) (n:Net) (X:St->Prop) (P:Int->(Sl Span)->Tab->Tab->Bool) (S:Int->(Sl Span)->Tab->Tab->((Sl Span)×Int)):Prop:=∀ ⦃zb7:Int⦄ ⦃zcT:(Sl Span)⦄ ⦃tot0:Tab⦄ ⦃fromt0:Tab⦄ ⦃zf0:Nat->List PV⦄,P zb7 zcT tot0 fromt0=true->K (e26 (S zb7 zcT tot0 fromt0))->zf0=zg za1 zcT->X (zC8 n zb7 zcT tot0 fromt0 zf0)
section
variable {K:List PA->Prop}{n:Net}{zb7:Int}{zcT:(Sl Span)}{tot0:Tab}{fromt0:Tab}{zf0:Nat->List PV}{X0:St->Prop}{P0:Int->(Sl Span)->Tab->Tab->Bool}{S0:Int->(Sl Span)->Tab->Tab->((Sl Span)×Int)}
def zyc (n:Net) (S0:Int->(Sl Span)->Tab->Tab->((Sl Span)×Int)) (zb7:Int) (zcT:(Sl Span)) (tot0:Tab) (fromt0:Tab):((Sl Span)×Int) :=
  (cond (decide (zb7 < (n.Nodes.toNat : Int)))
 (S0 (w64 (zb7+(1:Int))) (⟨zcT.len,(setT zb7.toNat (⟨(w64 (0 - (tg 80 tot0 (0+zb7.toNat * 2+0)))),(tg 80 fromt0 (0+zb7.toNat * 2+0))⟩:Span) zcT.get)⟩:Sl Span) tot0 fromt0)
 (zcT,(0:Int)))
def zyd (n:Net) (P0:Int->(Sl Span)->Tab->Tab->Bool) (zb7:Int) (zcT:(Sl Span)) (tot0:Tab) (fromt0:Tab):Bool :=
  (cond (decide (zb7 < (n.Nodes.toNat : Int)))
 (decide ((0≤zb7/\zb7 < (40:Int))) &&
 (decide ((0≤zb7/\zb7 < (40:Int))) &&
 (decide ((0≤zb7/\zb7 < (zcT.len:Int))) &&
 (decide ((zb7.toNat < zcT.len)) &&
 (P0 (w64 (zb7+(1:Int))) (⟨zcT.len,(setT zb7.toNat (⟨(w64 (0 - (tg 80 tot0 (0+zb7.toNat * 2+0)))),(tg 80 fromt0 (0+zb7.toNat * 2+0))⟩:Span) zcT.get)⟩:Sl Span) tot0 fromt0)))))
 true)
def zye (n:Net):Nat->Int->(Sl Span)->Tab->Tab->((Sl Span)×Int):=lpO (λ _ _ _ _=>default) (zyc n)
def zyf (n:Net):Nat->Int->(Sl Span)->Tab->Tab->Bool:=lpO (λ _ _ _ _=>false) (zyd n)
def zyg (n:Net) (zb7:Int) (zcT:(Sl Span)) (tot0:Tab) (fromt0:Tab):((Sl Span)×Int):=zye n Fuel zb7 zcT tot0 fromt0
def zyh (n:Net) (zb7:Int) (zcT:(Sl Span)) (tot0:Tab) (fromt0:Tab):Bool:=zyf n Fuel zb7 zcT tot0 fromt0
theorem zFV (hs:zyh n zb7 zcT tot0 fromt0=true) (hk:K (e26 (zyg n zb7 zcT tot0 fromt0))) (zqC:zf0=zg za1 zcT):z26 (Wk K) [1,1,1,1,1,0,1,0] [] (zC8 n zb7 zcT tot0 fromt0 zf0) :=
  zl (λ X=>z26 (Wk K) [1,1,1,1,1,0,1,0,0] [X]) (by kernel_rfl) λ X0 hX =>
  (show ∀ k, zJJ K n X0 (zyf n k) (zye n k) from zd1 _ _ (zyd n) (zyc n) (zJJ K n X0)
 (by intro _ _ _ _ _ hs;exact absurd hs Bool.false_ne_true)
 (by intro P0 S0 hX0 zb7 zcT tot0 fromt0 zf0 hs hk zqC;subst zqC;exact hX _ (zaM (by kernel_rfl) (zc hs hk (λ hs hk=>(zaJ hs λ hc hs=>And.intro hc (zaJ hs λ hc hs=>And.intro hc (zaJ hs λ hc hs=>And.intro hc (zaJ hs λ hc hs=>And.intro hc (hX0 hs hk (zfj (enc:=za1) (i:=zb7.toNat) (k:=0) (f:=zcT.get) (new:=(za1 (⟨(w64 (0 - (tg 80 tot0 (0+zb7.toNat * 2+0)))),(tg 80 fromt0 (0+zb7.toNat * 2+0))⟩:Span))) (v:=(⟨(w64 (0 - (tg 80 tot0 (0+zb7.toNat * 2+0)))),(tg 80 fromt0 (0+zb7.toNat * 2+0))⟩:Span)) rfl rfl))))))) (λ hs hk=>((zfl hk):Wk K [.one (.sl zcT.len 2 (λ i=>za1 (zcT.get i))),.one (.int .i64 (0:Int))])))))) _ hs hk zqC
def s26 (n:Net):((Sl Span)×Int) :=
  (cond ((s74 n (⟨0, λ _ => default⟩ : (Sl Int))).2 == 0)
 (cond ((0:Int) != (0:Int))
 ((⟨0,λ _=>default⟩:(Sl Span)),(0:Int))
 (zyg n (0:Int) (⟨n.Nodes.toNat,(λ _=>(⟨(0:Int),(0:Int)⟩:Span))⟩:Sl Span) (s75 (⟨(s74 n (⟨0,λ _=>default⟩:(Sl Int))).1.Net,((s74 n (⟨0,λ _=>default⟩:(Sl Int))).1.out)⟩:web) (0:Int)) (s76 (⟨(s74 n (⟨0,λ _=>default⟩:(Sl Int))).1.Net,((s74 n (⟨0,λ _=>default⟩:(Sl Int))).1.out)⟩:web) (0:Int))))
 (cond ((s74 n (⟨0, λ _ => default⟩ : (Sl Int))).2 != (0:Int))
 ((⟨0,λ _=>default⟩:(Sl Span)),(s74 n (⟨0,λ _=>default⟩:(Sl Int))).2)
 default))
def p26 (n:Net):Bool :=
  (cond ((s74 n (⟨0, λ _ => default⟩ : (Sl Int))).2 == 0)
 (decide ((p74 n (⟨0,λ _=>default⟩:(Sl Int))=true)) &&
 (cond ((0:Int) != (0:Int))
 true
 (decide ((p75 (⟨(s74 n (⟨0,λ _=>default⟩:(Sl Int))).1.Net,((s74 n (⟨0,λ _=>default⟩:(Sl Int))).1.out)⟩:web) (0:Int)=true)) &&
 (decide ((p76 (⟨(s74 n (⟨0,λ _=>default⟩:(Sl Int))).1.Net,((s74 n (⟨0,λ _=>default⟩:(Sl Int))).1.out)⟩:web) (0:Int)=true)) &&
 (decide ((0≤n.Nodes/\n.Nodes=n.Nodes/\n.Nodes≤1000000)) &&
 (zyh n (0:Int) (⟨n.Nodes.toNat,(λ _=>(⟨(0:Int),(0:Int)⟩:Span))⟩:Sl Span) (s75 (⟨(s74 n (⟨0,λ _=>default⟩:(Sl Int))).1.Net,((s74 n (⟨0,λ _=>default⟩:(Sl Int))).1.out)⟩:web) (0:Int)) (s76 (⟨(s74 n (⟨0,λ _=>default⟩:(Sl Int))).1.Net,((s74 n (⟨0,λ _=>default⟩:(Sl Int))).1.out)⟩:web) (0:Int))))))))
 (decide ((p74 n (⟨0,λ _=>default⟩:(Sl Int))=true)) &&
 (cond ((s74 n (⟨0, λ _ => default⟩ : (Sl Int))).2 != (0:Int))
 true
 false)))
end
theorem q26 (n:Net) (K:List PA->Prop) (hs:p26 n=true) (hk:K (e26 (s26 n))):vcFun Tryd.prog G26 zFU 26 [.agg (enc_24 n)] (Wk K) :=
  zaM (by kernel_rfl) (zc hs hk (λ hs hk=>(zaJ hs λ hc hs=>And.intro (And.intro (zE enc_40 4 n.Ties.get) hc) (zc hs hk (λ hs hk=>((wk hk (zeF (.one (.nil _ _)) (zeF (.one (.rfl _)) zkK))):Wk K [.one (.nils),.one (.int .i64 (0:Int))])) (λ hs hk=>(zaJ hs λ hc hs=>And.intro (And.intro (zE enc_40 4 ((s74 n (⟨0,λ _=>default⟩:(Sl Int))).1.Net.Ties.get)) (And.intro (rfl:((false,1,false,[none]):MQ)=(false,1,false,[none])) hc)) (zaJ hs λ hc hs=>And.intro (And.intro (zE enc_40 4 ((s74 n (⟨0,λ _=>default⟩:(Sl Int))).1.Net.Ties.get)) (And.intro (rfl:((false,1,false,[none]):MQ)=(false,1,false,[none])) hc)) (zaJ hs λ hc hs=>And.intro hc (zFV hs hk rfl)))))))) (λ hs hk=>(zaJ hs λ hc hs=>And.intro (And.intro (zE enc_40 4 n.Ties.get) hc) (zc hs hk (λ hs hk=>((wk hk (zeF (.one (.nil _ _)) (zeF (.one (.rfl _)) zkK))):Wk K [.one (.nils),.one (.int .i64 ((s74 n (⟨0,λ _=>default⟩:(Sl Int))).2))])) (λ hs hk=>(absurd hs Bool.false_ne_true:False))))))
def zFW : List PA → COut
  | [.agg [.int .i64 zae,.sl zac zat zab]]=>.det (IsE enc_40 4 zat zab/\p26 (⟨zae,(⟨zac,zam zab⟩:(Sl Tie))⟩:Net)=true) [.one (.sl (((s26 (⟨zae,(⟨zac,zam zab⟩:(Sl Tie))⟩:Net)).1).len) 2 (λ i=>za1 (((s26 (⟨zae,(⟨zac,zam zab⟩:(Sl Tie))⟩:Net)).1).get i))),.one (.int .i64 ((s26 (⟨zae,(⟨zac,zam zab⟩:(Sl Tie))⟩:Net)).2))]
  | _=>.no
theorem zJK:zar Tryd.prog 26:=⟨_,rfl,rfl,by kernel_rfl⟩
theorem zOr:Ok Tryd.prog 26 zFW:=zfF zMu zJK λ args K h=>by
  unfold zFW at h
  split at h
  · rename_i zae zac zat zab
    obtain⟨⟨⟨rfl,zan,rfl⟩,hs⟩,hk⟩:=h
    try rw[zak zan] at hs
    try rw[zak zan] at hk
    exact⟨_,zeE zfk _,(λ _ _=>[]),(λ _=>false),zFU,q26 (⟨zae,(⟨zac,zan⟩:(Sl Tie))⟩:Net) K hs hk⟩
  · exact h.elim
abbrev T29:Tabs:=Tabs.nil
theorem zMv:TabsOk Tryd.prog T29:=TabsOk.nil
abbrev G29:Ctrs:=csm T29 (λ _ _=>[]) (λ _=>false)
def zJL:Ann:=⟨13,[(0,zK [2,3,4] [2,3,4]),(1,zK [2,4] [2,4,7]),(2,zK [4] [4,7])],
 [],
 [],
 [],[]⟩
abbrev R29:=Net
abbrev e29 (r:R29):List PA:=[.agg [.int .i64 r.Nodes,.sl r.Ties.len 4 (λ i=>enc_40 (r.Ties.get i))]]
section
variable {K:List PA->Prop}{n:Net}{t:Tie}
def s29 (n:Net) (t:Tie):Net :=
  (⟨n.Nodes,(⟨(n.Ties.len+1),(zgi n.Ties.len n.Ties.get (λ _=>t))⟩:(Sl Tie))⟩:Net)
def p29 (n:Net) (t:Tie):Bool :=
  (decide ((n.Ties.len * 32≤140737488355328/\n.Ties.len≤9223372036854775807)) &&
 (decide (((n.Ties.len+1) * 32≤140737488355328/\n.Ties.len+1≤9223372036854775807)) &&
 true))
end
theorem q29 (n:Net) (t:Tie) (K:List PA->Prop) (hs:p29 n t=true) (hk:K (e29 (s29 n t))):vcFun Tryd.prog G29 zJL 29 [.agg (enc_24 n),.agg (enc_40 t)] K :=
  zaM (by kernel_rfl) (zaJ hs λ hc hs=>And.intro hc (zaJ hs λ hc hs=>And.intro hc (Eq.mpr (congrArg K (congrArg (λ (g_:Nat->List PV)=>([.agg [.int .i64 n.Nodes,.sl (n.Ties.len+1) 4 g_]]:List PA)) (zjb (enc:=enc_40) (f:=n.Ties.get) (h:=(λ _=>t)) rfl rfl))) hk)))
def zFX : List PA → COut
  | [.agg [.int .i64 zae,.sl zac zat zab],.agg [.int .i64 zet,.int .i64 zln,.int .i64 zgC,.int .i64 zeu]]=>.det (IsE enc_40 4 zat zab/\p29 (⟨zae,(⟨zac,zam zab⟩:(Sl Tie))⟩:Net) (⟨zet,zln,zgC,zeu⟩:Tie)=true) [.agg [.int .i64 ((s29 (⟨zae,(⟨zac,zam zab⟩:(Sl Tie))⟩:Net) (⟨zet,zln,zgC,zeu⟩:Tie)).Nodes),.sl ((s29 (⟨zae,(⟨zac,zam zab⟩:(Sl Tie))⟩:Net) (⟨zet,zln,zgC,zeu⟩:Tie)).Ties.len) 4 (λ i=>enc_40 ((s29 (⟨zae,(⟨zac,zam zab⟩:(Sl Tie))⟩:Net) (⟨zet,zln,zgC,zeu⟩:Tie)).Ties.get i))]]
  | _=>.no
theorem zJM:zar Tryd.prog 29:=⟨_,rfl,rfl,by kernel_rfl⟩
theorem zOs:Ok Tryd.prog 29 zFX:=za9 zMv zJM λ args K h=>by
  unfold zFX at h
  split at h
  · rename_i zae zac zat zab zet zln zgC zeu
    obtain⟨⟨⟨rfl,zan,rfl⟩,hs⟩,hk⟩:=h
    try rw[zak zan] at hs
    try rw[zak zan] at hk
    exact⟨(λ _ _=>[]),(λ _=>false),zJL,q29 (⟨zae,(⟨zac,zan⟩:(Sl Tie))⟩:Net) (⟨zet,zln,zgC,zeu⟩:Tie) K hs hk⟩
  · exact h.elim
abbrev T32:Tabs:=Tabs.nil
theorem zMw:TabsOk Tryd.prog T32:=TabsOk.nil
abbrev G32:Ctrs:=csm T32 (λ _ _=>[]) (λ _=>false)
def zFY:Ann:=⟨26,[(0,zK [0,1] []),(1,zK [0,1,10] []),(2,zK [4] []),(3,zK [0,1,5] []),(4,zK [0,1,5,14] []),(5,zK [0,1,5] []),(6,zK [0,1,5,25] []),(7,zK [4] []),(8,zK [4] [])],
 [(4,zK [0,1,5] [])],
 [(3,zK [0,1] [])],
 [],[]⟩
abbrev R32:=Bool
abbrev e32 (r:R32):List PA:=[.one (.bool r)]
@[irreducible] def z32:=ptF Tryd.prog G32 zFY Tryd.f32
def zC9 (a:(Sl Span)) (b:(Sl Span)) (iv1:Int):St:=⟨[(0,zS za1 2 a),(1,zS za1 2 b),(5,zI iv1)],[],[]⟩
abbrev zJN (K:List PA->Prop) (a:(Sl Span)) (b:(Sl Span)) (X:St->Prop) (P:Int->Bool) (S:Int->Bool):Prop:=∀ ⦃iv1:Int⦄,P iv1=true->K (e32 (S iv1))->X (zC9 a b iv1)
section
variable {K:List PA->Prop}{a:(Sl Span)}{b:(Sl Span)}{iv1:Int}{X1:St->Prop}{P1:Int->Bool}{S1:Int->Bool}
def zyi (a:(Sl Span)) (b:(Sl Span)) (S1:Int->Bool) (iv1:Int):Bool :=
  (cond (decide (iv1 < (a.len : Int)))
 (cond (!(match ((a.get iv1.toNat).Low == (b.get iv1.toNat).Low) with | true => (match ((a.get iv1.toNat).High == (b.get iv1.toNat).High) with | true => true | false => false) | false => false))
 false
 (S1 (w64 (iv1+(1:Int)))))
 true)
def zyj (a:(Sl Span)) (b:(Sl Span)) (P1:Int->Bool) (iv1:Int):Bool :=
  (cond (decide (iv1 < (a.len : Int)))
 (decide ((0≤iv1/\iv1 < (a.len:Int))) &&
 (decide ((0≤iv1/\iv1 < (b.len:Int))) &&
 (cond (!(match ((a.get iv1.toNat).Low == (b.get iv1.toNat).Low) with | true => (match ((a.get iv1.toNat).High == (b.get iv1.toNat).High) with | true => true | false => false) | false => false))
 true
 (P1 (w64 (iv1+(1:Int)))))))
 true)
def zyk (a:(Sl Span)) (b:(Sl Span)):Nat->Int->Bool:=lpO (λ _=>default) (zyi a b)
def zyl (a:(Sl Span)) (b:(Sl Span)):Nat->Int->Bool:=lpO (λ _=>false) (zyj a b)
def zym (a:(Sl Span)) (b:(Sl Span)) (iv1:Int):Bool:=zyk a b Fuel iv1
def zyn (a:(Sl Span)) (b:(Sl Span)) (iv1:Int):Bool:=zyl a b Fuel iv1
theorem zFZ (hs:zyn a b iv1=true) (hk:K (e32 (zym a b iv1))):z32 K [1,1,0,1,0] [] (zC9 a b iv1) :=
  zl (λ X=>z32 K [1,1,0,1,0,0] [X]) (by kernel_rfl) λ X1 hX =>
  (show ∀ k, zJN K a b X1 (zyl a b k) (zyk a b k) from zd1 _ _ (zyj a b) (zyi a b) (zJN K a b X1)
 (by intro _ hs;exact absurd hs Bool.false_ne_true)
 (by intro P1 S1 hX1 iv1 hs hk;exact hX _ (zaM (by kernel_rfl) (zc hs hk (λ hs hk=>(zaJ hs λ hc hs=>And.intro hc (zaJ hs λ hc hs=>And.intro hc (zc hs hk (λ hs hk=>hk) (λ hs hk=>(hX1 hs hk)))))) (λ hs hk=>hk))))) _ hs hk
def zyo (a:(Sl Span)) (b:(Sl Span)):Bool :=
  (zym a b (0:Int))
def zyp (a:(Sl Span)) (b:(Sl Span)):Bool :=
  (zyn a b (0:Int))
theorem zF0 (hs:zyp a b=true) (hk:K (e32 (zyo a b))):z32 K [1,1] [] ⟨[(0,zS za1 2 a),(1,zS za1 2 b)],[],[]⟩:=zaM (by kernel_rfl) (zFZ hs hk)
def s32 (a:(Sl Span)) (b:(Sl Span)):Bool :=
  (cond ((a.len : Int) != (b.len : Int))
 false
 (zyo a b))
def p32 (a:(Sl Span)) (b:(Sl Span)):Bool :=
  (cond ((a.len : Int) != (b.len : Int))
 true
 (zyp a b))
end
theorem q32 (a:(Sl Span)) (b:(Sl Span)) (K:List PA->Prop) (hs:p32 a b=true) (hk:K (e32 (s32 a b))):vcFun Tryd.prog G32 zFY 32 [.one (.sl a.len 2 (λ i=>za1 (a.get i))),.one (.sl b.len 2 (λ i=>za1 (b.get i)))] K :=
  zaM (by kernel_rfl) (zc hs hk (λ hs hk=>hk) (λ hs hk=>(zF0 hs hk)))
def zF1 : List PA → COut
  | [.one (.sl zfR zlV zfS),.one (.sl zdJ zie zdB)]=>.det (IsE za1 2 zlV zfS/\IsE za1 2 zie zdB/\p32 (⟨zfR,zfG zfS⟩:(Sl Span)) (⟨zdJ,zfG zdB⟩:(Sl Span))=true) [.one (.bool (s32 (⟨zfR,zfG zfS⟩:(Sl Span)) (⟨zdJ,zfG zdB⟩:(Sl Span))))]
  | _=>.no
theorem zJO:zar Tryd.prog 32:=⟨_,rfl,rfl,by kernel_rfl⟩
theorem ok32:Ok Tryd.prog 32 zF1:=za9 zMw zJO λ args K h=>by
  unfold zF1 at h
  split at h
  · rename_i zfR zlV zfS zdJ zie zdB
    obtain⟨⟨⟨rfl,zit,rfl⟩,⟨rfl,zfL,rfl⟩,hs⟩,hk⟩:=h
    try rw[zeW zit] at hs
    try rw[zeW zit] at hk
    try rw[zeW zfL] at hs
    try rw[zeW zfL] at hk
    exact⟨(λ _ _=>[]),(λ _=>false),zFY,q32 (⟨zfR,zit⟩:(Sl Span)) (⟨zdJ,zfL⟩:(Sl Span)) K hs hk⟩
  · exact h.elim
abbrev T49:Tabs:=(((Tabs.nil.addF 67 zv3).addF 88 zv8).addF 89 zBG)
theorem zMx:TabsOk Tryd.prog T49:=(((TabsOk.nil.addF zLN).addF zLS).addF zNy)
abbrev G49:Ctrs:=csm T49 (λ _ _=>[]) (λ _=>false)
def zF2:Ann:=⟨31,[(0,zK [1] [1]),(1,zK [1,10] [1]),(2,zK [2,3] []),(3,zK [4] [13]),(4,zK [4,16] [13]),(5,zK [2,3] []),(6,zK [4,5] [13]),(7,zK [5,18,19,20] []),(8,zK [5,18,19,20,21] [28]),(9,zK [5,7,18,19,20] [7,28]),(10,zK [5,18,19,20] [28]),(11,zK [5,18,19,20] [28]),(12,zK [2,3] [28])],
 [(8,⟨[5,18,19,20],[28],[(5,28,75,λ _=>zaN default)],[],[],[],[]⟩)],
 [(2,zK [1,10] [1]),(3,zK [1] [1]),(5,zK [4,16] [13]),(6,zK [4] [13]),(8,zK [5,18,19,20] [])],
 [],[]⟩
abbrev R49:=((Sl Use)×Int)
abbrev e49 (r:R49):List PA:=[.one (.sl r.1.len 2 (λ i=>zaN (r.1.get i))),.one (.int .i64 r.2)]
@[irreducible] def z49:=ptF Tryd.prog G49 zF2 Tryd.f49
def zDa (zcm:(Sl step)) (zcy:Int) (zdm:Int) (zcL:(Sl Use)) (zf1:Nat->List PV):St:=⟨[(5,zv 28),(18,zS zaB 5 zcm),(19,zI zcy),(20,zI zdm)],[(28,.vec 75 2 16 zcL.len zf1)],[]⟩
abbrev zJP (K:List PA->Prop) (zcm:(Sl step)) (zcy:Int) (X:St->Prop) (P:Int->(Sl Use)->Bool) (S:Int->(Sl Use)->((Sl Use)×Int)):Prop:=∀ ⦃zdm:Int⦄ ⦃zcL:(Sl Use)⦄ ⦃zf1:Nat->List PV⦄,P zdm zcL=true->K (e49 (S zdm zcL))->zf1=zg zaN zcL->X (zDa zcm zcy zdm zcL zf1)
section
variable {K:List PA->Prop}{n:Net}{zaX:Bool}{zqD:Bool}{zcm:(Sl step)}{zcy:Int}{zyq:Nat->List PV}{zdm:Int}{zcL:(Sl Use)}{zf1:Nat->List PV}{X5:St->Prop}{P5:Int->(Sl Use)->Bool}{S5:Int->(Sl Use)->((Sl Use)×Int)}
def zyr (zcm:(Sl step)) (zcy:Int) (S5:Int->(Sl Use)->((Sl Use)×Int)) (zdm:Int) (zcL:(Sl Use)):((Sl Use)×Int) :=
  (cond (decide (zdm < zcy))
 (S5 (w64 (zdm+(1:Int))) (⟨(zcL.len+1),(zgi zcL.len zcL.get (λ _=>(zcm.get zdm.toNat).Use))⟩:Sl Use))
 (zcL,(0:Int)))
def zys (zcm:(Sl step)) (zcy:Int) (P5:Int->(Sl Use)->Bool) (zdm:Int) (zcL:(Sl Use)):Bool :=
  (cond (decide (zdm < zcy))
 (decide ((0≤zdm/\zdm < (zcm.len:Int))) &&
 (decide (((zcL.len+1) * 16≤140737488355328/\zcL.len+1≤9223372036854775807)) &&
 (P5 (w64 (zdm+(1:Int))) (⟨(zcL.len+1),(zgi zcL.len zcL.get (λ _=>(zcm.get zdm.toNat).Use))⟩:Sl Use))))
 true)
def zyt (zcm:(Sl step)) (zcy:Int):Nat->Int->(Sl Use)->((Sl Use)×Int):=lpO (λ _ _=>default) (zyr zcm zcy)
def zyu (zcm:(Sl step)) (zcy:Int):Nat->Int->(Sl Use)->Bool:=lpO (λ _ _=>false) (zys zcm zcy)
def zyv (zcm:(Sl step)) (zcy:Int) (zdm:Int) (zcL:(Sl Use)):((Sl Use)×Int):=zyt zcm zcy Fuel zdm zcL
def zyw (zcm:(Sl step)) (zcy:Int) (zdm:Int) (zcL:(Sl Use)):Bool:=zyu zcm zcy Fuel zdm zcL
theorem zF3 (hs:zyw zcm zcy zdm zcL=true) (hk:K (e49 (zyv zcm zcy zdm zcL))) (zqE:zf1=zg zaN zcL):z49 (Wk K) [1,1,1,1,1,0,1,0] [] (zDa zcm zcy zdm zcL zf1) :=
  zl (λ X=>z49 (Wk K) [1,1,1,1,1,0,1,0,0] [X]) (by kernel_rfl) λ X5 hX =>
  (show ∀ k, zJP K zcm zcy X5 (zyu zcm zcy k) (zyt zcm zcy k) from zd1 _ _ (zys zcm zcy) (zyr zcm zcy) (zJP K zcm zcy X5)
 (by intro _ _ _ hs;exact absurd hs Bool.false_ne_true)
 (by intro P5 S5 hX5 zdm zcL zf1 hs hk zqE;subst zqE;exact hX _ (zaM (by kernel_rfl) (zc hs hk (λ hs hk=>(zaJ hs λ hc hs=>And.intro hc (zaJ hs λ hc hs=>And.intro hc (hX5 hs hk (zjb (enc:=zaN) (f:=zcL.get) (h:=(λ _=>(zcm.get zdm.toNat).Use)) rfl rfl))))) (λ hs hk=>((zfl hk):Wk K [.one (.sl zcL.len 2 (λ i=>zaN (zcL.get i))),.one (.int .i64 (0:Int))])))))) _ hs hk zqE
def zyx (zcm:(Sl step)) (zcy:Int):((Sl Use)×Int) :=
  (zyv zcm zcy (0:Int) (⟨0,(λ _=>default)⟩:Sl Use))
def zyy (zcm:(Sl step)) (zcy:Int):Bool :=
  (zyw zcm zcy (0:Int) (⟨0,(λ _=>default)⟩:Sl Use))
theorem zF4 (hs:zyy zcm zcy=true) (hk:K (e49 (zyx zcm zcy))) (zF5:zyq=zg zaB zcm):z49 (Wk K) [1,1,1,1,1,0,1] [] ⟨[(5,zP (.nils)),(18,zP (.sl zcm.len 5 zyq)),(19,zI zcy),(20,zI (0:Int))],[],[]⟩:=by subst zF5;exact zaM (by kernel_rfl) (zF3 hs hk rfl)
def zyz (n:Net):((Sl Use)×Int) :=
  (zyx (s89 (⟨n,(⟨0,(λ _=>none)⟩:Mp)⟩:web)) ((s89 (⟨n,(⟨0,(λ _=>none)⟩:Mp)⟩:web)).len:Int))
def zyA (n:Net):Bool :=
  (decide ((p89 (⟨n,(⟨0,(λ _=>none)⟩:Mp)⟩:web)=true)) &&
 (zyy (s89 (⟨n,(⟨0,(λ _=>none)⟩:Mp)⟩:web)) ((s89 (⟨n,(⟨0,(λ _=>none)⟩:Mp)⟩:web)).len:Int)))
theorem zF6 (hs:zyA n=true) (hk:K (e49 (zyz n))):z49 (Wk K) [1,1,1,1] [] ⟨[(4,zp 13 0)],[(13,.box 105 (zm (zaA (⟨n,(⟨0,(λ _=>none)⟩:Mp)⟩:web))))],[]⟩:=zaM (by kernel_rfl) (zaJ hs λ hc hs=>And.intro (And.intro ((λ _=>rfl):(∀ i,sc2 ((λ i=>zaB ((s89 (⟨n,(⟨0,(λ _=>none)⟩:Mp)⟩:web)).get i)) i)=true)) (And.intro (zE enc_40 4 n.Ties.get) (And.intro (rfl:((false,1,false,[none]):MQ)=(false,1,false,[none])) hc))) (zF4 hs hk rfl))
def zyB (n:Net) (zqD:Bool):((Sl Use)×Int) :=
  (cond zqD
 ((⟨0,λ _=>default⟩:(Sl Use)),(6:Int))
 (zyz n))
def zyC (n:Net) (zqD:Bool):Bool :=
  (cond zqD
 true
 (zyA n))
theorem zF7 (hs:zyC n zqD=true) (hk:K (e49 (zyB n zqD))):z49 (Wk K) [1,1,1,0,1] [] ⟨[(4,zp 13 0),(16,zB zqD)],[(13,.box 105 (zm (zaA (⟨n,(⟨0,(λ _=>none)⟩:Mp)⟩:web))))],[]⟩:=zaM (by kernel_rfl) (zc hs hk (λ hs hk=>((wk hk (zeF (.one (.nil _ _)) (zeF (.one (.rfl _)) zkK))):Wk K [.one (.nils),.one (.int .i64 (6:Int))])) (λ hs hk=>(zF6 hs hk)))
def zyD (n:Net):((Sl Use)×Int) :=
  (zyB n (!(s88 (⟨n,(⟨0,(λ _=>none)⟩:Mp)⟩:web))))
def zyE (n:Net):Bool :=
  (decide ((p88 (⟨n,(⟨0,(λ _=>none)⟩:Mp)⟩:web)=true)) &&
 (zyC n (!(s88 (⟨n,(⟨0,(λ _=>none)⟩:Mp)⟩:web)))))
theorem zF8 (hs:zyE n=true) (hk:K (e49 (zyD n))):z49 (Wk K) [1,1] [] ⟨[(1,zp 1 0)],[(1,.box 24 (zm (enc_24 n)))],[]⟩:=zaM (by kernel_rfl) (zaJ hs λ hc hs=>And.intro (And.intro (zE enc_40 4 n.Ties.get) (And.intro (rfl:((false,1,false,[none]):MQ)=(false,1,false,[none])) hc)) (zF7 hs hk))
def zyF (n:Net) (zaX:Bool):((Sl Use)×Int) :=
  (cond zaX
 ((⟨0,λ _=>default⟩:(Sl Use)),(2:Int))
 (zyD n))
def zyG (n:Net) (zaX:Bool):Bool :=
  (cond zaX
 true
 (zyE n))
theorem zF9 (hs:zyG n zaX=true) (hk:K (e49 (zyF n zaX))):z49 (Wk K) [1,0,1] [] ⟨[(1,zp 1 0),(10,zB zaX)],[(1,.box 24 (zm (enc_24 n)))],[]⟩:=zaM (by kernel_rfl) (zc hs hk (λ hs hk=>((wk hk (zeF (.one (.nil _ _)) (zeF (.one (.rfl _)) zkK))):Wk K [.one (.nils),.one (.int .i64 (2:Int))])) (λ hs hk=>(zF8 hs hk)))
def s49 (n:Net):((Sl Use)×Int) :=
  (zyF n (!(s67 n)))
def p49 (n:Net):Bool :=
  (decide ((p67 n=true)) &&
 (zyG n (!(s67 n))))
end
theorem q49 (n:Net) (K:List PA->Prop) (hs:p49 n=true) (hk:K (e49 (s49 n))):vcFun Tryd.prog G49 zF2 49 [.agg (enc_24 n)] (Wk K) :=
  zaM (by kernel_rfl) (zaJ hs λ hc hs=>And.intro (And.intro (zE enc_40 4 n.Ties.get) hc) (zF9 hs hk))
def zGa : List PA → COut
  | [.agg [.int .i64 zae,.sl zac zat zab]]=>.det (IsE enc_40 4 zat zab/\p49 (⟨zae,(⟨zac,zam zab⟩:(Sl Tie))⟩:Net)=true) [.one (.sl (((s49 (⟨zae,(⟨zac,zam zab⟩:(Sl Tie))⟩:Net)).1).len) 2 (λ i=>zaN (((s49 (⟨zae,(⟨zac,zam zab⟩:(Sl Tie))⟩:Net)).1).get i))),.one (.int .i64 ((s49 (⟨zae,(⟨zac,zam zab⟩:(Sl Tie))⟩:Net)).2))]
  | _=>.no
theorem zJQ:zar Tryd.prog 49:=⟨_,rfl,rfl,by kernel_rfl⟩
theorem zOt:Ok Tryd.prog 49 zGa:=zfF zMx zJQ λ args K h=>by
  unfold zGa at h
  split at h
  · rename_i zae zac zat zab
    obtain⟨⟨⟨rfl,zan,rfl⟩,hs⟩,hk⟩:=h
    try rw[zak zan] at hs
    try rw[zak zan] at hk
    exact⟨_,zeE zfk _,(λ _ _=>[]),(λ _=>false),zF2,q49 (⟨zae,(⟨zac,zan⟩:(Sl Tie))⟩:Net) K hs hk⟩
  · exact h.elim
abbrev T53:Tabs:=Tabs.nil
theorem zMy:TabsOk Tryd.prog T53:=TabsOk.nil
abbrev G53:Ctrs:=csm T53 (λ _ _=>[]) (λ _=>false)
def zGb:Ann:=⟨26,[(0,zK [0,1] []),(1,zK [0,1,10] []),(2,zK [4] []),(3,zK [0,1,5] []),(4,zK [0,1,5,14] []),(5,zK [0,1,5] []),(6,zK [0,1,5,25] []),(7,zK [4] []),(8,zK [4] [])],
 [(4,zK [0,1,5] [])],
 [(3,zK [0,1] [])],
 [],[]⟩
abbrev R53:=Bool
abbrev e53 (r:R53):List PA:=[.one (.bool r)]
@[irreducible] def z53:=ptF Tryd.prog G53 zGb Tryd.f53
def zDb (a:(Sl Use)) (b:(Sl Use)) (iv1:Int):St:=⟨[(0,zS zaN 2 a),(1,zS zaN 2 b),(5,zI iv1)],[],[]⟩
abbrev zJR (K:List PA->Prop) (a:(Sl Use)) (b:(Sl Use)) (X:St->Prop) (P:Int->Bool) (S:Int->Bool):Prop:=∀ ⦃iv1:Int⦄,P iv1=true->K (e53 (S iv1))->X (zDb a b iv1)
section
variable {K:List PA->Prop}{a:(Sl Use)}{b:(Sl Use)}{iv1:Int}{X1:St->Prop}{P1:Int->Bool}{S1:Int->Bool}
def zyH (a:(Sl Use)) (b:(Sl Use)) (S1:Int->Bool) (iv1:Int):Bool :=
  (cond (decide (iv1 < (a.len : Int)))
 (cond (!(match ((a.get iv1.toNat).Tie == (b.get iv1.toNat).Tie) with | true => (match ((a.get iv1.toNat).Back == (b.get iv1.toNat).Back) with | true => true | false => false) | false => false))
 false
 (S1 (w64 (iv1+(1:Int)))))
 true)
def zyI (a:(Sl Use)) (b:(Sl Use)) (P1:Int->Bool) (iv1:Int):Bool :=
  (cond (decide (iv1 < (a.len : Int)))
 (decide ((0≤iv1/\iv1 < (a.len:Int))) &&
 (decide ((0≤iv1/\iv1 < (b.len:Int))) &&
 (cond (!(match ((a.get iv1.toNat).Tie == (b.get iv1.toNat).Tie) with | true => (match ((a.get iv1.toNat).Back == (b.get iv1.toNat).Back) with | true => true | false => false) | false => false))
 true
 (P1 (w64 (iv1+(1:Int)))))))
 true)
def zyJ (a:(Sl Use)) (b:(Sl Use)):Nat->Int->Bool:=lpO (λ _=>default) (zyH a b)
def zyK (a:(Sl Use)) (b:(Sl Use)):Nat->Int->Bool:=lpO (λ _=>false) (zyI a b)
def zyL (a:(Sl Use)) (b:(Sl Use)) (iv1:Int):Bool:=zyJ a b Fuel iv1
def zyM (a:(Sl Use)) (b:(Sl Use)) (iv1:Int):Bool:=zyK a b Fuel iv1
theorem zGc (hs:zyM a b iv1=true) (hk:K (e53 (zyL a b iv1))):z53 K [1,1,0,1,0] [] (zDb a b iv1) :=
  zl (λ X=>z53 K [1,1,0,1,0,0] [X]) (by kernel_rfl) λ X1 hX =>
  (show ∀ k, zJR K a b X1 (zyK a b k) (zyJ a b k) from zd1 _ _ (zyI a b) (zyH a b) (zJR K a b X1)
 (by intro _ hs;exact absurd hs Bool.false_ne_true)
 (by intro P1 S1 hX1 iv1 hs hk;exact hX _ (zaM (by kernel_rfl) (zc hs hk (λ hs hk=>(zaJ hs λ hc hs=>And.intro hc (zaJ hs λ hc hs=>And.intro hc (zc hs hk (λ hs hk=>hk) (λ hs hk=>(hX1 hs hk)))))) (λ hs hk=>hk))))) _ hs hk
def zyN (a:(Sl Use)) (b:(Sl Use)):Bool :=
  (zyL a b (0:Int))
def zyO (a:(Sl Use)) (b:(Sl Use)):Bool :=
  (zyM a b (0:Int))
theorem zGd (hs:zyO a b=true) (hk:K (e53 (zyN a b))):z53 K [1,1] [] ⟨[(0,zS zaN 2 a),(1,zS zaN 2 b)],[],[]⟩:=zaM (by kernel_rfl) (zGc hs hk)
def s53 (a:(Sl Use)) (b:(Sl Use)):Bool :=
  (cond ((a.len : Int) != (b.len : Int))
 false
 (zyN a b))
def p53 (a:(Sl Use)) (b:(Sl Use)):Bool :=
  (cond ((a.len : Int) != (b.len : Int))
 true
 (zyO a b))
end
theorem q53 (a:(Sl Use)) (b:(Sl Use)) (K:List PA->Prop) (hs:p53 a b=true) (hk:K (e53 (s53 a b))):vcFun Tryd.prog G53 zGb 53 [.one (.sl a.len 2 (λ i=>zaN (a.get i))),.one (.sl b.len 2 (λ i=>zaN (b.get i)))] K :=
  zaM (by kernel_rfl) (zc hs hk (λ hs hk=>hk) (λ hs hk=>(zGd hs hk)))
def zGe : List PA → COut
  | [.one (.sl zfR zlV zfS),.one (.sl zdJ zie zdB)]=>.det (IsE zaN 2 zlV zfS/\IsE zaN 2 zie zdB/\p53 (⟨zfR,zcY zfS⟩:(Sl Use)) (⟨zdJ,zcY zdB⟩:(Sl Use))=true) [.one (.bool (s53 (⟨zfR,zcY zfS⟩:(Sl Use)) (⟨zdJ,zcY zdB⟩:(Sl Use))))]
  | _=>.no
theorem zJS:zar Tryd.prog 53:=⟨_,rfl,rfl,by kernel_rfl⟩
theorem zOu:Ok Tryd.prog 53 zGe:=za9 zMy zJS λ args K h=>by
  unfold zGe at h
  split at h
  · rename_i zfR zlV zfS zdJ zie zdB
    obtain⟨⟨⟨rfl,zit,rfl⟩,⟨rfl,zfL,rfl⟩,hs⟩,hk⟩:=h
    try rw[zcZ zit] at hs
    try rw[zcZ zit] at hk
    try rw[zcZ zfL] at hs
    try rw[zcZ zfL] at hk
    exact⟨(λ _ _=>[]),(λ _=>false),zGb,q53 (⟨zfR,zit⟩:(Sl Use)) (⟨zdJ,zfL⟩:(Sl Use)) K hs hk⟩
  · exact h.elim
abbrev T92:Tabs:=((Tabs.nil.addF 93 zoy).addI 110 zoA)
theorem zMz:TabsOk Tryd.prog T92:=((TabsOk.nil.addF zHQ).addI zt6)
abbrev G92:Ctrs:=csm T92 (λ _ _=>[]) (λ _=>false)
def zjv:Ann:=⟨49,[(0,zK [0,1,2,3,4] [0,1,2,3,4,4099]),(1,zK [0,1,2,3,4,7] [0,1,2,3,4,4099]),(2,zK [0,1,2,3,4,5,7] [0,1,2,3,4,5,4099]),(3,zK [0,1,2,3,4,5,7,41] [0,1,2,3,4,5,4099]),(4,zK [0,1,2,3,4,5] [0,1,2,3,4,5,4099]),(5,zK [0,1,2,3,4] [0,1,2,3,4,4099]),(6,zK [0,1,2,3,4] [0,1,2,3,4,4099]),(7,zK [0,1,2,3,4] [0,1,2,3,4,4099])],
 [(2,zK [0,1,2,3,4,7] [0,1,2,3,4,4099])],
 [],
 [],[]⟩
def zf2 (w:web) (at_:Int) (d:Tab) (out:(Sl Use)):St:=⟨[(0,.one (.c (.ptr 0 0))),(1,.one (.c (.ptr 1 0))),(2,.one (.c (.ptr 2 0))),(3,.one (.c (.ptr 3 0))),(4,.one (.c (.ptr 4 0))),(7,.one (.c (.p (.fn 110 [] [.fp [.fp (zaA w) 0] 0]))))],[(0,.box 102 [.p (.fp (zaA w) 0)]),(1,.box 3 [.p (.int .i64 at_)]),(2,.box 116 (zm (zaf d))),(3,.box 67 [.vec 4099]),(4,.box 4 [.p (.bool false)]),(4099,.vec 75 2 16 out.len (λ i=>zaN (out.get i)))],[]⟩
def zk0 (K:List PA×List XA->Prop) (w:web) (at_:Int) (d:Tab) (out:(Sl Use)):Prop:=vc Tryd.prog G92 zjv (cdF Tryd.f92 [1,0,1,0]) (zfg 0 (sqK Tryd.prog G92 zjv (cdF Tryd.f92 [1,1]) (zlk Tryd.prog Tryd.f92 [.box 102 [.p (.fp (zaA w) 0)],.box 3 [.p (.int .i64 at_)],.box 116 (xcm (zaf d)),.box 67 [.vec 75 2 16 out.len (λ i=>zaN (out.get i))]] (λ a b=>K (a,b))))) (zf2 w at_ d out)
theorem zGf (w : web) (at_ : Int) (d : Tab) (out : (Sl Use)) (K : List PA × List XA → Prop) :
  zkG Tryd.prog G92 zjv 92 [.box 102 [.p (.fp (zaA w) 0)],.box 3 [.p (.int .i64 at_)],.box 116 (xcm (zaf d)),.box 67 [.vec 75 2 16 out.len (λ i=>zaN (out.get i))]] (λ a b=>K (a,b)) =
  ((IsE enc_40 4 4 (λ i=>enc_40 (w.Net.Ties.get i))/\((false,1,false,[none]):MQ)=(false,1,false,[none])) /\
 (zk0 K w at_ d out)):=by kernel_rfl
def zoO (K:List PA×List XA->Prop) (w:web) (at_:Int) (d:Tab) (out:(Sl Use)):Prop :=
  (K ([.one (.bool false)],[.box 102 [.p (.fp (zaA w) 0)],.box 3 [.p (.int .i64 at_)],.box 116 (xcm (zaf d)),.box 67 [.vec 75 2 16 out.len (λ i=>zaN (out.get i))]]))
def zoP (K:List PA×List XA->Prop) (X0:List (List PA)->St->Prop) (y0:step) (rest0:List (List PA)) (w:web) (at_:Int) (d:Tab) (out:(Sl Use)):Prop :=
  (zdj (y0.from_ == at_)
 (((0≤y0.to/\y0.to < (40:Int))) /\
 (zdj (!(match ((tg 80 d (0 + y0.to.toNat * 2 + 0)) == (1000000000000:Int)) with | true => (match ((tg 80 d (0 + y0.to.toNat * 2 + 0 + 1)) == (0:Int)) with | true => true | false => false) | false => false))
 (((0≤y0.to/\y0.to < (40:Int))) /\
 (((0≤y0.to/\y0.to < (40:Int))) /\
 (((0≤at_/\at_ < (40:Int))) /\
 (zdj (match ((w64 ((tg 80 d (0 + y0.to.toNat * 2 + 0)) + y0.length)) == (tg 80 d (0 + at_.toNat * 2 + 0))) with | true => (match ((w64 ((tg 80 d (0 + y0.to.toNat * 2 + 1)) + (1:Int))) == (tg 80 d (0 + at_.toNat * 2 + 0 + 1))) with | true => true | false => false) | false => false)
 ((((out.len+1) * 16≤140737488355328/\out.len+1≤9223372036854775807)) /\
 (K ([.one (.bool true)],[.box 102 [.p (.fp (zaA w) 0)],.box 3 [.p (.int .i64 y0.to)],.box 116 (xcm (zaf d)),.box 67 [.vec 75 2 16 (out.len+1) (appG out.len (λ i=>zaN (out.get i)) (λ _=>(zaN y0.Use)))]])))
 (X0 rest0 (zf2 w at_ d out))))))
 (X0 rest0 (zf2 w at_ d out))))
 (X0 rest0 (zf2 w at_ d out)))
theorem zqF (K:List PA×List XA->Prop) (w:web) (at_:Int) (d:Tab) (out:(Sl Use)):(zfg 0 (sqK Tryd.prog G92 zjv (cdF Tryd.f92 [1,1]) (zlk Tryd.prog Tryd.f92 [.box 102 [.p (.fp (zaA w) 0)],.box 3 [.p (.int .i64 at_)],.box 116 (xcm (zaf d)),.box 67 [.vec 75 2 16 out.len (λ i=>zaN (out.get i))]] (λ a b=>K (a,b))))) .normal (zf2 w at_ d out)=zoO K w at_ d out:=by kernel_rfl
theorem zqG (K : List PA × List XA → Prop) (X0 : List (List PA) → St → Prop) (y0 : step) (rest0 : List (List PA)) (w : web) (at_ : Int) (d : Tab) (out : (Sl Use)) :
  zLE Tryd.prog G92 zjv 2 [8] (cd (cdF Tryd.f92 [1,0,1,0]) [0]) (cd (cdF Tryd.f92 [1,0,1,0]) [1]) X0 (zfg 0 (sqK Tryd.prog G92 zjv (cdF Tryd.f92 [1,1]) (zlk Tryd.prog Tryd.f92 [.box 102 [.p (.fp (zaA w) 0)],.box 3 [.p (.int .i64 at_)],.box 116 (xcm (zaf d)),.box 67 [.vec 75 2 16 out.len (λ i=>zaN (out.get i))]] (λ a b=>K (a,b))))) [.agg (zaB y0)] rest0 (zf2 w at_ d out)=zoP K X0 y0 rest0 w at_ d out:=by kernel_rfl
theorem zyP (K : List PA × List XA → Prop) (w : web) (at_ : Int) (d : Tab) (out : (Sl Use))
  (hsafe:IsE enc_40 4 4 (λ i=>enc_40 (w.Net.Ties.get i))/\((false,1,false,[none]):MQ)=(false,1,false,[none])/\(zui w=true)) (h:∀ X0:List (List PA)->St->Prop,(∀ (_:Unit),zoO K w at_ d out->X0 [] (zf2 w at_ d out))->(∀ (y:step) (rest:List (List PA)) (_:Unit),zoP K X0 y rest w at_ d out->X0 ([.agg (zaB y)] :: rest) (zf2 w at_ d out))->X0 ((zkO w).map λ y=>[.agg (zaB y)]) (zf2 w at_ d out)) :
  zk0 K w at_ d out:=by
  have e:zk0 K w at_ d out=((IsE enc_40 4 4 (λ i=>enc_40 (w.Net.Ties.get i))/\((false,1,false,[none]):MQ)=(false,1,false,[none])/\(zui w=true))/\∀ X:List (List PA)->St->Prop,(∀ s,(zfg 0 (sqK Tryd.prog G92 zjv (cdF Tryd.f92 [1,1]) (zlk Tryd.prog Tryd.f92 [.box 102 [.p (.fp (zaA w) 0)],.box 3 [.p (.int .i64 at_)],.box 116 (xcm (zaf d)),.box 67 [.vec 75 2 16 out.len (λ i=>zaN (out.get i))]] (λ a b=>K (a,b))))) .normal s->X [] s)->(∀ y rest s,zLE Tryd.prog G92 zjv 2 [8] (cd (cdF Tryd.f92 [1,0,1,0]) [0]) (cd (cdF Tryd.f92 [1,0,1,0]) [1]) X (zfg 0 (sqK Tryd.prog G92 zjv (cdF Tryd.f92 [1,1]) (zlk Tryd.prog Tryd.f92 [.box 102 [.p (.fp (zaA w) 0)],.box 3 [.p (.int .i64 at_)],.box 116 (xcm (zaf d)),.box 67 [.vec 75 2 16 out.len (λ i=>zaN (out.get i))]] (λ a b=>K (a,b))))) y rest s->X (y :: rest) s)->X ((zkO w).map λ y=>[.agg (zaB y)]) (zf2 w at_ d out)):=by kernel_rfl
  refine zaM e ⟨hsafe,?_⟩
  intro X h0 h1
  refine h X (λ _ hs=>h0 _ ?_) (λ y rest _ hs=>h1 _ rest _ ?_)
  · rw[zqF K w at_ d out];exact hs
  · have e2 := zqG K X y rest w at_ d out
    rw[e2];exact hs
abbrev e92 (w:web) (d:Tab) (r:(Bool×Int×(Sl Use))):List PA×List XA:=([.one (.bool r.1)],[.box 102 [.p (.fp (zaA w) 0)],.box 3 [.p (.int .i64 r.2.1)],.box 116 (xcm (zaf d)),.box 67 [.vec 75 2 16 r.2.2.len (λ i=>zaN (r.2.2.get i))]])
attribute [irreducible] zk0
def zqH (w:web) (at_:Int) (d:Tab) (out:(Sl Use)):(Bool×Int×(Sl Use)) :=
  (false,at_,(⟨out.len,out.get⟩:(Sl Use)))
def zqI (w:web) (at_:Int) (d:Tab) (out:(Sl Use)):Bool :=
  true
def zqJ (w:web) (at_:Int) (d:Tab) (out:(Sl Use)) (y0:step) (S0:(Bool×Int×(Sl Use))):(Bool×Int×(Sl Use)) :=
  (cond (y0.from_ == at_)
 (cond (!(match ((tg 80 d (0 + y0.to.toNat * 2 + 0)) == (1000000000000:Int)) with | true => (match ((tg 80 d (0 + y0.to.toNat * 2 + 0 + 1)) == (0:Int)) with | true => true | false => false) | false => false))
 (cond (match ((w64 ((tg 80 d (0 + y0.to.toNat * 2 + 0)) + y0.length)) == (tg 80 d (0 + at_.toNat * 2 + 0))) with | true => (match ((w64 ((tg 80 d (0 + y0.to.toNat * 2 + 1)) + (1:Int))) == (tg 80 d (0 + at_.toNat * 2 + 0 + 1))) with | true => true | false => false) | false => false)
 (true,y0.to,(⟨(out.len+1),(zgi out.len out.get (λ _=>y0.Use))⟩:(Sl Use)))
 (S0))
 (S0))
 (S0))
def zqK (w:web) (at_:Int) (d:Tab) (out:(Sl Use)) (y0:step) (P0:Bool):Bool :=
  (cond (y0.from_ == at_)
 (decide ((0≤y0.to/\y0.to < (40:Int))) &&
 (cond (!(match ((tg 80 d (0 + y0.to.toNat * 2 + 0)) == (1000000000000:Int)) with | true => (match ((tg 80 d (0 + y0.to.toNat * 2 + 0 + 1)) == (0:Int)) with | true => true | false => false) | false => false))
 (decide ((0≤y0.to/\y0.to < (40:Int))) &&
 (decide ((0≤y0.to/\y0.to < (40:Int))) &&
 (decide ((0≤at_/\at_ < (40:Int))) &&
 (cond (match ((w64 ((tg 80 d (0 + y0.to.toNat * 2 + 0)) + y0.length)) == (tg 80 d (0 + at_.toNat * 2 + 0))) with | true => (match ((w64 ((tg 80 d (0 + y0.to.toNat * 2 + 1)) + (1:Int))) == (tg 80 d (0 + at_.toNat * 2 + 0 + 1))) with | true => true | false => false) | false => false)
 (decide (((out.len+1) * 16≤140737488355328/\out.len+1≤9223372036854775807)) &&
 true)
 (P0)))))
 (P0)))
 (P0))
def zk1 (w : web) (at_ : Int) (d : Tab) (out : (Sl Use)) : List step → (Bool × Int × (Sl Use))
  | []=>zqH w at_ d out
  | y :: r=>zqJ w at_ d out y (zk1 w at_ d out r)
def zk2 (w : web) (at_ : Int) (d : Tab) (out : (Sl Use)) : List step → Bool
  | []=>zqI w at_ d out
  | y :: r=>zqK w at_ d out y (zk2 w at_ d out r)
def zyQ (w:web) (at_:Int) (d:Tab) (out:(Sl Use)):(Bool×Int×(Sl Use)):=zk1 w at_ d out (zkO w)
def zqL (w:web) (at_:Int) (d:Tab) (out:(Sl Use)):Bool:=decide ((zui w=true)) && zk2 w at_ d out (zkO w)
theorem zGg (K:List PA×List XA->Prop) (w:web) (at_:Int) (d:Tab) (out:(Sl Use)) (hs:zqL w at_ d out=true) (hk:K (e92 w d (zyQ w at_ d out))):zk0 K w at_ d out:=by
  unfold zqL at hs
  rw[Bool.and_eq_true] at hs
  obtain⟨hsf,hs⟩:=hs
  have hc:=of_decide_eq_true hsf
  refine zyP K w at_ d out ⟨isE,rfl,hc⟩ ?_
  intro X0 hexit hstep
  have key:∀ (l:List step),zk2 w at_ d out l=true->K (e92 w d (zk1 w at_ d out l))->X0 (l.map λ y=>[.agg (zaB y)]) (zf2 w at_ d out):=by
    intro l
    induction l with
    | nil =>
      intro hs hk
      refine hexit () ?_
      have hs:zqI w at_ d out=true:=hs
      have hk:K (e92 w d (zqH w at_ d out)):=hk
      unfold zqI at hs
      unfold zqH at hk
      exact hk
    | cons y0 l ih =>
      intro hs hk
      refine hstep y0 _ () ?_
      have hs:zqK w at_ d out y0 (zk2 w at_ d out l)=true:=hs
      have hk:K (e92 w d (zqJ w at_ d out y0 (zk1 w at_ d out l))):=hk
      unfold zqK at hs
      unfold zqJ at hk
      generalize zk1 w at_ d out l=S0 at hk ih
      generalize zk2 w at_ d out l=P0 at hs ih
      have hX0:=ih
      exact (zeU (K := λ r => K (e92 w d r))
 (λ hs hk => (zaJ hs λ hc hs => ⟨hc, (zeU (K := λ r => K (e92 w d r))
 (λ hs hk => (zaJ hs λ hc hs => ⟨hc, (zaJ hs λ hc hs => ⟨hc, (zaJ hs λ hc hs => ⟨hc, (zeU (K := λ r => K (e92 w d r))
 (λ hs hk=>(zaJ hs λ hc hs=>⟨hc,(Eq.mpr (congrArg K (congrArg (λ (g_:Nat->List PV)=>(([.one (.bool true)],[.box 102 [.p (.fp (zaA w) 0)],.box 3 [.p (.int .i64 y0.to)],.box 116 (xcm (zaf d)),.box 67 [.vec 75 2 16 (out.len+1) g_]]):List PA×List XA)) (zjb (enc:=zaN) (f:=out.get) (h:=(λ _=>y0.Use)) rfl rfl))) hk)⟩))
 (λ hs hk=>(hX0 hs hk)) hs hk)⟩)⟩)⟩))
 (λ hs hk=>(hX0 hs hk)) hs hk)⟩))
 (fun hs hk=>(hX0 hs hk)) hs hk)
  exact key _ hs hk
def s92 (w:web) (at_:Int) (d:Tab) (out:(Sl Use)):(Bool×Int×(Sl Use)) :=
  (zyQ w at_ d out)
def p92 (w:web) (at_:Int) (d:Tab) (out:(Sl Use)):Bool :=
  (zqL w at_ d out)
theorem q92 (w:web) (at_:Int) (d:Tab) (out:(Sl Use)) (K:List PA×List XA->Prop) (hs:p92 w at_ d out=true) (hk:K (e92 w d (s92 w at_ d out))):zkG Tryd.prog G92 zjv 92 [.box 102 [.p (.fp (zaA w) 0)],.box 3 [.p (.int .i64 at_)],.box 116 (xcm (zaf d)),.box 67 [.vec 75 2 16 out.len (λ i=>zaN (out.get i))]] (λ a b=>K (a,b)):=by
  refine zaM (zGf w at_ d out K) ?_
  unfold p92 at hs
  unfold s92 at hk
  exact⟨⟨isE,rfl⟩,(zGg K w at_ d out hs hk)⟩
def zGh : MK
  | [.box 102 [.p (.fp [.int .i64 b0_Net_Nodes,.sl b0_Net_Ties_n b0_Net_Ties_s b0_Net_Ties_g,.fm b0_out_q b0_out_n b0_out_F] 0)],.box 3 [.p (.int .i64 b1)],.box 116 b2_cs,.box 67 [.vec 75 2 16 b3_n b3_g]]=>some (IsE enc_40 4 b0_Net_Ties_s b0_Net_Ties_g/\b0_out_q=(false,1,false,[none])/\b2_cs=xcm (zaf (zas (unX b2_cs)))/\IsE zaN 2 2 b3_g/\p92 (⟨(⟨b0_Net_Nodes,(⟨b0_Net_Ties_n,zam b0_Net_Ties_g⟩:(Sl Tie))⟩:Net),(⟨b0_out_n,b0_out_F⟩:Mp)⟩:web) b1 (zas (unX b2_cs)) (⟨b3_n,zcY b3_g⟩:(Sl Use))=true,[.one (.bool ((s92 (⟨(⟨b0_Net_Nodes,(⟨b0_Net_Ties_n,zam b0_Net_Ties_g⟩:(Sl Tie))⟩:Net),(⟨b0_out_n,b0_out_F⟩:Mp)⟩:web) b1 (zas (unX b2_cs)) (⟨b3_n,zcY b3_g⟩:(Sl Use))).1))],[.box 102 [.p (.fp [.int .i64 b0_Net_Nodes,.sl b0_Net_Ties_n b0_Net_Ties_s b0_Net_Ties_g,.fm b0_out_q b0_out_n b0_out_F] 0)],.box 3 [.p (.int .i64 ((s92 (⟨(⟨b0_Net_Nodes,(⟨b0_Net_Ties_n,zam b0_Net_Ties_g⟩:(Sl Tie))⟩:Net),(⟨b0_out_n,b0_out_F⟩:Mp)⟩:web) b1 (zas (unX b2_cs)) (⟨b3_n,zcY b3_g⟩:(Sl Use))).2.1))],.box 116 b2_cs,.box 67 [.vec 75 2 16 (((s92 (⟨(⟨b0_Net_Nodes,(⟨b0_Net_Ties_n,zam b0_Net_Ties_g⟩:(Sl Tie))⟩:Net),(⟨b0_out_n,b0_out_F⟩:Mp)⟩:web) b1 (zas (unX b2_cs)) (⟨b3_n,zcY b3_g⟩:(Sl Use))).2.2).len) (λ i=>zaN (((s92 (⟨(⟨b0_Net_Nodes,(⟨b0_Net_Ties_n,zam b0_Net_Ties_g⟩:(Sl Tie))⟩:Net),(⟨b0_out_n,b0_out_F⟩:Mp)⟩:web) b1 (zas (unX b2_cs)) (⟨b3_n,zcY b3_g⟩:(Sl Use))).2.2).get i))]])
  | _=>none
theorem zJT:zar Tryd.prog 92:=⟨_,rfl,rfl,by kernel_rfl⟩
theorem zOv:zjt Tryd.prog 92 zGh:=zEp zMz zJT λ xs safe rs ys h hs K hk=>by
  unfold zGh at h
  split at h
  · rename_i b0_Net_Nodes b0_Net_Ties_n b0_Net_Ties_s b0_Net_Ties_g b0_out_q b0_out_n b0_out_F b1 b2_cs b3_n b3_g
    simp only[Option.some.injEq,Prod.mk.injEq] at h
    obtain⟨rfl,rfl,rfl⟩:=h
    obtain⟨⟨rfl,b0_Net_Ties_f,rfl⟩,rfl,hT_b2,⟨_,b3_f,rfl⟩,hs⟩:=hs
    try rw[zak b0_Net_Ties_f] at hs
    try rw[zak b0_Net_Ties_f] at hk
    try rw[zcZ b3_f] at hs
    try rw[zcZ b3_f] at hk
    refine⟨λ _ _=>[],λ _=>false,zjv,?_⟩
    show zkG Tryd.prog G92 zjv 92 _ K
    have hq:=q92 (⟨(⟨b0_Net_Nodes,(⟨b0_Net_Ties_n,b0_Net_Ties_f⟩:(Sl Tie))⟩:Net),(⟨b0_out_n,b0_out_F⟩:Mp)⟩:web) b1 (zas (unX b2_cs)) (⟨b3_n,b3_f⟩:(Sl Use)) (λ x=>K x.1 x.2) hs
    dsimp only[e92] at hq
    rw[← hT_b2] at hq
    exact hq hk
  · cases h
abbrev T54:Tabs:=(((Tabs.nil.addF 74 zp5).addF 75 zt8).addM 92 zGh)
theorem zMA:TabsOk Tryd.prog T54:=(((TabsOk.nil.addF zIV).addF zLl).addM zOv)
abbrev G54:Ctrs:=csm T54 (λ _ _=>[]) (λ _=>false)
def zGi:Ann:=⟨45,[(0,zK [1,2,3] [3]),(1,zK [1,2,8,9] [8]),(2,zK [1,2,8,9,23] [8]),(3,zK [6,7] []),(4,zK [1,8,10] [8,10]),(5,zK [1,8,10,32] [8,10]),(6,zK [6,7] []),(7,zK [1,8,10,11] [8,10,11]),(8,zK [8,10,11,12] [8,10,11,12]),(9,zK [10,11,12,13] [8,10,11,12]),(10,zK [10,11,12,13,43] [8,10,11,12,5000]),(11,zK [6,7] [5000])],
 [(10,⟨[10,11,12,13],[8,10,11,12,5000],[],[(11,0,5000,75,λ _=>zaN default)],[],[],[]⟩)],
 [],
 [],[]⟩
abbrev R54:=((Sl Use)×Int)
abbrev e54 (r:R54):List PA:=[.one (.sl r.1.len 2 (λ i=>zaN (r.1.get i))),.one (.int .i64 r.2)]
@[irreducible] def z54:=ptF Tryd.prog G54 zGi Tryd.f54
def zDc (n:Net) (from_a1:Int) (to:Int) (zhb:Int) (zaS:(Sl Use)) (dt0:Tab) (zdg:Nat->List PV):St:=⟨[(10,zp 10 0),(11,zp 11 0),(12,zp 12 0),(13,.one (.c (.clo 92 [.b 8,.b 12,.b 10,.b 11])))],[(8,.box 102 [.p (.fp (zaA (⟨(s74 n (⟨2,zav (zbo [(zad from_a1),(zad to)])⟩:(Sl Int))).1.Net,((s74 n (⟨2,zav (zbo [(zad from_a1),(zad to)])⟩:(Sl Int))).1.out)⟩:web)) 0)]),(10,.box 116 (zm (zaf dt0))),(11,.box 67 [.vec 5000]),(12,.box 3 [zi zhb]),(5000,.vec 75 2 16 zaS.len zdg)],[]⟩
abbrev zJU (K:List PA->Prop) (n:Net) (from_a1:Int) (to:Int) (X:St->Prop) (P:Int->(Sl Use)->Tab->Bool) (S:Int->(Sl Use)->Tab->((Sl Use)×Int)):Prop:=∀ ⦃zhb:Int⦄ ⦃zaS:(Sl Use)⦄ ⦃dt0:Tab⦄ ⦃zdg:Nat->List PV⦄,P zhb zaS dt0=true->K (e54 (S zhb zaS dt0))->zdg=zg zaN zaS->X (zDc n from_a1 to zhb zaS dt0 zdg)
section
variable {K:List PA->Prop}{n:Net}{from_a1:Int}{to:Int}{zhb:Int}{zaS:(Sl Use)}{dt0:Tab}{zdg:Nat->List PV}{X0:St->Prop}{P0:Int->(Sl Use)->Tab->Bool}{S0:Int->(Sl Use)->Tab->((Sl Use)×Int)}
def zyR (n:Net) (from_a1:Int) (to:Int) (S0:Int->(Sl Use)->Tab->((Sl Use)×Int)) (zhb:Int) (zaS:(Sl Use)) (dt0:Tab):((Sl Use)×Int) :=
  (cond (decide ((tg 80 dt0 (0 + zhb.toNat * 2 + 1)) > (0:Int)))
 (cond ((s92 (⟨(s74 n (⟨2, zav (zbo [(zad from_a1), (zad to)])⟩ : (Sl Int))).1.Net, ((s74 n (⟨2, zav (zbo [(zad from_a1), (zad to)])⟩ : (Sl Int))).1.out)⟩ : web) zhb (zas (unX (xcm (zaf dt0)))) (⟨zaS.len, zaS.get⟩ : (Sl Use))).1)
 (S0 ((s92 (⟨(s74 n (⟨2,zav (zbo [(zad from_a1),(zad to)])⟩:(Sl Int))).1.Net,((s74 n (⟨2,zav (zbo [(zad from_a1),(zad to)])⟩:(Sl Int))).1.out)⟩:web) zhb (zas (unX (xcm (zaf dt0)))) (⟨zaS.len,zaS.get⟩:(Sl Use))).2.1) ((s92 (⟨(s74 n (⟨2,zav (zbo [(zad from_a1),(zad to)])⟩:(Sl Int))).1.Net,((s74 n (⟨2,zav (zbo [(zad from_a1),(zad to)])⟩:(Sl Int))).1.out)⟩:web) zhb (zas (unX (xcm (zaf dt0)))) (⟨zaS.len,zaS.get⟩:(Sl Use))).2.2) dt0)
 (((s92 (⟨(s74 n (⟨2,zav (zbo [(zad from_a1),(zad to)])⟩:(Sl Int))).1.Net,((s74 n (⟨2,zav (zbo [(zad from_a1),(zad to)])⟩:(Sl Int))).1.out)⟩:web) zhb (zas (unX (xcm (zaf dt0)))) (⟨zaS.len,zaS.get⟩:(Sl Use))).2.2),(0:Int)))
 (zaS,(0:Int)))
def zyS (n:Net) (from_a1:Int) (to:Int) (P0:Int->(Sl Use)->Tab->Bool) (zhb:Int) (zaS:(Sl Use)) (dt0:Tab):Bool :=
  (decide ((0≤zhb/\zhb < (40:Int))) &&
 (cond (decide ((tg 80 dt0 (0 + zhb.toNat * 2 + 1)) > (0:Int)))
 (decide ((p92 (⟨(s74 n (⟨2,zav (zbo [(zad from_a1),(zad to)])⟩:(Sl Int))).1.Net,((s74 n (⟨2,zav (zbo [(zad from_a1),(zad to)])⟩:(Sl Int))).1.out)⟩:web) zhb (zas (unX (xcm (zaf dt0)))) (⟨zaS.len,zaS.get⟩:(Sl Use))=true)) &&
 (cond ((s92 (⟨(s74 n (⟨2, zav (zbo [(zad from_a1), (zad to)])⟩ : (Sl Int))).1.Net, ((s74 n (⟨2, zav (zbo [(zad from_a1), (zad to)])⟩ : (Sl Int))).1.out)⟩ : web) zhb (zas (unX (xcm (zaf dt0)))) (⟨zaS.len, zaS.get⟩ : (Sl Use))).1)
 (P0 ((s92 (⟨(s74 n (⟨2,zav (zbo [(zad from_a1),(zad to)])⟩:(Sl Int))).1.Net,((s74 n (⟨2,zav (zbo [(zad from_a1),(zad to)])⟩:(Sl Int))).1.out)⟩:web) zhb (zas (unX (xcm (zaf dt0)))) (⟨zaS.len,zaS.get⟩:(Sl Use))).2.1) ((s92 (⟨(s74 n (⟨2,zav (zbo [(zad from_a1),(zad to)])⟩:(Sl Int))).1.Net,((s74 n (⟨2,zav (zbo [(zad from_a1),(zad to)])⟩:(Sl Int))).1.out)⟩:web) zhb (zas (unX (xcm (zaf dt0)))) (⟨zaS.len,zaS.get⟩:(Sl Use))).2.2) dt0)
 true))
 true))
def zyT (n:Net) (from_a1:Int) (to:Int):Nat->Int->(Sl Use)->Tab->((Sl Use)×Int):=lpO (λ _ _ _=>default) (zyR n from_a1 to)
def zyU (n:Net) (from_a1:Int) (to:Int):Nat->Int->(Sl Use)->Tab->Bool:=lpO (λ _ _ _=>false) (zyS n from_a1 to)
def zyV (n:Net) (from_a1:Int) (to:Int) (zhb:Int) (zaS:(Sl Use)) (dt0:Tab):((Sl Use)×Int):=zyT n from_a1 to Fuel zhb zaS dt0
def zyW (n:Net) (from_a1:Int) (to:Int) (zhb:Int) (zaS:(Sl Use)) (dt0:Tab):Bool:=zyU n from_a1 to Fuel zhb zaS dt0
theorem zGj (hs:zyW n from_a1 to zhb zaS dt0=true) (hk:K (e54 (zyV n from_a1 to zhb zaS dt0))) (zk3:zdg=zg zaN zaS):z54 (Wk K) [1,1,1,1,1,1,1,1,0,0] [] (zDc n from_a1 to zhb zaS dt0 zdg) :=
  zl (λ X=>z54 (Wk K) [1,1,1,1,1,1,1,1,0,0,0] [X]) (by kernel_rfl) λ X0 hX =>
  (show ∀ k, zJU K n from_a1 to X0 (zyU n from_a1 to k) (zyT n from_a1 to k) from zd1 _ _ (zyS n from_a1 to) (zyR n from_a1 to) (zJU K n from_a1 to X0)
 (by intro _ _ _ _ hs;exact absurd hs Bool.false_ne_true)
 (by intro P0 S0 hX0 zhb zaS dt0 zdg hs hk zk3;subst zk3;exact hX _ (zaM (by kernel_rfl) (zaJ hs λ hc hs=>And.intro hc (zc hs hk (λ hs hk=>(zaJ hs λ hc hs=>And.intro (And.intro (zE enc_40 4 ((s74 n (⟨2,zav (zbo [(zad from_a1),(zad to)])⟩:(Sl Int))).1.Net.Ties.get)) (And.intro (rfl:((false,1,false,[none]):MQ)=(false,1,false,[none])) (And.intro (zEq:xcm (zaf dt0)=xcm (zaf (zas (unX (xcm (zaf dt0)))))) (And.intro (zE zaN 2 zaS.get) hc)))) (zc hs hk (λ hs hk=>(hX0 hs hk rfl)) (λ hs hk=>((zfl hk):Wk K [.one (.sl (((s92 (⟨(s74 n (⟨2,zav (zbo [(zad from_a1),(zad to)])⟩:(Sl Int))).1.Net,((s74 n (⟨2,zav (zbo [(zad from_a1),(zad to)])⟩:(Sl Int))).1.out)⟩:web) zhb (zas (unX (xcm (zaf dt0)))) (⟨zaS.len,zaS.get⟩:(Sl Use))).2.2).len) 2 (λ i=>zaN (((s92 (⟨(s74 n (⟨2,zav (zbo [(zad from_a1),(zad to)])⟩:(Sl Int))).1.Net,((s74 n (⟨2,zav (zbo [(zad from_a1),(zad to)])⟩:(Sl Int))).1.out)⟩:web) zhb (zas (unX (xcm (zaf dt0)))) (⟨zaS.len,zaS.get⟩:(Sl Use))).2.2).get i))),.one (.int .i64 (0:Int))]))))) (λ hs hk=>((zfl hk):Wk K [.one (.sl zaS.len 2 (λ i=>zaN (zaS.get i))),.one (.int .i64 (0:Int))]))))))) _ hs hk zk3
def s54 (n:Net) (from_a1:Int) (to:Int):((Sl Use)×Int) :=
  (cond ((s74 n (⟨2, zav (zbo [(zad from_a1), (zad to)])⟩ : (Sl Int))).2 == 0)
 (cond ((0:Int) != (0:Int))
 ((⟨0,λ _=>default⟩:(Sl Use)),(0:Int))
 (cond (match ((tg 80 (s75 (⟨(s74 n (⟨2, zav (zbo [(zad from_a1), (zad to)])⟩ : (Sl Int))).1.Net, ((s74 n (⟨2, zav (zbo [(zad from_a1), (zad to)])⟩ : (Sl Int))).1.out)⟩ : web) to) (0 + from_a1.toNat * 2 + 0)) == (1000000000000:Int)) with | true => (match ((tg 80 (s75 (⟨(s74 n (⟨2, zav (zbo [(zad from_a1), (zad to)])⟩ : (Sl Int))).1.Net, ((s74 n (⟨2, zav (zbo [(zad from_a1), (zad to)])⟩ : (Sl Int))).1.out)⟩ : web) to) (0 + from_a1.toNat * 2 + 0 + 1)) == (0:Int)) with | true => true | false => false) | false => false)
 ((⟨0,λ _=>default⟩:(Sl Use)),(6:Int))
 (zyV n from_a1 to from_a1 (⟨0,(λ _=>default)⟩:Sl Use) (s75 (⟨(s74 n (⟨2,zav (zbo [(zad from_a1),(zad to)])⟩:(Sl Int))).1.Net,((s74 n (⟨2,zav (zbo [(zad from_a1),(zad to)])⟩:(Sl Int))).1.out)⟩:web) to))))
 (cond ((s74 n (⟨2, zav (zbo [(zad from_a1), (zad to)])⟩ : (Sl Int))).2 != (0:Int))
 ((⟨0,λ _=>default⟩:(Sl Use)),(s74 n (⟨2,zav (zbo [(zad from_a1),(zad to)])⟩:(Sl Int))).2)
 default))
def p54 (n:Net) (from_a1:Int) (to:Int):Bool :=
  (cond ((s74 n (⟨2, zav (zbo [(zad from_a1), (zad to)])⟩ : (Sl Int))).2 == 0)
 (decide ((p74 n (⟨2,zav (zbo [(zad from_a1),(zad to)])⟩:(Sl Int))=true)) &&
 (cond ((0:Int) != (0:Int))
 true
 (decide ((p75 (⟨(s74 n (⟨2,zav (zbo [(zad from_a1),(zad to)])⟩:(Sl Int))).1.Net,((s74 n (⟨2,zav (zbo [(zad from_a1),(zad to)])⟩:(Sl Int))).1.out)⟩:web) to=true)) &&
 (decide ((0≤from_a1/\from_a1 < (40:Int))) &&
 (cond (match ((tg 80 (s75 (⟨(s74 n (⟨2, zav (zbo [(zad from_a1), (zad to)])⟩ : (Sl Int))).1.Net, ((s74 n (⟨2, zav (zbo [(zad from_a1), (zad to)])⟩ : (Sl Int))).1.out)⟩ : web) to) (0 + from_a1.toNat * 2 + 0)) == (1000000000000:Int)) with | true => (match ((tg 80 (s75 (⟨(s74 n (⟨2, zav (zbo [(zad from_a1), (zad to)])⟩ : (Sl Int))).1.Net, ((s74 n (⟨2, zav (zbo [(zad from_a1), (zad to)])⟩ : (Sl Int))).1.out)⟩ : web) to) (0 + from_a1.toNat * 2 + 0 + 1)) == (0:Int)) with | true => true | false => false) | false => false)
 true
 (zyW n from_a1 to from_a1 (⟨0,(λ _=>default)⟩:Sl Use) (s75 (⟨(s74 n (⟨2,zav (zbo [(zad from_a1),(zad to)])⟩:(Sl Int))).1.Net,((s74 n (⟨2,zav (zbo [(zad from_a1),(zad to)])⟩:(Sl Int))).1.out)⟩:web) to)))))))
 (decide ((p74 n (⟨2,zav (zbo [(zad from_a1),(zad to)])⟩:(Sl Int))=true)) &&
 (cond ((s74 n (⟨2, zav (zbo [(zad from_a1), (zad to)])⟩ : (Sl Int))).2 != (0:Int))
 true
 false)))
end
theorem q54 (n:Net) (from_a1:Int) (to:Int) (K:List PA->Prop) (hs:p54 n from_a1 to=true) (hk:K (e54 (s54 n from_a1 to))):vcFun Tryd.prog G54 zGi 54 [.agg (enc_24 n),.one (.int .i64 from_a1),.one (.int .i64 to)] (Wk K) :=
  zaM (by kernel_rfl) (zc hs hk (λ hs hk=>(zaJ hs λ hc hs=>And.intro (And.intro (zE enc_40 4 n.Ties.get) (And.intro ((zee []):IsE zad 1 1 (zbo [(zad from_a1),(zad to)])) hc)) (zc hs hk (λ hs hk=>((wk hk (zeF (.one (.nil _ _)) (zeF (.one (.rfl _)) zkK))):Wk K [.one (.nils),.one (.int .i64 (0:Int))])) (λ hs hk=>(zaJ hs λ hc hs=>And.intro (And.intro (zE enc_40 4 ((s74 n (⟨2,zav (zbo [(zad from_a1),(zad to)])⟩:(Sl Int))).1.Net.Ties.get)) (And.intro (rfl:((false,1,false,[none]):MQ)=(false,1,false,[none])) hc)) (zaJ hs λ hc hs=>And.intro hc (zc hs hk (λ hs hk=>((wk hk (zeF (.one (.nil _ _)) (zeF (.one (.rfl _)) zkK))):Wk K [.one (.nils),.one (.int .i64 (6:Int))])) (λ hs hk=>(zGj hs hk rfl))))))))) (λ hs hk=>(zaJ hs λ hc hs=>And.intro (And.intro (zE enc_40 4 n.Ties.get) (And.intro ((zee []):IsE zad 1 1 (zbo [(zad from_a1),(zad to)])) hc)) (zc hs hk (λ hs hk=>((wk hk (zeF (.one (.nil _ _)) (zeF (.one (.rfl _)) zkK))):Wk K [.one (.nils),.one (.int .i64 ((s74 n (⟨2,zav (zbo [(zad from_a1),(zad to)])⟩:(Sl Int))).2))])) (λ hs hk=>(absurd hs Bool.false_ne_true:False))))))
def zGk : List PA → COut
  | [.agg [.int .i64 zae,.sl zac zat zab],.one (.int .i64 a1),.one (.int .i64 a2)]=>.det (IsE enc_40 4 zat zab/\p54 (⟨zae,(⟨zac,zam zab⟩:(Sl Tie))⟩:Net) a1 a2=true) [.one (.sl (((s54 (⟨zae,(⟨zac,zam zab⟩:(Sl Tie))⟩:Net) a1 a2).1).len) 2 (λ i=>zaN (((s54 (⟨zae,(⟨zac,zam zab⟩:(Sl Tie))⟩:Net) a1 a2).1).get i))),.one (.int .i64 ((s54 (⟨zae,(⟨zac,zam zab⟩:(Sl Tie))⟩:Net) a1 a2).2))]
  | _=>.no
theorem zJV:zar Tryd.prog 54:=⟨_,rfl,rfl,by kernel_rfl⟩
theorem zOw:Ok Tryd.prog 54 zGk:=zfF zMA zJV λ args K h=>by
  unfold zGk at h
  split at h
  · rename_i zae zac zat zab a1 a2
    obtain⟨⟨⟨rfl,zan,rfl⟩,hs⟩,hk⟩:=h
    try rw[zak zan] at hs
    try rw[zak zan] at hk
    exact⟨_,zeE zfk _,(λ _ _=>[]),(λ _=>false),zGi,q54 (⟨zae,(⟨zac,zan⟩:(Sl Tie))⟩:Net) a1 a2 K hs hk⟩
  · exact h.elim
abbrev T66:Tabs:=Tabs.nil
theorem zMB:TabsOk Tryd.prog T66:=TabsOk.nil
abbrev G66:Ctrs:=csm T66 (λ _ _=>[]) (λ _=>false)
def zJW:Ann:=⟨6,[(0,zK [0] [0]),(1,zK [0] [0,4])],
 [],
 [],
 [],[]⟩
abbrev R66:=Net
abbrev e66 (r:R66):List PA:=[.agg [.int .i64 r.Nodes,.sl r.Ties.len 4 (λ i=>enc_40 (r.Ties.get i))]]
section
variable {K:List PA->Prop}
def s66:Net :=
  (⟨(3:Int),(⟨3,(zpd (⟨(0:Int),(1:Int),(5:Int),(8:Int)⟩:Tie) [(⟨(0:Int),(1:Int),(5:Int),(8:Int)⟩:Tie),(⟨(1:Int),(2:Int),(-2:Int),(3:Int)⟩:Tie),(⟨(2:Int),(0:Int),(-9:Int),(1000000000000:Int)⟩:Tie)])⟩:(Sl Tie))⟩:Net)
end
theorem q66 (K:List PA->Prop) (hk:K (e66 (s66))):vcFun Tryd.prog G66 zJW 66 [] K :=
  zaM (by kernel_rfl) (Eq.mpr (congrArg K (congrArg (λ (g_:Nat->List PV)=>([.agg [.int .i64 (3:Int),.sl 3 4 g_]]:List PA)) (zsn (enc:=enc_40) (x:=(⟨(0:Int),(1:Int),(5:Int),(8:Int)⟩:Tie)) (y:=(⟨(1:Int),(2:Int),(-2:Int),(3:Int)⟩:Tie)) (r:=[(⟨(2:Int),(0:Int),(-9:Int),(1000000000000:Int)⟩:Tie)])))) hk)
def zGl : List PA → COut
  | []=>.tot [.agg [.int .i64 ((s66).Nodes),.sl ((s66).Ties.len) 4 (λ i=>enc_40 ((s66).Ties.get i))]]
  | _=>.no
theorem zJX:zar Tryd.prog 66:=⟨_,rfl,rfl,by kernel_rfl⟩
theorem zOx:Ok Tryd.prog 66 zGl:=za9 zMB zJX λ args K h=>by
  unfold zGl at h
  split at h
  · have hk := h
    exact⟨(λ _ _=>[]),(λ _=>false),zJW,q66 K hk⟩
  · exact h.elim
abbrev T21:Tabs:=((((((((((Tabs.nil.addF 22 zFP).addF 25 zFT).addF 26 zFW).addF 29 zFX).addF 32 zF1).addF 45 zBr).addF 49 zGa).addF 53 zGe).addF 54 zGk).addF 66 zGl)
theorem zMC:TabsOk Tryd.prog T21:=((((((((((TabsOk.nil.addF zOp).addF zOq).addF zOr).addF zOs).addF ok32).addF zNo).addF zOt).addF zOu).addF zOw).addF zOx)
abbrev G21:Ctrs:=csm T21 (λ _ _=>[]) (λ _=>false)
def zGm:Ann:=⟨87,[(0,zK [] []),(1,zK [1,2] []),(2,zK [1,2,3,4] []),(3,zK [1,2,3,4,5,6] []),(4,zK [1,2,3,4,5,6,7] [7]),(5,zK [1,2,3,4,5,6,7,8,9] [7]),(6,zK [1,2,3,4,5,6,8,9,10,11] []),(7,zK [1,3,5,8,10,57] []),(8,zK [0] []),(9,zK [0] [])],
 [],
 [(2,zK [1,2] []),(3,zK [1,2,3,4] []),(4,zK [1,2,3,4,5,6] []),(5,zK [1,2,3,4,5,6,7] [7]),(6,zK [1,2,3,4,5,6,7,8,9] [7]),(7,zK [1,2,3,4,5,6,8,9,10,11] []),(9,zK [1,3,5,8,10] [])],
 [],[]⟩
abbrev R21:=Bool
abbrev e21 (r:R21):List PA:=[.one (.bool r)]
@[irreducible] def z21:=ptF Tryd.prog G21 zGm Tryd.f21
section
variable {K:List PA->Prop}{bv0:(Sl Span)}{ev0:Int}{zJY:Nat->List PV}{cv1:(Sl Use)}{fv1:Int}{zJZ:Nat->List PV}{vv2:(Sl Int)}{gv2:Int}{zJ0:Nat->List PV}{zd5:Int}{zdn:(Sl Tie)}{zyX:Nat->List PV}{xv4:(Sl Use)}{hv4:Int}{zJ1:Nat->List PV}{lv5:(Sl Int)}{iv5:Int}{zJ2:Nat->List PV}
def zyY (bv0:(Sl Span)) (cv1:(Sl Use)) (vv2:(Sl Int)) (xv4:(Sl Use)) (lv5:(Sl Int)):Bool :=
  (cond (s32 bv0 (⟨3, zfG (zbo [(za1 (⟨(0:Int), (0:Int)⟩ : Span)), (za1 (⟨(5:Int), (8:Int)⟩ : Span)), (za1 (⟨(3:Int), (9:Int)⟩ : Span))])⟩ : (Sl Span)))
 (cond (s53 cv1 (⟨1, λ _ => (⟨(2:Int), true⟩ : Use)⟩ : (Sl Use)))
 (cond (s25 vv2 (⟨3, zav (zbo [(zad (0:Int)), (zad (5:Int)), (zad (8:Int))])⟩ : (Sl Int)))
 (cond (s53 xv4 (⟨2, zcY (zbo [(zaN (⟨(2:Int), true⟩ : Use)), (zaN (⟨(3:Int), true⟩ : Use))])⟩ : (Sl Use)))
 (s25 lv5 (⟨1,λ _=>(2:Int)⟩:(Sl Int)))
 false)
 false)
 false)
 false)
def zyZ (bv0:(Sl Span)) (cv1:(Sl Use)) (vv2:(Sl Int)) (xv4:(Sl Use)) (lv5:(Sl Int)):Bool :=
  (decide ((p32 bv0 (⟨3,zfG (zbo [(za1 (⟨(0:Int),(0:Int)⟩:Span)),(za1 (⟨(5:Int),(8:Int)⟩:Span)),(za1 (⟨(3:Int),(9:Int)⟩:Span))])⟩:(Sl Span))=true)) &&
 (cond (s32 bv0 (⟨3, zfG (zbo [(za1 (⟨(0:Int), (0:Int)⟩ : Span)), (za1 (⟨(5:Int), (8:Int)⟩ : Span)), (za1 (⟨(3:Int), (9:Int)⟩ : Span))])⟩ : (Sl Span)))
 (decide ((p53 cv1 (⟨1,λ _=>(⟨(2:Int),true⟩:Use)⟩:(Sl Use))=true)) &&
 (cond (s53 cv1 (⟨1, λ _ => (⟨(2:Int), true⟩ : Use)⟩ : (Sl Use)))
 (decide ((p25 vv2 (⟨3,zav (zbo [(zad (0:Int)),(zad (5:Int)),(zad (8:Int))])⟩:(Sl Int))=true)) &&
 (cond (s25 vv2 (⟨3, zav (zbo [(zad (0:Int)), (zad (5:Int)), (zad (8:Int))])⟩ : (Sl Int)))
 (decide ((p53 xv4 (⟨2,zcY (zbo [(zaN (⟨(2:Int),true⟩:Use)),(zaN (⟨(3:Int),true⟩:Use))])⟩:(Sl Use))=true)) &&
 (cond (s53 xv4 (⟨2, zcY (zbo [(zaN (⟨(2:Int), true⟩ : Use)), (zaN (⟨(3:Int), true⟩ : Use))])⟩ : (Sl Use)))
 (decide ((p25 lv5 (⟨1,λ _=>(2:Int)⟩:(Sl Int))=true)) &&
 true)
 true))
 true))
 true))
 true))
theorem zGn (hs:zyZ bv0 cv1 vv2 xv4 lv5=true) (hk:K (e21 (zyY bv0 cv1 vv2 xv4 lv5))):z21 K [1,1,1,1,1,1,1,1] [] ⟨[(1,zS za1 2 bv0),(3,zS zaN 2 cv1),(5,zS zad 1 vv2),(8,zS zaN 2 xv4),(10,zS zad 1 lv5)],[],[]⟩:=zaM (by kernel_rfl) (zaJ hs λ hc hs=>And.intro (And.intro (zE za1 2 bv0.get) (And.intro ((zee [(⟨(3:Int),(9:Int)⟩:Span)]):IsE za1 2 2 (zbo [(za1 (⟨(0:Int),(0:Int)⟩:Span)),(za1 (⟨(5:Int),(8:Int)⟩:Span)),(za1 (⟨(3:Int),(9:Int)⟩:Span))])) hc)) (zc hs hk (λ hs hk=>(zaJ hs λ hc hs=>And.intro (And.intro (zE zaN 2 cv1.get) (And.intro (zvQ:IsE zaN 2 2 (λ _=>(zaN (⟨(2:Int),true⟩:Use)))) hc)) (zc hs hk (λ hs hk=>(zaJ hs λ hc hs=>And.intro (And.intro (zE zad 1 vv2.get) (And.intro ((zee [(8:Int)]):IsE zad 1 1 (zbo [(zad (0:Int)),(zad (5:Int)),(zad (8:Int))])) hc)) (zc hs hk (λ hs hk=>(zaJ hs λ hc hs=>And.intro (And.intro (zE zaN 2 xv4.get) (And.intro ((zee []):IsE zaN 2 2 (zbo [(zaN (⟨(2:Int),true⟩:Use)),(zaN (⟨(3:Int),true⟩:Use))])) hc)) (zc hs hk (λ hs hk=>(zaJ hs λ hc hs=>And.intro (And.intro (zE zad 1 lv5.get) (And.intro (zvQ:IsE zad 1 1 (λ _=>(zad (2:Int)))) hc)) hk)) (λ hs hk=>hk)))) (λ hs hk=>hk)))) (λ hs hk=>hk)))) (λ hs hk=>hk)))
def zy0 (bv0:(Sl Span)) (ev0:Int) (cv1:(Sl Use)) (fv1:Int) (vv2:(Sl Int)) (gv2:Int) (xv4:(Sl Use)) (hv4:Int) (lv5:(Sl Int)) (iv5:Int):Bool :=
  (cond (ev0 != (0:Int))
 false
 (cond (fv1 != (0:Int))
 false
 (cond (gv2 != (0:Int))
 false
 (cond (hv4 != (0:Int))
 false
 (cond (iv5 != (0:Int))
 false
 (zyY bv0 cv1 vv2 xv4 lv5))))))
def zy1 (bv0:(Sl Span)) (ev0:Int) (cv1:(Sl Use)) (fv1:Int) (vv2:(Sl Int)) (gv2:Int) (xv4:(Sl Use)) (hv4:Int) (lv5:(Sl Int)) (iv5:Int):Bool :=
  (cond (ev0 != (0:Int))
 true
 (cond (fv1 != (0:Int))
 true
 (cond (gv2 != (0:Int))
 true
 (cond (hv4 != (0:Int))
 true
 (cond (iv5 != (0:Int))
 true
 (zyZ bv0 cv1 vv2 xv4 lv5))))))
theorem zGo (hs:zy1 bv0 ev0 cv1 fv1 vv2 gv2 xv4 hv4 lv5 iv5=true) (hk:K (e21 (zy0 bv0 ev0 cv1 fv1 vv2 gv2 xv4 hv4 lv5 iv5))) (zMD:zJ2=zg zad lv5):z21 K [1,1,1,1,1,1,1] [] ⟨[(1,zS za1 2 bv0),(2,zI ev0),(3,zS zaN 2 cv1),(4,zI fv1),(5,zS zad 1 vv2),(6,zI gv2),(8,zS zaN 2 xv4),(9,zI hv4),(10,zP (.sl lv5.len 1 zJ2)),(11,zI iv5)],[],[]⟩:=by subst zMD;exact zaM (by kernel_rfl) (zc hs hk (λ hs hk=>hk) (λ hs hk=>(zc hs hk (λ hs hk=>hk) (λ hs hk=>(zc hs hk (λ hs hk=>hk) (λ hs hk=>(zc hs hk (λ hs hk=>hk) (λ hs hk=>(zc hs hk (λ hs hk=>hk) (λ hs hk=>(zGn hs hk)))))))))))
def zy2 (bv0:(Sl Span)) (ev0:Int) (cv1:(Sl Use)) (fv1:Int) (vv2:(Sl Int)) (gv2:Int) (zd5:Int) (zdn:(Sl Tie)) (xv4:(Sl Use)) (hv4:Int):Bool :=
  (zy0 bv0 ev0 cv1 fv1 vv2 gv2 xv4 hv4 ((s22 (⟨zd5,zdn⟩:Net)).1) ((s22 (⟨zd5,zdn⟩:Net)).2))
def zy3 (bv0:(Sl Span)) (ev0:Int) (cv1:(Sl Use)) (fv1:Int) (vv2:(Sl Int)) (gv2:Int) (zd5:Int) (zdn:(Sl Tie)) (xv4:(Sl Use)) (hv4:Int):Bool :=
  (decide ((p22 (⟨zd5,zdn⟩:Net)=true)) &&
 (zy1 bv0 ev0 cv1 fv1 vv2 gv2 xv4 hv4 ((s22 (⟨zd5,zdn⟩:Net)).1) ((s22 (⟨zd5,zdn⟩:Net)).2)))
theorem zGp (hs:zy3 bv0 ev0 cv1 fv1 vv2 gv2 zd5 zdn xv4 hv4=true) (hk:K (e21 (zy2 bv0 ev0 cv1 fv1 vv2 gv2 zd5 zdn xv4 hv4))) (zME:zJ1=zg zaN xv4):z21 K [1,1,1,1,1,1] [] ⟨[(1,zS za1 2 bv0),(2,zI ev0),(3,zS zaN 2 cv1),(4,zI fv1),(5,zS zad 1 vv2),(6,zI gv2),(7,zp 7 0),(8,zP (.sl xv4.len 2 zJ1)),(9,zI hv4)],[(7,.box 24 (zm (enc_24 (⟨zd5,zdn⟩:Net))))],[]⟩:=by subst zME;exact zaM (by kernel_rfl) (zaJ hs λ hc hs=>And.intro (And.intro (zE enc_40 4 zdn.get) hc) (zGo hs hk rfl))
def zy4 (bv0:(Sl Span)) (ev0:Int) (cv1:(Sl Use)) (fv1:Int) (vv2:(Sl Int)) (gv2:Int) (zd5:Int) (zdn:(Sl Tie)):Bool :=
  (zy2 bv0 ev0 cv1 fv1 vv2 gv2 zd5 zdn ((s49 (⟨zd5,zdn⟩:Net)).1) ((s49 (⟨zd5,zdn⟩:Net)).2))
def zy5 (bv0:(Sl Span)) (ev0:Int) (cv1:(Sl Use)) (fv1:Int) (vv2:(Sl Int)) (gv2:Int) (zd5:Int) (zdn:(Sl Tie)):Bool :=
  (decide ((p49 (⟨zd5,zdn⟩:Net)=true)) &&
 (zy3 bv0 ev0 cv1 fv1 vv2 gv2 zd5 zdn ((s49 (⟨zd5,zdn⟩:Net)).1) ((s49 (⟨zd5,zdn⟩:Net)).2)))
theorem zGq (hs:zy5 bv0 ev0 cv1 fv1 vv2 gv2 zd5 zdn=true) (hk:K (e21 (zy4 bv0 ev0 cv1 fv1 vv2 gv2 zd5 zdn))) (zGr:zyX=zg enc_40 zdn):z21 K [1,1,1,1,1] [] ⟨[(1,zS za1 2 bv0),(2,zI ev0),(3,zS zaN 2 cv1),(4,zI fv1),(5,zS zad 1 vv2),(6,zI gv2),(7,zp 7 0)],[(7,.box 24 [zi zd5,.p (.sl zdn.len 4 zyX)])],[]⟩:=by subst zGr;exact zaM (by kernel_rfl) (zaJ hs λ hc hs=>And.intro (And.intro (zE enc_40 4 zdn.get) hc) (zGp hs hk rfl))
def zy6 (bv0:(Sl Span)) (ev0:Int) (cv1:(Sl Use)) (fv1:Int) (vv2:(Sl Int)) (gv2:Int):Bool :=
  (zy4 bv0 ev0 cv1 fv1 vv2 gv2 ((s29 s66 (⟨(0:Int),(2:Int),(10:Int),(12:Int)⟩:Tie)).Nodes) ((s29 s66 (⟨(0:Int),(2:Int),(10:Int),(12:Int)⟩:Tie)).Ties))
def zy7 (bv0:(Sl Span)) (ev0:Int) (cv1:(Sl Use)) (fv1:Int) (vv2:(Sl Int)) (gv2:Int):Bool :=
  (decide ((p29 s66 (⟨(0:Int),(2:Int),(10:Int),(12:Int)⟩:Tie)=true)) &&
 (zy5 bv0 ev0 cv1 fv1 vv2 gv2 ((s29 s66 (⟨(0:Int),(2:Int),(10:Int),(12:Int)⟩:Tie)).Nodes) ((s29 s66 (⟨(0:Int),(2:Int),(10:Int),(12:Int)⟩:Tie)).Ties)))
theorem zGs (hs:zy7 bv0 ev0 cv1 fv1 vv2 gv2=true) (hk:K (e21 (zy6 bv0 ev0 cv1 fv1 vv2 gv2))) (zMF:zJ0=zg zad vv2):z21 K [1,1,1,1] [] ⟨[(1,zS za1 2 bv0),(2,zI ev0),(3,zS zaN 2 cv1),(4,zI fv1),(5,zP (.sl vv2.len 1 zJ0)),(6,zI gv2)],[],[]⟩:=by subst zMF;exact zaM (by kernel_rfl) (zaJ hs λ hc hs=>And.intro (And.intro (zE enc_40 4 s66.Ties.get) hc) (zGq hs hk rfl))
def zy8 (bv0:(Sl Span)) (ev0:Int) (cv1:(Sl Use)) (fv1:Int):Bool :=
  (zy6 bv0 ev0 cv1 fv1 ((s45 s66 (1:Int) (0:Int)).1) ((s45 s66 (1:Int) (0:Int)).2))
def zy9 (bv0:(Sl Span)) (ev0:Int) (cv1:(Sl Use)) (fv1:Int):Bool :=
  (decide ((p45 s66 (1:Int) (0:Int)=true)) &&
 (zy7 bv0 ev0 cv1 fv1 ((s45 s66 (1:Int) (0:Int)).1) ((s45 s66 (1:Int) (0:Int)).2)))
theorem zGt (hs:zy9 bv0 ev0 cv1 fv1=true) (hk:K (e21 (zy8 bv0 ev0 cv1 fv1))) (zMG:zJZ=zg zaN cv1):z21 K [1,1,1] [] ⟨[(1,zS za1 2 bv0),(2,zI ev0),(3,zP (.sl cv1.len 2 zJZ)),(4,zI fv1)],[],[]⟩:=by subst zMG;exact zaM (by kernel_rfl) (zaJ hs λ hc hs=>And.intro (And.intro (zE enc_40 4 s66.Ties.get) hc) (zGs hs hk rfl))
def zza (bv0:(Sl Span)) (ev0:Int):Bool :=
  (zy8 bv0 ev0 ((s54 s66 (0:Int) (2:Int)).1) ((s54 s66 (0:Int) (2:Int)).2))
def zzb (bv0:(Sl Span)) (ev0:Int):Bool :=
  (decide ((p54 s66 (0:Int) (2:Int)=true)) &&
 (zy9 bv0 ev0 ((s54 s66 (0:Int) (2:Int)).1) ((s54 s66 (0:Int) (2:Int)).2)))
theorem zGu (hs:zzb bv0 ev0=true) (hk:K (e21 (zza bv0 ev0))) (zMH:zJY=zg za1 bv0):z21 K [1,1] [] ⟨[(1,zP (.sl bv0.len 2 zJY)),(2,zI ev0)],[],[]⟩:=by subst zMH;exact zaM (by kernel_rfl) (zaJ hs λ hc hs=>And.intro (And.intro (zE enc_40 4 s66.Ties.get) hc) (zGt hs hk rfl))
def s21:Bool :=
  (zza ((s26 s66).1) ((s26 s66).2))
def p21:Bool :=
  (decide ((p26 s66=true)) &&
 (zzb ((s26 s66).1) ((s26 s66).2)))
end
theorem q21 (K:List PA->Prop) (hs:p21=true) (hk:K (e21 (s21))):vcFun Tryd.prog G21 zGm 21 [] K :=
  zaM (by kernel_rfl) (zaJ hs λ hc hs=>And.intro (And.intro (zE enc_40 4 s66.Ties.get) hc) (zGu hs hk rfl))
theorem zJ3:p21=true:=by kernel_rfl
theorem zJ4:s21=true:=by kernel_rfl
def zGv : List PA → COut
  | []=>.tot [.one (.bool true)]
  | _=>.no
theorem zJ5:zar Tryd.prog 21:=⟨_,rfl,rfl,by kernel_rfl⟩
theorem zOy:Ok Tryd.prog 21 zGv:=za9 zMC zJ5 λ args K h=>by
  unfold zGv at h
  split at h
  · refine ⟨fun _ _ => [], fun _ => false, zGm, q21 K zJ3 ?_⟩
    show K [.one (.bool s21)]
    rw[zJ4];exact h
  · exact h.elim
abbrev T20:Tabs:=Tabs.nil
theorem zMI:TabsOk Tryd.prog T20:=TabsOk.nil
abbrev G20:Ctrs:=csm T20 (λ _ _=>[]) (λ _=>false)
def zJ6:Ann:=⟨32,[(0,zK [1,2] [2]),(1,zK [4] [])],
 [],
 [],
 [],[]⟩
abbrev R20:=Bool
abbrev e20 (r:R20):List PA:=[.one (.bool r)]
section
variable {K:List PA->Prop}{n:Net}{ties:Int}
def s20 (n:Net) (ties:Int):Bool :=
  (cond (decide (n.Nodes ≤ (7:Int)))
 (cond (decide ((n.Ties.len : Int) ≤ ties))
 true
 (cond (decide ((n.Ties.len : Int) > (200:Int)))
 (decide ((n.Ties.len:Int)≤(210:Int)))
 false))
 (cond (decide (n.Nodes > (40:Int)))
 (cond (decide ((n.Ties.len : Int) ≤ ties))
 true
 (cond (decide ((n.Ties.len : Int) > (200:Int)))
 (decide ((n.Ties.len:Int)≤(210:Int)))
 false))
 false))
end
theorem q20 (n:Net) (ties:Int) (K:List PA->Prop) (hk:K (e20 (s20 n ties))):vcFun Tryd.prog G20 zJ6 20 [.agg (enc_24 n),.one (.int .i64 ties)] K :=
  zaM (by kernel_rfl) (zt hk (λ hk=>(zt hk (λ hk=>hk) (λ hk=>(zt hk (λ hk=>hk) (λ hk=>hk))))) (λ hk=>(zt hk (λ hk=>(zt hk (λ hk=>hk) (λ hk=>(zt hk (λ hk=>hk) (λ hk=>hk))))) (λ hk=>hk))))
def zGw : List PA → COut
  | [.agg [.int .i64 zae,.sl zac zat zab],.one (.int .i64 a1)]=>.det (IsE enc_40 4 zat zab) [.one (.bool (s20 (⟨zae,(⟨zac,zam zab⟩:(Sl Tie))⟩:Net) a1))]
  | _=>.no
theorem zJ7:zar Tryd.prog 20:=⟨_,rfl,rfl,by kernel_rfl⟩
theorem zOz:Ok Tryd.prog 20 zGw:=za9 zMI zJ7 λ args K h=>by
  unfold zGw at h
  split at h
  · rename_i zae zac zat zab a1
    obtain⟨⟨rfl,zan,rfl⟩,hk⟩:=h
    try rw[zak zan] at hk
    exact⟨(λ _ _=>[]),(λ _=>false),zJ6,q20 (⟨zae,(⟨zac,zan⟩:(Sl Tie))⟩:Net) a1 K hk⟩
  · exact h.elim
abbrev T72:Tabs:=Tabs.nil
theorem zMJ:TabsOk Tryd.prog T72:=TabsOk.nil
abbrev G72:Ctrs:=csm T72 (λ _ _=>[]) (λ _=>false)
def zJ8:Ann:=⟨15,[(0,zK [0,1,2] []),(1,zK [6] [])],
 [],
 [],
 [],[]⟩
abbrev R72:=Bool
abbrev e72 (r:R72):List PA:=[.one (.bool r)]
section
variable {K:List PA->Prop}{x:Int}{low:Int}{high:Int}
def s72 (x:Int) (low:Int) (high:Int):Bool :=
  (cond (decide (x ≥ low))
 (decide (x≤high))
 false)
end
theorem q72 (x:Int) (low:Int) (high:Int) (K:List PA->Prop) (hk:K (e72 (s72 x low high))):vcFun Tryd.prog G72 zJ8 72 [.one (.int .i64 x),.one (.int .i64 low),.one (.int .i64 high)] K :=
  zaM (by kernel_rfl) (zt hk (λ hk=>hk) (λ hk=>hk))
def zzc : List PA → COut
  | [.one (.int .i64 a0),.one (.int .i64 a1),.one (.int .i64 a2)]=>.tot [.one (.bool (s72 a0 a1 a2))]
  | _=>.no
theorem zJ9:zar Tryd.prog 72:=⟨_,rfl,rfl,by kernel_rfl⟩
theorem zMK:Ok Tryd.prog 72 zzc:=za9 zMJ zJ9 λ args K h=>by
  unfold zzc at h
  split at h
  · rename_i a0 a1 a2
    have hk:=h
    exact⟨(λ _ _=>[]),(λ _=>false),zJ8,q72 a0 a1 a2 K hk⟩
  · exact h.elim
abbrev T36:Tabs:=(Tabs.nil.addF 72 zzc)
theorem zML:TabsOk Tryd.prog T36:=(TabsOk.nil.addF zMK)
abbrev G36:Ctrs:=csm T36 (λ _ _=>[]) (λ _=>false)
def zGx:Ann:=⟨51,[(0,zK [0,3] [3]),(1,zK [3,32] [3]),(2,zK [4] []),(3,zK [4] [])],
 [],
 [(2,zK [3,32] [3]),(3,zK [3] [3])],
 [],[]⟩
abbrev R36:=Bool
abbrev e36 (r:R36):List PA:=[.one (.bool r)]
@[irreducible] def z36:=ptF Tryd.prog G36 zGx Tryd.f36
section
variable {K:List PA->Prop}{nodes:Int}{t:Tie}{zBP:Bool}
def zqM (t:Tie):Bool :=
  (cond (t.Low == (-1000000000000:Int))
 (cond (t.High == (1000000000000:Int))
 true
 (s72 t.High (-1000000000:Int) (1000000000:Int)))
 (cond (s72 t.Low (-1000000000:Int) (1000000000:Int))
 (cond (t.High == (1000000000000:Int))
 true
 (s72 t.High (-1000000000:Int) (1000000000:Int)))
 false))
theorem zGy (hk:K (e36 (zqM t))):z36 K [1,1] [] ⟨[(3,zp 3 0)],[(3,.box 40 (zm (enc_40 t)))],[]⟩:=zaM (by kernel_rfl) (zt hk (λ hk=>(zt hk (λ hk=>hk) (λ hk=>hk))) (λ hk=>(zt hk (λ hk=>(zt hk (λ hk=>hk) (λ hk=>hk))) (λ hk=>hk))))
def ziu (t:Tie) (zBP:Bool):Bool :=
  (cond zBP
 false
 (zqM t))
theorem znj (hk:K (e36 (ziu t zBP))):z36 K [1,0,1] [] ⟨[(3,zp 3 0),(32,zB zBP)],[(3,.box 40 (zm (enc_40 t)))],[]⟩:=zaM (by kernel_rfl) (zt hk (λ hk=>hk) (λ hk=>(zGy hk)))
def s36 (nodes:Int) (t:Tie):Bool :=
  (cond (!(s72 t.From (0:Int) (w64 (nodes - (1:Int)))))
 (ziu t true)
 (cond (!(s72 t.To (0:Int) (w64 (nodes - (1:Int)))))
 (ziu t true)
 (cond (t.From == t.To)
 (ziu t true)
 (ziu t (decide (t.Low > t.High))))))
end
theorem q36 (nodes:Int) (t:Tie) (K:List PA->Prop) (hk:K (e36 (s36 nodes t))):vcFun Tryd.prog G36 zGx 36 [.one (.int .i64 nodes),.agg (enc_40 t)] K :=
  zaM (by kernel_rfl) (zt hk (λ hk=>(znj hk)) (λ hk=>(zt hk (λ hk=>(znj hk)) (λ hk=>(zt hk (λ hk=>(znj hk)) (λ hk=>(znj hk)))))))
def zGz : List PA → COut
  | [.one (.int .i64 a0),.agg [.int .i64 zet,.int .i64 zln,.int .i64 zgC,.int .i64 zeu]]=>.tot [.one (.bool (s36 a0 (⟨zet,zln,zgC,zeu⟩:Tie)))]
  | _=>.no
theorem zKa:zar Tryd.prog 36:=⟨_,rfl,rfl,by kernel_rfl⟩
theorem zOA:Ok Tryd.prog 36 zGz:=za9 zML zKa λ args K h=>by
  unfold zGz at h
  split at h
  · rename_i a0 zet zln zgC zeu
    have hk:=h
    exact⟨(λ _ _=>[]),(λ _=>false),zGx,q36 a0 (⟨zet,zln,zgC,zeu⟩:Tie) K hk⟩
  · exact h.elim
abbrev T23:Tabs:=((Tabs.nil.addF 36 zGz).addF 72 zzc)
theorem zMM:TabsOk Tryd.prog T23:=((TabsOk.nil.addF zOA).addF zMK)
abbrev G23:Ctrs:=csm T23 (λ _ _=>[]) (λ _=>false)
def zGA:Ann:=⟨30,[(0,zK [1] [1]),(1,zK [1,13] [1]),(2,zK [2] []),(3,zK [1,3] [1]),(4,zK [1,3,18] [1]),(5,zK [1,3] [1]),(6,zK [1,3,29] [1]),(7,zK [2] []),(8,zK [2] [])],
 [(4,zK [1,3] [1])],
 [(2,zK [1,13] [1]),(3,zK [1] [1]),(7,zK [1,3,29] [1])],
 [],[]⟩
abbrev R23:=Bool
abbrev e23 (r:R23):List PA:=[.one (.bool r)]
@[irreducible] def z23:=ptF Tryd.prog G23 zGA Tryd.f23
def zDd (n:Net) (iv2:Int):St:=⟨[(1,zp 1 0),(3,zI iv2)],[(1,.box 24 (zm (enc_24 n)))],[]⟩
abbrev zGB (K:List PA->Prop) (n:Net) (X:St->Prop) (P:Int->Bool) (S:Int->Bool):Prop:=∀ ⦃iv2:Int⦄,P iv2=true->K (e23 (S iv2))->X (zDd n iv2)
section
variable {K:List PA->Prop}{n:Net}{zbH:Bool}{iv2:Int}{X2:St->Prop}{P2:Int->Bool}{S2:Int->Bool}{iv3:Int}{zqN:Bool}
def zqO (S2:Int->Bool) (n:Net) (iv3:Int) (zqN:Bool):Bool :=
  (cond zqN
 false
 (S2 (w64 (iv3+(1:Int)))))
def zqP (P2:Int->Bool) (n:Net) (iv3:Int) (zqN:Bool):Bool :=
  (cond zqN
 true
 (P2 (w64 (iv3+(1:Int)))))
theorem zGC (hX2:zGB K n X2 P2 S2) (hs:zqP P2 n iv3 zqN=true) (hk:K (e23 (zqO S2 n iv3 zqN))):z23 K [1,1,0,1,0,0,1,0,0,1] [X2] ⟨[(1,zp 1 0),(3,zI iv3),(29,zB zqN)],[(1,.box 24 (zm (enc_24 n)))],[]⟩:=zaM (by kernel_rfl) (zc hs hk (λ hs hk=>hk) (λ hs hk=>(hX2 hs hk)))
def ziv (n:Net) (S2:Int->Bool) (iv2:Int):Bool :=
  (cond (decide (iv2 < (n.Ties.len : Int)))
 (zqO S2 n iv2 (!(s36 n.Nodes (n.Ties.get iv2.toNat))))
 true)
def ziw (n:Net) (P2:Int->Bool) (iv2:Int):Bool :=
  (cond (decide (iv2 < (n.Ties.len : Int)))
 (decide ((0≤iv2/\iv2 < (n.Ties.len:Int))) &&
 (zqP P2 n iv2 (!(s36 n.Nodes (n.Ties.get iv2.toNat)))))
 true)
def zgZ (n:Net):Nat->Int->Bool:=lpO (λ _=>default) (ziv n)
def zix (n:Net):Nat->Int->Bool:=lpO (λ _=>false) (ziw n)
def zqQ (n:Net) (iv2:Int):Bool:=zgZ n Fuel iv2
def zqR (n:Net) (iv2:Int):Bool:=zix n Fuel iv2
theorem zGD (hs:zqR n iv2=true) (hk:K (e23 (zqQ n iv2))):z23 K [1,1,0,1,0] [] (zDd n iv2) :=
  zl (λ X=>z23 K [1,1,0,1,0,0] [X]) (by kernel_rfl) λ X2 hX =>
  (show ∀ k, zGB K n X2 (zix n k) (zgZ n k) from zd1 _ _ (ziw n) (ziv n) (zGB K n X2)
 (by intro _ hs;exact absurd hs Bool.false_ne_true)
 (by intro P2 S2 hX2 iv2 hs hk;exact hX _ (zaM (by kernel_rfl) (zc hs hk (λ hs hk=>(zaJ hs λ hc hs=>And.intro hc (zGC hX2 hs hk))) (λ hs hk=>hk))))) _ hs hk
def zqS (n:Net):Bool :=
  (zqQ n (0:Int))
def zqT (n:Net):Bool :=
  (zqR n (0:Int))
theorem zGE (hs:zqT n=true) (hk:K (e23 (zqS n))):z23 K [1,1] [] ⟨[(1,zp 1 0)],[(1,.box 24 (zm (enc_24 n)))],[]⟩:=zaM (by kernel_rfl) (zGD hs hk)
def znk (n:Net) (zbH:Bool):Bool :=
  (cond zbH
 false
 (zqS n))
def znl (n:Net) (zbH:Bool):Bool :=
  (cond zbH
 true
 (zqT n))
theorem zzd (hs:znl n zbH=true) (hk:K (e23 (znk n zbH))):z23 K [1,0,1] [] ⟨[(1,zp 1 0),(13,zB zbH)],[(1,.box 24 (zm (enc_24 n)))],[]⟩:=zaM (by kernel_rfl) (zc hs hk (λ hs hk=>hk) (λ hs hk=>(zGE hs hk)))
def s23 (n:Net):Bool :=
  (cond (!(s72 n.Nodes (1:Int) (40:Int)))
 (znk n true)
 (znk n (decide ((n.Ties.len:Int) > (200:Int)))))
def p23 (n:Net):Bool :=
  (cond (!(s72 n.Nodes (1:Int) (40:Int)))
 (znl n true)
 (znl n (decide ((n.Ties.len:Int) > (200:Int)))))
end
theorem q23 (n:Net) (K:List PA->Prop) (hs:p23 n=true) (hk:K (e23 (s23 n))):vcFun Tryd.prog G23 zGA 23 [.agg (enc_24 n)] K :=
  zaM (by kernel_rfl) (zc hs hk (λ hs hk=>(zzd hs hk)) (λ hs hk=>(zzd hs hk)))
def zGF : List PA → COut
  | [.agg [.int .i64 zae,.sl zac zat zab]]=>.det (IsE enc_40 4 zat zab/\p23 (⟨zae,(⟨zac,zam zab⟩:(Sl Tie))⟩:Net)=true) [.one (.bool (s23 (⟨zae,(⟨zac,zam zab⟩:(Sl Tie))⟩:Net)))]
  | _=>.no
theorem zKb:zar Tryd.prog 23:=⟨_,rfl,rfl,by kernel_rfl⟩
theorem zOB:Ok Tryd.prog 23 zGF:=za9 zMM zKb λ args K h=>by
  unfold zGF at h
  split at h
  · rename_i zae zac zat zab
    obtain⟨⟨⟨rfl,zan,rfl⟩,hs⟩,hk⟩:=h
    try rw[zak zan] at hs
    try rw[zak zan] at hk
    exact⟨(λ _ _=>[]),(λ _=>false),zGA,q23 (⟨zae,(⟨zac,zan⟩:(Sl Tie))⟩:Net) K hs hk⟩
  · exact h.elim
abbrev T77:Tabs:=Tabs.nil
theorem zMN:TabsOk Tryd.prog T77:=TabsOk.nil
abbrev G77:Ctrs:=csm T77 (λ _ _=>[]) (λ _=>false)
def zGG:Ann:=⟨50,[(0,zK [1] [1]),(1,zK [1,3] [1]),(2,zK [1,3,4] [1]),(3,zK [1,3,4,10] [1,32]),(4,zK [1,3,4] [1,32]),(5,zK [1,3,4,5] [1,5,32]),(6,zK [1,3,4,5,20] [1,5,32]),(7,zK [1,3,4,5] [1,5,32]),(8,zK [1,3,4,5,35] [1,5,32]),(9,zK [1,3,4] [1,32]),(10,zK [2] [32])],
 [(3,⟨[1,3,4],[1,32],[(3,32,121,λ _=>zch default)],[],[],[],[]⟩)],
 [(8,⟨[1,3,4,5],[1,5,32],[(3,32,121,λ _=>zch default)],[],[],[],[]⟩)],
 [],[]⟩
abbrev R77:=(Sl Step)
abbrev e77 (r:R77):List PA:=[.one (.sl r.len 5 (λ i=>zch (r.get i)))]
@[irreducible] def z77:=ptF Tryd.prog G77 zGG Tryd.f77
def zDe (n:Net) (iv0:Int) (zcM:(Sl Step)) (zf3:Nat->List PV):St:=⟨[(1,zp 1 0),(3,zv 32),(4,zI iv0)],[(1,.box 24 (zm (enc_24 n))),(32,.vec 121 5 40 zcM.len zf3)],[]⟩
abbrev zGH (K:List PA->Prop) (n:Net) (X:St->Prop) (P:Int->(Sl Step)->Bool) (S:Int->(Sl Step)->(Sl Step)):Prop:=∀ ⦃iv0:Int⦄ ⦃zcM:(Sl Step)⦄ ⦃zf3:Nat->List PV⦄,P iv0 zcM=true->K (e77 (S iv0 zcM))->zf3=zg zch zcM->X (zDe n iv0 zcM zf3)
section
variable {K:List PA->Prop}{n:Net}{iv0:Int}{zcM:(Sl Step)}{zf3:Nat->List PV}{X0:St->Prop}{P0:Int->(Sl Step)->Bool}{S0:Int->(Sl Step)->(Sl Step)}{iv1:Int}{zoQ:Int}{zoR:Int}{zlo:Int}{zze:Int}{zf4:(Sl Step)}{zzf:Nat->List PV}
def znm (S0:Int->(Sl Step)->(Sl Step)) (n:Net) (iv1:Int) (zoQ:Int) (zoR:Int) (zlo:Int) (zze:Int) (zf4:(Sl Step)):(Sl Step) :=
  (cond (zlo != (-1000000000000:Int))
 (S0 (w64 (iv1+(1:Int))) (⟨(zf4.len+1),(zgi zf4.len zf4.get (λ _=>(⟨zoR,zoQ,(w64 (0 - zlo)),(⟨iv1,true⟩:Use)⟩:Step)))⟩:Sl Step))
 (S0 (w64 (iv1+(1:Int))) zf4))
def znn (P0:Int->(Sl Step)->Bool) (n:Net) (iv1:Int) (zoQ:Int) (zoR:Int) (zlo:Int) (zze:Int) (zf4:(Sl Step)):Bool :=
  (cond (zlo != (-1000000000000:Int))
 (decide (((zf4.len+1) * 40≤140737488355328/\zf4.len+1≤9223372036854775807)) &&
 (P0 (w64 (iv1+(1:Int))) (⟨(zf4.len+1),(zgi zf4.len zf4.get (λ _=>(⟨zoR,zoQ,(w64 (0 - zlo)),(⟨iv1,true⟩:Use)⟩:Step)))⟩:Sl Step)))
 (P0 (w64 (iv1+(1:Int))) zf4))
theorem zzg (hX0:zGH K n X0 P0 S0) (hs:znn P0 n iv1 zoQ zoR zlo zze zf4=true) (hk:K (e77 (znm S0 n iv1 zoQ zoR zlo zze zf4))) (zGI:zzf=zg zch zf4):z77 K [1,1,0,1,0,0,1,0,0,1,1] [X0] ⟨[(1,zp 1 0),(3,zv 32),(4,zI iv1),(5,zp 5 0)],[(1,.box 24 (zm (enc_24 n))),(5,.box 40 (zm (enc_40 (⟨zoQ,zoR,zlo,zze⟩:Tie)))),(32,.vec 121 5 40 zf4.len zzf)],[]⟩:=by subst zGI;exact zaM (by kernel_rfl) (zc hs hk (λ hs hk=>(zaJ hs λ hc hs=>And.intro hc (hX0 hs hk (zjb (enc:=zch) (f:=zf4.get) (h:=(λ _=>(⟨zoR,zoQ,(w64 (0 - zlo)),(⟨iv1,true⟩:Use)⟩:Step))) rfl rfl)))) (λ hs hk=>(hX0 hs hk rfl)))
def ziy (n:Net) (S0:Int->(Sl Step)->(Sl Step)) (iv0:Int) (zcM:(Sl Step)):(Sl Step) :=
  (cond (decide (iv0 < (n.Ties.len : Int)))
 (cond ((n.Ties.get iv0.toNat).High != (1000000000000:Int))
 (znm S0 n iv0 ((n.Ties.get iv0.toNat).From) ((n.Ties.get iv0.toNat).To) ((n.Ties.get iv0.toNat).Low) ((n.Ties.get iv0.toNat).High) (⟨(zcM.len+1),(zgi zcM.len zcM.get (λ _=>(⟨(n.Ties.get iv0.toNat).From,(n.Ties.get iv0.toNat).To,(n.Ties.get iv0.toNat).High,(⟨iv0,false⟩:Use)⟩:Step)))⟩:Sl Step))
 (znm S0 n iv0 ((n.Ties.get iv0.toNat).From) ((n.Ties.get iv0.toNat).To) ((n.Ties.get iv0.toNat).Low) ((n.Ties.get iv0.toNat).High) zcM))
 zcM)
def ziz (n:Net) (P0:Int->(Sl Step)->Bool) (iv0:Int) (zcM:(Sl Step)):Bool :=
  (cond (decide (iv0 < (n.Ties.len : Int)))
 (decide ((0≤iv0/\iv0 < (n.Ties.len:Int))) &&
 (cond ((n.Ties.get iv0.toNat).High != (1000000000000:Int))
 (decide (((zcM.len+1) * 40≤140737488355328/\zcM.len+1≤9223372036854775807)) &&
 (znn P0 n iv0 ((n.Ties.get iv0.toNat).From) ((n.Ties.get iv0.toNat).To) ((n.Ties.get iv0.toNat).Low) ((n.Ties.get iv0.toNat).High) (⟨(zcM.len+1),(zgi zcM.len zcM.get (λ _=>(⟨(n.Ties.get iv0.toNat).From,(n.Ties.get iv0.toNat).To,(n.Ties.get iv0.toNat).High,(⟨iv0,false⟩:Use)⟩:Step)))⟩:Sl Step)))
 (znn P0 n iv0 ((n.Ties.get iv0.toNat).From) ((n.Ties.get iv0.toNat).To) ((n.Ties.get iv0.toNat).Low) ((n.Ties.get iv0.toNat).High) zcM)))
 true)
def zdo (n:Net):Nat->Int->(Sl Step)->(Sl Step):=lpO (λ _ _=>default) (ziy n)
def zdp (n:Net):Nat->Int->(Sl Step)->Bool:=lpO (λ _ _=>false) (ziz n)
def zzh (n:Net) (iv0:Int) (zcM:(Sl Step)):(Sl Step):=zdo n Fuel iv0 zcM
def zzi (n:Net) (iv0:Int) (zcM:(Sl Step)):Bool:=zdp n Fuel iv0 zcM
theorem zGJ (hs:zzi n iv0 zcM=true) (hk:K (e77 (zzh n iv0 zcM))) (zqU:zf3=zg zch zcM):z77 K [1,1,0,1,0] [] (zDe n iv0 zcM zf3) :=
  zl (λ X=>z77 K [1,1,0,1,0,0] [X]) (by kernel_rfl) λ X0 hX =>
  (show ∀ k, zGH K n X0 (zdp n k) (zdo n k) from zd1 _ _ (ziz n) (ziy n) (zGH K n X0)
 (by intro _ _ _ hs;exact absurd hs Bool.false_ne_true)
 (by intro P0 S0 hX0 iv0 zcM zf3 hs hk zqU;subst zqU;exact hX _ (zaM (by kernel_rfl) (zc hs hk (λ hs hk=>(zaJ hs λ hc hs=>And.intro hc (zc hs hk (λ hs hk=>(zaJ hs λ hc hs=>And.intro hc (zzg hX0 hs hk (zjb (enc:=zch) (f:=zcM.get) (h:=(λ _=>(⟨(n.Ties.get iv0.toNat).From,(n.Ties.get iv0.toNat).To,(n.Ties.get iv0.toNat).High,(⟨iv0,false⟩:Use)⟩:Step))) rfl rfl)))) (λ hs hk=>(zzg hX0 hs hk rfl))))) (λ hs hk=>hk))))) _ hs hk zqU
def s77 (n:Net):(Sl Step) :=
  (zzh n (0:Int) (⟨0,(λ _=>default)⟩:Sl Step))
def p77 (n:Net):Bool :=
  (zzi n (0:Int) (⟨0,(λ _=>default)⟩:Sl Step))
end
theorem q77 (n:Net) (K:List PA->Prop) (hs:p77 n=true) (hk:K (e77 (s77 n))):vcFun Tryd.prog G77 zGG 77 [.agg (enc_24 n)] K :=
  zaM (by kernel_rfl) (zGJ hs hk rfl)
def zBQ : List PA → COut
  | [.agg [.int .i64 zae,.sl zac zat zab]]=>.det (IsE enc_40 4 zat zab/\p77 (⟨zae,(⟨zac,zam zab⟩:(Sl Tie))⟩:Net)=true) [.one (.sl ((s77 (⟨zae,(⟨zac,zam zab⟩:(Sl Tie))⟩:Net)).len) 5 (λ i=>zch ((s77 (⟨zae,(⟨zac,zam zab⟩:(Sl Tie))⟩:Net)).get i)))]
  | _=>.no
theorem zKc:zar Tryd.prog 77:=⟨_,rfl,rfl,by kernel_rfl⟩
theorem zNz:Ok Tryd.prog 77 zBQ:=za9 zMN zKc λ args K h=>by
  unfold zBQ at h
  split at h
  · rename_i zae zac zat zab
    obtain⟨⟨⟨rfl,zan,rfl⟩,hs⟩,hk⟩:=h
    try rw[zak zan] at hs
    try rw[zak zan] at hk
    exact⟨(λ _ _=>[]),(λ _=>false),zGG,q77 (⟨zae,(⟨zac,zan⟩:(Sl Tie))⟩:Net) K hs hk⟩
  · exact h.elim
abbrev T31:Tabs:=(Tabs.nil.addF 77 zBQ)
theorem zMO:TabsOk Tryd.prog T31:=(TabsOk.nil.addF zNz)
abbrev G31:Ctrs:=csm T31 (λ _ _=>[]) (λ _=>false)
def zGK:Ann:=⟨67,[(0,zK [1] [1]),(1,zK [1,3] [1]),(2,zK [1,3,4] [1,14]),(3,zK [1,3,4,5] [1,14]),(4,zK [1,3,4,5,6] [1,14]),(5,zK [1,3,4,5,6,21] [1]),(6,zK [1,3,4,5,6] [1,25]),(7,zK [1,3,4,5,6] [1]),(8,zK [1,3,4,5,6,7] [1,25]),(9,zK [1,3,4,5,6,7,8] [1,25]),(10,zK [1,3,4,5,6,7,8,29] [1,25]),(11,zK [1,3,4,5,6,7,8] [1,25]),(12,zK [1,3,4,5,6,7,8,9] [1,25]),(13,zK [1,3,4,5,6,7,8,9,55] [1,25]),(14,zK [1,3,4,5,6,7,8] [1,25]),(15,zK [1,3,4,5,6] [1,25]),(16,zK [2] [])],
 [(5,⟨[1,3,4,5,6],[1],[],[],[],[],[(4,1,λ _=>zad default)]⟩),(10,zK [1,3,4,5,6,7,8] [1,25])],
 [(2,zK [1,3] [1])],
 [],[]⟩
abbrev R31:=Bool
abbrev e31 (r:R31):List PA:=[.one (.bool r)]
@[irreducible] def z31:=ptF Tryd.prog G31 zGK Tryd.f31
def zDf (n:Net) (lv0:(Sl Step)) (zcc:(Sl Int)) (zaC:Bool) (rv1:Int) (zem:Nat->List PV):St:=⟨[(1,zp 1 0),(3,zS zch 5 lv0),(4,zP (.sl zcc.len 1 zem)),(5,zB zaC),(6,zI rv1)],[(1,.box 24 (zm (enc_24 n)))],[]⟩
abbrev zGL (K:List PA->Prop) (n:Net) (lv0:(Sl Step)) (X:St->Prop) (P:(Sl Int)->Bool->Int->Bool) (S:(Sl Int)->Bool->Int->Bool):Prop:=∀ ⦃zcc:(Sl Int)⦄ ⦃zaC:Bool⦄ ⦃rv1:Int⦄ ⦃zem:Nat->List PV⦄,P zcc zaC rv1=true->K (e31 (S zcc zaC rv1))->zem=zg zad zcc->X (zDf n lv0 zcc zaC rv1 zem)
def zDg (n:Net) (lv0:(Sl Step)) (zbJ:(Sl Int)) (zaw:Bool) (rv2:Int) (iv2:Int) (zcv:(Sl Int)) (zen:Nat->List PV) (zf5:Nat->List PV):St:=⟨[(1,zp 1 0),(3,zS zch 5 lv0),(4,zP (.sl zbJ.len 1 zen)),(5,zB zaw),(6,zI rv2),(7,zv 25),(8,zI iv2)],[(1,.box 24 (zm (enc_24 n))),(25,.vec 3 1 8 zcv.len zf5)],[]⟩
abbrev zKd (K:List PA->Prop) (n:Net) (lv0:(Sl Step)) (X:St->Prop) (P:(Sl Int)->Bool->Int->Int->(Sl Int)->Bool) (S:(Sl Int)->Bool->Int->Int->(Sl Int)->Bool):Prop:=∀ ⦃zbJ:(Sl Int)⦄ ⦃zaw:Bool⦄ ⦃rv2:Int⦄ ⦃iv2:Int⦄ ⦃zcv:(Sl Int)⦄ ⦃zen:Nat->List PV⦄ ⦃zf5:Nat->List PV⦄,P zbJ zaw rv2 iv2 zcv=true->K (e31 (S zbJ zaw rv2 iv2 zcv))->zen=zg zad zbJ->zf5=zg zad zcv->X (zDg n lv0 zbJ zaw rv2 iv2 zcv zen zf5)
section
variable {K:List PA->Prop}{n:Net}{lv0:(Sl Step)}{zzj:Nat->List PV}{zcc:(Sl Int)}{zaC:Bool}{rv1:Int}{zem:Nat->List PV}{X1:St->Prop}{P1:(Sl Int)->Bool->Int->Bool}{S1:(Sl Int)->Bool->Int->Bool}{zbJ:(Sl Int)}{zaw:Bool}{rv2:Int}{iv2:Int}{zcv:(Sl Int)}{zen:Nat->List PV}{zf5:Nat->List PV}{X2:St->Prop}{P2:(Sl Int)->Bool->Int->Int->(Sl Int)->Bool}{S2:(Sl Int)->Bool->Int->Int->(Sl Int)->Bool}
def ziA (S1:(Sl Int)->Bool->Int->Bool) (n:Net) (lv0:(Sl Step)) (S2:(Sl Int)->Bool->Int->Int->(Sl Int)->Bool) (zbJ:(Sl Int)) (zaw:Bool) (rv2:Int) (iv2:Int) (zcv:(Sl Int)):Bool :=
  (cond (decide (iv2 < (lv0.len : Int)))
 (cond (decide ((w64 ((zbJ.get (((lv0.get iv2.toNat).From).toNat)) + (lv0.get iv2.toNat).Length)) < (zcv.get (((lv0.get iv2.toNat).To).toNat))))
 (S2 zbJ true rv2 (w64 (iv2+(1:Int))) (⟨zcv.len,(setT (((lv0.get iv2.toNat).To).toNat) (w64 ((zbJ.get (((lv0.get iv2.toNat).From).toNat))+(lv0.get iv2.toNat).Length)) zcv.get)⟩:Sl Int))
 (S2 zbJ zaw rv2 (w64 (iv2+(1:Int))) zcv))
 (S1 zcv zaw (w64 (rv2+(1:Int)))))
def ziB (P1:(Sl Int)->Bool->Int->Bool) (n:Net) (lv0:(Sl Step)) (P2:(Sl Int)->Bool->Int->Int->(Sl Int)->Bool) (zbJ:(Sl Int)) (zaw:Bool) (rv2:Int) (iv2:Int) (zcv:(Sl Int)):Bool :=
  (cond (decide (iv2 < (lv0.len : Int)))
 (decide ((0≤iv2/\iv2 < (lv0.len:Int))) &&
 (decide ((0≤(lv0.get iv2.toNat).From/\(lv0.get iv2.toNat).From < (zbJ.len:Int))) &&
 (decide ((0≤iv2/\iv2 < (lv0.len:Int))) &&
 (decide ((0≤iv2/\iv2 < (lv0.len:Int))) &&
 (decide ((0≤(lv0.get iv2.toNat).To/\(lv0.get iv2.toNat).To < (zcv.len:Int))) &&
 (decide ((((lv0.get iv2.toNat).To).toNat < zcv.len)) &&
 (cond (decide ((w64 ((zbJ.get (((lv0.get iv2.toNat).From).toNat)) + (lv0.get iv2.toNat).Length)) < (zcv.get (((lv0.get iv2.toNat).To).toNat))))
 (decide ((0≤iv2/\iv2 < (lv0.len:Int))) &&
 (decide ((0≤(lv0.get iv2.toNat).To/\(lv0.get iv2.toNat).To < (zcv.len:Int))) &&
 (decide ((((lv0.get iv2.toNat).To).toNat < zcv.len)) &&
 (P2 zbJ true rv2 (w64 (iv2+(1:Int))) (⟨zcv.len,(setT (((lv0.get iv2.toNat).To).toNat) (w64 ((zbJ.get (((lv0.get iv2.toNat).From).toNat))+(lv0.get iv2.toNat).Length)) zcv.get)⟩:Sl Int)))))
 (P2 zbJ zaw rv2 (w64 (iv2+(1:Int))) zcv))))))))
 (P1 zcv zaw (w64 (rv2+(1:Int)))))
def ze7 (S1:(Sl Int)->Bool->Int->Bool) (n:Net) (lv0:(Sl Step)):Nat->(Sl Int)->Bool->Int->Int->(Sl Int)->Bool:=lpO (λ _ _ _ _ _=>default) (ziA S1 n lv0)
def ze8 (P1:(Sl Int)->Bool->Int->Bool) (n:Net) (lv0:(Sl Step)):Nat->(Sl Int)->Bool->Int->Int->(Sl Int)->Bool:=lpO (λ _ _ _ _ _=>false) (ziB P1 n lv0)
def zzk (S1:(Sl Int)->Bool->Int->Bool) (n:Net) (lv0:(Sl Step)) (zbJ:(Sl Int)) (zaw:Bool) (rv2:Int) (iv2:Int) (zcv:(Sl Int)):Bool:=ze7 S1 n lv0 Fuel zbJ zaw rv2 iv2 zcv
def zzl (P1:(Sl Int)->Bool->Int->Bool) (n:Net) (lv0:(Sl Step)) (zbJ:(Sl Int)) (zaw:Bool) (rv2:Int) (iv2:Int) (zcv:(Sl Int)):Bool:=ze8 P1 n lv0 Fuel zbJ zaw rv2 iv2 zcv
theorem zGM (hX1:zGL K n lv0 X1 P1 S1) (hs:zzl P1 n lv0 zbJ zaw rv2 iv2 zcv=true) (hk:K (e31 (zzk S1 n lv0 zbJ zaw rv2 iv2 zcv))) (zno:zen=zg zad zbJ) (zqV:zf5=zg zad zcv):z31 K [1,1,1,1,0,1,0,0,1,0,0,1,1,0,1,0] [X1] (zDg n lv0 zbJ zaw rv2 iv2 zcv zen zf5) :=
  zl (λ X=>z31 K [1,1,1,1,0,1,0,0,1,0,0,1,1,0,1,0,0] [X1,X]) (by kernel_rfl) λ X2 hX =>
  (show ∀ k, zKd K n lv0 X2 (ze8 P1 n lv0 k) (ze7 S1 n lv0 k) from zd1 _ _ (ziB P1 n lv0) (ziA S1 n lv0) (zKd K n lv0 X2)
 (by intro _ _ _ _ _ _ _ hs;exact absurd hs Bool.false_ne_true)
 (by intro P2 S2 hX2 zbJ zaw rv2 iv2 zcv zen zf5 hs hk zno zqV;subst zno;subst zqV;exact hX _ (zaM (by kernel_rfl) (zc hs hk (λ hs hk=>(zaJ hs λ hc hs=>And.intro hc (zaJ hs λ hc hs=>And.intro hc (zaJ hs λ hc hs=>And.intro hc (zaJ hs λ hc hs=>And.intro hc (zaJ hs λ hc hs=>And.intro hc (zaJ hs λ hc hs=>And.intro hc (zc hs hk (λ hs hk=>(zaJ hs λ hc hs=>And.intro hc (zaJ hs λ hc hs=>And.intro hc (zaJ hs λ hc hs=>And.intro hc (hX2 hs hk rfl (zfj (enc:=zad) (i:=((lv0.get iv2.toNat).To).toNat) (k:=0) (f:=zcv.get) (new:=(zad (w64 ((zbJ.get (((lv0.get iv2.toNat).From).toNat))+(lv0.get iv2.toNat).Length)))) (v:=(w64 ((zbJ.get (((lv0.get iv2.toNat).From).toNat))+(lv0.get iv2.toNat).Length))) rfl rfl)))))) (λ hs hk=>(hX2 hs hk rfl rfl)))))))))) (λ hs hk=>(hX1 hs hk rfl)))))) _ hs hk zno zqV
def zf6 (n:Net) (lv0:(Sl Step)) (S1:(Sl Int)->Bool->Int->Bool) (zcc:(Sl Int)) (zaC:Bool) (rv1:Int):Bool :=
  (cond (decide (rv1 < n.Nodes))
 (cond zaC
 (zzk S1 n lv0 zcc false rv1 (0:Int) zcc)
 (!zaC))
 (!zaC))
def zf7 (n:Net) (lv0:(Sl Step)) (P1:(Sl Int)->Bool->Int->Bool) (zcc:(Sl Int)) (zaC:Bool) (rv1:Int):Bool :=
  (cond (decide (rv1 < n.Nodes))
 (cond zaC
 (decide ((zcc.len * 8≤140737488355328/\zcc.len≤9223372036854775807)) &&
 (zzl P1 n lv0 zcc false rv1 (0:Int) zcc))
 true)
 true)
def zg0 (n:Net) (lv0:(Sl Step)):Nat->(Sl Int)->Bool->Int->Bool:=lpO (λ _ _ _=>default) (zf6 n lv0)
def zg1 (n:Net) (lv0:(Sl Step)):Nat->(Sl Int)->Bool->Int->Bool:=lpO (λ _ _ _=>false) (zf7 n lv0)
def zzm (n:Net) (lv0:(Sl Step)) (zcc:(Sl Int)) (zaC:Bool) (rv1:Int):Bool:=zg0 n lv0 Fuel zcc zaC rv1
def zzn (n:Net) (lv0:(Sl Step)) (zcc:(Sl Int)) (zaC:Bool) (rv1:Int):Bool:=zg1 n lv0 Fuel zcc zaC rv1
theorem zGN (hs:zzn n lv0 zcc zaC rv1=true) (hk:K (e31 (zzm n lv0 zcc zaC rv1))) (znp:zem=zg zad zcc):z31 K [1,1,1,1,0,1,0] [] (zDf n lv0 zcc zaC rv1 zem) :=
  zl (λ X=>z31 K [1,1,1,1,0,1,0,0] [X]) (by kernel_rfl) λ X1 hX =>
  (show ∀ k, zGL K n lv0 X1 (zg1 n lv0 k) (zg0 n lv0 k) from zd1 _ _ (zf7 n lv0) (zf6 n lv0) (zGL K n lv0 X1)
 (by intro _ _ _ _ hs;exact absurd hs Bool.false_ne_true)
 (by intro P1 S1 hX1 zcc zaC rv1 zem hs hk znp;subst znp;exact hX _ (zaM (by kernel_rfl) (zc hs hk (λ hs hk=>(zc hs hk (λ hs hk=>(zaJ hs λ hc hs=>And.intro hc (zGM hX1 hs hk rfl rfl))) (λ hs hk=>hk))) (λ hs hk=>hk))))) _ hs hk znp
def zzo (n:Net) (lv0:(Sl Step)):Bool :=
  (zzm n lv0 (⟨n.Nodes.toNat,(λ _=>(0:Int))⟩:Sl Int) true (0:Int))
def zqW (n:Net) (lv0:(Sl Step)):Bool :=
  (decide ((0≤n.Nodes/\n.Nodes=n.Nodes/\n.Nodes≤1000000)) &&
 (zzn n lv0 (⟨n.Nodes.toNat,(λ _=>(0:Int))⟩:Sl Int) true (0:Int)))
theorem zGO (hs:zqW n lv0=true) (hk:K (e31 (zzo n lv0))) (zGP:zzj=zg zch lv0):z31 K [1,1] [] ⟨[(1,zp 1 0),(3,zP (.sl lv0.len 5 zzj))],[(1,.box 24 (zm (enc_24 n)))],[]⟩:=by subst zGP;exact zaM (by kernel_rfl) (zaJ hs λ hc hs=>And.intro hc (zGN hs hk rfl))
def s31 (n:Net):Bool :=
  (zzo n (s77 n))
def p31 (n:Net):Bool :=
  (decide ((p77 n=true)) &&
 (zqW n (s77 n)))
end
theorem q31 (n:Net) (K:List PA->Prop) (hs:p31 n=true) (hk:K (e31 (s31 n))):vcFun Tryd.prog G31 zGK 31 [.agg (enc_24 n)] K :=
  zaM (by kernel_rfl) (zaJ hs λ hc hs=>And.intro (And.intro (zE enc_40 4 n.Ties.get) hc) (zGO hs hk rfl))
def zGQ : List PA → COut
  | [.agg [.int .i64 zae,.sl zac zat zab]]=>.det (IsE enc_40 4 zat zab/\p31 (⟨zae,(⟨zac,zam zab⟩:(Sl Tie))⟩:Net)=true) [.one (.bool (s31 (⟨zae,(⟨zac,zam zab⟩:(Sl Tie))⟩:Net)))]
  | _=>.no
theorem zKe:zar Tryd.prog 31:=⟨_,rfl,rfl,by kernel_rfl⟩
theorem zOC:Ok Tryd.prog 31 zGQ:=za9 zMO zKe λ args K h=>by
  unfold zGQ at h
  split at h
  · rename_i zae zac zat zab
    obtain⟨⟨⟨rfl,zan,rfl⟩,hs⟩,hk⟩:=h
    try rw[zak zan] at hs
    try rw[zak zan] at hk
    exact⟨(λ _ _=>[]),(λ _=>false),zGK,q31 (⟨zae,(⟨zac,zan⟩:(Sl Tie))⟩:Net) K hs hk⟩
  · exact h.elim
abbrev T46:Tabs:=(Tabs.nil.addF 77 zBQ)
theorem zMP:TabsOk Tryd.prog T46:=(TabsOk.nil.addF zNz)
abbrev G46:Ctrs:=csm T46 (λ _ _=>[]) (λ _=>false)
def zGR:Ann:=⟨79,[(0,zK [1,2] [2]),(1,zK [1,2,5] [2]),(2,zK [1,2,5,6] [2,15]),(3,zK [1,2,5,6,7] [2,15]),(4,zK [1,2,5,6,7,19] [2,15]),(5,zK [1,2,5,6,7] [2,15]),(6,zK [1,2,5,6,7] [2,15]),(7,zK [5,6] [15]),(8,zK [5,6,8] [15]),(9,zK [5,6,28] [15]),(10,zK [5,6,8] [15]),(11,zK [5,6,8,9] [15]),(12,zK [5,6,8,9,32] [15]),(13,zK [5,6,8,9] [15]),(14,zK [5,6,8,9,10] [15]),(15,zK [5,6,8,9,10,69] [15]),(16,zK [5,6,8,9] [15]),(17,zK [4] [15])],
 [(4,zK [1,2,5,6,7] [2,15]),(9,zK [5,6,8] [15]),(12,zK [5,6,8,9] [15])],
 [(2,zK [1,2,5] [2]),(7,zK [1,5,6] [15])],
 [],[]⟩
abbrev R46:=(Sl Int)
abbrev e46 (r:R46):List PA:=[.one (.sl r.len 1 (λ i=>zad (r.get i)))]
@[irreducible] def z46:=ptF Tryd.prog G46 zGR Tryd.f46
def zDh (n:Net) (from_a1:Int) (lv0:(Sl Step)) (iv1:Int) (zbm:(Sl Int)) (zci:Nat->List PV):St:=⟨[(1,zI from_a1),(2,zp 2 0),(5,zS zch 5 lv0),(6,zv 15),(7,zI iv1)],[(2,.box 24 (zm (enc_24 n))),(15,.vec 3 1 8 zbm.len zci)],[]⟩
abbrev zKf (K:List PA->Prop) (n:Net) (from_a1:Int) (lv0:(Sl Step)) (X:St->Prop) (P:Int->(Sl Int)->Bool) (S:Int->(Sl Int)->(Sl Int)):Prop:=∀ ⦃iv1:Int⦄ ⦃zbm:(Sl Int)⦄ ⦃zci:Nat->List PV⦄,P iv1 zbm=true->K (e46 (S iv1 zbm))->zci=zg zad zbm->X (zDh n from_a1 lv0 iv1 zbm zci)
def zDi (lv0:(Sl Step)) (zaq:Bool) (zbK:(Sl Int)) (zcj:Nat->List PV):St:=⟨[(5,zS zch 5 lv0),(6,zv 15),(8,zB zaq)],[(15,.vec 3 1 8 zbK.len zcj)],[]⟩
abbrev zGS (K:List PA->Prop) (lv0:(Sl Step)) (X:St->Prop) (P:Bool->(Sl Int)->Bool) (S:Bool->(Sl Int)->(Sl Int)):Prop:=∀ ⦃zaq:Bool⦄ ⦃zbK:(Sl Int)⦄ ⦃zcj:Nat->List PV⦄,P zaq zbK=true->K (e46 (S zaq zbK))->zcj=zg zad zbK->X (zDi lv0 zaq zbK zcj)
def zDj (lv0:(Sl Step)) (za7:Bool) (iv4:Int) (zaH:(Sl Int)) (zb3:Nat->List PV):St:=⟨[(5,zS zch 5 lv0),(6,zv 15),(8,zB za7),(9,zI iv4)],[(15,.vec 3 1 8 zaH.len zb3)],[]⟩
abbrev zKg (K:List PA->Prop) (lv0:(Sl Step)) (X:St->Prop) (P:Bool->Int->(Sl Int)->Bool) (S:Bool->Int->(Sl Int)->(Sl Int)):Prop:=∀ ⦃za7:Bool⦄ ⦃iv4:Int⦄ ⦃zaH:(Sl Int)⦄ ⦃zb3:Nat->List PV⦄,P za7 iv4 zaH=true->K (e46 (S za7 iv4 zaH))->zb3=zg zad zaH->X (zDj lv0 za7 iv4 zaH zb3)
section
variable {K:List PA->Prop}{n:Net}{from_a1:Int}{lv0:(Sl Step)}{zzj:Nat->List PV}{iv1:Int}{zbm:(Sl Int)}{zci:Nat->List PV}{X1:St->Prop}{P1:Int->(Sl Int)->Bool}{S1:Int->(Sl Int)->(Sl Int)}{zcC:(Sl Int)}{zkP:Nat->List PV}{zaq:Bool}{zbK:(Sl Int)}{zcj:Nat->List PV}{X3:St->Prop}{P3:Bool->(Sl Int)->Bool}{S3:Bool->(Sl Int)->(Sl Int)}{za7:Bool}{iv4:Int}{zaH:(Sl Int)}{zb3:Nat->List PV}{X4:St->Prop}{P4:Bool->Int->(Sl Int)->Bool}{S4:Bool->Int->(Sl Int)->(Sl Int)}
def ziC (S3:Bool->(Sl Int)->(Sl Int)) (lv0:(Sl Step)) (S4:Bool->Int->(Sl Int)->(Sl Int)) (za7:Bool) (iv4:Int) (zaH:(Sl Int)):(Sl Int) :=
  (cond (decide (iv4 < (lv0.len : Int)))
 (cond ((zaH.get (((lv0.get iv4.toNat).From).toNat)) != (1000000000000:Int))
 (cond (decide ((w64 ((zaH.get (((lv0.get iv4.toNat).From).toNat)) + (lv0.get iv4.toNat).Length)) < (zaH.get (((lv0.get iv4.toNat).To).toNat))))
 (S4 true (w64 (iv4+(1:Int))) (⟨zaH.len,(setT (((lv0.get iv4.toNat).To).toNat) (w64 ((zaH.get (((lv0.get iv4.toNat).From).toNat))+(lv0.get iv4.toNat).Length)) zaH.get)⟩:Sl Int))
 (S4 za7 (w64 (iv4+(1:Int))) zaH))
 (S4 za7 (w64 (iv4+(1:Int))) zaH))
 (S3 za7 zaH))
def ziD (P3:Bool->(Sl Int)->Bool) (lv0:(Sl Step)) (P4:Bool->Int->(Sl Int)->Bool) (za7:Bool) (iv4:Int) (zaH:(Sl Int)):Bool :=
  (cond (decide (iv4 < (lv0.len : Int)))
 (decide ((0≤iv4/\iv4 < (lv0.len:Int))) &&
 (decide ((0≤(lv0.get iv4.toNat).From/\(lv0.get iv4.toNat).From < (zaH.len:Int))) &&
 (decide ((((lv0.get iv4.toNat).From).toNat < zaH.len)) &&
 (decide ((0≤iv4/\iv4 < (lv0.len:Int))) &&
 (decide ((0≤iv4/\iv4 < (lv0.len:Int))) &&
 (decide ((0≤(lv0.get iv4.toNat).From/\(lv0.get iv4.toNat).From < (zaH.len:Int))) &&
 (decide ((((lv0.get iv4.toNat).From).toNat < zaH.len)) &&
 (cond ((zaH.get (((lv0.get iv4.toNat).From).toNat)) != (1000000000000:Int))
 (decide ((0≤iv4/\iv4 < (lv0.len:Int))) &&
 (decide ((0≤(lv0.get iv4.toNat).To/\(lv0.get iv4.toNat).To < (zaH.len:Int))) &&
 (decide ((((lv0.get iv4.toNat).To).toNat < zaH.len)) &&
 (cond (decide ((w64 ((zaH.get (((lv0.get iv4.toNat).From).toNat)) + (lv0.get iv4.toNat).Length)) < (zaH.get (((lv0.get iv4.toNat).To).toNat))))
 (decide ((0≤iv4/\iv4 < (lv0.len:Int))) &&
 (decide ((0≤(lv0.get iv4.toNat).To/\(lv0.get iv4.toNat).To < (zaH.len:Int))) &&
 (decide ((((lv0.get iv4.toNat).To).toNat < zaH.len)) &&
 (P4 true (w64 (iv4+(1:Int))) (⟨zaH.len,(setT (((lv0.get iv4.toNat).To).toNat) (w64 ((zaH.get (((lv0.get iv4.toNat).From).toNat))+(lv0.get iv4.toNat).Length)) zaH.get)⟩:Sl Int)))))
 (P4 za7 (w64 (iv4+(1:Int))) zaH)))))
 (P4 za7 (w64 (iv4+(1:Int))) zaH)))))))))
 (P3 za7 zaH))
def zdV (S3:Bool->(Sl Int)->(Sl Int)) (lv0:(Sl Step)):Nat->Bool->Int->(Sl Int)->(Sl Int):=lpO (λ _ _ _=>default) (ziC S3 lv0)
def zdW (P3:Bool->(Sl Int)->Bool) (lv0:(Sl Step)):Nat->Bool->Int->(Sl Int)->Bool:=lpO (λ _ _ _=>false) (ziD P3 lv0)
def zqX (S3:Bool->(Sl Int)->(Sl Int)) (lv0:(Sl Step)) (za7:Bool) (iv4:Int) (zaH:(Sl Int)):(Sl Int):=zdV S3 lv0 Fuel za7 iv4 zaH
def zqY (P3:Bool->(Sl Int)->Bool) (lv0:(Sl Step)) (za7:Bool) (iv4:Int) (zaH:(Sl Int)):Bool:=zdW P3 lv0 Fuel za7 iv4 zaH
theorem zGT (hX3:zGS K lv0 X3 P3 S3) (hs:zqY P3 lv0 za7 iv4 zaH=true) (hk:K (e46 (zqX S3 lv0 za7 iv4 zaH))) (ze4:zb3=zg zad zaH):z46 K [1,1,1,1,1,0,1,0,0,1,0,1,1,0] [X3] (zDj lv0 za7 iv4 zaH zb3) :=
  zl (λ X=>z46 K [1,1,1,1,1,0,1,0,0,1,0,1,1,0,0] [X3,X]) (by kernel_rfl) λ X4 hX =>
  (show ∀ k, zKg K lv0 X4 (zdW P3 lv0 k) (zdV S3 lv0 k) from zd1 _ _ (ziD P3 lv0) (ziC S3 lv0) (zKg K lv0 X4)
 (by intro _ _ _ _ hs;exact absurd hs Bool.false_ne_true)
 (by intro P4 S4 hX4 za7 iv4 zaH zb3 hs hk ze4;subst ze4;exact hX _ (zaM (by kernel_rfl) (zc hs hk (λ hs hk=>(zaJ hs λ hc hs=>And.intro hc (zaJ hs λ hc hs=>And.intro hc (zaJ hs λ hc hs=>And.intro hc (zaJ hs λ hc hs=>And.intro hc (zaJ hs λ hc hs=>And.intro hc (zaJ hs λ hc hs=>And.intro hc (zaJ hs λ hc hs=>And.intro hc (zc hs hk (λ hs hk=>(zaJ hs λ hc hs=>And.intro hc (zaJ hs λ hc hs=>And.intro hc (zaJ hs λ hc hs=>And.intro hc (zc hs hk (λ hs hk=>(zaJ hs λ hc hs=>And.intro hc (zaJ hs λ hc hs=>And.intro hc (zaJ hs λ hc hs=>And.intro hc (hX4 hs hk (zfj (enc:=zad) (i:=((lv0.get iv4.toNat).To).toNat) (k:=0) (f:=zaH.get) (new:=(zad (w64 ((zaH.get (((lv0.get iv4.toNat).From).toNat))+(lv0.get iv4.toNat).Length)))) (v:=(w64 ((zaH.get (((lv0.get iv4.toNat).From).toNat))+(lv0.get iv4.toNat).Length))) rfl rfl)))))) (λ hs hk=>(hX4 hs hk rfl))))))) (λ hs hk=>(hX4 hs hk rfl))))))))))) (λ hs hk=>(hX3 hs hk rfl)))))) _ hs hk ze4
def zk4 (lv0:(Sl Step)) (S3:Bool->(Sl Int)->(Sl Int)) (zaq:Bool) (zbK:(Sl Int)):(Sl Int) :=
  (cond zaq
 (zqX S3 lv0 false (0:Int) zbK)
 zbK)
def zk5 (lv0:(Sl Step)) (P3:Bool->(Sl Int)->Bool) (zaq:Bool) (zbK:(Sl Int)):Bool :=
  (cond zaq
 (zqY P3 lv0 false (0:Int) zbK)
 true)
def zcP (lv0:(Sl Step)):Nat->Bool->(Sl Int)->(Sl Int):=lpO (λ _ _=>default) (zk4 lv0)
def zc1 (lv0:(Sl Step)):Nat->Bool->(Sl Int)->Bool:=lpO (λ _ _=>false) (zk5 lv0)
def zzp (lv0:(Sl Step)) (zaq:Bool) (zbK:(Sl Int)):(Sl Int):=zcP lv0 Fuel zaq zbK
def zqZ (lv0:(Sl Step)) (zaq:Bool) (zbK:(Sl Int)):Bool:=zc1 lv0 Fuel zaq zbK
theorem zGU (hs:zqZ lv0 zaq zbK=true) (hk:K (e46 (zzp lv0 zaq zbK))) (zgW:zcj=zg zad zbK):z46 K [1,1,1,1,1,0,1,0] [] (zDi lv0 zaq zbK zcj) :=
  zl (λ X=>z46 K [1,1,1,1,1,0,1,0,0] [X]) (by kernel_rfl) λ X3 hX =>
  (show ∀ k, zGS K lv0 X3 (zc1 lv0 k) (zcP lv0 k) from zd1 _ _ (zk5 lv0) (zk4 lv0) (zGS K lv0 X3)
 (by intro _ _ _ hs;exact absurd hs Bool.false_ne_true)
 (by intro P3 S3 hX3 zaq zbK zcj hs hk zgW;subst zgW;exact hX _ (zaM (by kernel_rfl) (zc hs hk (λ hs hk=>(zGT hX3 hs hk rfl)) (λ hs hk=>hk))))) _ hs hk zgW
def zq0 (from_a1:Int) (lv0:(Sl Step)) (zcC:(Sl Int)):(Sl Int) :=
  (zzp lv0 true (⟨zcC.len,(setT from_a1.toNat (0:Int) zcC.get)⟩:Sl Int))
def znq (from_a1:Int) (lv0:(Sl Step)) (zcC:(Sl Int)):Bool :=
  (decide ((0≤from_a1/\from_a1 < (zcC.len:Int))) &&
 (decide ((from_a1.toNat < zcC.len)) &&
 (zqZ lv0 true (⟨zcC.len,(setT from_a1.toNat (0:Int) zcC.get)⟩:Sl Int))))
theorem zGV (hs:znq from_a1 lv0 zcC=true) (hk:K (e46 (zq0 from_a1 lv0 zcC))) (zqm:zkP=zg zad zcC):z46 K [1,1,1,1] [] ⟨[(1,zI from_a1),(5,zS zch 5 lv0),(6,zv 15)],[(15,.vec 3 1 8 zcC.len zkP)],[]⟩:=by subst zqm;exact zaM (by kernel_rfl) (zaJ hs λ hc hs=>And.intro hc (zaJ hs λ hc hs=>And.intro hc (zGU hs hk (zfj (enc:=zad) (i:=from_a1.toNat) (k:=0) (f:=zcC.get) (new:=(zad (0:Int))) (v:=(0:Int)) rfl rfl))))
def ziE (n:Net) (from_a1:Int) (lv0:(Sl Step)) (S1:Int->(Sl Int)->(Sl Int)) (iv1:Int) (zbm:(Sl Int)):(Sl Int) :=
  (cond (decide (iv1 < n.Nodes))
 (S1 (w64 (iv1+(1:Int))) (⟨zbm.len,(setT iv1.toNat (1000000000000:Int) zbm.get)⟩:Sl Int))
 (zq0 from_a1 lv0 zbm))
def ziF (n:Net) (from_a1:Int) (lv0:(Sl Step)) (P1:Int->(Sl Int)->Bool) (iv1:Int) (zbm:(Sl Int)):Bool :=
  (cond (decide (iv1 < n.Nodes))
 (decide ((0≤iv1/\iv1 < (zbm.len:Int))) &&
 (decide ((iv1.toNat < zbm.len)) &&
 (P1 (w64 (iv1+(1:Int))) (⟨zbm.len,(setT iv1.toNat (1000000000000:Int) zbm.get)⟩:Sl Int))))
 (znq from_a1 lv0 zbm))
def ziG (n:Net) (from_a1:Int) (lv0:(Sl Step)):Nat->Int->(Sl Int)->(Sl Int):=lpO (λ _ _=>default) (ziE n from_a1 lv0)
def ziH (n:Net) (from_a1:Int) (lv0:(Sl Step)):Nat->Int->(Sl Int)->Bool:=lpO (λ _ _=>false) (ziF n from_a1 lv0)
def zzq (n:Net) (from_a1:Int) (lv0:(Sl Step)) (iv1:Int) (zbm:(Sl Int)):(Sl Int):=ziG n from_a1 lv0 Fuel iv1 zbm
def zzr (n:Net) (from_a1:Int) (lv0:(Sl Step)) (iv1:Int) (zbm:(Sl Int)):Bool:=ziH n from_a1 lv0 Fuel iv1 zbm
theorem zGW (hs:zzr n from_a1 lv0 iv1 zbm=true) (hk:K (e46 (zzq n from_a1 lv0 iv1 zbm))) (zgX:zci=zg zad zbm):z46 K [1,1,1,0,1,0] [] (zDh n from_a1 lv0 iv1 zbm zci) :=
  zl (λ X=>z46 K [1,1,1,0,1,0,0] [X]) (by kernel_rfl) λ X1 hX =>
  (show ∀ k, zKf K n from_a1 lv0 X1 (ziH n from_a1 lv0 k) (ziG n from_a1 lv0 k) from zd1 _ _ (ziF n from_a1 lv0) (ziE n from_a1 lv0) (zKf K n from_a1 lv0 X1)
 (by intro _ _ _ hs;exact absurd hs Bool.false_ne_true)
 (by intro P1 S1 hX1 iv1 zbm zci hs hk zgX;subst zgX;exact hX _ (zaM (by kernel_rfl) (zc hs hk (λ hs hk=>(zaJ hs λ hc hs=>And.intro hc (zaJ hs λ hc hs=>And.intro hc (hX1 hs hk (zfj (enc:=zad) (i:=iv1.toNat) (k:=0) (f:=zbm.get) (new:=(zad (1000000000000:Int))) (v:=(1000000000000:Int)) rfl rfl))))) (λ hs hk=>(zGV hs hk rfl)))))) _ hs hk zgX
def zzs (n:Net) (from_a1:Int) (lv0:(Sl Step)):(Sl Int) :=
  (zzq n from_a1 lv0 (0:Int) (⟨n.Nodes.toNat,(λ _=>(0:Int))⟩:Sl Int))
def zq1 (n:Net) (from_a1:Int) (lv0:(Sl Step)):Bool :=
  (decide ((0≤n.Nodes/\n.Nodes=n.Nodes/\n.Nodes≤1000000)) &&
 (zzr n from_a1 lv0 (0:Int) (⟨n.Nodes.toNat,(λ _=>(0:Int))⟩:Sl Int)))
theorem zGX (hs:zq1 n from_a1 lv0=true) (hk:K (e46 (zzs n from_a1 lv0))) (zGP:zzj=zg zch lv0):z46 K [1,1] [] ⟨[(1,zI from_a1),(2,zp 2 0),(5,zP (.sl lv0.len 5 zzj))],[(2,.box 24 (zm (enc_24 n)))],[]⟩:=by subst zGP;exact zaM (by kernel_rfl) (zaJ hs λ hc hs=>And.intro hc (zGW hs hk rfl))
def s46 (n:Net) (from_a1:Int):(Sl Int) :=
  (zzs n from_a1 (s77 n))
def p46 (n:Net) (from_a1:Int):Bool :=
  (decide ((p77 n=true)) &&
 (zq1 n from_a1 (s77 n)))
end
theorem q46 (n:Net) (from_a1:Int) (K:List PA->Prop) (hs:p46 n from_a1=true) (hk:K (e46 (s46 n from_a1))):vcFun Tryd.prog G46 zGR 46 [.agg (enc_24 n),.one (.int .i64 from_a1)] K :=
  zaM (by kernel_rfl) (zaJ hs λ hc hs=>And.intro (And.intro (zE enc_40 4 n.Ties.get) hc) (zGX hs hk rfl))
def zBR : List PA → COut
  | [.agg [.int .i64 zae,.sl zac zat zab],.one (.int .i64 a1)]=>.det (IsE enc_40 4 zat zab/\p46 (⟨zae,(⟨zac,zam zab⟩:(Sl Tie))⟩:Net) a1=true) [.one (.sl ((s46 (⟨zae,(⟨zac,zam zab⟩:(Sl Tie))⟩:Net) a1).len) 1 (λ i=>zad ((s46 (⟨zae,(⟨zac,zam zab⟩:(Sl Tie))⟩:Net) a1).get i)))]
  | _=>.no
theorem zKh:zar Tryd.prog 46:=⟨_,rfl,rfl,by kernel_rfl⟩
theorem zNA:Ok Tryd.prog 46 zBR:=za9 zMP zKh λ args K h=>by
  unfold zBR at h
  split at h
  · rename_i zae zac zat zab a1
    obtain⟨⟨⟨rfl,zan,rfl⟩,hs⟩,hk⟩:=h
    try rw[zak zan] at hs
    try rw[zak zan] at hk
    exact⟨(λ _ _=>[]),(λ _=>false),zGR,q46 (⟨zae,(⟨zac,zan⟩:(Sl Tie))⟩:Net) a1 K hs hk⟩
  · exact h.elim
abbrev T34:Tabs:=(Tabs.nil.addF 46 zBR)
theorem zMQ:TabsOk Tryd.prog T34:=(TabsOk.nil.addF zNA)
abbrev G34:Ctrs:=csm T34 (λ _ _=>[]) (λ _=>false)
def zKi:Ann:=⟨21,[(0,zK [1,2,3,6] [3,6]),(1,zK [6] [6])],
 [],
 [],
 [],[]⟩
abbrev R34:=Span
abbrev e34 (r:R34):List PA:=[.agg [.int .i64 r.Low,.int .i64 r.High]]
section
variable {K:List PA->Prop}{n:Net}{from_a1:Int}{to:Int}
def s34 (n:Net) (from_a1:Int) (to:Int):Span :=
  (⟨(w64 (0 - ((s46 n to).get from_a1.toNat))),((s46 n from_a1).get to.toNat)⟩:Span)
def p34 (n:Net) (from_a1:Int) (to:Int):Bool :=
  (decide ((p46 n to=true)) &&
 (decide ((0≤from_a1/\from_a1 < ((s46 n to).len:Int))) &&
 (decide ((p46 n from_a1=true)) &&
 (decide ((0≤to/\to < ((s46 n from_a1).len:Int))) &&
 true))))
end
theorem q34 (n:Net) (from_a1:Int) (to:Int) (K:List PA->Prop) (hs:p34 n from_a1 to=true) (hk:K (e34 (s34 n from_a1 to))):vcFun Tryd.prog G34 zKi 34 [.agg (enc_24 n),.one (.int .i64 from_a1),.one (.int .i64 to)] K :=
  zaM (by kernel_rfl) (zaJ hs λ hc hs=>And.intro (And.intro (zE enc_40 4 n.Ties.get) hc) (zaJ hs λ hc hs=>And.intro hc (zaJ hs λ hc hs=>And.intro (And.intro (zE enc_40 4 n.Ties.get) hc) (zaJ hs λ hc hs=>And.intro hc hk))))
def zBS : List PA → COut
  | [.agg [.int .i64 zae,.sl zac zat zab],.one (.int .i64 a1),.one (.int .i64 a2)]=>.det (IsE enc_40 4 zat zab/\p34 (⟨zae,(⟨zac,zam zab⟩:(Sl Tie))⟩:Net) a1 a2=true) [.agg [.int .i64 ((s34 (⟨zae,(⟨zac,zam zab⟩:(Sl Tie))⟩:Net) a1 a2).Low),.int .i64 ((s34 (⟨zae,(⟨zac,zam zab⟩:(Sl Tie))⟩:Net) a1 a2).High)]]
  | _=>.no
theorem zKj:zar Tryd.prog 34:=⟨_,rfl,rfl,by kernel_rfl⟩
theorem zNB:Ok Tryd.prog 34 zBS:=za9 zMQ zKj λ args K h=>by
  unfold zBS at h
  split at h
  · rename_i zae zac zat zab a1 a2
    obtain⟨⟨⟨rfl,zan,rfl⟩,hs⟩,hk⟩:=h
    try rw[zak zan] at hs
    try rw[zak zan] at hk
    exact⟨(λ _ _=>[]),(λ _=>false),zKi,q34 (⟨zae,(⟨zac,zan⟩:(Sl Tie))⟩:Net) a1 a2 K hs hk⟩
  · exact h.elim
abbrev T33:Tabs:=(Tabs.nil.addF 34 zBS)
theorem zMR:TabsOk Tryd.prog T33:=(TabsOk.nil.addF zNB)
abbrev G33:Ctrs:=csm T33 (λ _ _=>[]) (λ _=>false)
def zGY:Ann:=⟨18,[(0,zK [1] [1]),(1,zK [1,3] [1]),(2,zK [1,3,4] [1]),(3,zK [1,3,4,8] [1,16]),(4,zK [1,3,4] [1,16]),(5,zK [1,3,4] [1,16]),(6,zK [2] [16])],
 [(3,⟨[1,3,4],[1,16],[(3,16,43,λ _=>za1 default)],[],[],[],[]⟩)],
 [],
 [],[]⟩
abbrev R33:=(Sl Span)
abbrev e33 (r:R33):List PA:=[.one (.sl r.len 2 (λ i=>za1 (r.get i)))]
@[irreducible] def z33:=ptF Tryd.prog G33 zGY Tryd.f33
def zDk (n:Net) (iv0:Int) (zcU:(Sl Span)) (zf8:Nat->List PV):St:=⟨[(1,zp 1 0),(3,zv 16),(4,zI iv0)],[(1,.box 24 (zm (enc_24 n))),(16,.vec 43 2 16 zcU.len zf8)],[]⟩
abbrev zKk (K:List PA->Prop) (n:Net) (X:St->Prop) (P:Int->(Sl Span)->Bool) (S:Int->(Sl Span)->(Sl Span)):Prop:=∀ ⦃iv0:Int⦄ ⦃zcU:(Sl Span)⦄ ⦃zf8:Nat->List PV⦄,P iv0 zcU=true->K (e33 (S iv0 zcU))->zf8=zg za1 zcU->X (zDk n iv0 zcU zf8)
section
variable {K:List PA->Prop}{n:Net}{iv0:Int}{zcU:(Sl Span)}{zf8:Nat->List PV}{X0:St->Prop}{P0:Int->(Sl Span)->Bool}{S0:Int->(Sl Span)->(Sl Span)}
def ziI (n:Net) (S0:Int->(Sl Span)->(Sl Span)) (iv0:Int) (zcU:(Sl Span)):(Sl Span) :=
  (cond (decide (iv0 < n.Nodes))
 (S0 (w64 (iv0+(1:Int))) (⟨(zcU.len+1),(zgi zcU.len zcU.get (λ _=>(s34 n (0:Int) iv0)))⟩:Sl Span))
 zcU)
def ziJ (n:Net) (P0:Int->(Sl Span)->Bool) (iv0:Int) (zcU:(Sl Span)):Bool :=
  (cond (decide (iv0 < n.Nodes))
 (decide ((p34 n (0:Int) iv0=true)) &&
 (decide (((zcU.len+1) * 16≤140737488355328/\zcU.len+1≤9223372036854775807)) &&
 (P0 (w64 (iv0+(1:Int))) (⟨(zcU.len+1),(zgi zcU.len zcU.get (λ _=>(s34 n (0:Int) iv0)))⟩:Sl Span))))
 true)
def zg2 (n:Net):Nat->Int->(Sl Span)->(Sl Span):=lpO (λ _ _=>default) (ziI n)
def zg3 (n:Net):Nat->Int->(Sl Span)->Bool:=lpO (λ _ _=>false) (ziJ n)
def zzt (n:Net) (iv0:Int) (zcU:(Sl Span)):(Sl Span):=zg2 n Fuel iv0 zcU
def zzu (n:Net) (iv0:Int) (zcU:(Sl Span)):Bool:=zg3 n Fuel iv0 zcU
theorem zGZ (hs:zzu n iv0 zcU=true) (hk:K (e33 (zzt n iv0 zcU))) (zq2:zf8=zg za1 zcU):z33 K [1,1,0,1,0] [] (zDk n iv0 zcU zf8) :=
  zl (λ X=>z33 K [1,1,0,1,0,0] [X]) (by kernel_rfl) λ X0 hX =>
  (show ∀ k, zKk K n X0 (zg3 n k) (zg2 n k) from zd1 _ _ (ziJ n) (ziI n) (zKk K n X0)
 (by intro _ _ _ hs;exact absurd hs Bool.false_ne_true)
 (by intro P0 S0 hX0 iv0 zcU zf8 hs hk zq2;subst zq2;exact hX _ (zaM (by kernel_rfl) (zc hs hk (λ hs hk=>(zaJ hs λ hc hs=>And.intro (And.intro (zE enc_40 4 n.Ties.get) hc) (zaJ hs λ hc hs=>And.intro hc (hX0 hs hk (zjb (enc:=za1) (f:=zcU.get) (h:=(λ _=>(s34 n (0:Int) iv0))) rfl rfl))))) (λ hs hk=>hk))))) _ hs hk zq2
def s33 (n:Net):(Sl Span) :=
  (zzt n (0:Int) (⟨0,(λ _=>default)⟩:Sl Span))
def p33 (n:Net):Bool :=
  (zzu n (0:Int) (⟨0,(λ _=>default)⟩:Sl Span))
end
theorem q33 (n:Net) (K:List PA->Prop) (hs:p33 n=true) (hk:K (e33 (s33 n))):vcFun Tryd.prog G33 zGY 33 [.agg (enc_24 n)] K :=
  zaM (by kernel_rfl) (zGZ hs hk rfl)
def zG0 : List PA → COut
  | [.agg [.int .i64 zae,.sl zac zat zab]]=>.det (IsE enc_40 4 zat zab/\p33 (⟨zae,(⟨zac,zam zab⟩:(Sl Tie))⟩:Net)=true) [.one (.sl ((s33 (⟨zae,(⟨zac,zam zab⟩:(Sl Tie))⟩:Net)).len) 2 (λ i=>za1 ((s33 (⟨zae,(⟨zac,zam zab⟩:(Sl Tie))⟩:Net)).get i)))]
  | _=>.no
theorem zKl:zar Tryd.prog 33:=⟨_,rfl,rfl,by kernel_rfl⟩
theorem zOD:Ok Tryd.prog 33 zG0:=za9 zMR zKl λ args K h=>by
  unfold zG0 at h
  split at h
  · rename_i zae zac zat zab
    obtain⟨⟨⟨rfl,zan,rfl⟩,hs⟩,hk⟩:=h
    try rw[zak zan] at hs
    try rw[zak zan] at hk
    exact⟨(λ _ _=>[]),(λ _=>false),zGY,q33 (⟨zae,(⟨zac,zan⟩:(Sl Tie))⟩:Net) K hs hk⟩
  · exact h.elim
abbrev T39:Tabs:=Tabs.nil
theorem zMS:TabsOk Tryd.prog T39:=TabsOk.nil
abbrev G39:Ctrs:=csm T39 (λ _ _=>[]) (λ _=>false)
def zKm:Ann:=⟨37,[(0,zK [1,2] [2]),(1,zK [2,5] [2]),(2,zK [4] [])],
 [],
 [],
 [],[]⟩
abbrev R39:=Bool
abbrev e39 (r:R39):List PA:=[.one (.bool r)]
section
variable {K:List PA->Prop}{t:Tie}{values:(Sl Int)}
def s39 (t:Tie) (values:(Sl Int)):Bool :=
  (cond (t.Low == (-1000000000000:Int))
 (cond (t.High == (1000000000000:Int))
 true
 (decide ((w64 ((values.get t.To.toNat) - (values.get t.From.toNat)))≤t.High)))
 (cond (decide ((w64 ((values.get t.To.toNat) - (values.get t.From.toNat))) ≥ t.Low))
 (cond (t.High == (1000000000000:Int))
 true
 (decide ((w64 ((values.get t.To.toNat) - (values.get t.From.toNat)))≤t.High)))
 false))
def p39 (t:Tie) (values:(Sl Int)):Bool :=
  (decide ((0≤t.To/\t.To < (values.len:Int))) &&
 (decide ((0≤t.From/\t.From < (values.len:Int))) &&
 true))
end
theorem q39 (t:Tie) (values:(Sl Int)) (K:List PA->Prop) (hs:p39 t values=true) (hk:K (e39 (s39 t values))):vcFun Tryd.prog G39 zKm 39 [.agg (enc_40 t),.one (.sl values.len 1 (λ i=>zad (values.get i)))] K :=
  zaM (by kernel_rfl) (zaJ hs λ hc hs=>And.intro hc (zaJ hs λ hc hs=>And.intro hc (zt hk (λ hk=>(zt hk (λ hk=>hk) (λ hk=>hk))) (λ hk=>(zt hk (λ hk=>(zt hk (λ hk=>hk) (λ hk=>hk))) (λ hk=>hk))))))
def zG1 : List PA → COut
  | [.agg [.int .i64 zfH,.int .i64 zox,.int .i64 zjd,.int .i64 zfI],.one (.sl zdJ zie zdB)]=>.det (IsE zad 1 zie zdB/\p39 (⟨zfH,zox,zjd,zfI⟩:Tie) (⟨zdJ,zav zdB⟩:(Sl Int))=true) [.one (.bool (s39 (⟨zfH,zox,zjd,zfI⟩:Tie) (⟨zdJ,zav zdB⟩:(Sl Int))))]
  | _=>.no
theorem zKn:zar Tryd.prog 39:=⟨_,rfl,rfl,by kernel_rfl⟩
theorem zOE:Ok Tryd.prog 39 zG1:=za9 zMS zKn λ args K h=>by
  unfold zG1 at h
  split at h
  · rename_i zfH zox zjd zfI zdJ zie zdB
    obtain⟨⟨⟨rfl,zfL,rfl⟩,hs⟩,hk⟩:=h
    try rw[zba zfL] at hs
    try rw[zba zfL] at hk
    exact⟨(λ _ _=>[]),(λ _=>false),zKm,q39 (⟨zfH,zox,zjd,zfI⟩:Tie) (⟨zdJ,zfL⟩:(Sl Int)) K hs hk⟩
  · exact h.elim
abbrev T80:Tabs:=(Tabs.nil.addF 72 zzc)
theorem zMT:TabsOk Tryd.prog T80:=(TabsOk.nil.addF zMK)
abbrev G80:Ctrs:=csm T80 (λ _ _=>[]) (λ _=>false)
def zG2:Ann:=⟨29,[(0,zK [1,2] [2]),(1,zK [1,16] []),(2,zK [4] []),(3,zK [1,5] []),(4,zK [1,5,20] []),(5,zK [1,5] []),(6,zK [1,5,28] []),(7,zK [4] []),(8,zK [4] [])],
 [(4,zK [1,5] [])],
 [(3,zK [1] []),(7,zK [1,5,28] [])],
 [],[]⟩
abbrev R80:=Bool
abbrev e80 (r:R80):List PA:=[.one (.bool r)]
@[irreducible] def z80:=ptF Tryd.prog G80 zG2 Tryd.f80
def zDl (values:(Sl Int)) (iv1:Int):St:=⟨[(1,zS zad 1 values),(5,zI iv1)],[],[]⟩
abbrev zG3 (K:List PA->Prop) (values:(Sl Int)) (X:St->Prop) (P:Int->Bool) (S:Int->Bool):Prop:=∀ ⦃iv1:Int⦄,P iv1=true->K (e80 (S iv1))->X (zDl values iv1)
section
variable {K:List PA->Prop}{n:Net}{values:(Sl Int)}{iv1:Int}{X1:St->Prop}{P1:Int->Bool}{S1:Int->Bool}{iv2:Int}{zoS:Bool}
def zq3 (S1:Int->Bool) (values:(Sl Int)) (iv2:Int) (zoS:Bool):Bool :=
  (cond zoS
 false
 (S1 (w64 (iv2+(1:Int)))))
def zq4 (P1:Int->Bool) (values:(Sl Int)) (iv2:Int) (zoS:Bool):Bool :=
  (cond zoS
 true
 (P1 (w64 (iv2+(1:Int)))))
theorem zG4 (hX1:zG3 K values X1 P1 S1) (hs:zq4 P1 values iv2 zoS=true) (hk:K (e80 (zq3 S1 values iv2 zoS))):z80 K [1,1,0,1,0,0,1,0,0,1] [X1] ⟨[(1,zS zad 1 values),(5,zI iv2),(28,zB zoS)],[],[]⟩:=zaM (by kernel_rfl) (zc hs hk (λ hs hk=>hk) (λ hs hk=>(hX1 hs hk)))
def ziK (values:(Sl Int)) (S1:Int->Bool) (iv1:Int):Bool :=
  (cond (decide (iv1 < (values.len : Int)))
 (zq3 S1 values iv1 (!(s72 (values.get iv1.toNat) (-1000000000000:Int) (1000000000000:Int))))
 true)
def ziL (values:(Sl Int)) (P1:Int->Bool) (iv1:Int):Bool :=
  (cond (decide (iv1 < (values.len : Int)))
 (decide ((0≤iv1/\iv1 < (values.len:Int))) &&
 (zq4 P1 values iv1 (!(s72 (values.get iv1.toNat) (-1000000000000:Int) (1000000000000:Int)))))
 true)
def zg4 (values:(Sl Int)):Nat->Int->Bool:=lpO (λ _=>default) (ziK values)
def ziM (values:(Sl Int)):Nat->Int->Bool:=lpO (λ _=>false) (ziL values)
def zq5 (values:(Sl Int)) (iv1:Int):Bool:=zg4 values Fuel iv1
def zq6 (values:(Sl Int)) (iv1:Int):Bool:=ziM values Fuel iv1
theorem zG5 (hs:zq6 values iv1=true) (hk:K (e80 (zq5 values iv1))):z80 K [1,1,0,1,0] [] (zDl values iv1) :=
  zl (λ X=>z80 K [1,1,0,1,0,0] [X]) (by kernel_rfl) λ X1 hX =>
  (show ∀ k, zG3 K values X1 (ziM values k) (zg4 values k) from zd1 _ _ (ziL values) (ziK values) (zG3 K values X1)
 (by intro _ hs;exact absurd hs Bool.false_ne_true)
 (by intro P1 S1 hX1 iv1 hs hk;exact hX _ (zaM (by kernel_rfl) (zc hs hk (λ hs hk=>(zaJ hs λ hc hs=>And.intro hc (zG4 hX1 hs hk))) (λ hs hk=>hk))))) _ hs hk
def zq7 (values:(Sl Int)):Bool :=
  (zq5 values (0:Int))
def zq8 (values:(Sl Int)):Bool :=
  (zq6 values (0:Int))
theorem zG6 (hs:zq8 values=true) (hk:K (e80 (zq7 values))):z80 K [1,1] [] ⟨[(1,zS zad 1 values)],[],[]⟩:=zaM (by kernel_rfl) (zG5 hs hk)
def s80 (n:Net) (values:(Sl Int)):Bool :=
  (cond ((values.len : Int) != n.Nodes)
 false
 (cond ((values.get 0) != (0:Int))
 false
 (zq7 values)))
def p80 (n:Net) (values:(Sl Int)):Bool :=
  (cond ((values.len : Int) != n.Nodes)
 true
 (decide ((0≤(0:Int)/\(0:Int) < (values.len:Int))) &&
 (cond ((values.get 0) != (0:Int))
 true
 (zq8 values))))
end
theorem q80 (n:Net) (values:(Sl Int)) (K:List PA->Prop) (hs:p80 n values=true) (hk:K (e80 (s80 n values))):vcFun Tryd.prog G80 zG2 80 [.agg (enc_24 n),.one (.sl values.len 1 (λ i=>zad (values.get i)))] K :=
  zaM (by kernel_rfl) (zc hs hk (λ hs hk=>hk) (λ hs hk=>(zaJ hs λ hc hs=>And.intro hc (zc hs hk (λ hs hk=>hk) (λ hs hk=>(zG6 hs hk))))))
def zG7 : List PA → COut
  | [.agg [.int .i64 zae,.sl zac zat zab],.one (.sl zdJ zie zdB)]=>.det (IsE enc_40 4 zat zab/\IsE zad 1 zie zdB/\p80 (⟨zae,(⟨zac,zam zab⟩:(Sl Tie))⟩:Net) (⟨zdJ,zav zdB⟩:(Sl Int))=true) [.one (.bool (s80 (⟨zae,(⟨zac,zam zab⟩:(Sl Tie))⟩:Net) (⟨zdJ,zav zdB⟩:(Sl Int))))]
  | _=>.no
theorem zKo:zar Tryd.prog 80:=⟨_,rfl,rfl,by kernel_rfl⟩
theorem zOF:Ok Tryd.prog 80 zG7:=za9 zMT zKo λ args K h=>by
  unfold zG7 at h
  split at h
  · rename_i zae zac zat zab zdJ zie zdB
    obtain⟨⟨⟨rfl,zan,rfl⟩,⟨rfl,zfL,rfl⟩,hs⟩,hk⟩:=h
    try rw[zak zan] at hs
    try rw[zak zan] at hk
    try rw[zba zfL] at hs
    try rw[zba zfL] at hk
    exact⟨(λ _ _=>[]),(λ _=>false),zG2,q80 (⟨zae,(⟨zac,zan⟩:(Sl Tie))⟩:Net) (⟨zdJ,zfL⟩:(Sl Int)) K hs hk⟩
  · exact h.elim
abbrev T38:Tabs:=((Tabs.nil.addF 39 zG1).addF 80 zG7)
theorem zMU:TabsOk Tryd.prog T38:=((TabsOk.nil.addF zOE).addF zOF)
abbrev G38:Ctrs:=csm T38 (λ _ _=>[]) (λ _=>false)
def zG8:Ann:=⟨25,[(0,zK [1,2] [2]),(1,zK [1,2,9] [2]),(2,zK [4] []),(3,zK [1,2,5] [2]),(4,zK [1,2,5,14] [2]),(5,zK [1,2,5] [2]),(6,zK [1,2,5,24] [2]),(7,zK [4] []),(8,zK [4] [])],
 [(4,zK [1,2,5] [2])],
 [(2,zK [1,2,9] [2]),(3,zK [1,2] [2]),(7,zK [1,2,5,24] [2])],
 [],[]⟩
abbrev R38:=Bool
abbrev e38 (r:R38):List PA:=[.one (.bool r)]
@[irreducible] def z38:=ptF Tryd.prog G38 zG8 Tryd.f38
def zDm (n:Net) (values:(Sl Int)) (iv2:Int):St:=⟨[(1,zS zad 1 values),(2,zp 2 0),(5,zI iv2)],[(2,.box 24 (zm (enc_24 n)))],[]⟩
abbrev zG9 (K:List PA->Prop) (n:Net) (values:(Sl Int)) (X:St->Prop) (P:Int->Bool) (S:Int->Bool):Prop:=∀ ⦃iv2:Int⦄,P iv2=true->K (e38 (S iv2))->X (zDm n values iv2)
section
variable {K:List PA->Prop}{n:Net}{values:(Sl Int)}{zgY:Bool}{iv2:Int}{X2:St->Prop}{P2:Int->Bool}{S2:Int->Bool}{iv3:Int}{zq9:Bool}
def zra (S2:Int->Bool) (n:Net) (values:(Sl Int)) (iv3:Int) (zq9:Bool):Bool :=
  (cond zq9
 false
 (S2 (w64 (iv3+(1:Int)))))
def zrb (P2:Int->Bool) (n:Net) (values:(Sl Int)) (iv3:Int) (zq9:Bool):Bool :=
  (cond zq9
 true
 (P2 (w64 (iv3+(1:Int)))))
theorem zHa (hX2:zG9 K n values X2 P2 S2) (hs:zrb P2 n values iv3 zq9=true) (hk:K (e38 (zra S2 n values iv3 zq9))):z38 K [1,1,0,1,0,0,1,0,0,1] [X2] ⟨[(1,zS zad 1 values),(2,zp 2 0),(5,zI iv3),(24,zB zq9)],[(2,.box 24 (zm (enc_24 n)))],[]⟩:=zaM (by kernel_rfl) (zc hs hk (λ hs hk=>hk) (λ hs hk=>(hX2 hs hk)))
def ziN (n:Net) (values:(Sl Int)) (S2:Int->Bool) (iv2:Int):Bool :=
  (cond (decide (iv2 < (n.Ties.len : Int)))
 (zra S2 n values iv2 (!(s39 (n.Ties.get iv2.toNat) values)))
 true)
def ziO (n:Net) (values:(Sl Int)) (P2:Int->Bool) (iv2:Int):Bool :=
  (cond (decide (iv2 < (n.Ties.len : Int)))
 (decide ((0≤iv2/\iv2 < (n.Ties.len:Int))) &&
 (decide ((p39 (n.Ties.get iv2.toNat) values=true)) &&
 (zrb P2 n values iv2 (!(s39 (n.Ties.get iv2.toNat) values)))))
 true)
def ziP (n:Net) (values:(Sl Int)):Nat->Int->Bool:=lpO (λ _=>default) (ziN n values)
def ziQ (n:Net) (values:(Sl Int)):Nat->Int->Bool:=lpO (λ _=>false) (ziO n values)
def zrd (n:Net) (values:(Sl Int)) (iv2:Int):Bool:=ziP n values Fuel iv2
def zre (n:Net) (values:(Sl Int)) (iv2:Int):Bool:=ziQ n values Fuel iv2
theorem zHb (hs:zre n values iv2=true) (hk:K (e38 (zrd n values iv2))):z38 K [1,1,0,1,0] [] (zDm n values iv2) :=
  zl (λ X=>z38 K [1,1,0,1,0,0] [X]) (by kernel_rfl) λ X2 hX =>
  (show ∀ k, zG9 K n values X2 (ziQ n values k) (ziP n values k) from zd1 _ _ (ziO n values) (ziN n values) (zG9 K n values X2)
 (by intro _ hs;exact absurd hs Bool.false_ne_true)
 (by intro P2 S2 hX2 iv2 hs hk;exact hX _ (zaM (by kernel_rfl) (zc hs hk (λ hs hk=>(zaJ hs λ hc hs=>And.intro hc (zaJ hs λ hc hs=>And.intro (And.intro (zE zad 1 values.get) hc) (zHa hX2 hs hk)))) (λ hs hk=>hk))))) _ hs hk
def zrf (n:Net) (values:(Sl Int)):Bool :=
  (zrd n values (0:Int))
def zrg (n:Net) (values:(Sl Int)):Bool :=
  (zre n values (0:Int))
theorem zHc (hs:zrg n values=true) (hk:K (e38 (zrf n values))):z38 K [1,1] [] ⟨[(1,zS zad 1 values),(2,zp 2 0)],[(2,.box 24 (zm (enc_24 n)))],[]⟩:=zaM (by kernel_rfl) (zHb hs hk)
def zrh (n:Net) (values:(Sl Int)) (zgY:Bool):Bool :=
  (cond zgY
 false
 (zrf n values))
def zrj (n:Net) (values:(Sl Int)) (zgY:Bool):Bool :=
  (cond zgY
 true
 (zrg n values))
theorem zHd (hs:zrj n values zgY=true) (hk:K (e38 (zrh n values zgY))):z38 K [1,0,1] [] ⟨[(1,zS zad 1 values),(2,zp 2 0),(9,zB zgY)],[(2,.box 24 (zm (enc_24 n)))],[]⟩:=zaM (by kernel_rfl) (zc hs hk (λ hs hk=>hk) (λ hs hk=>(zHc hs hk)))
def s38 (n:Net) (values:(Sl Int)):Bool :=
  (zrh n values (!(s80 n values)))
def p38 (n:Net) (values:(Sl Int)):Bool :=
  (decide ((p80 n values=true)) &&
 (zrj n values (!(s80 n values))))
end
theorem q38 (n:Net) (values:(Sl Int)) (K:List PA->Prop) (hs:p38 n values=true) (hk:K (e38 (s38 n values))):vcFun Tryd.prog G38 zG8 38 [.agg (enc_24 n),.one (.sl values.len 1 (λ i=>zad (values.get i)))] K :=
  zaM (by kernel_rfl) (zaJ hs λ hc hs=>And.intro (And.intro (zE enc_40 4 n.Ties.get) (And.intro (zE zad 1 values.get) hc)) (zHd hs hk))
def zHe : List PA → COut
  | [.agg [.int .i64 zae,.sl zac zat zab],.one (.sl zdJ zie zdB)]=>.det (IsE enc_40 4 zat zab/\IsE zad 1 zie zdB/\p38 (⟨zae,(⟨zac,zam zab⟩:(Sl Tie))⟩:Net) (⟨zdJ,zav zdB⟩:(Sl Int))=true) [.one (.bool (s38 (⟨zae,(⟨zac,zam zab⟩:(Sl Tie))⟩:Net) (⟨zdJ,zav zdB⟩:(Sl Int))))]
  | _=>.no
theorem zKp:zar Tryd.prog 38:=⟨_,rfl,rfl,by kernel_rfl⟩
theorem zOG:Ok Tryd.prog 38 zHe:=za9 zMU zKp λ args K h=>by
  unfold zHe at h
  split at h
  · rename_i zae zac zat zab zdJ zie zdB
    obtain⟨⟨⟨rfl,zan,rfl⟩,⟨rfl,zfL,rfl⟩,hs⟩,hk⟩:=h
    try rw[zak zan] at hs
    try rw[zak zan] at hk
    try rw[zba zfL] at hs
    try rw[zba zfL] at hk
    exact⟨(λ _ _=>[]),(λ _=>false),zG8,q38 (⟨zae,(⟨zac,zan⟩:(Sl Tie))⟩:Net) (⟨zdJ,zfL⟩:(Sl Int)) K hs hk⟩
  · exact h.elim
abbrev T43:Tabs:=((((Tabs.nil.addF 74 zp5).addF 76 zt7).addF 83 zwl).addF 84 zwv)
theorem zMV:TabsOk Tryd.prog T43:=((((TabsOk.nil.addF zIV).addF zLk).addF zLZ).addF zL6)
abbrev G43:Ctrs:=csm T43 (λ _ _=>[]) (λ _=>false)
def zKq:Ann:=⟨23,[(0,zK [1] [1]),(1,zK [4,5] []),(2,zK [4,5,13] []),(3,zK [2,3] []),(4,zK [4,17] []),(5,zK [2,3] []),(6,zK [4,6] [6]),(7,zK [2,3] [])],
 [],
 [],
 [],[]⟩
abbrev R43:=((Sl Int)×Int)
abbrev e43 (r:R43):List PA:=[.one (.sl r.1.len 1 (λ i=>zad (r.1.get i))),.one (.int .i64 r.2)]
section
variable {K:List PA->Prop}{n:Net}
def s43 (n:Net):((Sl Int)×Int) :=
  (cond ((s74 n (⟨0, λ _ => default⟩ : (Sl Int))).2 == 0)
 (cond ((0:Int) != (0:Int))
 ((⟨0,λ _=>default⟩:(Sl Int)),(0:Int))
 (cond (!(s83 (⟨(s74 n (⟨0, λ _ => default⟩ : (Sl Int))).1.Net, ((s74 n (⟨0, λ _ => default⟩ : (Sl Int))).1.out)⟩ : web)))
 ((⟨0,λ _=>default⟩:(Sl Int)),(6:Int))
 ((zwq (zas (zaf (s76 (⟨(s74 n (⟨0,λ _=>default⟩:(Sl Int))).1.Net,((s74 n (⟨0,λ _=>default⟩:(Sl Int))).1.out)⟩:web) (0:Int)))) (⟨(s74 n (⟨0,λ _=>default⟩:(Sl Int))).1.Net,((s74 n (⟨0,λ _=>default⟩:(Sl Int))).1.out)⟩:web)),(0:Int))))
 (cond ((s74 n (⟨0, λ _ => default⟩ : (Sl Int))).2 != (0:Int))
 ((⟨0,λ _=>default⟩:(Sl Int)),(s74 n (⟨0,λ _=>default⟩:(Sl Int))).2)
 default))
def p43 (n:Net):Bool :=
  (cond ((s74 n (⟨0, λ _ => default⟩ : (Sl Int))).2 == 0)
 (decide ((p74 n (⟨0,λ _=>default⟩:(Sl Int))=true)) &&
 (cond ((0:Int) != (0:Int))
 true
 (decide ((p83 (⟨(s74 n (⟨0,λ _=>default⟩:(Sl Int))).1.Net,((s74 n (⟨0,λ _=>default⟩:(Sl Int))).1.out)⟩:web)=true)) &&
 (cond (!(s83 (⟨(s74 n (⟨0, λ _ => default⟩ : (Sl Int))).1.Net, ((s74 n (⟨0, λ _ => default⟩ : (Sl Int))).1.out)⟩ : web)))
 true
 (decide ((p76 (⟨(s74 n (⟨0,λ _=>default⟩:(Sl Int))).1.Net,((s74 n (⟨0,λ _=>default⟩:(Sl Int))).1.out)⟩:web) (0:Int)=true)) &&
 (decide ((zHR (zas (zaf (s76 (⟨(s74 n (⟨0,λ _=>default⟩:(Sl Int))).1.Net,((s74 n (⟨0,λ _=>default⟩:(Sl Int))).1.out)⟩:web) (0:Int)))) (⟨(s74 n (⟨0,λ _=>default⟩:(Sl Int))).1.Net,((s74 n (⟨0,λ _=>default⟩:(Sl Int))).1.out)⟩:web)=true)) &&
 true))))))
 (decide ((p74 n (⟨0,λ _=>default⟩:(Sl Int))=true)) &&
 (cond ((s74 n (⟨0, λ _ => default⟩ : (Sl Int))).2 != (0:Int))
 true
 false)))
end
theorem q43 (n:Net) (K:List PA->Prop) (hs:p43 n=true) (hk:K (e43 (s43 n))):vcFun Tryd.prog G43 zKq 43 [.agg (enc_24 n)] (Wk K) :=
  zaM (by kernel_rfl) (zc hs hk (λ hs hk=>(zaJ hs λ hc hs=>And.intro (And.intro (zE enc_40 4 n.Ties.get) hc) (zc hs hk (λ hs hk=>((wk hk (zeF (.one (.nil _ _)) (zeF (.one (.rfl _)) zkK))):Wk K [.one (.nils),.one (.int .i64 (0:Int))])) (λ hs hk=>(zaJ hs λ hc hs=>And.intro (And.intro (zE enc_40 4 ((s74 n (⟨0,λ _=>default⟩:(Sl Int))).1.Net.Ties.get)) (And.intro (rfl:((false,1,false,[none]):MQ)=(false,1,false,[none])) hc)) (zc hs hk (λ hs hk=>((wk hk (zeF (.one (.nil _ _)) (zeF (.one (.rfl _)) zkK))):Wk K [.one (.nils),.one (.int .i64 (6:Int))])) (λ hs hk=>(zaJ hs λ hc hs=>And.intro (And.intro (zE enc_40 4 ((s74 n (⟨0,λ _=>default⟩:(Sl Int))).1.Net.Ties.get)) (And.intro (rfl:((false,1,false,[none]):MQ)=(false,1,false,[none])) hc)) (zaJ hs λ hc hs=>And.intro (And.intro (zE enc_40 4 ((s74 n (⟨0,λ _=>default⟩:(Sl Int))).1.Net.Ties.get)) (And.intro (rfl:((false,1,false,[none]):MQ)=(false,1,false,[none])) (And.intro (zeV:zaf (s76 (⟨(s74 n (⟨0,λ _=>default⟩:(Sl Int))).1.Net,((s74 n (⟨0,λ _=>default⟩:(Sl Int))).1.out)⟩:web) (0:Int))=zaf (zas (zaf (s76 (⟨(s74 n (⟨0,λ _=>default⟩:(Sl Int))).1.Net,((s74 n (⟨0,λ _=>default⟩:(Sl Int))).1.out)⟩:web) (0:Int))))) hc))) ((zfl hk):Wk K [.one (.sl ((zwq (zas (zaf (s76 (⟨(s74 n (⟨0,λ _=>default⟩:(Sl Int))).1.Net,((s74 n (⟨0,λ _=>default⟩:(Sl Int))).1.out)⟩:web) (0:Int)))) (⟨(s74 n (⟨0,λ _=>default⟩:(Sl Int))).1.Net,((s74 n (⟨0,λ _=>default⟩:(Sl Int))).1.out)⟩:web)).len) 1 (λ i=>zad ((zwq (zas (zaf (s76 (⟨(s74 n (⟨0,λ _=>default⟩:(Sl Int))).1.Net,((s74 n (⟨0,λ _=>default⟩:(Sl Int))).1.out)⟩:web) (0:Int)))) (⟨(s74 n (⟨0,λ _=>default⟩:(Sl Int))).1.Net,((s74 n (⟨0,λ _=>default⟩:(Sl Int))).1.out)⟩:web)).get i))),.one (.int .i64 (0:Int))])))))))))) (λ hs hk=>(zaJ hs λ hc hs=>And.intro (And.intro (zE enc_40 4 n.Ties.get) hc) (zc hs hk (λ hs hk=>((wk hk (zeF (.one (.nil _ _)) (zeF (.one (.rfl _)) zkK))):Wk K [.one (.nils),.one (.int .i64 ((s74 n (⟨0,λ _=>default⟩:(Sl Int))).2))])) (λ hs hk=>(absurd hs Bool.false_ne_true:False))))))
def zHf : List PA → COut
  | [.agg [.int .i64 zae,.sl zac zat zab]]=>.det (IsE enc_40 4 zat zab/\p43 (⟨zae,(⟨zac,zam zab⟩:(Sl Tie))⟩:Net)=true) [.one (.sl (((s43 (⟨zae,(⟨zac,zam zab⟩:(Sl Tie))⟩:Net)).1).len) 1 (λ i=>zad (((s43 (⟨zae,(⟨zac,zam zab⟩:(Sl Tie))⟩:Net)).1).get i))),.one (.int .i64 ((s43 (⟨zae,(⟨zac,zam zab⟩:(Sl Tie))⟩:Net)).2))]
  | _=>.no
theorem zKr:zar Tryd.prog 43:=⟨_,rfl,rfl,by kernel_rfl⟩
theorem zOH:Ok Tryd.prog 43 zHf:=zfF zMV zKr λ args K h=>by
  unfold zHf at h
  split at h
  · rename_i zae zac zat zab
    obtain⟨⟨⟨rfl,zan,rfl⟩,hs⟩,hk⟩:=h
    try rw[zak zan] at hs
    try rw[zak zan] at hk
    exact⟨_,zeE zfk _,(λ _ _=>[]),(λ _=>false),zKq,q43 (⟨zae,(⟨zac,zan⟩:(Sl Tie))⟩:Net) K hs hk⟩
  · exact h.elim
abbrev T44:Tabs:=((((Tabs.nil.addF 74 zp5).addF 75 zt8).addF 83 zwl).addF 84 zwv)
theorem zMW:TabsOk Tryd.prog T44:=((((TabsOk.nil.addF zIV).addF zLl).addF zLZ).addF zL6)
abbrev G44:Ctrs:=csm T44 (λ _ _=>[]) (λ _=>false)
def zKs:Ann:=⟨23,[(0,zK [1] [1]),(1,zK [4,5] []),(2,zK [4,5,13] []),(3,zK [2,3] []),(4,zK [4,17] []),(5,zK [2,3] []),(6,zK [4,6] [6]),(7,zK [2,3] [])],
 [],
 [],
 [],[]⟩
abbrev R44:=((Sl Int)×Int)
abbrev e44 (r:R44):List PA:=[.one (.sl r.1.len 1 (λ i=>zad (r.1.get i))),.one (.int .i64 r.2)]
section
variable {K:List PA->Prop}{n:Net}
def s44 (n:Net):((Sl Int)×Int) :=
  (cond ((s74 n (⟨0, λ _ => default⟩ : (Sl Int))).2 == 0)
 (cond ((0:Int) != (0:Int))
 ((⟨0,λ _=>default⟩:(Sl Int)),(0:Int))
 (cond (!(s83 (⟨(s74 n (⟨0, λ _ => default⟩ : (Sl Int))).1.Net, ((s74 n (⟨0, λ _ => default⟩ : (Sl Int))).1.out)⟩ : web)))
 ((⟨0,λ _=>default⟩:(Sl Int)),(6:Int))
 ((zwu (zas (zaf (s75 (⟨(s74 n (⟨0,λ _=>default⟩:(Sl Int))).1.Net,((s74 n (⟨0,λ _=>default⟩:(Sl Int))).1.out)⟩:web) (0:Int)))) (⟨(s74 n (⟨0,λ _=>default⟩:(Sl Int))).1.Net,((s74 n (⟨0,λ _=>default⟩:(Sl Int))).1.out)⟩:web)),(0:Int))))
 (cond ((s74 n (⟨0, λ _ => default⟩ : (Sl Int))).2 != (0:Int))
 ((⟨0,λ _=>default⟩:(Sl Int)),(s74 n (⟨0,λ _=>default⟩:(Sl Int))).2)
 default))
def p44 (n:Net):Bool :=
  (cond ((s74 n (⟨0, λ _ => default⟩ : (Sl Int))).2 == 0)
 (decide ((p74 n (⟨0,λ _=>default⟩:(Sl Int))=true)) &&
 (cond ((0:Int) != (0:Int))
 true
 (decide ((p83 (⟨(s74 n (⟨0,λ _=>default⟩:(Sl Int))).1.Net,((s74 n (⟨0,λ _=>default⟩:(Sl Int))).1.out)⟩:web)=true)) &&
 (cond (!(s83 (⟨(s74 n (⟨0, λ _ => default⟩ : (Sl Int))).1.Net, ((s74 n (⟨0, λ _ => default⟩ : (Sl Int))).1.out)⟩ : web)))
 true
 (decide ((p75 (⟨(s74 n (⟨0,λ _=>default⟩:(Sl Int))).1.Net,((s74 n (⟨0,λ _=>default⟩:(Sl Int))).1.out)⟩:web) (0:Int)=true)) &&
 (decide ((zHS (zas (zaf (s75 (⟨(s74 n (⟨0,λ _=>default⟩:(Sl Int))).1.Net,((s74 n (⟨0,λ _=>default⟩:(Sl Int))).1.out)⟩:web) (0:Int)))) (⟨(s74 n (⟨0,λ _=>default⟩:(Sl Int))).1.Net,((s74 n (⟨0,λ _=>default⟩:(Sl Int))).1.out)⟩:web)=true)) &&
 true))))))
 (decide ((p74 n (⟨0,λ _=>default⟩:(Sl Int))=true)) &&
 (cond ((s74 n (⟨0, λ _ => default⟩ : (Sl Int))).2 != (0:Int))
 true
 false)))
end
theorem q44 (n:Net) (K:List PA->Prop) (hs:p44 n=true) (hk:K (e44 (s44 n))):vcFun Tryd.prog G44 zKs 44 [.agg (enc_24 n)] (Wk K) :=
  zaM (by kernel_rfl) (zc hs hk (λ hs hk=>(zaJ hs λ hc hs=>And.intro (And.intro (zE enc_40 4 n.Ties.get) hc) (zc hs hk (λ hs hk=>((wk hk (zeF (.one (.nil _ _)) (zeF (.one (.rfl _)) zkK))):Wk K [.one (.nils),.one (.int .i64 (0:Int))])) (λ hs hk=>(zaJ hs λ hc hs=>And.intro (And.intro (zE enc_40 4 ((s74 n (⟨0,λ _=>default⟩:(Sl Int))).1.Net.Ties.get)) (And.intro (rfl:((false,1,false,[none]):MQ)=(false,1,false,[none])) hc)) (zc hs hk (λ hs hk=>((wk hk (zeF (.one (.nil _ _)) (zeF (.one (.rfl _)) zkK))):Wk K [.one (.nils),.one (.int .i64 (6:Int))])) (λ hs hk=>(zaJ hs λ hc hs=>And.intro (And.intro (zE enc_40 4 ((s74 n (⟨0,λ _=>default⟩:(Sl Int))).1.Net.Ties.get)) (And.intro (rfl:((false,1,false,[none]):MQ)=(false,1,false,[none])) hc)) (zaJ hs λ hc hs=>And.intro (And.intro (zE enc_40 4 ((s74 n (⟨0,λ _=>default⟩:(Sl Int))).1.Net.Ties.get)) (And.intro (rfl:((false,1,false,[none]):MQ)=(false,1,false,[none])) (And.intro (zeV:zaf (s75 (⟨(s74 n (⟨0,λ _=>default⟩:(Sl Int))).1.Net,((s74 n (⟨0,λ _=>default⟩:(Sl Int))).1.out)⟩:web) (0:Int))=zaf (zas (zaf (s75 (⟨(s74 n (⟨0,λ _=>default⟩:(Sl Int))).1.Net,((s74 n (⟨0,λ _=>default⟩:(Sl Int))).1.out)⟩:web) (0:Int))))) hc))) ((zfl hk):Wk K [.one (.sl ((zwu (zas (zaf (s75 (⟨(s74 n (⟨0,λ _=>default⟩:(Sl Int))).1.Net,((s74 n (⟨0,λ _=>default⟩:(Sl Int))).1.out)⟩:web) (0:Int)))) (⟨(s74 n (⟨0,λ _=>default⟩:(Sl Int))).1.Net,((s74 n (⟨0,λ _=>default⟩:(Sl Int))).1.out)⟩:web)).len) 1 (λ i=>zad ((zwu (zas (zaf (s75 (⟨(s74 n (⟨0,λ _=>default⟩:(Sl Int))).1.Net,((s74 n (⟨0,λ _=>default⟩:(Sl Int))).1.out)⟩:web) (0:Int)))) (⟨(s74 n (⟨0,λ _=>default⟩:(Sl Int))).1.Net,((s74 n (⟨0,λ _=>default⟩:(Sl Int))).1.out)⟩:web)).get i))),.one (.int .i64 (0:Int))])))))))))) (λ hs hk=>(zaJ hs λ hc hs=>And.intro (And.intro (zE enc_40 4 n.Ties.get) hc) (zc hs hk (λ hs hk=>((wk hk (zeF (.one (.nil _ _)) (zeF (.one (.rfl _)) zkK))):Wk K [.one (.nils),.one (.int .i64 ((s74 n (⟨0,λ _=>default⟩:(Sl Int))).2))])) (λ hs hk=>(absurd hs Bool.false_ne_true:False))))))
def zHg : List PA → COut
  | [.agg [.int .i64 zae,.sl zac zat zab]]=>.det (IsE enc_40 4 zat zab/\p44 (⟨zae,(⟨zac,zam zab⟩:(Sl Tie))⟩:Net)=true) [.one (.sl (((s44 (⟨zae,(⟨zac,zam zab⟩:(Sl Tie))⟩:Net)).1).len) 1 (λ i=>zad (((s44 (⟨zae,(⟨zac,zam zab⟩:(Sl Tie))⟩:Net)).1).get i))),.one (.int .i64 ((s44 (⟨zae,(⟨zac,zam zab⟩:(Sl Tie))⟩:Net)).2))]
  | _=>.no
theorem zKt:zar Tryd.prog 44:=⟨_,rfl,rfl,by kernel_rfl⟩
theorem zOI:Ok Tryd.prog 44 zHg:=zfF zMW zKt λ args K h=>by
  unfold zHg at h
  split at h
  · rename_i zae zac zat zab
    obtain⟨⟨⟨rfl,zan,rfl⟩,hs⟩,hk⟩:=h
    try rw[zak zan] at hs
    try rw[zak zan] at hk
    exact⟨_,zeE zfk _,(λ _ _=>[]),(λ _=>false),zKs,q44 (⟨zae,(⟨zac,zan⟩:(Sl Tie))⟩:Net) K hs hk⟩
  · exact h.elim
abbrev T9:Tabs:=(((((((((((Tabs.nil.addF 20 zGw).addF 21 zGv).addF 23 zGF).addF 31 zGQ).addF 33 zG0).addF 34 zBS).addF 38 zHe).addF 43 zHf).addF 44 zHg).addF 45 zBr).addF 46 zBR)
theorem zOJ:TabsOk Tryd.prog T9:=(((((((((((TabsOk.nil.addF zOz).addF zOy).addF zOB).addF zOC).addF zOD).addF zNB).addF zOG).addF zOH).addF zOI).addF zNo).addF zNA)
abbrev G9:Ctrs:=csm T9 (λ _ _=>[]) (λ _=>false)
def zMX:Ann:=⟨240,[(0,zK [1,2,3] [3]),(1,zK [1,2,3,23] [3]),(2,zK [6] []),(3,zK [1,2,3,7,8] [3]),(4,zK [1,2,3,7,8,9,10] [3]),(5,zK [1,2,3,7,8,9,10,11,12] [3]),(6,zK [1,2,3,7,8,9,10,11,12,44] [3]),(7,zK [6] []),(8,zK [1,2,3,7,8,9,10,11,12,13] [3]),(9,zK [1,2,3,7,8,9,10,11,12,13,97] [3]),(10,zK [6] []),(11,zK [1,2,3,7,8,9,10,11,12,13,14] [3]),(12,zK [1,2,3,7,8,9,10,11,12,13,14,100] [3]),(13,zK [1,2,3,7,8,9,10,11,12,13,14] [3]),(14,zK [1,2,3,7,8,9,10,11,12,13,14,15] [3]),(15,zK [1,2,3,7,8,9,10,11,12,13,14,15,16] [3]),(16,zK [1,2,3,7,8,9,10,11,12,13,14,15,16,106] [3]),(17,zK [1,2,3,7,8,9,10,11,12,13,14,15,16] [3]),(18,zK [1,2,3,7,8,9,10,11,12,13,14,15,16,122] [3]),(19,zK [1,2,3,7,8,9,10,11,12,13,14,15,16] [3]),(20,zK [1,2,3,7,9,11,13,14,138] [3]),(21,zK [6] []),(22,zK [1,2,3,7,9,11,13,140] [3]),(23,zK [6] []),(24,zK [1,2,3,7,9,11,13,162] [3]),(25,zK [6] []),(26,zK [1,2,3,7,9,11,13,17] [3]),(27,zK [1,2,3,7,9,11,13,17,18] [3]),(28,zK [1,2,3,7,9,11,13,17,18,168] [3]),(29,zK [1,2,3,7,9,11,13,17,18] [3]),(30,zK [1,2,3,7,9,11,13,17,18,192] [3]),(31,zK [6] []),(32,zK [1,2,3,11,194] [3]),(33,zK [6] []),(34,zK [1,3,11,216] [3]),(35,zK [6] []),(36,zK [11,19] []),(37,zK [11,19,20] []),(38,zK [11,19,20,223] []),(39,zK [11,19,20] []),(40,zK [11,19,20,238] []),(41,zK [6] []),(42,zK [6] [])],
 [(16,zK [1,2,3,7,8,9,10,11,12,13,14,15,16] [3]),(28,zK [1,2,3,7,9,11,13,17,18] [3]),(38,zK [11,19,20] [])],
 [(2,zK [1,2,3,23] [3]),(3,zK [1,2,3] [3]),(4,zK [1,2,3,7,8] [3]),(5,zK [1,2,3,7,8,9,10] [3]),(6,zK [1,2,3,7,8,9,10,11,12] [3]),(7,zK [1,2,3,7,8,9,10,11,12,44] [3]),(8,zK [1,2,3,7,8,9,10,11,12] [3]),(11,zK [1,2,3,7,8,9,10,11,12,13] [3]),(13,zK [1,2,3,7,8,9,10,11,12,13,14,100] [3]),(20,zK [1,2,3,7,8,9,10,11,12,13,14] [3]),(15,zK [1,2,3,7,8,9,10,11,12,13,14,15] [3]),(22,zK [1,2,3,7,9,11,13,14] [3]),(24,zK [1,2,3,7,9,11,13] [3]),(25,zK [1,2,3,7,9,11,13,162] [3]),(26,zK [1,2,3,7,9,11,13] [3]),(27,zK [1,2,3,7,9,11,13,17] [3]),(32,zK [1,2,3,11,13] [3]),(34,zK [1,2,3,11] [3]),(35,zK [1,3,11,216] [3]),(36,zK [1,3,11] [3]),(37,zK [11,19] [])],
 [],[]⟩
abbrev R9:=Bool
abbrev e9 (r:R9):List PA:=[.one (.bool r)]
@[irreducible] def z9:=ptF Tryd.prog G9 zMX Tryd.f9
def zDn (n:Net) (from_a1:Int) (to:Int) (av2:(Sl Int)) (ev2:Int) (bv3:(Sl Int)) (fv3:Int) (cv4:(Sl Int)) (gv4:Int) (zal:Bool) (ze9:(Sl Span)) (zbR:Int) (zgD:Int):St:=⟨[(1,zI from_a1),(2,zI to),(3,zp 3 0),(7,zS zad 1 av2),(8,zI ev2),(9,zS zad 1 bv3),(10,zI fv3),(11,zS zad 1 cv4),(12,zI gv4),(13,zB zal),(14,zI zbR),(15,zS za1 2 ze9),(16,zI zgD)],[(3,.box 24 (zm (enc_24 n)))],[]⟩
abbrev zKu (K:List PA->Prop) (n:Net) (from_a1:Int) (to:Int) (av2:(Sl Int)) (ev2:Int) (bv3:(Sl Int)) (fv3:Int) (cv4:(Sl Int)) (gv4:Int) (zal:Bool) (ze9:(Sl Span)) (X:St->Prop) (P:Int->Int->Bool) (S:Int->Int->Bool):Prop:=∀ ⦃zbR:Int⦄ ⦃zgD:Int⦄,P zbR zgD=true->K (e9 (S zbR zgD))->X (zDn n from_a1 to av2 ev2 bv3 fv3 cv4 gv4 zal ze9 zbR zgD)
def zDo (n:Net) (from_a1:Int) (to:Int) (av2:(Sl Int)) (bv3:(Sl Int)) (cv4:(Sl Int)) (zal:Bool) (zfa:(Sl Span)) (zfu:Int):St:=⟨[(1,zI from_a1),(2,zI to),(3,zp 3 0),(7,zS zad 1 av2),(9,zS zad 1 bv3),(11,zS zad 1 cv4),(13,zB zal),(17,zS za1 2 zfa),(18,zI zfu)],[(3,.box 24 (zm (enc_24 n)))],[]⟩
abbrev zKv (K:List PA->Prop) (n:Net) (from_a1:Int) (to:Int) (av2:(Sl Int)) (bv3:(Sl Int)) (cv4:(Sl Int)) (zal:Bool) (zfa:(Sl Span)) (X:St->Prop) (P:Int->Bool) (S:Int->Bool):Prop:=∀ ⦃zfu:Int⦄,P zfu=true->K (e9 (S zfu))->X (zDo n from_a1 to av2 bv3 cv4 zal zfa zfu)
def zDp (cv4:(Sl Int)) (zfs:(Sl Int)) (zhP:Int):St:=⟨[(11,zS zad 1 cv4),(19,zS zad 1 zfs),(20,zI zhP)],[],[]⟩
abbrev zKw (K:List PA->Prop) (cv4:(Sl Int)) (zfs:(Sl Int)) (X:St->Prop) (P:Int->Bool) (S:Int->Bool):Prop:=∀ ⦃zhP:Int⦄,P zhP=true->K (e9 (S zhP))->X (zDp cv4 zfs zhP)
section
variable {K:List PA->Prop}{n:Net}{from_a1:Int}{to:Int}{zaz:Bool}{av2:(Sl Int)}{ev2:Int}{zKx:Nat->List PV}{bv3:(Sl Int)}{fv3:Int}{zKz:Nat->List PV}{cv4:(Sl Int)}{gv4:Int}{zKA:Nat->List PV}{zrk:Bool}{zal:Bool}{zk6:Bool}{zdX:Int}{ze9:(Sl Span)}{zDq:Nat->List PV}{zg5:Int}{zbR:Int}{zgD:Int}{X12:St->Prop}{P12:Int->Int->Bool}{S12:Int->Int->Bool}{zg6:Bool}{zfa:(Sl Span)}{zDr:Nat->List PV}{zfu:Int}{X17:St->Prop}{P17:Int->Bool}{S17:Int->Bool}{zg7:Bool}{zfs:(Sl Int)}{zDs:Nat->List PV}{zhP:Int}{X23:St->Prop}{P23:Int->Bool}{S23:Int->Bool}
def ziR (cv4:(Sl Int)) (zfs:(Sl Int)) (S23:Int->Bool) (zhP:Int):Bool :=
  (cond (decide (zhP < (cv4.len : Int)))
 (cond ((cv4.get zhP.toNat) != (w64 ((zfs.get zhP.toNat) - (zfs.get 0))))
 false
 (S23 (w64 (zhP+(1:Int)))))
 true)
def ziS (cv4:(Sl Int)) (zfs:(Sl Int)) (P23:Int->Bool) (zhP:Int):Bool :=
  (cond (decide (zhP < (cv4.len : Int)))
 (decide ((0≤zhP/\zhP < (cv4.len:Int))) &&
 (decide ((0≤zhP/\zhP < (zfs.len:Int))) &&
 (decide ((0≤(0:Int)/\(0:Int) < (zfs.len:Int))) &&
 (cond ((cv4.get zhP.toNat) != (w64 ((zfs.get zhP.toNat) - (zfs.get 0))))
 true
 (P23 (w64 (zhP+(1:Int))))))))
 true)
def ziT (cv4:(Sl Int)) (zfs:(Sl Int)):Nat->Int->Bool:=lpO (λ _=>default) (ziR cv4 zfs)
def ziU (cv4:(Sl Int)) (zfs:(Sl Int)):Nat->Int->Bool:=lpO (λ _=>false) (ziS cv4 zfs)
def zrl (cv4:(Sl Int)) (zfs:(Sl Int)) (zhP:Int):Bool:=ziT cv4 zfs Fuel zhP
def zrm (cv4:(Sl Int)) (zfs:(Sl Int)) (zhP:Int):Bool:=ziU cv4 zfs Fuel zhP
theorem zHh (hs:zrm cv4 zfs zhP=true) (hk:K (e9 (zrl cv4 zfs zhP))):z9 K [1,1,1,1,1,1,1,1,1,1,1,1,1,1,1,1,1,1,0,1,0] [] (zDp cv4 zfs zhP) :=
  zl (λ X=>z9 K [1,1,1,1,1,1,1,1,1,1,1,1,1,1,1,1,1,1,0,1,0,0] [X]) (by kernel_rfl) λ X23 hX =>
  (show ∀ k, zKw K cv4 zfs X23 (ziU cv4 zfs k) (ziT cv4 zfs k) from zd1 _ _ (ziS cv4 zfs) (ziR cv4 zfs) (zKw K cv4 zfs X23)
 (by intro _ hs;exact absurd hs Bool.false_ne_true)
 (by intro P23 S23 hX23 zhP hs hk;exact hX _ (zaM (by kernel_rfl) (zc hs hk (λ hs hk=>(zaJ hs λ hc hs=>And.intro hc (zaJ hs λ hc hs=>And.intro hc (zaJ hs λ hc hs=>And.intro hc (zc hs hk (λ hs hk=>hk) (λ hs hk=>(hX23 hs hk))))))) (λ hs hk=>hk))))) _ hs hk
def zrn (cv4:(Sl Int)) (zfs:(Sl Int)):Bool :=
  (zrl cv4 zfs (0:Int))
def zro (cv4:(Sl Int)) (zfs:(Sl Int)):Bool :=
  (zrm cv4 zfs (0:Int))
theorem zHi (hs:zro cv4 zfs=true) (hk:K (e9 (zrn cv4 zfs))) (zKB:zDs=zg zad zfs):z9 K [1,1,1,1,1,1,1,1,1,1,1,1,1,1,1,1,1,1] [] ⟨[(11,zS zad 1 cv4),(19,zP (.sl zfs.len 1 zDs))],[],[]⟩:=by subst zKB;exact zaM (by kernel_rfl) (zHh hs hk)
def zrp (n:Net) (from_a1:Int) (cv4:(Sl Int)):Bool :=
  (zrn cv4 (s46 n from_a1))
def zrq (n:Net) (from_a1:Int) (cv4:(Sl Int)):Bool :=
  (decide ((p46 n from_a1=true)) &&
 (zro cv4 (s46 n from_a1)))
theorem zHj (hs:zrq n from_a1 cv4=true) (hk:K (e9 (zrp n from_a1 cv4))):z9 K [1,1,1,1,1,1,1,1,1,1,1,1,1,1,1,1,1] [] ⟨[(1,zI from_a1),(3,zp 3 0),(11,zS zad 1 cv4)],[(3,.box 24 (zm (enc_24 n)))],[]⟩:=zaM (by kernel_rfl) (zaJ hs λ hc hs=>And.intro (And.intro (zE enc_40 4 n.Ties.get) hc) (zHi hs hk rfl))
def znr (n:Net) (from_a1:Int) (cv4:(Sl Int)) (zg7:Bool):Bool :=
  (cond zg7
 false
 (zrp n from_a1 cv4))
def zns (n:Net) (from_a1:Int) (cv4:(Sl Int)) (zg7:Bool):Bool :=
  (cond zg7
 true
 (zrq n from_a1 cv4))
theorem zzv (hs:zns n from_a1 cv4 zg7=true) (hk:K (e9 (znr n from_a1 cv4 zg7))):z9 K [1,1,1,1,1,1,1,1,1,1,1,1,1,1,1,1,0,1] [] ⟨[(1,zI from_a1),(3,zp 3 0),(11,zS zad 1 cv4),(216,zB zg7)],[(3,.box 24 (zm (enc_24 n)))],[]⟩:=zaM (by kernel_rfl) (zc hs hk (λ hs hk=>hk) (λ hs hk=>(zHj hs hk)))
def zrr (n:Net) (from_a1:Int) (to:Int) (cv4:(Sl Int)):Bool :=
  (cond (!(s38 n cv4))
 (znr n from_a1 cv4 true)
 (znr n from_a1 cv4 ((w64 ((cv4.get to.toNat) - (cv4.get from_a1.toNat))) != (s34 n from_a1 to).High)))
def zrt (n:Net) (from_a1:Int) (to:Int) (cv4:(Sl Int)):Bool :=
  (decide ((p38 n cv4=true)) &&
 (cond (!(s38 n cv4))
 (zns n from_a1 cv4 true)
 (decide ((0≤to/\to < (cv4.len:Int))) &&
 (decide ((0≤from_a1/\from_a1 < (cv4.len:Int))) &&
 (decide ((p34 n from_a1 to=true)) &&
 (zns n from_a1 cv4 ((w64 ((cv4.get to.toNat) - (cv4.get from_a1.toNat))) != (s34 n from_a1 to).High)))))))
theorem zHk (hs:zrt n from_a1 to cv4=true) (hk:K (e9 (zrr n from_a1 to cv4))):z9 K [1,1,1,1,1,1,1,1,1,1,1,1,1,1,1,1] [] ⟨[(1,zI from_a1),(2,zI to),(3,zp 3 0),(11,zS zad 1 cv4)],[(3,.box 24 (zm (enc_24 n)))],[]⟩:=zaM (by kernel_rfl) (zaJ hs λ hc hs=>And.intro (And.intro (zE enc_40 4 n.Ties.get) (And.intro (zE zad 1 cv4.get) hc)) (zc hs hk (λ hs hk=>(zzv hs hk)) (λ hs hk=>(zaJ hs λ hc hs=>And.intro hc (zaJ hs λ hc hs=>And.intro hc (zaJ hs λ hc hs=>And.intro (And.intro (zE enc_40 4 n.Ties.get) hc) (zzv hs hk)))))))
def zk7 (n:Net) (from_a1:Int) (to:Int) (cv4:(Sl Int)) (zal:Bool):Bool :=
  (cond (!zal)
 true
 (zrr n from_a1 to cv4))
def znt (n:Net) (from_a1:Int) (to:Int) (cv4:(Sl Int)) (zal:Bool):Bool :=
  (cond (!zal)
 true
 (zrt n from_a1 to cv4))
theorem zHl (hs:znt n from_a1 to cv4 zal=true) (hk:K (e9 (zk7 n from_a1 to cv4 zal))):z9 K [1,1,1,1,1,1,1,1,1,1,1,1,1,1,1] [] ⟨[(1,zI from_a1),(2,zI to),(3,zp 3 0),(11,zS zad 1 cv4),(13,zB zal)],[(3,.box 24 (zm (enc_24 n)))],[]⟩:=zaM (by kernel_rfl) (zc hs hk (λ hs hk=>hk) (λ hs hk=>(zHk hs hk)))
def ziV (n:Net) (from_a1:Int) (to:Int) (av2:(Sl Int)) (bv3:(Sl Int)) (cv4:(Sl Int)) (zal:Bool) (zfa:(Sl Span)) (S17:Int->Bool) (zfu:Int):Bool :=
  (cond (decide (zfu < (zfa.len : Int)))
 (cond ((av2.get zfu.toNat) != (zfa.get zfu.toNat).High)
 false
 (cond ((bv3.get zfu.toNat) != (zfa.get zfu.toNat).Low)
 false
 (S17 (w64 (zfu+(1:Int))))))
 (zk7 n from_a1 to cv4 zal))
def ziW (n:Net) (from_a1:Int) (to:Int) (av2:(Sl Int)) (bv3:(Sl Int)) (cv4:(Sl Int)) (zal:Bool) (zfa:(Sl Span)) (P17:Int->Bool) (zfu:Int):Bool :=
  (cond (decide (zfu < (zfa.len : Int)))
 (decide ((0≤zfu/\zfu < (av2.len:Int))) &&
 (decide ((0≤zfu/\zfu < (zfa.len:Int))) &&
 (cond ((av2.get zfu.toNat) != (zfa.get zfu.toNat).High)
 true
 (decide ((0≤zfu/\zfu < (bv3.len:Int))) &&
 (decide ((0≤zfu/\zfu < (zfa.len:Int))) &&
 (cond ((bv3.get zfu.toNat) != (zfa.get zfu.toNat).Low)
 true
 (P17 (w64 (zfu+(1:Int))))))))))
 (znt n from_a1 to cv4 zal))
def ziX (n:Net) (from_a1:Int) (to:Int) (av2:(Sl Int)) (bv3:(Sl Int)) (cv4:(Sl Int)) (zal:Bool) (zfa:(Sl Span)):Nat->Int->Bool:=lpO (λ _=>default) (ziV n from_a1 to av2 bv3 cv4 zal zfa)
def ziY (n:Net) (from_a1:Int) (to:Int) (av2:(Sl Int)) (bv3:(Sl Int)) (cv4:(Sl Int)) (zal:Bool) (zfa:(Sl Span)):Nat->Int->Bool:=lpO (λ _=>false) (ziW n from_a1 to av2 bv3 cv4 zal zfa)
def zru (n:Net) (from_a1:Int) (to:Int) (av2:(Sl Int)) (bv3:(Sl Int)) (cv4:(Sl Int)) (zal:Bool) (zfa:(Sl Span)) (zfu:Int):Bool:=ziX n from_a1 to av2 bv3 cv4 zal zfa Fuel zfu
def zrv (n:Net) (from_a1:Int) (to:Int) (av2:(Sl Int)) (bv3:(Sl Int)) (cv4:(Sl Int)) (zal:Bool) (zfa:(Sl Span)) (zfu:Int):Bool:=ziY n from_a1 to av2 bv3 cv4 zal zfa Fuel zfu
theorem zHm (hs:zrv n from_a1 to av2 bv3 cv4 zal zfa zfu=true) (hk:K (e9 (zru n from_a1 to av2 bv3 cv4 zal zfa zfu))):z9 K [1,1,1,1,1,1,1,1,1,1,1,1,1,1,0,1,0] [] (zDo n from_a1 to av2 bv3 cv4 zal zfa zfu) :=
  zl (λ X=>z9 K [1,1,1,1,1,1,1,1,1,1,1,1,1,1,0,1,0,0] [X]) (by kernel_rfl) λ X17 hX =>
  (show ∀ k, zKv K n from_a1 to av2 bv3 cv4 zal zfa X17 (ziY n from_a1 to av2 bv3 cv4 zal zfa k) (ziX n from_a1 to av2 bv3 cv4 zal zfa k) from zd1 _ _ (ziW n from_a1 to av2 bv3 cv4 zal zfa) (ziV n from_a1 to av2 bv3 cv4 zal zfa) (zKv K n from_a1 to av2 bv3 cv4 zal zfa X17)
 (by intro _ hs;exact absurd hs Bool.false_ne_true)
 (by intro P17 S17 hX17 zfu hs hk;exact hX _ (zaM (by kernel_rfl) (zc hs hk (λ hs hk=>(zaJ hs λ hc hs=>And.intro hc (zaJ hs λ hc hs=>And.intro hc (zc hs hk (λ hs hk=>hk) (λ hs hk=>(zaJ hs λ hc hs=>And.intro hc (zaJ hs λ hc hs=>And.intro hc (zc hs hk (λ hs hk=>hk) (λ hs hk=>(hX17 hs hk)))))))))) (λ hs hk=>(zHl hs hk)))))) _ hs hk
def zrx (n:Net) (from_a1:Int) (to:Int) (av2:(Sl Int)) (bv3:(Sl Int)) (cv4:(Sl Int)) (zal:Bool) (zfa:(Sl Span)):Bool :=
  (zru n from_a1 to av2 bv3 cv4 zal zfa (0:Int))
def zry (n:Net) (from_a1:Int) (to:Int) (av2:(Sl Int)) (bv3:(Sl Int)) (cv4:(Sl Int)) (zal:Bool) (zfa:(Sl Span)):Bool :=
  (zrv n from_a1 to av2 bv3 cv4 zal zfa (0:Int))
theorem zHn (hs:zry n from_a1 to av2 bv3 cv4 zal zfa=true) (hk:K (e9 (zrx n from_a1 to av2 bv3 cv4 zal zfa))) (zKC:zDr=zg za1 zfa):z9 K [1,1,1,1,1,1,1,1,1,1,1,1,1,1] [] ⟨[(1,zI from_a1),(2,zI to),(3,zp 3 0),(7,zS zad 1 av2),(9,zS zad 1 bv3),(11,zS zad 1 cv4),(13,zB zal),(17,zP (.sl zfa.len 2 zDr))],[(3,.box 24 (zm (enc_24 n)))],[]⟩:=by subst zKC;exact zaM (by kernel_rfl) (zHm hs hk)
def zrz (n:Net) (from_a1:Int) (to:Int) (av2:(Sl Int)) (bv3:(Sl Int)) (cv4:(Sl Int)) (zal:Bool):Bool :=
  (zrx n from_a1 to av2 bv3 cv4 zal (s33 n))
def zrA (n:Net) (from_a1:Int) (to:Int) (av2:(Sl Int)) (bv3:(Sl Int)) (cv4:(Sl Int)) (zal:Bool):Bool :=
  (decide ((p33 n=true)) &&
 (zry n from_a1 to av2 bv3 cv4 zal (s33 n)))
theorem zHo (hs:zrA n from_a1 to av2 bv3 cv4 zal=true) (hk:K (e9 (zrz n from_a1 to av2 bv3 cv4 zal))):z9 K [1,1,1,1,1,1,1,1,1,1,1,1,1] [] ⟨[(1,zI from_a1),(2,zI to),(3,zp 3 0),(7,zS zad 1 av2),(9,zS zad 1 bv3),(11,zS zad 1 cv4),(13,zB zal)],[(3,.box 24 (zm (enc_24 n)))],[]⟩:=zaM (by kernel_rfl) (zaJ hs λ hc hs=>And.intro (And.intro (zE enc_40 4 n.Ties.get) hc) (zHn hs hk rfl))
def znu (n:Net) (from_a1:Int) (to:Int) (av2:(Sl Int)) (bv3:(Sl Int)) (cv4:(Sl Int)) (zal:Bool) (zg6:Bool):Bool :=
  (cond zg6
 false
 (zrz n from_a1 to av2 bv3 cv4 zal))
def znv (n:Net) (from_a1:Int) (to:Int) (av2:(Sl Int)) (bv3:(Sl Int)) (cv4:(Sl Int)) (zal:Bool) (zg6:Bool):Bool :=
  (cond zg6
 true
 (zrA n from_a1 to av2 bv3 cv4 zal))
theorem zzw (hs:znv n from_a1 to av2 bv3 cv4 zal zg6=true) (hk:K (e9 (znu n from_a1 to av2 bv3 cv4 zal zg6))):z9 K [1,1,1,1,1,1,1,1,1,1,1,1,0,1] [] ⟨[(1,zI from_a1),(2,zI to),(3,zp 3 0),(7,zS zad 1 av2),(9,zS zad 1 bv3),(11,zS zad 1 cv4),(13,zB zal),(162,zB zg6)],[(3,.box 24 (zm (enc_24 n)))],[]⟩:=zaM (by kernel_rfl) (zc hs hk (λ hs hk=>hk) (λ hs hk=>(zHo hs hk)))
def znw (n:Net) (from_a1:Int) (to:Int) (av2:(Sl Int)) (bv3:(Sl Int)) (cv4:(Sl Int)) (zal:Bool):Bool :=
  (cond (!(s38 n av2))
 (znu n from_a1 to av2 bv3 cv4 zal true)
 (znu n from_a1 to av2 bv3 cv4 zal (!(s38 n bv3))))
def znx (n:Net) (from_a1:Int) (to:Int) (av2:(Sl Int)) (bv3:(Sl Int)) (cv4:(Sl Int)) (zal:Bool):Bool :=
  (decide ((p38 n av2=true)) &&
 (cond (!(s38 n av2))
 (znv n from_a1 to av2 bv3 cv4 zal true)
 (decide ((p38 n bv3=true)) &&
 (znv n from_a1 to av2 bv3 cv4 zal (!(s38 n bv3))))))
theorem zHp (hs:znx n from_a1 to av2 bv3 cv4 zal=true) (hk:K (e9 (znw n from_a1 to av2 bv3 cv4 zal))):z9 K [1,1,1,1,1,1,1,1,1,1,1,1] [] ⟨[(1,zI from_a1),(2,zI to),(3,zp 3 0),(7,zS zad 1 av2),(9,zS zad 1 bv3),(11,zS zad 1 cv4),(13,zB zal)],[(3,.box 24 (zm (enc_24 n)))],[]⟩:=zaM (by kernel_rfl) (zaJ hs λ hc hs=>And.intro (And.intro (zE enc_40 4 n.Ties.get) (And.intro (zE zad 1 av2.get) hc)) (zc hs hk (λ hs hk=>(zzw hs hk)) (λ hs hk=>(zaJ hs λ hc hs=>And.intro (And.intro (zE enc_40 4 n.Ties.get) (And.intro (zE zad 1 bv3.get) hc)) (zzw hs hk)))))
def zfb (n:Net) (from_a1:Int) (to:Int) (av2:(Sl Int)) (bv3:(Sl Int)) (cv4:(Sl Int)) (zal:Bool) (zg5:Int):Bool :=
  (cond (zg5 != (0:Int))
 (cond ((w64 ((w64 ((av2.len : Int) + (bv3.len : Int))) + (cv4.len : Int))) == (0:Int))
 true
 false)
 (znw n from_a1 to av2 bv3 cv4 zal))
def zfc (n:Net) (from_a1:Int) (to:Int) (av2:(Sl Int)) (bv3:(Sl Int)) (cv4:(Sl Int)) (zal:Bool) (zg5:Int):Bool :=
  (cond (zg5 != (0:Int))
 true
 (znx n from_a1 to av2 bv3 cv4 zal))
theorem zzx (hs:zfc n from_a1 to av2 bv3 cv4 zal zg5=true) (hk:K (e9 (zfb n from_a1 to av2 bv3 cv4 zal zg5))):z9 K [1,1,1,1,1,1,1,1,1,1,1] [] ⟨[(1,zI from_a1),(2,zI to),(3,zp 3 0),(7,zS zad 1 av2),(9,zS zad 1 bv3),(11,zS zad 1 cv4),(13,zB zal),(14,zI zg5)],[(3,.box 24 (zm (enc_24 n)))],[]⟩:=zaM (by kernel_rfl) (zc hs hk (λ hs hk=>(zt hk (λ hk=>hk) (λ hk=>hk))) (λ hs hk=>(zHp hs hk)))
def zdh (n:Net) (from_a1:Int) (to:Int) (av2:(Sl Int)) (ev2:Int) (bv3:(Sl Int)) (fv3:Int) (cv4:(Sl Int)) (gv4:Int) (zal:Bool) (zdX:Int):Bool :=
  (cond (ev2 != zdX)
 false
 (cond (fv3 != zdX)
 false
 (cond zal
 (cond (gv4 != zdX)
 false
 (zfb n from_a1 to av2 bv3 cv4 zal zdX))
 (zfb n from_a1 to av2 bv3 cv4 zal zdX))))
def zdi (n:Net) (from_a1:Int) (to:Int) (av2:(Sl Int)) (ev2:Int) (bv3:(Sl Int)) (fv3:Int) (cv4:(Sl Int)) (gv4:Int) (zal:Bool) (zdX:Int):Bool :=
  (cond (ev2 != zdX)
 true
 (cond (fv3 != zdX)
 true
 (cond zal
 (cond (gv4 != zdX)
 true
 (zfc n from_a1 to av2 bv3 cv4 zal zdX))
 (zfc n from_a1 to av2 bv3 cv4 zal zdX))))
theorem zDt (hs:zdi n from_a1 to av2 ev2 bv3 fv3 cv4 gv4 zal zdX=true) (hk:K (e9 (zdh n from_a1 to av2 ev2 bv3 fv3 cv4 gv4 zal zdX))):z9 K [1,1,1,1,1,1,1,1,1,1] [] ⟨[(1,zI from_a1),(2,zI to),(3,zp 3 0),(7,zS zad 1 av2),(8,zI ev2),(9,zS zad 1 bv3),(10,zI fv3),(11,zS zad 1 cv4),(12,zI gv4),(13,zB zal),(14,zI zdX)],[(3,.box 24 (zm (enc_24 n)))],[]⟩:=zaM (by kernel_rfl) (zc hs hk (λ hs hk=>hk) (λ hs hk=>(zc hs hk (λ hs hk=>hk) (λ hs hk=>(zc hs hk (λ hs hk=>(zc hs hk (λ hs hk=>hk) (λ hs hk=>(zzx hs hk)))) (λ hs hk=>(zzx hs hk)))))))
def ziZ (n:Net) (from_a1:Int) (to:Int) (av2:(Sl Int)) (ev2:Int) (bv3:(Sl Int)) (fv3:Int) (cv4:(Sl Int)) (gv4:Int) (zal:Bool) (ze9:(Sl Span)) (S12:Int->Int->Bool) (zbR:Int) (zgD:Int):Bool :=
  (cond (decide (zgD < (ze9.len : Int)))
 (cond ((ze9.get zgD.toNat).Low == (-1000000000000:Int))
 (S12 (6:Int) (w64 (zgD+(1:Int))))
 (cond ((ze9.get zgD.toNat).High == (1000000000000:Int))
 (S12 (6:Int) (w64 (zgD+(1:Int))))
 (S12 zbR (w64 (zgD+(1:Int))))))
 (zdh n from_a1 to av2 ev2 bv3 fv3 cv4 gv4 zal zbR))
def zi0 (n:Net) (from_a1:Int) (to:Int) (av2:(Sl Int)) (ev2:Int) (bv3:(Sl Int)) (fv3:Int) (cv4:(Sl Int)) (gv4:Int) (zal:Bool) (ze9:(Sl Span)) (P12:Int->Int->Bool) (zbR:Int) (zgD:Int):Bool :=
  (cond (decide (zgD < (ze9.len : Int)))
 (decide ((0≤zgD/\zgD < (ze9.len:Int))) &&
 (cond ((ze9.get zgD.toNat).Low == (-1000000000000:Int))
 (P12 (6:Int) (w64 (zgD+(1:Int))))
 (decide ((0≤zgD/\zgD < (ze9.len:Int))) &&
 (cond ((ze9.get zgD.toNat).High == (1000000000000:Int))
 (P12 (6:Int) (w64 (zgD+(1:Int))))
 (P12 zbR (w64 (zgD+(1:Int))))))))
 (zdi n from_a1 to av2 ev2 bv3 fv3 cv4 gv4 zal zbR))
def zg8 (n:Net) (from_a1:Int) (to:Int) (av2:(Sl Int)) (ev2:Int) (bv3:(Sl Int)) (fv3:Int) (cv4:(Sl Int)) (gv4:Int) (zal:Bool) (ze9:(Sl Span)):Nat->Int->Int->Bool:=lpO (λ _ _=>default) (ziZ n from_a1 to av2 ev2 bv3 fv3 cv4 gv4 zal ze9)
def zg9 (n:Net) (from_a1:Int) (to:Int) (av2:(Sl Int)) (ev2:Int) (bv3:(Sl Int)) (fv3:Int) (cv4:(Sl Int)) (gv4:Int) (zal:Bool) (ze9:(Sl Span)):Nat->Int->Int->Bool:=lpO (λ _ _=>false) (zi0 n from_a1 to av2 ev2 bv3 fv3 cv4 gv4 zal ze9)
def zzy (n:Net) (from_a1:Int) (to:Int) (av2:(Sl Int)) (ev2:Int) (bv3:(Sl Int)) (fv3:Int) (cv4:(Sl Int)) (gv4:Int) (zal:Bool) (ze9:(Sl Span)) (zbR:Int) (zgD:Int):Bool:=zg8 n from_a1 to av2 ev2 bv3 fv3 cv4 gv4 zal ze9 Fuel zbR zgD
def zzz (n:Net) (from_a1:Int) (to:Int) (av2:(Sl Int)) (ev2:Int) (bv3:(Sl Int)) (fv3:Int) (cv4:(Sl Int)) (gv4:Int) (zal:Bool) (ze9:(Sl Span)) (zbR:Int) (zgD:Int):Bool:=zg9 n from_a1 to av2 ev2 bv3 fv3 cv4 gv4 zal ze9 Fuel zbR zgD
theorem zHq (hs:zzz n from_a1 to av2 ev2 bv3 fv3 cv4 gv4 zal ze9 zbR zgD=true) (hk:K (e9 (zzy n from_a1 to av2 ev2 bv3 fv3 cv4 gv4 zal ze9 zbR zgD))):z9 K [1,1,1,1,1,1,1,1,1,0,1,1,1,1,0] [] (zDn n from_a1 to av2 ev2 bv3 fv3 cv4 gv4 zal ze9 zbR zgD) :=
  zl (λ X=>z9 K [1,1,1,1,1,1,1,1,1,0,1,1,1,1,0,0] [X]) (by kernel_rfl) λ X12 hX =>
  (show ∀ k, zKu K n from_a1 to av2 ev2 bv3 fv3 cv4 gv4 zal ze9 X12 (zg9 n from_a1 to av2 ev2 bv3 fv3 cv4 gv4 zal ze9 k) (zg8 n from_a1 to av2 ev2 bv3 fv3 cv4 gv4 zal ze9 k) from zd1 _ _ (zi0 n from_a1 to av2 ev2 bv3 fv3 cv4 gv4 zal ze9) (ziZ n from_a1 to av2 ev2 bv3 fv3 cv4 gv4 zal ze9) (zKu K n from_a1 to av2 ev2 bv3 fv3 cv4 gv4 zal ze9 X12)
 (by intro _ _ hs;exact absurd hs Bool.false_ne_true)
 (by intro P12 S12 hX12 zbR zgD hs hk;exact hX _ (zaM (by kernel_rfl) (zc hs hk (λ hs hk=>(zaJ hs λ hc hs=>And.intro hc (zc hs hk (λ hs hk=>(hX12 hs hk)) (λ hs hk=>(zaJ hs λ hc hs=>And.intro hc (zc hs hk (λ hs hk=>(hX12 hs hk)) (λ hs hk=>(hX12 hs hk)))))))) (λ hs hk=>(zDt hs hk)))))) _ hs hk
def zk8 (n:Net) (from_a1:Int) (to:Int) (av2:(Sl Int)) (ev2:Int) (bv3:(Sl Int)) (fv3:Int) (cv4:(Sl Int)) (gv4:Int) (zal:Bool) (ze9:(Sl Span)):Bool :=
  (zzy n from_a1 to av2 ev2 bv3 fv3 cv4 gv4 zal ze9 (0:Int) (0:Int))
def zny (n:Net) (from_a1:Int) (to:Int) (av2:(Sl Int)) (ev2:Int) (bv3:(Sl Int)) (fv3:Int) (cv4:(Sl Int)) (gv4:Int) (zal:Bool) (ze9:(Sl Span)):Bool :=
  (zzz n from_a1 to av2 ev2 bv3 fv3 cv4 gv4 zal ze9 (0:Int) (0:Int))
theorem zHr (hs:zny n from_a1 to av2 ev2 bv3 fv3 cv4 gv4 zal ze9=true) (hk:K (e9 (zk8 n from_a1 to av2 ev2 bv3 fv3 cv4 gv4 zal ze9))) (zKD:zDq=zg za1 ze9):z9 K [1,1,1,1,1,1,1,1,1,0,1,1,1] [] ⟨[(1,zI from_a1),(2,zI to),(3,zp 3 0),(7,zS zad 1 av2),(8,zI ev2),(9,zS zad 1 bv3),(10,zI fv3),(11,zS zad 1 cv4),(12,zI gv4),(13,zB zal),(14,zI (0:Int)),(15,zP (.sl ze9.len 2 zDq))],[(3,.box 24 (zm (enc_24 n)))],[]⟩:=by subst zKD;exact zaM (by kernel_rfl) (zHq hs hk)
def zjn (n:Net) (from_a1:Int) (to:Int) (av2:(Sl Int)) (ev2:Int) (bv3:(Sl Int)) (fv3:Int) (cv4:(Sl Int)) (gv4:Int) (zal:Bool) (zk6:Bool):Bool :=
  (cond zk6
 (zdh n from_a1 to av2 ev2 bv3 fv3 cv4 gv4 zal (5:Int))
 (zk8 n from_a1 to av2 ev2 bv3 fv3 cv4 gv4 zal (s33 n)))
def zjo (n:Net) (from_a1:Int) (to:Int) (av2:(Sl Int)) (ev2:Int) (bv3:(Sl Int)) (fv3:Int) (cv4:(Sl Int)) (gv4:Int) (zal:Bool) (zk6:Bool):Bool :=
  (cond zk6
 (zdi n from_a1 to av2 ev2 bv3 fv3 cv4 gv4 zal (5:Int))
 (decide ((p33 n=true)) &&
 (zny n from_a1 to av2 ev2 bv3 fv3 cv4 gv4 zal (s33 n))))
theorem zKE (hs:zjo n from_a1 to av2 ev2 bv3 fv3 cv4 gv4 zal zk6=true) (hk:K (e9 (zjn n from_a1 to av2 ev2 bv3 fv3 cv4 gv4 zal zk6))):z9 K [1,1,1,1,1,1,1,1,1,0,1] [] ⟨[(1,zI from_a1),(2,zI to),(3,zp 3 0),(7,zS zad 1 av2),(8,zI ev2),(9,zS zad 1 bv3),(10,zI fv3),(11,zS zad 1 cv4),(12,zI gv4),(13,zB zal),(14,zI (0:Int)),(100,zB zk6)],[(3,.box 24 (zm (enc_24 n)))],[]⟩:=zaM (by kernel_rfl) (zc hs hk (λ hs hk=>(zDt hs hk)) (λ hs hk=>(zaJ hs λ hc hs=>And.intro (And.intro (zE enc_40 4 n.Ties.get) hc) (zHr hs hk rfl))))
def zeo (n:Net) (from_a1:Int) (to:Int) (av2:(Sl Int)) (ev2:Int) (bv3:(Sl Int)) (fv3:Int) (cv4:(Sl Int)) (gv4:Int) (zal:Bool):Bool :=
  (zjn n from_a1 to av2 ev2 bv3 fv3 cv4 gv4 zal (!(s31 n)))
def zep (n:Net) (from_a1:Int) (to:Int) (av2:(Sl Int)) (ev2:Int) (bv3:(Sl Int)) (fv3:Int) (cv4:(Sl Int)) (gv4:Int) (zal:Bool):Bool :=
  (decide ((p31 n=true)) &&
 (zjo n from_a1 to av2 ev2 bv3 fv3 cv4 gv4 zal (!(s31 n))))
theorem zoT (hs:zep n from_a1 to av2 ev2 bv3 fv3 cv4 gv4 zal=true) (hk:K (e9 (zeo n from_a1 to av2 ev2 bv3 fv3 cv4 gv4 zal))):z9 K [1,1,1,1,1,1,1,1] [] ⟨[(1,zI from_a1),(2,zI to),(3,zp 3 0),(7,zS zad 1 av2),(8,zI ev2),(9,zS zad 1 bv3),(10,zI fv3),(11,zS zad 1 cv4),(12,zI gv4),(13,zB zal)],[(3,.box 24 (zm (enc_24 n)))],[]⟩:=zaM (by kernel_rfl) (zaJ hs λ hc hs=>And.intro (And.intro (zE enc_40 4 n.Ties.get) hc) (zKE hs hk))
def zlY (n:Net) (from_a1:Int) (to:Int) (av2:(Sl Int)) (ev2:Int) (bv3:(Sl Int)) (fv3:Int) (cv4:(Sl Int)) (gv4:Int):Bool :=
  (cond (decide (from_a1 ≥ (0:Int)))
 (cond (decide (from_a1 < n.Nodes))
 (cond (decide (to ≥ (0:Int)))
 (cond (!(decide (to < n.Nodes)))
 (cond (gv4 != (2:Int))
 false
 (cond ((cv4.len : Int) != (0:Int))
 false
 (zeo n from_a1 to av2 ev2 bv3 fv3 cv4 gv4 (decide (to < n.Nodes)))))
 (zeo n from_a1 to av2 ev2 bv3 fv3 cv4 gv4 (decide (to < n.Nodes))))
 (cond (gv4 != (2:Int))
 false
 (cond ((cv4.len : Int) != (0:Int))
 false
 (zeo n from_a1 to av2 ev2 bv3 fv3 cv4 gv4 false))))
 (cond (gv4 != (2:Int))
 false
 (cond ((cv4.len : Int) != (0:Int))
 false
 (zeo n from_a1 to av2 ev2 bv3 fv3 cv4 gv4 false))))
 (cond (gv4 != (2:Int))
 false
 (cond ((cv4.len : Int) != (0:Int))
 false
 (zeo n from_a1 to av2 ev2 bv3 fv3 cv4 gv4 false))))
def zlZ (n:Net) (from_a1:Int) (to:Int) (av2:(Sl Int)) (ev2:Int) (bv3:(Sl Int)) (fv3:Int) (cv4:(Sl Int)) (gv4:Int):Bool :=
  (cond (decide (from_a1 ≥ (0:Int)))
 (cond (decide (from_a1 < n.Nodes))
 (cond (decide (to ≥ (0:Int)))
 (cond (!(decide (to < n.Nodes)))
 (cond (gv4 != (2:Int))
 true
 (cond ((cv4.len : Int) != (0:Int))
 true
 (zep n from_a1 to av2 ev2 bv3 fv3 cv4 gv4 (decide (to < n.Nodes)))))
 (zep n from_a1 to av2 ev2 bv3 fv3 cv4 gv4 (decide (to < n.Nodes))))
 (cond (gv4 != (2:Int))
 true
 (cond ((cv4.len : Int) != (0:Int))
 true
 (zep n from_a1 to av2 ev2 bv3 fv3 cv4 gv4 false))))
 (cond (gv4 != (2:Int))
 true
 (cond ((cv4.len : Int) != (0:Int))
 true
 (zep n from_a1 to av2 ev2 bv3 fv3 cv4 gv4 false))))
 (cond (gv4 != (2:Int))
 true
 (cond ((cv4.len : Int) != (0:Int))
 true
 (zep n from_a1 to av2 ev2 bv3 fv3 cv4 gv4 false))))
theorem zKF (hs:zlZ n from_a1 to av2 ev2 bv3 fv3 cv4 gv4=true) (hk:K (e9 (zlY n from_a1 to av2 ev2 bv3 fv3 cv4 gv4))):z9 K [1,1,1,1,1,1] [] ⟨[(1,zI from_a1),(2,zI to),(3,zp 3 0),(7,zS zad 1 av2),(8,zI ev2),(9,zS zad 1 bv3),(10,zI fv3),(11,zS zad 1 cv4),(12,zI gv4)],[(3,.box 24 (zm (enc_24 n)))],[]⟩:=zaM (by kernel_rfl) (zc hs hk (λ hs hk=>(zc hs hk (λ hs hk=>(zc hs hk (λ hs hk=>(zc hs hk (λ hs hk=>(zc hs hk (λ hs hk=>hk) (λ hs hk=>(zc hs hk (λ hs hk=>hk) (λ hs hk=>(zoT hs hk)))))) (λ hs hk=>(zoT hs hk)))) (λ hs hk=>(zc hs hk (λ hs hk=>hk) (λ hs hk=>(zc hs hk (λ hs hk=>hk) (λ hs hk=>(zoT hs hk)))))))) (λ hs hk=>(zc hs hk (λ hs hk=>hk) (λ hs hk=>(zc hs hk (λ hs hk=>hk) (λ hs hk=>(zoT hs hk)))))))) (λ hs hk=>(zc hs hk (λ hs hk=>hk) (λ hs hk=>(zc hs hk (λ hs hk=>hk) (λ hs hk=>(zoT hs hk)))))))
def zhI (n:Net) (from_a1:Int) (to:Int) (av2:(Sl Int)) (ev2:Int) (bv3:(Sl Int)) (fv3:Int) (cv4:(Sl Int)) (gv4:Int) (zrk:Bool):Bool :=
  (cond zrk
 (cond (ev2 == (2:Int))
 (cond (fv3 == (2:Int))
 (cond (gv4 == (2:Int))
 (cond ((w64 ((w64 ((av2.len : Int) + (bv3.len : Int))) + (cv4.len : Int))) == (0:Int))
 true
 false)
 false)
 false)
 false)
 (zlY n from_a1 to av2 ev2 bv3 fv3 cv4 gv4))
def zhJ (n:Net) (from_a1:Int) (to:Int) (av2:(Sl Int)) (ev2:Int) (bv3:(Sl Int)) (fv3:Int) (cv4:(Sl Int)) (gv4:Int) (zrk:Bool):Bool :=
  (cond zrk
 true
 (zlZ n from_a1 to av2 ev2 bv3 fv3 cv4 gv4))
theorem zKG (hs:zhJ n from_a1 to av2 ev2 bv3 fv3 cv4 gv4 zrk=true) (hk:K (e9 (zhI n from_a1 to av2 ev2 bv3 fv3 cv4 gv4 zrk))):z9 K [1,1,1,1,1,0,1] [] ⟨[(1,zI from_a1),(2,zI to),(3,zp 3 0),(7,zS zad 1 av2),(8,zI ev2),(9,zS zad 1 bv3),(10,zI fv3),(11,zS zad 1 cv4),(12,zI gv4),(44,zB zrk)],[(3,.box 24 (zm (enc_24 n)))],[]⟩:=zaM (by kernel_rfl) (zc hs hk (λ hs hk=>(zt hk (λ hk=>(zt hk (λ hk=>(zt hk (λ hk=>(zt hk (λ hk=>hk) (λ hk=>hk))) (λ hk=>hk))) (λ hk=>hk))) (λ hk=>hk))) (λ hs hk=>(zKF hs hk)))
def zzA (n:Net) (from_a1:Int) (to:Int) (av2:(Sl Int)) (ev2:Int) (bv3:(Sl Int)) (fv3:Int) (cv4:(Sl Int)) (gv4:Int):Bool :=
  (zhI n from_a1 to av2 ev2 bv3 fv3 cv4 gv4 (!(s23 n)))
def zzB (n:Net) (from_a1:Int) (to:Int) (av2:(Sl Int)) (ev2:Int) (bv3:(Sl Int)) (fv3:Int) (cv4:(Sl Int)) (gv4:Int):Bool :=
  (decide ((p23 n=true)) &&
 (zhJ n from_a1 to av2 ev2 bv3 fv3 cv4 gv4 (!(s23 n))))
theorem zKH (hs:zzB n from_a1 to av2 ev2 bv3 fv3 cv4 gv4=true) (hk:K (e9 (zzA n from_a1 to av2 ev2 bv3 fv3 cv4 gv4))) (zMY:zKA=zg zad cv4):z9 K [1,1,1,1,1] [] ⟨[(1,zI from_a1),(2,zI to),(3,zp 3 0),(7,zS zad 1 av2),(8,zI ev2),(9,zS zad 1 bv3),(10,zI fv3),(11,zP (.sl cv4.len 1 zKA)),(12,zI gv4)],[(3,.box 24 (zm (enc_24 n)))],[]⟩:=by subst zMY;exact zaM (by kernel_rfl) (zaJ hs λ hc hs=>And.intro (And.intro (zE enc_40 4 n.Ties.get) hc) (zKG hs hk))
def zzC (n:Net) (from_a1:Int) (to:Int) (av2:(Sl Int)) (ev2:Int) (bv3:(Sl Int)) (fv3:Int):Bool :=
  (zzA n from_a1 to av2 ev2 bv3 fv3 ((s45 n from_a1 to).1) ((s45 n from_a1 to).2))
def zzD (n:Net) (from_a1:Int) (to:Int) (av2:(Sl Int)) (ev2:Int) (bv3:(Sl Int)) (fv3:Int):Bool :=
  (decide ((p45 n from_a1 to=true)) &&
 (zzB n from_a1 to av2 ev2 bv3 fv3 ((s45 n from_a1 to).1) ((s45 n from_a1 to).2)))
theorem zKI (hs:zzD n from_a1 to av2 ev2 bv3 fv3=true) (hk:K (e9 (zzC n from_a1 to av2 ev2 bv3 fv3))) (zMZ:zKz=zg zad bv3):z9 K [1,1,1,1] [] ⟨[(1,zI from_a1),(2,zI to),(3,zp 3 0),(7,zS zad 1 av2),(8,zI ev2),(9,zP (.sl bv3.len 1 zKz)),(10,zI fv3)],[(3,.box 24 (zm (enc_24 n)))],[]⟩:=by subst zMZ;exact zaM (by kernel_rfl) (zaJ hs λ hc hs=>And.intro (And.intro (zE enc_40 4 n.Ties.get) hc) (zKH hs hk rfl))
def zzE (n:Net) (from_a1:Int) (to:Int) (av2:(Sl Int)) (ev2:Int):Bool :=
  (zzC n from_a1 to av2 ev2 ((s44 n).1) ((s44 n).2))
def zzF (n:Net) (from_a1:Int) (to:Int) (av2:(Sl Int)) (ev2:Int):Bool :=
  (decide ((p44 n=true)) &&
 (zzD n from_a1 to av2 ev2 ((s44 n).1) ((s44 n).2)))
theorem zKJ (hs:zzF n from_a1 to av2 ev2=true) (hk:K (e9 (zzE n from_a1 to av2 ev2))) (zM0:zKx=zg zad av2):z9 K [1,1,1] [] ⟨[(1,zI from_a1),(2,zI to),(3,zp 3 0),(7,zP (.sl av2.len 1 zKx)),(8,zI ev2)],[(3,.box 24 (zm (enc_24 n)))],[]⟩:=by subst zM0;exact zaM (by kernel_rfl) (zaJ hs λ hc hs=>And.intro (And.intro (zE enc_40 4 n.Ties.get) hc) (zKI hs hk rfl))
def ztn (n:Net) (from_a1:Int) (to:Int):Bool :=
  (zzE n from_a1 to ((s43 n).1) ((s43 n).2))
def zto (n:Net) (from_a1:Int) (to:Int):Bool :=
  (decide ((p43 n=true)) &&
 (zzF n from_a1 to ((s43 n).1) ((s43 n).2)))
theorem zKK (hs:zto n from_a1 to=true) (hk:K (e9 (ztn n from_a1 to))):z9 K [1,1] [] ⟨[(1,zI from_a1),(2,zI to),(3,zp 3 0)],[(3,.box 24 (zm (enc_24 n)))],[]⟩:=zaM (by kernel_rfl) (zaJ hs λ hc hs=>And.intro (And.intro (zE enc_40 4 n.Ties.get) hc) (zKJ hs hk rfl))
def zDu (n:Net) (from_a1:Int) (to:Int) (zaz:Bool):Bool :=
  (cond zaz
 true
 (ztn n from_a1 to))
def zDv (n:Net) (from_a1:Int) (to:Int) (zaz:Bool):Bool :=
  (cond zaz
 true
 (zto n from_a1 to))
theorem zKL (hs:zDv n from_a1 to zaz=true) (hk:K (e9 (zDu n from_a1 to zaz))):z9 K [1,0,1] [] ⟨[(1,zI from_a1),(2,zI to),(3,zp 3 0),(23,zB zaz)],[(3,.box 24 (zm (enc_24 n)))],[]⟩:=zaM (by kernel_rfl) (zc hs hk (λ hs hk=>hk) (λ hs hk=>(zKK hs hk)))
def s9 (n:Net) (from_a1:Int) (to:Int):Bool :=
  (zDu n from_a1 to (!(s20 n (14:Int))))
def p9 (n:Net) (from_a1:Int) (to:Int):Bool :=
  (zDv n from_a1 to (!(s20 n (14:Int))))
end
theorem q9 (n:Net) (from_a1:Int) (to:Int) (K:List PA->Prop) (hs:p9 n from_a1 to=true) (hk:K (e9 (s9 n from_a1 to))):vcFun Tryd.prog G9 zMX 9 [.agg (enc_24 n),.one (.int .i64 from_a1),.one (.int .i64 to)] K :=
  zaM (by kernel_rfl) (And.intro (zE enc_40 4 n.Ties.get) (zKL hs hk))
def zNC : List PA → COut
  | [.agg [.int .i64 zae,.sl zac zat zab],.one (.int .i64 a1),.one (.int .i64 a2)]=>.det (IsE enc_40 4 zat zab/\p9 (⟨zae,(⟨zac,zam zab⟩:(Sl Tie))⟩:Net) a1 a2=true) [.one (.bool (s9 (⟨zae,(⟨zac,zam zab⟩:(Sl Tie))⟩:Net) a1 a2))]
  | _=>.no
theorem call9:zar Tryd.prog 9:=⟨_,rfl,rfl,by kernel_rfl⟩
theorem ok9:Ok Tryd.prog 9 zNC:=za9 zOJ call9 λ args K h=>by
  unfold zNC at h
  split at h
  · rename_i zae zac zat zab a1 a2
    obtain⟨⟨⟨rfl,zan,rfl⟩,hs⟩,hk⟩:=h
    try rw[zak zan] at hs
    try rw[zak zan] at hk
    exact⟨(λ _ _=>[]),(λ _=>false),zMX,q9 (⟨zae,(⟨zac,zan⟩:(Sl Tie))⟩:Net) a1 a2 K hs hk⟩
  · exact h.elim
end Go.Proofs
namespace Go.Proofs.YtedhjaaikeakoaaDoor
open Go Go.Pm Go.ChangeShapes
set_option maxRecDepth 100000
abbrev laid1 : List (String × DataW Unit) := [("overburden/align.never", Rows.laid_overburden_align_never)]
theorem zDw : Tryd.prog.globalNamed "overburden/align.never" = some 0 := by kernel_rfl
theorem zKM:(Tryd.prog.globals[0]?).map (·.type)=some 114:=by kernel_rfl
theorem zKN:Tryd.prog.cellsOf 114=2:=by kernel_rfl
theorem zND:Tryd.prog.cellsOf 3=1:=by kernel_rfl
theorem door_met (os:Os) (args:Array Value):laidMetH Tryd.prog laid1 ((World.doorLaid Tryd.prog 400 os).forCall (λ _ _=>0) ⟨#[],args,[]⟩).memory :=
 laidMetH_of_parts3 (fuel:=8) (laidMet_of_run' 8 (by kernel_rfl) (by kernel_rfl)) (by kernel_rfl) (by kernel_rfl)
theorem gl_of {W:World}(h:laidMetH Tryd.prog laid1 W):zd0 (H0 W):=by
 rw[MakeChecks.laidMetH_plain _ _ _ (by kernel_rfl)] at h
 obtain⟨ps,⟨g0,t0,cs0,f0,p0,q0,hg0,ht0,hv0,hd0,_,_⟩,_,_⟩:=h
 obtain rfl:=Option.some.inj (zDw.symm.trans hg0)
 obtain rfl:=Option.some.inj (zKM.symm.trans ht0)
 obtain⟨y0,y1,n,hx,hl,h0,h1⟩:=trod_struct2 Tryd.underlying114 hd0
 simp only[Prod.mk.injEq] at hx
 obtain⟨hx,-⟩:=hx
 simp only[Rows.laid_overburden_align_never,DataW.agg.injEq,List.cons.injEq,and_true] at hx
 obtain⟨k0,e0,d0,_⟩:=DataW.trod_int Tryd.underlying3 h0
 obtain⟨k1,e1,d1,_⟩:=DataW.trod_int Tryd.underlying3 h1
 rw[zKN] at hl
 have e0':cs0.toList.take 1=[.int .i64 k0]:=by
  have:=e0
  rw[show Tryd.prog.cellsOf _=1 from zND] at this
  simpa using this
 have e1':(cs0.toList.drop 1).take 1=[.int .i64 k1]:=by
  have:=e1
  rw[show Tryd.prog.cellsOf _=1 from zND] at this
  simpa using this
 have hk0:k0=1000000000000:=by have:=hx.1;rw[d0] at this;injection this with a;injection a with _ a;exact a.symm
 have hk1:k1=0:=by have:=hx.2;rw[d1] at this;injection this with a;injection a with _ a;exact a.symm
 have hC:cs0.toList=[.int .i64 1000000000000,.int .i64 0]:=by
  have h2:cs0.toList=cs0.toList.take 1 ++ (cs0.toList.drop 1).take 1:=by
   rw[← List.take_add,List.take_of_length_le (by omega)]
  rw[h2,e0',e1',hk0,hk1];rfl
 intro k l hk
 unfold World.var? at hv0
 rw[zDw] at hv0
 simp only[Option.bind_some] at hv0
 cases k with
 | succ k=>cases hk
 | zero =>
  obtain rfl:[PV.int .i64 1000000000000,.int .i64 0]=l:=Option.some.inj hk
  cases eo:W.heap[0]? with
  | none=>rw[eo] at hv0;cases hv0
  | some o =>
   rw[eo] at hv0
   cases o with
   | cells C ty fr =>
    simp only[Option.some.injEq] at hv0
    subst hv0
    exact⟨_,ty,fr,by unfold H0;rw[eo];rfl,by rw[hC];exact⟨.int _ _,.int _ _,trivial⟩⟩
   | _=>cases hv0
end Go.Proofs.YtedhjaaikeakoaaDoor
namespace Go.Proofs.YtedhjaaikeakoaaDoor
set_option maxRecDepth 100000
def dc : Nat → Nat → List Char
  | 0,_=>[]
  | k+1,n=>Char.ofNat (n % 128) :: dc k (n / 128)
def ioR:List (List Char):=[dc 2 14945,dc 38 107265865644741724912243125268531249640326942553430557205577479631290979090791279,dc 38 108293077817484906734254386447616441263814988321737617043972465573863363972791151,dc 38 93370879016013017278412803021783510280543711028000410236402271261457424383048559,dc 38 107258694022858408970435192345127867927486736974969802526482043864463718682819439,dc 39 13746719959472648153406769131206406626558510298776447130317981093147086104311724911,dc 38 107266209769642888316488957616301258915172789321380384129051881327065490379078511,dc 39 13738338888634744287462113483281891133786406809494667074737303271467843731645365103,dc 38 107308724040215521434011850380931925905298338556088488294726402895071789331348335,dc 43 3689337697451499537899652006011379275272339788637320245734945509069109267079825879406836591,dc 38 106339254617564648824502995819756623291246721172574690728430612464564447869500271,dc 38 107330772524736890892060720350443696785457349727637599143704802418857719933533039,dc 38 107266380701743786104986999119182321999123657451770743386930499759721679104342895,dc 38 107308728471136676073553801914045189487148679029700448428114571309412341010496367,dc 37 837954515553292543489687687552621780150771894250034810644180755742461368302447,dc 38 107287017468262091873827311208814906259154281073825133055543027267698112966785903,dc 38 107374028509112486977837548216825331243033985081330090052312008930171490580134767,dc 38 107265533895345759970156929786145176805363222797160045994169685653949991330872175]
def ioN:List Char:=dc 748 14110378018767575964226655308004126793045208087310171201555892242252648960690434620806224759478349222793457564936136773140206884019406577404308477398112682127111429688458091804136369451876026010391452929509304596612007749348823331848074321521876163367611471766311661795807971626777430789606670518996161301806853738256348343737238826384171739901612950230839336053519876648582653265928992265003442337249315020340640568624042171724319570015876863120612063908539839480788963015814409324055605425425582212723687691771037045010066064867754736841809752569547023397197010564985861497252960727260554984899190782686002829257997185443421456271698218584945985148990383891392482548262956659989814614329905290488435125286744085629934720469444029598243369313538259143807170350259387234145666063103371643809341342441092158617040725699310351084585854817129011753246127748964030413854525633190715875548631480060648955255476518703717934493416584654287151545453027212072361023366870608725576042669368667333719675724995494706645777621137060304017521484702088503639607947747215026989263530504204523251982333933107210391579300884546305432560571086131943194743723205005815139772394062686780566686930384812217785365992657908782936586832589627342388339882126362151219006413773645814561079952905486963953952063552645778936398310246717058410743450648594152841163565946295251582585294350653230459132165827590128826417871324965536217148578987470925657879977171716100377657863588641203253643922875913460814715430695689192746980757875303892414899783421563436119681070640173712093473782554642421452415184974056
theorem ioS:Tryd.prog.initOrder=String.ofList ioN:=by kernel_rfl
theorem ioL:Tryd.prog.initOrder.toList=ioN:=(congrArg String.toList ioS).trans String.toList_ofList
theorem ioW:wordsSigns Tryd.prog.initOrder.toList=(dc 7 509754063237352) :: (dc 64 583581952082889979719035725534559484815115086455805852996510235646750355970935781905203483690318741732481452225105900421668580921071669) :: (dc 3 1915619) :: ioR:=(congrArg wordsSigns ioL).trans (by kernel_rfl)
theorem ioB:behindMainWord (wordsSigns Tryd.prog.initOrder.toList)=(dc 3 1915619) :: ioR:=(congrArg behindMainWord ioW).trans (by kernel_rfl)
theorem zoU {P : Program} {l : List (List Char)} (h : behindMainWord (wordsSigns P.initOrder.toList) = l) : P.headLifts = (if (stripLifts liftWords l).2.head? == some "cut".toList then (stripLifts liftWords l).1 else []) := by subst h; rfl
theorem zHs {P:Program}{rest:List (List Char)}(h:behindMainWord (wordsSigns P.initOrder.toList)=(dc 3 1915619) :: rest):P.make=some .cut:=by unfold Program.make;rw[h];rfl
theorem zBT {P:Program}{rest:List (List Char)}(h:behindMainWord (wordsSigns P.initOrder.toList)=(dc 3 1915619) :: rest) (hl:P.headLifts=[]):P.liftsFinal=false:=by unfold Program.liftsFinal;rw[h,hl];rfl
theorem zHt {P : Program} {a b : List Char} {rest : List (List Char)} (h : wordsSigns P.initOrder.toList = a :: b :: rest) (hs : isSumSigns b = true) (ha : (a == "harness".toList) = true) : P.mainIs = some (true, b) := by unfold Program.mainIs; rw [h]; simp only [hs, ha]; rfl
theorem zBU {P : Program} {c : List Char} {rest : List (List Char)} (h : behindMainWord (wordsSigns P.initOrder.toList) = c :: rest) (hst : (stripLifts liftWords (c :: rest)).2.head? = some "cut".toList)
    (hs1:(stripLifts liftWords (c :: rest)).1=[]) (hlay:P.laysLater=false) (hb:P.bearsReflect=false) (hd:P.doorFits []=true):P.mayEnter=true:=by
  unfold Program.mayEnter
  rw[h]
  simp[hst,hs1,hlay,hb,hd]
theorem ioH:Tryd.prog.headLifts=[]:=(zoU ioB).trans (by kernel_rfl)
theorem ioK:Tryd.prog.make=some .cut:=zHs ioB
theorem ioF:Tryd.prog.liftsFinal=false:=zBT ioB ioH
theorem ioM : Tryd.prog.mainIs = some (true, "5097d02014b7f9bdc457588f16a61179f96daee4a085c0a2c5462d863db43dbf".toList) := (zHt ioW (by kernel_rfl) (by kernel_rfl)).trans (by kernel_rfl)
theorem ioE:Tryd.prog.mayEnter=true:=zBU ioB (by kernel_rfl) (by kernel_rfl) (by kernel_rfl) (by kernel_rfl) (by kernel_rfl)
end Go.Proofs.YtedhjaaikeakoaaDoor
namespace Go.Pm
open Go

theorem zbx {x:Int}(h1 : -9223372036854775808≤x) (h2:x≤9223372036854775807):w64 x=x:=by
 have hb:IntKind.i64.bits=64:=rfl
 have hs:IntKind.i64.signed=true:=rfl
 unfold w64 IntKind.wrap
 rw[hb,hs]
 simp only[Bool.true_and,decide_eq_true_eq]
 split <;> omega
def zNE (c : Nat → Bool) : Nat → Nat → Nat
  | 0,i=>i
  | m+1,i=>match c i with | true=>i | false=>zNE c m (i+1)
def fst (c:Nat->Bool) (n:Nat):Nat:=zNE c n 0
theorem zfd {good : Nat → Bool} {fin : Bool} {n : Nat} {lpS lpP : Nat → Int → Bool}
    (hS:∀ (k i:Nat),i < n->lpS (k+1) (i:Int)=cond (good i) (lpS k (w64 ((i:Int)+(1:Int)))) false)
    (hE:∀ k,lpS (k+1) (n:Int)=fin)
    (hP:∀ (k i:Nat),i < n->lpP (k+1) (i:Int)=cond (good i) (lpP k (w64 ((i:Int)+(1:Int)))) true)
    (hPE:∀ k,lpP (k+1) (n:Int)=true) (hn:n≤9223372036854775807) :
    lpP Fuel 0=true/\(lpS Fuel 0=true↔(∀ i,i < n->good i=true)/\fin=true):=by
  have key:∀ (m k i:Nat),i+m=n->m < k->lpP k (i:Int)=true/\(lpS k (i:Int)=true↔(∀ j,i≤j->j < n->good j=true)/\fin=true):=by
    intro m
    induction m with
    | zero =>
      intro k i hi hk
      obtain⟨k,rfl⟩:∃ k',k=k'+1:=⟨k - 1,by omega⟩
      have:i=n:=by omega
      subst this
      rw[hE,hPE]
      exact⟨rfl,⟨λ h=>⟨λ j h1 h2=>absurd h2 (by omega),h⟩,λ h=>h.2⟩⟩
    | succ m ih =>
      intro k i hi hk
      obtain⟨k,rfl⟩:∃ k',k=k'+1:=⟨k - 1,by omega⟩
      rw[hS k i (by omega),hP k i (by omega)]
      have e3:w64 ((i:Int)+1)=((i+1:Nat):Int):=by rw[zbx (by omega) (by omega)];omega
      rw[e3]
      obtain⟨h1,h2⟩:=ih k (i+1) (by omega) (by omega)
      cases hg:good i
      · refine ⟨rfl, ⟨fun h => (by cases h), fun h => ?_⟩⟩
        have:=h.1 i (Nat.le_refl _) (by omega)
        rw[hg] at this;cases this
      · refine ⟨h1, h2.trans ⟨fun h => ⟨fun j hj1 hj2 => ?_, h.2⟩, fun h => ⟨fun j hj1 hj2 => h.1 j (by omega) hj2, h.2⟩⟩⟩
        by_cases hji:j=i
        · rw[hji];exact hg
        · exact h.1 j (by omega) hj2
  have:=key n Fuel 0 (by omega) (by simp only[Fuel];omega)
  simpa using this

end Go.Pm
namespace Go.Pm
open Go
theorem zjI {i n:Nat}(h:i < n) (hn:n≤9223372036854775807):w64 ((i:Int)+(1:Int))=((i+1:Nat):Int):=by
 rw[zbx (by omega) (by omega)];omega
theorem zHu {β : Type} {good : Nat → Bool} {bad fin : β} {finP : Bool} {n : Nat} {lpS : Nat → Int → β} {lpP : Nat → Int → Bool}
    (hS:∀ (k i:Nat),i < n->lpS (k+1) (i:Int)=cond (good i) (lpS k (w64 ((i:Int)+(1:Int)))) bad)
    (hE:∀ k,lpS (k+1) (n:Int)=fin)
    (hP:∀ (k i:Nat),i < n->lpP (k+1) (i:Int)=cond (good i) (lpP k (w64 ((i:Int)+(1:Int)))) true)
    (hPE:∀ k,lpP (k+1) (n:Int)=finP) (hn:n≤9223372036854775807) :
    ((∀ i,i < n->good i=true)->lpP Fuel 0=finP/\lpS Fuel 0=fin)/\((¬ ∀ i,i < n->good i=true)->lpP Fuel 0=true/\lpS Fuel 0=bad):=by
  have key:∀ (m k i:Nat),i+m=n->m < k->((∀ j,i≤j->j < n->good j=true)->lpP k (i:Int)=finP/\lpS k (i:Int)=fin)/\((¬ ∀ j,i≤j->j < n->good j=true)->lpP k (i:Int)=true/\lpS k (i:Int)=bad):=by
    intro m
    induction m with
    | zero =>
      intro k i hi hk
      obtain⟨k,rfl⟩:∃ k',k=k'+1:=⟨k - 1,by omega⟩
      have:i=n:=by omega
      subst this
      rw[hE,hPE]
      exact⟨λ _=>⟨rfl,rfl⟩,λ h=>absurd (λ j h1 h2=>absurd h2 (by omega)) h⟩
    | succ m ih =>
      intro k i hi hk
      obtain⟨k,rfl⟩:∃ k',k=k'+1:=⟨k - 1,by omega⟩
      rw[hS k i (by omega),hP k i (by omega),zjI (n:=n) (by omega) hn]
      obtain⟨h1,h2⟩:=ih k (i+1) (by omega) (by omega)
      cases hg:good i
      · refine ⟨fun h => ?_, fun _ => ⟨rfl, rfl⟩⟩
        have:=h i (Nat.le_refl _) (by omega)
        rw[hg] at this;cases this
      · refine ⟨fun h => h1 fun j a b => h j (by omega) b, fun h => h2 fun h' => h fun j a b => ?_⟩
        by_cases hji:j=i
        · rw[hji];exact hg
        · exact h' j (by omega) b
  have:=key n Fuel 0 (by omega) (by simp only[Fuel];omega)
  simpa using this
def zfe {σ : Type} (step : Nat → σ → σ) : Nat → Nat → σ → σ
  | 0,_,s=>s
  | m+1,i,s=>zfe step m (i+1) (step i s)
theorem zf9 {σ β : Type} {step : Nat → σ → σ} {E : σ → β} {EP : σ → Bool} {Inv : Nat → σ → Prop} {a n : Nat} {lpS : Nat → σ → Int → β} {lpP : Nat → σ → Int → Bool}
    (hS:∀ (k i:Nat) (s:σ),a≤i->i < n->Inv i s->lpS (k+1) s (i:Int)=lpS k (step i s) (w64 ((i:Int)+(1:Int))))
    (hE:∀ k s,lpS (k+1) s (n:Int)=E s)
    (hP:∀ (k i:Nat) (s:σ),a≤i->i < n->Inv i s->lpP (k+1) s (i:Int)=lpP k (step i s) (w64 ((i:Int)+(1:Int))))
    (hPE:∀ k s,lpP (k+1) s (n:Int)=EP s)
    (hI:∀ i s,a≤i->i < n->Inv i s->Inv (i+1) (step i s)) (ha:a≤n) (hn:n≤9223372036854775807) (s:σ) (h0:Inv a s) :
    lpP Fuel s (a:Int)=EP (zfe step (n - a) a s)/\lpS Fuel s (a:Int)=E (zfe step (n - a) a s):=by
  have key:∀ (m k i:Nat) (s:σ),a≤i->i+m=n->m < k->Inv i s->lpP k s (i:Int)=EP (zfe step m i s)/\lpS k s (i:Int)=E (zfe step m i s):=by
    intro m
    induction m with
    | zero =>
      intro k i s h1 hi hk _
      obtain⟨k,rfl⟩:∃ k',k=k'+1:=⟨k - 1,by omega⟩
      have:i=n:=by omega
      subst this
      rw[hE,hPE]
      exact⟨rfl,rfl⟩
    | succ m ih =>
      intro k i s h1 hi hk hs
      obtain⟨k,rfl⟩:∃ k',k=k'+1:=⟨k - 1,by omega⟩
      rw[hS k i s h1 (by omega) hs,hP k i s h1 (by omega) hs,zjI (n:=n) (by omega) hn]
      exact ih k (i+1) (step i s) (by omega) (by omega) (by omega) (hI i s h1 (by omega) hs)
  exact key (n - a) Fuel a s (Nat.le_refl _) (by omega) (by simp only[Fuel];omega) h0
end Go.Pm
namespace Go.Proofs
open Go Go.Pm
set_option maxRecDepth 100000
set_option linter.unusedVariables false
attribute [local irreducible] Go.Pm.vcFun Go.Pm.vc Go.Pm.vcIter
end Go.Proofs
namespace Go.Proofs
open Go Go.Pm
set_option maxRecDepth 100000
theorem zoV (n a b:Int):s81 n a b=decide (a≤n/\n≤b):=by
 unfold s81
 by_cases h:a≤n
 ·rw[decide_eq_true (show n ≥ a from h),cond_true];exact decide_eq_decide.2 ⟨λ k=>⟨h,k⟩,λ k=>k.2⟩
 ·rw[decide_eq_false (show ¬ n ≥ a from h),cond_false];exact (decide_eq_false (λ k=>h k.1)).symm
theorem ztp (n a b:Int):s72 n a b=decide (a≤n/\n≤b):=zoV n a b
theorem zDx (n:Net) (hn:n.Ties.len≤9223372036854775807):p67 n=true/\(s67 n=true↔(∀ i,i < n.Ties.len->s78 (n.Ties.get i) n.Nodes=true)/\(1≤n.Nodes/\n.Nodes≤40)/\n.Ties.len≤200):=by
  have := zfd (good := fun i => s78 (n.Ties.get i) n.Nodes) (fin := cond (s81 n.Nodes (1:Int) (40:Int)) (decide ((n.Ties.len : Int) ≤ (200:Int))) false) (n := n.Ties.len) (lpS := zh4 n) (lpP := zh5 n)
    (λ k i hi=>by
      show zh2 n (zh4 n k) (i:Int)=_
      generalize zh4 n k=S
      unfold zh2 zpP
      rw[decide_eq_true (show (i:Int) < (n.Ties.len:Int) by omega),cond_true,Int.toNat_natCast]
      cases s78 (n.Ties.get i) n.Nodes <;> rfl)
    (λ k=>by
      show zh2 n (zh4 n k) (n.Ties.len:Int)=_
      unfold zh2
      rw[decide_eq_false (show ¬ (n.Ties.len:Int) < (n.Ties.len:Int) by omega),cond_false])
    (λ k i hi=>by
      show zh3 n (zh5 n k) (i:Int)=_
      generalize zh5 n k=S
      unfold zh3 zpQ
      rw[decide_eq_true (show (i:Int) < (n.Ties.len:Int) by omega),cond_true,Int.toNat_natCast,decide_eq_true (show 0≤(i:Int)/\(i:Int) < (n.Ties.len:Int) by omega),Bool.true_and]
      cases s78 (n.Ties.get i) n.Nodes <;> rfl)
    (λ k=>by
      show zh3 n (zh5 n k) (n.Ties.len:Int)=_
      unfold zh3
      rw[decide_eq_false (show ¬ (n.Ties.len:Int) < (n.Ties.len:Int) by omega),cond_false])
    hn
  refine⟨this.1,this.2.trans ?_⟩
  rw[zoV]
  by_cases h:1≤n.Nodes/\n.Nodes≤40
  · rw[decide_eq_true h,cond_true,decide_eq_true_eq];exact⟨λ k=>⟨k.1,h,by omega⟩,λ k=>⟨k.1,by omega⟩⟩
  · rw[decide_eq_false h,cond_false];exact⟨λ k=>absurd k.2 (by decide),λ k=>absurd k.2.1 h⟩
end Go.Proofs
namespace Go.Proofs
open Go Go.Pm
set_option maxRecDepth 100000
set_option linter.unusedVariables false
attribute [local irreducible] Go.Pm.vcFun Go.Pm.vc Go.Pm.vcIter
section
variable {K:List PA->Prop}{n:Net}{values:(Sl Int)}{zOK:Bool}{zoS:Int}{X2:St->Prop}{P2:Int->Bool}{S2:Int->Bool}{zOL:Int}{zOM:Bool}{zON:Int}{X5:St->Prop}{P5:Int->Bool}{S5:Int->Bool}
end
section
variable {K:List PA->Prop}{n:Net}
end
end Go.Proofs
namespace Go.Proofs
open Go Go.Pm
set_option maxRecDepth 100000
set_option linter.unusedVariables false
theorem dgt (x y:Int):decide (x > y) = !decide (x≤y):=by
 by_cases h:x > y
 ·rw[decide_eq_true h,decide_eq_false (show ¬ x≤y by omega)];rfl
 ·rw[decide_eq_false h,decide_eq_true (show x≤y by omega)];rfl
theorem zDy (nodes:Int) (t:Tie):s36 nodes t=s78 t nodes:=by
 unfold s36 ziu zqM s78 zkN zkM
 simp only[ztp,zoV,bne,dgt]
 generalize decide (0≤t.From/\t.From≤w64 (nodes - (1:Int)))=a
 generalize decide (0≤t.To/\t.To≤w64 (nodes - (1:Int)))=b
 generalize (t.From == t.To)=c
 generalize (t.Low == (-1000000000000:Int))=d
 generalize (t.High == (1000000000000:Int))=e
 generalize decide (-1000000000≤t.Low/\t.Low≤1000000000)=f
 generalize decide (-1000000000≤t.High/\t.High≤1000000000)=g
 generalize decide (t.Low≤t.High)=h
 cases a <;> cases b <;> cases c <;> cases d <;> cases e <;> cases f <;> cases g <;> cases h <;> rfl
structure TieOk (t : Tie) (nodes : Int) : Prop where
  f0:0≤t.From
  f1:t.From < nodes
  t0:0≤t.To
  t1:t.To < nodes
  ne:t.From ≠ t.To
  lo:t.Low = -1000000000000∨(-1000000000≤t.Low/\t.Low≤1000000000)
  hi:t.High=1000000000000∨(-1000000000≤t.High/\t.High≤1000000000)
  le:t.Low≤t.High
theorem zzG (t:Tie) (nodes:Int) (h1:1≤nodes) (h2:nodes≤40):s78 t nodes=true↔TieOk t nodes:=by
 have e:s78 t nodes=(decide (0≤t.From/\t.From < nodes) && (decide (0≤t.To/\t.To < nodes) && (!(t.From == t.To) && (((t.Low == (-1000000000000:Int)) || decide (-1000000000≤t.Low/\t.Low≤1000000000)) && (((t.High == (1000000000000:Int)) || decide (-1000000000≤t.High/\t.High≤1000000000)) && decide (t.Low≤t.High)))))):=by
  unfold s78 zkN zkM
  rw[zbx (x:=nodes - 1) (by omega) (by omega)]
  simp only[zoV]
  rw[decide_eq_decide.2 (show (0≤t.From/\t.From≤nodes - 1)↔(0≤t.From/\t.From < nodes) by omega),decide_eq_decide.2 (show (0≤t.To/\t.To≤nodes - 1)↔(0≤t.To/\t.To < nodes) by omega)]
  simp only[bne]
  generalize decide (0≤t.From/\t.From < nodes)=a
  generalize decide (0≤t.To/\t.To < nodes)=b
  generalize (t.From == t.To)=c
  generalize (t.Low == (-1000000000000:Int))=d
  generalize (t.High == (1000000000000:Int))=e
  generalize decide (-1000000000≤t.Low/\t.Low≤1000000000)=f
  generalize decide (-1000000000≤t.High/\t.High≤1000000000)=g
  generalize decide (t.Low≤t.High)=h
  cases a <;> cases b <;> cases c <;> cases d <;> cases e <;> cases f <;> cases g <;> cases h <;> rfl
 rw[e]
 simp only[Bool.and_eq_true,Bool.or_eq_true,decide_eq_true_eq,Bool.not_eq_true',beq_eq_false_iff_ne,beq_iff_eq]
 constructor
 ·rintro⟨⟨a,b⟩,⟨c,d⟩,e,f,g,h⟩;exact⟨a,b,c,d,e,f,g,h⟩
 ·rintro⟨a,b,c,d,e,f,g,h⟩;exact⟨⟨a,b⟩,⟨c,d⟩,e,f,g,h⟩
structure NetOk (n : Net) : Prop where
  n1:1≤n.Nodes
  n40:n.Nodes≤40
  len:n.Ties.len≤200
  tie:∀ i,i < n.Ties.len->TieOk (n.Ties.get i) n.Nodes
theorem zzH (n:Net) (hn:n.Ties.len≤9223372036854775807):p67 n=true/\(s67 n=true↔NetOk n):=by
 obtain⟨h1,h2⟩:=zDx n hn
 refine⟨h1,h2.trans ?_⟩
 constructor
 ·rintro⟨a,⟨b,c⟩,d⟩;exact⟨b,c,by omega,λ i hi=>(zzG _ _ b c).1 (a i hi)⟩
 ·rintro⟨b,c,d,a⟩;exact⟨λ i hi=>(zzG _ _ b c).2 (a i hi),⟨b,c⟩,by omega⟩
theorem zKO (n:Net) (hn:n.Ties.len≤9223372036854775807):p23 n=true/\s23 n=s67 n:=by
  have hl := zfd (good := fun i => s36 n.Nodes (n.Ties.get i)) (fin := true) (n := n.Ties.len) (lpS := zgZ n) (lpP := zix n)
    (λ k i hi=>by
      show ziv n (zgZ n k) (i:Int)=_
      generalize zgZ n k=S
      unfold ziv zqO
      rw[decide_eq_true (show (i:Int) < (n.Ties.len:Int) by omega),cond_true,Int.toNat_natCast]
      cases s36 n.Nodes (n.Ties.get i) <;> rfl)
    (λ k=>by
      show ziv n (zgZ n k) (n.Ties.len:Int)=_
      unfold ziv
      rw[decide_eq_false (show ¬ (n.Ties.len:Int) < (n.Ties.len:Int) by omega),cond_false])
    (λ k i hi=>by
      show ziw n (zix n k) (i:Int)=_
      generalize zix n k=S
      unfold ziw zqP
      rw[decide_eq_true (show (i:Int) < (n.Ties.len:Int) by omega),cond_true,Int.toNat_natCast,decide_eq_true (show 0≤(i:Int)/\(i:Int) < (n.Ties.len:Int) by omega),Bool.true_and]
      cases s36 n.Nodes (n.Ties.get i) <;> rfl)
    (λ k=>by
      show ziw n (zix n k) (n.Ties.len:Int)=_
      unfold ziw
      rw[decide_eq_false (show ¬ (n.Ties.len:Int) < (n.Ties.len:Int) by omega),cond_false])
    hn
  obtain⟨h1,h2⟩:=zDx n hn
  unfold p23 s23 znl znk zqT zqS zqR zqQ
  rw[hl.1,ztp,dgt]
  refine⟨by cases decide (1≤n.Nodes/\n.Nodes≤40) <;> cases decide ((n.Ties.len:Int)≤200) <;> rfl,?_⟩
  have h3:=hl.2
  have h4:zgZ n Fuel 0=true↔∀ i,i < n.Ties.len->s78 (n.Ties.get i) n.Nodes=true:=h3.trans ⟨λ h i hi=>by rw[← zDy];exact h.1 i hi,λ h=>⟨λ i hi=>by rw[zDy];exact h i hi,rfl⟩⟩
  rw[Bool.eq_iff_iff,h2]
  by_cases a:1≤n.Nodes/\n.Nodes≤40
  · rw [decide_eq_true a]
    by_cases b:(n.Ties.len:Int)≤200
    · rw[decide_eq_true b];exact h4.trans ⟨λ h=>⟨h,a,by omega⟩,λ h=>h.1⟩
    · rw[decide_eq_false b];exact⟨λ h=>absurd h Bool.false_ne_true,λ h=>absurd h.2.2 (by omega)⟩
  · rw[decide_eq_false a];exact⟨λ h=>absurd h Bool.false_ne_true,λ h=>absurd h.2.1 a⟩
structure ValOk (n : Net) (v : Sl Int) : Prop where
  len:(v.len:Int)=n.Nodes
  zero:v.get 0=0
  b:∀ i,i < v.len->-1000000000000≤v.get i/\v.get i≤1000000000000
def Keep (t:Tie) (v:Sl Int):Prop:=(t.Low = -1000000000000∨t.Low≤v.get t.To.toNat - v.get t.From.toNat)/\(t.High=1000000000000∨v.get t.To.toNat - v.get t.From.toNat≤t.High)
structure AgOk (n : Net) (v : Sl Int) : Prop where
  val:ValOk n v
  keep:∀ i,i < n.Ties.len->Keep (n.Ties.get i) v
theorem zHv (n:Net) (h1:1≤n.Nodes) (v:Sl Int) (hv:v.len≤9223372036854775807):p80 n v=true/\(s80 n v=true↔ValOk n v):=by
  have hl := zfd (good := fun i => s72 (v.get i) (-1000000000000:Int) (1000000000000:Int)) (fin := true) (n := v.len) (lpS := zg4 v) (lpP := ziM v)
    (λ k i hi=>by
      show ziK v (zg4 v k) (i:Int)=_
      generalize zg4 v k=S
      unfold ziK zq3
      rw[decide_eq_true (show (i:Int) < (v.len:Int) by omega),cond_true,Int.toNat_natCast]
      cases s72 (v.get i) (-1000000000000:Int) (1000000000000:Int) <;> rfl)
    (λ k=>by
      show ziK v (zg4 v k) (v.len:Int)=_
      unfold ziK
      rw[decide_eq_false (show ¬ (v.len:Int) < (v.len:Int) by omega),cond_false])
    (λ k i hi=>by
      show ziL v (ziM v k) (i:Int)=_
      generalize ziM v k=S
      unfold ziL zq4
      rw[decide_eq_true (show (i:Int) < (v.len:Int) by omega),cond_true,Int.toNat_natCast,decide_eq_true (show 0≤(i:Int)/\(i:Int) < (v.len:Int) by omega),Bool.true_and]
      cases s72 (v.get i) (-1000000000000:Int) (1000000000000:Int) <;> rfl)
    (λ k=>by
      show ziL v (ziM v k) (v.len:Int)=_
      unfold ziL
      rw[decide_eq_false (show ¬ (v.len:Int) < (v.len:Int) by omega),cond_false])
    hv
  have h3:zg4 v Fuel 0=true↔∀ i,i < v.len->-1000000000000≤v.get i/\v.get i≤1000000000000:=hl.2.trans ⟨λ h i hi=>by have:=h.1 i hi;rw[ztp] at this;exact of_decide_eq_true this,λ h=>⟨λ i hi=>by rw[ztp];exact decide_eq_true (h i hi),rfl⟩⟩
  unfold p80 s80 zq8 zq7 zq6 zq5
  rw[hl.1]
  by_cases a:(v.len:Int)=n.Nodes
  · rw [show ((v.len : Int) != n.Nodes) = false by rw [a]; exact bne_self_eq_false _, cond_false, cond_false]
    by_cases b:v.get 0=0
    · rw [show (v.get 0 != (0:Int)) = false by rw [b]; rfl, cond_false, cond_false]
      exact⟨by rw[decide_eq_true (show 0≤(0:Int)/\(0:Int) < (v.len:Int) by omega)];rfl,h3.trans ⟨λ h=>⟨a,b,h⟩,λ h=>h.b⟩⟩
    · rw [show (v.get 0 != (0:Int)) = true from bne_iff_ne.2 b, cond_true, cond_true]
      exact⟨by rw[decide_eq_true (show 0≤(0:Int)/\(0:Int) < (v.len:Int) by omega)];rfl,λ h=>absurd h Bool.false_ne_true,λ h=>absurd h.zero b⟩
  · rw [show ((v.len : Int) != n.Nodes) = true from bne_iff_ne.2 a, cond_true, cond_true]
    exact⟨rfl,λ h=>absurd h Bool.false_ne_true,λ h=>absurd h.len a⟩
theorem zrB (t:Tie) (n:Net) (v:Sl Int) (ht:TieOk t n.Nodes) (hv:ValOk n v):p39 t v=true/\(s39 t v=true↔Keep t v):=by
 have h1:=hv.b t.To.toNat (by have:=ht.t0;have:=ht.t1;have:=hv.len;omega)
 have h2:=hv.b t.From.toNat (by have:=ht.f0;have:=ht.f1;have:=hv.len;omega)
 have:=ht.f0;have:=ht.f1;have:=ht.t0;have:=ht.t1;have:=hv.len
 constructor
 ·unfold p39
  rw[decide_eq_true (show 0≤t.To/\t.To < (v.len:Int) by omega),decide_eq_true (show 0≤t.From/\t.From < (v.len:Int) by omega)];rfl
 ·unfold s39 Keep
  rw[zbx (by omega) (by omega)]
  by_cases a:t.Low = -1000000000000
  ·rw [show (t.Low == (-1000000000000:Int)) = true from beq_iff_eq.2 a, cond_true]
   by_cases b:t.High=1000000000000
   ·rw[show (t.High == (1000000000000:Int))=true from beq_iff_eq.2 b,cond_true];exact⟨λ _=>⟨.inl a,.inl b⟩,λ _=>rfl⟩
   ·rw[show (t.High == (1000000000000:Int))=false from beq_eq_false_iff_ne.2 b,cond_false,decide_eq_true_eq];exact⟨λ h=>⟨.inl a,.inr h⟩,λ h=>h.2.resolve_left b⟩
  ·rw [show (t.Low == (-1000000000000:Int)) = false from beq_eq_false_iff_ne.2 a, cond_false]
   by_cases c:t.Low≤v.get t.To.toNat - v.get t.From.toNat
   ·rw [decide_eq_true (show v.get t.To.toNat - v.get t.From.toNat ≥ t.Low from c), cond_true]
    by_cases b:t.High=1000000000000
    ·rw[show (t.High == (1000000000000:Int))=true from beq_iff_eq.2 b,cond_true];exact⟨λ _=>⟨.inr c,.inl b⟩,λ _=>rfl⟩
    ·rw[show (t.High == (1000000000000:Int))=false from beq_eq_false_iff_ne.2 b,cond_false,decide_eq_true_eq];exact⟨λ h=>⟨.inr c,.inr h⟩,λ h=>h.2.resolve_left b⟩
   ·rw [decide_eq_false (show ¬ v.get t.To.toNat - v.get t.From.toNat ≥ t.Low from c), cond_false]
    exact⟨λ h=>absurd h Bool.false_ne_true,λ h=>absurd (h.1.resolve_left a) c⟩
theorem zrC (n:Net) (v:Sl Int) (hn:NetOk n) (hv:v.len≤9223372036854775807):p38 n v=true/\(s38 n v=true↔AgOk n v):=by
  obtain⟨h1,h2⟩:=zHv n hn.n1 v hv
  unfold p38 s38
  rw[h1]
  by_cases hV:s80 n v=true
  · have hV' := h2.1 hV
    have hlen:=hn.len
    have hl := zfd (good := fun i => s39 (n.Ties.get i) v) (fin := true) (n := n.Ties.len) (lpS := ziP n v) (lpP := ziQ n v)
      (λ k i hi=>by
        show ziN n v (ziP n v k) (i:Int)=_
        generalize ziP n v k=S
        unfold ziN zra
        rw[decide_eq_true (show (i:Int) < (n.Ties.len:Int) by omega),cond_true,Int.toNat_natCast]
        cases s39 (n.Ties.get i) v <;> rfl)
      (λ k=>by
        show ziN n v (ziP n v k) (n.Ties.len:Int)=_
        unfold ziN
        rw[decide_eq_false (show ¬ (n.Ties.len:Int) < (n.Ties.len:Int) by omega),cond_false])
      (λ k i hi=>by
        show ziO n v (ziQ n v k) (i:Int)=_
        generalize ziQ n v k=S
        unfold ziO zrb
        rw[decide_eq_true (show (i:Int) < (n.Ties.len:Int) by omega),cond_true,Int.toNat_natCast,decide_eq_true (show 0≤(i:Int)/\(i:Int) < (n.Ties.len:Int) by omega),Bool.true_and,decide_eq_true (zrB _ n v (hn.tie i hi) hV').1,Bool.true_and]
        cases s39 (n.Ties.get i) v <;> rfl)
      (λ k=>by
        show ziO n v (ziQ n v k) (n.Ties.len:Int)=_
        unfold ziO
        rw[decide_eq_false (show ¬ (n.Ties.len:Int) < (n.Ties.len:Int) by omega),cond_false])
      (by omega)
    rw[hV]
    unfold zrj zrh zrg zrf zre zrd
    refine⟨by rw[hl.1];rfl,Iff.trans (Iff.trans (by rfl) hl.2) ?_⟩
    exact⟨λ h=>⟨hV',λ i hi=>(zrB _ n v (hn.tie i hi) hV').2.1 (h.1 i hi)⟩,λ h=>⟨λ i hi=>(zrB _ n v (hn.tie i hi) hV').2.2 (h.keep i hi),rfl⟩⟩
  · have hV0 : s80 n v = false := Bool.eq_false_iff.2 hV
    rw[hV0]
    exact⟨rfl,λ h=>absurd h Bool.false_ne_true,λ h=>absurd (h2.2 h.val) hV⟩
theorem zzI {n:Net}{t:Int}(h:s20 n t=true) (ht:t≤210):n.Ties.len≤210:=by
 unfold s20 at h
 by_cases h1:(n.Ties.len:Int)≤t
 ·omega
 ·by_cases h2 : (n.Ties.len : Int) ≤ 210
  ·omega
  ·rw [decide_eq_false h1, decide_eq_false h2] at h
   exact absurd h (by cases decide (n.Nodes≤7) <;> cases decide (n.Nodes > 40) <;> cases decide ((n.Ties.len:Int) > 200) <;> decide)
end Go.Proofs
namespace Go.Pm
structure Ed where
  u:Nat
  v:Nat
  w:Int
def wt : List Ed → Int
  | []=>0
  | e :: l=>e.w+wt l
theorem zgE (c d:List Ed):wt (c ++ d)=wt c+wt d:=by
 induction c with
 | nil=>show wt d=0+wt d;omega
 | cons e l ih=>show e.w+wt (l ++ d)=e.w+wt l+wt d;omega
theorem zhK (e:Ed):wt [e]=e.w:=Int.add_zero _
def zft (E : List Ed) : Nat → List Ed → Nat → Prop
  | a,[],b=>a=b
  | a,e :: l,b=>e∈E/\e.u=a/\zft E e.v l b
theorem zcQ {E:List Ed}{c d:List Ed}{a b:Nat} : zft E a (c ++ d) b↔∃ m,zft E a c m/\zft E m d b:=by
 induction c generalizing a with
 | nil=>exact⟨λ h=>⟨a,rfl,h⟩,λ ⟨m,h1,h2⟩=>by cases h1;exact h2⟩
 | cons e l ih =>
  constructor
  ·rintro ⟨h1, h2, h3⟩
   obtain⟨m,k1,k2⟩:=ih.1 h3
   exact⟨m,⟨h1,h2,k1⟩,k2⟩
  ·rintro ⟨m, ⟨h1, h2, h3⟩, h4⟩
   exact⟨h1,h2,ih.2 ⟨m,h3,h4⟩⟩
theorem zc8 {E:List Ed}{e:Ed}(h:e∈E):zft E e.u [e] e.v:=⟨h,rfl,rfl⟩
def za8 (E:List Ed):Prop:=∀ a c,zft E a c a->0≤wt c
abbrev zby:=Nat->Option Int
def zi1 (d:zby) (v:Nat) (x:Int):zby:=λ j=>if j=v then some x else d j
def ltO (x : Int) : Option Int → Bool
  | none=>true
  | some y=>decide (x < y)
def rlF (s:zby×Bool) (e:Ed):zby×Bool :=
 match s.1 e.u with
 | none=>s
 | some x=>cond (ltO (x+e.w) (s.1 e.v)) (zi1 s.1 e.v (x+e.w),true) s
def Sat (d:zby) (e:Ed):Prop:=∀ x,d e.u=some x->∃ y,d e.v=some y/\y≤x+e.w
theorem zk9 {x:Int}{o:Option Int}(h:ltO x o=false):∃ y,o=some y/\y≤x:=by
 cases o with
 | none=>cases h
 | some y=>exact⟨y,rfl,Int.not_lt.1 (of_decide_eq_false h)⟩
theorem zKP {x y:Int}(h:y≤x):ltO x (some y)=false:=decide_eq_false (Int.not_lt.2 h)
theorem zrD {d:zby}{c:Bool}{e:Ed}(h:Sat d e):rlF (d,c) e=(d,c):=by
 unfold rlF
 cases hu:d e.u with
 | none=>simp only[hu]
 | some x =>
  obtain⟨y,h1,h2⟩:=h x hu
  simp only[hu,h1,zKP h2,cond_false]
theorem zzJ {d:zby}{c:Bool}{e:Ed}(h : ¬ Sat d e):(rlF (d,c) e).2=true:=by
 unfold rlF
 cases hu:d e.u with
 | none=>exact absurd (λ x hx=>by rw[hu] at hx;cases hx) h
 | some x =>
  simp only[hu]
  cases hl:ltO (x+e.w) (d e.v)
  ·obtain ⟨y, h1, h2⟩ := zk9 hl
   exact absurd (λ x' hx'=>⟨y,h1,by rw[hu] at hx';cases hx';exact h2⟩) h
  ·rfl
theorem zBV {s:zby×Bool}{e:Ed}(h:s.2=true):(rlF s e).2=true:=by
 unfold rlF
 cases s.1 e.u with
 | none=>exact h
 | some x=>simp only[];cases ltO (x+e.w) (s.1 e.v) <;> first | exact h | rfl
theorem zzK {E:List Ed}{s:zby×Bool}(h:s.2=true):(E.foldl rlF s).2=true:=by
 induction E generalizing s with
 | nil=>exact h
 | cons e l ih=>exact ih (zBV h)
theorem zhL {E:List Ed}{d:zby}{c:Bool}(h:∀ e∈E,Sat d e):E.foldl rlF (d,c)=(d,c):=by
 induction E with
 | nil=>rfl
 | cons e l ih =>
  show l.foldl rlF (rlF (d,c) e)=_
  rw[zrD (h e (List.mem_cons_self ..))]
  exact ih λ e he=>h e (List.mem_cons_of_mem _ he)
theorem zgs {E:List Ed}{d:zby}{c:Bool}(h:(E.foldl rlF (d,c)).2=false):∀ e∈E,Sat d e:=by
 induction E with
 | nil=>intro e he;cases he
 | cons e l ih =>
  have h':(l.foldl rlF (rlF (d,c) e)).2=false:=h
  have hs:Sat d e:=Classical.byContradiction λ hn=>by
   rw[zzK (zzJ hn)] at h';cases h'
  rw[zrD hs] at h'
  intro e' he'
  rcases List.mem_cons.1 he' with rfl | hm
  ·exact hs
  ·exact ih h' e' hm
def leO (a b:Option Int):Prop:=∀ y,b=some y->∃ x,a=some x/\x≤y
theorem zcz (a:Option Int):leO a a:=λ y h=>⟨y,h,Int.le_refl _⟩
theorem zb8 {a b c:Option Int}(h1:leO a b) (h2:leO b c):leO a c:=λ y h=>by
 obtain⟨x,hx,hxy⟩:=h2 y h
 obtain⟨z,hz,hzx⟩:=h1 x hx
 exact⟨z,hz,Int.le_trans hzx hxy⟩
theorem zzL (s:zby×Bool) (e:Ed) (v:Nat):leO ((rlF s e).1 v) (s.1 v):=by
 unfold rlF
 cases hu:s.1 e.u with
 | none=>exact zcz _
 | some x =>
  simp only[]
  cases hl:ltO (x+e.w) (s.1 e.v)
  ·exact zcz _
  ·show leO (zi1 s.1 e.v (x + e.w) v) _
   unfold zi1
   by_cases hv:v=e.v
   ·rw [if_pos hv]
    intro y hy
    refine⟨_,rfl,?_⟩
    rw[hv] at hy
    rw[hy] at hl
    exact Int.le_of_lt (of_decide_eq_true hl)
   ·rw[if_neg hv];exact zcz _
theorem zzM (E:List Ed) (s:zby×Bool) (v:Nat):leO ((E.foldl rlF s).1 v) (s.1 v):=by
 induction E generalizing s with
 | nil=>exact zcz _
 | cons e l ih=>exact zb8 (ih (rlF s e)) (zzL s e v)
theorem zKQ {s:zby×Bool}{e:Ed}{x:Int}(h:s.1 e.u=some x):leO ((rlF s e).1 e.v) (some (x+e.w)):=by
 unfold rlF
 simp only[h]
 cases hl:ltO (x+e.w) (s.1 e.v)
 ·obtain ⟨y, h1, h2⟩ := zk9 hl
  intro z hz;cases hz
  exact⟨y,h1,h2⟩
 ·intro z hz; cases hz
  exact⟨x+e.w,by show zi1 s.1 e.v (x+e.w) e.v=_;unfold zi1;rw[if_pos rfl],Int.le_refl _⟩
theorem zBW {E:List Ed}{s:zby×Bool}{e:Ed}{x:Int}(he:e∈E) (h:s.1 e.u=some x):leO ((E.foldl rlF s).1 e.v) (some (x+e.w)):=by
 induction E generalizing s x with
 | nil=>cases he
 | cons f l ih =>
  rcases List.mem_cons.1 he with rfl | hm
  ·exact zb8 (zzM l (rlF s e) e.v) (zKQ h)
  ·obtain ⟨x', h1, h2⟩ := zzL s f e.u x h
   intro z hz;cases hz
   obtain⟨y,k1,k2⟩:=ih hm h1 _ rfl
   exact⟨y,k1,by omega⟩
def rnd (E:List Ed) (d:zby):zby:=(E.foldl rlF (d,false)).1
def rds (E : List Ed) : Nat → zby → zby
  | 0,d=>d
  | k+1,d=>rds E k (rnd E d)
theorem zoW (E:List Ed) (k:Nat) (d:zby) (v:Nat):leO (rds E k d v) (d v):=by
 induction k generalizing d with
 | zero=>exact zcz _
 | succ k ih=>exact zb8 (ih (rnd E d)) (zzM E (d,false) v)
theorem zKR {E:List Ed}{c:List Ed} : ∀ {a b k:Nat}{d:zby}{y:Int},zft E a c b->d a=some y->c.length≤k->leO (rds E k d b) (some (y+wt c)):=by
 induction c with
 | nil =>
  intro a b k d y h hd _
  cases h
  intro z hz;cases hz
  obtain⟨x,h1,h2⟩:=zoW E k d a y hd
  exact⟨x,h1,by show x≤y+0;omega⟩
 | cons e l ih =>
  intro a b k d y h hd hk
  obtain⟨k,rfl⟩:∃ k',k=k'+1:=⟨k - 1,by simp only[List.length_cons] at hk;omega⟩
  obtain⟨h1,h2,h3⟩:=h
  subst h2
  obtain⟨x,k1,k2⟩:=zBW (s:=(d,false)) h1 hd _ rfl
  intro z hz;cases hz
  obtain⟨z,m1,m2⟩:=ih (k:=k) (d:=rnd E d) h3 k1 (by simp only[List.length_cons] at hk;omega) _ rfl
  exact⟨z,m1,by show z≤y+(e.w+wt l);omega⟩
def Fix (E:List Ed) (d:zby):Prop:=∀ e∈E,Sat d e
theorem zha {E:List Ed}{d:zby}(h:Fix E d):rnd E d=d:=by unfold rnd;rw[zhL h]
theorem zrE {E:List Ed}{d:zby}(h:Fix E d) (k:Nat):rds E k d=d:=by
 induction k with
 | zero=>rfl
 | succ k ih=>show rds E k (rnd E d)=d;rw[zha h,ih]
theorem zKS {E:List Ed}{d:zby}(h:Fix E d){c:List Ed} : ∀ {a b:Nat}{x:Int},zft E a c b->d a=some x->∃ y,d b=some y/\y≤x+wt c:=by
 induction c with
 | nil=>intro a b x hc hx;cases hc;exact⟨x,hx,by show x≤x+0;omega⟩
 | cons e l ih =>
  rintro a b x ⟨h1,h2,h3⟩ hx
  subst h2
  obtain⟨y,k1,k2⟩:=h e h1 x hx
  obtain⟨z,m1,m2⟩:=ih h3 k1
  exact⟨z,m1,by show z≤x+(e.w+wt l);omega⟩
theorem zla (n:Nat):∀ {l:List Nat},l.Nodup->(∀ x∈l,x < n)->l.length≤n:=by
 induction n with
 | zero =>
  intro l _ h
  cases l with
  | nil=>exact Nat.le_refl _
  | cons x l=>exact absurd (h x (List.mem_cons_self ..)) (Nat.not_lt_zero _)
 | succ n ih =>
  intro l hd h
  have h1:=ih (l:=l.filter (λ x=>x != n)) (hd.filter _) (λ x hx=>by
   obtain⟨hx1,hx2⟩:=List.mem_filter.1 hx
   have:=h x hx1
   have:x ≠ n:=by simpa using hx2
   omega)
  have h2:l.length≤(l.filter (λ x=>x != n)).length+1:=by
   clear h1 ih h
   induction l with
   | nil=>exact Nat.zero_le _
   | cons x l ihl =>
    rw[List.nodup_cons] at hd
    by_cases hx:x=n
    ·subst hx
     have:l.filter (λ y=>y != x)=l:=List.filter_eq_self.2 λ y hy=>by
      have:y ≠ x:=λ e=>hd.1 (e ▸ hy)
      simpa using this
     rw[List.filter_cons_of_neg (by simp),this]
     exact Nat.le_refl _
    ·rw [List.filter_cons_of_pos (by simpa using hx)]
     have:=ihl hd.2
     simp only[List.length_cons];omega
  omega
def nodes (a:Nat) (c:List Ed):List Nat:=a :: c.map Ed.v
theorem zlb (a:Nat) (c:List Ed):(nodes a c).length=c.length+1:=by simp[nodes]
theorem zBX {E:List Ed}{c:List Ed} : ∀ {a b m:Nat},zft E a c b->m∈nodes a c->∃ c1 c2,c=c1 ++ c2/\zft E a c1 m/\zft E m c2 b:=by
 induction c with
 | nil =>
  intro a b m h hm
  have:m=a:=by simpa [nodes] using hm
  subst this
  exact⟨[],[],rfl,rfl,h⟩
 | cons e l ih =>
  intro a b m h hm
  rcases List.mem_cons.1 hm with rfl | hm'
  ·exact⟨[],e :: l,rfl,rfl,h⟩
  ·obtain ⟨h1, h2, h3⟩ := h
   obtain⟨c1,c2,k1,k2,k3⟩:=ih h3 (m:=m) (by simpa [nodes] using hm')
   exact⟨e :: c1,c2,by rw[k1];rfl,⟨h1,h2,k2⟩,k3⟩
structure Att (E : List Ed) (Src : Nat → Prop) (d : zby) (v : Nat) (x : Int) (a : Nat) (c : List Ed) : Prop where
  src:Src a
  ch:zft E a c v
  wt:x=wt c
  nd:(nodes a c).Nodup
  pre:∀ c1 c2 m,c=c1 ++ c2->zft E a c1 m->leO (d m) (some (Go.Pm.wt c1))
def Inv (E:List Ed) (Src:Nat->Prop) (d:zby):Prop:=∀ v x,d v=some x->∃ a c,Att E Src d v x a c
theorem zDz {d d':zby}{E:List Ed}{Src:Nat->Prop}{v:Nat}{x:Int}{a:Nat}{c:List Ed}(h:Att E Src d v x a c) (hd:∀ m,leO (d' m) (d m)):Att E Src d' v x a c :=
 ⟨h.src,h.ch,h.wt,h.nd,λ c1 c2 m h1 h2=>zb8 (hd m) (h.pre c1 c2 m h1 h2)⟩
theorem zjJ {d:zby}{E:List Ed}{Src:Nat->Prop}(hn:za8 E){e:Ed}(he:e∈E){x:Int}{a:Nat}{c:List Ed}(h:Att E Src d e.u x a c) (hm:e.v∈nodes a c):leO (d e.v) (some (x+e.w)):=by
 obtain⟨c1,c2,k1,k2,k3⟩:=zBX h.ch hm
 have hc:=hn e.v (c2 ++ [e]) (zcQ.2 ⟨e.u,k3,zc8 he⟩)
 rw[zgE,zhK] at hc
 have hx:=h.wt
 rw[k1,zgE] at hx
 obtain⟨y,m1,m2⟩:=h.pre c1 c2 e.v k1 k2 _ rfl
 intro z hz;cases hz
 exact⟨y,m1,by omega⟩
theorem ztq {E:List Ed}{c:List Ed} : ∀ {a b b':Nat},zft E a c b->zft E a c b'->b=b':=by
 induction c with
 | nil=>intro a b b' h1 h2;cases h1;cases h2;rfl
 | cons e l ih=>rintro a b b' ⟨_,_,h1⟩ ⟨_,_,h2⟩;exact ih h1 h2
theorem zhM {c c1 c2:List Ed}{e:Ed}(h:c ++ [e]=c1 ++ c2):c1=c ++ [e]∨∃ c3,c=c1 ++ c3:=by
 rcases List.append_eq_append_iff.1 h with ⟨a',h1,h2⟩ | ⟨c',h1,_⟩
 ·cases a' with
  | nil=>exact .inr ⟨[],by rw[h1];simp⟩
  | cons f a'' =>
   have:a''=[]/\c2=[]:=by
    cases a'' with
    | nil=>simp at h2;exact⟨rfl,h2.2⟩
    | cons g b=>simp at h2
   obtain⟨rfl,rfl⟩:=this
   simp at h2
   exact .inl (by rw[h1,h2])
 ·exact .inr ⟨c',h1⟩
theorem zi2 {E:List Ed}{Src:Nat->Prop}(hn:za8 E){s:zby×Bool}{e:Ed}(he:e∈E) (h:Inv E Src s.1):Inv E Src (rlF s e).1:=by
 intro v x hx
 have hle:=zzL s e
 unfold rlF at hx hle ⊢
 cases hu:s.1 e.u with
 | none =>
  simp only[hu] at hx ⊢
  obtain⟨a,c,hc⟩:=h v x hx
  exact⟨a,c,hc⟩
 | some y =>
  simp only[hu] at hx hle ⊢
  cases hl:ltO (y+e.w) (s.1 e.v) with
  | false =>
   simp only[hl,cond_false] at hx ⊢
   exact h v x hx
  | true =>
   simp only[hl,cond_true] at hx hle ⊢
   by_cases hv:v=e.v
   ·subst hv
    have hx':y+e.w=x:=by
     unfold zi1 at hx;rw[if_pos rfl] at hx;exact Option.some.inj hx
    obtain⟨a,c,hc⟩:=h e.u y hu
    have hnot:e.v ∉ nodes a c:=λ hm=>by
     obtain⟨z,h1,h2⟩:=zjJ hn he hc hm _ rfl
     rw[h1] at hl
     have:=of_decide_eq_true hl
     omega
    refine⟨a,c ++ [e],hc.src,zcQ.2 ⟨e.u,hc.ch,zc8 he⟩,by rw[zgE,zhK,← hc.wt];omega,?_,?_⟩
    ·show (a :: (c ++ [e]).map Ed.v).Nodup
     rw[List.map_append,← List.cons_append]
     refine List.nodup_append.2 ⟨hc.nd,by simp,λ p hp q hq=>?_⟩
     have:q=e.v:=by simpa using hq
     subst this
     exact λ e'=>hnot (e' ▸ hp)
    ·intro c1 c2 m h1 h2
     rcases zhM h1 with rfl | ⟨c3,h3⟩
     ·have : m = e.v := ztq h2 (zcQ.2 ⟨e.u, hc.ch, zc8 he⟩)
      subst this
      intro z hz;cases hz
      refine⟨x,hx,?_⟩
      rw[zgE,zhK,← hc.wt];omega
     ·exact zb8 (hle m) (hc.pre c1 c3 m h3 h2)
   ·have hx':s.1 v=some x:=by
     unfold zi1 at hx;rw[if_neg hv] at hx;exact hx
    obtain⟨a,c,hc⟩:=h v x hx'
    exact⟨a,c,zDz hc hle⟩
theorem zjK {E F:List Ed}{Src:Nat->Prop}(hn:za8 E) (hF:∀ e∈F,e∈E){s:zby×Bool}(h:Inv E Src s.1):Inv E Src (F.foldl rlF s).1:=by
 induction F generalizing s with
 | nil=>exact h
 | cons e l ih=>exact ih (λ e he=>hF e (List.mem_cons_of_mem _ he)) (zi2 hn (hF e (List.mem_cons_self ..)) h)
theorem zrF {E:List Ed}{Src:Nat->Prop}(hn:za8 E) (k:Nat){d:zby}(h:Inv E Src d):Inv E Src (rds E k d):=by
 induction k generalizing d with
 | zero=>exact h
 | succ k ih=>exact ih (zjK hn (λ _ h=>h) (s:=(d,false)) h)
structure Start (Src : Nat → Prop) (d : zby) : Prop where
  only:∀ v x,d v=Option.some x->Src v/\x=0
  src:∀ v,Src v->d v=Option.some 0
theorem zdY {E:List Ed}{Src:Nat->Prop}{d:zby}(h:Start Src d):Inv E Src d:=λ v x hx=>by
 obtain⟨h1,h2⟩:=h.only v x hx
 refine⟨v,[],h1,rfl,h2,by simp[nodes],λ c1 c2 m e hc=>?_⟩
 have:c1=[]:=by
  cases c1 with
  | nil=>rfl
  | cons _ _=>cases e
 subst this
 cases hc
 rw[hx,h2]
 exact zcz _
theorem znz {E:List Ed}{n:Nat}(hE:∀ e∈E,e.u < n/\e.v < n){c:List Ed} : ∀ {a b:Nat},a < n->zft E a c b->∀ x∈nodes a c,x < n:=by
  induction c with
  | nil => intro a b ha _ x hx; have : x = a := by simpa [nodes] using hx
           omega
  | cons e l ih =>
    rintro a b ha ⟨h1,h2,h3⟩ x hx
    rcases List.mem_cons.1 hx with rfl | hm
    · exact ha
    · exact ih (hE e h1).2 h3 x (by simpa [nodes] using hm)
theorem zzN {E:List Ed}{n:Nat}{Src:Nat->Prop}(hE:∀ e∈E,e.u < n/\e.v < n) (hS:∀ a,Src a->a < n){d:zby}{v:Nat}{x:Int}{a:Nat}{c:List Ed}(h:Att E Src d v x a c):c.length+1≤n:=by
 have:=zla n h.nd (znz hE (hS a h.src) h.ch)
 rwa[zlb] at this
theorem zzO {E:List Ed}{n:Nat}{Src:Nat->Prop}(hn:za8 E) (hE:∀ e∈E,e.u < n/\e.v < n) (hS:∀ a,Src a->a < n){d:zby}(h0:Start Src d):Fix E (rds E (n - 1) d):=by
 intro e he x hx
 obtain⟨a,c,hc⟩:=zrF hn (n - 1) (zdY (E:=E) h0) e.u x hx
 by_cases hm:e.v∈nodes a c
 ·exact zjJ hn he hc hm _ rfl
 ·have hlen:(c ++ [e]).length≤n - 1:=by
   have hnd:(nodes a (c ++ [e])).Nodup:=by
    show (a :: (c ++ [e]).map Ed.v).Nodup
    rw[List.map_append,← List.cons_append]
    refine List.nodup_append.2 ⟨hc.nd,by simp,λ p hp q hq=>?_⟩
    have:q=e.v:=by simpa using hq
    subst this
    exact λ e'=>hm (e' ▸ hp)
   have hch:zft E a (c ++ [e]) e.v:=zcQ.2 ⟨e.u,hc.ch,zc8 he⟩
   have:=zla n hnd (znz hE (hS a hc.src) hch)
   rw[zlb] at this
   omega
  have:=zKR (zcQ.2 ⟨e.u,hc.ch,zc8 he⟩) (h0.src a hc.src) hlen _ rfl
  rw[zgE,zhK,← hc.wt] at this
  obtain⟨z,h1,h2⟩:=this
  exact⟨z,h1,by omega⟩
theorem zKT {E:List Ed}{f:Nat->Int}(h:∀ e∈E,f e.v≤f e.u+e.w){c:List Ed} : ∀ {a b:Nat},zft E a c b->f b≤f a+wt c:=by
 induction c with
 | nil=>intro a b hc;cases hc;show f a≤f a+0;omega
 | cons e l ih =>
  rintro a b ⟨h1,h2,h3⟩
  subst h2
  have:=ih h3
  have:=h e h1
  show f b≤f e.u+(e.w+wt l);omega
theorem zoX {E:List Ed}{f:Nat->Int}(h:∀ e∈E,f e.v≤f e.u+e.w):za8 E:=λ a c hc=>by
 have:=zKT h hc;omega
end Go.Pm
namespace Go.Pm
theorem zDA {E:List Ed}{f:Ed->Ed}(hu:∀ e,(f e).u=e.u) (hv:∀ e,(f e).v=e.v){c:List Ed} : ∀ {a b:Nat},zft (E.map f) a c b->∃ c0,c=c0.map f/\zft E a c0 b:=by
 induction c with
 | nil=>intro a b h;exact⟨[],rfl,h⟩
 | cons e l ih =>
  rintro a b ⟨h1,h2,h3⟩
  obtain⟨e0,k1,rfl⟩:=List.mem_map.1 h1
  obtain⟨c0,k2,k3⟩:=ih h3
  exact⟨e0 :: c0,by rw[k2];rfl,k1,by rw[← hu];exact h2,by rw[← hv];exact k3⟩
def edM (e:Ed):Ed:=⟨e.u,e.v,e.w * 1048576+1⟩
def edR (e:Ed):Ed:=⟨e.v,e.u,e.w⟩
theorem zNF (c:List Ed):wt (c.map edM)=wt c * 1048576+c.length:=by
 induction c with
 | nil=>rfl
 | cons e l ih =>
  show e.w * 1048576+1+wt (l.map edM)=(e.w+wt l) * 1048576+((l.length+1:Nat):Int)
  omega
theorem zNG (c:List Ed):wt (c.reverse.map edR)=wt c:=by
 induction c with
 | nil=>rfl
 | cons e l ih =>
  rw[List.reverse_cons,List.map_append,zgE,ih]
  show wt l+wt [edR e]=e.w+wt l
  rw[zhK]
  show wt l+e.w=_
  omega
theorem zNH {E:List Ed}{c:List Ed} : ∀ {a b:Nat},zft E a c b->zft (E.map edR) b (c.reverse.map edR) a:=by
 induction c with
 | nil=>intro a b h;exact Eq.symm h
 | cons e l ih =>
  rintro a b ⟨h1,h2,h3⟩
  rw[List.reverse_cons,List.map_append]
  exact zcQ.2 ⟨e.v,ih h3,List.mem_map_of_mem h1,rfl,h2⟩
theorem zKU (E:List Ed):(E.map edR).map edR=E:=by
 rw[List.map_map]
 exact (List.map_congr_left λ e _=>rfl).trans (List.map_id E)
theorem zKV {E:List Ed}{c:List Ed}{a b:Nat}(h:zft (E.map edR) a c b):∃ c0,zft E b c0 a/\wt c0=wt c/\c0.length=c.length:=by
 have:=zNH h
 rw[zKU] at this
 exact⟨_,this,zNG c,by simp⟩
theorem zlc {E:List Ed}(h:za8 E):za8 (E.map edR):=λ a c hc=>by
 obtain⟨c0,h1,h2,_⟩:=zKV hc
 rw[← h2];exact h a c0 h1
theorem zga {E:List Ed}(h:za8 E):za8 (E.map edM):=λ a c hc=>by
 obtain⟨c0,rfl,h1⟩:=zDA (f:=edM) (λ _=>rfl) (λ _=>rfl) hc
 rw[zNF]
 have:=h a c0 h1
 omega
def zKW : Option Int → Int × Int
  | none=>((1000000000000:Int),(0:Int))
  | some x=>(x / 1048576,x % 1048576)
theorem zrG {L U:Int}(h0:0≤U) (h1:U < 1048576):zKW (some (L * 1048576+U))=(L,U):=by
 show ((L * 1048576+U) / 1048576,(L * 1048576+U) % 1048576)=(L,U)
 rw[show (L * 1048576+U) / 1048576=L by omega,show (L * 1048576+U) % 1048576=U by omega]
def zoY (s:Nat):zby:=λ v=>if v=s then some 0 else none
theorem zc2 (s:Nat):Start (λ v=>v=s) (zoY s) :=
 ⟨λ v x h=>(by
  unfold zoY at h
  by_cases hv:v=s
  ·rw[if_pos hv] at h;cases h;exact⟨hv,rfl⟩
  ·rw[if_neg hv] at h;cases h),λ v h=>if_pos h⟩
structure EdOk (E : List Ed) (n : Nat) : Prop where
  lt:∀ e∈E,e.u < n/\e.v < n
  w:∀ e∈E,-1000000000≤e.w/\e.w≤1000000000
  n1:1≤n
  n40:n≤40
theorem EdOk.R {E:List Ed}{n:Nat}(h:EdOk E n):EdOk (E.map edR) n :=
  ⟨λ e he=>(by obtain⟨f,h1,rfl⟩:=List.mem_map.1 he;exact⟨(h.lt f h1).2,(h.lt f h1).1⟩),
   λ e he=>(by obtain⟨f,h1,rfl⟩:=List.mem_map.1 he;exact h.w f h1),h.n1,h.n40⟩
theorem EdOk.ltM {E:List Ed}{n:Nat}(h:EdOk E n):∀ e∈E.map edM,e.u < n/\e.v < n :=
 λ e he=>by obtain⟨f,h1,rfl⟩:=List.mem_map.1 he;exact h.lt f h1
theorem zjL {E:List Ed}{n:Nat}(h:EdOk E n){c:List Ed} : ∀ {a b:Nat},zft E a c b->-1000000000 * (c.length:Int)≤wt c/\wt c≤1000000000 * (c.length:Int):=by
 induction c with
 | nil=>intro a b _;exact⟨(by show _≤(0:Int);simp),(by show (0:Int)≤_;simp)⟩
 | cons e l ih =>
  rintro a b ⟨h1,_,h3⟩
  have:=ih h3
  have:=h.w e h1
  show _≤e.w+wt l/\e.w+wt l≤_
  simp only[List.length_cons]
  omega
structure Ent (E : List Ed) (n s v : Nat) (x L U : Int) (c : List Ed) : Prop where
  ch:zft E s c v
  x:x=L * 1048576+U
  L:L=wt c
  U:U=c.length
  len:c.length < n
theorem zDB {E:List Ed}{n:Nat}(hE:EdOk E n){s:Nat}(hs:s < n){d:zby}(hd:Inv (E.map edM) (λ v=>v=s) d){v:Nat}{x:Int}(hx:d v=some x):∃ c,Ent E n s v x (wt c) c.length c:=by
 obtain⟨a,c,hc⟩:=hd v x hx
 have hl:=zzN hE.ltM (λ a ha=>Nat.lt_of_le_of_lt (Nat.le_of_eq ha) hs) hc
 obtain⟨c0,rfl,h1⟩:=zDA (f:=edM) (λ _=>rfl) (λ _=>rfl) hc.ch
 obtain rfl:a=s:=hc.src
 exact⟨c0,h1,by rw[hc.wt,zNF],rfl,rfl,by rw[List.length_map] at hl;omega⟩
def dst (E:List Ed) (n s:Nat):zby:=rds (E.map edM) (n - 1) (zoY s)
theorem zHw {E:List Ed}{n s:Nat}(hn:za8 E):Inv (E.map edM) (λ v=>v=s) (dst E n s):=zrF (zga hn) _ (zdY (zc2 s))
theorem zrH {E:List Ed}{n s:Nat}(hE:EdOk E n) (hn:za8 E) (hs:s < n):Fix (E.map edM) (dst E n s):=zzO (zga hn) hE.ltM (λ a ha=>Nat.lt_of_le_of_lt (Nat.le_of_eq ha) hs) (zc2 s)
theorem dst_at {E:List Ed}{n s v:Nat}(hE:EdOk E n) (hn:za8 E) (hs:s < n){x:Int}(hx:dst E n s v=some x):∃ c,Ent E n s v x (wt c) c.length c:=zDB hE hs (zHw hn) hx
theorem zBY {E:List Ed}{n s:Nat} : ∃ x,dst E n s s=some x:=by
 obtain⟨x,h,_⟩:=zoW (E.map edM) (n - 1) (zoY s) s 0 (if_pos rfl)
 exact⟨x,h⟩
theorem zzP {E:List Ed}{n s:Nat}(hE:EdOk E n) (hn:za8 E) (hs:s < n){c:List Ed} : ∀ {a v:Nat}{x:Int},dst E n s a=some x->zft E a c v->∃ y,dst E n s v=some y/\y / 1048576≤x / 1048576+wt c:=by
 induction c with
 | nil=>intro a v x hx h;cases h;exact⟨x,hx,by show _≤_+(0:Int);omega⟩
 | cons e l ih =>
  rintro a v x hx ⟨h1,h2,h3⟩
  subst h2
  obtain⟨y,k1,k2⟩:=zrH hE hn hs (edM e) (List.mem_map_of_mem h1) x hx
  obtain⟨z,m1,m2⟩:=ih (a:=e.v) k1 h3
  obtain⟨c1,hc1⟩:=dst_at hE hn hs hx
  obtain⟨c2,hc2⟩:=dst_at hE hn hs (show dst E n s e.v=some y from k1)
  refine⟨z,m1,?_⟩
  have k2':y≤x+(e.w * 1048576+1):=k2
  have:=hE.n40
  have:=hc1.len
  have:=hc1.x
  have:=hc2.len
  have:=hc2.x
  show _≤_+(e.w+wt l)
  omega
theorem zzQ {E:List Ed}{n s v:Nat}(hE:EdOk E n) (hn:za8 E) (hs:s < n){c:List Ed}(hc:zft E s c v):∃ x,dst E n s v=some x/\x / 1048576≤wt c:=by
 obtain⟨x0,h1⟩:=zBY (E:=E) (n:=n) (s:=s)
 obtain⟨y,k1,k2⟩:=zzP hE hn hs h1 hc
 have h3:x0≤0:=by
  obtain⟨x',h1',h2'⟩:=zoW (E.map edM) (n - 1) (zoY s) s 0 (if_pos rfl)
  have:x'=x0:=Option.some.inj (h1'.symm.trans h1)
  omega
 exact⟨y,k1,by omega⟩
def zBZ (o:Option Int):Int:=(zKW o).1
theorem zzR {E:List Ed}{n s v:Nat}(hE:EdOk E n) (hn:za8 E) (hs:s < n){x:Int}(hx:dst E n s v=some x):∃ c,zft E s c v/\zBZ (dst E n s v)=wt c/\c.length < n:=by
 obtain⟨c,hc⟩:=dst_at hE hn hs hx
 refine⟨c,hc.ch,?_,hc.len⟩
 rw[hx]
 show x / 1048576=_
 have:=hc.x;have:=hc.len;have:=hE.n40
 omega
theorem zld {E:List Ed}{n s v:Nat}(hE:EdOk E n) (hn:za8 E) (hs:s < n){c:List Ed}(hc:zft E s c v):zBZ (dst E n s v)≤wt c:=by
 obtain⟨x,h1,h2⟩:=zzQ hE hn hs hc
 rw[h1];exact h2
theorem zcp {E:List Ed}{n s v:Nat}(hE:EdOk E n) (hn:za8 E) (hs:s < n):(dst E n s v=none/\zBZ (dst E n s v)=1000000000000)∨∃ c,dst E n s v ≠ none/\zft E s c v/\zBZ (dst E n s v)=wt c/\c.length < n/\-40000000000≤wt c/\wt c≤40000000000:=by
 cases h:dst E n s v with
 | none=>exact .inl ⟨rfl,rfl⟩
 | some x =>
  obtain⟨c,h1,h2,h3⟩:=zzR hE hn hs h
  have:=zjL hE h1
  have:=hE.n40
  rw[h] at h2
  exact .inr ⟨c,(by intro h;cases h),h1,h2,h3,by omega,by omega⟩
end Go.Pm
namespace Go.Pm
def znA (E : List Ed) : Nat → zby → Bool
  | 0,_=>true
  | k+1,d=>cond (E.foldl rlF (d,false)).2 (znA E k (rnd E d)) false
theorem zrI {E:List Ed}{k:Nat} : ∀ {m:Nat}{d:zby},Fix E (rds E k d)->k < m->znA E m d=false:=by
 induction k with
 | zero =>
  intro m d h hm
  obtain⟨m,rfl⟩:∃ m',m=m'+1:=⟨m - 1,by omega⟩
  show cond (E.foldl rlF (d,false)).2 _ _=false
  rw[zhL (show ∀ e∈E,Sat d e from h)];rfl
 | succ k ih =>
  intro m d h hm
  obtain⟨m,rfl⟩:∃ m',m=m'+1:=⟨m - 1,by omega⟩
  show cond (E.foldl rlF (d,false)).2 (znA E m (rnd E d)) false=false
  rw[ih (m:=m) (d:=rnd E d) h (by omega)]
  cases (E.foldl rlF (d,false)).2 <;> rfl
theorem zB0 {E:List Ed}{m:Nat} : ∀ {d:zby},znA E m d=false->∃ k,Fix E (rds E k d):=by
 induction m with
 | zero=>intro d h;cases h
 | succ m ih =>
  intro d h
  have h':cond (E.foldl rlF (d,false)).2 (znA E m (rnd E d)) false=false:=h
  cases hc:(E.foldl rlF (d,false)).2
  ·exact⟨0,zgs hc⟩
  ·rw [hc] at h'
   obtain⟨k,hk⟩:=ih h'
   exact⟨k+1,hk⟩
def znG (n:Nat):zby:=λ v=>if v < n then some 0 else none
theorem zl0 (n:Nat):Start (λ v=>v < n) (znG n) :=
 ⟨λ v x h=>(by
  unfold znG at h
  by_cases hv:v < n
  ·rw[if_pos hv] at h;cases h;exact⟨hv,rfl⟩
  ·rw[if_neg hv] at h;cases h),λ v h=>if_pos h⟩
theorem zB1 {E:List Ed}{n:Nat}(hE:EdOk E n):znA E n (znG n)=false↔za8 E:=by
 constructor
 ·intro h
  obtain⟨k,hk⟩:=zB0 h
  have hsome:∀ v,v < n->∃ x,rds E k (znG n) v=some x:=λ v hv=>by
   obtain⟨x,hx,_⟩:=zoW E k (znG n) v 0 (if_pos hv)
   exact⟨x,hx⟩
  refine zoX (f:=λ v=>(rds E k (znG n) v).getD 0) λ e he=>?_
  obtain⟨x,hx⟩:=hsome e.u (hE.lt e he).1
  obtain⟨y,hy,hxy⟩:=hk e he x hx
  show (rds E k (znG n) e.v).getD 0≤(rds E k (znG n) e.u).getD 0+e.w
  rw[hx,hy];exact hxy
 ·intro h
  have:=hE.n1
  exact zrI (zzO h hE.lt (λ a ha=>ha) (zl0 n)) (by omega)
end Go.Pm
namespace Go.Proofs
open Go Go.Pm
set_option maxRecDepth 100000
set_option linter.unusedVariables false
theorem zc3 {n:Nat}{F:Tab}{k:Nat}(hk:k < n):tg n F k=F k:=by
 unfold tg zlp
 have h:(zm (zhe 0 n F))[k]? = some (.p (.int .i64 (F k))):=by
  rw[zm,List.getElem?_map,zgd n 0 F k hk,Nat.zero_add];rfl
 rw[h]
theorem zDC {n:Nat}{F:Tab}{k:Nat}{v:Int}{j:Nat}(hj:j < n):ts n F k [v] j=if j=k then v else F j:=by
 show (match Nat.beq j k with | true=>v | false=>tg n F j)=_
 by_cases h:j=k
 ·rw[if_pos h,show Nat.beq j k=true from by rw[h];exact Nat.beq_refl _]
 ·rw[if_neg h,show Nat.beq j k=false from Bool.eq_false_iff.2 λ e=>h (Nat.eq_of_beq_eq_true e)];exact zc3 hj
theorem zdt {n:Nat}{F:Tab}{k:Nat}{v w:Int}{j:Nat}(hj:j < n):ts n F k [v,w] j=if j=k+1 then w else if j=k then v else F j:=by
 show (match Nat.beq j (k+1) with | true=>w | false=>(match Nat.beq j k with | true=>v | false=>tg n F j))=_
 by_cases h:j=k+1
 ·rw[if_pos h,show Nat.beq j (k+1)=true from by rw[h];exact Nat.beq_refl _]
 ·rw [if_neg h, show Nat.beq j (k + 1) = false from Bool.eq_false_iff.2 fun e => h (Nat.eq_of_beq_eq_true e)]
  by_cases h':j=k
  ·rw[if_pos h',show Nat.beq j k=true from by rw[h'];exact Nat.beq_refl _]
  ·rw[if_neg h',show Nat.beq j k=false from Bool.eq_false_iff.2 λ e=>h' (Nat.eq_of_beq_eq_true e)];exact zc3 hj
def fwS (t:Tie) (i:Nat):step:=⟨⟨(i:Int),false⟩,t.From,t.To,t.High⟩
def bwS (t:Tie) (i:Nat):step:=⟨⟨(i:Int),true⟩,t.To,t.From,w64 (0 - t.Low)⟩
def zHT (a:web) (i:Nat):Bool:=(ztz (a.out.F [(i:Int)]) 0) != 0
def stK (a:web) (i:Nat):List step :=
 cond (zHT a i) [] ((cond ((a.Net.Ties.get i).High != (1000000000000:Int)) [fwS (a.Net.Ties.get i) i] []) ++ (cond ((a.Net.Ties.get i).Low != (-1000000000000:Int)) [bwS (a.Net.Ties.get i) i] []))
def stL (a : web) : Nat → Nat → List step
  | 0,_=>[]
  | m+1,i=>stK a i ++ stL a m (i+1)
theorem zrJ (a:web) (hn:a.Net.Ties.len≤9223372036854775807):zui a=true/\zkO a=stL a a.Net.Ties.len 0:=by
 have key:∀ (m k i:Nat),i+m=a.Net.Ties.len->m < k->zeh a k (i:Int)=true/\zeg a k (i:Int)=stL a m i:=by
  intro m
  induction m with
  | zero =>
   intro k i hi hk
   obtain⟨k,rfl⟩:∃ k',k=k'+1:=⟨k - 1,by omega⟩
   constructor
   ·show zeY a (zeh a k) (i : Int) = true
    unfold zeY
    rw[decide_eq_false (show ¬ (i:Int) < (a.Net.Ties.len:Int) by omega),cond_false]
   ·show zeX a (zeg a k) (i : Int) = []
    unfold zeX
    rw[decide_eq_false (show ¬ (i:Int) < (a.Net.Ties.len:Int) by omega),cond_false]
  | succ m ih =>
   intro k i hi hk
   obtain⟨k,rfl⟩:∃ k',k=k'+1:=⟨k - 1,by omega⟩
   obtain⟨h1,h2⟩:=ih k (i+1) (by omega) (by omega)
   constructor
   ·show zeY a (zeh a k) (i : Int) = true
    unfold zeY
    rw[decide_eq_true (show (i:Int) < (a.Net.Ties.len:Int) by omega),cond_true,decide_eq_true (show 0≤(i:Int)/\(i:Int) < (a.Net.Ties.len:Int) by omega),Bool.true_and,zjI (n:=a.Net.Ties.len) (by omega) hn,h1]
    generalize (ztz (a.out.F [(i:Int)]) 0 != 0)=b1
    generalize (s94 (⟨(a.Net.Ties.get ((i:Int)).toNat),(i:Int)⟩:tie)).2=b2
    generalize (s95 (⟨(a.Net.Ties.get ((i:Int)).toNat),(i:Int)⟩:tie)).2=b3
    cases b1 <;> cases b2 <;> cases b3 <;> rfl
   ·show zeX a (zeg a k) (i : Int) = stK a i ++ stL a m (i + 1)
    unfold zeX
    rw[decide_eq_true (show (i:Int) < (a.Net.Ties.len:Int) by omega),cond_true,Int.toNat_natCast,zjI (n:=a.Net.Ties.len) (by omega) hn,h2]
    unfold stK zHT s94 s95
    generalize (ztz (a.out.F [(i:Int)]) 0 != 0)=b1
    show cond b1 _ (cond ((a.Net.Ties.get i).High != (1000000000000:Int)) (_ :: cond ((a.Net.Ties.get i).Low != (-1000000000000:Int)) (_ :: _) _) (cond ((a.Net.Ties.get i).Low != (-1000000000000:Int)) (_ :: _) _))=_
    generalize ((a.Net.Ties.get i).High != (1000000000000:Int))=b2
    generalize ((a.Net.Ties.get i).Low != (-1000000000000:Int))=b3
    cases b1 <;> cases b2 <;> cases b3 <;> rfl
 exact key a.Net.Ties.len Fuel 0 (by omega) (by simp only[Fuel];omega)
theorem znB {a:web}{y:step} : ∀ {m i:Nat},y∈stL a m i↔∃ j,i≤j/\j < i+m/\y∈stK a j:=by
 intro m
 induction m with
 | zero=>intro i;exact⟨λ h=>(by cases h),λ ⟨j,h1,h2,_⟩=>(by omega)⟩
 | succ m ih =>
  intro i
  show y∈stK a i ++ stL a m (i+1)↔_
  rw[List.mem_append,ih]
  constructor
  ·rintro (h | ⟨j, h1, h2, h3⟩)
   ·exact⟨i,Nat.le_refl _,by omega,h⟩
   ·exact⟨j,by omega,by omega,h3⟩
  ·rintro ⟨j, h1, h2, h3⟩
   by_cases h:j=i
   ·subst h;exact .inl h3
   ·exact .inr ⟨j,by omega,by omega,h3⟩
theorem znC {a:web}{y:step}{j:Nat} : y∈stK a j↔zHT a j=false/\(((a.Net.Ties.get j).High ≠ 1000000000000/\y=fwS (a.Net.Ties.get j) j)∨((a.Net.Ties.get j).Low ≠ -1000000000000/\y=bwS (a.Net.Ties.get j) j)):=by
 unfold stK
 cases h:zHT a j
 ·rw [cond_false, List.mem_append]
  by_cases h1:(a.Net.Ties.get j).High=1000000000000
  ·rw [show ((a.Net.Ties.get j).High != (1000000000000:Int)) = false by rw [h1]; rfl, cond_false]
   by_cases h2:(a.Net.Ties.get j).Low = -1000000000000
   ·rw [show ((a.Net.Ties.get j).Low != (-1000000000000:Int)) = false by rw [h2]; rfl, cond_false]
    simp[h1,h2]
   ·rw [bne_iff_ne.2 h2, cond_true]
    simp[h1,h2]
  ·rw [bne_iff_ne.2 h1, cond_true]
   by_cases h2:(a.Net.Ties.get j).Low = -1000000000000
   ·rw [show ((a.Net.Ties.get j).Low != (-1000000000000:Int)) = false by rw [h2]; rfl, cond_false]
    simp[h1,h2]
   ·rw [bne_iff_ne.2 h2, cond_true]
    simp[h1,h2]
 ·rw[cond_true];simp
theorem zHx (a:web):∀ m i,(stL a m i).length≤2 * m:=by
 intro m
 induction m with
 | zero=>intro i;exact Nat.le_refl _
 | succ m ih =>
  intro i
  show (stK a i ++ stL a m (i+1)).length≤_
  rw[List.length_append]
  have:=ih (i+1)
  have:(stK a i).length≤2:=by
   unfold stK
   cases zHT a i <;> cases ((a.Net.Ties.get i).High != (1000000000000:Int)) <;> cases ((a.Net.Ties.get i).Low != (-1000000000000:Int)) <;> simp
  omega
def edS (y:step):Ed:=⟨y.from_.toNat,y.to.toNat,y.length⟩
structure StOk (y : step) (N : Nat) : Prop where
  f0:0≤y.from_
  f1:y.from_ < N
  t0:0≤y.to
  t1:y.to < N
  l0 : -1000000000≤y.length
  l1:y.length≤1000000000
abbrev Ws (a:web):List step:=stL a a.Net.Ties.len 0
def We (a:web):List Ed:=(Ws a).map edS
theorem zzS {t:Tie}{N:Int}(h:TieOk t N) (h':t.Low ≠ -1000000000000):w64 (0 - t.Low) = -t.Low:=by
 have:=h.lo.resolve_left h'
 rw[zbx (by omega) (by omega)];omega
theorem zHy {a:web}(hn:NetOk a.Net){y:step}(hy:y∈Ws a):StOk y a.Net.Nodes.toNat:=by
 obtain⟨j,_,h2,h3⟩:=znB.1 hy
 have h:=hn.tie j (by omega)
 have:=h.f0;have:=h.f1;have:=h.t0;have:=h.t1
 rcases (znC.1 h3).2 with ⟨h4,rfl⟩ | ⟨h4,rfl⟩
 ·have := h.hi.resolve_left h4
  exact⟨h.f0,by show (a.Net.Ties.get j).From < _;omega,h.t0,by show (a.Net.Ties.get j).To < _;omega,this.1,this.2⟩
 ·have := h.lo.resolve_left h4
  have e:=zzS h h4
  exact⟨h.t0,by show (a.Net.Ties.get j).To < _;omega,h.f0,by show (a.Net.Ties.get j).From < _;omega,by show _≤w64 (0 - (a.Net.Ties.get j).Low);omega,by show w64 (0 - (a.Net.Ties.get j).Low)≤_;omega⟩
theorem zzT {a:web}(hn:NetOk a.Net):(Ws a).length≤400:=by
 have h1:=zHx a a.Net.Ties.len 0
 have h2:=hn.len
 show (stL a a.Net.Ties.len 0).length≤400
 omega
theorem ztr {a:web}(hn:NetOk a.Net):EdOk (We a) a.Net.Nodes.toNat:=by
 have:=hn.n1;have:=hn.n40
 refine⟨λ e he=>?_,λ e he=>?_,by omega,by omega⟩
 ·obtain ⟨y, hy, rfl⟩ := List.mem_map.1 he
  have h:=zHy hn hy
  have:=h.f0;have:=h.f1;have:=h.t0;have:=h.t1
  exact⟨by show y.from_.toNat < _;omega,by show y.to.toNat < _;omega⟩
 ·obtain ⟨y, hy, rfl⟩ := List.mem_map.1 he
  have h:=zHy hn hy
  exact⟨h.l0,h.l1⟩
theorem zDD {a:web}(hn:NetOk a.Net){e:Ed} : e∈We a↔∃ j,j < a.Net.Ties.len/\zHT a j=false/\(((a.Net.Ties.get j).High ≠ 1000000000000/\e=⟨(a.Net.Ties.get j).From.toNat,(a.Net.Ties.get j).To.toNat,(a.Net.Ties.get j).High⟩)∨((a.Net.Ties.get j).Low ≠ -1000000000000/\e=⟨(a.Net.Ties.get j).To.toNat,(a.Net.Ties.get j).From.toNat,-(a.Net.Ties.get j).Low⟩)):=by
 constructor
 ·intro he
  obtain⟨y,hy,rfl⟩:=List.mem_map.1 he
  obtain⟨j,_,h2,h3⟩:=znB.1 hy
  obtain⟨h4,h5⟩:=znC.1 h3
  refine⟨j,by omega,h4,?_⟩
  rcases h5 with ⟨h6,rfl⟩ | ⟨h6,rfl⟩
  ·exact .inl ⟨h6,rfl⟩
  ·refine .inr ⟨h6, ?_⟩
   rw[← zzS (hn.tie j (by omega)) h6];rfl
 ·rintro ⟨j, h1, h2, h3⟩
  rcases h3 with ⟨h6,rfl⟩ | ⟨h6,rfl⟩
  ·exact List.mem_map.2 ⟨fwS (a.Net.Ties.get j) j,znB.2 ⟨j,by omega,by omega,znC.2 ⟨h2,.inl ⟨h6,rfl⟩⟩⟩,rfl⟩
  ·exact List.mem_map.2 ⟨bwS (a.Net.Ties.get j) j,znB.2 ⟨j,by omega,by omega,znC.2 ⟨h2,.inr ⟨h6,rfl⟩⟩⟩,by rw[← zzS (hn.tie j h1) h6];rfl⟩
end Go.Proofs
namespace Go.Proofs
open Go Go.Pm
set_option maxRecDepth 100000
set_option linter.unusedVariables false
def Rt (N:Nat) (T:Tab) (d:zby):Prop:=∀ v,v < N->d v=some (T v)
def Bd (B:Int) (T:Tab):Prop:=∀ v,v < 40->-B≤T v/\T v≤0
theorem zzU (a:web){N:Nat}(hN:N≤40) (S0:Int->Tab->Bool) (P0:Int->Tab->Bool):∀ (l:List step),(∀ y∈l,StOk y N)->∀ (t:Int) (c:Bool) (T:Tab) (d:zby) (B:Int),Rt N T d->Bd B T->0≤B->B+l.length * 1000000000≤100000000000000000 ->
    ∃ T',zfJ S0 a l t c T=zmO S0 a t ((l.map edS).foldl rlF (d,c)).2 T'/\zfK P0 a l t c T=zmP P0 a t ((l.map edS).foldl rlF (d,c)).2 T'/\Rt N T' ((l.map edS).foldl rlF (d,c)).1/\Bd (B+l.length * 1000000000) T':=by
  intro l
  induction l with
  | nil=>intro _ t c T d B h1 h2 _ _;exact⟨T,rfl,rfl,h1,by simpa using h2⟩
  | cons y l ih =>
    intro hl t c T d B h1 h2 h3 h4
    have hy:=hl y (List.mem_cons_self ..)
    have hl':∀ y∈l,StOk y N:=λ z hz=>hl z (List.mem_cons_of_mem _ hz)
    rw[List.length_cons] at h4
    have f0:=hy.f0;have f1:=hy.f1;have t0:=hy.t0;have t1:=hy.t1;have l0:=hy.l0;have l1:=hy.l1
    have hf:=h1 y.from_.toNat (by omega)
    have ht:=h1 y.to.toNat (by omega)
    have bf:=h2 y.from_.toNat (by omega)
    have bt:=h2 y.to.toNat (by omega)
    have e1:0+y.from_.toNat * 1+0=y.from_.toNat:=by omega
    have e2:0+y.to.toNat * 1+0=y.to.toNat:=by omega
    have hr:rlF (d,c) (edS y)=cond (decide (T y.from_.toNat+y.length < T y.to.toNat)) (zi1 d y.to.toNat (T y.from_.toNat+y.length),true) (d,c):=by
      unfold rlF edS
      simp only[hf,ht]
      rfl
    have hS:zfJ S0 a (y :: l) t c T=cond (decide (T y.from_.toNat+y.length < T y.to.toNat)) (zfJ S0 a l t true (ts 40 T y.to.toNat [T y.from_.toNat+y.length])) (zfJ S0 a l t c T):=by
      show zmQ S0 a y (zfJ S0 a l) t c T=_
      generalize zfJ S0 a l=S
      unfold zmQ
      rw[e1,e2,zc3 (by omega),zc3 (by omega),zbx (by omega) (by omega)]
    have hP:zfK P0 a (y :: l) t c T=cond (decide (T y.from_.toNat+y.length < T y.to.toNat)) (zfK P0 a l t true (ts 40 T y.to.toNat [T y.from_.toNat+y.length])) (zfK P0 a l t c T):=by
      show zmR P0 a y (zfK P0 a l) t c T=_
      generalize zfK P0 a l=S
      unfold zmR
      rw[e1,e2,zc3 (by omega),zc3 (by omega),zbx (by omega) (by omega),decide_eq_true (show 0≤y.from_/\y.from_ < (40:Int) by omega),decide_eq_true (show 0≤y.to/\y.to < (40:Int) by omega)]
      cases decide (T y.from_.toNat+y.length < T y.to.toNat) <;> rfl
    show ∃ T',_=zmO S0 a t ((l.map edS).foldl rlF (rlF (d,c) (edS y))).2 T'/\_=zmP P0 a t ((l.map edS).foldl rlF (rlF (d,c) (edS y))).2 T'/\Rt N T' ((l.map edS).foldl rlF (rlF (d,c) (edS y))).1/\_
    rw[hS,hP,hr]
    by_cases hlt:T y.from_.toNat+y.length < T y.to.toNat
    · rw [decide_eq_true hlt, cond_true, cond_true, cond_true]
      obtain ⟨T', k1, k2, k3, k4⟩ := ih hl' t true (ts 40 T y.to.toNat [T y.from_.toNat + y.length]) (zi1 d y.to.toNat (T y.from_.toNat + y.length)) (B + 1000000000)
        (λ v hv=>by
          rw[zDC (by omega)]
          unfold zi1
          by_cases h:v=y.to.toNat
          · rw[if_pos h,if_pos h]
          · rw[if_neg h,if_neg h];exact h1 v hv)
        (λ v hv=>by
          rw[zDC hv]
          by_cases h:v=y.to.toNat
          · rw[if_pos h];omega
          · rw[if_neg h];have:=h2 v hv;omega) (by omega) (by omega)
      refine⟨T',k1,k2,k3,?_⟩
      rw[List.length_cons,show B+((l.length+1:Nat):Int) * 1000000000=B+1000000000+(l.length:Int) * 1000000000 by omega]
      exact k4
    · rw [decide_eq_false hlt, cond_false, cond_false, cond_false]
      obtain⟨T',k1,k2,k3,k4⟩:=ih hl' t c T d B h1 h2 h3 (by omega)
      refine⟨T',k1,k2,k3,λ v hv=>?_⟩
      have:=k4 v hv
      rw[List.length_cons]
      omega
theorem zrK (a:web) (hn:NetOk a.Net):∀ (m k i:Nat) (T:Tab) (d:zby) (B:Int),Rt a.Net.Nodes.toNat T d->Bd B T->0≤B->B+m * 400000000000≤100000000000000000->(i:Int)+m=a.Net.Nodes->m < k ->
  zh9 a k (i:Int) T=true/\zh8 a k (i:Int) T=znA (We a) m d:=by
 have hn1:=hn.n1;have hn40:=hn.n40;have hlen:=hn.len
 obtain⟨q1,q2⟩:=zrJ a (by omega)
 intro m
 induction m with
 | zero =>
  intro k i T d B _ _ _ _ hi hk
  obtain⟨k,rfl⟩:∃ k',k=k'+1:=⟨k - 1,by omega⟩
  constructor
  ·show zh7 a (zh9 a k) (i : Int) T = true
   unfold zh7
   rw[decide_eq_false (show ¬ (i:Int) < a.Net.Nodes by omega),cond_false]
  ·show zh6 a (zh8 a k) (i : Int) T = true
   unfold zh6
   rw[decide_eq_false (show ¬ (i:Int) < a.Net.Nodes by omega),cond_false]
 | succ m ih =>
  intro k i T d B h1 h2 h3 h4 hi hk
  obtain⟨k,rfl⟩:∃ k',k=k'+1:=⟨k - 1,by omega⟩
  have hwl:=zzT hn
  obtain⟨T',k1,k2,k3,k4⟩:=zzU a (N:=a.Net.Nodes.toNat) (by omega) (zh8 a k) (zh9 a k) (Ws a) (λ y hy=>zHy hn hy) (i:Int) false T d B h1 h2 h3 (by omega)
  have hB:Bd (B+400000000000) T':=λ v hv=>by have:=k4 v hv;omega
  have hw:w64 ((i:Int)+(1:Int))=((i+1:Nat):Int):=by rw[zbx (by omega) (by omega)];omega
  obtain⟨r1,r2⟩:=ih k (i+1) T' (rnd (We a) d) (B+400000000000) k3 hB (by omega) (by omega) (by omega) (by omega)
  constructor
  ·show zh7 a (zh9 a k) (i : Int) T = true
   unfold zh7 zpS
   rw[decide_eq_true (show (i:Int) < a.Net.Nodes by omega),cond_true,q1,q2,k2]
   unfold zmP
   rw[hw,r1]
   cases ((Ws a).map edS |>.foldl rlF (d,false)).2 <;> rfl
  ·show zh6 a (zh8 a k) (i : Int) T = cond ((We a).foldl rlF (d, false)).2 (znA (We a) m (rnd (We a) d)) false
   unfold zh6 zpR
   rw[decide_eq_true (show (i:Int) < a.Net.Nodes by omega),cond_true,q2,k1]
   unfold zmO
   rw[hw,r2]
   show cond (!((We a).foldl rlF (d,false)).2) false _=_
   cases ((We a).foldl rlF (d,false)).2 <;> rfl
theorem zzV (a:web) (hn:NetOk a.Net):p88 a=true/\s88 a=znA (We a) a.Net.Nodes.toNat (znG a.Net.Nodes.toNat):=by
 have hn1:=hn.n1;have hn40:=hn.n40
 have:=zrK a hn a.Net.Nodes.toNat Fuel 0 (λ _=>(0:Int)) (znG a.Net.Nodes.toNat) 0 (λ v hv=>if_pos hv) (λ v hv=>⟨by show -(0:Int)≤(0:Int);omega,Int.le_refl _⟩) (by omega) (by omega) (by omega) (by simp only[Fuel];omega)
 exact this
theorem zzW (a:web) (hn:NetOk a.Net):s88 a=false↔za8 (We a):=by
 rw[(zzV a hn).2];exact zB1 (ztr hn)
end Go.Proofs
namespace Go.Proofs
open Go Go.Pm
set_option maxRecDepth 100000
set_option linter.unusedVariables false
theorem zjM (a b:far):zBo a ⟨1,λ _=>b⟩=true/\zcJ a ⟨1,λ _=>b⟩=cond (zBl b a) b a:=by
 unfold zBo zcJ zmV zmU
 have key:∀ k,zgm (⟨1,λ _=>b⟩:Sl far) (k+2) (0:Int) a.length a.uses=true/\zgl (⟨1,λ _=>b⟩:Sl far) (k+2) (0:Int) a.length a.uses=cond (zBl b a) b a:=by
  intro k
  have hw:w64 ((0:Int)+(1:Int))=(1:Int):=by rw[zbx (by omega) (by omega)];rfl
  have e1:∀ x y,zgl (⟨1,λ _=>b⟩:Sl far) (k+1) (1:Int) x y=(⟨x,y⟩:far):=λ x y=>by
   show zgj (⟨1,λ _=>b⟩:Sl far) (zgl (⟨1,λ _=>b⟩:Sl far) k) (1:Int) x y=_
   unfold zgj
   rw[decide_eq_false (show ¬ (1:Int) < ((1:Nat):Int) by omega),cond_false]
  have e2:∀ x y,zgm (⟨1,λ _=>b⟩:Sl far) (k+1) (1:Int) x y=true:=λ x y=>by
   show zgk (⟨1,λ _=>b⟩:Sl far) (zgm (⟨1,λ _=>b⟩:Sl far) k) (1:Int) x y=_
   unfold zgk
   rw[decide_eq_false (show ¬ (1:Int) < ((1:Nat):Int) by omega),cond_false]
  constructor
  ·show zgk (⟨1, fun _ => b⟩ : Sl far) (zgm (⟨1, fun _ => b⟩ : Sl far) (k + 1)) (0:Int) a.length a.uses = _
   unfold zgk zmT
   rw[decide_eq_true (show (0:Int) < ((1:Nat):Int) by omega),cond_true,decide_eq_true (show 0≤(0:Int)/\(0:Int) < ((1:Nat):Int) by omega),Bool.true_and,hw,e2,e2]
   cases zBl b (⟨a.length,a.uses⟩:far) <;> rfl
  ·show zgj (⟨1, fun _ => b⟩ : Sl far) (zgl (⟨1, fun _ => b⟩ : Sl far) (k + 1)) (0:Int) a.length a.uses = _
   unfold zgj zmS
   rw[decide_eq_true (show (0:Int) < ((1:Nat):Int) by omega),cond_true,hw,e1,e1]
 have:=key (Fuel - 2)
 rw[show Fuel - 2+2=Fuel by simp only[Fuel]] at this
 exact this
theorem zzX (a b:far):zBl a b=decide (a.length < b.length∨(a.length=b.length/\a.uses < b.uses)):=by
 unfold zBl
 by_cases h1:a.length < b.length
 ·rw[decide_eq_true h1,cond_true];exact (decide_eq_true (.inl h1)).symm
 ·rw [decide_eq_false h1, cond_false]
  by_cases h2:a.length=b.length
  ·rw [show (a.length == b.length) = true from beq_iff_eq.2 h2, cond_true]
   exact decide_eq_decide.2 ⟨λ h=>.inr ⟨h2,h⟩,λ h=>h.elim (λ h=>absurd h h1) (λ h=>h.2)⟩
  ·rw [show (a.length == b.length) = false from beq_eq_false_iff_ne.2 h2, cond_false]
   exact (decide_eq_false (λ h=>h.elim h1 (λ h=>h2 h.1))).symm
def Rp (N:Nat) (T:Tab) (d:zby):Prop:=∀ v,v < N->(T (v * 2),T (v * 2+1))=zKW (d v)
def nv (x y:Int):Bool:=match (x == (1000000000000:Int)) with | true=>(match (y == (0:Int)) with | true=>true | false=>false) | false=>false
def sm (x y u v:Int):Bool:=match (x == u) with | true=>(match (y == v) with | true=>true | false=>false) | false=>false
theorem znD (x y:Int):nv x y=decide ((x,y)=((1000000000000:Int),(0:Int))):=by
 unfold nv
 by_cases h1:x=1000000000000
 ·rw [show (x == (1000000000000:Int)) = true from beq_iff_eq.2 h1]
  by_cases h2:y=0
  ·rw[show (y == (0:Int))=true from beq_iff_eq.2 h2];exact (decide_eq_true (by rw[h1,h2])).symm
  ·rw[show (y == (0:Int))=false from beq_eq_false_iff_ne.2 h2];exact (decide_eq_false (λ h=>h2 (Prod.mk.inj h).2)).symm
 ·rw [show (x == (1000000000000:Int)) = false from beq_eq_false_iff_ne.2 h1]
  exact (decide_eq_false (λ h=>h1 (Prod.mk.inj h).1)).symm
theorem same_eq (x y u v:Int):sm x y u v=decide ((x,y)=(u,v)):=by
 unfold sm
 by_cases h1:x=u
 ·rw [show (x == u) = true from beq_iff_eq.2 h1]
  by_cases h2:y=v
  ·rw[show (y == v)=true from beq_iff_eq.2 h2];exact (decide_eq_true (by rw[h1,h2])).symm
  ·rw[show (y == v)=false from beq_eq_false_iff_ne.2 h2];exact (decide_eq_false (λ h=>h2 (Prod.mk.inj h).2)).symm
 ·rw [show (x == u) = false from beq_eq_false_iff_ne.2 h1]
  exact (decide_eq_false (λ h=>h1 (Prod.mk.inj h).1)).symm
theorem zjN {E : List Ed} {n s v : Nat} (hE : EdOk E n) (hs : s < n) {d : zby} (hd : Inv (E.map edM) (fun v => v = s) d) {x : Int} (hx : d v = some x) :
  ∃ L U,zKW (d v)=(L,U)/\x=L * 1048576+U/\0≤U/\U < 40/\-40000000000≤L/\L≤40000000000:=by
 obtain⟨c,hc⟩:=zDB hE hs hd hx
 have h1:=zjL hE hc.ch
 have h2:=hc.len
 have h3:=hE.n40
 refine⟨wt c,c.length,?_,hc.x,by omega,by omega,by omega,by omega⟩
 rw[hx,hc.x]
 exact zrG (by omega) (by omega)
end Go.Proofs
