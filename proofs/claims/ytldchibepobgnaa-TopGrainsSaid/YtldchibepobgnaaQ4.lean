/- Part 4 of what the proof rests on: a machine that runs functions of the program on pure values, proved sound; the functions that the law reaches, and what they compute. -/
import Derived.Test.YtldchibepobgnaaQ3
set_option linter.all false
namespace Go.Pm
variable [DrawZ]
open Go.RowKit (Below)

theorem ziN {P : Program} : ∀ (l : List (Nat × Nat × Nat × (Nat → List PV))) (σ τ : St), Eqv σ τ → (zfF P l σ = none ∧ zfF P l τ = none) ∨ ∃ σ' τ', zfF P l σ = some σ' ∧ zfF P l τ = some τ' ∧ Eqv σ' τ'
  | [],σ,τ,h=>.inr ⟨σ,τ,rfl,rfl,h⟩
  | (t,L,e,g) :: r,σ,τ,h=>by
    simp only[zfF]
    rw[<- h.env,<- h.objs]
    split
    · split
      · split
        · refine ziN r _ _ ⟨fun s => ?_, fun s => ?_, h.log⟩
          · simp only[zay,h.env]
          · simp only[zay,h.objs]
        · exact .inl ⟨rfl,rfl⟩
      · exact .inl ⟨rfl,rfl⟩
    · exact ziN r _ _ h
    · exact .inl ⟨rfl,rfl⟩
theorem ziO {P : Program} : ∀ (l : List (Nat × Nat × Nat × Nat × (Nat → List PV))) (σ τ : St), Eqv σ τ → (zfG P l σ = none ∧ zfG P l τ = none) ∨ ∃ σ' τ', zfG P l σ = some σ' ∧ zfG P l τ = some τ' ∧ Eqv σ' τ'
  | [],σ,τ,h=>.inr ⟨σ,τ,rfl,rfl,h⟩
  | (B,k,L,e,g) :: r,σ,τ,h=>by
    simp only[zfG]
    rw[<- h.objs,<- h.objs]
    split
    · split
      · split
        · split
          · refine ziO r _ _ ⟨h.env, fun s => ?_, h.log⟩
            simp only[zay,h.objs]
          · exact .inl ⟨rfl,rfl⟩
        · exact .inl ⟨rfl,rfl⟩
      · exact ziO r _ _ h
      · exact .inl ⟨rfl,rfl⟩
    · exact .inl ⟨rfl,rfl⟩
theorem ziP {P : Program} : ∀ (l : List (Nat × Nat × Nat × Nat × Nat × (Nat → Nat → List PV))) (σ τ : St), Eqv σ τ → (zfH P l σ = none ∧ zfH P l τ = none) ∨ ∃ σ' τ', zfH P l σ = some σ' ∧ zfH P l τ = some τ' ∧ Eqv σ' τ'
  | [],σ,τ,h=>.inr ⟨σ,τ,rfl,rfl,h⟩
  | (B,k,L,te,e,g) :: r,σ,τ,h=>by
    simp only[zfH]
    rw[<- h.objs,<- h.objs]
    split
    · split
      · split
        · split
          · split
            · refine ziP r _ _ ⟨h.env, fun s => ?_, h.log⟩
              simp only[zay,h.objs]
            · exact .inl ⟨rfl,rfl⟩
          · exact .inl ⟨rfl,rfl⟩
        · exact .inl ⟨rfl,rfl⟩
      · exact ziP r _ _ h
      · exact .inl ⟨rfl,rfl⟩
    · exact .inl ⟨rfl,rfl⟩
theorem ziQ : ∀ (l : List (Nat × Nat × (Nat → List PV))) (σ τ : St), Eqv σ τ → (zfI l σ = none ∧ zfI l τ = none) ∨ ∃ σ' τ', zfI l σ = some σ' ∧ zfI l τ = some τ' ∧ Eqv σ' τ'
  | [],σ,τ,h=>.inr ⟨σ,τ,rfl,rfl,h⟩
  | (t,s,g) :: r,σ,τ,h=>by
    have ho:lk σ.objs=lk τ.objs:=funext h.objs
    simp only[zfI]
    rw[<- h.env,<- ho]
    split
    · split
      · refine ziQ r _ _ ⟨fun s => ?_, h.objs, h.log⟩
        simp only[zay,h.env]
      · split
        · refine ziQ r _ _ ⟨fun s => ?_, fun s => ?_, h.log⟩
          · simp only[zay,h.env]
          · simp only[zdm,h.objs]
        · exact .inl ⟨rfl,rfl⟩
    · exact .inl ⟨rfl,rfl⟩
theorem zmI {α : Type} {f : α → α} {l l' : List (Nat × α)} (h : ∀ t, lk l t = lk l' t) : ∀ ks, zlr f l ks = zlr f l' ks
  | []=>rfl
  | t :: r=>by simp only[zlr,h,zmI h r]
theorem zDk {ob ob':Nat->Option AO}(h:∀ t,ob t=ob' t):∀ ks,zu9 ob ks=zu9 ob' ks:=by
 intro ks
 have:ob=ob':=funext h
 rw[this]
theorem zvB {P:Program}{k:Keep}{σ τ:St}(h:Eqv σ τ):zl5 P k σ=zl5 P k τ:=by
 unfold zl5
 rcases ziN (P:=P) k.coT σ τ h with ⟨h1,h2⟩ | ⟨σ1,τ1,h1,h2,h3⟩
 ·rw[h1,h2]
 ·rw [h1, h2]
  simp only
  rcases ziO (P:=P) k.coB σ1 τ1 h3 with ⟨h4,h5⟩ | ⟨σ2,τ2,h4,h5,h6⟩
  ·rw[h4,h5]
  ·rw [h4, h5]
   simp only
   rcases ziP (P:=P) k.coV σ2 τ2 h6 with ⟨h7,h8⟩ | ⟨σ3,τ3,h7,h8,h9⟩
   ·rw[h7,h8]
   ·rw [h7, h8]
    simp only
    rw[zmI h9.env,zmI h9.objs]
theorem zxm {P:Program}{k:Keep}{σ τ:St}(h:Eqv σ τ):canon P k σ=canon P k τ:=by
 unfold canon
 have h1:Eqv (zKh k.coF σ) (zKh k.coF τ):=⟨h.env,λ t=>by simp only[zKh,zdm,h.objs,zDk h.objs],h.log⟩
 rcases ziQ k.coZ _ _ h1 with ⟨h2,h3⟩ | ⟨σ1,τ1,h2,h3,h4⟩
 ·rw[h2,h3]
 ·rw[h2,h3];exact zvB h4

section
variable {P:Program}{Γ:Ctrs}{nt B:Nat}{w0:World}{h0:Fz}{r:Option Nat}{n:Nat}

theorem zeN {b : Frame} {a : Act} {k : List Item} {cs : List Frame} {w : World} {c : Code} :
  step P (lone (b.atR a (.code (.scope c) :: k)) cs w)=.next (lone (b.atR a (.code c :: .inScope c :: k)) cs w) :=
 step_lone_go (by simp[stepG,stepG.exec,Frame.atR])
theorem zo5 {b : Frame} {a : Act} {k : List Item} {cs : List Frame} {w : World} {c : Code} :
  step P (lone (b.atR a (.inScope c :: k)) cs w)=.next (lone (b.atR a k) cs w) :=
 step_lone_go (by simp[stepG,stepG.exec,Frame.atR])

theorem zn2 {c:Code}{Q:Exit->Act->World->Prop}{a:Act}{w:World}{F:Fence}(h:c.wpIn F n P (Exit.noGoto Q) a w):(Code.scope c).wpIn F n P Q a w:=by
 intro b k cs hro hb hr
 obtain⟨e,a₁,w₁,hq,harr⟩:=h b (.inScope c :: k) cs hro hb hr
 have h0:(lone (b.atR a (.code (.scope c) :: k)) cs w).fenced P F:=fenced_calm hb hr rfl
 cases e with
 | normal=>exact⟨.normal,a₁,w₁,hq,.head h0 zeN (StepsIn.trans harr (.one (fenced_calm hb hr rfl) zo5))⟩
 | exit id =>
  refine⟨.exit id,a₁,w₁,hq,λ k' hk=>.head h0 zeN (harr.1 k' (by simp[exitTo,hk])),λ hr' hk=>?_⟩
  obtain⟨k₁,h1,h2⟩:=harr.2 hr' (by simp[exitTo,hk])
  exact⟨k₁,h1,.head h0 zeN h2⟩
 | goto l=>exact hq.elim
 | ret=>exact⟨_,a₁,w₁,hq,.of_steps (.one h0 zeN) harr⟩
 | panic ch=>exact⟨_,a₁,w₁,hq,.of_steps (.one h0 zeN) harr⟩
 | outgrown=>exact⟨_,a₁,w₁,hq,.of_steps (b:=b) (k:=k) (cs:=cs) (e:=.outgrown) (.one h0 zeN) harr⟩

def zrN (F:Fence) (n:Nat) (P:Program) (c:Code) (Q:Exit->Act->World->Prop) (a:Act) (w:World):Prop :=
 ∀ (b:Frame) (k:List Item) (cs:List Frame),b.roundOf=F.round->F.fn b.fn->F.room (cs.length+1+n) ->
  ∃ e a' w',Q e a' w'/\ArrivesIn (Machine.fenced P F) P (lone (b.atR a (.code c :: .inLoop c :: k)) cs w) b k cs e a' w'

theorem zg2 {F:Fence}{c:Code}{Q:Exit->Act->World->Prop}{a:Act}{w:World}(h:zrN F n P c Q a w):(Code.loop c).wpIn F n P Q a w:=by
 intro b k cs hro hb hr
 obtain⟨e,a',w',hq,harr⟩:=h b k cs hro hb hr
 exact⟨e,a',w',hq,.of_steps (.one (fenced_calm hb hr rfl) stepR_loop) harr⟩

theorem zg3 {F:Fence}{c:Code}{Q:Exit->Act->World->Prop}{a:Act}{w:World}(h:c.wpIn F n P (Exit.then (zrN F n P c Q) Q) a w):zrN F n P c Q a w:=by
 intro b k cs hro hb hr
 obtain⟨e,a₁,w₁,hq,harr⟩:=h b (.inLoop c :: k) cs hro hb hr
 cases e with
 | normal =>
  obtain⟨e₂,a₂,w₂,hq₂,harr₂⟩:=hq b k cs hro hb hr
  exact⟨e₂,a₂,w₂,hq₂,.of_steps (StepsIn.trans harr (.one (fenced_calm hb hr rfl) stepR_inLoop)) harr₂⟩
 | exit id=>exact⟨_,a₁,w₁,hq,.pass (x:=.inLoop c) rfl (λ _ _=>.inl (by simp)) harr⟩
 | goto l=>exact⟨_,a₁,w₁,hq,.pass (x:=.inLoop c) rfl (λ _ _=>.inl (by simp)) harr⟩
 | ret=>exact⟨_,a₁,w₁,hq,.pass (x:=.inLoop c) rfl (λ _ _=>.inl (by simp)) harr⟩
 | panic ch=>exact⟨_,a₁,w₁,hq,.pass (x:=.inLoop c) rfl (λ _ _=>.inl (by simp)) harr⟩
 | outgrown=>exact⟨_,a₁,w₁,hq,.pass (x:=.inLoop c) rfl (λ _ _=>.inl (by simp)) harr⟩

def PostR (P:Program) (nt B:Nat) (w0:World) (h0:Fz) (D:List Nat) (a0:Act) (K:Exit->St->Prop):Exit->Act->World->Prop :=
 λ e a' w'=>∃ g' σ',K e σ'/\Sim P nt B w0 h0 g' σ' a' w'/\Kp D a0 a'

def Snd (P:Program) (Γ:Ctrs) (ann:Ann) (B:Nat) (w0:World) (c:Code):Prop :=
 ∀ (r:Option Nat) (n:Nat) (h0:Fz) (D:List Nat) (a0:Act) (K:Exit->St->Prop) (σ:St) (g:Gh) (a:Act) (w:World),(∀ t∈znl c,t∈D)->Rnd r h0->vc P Γ ann c K σ ->
  Sim P ann.nt B w0 h0 g σ a w->Kp D a0 a->c.wpIn (FR r) n P (PostR P ann.nt B w0 h0 D a0 K) a w

theorem zt9 : ∀ {l : List Oper} {j : Nat} {o : Oper} {t : Nat}, l[j]? = some o → o.dst = some t → t ∈ zCu l
  | [],j,o,t,h,_=>by simp at h
  | x :: l,j,o,t,h,hd=>by
    cases j with
    | zero =>
      simp only[List.getElem?_cons_zero,dqa] at h;subst h
      simp only[zCu,hd];exact dqj
    | succ j =>
      have:=zt9 (l:=l) (j:=j) (by simpa using h) hd
      simp only[zCu];split
      · exact dqf _ this
      · exact this

theorem zqv (hok : OkAll P Γ) (ann : Ann) {id : Nat} {ops : Array Oper} {draw : Bool} {K : St → Prop} {Q : Exit → Act → World → Prop} {D : List Nat} {a0 : Act} {σ : St} {g : Gh} {a : Act} {w : World}
    (hD:∀ t∈zCu ops.toList,t∈D) (h:zCB P Γ ann id ops draw K σ) (S:Sim P ann.nt B w0 h0 g σ a w) (hkp:Kp D a0 a)
    (hQ:∀ g' σ' a' w',K σ'->Sim P ann.nt B w0 h0 g' σ' a' w'->Kp D a0 a'->a'.defers=a.defers->Q .normal a' w'):(Code.region id ops draw).wpIn (FR r) n P Q a w:=by
  have hD':∀ (j:Nat) (o:Oper),ops[j]? = some o->∀ t,o.dst=some t->t∈D:=λ j o ho t ht=>hD t (zt9 (by simpa using ho) ht)
  have hreg:∀ σ',(match lk ann.reg id with | some k=>(match canon P k σ' with | some s=>K s | none=>False) | none=>K σ')->∀ g' a' w',Sim P ann.nt B w0 h0 g' σ' a' w'->Kp D a0 a'->a'.defers=a.defers->Q .normal a' w':=by
    intro σ' h g' a' w' S hk' hdf
    split at h
    · split at h
      · rename_i s hs
        obtain⟨g2,S2⟩:=zca hs S
        exact hQ g2 s a' w' h S2 hk' hdf
      · exact h.elim
    · exact hQ g' σ' a' w' h S hk' hdf
  simp only[zCB] at h
  cases draw with
  | false =>
    refine wpIn_region ?_
    exact zrD hok hD' h (S.log _) hkp hreg
  | true =>
    simp only at h
    split at h
    · rename_i hc
      simp only[dqm] at hc
      refine zvz (K:=λ σ'=>match lk ann.reg id with
        | some k=>match canon P k σ' with
          | some s=>K s
          | none=>False
        | none=>False) hok hD' hkp hc.1.1 hc.1.2 hc.2 (λ σ τ he hσ=>?_) h (S.log []) ?_
      · split at hσ
        · rename_i k hk
          rw[zxm he] at hσ
          exact hσ
        · exact hσ.elim
      · intro σ' h g' a' w' S hk' hdf
        split at h
        · split at h
          · rename_i s hs
            obtain⟨g2,S2⟩:=zca hs S
            exact hQ g2 s a' w' h S2 hk' hdf
          · exact h.elim
        · exact h.elim
    · exact h.elim

def zxn (P : Program) (Γ : Ctrs) (ann : Ann) (x y : Code) (ps : List Nat) (k : Keep) (K : Exit → St → Prop) : List (List PA) → St → Prop
  | [],s=>K .normal s
  | yv :: rest,s=>match zjP ps yv s.env with
    | some env=>vc P Γ ann x (zFH (vc P Γ ann y (znB P k (zxn P Γ ann x y ps k K rest) K)) λ _ _=>False) ⟨env,s.objs,[]⟩
    | none=>False

theorem zrO (hok:OkAll P Γ){ann:Ann}{f:Operand}{ps:Array Tmp}{x y:Code}(ihx:Snd P Γ ann B w0 x) (ihy:Snd P Γ ann B w0 y):Snd P Γ ann B w0 (.rangeFunc f ps x y):=by
 intro r n h0 D a0 K σ g a w hD hR h S hkp
 simp only[vc] at h
 split at h
 ·rename_i k hk
  split at h
  ·rename_i s hs hdis
   simp only[dqm] at hdis
   obtain⟨hdis,hpnt⟩:=hdis
   split at h
   ·rename_i gf caps hf
    split at h
    ·rename_i safe ys hit
     obtain⟨hsafe,h⟩:=h
     have hgood:zxn P Γ ann x y ps.toList k K ys s:=h (zxn P Γ ann x y ps.toList k K) (λ _ h=>h) (λ _ _ _ h=>h)
     obtain⟨g1,S1⟩:=zca hs S
     have hout:∀ t∈k.tmps,t ∉ ps.toList/\t ∉ znl x ++ znl y:=by
      intro t ht
      have h1:=List.all_eq_true.1 hdis t ht
      simp only[Bool.not_eq_true'] at h1
      have h2:t ∉ ps.toList ++ (znl x ++ znl y):=by simpa using h1
      exact⟨λ h=>h2 (dqg.2 (.inl h)),λ h=>h2 (dqg.2 (.inr h))⟩
     refine wpIn_rangeFunc λ fn _=>?_
     obtain⟨l,mark,w1,d,h1,hrun,hlw,hl1,hle1,hn1,S2⟩:=zo3 S1 hR fn ps x y
     have hfn:=zcK S1 hf
     generalize hfv:a.eval f=fvv at hfn
     cases hfn with
     | fn _ _ _ fv cv l1 l2 hf1 hc1 =>
      have e1:fv=[]:=List.eq_nil_of_length_eq_zero l1.symm
      subst e1
      let a1:Act:={ a with defers:=mark ++ a.defers }
      let rec_:LoopState->Option Code->Loop:=λ st pe=>{ state:=st,pending:=pe,fn,tmps:=a.tmps,params:=ps, assign:=x,body:=y,defers:=d }
      let J:List (List PA)->Fz->World->Prop:=λ rest h W=>∃ s bk sv iv,zxn P Γ ann x y ps.toList k K rest s/\(∀ t d,lk s.env t=some d->t∈k.tmps)/\Sim P ann.nt B w0 h0 ⟨h,bk,sv,iv⟩ s a1 W/\h l=none/\B<=l /\
       (∀ L o,lk s.objs L=some o->¬ obk ⟨h,bk,sv,iv⟩ L o l)/\W.heap[l]? = some (.loop (rec_ .ready none))
      let Jx:List (List PA)->Fz->World->Prop:=λ _ h W=>∃ s bk sv iv c,((c=.ret/\K .ret s)\/∃ id,c=.exit id/\K (.exit id) s)/\Sim P ann.nt B w0 h0 ⟨h,bk,sv,iv⟩ s a1 W/\h l=none/\B<=l /\
       (∀ L o,lk s.objs L=some o->¬ obk ⟨h,bk,sv,iv⟩ L o l)/\W.heap[l]? = some (.loop (rec_ .done (some c)))
      have keepl:∀ {h h':Fz} {W W':World},W.heap[l]? ≠ none->h l=none->(∀ b o,h' b=some o->h b=some o\/W.heap.size<=b)->Bel h W.heap.size W W'->h' l=none/\W'.heap[l]? = W.heap[l]?:=by
       intro h h' W W' hW hl hn hb
       have hlt:l < W.heap.size:=by
        cases hx:W.heap[l]? with
        | none=>exact absurd hx hW
        | some o=>exact (dqp.1 hx).1
       refine⟨?_,hb.block l hlt λ F hF=>by rw[hl] at hF;cases hF⟩
       cases hx:h' l with
       | none=>rfl
       | some o =>
        rcases hn l o hx with h3 | h3
        ·rw[hl] at h3;cases h3
        ·omega
      have hJ:JSt J:=by
       rintro rest h W h' W' ⟨s,bk,sv,iv,hg,he,SJ,hl,hB,hno,hW⟩ hle hw' hn hb
       obtain⟨k1,k2⟩:=keepl (by rw[hW];simp) hl hn hb
       exact⟨s,bk,sv,iv,hg,he,SJ.world hle hw' hn hb,k1,hB,hno,by rw[k2];exact hW⟩
      have hJx:JSt Jx:=by
       rintro rest h W h' W' ⟨s,bk,sv,iv,c,hc,SJ,hl,hB,hno,hW⟩ hle hw' hn hb
       obtain⟨k1,k2⟩:=keepl (by rw[hW];simp) hl hn hb
       exact⟨s,bk,sv,iv,c,hc,SJ.world hle hw' hn hb,k1,hB,hno,by rw[k2];exact hW⟩
      have hBl:B<=l:=dqE S1.bs hlw
      have h0l:∀ {h:Fz} {bk sv iv} {s:St} {W:World},Sim P ann.nt B w0 h0 ⟨h,bk,sv,iv⟩ s a1 W->h l=none->h0 l=none:=λ SJ hl=>by
       cases hx:h0 l with
       | none=>rfl
       | some o=>have:=SJ.le0 l o hx;simp only[hl] at this;cases this
      have hno1:∀ L o,lk s.objs L=some o->¬ obk (g1.re h1) L o l:=λ L o ho hk=>by
       have:obk g1 L o l:=hk
       have:=zc4 (S1.obj L o ho) this
       omega
      have hstart:=hok.it gf (caps.map .one) safe ys hit hsafe l J Jx w1 h1 cv hJ hJx (S2.gl.mono S2.le0) ?_ ⟨s,g1.bk,g1.sv,g1.iv,hgood,zmG hs,S2,hn1,hBl,hno1,hl1⟩ (zwQ ((zp8 l2 hc1).mono λ _ _ h=>h.mono hle1)) S2.hw
      ·obtain ⟨hcall, hseq⟩ := hstart
       refine⟨l,mark,w1,{ target:=.fn (.func gf) cv.toArray,args:=#[.func (.yield l) #[] #[]] },w1,gf,(.func (.yield l) #[] #[] :: cv).toArray,w1,?_,?_,λ _ _=>trivial,?_,λ h=>by simp[FR] at h,(ztO hseq).mono ?_⟩
       ·exact hrun
       ·simp only [resolve, hfv]
        simp[go_sem]
       ·simp only [invoke]
        rw[show (#[.func (.yield l) #[] #[]] ++ cv.toArray)=(.func (.yield l) #[] #[] :: cv).toArray by simp]
        exact zcG hcall
       ·rintro e W3 ⟨v, h3, rfl, hle3, hw3, (⟨s3, bk, sv, iv, hg3, he3, S3, hl3, hB3, hno3, hW3⟩ | ⟨_, s3, bk, sv, iv, c, hc, S3, hl3, hB3, hno3, hW3⟩)⟩
        ·have S4 := S3.putObj (.loop { rec_ .ready none with state := .exhausted }) hl3 hB3 hno3
         refine⟨none,_,run_endLoop hW3 (by simp[rec_]),_,s3,hg3,S4,hkp.1,hkp.2.1,λ hr=>absurd (hD rfS dqj) hr⟩
        ·have S4 := S3.putObj (.loop { rec_ .done (some c) with state := .exhausted }) hl3 hB3 hno3
         refine⟨some c,_,run_endLoop hW3 (by simp[rec_]),?_⟩
         rcases hc with ⟨rfl,hc⟩ | ⟨id,rfl,hc⟩
         ·exact wpIn_ret ⟨_,s3,hc,S4,hkp.1,hkp.2.1,λ hr=>absurd (hD rfS dqj) hr⟩
         ·exact wpIn_exit ⟨_,s3,hc,S4,hkp.1,hkp.2.1,λ hr=>absurd (hD rfS dqj) hr⟩
      ·-- one round
       rintro yv rest h W us ⟨s,bk,sv,iv,hg,hek,SJ,hl,_,hno,hW⟩ hus hHw n'
       simp only[zxn] at hg
       split at hg
       ·rename_i env henv
        have hlt:l < W.heap.size:=(dqp.1 hW).1
        have h0l':=h0l SJ hl
        have SJ2:=SJ.up.hide hl hW hBl hno
        have hle2:Fle h (h.add l (.loop (rec_ .ready none))):=Fz.le_add hl
        have hpsz:∀ p∈ps.toList,p < a.tmps.size:=λ p hp=>by
         have:=List.all_eq_true.1 hpnt p hp
         exact dqS (by simpa [Nat.blt_eq] using this) SJ.size
        obtain⟨hul,henvR⟩:=zxl (g:=(⟨h.add l (.loop (rec_ .ready none)),bk,sv,iv⟩:Gh)) 0 ps.toList yv us s.env env a.tmps henv (hus.mono λ p q hpq=>by
         cases p with
         | one v=>exact Rep.mono hle2 hpq
         | agg cs=>obtain⟨vs,h5,h6⟩:=hpq;exact⟨vs,h5,h6.mono λ _ _=>Rep.mono hle2⟩) hpsz (λ t d ht=>SJ2.env t d ht)
        have hzip:(ps.zip us.toArray).foldl (λ tmps (t,a)=>tmps.setIfInBounds t a) a.tmps=(ps.toList.zip us).foldl (λ t (p,v)=>t.setIfInBounds p v) a.tmps:=by
         rw[<- Array.foldl_toList,Array.toList_zip]
        let ar:Act:={ tmps:=(ps.toList.zip us).foldl (λ t (p,v)=>t.setIfInBounds p v) a.tmps,defers:=[] }
        have Sr:Sim P ann.nt B w0 (h.add l (.loop (rec_ .ready none))) ⟨h.add l (.loop (rec_ .ready none)),bk,sv,iv⟩ ⟨env,s.objs,[]⟩ ar W:=by
         have Sa:=(SJ2.envs (env:=[]) (λ t d ht=>by simp[lk] at ht) (λ t d ht=>by simp[lk] at ht) []).act (a':=ar) (Marks.nil _ _) (by rw[show ar.tmps.size=a.tmps.size from fold_size _ _];exact SJ.size) (λ t d ht=>by simp[lk] at ht)
         exact Sa.envs henvR (λ t d ht L hL=>by
          rcases zqs _ _ _ _ henv t d ht with h5 | h5
          ·exact SJ.clE t d h5 L hL
          ·rw[h5] at hL;simp at hL) []
        have hrd:∀ st pe,Rnd (some l) (h.add l (.loop (rec_ st pe))):=λ st pe l' e=>by cases e;exact⟨_,Fz.add_same⟩
        refine⟨_,_,_,_,by rw[run_yield (P:=P) (args:=us.toArray) hW (by simp[rec_,hul]),hzip],roundIn_of_wpIn (F:=Fence.wide) trivial ?_⟩
        show x.wpIn (FR (some l)) n' P _ ar W
        refine wpIn_mono (ihx (some l) n' _ (znl x ++ znl y) ar _ _ _ ar W (λ t ht=>dqg.2 (.inl ht)) (hrd _ _) hg Sr (Kp.refl _ _)) ?_
        rintro e a' w' ⟨g2,σ2,hK2,S2,hkp2⟩
        cases e with
        | normal =>
         simp only[zFH] at hK2
         obtain⟨_,hno2,hw2,S3⟩:=S2.unhide hBl hl rfl (λ ds=>by simp) (λ _ _=>by simp)
         refine⟨_,run_beginRound hw2 rfl,?_⟩
         have S4:=S3.putObj (.loop { rec_ .ready none with state:=.busy }) Fz.del_same hBl hno2
         have hw4:(w'.putObj l (.loop { rec_ .ready none with state:=.busy })).heap[l]? = some (.loop (rec_ .busy none)):=World.putObj_heap_same (dqp.1 hw2).1
         have S5:=S4.hide (o:=.loop (rec_ .busy none)) Fz.del_same hw4 hBl hno2
         show y.wpIn (FR (some l)) n' P _ a' _
         refine wpIn_mono (ihy (some l) n' _ (znl x ++ znl y) ar _ σ2 _ a' _ (λ t ht=>dqg.2 (.inr ht)) (hrd _ _) hK2 S5 hkp2) ?_
         rintro e a5 w5 ⟨g6,σ6,hK6,S6,hkp6⟩
         have back:∀ s7,canon P k σ6=some s7->∃ (w5l:w5.heap[l]? = some (.loop (rec_ .busy none))) (h':Fz) (bk sv:_) (iv:Nat->Nat->Value),Fle h h'/\h' l=none /\
           ∀ o',Sim P ann.nt B w0 h0 ⟨h',bk,sv,iv⟩ s7 a1 (w5.putObj l o')/\(∀ L o,lk s7.objs L=some o->¬ obk ⟨h',bk,sv,iv⟩ L o l):=by
          intro s7 hs7
          obtain⟨g7,S7⟩:=zca hs7 S6
          obtain⟨_,hno8,hw8,S8⟩:=S7.unhide hBl hl rfl (λ ds=>by simp) (λ _ _=>by simp)
          have hle8:Fle h (g7.h.del l):=S8.le0
          refine⟨hw8,g7.h.del l,g7.bk,g7.sv,g7.iv,hle8,Fz.del_same,λ o'=>⟨?_,hno8⟩⟩
          have S9:=(S8.putObj o' Fz.del_same hBl hno8).down (h0:=h0) SJ.gl SJ.le0 SJ.hn
          refine S9.act (SJ.dfr.mono hle8) SJ.size λ t d ht=>?_
          obtain⟨h10,h11⟩:=hout t (zmG hs7 t d ht)
          have h12:=hkp6.1 t h11
          have h13:ar.tmps.getD t undef=a.tmps.getD t undef:=zn1 _ _ _ λ q hq e=>h10 (e ▸ (List.of_mem_zip hq).1)
          have:=S9.env t d ht
          rw[h12,h13] at this
          exact this
         cases e with
         | normal =>
          simp only[znB] at hK6
          split at hK6
          ·rename_i s7 hs7
           obtain⟨w5l,h',bk',sv',iv',hle',hl',hS⟩:=back s7 hs7
           have hlt5:=(dqp.1 w5l).1
           refine⟨_,_,run_endRound none w5l,h',hle',(hS _).1.hw,.inl ⟨rfl,s7,bk',sv',iv',hK6,zmG hs7,(hS _).1,hl',hBl,(hS (.loop (rec_ .ready none))).2,?_⟩⟩
           exact World.putObj_heap_same hlt5
          ·exact hK6.elim
         | ret =>
          simp only[znB] at hK6
          split at hK6
          ·rename_i s7 hs7
           obtain⟨w5l,h',bk',sv',iv',hle',hl',hS⟩:=back s7 hs7
           have hlt5:=(dqp.1 w5l).1
           refine⟨_,_,run_endRound (some .ret) w5l,h',hle',(hS _).1.hw,.inr ⟨rfl,s7,bk',sv',iv',.ret,.inl ⟨rfl,hK6⟩,(hS _).1,hl',hBl,(hS (.loop (rec_ .ready none))).2,?_⟩⟩
           exact World.putObj_heap_same hlt5
          ·exact hK6.elim
         | exit id =>
          simp only[znB] at hK6
          split at hK6
          ·rename_i s7 hs7
           obtain⟨w5l,h',bk',sv',iv',hle',hl',hS⟩:=back s7 hs7
           have hlt5:=(dqp.1 w5l).1
           refine⟨_,_,run_endRound (some (.exit id)) w5l,h',hle',(hS _).1.hw,.inr ⟨rfl,s7,bk',sv',iv',.exit id,.inr ⟨id,rfl,hK6⟩,(hS _).1,hl',hBl,(hS (.loop (rec_ .ready none))).2,?_⟩⟩
           exact World.putObj_heap_same hlt5
          ·exact hK6.elim
         | goto q=>exact hK6.elim
         | panic ch=>exact hK6.elim
         | outgrown=>exact hK6.elim
        | exit id=>exact hK2.elim
        | goto q=>exact hK2.elim
        | ret=>exact hK2.elim
        | panic ch=>exact hK2.elim
        | outgrown=>exact hK2.elim
       ·exact hg.elim
    ·exact h.elim
   ·exact h.elim
  ·exact h.elim
 ·exact h.elim

theorem zKN (hok:OkAll P Γ) (ann:Ann):∀ (c:Code),Snd P Γ ann B w0 c:=by
 intro c
 induction c with
 | skip=>intro r n h0 D a0 K σ g a w _ _ h S hkp;exact wpIn_skip ⟨g,σ,h,S,hkp⟩
 | region id ops draw =>
  intro r n h0 D a0 K σ g a w hD _ h S hkp
  simp only[vc] at h
  split at h
  ·rename_i x t u hn
   exact zvA ann hD hn h S hkp λ g' σ' a' w' hK S' hk' _=>⟨g',σ',hK,S',hk'⟩
  ·exact zqv hok ann hD h S hkp λ g' σ' a' w' hK S' hk' _=>⟨g',σ',hK,S',hk'⟩
 | seq x y ihx ihy =>
  intro r n h0 D a0 K σ g a w hD hR h S hkp
  refine wpIn_seq (wpIn_mono (ihx r n h0 D a0 _ σ g a w (λ t ht=>hD t (dqg.2 (.inl ht))) hR h S hkp) ?_)
  have hDy:∀ t∈znl y,t∈D:=λ t ht=>hD t (dqg.2 (.inr ht))
  rintro e a' w' ⟨g',σ',hK,S',hk'⟩
  cases e with
  | normal =>
   simp only[zFH,zOa] at hK
   split at hK
   ·split at hK
    ·rename_i s hs
     obtain⟨g2,S2⟩:=zca hs S'
     exact ihy r n h0 D a0 K s g2 a' w' hDy hR hK S2 hk'
    ·exact hK.elim
   ·exact ihy r n h0 D a0 K σ' g' a' w' hDy hR hK S' hk'
  | exit id=>exact⟨g',σ',hK,S',hk'⟩
  | goto l=>exact⟨g',σ',hK,S',hk'⟩
  | ret=>exact⟨g',σ',hK,S',hk'⟩
  | panic ch=>exact⟨g',σ',hK,S',hk'⟩
  | outgrown=>exact⟨g',σ',hK,S',hk'⟩
 | cond c x y ihx ihy =>
  intro r n h0 D a0 K σ g a w hD hR h S hkp
  simp only[vc] at h
  split at h
  ·rename_i t ht
   have hv:=zis S ht
   have hS:∀ b,t=b->Sim P ann.nt B w0 h0 g (zva σ c b) a w:=by
    intro b hb
    cases c with
    | tmp q =>
     refine S.env' (t:=q) (d:=.bool b) ?_ (zd1 _)
     have:a.tmps.getD q undef=.bool t:=hv
     rw[this,hb];exact .bool b
    | _=>exact S
   have h2:=zhK.1 h
   refine wpIn_cond hv ?_
   cases t with
   | true=>exact ihx r n h0 D a0 K _ g a w (λ t ht=>hD t (dqg.2 (.inl ht))) hR (h2.1 rfl) (hS true rfl) hkp
   | false=>exact ihy r n h0 D a0 K _ g a w (λ t ht=>hD t (dqg.2 (.inr ht))) hR (h2.2 rfl) (hS false rfl) hkp
  ·exact h.elim
 | block id b ih =>
  intro r n h0 D a0 K σ g a w hD hR h S hkp
  refine wpIn_block (wpIn_mono (ih r n h0 D a0 _ σ g a w hD hR h S hkp) ?_)
  rintro e a' w' ⟨g',σ',hK,S',hk'⟩
  cases e with
  | exit j =>
   simp only[ztE] at hK
   simp only[Exit.inBlock]
   split at hK
   ·rename_i hj;rw[if_pos (dqc hj)];exact⟨g',σ',hK,S',hk'⟩
   ·rename_i hj;rw[if_neg (Nat.ne_of_beq_eq_false hj)];exact⟨g',σ',hK,S',hk'⟩
  | normal=>exact⟨g',σ',hK,S',hk'⟩
  | goto l=>exact⟨g',σ',hK,S',hk'⟩
  | ret=>exact⟨g',σ',hK,S',hk'⟩
  | panic ch=>exact⟨g',σ',hK,S',hk'⟩
  | outgrown=>exact⟨g',σ',hK,S',hk'⟩
 | loop b ih =>
  intro r n h0 D a0 K σ g a w hD hR h S hkp
  simp only[vc] at h
  split at h
  ·rename_i k hk
   split at h
   ·rename_i s hs
    obtain⟨g1,S1⟩:=zca hs S
    refine zg2 ?_
    have key:=h (λ s=>∀ g a w,Sim P ann.nt B w0 h0 g s a w->Kp D a0 a->zrN (FR r) n P b (PostR P ann.nt B w0 h0 D a0 K) a w) ?_
    ·exact key g1 a w S1 hkp
    ·intro s hs g a w S hkp
     refine zg3 (wpIn_mono (ih r n h0 D a0 _ s g a w hD hR hs S hkp) ?_)
     rintro e a' w' ⟨g',σ',hK,S',hk'⟩
     cases e with
     | normal =>
      simp only[zCC,hk] at hK
      split at hK
      ·rename_i s2 hs2
       obtain⟨g2,S2⟩:=zca hs2 S'
       exact hK g2 a' w' S2 hk'
      ·exact hK.elim
     | exit id=>exact⟨g',σ',hK,S',hk'⟩
     | goto l=>exact⟨g',σ',hK,S',hk'⟩
     | ret=>exact⟨g',σ',hK,S',hk'⟩
     | panic ch=>exact⟨g',σ',hK,S',hk'⟩
     | outgrown=>exact⟨g',σ',hK,S',hk'⟩
   ·exact h.elim
  ·split at h
   ·rename_i m k hk
    have key:∀ (m:Nat) (σ:St) (g:Gh) (a:Act) (w:World),zNN P k (vc P Γ ann b) m K σ->Sim P ann.nt B w0 h0 g σ a w->Kp D a0 a->zrN (FR r) n P b (PostR P ann.nt B w0 h0 D a0 K) a w:=by
     intro m
     induction m with
     | zero=>intro σ g a w h;exact h.elim
     | succ m ihm =>
      intro σ g a w h S hkp
      simp only[zNN] at h
      split at h
      ·rename_i s hs
       obtain⟨g1,S1⟩:=zca hs S
       refine zg3 (wpIn_mono (ih r n h0 D a0 _ s g1 a w hD hR h S1 hkp) ?_)
       rintro e a' w' ⟨g',σ',hK,S',hk'⟩
       cases e with
       | normal=>exact ihm σ' g' a' w' hK S' hk'
       | exit id=>exact⟨g',σ',hK,S',hk'⟩
       | goto l=>exact⟨g',σ',hK,S',hk'⟩
       | ret=>exact⟨g',σ',hK,S',hk'⟩
       | panic ch=>exact⟨g',σ',hK,S',hk'⟩
       | outgrown=>exact⟨g',σ',hK,S',hk'⟩
      ·exact h.elim
    exact zg2 (key m σ g a w h S hkp)
   ·exact h.elim
 | exit id=>intro r n h0 D a0 K σ g a w _ _ h S hkp;exact wpIn_exit ⟨g,σ,h,S,hkp⟩
 | scope b ih =>
  intro r n h0 D a0 K σ g a w hD hR h S hkp
  refine zn2 (wpIn_mono (ih r n h0 D a0 _ σ g a w hD hR h S hkp) ?_)
  rintro e a' w' ⟨g',σ',hK,S',hk'⟩
  cases e with
  | goto l=>exact hK
  | normal=>exact⟨g',σ',hK,S',hk'⟩
  | exit l=>exact⟨g',σ',hK,S',hk'⟩
  | ret=>exact⟨g',σ',hK,S',hk'⟩
  | panic ch=>exact⟨g',σ',hK,S',hk'⟩
  | outgrown=>exact⟨g',σ',hK,S',hk'⟩
 | label l=>intro r n h0 D a0 K σ g a w _ _ h S hkp;exact wpIn_label ⟨g,σ,h,S,hkp⟩
 | ret=>intro r n h0 D a0 K σ g a w _ _ h S hkp;exact wpIn_ret ⟨g,σ,h,S,hkp⟩
 | rangeFunc f ps x y ihx ihy=>exact zrO hok ihx ihy
 | goto l=>intro r n h0 D a0 K σ g a w _ _ h S;exact h.elim
 | refuse s=>intro r n h0 D a0 K σ g a w _ _ h S;exact h.elim
end
end Go.Pm
namespace Go.Pm
variable [DrawZ]
open Go.RowKit (Below)

section
variable {P:Program}{Γ:Ctrs}

theorem zmJ : ∀ (args : List PA) (i t : Nat) (d : DV), lk (zhM i args) t = some d → ∃ x, args[t - i]? = some x ∧ i ≤ t ∧ d = .one (paD x)
  | [],i,t,d,h=>by simp[zhM,lk] at h
  | x :: r,i,t,d,h=>by
    simp only[zhM] at h
    rw[zay] at h
    split at h
    · rename_i e
      simp only[dqa] at h
      subst e
      exact⟨x,by simp,dqt _,h.symm⟩
    · rename_i e
      obtain⟨y,h1,h2,h3⟩:=zmJ r (i+1) t d h
      refine⟨y,?_,by omega,h3⟩
      rw[show t - i=(t - (i+1))+1 by omega,dqC];exact h1

def resV (tmps : Array Value) : ResultVar → Sem Value
  | .tmp t=>pure (tmps.getD t undef)
  | .cell b t=>do loadVar t (<- asAddr (tmps.getD b undef))

theorem zvC {w:World}(x:Addr):(asAddr (.pointer (some x))).run P w=.ok x w:=rfl

theorem zmK {nt B:Nat}{w0:World}{h0:Fz}{g:Gh}{σ:St}{a:Act}{w:World}(S:Sim P nt B w0 h0 g σ a w):∀ (rs:List ResultVar) (l:List PA),zpN P σ rs=some l ->
  ∃ (u:Upd) (vs:List Value),zei (lk σ.objs) u /\
   (rs.mapM (resV a.tmps)).run P w=.ok vs w /\
   ∀ (u':Upd) (h':Fz),(∀ y∈u,y∈u')->Frozen g (lk σ.objs) u' h'->RL (paR h') l vs
 | [],l,h=>by
  simp[zpN] at h;subst h
  exact⟨[],[],zei.nil _,rfl,λ _ _ _ _=>trivial⟩
 | .tmp t :: r,l,h=>by
  simp only[zpN] at h
  split at h
  ·rename_i d hd
   split at h
   ·rename_i x u1 l2 h1 h2
    simp only[dqa] at h;subst h
    obtain⟨u2,vs,hu2,hrun,hr⟩:=zmK S r l2 h2
    refine⟨u1 ++ u2,a.tmps.getD t undef :: vs,(zrj h1).append hu2,?_,λ u' h' hu F=>⟨F.repD h1 (λ y hy=>hu y (dqg.2 (.inl hy))) (S.env t d hd),hr u' h' (λ y hy=>hu y (dqg.2 (.inr hy))) F⟩⟩
    rw[List.mapM_cons]
    simp only[resV,dqd,dqe,dqb]
    rw[hrun];rfl
   ·cases h
  ·cases h
 | .cell t ty :: r,l,h=>by
  simp only[zpN] at h
  split at h
  ·rename_i L off ag m ht hg hs
   split at h
   ·rename_i ty' cells hL
    split at h
    ·rename_i d hd
     split at h
     ·rename_i x u1 l2 h1 h2
      simp only[dqa] at h;subst h
      obtain⟨u2,vs,hu2,hrun,hr⟩:=zmK S r l2 h2
      obtain⟨C,hC,hcr⟩:=S.obj L _ hL
      obtain⟨v,hload,hv⟩:=ztP (P:=P) hg hs hC 0 (λ j y hj=>by obtain⟨v,hv,hyv⟩:=hcr.get j y hj;exact⟨v,by simpa using hv,hyv⟩) hd
      have hp:a.tmps.getD t undef=.pointer (some ⟨g.bk L,off,none⟩):=S.env t _ ht
      rw[Nat.zero_add] at hload
      refine⟨u1 ++ u2,v :: vs,(zrj h1).append hu2,?_,λ u' h' hu F=>⟨F.repD h1 (λ y hy=>hu y (dqg.2 (.inl hy))) hv,hr u' h' (λ y hy=>hu y (dqg.2 (.inr hy))) F⟩⟩
      have h1:(resV a.tmps (.cell t ty)).run P w=.ok v w:=by
       simp only[resV,dqd,hp,zvC,dqb,hload]
      rw[List.mapM_cons]
      simp only[dqd,h1,dqb]
      rw[hrun];rfl
     ·cases h
    ·cases h
   ·cases h
  ·cases h

theorem zrP {nt B : Nat} {w0 : World} {h0 : Fz} {g : Gh} {σ : St} {a : Act} {w : World} (S : Sim P nt B w0 h0 g σ a w) {fn : Func} {l : List PA} (h : zpN P σ fn.results.toList = some l) :
  ∃ (u:Upd) (v:Value),zei (lk σ.objs) u/\(results fn a.tmps).run P w=.ok v w/\∀ (h':Fz),Frozen g (lk σ.objs) u h'->zvT h' l v:=by
 obtain⟨u,vs,hu,hrun,hr⟩:=zmK S fn.results.toList l h
 refine⟨u,if h:vs.toArray.size=1 then vs.toArray[0] else .tuple vs.toArray,hu,?_,λ h' F=>?_⟩
 ·have e : results fn a.tmps = (do let vs ← fn.results.mapM (resV a.tmps); pure (if h : vs.size = 1 then vs[0] else .tuple vs)) := rfl
  rw[e,Array.mapM_eq_mapM_toList]
  simp only[dqd,Sem.run_map]
  rw[hrun]
  simp only[dqb,dqe]
 ·have hrl := hr u h' (fun y hy => hy) F
  match l,vs,hrl with
  | [],[],_=>exact⟨[],rfl,trivial⟩
  | [x],[v],hrl=>exact hrl.1
  | x :: y :: l,v :: v2 :: vs,hrl =>
   refine⟨v :: v2 :: vs,?_,hrl⟩
   rw[dif_neg (by simp)]
  | [],_ :: _,hrl=>exact hrl.elim
  | [_],[],hrl=>exact hrl.elim
  | [_],_ :: _ :: _,hrl=>exact hrl.2.elim
  | _ :: _ :: _,[],hrl=>exact hrl.elim
  | _ :: _ :: _,[_],hrl=>exact hrl.2.elim

theorem Sim.unmark {nt B : Nat} {w0 : World} {h0 : Fz} {g : Gh} {σ : St} {a : Act} {w : World} (S : Sim P nt B w0 h0 g σ a w) {D : Nat} {Ds : List (Nat ⊕ Deferred)}
    (hnd:(lefts (.inl D :: Ds)).Nodup) (hm:∀ E,Sum.inl E∈.inl D :: Ds->B<=E/\g.h E=some (.fz (.deferred (some [])))) (hi:∀ d,Sum.inr d∈Ds->zCH P d) (h0b:∀ b,h0 b=some (.fz (.deferred (some [])))->b < B) {ds:List Deferred} (hds:ds=Ds.map deD) :
    w.heap[D]? = some (.deferred (some []))/\Sim P nt B w0 h0 (g.re (g.h.del D)) σ { a with defers:=ds } (w.putObj D (.deferred none)):=by
  obtain⟨hB,hb⟩:=hm D dqj
  have hnot:=(List.nodup_cons.1 hnd).1
  have hl:zEs g.h (g.h.del D):=λ k x hk hx=>by
    rw[Fz.del_other];exact hk
    intro e;subst e;rw[hb] at hk;simp only[dqa] at hk;subst hk
    rcases hx with ⟨C,ty,fr,hx⟩ | ⟨F,hx⟩ | ⟨es,c,hx⟩ <;> cases hx
  have hno:∀ L x,lk σ.objs L=some x->¬ obk g L x D:=λ L x hL hk=>by have:=(S.own L x D hL hk).2;rw[hb] at this;cases this
  refine⟨S.hw.fz hb,?_⟩
  have S1:Sim P nt B w0 h0 (g.re (g.h.del D)) σ { a with defers:=ds } w:=by
    refine⟨⟨Ds,(List.nodup_cons.1 hnd).2,hds,λ E hE=>⟨(hm E (dqf _ hE)).1,?_⟩,hi⟩,S.size,λ t d ht=>zxj hl (S.env t d ht),λ L x hL=>zxk hl (S.obj L x hL),λ L x k hL hk=>?_,S.sep,?_,?_,?_,S.below,S.bs,S.clE,S.clO,S.gl⟩
    · show g.h.del D E = _
      rw[Fz.del_other (λ e=>hnot (by rw[<- e];exact zjQ hE))];exact (hm E (dqf _ hE)).2
    · obtain ⟨h1, h2⟩ := S.own L x k hL hk
      refine⟨h1,?_⟩
      show g.h.del D k=none
      unfold Fz.del
      split
      · rfl
      · exact h2
    · intro k x hk
      have hk:g.h.del D k=some x:=hk
      unfold Fz.del at hk
      split at hk
      · cases hk
      · exact S.hw k x hk
    · intro k x hk
      show g.h.del D k=some x
      rw[Fz.del_other (λ e=>by
        subst e
        have h1:=S.le0 _ _ hk
        rw[hb] at h1;simp only[dqa] at h1;rw[<- h1] at hk
        have:=h0b _ hk;omega)];exact S.le0 k x hk
    · intro k x hk
      have hk:g.h.del D k=some x:=hk
      unfold Fz.del at hk
      split at hk
      · cases hk
      · exact S.hn k x hk
  exact S1.putObj _ Fz.del_same hB hno

theorem zrQ {nt B : Nat} {w0 : World} {h0 : Fz} {σ : St} {fn : Func} {R : Ending → World → Prop} {n : Nat} (h0b : ∀ b, h0 b = some (.fz (.deferred (some []))) → b < B) :
  ∀ (Ds:List (Nat ⊕ Deferred)) (g:Gh) (a:Act) (w:World),(lefts Ds).Nodup->a.defers=Ds.map deD->(∀ D,Sum.inl D∈Ds->B<=D/\g.h D=some (.fz (.deferred (some []))))->(∀ d,Sum.inr d∈Ds->zCH P d)->Sim P nt B w0 h0 g σ a w ->
   (∀ g' a' w',a'.tmps=a.tmps->Sim P nt B w0 h0 g' σ a' w'->∃ v,(results fn a'.tmps).run P w'=.ok v w'/\R (.returned v) w')->LeavesInM (FR none) n P fn a.tmps R a.defers .returning w
 | [],g,a,w,_,ha,_,_,S,hR=>by
  rw[ha]
  exact hR g a w rfl S
 | .inl D :: Ds,g,a,w,hnd,ha,hm,hi,S,hR=>by
  obtain⟨h1,S1⟩:=S.unmark hnd hm (λ d hd=>hi d (dqf _ hd)) h0b rfl
  rw[ha,dqK]
  refine⟨by simp,.inl ⟨D,_,rfl,run_takeDeferred h1,?_⟩⟩
  have hnot:=(List.nodup_cons.1 hnd).1
  exact zrQ h0b Ds _ { a with defers:=Ds.map deD } _ (List.nodup_cons.1 hnd).2 rfl (λ E hE=>⟨(hm E (dqf _ hE)).1,by
   show g.h.del D E=_
   rw[Fz.del_other (λ e=>hnot (by rw[<- e];exact zjQ hE))];exact (hm E (dqf _ hE)).2⟩) (λ d hd=>hi d (dqf _ hd)) S1 (λ g' a' w' ht=>hR g' a' w' ht)
 | .inr d :: Ds,g,a,w,hnd,ha,hm,hi,S,hR=>by
  obtain⟨fv,cap,f,args,h1,h2,h3⟩:=hi d dqj
  rw[ha,dqK]
  refine⟨by simp,.inr ⟨(λ h=>by cases h),fv,cap,f,args,h1,h2 w,(λ _ _=>trivial),?_⟩⟩
  obtain⟨c1,c2⟩:=h3 (n - 1) w
  refine⟨c1,λ c cs hc hr=>?_⟩
  obtain⟨e,u',w',fr,hR',rest⟩:=c2 c cs hc hr
  refine⟨e,u',w',fr,?_,rest⟩
  obtain⟨⟨v,rfl⟩,rfl,rfl⟩:=hR'
  have hm':∀ D,Sum.inl D∈Ds->B<=D/\g.h D=some (.fz (.deferred (some []))):=λ D hD=>hm D (dqf _ hD)
  have hi':∀ d,Sum.inr d∈Ds->zCH P d:=λ d hd=>hi d (dqf _ hd)
  exact zrQ h0b Ds g { a with defers:=Ds.map deD } _ hnd rfl hm' hi' (S.act ⟨Ds,hnd,rfl,hm',hi'⟩ S.size S.env) (λ g' a' w' ht=>hR g' a' w' ht)

theorem zqw {nt : Nat} {args : List PA} {w : World} {h0 : Fz} {vs : List Value} {m : Nat} (hnt : nt = m) (hlen : args.length ≤ nt) (hvs : RL (paR h0) args vs) (hfz : Hw h0 w) (hgl : zhu h0) :
  Sim P nt w.heap.size w h0 ⟨h0,λ _=>0,λ _=>undef,λ _ _=>undef⟩ ⟨zhM 0 args,[],[]⟩ { tmps:=vs.toArray ++ Array.replicate (m - vs.toArray.size) undef,defers:=[] } w:=by
 have hl:=hvs.length
 refine⟨Marks.nil _ _,by simp;omega,?_,λ L o ho=>by simp[lk] at ho,λ L o b ho=>by simp[lk] at ho,λ L o b L' o' ho=>by simp[lk] at ho,hfz,λ _ _ h=>h,λ b o h=>.inl h,Bel.refl _ _ _,dqt _,?_,λ L o ho=>by simp[lk] at ho,hgl⟩
 ·intro t d ht
  obtain⟨x,hx,_,rfl⟩:=zmJ args 0 t d ht
  obtain⟨v,hv,hxv⟩:=hvs.get t x (by simpa using hx)
  have hlt:=(dqn.1 hv).1
  have:(vs.toArray ++ Array.replicate (m - vs.toArray.size) undef).getD t undef=v:=by
   rw[dql,Array.getElem?_append_left (by simpa using hlt)]
   simp[hv]
  rw[this]
  exact zCY (g:=⟨h0,λ _=>0,λ _=>undef,λ _ _=>undef⟩) hxv
 ·intro t d ht L hL
  obtain⟨x,hx,_,rfl⟩:=zmJ args 0 t d ht
  rw[show zbf (.one (paD x))=zbN (paD x) from rfl,zoQ] at hL;simp at hL

theorem zqx {G : Ctrs} (hok : OkAll P G) {f : FuncId} {ann : Ann} {args : List PA} {Kx : Func → Exit → St → Prop} {w : World} {h0 : Fz} {vs : List Value} {R : Ending → World → Prop} {fn : Func} {c : Code}
    (hfn:P.funcs[f]? = some fn) (hbody:fn.body=some c) (hnt:ann.nt=fn.ntmps) (hlen:args.length<=ann.nt) (hv:vc P G ann c (Kx fn) ⟨zhM 0 args,[],[]⟩) (hvs:RL (paR h0) args vs) (hfz:Hw h0 w) (hgl:zhu h0)
    (hend:∀ e σ g a w',Kx fn e σ->Sim P ann.nt w.heap.size w h0 g σ a w'->(e=.normal\/e=.ret)/\∃ v,(results fn a.tmps).run P w'=.ok v w'/\R (.returned v) w'):Calls P f vs.toArray w R:=by
  have S:=zqw (P:=P) hnt hlen hvs hfz hgl
  have hwp:=zKN (B:=w.heap.size) (w0:=w) hok ann c none 0 h0 (znl c) _ (Kx fn) _ _ _ _ (λ _ h=>h) (Rnd.none h0) hv S (Kp.refl _ _)
  refine (callsIn_wide (n:=0)).1 ?_
  refine callsIn_of_wp_marks (F:=FR none) hfn hbody trivial (wpIn_mono hwp ?_)
  have h0b:∀ b,h0 b=some (.fz (.deferred (some [])))->b < w.heap.size:=λ b h=>hfz.lt h
  rintro e a' w' ⟨g',σ',hK',S',_⟩
  have fin:LeavesInM (FR none) 0 P fn a'.tmps R a'.defers .returning w':=by
    obtain⟨Ds,h1,h2,h3,h4⟩:=S'.dfr
    exact zrQ h0b Ds g' a' w' h1 h2 h3 h4 S' λ g2 a2 w2 _ S2=>(hend e σ' g2 a2 w2 hK' S2).2
  rcases (hend e σ' g' a' w' hK' S').1 with rfl | rfl
  · exact fin
  · exact fin

theorem zxo {G : Ctrs} (hok : OkAll P G) {f : FuncId} {args : List PA} {K : List PA → Prop} {ann : Ann} (hv : vcFun P G ann f args K) {w : World} {h0 : Fz} {vs : List Value} (hvs : RL (paR h0) args vs) (hfz : Hw h0 w) (hgl : zhu h0) :
  Calls P f vs.toArray w λ e w'=>∃ (h':Fz) (rs:List PA) (v:Value),K rs/\e=.returned v/\zvT h' rs v/\Bel h0 w.heap.size w w' /\
   Fle h0 h'/\Hw h' w'/\∀ b o,h' b=some o->h0 b=some o\/w.heap.size<=b:=by
 unfold vcFun at hv
 split at hv
 ·rename_i fn hfn
  split at hv
  ·rename_i c hbody
   split at hv
   ·rename_i hnt
    simp only[dqm,Nat.ble_eq] at hnt
    refine zqx (G:=G) hok (Kx:=λ fn=>zpO P fn K) hfn hbody (dqc hnt.1) hnt.2 hv hvs hfz hgl ?_
    intro e σ' g' a' w' hK' S'
    have fin:zNO P fn K σ'->∃ v,(results fn a'.tmps).run P w'=.ok v w' /\
      (∃ (h':Fz) (rs:List PA) (v_1:Value),K rs/\Ending.returned v=.returned v_1/\zvT h' rs v_1/\Bel h0 w.heap.size w w'/\Fle h0 h'/\Hw h' w'/\∀ b o,h' b=some o->h0 b=some o\/w.heap.size<=b):=by
     intro hf
     unfold zNO at hf
     split at hf
     ·rename_i l hl
      obtain⟨u,v,hu,hrun,hres⟩:=zrP S' hl
      obtain⟨h',S2,F⟩:=S'.freeze hu
      exact⟨v,hrun,h',l,v,hf,rfl,hres h' F,S2.below,S2.le0,S2.hw,S2.hn⟩
     ·exact hf.elim
    cases e with
    | normal=>exact⟨.inl rfl,fin hK'⟩
    | ret=>exact⟨.inr rfl,fin hK'⟩
    | exit id=>exact hK'.elim
    | goto l=>exact hK'.elim
    | panic ch=>exact hK'.elim
    | outgrown=>exact hK'.elim
   ·exact hv.elim
  ·exact hv.elim
 ·exact hv.elim
theorem zDl {G : Ctrs} (hok : OkAll P G) {f : FuncId} {C : List PA → COut} (hc : zal P f)
    (h:∀ args K,(C args).wp K->∃ memo vv ann,vcFun P { G with memo:=memo,vv:=vv } ann f args K):Ok P f C:=by
  intro args K hK w h0 vs hvs hfz hgl
  obtain⟨memo,vv,ann,hv⟩:=h args K hK
  exact⟨hc,zxo (G:={ G with memo:=memo,vv:=vv }) ⟨hok.mt,hok.fn,hok.own,hok.it,hok.cmp⟩ hv hvs hfz hgl⟩
end
end Go.Pm
namespace Go.Pm
variable [DrawZ]
open Go.RowKit (Below)

section
variable {P:Program}{Γ:Ctrs}{nt:Nat}{n:Nat}

theorem zDm {o : Oper} {a : Act} {w w' : World} {R : Act → World → Prop} {Q : Exit → Act → World → Prop} (hnd : ∀ c, o.op ≠ .defer c) {l f : Nat} {tmps : Array Value} {x y : Code} (h : (execOp a.eval o).run P w = .ok (.round l f tmps x y) w')
    (hR:RoundIn Fence.wide (n - 1) P l f tmps x y w' λ e w''=>∃ v,e=.returned v/\R (a.put o.dst v) w''):o.wpIn (FR none) n P a w R Q:=by
  refine⟨λ _ _=>trivial,?_⟩
  rw[Oper.semAt_eq _ _ _ hnd,h,Oper.uponIn_round]
  refine⟨λ h=>by simp[FR] at h,?_⟩
  have hR':RoundIn (FR none) (n - 1) P l f tmps x y w' λ e w''=>∃ v,e=.returned v/\R (a.put o.dst v) w'':=hR
  refine hR'.mono ?_
  rintro e w'' ⟨v,rfl,hv⟩
  exact hv

theorem zrR {h : Fz} {g : Gh} (hg : g.h = h) : ∀ {ds : List DV} {l : List PA} {vs : List Value}, ziz ds = some l → RL (dvR g) ds vs → RL (paR h) l vs
  | [],l,vs,h,hr=>by
    simp only[ziz,dqa] at h;subst h
    cases vs with
    | nil=>trivial
    | cons=>exact hr.elim
  | d :: ds,l,[],h,hr=>hr.elim
  | .one (.c (.p p)) :: ds,l,v :: vs,h,hr=>by
    simp only[ziz] at h
    split at h
    · rename_i l' hl'
      simp only[dqa] at h;subst h
      refine⟨?_,zrR hg hl' hr.2⟩
      have:=hr.1
      rw[<- hg]
      exact this
    · cases h
  | .one (.agg cs) :: ds,l,v :: vs,h,hr=>by
    simp only[ziz] at h
    split at h
    · rename_i l' m' hc hm'
      simp only[dqa] at h;subst h
      refine⟨?_,zrR hg hm' hr.2⟩
      obtain⟨us,rfl,hus⟩:=hr.1
      rw[zeM hc] at hus
      have:=RL.map_left.1 hus
      exact⟨us,rfl,by rw[<- hg];exact this⟩
    · cases h
  | .one (.c (.ptr _ _)) :: ds,l,v :: vs,h,hr=>by simp[ziz] at h
  | .one (.c (.vptr _ _ _ _)) :: ds,l,v :: vs,h,hr=>by simp[ziz] at h
  | .one (.c (.vec _)) :: ds,l,v :: vs,h,hr=>by simp[ziz] at h
  | .one (.c (.ivec _ _)) :: ds,l,v :: vs,h,hr=>by simp[ziz] at h
  | .one (.c (.iptr _ _ _ _ _)) :: ds,l,v :: vs,h,hr=>by simp[ziz] at h
  | .one (.c .undef) :: ds,l,v :: vs,h,hr=>by simp[ziz] at h
  | .one (.c .junk) :: ds,l,v :: vs,h,hr=>by simp[ziz] at h
  | .one (.c (.dead _)) :: ds,l,v :: vs,h,hr=>by simp[ziz] at h
  | .tup _ :: ds,l,v :: vs,h,hr=>by simp[ziz] at h

variable (J Jx:List (List PA)->Fz->World->Prop)

def JQ (q:Bool) (ys:List (List PA)) (h:Fz) (w:World):Prop :=
 match q with
 | false=>J ys h w
 | true=>∃ rest,Jx rest h w

def zDn (P:Program) (nt:Nat) (hs:Fz) (K:YK):Exit->Act->World->Prop :=
 λ e a' w'=>∃ ys q σ w0 h0 g,K e ys q σ/\Sim P nt w0.heap.size w0 h0 g σ a' w'/\Fle hs h0/\JQ J Jx q ys h0 w0/\a'.defers=[]

variable {J Jx}
theorem JQ.later {q:Bool}{ys:List (List PA)}{h0:Fz}{w0:World}{g:Gh}{σ:St}{a:Act}{w:World}(hJ:JSt J) (hJx:JSt Jx) (h:JQ J Jx q ys h0 w0) (S:Sim P nt w0.heap.size w0 h0 g σ a w):JQ J Jx q ys g.h w:=by
 cases q with
 | false=>exact hJ _ _ _ _ _ h S.le0 S.hw S.hn S.below
 | true=>obtain⟨rest,h⟩:=h;exact⟨rest,hJx _ _ _ _ _ h S.le0 S.hw S.hn S.below⟩

def YH (P:Program) (J Jx:List (List PA)->Fz->World->Prop) (l:Nat):Prop :=
 ∀ y rest h W us,J (y :: rest) h W->RL (paR h) y us->Hw h W->∀ n,∃ fn tmps assign body,(Instr.yield l us.toArray).run P W=.ok (.round l fn tmps assign body) W /\
   RoundIn Fence.wide n P l fn tmps assign body W λ e W'=>∃ h',Fle h h'/\Hw h' W'/\((e=.returned (.bool true)/\J rest h' W')\/(e=.returned (.bool false)/\Jx rest h' W'))

theorem zgs {kl : List Nat} {l : List (Nat × DV)} : ∀ {ks : List Nat} {t : Nat} {d : DV}, lk (ziI kl l ks) t = some d → lk l t = some d ∧ ∀ L ∈ zbf d, L ∈ kl
  | [],t,d,h=>by simp[ziI,lk] at h
  | k :: ks,t,d,h=>by
    simp only[ziI] at h
    split at h
    · rename_i d' hd'
      split at h
      · rename_i hl
        rw[zay] at h
        split at h
        · rename_i e
          simp only[dqa] at h;subst h;subst e
          refine⟨hd',λ L hL=>?_⟩
          have:=List.all_eq_true.1 hl L hL
          simpa using this
        · exact zgs h
      · exact zgs h
    · exact zgs h

theorem zo6 {ob : Nat → Option AO} : ∀ {ks : List Nat} {x : Nat × AO}, x ∈ zvb ob ks → ∃ l, ob x.1 = some (.fbox l) ∧ x.2 = .fbox l
  | [],x,h=>by simp[zvb] at h
  | k :: ks,x,h=>by
    simp only[zvb] at h
    split at h
    · rename_i l hk
      rcases dqq.1 h with rfl | h
      · exact⟨l,hk,rfl⟩
      · exact zo6 h
    · exact zo6 h
theorem zlQ {σ:St}{L:Nat}{o:AO}(h:lk (zCF σ) L=some o):∃ l,o=.fbox l/\lk (zu9 (lk σ.objs) (σ.objs.map (·.1)) ++ σ.objs) L=some (.fbox l):=by
 unfold zCF at h
 rw[zdm] at h ⊢
 cases hb:lk (zu9 (lk σ.objs) (σ.objs.map (·.1))) L with
 | some x =>
  rw[hb] at h
  simp only[dqa] at h
  subst h
  obtain⟨ty,cells,l,_,h2,_⟩:=zmr (zcP hb)
  have h2:x=.fbox l:=h2
  subst h2
  exact⟨l,rfl,rfl⟩
 | none =>
  rw[hb] at h
  simp only at h
  obtain⟨l,h1,h2⟩:=zo6 (zcP h)
  exact⟨l,h2,h1⟩
theorem ziD {α : Type} : ∀ {l : List (Nat × α)} {L : Nat}, L ∈ l.map (·.1) → ∃ o, lk l L = some o
  | [],L,h=>by simp at h
  | (k,a) :: r,L,h=>by
    rw[zay]
    split
    · exact⟨a,rfl⟩
    · rename_i hne
      simp only[dqK,dqq] at h
      rcases h with rfl | h
      · exact absurd rfl hne
      · exact ziD h

theorem zDo {σ : St} {o : Oper} {args : Array Operand} {t l : Nat} (h : zOb σ o = some (args, t, l)) :
  ∃ f ts,o.op=.call { callee:=.value f,args,argTypes:=ts }/\o.dst=some t/\evO σ.env f=.one (.c (.p (.yl l))):=by
 unfold zOb at h
 split at h
 ·rename_i f az ts t' hop hd
  split at h
  ·rename_i l hl
   simp only[dqa,dqh] at h
   obtain⟨rfl,rfl,rfl⟩:=h
   exact⟨f,ts,hop,hd,hl⟩
  ·cases h
 ·cases h

theorem zqy (hok : OkAll P Γ) {l : Nat} (hJ : JSt J) (hJx : JSt Jx) (hY : YH P J Jx l) {hs : Fz} {ops : Array Oper} {K : List (List PA) → Bool → St → Prop} {Q : Exit → Act → World → Prop}
    (hQ:∀ ys q σ w0 h0 g a w,K ys q σ->Sim P nt w0.heap.size w0 h0 g σ a w->Fle hs h0->JQ J Jx q ys h0 w0->a.defers=[]->Q .normal a w) :
    ∀ (lo:List Oper) (i:Nat) (ys:List (List PA)) (q:Bool) (σ:St) (w0:World) (h0:Fz) (g:Gh) (a:Act) (w:World),(∀ j,lo[j]? = ops[i+j]?)->zhm P Γ nt l ops lo K ys q σ ->
      Sim P nt w0.heap.size w0 h0 g σ a w->Fle hs h0->JQ J Jx q ys h0 w0->a.defers=[]->wpOpsIn (FR none) n P ops Q (List.range' i lo.length) a w:=by
  intro lo
  induction lo with
  | nil=>intro i ys q σ w0 h0 g a w _ h S hle hj hd;exact hQ ys q σ w0 h0 g a w h S hle hj hd
  | cons o lo ih =>
    intro i ys q σ w0 h0 g a w hl h S hle hj hdf
    have ho:ops[i]? = some o:=by have:=hl 0;simpa using this.symm
    have hl':∀ j,lo[j]? = ops[i+1+j]?:=λ j=>by have:=hl (j+1);rw[dqC] at this;rw[this];congr 1;omega
    simp only[dqr,List.range'_succ,wpOpsIn,ho]
    have run:∀ (σ:St),Sim P nt w0.heap.size w0 h0 g σ a w->zl6 P Γ nt l o (zhm P Γ nt l ops lo K) ys q σ->o.wpIn (FR none) n P a w (wpOpsIn (FR none) n P ops Q (List.range' (i+1) lo.length)) Q:=by
      clear h S
      intro σ S h
      unfold zl6 at h
      split at h
      · rename_i args t l1 hyl
        obtain⟨f,ts,hop,hdst,hf⟩:=zDo hyl
        split at h
        · rename_i y hy ht
          obtain⟨rfl,rest,rfl,htr,hfa⟩:=h
          have hfn:=zcK S hf
          generalize hfv:a.eval f=fvv at hfn
          cases hfn with
          | yl _ =>
            obtain⟨h1,S1,_⟩:=S.freeze (zt1 (ob:=lk σ.objs) (ks:=σ.objs.map (·.1)))
            have hJn:J (y :: rest) h1 w:=hj.later hJ hJx S1
            have hus:RL (paR h1) y (args.toList.map a.eval):=zrR (g:=⟨h1,g.bk,g.sv,g.iv⟩) rfl hy (zvm S1 args.toList)
            obtain⟨fn,tmps,x,c,hrun,hround⟩:=hY y rest h1 w _ hJn hus S1.hw (n - 1)
            refine zDm (by simp[hop]) (l:=l1) (f:=fn) (tmps:=tmps) (x:=x) (y:=c) (w':=w) ?_ (hround.mono ?_)
            · simp only [execOp, hop, resolve, hfv, Deferred.ofValue, dqd, dqe, dqb, invoke]
              rw[show (#[] ++ Array.map a.eval args)=(args.toList.map a.eval).toArray by cases args;simp]
              exact hrun
            · have hto : zck nt (some t) = true := ht
              have next:∀ (b:Bool) (h':Fz) (W':World),Fle h1 h'->Hw h' W'->JQ J Jx (!b) rest h' W'->zhm P Γ nt l1 ops lo K rest (!b) ((zow σ).setT t (.bool b)) ->
                  wpOpsIn (FR none) n P ops Q (List.range' (i+1) lo.length) (a.put o.dst (.bool b)) W':=by
                intro b h' W' hle' hw' hj' hv'
                have S0:Sim P nt W'.heap.size W' h' ⟨h',g.bk,g.sv,g.iv⟩ (zow σ) a W':=by
                  refine⟨by rw[hdf];exact Marks.nil _ _,S.size,?_,λ L o ho=>?_,λ L o b ho hob=>?_,λ L o b L' o' ho ho' hob hob'=>?_,hw',λ _ _ h=>h,λ b o h=>.inl h,Bel.refl _ _ _,dqt _,?_,λ L o ho M hM=>?_,(S1.gl.mono S1.le0).mono hle'⟩
                  · intro u d hu
                    obtain⟨h2,_⟩:=zgs hu
                    exact ztJ (g:=⟨h1,g.bk,g.sv,g.iv⟩) (g':=⟨h',g.bk,g.sv,g.iv⟩) (λ L hL=>⟨rfl,rfl,rfl⟩) hle' (S1.env u d h2)
                  · obtain ⟨l, rfl, h2⟩ := zlQ ho
                    obtain⟨C,ty,fr,hC,hr⟩:=S1.obj L _ h2
                    exact⟨C,ty,fr,hle' _ _ hC,hr.mono λ _ _=>Rep.mono hle'⟩
                  · obtain⟨l,rfl,_⟩:=zlQ ho;exact hob.elim
                  · obtain⟨l,rfl,_⟩:=zlQ ho;exact hob.elim
                  · intro u d hu L hL
                    exact ziD ((zgs hu).2 L hL)
                  · obtain⟨l,rfl,_⟩:=zlQ ho;simp[zb8] at hM
                have S2:=S0.put (dst:=some t) (d:=.bool b) (v:=.bool b) hto (.bool b) (zd1 _) []
                rw[hdst]
                exact ih (i+1) rest (!b) _ W' h' _ _ W' hl' hv' S2 (λ b o hb=>hle' b o (S1.le0 b o (hle b o hb))) hj' ((put_defers _ _ _).trans hdf)
              rintro e W' ⟨h',hle',hw',(⟨rfl,hj'⟩ | ⟨rfl,hj'⟩)⟩
              · exact⟨_,rfl,next true h' W' hle' hw' hj' htr⟩
              · exact⟨_,rfl,next false h' W' hle' hw' ⟨rest,hj'⟩ hfa⟩
        · exact h.elim
      · split at h
        · rename_i hd
          obtain⟨hs',hk⟩:=zma.1 h
          refine zms (zmm (i:=0) (Q:=Q) (r:=none) (n:=n) hok S hd rfl hs') ?_
          rintro a' w' ⟨hdf',g',σ',hst,S'⟩
          exact ih (i+1) ys q _ w0 h0 g' a' w' hl' (hk σ' hst) (S'.log _) hle hj (hdf'.trans hdf)
        · exact h.elim
    have skp:∀ (σ:St),zck nt o.dst=true->Sim P nt w0.heap.size w0 h0 g σ a w->zhm P Γ nt l ops lo K ys q (σ.skip o.dst)->wpOpsIn (FR none) n P ops Q (List.range' (i+1) lo.length) (a.put o.dst undef) w:=by
      intro σ hd S h
      exact ih (i+1) ys q _ w0 h0 g _ w hl' h (S.skip hd) hle hj ((put_defers _ _ _).trans hdf)
    simp only[zhm] at h
    split at h
    · rename_i hg
      rw[if_pos (by simp[Region.wanted,hg])]
      exact run σ S h
    · rename_i j want hg
      split at h
      · rename_i gt hd hgt
        split at h
        · rename_i b hb
          have hv:a.tmps.getD gt undef=.bool b:=by
            have:=S.env gt _ hb
            generalize a.tmps.getD gt undef=v at this
            cases this;rfl
          have hy:=zhT hgt hv
          have S1:∀ c,b=c->Sim P nt w0.heap.size w0 h0 g (σ.setT gt (.bool c)) a w:=by
            intro c hc
            refine S.env' (t:=gt) (d:=.bool c) ?_ (zd1 _)
            rw[hv,hc];exact .bool c
          have h2:=zhK.1 h
          cases b with
          | true =>
            have h3:=h2.1 rfl
            cases want with
            | true=>rw[if_pos (by simp[Region.wanted,hg,hy])];exact run _ (S1 true rfl) h3
            | false=>rw[if_neg (by simp[Region.wanted,hg,hy])];exact⟨λ _ _=>trivial,skp _ hd (S1 true rfl) h3⟩
          | false =>
            have h3:=h2.2 rfl
            cases want with
            | true=>rw[if_neg (by simp[Region.wanted,hg,hy])];exact⟨λ _ _=>trivial,skp _ hd (S1 false rfl) h3⟩
            | false=>rw[if_pos (by simp[Region.wanted,hg,hy])];exact run _ (S1 false rfl) h3
        · rename_i hb
          have hv:a.tmps.getD gt undef=undef:=S.env gt _ hb
          have hy:=zgZ hgt hv
          rw[if_neg (by simp[Region.wanted,hg,hy])]
          exact⟨λ _ _=>trivial,skp _ hd S h⟩
        · exact h.elim
      · exact h.elim

theorem zxp (hok:OkAll P Γ) (ann:Ann){l:Nat}(hJ:JSt J) (hJx:JSt Jx) (hY:YH P J Jx l){hs:Fz} : ∀ (c:Code) (K:YK) (ys:List (List PA)) (q:Bool) (σ:St) (w0:World) (h0:Fz) (g:Gh) (a:Act) (w:World),
  vcY P Γ ann l c K ys q σ->Sim P ann.nt w0.heap.size w0 h0 g σ a w->Fle hs h0->JQ J Jx q ys h0 w0->a.defers=[]->c.wpIn (FR none) n P (zDn J Jx P ann.nt hs K) a w:=by
 intro c
 induction c with
 | skip=>intro K ys q σ w0 h0 g a w h S hle hj hd;exact wpIn_skip ⟨ys,q,σ,w0,h0,g,h,S,hle,hj,hd⟩
 | region id ops draw =>
  intro K ys q σ w0 h0 g a w h S hle hj hd
  simp only[vcY] at h
  split at h
  ·-- a region that yields
   refine wpIn_region ?_
   have:=zqy (n:=n) hok hJ hJx hY (hs:=hs) (ops:=ops) (Q:=zDn J Jx P ann.nt hs K) (λ ys q σ w0 h0 g a w h S hle hj hd=>?_) ops.toList 0 ys q _ w0 h0 g a w (λ j=>by simp) h (S.log _) hle hj hd
   ·rw [List.range_eq_range']
    simpa using this
   ·split at h
    ·split at h
     ·rename_i s hs'
      obtain⟨g2,S2⟩:=zca hs' S
      exact⟨ys,q,s,w0,h0,g2,h,S2,hle,hj,hd⟩
     ·exact h.elim
    ·exact⟨ys,q,_,w0,h0,g,h,S.log _,hle,hj,hd⟩
  ·exact h.elim
  ·exact zqv (r:=none) (n:=n) hok ann (D:=zCu ops.toList) (a0:=a) (λ _ h=>h) h S (Kp.refl _ _) λ g' σ' a' w' hK S' _ hdf=>⟨ys,q,σ',w0,h0,g',hK,S',hle,hj,hdf.trans hd⟩
 | seq x y ihx ihy =>
  intro K ys q σ w0 h0 g a w h S hle hj hd
  refine wpIn_seq (wpIn_mono (ihx _ ys q σ w0 h0 g a w h S hle hj hd) ?_)
  rintro e a' w' ⟨ys',q',σ',w1,h1,g',hK,S',hle',hj',hd'⟩
  cases e with
  | normal =>
   simp only[zQg,zQh] at hK
   split at hK
   ·split at hK
    ·rename_i s hs
     obtain⟨g2,S2⟩:=zca hs S'
     exact ihy K ys' q' s w1 h1 g2 a' w' hK S2 hle' hj' hd'
    ·exact hK.elim
   ·exact ihy K ys' q' σ' w1 h1 g' a' w' hK S' hle' hj' hd'
  | exit id=>exact⟨ys',q',σ',w1,h1,g',hK,S',hle',hj',hd'⟩
  | goto l=>exact⟨ys',q',σ',w1,h1,g',hK,S',hle',hj',hd'⟩
  | ret=>exact⟨ys',q',σ',w1,h1,g',hK,S',hle',hj',hd'⟩
  | panic ch=>exact⟨ys',q',σ',w1,h1,g',hK,S',hle',hj',hd'⟩
  | outgrown=>exact⟨ys',q',σ',w1,h1,g',hK,S',hle',hj',hd'⟩
 | cond c x y ihx ihy =>
  intro K ys q σ w0 h0 g a w h S hle hj hd
  simp only[vcY] at h
  split at h
  ·rename_i t ht
   have hv:=zis S ht
   have hS:∀ b,t=b->Sim P ann.nt w0.heap.size w0 h0 g (zva σ c b) a w:=by
    intro b hb
    cases c with
    | tmp q =>
     refine S.env' (t:=q) (d:=.bool b) ?_ (zd1 _)
     have:a.tmps.getD q undef=.bool t:=hv
     rw[this,hb];exact .bool b
    | _=>exact S
   have h2:=zhK.1 h
   refine wpIn_cond hv ?_
   cases t with
   | true=>exact ihx K ys q _ w0 h0 g a w (h2.1 rfl) (hS true rfl) hle hj hd
   | false=>exact ihy K ys q _ w0 h0 g a w (h2.2 rfl) (hS false rfl) hle hj hd
  ·exact h.elim
 | block id b ih =>
  intro K ys q σ w0 h0 g a w h S hle hj hd
  refine wpIn_block (wpIn_mono (ih _ ys q σ w0 h0 g a w h S hle hj hd) ?_)
  rintro e a' w' ⟨ys',q',σ',w1,h1,g',hK,S',hle',hj',hd'⟩
  cases e with
  | exit j =>
   simp only[zlb] at hK
   simp only[Exit.inBlock]
   split at hK
   ·rename_i hj;rw[if_pos (dqc hj)];exact⟨ys',q',σ',w1,h1,g',hK,S',hle',hj',hd'⟩
   ·rename_i hj;rw[if_neg (Nat.ne_of_beq_eq_false hj)];exact⟨ys',q',σ',w1,h1,g',hK,S',hle',hj',hd'⟩
  | normal=>exact⟨ys',q',σ',w1,h1,g',hK,S',hle',hj',hd'⟩
  | goto l=>exact⟨ys',q',σ',w1,h1,g',hK,S',hle',hj',hd'⟩
  | ret=>exact⟨ys',q',σ',w1,h1,g',hK,S',hle',hj',hd'⟩
  | panic ch=>exact⟨ys',q',σ',w1,h1,g',hK,S',hle',hj',hd'⟩
  | outgrown=>exact⟨ys',q',σ',w1,h1,g',hK,S',hle',hj',hd'⟩
 | loop b ih =>
  intro K ys q σ w0 h0 g a w h S hle hj hd
  simp only[vcY] at h
  split at h
  ·rename_i k hk
   split at h
   ·rename_i s hs'
    obtain⟨g1,S1⟩:=zca hs' S
    refine zg2 ?_
    have key:=h (λ ys q s=>∀ w0 h0 g a w,Sim P ann.nt w0.heap.size w0 h0 g s a w->Fle hs h0->JQ J Jx q ys h0 w0->a.defers=[]->zrN (FR none) n P b (zDn J Jx P ann.nt hs K) a w) ?_
    ·exact key w0 h0 g1 a w S1 hle hj hd
    ·intro ys q s hs2 w0 h0 g a w S hle hj hd
     refine zg3 (wpIn_mono (ih _ ys q s w0 h0 g a w hs2 S hle hj hd) ?_)
     rintro e a' w' ⟨ys',q',σ',w1,h1,g',hK,S',hle',hj',hd'⟩
     cases e with
     | normal =>
      simp only[zvc,hk] at hK
      split at hK
      ·rename_i s2 hs2
       obtain⟨g2,S2⟩:=zca hs2 S'
       exact hK w1 h1 g2 a' w' S2 hle' hj' hd'
      ·exact hK.elim
     | exit id=>exact⟨ys',q',σ',w1,h1,g',hK,S',hle',hj',hd'⟩
     | goto l=>exact⟨ys',q',σ',w1,h1,g',hK,S',hle',hj',hd'⟩
     | ret=>exact⟨ys',q',σ',w1,h1,g',hK,S',hle',hj',hd'⟩
     | panic ch=>exact⟨ys',q',σ',w1,h1,g',hK,S',hle',hj',hd'⟩
     | outgrown=>exact⟨ys',q',σ',w1,h1,g',hK,S',hle',hj',hd'⟩
   ·exact h.elim
  ·split at h
   ·rename_i m k hk
    have key:∀ (m:Nat) (ys:List (List PA)) (q:Bool) (σ:St) (w0:World) (h0:Fz) (g:Gh) (a:Act) (w:World),zCG P k (vcY P Γ ann l b) m K ys q σ->Sim P ann.nt w0.heap.size w0 h0 g σ a w->Fle hs h0->JQ J Jx q ys h0 w0->a.defers=[] ->
      zrN (FR none) n P b (zDn J Jx P ann.nt hs K) a w:=by
     intro m
     induction m with
     | zero=>intro ys q σ w0 h0 g a w h;exact h.elim
     | succ m ihm =>
      intro ys q σ w0 h0 g a w h S hle hj hd
      simp only[zCG] at h
      split at h
      ·rename_i s hs'
       obtain⟨g1,S1⟩:=zca hs' S
       refine zg3 (wpIn_mono (ih _ ys q s w0 h0 g1 a w h S1 hle hj hd) ?_)
       rintro e a' w' ⟨ys',q',σ',w1,h1,g',hK,S',hle',hj',hd'⟩
       cases e with
       | normal=>exact ihm ys' q' σ' w1 h1 g' a' w' hK S' hle' hj' hd'
       | exit id=>exact⟨ys',q',σ',w1,h1,g',hK,S',hle',hj',hd'⟩
       | goto l=>exact⟨ys',q',σ',w1,h1,g',hK,S',hle',hj',hd'⟩
       | ret=>exact⟨ys',q',σ',w1,h1,g',hK,S',hle',hj',hd'⟩
       | panic ch=>exact⟨ys',q',σ',w1,h1,g',hK,S',hle',hj',hd'⟩
       | outgrown=>exact⟨ys',q',σ',w1,h1,g',hK,S',hle',hj',hd'⟩
      ·exact h.elim
    exact zg2 (key m ys q σ w0 h0 g a w h S hle hj hd)
   ·exact h.elim
 | exit id=>intro K ys q σ w0 h0 g a w h S hle hj hd;exact wpIn_exit ⟨ys,q,σ,w0,h0,g,h,S,hle,hj,hd⟩
 | scope b ih =>
  intro K ys q σ w0 h0 g a w h S hle hj hd
  refine zn2 (wpIn_mono (ih _ ys q σ w0 h0 g a w h S hle hj hd) ?_)
  rintro e a' w' ⟨ys',q',σ',w1,h1,g',hK,S',hle',hj',hd'⟩
  cases e with
  | goto l=>exact hK
  | normal=>exact⟨ys',q',σ',w1,h1,g',hK,S',hle',hj',hd'⟩
  | exit l=>exact⟨ys',q',σ',w1,h1,g',hK,S',hle',hj',hd'⟩
  | ret=>exact⟨ys',q',σ',w1,h1,g',hK,S',hle',hj',hd'⟩
  | panic ch=>exact⟨ys',q',σ',w1,h1,g',hK,S',hle',hj',hd'⟩
  | outgrown=>exact⟨ys',q',σ',w1,h1,g',hK,S',hle',hj',hd'⟩
 | label l=>intro K ys q σ w0 h0 g a w h S hle hj hd;exact wpIn_label ⟨ys,q,σ,w0,h0,g,h,S,hle,hj,hd⟩
 | ret=>intro K ys q σ w0 h0 g a w h S hle hj hd;exact wpIn_ret ⟨ys,q,σ,w0,h0,g,h,S,hle,hj,hd⟩
 | rangeFunc f ps x y _ _=>intro K ys q σ w0 h0 g a w h S;exact h.elim
 | goto l=>intro K ys q σ w0 h0 g a w h S;exact h.elim
 | refuse s=>intro K ys q σ w0 h0 g a w h S;exact h.elim

theorem zDp {G : Ctrs} (hok : OkAll P G) {f : FuncId} {C : List PA → Option (Prop × List (List PA))} (hc : zal P f)
    (h:∀ l caps safe ys,C caps=some (safe,ys)->safe->∃ memo vv ann,vcIter P { G with memo:=memo,vv:=vv } ann f l caps ys):zCI P f C:=by
  intro caps safe ys hC hsafe l J Jx w h0 vs hJ hJx hgl hY hj0 hvs hfz
  refine⟨hc,?_⟩
  obtain⟨memo,vv,ann,hv⟩:=h l caps safe ys hC hsafe
  unfold vcIter at hv
  split at hv
  · rename_i fn hfn
    split at hv
    · rename_i c hbody
      split at hv
      · rename_i hnt
        simp only[dqm,Nat.ble_eq] at hnt
        obtain⟨⟨hnt,hlen⟩,hres⟩:=hnt
        have S:=zqw (P:=P) (args:=.one (.yl l) :: caps) (vs:=.func (.yield l) #[] #[] :: vs) (h0:=h0) (w:=w) (dqc hnt) (by simpa using hlen) ⟨.yl l,hvs⟩ hfz hgl
        have hwp:=zxp (n:=0) (Γ:={ G with memo:=memo,vv:=vv }) (J:=J) (Jx:=Jx) (hs:=h0) ⟨hok.mt,hok.fn,hok.own,hok.it,hok.cmp⟩ ann (l:=l) hJ hJx hY c _ ys false _ w h0 _ _ w hv S (λ _ _ h=>h) hj0 rfl
        refine (callsIn_wide (n:=0)).1 ?_
        refine callsIn_of_wp (F:=FR none) hfn hbody trivial (wpIn_mono hwp ?_)
        rintro e a' w' ⟨ys',q',σ',w1,h1,g',hK,S',hle,hj,hd⟩
        have fin:zNP ys' q'->a'.defers=[]/\∃ v,(results fn a'.tmps).run P w'=.ok v w'/\∃ v2 h',Ending.returned v=.returned v2/\Fle h0 h'/\Hw h' w'/\(J [] h' w'\/∃ rest,Jx rest h' w'):=by
          intro hf
          have hr:fn.results = #[]:=by simpa using hres
          refine⟨hd,.tuple #[],?_,_,g'.h,rfl,λ b o hb=>S'.le0 b o (hle b o hb),S'.hw,?_⟩
          · simp[results,hr]
          · have := hj.later hJ hJx S'
            cases q' with
            | false=>simp only[zNP] at hf;subst hf;exact .inl this
            | true=>exact .inr this
        cases e with
        | normal=>exact fin hK
        | ret=>exact fin hK
        | exit id=>exact hK.elim
        | goto l=>exact hK.elim
        | panic ch=>exact hK.elim
        | outgrown=>exact hK.elim
      · exact hv.elim
    · exact hv.elim
  · exact hv.elim

def zJ1 (n s:Nat) (get:Nat->List PV) (rs:List PV) (r:List PA):Prop:=r=.one (.sl n s get) :: rs.map .one
theorem zxq {G : Ctrs} (hok : OkAll P G) {f : FuncId} {e s b : Nat} {F : List PA → Option (Prop × Nat × (Nat → List PV) × List PV)} (hc : zal P f)
    (h:∀ az p n get rs,F az=some (p,n,get,rs)->p->∃ az':List PA,(∀ (h:Fz) vs,RL (paR h) az vs->RL (paR h) az' vs)/\∃ memo vv ann,zCE P { G with memo:=memo,vv:=vv } ann f az' e s b (zJ1 n s get rs)):zrf P f (.mkv e s b F):=by
  intro w h0 az vs p n get rs hF hs hvs hfz hgl
  refine⟨hc,?_⟩
  obtain⟨az',h1,memo,vv,ann,hv'⟩:=h az p n get rs hF hs
  unfold zCE at hv'
  split at hv'
  · rename_i fn hfn
    split at hv'
    · rename_i c hbody
      split at hv'
      · rename_i hnt
        simp only[dqm,Nat.ble_eq] at hnt
        refine zqx (G:={ G with memo:=memo,vv:=vv }) ⟨hok.mt,hok.fn,hok.own,hok.it,hok.cmp⟩ (Kx:=λ fn=>zv6 fn e s b (zJ1 n s get rs)) (vs:=vs) hfn hbody (dqc hnt.1) hnt.2 hv' (h1 h0 vs hvs) hfz hgl ?_
        intro ex σ' g' a' w' hK' S'
        have fin:zCD fn e s b (zJ1 n s get rs) σ'->∃ v,(results fn a'.tmps).run P w'=.ok v w'/\∃ (h':Fz) (v':Value) (xs:List Value),Ending.returned v=.returned (zFJ v' xs rs)/\RL (Rep h') rs xs/\v'.oneCell'=true /\
            zv8 h' w' w.heap.size e s v' n get/\(∀ k,v'.ownBlock=some k->h' k=none)/\Bel h0 w.heap.size w w'/\Fle h0 h'/\Hw h' w'/\∀ b o,h' b=some o->h0 b=some o\/w.heap.size<=b:=by
          intro hf
          unfold zCD at hf
          split at hf
          · rename_i t hres
            have hr:fn.results = #[.tmp t]:=by rw[<- Array.toArray_toList (xs:=fn.results),hres]
            have hrun:(results fn a'.tmps).run P w'=.ok (a'.tmps.getD t undef) w':=by
              simp only[results,hr]
              simp
            split at hf
            · rename_i L ht
              split at hf
              · rename_i e' s' b' m get' hob
                split at hf
                · rename_i hb
                  simp only[dqm] at hb
                  have e1:=dqc hb.1
                  have e2:=dqc hb.2.1
                  subst e1 e2
                  obtain⟨htv,hone⟩:=S'.env t _ ht
                  obtain⟨hpos,hinfo,ys,hys,hrr⟩:=S'.obj L _ hob
                  unfold zJ1 at hf
                  cases rs with
                  | nil =>
                    simp only[List.map_nil,dqy,PA.one.injEq,PV.sl.injEq,and_true] at hf
                    obtain⟨rfl,_,rfl⟩:=hf
                    exact⟨_,hrun,g'.h,g'.sv L,[],by rw[htv];rfl,trivial,by rw[<- htv];exact hone,⟨ys,hys,hrr⟩,λ k hk=>(S'.own L _ k hob hk).2,S'.below,S'.le0,S'.hw,S'.hn⟩
                  | cons x l=>simp at hf
                · exact hf.elim
              · exact hf.elim
            · exact hf.elim
          · rename_i t u hres
            have hr:fn.results = #[.tmp t,.tmp u]:=by rw[<- Array.toArray_toList (xs:=fn.results),hres]
            have hrun:(results fn a'.tmps).run P w'=.ok (.tuple #[a'.tmps.getD t undef,a'.tmps.getD u undef]) w':=by
              simp only[results,hr]
              simp
            split at hf
            · rename_i L ht
              split at hf
              · rename_i x hu
                split at hf
                · rename_i e' s' b' m get' hob
                  split at hf
                  · rename_i hb
                    simp only[dqm] at hb
                    have e1:=dqc hb.1
                    have e2:=dqc hb.2.1
                    subst e1 e2
                    obtain⟨htv,hone⟩:=S'.env t _ ht
                    have huv:=S'.env u _ hu
                    obtain⟨hpos,hinfo,ys,hys,hrr⟩:=S'.obj L _ hob
                    unfold zJ1 at hf
                    match rs,hf with
                    | [y],hf =>
                      simp only[dqK,List.map_nil,dqy,PA.one.injEq,PV.sl.injEq,and_true] at hf
                      obtain⟨⟨rfl,_,rfl⟩,rfl⟩:=hf
                      exact⟨_,hrun,g'.h,g'.sv L,[a'.tmps.getD u undef],by rw[<- htv];rfl,⟨huv,trivial⟩,by rw[<- htv];exact hone,⟨ys,hys,hrr⟩,λ k hk=>(S'.own L _ k hob hk).2,S'.below,S'.le0,S'.hw,S'.hn⟩
                    | [],hf=>simp at hf
                    | _ :: _ :: _,hf=>simp at hf
                  · exact hf.elim
                · exact hf.elim
              · exact hf.elim
            · exact hf.elim
          · exact hf.elim
        cases ex with
        | normal=>exact⟨.inl rfl,fin hK'⟩
        | ret=>exact⟨.inr rfl,fin hK'⟩
        | exit id=>exact hK'.elim
        | goto l=>exact hK'.elim
        | panic ch=>exact hK'.elim
        | outgrown=>exact hK'.elim
      · exact hv'.elim
    · exact hv'.elim
  · exact hv'.elim
end
end Go.Pm
namespace Go.Pm
variable [DrawZ]
open Go.RowKit (Below)

section
variable (P:Program)
def zGb (σ : St) : List ResultVar → Option (List PA × List (Nat × AO))
  | []=>some ([],[])
  | .tmp t :: r=>match lk σ.env t with
    | some d=>match zq2 (lk σ.objs) d,zGb σ r with
      | some (x,u),some (l,us)=>some (x :: l,u ++ us)
      | _,_=>none
    | none=>none
  | .cell t ty :: r=>match lk σ.env t,zfx P ty,szT P ty with
    | some (.one (.c (.ptr L off))),some g,some n=>match lk σ.objs L with
      | some (.box _ cells)=>match ziA g n cells off with
        | some d=>match zq2 (lk σ.objs) (.one d),zGb σ r with
          | some (x,u),some (l,us)=>some (x :: l,u ++ us)
          | _,_=>none
        | none=>none
      | _=>none
    | _,_,_=>none
def zOg (ob : Nat → Option AO) (env : List (Nat × DV)) : Nat → List XA → Option (List XA × List Nat)
  | _,[]=>some ([],[])
  | i,.d a :: r=>match zOg ob env (i+1) r with
    | some (ys,ls)=>some (.d a :: ys,ls)
    | none=>none
  | i,.box _ _ :: r=>match lk env i,zOg ob env (i+1) r with
    | some (.one (.c (.ptr L 0))),some (ys,ls)=>match zq3 ob (.one (.c (.ptr L 0))) with
      | some (y,l,_)=>some (y :: ys,l ++ ls)
      | none=>none
    | _,_=>none
def zOd (fn:Func) (xs:List XA) (K:List PA->List XA->Prop) (σ:St):Prop :=
 match zGb P σ fn.results.toList with
 | some (l,u)=>match zOg (lk (u ++ σ.objs)) σ.env 0 xs with
  | some (ys,ls)=>match zpL ls with
   | true=>K l ys
   | false=>False
  | none=>False
 | none=>False
end

section
variable {P:Program}{Γ:Ctrs}

section start
variable {h:Fz}{w:World}{B:Nat}{g:Gh}(hle:∀ p x,Rep h p x->Rep g.h p x)
include hle
end start

def pinned (h:Fz) (K:List Nat) (w:World):Fz:=λ b =>
 match h b with
 | some (.inv F)=>some (.inv F)
 | some (.fz (.cells C ty fr))=>some (.fz (.cells C ty fr))
 | some (.fz (.map es c))=>some (.fz (.map es c))
 | _=>match K.contains b with
  | true=>none
  | false=>(w.heap[b]?).map .pin
end
end Go.Pm
