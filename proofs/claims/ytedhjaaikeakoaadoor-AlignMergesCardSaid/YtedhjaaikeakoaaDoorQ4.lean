/- Part 4 of what the proof rests on: a machine that runs functions of the program on pure values, proved sound; the functions that the law reaches, and what they compute. -/
import Derived.Test.YtedhjaaikeakoaaDoorQ3
set_option linter.all false
namespace Go.Pm
variable [DrawZ]
open Go.RowKit (Below)

def ztA (i j:Nat):Nat:=i+4096 * (j+1)
def zBh : Nat → List XA → List (Nat × DV)
  | _,[]=>[]
  | i,.d a :: r=>(i,.one (paD a)) :: zBh (i+1) r
  | i,.box _ _ :: r=>(i,.cl (.ptr i 0)) :: zBh (i+1) r
def zgJ (i : Nat) : Nat → List XC → List Cl
  | _,[]=>[]
  | j,.p v :: r=>.p v :: zgJ i (j+1) r
  | j,.vec _ _ _ _ _ :: r=>.vec (ztA i j) :: zgJ i (j+1) r
  | j,.mo _ _ _ _ _ :: r=>.mo (ztA i j) :: zgJ i (j+1) r
def zfQ (i : Nat) : Nat → List XC → List (Nat × AO)
  | _,[]=>[]
  | j,.p _ :: r=>zfQ i (j+1) r
  | j,.vec e s b n get :: r=>(ztA i j,.vec e s b n get) :: zfQ i (j+1) r
  | j,.mo kt vt q n F :: r=>(ztA i j,.mo kt vt q n F) :: zfQ i (j+1) r
def zdD : Nat → List XA → List (Nat × AO)
  | _,[]=>[]
  | i,.d _ :: r=>zdD (i+1) r
  | i,.box ty cs :: r=>(i,.box ty (zgJ i 0 cs)) :: (zfQ i 0 cs ++ zdD (i+1) r)
def zIx : Nat → List XA → List Nat
  | _,[]=>[]
  | i,.d _ :: r=>zIx (i+1) r
  | i,.box _ _ :: r=>i :: zIx (i+1) r

section
variable (P:Program)
def zob (σ : St) : List ResultVar → Option (List PA × List (Nat × AO))
  | []=>some ([],[])
  | .tmp t :: r=>match lk σ.env t with
    | some d=>match zoN (lk σ.objs) d,zob σ r with
      | some (x,u),some (l,us)=>some (x :: l,u ++ us)
      | _,_=>none
    | none=>none
  | .cell t ty :: r=>match lk σ.env t,zeT P ty,szT P ty with
    | some (.one (.c (.ptr L off))),some g,some n=>match lk σ.objs L with
      | some (.box _ cells)=>match zgE g n cells off with
        | some d=>match zoN (lk σ.objs) (.one d),zob σ r with
          | some (x,u),some (l,us)=>some (x :: l,u ++ us)
          | _,_=>none
        | none=>none
      | _=>none
    | _,_,_=>none
def zDW (ob : Nat → Option AO) (env : List (Nat × DV)) : Nat → List XA → Option (List XA × List Nat)
  | _,[]=>some ([],[])
  | i,.d a :: r=>match zDW ob env (i+1) r with
    | some (ys,ls)=>some (.d a :: ys,ls)
    | none=>none
  | i,.box _ _ :: r=>match lk env i,zDW ob env (i+1) r with
    | some (.one (.c (.ptr L 0))),some (ys,ls)=>match zoP ob (.one (.c (.ptr L 0))) with
      | some (y,l,_)=>some (y :: ys,l ++ ls)
      | none=>none
    | _,_=>none
def zDA (fn:Func) (xs:List XA) (K:List PA->List XA->Prop) (σ:St):Prop :=
 match zob P σ fn.results.toList with
 | some (l,u)=>match zDW (lk (u ++ σ.objs)) σ.env 0 xs with
  | some (ys,ls)=>match zln ls with
   | true=>K l ys
   | false=>False
  | none=>False
 | none=>False
def zle (fn : Func) (xs : List XA) (K : List PA → List XA → Prop) : Exit → St → Prop
  | .ret,σ=>zDA P fn xs K σ
  | .normal,σ=>zDA P fn xs K σ
  | _,_=>False
def zkk (Γ:Ctrs) (ann:Ann) (f:FuncId) (xs:List XA) (K:List PA->List XA->Prop):Prop :=
 match P.funcs[f]? with
 | some fn=>match fn.body with
  | some c=>match Nat.beq ann.nt fn.ntmps && Nat.ble xs.length ann.nt && zln ((zdD 0 xs).map (·.1)) && zH5 (zIx 0 xs) (zfX c) with
   | true=>vc P Γ ann c (zle P fn xs K) ⟨zBh 0 xs,zdD 0 xs,[]⟩
   | false=>False
  | none=>False
 | none=>False
end

section
variable {P:Program}{Γ:Ctrs}

def zmI (w:World) (v:Value):List Value:=match v with
 | .pointer (some a)=>match w.heap[a.block]? with
  | some (.cells C _ _)=>C.toList
  | _=>[]
 | _=>[]
def xVV (i : Nat) : Nat → List XC → List Value → List (Nat × Value)
  | j,.p _ :: r,_ :: vs=>xVV i (j+1) r vs
  | j,.vec _ _ _ _ _ :: r,v :: vs=>(ztA i j,v) :: xVV i (j+1) r vs
  | j,.mo _ _ _ _ _ :: r,v :: vs=>(ztA i j,v) :: xVV i (j+1) r vs
  | _,_,_=>[]
def zkl (w : World) : Nat → List XA → List Value → List (Nat × Value)
  | i,.d _ :: r,_ :: vs=>zkl w (i+1) r vs
  | i,.box _ cs :: r,v :: vs=>(i,v) :: (xVV i 0 cs (zmI w v) ++ zkl w (i+1) r vs)
  | _,_,_=>[]
def zK2 : Value → Nat
  | .pointer (some a)=>a.block
  | _=>0

section start
variable {h:Fz}{w:World}{B:Nat}{g:Gh}(hle:∀ p x,Rep h p x->Rep g.h p x)
include hle
theorem zBi {i:Nat} : ∀ {cs:List XC}{j:Nat}{vs:List Value},RL (xcR P h w B) cs vs->(∀ x∈xVV i j cs vs,g.sv x.1=x.2) ->
  RL (clR g) (zgJ i j cs) vs/\(∀ x∈zfQ i j cs,zCq x.2/\zbz x.2=[]/\aoR P g w B x.1 x.2)/\zra cs vs=(zfQ i j cs).flatMap (λ x=>kO g x.1 x.2)/\(xVV i j cs vs).map (·.1)=(zfQ i j cs).map (·.1) /\
   ∀ M∈(zgJ i j cs).flatMap zaE,M∈(zfQ i j cs).map (·.1)
 | [],j,[],_,_=>⟨trivial,λ x hx=>by simp[zfQ] at hx,rfl,rfl,λ M hM=>by simp[zgJ] at hM⟩
 | [],_,_ :: _,hr,_=>hr.elim
 | _ :: _,_,[],hr,_=>hr.elim
 | .p p :: cs,j,v :: vs,hr,hs=>by
  obtain⟨i1,i2,i3,i4,i5⟩:=zBi (j:=j+1) hr.2 hs
  exact⟨⟨hle _ _ hr.1,i1⟩,i2,by simp only[zra,xcK,List.nil_append];exact i3,i4,λ M hM=>i5 M (by simpa [zgJ,zaE] using hM)⟩
 | .vec e s b n get :: cs,j,v :: vs,hr,hs=>by
  obtain⟨i1,i2,i3,i4,i5⟩:=zBi (j:=j+1) hr.2 (λ x hx=>hs x (dqf _ hx))
  have hv:g.sv (ztA i j)=v:=hs (ztA i j,v) dqj
  obtain⟨h1,h2,h3,xs,hx,hx2⟩:=hr.1
  refine⟨⟨⟨hv.symm,h1⟩,i1⟩,λ x hx=>?_,?_,by simp[xVV,zfQ,i4],λ M hM=>?_⟩
  ·rcases dqq.1 hx with e1 | hx
   ·subst e1
    refine⟨trivial,rfl,h2,h3,xs,?_,λ q hq=>(hx2 q hq).mono hle⟩
    show w.ownsRow B e s (g.sv (ztA i j)) n xs
    rw[hv];assumption
   ·exact i2 x hx
  ·simp only[zra,xcK,zfQ,dqJ,kO,hv,i3]
  ·simp only [zgJ, dqJ, dqg, zaE, dqi] at hM
   simp only[zfQ,dqK,dqq]
   exact hM.imp_right (i5 M)
 | .mo kt vt q n F :: cs,j,v :: vs,hr,hs=>by
  obtain⟨i1,i2,i3,i4,i5⟩:=zBi (j:=j+1) hr.2 (λ x hx=>hs x (dqf _ hx))
  have hv:g.sv (ztA i j)=v:=hs (ztA i j,v) dqj
  obtain⟨b,es,clock,rfl,h2,h3⟩:=hr.1
  have hb:zcF (g.sv (ztA i j))=b:=by rw[hv];rfl
  refine⟨⟨by show Value.map (some b)=.map (some (zcF (g.sv (ztA i j))));rw[hb],i1⟩,λ x hx=>?_,?_,by simp[xVV,zfQ,i4],λ M hM=>?_⟩
  ·rcases dqq.1 hx with e1 | hx
   ·subst e1
    exact⟨trivial,rfl,es,clock,by rw[hb];exact h2,h3⟩
   ·exact i2 x hx
  ·simp only[zra,xcK,zfQ,dqJ,kO,hb,i3];rfl
  ·simp only [zgJ, dqJ, dqg, zaE, dqi] at hM
   simp only[zfQ,dqK,dqq]
   exact hM.imp_right (i5 M)
theorem zpu:∀ {xs:List XA}{i:Nat}{vs:List Value},RL (xaR P h w B) xs vs->(∀ x∈zkl w i xs vs,g.sv x.1=x.2/\g.bk x.1=zK2 x.2) ->
  (∀ x∈zdD i xs,zCq x.2/\(∀ M∈zbz x.2,M∈(zdD i xs).map (·.1))/\aoR P g w B x.1 x.2)/\xsK w xs vs=(zdD i xs).flatMap (λ x=>kO g x.1 x.2)/\(zkl w i xs vs).map (·.1)=(zdD i xs).map (·.1)
 | [],i,[],_,_=>⟨λ x hx=>by simp[zdD] at hx,rfl,rfl⟩
 | [],_,_ :: _,hr,_=>hr.elim
 | _ :: _,_,[],hr,_=>hr.elim
 | .d a :: xs,i,v :: vs,hr,hs=>by
  obtain⟨i1,i2,i3⟩:=zpu (i:=i+1) hr.2 hs
  exact⟨i1,by simp only[xsK,xaK,List.nil_append];exact i2,i3⟩
 | .box ty cs :: xs,i,v :: vs,hr,hs=>by
  obtain⟨i1,i2,i3⟩:=zpu (i:=i+1) hr.2 (λ x hx=>hs x (dqf _ (dqg.2 (.inr hx))))
  obtain⟨k,C,rfl,hC,hrl⟩:=hr.1
  have hca:zmI w (.pointer (some ⟨k,0,none⟩))=C.toList:=by simp only[zmI,hC]
  obtain⟨j1,j2,j3,j4,j5⟩:=zBi (i:=i) (j:=0) hle hrl (λ x hx=>(hs x (dqf _ (dqg.2 (.inl (by rw[hca];exact hx))))).1)
  have hb:g.bk i=k:=(hs (i,_) dqj).2
  refine⟨λ x hx=>?_,?_,?_⟩
  ·simp only [zdD] at hx
   rcases dqq.1 hx with e | hx
   ·subst e
    refine⟨trivial,λ M hM=>?_,C,by rw[hb];exact hC,j1⟩
    simp only[zdD,dqK,List.map_append,dqq,dqg]
    exact .inr (.inl (j5 M hM))
   ·rcases dqg.1 hx with hx | hx
    ·obtain ⟨q1, q2, q3⟩ := j2 x hx
     exact⟨q1,λ M hM=>by rw[q2] at hM;simp at hM,q3⟩
    ·obtain ⟨q1, q2, q3⟩ := i1 x hx
     refine⟨q1,λ M hM=>?_,q3⟩
     simp only[zdD,dqK,List.map_append,dqq,dqg]
     exact .inr (.inr (q2 M hM))
  ·simp only[xsK,xaK,hC,zdD,dqJ,List.flatMap_append,kO,hb,j3,i2];simp
  ·simp only[zkl,zdD,dqK,List.map_append,hca,j4,i3]
end start

theorem zpv : ∀ (xs : List XA) (i t : Nat) (d : DV), lk (zBh i xs) t = some d → ∃ x, xs[t - i]? = some x ∧ i ≤ t ∧ d = match x with | .d a => .one (paD a) | .box _ _ => .cl (.ptr t 0)
  | [],i,t,d,h=>by simp[zBh,lk] at h
  | x :: r,i,t,d,h=>by
    have key:lk (zBh (i+1) r) t=some d->i ≠ t->∃ y,(x :: r)[t - i]? = some y/\i<=t/\d=match y with | .d a=>.one (paD a) | .box _ _=>.cl (.ptr t 0):=λ h hne=>by
      obtain⟨y,h1,h2,h3⟩:=zpv r (i+1) t d h
      refine⟨y,?_,by omega,h3⟩
      rw[show t - i=(t - (i+1))+1 by omega,dqC];exact h1
    cases x with
    | d a =>
      simp only[zBh] at h
      rw[zay] at h
      split at h
      · rename_i e;subst e;simp only[dqa] at h;exact⟨.d a,by simp,dqt _,h.symm⟩
      · rename_i e;exact key h e
    | box ty cs =>
      simp only[zBh] at h
      rw[zay] at h
      split at h
      · rename_i e;subst e;simp only[dqa] at h;exact⟨.box ty cs,by simp,dqt _,h.symm⟩
      · rename_i e;exact key h e
theorem zoc : ∀ {xs : List XA} {i t : Nat} {ty : Nat} {cs : List XC}, xs[t - i]? = some (.box ty cs) → i ≤ t → t ∈ (zdD i xs).map (·.1)
  | [],i,t,ty,cs,h,_=>by simp at h
  | x :: xs,i,t,ty,cs,h,hi=>by
    by_cases e:t=i
    · subst e
      simp at h;subst h
      simp[zdD]
    · rw [show t - i = (t - (i + 1)) + 1 by omega, dqC] at h
      have:=zoc (i:=i+1) h (by omega)
      cases x with
      | d a=>exact this
      | box ty' cs' =>
        simp only[zdD,dqK,List.map_append,dqq,dqg]
        exact .inr (.inr this)
theorem zod {w : World} : ∀ {xs : List XA} {i t : Nat} {ty : Nat} {cs : List XC} {vs : List Value} {v : Value}, xs[t - i]? = some (.box ty cs) → vs[t - i]? = some v → i ≤ t → (t, v) ∈ zkl w i xs vs
  | [],i,t,ty,cs,vs,v,h,_,_=>by simp at h
  | _ :: _,i,t,ty,cs,[],v,_,h,_=>by simp at h
  | x :: xs,i,t,ty,cs,u :: vs,v,h,h2,hi=>by
    by_cases e:t=i
    · subst e
      simp at h h2;subst h h2
      simp[zkl]
    · rw [show t - i = (t - (i + 1)) + 1 by omega, dqC] at h h2
      have:=zod (w:=w) (i:=i+1) h h2 (by omega)
      cases x with
      | d a=>exact this
      | box ty' cs' =>
        simp only[zkl,dqq,dqg]
        exact .inr (.inr this)

def pinned (h:Fz) (K:List Nat) (w:World):Fz:=λ b =>
 match h b with
 | some (.inv F)=>some (.inv F)
 | some (.fz (.cells C ty fr))=>some (.fz (.cells C ty fr))
 | some (.fz (.map es c))=>some (.fz (.map es c))
 | _=>match K.contains b with
  | true=>none
  | false=>(w.heap[b]?).map .pin
theorem zkm {h:Fz}{K:List Nat}{w:World}{b:Nat}{o:FzO}(hb:h b=some o) (ho:(∃ C ty fr,o=.fz (.cells C ty fr))\/(∃ F,o=.inv F)\/(∃ es c,o=.fz (.map es c))):pinned h K w b=some o:=by
 rcases ho with ⟨C,ty,fr,rfl⟩ | ⟨F,rfl⟩ | ⟨es,c,rfl⟩ <;> simp only[pinned,hb]
def zMS (h:Fz) (K:List Nat) (w:World) (b:Nat):Prop :=
 (∃ o, h b = some o ∧ pinned h K w b = some o ∧ ((∃ C ty fr, o = .fz (.cells C ty fr)) ∨ (∃ F, o = .inv F) ∨ (∃ es c, o = .fz (.map es c)))) ∨
  ((∀ F,h b ≠ some (.inv F))/\b∈K/\pinned h K w b=none)\/((∀ F,h b ≠ some (.inv F))/\b ∉ K/\pinned h K w b=(w.heap[b]?).map .pin)
theorem zgW {h:Fz}{K:List Nat}{w:World}{b:Nat}(hF:∀ F,h b ≠ some (.inv F)) (e:pinned h K w b=(match K.contains b with | true=>none | false=>(w.heap[b]?).map .pin)):zMS h K w b:=by
 cases hk:K.contains b with
 | true=>rw[hk] at e;exact .inr (.inl ⟨hF,by simpa using hk,e⟩)
 | false=>rw[hk] at e;exact .inr (.inr ⟨hF,by simpa using hk,e⟩)
theorem zcg {h:Fz}{K:List Nat}{w:World}(b:Nat):zMS h K w b:=by
 cases hb:h b with
 | none=>exact zgW (λ F e=>by rw[hb] at e;cases e) (by simp only[pinned,hb])
 | some o =>
  cases o with
  | inv F=>exact .inl ⟨_,hb,by simp only[pinned,hb],.inr (.inl ⟨F,rfl⟩)⟩
  | pin o=>exact zgW (λ F e=>by rw[hb] at e;cases e) (by simp only[pinned,hb])
  | fz o =>
   cases o with
   | cells C ty fr=>exact .inl ⟨_,hb,by simp only[pinned,hb],.inl ⟨C,ty,fr,rfl⟩⟩
   | map es c=>exact .inl ⟨_,hb,by simp only[pinned,hb],.inr (.inr ⟨es,c,rfl⟩)⟩
   | _=>exact zgW (λ F e=>by rw[hb] at e;cases e) (by simp only[pinned,hb])
theorem zh5 {h:Fz}{K:List Nat}{w:World}{p:PV}{x:Value}(hr:Rep h p x):Rep (pinned h K w) p x:=hr.mono' λ _ _ hb ho=>zkm hb ho
theorem zvk {h:Fz}{K:List Nat}{w:World}(H:Hw h w):Hw (pinned h K w) w:=by
 intro b x hb
 rcases zcg (h:=h) (K:=K) (w:=w) b with ⟨o,h1,h2,_⟩ | ⟨_,_,h2⟩ | ⟨_,_,h2⟩
 ·rw[h2] at hb;simp only[dqa] at hb;subst hb;exact H b _ h1
 ·rw[h2] at hb;cases hb
 ·rw [h2] at hb
  obtain⟨o,ho,rfl⟩:=dqv.1 hb
  exact⟨o,ho,rfl⟩

theorem zvl {h:Fz}{K:List Nat}{w:World}(H:zeh h):zeh (pinned h K w):=λ k l hk=>by
 obtain⟨C,ty,fr,h1,h2⟩:=H k l hk
 exact⟨C,ty,fr,zkm h1 (.inl ⟨_,_,_,rfl⟩),h2.mono λ _ _ r=>zh5 r⟩
theorem zh6 {h h':Fz}(hle:∀ p x,Rep h p x->Rep h' p x){a:PA}{v:Value}(hr:paR h a v):paR h' a v:=by
 cases a with
 | one p=>exact hle _ _ hr
 | agg cs=>obtain⟨vs,rfl,hr⟩:=hr;exact⟨vs,rfl,hr.mono hle⟩
theorem zBj {h h':Fz}(hle:∀ p x,Rep h p x->Rep h' p x){rs:List PA}{v:Value}(hr:zl9 h rs v):zl9 h' rs v:=by
 match rs,hr with
 | [],⟨vs,e,r⟩=>exact⟨vs,e,r.mono λ _ _=>zh6 hle⟩
 | [x],hr=>exact zh6 hle hr
 | x :: y :: l,⟨vs,e,r⟩=>exact⟨vs,e,r.mono λ _ _=>zh6 hle⟩
theorem zDX {h h':Fz}{w:World}{B:Nat}(hle:∀ p x,Rep h p x->Rep h' p x){c:XC}{v:Value}(hr:xcR P h w B c v):xcR P h' w B c v:=by
 cases c with
 | p v=>exact hle _ _ hr
 | vec e s b n get=>obtain⟨h1,h2,h3,xs,h4,h5⟩:=hr;exact⟨h1,h2,h3,xs,h4,λ q hq=>(h5 q hq).mono hle⟩
 | mo kt vt q n F=>exact hr
theorem zDY {h h':Fz}{w:World}{B:Nat}(hle:∀ p x,Rep h p x->Rep h' p x){c:XA}{v:Value}(hr:xaR P h w B c v):xaR P h' w B c v:=by
 cases c with
 | d a=>exact zh6 hle hr
 | box ty cs=>obtain⟨k,C,h1,h2,h3⟩:=hr;exact⟨k,C,h1,h2,h3.mono λ _ _=>zDX hle⟩

theorem zDZ {nt m : Nat} {xs : List XA} {w : World} {h : Fz} {B : Nat} {vs : List Value} (hnt : nt = m) (hlen : xs.length ≤ nt) (hvs : RL (xaR P h w B) xs vs) (hn : (xsK w xs vs).Nodup)
    (hK:∀ b∈xsK w xs vs,B<=b/\h b=none) (hw:Hw h w) (hgl:zeh h) (hB:B<=w.heap.size) (hlab:((zdD 0 xs).map (·.1)).Nodup) :
    ∃ g,Sim P nt B w (pinned h (xsK w xs vs) w) g ⟨zBh 0 xs,zdD 0 xs,[]⟩ { tmps:=vs.toArray ++ Array.replicate (m - vs.toArray.size) undef,defers:=[] } w:=by
  let nv:=zkl w 0 xs vs
  let h0:=pinned h (xsK w xs vs) w
  let g:Gh:=⟨h0,λ L=>zK2 ((lk nv L).getD undef),λ L=>(lk nv L).getD undef,λ _ _=>undef⟩
  have hle:∀ p x,Rep h p x->Rep g.h p x:=λ p x hr=>zh5 hr
  have hkeys:nv.map (·.1)=(zdD 0 xs).map (·.1):=by
    have:∀ {xs:List XA} {i:Nat} {vs:List Value},RL (xaR P h w B) xs vs->(zkl w i xs vs).map (·.1)=(zdD i xs).map (·.1):=by
      intro xs
      induction xs with
      | nil=>intro i vs hr;cases vs with
        | nil=>rfl
        | cons=>exact hr.elim
      | cons x xs ih =>
        intro i vs hr
        cases vs with
        | nil=>exact hr.elim
        | cons v vs =>
          cases x with
          | d a=>exact ih hr.2
          | box ty cs =>
            obtain⟨k,C,rfl,hC,hrl⟩:=hr.1
            have hv:∀ {cs:List XC} {j:Nat} {vs:List Value},RL (xcR P h w B) cs vs->(xVV i j cs vs).map (·.1)=(zfQ i j cs).map (·.1):=by
              intro cs
              induction cs with
              | nil=>intro j vs hr;cases vs with
                | nil=>rfl
                | cons=>exact hr.elim
              | cons c cs ih2 =>
                intro j vs hr
                cases vs with
                | nil=>exact hr.elim
                | cons v vs=>cases c with
                  | p q=>exact ih2 hr.2
                  | vec e s b n get=>simp only[xVV,zfQ,dqK];rw[ih2 hr.2]
                  | mo kt vt q n F=>simp only[xVV,zfQ,dqK];rw[ih2 hr.2]
            simp only[zkl,zdD,dqK,List.map_append,zmI,hC]
            rw[hv hrl,ih hr.2]
    exact this hvs
  have hlkv:∀ x∈nv,lk nv x.1=some x.2:=λ x hx=>zjN (by rw[hkeys];exact hlab) hx
  obtain⟨o1,o2,o3⟩:=zpu (g:=g) (i:=0) hle hvs (λ x hx=>⟨by show (lk nv x.1).getD undef=x.2;rw[hlkv x hx];rfl,by show zK2 ((lk nv x.1).getD undef)=_;rw[hlkv x hx];rfl⟩)
  have hmem:∀ L o,lk (zdD 0 xs) L=some o->(L,o)∈zdD 0 xs:=λ L o h=>zbS h
  have hl:=hvs.length
  have hblk:∀ L o b,lk (zdD 0 xs) L=some o->obk g L o b->b∈(zdD 0 xs).flatMap (λ x=>kO g x.1 x.2):=λ L o b hL hb=>dqo.2 ⟨_,hmem L o hL,zlC (o1 _ (hmem L o hL)).1 hb⟩
  refine⟨g,Marks.nil _ _,by simp;omega,?_,λ L o hL=>(o1 _ (hmem L o hL)).2.2,?_,?_,zvk hw,λ _ _ h=>h,λ b o h=>.inl h,Bel.refl _ _ _,hB,?_,?_,?_⟩
  · intro t d ht
    obtain⟨x,hx,_,rfl⟩:=zpv xs 0 t d ht
    obtain⟨v,hv,hxv⟩:=hvs.get t x (by simpa using hx)
    have hlt:=(dqn.1 hv).1
    have:(vs.toArray ++ Array.replicate (m - vs.toArray.size) undef).getD t undef=v:=by
      rw[dql,Array.getElem?_append_left (by simpa using hlt)]
      simp[hv]
    rw[this]
    cases x with
    | d a=>exact zuI (g:=g) (zh6 hle hxv)
    | box ty cs =>
      obtain⟨k,C,rfl,hC,_⟩:=hxv
      have:=hlkv _ (zod (w:=w) (i:=0) hx (by simpa using hv) (Nat.zero_le _))
      show Value.pointer (some ⟨k,0,none⟩)=.pointer (some ⟨zK2 ((lk nv t).getD undef),0,none⟩)
      rw[show lk nv t=some (.pointer (some ⟨k,0,none⟩)) from this];rfl
  · intro L o b hL hb
    have hbK:b∈xsK w xs vs:=by rw[o2];exact hblk L o b hL hb
    refine⟨(hK b hbK).1,?_⟩
    show pinned h (xsK w xs vs) w b=none
    rcases zcg (h:=h) (K:=xsK w xs vs) (w:=w) b with ⟨o,h1,_⟩ | ⟨_,_,h2⟩ | ⟨_,h2,_⟩
    · rw[(hK b hbK).2] at h1;cases h1
    · exact h2
    · exact (h2 hbK).elim
  · intro L o b L' o' hL hL' hb hb'
    rw[o2] at hn
    have:=zjL hn (L,o) (L',o') b (hmem L o hL) (hmem L' o' hL') (zlC (o1 _ (hmem L o hL)).1 hb) (zlC (o1 _ (hmem L' o' hL')).1 hb')
    exact congrArg Prod.fst this
  · intro t d ht L hL
    obtain⟨x,hx,_,rfl⟩:=zpv xs 0 t d ht
    cases x with
    | d a=>rw[show zaW (.one (paD a))=zbg (paD a) from rfl,zjK] at hL;simp at hL
    | box ty cs =>
      simp[zaW,zbg,zaE] at hL;subst hL
      exact zjO (zoc (i:=0) hx (Nat.zero_le _))
  · intro L o hL M hM
    exact zjO ((o1 _ (hmem L o hL)).2.1 M hM)
  · exact zvl hgl

theorem zkn {nt B:Nat}{w0:World}{h0:Fz}{g:Gh}{σ:St}{a:Act}{w:World}(S:Sim P nt B w0 h0 g σ a w):∀ (rs:List ResultVar) (l:List PA) (u:Upd),zob P σ rs=some (l,u) ->
  ∃ (vs:List Value),zc2 (lk σ.objs) u/\(rs.mapM (resV a.tmps)).run P w=.ok vs w/\∀ (u':Upd) (h':Fz),(∀ y∈u,y∈u')->Frozen g (lk σ.objs) u' h'->RL (paR h') l vs
 | [],l,u,h=>by
  simp[zob] at h;obtain⟨rfl,rfl⟩:=h
  exact⟨[],zc2.nil _,rfl,λ _ _ _ _=>trivial⟩
 | .tmp t :: r,l,u,h=>by
  simp only[zob] at h
  split at h
  ·rename_i d hd
   split at h
   ·rename_i x u1 l2 u2 h1 h2
    simp only[dqa,dqh] at h;obtain⟨rfl,rfl⟩:=h
    obtain⟨vs,hu2,hrun,hr⟩:=zkn S r l2 u2 h2
    refine⟨a.tmps.getD t undef :: vs,(zjA h1).append hu2,?_,λ u' h' hu F=>⟨F.repD h1 (λ y hy=>hu y (dqg.2 (.inl hy))) (S.env t d hd),hr u' h' (λ y hy=>hu y (dqg.2 (.inr hy))) F⟩⟩
    rw[List.mapM_cons]
    simp only[resV,dqd,dqe,dqb]
    rw[hrun];rfl
   ·cases h
  ·cases h
 | .cell t ty :: r,l,u,h=>by
  simp only[zob] at h
  split at h
  ·rename_i L off ag m ht hg hs
   split at h
   ·rename_i ty' cells hL
    split at h
    ·rename_i d hd
     split at h
     ·rename_i x u1 l2 u2 h1 h2
      simp only[dqa,dqh] at h;obtain⟨rfl,rfl⟩:=h
      obtain⟨vs,hu2,hrun,hr⟩:=zkn S r l2 u2 h2
      obtain⟨C,hC,hcr⟩:=S.obj L _ hL
      obtain⟨v,hload,hv⟩:=zme (P:=P) hg hs hC 0 (λ j y hj=>by obtain⟨v,hv,hyv⟩:=hcr.get j y hj;exact⟨v,by simpa using hv,hyv⟩) hd
      have hp:a.tmps.getD t undef=.pointer (some ⟨g.bk L,off,none⟩):=S.env t _ ht
      rw[Nat.zero_add] at hload
      refine⟨v :: vs,(zjA h1).append hu2,?_,λ u' h' hu F=>⟨F.repD h1 (λ y hy=>hu y (dqg.2 (.inl hy))) hv,hr u' h' (λ y hy=>hu y (dqg.2 (.inr hy))) F⟩⟩
      have h1:(resV a.tmps (.cell t ty)).run P w=.ok v w:=by
       simp only[resV,dqd,hp,zlQ,dqb,hload]
      rw[List.mapM_cons]
      simp only[dqd,h1,dqb]
      rw[hrun];rfl
     ·cases h
    ·cases h
   ·cases h
  ·cases h
theorem zoe {nt B : Nat} {w0 : World} {h0 : Fz} {g : Gh} {σ : St} {a : Act} {w : World} (S : Sim P nt B w0 h0 g σ a w) {fn : Func} {l : List PA} {u : Upd} (h : zob P σ fn.results.toList = some (l, u)) :
  ∃ (v:Value),zc2 (lk σ.objs) u/\(results fn a.tmps).run P w=.ok v w/\∀ (h':Fz),Frozen g (lk σ.objs) u h'->zl9 h' l v:=by
 obtain⟨vs,hu,hrun,hr⟩:=zkn S fn.results.toList l u h
 refine⟨if h:vs.toArray.size=1 then vs.toArray[0] else .tuple vs.toArray,hu,?_,λ h' F=>?_⟩
 ·have e : results fn a.tmps = (do let vs ← fn.results.mapM (resV a.tmps); pure (if h : vs.size = 1 then vs[0] else .tuple vs)) := rfl
  rw[e,Array.mapM_eq_mapM_toList]
  simp only[dqd,Sem.run_map]
  rw[hrun]
  simp only[dqb,dqe]
 ·have hrl := hr u h' (fun y hy => hy) F
  match l,vs,hrl with
  | [],[],_=>exact⟨[],rfl,trivial⟩
  | [x],[v],hrl=>exact hrl.1
  | x :: y :: l,v :: v2 :: vs,hrl =>
   refine⟨v :: v2 :: vs,?_,hrl⟩
   rw[dif_neg (by simp)]
  | [],_ :: _,hrl=>exact hrl.elim
  | [_],[],hrl=>exact hrl.elim
  | [_],_ :: _ :: _,hrl=>exact hrl.2.elim
  | _ :: _ :: _,[],hrl=>exact hrl.elim
  | _ :: _ :: _,[_],hrl=>exact hrl.2.elim

theorem zvm {nt B : Nat} {w0 : World} {h0 : Fz} {g : Gh} {σ : St} {a : Act} {w w1 : World} {h : Fz} (S : Sim P nt B w0 h0 g σ a w) (hle : ∀ p x, Rep h p x → Rep g.h p x) :
  ∀ {xs ys:List XA} {ls:List Nat} {i:Nat} {vs:List Value},zDW (lk σ.objs) σ.env i xs=some (ys,ls)->RL (xaR P h w1 B) xs vs->(∀ t v,vs[t]? = some v->i+t∈zIx i xs->a.tmps.getD (i+t) undef=v) ->
  RL (xaR P g.h w B) ys vs/\xsK w ys vs=ls.flatMap (kB g (lk σ.objs))/\∀ L∈ls,isB (lk σ.objs) L
 | [],ys,ls,i,[],h1,_,_=>by
  simp only[zDW,dqa,dqh] at h1;obtain⟨rfl,rfl⟩:=h1
  exact⟨trivial,rfl,λ L hL=>by simp at hL⟩
 | [],_,_,_,_ :: _,_,hr,_=>hr.elim
 | _ :: _,_,_,_,[],_,hr,_=>hr.elim
 | .d p :: xs,ys,ls,i,v :: vs,h1,hr,ht=>by
  simp only[zDW] at h1
  split at h1
  ·rename_i ys' ls' h2
   simp only[dqa,dqh] at h1;obtain⟨rfl,rfl⟩:=h1
   obtain⟨i1,i2,i3⟩:=zvm S hle h2 hr.2 (λ t u hu hb=>by
    have:=ht (t+1) u (by simpa using hu) (by rw[show i+(t+1)=i+1+t by omega];exact hb)
    rw[show i+1+t=i+(t+1) by omega];exact this)
   exact⟨⟨zh6 hle hr.1,i1⟩,by simp only[xsK,xaK,List.nil_append];exact i2,i3⟩
  ·cases h1
 | .box ty cs :: xs,ys,ls,i,v :: vs,h1,hr,ht=>by
  simp only[zDW] at h1
  split at h1
  ·rename_i L ys' ls' hL h2
   split at h1
   ·rename_i y l ms hy
    simp only[dqa,dqh] at h1;obtain⟨rfl,rfl⟩:=h1
    obtain⟨i1,i2,i3⟩:=zvm S hle h2 hr.2 (λ t u hu hb=>by
     have:=ht (t+1) u (by simpa using hu) (by rw[show i+(t+1)=i+1+t by omega];exact dqf _ hb)
     rw[show i+1+t=i+(t+1) by omega];exact this)
    have hv:a.tmps.getD i undef=v:=ht 0 v rfl (by simp[zIx])
    obtain⟨j1,j2,j3⟩:=zCr S hy (S.env i _ hL)
    rw[hv] at j1 j2
    exact⟨⟨j1,i1⟩,by simp only[xsK,i2,j2,List.flatMap_append],λ M hM=>(dqg.1 hM).elim (j3 M) (i3 M)⟩
   ·cases h1
  ·cases h1

def zvn (P:Program) (h:Fz) (base:Nat) (w:World) (xs:List XA) (vs:List Value) (K:List PA->List XA->Prop) (e:Ending) (w':World):Prop :=
 ∃ (h':Fz) (v:Value) (rs:List PA) (ys:List XA),K rs ys/\e=.returned v/\zl9 h' rs v/\RL (xaR P h' w' base) ys vs/\(xsK w' ys vs).Nodup /\
   (∀ b∈xsK w' ys vs,(b∈xsK w xs vs\/w.heap.size<=b)/\h' b=none)/\Fle h h'/\Hw h' w'/\(∀ b o,h' b=some o->h b=some o\/w.heap.size<=b\/b∈xsK w xs vs)/\BelX h (xsK w xs vs) w w'
theorem zvo {G : Ctrs} (hok : OkAll P G) {f : FuncId} {ann : Ann} {xs : List XA} {K : List PA → List XA → Prop} {w : World} {h : Fz} {base : Nat} {vs : List Value} (hv : zkk P G ann f xs K) (hvs : RL (xaR P h w base) xs vs)
    (hn:(xsK w xs vs).Nodup) (hK:∀ b∈xsK w xs vs,base<=b/\h b=none) (hw:Hw h w) (hgl:zeh h) (hB:base<=w.heap.size) :
    Calls P f vs.toArray w (zvn P h base w xs vs K):=by
  unfold zkk at hv
  split at hv
  · rename_i fn hfn
    split at hv
    · rename_i c hbody
      split at hv
      · rename_i hc
        simp only[dqm,Nat.ble_eq] at hc
        obtain⟨⟨⟨hnt,hlen⟩,hlab⟩,hdisj⟩:=hc
        obtain⟨g0,S⟩:=zDZ (P:=P) (dqc hnt) hlen hvs hn hK hw hgl hB (zeF hlab)
        have hwp:=zrH (B:=base) (w0:=w) hok ann c none 0 (pinned h (xsK w xs vs) w) (zfX c) _ (zle P fn xs K) _ _ _ _ (λ _ h=>h) (Rnd.none _) hv S (Kp.refl _ _)
        refine (callsIn_wide (n:=0)).1 ?_
        refine callsIn_of_wp_marks (F:=FR none) hfn hbody trivial (wpIn_mono hwp ?_)
        have h0b:∀ b,pinned h (xsK w xs vs) w b=some (.fz (.deferred (some [])))->b < base:=λ b hb=>by
          rcases zcg (h:=h) (K:=xsK w xs vs) (w:=w) b with ⟨o,h1,h2,h3⟩ | ⟨_,_,h2⟩ | ⟨_,_,h2⟩
          · rw [h2] at hb; simp only [dqa] at hb; subst hb
            rcases h3 with ⟨C,ty,fr,e⟩ | ⟨F,e⟩ | ⟨es,c,e⟩ <;> cases e
          · rw[h2] at hb;cases hb
          · rw [h2] at hb
            obtain⟨o,_,e⟩:=dqv.1 hb
            cases e
        rintro e a' w' ⟨g',σ',hK',S',hkp⟩
        have fin:zDA P fn xs K σ'->LeavesInM (FR none) 0 P fn a'.tmps (zvn P h base w xs vs K) a'.defers .returning w':=by
          intro hf
          obtain⟨Ds,h1,h2,h3,h4⟩:=S'.dfr
          refine zki h0b Ds g' a' w' h1 h2 h3 h4 S' λ g2 a2 w2 ht S2=>?_
          unfold zDA at hf
          split at hf
          · rename_i l u hl
            split at hf
            · rename_i ys ls ho
              split at hf
              · rename_i hnl
                obtain⟨v,hu,hrun,hres⟩:=zoe S2 hl
                obtain⟨h3',S3,F⟩:=S2.freeze hu
                have hle3:∀ p x,Rep h p x->Rep h3' p x:=λ p x hr=>(zh5 (K:=xsK w xs vs) (w:=w) hr).mono S3.le0
                obtain⟨o1,o2,o3⟩:=zvm S3 (w1:=w) hle3 ho hvs (λ t u hu hb=>by
                  rw[Nat.zero_add] at hb ⊢
                  rw[ht,hkp.1 t (λ hd=>by
                    have:=List.all_eq_true.1 hdisj t hb
                    simp at this;exact this hd)]
                  have hlt:=(dqn.1 hu).1
                  rw[dql,Array.getElem?_append_left (by simpa using hlt)]
                  simp[hu])
                let h':Fz:=λ b=>match h3' b with | some (.pin _)=>h b | x=>x
                have hnp:∀ b o,h3' b=some o->(∀ x,o ≠ .pin x)->h' b=some o:=λ b o hb hx=>by
                  show (match h3' b with | some (.pin _)=>h b | x=>x)=some o
                  rw[hb]
                  cases o with
                  | pin x=>exact (hx x rfl).elim
                  | _=>rfl
                have hpn:∀ b x,h3' b=some (.pin x)->h' b=h b:=λ b x hb=>by
                  show (match h3' b with | some (.pin _)=>h b | x=>x)=h b
                  rw[hb]
                have hnn:∀ b,h3' b=none->h' b=none:=λ b hb=>by
                  show (match h3' b with | some (.pin _)=>h b | x=>x)=none
                  rw[hb]
                have hrep:∀ p x,Rep h3' p x->Rep h' p x:=λ p x hr=>hr.mono' λ b o hb ho=>hnp b o hb λ x e=>by
                  subst e;rcases ho with ⟨C,ty,fr,e⟩ | ⟨F,e⟩ | ⟨es,c,e⟩ <;> cases e
                have hpin:∀ b y,pinned h (xsK w xs vs) w b=some y->h3' b=some y:=λ b y hb=>S3.le0 b y hb
                have hlt:∀ b,b < w.heap.size->∃ o,w.heap[b]? = some o:=λ b hb=>⟨_,Array.getElem?_eq_getElem hb⟩
                have hnd:=zeF hnl
                refine⟨v,hrun,h',v,l,ys,hf,rfl,zBj hrep (hres h3' F),o1.mono λ _ _=>zDY hrep,by rw[o2];exact zjM S3 hnd,λ b hb=>?_,λ b x hb=>?_,λ b x hb=>?_,λ b x hb=>?_,⟨S3.below.os,S3.below.tape,S3.below.output,S3.below.size,S3.below.drawn,λ k hk hkK hF=>?_⟩⟩
                · rw [o2] at hb
                  obtain⟨L,hL,hb⟩:=dqo.1 hb
                  unfold kB at hb
                  split at hb
                  · rename_i o' ho'
                    have hob:base<=b/\h3' b=none:=S3.own L o' b ho' (zrr hb)
                    refine⟨?_,hnn b hob.2⟩
                    by_cases hbs:b < w.heap.size
                    · refine .inl ?_
                      rcases zcg (h:=h) (K:=xsK w xs vs) (w:=w) b with ⟨o,_,h2,_⟩ | ⟨_,h2,_⟩ | ⟨_,_,h2⟩
                      · have:=hpin b _ h2;rw[hob.2] at this;cases this
                      · exact h2
                      · obtain ⟨o, ho⟩ := hlt b hbs
                        rw[ho] at h2
                        have:=hpin b _ h2;rw[hob.2] at this;cases this
                    · exact .inr (by omega)
                  · simp at hb
                · rcases zcg (h := h) (K := xsK w xs vs) (w := w) b with ⟨o, h1, h2, h3⟩ | ⟨_, h2, _⟩ | ⟨_, _, h2⟩
                  · rw [h1] at hb; simp only [dqa] at hb; subst hb
                    exact hnp b _ (hpin b _ h2) λ x e=>by subst e;rcases h3 with ⟨C,ty,fr,e⟩ | ⟨F,e⟩ | ⟨es,c,e⟩ <;> cases e
                  · rw[(hK b h2).2] at hb;cases hb
                  · obtain ⟨o, ho⟩ := hlt b (hw.lt hb)
                    rw[ho] at h2
                    rw[hpn b _ (hpin b _ h2)];exact hb
                · cases h3b:h3' b with
                  | none=>rw[hnn b h3b] at hb;cases hb
                  | some y =>
                    by_cases hy:∃ o,y=.pin o
                    · obtain ⟨o, rfl⟩ := hy
                      rw[hpn b _ h3b] at hb
                      rcases zcg (h:=h) (K:=xsK w xs vs) (w:=w) b with ⟨o',h1,h2,h3⟩ | ⟨_,h2,_⟩ | ⟨_,_,h2⟩
                      · have := hpin b _ h2
                        rw[h3b] at this;simp only[dqa] at this;subst this
                        rcases h3 with ⟨C,ty,fr,e⟩ | ⟨F,e⟩ | ⟨es,c,e⟩ <;> cases e
                      · rw[(hK b h2).2] at hb;cases hb
                      · obtain ⟨o1, ho1, hx1⟩ := hw b x hb
                        rw[ho1] at h2
                        have:=hpin b _ h2
                        rw[h3b] at this;simp only[dqa,FzO.pin.injEq] at this;subst this
                        obtain⟨o2,ho2,hx2⟩:=S3.hw b _ h3b
                        simp only[FzO.ok] at hx2;subst hx2
                        exact⟨_,ho2,hx1⟩
                    · rw [hnp b y h3b fun x e => hy ⟨x, e⟩] at hb
                      simp only[dqa] at hb;subst hb
                      exact S3.hw b _ h3b
                · cases h3b:h3' b with
                  | none=>rw[hnn b h3b] at hb;cases hb
                  | some y =>
                    by_cases hy:∃ o,y=.pin o
                    · obtain ⟨o, rfl⟩ := hy
                      rw[hpn b _ h3b] at hb
                      exact .inl hb
                    · rw [hnp b y h3b fun x e => hy ⟨x, e⟩] at hb
                      simp only[dqa] at hb;subst hb
                      by_cases hbs:b < w.heap.size
                      · rcases zcg (h := h) (K := xsK w xs vs) (w := w) b with ⟨o', h1, h2, h3⟩ | ⟨_, h2, _⟩ | ⟨_, _, h2⟩
                        · have := hpin b _ h2
                          rw[h3b] at this;simp only[dqa] at this;subst this
                          exact .inl h1
                        · exact .inr (.inr h2)
                        · obtain ⟨o, ho⟩ := hlt b hbs
                          rw[ho] at h2
                          have:=hpin b _ h2
                          rw[h3b] at this;simp only[dqa] at this
                          exact (hy ⟨_,this⟩).elim
                      · exact .inr (.inl (by omega))
                · rcases zcg (h := h) (K := xsK w xs vs) (w := w) k with ⟨o', h1, h2, h3⟩ | ⟨_, h2, _⟩ | ⟨_, _, h2⟩
                  · rcases h3 with ⟨C, ty, fr, rfl⟩ | ⟨F, rfl⟩ | ⟨es, c, rfl⟩
                    · rw[S3.hw.fz (hpin k _ h2),hw.fz h1]
                    · exact (hF F h1).elim
                    · rw[S3.hw.fz (hpin k _ h2),hw.fz h1]
                  · exact (hkK h2).elim
                  · obtain ⟨o, ho⟩ := hlt k hk
                    rw[ho] at h2 ⊢
                    obtain⟨o2,ho2,hx2⟩:=S3.hw k _ (hpin k _ h2)
                    simp only[FzO.ok] at hx2;subst hx2
                    exact ho2
              · exact hf.elim
            · exact hf.elim
          · exact hf.elim
        cases e with
        | normal=>exact fin hK'
        | ret=>exact fin hK'
        | exit id=>exact hK'.elim
        | goto l=>exact hK'.elim
        | panic ch=>exact hK'.elim
        | outgrown=>exact hK'.elim
      · exact hv.elim
    · exact hv.elim
  · exact hv.elim
theorem zvp {G : Ctrs} (hok : OkAll P G) {f : FuncId} {C : MK} (hc : zar P f)
    (h:∀ xs safe rs ys,C xs=some (safe,rs,ys)->safe->∀ K:List PA->List XA->Prop,K rs ys->∃ memo vv ann,zkk P { G with memo:=memo,vv:=vv } ann f xs K):zi7 P f C:=by
  intro xs ys safe rs hC hs w h0 base vs hvs hn hK hw hgl hB
  obtain⟨memo,vv,ann,hv⟩:=h xs safe rs ys hC hs (λ l zs=>l=rs/\zs=ys) ⟨rfl,rfl⟩
  refine⟨hc,(zvo (G:={ G with memo:=memo,vv:=vv }) ⟨hok.mt,hok.fn,hok.own,hok.it,hok.cmp⟩ hv hvs hn hK hw hgl hB).mono ?_⟩
  rintro e w' ⟨h',v,rs',ys',⟨rfl,rfl⟩,r⟩
  exact⟨h',v,r⟩
end
end Go.Pm
