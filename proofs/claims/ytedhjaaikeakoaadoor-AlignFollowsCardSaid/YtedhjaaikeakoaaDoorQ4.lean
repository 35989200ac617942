/- Part 4 of what the proof rests on: a machine that runs functions of the program on pure values, proved sound; the functions that the law reaches, and what they compute. -/
import Derived.Test.YtedhjaaikeakoaaDoorQ3
set_option linter.all false
namespace Go.Pm
open Go.RowKit (Below)

def zu9 (i j:Nat):Nat:=i+4096 * (j+1)
def zBP : Nat → List XA → List (Nat × DV)
  | _,[]=>[]
  | i,.d a :: r=>(i,.one (paD a)) :: zBP (i+1) r
  | i,.box _ _ :: r=>(i,.cl (.ptr i 0)) :: zBP (i+1) r
def zgP (i : Nat) : Nat → List XC → List Cl
  | _,[]=>[]
  | j,.p v :: r=>.p v :: zgP i (j+1) r
  | j,.vec _ _ _ _ _ :: r=>.vec (zu9 i j) :: zgP i (j+1) r
  | j,.mo _ _ _ _ _ :: r=>.mo (zu9 i j) :: zgP i (j+1) r
def zfH (i : Nat) : Nat → List XC → List (Nat × AO)
  | _,[]=>[]
  | j,.p _ :: r=>zfH i (j+1) r
  | j,.vec e s b n get :: r=>(zu9 i j,.vec e s b n get) :: zfH i (j+1) r
  | j,.mo kt vt q n F :: r=>(zu9 i j,.mo kt vt q n F) :: zfH i (j+1) r
def zdy : Nat → List XA → List (Nat × AO)
  | _,[]=>[]
  | i,.d _ :: r=>zdy (i+1) r
  | i,.box ty cs :: r=>(i,.box ty (zgP i 0 cs)) :: (zfH i 0 cs ++ zdy (i+1) r)
def zIz : Nat → List XA → List Nat
  | _,[]=>[]
  | i,.d _ :: r=>zIz (i+1) r
  | i,.box _ _ :: r=>i :: zIz (i+1) r

section
variable (P:Program)
def zo0 (σ : St) : List ResultVar → Option (List PA × List (Nat × AO))
  | []=>some ([],[])
  | .tmp t :: r=>match lk σ.env t with
    | some d=>match zp0 (lk σ.objs) d,zo0 σ r with
      | some (x,u),some (l,us)=>some (x :: l,u ++ us)
      | _,_=>none
    | none=>none
  | .cell t ty :: r=>match lk σ.env t,zeU P ty,szT P ty with
    | some (.one (.c (.ptr L off))),some g,some n=>match lk σ.objs L with
      | some (.box _ cells)=>match zgK g n cells off with
        | some d=>match zp0 (lk σ.objs) (.one d),zo0 σ r with
          | some (x,u),some (l,us)=>some (x :: l,u ++ us)
          | _,_=>none
        | none=>none
      | _=>none
    | _,_,_=>none
def zEx (ob : Nat → Option AO) (env : List (Nat × DV)) : Nat → List XA → Option (List XA × List Nat)
  | _,[]=>some ([],[])
  | i,.d a :: r=>match zEx ob env (i+1) r with
    | some (ys,ls)=>some (.d a :: ys,ls)
    | none=>none
  | i,.box _ _ :: r=>match lk env i,zEx ob env (i+1) r with
    | some (.one (.c (.ptr L 0))),some (ys,ls)=>match zp1 ob (.one (.c (.ptr L 0))) with
      | some (y,l,_)=>some (y :: ys,l ++ ls)
      | none=>none
    | _,_=>none
def zEc (fn:Func) (xs:List XA) (K:List PA→List XA→Prop) (σ:St):Prop :=
 match zo0 P σ fn.results.toList with
 | some (l,u)=>match zEx (lk (u ++ σ.objs)) σ.env 0 xs with
  | some (ys,ls)=>match zl2 ls with
   | true=>K l ys
   | false=>False
  | none=>False
 | none=>False
def zlY (fn : Func) (xs : List XA) (K : List PA → List XA → Prop) : Exit → St → Prop
  | .ret,σ=>zEc P fn xs K σ
  | .normal,σ=>zEc P fn xs K σ
  | _,_=>False
def zkD (Γ:Ctrs) (ann:Ann) (f:FuncId) (xs:List XA) (K:List PA→List XA→Prop):Prop :=
 match P.funcs[f]? with
 | some fn=>match fn.body with
  | some c=>match Nat.beq ann.nt fn.ntmps && Nat.ble xs.length ann.nt && zl2 ((zdy 0 xs).map (·.1)) && zMI (zIz 0 xs) (zht c) with
   | true=>vc P Γ ann c (zlY P fn xs K) ⟨zBP 0 xs,zdy 0 xs,[]⟩
   | false=>False
  | none=>False
 | none=>False
end

section
variable {P:Program} {Γ:Ctrs}

def znp (w:World) (v:Value):List Value:=match v with
 | .pointer (some a)=>match w.heap[a.block]? with
  | some (.cells C _ _)=>C.toList
  | _=>[]
 | _=>[]
def xVV (i : Nat) : Nat → List XC → List Value → List (Nat × Value)
  | j,.p _ :: r,_ :: vs=>xVV i (j+1) r vs
  | j,.vec _ _ _ _ _ :: r,v :: vs=>(zu9 i j,v) :: xVV i (j+1) r vs
  | j,.mo _ _ _ _ _ :: r,v :: vs=>(zu9 i j,v) :: xVV i (j+1) r vs
  | _,_,_=>[]
def zkE (w : World) : Nat → List XA → List Value → List (Nat × Value)
  | i,.d _ :: r,_ :: vs=>zkE w (i+1) r vs
  | i,.box _ cs :: r,v :: vs=>(i,v) :: (xVV i 0 cs (znp w v) ++ zkE w (i+1) r vs)
  | _,_,_=>[]
def zKY : Value → Nat
  | .pointer (some a)=>a.block
  | _=>0

section start
variable {h:Fz} {w:World} {B:Nat} {g:Gh} (hle:∀ p x,Rep h p x→Rep g.h p x)
include hle
theorem zBQ {i:Nat} : ∀ {cs:List XC} {j:Nat} {vs:List Value},RL (xcR P h w B) cs vs→(∀ x∈xVV i j cs vs,g.sv x.1=x.2) →
  RL (clR g) (zgP i j cs) vs∧(∀ x∈zfH i j cs,zC5 x.2∧zbT x.2=[]∧aoR P g w B x.1 x.2)∧zs5 cs vs=(zfH i j cs).flatMap (fun x=>kO g x.1 x.2)∧(xVV i j cs vs).map (·.1)=(zfH i j cs).map (·.1) ∧
   ∀ M∈(zgP i j cs).flatMap zaM,M∈(zfH i j cs).map (·.1)
 | [],j,[],_,_=>⟨trivial,fun x hx=>by simp [zfH] at hx,rfl,rfl,fun M hM=>by simp [zgP] at hM⟩
 | [],_,_ :: _,hr,_=>hr.elim
 | _ :: _,_,[],hr,_=>hr.elim
 | .p p :: cs,j,v :: vs,hr,hs=>by
  obtain ⟨i1,i2,i3,i4,i5⟩:=zBQ (j:=j+1) hr.2 hs
  exact ⟨⟨hle _ _ hr.1,i1⟩,i2,by simp only [zs5,xcK,List.nil_append];exact i3,i4,fun M hM=>i5 M (by simpa [zgP,zaM] using hM)⟩
 | .vec e s b n get :: cs,j,v :: vs,hr,hs=>by
  obtain ⟨i1,i2,i3,i4,i5⟩:=zBQ (j:=j+1) hr.2 (fun x hx=>hs x (List.mem_cons_of_mem _ hx))
  have hv:g.sv (zu9 i j)=v:=hs (zu9 i j,v) List.mem_cons_self
  obtain ⟨h1,h2,h3,xs,hx,hx2⟩:=hr.1
  refine ⟨⟨⟨hv.symm,h1⟩,i1⟩,fun x hx=>?_,?_,by simp [xVV,zfH,i4],fun M hM=>?_⟩
  ·rcases List.mem_cons.1 hx with e1 | hx
   ·subst e1
    refine ⟨trivial,rfl,h2,h3,xs,?_,fun q hq=>(hx2 q hq).mono hle⟩
    show w.ownsRow B e s (g.sv (zu9 i j)) n xs
    rw [hv];assumption
   ·exact i2 x hx
  ·simp only [zs5,xcK,zfH,List.flatMap_cons,kO,hv,i3]
  ·simp only [zgP, List.flatMap_cons, List.mem_append, zaM, List.mem_singleton] at hM
   simp only [zfH,List.map_cons,List.mem_cons]
   exact hM.imp_right (i5 M)
 | .mo kt vt q n F :: cs,j,v :: vs,hr,hs=>by
  obtain ⟨i1,i2,i3,i4,i5⟩:=zBQ (j:=j+1) hr.2 (fun x hx=>hs x (List.mem_cons_of_mem _ hx))
  have hv:g.sv (zu9 i j)=v:=hs (zu9 i j,v) List.mem_cons_self
  obtain ⟨b,es,clock,rfl,h2,h3⟩:=hr.1
  have hb:zc0 (g.sv (zu9 i j))=b:=by rw [hv];rfl
  refine ⟨⟨by show Value.map (some b)=.map (some (zc0 (g.sv (zu9 i j))));rw [hb],i1⟩,fun x hx=>?_,?_,by simp [xVV,zfH,i4],fun M hM=>?_⟩
  ·rcases List.mem_cons.1 hx with e1 | hx
   ·subst e1
    exact ⟨trivial,rfl,es,clock,by rw [hb];exact h2,h3⟩
   ·exact i2 x hx
  ·simp only [zs5,xcK,zfH,List.flatMap_cons,kO,hb,i3];rfl
  ·simp only [zgP, List.flatMap_cons, List.mem_append, zaM, List.mem_singleton] at hM
   simp only [zfH,List.map_cons,List.mem_cons]
   exact hM.imp_right (i5 M)
theorem zqH:∀ {xs:List XA} {i:Nat} {vs:List Value},RL (xaR P h w B) xs vs→(∀ x∈zkE w i xs vs,g.sv x.1=x.2∧g.bk x.1=zKY x.2) →
  (∀ x∈zdy i xs,zC5 x.2∧(∀ M∈zbT x.2,M∈(zdy i xs).map (·.1))∧aoR P g w B x.1 x.2)∧xsK w xs vs=(zdy i xs).flatMap (fun x=>kO g x.1 x.2)∧(zkE w i xs vs).map (·.1)=(zdy i xs).map (·.1)
 | [],i,[],_,_=>⟨fun x hx=>by simp [zdy] at hx,rfl,rfl⟩
 | [],_,_ :: _,hr,_=>hr.elim
 | _ :: _,_,[],hr,_=>hr.elim
 | .d a :: xs,i,v :: vs,hr,hs=>by
  obtain ⟨i1,i2,i3⟩:=zqH (i:=i+1) hr.2 hs
  exact ⟨i1,by simp only [xsK,xaK,List.nil_append];exact i2,i3⟩
 | .box ty cs :: xs,i,v :: vs,hr,hs=>by
  obtain ⟨i1,i2,i3⟩:=zqH (i:=i+1) hr.2 (fun x hx=>hs x (List.mem_cons_of_mem _ (List.mem_append.2 (.inr hx))))
  obtain ⟨k,C,rfl,hC,hrl⟩:=hr.1
  have hca:znp w (.pointer (some ⟨k,0,none⟩))=C.toList:=by simp only [znp,hC]
  obtain ⟨j1,j2,j3,j4,j5⟩:=zBQ (i:=i) (j:=0) hle hrl (fun x hx=>(hs x (List.mem_cons_of_mem _ (List.mem_append.2 (.inl (by rw [hca];exact hx))))).1)
  have hb:g.bk i=k:=(hs (i,_) List.mem_cons_self).2
  refine ⟨fun x hx=>?_,?_,?_⟩
  ·simp only [zdy] at hx
   rcases List.mem_cons.1 hx with e | hx
   ·subst e
    refine ⟨trivial,fun M hM=>?_,C,by rw [hb];exact hC,j1⟩
    simp only [zdy,List.map_cons,List.map_append,List.mem_cons,List.mem_append]
    exact .inr (.inl (j5 M hM))
   ·rcases List.mem_append.1 hx with hx | hx
    ·obtain ⟨q1, q2, q3⟩ := j2 x hx
     exact ⟨q1,fun M hM=>by rw [q2] at hM;simp at hM,q3⟩
    ·obtain ⟨q1, q2, q3⟩ := i1 x hx
     refine ⟨q1,fun M hM=>?_,q3⟩
     simp only [zdy,List.map_cons,List.map_append,List.mem_cons,List.mem_append]
     exact .inr (.inr (q2 M hM))
  ·simp only [xsK,xaK,hC,zdy,List.flatMap_cons,List.flatMap_append,kO,hb,j3,i2];simp
  ·simp only [zkE,zdy,List.map_cons,List.map_append,hca,j4,i3]
end start

theorem zqI : ∀ (xs : List XA) (i t : Nat) (d : DV), lk (zBP i xs) t = some d → ∃ x, xs[t - i]? = some x ∧ i ≤ t ∧ d = match x with | .d a => .one (paD a) | .box _ _ => .cl (.ptr t 0)
  | [],i,t,d,h=>by simp [zBP,lk] at h
  | x :: r,i,t,d,h=>by
    have key:lk (zBP (i+1) r) t=some d→i ≠ t→∃ y,(x :: r)[t - i]? = some y∧i≤t∧d=match y with | .d a=>.one (paD a) | .box _ _=>.cl (.ptr t 0):=fun h hne=>by
      obtain ⟨y,h1,h2,h3⟩:=zqI r (i+1) t d h
      refine ⟨y,?_,by omega,h3⟩
      rw [show t - i=(t - (i+1))+1 by omega,List.getElem?_cons_succ];exact h1
    cases x with
    | d a =>
      simp only [zBP] at h
      rw [zaC] at h
      split at h
      · rename_i e;subst e;simp only [Option.some.injEq] at h;exact ⟨.d a,by simp,Nat.le_refl _,h.symm⟩
      · rename_i e;exact key h e
    | box ty cs =>
      simp only [zBP] at h
      rw [zaC] at h
      split at h
      · rename_i e;subst e;simp only [Option.some.injEq] at h;exact ⟨.box ty cs,by simp,Nat.le_refl _,h.symm⟩
      · rename_i e;exact key h e
theorem zo1 : ∀ {xs : List XA} {i t : Nat} {ty : Nat} {cs : List XC}, xs[t - i]? = some (.box ty cs) → i ≤ t → t ∈ (zdy i xs).map (·.1)
  | [],i,t,ty,cs,h,_=>by simp at h
  | x :: xs,i,t,ty,cs,h,hi=>by
    by_cases e:t=i
    · subst e
      simp at h;subst h
      simp [zdy]
    · rw [show t - i = (t - (i + 1)) + 1 by omega, List.getElem?_cons_succ] at h
      have:=zo1 (i:=i+1) h (by omega)
      cases x with
      | d a=>exact this
      | box ty' cs' =>
        simp only [zdy,List.map_cons,List.map_append,List.mem_cons,List.mem_append]
        exact .inr (.inr this)
theorem zo2 {w : World} : ∀ {xs : List XA} {i t : Nat} {ty : Nat} {cs : List XC} {vs : List Value} {v : Value}, xs[t - i]? = some (.box ty cs) → vs[t - i]? = some v → i ≤ t → (t, v) ∈ zkE w i xs vs
  | [],i,t,ty,cs,vs,v,h,_,_=>by simp at h
  | _ :: _,i,t,ty,cs,[],v,_,h,_=>by simp at h
  | x :: xs,i,t,ty,cs,u :: vs,v,h,h2,hi=>by
    by_cases e:t=i
    · subst e
      simp at h h2;subst h h2
      simp [zkE]
    · rw [show t - i = (t - (i + 1)) + 1 by omega, List.getElem?_cons_succ] at h h2
      have:=zo2 (w:=w) (i:=i+1) h h2 (by omega)
      cases x with
      | d a=>exact this
      | box ty' cs' =>
        simp only [zkE,List.mem_cons,List.mem_append]
        exact .inr (.inr this)

def pinned (h:Fz) (K:List Nat) (w:World):Fz:=fun b =>
 match h b with
 | some (.inv F)=>some (.inv F)
 | some (.fz (.cells C ty fr))=>some (.fz (.cells C ty fr))
 | some (.fz (.map es c))=>some (.fz (.map es c))
 | _=>match K.contains b with
  | true=>none
  | false=>(w.heap[b]?).map .pin
theorem zkF {h:Fz} {K:List Nat} {w:World} {b:Nat} {o:FzO} (hb:h b=some o) (ho:(∃ C ty fr,o=.fz (.cells C ty fr))∨(∃ F,o=.inv F)∨(∃ es c,o=.fz (.map es c))):pinned h K w b=some o:=by
 rcases ho with ⟨C,ty,fr,rfl⟩ | ⟨F,rfl⟩ | ⟨es,c,rfl⟩ <;> simp only [pinned,hb]
def zMM (h:Fz) (K:List Nat) (w:World) (b:Nat):Prop :=
 (∃ o, h b = some o ∧ pinned h K w b = some o ∧ ((∃ C ty fr, o = .fz (.cells C ty fr)) ∨ (∃ F, o = .inv F) ∨ (∃ es c, o = .fz (.map es c)))) ∨
  ((∀ F,h b ≠ some (.inv F))∧b∈K∧pinned h K w b=none)∨((∀ F,h b ≠ some (.inv F))∧b ∉ K∧pinned h K w b=(w.heap[b]?).map .pin)
theorem zg5 {h:Fz} {K:List Nat} {w:World} {b:Nat} (hF:∀ F,h b ≠ some (.inv F)) (e:pinned h K w b=(match K.contains b with | true=>none | false=>(w.heap[b]?).map .pin)):zMM h K w b:=by
 cases hk:K.contains b with
 | true=>rw [hk] at e;exact .inr (.inl ⟨hF,by simpa using hk,e⟩)
 | false=>rw [hk] at e;exact .inr (.inr ⟨hF,by simpa using hk,e⟩)
theorem zcz {h:Fz} {K:List Nat} {w:World} (b:Nat):zMM h K w b:=by
 cases hb:h b with
 | none=>exact zg5 (fun F e=>by rw [hb] at e;cases e) (by simp only [pinned,hb])
 | some o =>
  cases o with
  | inv F=>exact .inl ⟨_,hb,by simp only [pinned,hb],.inr (.inl ⟨F,rfl⟩)⟩
  | pin o=>exact zg5 (fun F e=>by rw [hb] at e;cases e) (by simp only [pinned,hb])
  | fz o =>
   cases o with
   | cells C ty fr=>exact .inl ⟨_,hb,by simp only [pinned,hb],.inl ⟨C,ty,fr,rfl⟩⟩
   | map es c=>exact .inl ⟨_,hb,by simp only [pinned,hb],.inr (.inr ⟨es,c,rfl⟩)⟩
   | _=>exact zg5 (fun F e=>by rw [hb] at e;cases e) (by simp only [pinned,hb])
theorem zih {h:Fz} {K:List Nat} {w:World} {p:PV} {x:Value} (hr:Rep h p x):Rep (pinned h K w) p x:=hr.mono' fun _ _ hb ho=>zkF hb ho
theorem zwR {h:Fz} {K:List Nat} {w:World} (H:Hw h w):Hw (pinned h K w) w:=by
 intro b x hb
 rcases zcz (h:=h) (K:=K) (w:=w) b with ⟨o,h1,h2,_⟩ | ⟨_,_,h2⟩ | ⟨_,_,h2⟩
 ·rw [h2] at hb;simp only [Option.some.injEq] at hb;subst hb;exact H b _ h1
 ·rw [h2] at hb;cases hb
 ·rw [h2] at hb
  obtain ⟨o,ho,rfl⟩:=Option.map_eq_some_iff.1 hb
  exact ⟨o,ho,rfl⟩

theorem zwS {h:Fz} {K:List Nat} {w:World} (H:zer h):zer (pinned h K w):=fun k l hk=>by
 obtain ⟨C,ty,fr,h1,h2⟩:=H k l hk
 exact ⟨C,ty,fr,zkF h1 (.inl ⟨_,_,_,rfl⟩),h2.mono fun _ _ r=>zih r⟩
theorem zii {h h':Fz} (hle:∀ p x,Rep h p x→Rep h' p x) {a:PA} {v:Value} (hr:paR h a v):paR h' a v:=by
 cases a with
 | one p=>exact hle _ _ hr
 | agg cs=>obtain ⟨vs,rfl,hr⟩:=hr;exact ⟨vs,rfl,hr.mono hle⟩
theorem zBR {h h':Fz} (hle:∀ p x,Rep h p x→Rep h' p x) {rs:List PA} {v:Value} (hr:zod h rs v):zod h' rs v:=by
 match rs,hr with
 | [],⟨vs,e,r⟩=>exact ⟨vs,e,r.mono fun _ _=>zii hle⟩
 | [x],hr=>exact zii hle hr
 | x :: y :: l,⟨vs,e,r⟩=>exact ⟨vs,e,r.mono fun _ _=>zii hle⟩
theorem zEy {h h':Fz} {w:World} {B:Nat} (hle:∀ p x,Rep h p x→Rep h' p x) {c:XC} {v:Value} (hr:xcR P h w B c v):xcR P h' w B c v:=by
 cases c with
 | p v=>exact hle _ _ hr
 | vec e s b n get=>obtain ⟨h1,h2,h3,xs,h4,h5⟩:=hr;exact ⟨h1,h2,h3,xs,h4,fun q hq=>(h5 q hq).mono hle⟩
 | mo kt vt q n F=>exact hr
theorem zEz {h h':Fz} {w:World} {B:Nat} (hle:∀ p x,Rep h p x→Rep h' p x) {c:XA} {v:Value} (hr:xaR P h w B c v):xaR P h' w B c v:=by
 cases c with
 | d a=>exact zii hle hr
 | box ty cs=>obtain ⟨k,C,h1,h2,h3⟩:=hr;exact ⟨k,C,h1,h2,h3.mono fun _ _=>zEy hle⟩

theorem zEA {nt m : Nat} {xs : List XA} {w : World} {h : Fz} {B : Nat} {vs : List Value} (hnt : nt = m) (hlen : xs.length ≤ nt) (hvs : RL (xaR P h w B) xs vs) (hn : (xsK w xs vs).Nodup)
    (hK:∀ b∈xsK w xs vs,B≤b∧h b=none) (hw:Hw h w) (hgl:zer h) (hB:B≤w.heap.size) (hlab:((zdy 0 xs).map (·.1)).Nodup) :
    ∃ g,Sim P nt B w (pinned h (xsK w xs vs) w) g ⟨zBP 0 xs,zdy 0 xs,[]⟩ { tmps:=vs.toArray ++ Array.replicate (m - vs.toArray.size) undef,defers:=[] } w:=by
  let nv:=zkE w 0 xs vs
  let h0:=pinned h (xsK w xs vs) w
  let g:Gh:=⟨h0,fun L=>zKY ((lk nv L).getD undef),fun L=>(lk nv L).getD undef,fun _ _=>undef⟩
  have hle:∀ p x,Rep h p x→Rep g.h p x:=fun p x hr=>zih hr
  have hkeys:nv.map (·.1)=(zdy 0 xs).map (·.1):=by
    have:∀ {xs:List XA} {i:Nat} {vs:List Value},RL (xaR P h w B) xs vs→(zkE w i xs vs).map (·.1)=(zdy i xs).map (·.1):=by
      intro xs
      induction xs with
      | nil=>intro i vs hr;cases vs with
        | nil=>rfl
        | cons=>exact hr.elim
      | cons x xs ih =>
        intro i vs hr
        cases vs with
        | nil=>exact hr.elim
        | cons v vs =>
          cases x with
          | d a=>exact ih hr.2
          | box ty cs =>
            obtain ⟨k,C,rfl,hC,hrl⟩:=hr.1
            have hv:∀ {cs:List XC} {j:Nat} {vs:List Value},RL (xcR P h w B) cs vs→(xVV i j cs vs).map (·.1)=(zfH i j cs).map (·.1):=by
              intro cs
              induction cs with
              | nil=>intro j vs hr;cases vs with
                | nil=>rfl
                | cons=>exact hr.elim
              | cons c cs ih2 =>
                intro j vs hr
                cases vs with
                | nil=>exact hr.elim
                | cons v vs=>cases c with
                  | p q=>exact ih2 hr.2
                  | vec e s b n get=>simp only [xVV,zfH,List.map_cons];rw [ih2 hr.2]
                  | mo kt vt q n F=>simp only [xVV,zfH,List.map_cons];rw [ih2 hr.2]
            simp only [zkE,zdy,List.map_cons,List.map_append,znp,hC]
            rw [hv hrl,ih hr.2]
    exact this hvs
  have hlkv:∀ x∈nv,lk nv x.1=some x.2:=fun x hx=>zj7 (by rw [hkeys];exact hlab) hx
  obtain ⟨o1,o2,o3⟩:=zqH (g:=g) (i:=0) hle hvs (fun x hx=>⟨by show (lk nv x.1).getD undef=x.2;rw [hlkv x hx];rfl,by show zKY ((lk nv x.1).getD undef)=_;rw [hlkv x hx];rfl⟩)
  have hmem:∀ L o,lk (zdy 0 xs) L=some o→(L,o)∈zdy 0 xs:=fun L o h=>zcc h
  have hl:=hvs.length
  have hblk:∀ L o b,lk (zdy 0 xs) L=some o→obk g L o b→b∈(zdy 0 xs).flatMap (fun x=>kO g x.1 x.2):=fun L o b hL hb=>List.mem_flatMap.2 ⟨_,hmem L o hL,zmh (o1 _ (hmem L o hL)).1 hb⟩
  refine ⟨g,Marks.nil _ _,by simp;omega,?_,fun L o hL=>(o1 _ (hmem L o hL)).2.2,?_,?_,zwR hw,fun _ _ h=>h,fun b o h=>.inl h,Bel.refl _ _ _,hB,?_,?_,?_⟩
  · intro t d ht
    obtain ⟨x,hx,_,rfl⟩:=zqI xs 0 t d ht
    obtain ⟨v,hv,hxv⟩:=hvs.get t x (by simpa using hx)
    have hlt:=(List.getElem?_eq_some_iff.1 hv).1
    have:(vs.toArray ++ Array.replicate (m - vs.toArray.size) undef).getD t undef=v:=by
      rw [Array.getD_eq_getD_getElem?,Array.getElem?_append_left (by simpa using hlt)]
      simp [hv]
    rw [this]
    cases x with
    | d a=>exact zwf (g:=g) (zii hle hxv)
    | box ty cs =>
      obtain ⟨k,C,rfl,hC,_⟩:=hxv
      have:=hlkv _ (zo2 (w:=w) (i:=0) hx (by simpa using hv) (Nat.zero_le _))
      show Value.pointer (some ⟨k,0,none⟩)=.pointer (some ⟨zKY ((lk nv t).getD undef),0,none⟩)
      rw [show lk nv t=some (.pointer (some ⟨k,0,none⟩)) from this];rfl
  · intro L o b hL hb
    have hbK:b∈xsK w xs vs:=by rw [o2];exact hblk L o b hL hb
    refine ⟨(hK b hbK).1,?_⟩
    show pinned h (xsK w xs vs) w b=none
    rcases zcz (h:=h) (K:=xsK w xs vs) (w:=w) b with ⟨o,h1,_⟩ | ⟨_,_,h2⟩ | ⟨_,h2,_⟩
    · rw [(hK b hbK).2] at h1;cases h1
    · exact h2
    · exact (h2 hbK).elim
  · intro L o b L' o' hL hL' hb hb'
    rw [o2] at hn
    have:=zj5 hn (L,o) (L',o') b (hmem L o hL) (hmem L' o' hL') (zmh (o1 _ (hmem L o hL)).1 hb) (zmh (o1 _ (hmem L' o' hL')).1 hb')
    exact congrArg Prod.fst this
  · intro t d ht L hL
    obtain ⟨x,hx,_,rfl⟩:=zqI xs 0 t d ht
    cases x with
    | d a=>rw [show za6 (.one (paD a))=zby (paD a) from rfl,zj4] at hL;simp at hL
    | box ty cs =>
      simp [za6,zby,zaM] at hL;subst hL
      exact zj8 (zo1 (i:=0) hx (Nat.zero_le _))
  · intro L o hL M hM
    exact zj8 ((o1 _ (hmem L o hL)).2.1 M hM)
  · exact zwS hgl

theorem zkG {nt B:Nat} {w0:World} {h0:Fz} {g:Gh} {σ:St} {a:Act} {w:World} (S:Sim P nt B w0 h0 g σ a w):∀ (rs:List ResultVar) (l:List PA) (u:Upd),zo0 P σ rs=some (l,u) →
  ∃ (vs:List Value),zdg (lk σ.objs) u∧(rs.mapM (resV a.tmps)).run P w=.ok vs w∧∀ (u':Upd) (h':Fz),(∀ y∈u,y∈u')→Frozen g (lk σ.objs) u' h'→RL (paR h') l vs
 | [],l,u,h=>by
  simp [zo0] at h;obtain ⟨rfl,rfl⟩:=h
  exact ⟨[],zdg.nil _,rfl,fun _ _ _ _=>trivial⟩
 | .tmp t :: r,l,u,h=>by
  simp only [zo0] at h
  split at h
  ·rename_i d hd
   split at h
   ·rename_i x u1 l2 u2 h1 h2
    simp only [Option.some.injEq,Prod.mk.injEq] at h;obtain ⟨rfl,rfl⟩:=h
    obtain ⟨vs,hu2,hrun,hr⟩:=zkG S r l2 u2 h2
    refine ⟨a.tmps.getD t undef :: vs,(zjV h1).append hu2,?_,fun u' h' hu F=>⟨F.repD h1 (fun y hy=>hu y (List.mem_append.2 (.inl hy))) (S.env t d hd),hr u' h' (fun y hy=>hu y (List.mem_append.2 (.inr hy))) F⟩⟩
    rw [List.mapM_cons]
    simp only [resV,Sem.run_bind,Sem.run_pure,Result.andThen_ok]
    rw [hrun];rfl
   ·cases h
  ·cases h
 | .cell t ty :: r,l,u,h=>by
  simp only [zo0] at h
  split at h
  ·rename_i L off ag m ht hg hs
   split at h
   ·rename_i ty' cells hL
    split at h
    ·rename_i d hd
     split at h
     ·rename_i x u1 l2 u2 h1 h2
      simp only [Option.some.injEq,Prod.mk.injEq] at h;obtain ⟨rfl,rfl⟩:=h
      obtain ⟨vs,hu2,hrun,hr⟩:=zkG S r l2 u2 h2
      obtain ⟨C,hC,hcr⟩:=S.obj L _ hL
      obtain ⟨v,hload,hv⟩:=zmX (P:=P) hg hs hC 0 (fun j y hj=>by obtain ⟨v,hv,hyv⟩:=hcr.get j y hj;exact ⟨v,by simpa using hv,hyv⟩) hd
      have hp:a.tmps.getD t undef=.pointer (some ⟨g.bk L,off,none⟩):=S.env t _ ht
      rw [Nat.zero_add] at hload
      refine ⟨v :: vs,(zjV h1).append hu2,?_,fun u' h' hu F=>⟨F.repD h1 (fun y hy=>hu y (List.mem_append.2 (.inl hy))) hv,hr u' h' (fun y hy=>hu y (List.mem_append.2 (.inr hy))) F⟩⟩
      have h1:(resV a.tmps (.cell t ty)).run P w=.ok v w:=by
       simp only [resV,Sem.run_bind,hp,zmv,Result.andThen_ok,hload]
      rw [List.mapM_cons]
      simp only [Sem.run_bind,h1,Result.andThen_ok]
      rw [hrun];rfl
     ·cases h
    ·cases h
   ·cases h
  ·cases h
theorem zo3 {nt B : Nat} {w0 : World} {h0 : Fz} {g : Gh} {σ : St} {a : Act} {w : World} (S : Sim P nt B w0 h0 g σ a w) {fn : Func} {l : List PA} {u : Upd} (h : zo0 P σ fn.results.toList = some (l, u)) :
  ∃ (v:Value),zdg (lk σ.objs) u∧(results fn a.tmps).run P w=.ok v w∧∀ (h':Fz),Frozen g (lk σ.objs) u h'→zod h' l v:=by
 obtain ⟨vs,hu,hrun,hr⟩:=zkG S fn.results.toList l u h
 refine ⟨if h:vs.toArray.size=1 then vs.toArray[0] else .tuple vs.toArray,hu,?_,fun h' F=>?_⟩
 ·have e : results fn a.tmps = (do let vs ← fn.results.mapM (resV a.tmps); pure (if h : vs.size = 1 then vs[0] else .tuple vs)) := rfl
  rw [e,Array.mapM_eq_mapM_toList]
  simp only [Sem.run_bind,Sem.run_map]
  rw [hrun]
  simp only [Result.andThen_ok,Sem.run_pure]
 ·have hrl := hr u h' (fun y hy => hy) F
  match l,vs,hrl with
  | [],[],_=>exact ⟨[],rfl,trivial⟩
  | [x],[v],hrl=>exact hrl.1
  | x :: y :: l,v :: v2 :: vs,hrl =>
   refine ⟨v :: v2 :: vs,?_,hrl⟩
   rw [dif_neg (by simp)]
  | [],_ :: _,hrl=>exact hrl.elim
  | [_],[],hrl=>exact hrl.elim
  | [_],_ :: _ :: _,hrl=>exact hrl.2.elim
  | _ :: _ :: _,[],hrl=>exact hrl.elim
  | _ :: _ :: _,[_],hrl=>exact hrl.2.elim

theorem zwT {nt B : Nat} {w0 : World} {h0 : Fz} {g : Gh} {σ : St} {a : Act} {w w1 : World} {h : Fz} (S : Sim P nt B w0 h0 g σ a w) (hle : ∀ p x, Rep h p x → Rep g.h p x) :
  ∀ {xs ys:List XA} {ls:List Nat} {i:Nat} {vs:List Value},zEx (lk σ.objs) σ.env i xs=some (ys,ls)→RL (xaR P h w1 B) xs vs→(∀ t v,vs[t]? = some v→i+t∈zIz i xs→a.tmps.getD (i+t) undef=v) →
  RL (xaR P g.h w B) ys vs∧xsK w ys vs=ls.flatMap (kB g (lk σ.objs))∧∀ L∈ls,isB (lk σ.objs) L
 | [],ys,ls,i,[],h1,_,_=>by
  simp only [zEx,Option.some.injEq,Prod.mk.injEq] at h1;obtain ⟨rfl,rfl⟩:=h1
  exact ⟨trivial,rfl,fun L hL=>by simp at hL⟩
 | [],_,_,_,_ :: _,_,hr,_=>hr.elim
 | _ :: _,_,_,_,[],_,hr,_=>hr.elim
 | .d p :: xs,ys,ls,i,v :: vs,h1,hr,ht=>by
  simp only [zEx] at h1
  split at h1
  ·rename_i ys' ls' h2
   simp only [Option.some.injEq,Prod.mk.injEq] at h1;obtain ⟨rfl,rfl⟩:=h1
   obtain ⟨i1,i2,i3⟩:=zwT S hle h2 hr.2 (fun t u hu hb=>by
    have:=ht (t+1) u (by simpa using hu) (by rw [show i+(t+1)=i+1+t by omega];exact hb)
    rw [show i+1+t=i+(t+1) by omega];exact this)
   exact ⟨⟨zii hle hr.1,i1⟩,by simp only [xsK,xaK,List.nil_append];exact i2,i3⟩
  ·cases h1
 | .box ty cs :: xs,ys,ls,i,v :: vs,h1,hr,ht=>by
  simp only [zEx] at h1
  split at h1
  ·rename_i L ys' ls' hL h2
   split at h1
   ·rename_i y l ms hy
    simp only [Option.some.injEq,Prod.mk.injEq] at h1;obtain ⟨rfl,rfl⟩:=h1
    obtain ⟨i1,i2,i3⟩:=zwT S hle h2 hr.2 (fun t u hu hb=>by
     have:=ht (t+1) u (by simpa using hu) (by rw [show i+(t+1)=i+1+t by omega];exact List.mem_cons_of_mem _ hb)
     rw [show i+1+t=i+(t+1) by omega];exact this)
    have hv:a.tmps.getD i undef=v:=ht 0 v rfl (by simp [zIz])
    obtain ⟨j1,j2,j3⟩:=zC6 S hy (S.env i _ hL)
    rw [hv] at j1 j2
    exact ⟨⟨j1,i1⟩,by simp only [xsK,i2,j2,List.flatMap_append],fun M hM=>(List.mem_append.1 hM).elim (j3 M) (i3 M)⟩
   ·cases h1
  ·cases h1

def zwU (P:Program) (h:Fz) (base:Nat) (w:World) (xs:List XA) (vs:List Value) (K:List PA→List XA→Prop) (e:Ending) (w':World):Prop :=
 ∃ (h':Fz) (v:Value) (rs:List PA) (ys:List XA),K rs ys∧e=.returned v∧zod h' rs v∧RL (xaR P h' w' base) ys vs∧(xsK w' ys vs).Nodup ∧
   (∀ b∈xsK w' ys vs,(b∈xsK w xs vs∨w.heap.size≤b)∧h' b=none)∧Fle h h'∧Hw h' w'∧(∀ b o,h' b=some o→h b=some o∨w.heap.size≤b∨b∈xsK w xs vs)∧BelX h (xsK w xs vs) w w'
theorem zwV {G : Ctrs} (hok : OkAll P G) {f : FuncId} {ann : Ann} {xs : List XA} {K : List PA → List XA → Prop} {w : World} {h : Fz} {base : Nat} {vs : List Value} (hv : zkD P G ann f xs K) (hvs : RL (xaR P h w base) xs vs)
    (hn:(xsK w xs vs).Nodup) (hK:∀ b∈xsK w xs vs,base≤b∧h b=none) (hw:Hw h w) (hgl:zer h) (hB:base≤w.heap.size) :
    Calls P f vs.toArray w (zwU P h base w xs vs K):=by
  unfold zkD at hv
  split at hv
  · rename_i fn hfn
    split at hv
    · rename_i c hbody
      split at hv
      · rename_i hc
        simp only [Bool.and_eq_true,Nat.ble_eq] at hc
        obtain ⟨⟨⟨hnt,hlen⟩,hlab⟩,hdisj⟩:=hc
        obtain ⟨g0,S⟩:=zEA (P:=P) (Nat.eq_of_beq_eq_true hnt) hlen hvs hn hK hw hgl hB (zez hlab)
        have hwp:=zdK (B:=base) (w0:=w) hok ann c none 0 (pinned h (xsK w xs vs) w) (zht c) _ (zlY P fn xs K) _ _ _ _ (fun _ h=>h) (Rnd.none _) hv S (Kp.refl _ _)
        refine (callsIn_wide (n:=0)).1 ?_
        refine callsIn_of_wp_marks (F:=FR none) hfn hbody trivial (wpIn_mono hwp ?_)
        have h0b:∀ b,pinned h (xsK w xs vs) w b=some (.fz (.deferred (some [])))→b < base:=fun b hb=>by
          rcases zcz (h:=h) (K:=xsK w xs vs) (w:=w) b with ⟨o,h1,h2,h3⟩ | ⟨_,_,h2⟩ | ⟨_,_,h2⟩
          · rw [h2] at hb; simp only [Option.some.injEq] at hb; subst hb
            rcases h3 with ⟨C,ty,fr,e⟩ | ⟨F,e⟩ | ⟨es,c,e⟩ <;> cases e
          · rw [h2] at hb;cases hb
          · rw [h2] at hb
            obtain ⟨o,_,e⟩:=Option.map_eq_some_iff.1 hb
            cases e
        rintro e a' w' ⟨g',σ',hK',S',hkp⟩
        have fin:zEc P fn xs K σ'→LeavesInM (FR none) 0 P fn a'.tmps (zwU P h base w xs vs K) a'.defers .returning w':=by
          intro hf
          obtain ⟨Ds,h1,h2,h3,h4⟩:=S'.dfr
          refine zkB h0b Ds g' a' w' h1 h2 h3 h4 S' fun g2 a2 w2 ht S2=>?_
          unfold zEc at hf
          split at hf
          · rename_i l u hl
            split at hf
            · rename_i ys ls ho
              split at hf
              · rename_i hnl
                obtain ⟨v,hu,hrun,hres⟩:=zo3 S2 hl
                obtain ⟨h3',S3,F⟩:=S2.freeze hu
                have hle3:∀ p x,Rep h p x→Rep h3' p x:=fun p x hr=>(zih (K:=xsK w xs vs) (w:=w) hr).mono S3.le0
                obtain ⟨o1,o2,o3⟩:=zwT S3 (w1:=w) hle3 ho hvs (fun t u hu hb=>by
                  rw [Nat.zero_add] at hb ⊢
                  rw [ht,hkp.1 t (fun hd=>by
                    have:=List.all_eq_true.1 hdisj t hb
                    simp at this;exact this hd)]
                  have hlt:=(List.getElem?_eq_some_iff.1 hu).1
                  rw [Array.getD_eq_getD_getElem?,Array.getElem?_append_left (by simpa using hlt)]
                  simp [hu])
                let h':Fz:=fun b=>match h3' b with | some (.pin _)=>h b | x=>x
                have hnp:∀ b o,h3' b=some o→(∀ x,o ≠ .pin x)→h' b=some o:=fun b o hb hx=>by
                  show (match h3' b with | some (.pin _)=>h b | x=>x)=some o
                  rw [hb]
                  cases o with
                  | pin x=>exact (hx x rfl).elim
                  | _=>rfl
                have hpn:∀ b x,h3' b=some (.pin x)→h' b=h b:=fun b x hb=>by
                  show (match h3' b with | some (.pin _)=>h b | x=>x)=h b
                  rw [hb]
                have hnn:∀ b,h3' b=none→h' b=none:=fun b hb=>by
                  show (match h3' b with | some (.pin _)=>h b | x=>x)=none
                  rw [hb]
                have hrep:∀ p x,Rep h3' p x→Rep h' p x:=fun p x hr=>hr.mono' fun b o hb ho=>hnp b o hb fun x e=>by
                  subst e;rcases ho with ⟨C,ty,fr,e⟩ | ⟨F,e⟩ | ⟨es,c,e⟩ <;> cases e
                have hpin:∀ b y,pinned h (xsK w xs vs) w b=some y→h3' b=some y:=fun b y hb=>S3.le0 b y hb
                have hlt:∀ b,b < w.heap.size→∃ o,w.heap[b]? = some o:=fun b hb=>⟨_,Array.getElem?_eq_getElem hb⟩
                have hnd:=zez hnl
                refine ⟨v,hrun,h',v,l,ys,hf,rfl,zBR hrep (hres h3' F),o1.mono fun _ _=>zEz hrep,by rw [o2];exact zj6 S3 hnd,fun b hb=>?_,fun b x hb=>?_,fun b x hb=>?_,fun b x hb=>?_,⟨S3.below.os,S3.below.tape,S3.below.output,S3.below.size,S3.below.drawn,fun k hk hkK hF=>?_⟩⟩
                · rw [o2] at hb
                  obtain ⟨L,hL,hb⟩:=List.mem_flatMap.1 hb
                  unfold kB at hb
                  split at hb
                  · rename_i o' ho'
                    have hob:base≤b∧h3' b=none:=S3.own L o' b ho' (ztl hb)
                    refine ⟨?_,hnn b hob.2⟩
                    by_cases hbs:b < w.heap.size
                    · refine .inl ?_
                      rcases zcz (h:=h) (K:=xsK w xs vs) (w:=w) b with ⟨o,_,h2,_⟩ | ⟨_,h2,_⟩ | ⟨_,_,h2⟩
                      · have:=hpin b _ h2;rw [hob.2] at this;cases this
                      · exact h2
                      · obtain ⟨o, ho⟩ := hlt b hbs
                        rw [ho] at h2
                        have:=hpin b _ h2;rw [hob.2] at this;cases this
                    · exact .inr (by omega)
                  · simp at hb
                · rcases zcz (h := h) (K := xsK w xs vs) (w := w) b with ⟨o, h1, h2, h3⟩ | ⟨_, h2, _⟩ | ⟨_, _, h2⟩
                  · rw [h1] at hb; simp only [Option.some.injEq] at hb; subst hb
                    exact hnp b _ (hpin b _ h2) fun x e=>by subst e;rcases h3 with ⟨C,ty,fr,e⟩ | ⟨F,e⟩ | ⟨es,c,e⟩ <;> cases e
                  · rw [(hK b h2).2] at hb;cases hb
                  · obtain ⟨o, ho⟩ := hlt b (hw.lt hb)
                    rw [ho] at h2
                    rw [hpn b _ (hpin b _ h2)];exact hb
                · cases h3b:h3' b with
                  | none=>rw [hnn b h3b] at hb;cases hb
                  | some y =>
                    by_cases hy:∃ o,y=.pin o
                    · obtain ⟨o, rfl⟩ := hy
                      rw [hpn b _ h3b] at hb
                      rcases zcz (h:=h) (K:=xsK w xs vs) (w:=w) b with ⟨o',h1,h2,h3⟩ | ⟨_,h2,_⟩ | ⟨_,_,h2⟩
                      · have := hpin b _ h2
                        rw [h3b] at this;simp only [Option.some.injEq] at this;subst this
                        rcases h3 with ⟨C,ty,fr,e⟩ | ⟨F,e⟩ | ⟨es,c,e⟩ <;> cases e
                      · rw [(hK b h2).2] at hb;cases hb
                      · obtain ⟨o1, ho1, hx1⟩ := hw b x hb
                        rw [ho1] at h2
                        have:=hpin b _ h2
                        rw [h3b] at this;simp only [Option.some.injEq,FzO.pin.injEq] at this;subst this
                        obtain ⟨o2,ho2,hx2⟩:=S3.hw b _ h3b
                        simp only [FzO.ok] at hx2;subst hx2
                        exact ⟨_,ho2,hx1⟩
                    · rw [hnp b y h3b fun x e => hy ⟨x, e⟩] at hb
                      simp only [Option.some.injEq] at hb;subst hb
                      exact S3.hw b _ h3b
                · cases h3b:h3' b with
                  | none=>rw [hnn b h3b] at hb;cases hb
                  | some y =>
                    by_cases hy:∃ o,y=.pin o
                    · obtain ⟨o, rfl⟩ := hy
                      rw [hpn b _ h3b] at hb
                      exact .inl hb
                    · rw [hnp b y h3b fun x e => hy ⟨x, e⟩] at hb
                      simp only [Option.some.injEq] at hb;subst hb
                      by_cases hbs:b < w.heap.size
                      · rcases zcz (h := h) (K := xsK w xs vs) (w := w) b with ⟨o', h1, h2, h3⟩ | ⟨_, h2, _⟩ | ⟨_, _, h2⟩
                        · have := hpin b _ h2
                          rw [h3b] at this;simp only [Option.some.injEq] at this;subst this
                          exact .inl h1
                        · exact .inr (.inr h2)
                        · obtain ⟨o, ho⟩ := hlt b hbs
                          rw [ho] at h2
                          have:=hpin b _ h2
                          rw [h3b] at this;simp only [Option.some.injEq] at this
                          exact (hy ⟨_,this⟩).elim
                      · exact .inr (.inl (by omega))
                · rcases zcz (h := h) (K := xsK w xs vs) (w := w) k with ⟨o', h1, h2, h3⟩ | ⟨_, h2, _⟩ | ⟨_, _, h2⟩
                  · rcases h3 with ⟨C, ty, fr, rfl⟩ | ⟨F, rfl⟩ | ⟨es, c, rfl⟩
                    · rw [S3.hw.fz (hpin k _ h2),hw.fz h1]
                    · exact (hF F h1).elim
                    · rw [S3.hw.fz (hpin k _ h2),hw.fz h1]
                  · exact (hkK h2).elim
                  · obtain ⟨o, ho⟩ := hlt k hk
                    rw [ho] at h2 ⊢
                    obtain ⟨o2,ho2,hx2⟩:=S3.hw k _ (hpin k _ h2)
                    simp only [FzO.ok] at hx2;subst hx2
                    exact ho2
              · exact hf.elim
            · exact hf.elim
          · exact hf.elim
        cases e with
        | normal=>exact fin hK'
        | ret=>exact fin hK'
        | exit id=>exact hK'.elim
        | goto l=>exact hK'.elim
        | panic ch=>exact hK'.elim
        | outgrown=>exact hK'.elim
      · exact hv.elim
    · exact hv.elim
  · exact hv.elim
theorem zwW {G : Ctrs} (hok : OkAll P G) {f : FuncId} {C : MK} (hc : zax P f)
    (h:∀ xs safe rs ys,C xs=some (safe,rs,ys)→safe→∀ K:List PA→List XA→Prop,K rs ys→∃ memo vv ann,zkD P { G with memo:=memo,vv:=vv } ann f xs K):zjo P f C:=by
  intro xs ys safe rs hC hs w h0 base vs hvs hn hK hw hgl hB
  obtain ⟨memo,vv,ann,hv⟩:=h xs safe rs ys hC hs (fun l zs=>l=rs∧zs=ys) ⟨rfl,rfl⟩
  refine ⟨hc,(zwV (G:={ G with memo:=memo,vv:=vv }) ⟨hok.mt,hok.fn,hok.own,hok.it⟩ hv hvs hn hK hw hgl hB).mono ?_⟩
  rintro e w' ⟨h',v,rs',ys',⟨rfl,rfl⟩,r⟩
  exact ⟨h',v,r⟩
end
end Go.Pm
