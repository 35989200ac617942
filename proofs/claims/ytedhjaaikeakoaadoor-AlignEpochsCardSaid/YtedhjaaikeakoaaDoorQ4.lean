/- Part 4 of what the proof rests on: a machine that runs functions of the program on pure values, proved sound; the functions that the law reaches, and what they compute. -/
import Derived.Test.YtedhjaaikeakoaaDoorQ3
set_option linter.all false
namespace Go.Pm
open Go.RowKit (Below)

def zvF (i j:Nat):Nat:=i+4096 * (j+1)
def zCc : Nat → List XA → List (Nat × DV)
  | _,[]=>[]
  | i,.d a :: r=>(i,.one (paD a)) :: zCc (i+1) r
  | i,.box _ _ :: r=>(i,.cl (.ptr i 0)) :: zCc (i+1) r
def zhd (i : Nat) : Nat → List XC → List Cl
  | _,[]=>[]
  | j,.p v :: r=>.p v :: zhd i (j+1) r
  | j,.vec _ _ _ _ _ :: r=>.vec (zvF i j) :: zhd i (j+1) r
  | j,.mo _ _ _ _ _ :: r=>.mo (zvF i j) :: zhd i (j+1) r
def zf0 (i : Nat) : Nat → List XC → List (Nat × AO)
  | _,[]=>[]
  | j,.p _ :: r=>zf0 i (j+1) r
  | j,.vec e s b n get :: r=>(zvF i j,.vec e s b n get) :: zf0 i (j+1) r
  | j,.mo kt vt q n F :: r=>(zvF i j,.mo kt vt q n F) :: zf0 i (j+1) r
def zdK : Nat → List XA → List (Nat × AO)
  | _,[]=>[]
  | i,.d _ :: r=>zdK (i+1) r
  | i,.box ty cs :: r=>(i,.box ty (zhd i 0 cs)) :: (zf0 i 0 cs ++ zdK (i+1) r)
def zIm : Nat → List XA → List Nat
  | _,[]=>[]
  | i,.d _ :: r=>zIm (i+1) r
  | i,.box _ _ :: r=>i :: zIm (i+1) r

section
variable (P:Program)
def zpP (σ : St) : List ResultVar → Option (List PA × List (Nat × AO))
  | []=>some ([],[])
  | .tmp t :: r=>match lk σ.env t with
    | some d=>match zqI (lk σ.objs) d,zpP σ r with
      | some (x,u),some (l,us)=>some (x :: l,u ++ us)
      | _,_=>none
    | none=>none
  | .cell t ty :: r=>match lk σ.env t,ze6 P ty,szT P ty with
    | some (.one (.c (.ptr L off))),some g,some n=>match lk σ.objs L with
      | some (.box _ cells)=>match zg8 g n cells off with
        | some d=>match zqI (lk σ.objs) (.one d),zpP σ r with
          | some (x,u),some (l,us)=>some (x :: l,u ++ us)
          | _,_=>none
        | none=>none
      | _=>none
    | _,_,_=>none
def zEE (ob : Nat → Option AO) (env : List (Nat × DV)) : Nat → List XA → Option (List XA × List Nat)
  | _,[]=>some ([],[])
  | i,.d a :: r=>match zEE ob env (i+1) r with
    | some (ys,ls)=>some (.d a :: ys,ls)
    | none=>none
  | i,.box _ _ :: r=>match lk env i,zEE ob env (i+1) r with
    | some (.one (.c (.ptr L 0))),some (ys,ls)=>match zqJ ob (.one (.c (.ptr L 0))) with
      | some (y,l,_)=>some (y :: ys,l ++ ls)
      | none=>none
    | _,_=>none
def zEj (fn:Func) (xs:List XA) (K:List PA→List XA→Prop) (σ:St):Prop :=
 match zpP P σ fn.results.toList with
 | some (l,u)=>match zEE (lk (u ++ σ.objs)) σ.env 0 xs with
  | some (ys,ls)=>match zmB ls with
   | true=>K l ys
   | false=>False
  | none=>False
 | none=>False
def zmx (fn : Func) (xs : List XA) (K : List PA → List XA → Prop) : Exit → St → Prop
  | .ret,σ=>zEj P fn xs K σ
  | .normal,σ=>zEj P fn xs K σ
  | _,_=>False
def zk1 (Γ:Ctrs) (ann:Ann) (f:FuncId) (xs:List XA) (K:List PA→List XA→Prop):Prop :=
 match P.funcs[f]? with
 | some fn=>match fn.body with
  | some c=>match Nat.beq ann.nt fn.ntmps && Nat.ble xs.length ann.nt && zmB ((zdK 0 xs).map (·.1)) && zL6 (zIm 0 xs) (zhK c) with
   | true=>vc P Γ ann c (zmx P fn xs K) ⟨zCc 0 xs,zdK 0 xs,[]⟩
   | false=>False
  | none=>False
 | none=>False
end

section
variable {P:Program} {Γ:Ctrs}

def zn0 (w:World) (v:Value):List Value:=match v with
 | .pointer (some a)=>match w.heap[a.block]? with
  | some (.cells C _ _)=>C.toList
  | _=>[]
 | _=>[]
def xVV (i : Nat) : Nat → List XC → List Value → List (Nat × Value)
  | j,.p _ :: r,_ :: vs=>xVV i (j+1) r vs
  | j,.vec _ _ _ _ _ :: r,v :: vs=>(zvF i j,v) :: xVV i (j+1) r vs
  | j,.mo _ _ _ _ _ :: r,v :: vs=>(zvF i j,v) :: xVV i (j+1) r vs
  | _,_,_=>[]
def zk2 (w : World) : Nat → List XA → List Value → List (Nat × Value)
  | i,.d _ :: r,_ :: vs=>zk2 w (i+1) r vs
  | i,.box _ cs :: r,v :: vs=>(i,v) :: (xVV i 0 cs (zn0 w v) ++ zk2 w (i+1) r vs)
  | _,_,_=>[]
def zKj : Value → Nat
  | .pointer (some a)=>a.block
  | _=>0

section start
variable {h:Fz} {w:World} {B:Nat} {g:Gh} (hle:∀ p x,Rep h p x→Rep g.h p x)
include hle
theorem zCd {i:Nat} : ∀ {cs:List XC} {j:Nat} {vs:List Value},RL (xcR P h w B) cs vs→(∀ x∈xVV i j cs vs,g.sv x.1=x.2) →
  RL (clR g) (zhd i j cs) vs∧(∀ x∈zf0 i j cs,zDk x.2∧zbT x.2=[]∧aoR P g w B x.1 x.2)∧ztM cs vs=(zf0 i j cs).flatMap (fun x=>kO g x.1 x.2)∧(xVV i j cs vs).map (·.1)=(zf0 i j cs).map (·.1) ∧
   ∀ M∈(zhd i j cs).flatMap zaI,M∈(zf0 i j cs).map (·.1)
 | [],j,[],_,_=>⟨trivial,fun x hx=>by simp [zf0] at hx,rfl,rfl,fun M hM=>by simp [zhd] at hM⟩
 | [],_,_ :: _,hr,_=>hr.elim
 | _ :: _,_,[],hr,_=>hr.elim
 | .p p :: cs,j,v :: vs,hr,hs=>by
  obtain ⟨i1,i2,i3,i4,i5⟩:=zCd (j:=j+1) hr.2 hs
  exact ⟨⟨hle _ _ hr.1,i1⟩,i2,by simp only [ztM,xcK,List.nil_append];exact i3,i4,fun M hM=>i5 M (by simpa [zhd,zaI] using hM)⟩
 | .vec e s b n get :: cs,j,v :: vs,hr,hs=>by
  obtain ⟨i1,i2,i3,i4,i5⟩:=zCd (j:=j+1) hr.2 (fun x hx=>hs x (List.mem_cons_of_mem _ hx))
  have hv:g.sv (zvF i j)=v:=hs (zvF i j,v) List.mem_cons_self
  obtain ⟨h1,h2,h3,xs,hx,hx2⟩:=hr.1
  refine ⟨⟨⟨hv.symm,h1⟩,i1⟩,fun x hx=>?_,?_,by simp [xVV,zf0,i4],fun M hM=>?_⟩
  ·rcases List.mem_cons.1 hx with e1 | hx
   ·subst e1
    refine ⟨trivial,rfl,h2,h3,xs,?_,fun q hq=>(hx2 q hq).mono hle⟩
    show w.ownsRow B e s (g.sv (zvF i j)) n xs
    rw [hv];assumption
   ·exact i2 x hx
  ·simp only [ztM,xcK,zf0,List.flatMap_cons,kO,hv,i3]
  ·simp only [zhd, List.flatMap_cons, List.mem_append, zaI, List.mem_singleton] at hM
   simp only [zf0,List.map_cons,List.mem_cons]
   exact hM.imp_right (i5 M)
 | .mo kt vt q n F :: cs,j,v :: vs,hr,hs=>by
  obtain ⟨i1,i2,i3,i4,i5⟩:=zCd (j:=j+1) hr.2 (fun x hx=>hs x (List.mem_cons_of_mem _ hx))
  have hv:g.sv (zvF i j)=v:=hs (zvF i j,v) List.mem_cons_self
  obtain ⟨b,es,clock,rfl,h2,h3⟩:=hr.1
  have hb:zc5 (g.sv (zvF i j))=b:=by rw [hv];rfl
  refine ⟨⟨by show Value.map (some b)=.map (some (zc5 (g.sv (zvF i j))));rw [hb],i1⟩,fun x hx=>?_,?_,by simp [xVV,zf0,i4],fun M hM=>?_⟩
  ·rcases List.mem_cons.1 hx with e1 | hx
   ·subst e1
    exact ⟨trivial,rfl,es,clock,by rw [hb];exact h2,h3⟩
   ·exact i2 x hx
  ·simp only [ztM,xcK,zf0,List.flatMap_cons,kO,hb,i3];rfl
  ·simp only [zhd, List.flatMap_cons, List.mem_append, zaI, List.mem_singleton] at hM
   simp only [zf0,List.map_cons,List.mem_cons]
   exact hM.imp_right (i5 M)
theorem zrp:∀ {xs:List XA} {i:Nat} {vs:List Value},RL (xaR P h w B) xs vs→(∀ x∈zk2 w i xs vs,g.sv x.1=x.2∧g.bk x.1=zKj x.2) →
  (∀ x∈zdK i xs,zDk x.2∧(∀ M∈zbT x.2,M∈(zdK i xs).map (·.1))∧aoR P g w B x.1 x.2)∧xsK w xs vs=(zdK i xs).flatMap (fun x=>kO g x.1 x.2)∧(zk2 w i xs vs).map (·.1)=(zdK i xs).map (·.1)
 | [],i,[],_,_=>⟨fun x hx=>by simp [zdK] at hx,rfl,rfl⟩
 | [],_,_ :: _,hr,_=>hr.elim
 | _ :: _,_,[],hr,_=>hr.elim
 | .d a :: xs,i,v :: vs,hr,hs=>by
  obtain ⟨i1,i2,i3⟩:=zrp (i:=i+1) hr.2 hs
  exact ⟨i1,by simp only [xsK,xaK,List.nil_append];exact i2,i3⟩
 | .box ty cs :: xs,i,v :: vs,hr,hs=>by
  obtain ⟨i1,i2,i3⟩:=zrp (i:=i+1) hr.2 (fun x hx=>hs x (List.mem_cons_of_mem _ (List.mem_append.2 (.inr hx))))
  obtain ⟨k,C,rfl,hC,hrl⟩:=hr.1
  have hca:zn0 w (.pointer (some ⟨k,0,none⟩))=C.toList:=by simp only [zn0,hC]
  obtain ⟨j1,j2,j3,j4,j5⟩:=zCd (i:=i) (j:=0) hle hrl (fun x hx=>(hs x (List.mem_cons_of_mem _ (List.mem_append.2 (.inl (by rw [hca];exact hx))))).1)
  have hb:g.bk i=k:=(hs (i,_) List.mem_cons_self).2
  refine ⟨fun x hx=>?_,?_,?_⟩
  ·simp only [zdK] at hx
   rcases List.mem_cons.1 hx with e | hx
   ·subst e
    refine ⟨trivial,fun M hM=>?_,C,by rw [hb];exact hC,j1⟩
    simp only [zdK,List.map_cons,List.map_append,List.mem_cons,List.mem_append]
    exact .inr (.inl (j5 M hM))
   ·rcases List.mem_append.1 hx with hx | hx
    ·obtain ⟨q1, q2, q3⟩ := j2 x hx
     exact ⟨q1,fun M hM=>by rw [q2] at hM;simp at hM,q3⟩
    ·obtain ⟨q1, q2, q3⟩ := i1 x hx
     refine ⟨q1,fun M hM=>?_,q3⟩
     simp only [zdK,List.map_cons,List.map_append,List.mem_cons,List.mem_append]
     exact .inr (.inr (q2 M hM))
  ·simp only [xsK,xaK,hC,zdK,List.flatMap_cons,List.flatMap_append,kO,hb,j3,i2];simp
  ·simp only [zk2,zdK,List.map_cons,List.map_append,hca,j4,i3]
end start

theorem zrq : ∀ (xs : List XA) (i t : Nat) (d : DV), lk (zCc i xs) t = some d → ∃ x, xs[t - i]? = some x ∧ i ≤ t ∧ d = match x with | .d a => .one (paD a) | .box _ _ => .cl (.ptr t 0)
  | [],i,t,d,h=>by simp [zCc,lk] at h
  | x :: r,i,t,d,h=>by
    have key:lk (zCc (i+1) r) t=some d→i ≠ t→∃ y,(x :: r)[t - i]? = some y∧i≤t∧d=match y with | .d a=>.one (paD a) | .box _ _=>.cl (.ptr t 0):=fun h hne=>by
      obtain ⟨y,h1,h2,h3⟩:=zrq r (i+1) t d h
      refine ⟨y,?_,by omega,h3⟩
      rw [show t - i=(t - (i+1))+1 by omega,List.getElem?_cons_succ];exact h1
    cases x with
    | d a =>
      simp only [zCc] at h
      rw [zay] at h
      split at h
      · rename_i e;subst e;simp only [Option.some.injEq] at h;exact ⟨.d a,by simp,Nat.le_refl _,h.symm⟩
      · rename_i e;exact key h e
    | box ty cs =>
      simp only [zCc] at h
      rw [zay] at h
      split at h
      · rename_i e;subst e;simp only [Option.some.injEq] at h;exact ⟨.box ty cs,by simp,Nat.le_refl _,h.symm⟩
      · rename_i e;exact key h e
theorem zpQ : ∀ {xs : List XA} {i t : Nat} {ty : Nat} {cs : List XC}, xs[t - i]? = some (.box ty cs) → i ≤ t → t ∈ (zdK i xs).map (·.1)
  | [],i,t,ty,cs,h,_=>by simp at h
  | x :: xs,i,t,ty,cs,h,hi=>by
    by_cases e:t=i
    · subst e
      simp at h;subst h
      simp [zdK]
    · rw [show t - i = (t - (i + 1)) + 1 by omega, List.getElem?_cons_succ] at h
      have:=zpQ (i:=i+1) h (by omega)
      cases x with
      | d a=>exact this
      | box ty' cs' =>
        simp only [zdK,List.map_cons,List.map_append,List.mem_cons,List.mem_append]
        exact .inr (.inr this)
theorem zpR {w : World} : ∀ {xs : List XA} {i t : Nat} {ty : Nat} {cs : List XC} {vs : List Value} {v : Value}, xs[t - i]? = some (.box ty cs) → vs[t - i]? = some v → i ≤ t → (t, v) ∈ zk2 w i xs vs
  | [],i,t,ty,cs,vs,v,h,_,_=>by simp at h
  | _ :: _,i,t,ty,cs,[],v,_,h,_=>by simp at h
  | x :: xs,i,t,ty,cs,u :: vs,v,h,h2,hi=>by
    by_cases e:t=i
    · subst e
      simp at h h2;subst h h2
      simp [zk2]
    · rw [show t - i = (t - (i + 1)) + 1 by omega, List.getElem?_cons_succ] at h h2
      have:=zpR (w:=w) (i:=i+1) h h2 (by omega)
      cases x with
      | d a=>exact this
      | box ty' cs' =>
        simp only [zk2,List.mem_cons,List.mem_append]
        exact .inr (.inr this)

def pinned (h:Fz) (K:List Nat) (w:World):Fz:=fun b =>
 match h b with
 | some (.inv F)=>some (.inv F)
 | some (.fz (.cells C ty fr))=>some (.fz (.cells C ty fr))
 | some (.fz (.map es c))=>some (.fz (.map es c))
 | _=>match K.contains b with
  | true=>none
  | false=>(w.heap[b]?).map .pin
theorem zk3 {h:Fz} {K:List Nat} {w:World} {b:Nat} {o:FzO} (hb:h b=some o) (ho:(∃ C ty fr,o=.fz (.cells C ty fr))∨(∃ F,o=.inv F)∨(∃ es c,o=.fz (.map es c))):pinned h K w b=some o:=by
 rcases ho with ⟨C,ty,fr,rfl⟩ | ⟨F,rfl⟩ | ⟨es,c,rfl⟩ <;> simp only [pinned,hb]
def zMa (h:Fz) (K:List Nat) (w:World) (b:Nat):Prop :=
 (∃ o, h b = some o ∧ pinned h K w b = some o ∧ ((∃ C ty fr, o = .fz (.cells C ty fr)) ∨ (∃ F, o = .inv F) ∨ (∃ es c, o = .fz (.map es c)))) ∨
  ((∀ F,h b ≠ some (.inv F))∧b∈K∧pinned h K w b=none)∨((∀ F,h b ≠ some (.inv F))∧b ∉ K∧pinned h K w b=(w.heap[b]?).map .pin)
theorem zhr {h:Fz} {K:List Nat} {w:World} {b:Nat} (hF:∀ F,h b ≠ some (.inv F)) (e:pinned h K w b=(match K.contains b with | true=>none | false=>(w.heap[b]?).map .pin)):zMa h K w b:=by
 cases hk:K.contains b with
 | true=>rw [hk] at e;exact .inr (.inl ⟨hF,by simpa using hk,e⟩)
 | false=>rw [hk] at e;exact .inr (.inr ⟨hF,by simpa using hk,e⟩)
theorem zcF {h:Fz} {K:List Nat} {w:World} (b:Nat):zMa h K w b:=by
 cases hb:h b with
 | none=>exact zhr (fun F e=>by rw [hb] at e;cases e) (by simp only [pinned,hb])
 | some o =>
  cases o with
  | inv F=>exact .inl ⟨_,hb,by simp only [pinned,hb],.inr (.inl ⟨F,rfl⟩)⟩
  | pin o=>exact zhr (fun F e=>by rw [hb] at e;cases e) (by simp only [pinned,hb])
  | fz o =>
   cases o with
   | cells C ty fr=>exact .inl ⟨_,hb,by simp only [pinned,hb],.inl ⟨C,ty,fr,rfl⟩⟩
   | map es c=>exact .inl ⟨_,hb,by simp only [pinned,hb],.inr (.inr ⟨es,c,rfl⟩)⟩
   | _=>exact zhr (fun F e=>by rw [hb] at e;cases e) (by simp only [pinned,hb])
theorem ziD {h:Fz} {K:List Nat} {w:World} {p:PV} {x:Value} (hr:Rep h p x):Rep (pinned h K w) p x:=hr.mono' fun _ _ hb ho=>zk3 hb ho
theorem zxr {h:Fz} {K:List Nat} {w:World} (H:Hw h w):Hw (pinned h K w) w:=by
 intro b x hb
 rcases zcF (h:=h) (K:=K) (w:=w) b with ⟨o,h1,h2,_⟩ | ⟨_,_,h2⟩ | ⟨_,_,h2⟩
 ·rw [h2] at hb;simp only [Option.some.injEq] at hb;subst hb;exact H b _ h1
 ·rw [h2] at hb;cases hb
 ·rw [h2] at hb
  obtain ⟨o,ho,rfl⟩:=Option.map_eq_some_iff.1 hb
  exact ⟨o,ho,rfl⟩

theorem zxs {h:Fz} {K:List Nat} {w:World} (H:zeA h):zeA (pinned h K w):=fun k l hk=>by
 obtain ⟨C,ty,fr,h1,h2⟩:=H k l hk
 exact ⟨C,ty,fr,zk3 h1 (.inl ⟨_,_,_,rfl⟩),h2.mono fun _ _ r=>ziD r⟩
theorem ziE {h h':Fz} (hle:∀ p x,Rep h p x→Rep h' p x) {a:PA} {v:Value} (hr:paR h a v):paR h' a v:=by
 cases a with
 | one p=>exact hle _ _ hr
 | agg cs=>obtain ⟨vs,rfl,hr⟩:=hr;exact ⟨vs,rfl,hr.mono hle⟩
theorem zCe {h h':Fz} (hle:∀ p x,Rep h p x→Rep h' p x) {rs:List PA} {v:Value} (hr:zo3 h rs v):zo3 h' rs v:=by
 match rs,hr with
 | [],⟨vs,e,r⟩=>exact ⟨vs,e,r.mono fun _ _=>ziE hle⟩
 | [x],hr=>exact ziE hle hr
 | x :: y :: l,⟨vs,e,r⟩=>exact ⟨vs,e,r.mono fun _ _=>ziE hle⟩
theorem zEF {h h':Fz} {w:World} {B:Nat} (hle:∀ p x,Rep h p x→Rep h' p x) {c:XC} {v:Value} (hr:xcR P h w B c v):xcR P h' w B c v:=by
 cases c with
 | p v=>exact hle _ _ hr
 | vec e s b n get=>obtain ⟨h1,h2,h3,xs,h4,h5⟩:=hr;exact ⟨h1,h2,h3,xs,h4,fun q hq=>(h5 q hq).mono hle⟩
 | mo kt vt q n F=>exact hr
theorem zEG {h h':Fz} {w:World} {B:Nat} (hle:∀ p x,Rep h p x→Rep h' p x) {c:XA} {v:Value} (hr:xaR P h w B c v):xaR P h' w B c v:=by
 cases c with
 | d a=>exact ziE hle hr
 | box ty cs=>obtain ⟨k,C,h1,h2,h3⟩:=hr;exact ⟨k,C,h1,h2,h3.mono fun _ _=>zEF hle⟩

theorem zEH {nt m : Nat} {xs : List XA} {w : World} {h : Fz} {B : Nat} {vs : List Value} (hnt : nt = m) (hlen : xs.length ≤ nt) (hvs : RL (xaR P h w B) xs vs) (hn : (xsK w xs vs).Nodup)
    (hK:∀ b∈xsK w xs vs,B≤b∧h b=none) (hw:Hw h w) (hgl:zeA h) (hB:B≤w.heap.size) (hlab:((zdK 0 xs).map (·.1)).Nodup) :
    ∃ g,Sim P nt B w (pinned h (xsK w xs vs) w) g ⟨zCc 0 xs,zdK 0 xs,[]⟩ { tmps:=vs.toArray ++ Array.replicate (m - vs.toArray.size) undef,defers:=[] } w:=by
  let nv:=zk2 w 0 xs vs
  let h0:=pinned h (xsK w xs vs) w
  let g:Gh:=⟨h0,fun L=>zKj ((lk nv L).getD undef),fun L=>(lk nv L).getD undef,fun _ _=>undef⟩
  have hle:∀ p x,Rep h p x→Rep g.h p x:=fun p x hr=>ziD hr
  have hkeys:nv.map (·.1)=(zdK 0 xs).map (·.1):=by
    have:∀ {xs:List XA} {i:Nat} {vs:List Value},RL (xaR P h w B) xs vs→(zk2 w i xs vs).map (·.1)=(zdK i xs).map (·.1):=by
      intro xs
      induction xs with
      | nil=>intro i vs hr;cases vs with
        | nil=>rfl
        | cons=>exact hr.elim
      | cons x xs ih =>
        intro i vs hr
        cases vs with
        | nil=>exact hr.elim
        | cons v vs =>
          cases x with
          | d a=>exact ih hr.2
          | box ty cs =>
            obtain ⟨k,C,rfl,hC,hrl⟩:=hr.1
            have hv:∀ {cs:List XC} {j:Nat} {vs:List Value},RL (xcR P h w B) cs vs→(xVV i j cs vs).map (·.1)=(zf0 i j cs).map (·.1):=by
              intro cs
              induction cs with
              | nil=>intro j vs hr;cases vs with
                | nil=>rfl
                | cons=>exact hr.elim
              | cons c cs ih2 =>
                intro j vs hr
                cases vs with
                | nil=>exact hr.elim
                | cons v vs=>cases c with
                  | p q=>exact ih2 hr.2
                  | vec e s b n get=>simp only [xVV,zf0,List.map_cons];rw [ih2 hr.2]
                  | mo kt vt q n F=>simp only [xVV,zf0,List.map_cons];rw [ih2 hr.2]
            simp only [zk2,zdK,List.map_cons,List.map_append,zn0,hC]
            rw [hv hrl,ih hr.2]
    exact this hvs
  have hlkv:∀ x∈nv,lk nv x.1=some x.2:=fun x hx=>zkv (by rw [hkeys];exact hlab) hx
  obtain ⟨o1,o2,o3⟩:=zrp (g:=g) (i:=0) hle hvs (fun x hx=>⟨by show (lk nv x.1).getD undef=x.2;rw [hlkv x hx];rfl,by show zKj ((lk nv x.1).getD undef)=_;rw [hlkv x hx];rfl⟩)
  have hmem:∀ L o,lk (zdK 0 xs) L=some o→(L,o)∈zdK 0 xs:=fun L o h=>zcb h
  have hl:=hvs.length
  have hblk:∀ L o b,lk (zdK 0 xs) L=some o→obk g L o b→b∈(zdK 0 xs).flatMap (fun x=>kO g x.1 x.2):=fun L o b hL hb=>List.mem_flatMap.2 ⟨_,hmem L o hL,zmQ (o1 _ (hmem L o hL)).1 hb⟩
  refine ⟨g,Marks.nil _ _,by simp;omega,?_,fun L o hL=>(o1 _ (hmem L o hL)).2.2,?_,?_,zxr hw,fun _ _ h=>h,fun b o h=>.inl h,Bel.refl _ _ _,hB,?_,?_,?_⟩
  · intro t d ht
    obtain ⟨x,hx,_,rfl⟩:=zrq xs 0 t d ht
    obtain ⟨v,hv,hxv⟩:=hvs.get t x (by simpa using hx)
    have hlt:=(List.getElem?_eq_some_iff.1 hv).1
    have:(vs.toArray ++ Array.replicate (m - vs.toArray.size) undef).getD t undef=v:=by
      rw [Array.getD_eq_getD_getElem?,Array.getElem?_append_left (by simpa using hlt)]
      simp [hv]
    rw [this]
    cases x with
    | d a=>exact zwQ (g:=g) (ziE hle hxv)
    | box ty cs =>
      obtain ⟨k,C,rfl,hC,_⟩:=hxv
      have:=hlkv _ (zpR (w:=w) (i:=0) hx (by simpa using hv) (Nat.zero_le _))
      show Value.pointer (some ⟨k,0,none⟩)=.pointer (some ⟨zKj ((lk nv t).getD undef),0,none⟩)
      rw [show lk nv t=some (.pointer (some ⟨k,0,none⟩)) from this];rfl
  · intro L o b hL hb
    have hbK:b∈xsK w xs vs:=by rw [o2];exact hblk L o b hL hb
    refine ⟨(hK b hbK).1,?_⟩
    show pinned h (xsK w xs vs) w b=none
    rcases zcF (h:=h) (K:=xsK w xs vs) (w:=w) b with ⟨o,h1,_⟩ | ⟨_,_,h2⟩ | ⟨_,h2,_⟩
    · rw [(hK b hbK).2] at h1;cases h1
    · exact h2
    · exact (h2 hbK).elim
  · intro L o b L' o' hL hL' hb hb'
    rw [o2] at hn
    have:=zkt hn (L,o) (L',o') b (hmem L o hL) (hmem L' o' hL') (zmQ (o1 _ (hmem L o hL)).1 hb) (zmQ (o1 _ (hmem L' o' hL')).1 hb')
    exact congrArg Prod.fst this
  · intro t d ht L hL
    obtain ⟨x,hx,_,rfl⟩:=zrq xs 0 t d ht
    cases x with
    | d a=>rw [show za7 (.one (paD a))=zbv (paD a) from rfl,zks] at hL;simp at hL
    | box ty cs =>
      simp [za7,zbv,zaI] at hL;subst hL
      exact zkw (zpQ (i:=0) hx (Nat.zero_le _))
  · intro L o hL M hM
    exact zkw ((o1 _ (hmem L o hL)).2.1 M hM)
  · exact zxs hgl

theorem zk4 {nt B:Nat} {w0:World} {h0:Fz} {g:Gh} {σ:St} {a:Act} {w:World} (S:Sim P nt B w0 h0 g σ a w):∀ (rs:List ResultVar) (l:List PA) (u:Upd),zpP P σ rs=some (l,u) →
  ∃ (vs:List Value),zdo (lk σ.objs) u∧(rs.mapM (resV a.tmps)).run P w=.ok vs w∧∀ (u':Upd) (h':Fz),(∀ y∈u,y∈u')→Frozen g (lk σ.objs) u' h'→RL (paR h') l vs
 | [],l,u,h=>by
  simp [zpP] at h;obtain ⟨rfl,rfl⟩:=h
  exact ⟨[],zdo.nil _,rfl,fun _ _ _ _=>trivial⟩
 | .tmp t :: r,l,u,h=>by
  simp only [zpP] at h
  split at h
  ·rename_i d hd
   split at h
   ·rename_i x u1 l2 u2 h1 h2
    simp only [Option.some.injEq,Prod.mk.injEq] at h;obtain ⟨rfl,rfl⟩:=h
    obtain ⟨vs,hu2,hrun,hr⟩:=zk4 S r l2 u2 h2
    refine ⟨a.tmps.getD t undef :: vs,(zkj h1).append hu2,?_,fun u' h' hu F=>⟨F.repD h1 (fun y hy=>hu y (List.mem_append.2 (.inl hy))) (S.env t d hd),hr u' h' (fun y hy=>hu y (List.mem_append.2 (.inr hy))) F⟩⟩
    rw [List.mapM_cons]
    simp only [resV,Sem.run_bind,Sem.run_pure,Result.andThen_ok]
    rw [hrun];rfl
   ·cases h
  ·cases h
 | .cell t ty :: r,l,u,h=>by
  simp only [zpP] at h
  split at h
  ·rename_i L off ag m ht hg hs
   split at h
   ·rename_i ty' cells hL
    split at h
    ·rename_i d hd
     split at h
     ·rename_i x u1 l2 u2 h1 h2
      simp only [Option.some.injEq,Prod.mk.injEq] at h;obtain ⟨rfl,rfl⟩:=h
      obtain ⟨vs,hu2,hrun,hr⟩:=zk4 S r l2 u2 h2
      obtain ⟨C,hC,hcr⟩:=S.obj L _ hL
      obtain ⟨v,hload,hv⟩:=zny (P:=P) hg hs hC 0 (fun j y hj=>by obtain ⟨v,hv,hyv⟩:=hcr.get j y hj;exact ⟨v,by simpa using hv,hyv⟩) hd
      have hp:a.tmps.getD t undef=.pointer (some ⟨g.bk L,off,none⟩):=S.env t _ ht
      rw [Nat.zero_add] at hload
      refine ⟨v :: vs,(zkj h1).append hu2,?_,fun u' h' hu F=>⟨F.repD h1 (fun y hy=>hu y (List.mem_append.2 (.inl hy))) hv,hr u' h' (fun y hy=>hu y (List.mem_append.2 (.inr hy))) F⟩⟩
      have h1:(resV a.tmps (.cell t ty)).run P w=.ok v w:=by
       simp only [resV,Sem.run_bind,hp,zm4,Result.andThen_ok,hload]
      rw [List.mapM_cons]
      simp only [Sem.run_bind,h1,Result.andThen_ok]
      rw [hrun];rfl
     ·cases h
    ·cases h
   ·cases h
  ·cases h
theorem zpS {nt B : Nat} {w0 : World} {h0 : Fz} {g : Gh} {σ : St} {a : Act} {w : World} (S : Sim P nt B w0 h0 g σ a w) {fn : Func} {l : List PA} {u : Upd} (h : zpP P σ fn.results.toList = some (l, u)) :
  ∃ (v:Value),zdo (lk σ.objs) u∧(results fn a.tmps).run P w=.ok v w∧∀ (h':Fz),Frozen g (lk σ.objs) u h'→zo3 h' l v:=by
 obtain ⟨vs,hu,hrun,hr⟩:=zk4 S fn.results.toList l u h
 refine ⟨if h:vs.toArray.size=1 then vs.toArray[0] else .tuple vs.toArray,hu,?_,fun h' F=>?_⟩
 ·have e : results fn a.tmps = (do let vs ← fn.results.mapM (resV a.tmps); pure (if h : vs.size = 1 then vs[0] else .tuple vs)) := rfl
  rw [e,Array.mapM_eq_mapM_toList]
  simp only [Sem.run_bind,Sem.run_map]
  rw [hrun]
  simp only [Result.andThen_ok,Sem.run_pure]
 ·have hrl := hr u h' (fun y hy => hy) F
  match l,vs,hrl with
  | [],[],_=>exact ⟨[],rfl,trivial⟩
  | [x],[v],hrl=>exact hrl.1
  | x :: y :: l,v :: v2 :: vs,hrl =>
   refine ⟨v :: v2 :: vs,?_,hrl⟩
   rw [dif_neg (by simp)]
  | [],_ :: _,hrl=>exact hrl.elim
  | [_],[],hrl=>exact hrl.elim
  | [_],_ :: _ :: _,hrl=>exact hrl.2.elim
  | _ :: _ :: _,[],hrl=>exact hrl.elim
  | _ :: _ :: _,[_],hrl=>exact hrl.2.elim

theorem zxt {nt B : Nat} {w0 : World} {h0 : Fz} {g : Gh} {σ : St} {a : Act} {w w1 : World} {h : Fz} (S : Sim P nt B w0 h0 g σ a w) (hle : ∀ p x, Rep h p x → Rep g.h p x) :
  ∀ {xs ys:List XA} {ls:List Nat} {i:Nat} {vs:List Value},zEE (lk σ.objs) σ.env i xs=some (ys,ls)→RL (xaR P h w1 B) xs vs→(∀ t v,vs[t]? = some v→i+t∈zIm i xs→a.tmps.getD (i+t) undef=v) →
  RL (xaR P g.h w B) ys vs∧xsK w ys vs=ls.flatMap (kB g (lk σ.objs))∧∀ L∈ls,isB (lk σ.objs) L
 | [],ys,ls,i,[],h1,_,_=>by
  simp only [zEE,Option.some.injEq,Prod.mk.injEq] at h1;obtain ⟨rfl,rfl⟩:=h1
  exact ⟨trivial,rfl,fun L hL=>by simp at hL⟩
 | [],_,_,_,_ :: _,_,hr,_=>hr.elim
 | _ :: _,_,_,_,[],_,hr,_=>hr.elim
 | .d p :: xs,ys,ls,i,v :: vs,h1,hr,ht=>by
  simp only [zEE] at h1
  split at h1
  ·rename_i ys' ls' h2
   simp only [Option.some.injEq,Prod.mk.injEq] at h1;obtain ⟨rfl,rfl⟩:=h1
   obtain ⟨i1,i2,i3⟩:=zxt S hle h2 hr.2 (fun t u hu hb=>by
    have:=ht (t+1) u (by simpa using hu) (by rw [show i+(t+1)=i+1+t by omega];exact hb)
    rw [show i+1+t=i+(t+1) by omega];exact this)
   exact ⟨⟨ziE hle hr.1,i1⟩,by simp only [xsK,xaK,List.nil_append];exact i2,i3⟩
  ·cases h1
 | .box ty cs :: xs,ys,ls,i,v :: vs,h1,hr,ht=>by
  simp only [zEE] at h1
  split at h1
  ·rename_i L ys' ls' hL h2
   split at h1
   ·rename_i y l ms hy
    simp only [Option.some.injEq,Prod.mk.injEq] at h1;obtain ⟨rfl,rfl⟩:=h1
    obtain ⟨i1,i2,i3⟩:=zxt S hle h2 hr.2 (fun t u hu hb=>by
     have:=ht (t+1) u (by simpa using hu) (by rw [show i+(t+1)=i+1+t by omega];exact List.mem_cons_of_mem _ hb)
     rw [show i+1+t=i+(t+1) by omega];exact this)
    have hv:a.tmps.getD i undef=v:=ht 0 v rfl (by simp [zIm])
    obtain ⟨j1,j2,j3⟩:=zDl S hy (S.env i _ hL)
    rw [hv] at j1 j2
    exact ⟨⟨j1,i1⟩,by simp only [xsK,i2,j2,List.flatMap_append],fun M hM=>(List.mem_append.1 hM).elim (j3 M) (i3 M)⟩
   ·cases h1
  ·cases h1

def zxu (P:Program) (h:Fz) (base:Nat) (w:World) (xs:List XA) (vs:List Value) (K:List PA→List XA→Prop) (e:Ending) (w':World):Prop :=
 ∃ (h':Fz) (v:Value) (rs:List PA) (ys:List XA),K rs ys∧e=.returned v∧zo3 h' rs v∧RL (xaR P h' w' base) ys vs∧(xsK w' ys vs).Nodup ∧
   (∀ b∈xsK w' ys vs,(b∈xsK w xs vs∨w.heap.size≤b)∧h' b=none)∧Fle h h'∧Hw h' w'∧(∀ b o,h' b=some o→h b=some o∨w.heap.size≤b∨b∈xsK w xs vs)∧BelX h (xsK w xs vs) w w'
theorem zxv {G : Ctrs} (hok : OkAll P G) {f : FuncId} {ann : Ann} {xs : List XA} {K : List PA → List XA → Prop} {w : World} {h : Fz} {base : Nat} {vs : List Value} (hv : zk1 P G ann f xs K) (hvs : RL (xaR P h w base) xs vs)
    (hn:(xsK w xs vs).Nodup) (hK:∀ b∈xsK w xs vs,base≤b∧h b=none) (hw:Hw h w) (hgl:zeA h) (hB:base≤w.heap.size) :
    Calls P f vs.toArray w (zxu P h base w xs vs K):=by
  unfold zk1 at hv
  split at hv
  · rename_i fn hfn
    split at hv
    · rename_i c hbody
      split at hv
      · rename_i hc
        simp only [Bool.and_eq_true,Nat.ble_eq] at hc
        obtain ⟨⟨⟨hnt,hlen⟩,hlab⟩,hdisj⟩:=hc
        obtain ⟨g0,S⟩:=zEH (P:=P) (Nat.eq_of_beq_eq_true hnt) hlen hvs hn hK hw hgl hB (zeK hlab)
        have hwp:=zd0 (B:=base) (w0:=w) hok ann c none 0 (pinned h (xsK w xs vs) w) (zhK c) _ (zmx P fn xs K) _ _ _ _ (fun _ h=>h) (Rnd.none _) hv S (Kp.refl _ _)
        refine (callsIn_wide (n:=0)).1 ?_
        refine callsIn_of_wp_marks (F:=FR none) hfn hbody trivial (wpIn_mono hwp ?_)
        have h0b:∀ b,pinned h (xsK w xs vs) w b=some (.fz (.deferred (some [])))→b < base:=fun b hb=>by
          rcases zcF (h:=h) (K:=xsK w xs vs) (w:=w) b with ⟨o,h1,h2,h3⟩ | ⟨_,_,h2⟩ | ⟨_,_,h2⟩
          · rw [h2] at hb; simp only [Option.some.injEq] at hb; subst hb
            rcases h3 with ⟨C,ty,fr,e⟩ | ⟨F,e⟩ | ⟨es,c,e⟩ <;> cases e
          · rw [h2] at hb;cases hb
          · rw [h2] at hb
            obtain ⟨o,_,e⟩:=Option.map_eq_some_iff.1 hb
            cases e
        rintro e a' w' ⟨g',σ',hK',S',hkp⟩
        have fin:zEj P fn xs K σ'→LeavesInM (FR none) 0 P fn a'.tmps (zxu P h base w xs vs K) a'.defers .returning w':=by
          intro hf
          obtain ⟨Ds,h1,h2,h3,h4⟩:=S'.dfr
          refine zkZ h0b Ds g' a' w' h1 h2 h3 h4 S' fun g2 a2 w2 ht S2=>?_
          unfold zEj at hf
          split at hf
          · rename_i l u hl
            split at hf
            · rename_i ys ls ho
              split at hf
              · rename_i hnl
                obtain ⟨v,hu,hrun,hres⟩:=zpS S2 hl
                obtain ⟨h3',S3,F⟩:=S2.freeze hu
                have hle3:∀ p x,Rep h p x→Rep h3' p x:=fun p x hr=>(ziD (K:=xsK w xs vs) (w:=w) hr).mono S3.le0
                obtain ⟨o1,o2,o3⟩:=zxt S3 (w1:=w) hle3 ho hvs (fun t u hu hb=>by
                  rw [Nat.zero_add] at hb ⊢
                  rw [ht,hkp.1 t (fun hd=>by
                    have:=List.all_eq_true.1 hdisj t hb
                    simp at this;exact this hd)]
                  have hlt:=(List.getElem?_eq_some_iff.1 hu).1
                  rw [Array.getD_eq_getD_getElem?,Array.getElem?_append_left (by simpa using hlt)]
                  simp [hu])
                let h':Fz:=fun b=>match h3' b with | some (.pin _)=>h b | x=>x
                have hnp:∀ b o,h3' b=some o→(∀ x,o ≠ .pin x)→h' b=some o:=fun b o hb hx=>by
                  show (match h3' b with | some (.pin _)=>h b | x=>x)=some o
                  rw [hb]
                  cases o with
                  | pin x=>exact (hx x rfl).elim
                  | _=>rfl
                have hpn:∀ b x,h3' b=some (.pin x)→h' b=h b:=fun b x hb=>by
                  show (match h3' b with | some (.pin _)=>h b | x=>x)=h b
                  rw [hb]
                have hnn:∀ b,h3' b=none→h' b=none:=fun b hb=>by
                  show (match h3' b with | some (.pin _)=>h b | x=>x)=none
                  rw [hb]
                have hrep:∀ p x,Rep h3' p x→Rep h' p x:=fun p x hr=>hr.mono' fun b o hb ho=>hnp b o hb fun x e=>by
                  subst e;rcases ho with ⟨C,ty,fr,e⟩ | ⟨F,e⟩ | ⟨es,c,e⟩ <;> cases e
                have hpin:∀ b y,pinned h (xsK w xs vs) w b=some y→h3' b=some y:=fun b y hb=>S3.le0 b y hb
                have hlt:∀ b,b < w.heap.size→∃ o,w.heap[b]? = some o:=fun b hb=>⟨_,Array.getElem?_eq_getElem hb⟩
                have hnd:=zeK hnl
                refine ⟨v,hrun,h',v,l,ys,hf,rfl,zCe hrep (hres h3' F),o1.mono fun _ _=>zEG hrep,by rw [o2];exact zku S3 hnd,fun b hb=>?_,fun b x hb=>?_,fun b x hb=>?_,fun b x hb=>?_,⟨S3.below.os,S3.below.tape,S3.below.output,S3.below.size,S3.below.drawn,fun k hk hkK hF=>?_⟩⟩
                · rw [o2] at hb
                  obtain ⟨L,hL,hb⟩:=List.mem_flatMap.1 hb
                  unfold kB at hb
                  split at hb
                  · rename_i o' ho'
                    have hob:base≤b∧h3' b=none:=S3.own L o' b ho' (zt2 hb)
                    refine ⟨?_,hnn b hob.2⟩
                    by_cases hbs:b < w.heap.size
                    · refine .inl ?_
                      rcases zcF (h:=h) (K:=xsK w xs vs) (w:=w) b with ⟨o,_,h2,_⟩ | ⟨_,h2,_⟩ | ⟨_,_,h2⟩
                      · have:=hpin b _ h2;rw [hob.2] at this;cases this
                      · exact h2
                      · obtain ⟨o, ho⟩ := hlt b hbs
                        rw [ho] at h2
                        have:=hpin b _ h2;rw [hob.2] at this;cases this
                    · exact .inr (by omega)
                  · simp at hb
                · rcases zcF (h := h) (K := xsK w xs vs) (w := w) b with ⟨o, h1, h2, h3⟩ | ⟨_, h2, _⟩ | ⟨_, _, h2⟩
                  · rw [h1] at hb; simp only [Option.some.injEq] at hb; subst hb
                    exact hnp b _ (hpin b _ h2) fun x e=>by subst e;rcases h3 with ⟨C,ty,fr,e⟩ | ⟨F,e⟩ | ⟨es,c,e⟩ <;> cases e
                  · rw [(hK b h2).2] at hb;cases hb
                  · obtain ⟨o, ho⟩ := hlt b (hw.lt hb)
                    rw [ho] at h2
                    rw [hpn b _ (hpin b _ h2)];exact hb
                · cases h3b:h3' b with
                  | none=>rw [hnn b h3b] at hb;cases hb
                  | some y =>
                    by_cases hy:∃ o,y=.pin o
                    · obtain ⟨o, rfl⟩ := hy
                      rw [hpn b _ h3b] at hb
                      rcases zcF (h:=h) (K:=xsK w xs vs) (w:=w) b with ⟨o',h1,h2,h3⟩ | ⟨_,h2,_⟩ | ⟨_,_,h2⟩
                      · have := hpin b _ h2
                        rw [h3b] at this;simp only [Option.some.injEq] at this;subst this
                        rcases h3 with ⟨C,ty,fr,e⟩ | ⟨F,e⟩ | ⟨es,c,e⟩ <;> cases e
                      · rw [(hK b h2).2] at hb;cases hb
                      · obtain ⟨o1, ho1, hx1⟩ := hw b x hb
                        rw [ho1] at h2
                        have:=hpin b _ h2
                        rw [h3b] at this;simp only [Option.some.injEq,FzO.pin.injEq] at this;subst this
                        obtain ⟨o2,ho2,hx2⟩:=S3.hw b _ h3b
                        simp only [FzO.ok] at hx2;subst hx2
                        exact ⟨_,ho2,hx1⟩
                    · rw [hnp b y h3b fun x e => hy ⟨x, e⟩] at hb
                      simp only [Option.some.injEq] at hb;subst hb
                      exact S3.hw b _ h3b
                · cases h3b:h3' b with
                  | none=>rw [hnn b h3b] at hb;cases hb
                  | some y =>
                    by_cases hy:∃ o,y=.pin o
                    · obtain ⟨o, rfl⟩ := hy
                      rw [hpn b _ h3b] at hb
                      exact .inl hb
                    · rw [hnp b y h3b fun x e => hy ⟨x, e⟩] at hb
                      simp only [Option.some.injEq] at hb;subst hb
                      by_cases hbs:b < w.heap.size
                      · rcases zcF (h := h) (K := xsK w xs vs) (w := w) b with ⟨o', h1, h2, h3⟩ | ⟨_, h2, _⟩ | ⟨_, _, h2⟩
                        · have := hpin b _ h2
                          rw [h3b] at this;simp only [Option.some.injEq] at this;subst this
                          exact .inl h1
                        · exact .inr (.inr h2)
                        · obtain ⟨o, ho⟩ := hlt b hbs
                          rw [ho] at h2
                          have:=hpin b _ h2
                          rw [h3b] at this;simp only [Option.some.injEq] at this
                          exact (hy ⟨_,this⟩).elim
                      · exact .inr (.inl (by omega))
                · rcases zcF (h := h) (K := xsK w xs vs) (w := w) k with ⟨o', h1, h2, h3⟩ | ⟨_, h2, _⟩ | ⟨_, _, h2⟩
                  · rcases h3 with ⟨C, ty, fr, rfl⟩ | ⟨F, rfl⟩ | ⟨es, c, rfl⟩
                    · rw [S3.hw.fz (hpin k _ h2),hw.fz h1]
                    · exact (hF F h1).elim
                    · rw [S3.hw.fz (hpin k _ h2),hw.fz h1]
                  · exact (hkK h2).elim
                  · obtain ⟨o, ho⟩ := hlt k hk
                    rw [ho] at h2 ⊢
                    obtain ⟨o2,ho2,hx2⟩:=S3.hw k _ (hpin k _ h2)
                    simp only [FzO.ok] at hx2;subst hx2
                    exact ho2
              · exact hf.elim
            · exact hf.elim
          · exact hf.elim
        cases e with
        | normal=>exact fin hK'
        | ret=>exact fin hK'
        | exit id=>exact hK'.elim
        | goto l=>exact hK'.elim
        | panic ch=>exact hK'.elim
        | outgrown=>exact hK'.elim
      · exact hv.elim
    · exact hv.elim
  · exact hv.elim
theorem zxw {G : Ctrs} (hok : OkAll P G) {f : FuncId} {C : MK} (hc : zax P f)
    (h:∀ xs safe rs ys,C xs=some (safe,rs,ys)→safe→∀ K:List PA→List XA→Prop,K rs ys→∃ memo vv ann,zk1 P { G with memo:=memo,vv:=vv } ann f xs K):zjO P f C:=by
  intro xs ys safe rs hC hs w h0 base vs hvs hn hK hw hgl hB
  obtain ⟨memo,vv,ann,hv⟩:=h xs safe rs ys hC hs (fun l zs=>l=rs∧zs=ys) ⟨rfl,rfl⟩
  refine ⟨hc,(zxv (G:={ G with memo:=memo,vv:=vv }) ⟨hok.mt,hok.fn,hok.own,hok.it⟩ hv hvs hn hK hw hgl hB).mono ?_⟩
  rintro e w' ⟨h',v,rs',ys',⟨rfl,rfl⟩,r⟩
  exact ⟨h',v,r⟩
end
end Go.Pm
