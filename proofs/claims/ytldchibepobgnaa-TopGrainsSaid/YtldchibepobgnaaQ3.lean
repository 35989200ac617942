/- Part 3 of what the proof rests on: a machine that runs functions of the program on pure values, proved sound; the functions that the law reaches, and what they compute. -/
import Derived.Test.YtldchibepobgnaaQ2
import Derived.Scope
import Derived.OrdersIn
import Derived.RangeFuncNested
import Derived.Maps.RangeRun
set_option linter.all false
namespace Go.Pm
variable [DrawZ]
open Go.RowKit (Below)

section
variable {P:Program}{Γ:Ctrs}{nt B:Nat}{w0:World}{h0:Fz}{g:Gh}{σ:St}{a:Act}{w:World}{r:Option Nat}{n i:Nat}{Q:Exit->Act->World->Prop}

def zNQ (d:DV):List Cl:=match d with | .one (.c c)=>[c] | _=>[.junk]

theorem zmk (S : Sim P nt B w0 h0 g σ a w) : ∀ (l : List Operand), RL (clR g) (l.flatMap fun x => zNQ (evO σ.env x)) (l.map a.eval)
  | []=>trivial
  | x :: r=>by
    have h:=S.ev x
    simp only[dqJ,dqK]
    unfold zNQ
    cases he:evO σ.env x with
    | one d =>
      cases d with
      | c c=>rw[he] at h;exact⟨h,zmk S r⟩
      | agg cs=>exact⟨trivial,zmk S r⟩
    | tup ds=>exact⟨trivial,zmk S r⟩

theorem zoT {h:Fz}{l:List PV}{vs:List Value}(hr:RL (Rep h) l vs):l.length=vs.length/\∀ (j:Nat) (x:PV) (v:Value),l[j]? = some x->vs[j]? = some v->Rep h x v :=
 ⟨hr.length,λ j x v hx hv=>by obtain⟨u,hu,hxu⟩:=hr.get j x hx;rw[hu] at hv;simp only[dqa] at hv;rw[<- hv];exact hxu⟩

theorem zwZ (S : Sim P nt B w0 h0 g σ a w) : ∀ (l : List Operand) {cs : List CapE}, zot (evO σ.env) l = some cs → RL (zJZ g) cs (l.map a.eval) ∧ ∀ L ∈ zhl cs, ∃ o, lk σ.objs L = some o
  | [],cs,h=>by simp only[zot,dqa] at h;subst h;exact⟨trivial,λ L hL=>by simp[zhl] at hL⟩
  | x :: l,cs,h=>by
    simp only[zot] at h
    split at h
    · rename_i c cs' hc hl
      simp only[dqa] at h;subst h
      obtain⟨i1,i2⟩:=zwZ S l hl
      have hx:=S.ev x
      have hxl:=S.evLab x
      unfold zQd at hc
      split at hc
      · rename_i v he
        simp only[dqa] at hc;subst hc
        rw[he] at hx
        exact⟨⟨hx,i1⟩,i2⟩
      · rename_i L he
        simp only[dqa] at hc;subst hc
        rw[he] at hx hxl
        refine⟨⟨hx,i1⟩,λ M hM=>?_⟩
        simp only[zhl,dqq] at hM
        rcases hM with rfl | hM
        · exact hxl M (by simp[zbf,zbN,zaE])
        · exact i2 M hM
      · cases hc
    · cases h
theorem zw0 : ∀ {cs : List CapE} {vs : List Value}, RL (zJZ g) cs vs → RL (dvR g) (cs.map capD) vs
  | [],[],_=>trivial
  | [],_ :: _,h=>h.elim
  | _ :: _,[],h=>h.elim
  | .v _ :: _,_ :: _,h=>⟨h.1,zw0 h.2⟩
  | .b _ :: _,_ :: _,h=>⟨h.1,zw0 h.2⟩

theorem zw1 {ev:Operand->DV}{fs ls:List Operand}{l:List PV}(h:zu8 ev fs ls=some l):∃ x cs,fs=[x]/\ls=[]/\ev x=.one (.agg cs)/\zgP cs=some l:=by
 unfold zu8 at h
 split at h
 ·rename_i x
  split at h
  ·rename_i cs hx;exact⟨x,cs,rfl,rfl,hx,h⟩
  ·cases h
 ·cases h
theorem zqb {o : Oper} {f : FuncId} {first caps : Array Operand} {A : OpAct} (S : Sim P nt B w0 h0 g σ a w) (hd : zck nt o.dst = true) (hop : o.op = .makeFunc (.func f) first caps)
    (hA:act P Γ o (evO σ.env) (lk σ.objs)=A) (hs:A.safe):zfi P nt B w0 h0 r n i o A σ a w Q:=by
  simp only[act,hop] at hA
  have e:∀ l:Array Operand,l.map a.eval=(l.toList.map a.eval).toArray:=λ l=>by cases l;simp
  split at hA
  · split at hA
    · rename_i cs hf hc
      subst hA
      obtain⟨i1,i2⟩:=zwZ S caps.toList hc
      refine zem (by simp[hop]) (v:=.func (.func f) #[] (caps.toList.map a.eval).toArray) (w':=w) ?_ ⟨g,_,rfl,?_⟩
      · simp only[execOp,hop,Instr.makeFunc,dqd,dqe,dqb,e,hf,List.map_nil]
      · rw [zbi]
        exact S.put (d:=.cl (.clo f cs)) hd ⟨_,rfl,i1⟩ (λ L hL=>i2 L (by simpa [zbf,zbN,zaE] using hL)) _
    · exact dq9 hA hs
  split at hA
  · rename_i l hb
    subst hA
    obtain⟨x,cs,e1,e2,hx,hl⟩:=zw1 hb
    have h1:=S.ev x
    rw[hx] at h1
    obtain⟨vs,hv,hr⟩:=h1
    rw[zeM hl] at hr
    have hr:RL (λ (x:PV) y=>clR g (.p x) y) l vs:=RL.map_left.1 hr
    have hr:RL (Rep g.h) l vs:=hr.mono λ _ _ h=>h
    have r1:=zoT hr
    refine zem (by simp[hop]) (v:=.func (.func f) #[.agg vs.toArray] #[]) (w':=w) ?_ ⟨g,_,rfl,?_⟩
    · simp only[execOp,hop,Instr.makeFunc,dqd,dqe,dqb,e,e1,e2,dqK,List.map_nil,hv]
    · rw [zbi]
      exact S.put (d:=.p (.fna f l)) hd (Rep.fna f l vs r1.1 r1.2) (zd1 _) _
  split at hA
  · rename_i l u l' u' h1 h2
    subst hA
    have h1:znm (lk σ.objs) (first.toList.flatMap λ x=>zNQ (evO σ.env x))=some (l,u):=h1
    have h2:znm (lk σ.objs) (caps.toList.flatMap λ x=>zNQ (evO σ.env x))=some (l',u'):=h2
    obtain⟨h',S1,F⟩:=S.freeze ((zoA h1).append (zoA h2))
    have r1:=zoT (F.repL h1 (λ y hy=>dqg.2 (.inl hy)) (zmk S first.toList))
    have r2:=zoT (F.repL h2 (λ y hy=>dqg.2 (.inr hy)) (zmk S caps.toList))
    have hv:Rep h' (.fn f l l') (.func (.func f) (first.toList.map a.eval).toArray (caps.toList.map a.eval).toArray):=.fn f l l' _ _ r1.1 r2.1 r1.2 r2.2
    refine zem (by simp[hop]) (v:=.func (.func f) (first.toList.map a.eval).toArray (caps.toList.map a.eval).toArray) (w':=w) ?_ ⟨⟨h',g.bk,g.sv,g.iv⟩,_,rfl,?_⟩
    · simp only[execOp,hop,Instr.makeFunc,dqd,dqe,dqb,e]
    · rw [zbi]
      exact S1.put (d:=.p (.fn f l l')) hd hv (λ L hL=>by simp[zbf,zbN,zaE] at hL) _
  · exact dq9 hA hs

def outOf (C:COut) (rs:List PA):Prop :=
 match C with
 | .no=>False
 | .tot r=>rs=r
 | .det _ r=>rs=r
 | .rel ρ _ post res=>∃ x:ρ,post x/\rs=res x
 | .alt b _ r1 _ r2=>(b=true/\rs=r1)\/(b=false/\rs=r2)

theorem zrz {h h':Fz}{p:PV}{v:Value}(hs:zhG p=true) (hr:Rep h' p v):Rep h p v:=by
 cases hr with
 | bool b=>exact .bool b
 | int k n=>exact .int k n
 | _=>cases hs
theorem zlO {h h' : Fz} : ∀ {l : List PV} {vs : List Value}, l.all zhG = true → RL (Rep h') l vs → RL (Rep h) l vs
  | [],[],_,_=>trivial
  | [],_ :: _,_,hr=>hr.elim
  | _ :: _,[],_,hr=>hr.elim
  | p :: l,v :: vs,hs,hr=>by
    simp only[List.all_cons,dqm] at hs
    exact⟨zrz hs.1 hr.1,zlO hs.2 hr.2⟩
theorem zw2 {h h':Fz}{x:PA}{v:Value}(hs:zFB x=true) (hr:paR h' x v):paR h x v:=by
 cases x with
 | one p=>exact zrz hs hr
 | agg cs =>
  obtain⟨vs,rfl,hr⟩:=hr
  exact⟨vs,rfl,zlO hs hr⟩
theorem zoU {h h' : Fz} : ∀ {l : List PA} {vs : List Value}, l.all zFB = true → RL (paR h') l vs → RL (paR h) l vs
  | [],[],_,_=>trivial
  | [],_ :: _,_,hr=>hr.elim
  | _ :: _,[],_,hr=>hr.elim
  | p :: l,v :: vs,hs,hr=>by
    simp only[List.all_cons,dqm] at hs
    exact⟨zw2 hs.1 hr.1,zoU hs.2 hr.2⟩
theorem zC1 {h h':Fz}{rs:List PA}{v:Value}(hs:ziy rs=true) (hr:zvT h' rs v):zvT h rs v:=by
 match rs,hs,hr with
 | [],_,⟨vs,e,r⟩=>exact⟨vs,e,zoU rfl r⟩
 | [x],hs,hr =>
  simp only[ziy,List.all_cons,List.all_nil,Bool.and_true] at hs
  exact zw2 hs hr
 | x :: y :: l,hs,⟨vs,e,r⟩=>exact⟨vs,e,zoU hs r⟩

def zkA (h h' h2:Fz):Fz:=λ b=>match h b,h' b with
 | none,some _=>none
 | _,_=>h2 b
theorem ztY {h h' h2:Fz}(h1:Fle h h') (h3:Fle h' h2):Fle h (zkA h h' h2):=λ b o hb=>by
 show (match h b,h' b with | none,some _=>none | _,_=>h2 b)=some o
 rw[hb];exact h3 b o (h1 b o hb)
theorem zml {h h' h2:Fz} : Fle (zkA h h' h2) h2:=λ b o hb=>by
 have hb:(match h b,h' b with | none,some _=>none | _,_=>h2 b)=some o:=hb
 split at hb
 ·cases hb
 ·exact hb
theorem zqc {h h' h2:Fz}{n:Nat}(h1:Fle h h') (hn:∀ b o,h2 b=some o->h' b=some o\/n<=b) (b:Nat) (o:FzO) (hb:zkA h h' h2 b=some o):h b=some o\/n<=b:=by
 have hb2:=zml b o hb
 have hb:(match h b,h' b with | none,some _=>none | _,_=>h2 b)=some o:=hb
 rcases hn b o hb2 with h4 | h4
 ·cases e:h b with
  | none=>rw[e,h4] at hb;cases hb
  | some x =>
   have:=h1 b x e
   rw[h4] at this
   exact .inl this.symm
 ·exact .inr h4
theorem zvp {h h' h2:Fz}{k:Nat}(hk:h2 k=none):zkA h h' h2 k=none:=by
 show (match h k,h' k with | none,some _=>none | _,_=>h2 k)=none
 split
 ·rfl
 ·exact hk
theorem Sim.borrow (S : Sim P nt B w0 h0 g σ a w) {u : Upd} {h' h2 hx : Fz} {w' : World} (F : Frozen g (lk σ.objs) u h') (hb : Bel h' w.heap.size w w') (hw2 : Hw h2 w')
    (h1:Fle g.h hx) (h3:Fle hx h2) (h4:∀ b o,hx b=some o->g.h b=some o\/w.heap.size<=b):Sim P nt B w0 h0 ⟨hx,g.bk,g.sv,g.iv⟩ σ a w' :=
  S.world h1 (λ b x hb'=>hw2 b x (h3 b x hb')) h4 ⟨hb.os,hb.tape,hb.output,hb.size,hb.drawn,λ k hk hn=>hb.block k hk λ Fn hF=>hn Fn (F.inv k Fn hF)⟩

theorem Sim.adopt (S : Sim P nt B w0 h0 g σ a w) {t e s b n : Nat} {get : Nat → List PV} {v : Value} (ht : lk σ.objs t = none)
    (hv:∀ k,v.ownBlock=some k->B<=k/\g.h k=none/\∀ L o,lk σ.objs L=some o->¬ obk g L o k) (hr:ztG P (g.setSv t v) w B t e s b n get) :
    Sim P nt B w0 h0 (g.setSv t v) { σ with objs:=(t,.vec e s b n get) :: σ.objs } a w:=by
  have hne:∀ L o,lk σ.objs L=some o->L ≠ t:=λ L o h e=>by subst e;rw[ht] at h;cases h
  have hsame:∀ L o,lk σ.objs L=some o->zd0 g (g.setSv t v) L:=λ L o h=>znL L (hne L o h)
  have hlk:∀ L o,lk ((t,AO.vec e s b n get) :: σ.objs) L=some o->(L=t/\o=.vec e s b n get)\/(L ≠ t/\lk σ.objs L=some o):=by
    intro L o h
    rw[zay] at h
    split at h
    · rename_i e;simp at h;exact .inl ⟨e.symm,h.symm⟩
    · rename_i e;exact .inr ⟨λ e'=>e e'.symm,h⟩
  have hnew:(g.setSv t v).sv t=v:=by simp[Gh.setSv]
  have hobkb:∀ L o k,lk σ.objs L=some o->obk (g.setSv t v) L o k->obk g L o k:=λ L o k ho h=>by rw[zbK (hsame L o ho)] at h;exact h
  refine S.change (g':=g.setSv t v) hsame (λ _ _ h=>h) S.hw (λ b o h=>.inl h) (.refl _ B w) ?_ ?_ ?_ ?_ ?_
  · intro L o ho
    rcases hlk L o ho with ⟨rfl,rfl⟩ | ⟨_,ho⟩
    · exact hr
    · exact zcV (S.obj L o ho) (hsame L o ho) (λ M hM=>by obtain⟨o',ho'⟩:=S.clO L o ho M hM;exact hsame M o' ho') (λ _ _ h=>h) λ _ _=>rfl
  · intro L o k ho hk
    rcases hlk L o ho with ⟨rfl,rfl⟩ | ⟨_,ho⟩
    · simp only[obk,hnew] at hk;exact⟨(hv k hk).1,(hv k hk).2.1⟩
    · exact S.own L o k ho (hobkb L o k ho hk)
  · intro L o k L' o' ho ho' hk hk'
    rcases hlk L o ho with ⟨rfl,rfl⟩ | ⟨_,ho2⟩ <;> rcases hlk L' o' ho' with ⟨rfl,rfl⟩ | ⟨_,ho2'⟩
    · rfl
    · simp only[obk,hnew] at hk;exact ((hv k hk).2.2 L' o' ho2' (hobkb _ _ _ ho2' hk')).elim
    · simp only[obk,hnew] at hk';exact ((hv k hk').2.2 L o ho2 (hobkb _ _ _ ho2 hk)).elim
    · exact S.sep L o k L' o' ho2 ho2' (hobkb _ _ _ ho2 hk) (hobkb _ _ _ ho2' hk')
  · intro L o ho
    refine⟨o,?_⟩
    rw[zay,if_neg (λ e=>hne L o ho e.symm)];exact ho
  · intro L o ho M hM
    rcases hlk L o ho with ⟨rfl,rfl⟩ | ⟨_,ho⟩
    · simp[zb8] at hM
    · obtain ⟨o', ho'⟩ := S.clO L o ho M hM
      exact⟨o',by rw[zay,if_neg (λ e=>hne M o' ho' e.symm)];exact ho'⟩

theorem Sim.adoptB (S : Sim P nt B w0 h0 g σ a w) {t ty k : Nat} {cells : List PV} {C : Array Value} (ht : lk σ.objs t = none)
    (hk:B<=k/\g.h k=none/\∀ L o,lk σ.objs L=some o->¬ obk g L o k) (hC:w.heap[k]? = some (.cells C ty (0,0))) (hr:RL (Rep g.h) cells C.toList) :
    Sim P nt B w0 h0 (g.setBk t k) { σ with objs:=(t,.box ty (cells.map .p)) :: σ.objs } a w:=by
  have hne:∀ L o,lk σ.objs L=some o->L ≠ t:=λ L o h e=>by subst e;rw[ht] at h;cases h
  have hsame:∀ L o,lk σ.objs L=some o->zd0 g (g.setBk t k) L:=λ L o h=>⟨by simp[Gh.setBk,hne L o h],rfl,rfl⟩
  have hlk:∀ L o,lk ((t,AO.box ty (cells.map .p)) :: σ.objs) L=some o->(L=t/\o=.box ty (cells.map .p))\/(L ≠ t/\lk σ.objs L=some o):=by
    intro L o h
    rw[zay] at h
    split at h
    · rename_i e;simp at h;exact .inl ⟨e.symm,h.symm⟩
    · rename_i e;exact .inr ⟨λ e'=>e e'.symm,h⟩
  have hnew:(g.setBk t k).bk t=k:=by simp[Gh.setBk]
  have hlab:zb8 (.box ty (cells.map .p))=[]:=by
    show (cells.map Cl.p).flatMap zaE=[]
    induction cells with
    | nil=>rfl
    | cons c l ih=>exact List.flatMap_eq_nil_iff.2 λ x hx=>by obtain⟨y,_,rfl⟩:=dqz.1 hx;rfl
  have hobkb:∀ L o b,lk σ.objs L=some o->obk (g.setBk t k) L o b->obk g L o b:=λ L o b ho h=>by rw[zbK (hsame L o ho)] at h;exact h
  refine S.change (g':=g.setBk t k) hsame (λ _ _ h=>h) S.hw (λ b o h=>.inl h) (.refl _ B w) ?_ ?_ ?_ ?_ ?_
  · intro L o ho
    rcases hlk L o ho with ⟨rfl,rfl⟩ | ⟨_,ho⟩
    · exact⟨C,by rw[hnew];exact hC,RL.map_left.2 (hr.mono λ _ _ h=>h)⟩
    · exact zcV (S.obj L o ho) (hsame L o ho) (λ M hM=>by obtain⟨o',ho'⟩:=S.clO L o ho M hM;exact hsame M o' ho') (λ _ _ h=>h) λ _ _=>rfl
  · intro L o b ho hb
    rcases hlk L o ho with ⟨rfl,rfl⟩ | ⟨_,ho⟩
    · simp only[obk,hnew] at hb;subst hb;exact⟨hk.1,hk.2.1⟩
    · exact S.own L o b ho (hobkb L o b ho hb)
  · intro L o b L' o' ho ho' hb hb'
    rcases hlk L o ho with ⟨rfl,rfl⟩ | ⟨_,ho2⟩ <;> rcases hlk L' o' ho' with ⟨rfl,rfl⟩ | ⟨_,ho2'⟩
    · rfl
    · simp only[obk,hnew] at hb;subst hb;exact (hk.2.2 L' o' ho2' (hobkb _ _ _ ho2' hb')).elim
    · simp only[obk,hnew] at hb';subst hb';exact (hk.2.2 L o ho2 (hobkb _ _ _ ho2 hb)).elim
    · exact S.sep L o b L' o' ho2 ho2' (hobkb _ _ _ ho2 hb) (hobkb _ _ _ ho2' hb')
  · intro L o ho
    refine⟨o,?_⟩
    rw[zay,if_neg (λ e=>hne L o ho e.symm)];exact ho
  · intro L o ho M hM
    rcases hlk L o ho with ⟨rfl,rfl⟩ | ⟨_,ho⟩
    · rw[hlab] at hM;simp at hM
    · obtain ⟨o', ho'⟩ := S.clO L o ho M hM
      exact⟨o',by rw[zay,if_neg (λ e=>hne M o' ho' e.symm)];exact ho'⟩

theorem zrA (S : Sim P nt B w0 h0 g σ a w) : ∀ (l : List Operand) {az : List PA}, zu7 (l.map (evO σ.env)) = some az → RL (paR g.h) az (l.map a.eval)
  | [],az,h=>by simp only[List.map_nil,zu7,dqa] at h;subst h;trivial
  | x :: l,az,h=>by
    have hx:=S.ev x
    simp only[dqK] at h
    unfold zu7 at h
    split at h
    · rename_i e;cases e
    · rename_i v r e
      obtain⟨e1,e2⟩:=List.cons.inj e
      subst e2
      split at h
      · rename_i l' hl
        simp only[dqa] at h;subst h
        rw[e1] at hx
        exact⟨hx,zrA S l hl⟩
      · cases h
    · rename_i cs r e
      obtain⟨e1,e2⟩:=List.cons.inj e
      subst e2
      split at h
      · rename_i l' ls hl hls
        simp only[dqa] at h;subst h
        rw[e1] at hx
        obtain⟨vs,hv,hr⟩:=hx
        rw[zeM hl] at hr
        have hr:RL (λ (x:PV) y=>clR g (.p x) y) l' vs:=RL.map_left.1 hr
        exact⟨⟨vs,hv,hr.mono λ _ _ h=>h⟩,zrA S l hls⟩
      · cases h
    · cases h

theorem ownsRow_base {w:World}{base B e s n:Nat}{v:Value}{xs:List Value}(h:w.ownsRow base e s v n xs) (hB:∀ k,base<=k->v.ownBlock=some k->B<=k):w.ownsRow B e s v n xs:=by
 refine⟨h.1,?_⟩
 rcases h.2 with hn | ⟨k,cap,cur,rfl,hk,rest⟩
 ·exact .inl hn
 ·exact .inr ⟨k,cap,cur,rfl,hB k hk rfl,rest⟩

theorem zoV {args:Array Operand}{ev:Operand->DV}{p:DV}(h:args.toList.map ev=[p]):∃ x,args = #[x]/\ev x=p:=by
 match hl:args.toList,h with
 | [x],h =>
  simp at h
  exact⟨x,by rw[<- Array.toArray_toList (xs:=args),hl],h⟩
 | [],h=>simp at h
 | _ :: _ :: _,h=>simp at h

theorem zFX {o : Oper} {f : Operand} {args : Array Operand} {ts : Array TypeId} {A : OpAct} {gf : FuncId} (hall : OkAll P Γ) (S : Sim P nt B w0 h0 g σ a w) (hd : zck nt o.dst = true)
    (hop:o.op=.call { callee:=.value f,args,argTypes:=ts }) (hfv:a.eval f=.func (.func gf) #[] #[])
    (hA:zfE P Γ o (Γ.own gf) (args.toList.map (evO σ.env)) (lk σ.objs)=A) (hs:A.safe):zfi P nt B w0 h0 r n i o A σ a w Q:=by
  have enter:∀ x,args = #[x]->zal P gf->(execOp a.eval o).run P w=.ok (.enter gf #[a.eval x]) w:=by
    rintro x rfl hcall
    simp only[execOp,hop,resolve,hfv,Deferred.ofValue,dqd,dqe,dqb,invoke]
    rw[show (#[] ++ Array.map a.eval #[x] ++ #[]) = #[a.eval x] by simp]
    exact zcG hcall
  have hok:=hall.own gf
  unfold zfE at hA
  split at hA
  · exact dq9 hA hs
  · rename_i e s b hk
    rw[hk] at hok
    split at hA
    · rename_i L hf caps hargs
      obtain⟨x,y,rfl,hx,hy⟩:=zjU hargs
      obtain⟨⟨hxv,hone⟩,_⟩:=zbr S hx
      split at hA
      · rename_i e' s' b' m get ag hL hag
        split at hA
        · rename_i hcond
          obtain⟨rfl,rfl,rfl⟩:=hcond
          subst hA
          have hs':m<=4611686018427387/\(∀ i j,i < m->j < m->zN9 (Γ.cfn hf) caps ag get i j)/\STO m (zJX (Γ.cfn hf) caps ag get):=hs
          obtain⟨hpos,hinfo,xs,hxs,hr⟩:=S.obj L _ hL
          have hown:∀ k,(g.sv L).ownBlock=some k->g.h k=none:=λ k hk=>(S.own L _ k hL hk).2
          have hfn:=zcK S hy
          generalize hyv:a.eval y=yv at hfn
          cases hfn with
          | fn _ _ _ fv cv l1 l2 hf1 hc1 =>
            have e1:fv=[]:=List.eq_nil_of_length_eq_zero l1.symm
            subst e1
            obtain⟨ii,zz,hi1,hi2,_⟩:=hinfo
            obtain⟨hcall,hrun⟩:=hok w g.h B (g.sv L) m get hf caps cv ag (Γ.cfn hf) (hall.cmp hf) (zp8 l2 hc1) hag ⟨ii,hi1,hi2⟩ hpos ⟨xs,hxs,hr⟩ (by rw[<- hxv];exact hone) S.hw (S.gl.mono S.le0) hown S.bs hs'.1 hs'.2.1 hs'.2.2
            refine zen (by simp[hop]) (w':=w) (f:=gf) (args:=#[a.eval x,a.eval y]) ?_ ?_
            · simp only [execOp, hop, resolve, hfv, Deferred.ofValue, dqd, dqe, dqb, invoke]
              rw[show (#[] ++ Array.map a.eval #[x,y] ++ #[]) = #[a.eval x,a.eval y] by simp]
              exact zcG hcall
            · rw [hxv, hyv]
              refine hrun.mono ?_
              rintro r0 w' ⟨rfl,⟨xs',hxs',hr'⟩,hg⟩
              refine⟨.tuple #[],rfl,g,_,rfl,?_⟩
              rw[zbi]
              have hold:∀ k,k < w.heap.size->¬ (g.sv L).ownBlock=some k->w'.heap[k]? = w.heap[k]?:=λ k hk hne=>hg.block k hk (λ e=>hne e.symm)
              have S' := S.write2 (o' := .vec e' s' b' m (zFF m (zJX (Γ.cfn hf) caps ag get) get)) hL (fun b hb => hb) ⟨⟨hg.os, hg.tape, hg.output, hg.size, fun k hk => hold k (dqS hk S.bs) (fun e => by have := (S.own L _ k hL e).1; omega)⟩, hg.drawn⟩
                hold ⟨hpos,⟨ii,zz,hi1,hi2,by assumption⟩,xs',hxs',hr'⟩ (λ M hM=>by simp[zb8] at hM)
              exact S'.put (d:=.tup []) hd ⟨[],rfl,trivial⟩ (λ L hL=>by simp[zbf] at hL) _
        · exact dq9 hA hs
      · exact dq9 hA hs
    · exact dq9 hA hs
  · rename_i e s b hk
    rw[hk] at hok
    split at hA
    · rename_i m s' get dst hargs hdst
      obtain⟨x,rfl,hx⟩:=zoV hargs
      split at hA
      · rename_i ie z hfresh hi hz
        split at hA
        · rename_i hcond
          obtain⟨rfl,hsz,rfl,hpos⟩:=hcond
          subst hA
          have hs':m * ie.bytes<=140737488355328/\m<=9223372036854775807:=hs
          obtain⟨zv,hzv,hzs⟩:=zcX hz hi
          obtain⟨hcall,hrun⟩:=hok w g.h (a.eval x) m get (zcK S hx) S.hw (S.gl.mono S.le0) hs'.1 hs'.2
          refine zen (by simp[hop]) (w':=w) (f:=gf) (args:=#[a.eval x]) (enter x rfl hcall) (hrun.mono ?_)
          rintro r0 w' ⟨h',v',rfl,hone,⟨xs,hxs,hr⟩,hnh,hb,hle,hw',hn'⟩
          refine⟨v',rfl,?_⟩
          have S2:=S.world hle hw' hn' hb
          have hbk:∀ k,v'.ownBlock=some k->w.heap.size<=k:=λ k hk=>(hxs.lt k hk).1
          have S3:=S2.adopt (t:=dst) (v:=v') (e:=e) (s:=s') (b:=ie.bytes) (n:=m) (get:=get) hfresh (λ k hk=>⟨dqE S.bs (hbk k hk),hnh k hk,λ L o ho hob=>by
              have hob':obk g L o k:=hob
              have:=zc4 (S.obj L o ho) hob'
              have:=hbk k hk
              omega⟩) (by
            refine⟨hpos,⟨ie,zv,hi,hsz,rfl,hzv,by rw[hzs,hsz]⟩,xs,?_,hr⟩
            rw[show ((⟨h',g.bk,g.sv,g.iv⟩:Gh).setSv dst v').sv dst=v' by simp[Gh.setSv]]
            exact ownsRow_base hxs λ k hk _=>dqE S.bs hk)
          refine⟨(⟨h',g.bk,g.sv,g.iv⟩:Gh).setSv dst v',_,rfl,?_⟩
          rw[zbi]
          refine S3.put (v:=v') hd (d:=.cl (.vec dst)) ⟨by simp[Gh.setSv],hone⟩ ?_ _
          intro L hL
          simp[zbf,zbN,zaE] at hL
          subst hL
          exact⟨_,by rw[zay,if_pos rfl]⟩
        · exact dq9 hA hs
      · exact dq9 hA hs
    · exact dq9 hA hs
  · rename_i it hk
    rw[hk] at hok
    split at hA
    · rename_i L hargs
      obtain⟨x,rfl,hx⟩:=zoV hargs
      obtain⟨hxv,hlab⟩:=zbr S hx
      have hxv:a.eval x=.map (some (zdV (g.sv L))):=hxv
      split at hA
      · rename_i kt vt q m F hL
        subst hA
        obtain⟨hcall,hrun⟩:=hok w (zdV (g.sv L))
        refine zen (by simp[hop]) (w':=w) (f:=gf) (args:=#[a.eval x]) (enter x rfl hcall) ?_
        rw[hxv]
        refine hrun.mono ?_
        rintro r0 w' ⟨rfl,ty,rfl⟩
        let h':Fz:=λ b=>if b=w.heap.size then some (.fz (.cells #[.map (some (zdV (g.sv L)))] ty (0,0))) else g.h b
        have hle:Fle g.h h':=λ b o hb=>by
          show (if b=w.heap.size then _ else g.h b)=some o
          rw[if_neg (λ e=>by have:=S.hw.lt hb;omega)];exact hb
        have hnew:(w.alloc (.cells #[.map (some (zdV (g.sv L)))] ty)).heap[w.heap.size]? = some (.cells #[.map (some (zdV (g.sv L)))] ty):=heap_alloc_new w _
        have e1:h' w.heap.size=some (.fz (.cells #[.map (some (zdV (g.sv L)))] ty (0,0))):=if_pos rfl
        have e2:∀ b,b ≠ w.heap.size->h' b=g.h b:=λ b hb=>if_neg hb
        have S2:=S.world (h':=h') (w':=w.alloc (.cells #[.map (some (zdV (g.sv L)))] ty)) hle (λ b y hb=>by
            by_cases e:b=w.heap.size
            · subst e
              rw[e1] at hb;cases hb
              exact⟨_,hnew,rfl⟩
            · rw [e2 b e] at hb
              obtain⟨o,h1,h2⟩:=S.hw b y hb
              exact⟨o,by rw[Below.heap_alloc _ _ b (S.hw.lt hb)];exact h1,h2⟩)
          (λ b o hb=>by
            by_cases e:b=w.heap.size
            · exact .inr (Nat.le_of_eq e.symm)
            · rw[e2 b e] at hb;exact .inl hb)
          (.of ⟨(Below.refl _ w).alloc (dqt _) _,dqt _⟩)
        refine⟨_,rfl,⟨h',g.bk,g.sv,g.iv⟩,_,rfl,?_⟩
        rw[zbi]
        exact S2.put (d:=.cl (.mkey it L)) hd ⟨w.heap.size,_,ty,(0,0),rfl,by show (if w.heap.size=w.heap.size then _ else _)=_;rw[if_pos rfl],rfl⟩ (λ M hM=>by
          simp[zbf,zbN,zaE] at hM;subst hM;exact⟨_,hL⟩) _
      · exact dq9 hA hs
    · exact dq9 hA hs
  · rename_i it hk
    rw[hk] at hok
    split at hA
    · rename_i it' L hargs
      obtain⟨x,rfl,hx⟩:=zoV hargs
      obtain⟨⟨k,C,ty,fr,hxv,hkb,hC0⟩,hlab⟩:=zbr S hx
      split at hA
      · rename_i kt vt q m F hL
        split at hA
        · rename_i hcond
          obtain⟨rfl,rfl,hE⟩:=hcond
          subst hA
          have hs':m<=1000000/\(zJY F 9223372036854775808 0 m).isSome=true:=hs
          obtain⟨es,clock,hheap,_,hm⟩:=S.obj L _ hL
          obtain⟨hcall,hrun⟩:=hok w g.h k (zdV (g.sv L)) C ty fr es clock vt q m F S.hw hkb hC0 hheap hE hm hs'.1 hs'.2
          refine zen (by simp[hop]) (w':=w) (f:=gf) (args:=#[a.eval x]) (enter x rfl hcall) ?_
          rw[hxv]
          refine hrun.mono ?_
          rintro r0 w' ⟨v,rfl,hrow,hb⟩
          let h':Fz:=λ b=>if b < w.heap.size then g.h b else (w'.heap[b]?).map .fz
          have hle:Fle g.h h':=λ b o hb=>by
            show (if b < w.heap.size then g.h b else _)=some o
            rw[if_pos (S.hw.lt hb)];exact hb
          have S2:=S.world (h':=h') (w':=w') hle (λ b y hb'=>by
              have hb':(if b < w.heap.size then g.h b else (w'.heap[b]?).map .fz)=some y:=hb'
              split at hb'
              · rename_i hlt
                obtain⟨o,h1,h2⟩:=S.hw b y hb'
                exact⟨o,by rw[hb.block b hlt];exact h1,h2⟩
              · obtain ⟨o, ho, rfl⟩ := dqv.1 hb'
                exact⟨o,ho,rfl⟩)
            (λ b o hb'=>by
              have hb':(if b < w.heap.size then g.h b else (w'.heap[b]?).map .fz)=some o:=hb'
              split at hb'
              · exact .inl hb'
              · rename_i hlt;exact .inr (by omega))
            (.of hb)
          have hrep:Rep h' (.sl m 1 (λ i=>[.int .i64 ((zEe F m).getD i 0)])) v:=by
            refine zgS (g:=⟨h',g.bk,g.sv,g.iv⟩) (by decide) hrow (λ i hi=>?_) (λ _ _ h=>h) λ b hb'=>?_
            · have hl : (zEe F m).length = m := by have := hrow.1; simpa using this
              have e1:(((zEe F m).map (Value.int .i64)).drop (i * 1)).take 1=[.int .i64 ((zEe F m).getD i 0)]:=by
                apply List.ext_getElem?
                intro j
                rw[dqs]
                cases j with
                | zero =>
                  have hi':i < (zEe F m).length:=by omega
                  simp[List.getD_eq_getElem?_getD,hi']
                | succ j=>simp
              rw[e1]
              exact⟨.int _ _,trivial⟩
            · show (if b < w.heap.size then g.h b else _) = _
              have:=(hrow.lt b hb').1
              rw[if_neg (by omega)]
          refine⟨v,rfl,⟨h',g.bk,g.sv,g.iv⟩,_,rfl,?_⟩
          rw[zbi]
          exact S2.put (v:=v) (d:=.p (.sl m 1 (λ i=>[.int .i64 ((zEe F m).getD i 0)]))) hd hrep (zd1 _) _
        · exact dq9 hA hs
      · exact dq9 hA hs
    · exact dq9 hA hs
  · rename_i e s b φ ret okk hk
    rw[hk] at hok
    split at hA
    · rename_i L hargs
      obtain⟨x,rfl,hx⟩:=zoV hargs
      obtain⟨⟨hxv,hone⟩,_⟩:=zbr S hx
      split at hA
      · rename_i e' s' b' m get hL
        split at hA
        · rename_i hcond
          obtain⟨rfl,rfl,rfl⟩:=hcond
          obtain⟨hpos,hinfo,xs,hxs,hr⟩:=S.obj L _ hL
          have hown:∀ k,(g.sv L).ownBlock=some k->g.h k=none:=λ k hk=>(S.own L _ k hL hk).2
          have pre:m<=4611686018427387->okk get->_:=hok w g.h B (g.sv L) m get ⟨xs,hxs,hr⟩ (by rw[<- hxv];exact hone) S.hw hown S.bs
          split at hA
          · subst hA
            have hs':m<=4611686018427387/\okk get:=hs
            obtain⟨hcall,hrun⟩:=pre hs'.1 hs'.2
            refine zen (by simp[hop]) (w':=w) (f:=gf) (args:=#[a.eval x]) (enter x rfl hcall) ?_
            rw[hxv]
            refine hrun.mono ?_
            rintro r0 w' ⟨v',rfl,_,hone',hbl,⟨xs',hxs',hr'⟩,hg⟩
            refine⟨v',rfl,g.setSv L v',_,rfl,?_⟩
            rw[zlL]
            exact S.grow (dst:=o.dst) hL hd hg (by
              cases hvb:v'.ownBlock with
              | none=>exact .inr (.inr rfl)
              | some k=>exact .inl (hbl k hvb).symm) ⟨hpos,hinfo,xs',by rw[show (g.setSv L v').sv L=v' by simp[Gh.setSv]];exact hxs',hr'⟩ hone' σ.log
          · subst hA
            have hs':m<=4611686018427387/\okk get:=hs
            obtain⟨hcall,hrun⟩:=pre hs'.1 hs'.2
            refine zen (by simp[hop]) (w':=w) (f:=gf) (args:=#[a.eval x]) (enter x rfl hcall) ?_
            rw[hxv]
            refine hrun.mono ?_
            rintro r0 w' ⟨v',rfl,hvv,hone',hbl,⟨xs',hxs',hr'⟩,hg⟩
            have hvv:=hvv rfl
            subst hvv
            refine⟨.tuple #[],rfl,g,_,rfl,?_⟩
            rw[zbi]
            have hold:∀ k,k < w.heap.size->¬ (g.sv L).ownBlock=some k->w'.heap[k]? = w.heap[k]?:=λ k hk hne=>hg.block k hk (λ e=>hne e.symm)
            have S' := S.write2 (o' := .vec e' s' b' m (φ m get).2) hL (fun b hb => hb) ⟨⟨hg.os, hg.tape, hg.output, hg.size, fun k hk => hold k (dqS hk S.bs) (fun e => by have := (S.own L _ k hL e).1; omega)⟩, hg.drawn⟩
              hold ⟨hpos,hinfo,xs',hxs',hr'⟩ (λ M hM=>by simp[zb8] at hM)
            exact S'.put (d:=.tup []) hd ⟨[],rfl,trivial⟩ (λ L hL=>by simp[zbf] at hL) _
        · exact dq9 hA hs
      · exact dq9 hA hs
    · exact dq9 hA hs
  · rename_i ty F hk
    rw[hk] at hok
    split at hA
    · rename_i az dst has hdst
      split at hA
      · rename_i s b cells e hF hfresh
        subst hA
        have hs':s:=by
          cases b with
          | true=>exact hs.1 rfl
          | false=>exact hs.2 rfl
        obtain⟨hcall,hrun⟩:=hok w g.h az (args.toList.map a.eval) s b cells e hF hs' (zrA S args.toList has) S.hw (S.gl.mono S.le0)
        refine zen (by simp[hop]) (w':=w) (f:=gf) (args:=(args.toList.map a.eval).toArray) ?_ (hrun.mono ?_)
        · simp only [execOp, hop, resolve, hfv, Deferred.ofValue, dqd, dqe, dqb, invoke]
          rw[show (#[] ++ Array.map a.eval args ++ #[])=(args.toList.map a.eval).toArray by cases args;simp]
          exact zcG hcall
        rintro r0 w' ⟨h',k,C,v1,v2,rfl,h1,h2,he,hkn,hkh,hC,hr,hb,hle,hw',hn'⟩
        refine⟨.tuple #[v1,v2],rfl,?_⟩
        have S2:=S.world hle hw' hn' hb
        have S3:=S2.adoptB (t:=dst) (ty:=ty) (k:=k) (cells:=cells) (C:=C) hfresh ⟨dqE S.bs hkn,hkh,λ L o ho hob=>by
          have hob':obk g L o k:=hob
          have:=zc4 (S.obj L o ho) hob'
          omega⟩ hC hr
        cases b with
        | true =>
          refine⟨(⟨h',g.bk,g.sv,g.iv⟩:Gh).setBk dst k,_,.inl ⟨rfl,rfl⟩,?_⟩
          rw[zbi]
          refine S3.put (v:=.tuple #[v1,v2]) hd (d:=.tup [.c (.ptr dst 0),.c (.p e)]) ⟨[v1,v2],rfl,?_,he,trivial⟩ ?_ _
          · show v1 = .pointer (some ⟨_, 0, none⟩)
            rw[h1 rfl];simp[Gh.setBk]
          · intro L hL
            simp[zbf,zbN,zaE] at hL
            subst hL
            exact⟨_,by rw[zay,if_pos rfl]⟩
        | false =>
          refine⟨(⟨h',g.bk,g.sv,g.iv⟩:Gh).setBk dst k,_,.inr ⟨rfl,rfl⟩,?_⟩
          rw[zbi]
          refine S3.put (v:=.tuple #[v1,v2]) hd (d:=.tup [.c (.p .nilp),.c (.p e)]) ⟨[v1,v2],rfl,?_,he,trivial⟩ ?_ _
          · show Rep h' .nilp v1
            rw[h2 rfl];exact .nilp
          · intro L hL
            simp[zbf,zbN,zaE] at hL
      · exact dq9 hA hs
    · exact dq9 hA hs
  · rename_i e s b F hk
    rw[hk] at hok
    split at hA
    · rename_i az u dst has hdst
      split at hA
      · rename_i p n get rs ie z hF hfresh hi hz
        split at hA
        · rename_i hcond
          obtain⟨hsz,rfl,hpos⟩:=hcond
          subst hA
          have hs':p/\zEf get u/\rs.all zhG=true:=hs
          obtain⟨zv,hzv,hzs⟩:=zcX hz hi
          obtain⟨h',S1,F'⟩:=S.freeze (zlH has)
          have hargs:=F'.repDs has (λ y hy=>hy) (zvm S args.toList)
          obtain⟨hcall,hrun⟩:=hok w h' az (args.toList.map a.eval) p n get rs hF hs'.1 hargs S1.hw (S1.gl.mono S1.le0)
          refine zen (by simp[hop]) (w':=w) (f:=gf) (args:=(args.toList.map a.eval).toArray) ?_ (hrun.mono ?_)
          · simp only [execOp, hop, resolve, hfv, Deferred.ofValue, dqd, dqe, dqb, invoke]
            rw[show (#[] ++ Array.map a.eval args ++ #[])=(args.toList.map a.eval).toArray by cases args;simp]
            exact zcG hcall
          rintro r0 w' ⟨h2,v',xs,rfl,hxr,hone,⟨ys,hys,hr⟩,hnh,hb,hle,hw2,hn2⟩
          have hlr:∀ i,i < n->RL (Rep (zkA g.h h' h2)) (get i) ((ys.drop (i * s)).take s):=λ i hi=>by
            cases u with
            | nil =>
              refine (hr i hi).mono λ _ _ h=>Rep.mono (λ b o hbo=>?_) h
              show (match g.h b,h' b with | none,some _=>none | _,_=>h2 b)=some o
              cases e1:g.h b with
              | some y=>exact hbo
              | none =>
                cases e2:h' b with
                | none=>exact hbo
                | some y =>
                  obtain⟨L,x,o',hm,_⟩:=F'.new b e1 _ e2
                  simp at hm
            | cons x l=>exact zlO (hs'.2.1 i) (hr i hi)
          have S2:=S.borrow F' hb hw2 (ztY F'.le hle) zml (zqc F'.le hn2)
          have hbk:∀ k,v'.ownBlock=some k->w.heap.size<=k:=λ k hk=>(hys.lt k hk).1
          have S3:=S2.adopt (t:=dst) (v:=v') (e:=e) (s:=s) (b:=ie.bytes) (n:=n) (get:=get) hfresh (λ k hk=>⟨dqE S.bs (hbk k hk),zvp (hnh k hk),λ L o ho hob=>by
              have hob':obk g L o k:=hob
              have:=zc4 (S.obj L o ho) hob'
              have:=hbk k hk
              omega⟩) (by
            refine⟨hpos,⟨ie,zv,hi,hsz,rfl,hzv,by rw[hzs,hsz]⟩,ys,?_,hlr⟩
            rw[show ((⟨zkA g.h h' h2,g.bk,g.sv,g.iv⟩:Gh).setSv dst v').sv dst=v' by simp[Gh.setSv]]
            exact ownsRow_base hys λ k hk _=>dqE S.bs hk)
          refine⟨zFJ v' xs rs,rfl,(⟨zkA g.h h' h2,g.bk,g.sv,g.iv⟩:Gh).setSv dst v',_,rfl,?_⟩
          rw[zbi]
          have hvx:RL (Rep (zkA g.h h' h2)) rs xs:=zlO hs'.2.2 hxr
          cases rs with
          | nil =>
            refine S3.put (v:=v') hd (d:=.cl (.vec dst)) ⟨by simp[Gh.setSv],hone⟩ ?_ _
            intro L hL
            simp[zbf,zbN,zaE] at hL
            subst hL
            exact⟨_,by rw[zay,if_pos rfl]⟩
          | cons x l =>
            refine S3.put (v:=.tuple (v' :: xs).toArray) hd (d:=.tup (.c (.vec dst) :: (x :: l).map λ v=>.c (.p v))) ⟨v' :: xs,rfl,⟨by simp[Gh.setSv],hone⟩,?_⟩ ?_ _
            · refine RL.map_left.2 (hvx.mono λ _ _ h=>h)
            · intro L hL
              have hL':L=dst:=by
                simp only[zbf,dqJ,dqg,dqo,dqz] at hL
                rcases hL with hL | ⟨d,⟨v,_,rfl⟩,hL⟩
                · simpa [zbN,zaE] using hL
                · simp[zbN,zaE] at hL
              subst hL'
              exact⟨_,by rw[zay,if_pos rfl]⟩
        · exact dq9 hA hs
      · exact dq9 hA hs
    · exact dq9 hA hs
  · rename_i e s b gd φ pre hk
    rw[hk] at hok
    split at hA
    · rename_i L hf caps hargs
      obtain⟨x,y,rfl,hx,hy⟩:=zjU hargs
      obtain⟨⟨hxv,hone⟩,_⟩:=zbr S hx
      split at hA
      · rename_i e' s' b' m get hL
        split at hA
        · rename_i hcond
          obtain⟨rfl,rfl,rfl,rfl⟩:=hcond
          subst hA
          have hs':m<=4611686018427387/\pre caps m get:=hs
          obtain⟨hpos,hinfo,xs,hxs,hr⟩:=S.obj L _ hL
          have hown:∀ k,(g.sv L).ownBlock=some k->g.h k=none:=λ k hk=>(S.own L _ k hL hk).2
          have hfn:=zcK S hy
          generalize hyv:a.eval y=yv at hfn
          cases hfn with
          | fn _ _ _ fv cv l1 l2 hf1 hc1 =>
            have e1:fv=[]:=List.eq_nil_of_length_eq_zero l1.symm
            subst e1
            obtain⟨hcall,hrun⟩:=hok w g.h B (g.sv L) m get caps cv (zp8 l2 hc1) ⟨xs,hxs,hr⟩ (by rw[<- hxv];exact hone) S.hw hown S.bs hs'.1 hs'.2
            refine zen (by simp[hop]) (w':=w) (f:=gf) (args:=#[a.eval x,a.eval y]) ?_ ?_
            · simp only [execOp, hop, resolve, hfv, Deferred.ofValue, dqd, dqe, dqb, invoke]
              rw[show (#[] ++ Array.map a.eval #[x,y] ++ #[]) = #[a.eval x,a.eval y] by simp]
              exact zcG hcall
            · rw [hxv, hyv]
              refine hrun.mono ?_
              rintro r0 w' ⟨v',rfl,hone',hbl,⟨xs',hxs',hr'⟩,hg⟩
              refine⟨v',rfl,g.setSv L v',_,rfl,?_⟩
              rw[zlL]
              exact S.grow (dst:=o.dst) hL hd hg (by
                cases hvb:v'.ownBlock with
                | none=>exact .inr (.inr rfl)
                | some k=>exact .inl (hbl k hvb).symm) ⟨hpos,hinfo,xs',by rw[show (g.setSv L v').sv L=v' by simp[Gh.setSv]];exact hxs',hr'⟩ hone' σ.log
        · exact dq9 hA hs
      · exact dq9 hA hs
    · exact dq9 hA hs

theorem zw3 : ∀ {l : List PV} {o : Nat} {x y : PV}, zJ6 l = true → l[o]? = some x → l[o + 1]? = some y → zhG x = true → zhG y = true → False
  | [],o,x,y,_,hx,_,_,_=>by simp at hx
  | [a],0,x,y,_,_,hy,_,_=>by simp at hy
  | [a],o+1,x,y,_,hx,_,_,_=>by simp at hx
  | a :: b :: r,0,x,y,h,hx,hy,h1,h2=>by
    simp at hx hy;subst hx hy
    simp[zJ6,h1,h2] at h
  | a :: b :: r,o+1,x,y,h,hx,hy,h1,h2=>by
    simp only[zJ6,dqm] at h
    exact zw3 (l:=b :: r) h.2 (by simpa using hx) (by simpa using hy) h1 h2
theorem ztZ {h h':Fz}{p q:PV}{v:Value}(hs:zhG p=true) (hp:Rep h p v) (hq:Rep h' q v):zhG q=true:=by
 cases hp with
 | bool b=>cases hq with
  | bool=>rfl
  | nsF _ _ _ _ r=>cases r
 | int k n=>cases hq with
  | int=>rfl
  | nsF _ _ _ _ r=>cases r
 | _=>cases hs
theorem zFY {g : Gh} {ob : Nat → Option AO} {u : Upd} {h' h2 : Fz} {n s : Nat} {get : Nat → List PV} {v : Value} (F : Frozen g ob u h') (hu : zei ob u) (hno : u.all zJ7 = true) (hle : Fle h' h2) (hg : ∀ i, sc2 (get i) = true)
    (hr:Rep h2 (.sl n s get) v):Rep (zkA g.h h' h2) (.sl n s get) v:=by
  cases hr with
  | sl0=>exact .sl0 _ _
  | sle _ _ a cap=>exact .sle _ _ a cap
  | sl _ _ _ b o cap C ty fr vs hb hcap hlen hc hr =>
    cases n with
    | zero=>exact .sle _ _ _ _
    | succ m =>
    have hsc:∀ i j x,(get i)[j]? = some x->zhG x=true:=λ i j x hx=>by
      have:=hg i
      simp only[sc2,dqm,List.all_eq_true] at this
      exact this.1 x (dqx hx)
    refine .sl _ _ _ b o cap C ty fr vs ?_ hcap hlen hc λ i j x hi hx=>zrz (hsc i j x hx) (hr i j x hi hx)
    show (match g.h b,h' b with | none,some _=>none | _,_=>h2 b)=_
    cases e1:g.h b with
    | some y=>exact hb
    | none =>
      cases e2:h' b with
      | none=>exact hb
      | some y =>
        exfalso
        have hy:y=.fz (.cells C ty fr):=by
          have:=hle b y e2
          rw[hb] at this;exact (Option.some.inj this).symm
        subst hy
        obtain⟨L,x,o',hm,hL,hk⟩:=F.new b e1 _ e2
        have hna:=List.all_eq_true.1 hno _ hm
        have hlen0:2<=(get 0).length:=by
          have:=hg 0
          simp only[sc2,dqm,Nat.ble_eq] at this
          exact this.2
        rcases hu _ hm with ⟨e,s,b',n,get',_,e3⟩ | ⟨ty',cells,l,us,e4,e3,e5,e6⟩ | ⟨te,bb,e,s,b',n,ln,get',_,e3⟩ | ⟨te,bb,kt,vt,q,n,mk,nn,F',_,e3⟩ | ⟨kt,vt,q,n,F',e4,e3⟩
        · simp only at e3;subst e3;cases hna
        · simp only at e3 e4; subst e3
          rw[hL] at e4;simp only[dqa] at e4;subst e4
          obtain⟨C',hC',hrl⟩:=F.box L ty' cells l us hL e5 e6 hm
          have hk:g.bk L=b:=hk
          subst hk
          rw[e2] at hC';simp only[dqa,FzO.fz.injEq,Obj.cells.injEq] at hC'
          obtain⟨rfl,rfl,rfl⟩:=hC'
          obtain⟨x0,hx0⟩:∃ x,(get 0)[0]? = some x:=⟨_,dqD (by omega)⟩
          obtain⟨x1,hx1⟩:∃ x,(get 0)[1]? = some x:=⟨_,dqD (by omega)⟩
          have c0:=hc 0 0 x0 (by omega) hx0
          have c1:=hc 0 1 x1 (by omega) hx1
          simp only[Nat.zero_mul,Nat.add_zero] at c0 c1
          have hl:=hrl.length
          have l0:o < l.length:=by
            have:=(dqp.1 c0).1
            simp at hl;omega
          have l1:o+1 < l.length:=by
            have:=(dqp.1 c1).1
            simp at hl;omega
          obtain⟨v0,hv0,r0⟩:=hrl.get o _ (dqD l0)
          obtain⟨v1,hv1,r1⟩:=hrl.get (o+1) _ (dqD l1)
          have hv0:C[o]? = some v0:=by simpa using hv0
          have hv1:C[o+1]? = some v1:=by simpa using hv1
          rw[hv0] at c0;rw[hv1] at c1
          simp only[dqa] at c0 c1;subst c0 c1
          exact zw3 hna (dqD l0) (dqD l1) (ztZ (hsc 0 0 x0 hx0) (hr 0 0 x0 (by omega) hx0) r0) (ztZ (hsc 0 1 x1 hx1) (hr 0 1 x1 (by omega) hx1) r1)
        · simp only at e3;subst e3;cases hna
        · simp only at e3;subst e3;cases hna
        · simp only at e3 e4; subst e3
          rw[hL] at e4;simp only[dqa] at e4;subst e4
          have hk:zdV (g.sv L)=b:=hk
          subst hk
          have hr:=F.mo L kt vt q n F' hL hm
          cases hr with
          | fm _ _ _ _ es clock hb' _=>rw[e2] at hb';simp at hb'
theorem zC2 {g:Gh}{ob:Nat->Option AO}{u:Upd}{h' h2:Fz}{r:List PA}{v:Value}(F:Frozen g ob u h') (hu:zei ob u) (hl:zjJ u r=true) (hp:zu1 r) (hle:Fle h' h2) (hr:zvT h2 r v):zvT (zkA g.h h' h2) r v:=by
 unfold zjJ at hl
 split at hl
 ·rename_i n s get x us
  simp only[dqm] at hl
  exact zFY (n:=n) (s:=s) (get:=get) (v:=v) F hu hl.2 hle hp hr
 ·cases hl

theorem zw4 {labs:List Nat}{u:List (Nat×AO)}{C:COut}(h:(COut.act labs u C).safe):C.wp (outOf C):=by
 cases C with
 | no=>exact h.elim
 | tot r=>rfl
 | det s r =>
  cases hsc:ziy r with
  | true=>rw[zoo hsc] at h;exact⟨h,rfl⟩
  | false =>
   cases hl:zjJ u r with
   | true=>rw[zl1 hsc hl] at h;exact⟨h.2,rfl⟩
   | false=>rw[zop hsc hl] at h;exact⟨h,rfl⟩
 | rel ρ s post res=>exact⟨h.1,h.2,λ x hx=>⟨x,hx,rfl⟩⟩
 | alt b s1 r1 s2 r2=>exact⟨λ hb=>⟨h.1 hb,.inl ⟨hb,rfl⟩⟩,λ hb=>⟨h.2 hb,.inr ⟨hb,rfl⟩⟩⟩

theorem zt0 {o : Oper} {gf : FuncId} {args : Array Operand} {az pre post : List PA} {pv qv : List Value} {u : Upd} {A : OpAct} (hok : OkAll P Γ) (S : Sim P nt B w0 h0 g σ a w) (hd : zck nt o.dst = true)
    (hnd:∀ c,o.op ≠ .defer c) (hpre:RL (paR g.h) pre pv) (hpost:RL (paR g.h) post qv) (has:zfC (lk σ.objs) (args.toList.map (evO σ.env))=some (az,u))
    (hexec:zal P gf->(execOp a.eval o).run P w=.ok (.enter gf (pv ++ args.toList.map a.eval ++ qv).toArray) w) {labs:List Nat}
    (hA:(Γ gf (pre ++ az ++ post)).act labs u=A) (hs:A.safe):zfi P nt B w0 h0 r n i o A σ a w Q:=by
    obtain⟨h',S1,F⟩:=S.freeze (zlH has)
    have hargs:=F.repDs has (λ y hy=>hy) (zvm S args.toList)
    have up:∀ {l:List PA} {vs:List Value},RL (paR g.h) l vs->RL (paR h') l vs:=λ hr=>hr.mono λ x v hx=>by
      cases x with
      | one p=>exact Rep.mono F.le hx
      | agg cs=>obtain⟨ws,e,hr⟩:=hx;exact⟨ws,e,hr.mono λ _ _ h=>h.mono F.le⟩
    have hall:RL (paR h') (pre ++ az ++ post) (pv ++ args.toList.map a.eval ++ qv):=((up hpre).append hargs).append (up hpost)
    generalize hC:Γ gf (pre ++ az ++ post)=C at hA
    have hwp:C.wp (outOf C):=by
      subst hA
      exact zw4 hs
    obtain⟨hcall,hrun⟩:=hok.fn gf (pre ++ az ++ post) (outOf C) (by rw[hC];exact hwp) w h' _ hall S1.hw (S1.gl.mono S1.le0)
    refine zen hnd (w':=w) (f:=gf) (args:=(pv ++ args.toList.map a.eval ++ qv).toArray) (hexec hcall) (hrun.mono ?_)
    · rintro e w' ⟨h2, rs, v, hK, rfl, hres, hb, hle, hw2, hn2⟩
      refine⟨v,rfl,?_⟩
      have S2:=S1.world hle hw2 hn2 hb
      have S3 := S2.put (v := v) (d := resD rs) hd (ztW (g := g) hres) (fun L hL => by rw [zlN] at hL; simp at hL)
        σ.log
      have T2:=S.borrow F hb hw2 (λ _ _ h=>h) (λ b x hx=>hle b x (F.le b x hx)) (λ _ _ h=>.inl h)
      have T3 : ziy rs = true → _ := fun hsc => T2.put (v := v) (d := resD rs) hd (ztW (g := g) (zC1 (h := g.h) hsc hres)) (fun L hL => by rw [zlN] at hL; simp at hL)
        σ.log
      have U2:=S.borrow F hb hw2 (ztY F.le hle) zml (zqc F.le hn2)
      have U3 : zjJ u rs = true → zu1 rs → _ := fun hl hp => U2.put (v := v) (d := resD rs) hd (ztW (g := ⟨zkA g.h h' h2, g.bk, g.sv, g.iv⟩) (zC2 F (zlH has) hl hp hle hres)) (fun L hL => by rw [zlN] at hL; simp at hL)
        σ.log
      subst hA
      cases C with
      | no=>exact hs.elim
      | tot r =>
        cases hK
        cases hsc:ziy rs with
        | true=>rw[zq6 hsc];exact⟨⟨g.h,g.bk,g.sv,g.iv⟩,_,rfl,by rw[zbi];exact T3 hsc⟩
        | false =>
          cases hl:zjJ u rs with
          | true =>
            rw[zon hsc hl] at hs;rw[zon hsc hl]
            exact⟨⟨zkA g.h h' h2,g.bk,g.sv,g.iv⟩,_,rfl,by rw[zbi];exact U3 hl hs⟩
          | false=>rw[zq7 hsc hl];exact⟨⟨h2,g.bk,g.sv,g.iv⟩,_,rfl,by rw[zbi];exact S3⟩
      | det s r =>
        cases hK
        cases hsc:ziy rs with
        | true=>rw[zoo hsc];exact⟨⟨g.h,g.bk,g.sv,g.iv⟩,_,rfl,by rw[zbi];exact T3 hsc⟩
        | false =>
          cases hl:zjJ u rs with
          | true =>
            rw[zl1 hsc hl] at hs;rw[zl1 hsc hl]
            exact⟨⟨zkA g.h h' h2,g.bk,g.sv,g.iv⟩,_,rfl,by rw[zbi];exact U3 hl hs.1⟩
          | false=>rw[zop hsc hl];exact⟨⟨h2,g.bk,g.sv,g.iv⟩,_,rfl,by rw[zbi];exact S3⟩
      | rel ρ s post res =>
        obtain⟨x,hx,rfl⟩:=hK
        exact⟨⟨h2,g.bk,g.sv,g.iv⟩,_,⟨x,hx,rfl⟩,by rw[zbi];exact S3⟩
      | alt b s1 r1 s2 r2 =>
        rcases hK with ⟨hb,rfl⟩ | ⟨hb,rfl⟩
        · exact⟨⟨h2,g.bk,g.sv,g.iv⟩,_,.inl ⟨hb,rfl⟩,by rw[zbi];exact S3⟩
        · exact⟨⟨h2,g.bk,g.sv,g.iv⟩,_,.inr ⟨hb,rfl⟩,by rw[zbi];exact S3⟩
theorem zC3 {o : Oper} {f : Operand} {args : Array Operand} {ts : Array TypeId} {A : OpAct} (hok : OkAll P Γ) (S : Sim P nt B w0 h0 g σ a w) (hd : zck nt o.dst = true)
    (hop:o.op=.call { callee:=.value f,args,argTypes:=ts })
    (hA:act P Γ o (evO σ.env) (lk σ.objs)=A) (hs:A.safe):zfi P nt B w0 h0 r n i o A σ a w Q:=by
  simp only[act,hop] at hA
  split at hA
  · rename_i gf caps hf
    split at hA
    · rename_i C hC
      obtain⟨cv,hfv,hcap⟩:=(zbr S hf).1
      refine zwY (vals:=args.toList.map a.eval ++ cv) hok S hd (by simp[hop]) hC (λ hcall=>?_) ((zvm S args.toList).append (zw0 hcap)) hA hs
      simp only[execOp,hop,resolve,hfv,Deferred.ofValue,dqd,dqe,dqb,invoke]
      rw[show (#[] ++ Array.map a.eval args ++ cv.toArray)=(args.toList.map a.eval ++ cv).toArray by cases args;simp]
      exact zcG hcall
    · exact dq9 hA hs
  · rename_i gf first caps hf
    split at hA
    · rename_i C hC
      have hfn:=zcK S hf
      generalize hfv:a.eval f=fvv at hfn
      cases hfn with
      | fn _ _ _ fv cv l1 l2 hf1 hc1 =>
        have hp:∀ {l:List PV} {vs:List Value},RL (Rep g.h) l vs->RL (dvR g) (l.map λ v=>DV.p v) vs:=λ hr=>RL.map_left.2 hr
        refine zwY (vals:=fv ++ args.toList.map a.eval ++ cv) hok S hd (by simp[hop]) hC (λ hcall=>?_) (((hp (zp8 l1 hf1)).append (zvm S args.toList)).append (hp (zp8 l2 hc1))) hA hs
        simp only[execOp,hop,resolve,hfv,Deferred.ofValue,dqd,dqe,dqb,invoke]
        rw[show (fv.toArray ++ Array.map a.eval args ++ cv.toArray)=(fv ++ args.toList.map a.eval ++ cv).toArray by cases args;simp]
        exact zcG hcall
    split at hA
    · split at hA
      · have hfn := zcK S hf
        generalize hfv:a.eval f=fvv at hfn
        cases hfn with
        | fn _ _ _ fv cv l1 l2 hf1 hc1 =>
          have e1:fv=[]:=List.eq_nil_of_length_eq_zero l1.symm
          have e2:cv=[]:=List.eq_nil_of_length_eq_zero l2.symm
          subst e1 e2
          exact zFX hok S hd hop hfv hA hs
      · exact dq9 hA hs
    split at hA
    · rename_i az u has
      have hfn:=zcK S hf
      generalize hfv:a.eval f=fvv at hfn
      cases hfn with
      | fn _ _ _ fv cv l1 l2 hf1 hc1 =>
        refine zt0 hok S hd (by simp[hop]) (zwQ (zp8 l1 hf1)) (zwQ (zp8 l2 hc1)) has (λ hcall=>?_) hA hs
        simp only[execOp,hop,resolve,hfv,Deferred.ofValue,dqd,dqe,dqb,invoke]
        rw[show (fv.toArray ++ Array.map a.eval args ++ cv.toArray)=(fv ++ args.toList.map a.eval ++ cv).toArray by cases args;simp]
        exact zcG hcall
    · exact dq9 hA hs
  · rename_i gf cells hf
    split at hA
    · rename_i az u has
      have hfn:=zcK S hf
      generalize hfv:a.eval f=fvv at hfn
      cases hfn with
      | fna _ _ vs l1 hf1 =>
        refine zt0 (pre:=[.agg cells]) (post:=[]) (pv:=[.agg vs.toArray]) (qv:=[]) hok S hd (by simp[hop]) ⟨⟨vs,rfl,zp8 l1 hf1⟩,trivial⟩ trivial has (λ hcall=>?_) (by simpa using hA) hs
        simp only[execOp,hop,resolve,hfv,Deferred.ofValue,dqd,dqe,dqb,invoke]
        rw[show (#[Value.agg vs.toArray] ++ Array.map a.eval args ++ #[])=([Value.agg vs.toArray] ++ args.toList.map a.eval ++ []).toArray by cases args;simp]
        exact zcG hcall
    · exact dq9 hA hs
  · exact dq9 hA hs

theorem zmm {o : Oper} {A : OpAct} (hok : OkAll P Γ) (S : Sim P nt B w0 h0 g σ a w) (hd : zck nt o.dst = true) (hA : act P Γ o (evO σ.env) (lk σ.objs) = A) (hs : A.safe) :
  zfi P nt B w0 h0 r n i o A σ a w Q:=by
 have hA':=hA
 cases hop:o.op with
 | move x=>simp only[act,hop] at hA;subst hA;exact ztR S hd (.inl hop)
 | assign x=>simp only[act,hop] at hA;subst hA;exact ztR S hd (.inr hop)
 | pick c x y =>
  simp only[act,hop] at hA
  split at hA
  ·rename_i t hc;subst hA;exact zCN S hd hop hc
  ·exact dq9 hA hs
 | alloc e =>
  simp only[act,hop] at hA
  split at hA
  ·rename_i z hz;exact zwo S hd hop hz hA hs
  ·exact dq9 hA hs
 | box e x =>
  simp only[act,hop] at hA
  split at hA
  ·rename_i d m hx hm
   split at hA
   ·rename_i hcond
    simp only[dqm] at hcond
    exact zFO S hd hop hx hcond.2 hA hs
   ·exact dq9 hA hs
  ·exact dq9 hA hs
 | build t parts =>
  simp only[act,hop] at hA
  split at hA
  ·rename_i z hf hz
   split at hA
   ·rename_i l hl
    subst hA
    refine zwq S hd hop hf hz hl (λ L hL=>?_)
    rcases znE _ _ _ hl L hL with h | ⟨x,_,h⟩
    ·rw[zpT hz] at h;simp at h
    ·exact S.evLab x.2 L h
   ·exact dq9 hA hs
  ·exact dq9 hA hs
 | buildSlice t m parts=>exact znr S hd hop hA' hs
 | load t x=>exact zCQ S hd hop hA' hs
 | store t x y=>exact zwC S hd hop hA' hs
 | nilCheck x=>exact zpY S hd hop hA' hs
 | binOp op t x y t'=>exact zwx S hd hop hA' hs
 | unOp op t x=>exact zCU S hd hop hA' hs
 | fieldAddr t x f=>exact zoJ S hd hop hA' hs
 | indexAddr t x y=>exact zoK S hd hop hA' hs
 | extract x k=>exact zru S hd hop hA' hs
 | index t x y=>exact zwu S hd hop hA' hs
 | field t x f=>exact zwv S hd hop hA' hs
 | slice t x lo hi mx =>
  cases mx with
  | none=>simp only[act,hop] at hA;exact zwN S hd hop hA hs
  | some m=>simp only[act,hop] at hA;exact dq9 hA hs
 | lookup t x y k =>
  simp only[act,hop] at hA
  split at hA
  ·exact zvk S hd hop hA hs
  ·exact zvh S hd hop hA hs
 | mapUpdate t x y z =>
  simp only[act,hop] at hA
  split at hA
  ·exact zwK S hd hop hA hs
  ·exact zoH S hd hop hA hs
 | makeMap t x =>
  cases x with
  | none =>
   simp only[act,hop] at hA
   split at hA
   ·split at hA
    ·split at hA
     ·rename_i hE;exact zvl S hd hop hE hA hs
     ·exact dq9 hA hs
    ·exact dq9 hA hs
   ·exact zrr (Γ:=Γ) S hd hop hA hs
  | some x=>simp only[act,hop] at hA;exact dq9 hA hs
 | makeSlice t x y=>simp only[act,hop] at hA;exact zoP S hd hop hA hs
 | range t x=>exact zwO S hd hop hA' hs
 | entry x=>exact zwP S hd hop hA' hs
 | makeFunc fn first caps =>
  cases fn with
  | func f=>exact zqb S hd hop hA' hs
  | _=>simp only[act,hop] at hA;exact dq9 hA hs
 | call c =>
  obtain⟨callee,args,ts⟩:=c
  cases callee with
  | value f=>exact zC3 hok S hd hop hA' hs
  | invoke x m=>simp only[act,hop] at hA;exact dq9 hA hs
  | builtin b =>
   cases b with
   | len=>exact zFP S hd hop hA' hs
   | max=>exact zFQ S hd hop hA' hs
   | min=>exact zFR S hd hop hA' hs
   | append=>exact zvj S hd hop hA' hs
   | delete=>simp only[act,hop] at hA;exact zFV S hd hop hA hs
   | _=>simp only[act,hop] at hA;exact dq9 hA hs
 | _=>simp only[act,hop] at hA;exact dq9 hA hs
end
end Go.Pm
namespace Go.Pm
variable [DrawZ]
open Go.RowKit (Below)

theorem ze1 {α : Type} {f : α → α} {l : List (Nat × α)} : ∀ {ks : List Nat} {t : Nat} {x : α}, lk (zlr f l ks) t = some x → ∃ y, lk l t = some y ∧ x = f y ∧ t ∈ ks
  | [],t,x,h=>by simp[zlr,lk] at h
  | k :: ks,t,x,h=>by
    simp only[zlr] at h
    split at h
    · rename_i d hd
      rw[zay] at h
      split at h
      · rename_i e
        simp only[dqa] at h
        subst e
        exact⟨d,hd,h.symm,dqj⟩
      · obtain⟨y,h1,h2,h3⟩:=ze1 h;exact⟨y,h1,h2,dqf _ h3⟩
    · obtain⟨y,h1,h2,h3⟩:=ze1 h;exact⟨y,h1,h2,dqf _ h3⟩

theorem zf9 {α : Type} {f : α → α} {l : List (Nat × α)} : ∀ {ks : List Nat} {t : Nat} {y : α}, lk l t = some y → t ∈ ks → lk (zlr f l ks) t = some (f y)
  | [],t,y,_,ht=>by simp at ht
  | k :: ks,t,y,h,ht=>by
    simp only[zlr]
    by_cases hk:k=t
    · subst hk;rw[h];rw[zay,if_pos rfl]
    · have ht' : t ∈ ks := by rcases dqq.1 ht with h | h; · exact absurd h.symm hk
                              · exact h
      split
      · rw[zay,if_neg hk];exact zf9 h ht'
      · exact zf9 h ht'

section
variable {P:Program}{Γ:Ctrs}{nt B:Nat}{w0:World}{h0:Fz}{g:Gh}{σ:St}{a:Act}{w:World}{r:Option Nat}{n i:Nat}{Q:Exit->Act->World->Prop}

theorem zqd {c:Cl}{x:Value}(h:clR g c x):clR g (zhL c) x:=by
 cases c <;> exact h
theorem zkB : ∀ {cs : List Cl} {vs : List Value}, RL (clR g) cs vs → RL (clR g) (cs.map zhL) vs
  | [],[],_=>trivial
  | [],_ :: _,h=>h.elim
  | _ :: _,[],h=>h.elim
  | _ :: _,_ :: _,h=>⟨zqd h.1,zkB h.2⟩
theorem znP {d:D1}{x:Value}(h:d1R g d x):d1R g (zjO d) x:=by
 cases d with
 | c y=>exact zqd h
 | agg cs=>obtain⟨vs,rfl,hr⟩:=h;exact⟨vs,rfl,zkB hr⟩
theorem zmn : ∀ {cs : List D1} {vs : List Value}, RL (d1R g) cs vs → RL (d1R g) (cs.map zjO) vs
  | [],[],_=>trivial
  | [],_ :: _,h=>h.elim
  | _ :: _,[],h=>h.elim
  | _ :: _,_ :: _,h=>⟨znP h.1,zmn h.2⟩
theorem zC4 {d:DV}{x:Value}(h:dvR g d x):dvR g (ztD d) x:=by
 cases d with
 | one y=>exact znP h
 | tup ds=>obtain⟨vs,rfl,hr⟩:=h;exact⟨vs,rfl,zmn hr⟩
theorem zmo {c:Cl} : ∀ M∈zaE (zhL c),M∈zaE c:=by
 cases c <;> first | exact λ _ h=>h | (intro M h;simp[zhL,zaE] at h)
theorem zmp {cs:List Cl} : ∀ M∈(cs.map zhL).flatMap zaE,M∈cs.flatMap zaE:=by
 intro M hM
 simp only[dqo,dqz] at hM ⊢
 obtain⟨_,⟨c,hc,rfl⟩,hM⟩:=hM
 exact⟨c,hc,zmo M hM⟩
theorem zlf {d:D1} : ∀ M∈zbN (zjO d),M∈zbN d:=by
 cases d with
 | c y=>exact zmo
 | agg cs=>exact zmp
theorem zvq {d:DV} : ∀ M∈zbf (ztD d),M∈zbf d:=by
 cases d with
 | one y=>exact zlf
 | tup ds =>
  intro M hM
  simp only[ztD,zbf,dqo,dqz] at hM ⊢
  obtain⟨_,⟨d,hd,rfl⟩,hM⟩:=hM
  exact⟨d,hd,zlf M hM⟩
theorem zrB {o:AO} : ∀ M∈zb8 (zov o),M∈zb8 o:=by
 cases o with
 | box ty cs=>exact zmp
 | _=>exact λ _ h=>h
theorem zw5 {B L:Nat}{o:AO}(h:aoR P g w B L o):aoR P g w B L (zov o):=by
 cases o with
 | box ty cs=>obtain⟨C,hC,hr⟩:=h;exact⟨C,hC,zkB hr⟩
 | _=>exact h
theorem zmq {L:Nat}{o:AO} : obk g L (zov o)=obk g L o:=by cases o <;> rfl

theorem Sim.env' (S : Sim P nt B w0 h0 g σ a w) {t : Nat} {d : DV} (hv : dvR g d (a.tmps.getD t undef)) (hl : ∀ L ∈ zbf d, ∃ o, lk σ.objs L = some o) :
  Sim P nt B w0 h0 g { σ with env:=(t,d) :: σ.env } a w:=by
 refine⟨S.dfr,S.size,?_,S.obj,S.own,S.sep,S.hw,S.le0,S.hn,S.below,S.bs,?_,S.clO,S.gl⟩
 ·intro u e hu
  simp only[zay] at hu
  split at hu
  ·rename_i h;simp only[dqa] at hu;subst hu;rw[<- h];exact hv
  ·exact S.env u e hu
 ·intro u e hu
  simp only[zay] at hu
  split at hu
  ·simp only[dqa] at hu;subst hu;exact hl
  ·exact S.clE u e hu

theorem Sim.coerce (S : Sim P nt B w0 h0 g σ a w) {L e : Nat} {ie : TypeInfo} {z : List Cl} (get : Nat → List PV) (hL : lk σ.objs L = none) (hi : P.info? e = some ie) (hz : zel P e = some z) (hp : 0 < ie.size) :
  Sim P nt B w0 h0 (g.setSv L (.slice none 0 0)) { σ with objs:=(L,.vec e ie.size ie.bytes 0 get) :: σ.objs } a w:=by
 obtain⟨zv,hzv,hzs⟩:=zcX hz hi
 refine S.newVec hL (.refl B w) (λ _ _=>rfl) (λ b hb=>by simp[Value.ownBlock] at hb) ⟨hp,⟨ie,zv,hi,rfl,rfl,hzv,hzs⟩,[],?_,λ k hk=>absurd hk (by omega)⟩
 rw[show (g.setSv L (.slice none 0 0)).sv L=.slice none 0 0 by simp[Gh.setSv]]
 exact World.ownsRow_nil w B e ie.size

theorem zjX {h:Fz}{v:Value}(hr:Rep h .nils v):v=.slice none 0 0:=by cases hr;rfl

theorem zgV : ∀ (l : List (Nat × Nat × Nat × (Nat → List PV))) (σ σ' : St) (g : Gh), zfF P l σ = some σ' → Sim P nt B w0 h0 g σ a w → ∃ g', Sim P nt B w0 h0 g' σ' a w
  | [],σ,σ',g,h,S=>by simp[zfF] at h;subst h;exact⟨g,S⟩
  | (t,L,e,get) :: l,σ,σ',g,h,S=>by
    simp only[zfF] at h
    split at h
    · rename_i ht
      split at h
      · rename_i ie z hL hi hz
        split at h
        · rename_i hp
          have S1:=S.coerce get hL hi hz (Nat.lt_of_succ_le (Nat.le_of_ble_eq_true hp))
          have hv:a.tmps.getD t undef=.slice none 0 0:=zjX (S.env t _ ht)
          have S2:=S1.env' (t:=t) (d:=.cl (.vec L)) (by rw[hv];simp[dvR,d1R,clR,Gh.setSv,Value.oneCell']) (λ M hM=>by simp[zbf,zbN,zaE] at hM;subst hM;exact⟨_,by rw[zay,if_pos rfl]⟩)
          exact zgV l _ σ' _ h S2
        · cases h
      · cases h
    · exact zgV l σ σ' g h S
    · cases h

theorem zgW : ∀ (l : List (Nat × Nat × Nat × Nat × (Nat → List PV))) (σ σ' : St) (g : Gh), zfG P l σ = some σ' → Sim P nt B w0 h0 g σ a w → ∃ g', Sim P nt B w0 h0 g' σ' a w
  | [],σ,σ',g,h,S=>by simp[zfG] at h;subst h;exact⟨g,S⟩
  | (bx,k,L,e,get) :: l,σ,σ',g,h,S=>by
    simp only[zfG] at h
    split at h
    · rename_i ty cs hbx
      split at h
      · rename_i hk
        split at h
        · rename_i ie z hL hi hz
          split at h
          · rename_i hp
            have S1:=S.coerce get hL hi hz (Nat.lt_of_succ_le (Nat.le_of_ble_eq_true hp))
            have hne:L ≠ bx:=λ e=>by subst e;rw[hL] at hbx;cases hbx
            have hbx1:lk ({ σ with objs:=(L,AO.vec e ie.size ie.bytes 0 get) :: σ.objs } : St).objs bx=some (.box ty cs):=by
              show lk ((L,AO.vec e ie.size ie.bytes 0 get) :: σ.objs) bx=_
              rw[zay,if_neg hne];exact hbx
            obtain⟨C,hC,hr⟩:=S1.obj bx _ hbx1
            obtain⟨v,hv,hkv⟩:=hr.get k _ hk
            have hv0:v=.slice none 0 0:=zjX hkv
            subst hv0
            have hCset:C.toList.set k (.slice none 0 0)=C.toList:=by
              apply List.ext_getElem?
              intro j
              by_cases hj:j=k
              · subst hj
                have hlt:=(dqn.1 hv).1
                rw[List.getElem?_set_self hlt,hv]
              · rw[List.getElem?_set_ne (λ e=>hj e.symm)]
            have S2 := S1.write (o' := .box ty (cs.set k (.vec L))) (w' := w) hbx1 (fun b hb => hb) (.refl B w) (fun _ _ => rfl)
              ⟨C,hC,by rw[<- hCset];exact hr.set k (by simp[clR,Gh.setSv,Value.oneCell'])⟩
              (λ M hM=>by
                simp only[zb8,dqo] at hM
                obtain⟨c,hc,hM⟩:=hM
                rcases List.mem_or_eq_of_mem_set hc with h | h
                · exact S1.clO bx _ hbx1 M (dqo.2 ⟨c,h,hM⟩)
                · subst h;simp[zaE] at hM;subst hM;exact⟨_,by rw[zay,if_pos rfl]⟩)
            exact zgW l _ σ' _ h S2
          · cases h
        · cases h
      · exact zgW l σ σ' g h S
      · cases h
    · cases h

theorem Sim.adopt0 (S : Sim P nt B w0 h0 g σ a w) {t : Nat} {o' : AO} {g' : Gh} (ht : lk σ.objs t = none) (hh : g'.h = g.h) (hs : ∀ M, M ≠ t → zd0 g g' M)
    (hv:∀ k,¬ obk g' t o' k) (hr:aoR P g' w B t o') (hlab:zb8 o'=[]):Sim P nt B w0 h0 g' { σ with objs:=(t,o') :: σ.objs } a w:=by
  have hne:∀ L o,lk σ.objs L=some o->L ≠ t:=λ L o h e=>by subst e;rw[ht] at h;cases h
  have hsame:∀ L o,lk σ.objs L=some o->zd0 g g' L:=λ L o h=>hs L (hne L o h)
  have hle:Fle g.h g'.h:=by rw[hh];exact λ _ _ h=>h
  have hlk:∀ L o,lk ((t,o') :: σ.objs) L=some o->(L=t/\o=o')\/(L ≠ t/\lk σ.objs L=some o):=by
    intro L o h
    rw[zay] at h
    split at h
    · rename_i e;simp only[dqa] at h;exact .inl ⟨e.symm,h.symm⟩
    · rename_i e;exact .inr ⟨λ e'=>e e'.symm,h⟩
  refine S.change (g':=g') hsame hle (by rw[hh];exact S.hw) (λ b o h=>.inl (by rw[hh] at h;exact h)) (.refl _ B w) ?_ ?_ ?_ ?_ ?_
  · intro L o ho
    rcases hlk L o ho with ⟨rfl,rfl⟩ | ⟨_,ho⟩
    · exact hr
    · exact zcV (S.obj L o ho) (hsame L o ho) (λ M hM=>by obtain⟨o',ho'⟩:=S.clO L o ho M hM;exact hsame M o' ho') hle λ _ _=>rfl
  · intro L o k ho hk
    rcases hlk L o ho with ⟨rfl,rfl⟩ | ⟨_,ho⟩
    · exact (hv k hk).elim
    · rw[zbK (hsame L o ho)] at hk;rw[hh];exact S.own L o k ho hk
  · intro L o k L' o2 ho ho' hk hk'
    rcases hlk L o ho with ⟨rfl,rfl⟩ | ⟨_,ho2⟩ <;> rcases hlk L' o2 ho' with ⟨rfl,rfl⟩ | ⟨_,ho2'⟩
    · rfl
    · exact (hv k hk).elim
    · exact (hv k hk').elim
    · rw [zbK (hsame L o ho2)] at hk; rw [zbK (hsame L' o2 ho2')] at hk'
      exact S.sep L o k L' o2 ho2 ho2' hk hk'
  · intro L o ho
    refine⟨o,?_⟩
    rw[zay,if_neg (λ e=>hne L o ho e.symm)];exact ho
  · intro L o ho M hM
    rcases hlk L o ho with ⟨rfl,rfl⟩ | ⟨_,ho⟩
    · rw[hlab] at hM;simp at hM
    · obtain ⟨o2, ho2⟩ := S.clO L o ho M hM
      exact⟨o2,by rw[zay,if_neg (λ e=>hne M o2 ho2 e.symm)];exact ho2⟩

theorem zgX : ∀ (l : List (Nat × Nat × Nat × Nat × Nat × (Nat → Nat → List PV))) (σ σ' : St) (g : Gh), zfH P l σ = some σ' → Sim P nt B w0 h0 g σ a w → ∃ g', Sim P nt B w0 h0 g' σ' a w
  | [],σ,σ',g,h,S=>by simp[zfH] at h;subst h;exact⟨g,S⟩
  | (bx,k,L,te,e,get) :: l,σ,σ',g,h,S=>by
    simp only[zfH] at h
    split at h
    · rename_i ty cs hbx
      split at h
      · rename_i hk
        split at h
        · rename_i it zt hL hit hzt
          split at h
          · rename_i ie z hi hz
            split at h
            · rename_i hp
              simp only[dqm] at hp
              have hs1:=dqc hp.1
              have hpos:0 < ie.size:=Nat.lt_of_succ_le (Nat.le_of_ble_eq_true hp.2)
              obtain⟨zv,hzv,hzs⟩:=zcX hz hi
              obtain⟨tv,htv,hts⟩:=zcX hzt hit
              let g':=g.setVv L (.slice none 0 0) (λ _=>.slice none 0 0)
              have hsv:g'.sv L=.slice none 0 0:=by simp[g',Gh.setVv]
              have S1 := S.adopt0 (t := L) (o' := .vv te it.bytes e ie.size ie.bytes 0 (fun _ => 0) get) (g' := g') hL rfl znM
                (fun k hk => by rcases hk with hk | ⟨i, hi, _⟩
                                · rw[hsv] at hk;cases hk
                                · omega)
                ⟨hpos,⟨it,tv,hit,hs1,rfl,htv,by rw[hts,hs1]⟩,⟨ie,zv,hi,rfl,rfl,hzv,hzs⟩,by rw[hsv];exact World.ownsRow_nil w B te 1,λ i hi=>absurd hi (by omega),λ i k hi=>absurd hi (by omega)⟩ rfl
              have hne:L ≠ bx:=λ e=>by subst e;rw[hL] at hbx;cases hbx
              have hbx1:lk ({ σ with objs:=(L,AO.vv te it.bytes e ie.size ie.bytes 0 (λ _=>0) get) :: σ.objs } : St).objs bx=some (.box ty cs):=by
                show lk ((L,AO.vv te it.bytes e ie.size ie.bytes 0 (λ _=>0) get) :: σ.objs) bx=_
                rw[zay,if_neg hne];exact hbx
              obtain⟨C,hC,hr⟩:=S1.obj bx _ hbx1
              obtain⟨v,hv,hkv⟩:=hr.get k _ hk
              have hv0:v=.slice none 0 0:=zjX hkv
              subst hv0
              have hCset:C.toList.set k (.slice none 0 0)=C.toList:=by
                apply List.ext_getElem?
                intro j
                by_cases hj:j=k
                · subst hj
                  have hlt:=(dqn.1 hv).1
                  rw[List.getElem?_set_self hlt,hv]
                · rw[List.getElem?_set_ne (λ e=>hj e.symm)]
              have S2 := S1.write (o' := .box ty (cs.set k (.vec L))) (w' := w) hbx1 (fun b hb => hb) (.refl B w) (fun _ _ => rfl)
                ⟨C,hC,by rw[<- hCset];exact hr.set k ⟨hsv.symm,rfl⟩⟩
                (λ M hM=>by
                  simp only[zb8,dqo] at hM
                  obtain⟨c,hc,hM⟩:=hM
                  rcases List.mem_or_eq_of_mem_set hc with h | h
                  · exact S1.clO bx _ hbx1 M (dqo.2 ⟨c,h,hM⟩)
                  · subst h;simp[zaE] at hM;subst hM;exact⟨_,by rw[zay,if_pos rfl]⟩)
              exact zgX l _ σ' _ h S2
            · cases h
          · cases h
        · cases h
      · exact zgX l σ σ' g h S
      · cases h
    · cases h

theorem zmr {ob : Nat → Option AO} : ∀ {ks : List Nat} {x : Nat × AO}, x ∈ zu9 ob ks → ∃ ty cells l, ob x.1 = some (.box ty cells) ∧ x.2 = .fbox l ∧ ze3 ob cells = some (l, [])
  | [],x,h=>by simp[zu9] at h
  | k :: ks,x,h=>by
    simp only[zu9] at h
    split at h
    · rename_i ty cells hk
      split at h
      · rename_i l hl
        rcases dqq.1 h with rfl | h
        · exact⟨ty,cells,l,hk,rfl,hl⟩
        · exact zmr h
      · exact zmr h
    · exact zmr h
theorem zt1 {ob:Nat->Option AO}{ks:List Nat} : zei ob (zu9 ob ks):=λ x hx=>by
 obtain⟨ty,cells,l,h1,h2,h3⟩:=zmr hx
 exact .inr (.inl ⟨ty,cells,l,[],h1,h2,h3,λ y hy=>by simp at hy⟩)
theorem zEp {h:Fz}{s:Nat}{gt:Nat->List PV}{v:PV}{x:Value}(r:Rep h v x):Rep h (zN s gt v) x:=by
 unfold zN
 split
 ·split
  ·have hn := zjX r
   rw[hn];exact .nsT _ _
  ·exact .nsF _ _ _ _ r
  ·exact r
 ·split
  ·have hn := zjX r
   rw[hn];exact .sl0 s gt
  ·exact r
theorem zgY : ∀ (l : List (Nat × Nat × (Nat → List PV))) (σ σ' : St) (g : Gh), zfI l σ = some σ' → Sim P nt B w0 h0 g σ a w → ∃ g', Sim P nt B w0 h0 g' σ' a w
  | [],σ,σ',g,h,S=>by simp[zfI] at h;subst h;exact⟨g,S⟩
  | (t,s,gt) :: r,σ,σ',g,h,S=>by
    unfold zfI at h
    split at h
    · rename_i x hx
      have hv:=S.env t _ hx
      split at h
      · rename_i v
        exact zgY r _ σ' g h (S.env' (t:=t) (d:=.p (zN s gt v)) (zEp hv) (λ L hL=>by simp[zbf,zbN,zaE] at hL))
      · split at h
        · rename_i v u hf
          obtain⟨h',S1,F⟩:=S.freeze (zwc hf)
          have hr:=F.rep hf (λ y hy=>hy) hv
          exact zgY r _ σ' _ h (S1.env' (t:=t) (d:=.p (zN s gt v)) (zEp hr) (λ L hL=>by simp[zbf,zbN,zaE] at hL))
        · cases h
    · cases h
theorem zqe {k:Keep}{s:St}{g:Gh}{σ:St}(h:zl5 P k σ=some s) (S:Sim P nt B w0 h0 g σ a w):∃ g',Sim P nt B w0 h0 g' s a w:=by
 unfold zl5 at h
 split at h
 ·cases h
 ·rename_i σ1 h1
  obtain⟨g1,S1⟩:=zgV k.coT σ σ1 g h1 S
  split at h
  ·cases h
  ·rename_i σ2 h2
   obtain⟨g2',S2'⟩:=zgW k.coB σ1 σ2 g1 h2 S1
   split at h
   ·cases h
   rename_i σ3 h3
   obtain⟨g2,S2⟩:=zgX k.coV σ2 σ3 g2' h3 S2'
   simp only[] at h
   split at h
   ·rename_i hcl
    simp only[dqa] at h
    subst h
    simp only[dqm,List.all_eq_true] at hcl
    obtain⟨hc1,hc2⟩:=hcl
    have hin:∀ {labs l:List Nat},zv3 labs l=true->∀ L∈l,L∈labs:=by
     intro labs l h L hL
     have:=List.all_eq_true.1 h L hL
     simpa using this
    refine⟨g2,S2.dfr,S2.size,?_,?_,?_,?_,S2.hw,S2.le0,S2.hn,S2.below,S2.bs,?_,?_,S2.gl⟩
    ·intro t d ht
     obtain⟨y,h1,rfl,_⟩:=ze1 ht
     exact zC4 (S2.env t y h1)
    ·intro L o ho
     obtain⟨y,h1,rfl,_⟩:=ze1 ho
     exact zw5 (S2.obj L y h1)
    ·intro L o b ho hb
     obtain⟨y,h1,rfl,_⟩:=ze1 ho
     rw[zmq] at hb
     exact S2.own L y b h1 hb
    ·intro L o b L' o' ho ho' hb hb'
     obtain⟨y,h1,rfl,_⟩:=ze1 ho
     obtain⟨y',h1',rfl,_⟩:=ze1 ho'
     rw[zmq] at hb hb'
     exact S2.sep L y b L' y' h1 h1' hb hb'
    ·intro t d ht L hL
     have hm:=hin (hc1 (t,d) (zcP ht)) L hL
     obtain⟨y,h1,rfl,_⟩:=ze1 ht
     obtain⟨o,ho⟩:=S2.clE t y h1 L (zvq L hL)
     exact⟨_,zf9 ho hm⟩
    ·intro L o ho M hM
     have hm:=hin (hc2 (L,o) (zcP ho)) M hM
     obtain⟨y,h1,rfl,_⟩:=ze1 ho
     obtain⟨o',ho'⟩:=S2.clO L y h1 M (zrB M hM)
     exact⟨_,zf9 ho' hm⟩
   ·cases h
theorem zca {k:Keep}{s:St}(h:canon P k σ=some s) (S:Sim P nt B w0 h0 g σ a w):∃ g',Sim P nt B w0 h0 g' s a w:=by
 obtain⟨h',S1,_⟩:=S.freeze (zt1 (ob:=lk σ.objs) (ks:=k.coF))
 unfold canon at h
 split at h
 ·rename_i s1 h1
  obtain⟨g1,S2⟩:=zgY k.coZ (zKh k.coF σ) s1 _ h1 S1
  exact zqe h S2
 ·cases h
end
end Go.Pm
namespace Go.Pm
variable [DrawZ]
open Go.RowKit (Below)

section
variable {P:Program}{Γ:Ctrs}{nt B:Nat}{w0:World}{h0:Fz}{g:Gh}{σ:St}{a:Act}{w:World}{r:Option Nat}{n i:Nat}{Q:Exit->Act->World->Prop}

theorem zms {o:Oper}{R R':Act->World->Prop}(h:o.wpIn (FR r) n P a w R Q) (hR:∀ a w,R a w->R' a w):o.wpIn (FR r) n P a w R' Q:=by
 refine⟨h.1,?_⟩
 have h2:=h.2
 generalize (o.semAt (FR r).round a.eval).run P w=res at h2 ⊢
 match res,h2 with
 | .ok (.value v) w',h2=>exact hR _ _ h2
 | .ok .skip w',h2=>exact hR _ _ h2
 | .ok (.defer d) w',h2=>exact hR _ _ h2
 | .ok (.enter f args) w',h2 =>
  refine⟨h2.1,h2.2.mono ?_⟩
  intro e w'' he
  cases e with
  | returned v=>exact hR _ _ he
  | panicked ch=>exact he
  | outgrown=>exact he
 | .ok (.row row args) w',h2=>exact⟨h2.1,h2.2.mono λ v w'' hv=>hR _ _ hv⟩
 | .ok (.round l f tmps x y) w',h2 =>
  refine⟨h2.1,h2.2.mono ?_⟩
  intro e w'' he
  cases e with
  | returned v=>exact hR _ _ he
  | panicked ch=>exact he
  | outgrown=>exact he
 | .halt (.panic v) w',h2=>exact h2

theorem zEq {o:Oper}{R:Act->World->Prop}(h:o.wpIn (FR r) n P a w R Q):o.wpIn (FR r) n P a w (λ a' w'=>R a' w'/\∃ v ds,a'=({ a with defers:=ds } : Act).put o.dst v) Q:=by
 refine⟨h.1,?_⟩
 have h2:=h.2
 generalize (o.semAt (FR r).round a.eval).run P w=res at h2 ⊢
 match res,h2 with
 | .ok (.value v) w',h2=>exact⟨h2,v,a.defers,rfl⟩
 | .ok .skip w',h2=>exact⟨h2,undef,a.defers,rfl⟩
 | .ok (.defer d) w',h2=>exact⟨h2,undef,d :: a.defers,rfl⟩
 | .ok (.enter f args) w',h2 =>
  refine⟨h2.1,h2.2.mono ?_⟩
  intro e w'' he
  cases e with
  | returned v=>exact⟨he,v,a.defers,rfl⟩
  | panicked ch=>exact he
  | outgrown=>exact he
 | .ok (.row row args) w',h2=>exact⟨h2.1,h2.2.mono λ v w'' hv=>⟨hv,v,a.defers,rfl⟩⟩
 | .ok (.round l f tmps x y) w',h2 =>
  refine⟨h2.1,h2.2.mono ?_⟩
  intro e w'' he
  cases e with
  | returned v=>exact⟨he,v,a.defers,rfl⟩
  | panicked ch=>exact he
  | outgrown=>exact he
 | .halt (.panic v) w',h2=>exact h2

def Kp (D:List Nat) (a a':Act):Prop:=(∀ t,t ∉ D->a'.tmps.getD t undef=a.tmps.getD t undef)/\a'.tmps.size=a.tmps.size/\(rfS ∉ D->a'.defers=a.defers)
theorem Kp.refl (D:List Nat) (a:Act):Kp D a a:=⟨λ _ _=>rfl,rfl,λ _=>rfl⟩
theorem Kp.put {D:List Nat}{a0 a:Act}(h:Kp D a0 a){dst:Option Nat}(hd:∀ t,dst=some t->t∈D) (v:Value) (ds:List Deferred) (hds:ds=a.defers):Kp D a0 (({ a with defers:=ds } : Act).put dst v):=by
 subst hds
 cases dst with
 | none=>exact h
 | some t =>
  refine⟨λ u hu=>?_,by simp[Act.put,h.2.1],λ hr=>h.2.2 hr⟩
  have hne:t ≠ u:=λ e=>hu (e ▸ hd t rfl)
  rw[<- h.1 u hu]
  simp[Act.put,dql,Array.getElem?_setIfInBounds_ne hne]

theorem zhT {ops:Array Oper}{tmps:Array Value}{j g:Nat}{b:Bool}(hg:(ops[j]?).bind (·.dst)=some g) (hv:tmps.getD g undef=.bool b):yielded ops tmps j=some b:=by
 unfold yielded
 rw[hg]
 simp only[Option.bind_some]
 rw[dql] at hv
 cases h:tmps[g]? with
 | none=>rw[h] at hv;simp[undef] at hv
 | some v=>rw[h] at hv;simp only[Option.getD_some] at hv;subst hv;rfl
theorem zgZ {ops:Array Oper}{tmps:Array Value}{j g:Nat}(hg:(ops[j]?).bind (·.dst)=some g) (hv:tmps.getD g undef=undef):yielded ops tmps j=none:=by
 unfold yielded
 rw[hg]
 simp only[Option.bind_some]
 rw[dql] at hv
 cases h:tmps[g]? with
 | none=>rfl
 | some v=>rw[h] at hv;simp only[Option.getD_some] at hv;subst hv;rfl

theorem Sim.skip (S:Sim P nt B w0 h0 g σ a w){dst:Option Nat}(hd:zck nt dst=true):Sim P nt B w0 h0 g (σ.skip dst) (a.put dst undef) w:=by
 have:=S.put (d:=.cl .undef) (v:=undef) hd rfl (λ L hL=>by simp[zbf,zbN,zaE] at hL) σ.log
 cases dst <;> exact this

theorem zrC (hok : OkAll P Γ) {ops : Array Oper} {K : St → Prop} {D : List Nat} {a0 : Act} {ad : List Deferred} (hD : ∀ (j : Nat) (o : Oper), ops[j]? = some o → ∀ t, o.dst = some t → t ∈ D)
    (hQ:∀ σ',K σ'->∀ g' a' w',Sim P nt B w0 h0 g' σ' a' w'->Kp D a0 a'->a'.defers=ad->Q .normal a' w') :
    ∀ (l:List Oper) (i:Nat) (σ:St) (g:Gh) (a:Act) (w:World),(∀ j,l[j]? = ops[i+j]?)->zht P Γ nt ops i l K σ->Sim P nt B w0 h0 g σ a w->Kp D a0 a->a.defers=ad ->
      wpOpsIn (FR r) n P ops Q (List.range' i l.length) a w:=by
  intro l
  induction l with
  | nil=>intro i σ g a w _ h S hk had;exact hQ σ h g a w S hk had
  | cons o l ih =>
    intro i σ g a w hl h S hkp had
    have ho:ops[i]? = some o:=by have:=hl 0;simpa using this.symm
    have hl':∀ j,l[j]? = ops[i+1+j]?:=λ j=>by have:=hl (j+1);rw[dqC] at this;rw[this];congr 1;omega
    simp only[dqr,List.range'_succ,wpOpsIn,ho]
    simp only[zht] at h
    split at h
    · exact h.elim
    · rename_i hd
      have run:∀ (σ:St),Sim P nt B w0 h0 g σ a w->zgQ (act P Γ o (evO σ.env) (lk σ.objs)) (zl3 σ i o) i o.dst (zht P Γ nt ops (i+1) l K) σ->o.wpIn (FR r) n P a w (wpOpsIn (FR r) n P ops Q (List.range' (i+1) l.length)) Q:=by
        intro σ S h
        obtain⟨hs,hk⟩:=zma.1 h
        refine zms (zEq (zmm (i:=i) (Q:=Q) (r:=r) (n:=n) hok S hd rfl hs)) ?_
        rintro a' w' ⟨⟨hdf,g',σ',hst,S'⟩,v,ds,rfl⟩
        exact ih (i+1) _ g' _ w' hl' (hk σ' hst) (S'.log _) (hkp.put (hD i o ho) v ds ((put_defers _ _ _).symm.trans hdf)) (hdf.trans had)
      have skp:∀ (σ:St),Sim P nt B w0 h0 g σ a w->zht P Γ nt ops (i+1) l K (σ.skip o.dst)->wpOpsIn (FR r) n P ops Q (List.range' (i+1) l.length) (a.put o.dst undef) w:=by
        intro σ S h
        exact ih (i+1) _ g _ w hl' h (S.skip hd) (hkp.put (hD i o ho) undef a.defers rfl) ((put_defers _ _ _).trans had)
      split at h
      · rename_i hg
        rw[if_pos (by simp[Region.wanted,hg])]
        exact run σ S h
      · rename_i j want hg
        split at h
        · exact h.elim
        · rename_i gt hgt
          split at h
          · rename_i b hb
            have hv:a.tmps.getD gt undef=.bool b:=by
              have:=S.env gt _ hb
              generalize a.tmps.getD gt undef=v at this
              cases this;rfl
            have hy:=zhT hgt hv
            have S1:∀ c,b=c->Sim P nt B w0 h0 g (σ.setT gt (.bool c)) a w:=by
              intro c hc
              refine S.env' (t:=gt) (d:=.bool c) ?_ (zd1 _)
              rw[hv,hc];exact .bool c
            have h2:=zhK.1 h
            cases b with
            | true =>
              have h3:=h2.1 rfl
              cases want with
              | true=>rw[if_pos (by simp[Region.wanted,hg,hy])];exact run _ (S1 true rfl) h3
              | false=>rw[if_neg (by simp[Region.wanted,hg,hy])];exact⟨λ _ _=>trivial,skp _ (S1 true rfl) h3⟩
            | false =>
              have h3:=h2.2 rfl
              cases want with
              | true=>rw[if_neg (by simp[Region.wanted,hg,hy])];exact⟨λ _ _=>trivial,skp _ (S1 false rfl) h3⟩
              | false=>rw[if_pos (by simp[Region.wanted,hg,hy])];exact run _ (S1 false rfl) h3
          · rename_i hb
            have hv:a.tmps.getD gt undef=undef:=S.env gt _ hb
            have hy:=zgZ hgt hv
            rw[if_neg (by simp[Region.wanted,hg,hy])]
            exact⟨λ _ _=>trivial,skp _ S h⟩
          · exact h.elim

theorem zrD (hok : OkAll P Γ) {ops : Array Oper} {K : St → Prop} {D : List Nat} {a0 : Act} (hD : ∀ (j : Nat) (o : Oper), ops[j]? = some o → ∀ t, o.dst = some t → t ∈ D)
    (h:zht P Γ nt ops 0 ops.toList K σ) (S:Sim P nt B w0 h0 g σ a w) (hkp:Kp D a0 a)
    (hQ:∀ σ',K σ'->∀ g' a' w',Sim P nt B w0 h0 g' σ' a' w'->Kp D a0 a'->a'.defers=a.defers->Q .normal a' w'):wpOpsIn (FR r) n P ops Q (List.range ops.size) a w:=by
  have:=zrC (r:=r) (n:=n) hok hD hQ ops.toList 0 σ g a w (λ j=>by simp) h S hkp rfl
  rw[List.range_eq_range']
  simpa using this

end
end Go.Pm
namespace Go.Pm
variable [DrawZ]

def OpAct.fp : OpAct → List (Nat × Bool)
  | .no=>[]
  | .val fp _ _ _=>fp
  | .chk fp _ _ _ _=>fp
  | .rel fp _ _ _ _ _=>fp
  | .alt fp _ _ _ _ _ _=>fp
def OpAct.u : OpAct → List (Nat × AO)
  | .no=>[]
  | .val _ _ u _=>u
  | .chk _ _ _ u _=>u
  | .rel _ u _ _ _ _=>u
  | .alt _ u _ _ _ _ _=>u
def OpAct.kl : OpAct → List Nat
  | .no=>[]
  | .val _ _ _ k=>k
  | .chk _ _ _ _ k=>k
  | .rel _ _ _ _ _ _=>[]
  | .alt _ _ _ _ _ _ _=>[]
def OpAct.gives : OpAct → DV → Prop
  | .no,_=>False
  | .val _ d _ _,d'=>d'=d
  | .chk _ _ d _ _,d'=>d'=d
  | .rel _ _ ρ _ _ d,d'=>∃ x:ρ,d'=d x
  | .alt _ _ _ _ d1 _ d2,d'=>d'=d1\/d'=d2

def Men (o:Oper) (ev:Operand->DV) (ob:Nat->Option AO) (fp:List (Nat×Bool)) (L:Nat):Prop :=
 (∃ x∈o.op.operands.toList,L∈dvV (ev x))\/∃ y∈fp,∃ o',ob y.1=some o'/\L∈aoV o'

structure ActOk (P : Program) (Γ : Ctrs) (o : Oper) (ev : Operand → DV) (ob : Nat → Option AO) (A : OpAct) : Prop where
  wr:∀ x∈A.u,(x.1,true)∈A.fp
  kl:A.kl=[]\/∃ L,A.kl=[L]/\(L,true)∈A.fp
  labu:∀ x∈A.u,∀ L∈aoV x.2,Men o ev ob A.fp L
  labd:∀ d,A.gives d->∀ L∈dvV d,Men o ev ob A.fp L\/(L,true)∈A.fp
  congr:∀ ev' ob',(∀ x∈o.op.operands.toList,ev' x=ev x)->(∀ y∈A.fp,ob' y.1=ob y.1)->act P Γ o ev' ob'=A

section
variable {P:Program}{Γ:Ctrs}{o:Oper}{ev:Operand->DV}{ob:Nat->Option AO}{A:OpAct}

theorem ActOk.pure {fp : List (Nat × Bool)} {d : DV} (hd : ∀ L ∈ dvV d, Men o ev ob fp L ∨ (L, true) ∈ fp)
    (hc:∀ ev' ob',(∀ x∈o.op.operands.toList,ev' x=ev x)->(∀ y∈fp,ob' y.1=ob y.1)->act P Γ o ev' ob'=.val fp d [] []):ActOk P Γ o ev ob (.val fp d [] []) :=
  ⟨λ x hx=>by simp[OpAct.u] at hx,.inl rfl,λ x hx=>by simp[OpAct.u] at hx,λ d' h=>by simp only[OpAct.gives] at h;subst h;exact hd,hc⟩
theorem ActOk.pchk {fp : List (Nat × Bool)} {s : Prop} {d : DV} (hd : ∀ L ∈ dvV d, Men o ev ob fp L ∨ (L, true) ∈ fp)
    (hc:∀ ev' ob',(∀ x∈o.op.operands.toList,ev' x=ev x)->(∀ y∈fp,ob' y.1=ob y.1)->act P Γ o ev' ob'=.chk fp s d [] []):ActOk P Γ o ev ob (.chk fp s d [] []) :=
  ⟨λ x hx=>by simp[OpAct.u] at hx,.inl rfl,λ x hx=>by simp[OpAct.u] at hx,λ d' h=>by simp only[OpAct.gives] at h;subst h;exact hd,hc⟩
theorem zc6 {fp:List (Nat×Bool)}(v:PV):∀ L∈dvV (.p v),Men o ev ob fp L\/(L,true)∈fp:=λ L hL=>by simp[dvV,d1V,clV] at hL
theorem zeo {fp:List (Nat×Bool)}{x:Operand}{d:DV}(hx:x∈o.op.operands.toList) (h:∀ L∈dvV d,L∈dvV (ev x)):∀ L∈dvV d,Men o ev ob fp L\/(L,true)∈fp :=
 λ L hL=>.inl (.inl ⟨x,hx,h L hL⟩)

theorem zrE {c:Cl} : ∀ L∈clV c,L∈zaE c:=by cases c <;> simp[clV,zaE]

theorem zt2 {ag:Bool}{m off:Nat}{cells:List Cl}{d:D1}(hr:ziA ag m cells off=some d):∀ L∈d1V d,L∈cells.flatMap clV:=by
 cases ag with
 | true =>
  simp only[ziA] at hr
  split at hr
  ·simp only [dqa] at hr; subst hr
   intro L hL
   simp only[d1V,dqo] at hL ⊢
   obtain⟨c,hc,hL⟩:=hL
   exact⟨c,List.mem_of_mem_drop (List.mem_of_mem_take hc),hL⟩
  ·cases hr
 | false =>
  simp only[ziA] at hr
  split at hr
  ·rename_i x hx
   simp only[dqa] at hr;subst hr
   intro L hL
   simp only[d1V] at hL
   exact dqo.2 ⟨x,dqx hx,hL⟩
  ·cases hr
theorem zt3 (cells:List PV):(cells.map Cl.p).flatMap clV=[]:=by
 induction cells with
 | nil=>rfl
 | cons c r ih=>simp[clV,ih]
theorem zmt {ag:Bool}{m off:Nat}{cells:List PV}{d:D1}(hr:ziA ag m (cells.map .p) off=some d):d1V d=[]:=by
 have:=zt2 hr
 rw[zt3] at this
 cases hd:d1V d with
 | nil=>rfl
 | cons x l=>have:=this x (by rw[hd];exact dqj);simp at this

theorem znQ {ob':Nat->Option AO}{c:Cl}(h:∀ L∈zaE c,ob' L=ob L):zu0 ob' c=zu0 ob c:=by
 cases c <;> first | rfl | (simp only[zu0];rw[h _ (by simp[zaE])])
theorem ziM {ob' : Nat → Option AO} : ∀ {cs : List Cl}, (∀ L ∈ cs.flatMap zaE, ob' L = ob L) → ze3 ob' cs = ze3 ob cs
  | [],_=>rfl
  | c :: cs,h=>by
    simp only[ze3]
    rw[znQ (λ L hL=>h L (by simp[hL])),ziM (λ L hL=>h L (by simp only[dqJ,dqg];exact .inr hL))]
theorem znR {ob':Nat->Option AO}{c:Cl}(h:∀ L∈zaE c,ob' L=ob L/\∀ o',ob L=some o'->∀ M∈zb8 o',ob' M=ob M):zvV ob' c=zvV ob c:=by
 cases c with
 | ptr L off =>
  obtain⟨h1,h2⟩:=h L (by simp[zaE])
  simp only[zvV]
  rw[h1]
  cases hL:ob L with
  | none=>rfl
  | some o' =>
   cases o' with
   | box ty cells=>simp only[];rw[ziM (λ M hM=>h2 _ hL M hM)]
   | _=>rfl
 | _=>exact znQ λ L hL=>(h L hL).1
theorem zmu {ob' : Nat → Option AO} : ∀ {cs : List Cl}, (∀ L ∈ cs.flatMap zaE, ob' L = ob L ∧ ∀ o', ob L = some o' → ∀ M ∈ zb8 o', ob' M = ob M) → zjI ob' cs = zjI ob cs
  | [],_=>rfl
  | c :: cs,h=>by
    simp only[zjI]
    rw[znR (λ L hL=>h L (by simp[hL])),zmu (λ L hL=>h L (by simp only[dqJ,dqg];exact .inr hL))]
theorem zlP : ∀ caps : List CapE, (caps.map zJU).flatMap zaE = zhl caps
  | []=>rfl
  | .v _ :: r=>by simp only[dqK,dqJ,zJU,zaE,List.nil_append,zhl];exact zlP r
  | .b L :: r=>by simp only[dqK,dqJ,zJU,zaE,zhl,List.cons_append,List.nil_append];rw[zlP r]
theorem zqf {ob':Nat->Option AO}{c:Cl}(h:∀ L∈zaE c,ob' L=ob L/\∀ o',ob L=some o'->∀ M∈zb8 o',ob' M=ob M):frz ob' c=frz ob c:=by
 cases c with
 | clo f caps =>
  simp only[frz]
  rw[zmu (ob:=ob) (ob':=ob') (cs:=caps.map zJU) (λ L hL=>h L (by rw[zlP] at hL;exact hL))]
 | _=>exact znR h
theorem zkC {ob' : Nat → Option AO} : ∀ {cs : List Cl}, (∀ L ∈ cs.flatMap zaE, ob' L = ob L ∧ ∀ o', ob L = some o' → ∀ M ∈ zb8 o', ob' M = ob M) → znm ob' cs = znm ob cs
  | [],_=>rfl
  | c :: cs,h=>by
    simp only[znm]
    rw[zqf (λ L hL=>h L (by simp[hL])),zkC (λ L hL=>h L (by simp only[dqJ,dqg];exact .inr hL))]
theorem znS {ob':Nat->Option AO}{d:DV}(h:∀ L∈za9 ob d,ob' L=ob L):zq2 ob' d=zq2 ob d:=by
 have key:∀ L∈zbf d,ob' L=ob L/\∀ o',ob L=some o'->∀ M∈zb8 o',ob' M=ob M:=by
  intro L hL
  refine⟨h L (dqo.2 ⟨L,hL,dqj⟩),λ o' ho' M hM=>h M (dqo.2 ⟨L,hL,dqf _ ?_⟩)⟩
  rw[ho'];exact hM
 cases d with
 | one d =>
  cases d with
  | c c=>simp only[zq2];rw[zqf key]
  | agg cs=>simp only[zq2];rw[zkC key]
 | tup ds=>rfl
theorem zg0 {ob' : Nat → Option AO} : ∀ {ds : List DV}, (∀ L ∈ ds.flatMap (za9 ob), ob' L = ob L) → zfC ob' ds = zfC ob ds
  | [],_=>rfl
  | d :: ds,h=>by
    simp only[zfC]
    rw[znS (λ L hL=>h L (by simp[hL])),zg0 (λ L hL=>h L (by simp only[dqJ,dqg];exact .inr hL))]
theorem zep {ob':Nat->Option AO}{d:DV}(h:∀ L∈za9 ob d,ob' L=ob L):za9 ob' d=za9 ob d:=by
 unfold za9 at h ⊢
 have:∀ l:List Nat,(∀ L∈l.flatMap (λ L=>L :: match ob L with | some o=>zb8 o | none=>[]),ob' L=ob L) ->
   (l.flatMap λ L=>L :: match ob' L with | some o=>zb8 o | none=>[])=l.flatMap λ L=>L :: match ob L with | some o=>zb8 o | none=>[]:=by
  intro l
  induction l with
  | nil=>intro _;rfl
  | cons L l ih =>
   intro h
   simp only[dqJ]
   rw[h L (by simp),ih (λ M hM=>h M (by simp only[dqJ,dqg];exact .inr hM))]
 exact this _ h

theorem zjY {c:Cl}{v:PV}{u:Upd}(h:zu0 ob c=some (v,u)):∀ x∈u,x.1∈zaE c/\aoV x.2=[]:=by
 unfold zu0 at h
 split at h
 ·simp only[dqa,dqh] at h;rw[<- h.2];intro x hx;simp at hx
 ·split at h
  ·simp only[dqa,dqh] at h;rw[<- h.2];intro x hx;simp at hx;subst hx;exact⟨by simp[zaE],rfl⟩
  ·simp only[dqa,dqh] at h;rw[<- h.2];intro x hx;simp at hx
  ·simp only[dqa,dqh] at h;rw[<- h.2];intro x hx;simp only[dqi] at hx;subst hx;exact⟨by simp[zaE],rfl⟩
  ·simp only[dqa,dqh] at h;rw[<- h.2];intro x hx;simp only[dqi] at hx;subst hx;exact⟨by simp[zaE],rfl⟩
  ·cases h
 ·split at h
  ·simp only[dqa,dqh] at h;rw[<- h.2];intro x hx;simp only[dqi] at hx;subst hx;exact⟨by simp[zaE],rfl⟩
  ·cases h
 ·cases h
theorem zgr : ∀ {cs : List Cl} {l : List PV} {u : Upd}, ze3 ob cs = some (l, u) → ∀ x ∈ u, x.1 ∈ cs.flatMap zaE ∧ aoV x.2 = []
  | [],l,u,h=>by simp[ze3] at h;rw[h.2];intro x hx;simp at hx
  | c :: cs,l,u,h=>by
    simp only[ze3] at h
    split at h
    · rename_i v u1 l2 u2 h1 h2
      simp only[dqa,dqh] at h;rw[<- h.2]
      intro x hx
      simp only[dqJ,dqg]
      rcases dqg.1 hx with hx | hx
      · exact⟨.inl (zjY h1 x hx).1,(zjY h1 x hx).2⟩
      · exact⟨.inr (zgr h2 x hx).1,(zgr h2 x hx).2⟩
    · cases h
theorem zqg {c:Cl}{v:PV}{u:Upd}(h:zvV ob c=some (v,u)):∀ x∈u,(x.1∈zaE c\/∃ L∈zaE c,∃ o',ob L=some o'/\x.1∈zb8 o')/\aoV x.2=[]:=by
 unfold zvV at h
 split at h
 ·split at h
  ·rename_i L off _x ty cells hL
   split at h
   ·rename_i l us hl
    simp only[dqa,dqh] at h;rw[<- h.2]
    intro x hx
    rcases dqg.1 hx with hx | hx
    ·exact⟨.inr ⟨L,by simp[zaE],_,hL,(zgr hl x hx).1⟩,(zgr hl x hx).2⟩
    ·simp at hx;subst hx;exact⟨.inl (by simp[zaE]),rfl⟩
   ·cases h
  ·simp only[dqa,dqh] at h;rw[<- h.2];intro x hx;simp at hx
  ·cases h
 ·intro x hx;exact⟨.inl (zjY h x hx).1,(zjY h x hx).2⟩
theorem znT : ∀ {cs : List Cl} {l : List PV} {u : Upd}, zjI ob cs = some (l, u) → ∀ x ∈ u, (x.1 ∈ cs.flatMap zaE ∨ ∃ L ∈ cs.flatMap zaE, ∃ o', ob L = some o' ∧ x.1 ∈ zb8 o') ∧ aoV x.2 = []
  | [],l,u,h=>by simp[zjI] at h;rw[h.2];intro x hx;simp at hx
  | c :: cs,l,u,h=>by
    simp only[zjI] at h
    split at h
    · rename_i v u1 l2 u2 h1 h2
      simp only[dqa,dqh] at h;rw[<- h.2]
      intro x hx
      simp only[dqJ,dqg]
      rcases dqg.1 hx with hx | hx
      · obtain ⟨h3, h4⟩ := zqg h1 x hx
        refine⟨?_,h4⟩
        rcases h3 with h3 | ⟨L,hL,o',h5,h6⟩
        · exact .inl (.inl h3)
        · exact .inr ⟨L,.inl hL,o',h5,h6⟩
      · obtain ⟨h3, h4⟩ := znT h2 x hx
        refine⟨?_,h4⟩
        rcases h3 with h3 | ⟨L,hL,o',h5,h6⟩
        · exact .inl (.inr h3)
        · exact .inr ⟨L,.inr hL,o',h5,h6⟩
    · cases h
theorem zt4 {c:Cl}{v:PV}{u:Upd}(h:frz ob c=some (v,u)):∀ x∈u,(x.1∈zaE c\/∃ L∈zaE c,∃ o',ob L=some o'/\x.1∈zb8 o')/\aoV x.2=[]:=by
 unfold frz at h
 split at h
 ·rename_i f caps
  split at h
  ·rename_i l us hl
   simp only[dqa,dqh] at h
   obtain⟨rfl,rfl⟩:=h
   have:=znT hl
   rw[zlP] at this
   exact this
  ·cases h
 ·exact zqg h
theorem zmv : ∀ {cs : List Cl} {l : List PV} {u : Upd}, znm ob cs = some (l, u) → ∀ x ∈ u, (x.1 ∈ cs.flatMap zaE ∨ ∃ L ∈ cs.flatMap zaE, ∃ o', ob L = some o' ∧ x.1 ∈ zb8 o') ∧ aoV x.2 = []
  | [],l,u,h=>by simp[znm] at h;rw[h.2];intro x hx;simp at hx
  | c :: cs,l,u,h=>by
    simp only[znm] at h
    split at h
    · rename_i v u1 l2 u2 h1 h2
      simp only[dqa,dqh] at h;rw[<- h.2]
      intro x hx
      simp only[dqJ,dqg]
      rcases dqg.1 hx with hx | hx
      · obtain ⟨h3, h4⟩ := zt4 h1 x hx
        refine⟨?_,h4⟩
        rcases h3 with h3 | ⟨L,hL,o',h5,h6⟩
        · exact .inl (.inl h3)
        · exact .inr ⟨L,.inl hL,o',h5,h6⟩
      · obtain ⟨h3, h4⟩ := zmv h2 x hx
        refine⟨?_,h4⟩
        rcases h3 with h3 | ⟨L,hL,o',h5,h6⟩
        · exact .inl (.inr h3)
        · exact .inr ⟨L,.inr hL,o',h5,h6⟩
    · cases h
theorem zqh {d:DV}{v:PA}{u:Upd}(h:zq2 ob d=some (v,u)):∀ x∈u,x.1∈za9 ob d/\aoV x.2=[]:=by
 have deep:∀ k,(k∈zbf d\/∃ L∈zbf d,∃ o',ob L=some o'/\k∈zb8 o')->k∈za9 ob d:=by
  intro k hk
  rcases hk with hk | ⟨L,hL,o',h5,h6⟩
  ·exact dqo.2 ⟨k,hk,dqj⟩
  ·refine dqo.2 ⟨L, hL, dqf _ ?_⟩
   rw[h5];exact h6
 unfold zq2 at h
 split at h
 ·split at h
  ·rename_i v' u' h1
   simp only[dqa,dqh] at h;rw[<- h.2]
   intro x hx;obtain⟨h3,h4⟩:=zt4 h1 x hx;exact⟨deep _ h3,h4⟩
  ·cases h
 ·split at h
  ·rename_i v' u' h1
   simp only[dqa,dqh] at h;rw[<- h.2]
   intro x hx;obtain⟨h3,h4⟩:=zmv h1 x hx;exact⟨deep _ h3,h4⟩
  ·cases h
 ·cases h
theorem zkD : ∀ {ds : List DV} {l : List PA} {u : Upd}, zfC ob ds = some (l, u) → ∀ x ∈ u, x.1 ∈ ds.flatMap (za9 ob) ∧ aoV x.2 = []
  | [],l,u,h=>by simp[zfC] at h;rw[h.2];intro x hx;simp at hx
  | d :: ds,l,u,h=>by
    simp only[zfC] at h
    split at h
    · rename_i v u1 l2 u2 h1 h2
      simp only[dqa,dqh] at h;rw[<- h.2]
      intro x hx
      simp only[dqJ,dqg]
      rcases dqg.1 hx with hx | hx
      · exact⟨.inl (zqh h1 x hx).1,(zqh h1 x hx).2⟩
      · exact⟨.inr (zkD h2 x hx).1,(zkD h2 x hx).2⟩
    · cases h
end
end Go.Pm
namespace Go.Pm
variable [DrawZ]

section
variable {P:Program}{Γ:Ctrs}{o:Oper}{ev:Operand->DV}{ob:Nat->Option AO}{A:OpAct}

theorem fmc {α β : Type} {f h : α → List β} : ∀ {l : List α}, (∀ x ∈ l, f x = h x) → l.flatMap f = l.flatMap h
  | [],_=>rfl
  | x :: l,hf=>by simp only[dqJ];rw[hf x dqj,fmc λ y hy=>hf y (dqf _ hy)]

theorem zw6 {x:Operand}(hop:o.op=.move x\/o.op=.assign x):ActOk P Γ o ev ob (.val [] (ev x) [] []):=by
 have hx:x∈o.op.operands.toList:=by rcases hop with h | h <;> simp[h,Op.operands]
 refine ActOk.pure (zeo hx λ L hL=>hL) λ ev' ob' he _=>?_
 rcases hop with h | h <;> simp only[act,h,he x hx]

theorem zFZ {b:Bool}{x y:DV} : ∀ L∈dvV (znn b x y),L∈dvV x\/L∈dvV y:=by
 unfold znn
 split
 ·intro L hL;simp[dvV,d1V,clV] at hL
 ·cases b with
  | true=>exact λ L hL=>.inl hL
  | false=>exact λ L hL=>.inr hL

theorem zF0 {c x y:Operand}{t:Bool}(hop:o.op=.pick c x y) (hc:ev c=.one (.c (.p (.bool t)))):ActOk P Γ o ev ob (.val [] (znn t (ev x) (ev y)) [] []):=by
 have hcm:c∈o.op.operands.toList:=by simp[hop,Op.operands]
 have hx:x∈o.op.operands.toList:=by simp[hop,Op.operands]
 have hy:y∈o.op.operands.toList:=by simp[hop,Op.operands]
 refine ActOk.pure (λ L hL=>?_) λ ev' ob' he _=>?_
 ·rcases zFZ L hL with h | h
  ·exact .inl (.inl ⟨x,hx,h⟩)
  ·exact .inl (.inl ⟨y,hy,h⟩)
 ·simp only[act,hop,he c hcm,he x hx,he y hy,hc]

theorem zoW {ao : AO} {d : Nat → DV} (hlo : ∀ L ∈ aoV ao, Men o ev ob [] L) (hld : ∀ t, ∀ L ∈ dvV (d t), L = t)
    (hc:∀ ev' ob',(∀ x∈o.op.operands.toList,ev' x=ev x)->act P Γ o ev' ob'=zrb ob' o.dst ao d) (hA:zrb ob o.dst ao d=A) (hs:A.safe):ActOk P Γ o ev ob A:=by
  have hA':=hA
  unfold zrb at hA
  split at hA
  · rename_i t ht
    split at hA
    · rename_i hn
      subst hA
      have men:∀ L,Men o ev ob [] L->Men o ev ob [(t,true)] L:=λ L h=>h.imp_right λ ⟨y,hy,_⟩=>by simp at hy
      refine⟨λ x hx=>?_,.inl rfl,λ x hx L hL=>?_,λ d' hd' L hL=>?_,λ ev' ob' he hob=>?_⟩
      · simp only[OpAct.u,dqi] at hx;subst hx;simp[OpAct.fp]
      · simp only[OpAct.u,dqi] at hx;subst hx;exact men L (hlo L hL)
      · simp only[OpAct.gives] at hd';subst hd';rw[hld t L hL];exact .inr (by simp[OpAct.fp])
      · rw [hc ev' ob' he]
        have:=hob (t,true) (by simp[OpAct.fp])
        simp only at this
        simp only[zrb,ht,this,hn]
    · exact dq9 hA hs
  · exact dq9 hA hs

theorem zw7 {t:TypeId}{z:List Cl}(h:zel P t=some z):z.flatMap clV=[]:=by
 have h1:=zpT h
 cases hz:z.flatMap clV with
 | nil=>rfl
 | cons L l =>
  have:L∈z.flatMap clV:=by rw[hz];exact dqj
  obtain⟨c,hc,hL⟩:=dqo.1 this
  have:L∈z.flatMap zaE:=dqo.2 ⟨c,hc,zrE L hL⟩
  rw[h1] at this;simp at this

theorem zrF (d:D1):d.cells.flatMap clV=d1V d:=by cases d <;> simp[D1.cells,d1V]

theorem zKD {t k:Nat}{cells:List Cl} : ∀ L∈(zFG P t k cells).flatMap clV,L∈cells.flatMap clV:=by
 unfold zFG
 split
 ·split
  ·intro L hL
   obtain⟨c,hc,hL⟩:=dqo.1 hL
   rcases List.mem_or_eq_of_mem_set hc with h | h
   ·exact dqo.2 ⟨c,h,hL⟩
   ·subst h;simp[clV] at hL
  ·exact λ L hL=>hL
 ·exact λ L hL=>hL
theorem zw8 : ∀ (fs : List Field) {cells : List Cl}, ∀ L ∈ (zvZ P fs cells).flatMap clV, L ∈ cells.flatMap clV
  | [],_,L,h=>h
  | _ :: r,_,L,h=>zKD L (zw8 r L h)
theorem zC5 {t:TypeId}{cells:List Cl} : ∀ L∈(zjM P t cells).flatMap clV,L∈cells.flatMap clV:=by
 unfold zjM
 split
 ·exact zw8 _
 ·exact λ L hL=>hL
theorem zt5 {t : TypeId} : ∀ (parts : List (Nat × Operand)) (z l : List Cl), zdu P t ev z parts = some l → ∀ L ∈ l.flatMap clV, L ∈ z.flatMap clV ∨ ∃ x ∈ parts, L ∈ dvV (ev x.2)
  | [],z,l,h=>by simp[zdu] at h;subst h;exact λ L hL=>.inl hL
  | (i,x) :: r,z,l,h=>by
    simp only[zdu] at h
    split at h
    · rename_i d hd
      have splV:∀ (l' l:List Cl) (off:Nat),∀ L∈(spl l off l').flatMap clV,L∈l.flatMap clV\/L∈l'.flatMap clV:=by
        intro l'
        induction l' with
        | nil=>intro l off L hL;exact .inl hL
        | cons c l' ih =>
          intro l off L hL
          simp only[spl] at hL
          rcases ih _ _ L hL with h | h
          · obtain ⟨c', hc', hL'⟩ := dqo.1 h
            rcases List.mem_or_eq_of_mem_set hc' with h2 | h2
            · exact .inl (dqo.2 ⟨c',h2,hL'⟩)
            · subst h2;exact .inr (dqo.2 ⟨c',dqj,hL'⟩)
          · exact .inr (by simp only[dqJ,dqg];exact .inr h)
      have step:∀ off,zdu P t ev (spl z off d.cells) r=some l->∀ L∈l.flatMap clV,L∈z.flatMap clV\/∃ y∈(i,x) :: r,L∈dvV (ev y.2):=by
        intro off hb L hL
        rcases zt5 r _ l hb L hL with h | ⟨y,hy,hL⟩
        · rcases splV _ _ _ L h with h | h
          · exact .inl h
          · refine .inr ⟨(i, x), dqj, ?_⟩
            simp only[hd,dvV];rw[<- zrF];exact h
        · exact .inr ⟨y,dqf _ hy,hL⟩
      split at h
      · split at h
        · split at h
          · split at h
            · exact step _ h
            · cases h
          · cases h
        · cases h
      · split at h
        · split at h
          · exact step _ h
          · cases h
        · cases h
      · cases h
    · cases h

theorem zlg {ev' : Operand → DV} {t : TypeId} : ∀ (parts : List (Nat × Operand)) (z : List Cl), (∀ x ∈ parts, ev' x.2 = ev x.2) → zdu P t ev' z parts = zdu P t ev z parts
  | [],z,_=>rfl
  | (i,x) :: r,z,h=>by
    have hx:ev' x=ev x:=h (i,x) dqj
    have ih:∀ z,zdu P t ev' z r=zdu P t ev z r:=λ z=>zlg r z λ y hy=>h y (dqf _ hy)
    simp only[zdu,hx,ih]

theorem zjZ {ev':Operand->DV}{ob':Nat->Option AO}{s:Nat} : ∀ (parts:List (Nat×Operand)) (i:Nat) (ls:List (List PV)) (u:Upd) (labs:List Nat),zdT ob ev s i parts=some (ls,u,labs) ->
  (∀ x∈parts,ev' x.2=ev x.2)->(∀ L∈labs,ob' L=ob L)->zdT ob' ev' s i parts=some (ls,u,labs)
 | [],i,ls,u,labs,h,_,_=>by simpa [zdT] using h
 | (j,x) :: r,i,ls,u,labs,h,he,hob=>by
  have hx:ev' x=ev x:=he (j,x) dqj
  simp only[zdT] at h ⊢
  rw[hx]
  split at h
  ·rename_i hij
   split at h
   ·rename_i d hd
    split at h
    ·rename_i l u1 ls' us labs' h1 h2
     split at h
     ·rename_i hlen
      simp only[dqa,dqh] at h
      obtain⟨rfl,rfl,rfl⟩:=h
      have e1:ze3 ob' d.cells=some (l,u1):=by
       rw[<- h1]
       refine ziM λ L hL=>hob L (dqg.2 (.inl ?_))
       cases d <;> simpa [D1.cells,zbN] using hL
      have e2:=zjZ r (i+1) ls' us labs' h2 (λ y hy=>he y (dqf _ hy)) (λ L hL=>hob L (dqg.2 (.inr hL)))
      simp only[e1,e2,hlen]
     ·cases h
    ·cases h
   ·cases h
  ·cases h
theorem zhU {s : Nat} : ∀ (parts : List (Nat × Operand)) (i : Nat) (ls : List (List PV)) (u : Upd) (labs : List Nat), zdT ob ev s i parts = some (ls, u, labs) → ∀ x ∈ u, x.1 ∈ labs ∧ aoV x.2 = []
  | [],i,ls,u,labs,h=>by simp[zdT] at h;rw[h.2.1];intro x hx;simp at hx
  | (j,x) :: r,i,ls,u,labs,h=>by
    simp only[zdT] at h
    split at h
    · split at h
      · rename_i d hd
        split at h
        · rename_i l u1 ls' us labs' h1 h2
          split at h
          · simp only [dqa, dqh] at h
            obtain⟨rfl,rfl,rfl⟩:=h
            intro y hy
            rcases dqg.1 hy with hy | hy
            · obtain ⟨h3, h4⟩ := zgr h1 y hy
              refine⟨dqg.2 (.inl ?_),h4⟩
              cases d <;> simpa [D1.cells,zbN] using h3
            · obtain ⟨h3, h4⟩ := zhU r _ _ _ _ h2 y hy
              exact⟨dqg.2 (.inr h3),h4⟩
          · cases h
        · cases h
      · cases h
    · cases h

theorem zC6 {t : TypeId} {parts : Array (Nat × Operand)} {z l : List Cl} (hop : o.op = .build t parts) (hf : zjL P t = true) (hz : zel P t = some z) (hl : zdu P t ev z parts.toList = some l) :
  ActOk P Γ o ev ob (.val [] (.one (.agg l)) [] []):=by
 have hm:∀ x∈parts.toList,x.2∈o.op.operands.toList:=λ x hx=>by
  simp only[hop,Op.operands]
  exact dqz.2 ⟨x,hx,rfl⟩
 refine ActOk.pure (λ L hL=>?_) λ ev' ob' he _=>?_
 ·rcases zt5 _ _ _ hl L hL with h | ⟨x, hx, h⟩
  ·rw[zw7 hz] at h;simp at h
  ·exact .inl (.inl ⟨x.2,hm x hx,h⟩)
 ·simp only[act,hop,hf,hz,zlg parts.toList z (λ x hx=>he x.2 (hm x hx)),hl]

theorem zqi {l:List Nat}{L:Nat}(h:L∈l):(L,true)∈wr l:=dqz.2 ⟨L,h,rfl⟩

theorem zvr {t:TypeId}{n:Nat}{parts:Array (Nat×Operand)}(hop:o.op=.buildSlice t n parts) (hf:zJ8 Γ o.dst=true) (hA:ziH P o t n parts.toList ev ob=A) (hs:A.safe):ActOk P Γ o ev ob A:=by
 have hm:∀ x∈parts.toList,x.2∈o.op.operands.toList:=λ x hx=>by
  simp only[hop,Op.operands]
  exact dqz.2 ⟨x,hx,rfl⟩
 have hc:∀ ev' ob',act P Γ o ev' ob'=ziH P o t n parts.toList ev' ob':=λ ev' ob'=>by
  simp only[act,hop,hf]
 unfold ziH at hA
 split at hA
 ·rename_i te x dst hu hp hd
  have hx:x∈o.op.operands.toList:=hm (0,x) (by rw[hp];simp)
  split at hA
  ·rename_i ie z M hi hz hex
   split at hA
   ·rename_i hM hn
    split at hA
    ·rename_i hb
     subst hA
     refine⟨λ x hx=>?_,.inl rfl,λ x hx L hL=>?_,λ d' hd' L hL=>?_,λ ev' ob' he hob=>?_⟩
     ·simp only [OpAct.u, dqq, List.not_mem_nil, or_false] at hx
      rcases hx with rfl | rfl <;> simp[OpAct.fp]
     ·simp only [OpAct.u, dqq, List.not_mem_nil, or_false] at hx
      rcases hx with rfl | rfl <;> simp[aoV] at hL
     ·simp only [OpAct.gives] at hd'; subst hd'
      simp only[dvV,d1V,clV,dqi] at hL
      subst hL
      exact .inr (by simp[OpAct.fp])
     ·have e1 := hob (M, true) (by simp [OpAct.fp])
      have e2:=hob (dst,true) (by simp[OpAct.fp])
      simp only at e1 e2
      rw[hc]
      simp only[ziH,hu,hp,hd,hi,hz,he x hx,hex,e1,hM,e2,hn,hb]
    ·exact dq9 hA hs
   ·exact dq9 hA hs
  ·exact dq9 hA hs
 ·exact dq9 hA hs

theorem zoX {t:TypeId}{n:Nat}{parts:Array (Nat×Operand)}(hop:o.op=.buildSlice t n parts) (hA:act P Γ o ev ob=A) (hs:A.safe):ActOk P Γ o ev ob A:=by
 have hm:∀ x∈parts.toList,x.2∈o.op.operands.toList:=λ x hx=>by
  simp only[hop,Op.operands]
  exact dqz.2 ⟨x,hx,rfl⟩
 simp only[act,hop] at hA
 split at hA
 ·rename_i hf
  exact zvr hop hf hA hs
 rename_i hvf
 split at hA
 ·rename_i e hu
  split at hA
  ·rename_i ie hie
   split at hA
   ·rename_i ls u labs hp
    split at hA
    ·rename_i z dst hb hz hd
     split at hA
     ·rename_i hn
      subst hA
      refine⟨λ x hx=>?_,.inl rfl,λ x hx L hL=>?_,λ d' hd' L hL=>?_,λ ev' ob' he hob=>?_⟩
      ·simp only [OpAct.u, dqq] at hx
       simp only[OpAct.fp,dqg]
       rcases hx with rfl | hx
       ·exact .inr (by simp)
       ·exact .inl (zqi (zhU _ _ _ _ _ hp x hx).1)
      ·simp only [OpAct.u, dqq] at hx
       rcases hx with rfl | hx
       ·simp[aoV] at hL
       ·rw[(zhU _ _ _ _ _ hp x hx).2] at hL;simp at hL
      ·simp only [OpAct.gives] at hd'; subst hd'
       simp only[dvV,d1V,clV,dqi] at hL
       subst hL
       exact .inr (by simp[OpAct.fp])
      ·have e1 := zjZ (ev' := ev') (ob' := ob') _ _ _ _ _ hp (fun x hx => he x.2 (hm x hx)) (fun L hL => hob (L, true) (dqg.2 (.inl (zqi hL))))
       have e2:=hob (dst,true) (dqg.2 (.inr (by simp)))
       simp only at e2
       rw[hd] at hvf
       simp only[act,hop,hvf,hu,hie,e1,hb,hz,hd,e2,hn]
     ·exact dq9 hA hs
    ·exact dq9 hA hs
   ·exact dq9 hA hs
  ·exact dq9 hA hs
 ·exact dq9 hA hs

theorem zKE {L:Nat}{ao:AO}{w:Bool}{d:D1}(hL:ob L=some ao) (h:∀ M∈d1V d,M∈aoV ao):∀ M∈dvV (.one d),Men o ev ob [(L,w)] M\/(M,true)∈[(L,w)] :=
 λ M hM=>.inl (.inr ⟨(L,w),by simp,ao,hL,h M hM⟩)

theorem zF1 (l : List Cl) : ∀ (n k : Nat), (rdI l n k).flatMap clV = []
  | 0,_=>rfl
  | n+1,k=>by rw[rdI,dqJ,zF1 l n (k+1)];rfl
theorem zw9 {ag:Bool}{s k:Nat}{l:List Cl}{d:D1}(h:rdX ag s l k=some d):d1V d=[]:=by
 cases ag with
 | true =>
  have h:some (D1.agg (rdI l s k))=some d:=h
  simp only[dqa] at h;subst h
  exact zF1 l s k
 | false =>
  have h:(match rdI l s k with | [x]=>some (D1.c x) | _=>none)=some d:=h
  split at h
  ·rename_i x e
   simp only[dqa] at h;subst h
   have:=zF1 l s k
   rw[e] at this
   simpa [d1V] using this
  ·cases h
theorem zF2 {t:TypeId}{x:Operand}(hop:o.op=.load t x) (hA:act P Γ o ev ob=A) (hs:A.safe):ActOk P Γ o ev ob A:=by
 have hm:x∈o.op.operands.toList:=by simp[hop,Op.operands]
 simp only[act,hop] at hA
 split at hA
 ·rename_i ag n hag hn
  split at hA
  ·rename_i L off hx
   split at hA
   ·rename_i ty cells hL
    split at hA
    ·rename_i d hr
     subst hA
     refine ActOk.pure (zKE hL (zt2 hr)) λ ev' ob' he hob=>?_
     have e:=hob (L,false) (by simp);simp only at e
     simp only[act,hop,hag,hn,he x hm,hx,e,hL,hr]
    ·exact dq9 hA hs
   ·rename_i cells hL
    split at hA
    ·rename_i d hr
     subst hA
     refine ActOk.pure (λ M hM=>?_) λ ev' ob' he hob=>?_
     ·simp only[dvV] at hM;rw[zmt hr] at hM;simp at hM
     have e:=hob (L,false) (by simp);simp only at e
     simp only[act,hop,hag,hn,he x hm,hx,e,hL,hr]
    ·exact dq9 hA hs
   ·exact dq9 hA hs
  ·rename_i cells off hx
   split at hA
   ·rename_i d hr
    subst hA
    refine ActOk.pure (λ M hM=>?_) λ ev' ob' he hob=>?_
    ·simp only[dvV] at hM;rw[zmt hr] at hM;simp at hM
    simp only[act,hop,hag,hn,he x hm,hx,hr]
   ·exact dq9 hA hs
  ·rename_i L s i k hx
   split at hA
   ·rename_i e s' b len get hL
    split at hA
    ·rename_i d hss hr
     subst hA
     refine ActOk.pchk (λ M hM=>?_) λ ev' ob' he hob=>?_
     ·simp only[dvV] at hM;rw[zmt hr] at hM;simp at hM
     have e:=hob (L,false) (by simp);simp only at e
     simp only[act,hop,hag,hn,he x hm,hx,e,hL,hss,hr]
    ·exact dq9 hA hs
   ·rename_i s' len get hL
    split at hA
    ·rename_i d hss hr
     subst hA
     refine ActOk.pchk (λ M hM=>?_) λ ev' ob' he hob=>?_
     ·simp only[dvV] at hM;rw[zmt hr] at hM;simp at hM
     have e:=hob (L,false) (by simp);simp only at e
     simp only[act,hop,hag,hn,he x hm,hx,e,hL,hss,hr]
    ·exact dq9 hA hs
   ·rename_i hL
    split at hA
    ·rename_i hss
     subst hA
     refine ActOk.pchk (λ M hM=>.inl (.inl ⟨x,hm,?_⟩)) λ ev' ob' he hob=>?_
     ·rw[hx];exact hM
     have e:=hob (L,false) (by simp);simp only at e
     simp only[act,hop,hag,hn,he x hm,hx,e,hL,hss]
    ·exact dq9 hA hs
   ·rename_i hL
    split at hA
    ·rename_i hss
     subst hA
     refine ActOk.pchk (λ M hM=>.inl (.inl ⟨x,hm,?_⟩)) λ ev' ob' he hob=>?_
     ·rw[hx];exact hM
     have e:=hob (L,false) (by simp);simp only at e
     simp only[act,hop,hag,hn,he x hm,hx,e,hL,hss]
    ·exact dq9 hA hs
   ·exact dq9 hA hs
  ·rename_i L s i j k hx
   split at hA
   ·rename_i hL
    split at hA
    ·rename_i d hss hr
     subst hA
     refine ActOk.pchk (λ M hM=>?_) λ ev' ob' he hob=>?_
     ·simp only[dvV] at hM;rw[zmt hr] at hM;simp at hM
     have e:=hob (L,false) (by simp);simp only at e
     simp only[act,hop,hag,hn,he x hm,hx,e,hL,hss,hr]
    ·exact dq9 hA hs
   ·exact dq9 hA hs
  ·rename_i L b m' n' j c hx
   split at hA
   ·rename_i hL
    split at hA
    ·rename_i d hss hr
     subst hA
     refine ActOk.pure (λ M hM=>?_) λ ev' ob' he hob=>?_
     ·simp only[dvV] at hM;rw[zw9 hr] at hM;simp at hM
     have e:=hob (L,false) (by simp);simp only at e
     simp only[act,hop,hag,hn,he x hm,hx,e,hL,hss,hr]
    ·exact dq9 hA hs
   ·rename_i hL
    split at hA
    ·rename_i d hss hr
     subst hA
     refine ActOk.pure (λ M hM=>?_) λ ev' ob' he hob=>?_
     ·simp only[dvV] at hM;rw[zw9 hr] at hM;simp at hM
     have e:=hob (L,false) (by simp);simp only at e
     simp only[act,hop,hag,hn,he x hm,hx,e,hL,hss,hr]
    ·exact dq9 hA hs
   ·exact dq9 hA hs
  ·rename_i cells b m' n' j c hx
   split at hA
   ·rename_i d hss hr
    subst hA
    refine ActOk.pure (λ M hM=>?_) λ ev' ob' he hob=>?_
    ·simp only[dvV] at hM;rw[zw9 hr] at hM;simp at hM
    simp only[act,hop,hag,hn,he x hm,hx,hss,hr]
   ·exact dq9 hA hs
  ·rename_i L s i b m' n' j c hx
   split at hA
   ·rename_i hL
    split at hA
    ·rename_i d hss hr
     subst hA
     refine ActOk.pchk (λ M hM=>?_) λ ev' ob' he hob=>?_
     ·simp only[dvV] at hM;rw[zw9 hr] at hM;simp at hM
     have e:=hob (L,false) (by simp);simp only at e
     simp only[act,hop,hag,hn,he x hm,hx,e,hL,hss,hr]
    ·exact dq9 hA hs
   ·exact dq9 hA hs
  ·exact dq9 hA hs
 ·exact dq9 hA hs

theorem zOe:∀ (l' l:List Cl) (off:Nat),∀ L∈(spl l off l').flatMap clV,L∈l.flatMap clV\/L∈l'.flatMap clV:=by
 intro l'
 induction l' with
 | nil=>intro l off L hL;exact .inl hL
 | cons c l' ih =>
  intro l off L hL
  simp only[spl] at hL
  rcases ih _ _ L hL with h | h
  ·obtain ⟨c', hc', hL'⟩ := dqo.1 h
   rcases List.mem_or_eq_of_mem_set hc' with h2 | h2
   ·exact .inl (dqo.2 ⟨c',h2,hL'⟩)
   ·subst h2;exact .inr (dqo.2 ⟨c',dqj,hL'⟩)
  ·exact .inr (by simp only[dqJ,dqg];exact .inr h)

theorem zC7 {t:TypeId}{x y:Operand}(hop:o.op=.store t x y) (hA:act P Γ o ev ob=A) (hs:A.safe):ActOk P Γ o ev ob A:=by
 have hx:x∈o.op.operands.toList:=by simp[hop,Op.operands]
 have hy:y∈o.op.operands.toList:=by simp[hop,Op.operands]
 simp only[act,hop] at hA
 split at hA
 ·rename_i n L off d hn hex hey
  split at hA
  ·rename_i ty cells hL
   split at hA
   ·rename_i hb
    subst hA
    refine⟨λ z hz=>?_,.inl rfl,λ z hz M hM=>?_,λ d' hd' M hM=>?_,λ ev' ob' he hob=>?_⟩
    ·simp only[OpAct.u,dqi] at hz;subst hz;simp[OpAct.fp]
    ·simp only [OpAct.u, dqi] at hz; subst hz
     simp only[aoV] at hM
     rcases zOe _ _ _ M hM with h | h
     ·exact .inr ⟨(L,true),by simp[OpAct.fp],_,hL,h⟩
     ·refine .inl ⟨y, hy, ?_⟩
      rw[hey];simp only[dvV];rw[<- zrF];exact h
    ·simp only[OpAct.gives] at hd';subst hd';simp[dvV,d1V,clV] at hM
    ·have e := hob (L, true) (by simp [OpAct.fp]); simp only at e
     simp only[act,hop,hn,he x hx,he y hy,hex,hey,e,hL,hb]
   ·exact dq9 hA hs
  ·exact dq9 hA hs
 ·rename_i n L s i k d hn hex hey
  split at hA
  ·rename_i e s' b len get hL
   split at hA
   ·rename_i l hl
    split at hA
    ·rename_i hb
     subst hA
     refine⟨λ z hz=>?_,.inl rfl,λ z hz M hM=>?_,λ d' hd' M hM=>?_,λ ev' ob' he hob=>?_⟩
     ·simp only[OpAct.u,dqi] at hz;subst hz;simp[OpAct.fp]
     ·simp only[OpAct.u,dqi] at hz;subst hz;simp[aoV] at hM
     ·simp only[OpAct.gives] at hd';subst hd';simp[dvV,d1V,clV] at hM
     ·have e := hob (L, true) (by simp [OpAct.fp]); simp only at e
      simp only[act,hop,hn,he x hx,he y hy,hex,hey,e,hL,hl,hb]
    ·exact dq9 hA hs
   ·exact dq9 hA hs
  ·rename_i te bb e s' by' len ln get hL
   split at hA
   ·rename_i M'
    split at hA
    ·rename_i e2 s2 b2 mm get2 hM'
     split at hA
     ·rename_i hb
      split at hA
      ·rename_i hq
       subst hA
       refine⟨λ z hz=>?_,.inl rfl,λ z hz M hM=>?_,λ d' hd' M hM=>?_,λ ev' ob' he hob=>?_⟩
       ·simp only [OpAct.u, dqq, List.not_mem_nil, or_false] at hz
        rcases hz with rfl | rfl <;> simp[OpAct.fp]
       ·simp only [OpAct.u, dqq, List.not_mem_nil, or_false] at hz
        rcases hz with rfl | rfl <;> simp[aoV] at hM
       ·simp only[OpAct.gives] at hd';subst hd';simp[dvV,d1V,clV] at hM
       ·have e := hob (L, true) (by simp [OpAct.fp]); simp only at e
        have e2:=hob (M',true) (by simp[OpAct.fp]);simp only at e2
        simp only[act,hop,hn,he x hx,he y hy,hex,hey,e,hL,e2,hM',hb]
        rw[if_pos hq]
      ·exact dq9 hA hs
     ·exact dq9 hA hs
    ·exact dq9 hA hs
   ·exact dq9 hA hs
  ·rename_i te bb kt vt q len mk nn F hL
   split at hA
   ·rename_i M'
    split at hA
    ·rename_i kt' vt' q' mm F' hM'
     split at hA
     ·rename_i hb
      split at hA
      ·rename_i hq
       subst hA
       refine⟨λ z hz=>?_,.inl rfl,λ z hz M hM=>?_,λ d' hd' M hM=>?_,λ ev' ob' he hob=>?_⟩
       ·simp only [OpAct.u, dqq, List.not_mem_nil, or_false] at hz
        rcases hz with rfl | rfl <;> simp[OpAct.fp]
       ·simp only [OpAct.u, dqq, List.not_mem_nil, or_false] at hz
        rcases hz with rfl | rfl <;> simp[aoV] at hM
       ·simp only[OpAct.gives] at hd';subst hd';simp[dvV,d1V,clV] at hM
       ·have e := hob (L, true) (by simp [OpAct.fp]); simp only at e
        have e2:=hob (M',true) (by simp[OpAct.fp]);simp only at e2
        simp only[act,hop,hn,he x hx,he y hy,hex,hey,e,hL,e2,hM',hb]
        rw[if_pos hq]
      ·exact dq9 hA hs
     ·exact dq9 hA hs
    ·exact dq9 hA hs
   ·exact dq9 hA hs
  ·exact dq9 hA hs
 ·rename_i n L s i j k d hn hex hey
  split at hA
  ·rename_i hL
   split at hA
   ·rename_i l hl
    split at hA
    ·rename_i hb
     subst hA
     refine⟨λ z hz=>?_,.inl rfl,λ z hz M hM=>?_,λ d' hd' M hM=>?_,λ ev' ob' he hob=>?_⟩
     ·simp only[OpAct.u,dqi] at hz;subst hz;simp[OpAct.fp]
     ·simp only[OpAct.u,dqi] at hz;subst hz;simp[aoV] at hM
     ·simp only[OpAct.gives] at hd';subst hd';simp[dvV,d1V,clV] at hM
     ·have e := hob (L, true) (by simp [OpAct.fp]); simp only at e
      simp only[act,hop,hn,he x hx,he y hy,hex,hey,e,hL,hl,hb]
    ·exact dq9 hA hs
   ·exact dq9 hA hs
  ·exact dq9 hA hs
 ·rename_i n L b m' n' j c d hn hex hey
  split at hA
  ·rename_i ty cells vs hL hvs
   split at hA
   ·rename_i hb
    subst hA
    refine⟨λ z hz=>?_,.inl rfl,λ z hz M hM=>?_,λ d' hd' M hM=>?_,λ ev' ob' he hob=>?_⟩
    ·simp only[OpAct.u,dqi] at hz;subst hz;simp[OpAct.fp]
    ·simp only [OpAct.u, dqi] at hz; subst hz
     simp only[aoV,dqo,dqz] at hM
     obtain⟨_,⟨_,_,rfl⟩,hM⟩:=hM
     simp[clV] at hM
    ·simp only[OpAct.gives] at hd';subst hd';simp[dvV,d1V,clV] at hM
    ·have e := hob (L, true) (by simp [OpAct.fp]); simp only at e
     simp only[act,hop,hn,he x hx,he y hy,hex,hey,e,hL,hvs,hb]
   ·exact dq9 hA hs
  ·exact dq9 hA hs
 ·rename_i n L s i b m' n' j c d hn hex hey
  split at hA
  ·rename_i e1 s' by' len get vs hL hvs
   split at hA
   ·rename_i hb
    subst hA
    refine⟨λ z hz=>?_,.inl rfl,λ z hz M hM=>?_,λ d' hd' M hM=>?_,λ ev' ob' he hob=>?_⟩
    ·simp only[OpAct.u,dqi] at hz;subst hz;simp[OpAct.fp]
    ·simp only[OpAct.u,dqi] at hz;subst hz;simp[aoV] at hM
    ·simp only[OpAct.gives] at hd';subst hd';simp[dvV,d1V,clV] at hM
    ·have e := hob (L, true) (by simp [OpAct.fp]); simp only at e
     simp only[act,hop,hn,he x hx,he y hy,hex,hey,e,hL,hvs,hb]
   ·exact dq9 hA hs
  ·exact dq9 hA hs
 ·exact dq9 hA hs

theorem zrG {x:Operand}(hop:o.op=.nilCheck x) (hA:act P Γ o ev ob=A) (hs:A.safe):ActOk P Γ o ev ob A:=by
 have hx:x∈o.op.operands.toList:=by simp[hop,Op.operands]
 simp only[act,hop] at hA
 split at hA
 ·rename_i L off h; subst hA
  exact ActOk.pure (zeo hx λ L hL=>by rw[h];exact hL) λ ev' ob' he _=>by simp only[act,hop,he x hx,h]
 ·rename_i L off h; subst hA
  exact ActOk.pure (zeo hx λ L hL=>by rw[h];exact hL) λ ev' ob' he _=>by simp only[act,hop,he x hx,h]
 ·rename_i L s i k h; subst hA
  exact ActOk.pure (zeo hx λ L hL=>by rw[h];exact hL) λ ev' ob' he _=>by simp only[act,hop,he x hx,h]
 ·rename_i h; subst hA
  exact ActOk.pure (zeo hx λ L hL=>by rw[h];exact hL) λ ev' ob' he _=>by simp only[act,hop,he x hx,h]
 ·rename_i h; subst hA
  exact ActOk.pure (zeo hx λ L hL=>by rw[h];exact hL) λ ev' ob' he _=>by simp only[act,hop,he x hx,h]
 ·rename_i h; subst hA
  exact ActOk.pure (zeo hx λ L hL=>by rw[h];exact hL) λ ev' ob' he _=>by simp only[act,hop,he x hx,h]
 ·rename_i h; subst hA
  exact ActOk.pure (zeo hx λ L hL=>by rw[h];exact hL) λ ev' ob' he _=>by simp only[act,hop,he x hx,h]
 ·exact dq9 hA hs

theorem zC8 {op : BinOp} {k : IntKind} {p q : Int} (hs : (zvX op k p q).safe)
    (hc:∀ ev' ob',(∀ x∈o.op.operands.toList,ev' x=ev x)->act P Γ o ev' ob'=zvX op k p q):ActOk P Γ o ev ob (zvX op k p q):=by
  cases op <;> first
    | exact hs.elim
    | exact ActOk.pure (zc6 _) λ ev' ob' he _=>hc ev' ob' he
    | exact ActOk.pchk (zc6 _) λ ev' ob' he _=>hc ev' ob' he

theorem zC9 {op:BinOp}{t t':TypeId}{x y:Operand}(hop:o.op=.binOp op t x y t') (hA:act P Γ o ev ob=A) (hs:A.safe):ActOk P Γ o ev ob A:=by
 have hx:x∈o.op.operands.toList:=by simp[hop,Op.operands]
 have hy:y∈o.op.operands.toList:=by simp[hop,Op.operands]
 simp only[act,hop] at hA
 split at hA
 ·rename_i k p k' q hex hey
  split at hA
  ·rename_i hk
   subst hA
   exact zC8 hs λ ev' ob' he=>by simp only[act,hop,he x hx,he y hy,hex,hey,hk,if_true]
  ·rename_i hk
   subst hA
   have hc:∀ ev' ob',(∀ x∈o.op.operands.toList,ev' x=ev x)->act P Γ o ev' ob'=zFD op k p q:=λ ev' ob' he=>by simp only[act,hop,he x hx,he y hy,hex,hey,hk,if_false]
   cases op <;> first
    | exact hs.elim
    | exact ActOk.pchk (zc6 _) λ ev' ob' he _=>hc ev' ob' he
 ·rename_i p q hex hey
  split at hA
  ·rename_i hu; subst hA
   exact ActOk.pure (zc6 _) λ ev' ob' he _=>by simp only[act,hop,he x hx,he y hy,hex,hey,hu]
  ·rename_i hu; subst hA
   exact ActOk.pure (zc6 _) λ ev' ob' he _=>by simp only[act,hop,he x hx,he y hy,hex,hey,hu]
  ·exact dq9 hA hs
 ·rename_i cs ds hex hey
  have hc:∀ ev' ob',(∀ x∈o.op.operands.toList,ev' x=ev x)->act P Γ o ev' ob'=A:=λ ev' ob' he=>by
   simp only[act,hop,he x hx,he y hy,hex,hey];exact hA
  unfold zCx at hA
  split at hA
  ·split at hA
   ·subst hA;exact ActOk.pure (zc6 _) λ ev' ob' he _=>hc ev' ob' he
   ·subst hA;exact ActOk.pure (zc6 _) λ ev' ob' he _=>hc ev' ob' he
   ·exact dq9 hA hs
  ·exact dq9 hA hs
 ·rename_i hex hey
  have hc:∀ ev' ob',(∀ x∈o.op.operands.toList,ev' x=ev x)->act P Γ o ev' ob'=A:=λ ev' ob' he=>by
   simp only[act,hop,he x hx,he y hy,hex,hey];exact hA
  split at hA
  ·subst hA
   exact⟨λ x hx=>by simp[OpAct.u] at hx,.inl rfl,λ x hx=>by simp[OpAct.u] at hx,λ d hd L hL=>by (simp only[OpAct.gives] at hd;obtain⟨q,rfl⟩:=hd;simp[dvV,d1V,clV] at hL),λ ev' ob' he _=>hc ev' ob' he⟩
  ·subst hA
   exact⟨λ x hx=>by simp[OpAct.u] at hx,.inl rfl,λ x hx=>by simp[OpAct.u] at hx,λ d hd L hL=>by (simp only[OpAct.gives] at hd;obtain⟨q,rfl⟩:=hd;simp[dvV,d1V,clV] at hL),λ ev' ob' he _=>hc ev' ob' he⟩
  ·exact dq9 hA hs
 ·rename_i hex hey
  have hc:∀ ev' ob',(∀ x∈o.op.operands.toList,ev' x=ev x)->act P Γ o ev' ob'=A:=λ ev' ob' he=>by
   simp only[act,hop,he x hx,he y hy,hex,hey];exact hA
  split at hA
  ·subst hA;exact ActOk.pchk (λ M hM=>by simp[dvV,d1V,clV] at hM) λ ev' ob' he _=>hc ev' ob' he
  ·subst hA;exact ActOk.pchk (λ M hM=>by simp[dvV,d1V,clV] at hM) λ ev' ob' he _=>hc ev' ob' he
  ·exact dq9 hA hs
 ·rename_i hex hey
  have hc:∀ ev' ob',(∀ x∈o.op.operands.toList,ev' x=ev x)->act P Γ o ev' ob'=A:=λ ev' ob' he=>by
   simp only[act,hop,he x hx,he y hy,hex,hey];exact hA
  split at hA
  ·subst hA;exact ActOk.pure (zc6 _) λ ev' ob' he _=>hc ev' ob' he
  ·subst hA;exact ActOk.pure (zc6 _) λ ev' ob' he _=>hc ev' ob' he
  ·exact dq9 hA hs
 ·exact dq9 hA hs

theorem zDa {t:TypeId}{x y:Operand}(hop:o.op=.index t x y) (hA:act P Γ o ev ob=A) (hs:A.safe):ActOk P Γ o ev ob A:=by
 have hx:x∈o.op.operands.toList:=by simp[hop,Op.operands]
 have hy:y∈o.op.operands.toList:=by simp[hop,Op.operands]
 have hc:∀ ev' ob',(∀ x∈o.op.operands.toList,ev' x=ev x)->act P Γ o ev' ob'=A:=λ ev' ob' he=>by
  rw[<- hA];simp only[act,hop,he x hx,he y hy]
 simp only[act,hop,zoq] at hA
 split at hA
 ·split at hA
  ·split at hA
   ·split at hA
    ·rename_i d _ hr
     subst hA
     refine ActOk.pchk (λ M hM=>?_) λ ev' ob' he _=>hc ev' ob' he
     simp only[dvV] at hM;rw[zw9 hr] at hM;simp at hM
    ·exact dq9 hA hs
   ·exact dq9 hA hs
  ·split at hA
   ·rename_i cs k j _ _ hex hey
    split at hA
    ·rename_i d _ hr
     subst hA
     refine ActOk.pure (zeo hx λ L hL=>?_) λ ev' ob' he _=>hc ev' ob' he
     rw[hex];exact zt2 hr L hL
    ·exact dq9 hA hs
   ·exact dq9 hA hs
 ·exact dq9 hA hs

theorem zDb {t:TypeId}{x:Operand}{f:Nat}(hop:o.op=.field t x f) (hA:act P Γ o ev ob=A) (hs:A.safe):ActOk P Γ o ev ob A:=by
 have hx:x∈o.op.operands.toList:=by simp[hop,Op.operands]
 have hc:∀ ev' ob',(∀ x∈o.op.operands.toList,ev' x=ev x)->act P Γ o ev' ob'=A:=λ ev' ob' he=>by
  rw[<- hA];simp only[act,hop,he x hx]
 simp only[act,hop,zor] at hA
 split at hA
 ·split at hA
  ·split at hA
   ·rename_i hex
    split at hA
    ·rename_i d hr
     subst hA
     refine ActOk.pure (zeo hx λ L hL=>?_) λ ev' ob' he _=>hc ev' ob' he
     rw[hex];exact zt2 hr L hL
    ·exact dq9 hA hs
   ·exact dq9 hA hs
  ·exact dq9 hA hs
 ·exact dq9 hA hs

theorem ok_slice {t:TypeId}{x:Operand}{lo hi:Option Operand}(hop:o.op=.slice t x lo hi none) (hA:act P Γ o ev ob=A) (hs:A.safe):ActOk P Γ o ev ob A:=by
 have hx:x∈o.op.operands.toList:=by simp[hop,Op.operands]
 have hlo:∀ y,lo=some y->y∈o.op.operands.toList:=λ y e=>by subst e;simp[hop,Op.operands]
 have hhi:∀ y,hi=some y->y∈o.op.operands.toList:=λ y e=>by subst e;simp[hop,Op.operands]
 have hc:∀ ev' ob',(∀ x∈o.op.operands.toList,ev' x=ev x)->act P Γ o ev' ob'=A:=λ ev' ob' he=>by
  have e1:zu6 ev' lo=zu6 ev lo:=by
   cases lo with
   | none=>rfl
   | some y=>simp only[zu6,he y (hlo y rfl)]
  have e2:zu6 ev' hi=zu6 ev hi:=by
   cases hi with
   | none=>rfl
   | some y=>simp only[zu6,he y (hhi y rfl)]
  rw[<- hA];simp only[act,hop,he x hx,e1,e2]
 simp only[act,hop,zlG] at hA
 split at hA
 ·split at hA
  ·split at hA
   ·subst hA
    exact ActOk.pchk (λ L hL=>by simp[dvV,d1V,clV] at hL) λ ev' ob' he _=>hc ev' ob' he
   ·exact dq9 hA hs
  ·exact dq9 hA hs
 ·exact dq9 hA hs

theorem zrH {d:D1} : ∀ L,L∈d1V d->L∈zbN d:=by
 intro L hL
 cases d with
 | c y=>exact zrE L hL
 | agg cs =>
  obtain⟨c,hc,hL⟩:=dqo.1 hL
  exact dqo.2 ⟨c,hc,zrE L hL⟩

theorem zmw {q:MQ}{kd:DV}{ok:Bool}{F:List Int->Option (List Int)}{fin:DV->OpAct}(hA:found q kd ok F fin=A) (hs:A.safe):∃ d,(∀ M∈dvV d,False)/\fin d=A:=by
 unfold found at hA
 split at hA
 ·split at hA
  ·rename_i d hdv
   have hV:∀ M,M∈d1V d->False:=λ M hM=>by have:=zrH M hM;rw[zlM hdv] at this;simp at this
   cases ok with
   | true =>
    refine⟨_,λ M hM=>?_,hA⟩
    simp only[dvV,dqJ,List.flatMap_nil,List.append_nil,dqg] at hM
    rcases hM with hM | hM
    ·exact hV M hM
    ·simp[d1V,clV] at hM
   | false=>exact⟨.one d,λ M hM=>hV M hM,hA⟩
  ·exact dq9 hA hs
 ·exact dq9 hA hs

theorem zxa {t:TypeId}{x y:Operand}{k:Bool}(hop:o.op=.lookup t x y k) (hA:act P Γ o ev ob=A) (hs:A.safe):ActOk P Γ o ev ob A:=by
 have hx:x∈o.op.operands.toList:=by simp[hop,Op.operands]
 have hy:y∈o.op.operands.toList:=by simp[hop,Op.operands]
 have hc0:∀ ev' ob',(∀ x∈o.op.operands.toList,ev' x=ev x)->act P Γ o ev' ob'=match zEd (ev x) with | true=>znz P t (ev x) (ev y) k ob' | false=>zhH P t (ev x) (ev y) k:=λ ev' ob' he=>by
  simp only[act,hop,he x hx,he y hy]
  cases zEd (ev x) <;> rfl
 cases hmo:zEd (ev x) with
 | true =>
  rw[hc0 ev ob (λ _ _=>rfl),hmo] at hA
  have hc1:∀ ev' ob',(∀ x∈o.op.operands.toList,ev' x=ev x)->act P Γ o ev' ob'=znz P t (ev x) (ev y) k ob':=λ ev' ob' he=>by rw[hc0 ev' ob' he,hmo]
  simp only at hA
  unfold znz at hA hc1
  split at hA
  ·rename_i kt vt L hu hex
   split at hA
   ·rename_i q kt' vt' q' n F hE hL
    split at hA
    ·rename_i hcond
     obtain⟨d,hd,e⟩:=zmw hA hs
     subst e
     refine ActOk.pure (λ M hM=>(hd M hM).elim) λ ev' ob' he hob=>?_
     rw[hc1 ev' ob' he]
     have:=hob (L,false) (by simp);simp only at this
     simp only[hu,hex,this,hL,hE,if_pos hcond]
     exact hA
    ·exact dq9 hA hs
   ·exact dq9 hA hs
  ·rename_i kt vt L i hu hex
   split at hA
   ·rename_i q te bb kt' vt' q' n mk nn F hE hL
    split at hA
    ·rename_i hcond
     obtain⟨d,hd,e⟩:=zmw hA hs
     subst e
     refine ActOk.pchk (λ M hM=>(hd M hM).elim) λ ev' ob' he hob=>?_
     rw[hc1 ev' ob' he]
     have:=hob (L,false) (by simp);simp only at this
     simp only[hu,hex,this,hL,hE,if_pos hcond]
     exact hA
    ·exact dq9 hA hs
   ·exact dq9 hA hs
  ·rename_i kt vt q' n F hu hex
   split at hA
   ·rename_i q hE
    split at hA
    ·rename_i hcond
     obtain⟨d,hd,e⟩:=zmw hA hs
     subst e
     refine ActOk.pure (λ M hM=>(hd M hM).elim) λ ev' ob' he hob=>?_
     rw[hc1 ev' ob' he]
     simp only[hu,hex,hE,if_pos hcond]
     exact hA
    ·exact dq9 hA hs
   ·exact dq9 hA hs
  ·exact dq9 hA hs
 | false =>
 have hc:∀ ev' ob',(∀ x∈o.op.operands.toList,ev' x=ev x)->act P Γ o ev' ob'=A:=λ ev' ob' he=>by
  rw[<- hA,hc0 ev' ob' he,hc0 ev ob (λ _ _=>rfl),hmo]
 rw[hc0 ev ob (λ _ _=>rfl),hmo] at hA
 simp only[zhH] at hA
 split at hA
 ·split at hA
  ·rename_i F j _ _ _ _ _
   subst hA
   refine⟨λ x hx=>by simp[OpAct.u] at hx,.inl rfl,λ x hx=>by simp[OpAct.u] at hx,λ d hd L hL=>?_,λ ev' ob' he _=>hc ev' ob' he⟩
   simp only[OpAct.gives] at hd
   obtain⟨q,rfl⟩:=hd
   have:∀ l:List Int,(zCw q l).flatMap clV=[]:=by
    intro l
    induction l with
    | nil=>rfl
    | cons x l ih=>simp[zCw,clV,ih]
   simp[dvV,d1V,clV,this] at hL
  ·exact dq9 hA hs
 ·exact dq9 hA hs

theorem zqj {t:TypeId}{x y z:Operand}(hop:o.op=.mapUpdate t x y z) (hA:act P Γ o ev ob=A) (hs:A.safe):ActOk P Γ o ev ob A:=by
 have hx:x∈o.op.operands.toList:=by simp[hop,Op.operands]
 have hy:y∈o.op.operands.toList:=by simp[hop,Op.operands]
 have hz:z∈o.op.operands.toList:=by simp[hop,Op.operands]
 have hc0:∀ ev' ob',(∀ x∈o.op.operands.toList,ev' x=ev x)->act P Γ o ev' ob'=match zEd (ev x) with | true=>zu5 P t (ev x) (ev y) (ev z) ob' | false=>zhI P t (ev x) (ev y) (ev z):=λ ev' ob' he=>by
  simp only[act,hop,he x hx,he y hy,he z hz]
  cases zEd (ev x) <;> rfl
 cases hmo:zEd (ev x) with
 | true =>
  rw[hc0 ev ob (λ _ _=>rfl),hmo] at hA
  have hc1:∀ ev' ob',(∀ x∈o.op.operands.toList,ev' x=ev x)->act P Γ o ev' ob'=zu5 P t (ev x) (ev y) (ev z) ob':=λ ev' ob' he=>by rw[hc0 ev' ob' he,hmo]
  simp only at hA
  unfold zu5 at hA hc1
  split at hA
  ·rename_i kt vt L hu hex
   split at hA
   ·rename_i q kt' vt' q' n F hE hL
    split at hA
    ·rename_i c dv hck hez
     split at hA
     ·rename_i l hl
      split at hA
      ·rename_i hcond
       have hcc:∀ ev' ob',(∀ x∈o.op.operands.toList,ev' x=ev x)->(∀ y∈[(L,true)],ob' y.1=ob y.1)->act P Γ o ev' ob'=A:=λ ev' ob' he hob=>by
        rw[hc1 ev' ob' he]
        have:=hob (L,true) (by simp);simp only at this
        simp only[hu,hex,this,hL,hE,hck,hez,hl,if_pos hcond]
        exact hA
       subst hA
       refine⟨λ x hx=>?_,.inl rfl,λ x hx M hM=>?_,λ d' hd' M hM=>?_,λ ev' ob' he hob=>hcc ev' ob' he hob⟩
       ·simp only[OpAct.u,dqi] at hx;subst hx;simp[OpAct.fp]
       ·simp only[OpAct.u,dqi] at hx;subst hx;simp[aoV] at hM
       ·simp only[OpAct.gives] at hd';subst hd';simp[dvV,d1V,clV] at hM
      ·exact dq9 hA hs
     ·exact dq9 hA hs
    ·exact dq9 hA hs
   ·exact dq9 hA hs
  ·rename_i kt vt L i hu hex
   split at hA
   ·rename_i q te bb kt' vt' q' n mk nn F hE hL
    split at hA
    ·rename_i c dv hck hez
     split at hA
     ·rename_i l hl
      split at hA
      ·rename_i hcond
       have hcc:∀ ev' ob',(∀ x∈o.op.operands.toList,ev' x=ev x)->(∀ y∈[(L,true)],ob' y.1=ob y.1)->act P Γ o ev' ob'=A:=λ ev' ob' he hob=>by
        rw[hc1 ev' ob' he]
        have:=hob (L,true) (by simp);simp only at this
        simp only[hu,hex,this,hL,hE,hck,hez,hl,if_pos hcond]
        exact hA
       subst hA
       refine⟨λ x hx=>?_,.inl rfl,λ x hx M hM=>?_,λ d' hd' M hM=>?_,λ ev' ob' he hob=>hcc ev' ob' he hob⟩
       ·simp only[OpAct.u,dqi] at hx;subst hx;simp[OpAct.fp]
       ·simp only[OpAct.u,dqi] at hx;subst hx;simp[aoV] at hM
       ·simp only[OpAct.gives] at hd';subst hd';simp[dvV,d1V,clV] at hM
      ·exact dq9 hA hs
     ·exact dq9 hA hs
    ·exact dq9 hA hs
   ·exact dq9 hA hs
  ·exact dq9 hA hs
 | false =>
 have hc:∀ ev' ob',(∀ x∈o.op.operands.toList,ev' x=ev x)->act P Γ o ev' ob'=A:=λ ev' ob' he=>by
  rw[<- hA,hc0 ev' ob' he,hc0 ev ob (λ _ _=>rfl),hmo]
 rw[hc0 ev ob (λ _ _=>rfl),hmo] at hA
 simp only[zhI] at hA
 split at hA
 ·split at hA
  ·subst hA
   exact ActOk.pchk (λ L hL=>by simp[dvV,d1V,clV] at hL) λ ev' ob' he _=>hc ev' ob' he
  ·exact dq9 hA hs
 ·exact dq9 hA hs

theorem zvs {t:TypeId}(hop:o.op=.makeMap t none) (hA:act P Γ o ev ob=A) (hs:A.safe):ActOk P Γ o ev ob A:=by
 cases hv:zJ8 Γ o.dst with
 | true =>
  simp only[act,hop,hv] at hA
  split at hA
  ·rename_i kt vt hu
   split at hA
   ·rename_i q hE
    exact zoW (ao:=.mo kt vt q 0 (λ _=>none)) (d:=λ t=>.cl (.mo t)) (λ L hL=>by simp[aoV] at hL) (λ t L hL=>by simpa [dvV,d1V,clV] using hL) (λ ev' ob' _=>by simp only[act,hop,hv,hu,hE]) hA hs
   ·exact dq9 hA hs
  ·exact dq9 hA hs
 | false =>
 have hc:∀ ev' ob',act P Γ o ev' ob'=A:=λ ev' ob'=>by rw[<- hA];simp only[act,hop,hv]
 simp only[act,hop,hv] at hA
 split at hA
 ·split at hA
  ·subst hA;exact ActOk.pchk (zc6 _) λ ev' ob' _ _=>hc ev' ob'
  ·exact dq9 hA hs
 ·exact dq9 hA hs

theorem zF3 {op:UnOp}{t:TypeId}{x:Operand}(hop:o.op=.unOp op t x) (hA:act P Γ o ev ob=A) (hs:A.safe):ActOk P Γ o ev ob A:=by
 have hx:x∈o.op.operands.toList:=by simp[hop,Op.operands]
 simp only[act,hop] at hA
 split at hA
 ·rename_i h; subst hA
  exact ActOk.pure (zc6 _) λ ev' ob' he _=>by simp only[act,hop,he x hx,h]
 ·rename_i h; subst hA
  exact ActOk.pure (zc6 _) λ ev' ob' he _=>by simp only[act,hop,he x hx,h]
 ·exact dq9 hA hs

theorem zqk {t:TypeId}{x:Operand}{f:Nat}(hop:o.op=.fieldAddr t x f) (hA:act P Γ o ev ob=A) (hs:A.safe):ActOk P Γ o ev ob A:=by
 have hx:x∈o.op.operands.toList:=by simp[hop,Op.operands]
 simp only[act,hop] at hA
 split at hA
 ·rename_i off hf
  split at hA
  ·rename_i h; subst hA
   exact ActOk.pure (zeo hx λ L hL=>by rw[h];exact hL) λ ev' ob' he _=>by simp only[act,hop,he x hx,h,hf]
  ·rename_i h; subst hA
   exact ActOk.pure (zeo hx λ L hL=>by rw[h];exact hL) λ ev' ob' he _=>by simp only[act,hop,he x hx,h,hf]
  ·rename_i h; subst hA
   exact ActOk.pure (zeo hx λ L hL=>by rw[h];exact hL) λ ev' ob' he _=>by simp only[act,hop,he x hx,h,hf]
  ·rename_i h; subst hA
   exact ActOk.pure (zeo hx λ L hL=>by rw[h];exact hL) λ ev' ob' he _=>by simp only[act,hop,he x hx,h,hf]
  ·rename_i h; subst hA
   exact ActOk.pure (zeo hx λ L hL=>by rw[h];exact hL) λ ev' ob' he _=>by simp only[act,hop,he x hx,h,hf]
  ·rename_i h; subst hA
   exact ActOk.pure (zeo hx λ L hL=>by rw[h];exact hL) λ ev' ob' he _=>by simp only[act,hop,he x hx,h,hf]
  ·rename_i h; subst hA
   exact ActOk.pure (zeo hx λ L hL=>by rw[h];exact hL) λ ev' ob' he _=>by simp only[act,hop,he x hx,h,hf]
  ·exact dq9 hA hs
 ·exact dq9 hA hs

theorem zql {t:TypeId}{x y:Operand}(hop:o.op=.indexAddr t x y) (hA:act P Γ o ev ob=A) (hs:A.safe):ActOk P Γ o ev ob A:=by
 have hx:x∈o.op.operands.toList:=by simp[hop,Op.operands]
 have hy:y∈o.op.operands.toList:=by simp[hop,Op.operands]
 simp only[act,hop] at hA
 split at hA
 ·rename_i e hu
  split at hA
  ·rename_i n k j hn hj
   split at hA
   ·rename_i len s get hex
    split at hA
    ·rename_i hs'; subst hA
     exact ActOk.pchk (zc6 _) λ ev' ob' he _=>by simp only[act,hop,he x hx,he y hy,hex,hu,hn,hj,hs',if_true]
    ·exact dq9 hA hs
   ·rename_i L hex
    split at hA
    ·rename_i e' s b len get hL
     split at hA
     ·rename_i hs'; subst hA
      refine ActOk.pchk (λ M hM=>.inl (.inl ⟨x,hx,?_⟩)) λ ev' ob' he hob=>?_
      ·rw[hex];exact hM
      have e:=hob (L,false) (by simp);simp only at e
      simp only[act,hop,he x hx,he y hy,hex,hu,hn,hj,e,hL,hs',if_true]
     ·exact dq9 hA hs
    ·rename_i s len get hL
     split at hA
     ·rename_i hs'; subst hA
      refine ActOk.pchk (zc6 _) λ ev' ob' he hob=>?_
      have e:=hob (L,false) (by simp);simp only at e
      simp only[act,hop,he x hx,he y hy,hex,hu,hn,hj,e,hL,hs',if_true]
     ·exact dq9 hA hs
    ·rename_i hL
     split at hA
     ·rename_i hs'; subst hA
      refine ActOk.pchk (λ M hM=>.inl (.inl ⟨x,hx,?_⟩)) λ ev' ob' he hob=>?_
      ·rw[hex];exact hM
      have e:=hob (L,false) (by simp);simp only at e
      simp only[act,hop,he x hx,he y hy,hex,hu,hn,hj,e,hL,hs',if_true]
     ·exact dq9 hA hs
    ·rename_i hL
     split at hA
     ·rename_i hs'; subst hA
      refine ActOk.pchk (λ M hM=>.inl (.inl ⟨x,hx,?_⟩)) λ ev' ob' he hob=>?_
      ·rw[hex];exact hM
      have e:=hob (L,false) (by simp);simp only at e
      simp only[act,hop,he x hx,he y hy,hex,hu,hn,hj,e,hL,hs',if_true]
     ·exact dq9 hA hs
    ·exact dq9 hA hs
   ·rename_i L i hex
    split at hA
    ·rename_i hL
     split at hA
     ·rename_i hs'; subst hA
      refine ActOk.pchk (λ M hM=>.inl (.inl ⟨x,hx,?_⟩)) λ ev' ob' he hob=>?_
      ·rw[hex];exact hM
      have e:=hob (L,false) (by simp);simp only at e
      simp only[act,hop,he x hx,he y hy,hex,hu,hn,hj,e,hL,hs',if_true]
     ·exact dq9 hA hs
    ·exact dq9 hA hs
   ·exact dq9 hA hs
  ·exact dq9 hA hs
 ·rename_i m e hu
  have hc:∀ ev' ob',(∀ x∈o.op.operands.toList,ev' x=ev x)->act P Γ o ev' ob'=A:=λ ev' ob' he=>by
   simp only[act,hop,hu,he x hx,he y hy];exact hA
  unfold zlF at hA
  split at hA
  ·split at hA
   ·split at hA
    ·subst hA;exact ActOk.pchk (λ L hL=>by simp[dvV,d1V,clV] at hL) λ ev' ob' he _=>hc ev' ob' he
    ·subst hA;exact ActOk.pchk (λ L hL=>by simp[dvV,d1V,clV] at hL) λ ev' ob' he _=>hc ev' ob' he
    ·rename_i h;subst hA;exact ActOk.pchk (λ M hM=>.inl (.inl ⟨x,hx,by rw[h];exact hM⟩)) λ ev' ob' he _=>hc ev' ob' he
    ·exact dq9 hA hs
   ·exact dq9 hA hs
  ·split at hA
   ·split at hA
    ·split at hA
     ·rename_i h;subst hA;exact ActOk.pure (zeo hx λ L hL=>by simp[dvV,d1V,clV] at hL) λ ev' ob' he _=>hc ev' ob' he
     ·rename_i h;subst hA;exact ActOk.pure (zc6 _) λ ev' ob' he _=>hc ev' ob' he
     ·exact dq9 hA hs
    ·exact dq9 hA hs
   ·exact dq9 hA hs
 ·exact dq9 hA hs

theorem zvt {x:Operand}{k:Nat}(hop:o.op=.extract x k) (hA:act P Γ o ev ob=A) (hs:A.safe):ActOk P Γ o ev ob A:=by
 have hx:x∈o.op.operands.toList:=by simp[hop,Op.operands]
 simp only[act,hop] at hA
 split at hA
 ·rename_i ds h
  split at hA
  ·rename_i d hd; subst hA
   refine ActOk.pure (zeo hx λ L hL=>?_) λ ev' ob' he _=>by simp only[act,hop,he x hx,h,hd]
   rw[h];exact dqo.2 ⟨d,dqx hd,hL⟩
  ·exact dq9 hA hs
 ·exact dq9 hA hs

theorem ziu {c:Callee}{args:Array Operand}{ts:Array TypeId}(hop:o.op=.call { callee:=c,args,argTypes:=ts }):∀ x∈args.toList,x∈o.op.operands.toList:=by
 intro x hx
 simp only[hop,Op.operands]
 cases c <;> simp[Call.operands] <;> simp at hx <;> first | exact hx | exact .inr hx

theorem zKF {b:Builtin}{args:Array Operand}{ts:Array TypeId}(hb:b=.max\/b=.min) (hop:o.op=.call { callee:=.builtin b,args,argTypes:=ts }) (hA:act P Γ o ev ob=A) (hs:A.safe):ActOk P Γ o ev ob A:=by
 have hm:=ziu hop
 have hmap:∀ ev':Operand->DV,(∀ x∈o.op.operands.toList,ev' x=ev x)->args.toList.map ev'=args.toList.map ev:=λ ev' he=>List.map_congr_left λ x hx=>he x (hm x hx)
 rcases hb with rfl | rfl <;> simp only[act,hop] at hA <;> split at hA
 ·rename_i h;subst hA;exact ActOk.pure (zc6 _) λ ev' ob' he _=>by simp only[act,hop,hmap ev' he,h]
 ·exact dq9 hA hs
 ·rename_i h;subst hA;exact ActOk.pure (zc6 _) λ ev' ob' he _=>by simp only[act,hop,hmap ev' he,h]
 ·exact dq9 hA hs

theorem zKG {args:Array Operand}{ts:Array TypeId}(hop:o.op=.call { callee:=.builtin .len,args,argTypes:=ts }) (hA:act P Γ o ev ob=A) (hs:A.safe):ActOk P Γ o ev ob A:=by
 have hm:=ziu hop
 simp only[act,hop] at hA
 split at hA
 ·rename_i x t hargs ht
  have hx:x∈o.op.operands.toList:=hm x (by rw[hargs];simp)
  split at hA
  ·rename_i e hu
   split at hA
   ·rename_i h;subst hA;exact ActOk.pure (zc6 _) λ ev' ob' he _=>by simp only[act,hop,hargs,ht,hu,he x hx,h]
   ·rename_i h;subst hA;exact ActOk.pure (zc6 _) λ ev' ob' he _=>by simp only[act,hop,hargs,ht,hu,he x hx,h]
   ·rename_i L h
    split at hA
    ·rename_i hL; subst hA
     refine ActOk.pure (zc6 _) λ ev' ob' he hob=>?_
     have e:=hob (L,false) (by simp);simp only at e
     simp only[act,hop,hargs,ht,hu,he x hx,h,e,hL]
    ·rename_i hL; subst hA
     refine ActOk.pure (zc6 _) λ ev' ob' he hob=>?_
     have e:=hob (L,false) (by simp);simp only at e
     simp only[act,hop,hargs,ht,hu,he x hx,h,e,hL]
    ·rename_i hL; subst hA
     refine ActOk.pure (zc6 _) λ ev' ob' he hob=>?_
     have e:=hob (L,false) (by simp);simp only at e
     simp only[act,hop,hargs,ht,hu,he x hx,h,e,hL]
    ·rename_i hL; subst hA
     refine ActOk.pure (zc6 _) λ ev' ob' he hob=>?_
     have e:=hob (L,false) (by simp);simp only at e
     simp only[act,hop,hargs,ht,hu,he x hx,h,e,hL]
    ·exact dq9 hA hs
   ·rename_i L i h
    split at hA
    ·rename_i hL; subst hA
     refine ActOk.pchk (zc6 _) λ ev' ob' he hob=>?_
     have e:=hob (L,false) (by simp);simp only at e
     simp only[act,hop,hargs,ht,hu,he x hx,h,e,hL]
    ·exact dq9 hA hs
   ·exact dq9 hA hs
  ·rename_i kt vt hu
   split at hA
   ·rename_i L h
    split at hA
    ·rename_i hL; subst hA
     refine ActOk.pure (zc6 _) λ ev' ob' he hob=>?_
     have e:=hob (L,false) (by simp);simp only at e
     simp only[act,hop,hargs,ht,hu,he x hx,h,e,hL]
    ·exact dq9 hA hs
   ·rename_i h; subst hA
    exact ActOk.pure (zc6 _) λ ev' ob' he _=>by simp only[act,hop,hargs,ht,hu,he x hx,h]
   ·exact dq9 hA hs
  ·exact dq9 hA hs
 ·exact dq9 hA hs

theorem zvu {d:DV}{T:Nat}(h:zks d ob=some T):d=.one (.c (.vec T))/\∃ a1 a2 a3 a4 a5 a6 a7 a8,ob T=some (.vv a1 a2 a3 a4 a5 a6 a7 a8):=by
 unfold zks at h
 split at h
 ·split at h
  ·rename_i hT
   simp only[dqa] at h;subst h
   exact⟨rfl,_,_,_,_,_,_,_,_,hT⟩
  ·cases h
 ·cases h

def zlh (d:DV) (ob:Nat->Option AO):Option (Nat×Nat×(Nat->List PV)×List (Nat×Bool)) :=
 match d with
 | .one (.c (.p (.sl n sz get)))=>some (n,sz,get,[])
 | .one (.c (.vec M))=>match ob M with
  | some (.vec _ sz _ n get)=>some (n,sz,get,[(M,false)])
  | some (.fvec sz n get)=>some (n,sz,get,[(M,false)])
  | _=>none
 | _=>none
theorem zqm {d : DV} {ob' : Nat → Option AO} {m sz : Nat} {new : Nat → List PV} {fps : List (Nat × Bool)} (h : zlh d ob = some (m, sz, new, fps)) (hob : ∀ y ∈ fps, ob' y.1 = ob y.1) :
  zlh d ob'=some (m,sz,new,fps):=by
 unfold zlh at h ⊢
 split at h
 ·exact h
 ·rename_i M
  split at h
  ·rename_i hM
   have h':=h
   simp only[dqa,dqh] at h
   have e:=hob (M,false) (by rw[<- h.2.2.2];simp);simp only at e
   rw[e,hM];exact h'
  ·rename_i hM
   have h':=h
   simp only[dqa,dqh] at h
   have e:=hob (M,false) (by rw[<- h.2.2.2];simp);simp only at e
   rw[e,hM];exact h'
  ·cases h
 ·cases h

theorem zvv {d:DV}{ob':Nat->Option AO}{m sz:Nat}{new:Nat->List PV}{fps:List (Nat×Bool)}(h:zlh d ob=some (m,sz,new,fps)) (hob:∀ y∈fps,ob' y.1=ob y.1):zks d ob'=none:=by
 unfold zlh at h
 split at h
 ·rfl
 ·rename_i M
  split at h
  ·rename_i hM
   simp only[dqa,dqh] at h
   have e:=hob (M,false) (by rw[<- h.2.2.2];simp);simp only at e
   simp only[zks,e,hM]
  ·rename_i hM
   simp only[dqa,dqh] at h
   have e:=hob (M,false) (by rw[<- h.2.2.2];simp);simp only at e
   simp only[zks,e,hM]
  ·cases h
 ·cases h

theorem zrI {s x : Operand} {e : TypeId} {ie : TypeInfo} {T : Nat} (hsm : s ∈ o.op.operands.toList) (hx : x ∈ o.op.operands.toList) (hT0 : zks (ev x) ob = some T)
    (hc:∀ ev' ob',ev' x=ev x->zks (ev' x) ob'=some T->act P Γ o ev' ob'=zfm o e ie (ev' s) T ob') (hA:zfm o e ie (ev s) T ob=A) (hs:A.safe):ActOk P Γ o ev ob A:=by
  obtain⟨hxT,a1,a2,a3,a4,a5,a6,a7,a8,hTT⟩:=zvu hT0
  unfold zfm at hA
  split at hA
  · rename_i hT
    split at hA
    · rename_i L hes
      split at hA
      · rename_i hL
        split at hA
        · rename_i hif
          subst hA
          refine⟨λ z hz=>?_,.inr ⟨L,rfl,by simp[OpAct.fp]⟩,λ z hz M hM=>?_,λ d' hd' M hM=>?_,λ ev' ob' he hob=>?_⟩
          · simp only [OpAct.u, dqq, List.not_mem_nil, or_false] at hz
            rcases hz with rfl | rfl <;> simp[OpAct.fp]
          · simp only [OpAct.u, dqq, List.not_mem_nil, or_false] at hz
            rcases hz with rfl | rfl <;> simp[aoV] at hM
          · simp only [OpAct.gives] at hd'; subst hd'
            simp only[dvV,d1V,clV,dqi] at hM;subst hM
            exact .inr (by simp[OpAct.fp])
          · have e1 := hob (L, true) (by simp [OpAct.fp])
            have e2:=hob (T,true) (by simp[OpAct.fp])
            simp only at e1 e2
            rw[hc ev' ob' (he x hx) (by rw[he x hx,hxT];simp only[zks,e2,hTT])]
            simp only[zfm,he s hsm,hes,e1,e2,hL,hT]
            rw[if_pos hif]
        · exact dq9 hA hs
      · exact dq9 hA hs
    · exact dq9 hA hs
  · exact dq9 hA hs

theorem zKH {args:Array Operand}{ts:Array TypeId}(hop:o.op=.call { callee:=.builtin .delete,args,argTypes:=ts }) (hA:act P Γ o ev ob=A) (hs:A.safe):ActOk P Γ o ev ob A:=by
 have hm:=ziu hop
 have hmap:∀ ev':Operand->DV,(∀ x∈o.op.operands.toList,ev' x=ev x)->args.toList.map ev'=args.toList.map ev:=λ ev' he=>List.map_congr_left λ x hx=>he x (hm x hx)
 have hc1:∀ ev' ob',(∀ x∈o.op.operands.toList,ev' x=ev x)->act P Γ o ev' ob'=zpJ P (args.toList.map ev) ts.toList ob':=λ ev' ob' he=>by simp only[act,hop,hmap ev' he]
 rw[hc1 ev ob (λ _ _=>rfl)] at hA
 unfold zpJ at hA hc1
 split at hA
 ·rename_i L k t t' hargs hts
  split at hA
  ·rename_i kt vt hu
   split at hA
   ·rename_i q kt' vt' q' n F hE hL
    split at hA
    ·rename_i c hck
     split at hA
     ·rename_i hcond
      have hcc:∀ ev' ob',(∀ x∈o.op.operands.toList,ev' x=ev x)->(∀ y∈[(L,true)],ob' y.1=ob y.1)->act P Γ o ev' ob'=A:=λ ev' ob' he hob=>by
       rw[hc1 ev' ob' he]
       have:=hob (L,true) (by simp);simp only at this
       simp only[hargs,hts,hu,this,hL,hE,hck,if_pos hcond]
       exact hA
      subst hA
      refine⟨λ x hx=>?_,.inl rfl,λ x hx M hM=>?_,λ d' hd' M hM=>?_,λ ev' ob' he hob=>hcc ev' ob' he hob⟩
      ·simp only[OpAct.u,dqi] at hx;subst hx;simp[OpAct.fp]
      ·simp only[OpAct.u,dqi] at hx;subst hx;simp[aoV] at hM
      ·simp only[OpAct.gives] at hd';subst hd';simp[dvV] at hM
     ·exact dq9 hA hs
    ·exact dq9 hA hs
   ·exact dq9 hA hs
  ·exact dq9 hA hs
 ·exact dq9 hA hs

theorem zxb {args:Array Operand}{ts:Array TypeId}(hop:o.op=.call { callee:=.builtin .append,args,argTypes:=ts }) (hA:act P Γ o ev ob=A) (hs:A.safe):ActOk P Γ o ev ob A:=by
 have hm:=ziu hop
 have hA0:=hA
 simp only[act,hop] at hA
 split at hA
 ·rename_i s x t t' hargs ht
  have hsm:s∈o.op.operands.toList:=hm s (by rw[hargs];simp)
  have hx:x∈o.op.operands.toList:=hm x (by rw[hargs];simp)
  split at hA
  ·rename_i e dst hu htt hd
   split at hA
   ·rename_i ie z hie hz
    have hA2:(match zks (ev x) ob with
     | some T=>zfm o e ie (ev s) T ob
     | none=>match zlh (ev x) ob with
      | some (m,sz,new,fps)=>(match ev s with
       | .one (.c (.vec L))=>match ob L with
        | some (.vec e' s' b' n get)=>if e'=e/\s'=ie.size/\b'=ie.bytes/\sz=s'/\0 < s'/\zbf (ev x) ≠ [L] then
          .chk ((L,true) :: fps) ((n+m) * b'<=140737488355328/\n+m<=9223372036854775807) (.cl (.vec L)) [(L,.vec e s' b' (n+m) (appG n get new))] [L]
         else .no
        | _=>.no
       | .one (.c (.p .nils))=>match ob dst with
        | none=>if sz=ie.size/\0 < sz then
          .chk ((dst,true) :: fps) (m * ie.bytes<=140737488355328/\m<=9223372036854775807) (.cl (.vec dst)) [(dst,.vec e sz ie.bytes m new)] []
         else .no
        | some _=>.no
       | _=>.no)
      | none=>.no)=A:=hA
    clear hA
    have hcut:∀ (ev':Operand->DV) (ob':Nat->Option AO),act P Γ o ev' ob'=(match zks (ev' x) ob' with
     | some T=>zfm o e ie (ev' s) T ob'
     | none=>match zlh (ev' x) ob' with
      | some (m,sz,new,fps)=>(match ev' s with
       | .one (.c (.vec L))=>match ob' L with
        | some (.vec e' s' b' n get)=>if e'=e/\s'=ie.size/\b'=ie.bytes/\sz=s'/\0 < s'/\zbf (ev' x) ≠ [L] then
          .chk ((L,true) :: fps) ((n+m) * b'<=140737488355328/\n+m<=9223372036854775807) (.cl (.vec L)) [(L,.vec e s' b' (n+m) (appG n get new))] [L]
         else .no
        | _=>.no
       | .one (.c (.p .nils))=>match ob' dst with
        | none=>if sz=ie.size/\0 < sz then
          .chk ((dst,true) :: fps) (m * ie.bytes<=140737488355328/\m<=9223372036854775807) (.cl (.vec dst)) [(dst,.vec e sz ie.bytes m new)] []
         else .no
        | some _=>.no
       | _=>.no)
      | none=>.no):=by
     intro ev' ob'
     simp only[act,hop,hargs,ht,hu,htt,hd,hie,hz]
     rfl
    split at hA2
    ·rename_i T hT
     exact zrI hsm hx hT (λ ev' ob' he hT'=>by rw[hcut,hT']) hA2 hs
    rename_i hVn
    have hA:=hA2
    split at hA
    ·rename_i m sz new fps hsrc
     have hvn':∀ (ev':Operand->DV) (ob':Nat->Option AO),(∀ x∈o.op.operands.toList,ev' x=ev x)->(∀ y∈fps,ob' y.1=ob y.1)->zks (ev' x) ob'=none:=by
      intro ev' ob' he hob
      rw[he x hx];exact zvv hsrc hob
     -- the source looks only at what fps names
     have src':∀ (ev':Operand->DV) (ob':Nat->Option AO),(∀ x∈o.op.operands.toList,ev' x=ev x)->(∀ y∈fps,ob' y.1=ob y.1) ->
       zlh (ev' x) ob'=some (m,sz,new,fps):=by
      intro ev' ob' he hob
      rw[he x hx]
      exact zqm hsrc hob
     split at hA
     ·rename_i L hes
      split at hA
      ·rename_i e' s' b' n' get' hL
       split at hA
       ·rename_i hif
        subst hA
        refine⟨λ z hz=>?_,.inr ⟨L,rfl,by simp[OpAct.fp]⟩,λ z hz M hM=>?_,λ d' hd' M hM=>?_,λ ev' ob' he hob=>?_⟩
        ·simp only[OpAct.u,dqi] at hz;subst hz;simp[OpAct.fp]
        ·simp only[OpAct.u,dqi] at hz;subst hz;simp[aoV] at hM
        ·simp only [OpAct.gives] at hd'; subst hd'
         simp only[dvV,d1V,clV,dqi] at hM;subst hM
         exact .inr (by simp[OpAct.fp])
        ·have e1 := src' ev' ob' he (fun y hy => hob y (dqf _ hy))
         have e2:=hob (L,true) (by simp[OpAct.fp]);simp only at e2
         rw[hcut,hvn' ev' ob' he (λ y hy=>hob y (dqf _ hy))]
         simp only[]
         rw[e1]
         simp only[he s hsm,he x hx,hes,e2,hL]
         rw[if_pos hif]
       ·exact dq9 hA hs
      ·exact dq9 hA hs
     ·rename_i hes
      split at hA
      ·rename_i hn
       split at hA
       ·rename_i hif
        subst hA
        refine⟨λ z hz=>?_,.inl rfl,λ z hz M hM=>?_,λ d' hd' M hM=>?_,λ ev' ob' he hob=>?_⟩
        ·simp only[OpAct.u,dqi] at hz;subst hz;simp[OpAct.fp]
        ·simp only[OpAct.u,dqi] at hz;subst hz;simp[aoV] at hM
        ·simp only [OpAct.gives] at hd'; subst hd'
         simp only[dvV,d1V,clV,dqi] at hM;subst hM
         exact .inr (by simp[OpAct.fp])
        ·have e1 := src' ev' ob' he (fun y hy => hob y (dqf _ hy))
         have e2:=hob (dst,true) (by simp[OpAct.fp]);simp only at e2
         rw[hcut,hvn' ev' ob' he (λ y hy=>hob y (dqf _ hy))]
         simp only[]
         rw[e1]
         simp only[he s hsm,hes,e2,hn]
         rw[if_pos hif]
       ·exact dq9 hA hs
      ·exact dq9 hA hs
     ·exact dq9 hA hs
    ·exact dq9 hA hs
   ·exact dq9 hA hs
  ·exact dq9 hA hs
 ·exact dq9 hA hs

theorem zKI (x:PA):d1V (paD x)=[]:=by
 cases x with
 | one p=>rfl
 | agg cs=>exact zt3 cs
theorem zj0 (rs:List PA):dvV (resD rs)=[]:=by
 have tup:∀ l:List PA,dvV (.tup (l.map paD))=[]:=by
  intro l
  induction l with
  | nil=>rfl
  | cons x l ih=>simp only[dqK,dvV,dqJ,zKI,List.nil_append] at ih ⊢;exact ih
 match rs with
 | []=>exact tup _
 | [x]=>exact zKI x
 | x :: y :: l=>exact tup _

theorem zKJ {k : OwnK} {args : Array Operand} {c : Callee} {ts : Array TypeId} (hop : o.op = .call { callee := c, args, argTypes := ts })
    (hc:∀ ev' ob',(∀ x∈o.op.operands.toList,ev' x=ev x)->act P Γ o ev' ob'=zfE P Γ o k (args.toList.map ev') ob') (hA:zfE P Γ o k (args.toList.map ev) ob=A) (hs:A.safe):ActOk P Γ o ev ob A:=by
  have hm:=ziu hop
  have hmap:∀ ev':Operand->DV,(∀ x∈o.op.operands.toList,ev' x=ev x)->args.toList.map ev'=args.toList.map ev:=λ ev' he=>List.map_congr_left λ x hx=>he x (hm x hx)
  unfold zfE at hA
  split at hA
  · exact dq9 hA hs
  · split at hA
    · rename_i L hf caps hargs
      split at hA
      · rename_i hL hag
        split at hA
        · rename_i hif
          subst hA
          refine⟨λ z hz=>?_,.inl rfl,λ z hz M hM=>?_,λ d' hd' M hM=>?_,λ ev' ob' he hob=>?_⟩
          · simp only[OpAct.u,dqi] at hz;subst hz;simp[OpAct.fp]
          · simp only[OpAct.u,dqi] at hz;subst hz;simp[aoV] at hM
          · simp only[OpAct.gives] at hd';subst hd';simp[dvV] at hM
          · have e2 := hob (L, true) (by simp [OpAct.fp]); simp only at e2
            rw[hc ev' ob' he,hmap ev' he]
            simp only[zfE,hargs,e2,hL,hag]
            rw[if_pos hif]
        · exact dq9 hA hs
      · exact dq9 hA hs
    · exact dq9 hA hs
  · split at hA
    · rename_i dst hargs hd
      split at hA
      · rename_i hn hi hz
        split at hA
        · rename_i hif
          subst hA
          refine⟨λ z hz=>?_,.inl rfl,λ z hz M hM=>?_,λ d' hd' M hM=>?_,λ ev' ob' he hob=>?_⟩
          · simp only[OpAct.u,dqi] at hz;subst hz;simp[OpAct.fp]
          · simp only[OpAct.u,dqi] at hz;subst hz;simp[aoV] at hM
          · simp only [OpAct.gives] at hd'; subst hd'
            simp only[dvV,d1V,clV,dqi] at hM;subst hM
            exact .inr (by simp[OpAct.fp])
          · have e2 := hob (dst, true) (by simp [OpAct.fp]); simp only at e2
            rw[hc ev' ob' he,hmap ev' he]
            simp only[zfE,hargs,hd,e2,hn,hi,hz]
            rw[if_pos hif]
        · exact dq9 hA hs
      · exact dq9 hA hs
    · exact dq9 hA hs
  · split at hA
    · rename_i L hargs
      split at hA
      · rename_i hL
        subst hA
        refine ActOk.pure (λ M hM=>?_) λ ev' ob' he hob=>?_
        · have hin : DV.one (.c (.mo L)) ∈ args.toList.map ev := by rw [hargs]; simp
          obtain⟨y,hy,e⟩:=dqz.1 hin
          exact .inl (.inl ⟨y,hm y hy,by rw[e];simpa [dvV,d1V,clV] using hM⟩)
        have e2:=hob (L,false) (by simp);simp only at e2
        rw[hc ev' ob' he,hmap ev' he]
        simp only[zfE,hargs,e2,hL]
      · exact dq9 hA hs
    · exact dq9 hA hs
  · split at hA
    · rename_i it' L hargs
      split at hA
      · rename_i hL
        split at hA
        · rename_i hif
          subst hA
          refine ActOk.pchk (λ M hM=>by simp[dvV,d1V,clV] at hM) λ ev' ob' he hob=>?_
          have e2:=hob (L,false) (by simp);simp only at e2
          rw[hc ev' ob' he,hmap ev' he]
          simp only[zfE,hargs,e2,hL]
          rw[if_pos hif]
        · exact dq9 hA hs
      · exact dq9 hA hs
    · exact dq9 hA hs
  · split at hA
    · rename_i L hargs
      split at hA
      · rename_i hL
        split at hA
        · rename_i hif
          split at hA
          · subst hA
            refine⟨λ z hz=>?_,.inr ⟨L,rfl,by simp[OpAct.fp]⟩,λ z hz M hM=>?_,λ d' hd' M hM=>?_,λ ev' ob' he hob=>?_⟩
            · simp only[OpAct.u,dqi] at hz;subst hz;simp[OpAct.fp]
            · simp only[OpAct.u,dqi] at hz;subst hz;simp[aoV] at hM
            · simp only [OpAct.gives] at hd'; subst hd'
              simp only[dvV,d1V,clV,dqi] at hM;subst hM
              exact .inr (by simp[OpAct.fp])
            · have e2 := hob (L, true) (by simp [OpAct.fp]); simp only at e2
              rw[hc ev' ob' he,hmap ev' he]
              simp only[zfE,hargs,e2,hL]
              rw[if_pos hif]
          · subst hA
            refine⟨λ z hz=>?_,.inl rfl,λ z hz M hM=>?_,λ d' hd' M hM=>?_,λ ev' ob' he hob=>?_⟩
            · simp only[OpAct.u,dqi] at hz;subst hz;simp[OpAct.fp]
            · simp only[OpAct.u,dqi] at hz;subst hz;simp[aoV] at hM
            · simp only[OpAct.gives] at hd';subst hd';simp[dvV] at hM
            · have e2 := hob (L, true) (by simp [OpAct.fp]); simp only at e2
              rw[hc ev' ob' he,hmap ev' he]
              simp only[zfE,hargs,e2,hL]
              rw[if_pos hif]
        · exact dq9 hA hs
      · exact dq9 hA hs
    · exact dq9 hA hs
  · split at hA
    · rename_i az dst has hd
      split at hA
      · rename_i s b cells e hF hfresh
        subst hA
        refine⟨λ z hz=>?_,.inl rfl,λ z hz M hM=>?_,λ d' hd' M hM=>?_,λ ev' ob' he hob=>?_⟩
        · simp only[OpAct.u,dqi] at hz;subst hz;simp[OpAct.fp]
        · simp only [OpAct.u, dqi] at hz; subst hz
          simp only[aoV,dqo,dqz] at hM
          obtain⟨c,⟨v,_,rfl⟩,hM⟩:=hM
          simp[clV] at hM
        · rcases hd' with rfl | rfl <;> simp[dvV,d1V,clV] at hM
        · have e2 := hob (dst, true) (by simp [OpAct.fp]); simp only at e2
          rw[hc ev' ob' he,hmap ev' he]
          simp only[zfE,has,hd,e2,hF,hfresh]
      · exact dq9 hA hs
    · exact dq9 hA hs
  · split at hA
    · rename_i az u dst has hd
      split at hA
      · rename_i p n get rs ie z hF hfresh hi hz
        split at hA
        · rename_i hif
          subst hA
          refine⟨λ z hz=>?_,.inl rfl,λ z hz M hM=>?_,λ d' hd' M hM=>?_,λ ev' ob' he hob=>?_⟩
          · simp only[OpAct.u,dqi] at hz;subst hz;simp[OpAct.fp]
          · simp only[OpAct.u,dqi] at hz;subst hz;simp[aoV] at hM
          · simp only [OpAct.gives] at hd'; subst hd'
            cases rs with
            | nil =>
              simp only[dvV,d1V,clV,dqi] at hM;subst hM
              exact .inr (by simp[OpAct.fp])
            | cons x l =>
              have hM2:M=dst:=by
                simp only[dvV,dqJ,dqg,d1V,clV,dqi,dqo,dqz] at hM
                rcases hM with hM | ⟨d1,⟨v,_,rfl⟩,hM⟩
                · exact hM
                · simp[d1V,clV] at hM
              subst hM2
              exact .inr (by simp[OpAct.fp])
          · have hl : ∀ L ∈ (args.toList.map ev).flatMap (za9 ob), ob' L = ob L := fun L hL => hob (L, false) (dqf _ (dqz.2 ⟨L, hL, rfl⟩))
            have e2:=hob (dst,true) (by simp[OpAct.fp]);simp only at e2
            have e3:zfC ob' (args.toList.map ev)=some (az,u):=(zg0 hl).trans has
            have e4:(args.toList.map ev).flatMap (za9 ob')=(args.toList.map ev).flatMap (za9 ob):=fmc λ d hd=>zep λ L hL=>hl L (dqo.2 ⟨d,hd,hL⟩)
            rw[hc ev' ob' he,hmap ev' he]
            simp only[zfE,hd,e2,hF,hfresh,hi,hz,e3,e4]
            rw[if_pos hif]
        · exact dq9 hA hs
      · exact dq9 hA hs
    · exact dq9 hA hs
  · split at hA
    · rename_i L hf caps hargs
      split at hA
      · rename_i hL
        split at hA
        · rename_i hif
          subst hA
          refine⟨λ z hz=>?_,.inr ⟨L,rfl,by simp[OpAct.fp]⟩,λ z hz M hM=>?_,λ d' hd' M hM=>?_,λ ev' ob' he hob=>?_⟩
          · simp only[OpAct.u,dqi] at hz;subst hz;simp[OpAct.fp]
          · simp only[OpAct.u,dqi] at hz;subst hz;simp[aoV] at hM
          · simp only [OpAct.gives] at hd'; subst hd'
            simp only[dvV,d1V,clV,dqi] at hM;subst hM
            exact .inr (by simp[OpAct.fp])
          · have e2 := hob (L, true) (by simp [OpAct.fp]); simp only at e2
            rw[hc ev' ob' he,hmap ev' he]
            simp only[zfE,hargs,e2,hL]
            rw[if_pos hif]
        · exact dq9 hA hs
      · exact dq9 hA hs
    · exact dq9 hA hs

theorem zoY {ob:Nat->Option AO} : ∀ {cells l:List Cl}{ys cs:List XC}{u:List (Nat×AO)}{ms:List Nat},zhr cells ys=some (l,u)->zeD ob cells=some (cs,ms) ->
  u.map (·.1)=ms/\(∀ x∈u,aoV x.2=[])/\∀ L∈l.flatMap clV,L∈cells.flatMap clV
 | [],l,[],cs,u,ms,h,h2=>by
  simp only[zhr,dqa,dqh] at h;obtain⟨rfl,rfl⟩:=h
  simp only[zeD,dqa,dqh] at h2;rw[<- h2.2]
  exact⟨rfl,λ x hx=>by simp at hx,λ L hL=>hL⟩
 | [],l,_ :: _,cs,u,ms,h,h2=>by simp[zhr] at h
 | c :: cells,l,[],cs,u,ms,h,h2=>by simp[zhr] at h
 | c :: cells,l,y :: ys,cs,u,ms,h,h2=>by
  unfold zhr at h
  split at h
  ·rename_i e;simp at e
  ·rename_i e1 e2
   simp only[dqy] at e1 e2
   obtain⟨rfl,rfl⟩:=e1;obtain⟨rfl,rfl⟩:=e2
   split at h
   ·rename_i hp
    simp only[dqa,dqh] at h;obtain⟨rfl,rfl⟩:=h
    simp only[zeD] at h2
    split at h2
    ·rename_i hc
     simp only[dqa,dqh] at h2;rw[<- h2.2]
     obtain⟨i1,i2,i3⟩:=zoY hp hc
     exact⟨i1,i2,λ L hL=>by simp only[dqJ,clV,List.nil_append] at hL ⊢;exact i3 L hL⟩
    ·cases h2
   ·cases h
  ·rename_i e1 e2
   simp only[dqy] at e1 e2
   obtain⟨rfl,rfl⟩:=e1;obtain⟨rfl,rfl⟩:=e2
   split at h
   ·rename_i hp
    simp only[dqa,dqh] at h;obtain⟨rfl,rfl⟩:=h
    simp only[zeD] at h2
    split at h2
    ·rename_i hc
     split at h2
     ·simp only [dqa, dqh] at h2; rw [← h2.2]
      obtain⟨i1,i2,i3⟩:=zoY hp hc
      refine⟨by simp[i1],λ x hx=>?_,λ L hL=>?_⟩
      ·rcases dqq.1 hx with e | hx
       ·subst e;rfl
       ·exact i2 x hx
      ·simp only [dqJ, dqg] at hL ⊢
       exact hL.imp_right (i3 L)
     ·cases h2
    ·cases h2
   ·cases h
  ·rename_i e1 e2
   simp only[dqy] at e1 e2
   obtain⟨rfl,rfl⟩:=e1;obtain⟨rfl,rfl⟩:=e2
   split at h
   ·rename_i hp
    simp only[dqa,dqh] at h;obtain⟨rfl,rfl⟩:=h
    simp only[zeD] at h2
    split at h2
    ·rename_i hc
     split at h2
     ·simp only [dqa, dqh] at h2; rw [← h2.2]
      obtain⟨i1,i2,i3⟩:=zoY hp hc
      refine⟨by simp[i1],λ x hx=>?_,λ L hL=>?_⟩
      ·rcases dqq.1 hx with e | hx
       ·subst e;rfl
       ·exact i2 x hx
      ·simp only [dqJ, dqg] at hL ⊢
       exact hL.imp_right (i3 L)
     ·cases h2
    ·cases h2
   ·cases h
  ·cases h
theorem zKK {ob : Nat → Option AO} {d : DV} {x y : XA} {u : List (Nat × AO)} {ls ms : List Nat} (h : zvY ob d y = some u) (h2 : zq3 ob d = some (x, ls, ms)) :
  u.map (·.1)=ls/\∀ x∈u,∀ L∈aoV x.2,∃ o',ob x.1=some o'/\L∈aoV o':=by
 have data:znk ob d=some (x,ls,ms)->ls=[]:=by
  intro h
  unfold znk at h
  split at h
  ·simp only[dqa,dqh] at h;exact h.2.1.symm
  ·cases h
 unfold zvY at h
 split at h
 ·rename_i L
  split at h
  ·rename_i ty' cells hL
   rw[zf8,hL] at h2
   dsimp only at h2
   split at h2
   ·rename_i cs ms' hc
    simp only[dqa,dqh] at h2;obtain⟨rfl,rfl,rfl⟩:=h2
    split at h
    ·split at h
     ·rename_i l u' hty hp
      simp only[dqa] at h;subst h
      obtain⟨i1,i2,i3⟩:=zoY hp hc
      refine⟨by simp[i1],λ x hx K hK=>?_⟩
      rcases dqq.1 hx with e | hx
      ·subst e;exact⟨_,hL,i3 K hK⟩
      ·rw[i2 x hx] at hK;simp at hK
     ·cases h
    ·cases h
   ·cases h2
  ·rename_i hno
   have hx:znk ob (.one (.c (.ptr L 0)))=some (x,ls,ms):=by
    rw[zf8] at h2
    cases hL:ob L with
    | none=>rw[hL] at h2;exact h2
    | some o =>
     rw[hL] at h2
     cases o with
     | box ty cells=>exact absurd hL (hno _ _)
     | _=>exact h2
   rw[data hx]
   split at h
   ·simp only[dqa] at h;subst h;exact⟨rfl,λ x hx=>by simp at hx⟩
   ·cases h
 ·rename_i hno
  have hx:znk ob d=some (x,ls,ms):=by
   unfold zq3 at h2
   split at h2
   ·exact (hno _ rfl).elim
   ·exact h2
  rw[data hx]
  split at h
  ·simp only[dqa] at h;subst h;exact⟨rfl,λ x hx=>by simp at hx⟩
  ·cases h
theorem zxc {ob:Nat->Option AO} : ∀ {ds:List DV}{xs ys:List XA}{u:List (Nat×AO)}{ls ms:List Nat},zhs ob ds ys=some u->zgn ob ds=some (xs,ls,ms) ->
  u.map (·.1)=ls/\∀ x∈u,∀ L∈aoV x.2,∃ o',ob x.1=some o'/\L∈aoV o'
 | [],xs,[],u,ls,ms,h,h2=>by
  simp only[zhs,dqa] at h;subst h
  simp only[zgn,dqa,dqh] at h2;rw[<- h2.2.1]
  exact⟨rfl,λ x hx=>by simp at hx⟩
 | [],_,_ :: _,_,_,_,h,_=>by simp[zhs] at h
 | _ :: _,_,[],_,_,_,h,_=>by simp[zhs] at h
 | d :: ds,xs,y :: ys,u,ls,ms,h,h2=>by
  simp only[zhs] at h
  split at h
  ·rename_i u1 u2 e1 e2
   simp only[dqa] at h;subst h
   simp only[zgn] at h2
   split at h2
   ·rename_i x bl m1 xs' bls m2 h3 h4
    simp only[dqa,dqh] at h2;rw[<- h2.2.1]
    obtain⟨i1,i2⟩:=zxc e2 h4
    obtain⟨j1,j2⟩:=zKK e1 h3
    exact⟨by simp[i1,j1],λ x hx=>(dqg.1 hx).elim (j2 x) (i2 x)⟩
   ·cases h2
  ·cases h
theorem zmx {ob ob' : Nat → Option AO} : ∀ {cells : List Cl}, (∀ L ∈ cells.flatMap zaE, ob' L = ob L) → zeD ob' cells = zeD ob cells
  | [],_=>rfl
  | c :: cells,h=>by
    have ih:zeD ob' cells=zeD ob cells:=zmx λ L hL=>h L (by simp only[dqJ,dqg];exact .inr hL)
    cases c with
    | vec M=>simp only[zeD,ih,h M (by simp[zaE])]
    | mo M=>simp only[zeD,ih,h M (by simp[zaE])]
    | _=>simp only[zeD,ih]
theorem zxd {ob ob':Nat->Option AO}{d:DV}(h:∀ L∈za9 ob d,ob' L=ob L):zq3 ob' d=zq3 ob d/\∀ y,zvY ob' d y=zvY ob d y:=by
 have hx:znk ob' d=znk ob d:=by simp only[znk,znS h]
 by_cases hd:∃ L,d=.one (.c (.ptr L 0))
 ·obtain ⟨L, rfl⟩ := hd
  have hL:ob' L=ob L:=h L (dqo.2 ⟨L,by simp[zbf,zbN,zaE],dqj⟩)
  refine⟨?_,λ y=>by simp only[zvY,hL]⟩
  rw[zf8,zf8,hL,hx]
  cases ho:ob L with
  | none=>rfl
  | some o =>
   cases o with
   | box ty cells =>
    have:zeD ob' cells=zeD ob cells:=zmx λ M hM=>h M (dqo.2 ⟨L,by simp[zbf,zbN,zaE],dqf _ (by rw[ho];exact hM)⟩)
    simp only[this]
   | _=>rfl
 ·refine ⟨?_, fun y => ?_⟩
  ·unfold zq3
   split
   ·exact (hd ⟨_,rfl⟩).elim
   ·exact hx
  ·unfold zvY
   split
   ·exact (hd ⟨_,rfl⟩).elim
   ·rfl
theorem znU {ob ob' : Nat → Option AO} : ∀ {ds : List DV}, (∀ L ∈ ds.flatMap (za9 ob), ob' L = ob L) → zgn ob' ds = zgn ob ds ∧ ∀ ys, zhs ob' ds ys = zhs ob ds ys
  | [],_=>⟨rfl,λ ys=>by cases ys <;> rfl⟩
  | d :: ds,h=>by
    obtain⟨i1,i2⟩:=znU (ds:=ds) (ob':=ob') λ L hL=>h L (by simp only[dqJ,dqg];exact .inr hL)
    obtain⟨j1,j2⟩:=zxd (ob':=ob') (d:=d) λ L hL=>h L (by simp only[dqJ,dqg];exact .inl hL)
    refine⟨by simp only[zgn,i1,j1],λ ys=>?_⟩
    cases ys with
    | nil=>rfl
    | cons y ys=>simp only[zhs,i2,j2]
theorem zEr {C:MK}{ds:List DV}(hk:∀ ev' ob',(∀ x∈o.op.operands.toList,ev' x=ev x)->act P Γ o ev' ob'=zla C ds ob') (hA:zla C ds ob=A) (hs:A.safe):ActOk P Γ o ev ob A:=by
 unfold zla at hA
 split at hA
 ·rename_i xs ls ms has
  split at hA
  ·rename_i s rs ys hCx
   split at hA
   ·rename_i u hput hcond
    subst hA
    have hcond':=hcond
    simp only[dqm,Nat.ble_eq] at hcond
    obtain⟨h1,h2⟩:=zxc hput has
    have hw:∀ L∈ls,(L,true)∈wr ls ++ rd (ds.flatMap (za9 ob)):=λ L hL=>dqg.2 (.inl (zqi hL))
    have hul:∀ x∈u,x.1∈ls:=λ x hx=>by rw[<- h1];exact dqz.2 ⟨x,hx,rfl⟩
    refine⟨λ x hx=>hw _ (hul x hx),?_,λ x hx L hL=>?_,λ d hd L hL=>(by simp only[OpAct.gives] at hd;subst hd;rw[zj0] at hL;simp at hL),λ ev' ob' he hob=>?_⟩
    ·match ms,hcond.2,has with
     | [],_,_=>exact .inl rfl
     | [x],_,has=>exact .inr ⟨x,rfl,hw x (zmi has x (by simp))⟩
     | _ :: _ :: _,h,_=>simp at h
    ·obtain ⟨o', ho, hL⟩ := h2 x hx L hL
     exact .inr ⟨(x.1,true),hw _ (hul x hx),o',ho,hL⟩
    ·have hl : ∀ L ∈ ds.flatMap (za9 ob), ob' L = ob L := fun L hL => hob (L, false) (dqg.2 (.inr (dqz.2 ⟨L, hL, rfl⟩)))
     have e1:=znU hl
     have e2:ds.flatMap (za9 ob')=ds.flatMap (za9 ob):=fmc λ d hd=>zep λ L hL=>hl L (dqo.2 ⟨d,hd,hL⟩)
     rw[hk ev' ob' he]
     simp only[zla,e1.1,has,hCx,e1.2,hput,hcond',e2]
   ·exact dq9 hA hs
  ·exact dq9 hA hs
 ·exact dq9 hA hs
theorem zmy {ev' : Operand → DV} : ∀ {l : List Operand}, (∀ x ∈ l, ev' x = ev x) → zot ev' l = zot ev l
  | [],_=>rfl
  | x :: l,h=>by simp only[zot,h x dqj,zmy λ y hy=>h y (dqf _ hy)]

theorem zxe {C : COut} {args : Array Operand} {c : Callee} {ts : Array TypeId} {az : List PA} {u : Upd} (hop : o.op = .call { callee := c, args, argTypes := ts })
    (has:zfC ob (args.toList.map ev)=some (az,u))
    (key:∀ (ev':Operand->DV) (ob':Nat->Option AO),(∀ x∈o.op.operands.toList,ev' x=ev x)->(∀ L∈args.toList.flatMap λ x=>za9 ob (ev x),ob' L=ob L) ->
      act P Γ o ev' ob'=C.act (args.toList.flatMap λ x=>za9 ob (ev x)) u) (hA:C.act (args.toList.flatMap λ x=>za9 ob (ev x)) u=A) (hs:A.safe):ActOk P Γ o ev ob A:=by
  have hwrT:∀ L,L∈(args.toList.flatMap λ x=>za9 ob (ev x))->(L,true)∈wr (args.toList.flatMap λ x=>za9 ob (ev x)):=λ L hL=>dqz.2 ⟨L,hL,rfl⟩
  have hrdF:∀ L,L∈(args.toList.flatMap λ x=>za9 ob (ev x))->(L,false)∈rd (args.toList.flatMap λ x=>za9 ob (ev x)):=λ L hL=>dqz.2 ⟨L,hL,rfl⟩
  have hk:∀ x∈u,(x.1,true)∈wr (args.toList.flatMap λ x=>za9 ob (ev x))/\aoV x.2=[]:=λ x hx=>by
    obtain⟨h1,h2⟩:=zkD has x hx
    refine⟨hwrT _ ?_,h2⟩
    rw[List.flatMap_map] at h1;exact h1
  generalize (args.toList.flatMap λ x=>za9 ob (ev x))=labs at hA key hk hwrT hrdF
  cases C with
  | no=>exact dq9 hA hs
  | tot r =>
    cases hsc:ziy r with
    | true =>
      rw[zq6 hsc] at hA;simp only[zq6 hsc] at key;subst hA
      exact⟨λ x hx=>by simp[OpAct.u] at hx,.inl rfl,λ x hx=>by simp[OpAct.u] at hx,λ d hd L hL=>(by cases hd;rw[zj0] at hL;simp at hL),λ ev' ob' he hob=>key ev' ob' he λ L hL=>hob (L,false) (hrdF L hL)⟩
    | false =>
      cases hl:zjJ u r with
      | true =>
        rw[zon hsc hl] at hA;simp only[zon hsc hl] at key;subst hA
        exact⟨λ x hx=>by simp[OpAct.u] at hx,.inl rfl,λ x hx=>by simp[OpAct.u] at hx,λ d hd L hL=>(by cases hd;rw[zj0] at hL;simp at hL),λ ev' ob' he hob=>key ev' ob' he λ L hL=>hob (L,false) (hrdF L hL)⟩
      | false =>
        rw[zq7 hsc hl] at hA;simp only[zq7 hsc hl] at key;subst hA
        exact⟨λ x hx=>(hk x hx).1,.inl rfl,λ x hx L hL=>(by rw[(hk x hx).2] at hL;simp at hL),λ d hd L hL=>(by simp only[OpAct.gives] at hd;subst hd;rw[zj0] at hL;simp at hL),λ ev' ob' he hob=>key ev' ob' he λ L hL=>hob (L,true) (hwrT L hL)⟩
  | det s r =>
    cases hsc:ziy r with
    | true =>
      rw[zoo hsc] at hA;simp only[zoo hsc] at key;subst hA
      exact⟨λ x hx=>by simp[OpAct.u] at hx,.inl rfl,λ x hx=>by simp[OpAct.u] at hx,λ d hd L hL=>(by cases hd;rw[zj0] at hL;simp at hL),λ ev' ob' he hob=>key ev' ob' he λ L hL=>hob (L,false) (hrdF L hL)⟩
    | false =>
      cases hl:zjJ u r with
      | true =>
        rw[zl1 hsc hl] at hA;simp only[zl1 hsc hl] at key;subst hA
        exact⟨λ x hx=>by simp[OpAct.u] at hx,.inl rfl,λ x hx=>by simp[OpAct.u] at hx,λ d hd L hL=>(by cases hd;rw[zj0] at hL;simp at hL),λ ev' ob' he hob=>key ev' ob' he λ L hL=>hob (L,false) (hrdF L hL)⟩
      | false =>
        rw[zop hsc hl] at hA;simp only[zop hsc hl] at key;subst hA
        exact⟨λ x hx=>(hk x hx).1,.inl rfl,λ x hx L hL=>(by rw[(hk x hx).2] at hL;simp at hL),λ d hd L hL=>(by simp only[OpAct.gives] at hd;subst hd;rw[zj0] at hL;simp at hL),λ ev' ob' he hob=>key ev' ob' he λ L hL=>hob (L,true) (hwrT L hL)⟩
  | rel ρ s post r =>
    subst hA
    exact⟨λ x hx=>(hk x hx).1,.inl rfl,λ x hx L hL=>(by rw[(hk x hx).2] at hL;simp at hL),λ d hd L hL=>(by simp only[COut.act,OpAct.gives] at hd;obtain⟨x,rfl⟩:=hd;rw[zj0] at hL;simp at hL),λ ev' ob' he hob=>key ev' ob' he λ L hL=>hob (L,true) (hwrT L hL)⟩
  | alt b s1 r1 s2 r2 =>
    subst hA
    exact⟨λ x hx=>(hk x hx).1,.inl rfl,λ x hx L hL=>(by rw[(hk x hx).2] at hL;simp at hL),λ d hd L hL=>(by simp only[COut.act,OpAct.gives] at hd;rcases hd with rfl | rfl <;> (rw[zj0] at hL;simp at hL)),λ ev' ob' he hob=>key ev' ob' he λ L hL=>hob (L,true) (hwrT L hL)⟩
theorem zF4 {f:Operand}{args:Array Operand}{ts:Array TypeId}(hop:o.op=.call { callee:=.value f,args,argTypes:=ts }) (hA:act P Γ o ev ob=A) (hs:A.safe):ActOk P Γ o ev ob A:=by
 have hm:=ziu hop
 have hf:f∈o.op.operands.toList:=by simp[hop,Op.operands,Call.operands]
 simp only[act,hop] at hA
 have e0:∀ ev':Operand->DV,(∀ x∈o.op.operands.toList,ev' x=ev x)->args.toList.map ev'=args.toList.map ev:=λ ev' he=>List.map_congr_left λ x hx=>he x (hm x hx)
 split at hA
 ·rename_i gf caps hef
  split at hA
  ·rename_i C hC
   exact zEr (λ ev' ob' he=>by simp only[act,hop,he f hf,hef,hC,e0 ev' he]) hA hs
  ·exact dq9 hA hs
 ·rename_i gf first caps hef
  split at hA
  ·rename_i C hC
   exact zEr (λ ev' ob' he=>by simp only[act,hop,he f hf,hef,hC,e0 ev' he]) hA hs
  rename_i hC
  split at hA
  ·rename_i hk
   split at hA
   ·exact zKJ (k:=Γ.own gf) hop (λ ev' ob' he=>by simp only[act,hop,he f hf,hef,hC,hk]) hA hs
   ·exact dq9 hA hs
  rename_i hko
  split at hA
  ·rename_i az u has
   have key:∀ (ev':Operand->DV) (ob':Nat->Option AO),(∀ x∈o.op.operands.toList,ev' x=ev x)->(∀ L∈args.toList.flatMap λ x=>za9 ob (ev x),ob' L=ob L) ->
     act P Γ o ev' ob'=(Γ gf (first.map .one ++ az ++ caps.map .one)).act (args.toList.flatMap λ x=>za9 ob (ev x)) u:=by
    intro ev' ob' he hl
    have e0:args.toList.map ev'=args.toList.map ev:=List.map_congr_left λ x hx=>he x (hm x hx)
    have e1:zfC ob' (args.toList.map ev)=zfC ob (args.toList.map ev):=zg0 λ L hL=>hl L (by rw[List.flatMap_map] at hL;exact hL)
    have e2:(args.toList.flatMap λ x=>za9 ob' (ev' x))=args.toList.flatMap λ x=>za9 ob (ev x):=by
     refine fmc λ x hx=>?_
     rw[he x (hm x hx)]
     exact zep λ L hL=>hl L (dqo.2 ⟨x,hx,hL⟩)
    simp only[act,hop,he f hf,hef,hC,hko,e0,e1,has,e2]
   exact zxe hop has key hA hs
  ·exact dq9 hA hs
 ·rename_i gf cells hef
  split at hA
  ·rename_i az u has
   have key:∀ (ev':Operand->DV) (ob':Nat->Option AO),(∀ x∈o.op.operands.toList,ev' x=ev x)->(∀ L∈args.toList.flatMap λ x=>za9 ob (ev x),ob' L=ob L) ->
     act P Γ o ev' ob'=(Γ gf (.agg cells :: az)).act (args.toList.flatMap λ x=>za9 ob (ev x)) u:=by
    intro ev' ob' he hl
    have e0:args.toList.map ev'=args.toList.map ev:=List.map_congr_left λ x hx=>he x (hm x hx)
    have e1:zfC ob' (args.toList.map ev)=zfC ob (args.toList.map ev):=zg0 λ L hL=>hl L (by rw[List.flatMap_map] at hL;exact hL)
    have e2:(args.toList.flatMap λ x=>za9 ob' (ev' x))=args.toList.flatMap λ x=>za9 ob (ev x):=by
     refine fmc λ x hx=>?_
     rw[he x (hm x hx)]
     exact zep λ L hL=>hl L (dqo.2 ⟨x,hx,hL⟩)
    simp only[act,hop,he f hf,hef,e0,e1,has,e2]
   exact zxe hop has key hA hs
  ·exact dq9 hA hs
 ·exact dq9 hA hs

theorem zrJ {f:FuncId}{first caps:Array Operand}(hop:o.op=.makeFunc (.func f) first caps) (hA:act P Γ o ev ob=A) (hs:A.safe):ActOk P Γ o ev ob A:=by
 have hm:∀ x∈first.toList ++ caps.toList,x∈o.op.operands.toList:=λ x hx=>by simp only[hop,Op.operands];simpa using hx
 simp only[act,hop] at hA
 split at hA
 ·rename_i hmt
  split at hA
  ·rename_i cs hf hc
   subst hA
   refine ActOk.pure (λ L hL=>by simp[dvV,d1V,clV] at hL) λ ev' ob' he _=>?_
   have e1:zot ev' caps.toList=some cs:=(zmy λ x hx=>he x (hm x (dqg.2 (.inr hx)))).trans hc
   simp only[act,hop,hmt,hf,e1]
  ·exact dq9 hA hs
 rename_i hmt
 have hbc:∀ ev':Operand->DV,(∀ x∈o.op.operands.toList,ev' x=ev x)->zu8 ev' first.toList caps.toList=zu8 ev first.toList caps.toList:=λ ev' he=>by
  unfold zu8
  cases hf:first.toList with
  | nil=>rfl
  | cons x r =>
   cases r with
   | cons y r=>rfl
   | nil =>
    cases hc:caps.toList with
    | cons y r=>rfl
    | nil=>simp only[];rw[he x (hm x (by rw[hf];simp))]
 split at hA
 ·rename_i l hb
  subst hA
  exact ActOk.pure (zc6 _) λ ev' ob' he _=>by simp only[act,hop,hmt,hbc ev' he,hb]
 rename_i hbn
 split at hA
 ·rename_i l u l' u' h1 h2
  subst hA
  have lab1:∀ (x:Operand) (c:Cl),ev x=.one (.c c)->∀ L,L∈zaE c->L∈za9 ob (ev x):=λ x c h L hL=>by
   rw[h];exact dqo.2 ⟨L,hL,dqj⟩
  have lab2:∀ (x:Operand) (c:Cl),ev x=.one (.c c)->∀ L,L∈zaE c->∀ o',ob L=some o'->∀ M∈zb8 o',M∈za9 ob (ev x):=λ x c h L hL o' ho' M hM=>by
   rw[h];refine dqo.2 ⟨L,hL,dqf _ ?_⟩;rw[ho'];exact hM
  have clm:∀ (xs:List Operand),∀ L∈(xs.flatMap λ x=>match ev x with | .one (.c c)=>[c] | _=>[.junk]).flatMap zaE,∃ x∈xs,∃ c,ev x=.one (.c c)/\L∈zaE c:=by
   intro xs L hL
   obtain⟨c,hc,hL⟩:=dqo.1 hL
   obtain⟨x,hx,hc⟩:=dqo.1 hc
   refine⟨x,hx,?_⟩
   split at hc
   ·rename_i c' h;simp at hc;subst hc;exact⟨_,h,hL⟩
   ·simp at hc;subst hc;simp[zaE] at hL
  have keys:∀ (xs:List Operand) (l:List PV) (u:Upd),znm ob (xs.flatMap λ x=>match ev x with | .one (.c c)=>[c] | _=>[.junk])=some (l,u) ->
    ∀ x∈u,x.1∈xs.flatMap (λ x=>za9 ob (ev x))/\aoV x.2=[]:=by
   intro xs l u h y hy
   obtain⟨h3,h4⟩:=zmv h y hy
   refine⟨?_,h4⟩
   rcases h3 with h3 | ⟨L,hL,o',h5,h6⟩
   ·obtain ⟨x, hx, c, hc, hL⟩ := clm xs _ h3
    exact dqo.2 ⟨x,hx,lab1 x c hc _ hL⟩
   ·obtain ⟨x, hx, c, hc, hL⟩ := clm xs _ hL
    exact dqo.2 ⟨x,hx,lab2 x c hc _ hL _ h5 _ h6⟩
  have cong:∀ (xs:List Operand) (ev':Operand->DV) (ob':Nat->Option AO),(∀ x∈xs,ev' x=ev x)->(∀ L∈xs.flatMap (λ x=>za9 ob (ev x)),ob' L=ob L) ->
    znm ob' (xs.flatMap λ x=>match ev' x with | .one (.c c)=>[c] | _=>[.junk])=znm ob (xs.flatMap λ x=>match ev x with | .one (.c c)=>[c] | _=>[.junk]):=by
   intro xs ev' ob' he hob
   have e0:(xs.flatMap λ x=>match ev' x with | .one (.c c)=>[c] | _=>[.junk])=xs.flatMap λ x=>match ev x with | .one (.c c)=>[c] | _=>[.junk] :=
    fmc λ x hx=>by rw[he x hx]
   rw[e0]
   refine zkC λ L hL=>?_
   obtain⟨x,hx,c,hc,hL⟩:=clm xs _ hL
   exact⟨hob L (dqo.2 ⟨x,hx,lab1 x c hc _ hL⟩),λ o' ho' M hM=>hob M (dqo.2 ⟨x,hx,lab2 x c hc _ hL _ ho' _ hM⟩)⟩
  refine⟨λ x hx=>?_,.inl rfl,λ x hx L hL=>?_,λ d' hd' L hL=>?_,λ ev' ob' he hob=>?_⟩
  ·simp only [OpAct.u] at hx
   refine zqi ?_
   rw[List.flatMap_append]
   rcases dqg.1 hx with hx | hx
   ·exact dqg.2 (.inl (keys _ _ _ h1 x hx).1)
   ·exact dqg.2 (.inr (keys _ _ _ h2 x hx).1)
  ·simp only [OpAct.u] at hx
   rcases dqg.1 hx with hx | hx
   ·rw[(keys _ _ _ h1 x hx).2] at hL;simp at hL
   ·rw[(keys _ _ _ h2 x hx).2] at hL;simp at hL
  ·simp only[OpAct.gives] at hd';subst hd';simp[dvV,d1V,clV] at hL
  ·have hl : ∀ L ∈ (first.toList ++ caps.toList).flatMap fun x => za9 ob (ev x), ob' L = ob L := fun L hL => hob (L, true) (zqi hL)
   have e1:=cong first.toList ev' ob' (λ x hx=>he x (hm x (dqg.2 (.inl hx)))) (λ L hL=>hl L (by rw[List.flatMap_append];exact dqg.2 (.inl hL)))
   have e2:=cong caps.toList ev' ob' (λ x hx=>he x (hm x (dqg.2 (.inr hx)))) (λ L hL=>hl L (by rw[List.flatMap_append];exact dqg.2 (.inr hL)))
   have e3:((first.toList ++ caps.toList).flatMap λ x=>za9 ob' (ev' x))=(first.toList ++ caps.toList).flatMap λ x=>za9 ob (ev x):=by
    refine fmc λ x hx=>?_
    rw[he x (hm x hx)]
    exact zep λ L hL=>hl L (dqo.2 ⟨x,hx,hL⟩)
   simp only[act,hop,hmt,e3,hbc ev' he,hbn]
   split
   ·rename_i l2 u2 l3 u3 h3 h4
    have a1:some (l2,u2)=some (l,u):=h3.symm.trans (e1.trans h1)
    have a2:some (l3,u3)=some (l',u'):=h4.symm.trans (e2.trans h2)
    simp only[dqa,dqh] at a1 a2
    obtain⟨rfl,rfl⟩:=a1
    obtain⟨rfl,rfl⟩:=a2
    rfl
   ·rename_i hno
    exact (hno l u l' u' (e1.trans h1) (e2.trans h2)).elim
 ·exact dq9 hA hs

theorem zqn {t:TypeId}{x y:Operand}(hop:o.op=.makeSlice t x y) (hA:act P Γ o ev ob=A) (hs:A.safe):ActOk P Γ o ev ob A:=by
 have hx:x∈o.op.operands.toList:=by simp[hop,Op.operands]
 have hy:y∈o.op.operands.toList:=by simp[hop,Op.operands]
 have hc0:∀ ev' ob',(∀ x∈o.op.operands.toList,ev' x=ev x)->act P Γ o ev' ob'=zhJ P Γ t (ev x) (ev y) o.dst ob':=λ ev' ob' he=>by simp only[act,hop,he x hx,he y hy]
 have hA0:=hA
 rw[hc0 ev ob (λ _ _=>rfl)] at hA
 unfold zhJ at hA
 split at hA
 ·rename_i e k1 j k2 j2 dst hu hex hey hdst
  split at hA
  ·rename_i ie z hi hz hfresh
   have fin:∀ (s:Prop) (ao:AO),aoV ao=[]->OpAct.chk [(dst,true)] s (.cl (.vec dst)) [(dst,ao)] []=A->(∀ ob':Nat->Option AO,ob' dst=none->zhJ P Γ t (ev x) (ev y) o.dst ob'=A)->ActOk P Γ o ev ob A:=by
    intro s ao hao e hcc
    subst e
    refine⟨λ z hz=>?_,.inl rfl,λ z hz M hM=>?_,λ d' hd' M hM=>?_,λ ev' ob' he hob=>?_⟩
    ·simp only[OpAct.u,dqi] at hz;subst hz;simp[OpAct.fp]
    ·simp only[OpAct.u,dqi] at hz;subst hz;rw[hao] at hM;simp at hM
    ·simp only [OpAct.gives] at hd'; subst hd'
     simp only[dvV,d1V,clV,dqi] at hM;subst hM
     exact .inr (by simp[OpAct.fp])
    ·have e2 := hob (dst, true) (by simp [OpAct.fp]); simp only at e2
     rw[hc0 ev' ob' he]
     exact hcc ob' (e2.trans hfresh)
   have hcc:∀ ob':Nat->Option AO,ob' dst=none->zhJ P Γ t (ev x) (ev y) o.dst ob'=A:=λ ob' h=>by
    have:act P Γ o ev ob=A:=hA0
    rw[hc0 ev ob (λ _ _=>rfl)] at this
    rw[<- this]
    unfold zhJ
    simp only[hu,hex,hey,hdst,hi,hz,hfresh,h]
   split at hA
   ·split at hA
    ·split at hA
     ·exact fin _ _ rfl hA hcc
     ·exact dq9 hA hs
    ·split at hA
     ·split at hA
      ·exact fin _ _ rfl hA hcc
      ·exact dq9 hA hs
     ·exact dq9 hA hs
    ·exact dq9 hA hs
   ·split at hA
    ·split at hA
     ·exact fin _ _ rfl hA hcc
     ·exact dq9 hA hs
    ·exact dq9 hA hs
  ·exact dq9 hA hs
 ·exact dq9 hA hs

theorem zDc {t:TypeId}{x:Operand}(hop:o.op=.range t x) (hA:act P Γ o ev ob=A) (hs:A.safe):ActOk P Γ o ev ob A:=by
 have hx:x∈o.op.operands.toList:=by simp[hop,Op.operands]
 simp only[act,hop] at hA
 split at hA
 ·rename_i q q' m F hq hex
  split at hA
  ·rename_i e
   exact zoW (ao:=.mit q m F []) (d:=λ t=>.cl (.ptr t 0)) (λ L hL=>by simp[aoV] at hL) (λ t L hL=>by simp[dvV,d1V,clV] at hL) (λ ev' ob' he=>by simp only[act,hop,he x hx,hex,hq,if_pos e]) hA hs
  ·exact dq9 hA hs
 ·exact dq9 hA hs

theorem zDd {x:Operand}(hop:o.op=.entry x) (hA:act P Γ o ev ob=A) (hs:A.safe):ActOk P Γ o ev ob A:=by
 have hx:x∈o.op.operands.toList:=by simp[hop,Op.operands]
 simp only[act,hop] at hA
 split at hA
 ·rename_i L hex
  split at hA
  ·rename_i q m F c seen hL
   split at hA
   ·rename_i kd vd hkd hvd
    subst hA
    refine ActOk.pure (λ M hM=>?_) λ ev' ob' he hob=>?_
    ·simp only [dvV, dqJ, List.flatMap_nil, List.append_nil, dqg] at hM
     rcases hM with hM | hM
     ·have:=zrH M hM;rw[ztV hkd] at this;simp at this
     ·have:=zrH M hM;rw[zlM hvd] at this;simp at this
    ·have e := hob (L, false) (by simp); simp only at e
     simp only[act,hop,he x hx,hex,e,hL,hkd,hvd]
   ·exact dq9 hA hs
  ·exact dq9 hA hs
 ·exact dq9 hA hs

theorem zOf (hA:act P Γ o ev ob=A) (hs:A.safe):ActOk P Γ o ev ob A:=by
 have hA':=hA
 cases hop:o.op with
 | move x=>simp only[act,hop] at hA;subst hA;exact zw6 (.inl hop)
 | assign x=>simp only[act,hop] at hA;subst hA;exact zw6 (.inr hop)
 | pick c x y =>
  simp only[act,hop] at hA
  split at hA
  ·rename_i t hc;subst hA;exact zF0 hop hc
  ·exact dq9 hA hs
 | alloc e =>
  simp only[act,hop] at hA
  split at hA
  ·rename_i z hz
   refine zoW (ao:=.box e z) (d:=λ t=>.cl (.ptr t 0)) (λ L hL=>?_) (λ t L hL=>by simp[dvV,d1V,clV] at hL) (λ ev' ob' _=>by simp only[act,hop,hz]) hA hs
   simp only[aoV] at hL;rw[zw7 hz] at hL;simp at hL
  ·exact dq9 hA hs
 | box e x =>
  have hx:x∈o.op.operands.toList:=by simp[hop,Op.operands]
  simp only[act,hop] at hA
  split at hA
  ·rename_i d m hex hm
   split at hA
   ·rename_i hcond
    refine zoW (ao:=.box e (zjM P e d.cells)) (d:=λ t=>.cl (.ptr t 0)) (λ L hL=>?_) (λ t L hL=>by simp[dvV,d1V,clV] at hL) (λ ev' ob' he=>by simp only[act,hop,he x hx,hex,hm,hcond]) hA hs
    simp only[aoV] at hL
    have hL:=zC5 L hL
    rw[zrF] at hL
    exact .inl ⟨x,hx,by rw[hex];exact hL⟩
   ·exact dq9 hA hs
  ·exact dq9 hA hs
 | build t parts =>
  simp only[act,hop] at hA
  split at hA
  ·rename_i z hf hz
   split at hA
   ·rename_i l hl;subst hA;exact zC6 hop hf hz hl
   ·exact dq9 hA hs
  ·exact dq9 hA hs
 | buildSlice t m parts=>exact zoX hop hA' hs
 | load t x=>exact zF2 hop hA' hs
 | store t x y=>exact zC7 hop hA' hs
 | nilCheck x=>exact zrG hop hA' hs
 | binOp op t x y t'=>exact zC9 hop hA' hs
 | unOp op t x=>exact zF3 hop hA' hs
 | fieldAddr t x f=>exact zqk hop hA' hs
 | indexAddr t x y=>exact zql hop hA' hs
 | extract x k=>exact zvt hop hA' hs
 | index t x y=>exact zDa hop hA' hs
 | field t x f=>exact zDb hop hA' hs
 | slice t x lo hi mx =>
  cases mx with
  | none=>exact ok_slice hop hA' hs
  | some m=>simp only[act,hop] at hA;exact dq9 hA hs
 | lookup t x y k=>exact zxa hop hA' hs
 | mapUpdate t x y z=>exact zqj hop hA' hs
 | makeMap t x =>
  cases x with
  | none=>exact zvs hop hA' hs
  | some x=>simp only[act,hop] at hA;exact dq9 hA hs
 | makeSlice t x y=>exact zqn hop hA' hs
 | range t x=>exact zDc hop hA' hs
 | entry x=>exact zDd hop hA' hs
 | makeFunc fn first caps =>
  cases fn with
  | func f=>exact zrJ hop hA' hs
  | _=>simp only[act,hop] at hA;exact dq9 hA hs
 | call c =>
  obtain⟨callee,args,ts⟩:=c
  cases callee with
  | value f=>exact zF4 hop hA' hs
  | invoke x m=>simp only[act,hop] at hA;exact dq9 hA hs
  | builtin b =>
   cases b with
   | len=>exact zKG hop hA' hs
   | max=>exact zKF (.inl rfl) hop hA' hs
   | min=>exact zKF (.inr rfl) hop hA' hs
   | append=>exact zxb hop hA' hs
   | delete=>exact zKH hop hA' hs
   | _=>simp only[act,hop] at hA;exact dq9 hA hs
 | _=>simp only[act,hop] at hA;exact dq9 hA hs
end
end Go.Pm
namespace Go.Pm
variable [DrawZ]

structure Eqv (σ τ : St) : Prop where
  env:∀ t,lk σ.env t=lk τ.env t
  objs:∀ L,lk σ.objs L=lk τ.objs L
  log:∀ x,x∈σ.log↔x∈τ.log

theorem Eqv.refl (σ:St):Eqv σ σ:=⟨λ _=>rfl,λ _=>rfl,λ _=>Iff.rfl⟩
theorem Eqv.symm {σ τ:St}(h:Eqv σ τ):Eqv τ σ:=⟨λ t=>(h.env t).symm,λ t=>(h.objs t).symm,λ x=>(h.log x).symm⟩

theorem zmz {e e':List (Nat×DV)}{x:Operand}(h:∀ t∈zKg x,lk e t=lk e' t):evO e x=evO e' x:=by
 cases x with
 | tmp t=>simp only[evO];rw[h t (by simp[zKg])]
 | _=>rfl

theorem zmA (x:Cl):zco [] x=x:=by cases x <;> rfl
theorem znV (x:D1):zc3 [] x=x:=by
 cases x with
 | c x=>simp[zc3,zmA]
 | agg cs=>simp only[zc3];rw[show zco []=id from funext zmA,List.map_id]
theorem zxf (x:DV):zdU [] x=x:=by
 cases x with
 | one x=>simp[zdU,znV]
 | tup cs=>simp only[zdU];rw[show zc3 []=id from funext znV,List.map_id]
theorem zxg (x:AO):zdc [] x=x:=by
 cases x with
 | box ty cs=>simp only[zdc];rw[show zco []=id from funext zmA,List.map_id]
 | _=>rfl

theorem zoZ {l:List Nat}{x:Cl}(h:∀ L∈clV x,L ∉ l):zco l x=x:=by
 cases x with
 | vec L =>
  have h1:l.contains L=false:=by simpa using h L (by simp[clV])
  simp only[zco,h1]
 | vptr L s i k =>
  have h1:l.contains L=false:=by simpa using h L (by simp[clV])
  simp only[zco,h1]
 | ivec L i =>
  have h1:l.contains L=false:=by simpa using h L (by simp[clV])
  simp only[zco,h1]
 | iptr L s i j k =>
  have h1:l.contains L=false:=by simpa using h L (by simp[clV])
  simp only[zco,h1]
 | imap L i =>
  have h1:l.contains L=false:=by simpa using h L (by simp[clV])
  simp only[zco,h1]
 | xv L s i b n m j c =>
  have h1:l.contains L=false:=by simpa using h L (by simp[clV])
  simp only[zco,h1]
 | mo L =>
  have h1:l.contains L=false:=by simpa using h L (by simp[clV])
  simp only[zco,h1]
 | mkey it L =>
  have h1:l.contains L=false:=by simpa using h L (by simp[clV])
  simp only[zco,h1]
 | _=>rfl
theorem zj1 {α : Type} {f : α → α} : ∀ {l : List α}, (∀ x ∈ l, f x = x) → l.map f = l
  | [],_=>rfl
  | x :: l,h=>by rw[dqK,h x dqj,zj1 λ y hy=>h y (dqf _ hy)]
theorem zqo {l:List Nat}{x:D1}(h:∀ L∈d1V x,L ∉ l):zc3 l x=x:=by
 cases x with
 | c x=>simp only[zc3];rw[zoZ h]
 | agg cs=>simp only[zc3];rw[zj1 λ x hx=>zoZ λ L hL=>h L (dqo.2 ⟨x,hx,hL⟩)]
theorem zo0 {l:List Nat}{x:DV}(h:∀ L∈dvV x,L ∉ l):zdU l x=x:=by
 cases x with
 | one x=>simp only[zdU];rw[zqo h]
 | tup cs=>simp only[zdU];rw[zj1 λ x hx=>zqo λ L hL=>h L (dqo.2 ⟨x,hx,hL⟩)]
theorem zo1 {l:List Nat}{x:AO}(h:∀ L∈aoV x,L ∉ l):zdc l x=x:=by
 cases x with
 | box ty cs=>simp only[zdc];rw[zj1 λ x hx=>zoZ λ L hL=>h L (dqo.2 ⟨x,hx,hL⟩)]
 | _=>rfl

theorem zrK {l:List Nat}{x:Cl} : clV (zco l x)=clV x:=by
 cases x with
 | vec L=>simp only[zco];split <;> rfl
 | vptr L s i k=>simp only[zco];split <;> rfl
 | ivec L i=>simp only[zco];split <;> rfl
 | iptr L s i j k=>simp only[zco];split <;> rfl
 | imap L i=>simp only[zco];split <;> rfl
 | xv L s i b n m j c=>simp only[zco];split <;> rfl
 | mo L=>simp only[zco];split <;> rfl
 | mkey it L=>simp only[zco];split <;> rfl
 | _=>rfl
theorem zt6 {l:List Nat}{x:D1} : d1V (zc3 l x)=d1V x:=by
 cases x with
 | c x=>exact zrK
 | agg cs=>simp only[zc3,d1V,List.flatMap_map];exact fmc λ x _=>zrK
theorem zF5 {l:List Nat}{x:DV} : dvV (zdU l x)=dvV x:=by
 cases x with
 | one x=>exact zt6
 | tup cs=>simp only[zdU,dvV,List.flatMap_map];exact fmc λ x _=>zt6
theorem zrL {l:List Nat}{x:AO} : aoV (zdc l x)=aoV x:=by
 cases x with
 | box ty cs=>simp only[zdc,aoV,List.flatMap_map];exact fmc λ x _=>zrK
 | _=>rfl

theorem zkE {l m:List Nat}(x:Cl):zco l (zco m x)=zco m (zco l x):=by
 cases x with
 | vec L=>simp only[zco];cases hl:l.contains L <;> cases hm:m.contains L <;> simp only[hl,hm]
 | vptr L s i k=>simp only[zco];cases hl:l.contains L <;> cases hm:m.contains L <;> simp only[hl,hm]
 | ivec L i=>simp only[zco];cases hl:l.contains L <;> cases hm:m.contains L <;> simp only[hl,hm]
 | imap L i=>simp only[zco];cases hl:l.contains L <;> cases hm:m.contains L <;> simp only[hl,hm]
 | xv L s i b n k j c=>simp only[zco];cases hl:l.contains L <;> cases hm:m.contains L <;> simp only[hl,hm]
 | mo L=>simp only[zco];cases hl:l.contains L <;> cases hm:m.contains L <;> simp only[hl,hm]
 | mkey it L=>simp only[zco];cases hl:l.contains L <;> cases hm:m.contains L <;> simp only[hl,hm]
 | iptr L s i j k=>simp only[zco];cases hl:l.contains L <;> cases hm:m.contains L <;> simp only[hl,hm]
 | _=>rfl
theorem zmB {l m:List Nat}(x:D1):zc3 l (zc3 m x)=zc3 m (zc3 l x):=by
 cases x with
 | c x=>simp only[zc3];rw[zkE]
 | agg cs=>simp only[zc3,List.map_map];rw[show zco l ∘ zco m=zco m ∘ zco l from funext zkE]
theorem zvw {l m:List Nat}(x:DV):zdU l (zdU m x)=zdU m (zdU l x):=by
 cases x with
 | one x=>simp only[zdU];rw[zmB]
 | tup cs=>simp only[zdU,List.map_map];rw[show zc3 l ∘ zc3 m=zc3 m ∘ zc3 l from funext zmB]
theorem zvx {l m:List Nat}(x:AO):zdc l (zdc m x)=zdc m (zdc l x):=by
 cases x with
 | box ty cs=>simp only[zdc,List.map_map];rw[show zco l ∘ zco m=zco m ∘ zco l from funext zkE]
 | _=>rfl

theorem zDe {α : Type} {f : α → α} : ∀ {l : List (Nat × α)} {t : Nat}, lk (kills f l) t = (lk l t).map f
  | [],_=>rfl
  | (k,a) :: r,t=>by
    simp only[kills]
    rw[zay,zay]
    split
    · rfl
    · exact zDe

theorem zF6 {σ : St} {i : Nat} {dst : Option Nat} {fp : List (Nat × Bool)} {d : DV} {u : List (Nat × AO)} {kl : List Nat} (t : Nat) :
  lk (σ.upd i dst fp d u kl).env t=if dst=some t then some d else (lk σ.env t).map (zdU kl):=by
 cases kl with
 | nil =>
  have e:(lk σ.env t).map (zdU [])=lk σ.env t:=by cases lk σ.env t <;> simp[zxf]
  rw[e]
  cases dst with
  | none=>rfl
  | some s=>simp only[St.upd,zay,dqa]
 | cons K r =>
  cases dst with
  | none=>simp only[St.upd,zDe];rw[if_neg (by simp)]
  | some s=>simp only[St.upd,zay,zDe,dqa]
theorem zDf {σ : St} {i : Nat} {dst : Option Nat} {fp : List (Nat × Bool)} {d : DV} {u : List (Nat × AO)} {kl : List Nat} (L : Nat) :
  lk (σ.upd i dst fp d u kl).objs L=match lk u L with | some o=>some o | none=>(lk σ.objs L).map (zdc kl):=by
 cases kl with
 | nil =>
  have e:(lk σ.objs L).map (zdc [])=lk σ.objs L:=by cases lk σ.objs L <;> simp[zxg]
  rw[e]
  change lk (u ++ σ.objs) L=_
  rw[zdm]
  cases lk u L <;> rfl
 | cons K r =>
  simp only[St.upd,zdm,zDe]
  cases lk u L <;> rfl
theorem zF7 {σ:St}{i:Nat}{dst:Option Nat}{fp:List (Nat×Bool)}{d:DV}{u:List (Nat×AO)}{kl:List Nat} : (σ.upd i dst fp d u kl).log=σ.log:=by
 cases kl <;> rfl

def OpAct.may : OpAct → DV → Prop
  | .no,_=>False
  | .val _ d _ _,d'=>d'=d
  | .chk _ _ d _ _,d'=>d'=d
  | .rel _ _ ρ _ post d,d'=>∃ x:ρ,post x/\d'=d x
  | .alt _ _ b _ d1 _ d2,d'=>(b=true/\d'=d1)\/(b=false/\d'=d2)
theorem OpAct.may_gives {A:OpAct}{d:DV}(h:A.may d):A.gives d:=by
 cases A with
 | rel fp u ρ s post r=>obtain⟨x,_,hx⟩:=h;exact⟨x,hx⟩
 | alt fp u b s1 d1 s2 d2=>exact h.imp And.right And.right
 | _=>exact h
theorem OpAct.may_of_safe {A:OpAct}(h:A.safe):∃ d,A.may d:=by
 cases A with
 | no=>exact h.elim
 | val fp d u kl=>exact⟨d,rfl⟩
 | chk fp s d u kl=>exact⟨d,rfl⟩
 | rel fp u ρ s post r=>obtain⟨_,x,hx⟩:=h;exact⟨r x,x,hx,rfl⟩
 | alt fp u b s1 d1 s2 d2=>cases b;exact⟨_,.inr ⟨rfl,rfl⟩⟩;exact⟨_,.inl ⟨rfl,rfl⟩⟩

def nx (A:OpAct) (lg:List (Nat×Bool)->List Nat->List (Nat×Nat×Nat)) (i:Nat) (dst:Option Nat) (σ:St) (d:DV):St :=
 (σ.upd i dst A.fp d A.u A.kl).relog (lg A.fp A.kl)

theorem ze5 {A : OpAct} {lg : List (Nat × Bool) → List Nat → List (Nat × Nat × Nat)} {i : Nat} {dst : Option Nat} {K : St → Prop} {σ : St} :
  zgQ A lg i dst K σ↔A.safe/\∀ d,A.may d->K (nx A lg i dst σ d):=by
 cases A with
 | no=>simp[zgQ,OpAct.safe]
 | val fp d u kl=>simp[zgQ,OpAct.safe,OpAct.may,nx,OpAct.fp,OpAct.u,OpAct.kl]
 | chk fp s d u kl=>simp[zgQ,OpAct.safe,OpAct.may,nx,OpAct.fp,OpAct.u,OpAct.kl]
 | rel fp u ρ s post d =>
  simp only[zgQ,OpAct.safe,OpAct.may,nx,OpAct.fp,OpAct.u,OpAct.kl]
  constructor
  ·rintro ⟨h1, h2, h3⟩
   exact⟨⟨h1,h2⟩,λ d' ⟨x,hx,e⟩=>e ▸ h3 x hx⟩
  ·rintro ⟨⟨h1, h2⟩, h3⟩
   exact⟨h1,h2,λ x hx=>h3 _ ⟨x,hx,rfl⟩⟩
 | alt fp u b s1 d1 s2 d2 =>
  cases b <;> simp[zgQ,OpAct.safe,OpAct.may,nx,OpAct.fp,OpAct.u,OpAct.kl,zcJ]

section
variable (P:Program) (Γ:Ctrs) (nt:Nat) (ops:Array Oper)

def zhv (env:List (Nat×DV)) (o:Oper):Option Bool :=
 match o.guard with
 | none=>some true
 | some (j,want) =>
  match (ops[j]?).bind (·.dst) with
  | none=>none
  | some g =>
   match lk env g with
   | some (.one (.c (.p (.bool b))))=>some (b == want)
   | some (.one (.c .undef))=>some false
   | _=>none

def znW (σ:St) (o:Oper):OpAct :=
 match zck nt o.dst,zhv ops σ.env o with
 | true,some true=>act P Γ o (evO σ.env) (lk σ.objs)
 | true,some false=>.val [] (.cl .undef) [] []
 | _,_=>.no

def lgG (σ:St) (i:Nat) (o:Oper) (fp:List (Nat×Bool)) (kl:List Nat):List (Nat×Nat×Nat) :=
 match zhv ops σ.env o with
 | some true=>zl3 σ i o fp kl
 | _=>[]

def vcL : List Nat → (St → Prop) → St → Prop
  | [],K,σ=>K σ
  | i :: r,K,σ=>match ops[i]? with
    | none=>vcL r K σ
    | some o=>zgQ (znW P Γ nt ops σ o) (lgG ops σ i o) i o.dst (vcL r K) σ

def looks (σ:St) (o:Oper):List Nat :=
 match zhv ops σ.env o with
 | some true=>zjN ops o
 | _=>gdT ops o

end

section
variable {P:Program}{Γ:Ctrs}{nt:Nat}{ops:Array Oper}{σ τ:St}{o:Oper}{i:Nat}{A:OpAct}

theorem zj2 {L k:Nat}{r:List Nat} : k∈zCt σ (L :: r)↔∃ o,lk σ.objs k=some o/\L∈aoV o:=by
 simp only[zCt,List.mem_filter,dqz]
 constructor
 ·rintro ⟨_, h⟩
  split at h
  ·rename_i o ho;exact⟨o,ho,by simpa using h⟩
  ·cases h
 ·rintro ⟨o, ho, hL⟩
  refine⟨⟨(k,o),zcP ho,rfl⟩,?_⟩
  rw[ho];simpa using hL

theorem zqp:∀ t∈looks ops σ o,t∈zjN ops o:=by
 unfold looks
 split
 ·exact λ _ h=>h
 ·exact λ t h=>dqg.2 (.inr h)
theorem zqq:∀ t∈gdT ops o,t∈looks ops σ o:=by
 unfold looks
 split
 ·exact λ t h=>dqg.2 (.inr h)
 ·exact λ t h=>h

theorem zg1 {env env':List (Nat×DV)}(h:∀ t∈gdT ops o,lk env' t=lk env t):zhv ops env' o=zhv ops env o:=by
 unfold zhv
 split
 ·rfl
 ·rename_i j want hg
  split
  ·rfl
  ·rename_i g hgt
   rw[h g (by simp[gdT,hg,hgt])]

theorem zxh {b:Bool}(h:zhv ops σ.env o=some b):∀ t∈gdT ops o,∀ v,lk σ.env t=some v->dvV v=[]:=by
 intro t ht v hv
 unfold gdT at ht
 split at ht
 ·rename_i j want hg
  split at ht
  ·rename_i g hgt
   simp only[dqi] at ht
   subst ht
   unfold zhv at h
   rw[hg] at h
   simp only[hgt] at h
   rw[hv] at h
   split at h
   ·rename_i e;simp only[dqa] at e;subst e;rfl
   ·rename_i e;simp only[dqa] at e;subst e;rfl
   ·cases h
  ·simp at ht
 ·simp at ht

structure Loc (P : Program) (Γ : Ctrs) (nt : Nat) (ops : Array Oper) (σ : St) (i : Nat) (o : Oper) (A : OpAct) (lg : List (Nat × Nat × Nat)) : Prop where
  fst:∀ x∈lg,x.1=i
  wr:∀ x∈A.u,(i,x.1,1)∈lg
  kl:A.kl=[]\/∃ L,A.kl=[L]
  kl3:∀ L∈A.kl,(i,L,3)∈lg
  kl1:∀ L∈A.kl,(i,L,1)∈lg
  kb:∀ L∈A.kl,∀ k o',lk σ.objs k=some o'->L∈aoV o'->(i,k,1)∈lg
  labu:∀ x∈A.u,∀ L∈aoV x.2,(i,L,2)∈lg
  labd:∀ d,A.may d->∀ L∈dvV d,(i,L,2)∈lg\/(i,L,1)∈lg
  see:∀ t∈looks ops σ o,∀ v,lk σ.env t=some v->∀ L∈dvV v,(i,L,2)∈lg
  fpm:∀ y∈A.fp,∀ o',lk σ.objs y.1=some o'->∀ L∈aoV o',(i,L,2)∈lg
  fpt:∀ y∈A.fp,(i,y.1,0)∈lg\/(i,y.1,1)∈lg
  wfp:∀ x∈A.u,(x.1,true)∈A.fp
  congr:∀ τ,(∀ t∈looks ops σ o,lk τ.env t=lk σ.env t)->(∀ y∈A.fp,lk τ.objs y.1=lk σ.objs y.1)->znW P Γ nt ops τ o=A
  logc:∀ τ,(∀ t∈looks ops σ o,lk τ.env t=lk σ.env t)->(∀ y∈A.fp,lk τ.objs y.1=lk σ.objs y.1) ->
    (∀ L∈A.kl,∀ k,(∃ o',lk τ.objs k=some o'/\L∈aoV o')↔∃ o',lk σ.objs k=some o'/\L∈aoV o')->∀ x,x∈lgG ops τ i o A.fp A.kl↔x∈lg

theorem zdy {fp : List (Nat × Bool)} {kl : List Nat} {x : Nat × Nat × Nat} : x ∈ zl3 σ i o fp kl ↔
    (∃ y∈fp,x=(i,y.1,match y.2 with | true=>1 | false=>0))\/(∃ L∈zrd σ o fp,x=(i,L,2))\/(∃ L∈kl,x=(i,L,3))\/∃ k∈zCt σ kl,x=(i,k,1):=by
  simp only[zl3,dqg,dqz,or_assoc]
  constructor
  · rintro (⟨y, h1, h2⟩ | ⟨y, h1, h2⟩ | ⟨y, h1, h2⟩ | ⟨y, h1, h2⟩)
    · exact .inl ⟨y,h1,h2.symm⟩
    · exact .inr (.inl ⟨y,h1,h2.symm⟩)
    · exact .inr (.inr (.inl ⟨y,h1,h2.symm⟩))
    · exact .inr (.inr (.inr ⟨y,h1,h2.symm⟩))
  · rintro (⟨y, h1, h2⟩ | ⟨y, h1, h2⟩ | ⟨y, h1, h2⟩ | ⟨y, h1, h2⟩)
    · exact .inl ⟨y,h1,h2.symm⟩
    · exact .inr (.inl ⟨y,h1,h2.symm⟩)
    · exact .inr (.inr (.inl ⟨y,h1,h2.symm⟩))
    · exact .inr (.inr (.inr ⟨y,h1,h2.symm⟩))

theorem zxi {fp:List (Nat×Bool)}{L:Nat}(h:Men o (evO σ.env) (lk σ.objs) fp L):L∈zrd σ o fp:=by
 unfold zrd
 rcases h with ⟨x,hx,hL⟩ | ⟨y,hy,o',ho,hL⟩
 ·exact dqg.2 (.inl (dqo.2 ⟨x,hx,hL⟩))
 ·refine dqg.2 (.inr (dqo.2 ⟨y,hy,?_⟩));rw[ho];exact hL

theorem zmC {fp:List (Nat×Bool)}(he:∀ x∈o.op.operands.toList,evO τ.env x=evO σ.env x) (hob:∀ y∈fp,lk τ.objs y.1=lk σ.objs y.1):zrd τ o fp=zrd σ o fp:=by
 unfold zrd
 rw[fmc (f:=λ x=>dvV (evO τ.env x)) (h:=λ x=>dvV (evO σ.env x)) λ x hx=>by rw[he x hx]]
 congr 1
 exact fmc λ y hy=>by rw[hob y hy]

theorem zt7 (hA:znW P Γ nt ops σ o=A) (hs:A.safe):Loc P Γ nt ops σ i o A (lgG ops σ i o A.fp A.kl):=by
 have hA':=hA
 unfold znW at hA
 split at hA
 ·rename_i hd hw
  have K:=zOf hA hs
  have hlg:∀ fp kl,lgG ops σ i o fp kl=zl3 σ i o fp kl:=λ fp kl=>by unfold lgG;rw[hw]
  have hlooks:looks ops σ o=zjN ops o:=by unfold looks;rw[hw]
  have hmen:∀ L,Men o (evO σ.env) (lk σ.objs) A.fp L->(i,L,2)∈lgG ops σ i o A.fp A.kl:=λ L h=>by
   rw[hlg];exact zdy.2 (.inr (.inl ⟨L,zxi h,rfl⟩))
  have hfw:∀ L,(L,true)∈A.fp->(i,L,1)∈lgG ops σ i o A.fp A.kl:=λ L h=>by
   rw[hlg];exact zdy.2 (.inl ⟨_,h,rfl⟩)
  have hop:∀ τ:St,(∀ t∈looks ops σ o,lk τ.env t=lk σ.env t)->∀ x∈o.op.operands.toList,evO τ.env x=evO σ.env x:=λ τ h x hx =>
   zmz λ t ht=>h t (by rw[hlooks];exact dqg.2 (.inl (dqo.2 ⟨x,hx,ht⟩)))
  have hwt:∀ τ:St,(∀ t∈looks ops σ o,lk τ.env t=lk σ.env t)->zhv ops τ.env o=some true:=λ τ h=>by
   rw[zg1 (env:=σ.env) λ t ht=>h t (zqq t ht),hw]
  refine⟨λ x hx=>?_,λ x hx=>hfw _ (K.wr x hx),?_,λ L hL=>?_,λ L hL=>?_,λ L hL k o' hk hL'=>?_,λ x hx L hL=>hmen L (K.labu x hx L hL),
   λ d hd' L hL=>(K.labd d (OpAct.may_gives hd') L hL).imp (hmen L) (hfw L),λ t ht v hv L hL=>?_,λ y hy o' ho L hL=>hmen L (.inr ⟨y,hy,o',ho,hL⟩),λ y hy=>?_,K.wr,λ τ he hob=>?_,λ τ he hob hkb x=>?_⟩
  ·rw [hlg] at hx
   rcases zdy.1 hx with ⟨_,_,h⟩ | ⟨_,_,h⟩ | ⟨_,_,h⟩ | ⟨_,_,h⟩ <;> rw[h]
  ·exact K.kl.imp_right λ ⟨L,h,_⟩=>⟨L,h⟩
  ·rw[hlg];exact zdy.2 (.inr (.inr (.inl ⟨L,hL,rfl⟩)))
  ·rcases K.kl with h | ⟨M, h, h2⟩
   ·rw[h] at hL;simp at hL
   ·rw[h] at hL;simp at hL;subst hL;exact hfw _ h2
  ·rw [hlg]
   refine zdy.2 (.inr (.inr (.inr ⟨k,?_,rfl⟩)))
   rcases K.kl with h | ⟨M,h,h2⟩
   ·rw[h] at hL;simp at hL
   ·rw[h] at hL ⊢;simp at hL;subst hL;exact zj2.2 ⟨o',hk,hL'⟩
  ·rw [hlooks] at ht
   rcases dqg.1 ht with ht | ht
   ·obtain ⟨x, hx, ht⟩ := dqo.1 ht
    refine hmen L (.inl ⟨x,hx,?_⟩)
    cases x with
    | tmp s=>simp only[zKg,dqi] at ht;subst ht;simp only[evO,hv];exact hL
    | _=>simp[zKg] at ht
   ·rw[zxh hw t ht v hv] at hL;simp at hL
  ·rw [hlg]
   obtain⟨L,b⟩:=y
   cases b with
   | true=>exact .inr (zdy.2 (.inl ⟨_,hy,rfl⟩))
   | false=>exact .inl (zdy.2 (.inl ⟨_,hy,rfl⟩))
  ·unfold znW
   rw[hd,hwt τ he]
   exact K.congr _ _ (hop τ he) hob
  ·have e1 : lgG ops τ i o A.fp A.kl = zl3 τ i o A.fp A.kl := by unfold lgG; rw [hwt τ he]
   rw[e1,hlg,zdy,zdy,zmC (hop τ he) hob]
   refine or_congr Iff.rfl (or_congr Iff.rfl (or_congr Iff.rfl ?_))
   rcases K.kl with h | ⟨M,h,h2⟩
   ·rw[h];simp[zCt]
   ·rw [h]
    have:∀ k,k∈zCt τ [M]↔k∈zCt σ [M]:=λ k=>by rw[zj2,zj2];exact hkb M (by rw[h];simp) k
    constructor
    ·rintro⟨k,h1,h2⟩;exact⟨k,(this k).1 h1,h2⟩
    ·rintro⟨k,h1,h2⟩;exact⟨k,(this k).2 h1,h2⟩
 ·rename_i hd hw
  subst hA
  have hlg:∀ fp kl,lgG ops σ i o fp kl=[]:=λ fp kl=>by unfold lgG;rw[hw]
  have hlooks:looks ops σ o=gdT ops o:=by unfold looks;rw[hw]
  have hwt:∀ τ:St,(∀ t∈looks ops σ o,lk τ.env t=lk σ.env t)->zhv ops τ.env o=some false:=λ τ h=>by
   rw[zg1 (env:=σ.env) λ t ht=>h t (zqq t ht),hw]
  refine⟨λ x hx=>?_,λ x hx=>?_,.inl rfl,λ L hL=>?_,λ L hL=>?_,λ L hL=>?_,λ x hx=>?_,λ d hd' L hL=>?_,λ t ht v hv L hL=>?_,λ y hy=>?_,λ y hy=>?_,λ x hx=>?_,λ τ he hob=>?_,λ τ he hob hkb x=>?_⟩
  ·rw[hlg] at hx;simp at hx
  ·simp[OpAct.u] at hx
  ·simp[OpAct.kl] at hL
  ·simp[OpAct.kl] at hL
  ·simp[OpAct.kl] at hL
  ·simp[OpAct.u] at hx
  ·simp only[OpAct.may] at hd';subst hd';simp[dvV,d1V,clV] at hL
  ·rw[hlooks] at ht;rw[zxh hw t ht v hv] at hL;simp at hL
  ·simp[OpAct.fp] at hy
  ·simp[OpAct.fp] at hy
  ·simp[OpAct.u] at hx
  ·unfold znW;rw[hd,hwt τ he]
  ·rw [hlg]
   have:lgG ops τ i o (OpAct.val [] (.cl .undef) [] []).fp (OpAct.val [] (.cl .undef) [] []).kl=[]:=by unfold lgG;rw[hwt τ he]
   rw[this]
 ·exact dq9 hA hs

theorem znX {lg:List (Nat×Bool)->List Nat->List (Nat×Nat×Nat)}{dst:Option Nat}{d:DV}(t:Nat):lk (nx A lg i dst σ d).env t=if dst=some t then some d else (lk σ.env t).map (zdU A.kl):=zF6 t
theorem zkF {lg:List (Nat×Bool)->List Nat->List (Nat×Nat×Nat)}{dst:Option Nat}{d:DV}(L:Nat):lk (nx A lg i dst σ d).objs L=match lk A.u L with | some o=>some o | none=>(lk σ.objs L).map (zdc A.kl):=zDf L
theorem zj3 {lg:List (Nat×Bool)->List Nat->List (Nat×Nat×Nat)}{dst:Option Nat}{d:DV} : (nx A lg i dst σ d).log=lg A.fp A.kl ++ σ.log:=by simp only[nx,St.relog,zF7]

theorem zDg (h:Eqv σ τ) (o:Oper):znW P Γ nt ops τ o=znW P Γ nt ops σ o:=by
 unfold znW
 rw[zg1 (env:=σ.env) λ t _=>(h.env t).symm,show evO τ.env=evO σ.env from funext λ x=>zmz λ t _=>(h.env t).symm,show lk τ.objs=lk σ.objs from funext λ t=>(h.objs t).symm]
theorem zF8 (h:Eqv σ τ){fp:List (Nat×Bool)}{kl:List Nat}(x:Nat×Nat×Nat):x∈lgG ops σ i o fp kl↔x∈lgG ops τ i o fp kl:=by
 unfold lgG
 rw[zg1 (env:=σ.env) (env':=τ.env) λ t _=>(h.env t).symm]
 split
 ·rw [zdy, zdy, zmC (σ := σ) (τ := τ) (fun x _ => zmz fun t _ => (h.env t).symm) (fun y _ => (h.objs y.1).symm)]
  refine or_congr Iff.rfl (or_congr Iff.rfl (or_congr Iff.rfl ?_))
  cases kl with
  | nil=>simp[zCt]
  | cons L r =>
   have:∀ k,k∈zCt σ (L :: r)↔k∈zCt τ (L :: r):=λ k=>by rw[zj2,zj2,h.objs k]
   constructor
   ·rintro⟨k,h1,h2⟩;exact⟨k,(this k).1 h1,h2⟩
   ·rintro⟨k,h1,h2⟩;exact⟨k,(this k).2 h1,h2⟩
 ·exact Iff.rfl

theorem zo2 {K : St → Prop} (hK : ∀ σ τ, Eqv σ τ → K σ → K τ) : ∀ (l : List Nat) (σ τ : St), Eqv σ τ → vcL P Γ nt ops l K σ → vcL P Γ nt ops l K τ
  | [],σ,τ,h,hv=>hK σ τ h hv
  | i :: r,σ,τ,h,hv=>by
    simp only[vcL] at hv ⊢
    split at hv
    · exact zo2 hK r σ τ h hv
    · rename_i o ho
      rw[ze5] at hv ⊢
      rw[zDg h]
      refine⟨hv.1,λ d hd=>zo2 hK r _ _ ⟨λ t=>?_,λ L=>?_,λ x=>?_⟩ (hv.2 d hd)⟩
      · rw[znX,znX,h.env]
      · rw[zkF,zkF,h.objs]
      · rw [zj3, zj3, dqg, dqg, h.log x]
        exact or_congr (zF8 h x) Iff.rfl

theorem zj4 {K K':St->Prop}{l l':List Nat}{i:Nat}(hK:∀ σ,vcL P Γ nt ops l K σ->vcL P Γ nt ops l' K' σ) (hv:vcL P Γ nt ops (i :: l) K σ):vcL P Γ nt ops (i :: l') K' σ:=by
 simp only[vcL] at hv ⊢
 split at hv
 ·exact hK _ hv
 ·rw [ze5] at hv ⊢
  exact⟨hv.1,λ d hd=>hK _ (hv.2 d hd)⟩

theorem zrM {K : St → Prop} {R : List (Nat × Nat × Nat) → Prop} (hR : ∀ l m, (∀ x ∈ l, x ∈ m) → R m → R l) (hK : ∀ σ, K σ → R σ.log) : ∀ (l : List Nat) (σ : St), vcL P Γ nt ops l K σ → R σ.log
  | [],σ,hv=>hK σ hv
  | i :: r,σ,hv=>by
    simp only[vcL] at hv
    split at hv
    · exact zrM hR hK r σ hv
    · rw [ze5] at hv
      obtain⟨d,hd⟩:=OpAct.may_of_safe hv.1
      refine hR _ _ (λ x hx=>?_) (zrM hR hK r _ (hv.2 d hd))
      rw[zj3];exact dqg.2 (.inr hx)

def zmD (log:List (Nat×Nat×Nat)) (i j:Nat):Prop:=∀ L k m,(i,L,k)∈log->(j,L,m)∈log->zv1 k m=false

theorem znY {l:List Nat}{x:Option DV}(h:∀ v,x=some v->∀ L∈dvV v,L ∉ l):x.map (zdU l)=x:=by
 cases x with
 | none=>rfl
 | some v=>simp only[Option.map_some];rw[zo0 (h v rfl)]
theorem znZ {l:List Nat}{x:Option AO}(h:∀ v,x=some v->∀ L∈aoV v,L ∉ l):x.map (zdc l)=x:=by
 cases x with
 | none=>rfl
 | some v=>simp only[Option.map_some];rw[zo1 (h v rfl)]

theorem zDh {a b:Oper}(h:zpM ops a b=false):(∀ t∈zjN ops b,a.dst ≠ some t)/\(∀ t∈zjN ops a,b.dst ≠ some t)/\∀ t,a.dst=some t->b.dst ≠ some t:=by
 simp only[zpM,Bool.or_eq_false_iff] at h
 obtain⟨⟨h1,h2⟩,h3⟩:=h
 refine⟨λ t ht e=>?_,λ t ht e=>?_,λ t e e'=>?_⟩
 ·rw [e] at h1; simp only [meets] at h1
  have:(zjN ops b).contains t=true:=by simpa using ht
  rw[this] at h1;cases h1
 ·rw [e] at h2; simp only [meets] at h2
  have:(zjN ops a).contains t=true:=by simpa using ht
  rw[this] at h2;cases h2
 ·rw [e, e'] at h3; simp only [zv0] at h3
  rw[show Nat.beq t t=true from by simp] at h3;cases h3

theorem zDi {K : St → Prop} {i j : Nat} {oi oj : Oper} {r : List Nat} (hi : ops[i]? = some oi) (hj : ops[j]? = some oj) (hT : zpM ops oi oj = false)
    (hE:∀ τ τ',Eqv τ τ'->vcL P Γ nt ops r K τ->vcL P Γ nt ops r K τ') (hN:∀ τ,vcL P Γ nt ops r K τ->zmD τ.log i j)
    (h:vcL P Γ nt ops (i :: j :: r) K σ):vcL P Γ nt ops (j :: i :: r) K σ:=by
  obtain⟨cT1,cT2,cT3⟩:=zDh hT
  simp only[vcL,hi,hj] at h ⊢
  rw[ze5] at h
  obtain⟨hsA,hA⟩:=h
  generalize hAe:znW P Γ nt ops σ oi=A at hsA hA
  have LA:=zt7 (i:=i) hAe hsA
  -- the second operation behind the first: az before it
  have key:∀ d,A.may d->∃ B,znW P Γ nt ops (nx A (lgG ops σ i oi) i oi.dst σ d) oj=B/\B.safe /\
      (∀ e,B.may e->vcL P Γ nt ops r K (nx B (lgG ops (nx A (lgG ops σ i oi) i oi.dst σ d) j oj) j oj.dst (nx A (lgG ops σ i oi) i oi.dst σ d) e)) /\
      zmD (lgG ops (nx A (lgG ops σ i oi) i oi.dst σ d) j oj B.fp B.kl ++ (lgG ops σ i oi A.fp A.kl)) i j:=by
    intro d hd
    have h2:=hA d hd
    rw[ze5] at h2
    obtain⟨hsB,hB⟩:=h2
    refine⟨_,rfl,hsB,hB,?_⟩
    obtain⟨e,he⟩:=OpAct.may_of_safe hsB
    have:=hN _ (hB e he)
    rw[zj3,zj3] at this
    intro L k m hk hm
    refine this L k m ?_ ?_
    · rcases dqg.1 hk with h | h
      · exact dqg.2 (.inl h)
      · exact dqg.2 (.inr (dqg.2 (.inl h)))
    · rcases dqg.1 hm with h | h
      · exact dqg.2 (.inl h)
      · exact dqg.2 (.inr (dqg.2 (.inl h)))
  have main:∀ d,A.may d->∀ B,znW P Γ nt ops (nx A (lgG ops σ i oi) i oi.dst σ d) oj=B->B.safe ->
      (∀ e,B.may e->vcL P Γ nt ops r K (nx B (lgG ops (nx A (lgG ops σ i oi) i oi.dst σ d) j oj) j oj.dst (nx A (lgG ops σ i oi) i oi.dst σ d) e)) ->
      zmD (lgG ops (nx A (lgG ops σ i oi) i oi.dst σ d) j oj B.fp B.kl ++ (lgG ops σ i oi A.fp A.kl)) i j ->
      znW P Γ nt ops σ oj=B/\∀ e,B.may e->znW P Γ nt ops (nx B (lgG ops σ j oj) j oj.dst σ e) oi=A /\
        vcL P Γ nt ops r K (nx A (lgG ops (nx B (lgG ops σ j oj) j oj.dst σ e) i oi) i oi.dst (nx B (lgG ops σ j oj) j oj.dst σ e) d):=by
    intro d hd B hBe hsB hB hno
    generalize hσ1:nx A (lgG ops σ i oi) i oi.dst σ d=σ1 at hBe hB hno
    have LB:=zt7 (i:=j) hBe hsB
    have no:∀ L k m,(i,L,k)∈lgG ops σ i oi A.fp A.kl->(j,L,m)∈lgG ops σ1 j oj B.fp B.kl->zv1 k m=true->False:=λ L k m h1 h2 hc=>by
      have:=hno L k m (dqg.2 (.inr h1)) (dqg.2 (.inl h2))
      rw[this] at hc;cases hc
    have zQi:∀ t,lk σ1.env t=if oi.dst=some t then some d else (lk σ.env t).map (zdU A.kl):=λ t=>by rw[<- hσ1,znX]
    have objs1:∀ L,lk σ1.objs L=match lk A.u L with | some o=>some o | none=>(lk σ.objs L).map (zdc A.kl):=λ L=>by rw[<- hσ1,zkF]
    -- what the second looks at, the first has not changed
    have seeB:∀ t∈looks ops σ1 oj,lk σ.env t=lk σ1.env t:=by
      intro t ht
      have e:=zQi t
      rw[if_neg (cT1 t (zqp t ht))] at e
      rw[e]
      refine (znY λ v hv L hL hk=>?_).symm
      rw[hv,Option.map_some] at e
      exact no L 3 2 (LA.kl3 L hk) (LB.see t ht _ e L (by rw[zF5];exact hL)) rfl
    have fpB:∀ y∈B.fp,lk σ.objs y.1=lk σ1.objs y.1:=by
      intro y hy
      have e:=objs1 y.1
      have hn:lk A.u y.1=none:=by
        cases hu:lk A.u y.1 with
        | none=>rfl
        | some o' =>
          have h1:=LA.wr _ (zcP hu)
          rcases LB.fpt y hy with h2 | h2
          · exact (no _ _ _ h1 h2 rfl).elim
          · exact (no _ _ _ h1 h2 rfl).elim
      rw[hn] at e
      simp only at e
      rw[e]
      refine (znZ λ v hv L hL hk=>?_).symm
      rw[hv,Option.map_some] at e
      exact no L 3 2 (LA.kl3 L hk) (LB.fpm y hy _ e L (by rw[zrL];exact hL)) rfl
    have hBσ:=LB.congr σ seeB fpB
    refine⟨hBσ,λ e he=>?_⟩
    generalize hσ1':nx B (lgG ops σ j oj) j oj.dst σ e=σ1'
    have env1':∀ t,lk σ1'.env t=if oj.dst=some t then some e else (lk σ.env t).map (zdU B.kl):=λ t=>by rw[<- hσ1',znX]
    have objs1':∀ L,lk σ1'.objs L=match lk B.u L with | some o=>some o | none=>(lk σ.objs L).map (zdc B.kl):=λ L=>by rw[<- hσ1',zkF]
    have seeA:∀ t∈looks ops σ oi,lk σ1'.env t=lk σ.env t:=by
      intro t ht
      rw[env1',if_neg (cT2 t (zqp t ht))]
      exact znY λ v hv L hL hk=>no L 2 3 (LA.see t ht v hv L hL) (LB.kl3 L hk) rfl
    have uB:∀ y∈A.fp,lk B.u y.1=none:=by
      intro y hy
      cases hu:lk B.u y.1 with
      | none=>rfl
      | some o' =>
        have h1:=LB.wr _ (zcP hu)
        rcases LA.fpt y hy with h2 | h2
        · exact (no _ _ _ h2 h1 rfl).elim
        · exact (no _ _ _ h2 h1 rfl).elim
    have fpA:∀ y∈A.fp,lk σ1'.objs y.1=lk σ.objs y.1:=by
      intro y hy
      rw[objs1',uB y hy]
      exact znZ λ v hv L hL hk=>no L 2 3 (LA.fpm y hy v hv L hL) (LB.kl3 L hk) rfl
    have hAσ:=LA.congr σ1' seeA fpA
    refine⟨hAσ,hE _ _ ⟨λ t=>?_,λ L=>?_,λ x=>?_⟩ (hB e he)⟩
    · -- the temporaries
      rw[znX,znX,zQi,env1']
      by_cases h1:oj.dst=some t
      · rw [if_pos h1, if_pos h1, if_neg fun h2 => cT3 t h2 h1, Option.map_some, zo0 fun L hL hk => ?_]
        rcases LB.labd e he L hL with h3 | h3
        · exact no L 3 2 (LA.kl3 L hk) h3 rfl
        · exact no L 1 1 (LA.kl1 L hk) h3 rfl
      · rw [if_neg h1, if_neg h1]
        by_cases h2:oi.dst=some t
        · rw [if_pos h2, if_pos h2, Option.map_some, zo0 fun L hL hk => ?_]
          rcases LA.labd d hd L hL with h3 | h3
          · exact no L 2 3 h3 (LB.kl3 L hk) rfl
          · exact no L 1 1 h3 (LB.kl1 L hk) rfl
        · rw [if_neg h2, if_neg h2]
          cases lk σ.env t with
          | none=>rfl
          | some v=>simp only[Option.map_some];rw[zvw]
    · -- the objects
      rw[zkF,zkF,objs1,objs1']
      cases hb:lk B.u L with
      | some ob =>
        cases ha:lk A.u L with
        | some oa=>exact (no L 1 1 (LA.wr _ (zcP ha)) (LB.wr _ (zcP hb)) rfl).elim
        | none =>
          simp only[Option.map_some]
          rw[zo1 λ M hM hk=>no M 3 2 (LA.kl3 M hk) (LB.labu _ (zcP hb) M hM) rfl]
      | none =>
        cases ha:lk A.u L with
        | some oa =>
          simp only[Option.map_some]
          rw[zo1 λ M hM hk=>no M 2 3 (LA.labu _ (zcP ha) M hM) (LB.kl3 M hk) rfl]
        | none =>
          simp only
          cases lk σ.objs L with
          | none=>rfl
          | some v=>simp only[Option.map_some];rw[zvx]
    · -- the log
      rw[zj3,zj3]
      have l1:σ1.log=lgG ops σ i oi A.fp A.kl ++ σ.log:=by rw[<- hσ1,zj3]
      have l2:σ1'.log=lgG ops σ j oj B.fp B.kl ++ σ.log:=by rw[<- hσ1',zj3]
      rw[l1,l2]
      have e1:x∈lgG ops σ j oj B.fp B.kl↔x∈lgG ops σ1 j oj B.fp B.kl:=by
        refine LB.logc σ seeB fpB (λ L hL k=>?_) x
        rw[objs1]
        cases ha:lk A.u k with
        | some oa =>
          simp only[dqa]
          constructor
          · rintro ⟨o', ho, hL'⟩
            exact (no L 2 3 (LA.fpm _ (LA.wfp _ (zcP ha)) o' ho L hL') (LB.kl3 L hL) rfl).elim
          · rintro ⟨o', rfl, hL'⟩
            exact (no L 2 3 (LA.labu _ (zcP ha) L hL') (LB.kl3 L hL) rfl).elim
        | none =>
          simp only
          cases lk σ.objs k with
          | none=>simp
          | some v=>simp[zrL]
      have e2:x∈lgG ops σ1' i oi A.fp A.kl↔x∈lgG ops σ i oi A.fp A.kl:=by
        refine LA.logc σ1' seeA fpA (λ L hL k=>?_) x
        rw[objs1']
        cases hb:lk B.u k with
        | some ob =>
          simp only[dqa]
          constructor
          · rintro ⟨o', rfl, hL'⟩
            exact (no L 3 2 (LA.kl3 L hL) (LB.labu _ (zcP hb) L hL') rfl).elim
          · rintro ⟨o', ho, hL'⟩
            exact (no k 1 1 (LA.kb L hL k o' ho hL') (LB.wr _ (zcP hb)) rfl).elim
        | none =>
          simp only
          cases lk σ.objs k with
          | none=>simp
          | some v=>simp[zrL]
      simp only[dqg]
      rw[e1,e2,<- or_assoc,<- or_assoc]
      exact or_congr (or_comm) Iff.rfl
  rw[ze5]
  obtain⟨d0,hd0⟩:=OpAct.may_of_safe hsA
  obtain⟨B,hBe,hsB,hB,hno⟩:=key d0 hd0
  obtain⟨hBσ,hrest⟩:=main d0 hd0 B hBe hsB hB hno
  rw[hBσ]
  refine⟨hsB,λ e he=>?_⟩
  rw[ze5]
  rw[(hrest e he).1]
  refine⟨hsA,λ d hd=>?_⟩
  obtain⟨B',hBe',hsB',hB',hno'⟩:=key d hd
  obtain⟨hBσ',hrest'⟩:=main d hd B' hBe' hsB' hB' hno'
  have hBB:B'=B:=hBσ'.symm.trans hBσ
  subst hBB
  exact (hrest' e he).2

end
end Go.Pm
namespace Go.Pm
variable [DrawZ]
open Go.RowKit (Below)

section
variable {P:Program}{Γ:Ctrs}{nt B:Nat}{w0:World}{h0:Fz}{g:Gh}{σ:St}{a:Act}{w:World}{r:Option Nat}{n i:Nat}{Q:Exit->Act->World->Prop}{ops:Array Oper}

theorem zvy {K:St->Prop}(hK:∀ σ τ,Eqv σ τ->K σ->K τ):∀ (l:List Oper) (i:Nat) (σ:St),(∀ j,l[j]? = ops[i+j]?)->zht P Γ nt ops i l K σ->vcL P Γ nt ops (List.range' i l.length) K σ:=by
 intro l
 induction l with
 | nil=>intro i σ _ h;exact h
 | cons o l ih =>
  intro i σ hl h
  have ho:ops[i]? = some o:=by have:=hl 0;simpa using this.symm
  have hl':∀ j,l[j]? = ops[i+1+j]?:=λ j=>by have:=hl (j+1);rw[dqC] at this;rw[this];congr 1;omega
  rw[dqr,List.range'_succ]
  simp only[zht] at h
  split at h
  ·exact h.elim
  ·rename_i hd
   have one:∀ τ:St,zhv ops τ.env o=some true->zgQ (act P Γ o (evO τ.env) (lk τ.objs)) (zl3 τ i o) i o.dst (zht P Γ nt ops (i+1) l K) τ->vcL P Γ nt ops (i :: List.range' (i+1) l.length) K τ:=by
    intro τ hw hv
    simp only[vcL,ho]
    have e1:znW P Γ nt ops τ o=act P Γ o (evO τ.env) (lk τ.objs):=by unfold znW;rw[hd,hw]
    have e2:lgG ops τ i o=zl3 τ i o:=by funext fp kl;unfold lgG;rw[hw]
    rw[e1,e2]
    rw[ze5] at hv ⊢
    exact⟨hv.1,λ d hd=>ih (i+1) _ hl' (hv.2 d hd)⟩
   have two:∀ τ:St,zhv ops τ.env o=some false->zht P Γ nt ops (i+1) l K (τ.skip o.dst)->vcL P Γ nt ops (i :: List.range' (i+1) l.length) K τ:=by
    intro τ hw hv
    simp only[vcL,ho]
    have e1:znW P Γ nt ops τ o=.val [] (.cl .undef) [] []:=by unfold znW;rw[hd,hw]
    have e2:lgG ops τ i o=λ _ _=>[]:=by funext fp kl;unfold lgG;rw[hw]
    rw[e1,e2]
    change vcL P Γ nt ops (List.range' (i+1) l.length) K ((τ.upd i o.dst [] (.cl .undef) [] []).relog [])
    have e3:(τ.upd i o.dst [] (.cl .undef) [] []).relog []=τ.skip o.dst:=by cases o.dst <;> rfl
    rw[e3]
    exact ih (i+1) _ hl' hv
   split at h
   ·rename_i hg
    exact one σ (by unfold zhv;rw[hg]) h
   ·rename_i j want hg
    split at h
    ·exact h.elim
    ·rename_i gt hgt
     have wt:∀ b,zhv ops (σ.setT gt (.bool b)).env o=some (b == want):=λ b=>by
      unfold zhv
      rw[hg]
      simp only[hgt]
      rw[show lk (σ.setT gt (.bool b)).env gt=some (.bool b) by simp[St.setT,zay]]
     split at h
     ·rename_i b hb
      have eq:∀ c,b=c->Eqv (σ.setT gt (.bool c)) σ:=λ c hc=>⟨λ t=>by
       simp only[St.setT,zay]
       split
       ·rename_i e;subst e;rw[hb,hc]
       ·rfl,λ _=>rfl,λ _=>Iff.rfl⟩
      have h2:=zhK.1 h
      refine zo2 hK _ _ _ (eq b rfl) ?_
      cases b with
      | true =>
       have h3:=h2.1 rfl
       cases want with
       | true=>exact one _ (wt true) h3
       | false=>exact two _ (wt true) h3
      | false =>
       have h3:=h2.2 rfl
       cases want with
       | true=>exact two _ (wt false) h3
       | false=>exact one _ (wt false) h3
     ·rename_i hb
      refine two σ ?_ h
      unfold zhv
      rw[hg]
      simp only[hgt]
      rw[hb]
     ·exact h.elim

theorem zKL (hok : OkAll P Γ) {K : St → Prop} {l : List Nat} {R : Act → World → Prop} {D : List Nat} {a0 : Act} {ad : List Deferred} (hD : ∀ (j : Nat) (o : Oper), ops[j]? = some o → ∀ t, o.dst = some t → t ∈ D)
    (hv:vcL P Γ nt ops (i :: l) K σ) (S:Sim P nt B w0 h0 g σ a w) (hkp:Kp D a0 a) (had:a.defers=ad)
    (hR:∀ σ' g' a' w',vcL P Γ nt ops l K σ'->Sim P nt B w0 h0 g' σ' a' w'->Kp D a0 a'->a'.defers=ad->R a' w'):wpOpIn (FR r) n P ops Q i R a w:=by
  simp only[vcL] at hv
  unfold wpOpIn
  split at hv
  · rename_i ho
    rw[ho]
    exact hR σ g a w hv S hkp had
  · rename_i o ho
    rw[ho]
    simp only
    obtain⟨hs,hk⟩:=zma.1 hv
    have wnt:∀ b,zhv ops σ.env o=some b->Region.wanted o (yielded ops a.tmps)=b:=by
      intro b hw
      unfold zhv at hw
      split at hw
      · rename_i hg
        simp only[dqa] at hw;subst hw
        simp[Region.wanted,hg]
      · rename_i j want hg
        split at hw
        · cases hw
        · rename_i gt hgt
          split at hw
          · rename_i c hb
            simp only[dqa] at hw;subst hw
            have hvv:a.tmps.getD gt undef=.bool c:=by
              have:=S.env gt _ hb
              generalize a.tmps.getD gt undef=v at this
              cases this;rfl
            simp[Region.wanted,hg,zhT hgt hvv]
          · rename_i hb
            simp only[dqa] at hw;subst hw
            have hvv:a.tmps.getD gt undef=undef:=S.env gt _ hb
            simp[Region.wanted,hg,zgZ hgt hvv]
          · cases hw
    generalize hA:znW P Γ nt ops σ o=A at hs hk
    have hA':=hA
    unfold znW at hA
    split at hA
    · rename_i hd hw
      rw[if_pos (wnt true hw)]
      refine zms (zEq (zmm (i:=i) (Q:=Q) (r:=r) (n:=n) hok S hd hA hs)) ?_
      rintro a' w' ⟨⟨hdf,g',σ',hst,S'⟩,v,ds,rfl⟩
      exact hR _ g' _ w' (hk σ' hst) (S'.log _) (hkp.put (hD i o ho) v ds ((put_defers _ _ _).symm.trans hdf)) (hdf.trans had)
    · rename_i hd hw
      rw[if_neg (by rw[wnt false hw];simp)]
      refine⟨λ _ _=>trivial,?_⟩
      subst hA
      refine hR _ g _ w (hk _ rfl) ?_ (hkp.put (hD i o ho) undef a.defers rfl) ((put_defers _ _ _).trans had)
      have:=S.skip hd
      have e:(σ.upd i o.dst [] (.cl .undef) [] [])=σ.skip o.dst:=by cases o.dst <;> rfl
      rw[e]
      exact this.log _
    · exact dq9 hA hs

theorem zqr {K : St → Prop} {i : Nat} {oi : Oper} {l2 : List Nat} (hi : ops[i]? = some oi) (hE : ∀ σ τ, Eqv σ τ → K σ → K τ) {R : List (Nat × Nat × Nat) → Prop} (hR : ∀ l m, (∀ x ∈ l, x ∈ m) → R m → R l) (hK : ∀ σ, K σ → R σ.log) :
  ∀ (l1:List Nat) (σ:St),(∀ p∈l1,(∀ log,R log->zmD log p i)/\∀ op,ops[p]? = some op->zpM ops op oi=false) ->
   vcL P Γ nt ops (l1 ++ i :: l2) K σ->vcL P Γ nt ops (i :: (l1 ++ l2)) K σ
 | [],σ,_,h=>h
 | p :: l1,σ,hp,h=>by
  have h1:vcL P Γ nt ops (p :: i :: (l1 ++ l2)) K σ:=zj4 (λ σ h=>zqr hi hE hR hK l1 σ (λ q hq=>hp q (dqf _ hq)) h) h
  obtain⟨hN,hT⟩:=hp p dqj
  cases hop:ops[p]? with
  | none =>
   have e:∀ l σ,vcL P Γ nt ops (p :: l) K σ↔vcL P Γ nt ops l K σ:=λ l σ=>by simp only[vcL,hop]
   have h2:=(e _ _).1 h1
   exact zj4 (λ τ h=>(e _ _).2 h) h2
  | some op =>
   exact zDi hop hi (hT op hop) (λ τ τ' he hv=>zo2 hE _ _ _ he hv) (λ τ hv=>hN _ (zrM hR hK _ _ hv)) h1

theorem zmE {ms:List Nat}{S:Nat->Prop}{p:Nat} : ∀ (es:List Edge),(∀ e∈es,Region.binds .any e=true->S e.on) ->
  (∀ k m,ms[k]? = some m->S k->m.testBit p=true->S p)->(zl4 ms es).testBit p=true->S p
 | [],_,_,h=>by simp[zl4] at h
 | e :: r,he,hm,h=>by
  have ih:=zmE (ms:=ms) (p:=p) r (λ e' h'=>he e' (dqf _ h')) hm
  simp only[zl4] at h
  split at h
  ·rename_i m hb hms
   have hS:=he e dqj hb
   rw[Nat.testBit_or,Nat.testBit_or,Bool.or_eq_true,Bool.or_eq_true] at h
   rcases h with (h | h) | h
   ·rw [Nat.testBit_two_pow] at h
    have:e.on=p:=of_decide_eq_true h
    rw[<- this];exact hS
   ·exact hm _ _ hms hS h
   ·exact ih h
  ·exact ih h

theorem zn0 {S:Nat->Prop}{p:Nat}(hcl:∀ (k:Nat) (o:Oper),ops[k]? = some o->S k->∀ e∈o.after,Region.binds .any e=true->S e.on):∀ (l:List Oper) (ms:List Nat),(∀ j,l[j]? = ops[ms.length+j]?) ->
  (∀ (k:Nat) (o:Oper) (m:Nat),ops[k]? = some o->ms[k]? = some m->(∀ e∈o.after,Region.binds .any e=true->S e.on)->m.testBit p=true->S p) ->
  ∀ (k:Nat) (o:Oper) (m:Nat),ops[k]? = some o->(masks l ms)[k]? = some m->(∀ e∈o.after,Region.binds .any e=true->S e.on)->m.testBit p=true->S p
 | [],ms,_,h=>h
 | o :: r,ms,hl,h=>by
  have ho:ops[ms.length]? = some o:=by have:=hl 0;simpa using this.symm
  simp only[masks]
  refine zn0 hcl r (ms ++ [zl4 ms o.after.toList]) (λ j=>by have:=hl (j+1);rw[dqC] at this;rw[this,dqu];congr 1;simp;omega) ?_
  intro k ok m hk hm he hb
  rw[List.getElem?_append] at hm
  split at hm
  ·exact h k ok m hk hm he hb
  ·rename_i hlt
   have hk':k=ms.length:=by
    rcases Nat.lt_or_ge k (ms.length+1) with h1 | h1
    ·omega
    ·rw[dqM (by simp;omega)] at hm;cases hm
   subst hk'
   rw[ho] at hk
   simp only[dqa] at hk;subst hk
   simp only[Nat.sub_self,List.getElem?_cons_zero,dqa] at hm
   subst hm
   refine zmE _ (λ e h'=>he e (by simpa using h')) (λ k' m' hm' hS hb'=>?_) hb
   have hlt':k' < ms.length:=by
    rcases Nat.lt_or_ge k' ms.length with h1 | h1
    ·exact h1
    ·rw[dqM h1] at hm';cases hm'
   cases hok:ops[k']? with
   | some ok'=>exact h k' ok' m' hok hm' (hcl k' ok' hok hS) hb'
   | none =>
    have hlen:ms.length < ops.size:=by
     rcases Nat.lt_or_ge ms.length ops.size with h1 | h1
     ·exact h1
     ·rw[Array.getElem?_eq_none h1] at ho;cases ho
    rw[Array.getElem?_eq_none_iff] at hok;omega

def zls (ms:List Nat) (log:List (Nat×Nat×Nat)):Prop:=zou ms log=true
theorem zls.sub {ms:List Nat}(l m:List (Nat×Nat×Nat)) (h:∀ x∈l,x∈m) (hm:zls ms m):zls ms l:=by
 simp only[zls,zou,List.all_eq_true] at hm ⊢
 exact λ x hx y hy=>hm x (h x hx) y (h y hy)
theorem zls.no {ms:List Nat}{log:List (Nat×Nat×Nat)}(h:zls ms log){p i:Nat}(hpi:p < i) (hb:∀ m,ms[i]? = some m->m.testBit p=false):zmD log p i:=by
 intro L k m h1 h2
 simp only[zls,zou,List.all_eq_true] at h
 have:=h _ h1 _ h2
 simp only[Bool.or_eq_true,Bool.not_eq_true'] at this
 rcases this with ((h3 | h3) | h3) | h3
 ·rw[show Nat.blt p i=true from by simpa [Nat.blt_eq] using hpi] at h3;cases h3
 ·rw[show Nat.beq L L=true from by simp] at h3;cases h3
 ·exact h3
 ·split at h3
  ·rename_i m' hm';rw[hb m' hm'] at h3;cases h3
  ·cases h3

def unl (ops:Array Oper) (listed:Array Bool):List Nat:=(List.range ops.size).filter λ k=>!listed.getD k true

theorem zmF {listed:Array Bool} : i∈Region.ready .any ops listed↔i∈unl ops listed/\∃ o,ops[i]? = some o/\∀ e∈o.after,Region.binds .any e=true->listed.getD e.on false=true:=by
 simp only[Region.ready,unl,List.mem_filter,dqm]
 constructor
 ·rintro ⟨h1, h2, h3⟩
  refine⟨⟨h1,h2⟩,?_⟩
  cases ho:ops[i]? with
  | none=>rw[ho] at h3;simp at h3
  | some o =>
   rw[ho] at h3
   simp only[Option.map_some,Option.getD_some,Array.all_eq_true_iff_forall_mem,Bool.or_eq_true,Bool.not_eq_true'] at h3
   refine⟨o,rfl,λ e he hb=>?_⟩
   rcases h3 e he with h | h
   ·rw[hb] at h;cases h
   ·exact h
 ·rintro ⟨⟨h1, h2⟩, o, ho, h3⟩
  refine⟨h1,h2,?_⟩
  rw[ho]
  simp only[Option.map_some,Option.getD_some,Array.all_eq_true_iff_forall_mem,Bool.or_eq_true,Bool.not_eq_true']
  intro e he
  cases hb:Region.binds .any e with
  | false=>exact .inl rfl
  | true=>exact .inr (h3 e he hb)

theorem zt8 {listed:Array Bool}{i k:Nat}{b:Bool} : (listed.setIfInBounds i true).getD k b=if k=i/\k < listed.size then true else listed.getD k b:=by
 rw[dql,dql,Array.getElem?_setIfInBounds]
 by_cases h:i=k
 ·subst h
  by_cases hs:i < listed.size
  ·simp[hs]
  ·simp[hs]
 ·rw[if_neg h,if_neg (by omega)]

theorem zF9 {listed:Array Bool}(hsz:listed.size=ops.size):unl ops (listed.setIfInBounds i true)=(unl ops listed).filter λ k=>!(k == i):=by
 unfold unl
 rw[List.filter_filter]
 refine List.filter_congr λ k hk=>?_
 have hk:=List.mem_range.1 hk
 rw[zt8]
 by_cases h:k=i
 ·subst h;rw[if_pos ⟨rfl,by omega⟩];simp
 ·rw[if_neg (λ h'=>h h'.1)];simp[h]

theorem zGa (hok : OkAll P Γ) {K : St → Prop} {D : List Nat} {a0 : Act} {ad : List Deferred} (hD : ∀ (j : Nat) (o : Oper), ops[j]? = some o → ∀ t, o.dst = some t → t ∈ D) (hE : ∀ σ τ, Eqv σ τ → K σ → K τ) (hlow : zCA ops = true) (hT : ztC ops (masks ops.toList []) = true)
    (hL:∀ σ,K σ->zls (masks ops.toList []) σ.log) (hQ:∀ σ',K σ'->∀ g' a' w',Sim P nt B w0 h0 g' σ' a' w'->Kp D a0 a'->a'.defers=ad->Q .normal a' w') :
    ∀ (fuel:Nat) (listed:Array Bool) (σ:St) (g:Gh) (a:Act) (w:World),listed.size=ops.size->(unl ops listed).length<=fuel ->
      (∀ k o,ops[k]? = some o->listed.getD k false=true->∀ e∈o.after,Region.binds .any e=true->listed.getD e.on false=true) ->
      vcL P Γ nt ops (unl ops listed) K σ->Sim P nt B w0 h0 g σ a w->Kp D a0 a->a.defers=ad->wpAnyIn (FR r) n P .any ops Q fuel listed a w:=by
  -- if nothing is ready, nothing is left
  have stuck:∀ listed:Array Bool,Region.ready .any ops listed=[]->unl ops listed=[]:=by
    intro listed hr
    cases hu:unl ops listed with
    | nil=>rfl
    | cons i rest =>
      exfalso
      have hi:i∈unl ops listed:=by rw[hu];exact dqj
      have hsz:i < ops.size:=List.mem_range.1 (List.mem_filter.1 hi).1
      have hsort:(unl ops listed).Pairwise (· < ·):=List.Pairwise.filter _ List.pairwise_lt_range
      have:i∈Region.ready .any ops listed:=by
        refine zmF.2 ⟨hi,ops[i],Array.getElem?_eq_getElem hsz,λ e he hb=>?_⟩
        simp only[zCA,List.all_eq_true] at hlow
        have h1:=hlow i (List.mem_range.2 hsz)
        rw[Array.getElem?_eq_getElem hsz] at h1
        simp only[List.all_eq_true,Bool.or_eq_true,Bool.not_eq_true'] at h1
        have h2:e.on < i:=by
          rcases h1 e (by simpa using he) with h | h
          · rw[hb] at h;cases h
          · simpa [Nat.blt_eq] using h
        cases hl:listed.getD e.on false with
        | true=>rfl
        | false =>
          exfalso
          have hmem:e.on∈unl ops listed\/listed.getD e.on true=true:=by
            cases hl2:listed.getD e.on true with
            | true=>exact .inr rfl
            | false=>exact .inl (List.mem_filter.2 ⟨List.mem_range.2 (by omega),by rw[hl2];rfl⟩)
          rw[hu] at hmem hsort
          rcases hmem with hmem | hmem
          · rcases dqq.1 hmem with h | h
            · omega
            · have:=(List.pairwise_cons.1 hsort).1 _ h;omega
          · -- then it lies outside
            rw[dql] at hl hmem
            have hout:listed[e.on]? = none:=by
              cases hx:listed[e.on]? with
              | none=>rfl
              | some b=>rw[hx] at hl hmem;simp at hl hmem;rw[hl] at hmem;cases hmem
            have hi2:listed.getD i true=true:=by
              rw[Array.getElem?_eq_none_iff] at hout
              rw[dql,Array.getElem?_eq_none (by omega)];rfl
            have:=(List.mem_filter.1 hi).2
            rw[hi2] at this;cases this
      rw[hr] at this;simp at this
  intro fuel
  induction fuel with
  | zero =>
    intro listed σ g a w hsz hf hcl hv S hkp had
    have hnil:unl ops listed=[]:=List.eq_nil_of_length_eq_zero (by omega)
    refine⟨?_,?_⟩
    · cases hr:Region.ready .any ops listed with
      | nil=>rfl
      | cons i l =>
        have:=(zmF (i:=i) (ops:=ops) (listed:=listed)).1 (by rw[hr];exact dqj)
        rw[hnil] at this;simp at this
    · rw [hnil] at hv
      exact hQ σ hv g a w S hkp had
  | succ fuel ih =>
    intro listed σ g a w hsz hf hcl hv S hkp had
    refine⟨λ hr=>?_,λ i hi=>?_⟩
    · have hnil := stuck listed hr
      rw[hnil] at hv
      exact hQ σ hv g a w S hkp had
    · obtain ⟨hu, oi, hoi, hed⟩ := zmF.1 hi
      have hil:i < ops.size:=List.mem_range.1 (List.mem_filter.1 hu).1
      have hsort:(unl ops listed).Pairwise (· < ·):=List.Pairwise.filter _ List.pairwise_lt_range
      obtain⟨l1,l2,hl⟩:=List.append_of_mem hu
      rw[hl] at hsort hv
      have hlt:∀ p∈l1,p < i:=λ p hp=>(List.pairwise_append.1 hsort).2.2 p hp i dqj
      have hgt:∀ p∈l2,i < p:=λ p hp=>(List.pairwise_cons.1 (List.pairwise_append.1 hsort).2.1).1 p hp
      have hset:unl ops (listed.setIfInBounds i true)=l1 ++ l2:=by
        rw[zF9 hsz,hl,List.filter_append,List.filter_cons]
        rw[if_neg (by simp),List.filter_eq_self.2 λ p hp=>by have:=hlt p hp;simp;omega,List.filter_eq_self.2 λ p hp=>by have:=hgt p hp;simp;omega]
      have bits:∀ p∈l1,∀ m,(masks ops.toList [])[i]? = some m->m.testBit p=false:=by
        intro p hp m hm
        cases hb:m.testBit p with
        | false=>rfl
        | true =>
          exfalso
          have:=zn0 (S:=λ k=>listed.getD k false=true) (p:=p) (ops:=ops) (λ k o ho hS=>hcl k o ho hS) ops.toList [] (λ j=>by simp) (λ k o m _ hm=>by simp at hm) i oi m hoi hm hed hb
          have hpu:p∈unl ops listed:=by rw[hl];exact dqg.2 (.inl hp)
          have h2:=(List.mem_filter.1 hpu).2
          rw[dql] at this h2
          cases hx:listed[p]? with
          | none=>rw[hx] at this;simp at this
          | some b=>rw[hx] at this h2;simp at this h2;rw[this] at h2;cases h2
      have hfront:=zqr hoi hE (R:=zls (masks ops.toList [])) zls.sub hL l1 σ (λ p hp=>⟨λ log hlog=>hlog.no (hlt p hp) (bits p hp),λ op hop=>?_⟩) hv
      · refine zKL hok hD hfront S hkp had fun σ' g' a' w' hv' S' hkp' had' => ?_
        refine ih (listed.setIfInBounds i true) σ' g' a' w' (by simpa using hsz) ?_ ?_ ?_ S' hkp' had'
        · rw [hset]
          rw[hl] at hf
          simp only[dqu,dqr] at hf ⊢
          omega
        · intro k o hk hlk e he hb
          rw[zt8] at hlk ⊢
          split at hlk
          · rename_i hki
            rw[hki.1,hoi] at hk
            simp only[dqa] at hk;subst hk
            have:=hed e he hb
            split
            · rfl
            · exact this
          · have := hcl k o hk hlk e he hb
            split
            · rfl
            · exact this
        · rw[hset];exact hv'
      · simp only [ztC, List.all_eq_true] at hT
        have h1:=hT i (List.mem_range.2 hil) p (List.mem_range.2 (hlt p hp))
        rw[hop,hoi] at h1
        cases hm:(masks ops.toList [])[i]? with
        | none=>rw[hm] at h1;simp at h1
        | some m =>
          rw[hm] at h1
          simp only[Bool.or_eq_true,Bool.not_eq_true'] at h1
          rcases h1 with h | h
          · exact h
          · rw[bits p hp m hm] at h;cases h

theorem Sim.drew (S:Sim P nt B w0 h0 g σ a w):Sim P nt B w0 h0 g σ a { w with drawn:=w.drawn+1 }:=by
 refine { S with obj:=λ L o h=>?_,below:=?_,hw:=S.hw,bs:=S.bs }
 ·have := S.obj L o h
  cases o <;> exact this
 ·exact S.below.drew

theorem zvz (hok : OkAll P Γ) {K : St → Prop} {D : List Nat} {a0 : Act} (hD : ∀ (j : Nat) (o : Oper), ops[j]? = some o → ∀ t, o.dst = some t → t ∈ D) (hkp : Kp D a0 a) (hm : P.follows .mixedOrders = true) (hlow : zCA ops = true) (hT : ztC ops (masks ops.toList []) = true) (hE : ∀ σ τ, Eqv σ τ → K σ → K τ)
    (h:zht P Γ nt ops 0 ops.toList (λ σ'=>match zou (masks ops.toList []) σ'.log with
      | true=>K σ'
      | false=>False) σ) (S:Sim P nt B w0 h0 g σ a w)
    (hQ:∀ σ',K σ'->∀ g' a' w',Sim P nt B w0 h0 g' σ' a' w'->Kp D a0 a'->a'.defers=a.defers->Q .normal a' w') {id:Nat} : (Code.region id ops true).wpIn (FR r) n P Q a w:=by
  refine wpIn_region_any hm ?_
  have hE':∀ σ τ:St,Eqv σ τ->(match zou (masks ops.toList []) σ.log with | true=>K σ | false=>False)->(match zou (masks ops.toList []) τ.log with | true=>K τ | false=>False):=by
    intro σ τ he hσ
    split at hσ
    · rename_i hl
      have:zls (masks ops.toList []) τ.log:=zls.sub _ _ (λ x hx=>(he.log x).2 hx) hl
      rw[show zou (masks ops.toList []) τ.log=true from this]
      exact hE σ τ he hσ
    · exact hσ.elim
  have hun:unl ops (Array.replicate ops.size false)=List.range ops.size:=by
    unfold unl
    refine List.filter_eq_self.2 λ k hk=>?_
    have:=List.mem_range.1 hk
    simp[dql,this]
  refine zGa hok hD (K:=λ σ'=>match zou (masks ops.toList []) σ'.log with | true=>K σ' | false=>False) hE' hlow hT (λ σ hσ=>?_) (λ σ' hσ=>?_) ops.size _ σ g a _ (by simp) ?_ ?_ ?_ S.drew hkp rfl
  · split at hσ
    · assumption
    · exact hσ.elim
  · split at hσ
    · exact hQ σ' hσ
    · exact hσ.elim
  · rw[hun];simp
  · intro k o _ hk
    rw[dql] at hk
    by_cases hks:k < ops.size
    · simp[hks] at hk
    · rw[Array.getElem?_eq_none (by simp;omega)] at hk;simp at hk
  · rw [hun]
    have:=zvy hE' ops.toList 0 σ (λ j=>by simp) h
    rw[List.range_eq_range']
    simpa using this
end
end Go.Pm
namespace Go.Pm
variable [DrawZ]
open Go.RowKit (Below)

def zEs (h h':Fz):Prop:=∀ b o,h b=some o->(∃ C ty fr,o=.fz (.cells C ty fr))\/(∃ F,o=.inv F)\/(∃ es c,o=.fz (.map es c))->h' b=some o
theorem Fle.c {h h':Fz}(hl:Fle h h'):zEs h h':=λ b o hb _=>hl b o hb

section
variable {P:Program}{Γ:Ctrs}{nt B:Nat}{w0:World}{h0:Fz}{g:Gh}{σ:St}{a:Act}{w:World}{r:Option Nat}{n i:Nat}{Q:Exit->Act->World->Prop}

abbrev Gh.re (g:Gh) (h:Fz):Gh:=⟨h,g.bk,g.sv,g.iv⟩

theorem zEt {h:Fz}(hl:zEs g.h h){c:Cl}{x:Value}(hc:clR g c x):clR (g.re h) c x:=by
 cases c with
 | p v=>exact Rep.mono' hl hc
 | xf cells b n m j c=>exact⟨hc.1,Rep.mono' hl hc.2⟩
 | clo f caps=>obtain⟨cv,e,hr⟩:=hc;exact⟨cv,e,zgo (λ _ _ hp=>Rep.mono' hl hp) (λ _ _=>rfl) hr⟩
 | mkey it L=>obtain⟨k,C,ty,fr,e,h1,h2⟩:=hc;exact⟨k,C,ty,fr,e,hl _ _ h1 (.inl ⟨_,_,_,rfl⟩),h2⟩
 | _=>exact hc
theorem zKM {h:Fz}(hl:zEs g.h h):∀ {cs:List Cl}{vs:List Value},RL (clR g) cs vs->RL (clR (g.re h)) cs vs:=λ hc=>hc.mono λ _ _=>zEt hl
theorem zEu {h:Fz}(hl:zEs g.h h){d:D1}{x:Value}(hd:d1R g d x):d1R (g.re h) d x:=by
 cases d with
 | c y=>exact zEt hl hd
 | agg cs=>obtain⟨vs,rfl,hr⟩:=hd;exact⟨vs,rfl,zKM hl hr⟩
theorem zxj {h:Fz}(hl:zEs g.h h){d:DV}{x:Value}(hd:dvR g d x):dvR (g.re h) d x:=by
 cases d with
 | one y=>exact zEu hl hd
 | tup ds=>obtain⟨vs,rfl,hr⟩:=hd;exact⟨vs,rfl,hr.mono λ _ _=>zEu hl⟩
theorem zxk {h:Fz}(hl:zEs g.h h){L:Nat}{o:AO}(ho:aoR P g w B L o):aoR P (g.re h) w B L o:=by
 cases o with
 | box ty cs=>obtain⟨C,hC,hr⟩:=ho;exact⟨C,hC,zKM hl hr⟩
 | fbox cs=>obtain⟨C,ty,fr,hC,hr⟩:=ho;exact⟨C,ty,fr,hl _ _ hC (.inl ⟨_,_,_,rfl⟩),hr.mono λ _ _=>Rep.mono' hl⟩
 | vec e s b n get=>obtain⟨h1,h2,xs,hx,hr⟩:=ho;exact⟨h1,h2,xs,hx,λ i hi=>(hr i hi).mono λ _ _=>Rep.mono' hl⟩
 | fvec s n get=>exact⟨Rep.mono' hl ho.1,ho.2⟩
 | vv te bb e s b n ln get =>
  obtain⟨h1,h2,h3,h4,h5,h6⟩:=ho
  exact⟨h1,h2,h3,h4,λ i hi=>by obtain⟨h7,h70,xs,hx,hr⟩:=h5 i hi;exact⟨h7,h70,xs,hx,λ j hj=>(hr j hj).mono λ _ _=>Rep.mono' hl⟩,h6⟩
 | mo kt vt q n F=>exact ho
 | vm te bb kt vt q n mk nn F=>exact ho
 | mit q n F seen =>
  rcases ho with h1 | ⟨m,es,clock,sb,en,h1,h2⟩
  ·exact .inl h1
  ·exact .inr ⟨m,es,clock,sb,en,hl _ _ h1 (.inr (.inr ⟨_,_,rfl⟩)),h2⟩
 | gone=>trivial

def Fz.add (h:Fz) (b:Nat) (o:Obj):Fz:=λ k=>if k=b then some (.fz o) else h k
def Fz.del (h:Fz) (b:Nat):Fz:=λ k=>if k=b then none else h k
theorem Fz.add_same {h:Fz}{b:Nat}{o:Obj} : h.add b o b=some (.fz o):=if_pos rfl
theorem Fz.add_other {h:Fz}{b k:Nat}{o:Obj}(hk:k ≠ b):h.add b o k=h k:=if_neg hk
theorem Fz.del_same {h:Fz}{b:Nat} : h.del b b=none:=if_pos rfl
theorem Fz.del_other {h:Fz}{b k:Nat}(hk:k ≠ b):h.del b k=h k:=if_neg hk
theorem Fz.le_add {h:Fz}{b:Nat}{o:Obj}(hb:h b=none):Fle h (h.add b o):=λ k x hk=>by
 rw[Fz.add_other (λ e=>by subst e;rw[hb] at hk;cases hk)];exact hk

theorem zhu.del {h0:Fz}{b:Nat}{o:Obj}(H:zhu (h0.add b o)) (hc:o.isCells=false) (hmm:∀ es c,o ≠ .map es c):zhu h0:=by
 have key:∀ k x,h0.add b o k=some x->(∃ C ty fr,x=.fz (.cells C ty fr))\/(∃ F,x=.inv F)\/(∃ es c,x=.fz (.map es c))->h0 k=some x:=λ k x hk hx=>by
  by_cases e:k=b
  ·subst e
   rw[Fz.add_same] at hk;simp only[dqa] at hk;subst hk
   rcases hx with ⟨C,ty,fr,hx⟩ | ⟨F,hx⟩ | ⟨es,c,hx⟩
   ·cases hx;cases hc
   ·cases hx
   ·cases hx;exact absurd rfl (hmm _ _)
  ·rwa[Fz.add_other e] at hk
 intro k l hk
 obtain⟨C,ty,fr,h1,h2⟩:=H k l hk
 exact⟨C,ty,fr,key _ _ h1 (.inl ⟨_,_,_,rfl⟩),h2.mono λ _ _ r=>r.mono' key⟩
theorem Sim.hide (S : Sim P nt B w0 h0 g σ a w) {b : Nat} {o : Obj} (hb : g.h b = none) (hw : w.heap[b]? = some o) (hB : B ≤ b) (hno : ∀ L o, lk σ.objs L = some o → ¬ obk g L o b) :
  Sim P nt B w0 (h0.add b o) (g.re (g.h.add b o)) σ a w:=by
 have hle:=Fz.le_add (o:=o) hb
 have h0b:h0 b=none:=by
  cases h:h0 b with
  | none=>rfl
  | some x=>rw[S.le0 b x h] at hb;cases hb
 refine⟨S.dfr.mono hle,S.size,λ t d ht=>zxj hle.c (S.env t d ht),λ L x hL=>zxk hle.c (S.obj L x hL),λ L x k hL hk=>?_,S.sep,?_,?_,?_,?_,S.bs,S.clE,S.clO,S.gl.mono (Fz.le_add h0b)⟩
 ·obtain ⟨h1, h2⟩ := S.own L x k hL hk
  refine⟨h1,?_⟩
  show g.h.add b o k=none
  rw[Fz.add_other (λ e=>hno L x hL (by rw[<- e];exact hk))];exact h2
 ·intro k x hk
  by_cases h:k=b
  ·subst h
   have hk:g.h.add k o k=some x:=hk
   rw[Fz.add_same] at hk;simp only[dqa] at hk;subst hk
   exact⟨o,hw,rfl⟩
  ·have hk : g.h.add b o k = some x := hk
   rw[Fz.add_other h] at hk;exact S.hw k x hk
 ·intro k x hk
  show g.h.add b o k=some x
  by_cases h:k=b
  ·subst h;rw[Fz.add_same] at hk ⊢;exact hk
  ·rw[Fz.add_other h] at hk ⊢;exact S.le0 k x hk
 ·intro k x hk
  have hk:g.h.add b o k=some x:=hk
  by_cases h:k=b
  ·exact .inr (h ▸ hB)
  ·rw[Fz.add_other h] at hk ⊢;exact S.hn k x hk
 ·exact⟨S.below.os,S.below.tape,S.below.output,S.below.size,S.below.drawn,λ k hk hn=>S.below.block k hk λ F hF=>by
   refine hn F ?_
   rw[Fz.add_other (λ e=>by subst e;rw[h0b] at hF;cases hF)];exact hF⟩

theorem Sim.unhide {b : Nat} {o : Obj} (S : Sim P nt B w0 (h0.add b o) g σ a w) (hB : B ≤ b) (h0b : h0 b = none) (hc : o.isCells = false) (hm : ∀ ds, o ≠ .deferred ds) (hmm : ∀ es c, o ≠ .map es c) :
  g.h b=some (.fz o)/\(∀ L x,lk σ.objs L=some x->¬ obk g L x b)/\w.heap[b]? = some o/\Sim P nt B w0 h0 (g.re (g.h.del b)) σ a w:=by
 have hb:g.h b=some (.fz o):=S.le0 b _ Fz.add_same
 have hl:zEs g.h (g.h.del b):=λ k x hk hx=>by
  rw[Fz.del_other];exact hk
  intro e;subst e;rw[hb] at hk;simp only[dqa] at hk;subst hk
  rcases hx with ⟨C,ty,fr,hx⟩ | ⟨F,hx⟩ | ⟨es,c,hx⟩
  ·cases hx;cases hc
  ·cases hx
  ·cases hx;exact hmm _ _ rfl
 have hwb:w.heap[b]? = some o:=S.hw.fz hb
 refine⟨hb,(λ L x hL hk=>by (have:=(S.own L x b hL hk).2;rw[hb] at this;cases this)),hwb,?_⟩
 refine⟨?_,S.size,λ t d ht=>zxj hl (S.env t d ht),λ L x hL=>zxk hl (S.obj L x hL),λ L x k hL hk=>?_,S.sep,?_,?_,?_,?_,S.bs,S.clE,S.clO,S.gl.del hc hmm⟩
 ·obtain ⟨Ds, h1, h2, h3, h4⟩ := S.dfr
  refine⟨Ds,h1,h2,λ D hD=>⟨(h3 D hD).1,?_⟩,h4⟩
  show g.h.del b D=_
  rw[Fz.del_other];exact (h3 D hD).2
  intro e;subst e
  have:=(h3 D hD).2
  rw[hb] at this;simp only[dqa,FzO.fz.injEq] at this
  exact hm _ this
 ·obtain ⟨h1, h2⟩ := S.own L x k hL hk
  refine⟨h1,?_⟩
  show g.h.del b k=none
  unfold Fz.del
  split
  ·rfl
  ·exact h2
 ·intro k x hk
  have hk:g.h.del b k=some x:=hk
  unfold Fz.del at hk
  split at hk
  ·cases hk
  ·exact S.hw k x hk
 ·intro k x hk
  have hkb:k ≠ b:=λ e=>by subst e;rw[h0b] at hk;cases hk
  show g.h.del b k=some x
  rw[Fz.del_other hkb]
  exact S.le0 k x (by rw[Fz.add_other hkb];exact hk)
 ·intro k x hk
  have hk:g.h.del b k=some x:=hk
  by_cases h:k=b
  ·exact .inr (h ▸ hB)
  ·rw [Fz.del_other h] at hk
   rcases S.hn k x hk with h1 | h1
   ·rw[Fz.add_other h] at h1;exact .inl h1
   ·exact .inr h1
 ·exact⟨S.below.os,S.below.tape,S.below.output,S.below.size,S.below.drawn,λ k hk hn=>S.below.block k hk λ F hF=>by
   by_cases h:k=b
   ·omega
   ·rw[Fz.add_other h] at hF;exact hn F hF⟩

theorem Sim.putObj (S:Sim P nt B w0 h0 g σ a w){b:Nat}(o:Obj) (hb:g.h b=none) (hB:B<=b) (hno:∀ L x,lk σ.objs L=some x->¬ obk g L x b):Sim P nt B w0 h0 g σ a (w.putObj b o):=by
  have hne:∀ k,k ≠ b->(w.putObj b o).heap[k]? = w.heap[k]?:=λ k hk=>World.putObj_heap_other hk
  refine S.change (g' := g) (objs' := σ.objs) (fun L _ _ => zd0.refl g L) (fun _ _ h => h) (S.hw.same fun k x hk => hne k fun e => by subst e; rw [hb] at hk; cases hk) (fun _ _ h => .inl h)
    ⟨rfl,rfl,rfl,by simp,dqt _,λ k hk _=>hne k (by omega)⟩ ?_ S.own S.sep (λ L o h=>⟨o,h⟩) S.clO
  intro L x hL
  exact zcV (S.obj L x hL) (zd0.refl g L) (λ M _=>zd0.refl g M) (λ _ _ h=>h) λ k hk=>hne k λ e=>by subst e;exact hno L x hL hk

theorem Sim.act (S:Sim P nt B w0 h0 g σ a w){a':Act}(hd:Marks P B g.h a'.defers) (hs:nt<=a'.tmps.size) (he:∀ t d,lk σ.env t=some d->dvR g d (a'.tmps.getD t undef)):Sim P nt B w0 h0 g σ a' w :=
 ⟨hd,hs,he,S.obj,S.own,S.sep,S.hw,S.le0,S.hn,S.below,S.bs,S.clE,S.clO,S.gl⟩

theorem Sim.envs (S : Sim P nt B w0 h0 g σ a w) {env : List (Nat × DV)} (he : ∀ t d, lk env t = some d → dvR g d (a.tmps.getD t undef)) (hl : ∀ t d, lk env t = some d → ∀ L ∈ zbf d, ∃ o, lk σ.objs L = some o)
    (l:List (Nat×Nat×Nat)):Sim P nt B w0 h0 g ⟨env,σ.objs,l⟩ a w :=
  ⟨S.dfr,S.size,he,S.obj,S.own,S.sep,S.hw,S.le0,S.hn,S.below,S.bs,hl,S.clO,S.gl⟩

theorem fold_size : ∀ (l : List (Nat × Value)) (t : Array Value), (l.foldl (fun t (p, v) => t.setIfInBounds p v) t).size = t.size
  | [],t=>rfl
  | (p,v) :: l,t=>by rw[List.foldl_cons,fold_size l];simp
theorem zn1 : ∀ (l : List (Nat × Value)) (t : Array Value) (k : Nat), (∀ x ∈ l, x.1 ≠ k) → (l.foldl (fun t (p, v) => t.setIfInBounds p v) t).getD k undef = t.getD k undef
  | [],t,k,_=>rfl
  | (p,v) :: l,t,k,h=>by
    rw[List.foldl_cons,zn1 l _ k λ x hx=>h x (dqf _ hx)]
    have hp:p ≠ k:=h (p,v) dqj
    simp[dql,Array.getElem?_setIfInBounds_ne hp]

theorem zxl (nt0:Nat):∀ (ps:List Nat) (ys:List PA) (us:List Value) (e env:List (Nat×DV)) (t:Array Value),zjP ps ys e=some env->RL (paR g.h) ys us->(∀ p∈ps,p < t.size) ->
  (∀ k d,lk e k=some d->dvR g d (t.getD k undef)) ->
  us.length=ps.length/\∀ k d,lk env k=some d->dvR g d (((ps.zip us).foldl (λ t (p,v)=>t.setIfInBounds p v) t).getD k undef)
 | [],[],us,e,env,t,h,hr,_,he=>by
  simp only[zjP,dqa] at h;subst h
  cases us with
  | nil=>exact⟨rfl,he⟩
  | cons=>exact hr.elim
 | p :: ps,y :: ys,[],e,env,t,h,hr,_,he=>hr.elim
 | p :: ps,y :: ys,u :: us,e,env,t,h,hr,hp,he=>by
  simp only[zjP] at h
  have hlt:=hp p dqj
  obtain⟨h1,h2⟩:=zxl nt0 ps ys us _ env (t.setIfInBounds p u) h hr.2 (λ q hq=>by have:=hp q (dqf _ hq);simpa using this) (λ k d hk=>by
   rw[zay] at hk
   split at hk
   ·rename_i e1
    simp only[dqa] at hk;subst hk;subst e1
    rw[show (t.setIfInBounds p u).getD p undef=u by simp[dql,hlt]]
    exact zCY hr.1
   ·rename_i e1
    have:=he k d hk
    rw[show (t.setIfInBounds p u).getD k undef=t.getD k undef by simp[dql,Array.getElem?_setIfInBounds_ne e1]]
    exact this)
  exact⟨by simp[h1],h2⟩
 | [],_ :: _,_,_,_,_,h,_,_,_=>by simp[zjP] at h
 | _ :: _,[],_,_,_,_,h,_,_,_=>by simp[zjP] at h
theorem zqs : ∀ (ps : List Nat) (ys : List PA) (e env : List (Nat × DV)), zjP ps ys e = some env → ∀ k d, lk env k = some d → lk e k = some d ∨ zbf d = []
  | [],[],e,env,h,k,d,hk=>by simp only[zjP,dqa] at h;subst h;exact .inl hk
  | p :: ps,y :: ys,e,env,h,k,d,hk=>by
    simp only[zjP] at h
    rcases zqs ps ys _ env h k d hk with h1 | h1
    · rw [zay] at h1
      split at h1
      · simp only[dqa] at h1;subst h1;exact .inr (zoQ y)
      · exact .inl h1
    · exact .inr h1
  | [],_ :: _,_,_,h,_,_,_=>by simp[zjP] at h
  | _ :: _,[],_,_,h,_,_,_=>by simp[zjP] at h

theorem Sim.up (S:Sim P nt B w0 h0 g σ a w):Sim P nt B w0 g.h g σ a w :=
 ⟨S.dfr,S.size,S.env,S.obj,S.own,S.sep,S.hw,λ _ _ h=>h,λ _ _ h=>.inl h,
  ⟨S.below.os,S.below.tape,S.below.output,S.below.size,S.below.drawn,λ k hk hn=>S.below.block k hk λ F hF=>hn F (S.le0 k _ hF)⟩,S.bs,S.clE,S.clO,S.gl.mono S.le0⟩
theorem Sim.down {h1:Fz}(S:Sim P nt B w0 h1 g σ a w) (hgl:zhu h0) (hl:Fle h0 h1) (hn:∀ b o,h1 b=some o->h0 b=some o\/B<=b):Sim P nt B w0 h0 g σ a w :=
 ⟨S.dfr,S.size,S.env,S.obj,S.own,S.sep,S.hw,λ b o h=>S.le0 b o (hl b o h),λ b o h=>by
   rcases S.hn b o h with h | h
   ·exact hn b o h
   ·exact .inr h,
  ⟨S.below.os,S.below.tape,S.below.output,S.below.size,S.below.drawn,λ k hk hx=>S.below.block k hk λ F hF=>by
   rcases hn k _ hF with h | h
   ·exact hx F h
   ·omega⟩,S.bs,S.clE,S.clO,hgl⟩

theorem zmG {k:Keep}{σ s:St}(h:canon P k σ=some s):∀ t d,lk s.env t=some d->t∈k.tmps:=by
 unfold canon at h
 split at h
 ·unfold zl5 at h
  split at h
  ·cases h
  split at h
  ·cases h
  split at h
  ·cases h
  simp only[] at h
  split at h
  ·simp only [dqa] at h
   subst h
   intro t d ht
   obtain⟨_,_,_,h1⟩:=ze1 ht
   exact h1
  ·cases h
 ·cases h

def Rnd (r:Option Nat) (h0:Fz):Prop:=∀ l,r=some l->∃ rec:Loop,h0 l=some (.fz (.loop rec))
theorem Rnd.none (h0:Fz):Rnd none h0:=λ l h=>by cases h

theorem zo3 (S : Sim P nt B w0 h0 g σ a w) (hR : Rnd r h0) (fn : FuncId) (ps : Array Tmp) (x y : Code) :
  ∃ (l:Nat) (mark:List Deferred) (w1:World) (d:Nat) (h1:Fz),(Instr.enterLoop fn a.tmps ps x y r).run P w=.ok (l,mark) w1/\w.heap.size<=l /\
   w1.heap[l]? = some (.loop { state:=.ready,pending:=none,fn,tmps:=a.tmps,params:=ps, assign:=x,body:=y,defers:=d })/\Fle g.h h1/\h1 l=none /\
   Sim P nt B w0 h0 (g.re h1) σ { a with defers:=mark ++ a.defers } w1:=by
 have hnone:∀ k,w.heap.size<=k->g.h k=none:=λ k hk=>by
  cases h:g.h k with
  | none=>rfl
  | some x=>exact absurd (ziK S.hw h) (by omega)
 cases r with
 | none =>
  have hb0:g.h w.heap.size=none:=hnone _ (dqt _)
  have hw1:((w.alloc (.deferred (some []))).alloc (.loop { state:=.ready,pending:=none,fn,tmps:=a.tmps,params:=ps, assign:=x,body:=y,defers:=w.heap.size })).heap[w.heap.size]? = some (.deferred (some [])):=by
   exact (Below.heap_alloc _ _ _ (by simp)).trans (World.alloc_heap_new w _)
  have hbel:Below w.heap.size w ((w.alloc (.deferred (some []))).alloc (.loop { state:=.ready,pending:=none,fn,tmps:=a.tmps,params:=ps, assign:=x,body:=y,defers:=w.heap.size })) :=
   ((Below.refl _ w).alloc (dqt _) _).alloc (by simp) _
  have S1:=S.world (h':=g.h.add w.heap.size (.deferred (some []))) (Fz.le_add hb0) (λ k z hk=>by
    by_cases h:k=w.heap.size
    ·subst h;rw[Fz.add_same] at hk;simp only[dqa] at hk;subst hk;exact⟨_,hw1,rfl⟩
    ·rw [Fz.add_other h] at hk
     obtain⟨o,h1,h2⟩:=S.hw k z hk
     exact⟨o,by rw[hbel.block k (S.hw.lt hk)];exact h1,h2⟩)
   (λ k z hk=>by
    by_cases h:k=w.heap.size
    ·exact .inr (by omega)
    ·rw[Fz.add_other h] at hk;exact .inl hk) (.of ⟨hbel,dqt _⟩)
  refine⟨w.heap.size+1,[{ target:=.collected w.heap.size,args:=#[] }],_,w.heap.size,g.h.add w.heap.size (.deferred (some [])),run_enterLoop_outer fn a.tmps ps x y,by omega,?_,Fz.le_add hb0,?_,?_⟩
  ·have := World.alloc_heap_new (w.alloc (.deferred (some []))) (.loop { state := .ready, pending := none, fn, tmps := a.tmps, params := ps, assign := x, body := y, defers := w.heap.size })
   rwa[World.size_alloc] at this
  ·rw[Fz.add_other (by omega)];exact hnone _ (by omega)
  ·refine S1.act ?_ S1.size S1.env
   obtain⟨Ds,h1,h2,h3,h4⟩:=S.dfr
   refine⟨.inl w.heap.size :: Ds,List.nodup_cons.2 ⟨λ hm=>?_,h1⟩,by simp[h2,deD],λ D hD=>?_,λ d hd=>?_⟩
   ·have:=ziK S.hw (h3 _ (zox hm)).2;omega
   rotate_left
   ·rcases dqq.1 hd with e | hd
    ·cases e
    ·exact h4 d hd
   ·rcases dqq.1 hD with e | hD
    ·cases e;exact⟨S.bs,Fz.add_same⟩
    ·exact⟨(h3 D hD).1,Fz.le_add hb0 _ _ (h3 D hD).2⟩
 | some l0 =>
  obtain⟨rec,hrec⟩:=hR l0 rfl
  have hl0:w.heap[l0]? = some (.loop rec):=S.hw.fz (S.le0 _ _ hrec)
  have hbel:Below w.heap.size w (w.alloc (.loop { state:=.ready,pending:=none,fn,tmps:=a.tmps,params:=ps, assign:=x,body:=y,defers:=rec.defers })):=(Below.refl _ w).alloc (dqt _) _
  have S1:=S.world (h':=g.h) (λ _ _ h=>h) (S.hw.same λ k z hk=>hbel.block k (S.hw.lt hk)) (λ _ _ h=>.inl h) (.of ⟨hbel,dqt _⟩)
  exact⟨w.heap.size,[],_,rec.defers,g.h,run_enterLoop_inner hl0 fn a.tmps ps x y,dqt _,World.alloc_heap_new w _,λ _ _ h=>h,hnone _ (dqt _),S1⟩
end
end Go.Pm
namespace Go.Pm
variable [DrawZ]
open Go.RowKit (Below)

theorem zo4 : ∀ {n : Nat} {K : List Int → Prop}, zNM n K ↔ ∀ l, l.length = n → K l
  | 0,K=>⟨λ h l hl=>by rw[List.eq_nil_of_length_eq_zero hl];exact h,λ h=>h [] rfl⟩
  | n+1,K=>by
    simp only[zNM]
    constructor
    · intro h l hl
      cases l with
      | nil=>simp at hl
      | cons x l=>exact zo4.1 (h x) l (by simpa using hl)
    · intro h x
      exact zo4.2 λ l hl=>h (x :: l) (by simp[hl])

theorem zmH {c : List Int} : ∀ {en : List (List Int × List Int)}, zfk c en ≠ none → ∃ (j : Nat) (v : List Int), en[j]? = some (c, v)
  | [],h=>by simp[zfk] at h
  | (k,v) :: r,h=>by
    simp only[zfk] at h
    split at h
    · rename_i e;subst e;exact⟨0,v,rfl⟩
    · obtain⟨j,u,hj⟩:=zmH h;exact⟨j+1,u,by simpa using hj⟩

section
variable {P:Program}{Γ:Ctrs}{nt B:Nat}{w0:World}{h0:Fz}{g:Gh}{σ:St}{a:Act}{w:World}{r:Option Nat}{n i:Nat}{Q:Exit->Act->World->Prop}

theorem zqu {b:Nat}{ty:TypeId}(h:w.heap[b]? = some (.mapIter none 0 #[] 0)):(Instr.next (.pointer (some ⟨b,0,none⟩)) false ty).run P w=.ok (.tuple #[.bool false]) w:=by
 simp only[Instr.next,getObj,dqd,Sem.run,h,Result.andThen]
 rfl

theorem zDj {id : Nat} {ops : Array Oper} {x : Operand} {t u : Nat} {b : Bool} {v : Value} {w1 : World} {R : Act → World → Prop} (hn : znA ops = some (x, t, u)) (htu : t < a.tmps.size)
    (hrun:∀ o1,ops[0]? = some o1->(Instr.next (a.eval x) false o1.type).run P w=.ok v w1) (hv:∃ vs:List Value,v=.tuple (Value.bool b :: vs).toArray)
    (hR:(R ((a.put (some t) v).put (some u) (.bool b)) w1)) (hQ:∀ a' w',R a' w'->Q .normal a' w'):(Code.region id ops false).wpIn (FR r) n P Q a w:=by
  unfold znA at hn
  split at hn
  · rename_i o1 o2 hl
    split at hn
    · rename_i x' t' t2 u' e1 e2 e3 e4 e5 e6
      split at hn
      · rename_i hbe
        simp only[dqa,dqh] at hn
        obtain⟨rfl,rfl,rfl⟩:=hn
        have hbe:=dqc hbe
        subst hbe
        have hsz:ops.size=2:=by rw[<- Array.length_toList,hl];rfl
        have h0:ops[0]? = some o1:=by rw[<- Array.getElem?_toList,hl];rfl
        have h1:ops[1]? = some o2:=by rw[<- Array.getElem?_toList,hl];rfl
        refine wpIn_region ?_
        rw[hsz,show List.range 2=[0,1] from rfl]
        simp only[wpOpsIn,h0,h1]
        rw[if_pos (by simp[Region.wanted,e5])]
        obtain⟨vs,rfl⟩:=hv
        refine zms (zem (by simp[e1]) (v:=.tuple (Value.bool b :: vs).toArray) (w':=w1) (R:=λ a' w'=>a'=a.put o1.dst (.tuple (Value.bool b :: vs).toArray)/\w'=w1) ?_ ⟨rfl,rfl⟩) ?_
        · simp only[execOp,e1,dqd,hrun o1 h0,dqb,dqe]
        · rintro a' w' ⟨_, rfl, rfl⟩
          rw[if_pos (by simp[Region.wanted,e6])]
          refine zms (zem (by simp[e2]) (v:=.bool b) (w':=w') (R:=λ a'' w''=>a''=(a.put o1.dst (.tuple (Value.bool b :: vs).toArray)).put o2.dst (.bool b)/\w''=w') ?_ ⟨rfl,rfl⟩) ?_
          · have hev:(a.put o1.dst (.tuple (Value.bool b :: vs).toArray)).eval (.tmp t2)=.tuple (Value.bool b :: vs).toArray:=by
              have:=ztM a t2 (.tuple (Value.bool b :: vs).toArray) t2 htu
              rw[if_pos rfl] at this
              rw[e3];exact this
            simp only[execOp,e2,hev,dqd]
            simp[Instr.extract]
          · rintro a'' w'' ⟨_, rfl, rfl⟩
            rw[e3,e4]
            exact hQ _ _ hR
      · cases hn
    · cases hn
  · cases hn

theorem zvA (ann : Ann) {id : Nat} {ops : Array Oper} {draw : Bool} {x : Operand} {t u : Nat} {K : St → Prop} {D : List Nat} {a0 : Act}
    (hD:∀ t∈zCu ops.toList,t∈D) (hn:znA ops=some (x,t,u)) (h:zv4 P ann id x t u draw K σ) (S:Sim P ann.nt B w0 h0 g σ a w) (hkp:Kp D a0 a)
    (hQ:∀ g' σ' a' w',K σ'->Sim P ann.nt B w0 h0 g' σ' a' w'->Kp D a0 a'->a'.defers=a.defers->Q .normal a' w'):(Code.region id ops draw).wpIn (FR r) n P Q a w:=by
  have hreg:∀ σ',zKi P ann id K σ'->∀ g' a' w',Sim P ann.nt B w0 h0 g' σ' a' w'->Kp D a0 a'->a'.defers=a.defers->Q .normal a' w':=by
    intro σ' h g' a' w' S hk' hdf
    unfold zKi at h
    split at h
    · split at h
      · rename_i s hs
        obtain⟨g2,S2⟩:=zca hs S
        exact hQ g2 s a' w' h S2 hk' hdf
      · exact h.elim
    · exact hQ g' σ' a' w' h S hk' hdf
  have hDtu:t∈D/\u∈D:=by
    unfold znA at hn
    split at hn
    · rename_i o1 o2 hl
      split at hn
      · rename_i x' t' t2 u' e1 e2 e3 e4 e5 e6
        split at hn
        · simp only [dqa, dqh] at hn
          obtain⟨rfl,rfl,rfl⟩:=hn
          rw[hl] at hD
          simp only[zCu,e3,e4] at hD
          exact⟨hD _ (by simp),hD _ (by simp)⟩
        · cases hn
      · cases hn
    · cases hn
  unfold zv4 at h
  split at h
  · rename_i L hb hx
    simp only[dqm,Bool.not_eq_true'] at hb
    obtain⟨⟨ht,hu⟩,hdr⟩:=hb
    subst hdr
    split at h
    · rename_i q m F seen hL
      have hfm:zQe q.2.1 m F:=by
        rcases S.obj L _ hL with ⟨_,rfl,h3,_⟩ | ⟨_,es,clock,_,en,_,M,_,_,_⟩
        · exact⟨[],rfl,List.nodup_nil,λ k hk=>by simp at hk,λ c hc=>by simp[h3 c hc]⟩
        · refine ⟨en.map (·.1), by rw [List.length_map, M.size], M.nodup, fun k hk => ?_, fun c hc => ?_⟩
          · obtain⟨x,hx,rfl⟩:=dqz.1 hk;exact (M.len x hx).1
          · rw [M.find c hc]
            constructor
            · intro h
              obtain⟨j,v,hj⟩:=zmH h
              exact dqz.2 ⟨_,dqx hj,rfl⟩
            · intro h
              obtain⟨⟨k,v⟩,hx,rfl⟩:=dqz.1 h
              obtain⟨j,hj⟩:=List.getElem?_of_mem hx
              rw[zgq M.nodup hj];simp
      obtain⟨hend,hround⟩:=h hfm
      have hxv:a.eval x=.pointer (some ⟨g.bk L,0,none⟩):=(zbr S hx).1
      have hts:t < a.tmps.size:=dqS (by simpa using ht) S.size
      -- behind the step
      have fin:∀ (w1:World) (b:Bool) (vs:List Value) (seen':List (List Int)),
          (∀ o1,ops[0]? = some o1->(Instr.next (a.eval x) false o1.type).run P w=.ok (.tuple (Value.bool b :: vs).toArray) w1)->Sim P ann.nt B w0 h0 g { σ with objs:=(L,.mit q m F seen') :: σ.objs } a w1 ->
          zKi P ann id K ⟨(u,.bool b) :: (t,.junk) :: σ.env,(L,.mit q m F seen') :: σ.objs,[]⟩->(Code.region id ops false).wpIn (FR r) n P Q a w:=by
        intro w1 b vs seen' hrun S1 hk
        refine zDj (R:=λ a' w'=>a'=(a.put (some t) (.tuple (Value.bool b :: vs).toArray)).put (some u) (.bool b)/\w'=w1) hn hts hrun ⟨vs,rfl⟩ ⟨rfl,rfl⟩ ?_
        rintro a' w' ⟨rfl,rfl⟩
        have S2:=S1.put (dst:=some t) (d:=.junk) (v:=.tuple (Value.bool b :: vs).toArray) ht trivial (λ M hM=>by simp[zbf,zbN,zaE] at hM) []
        have S3:=S2.put (dst:=some u) (d:=.bool b) (v:=.bool b) hu (.bool b) (zd1 _) []
        exact hreg _ hk g _ _ S3 ((hkp.put (dst:=some t) (λ z hz=>by cases hz;exact hDtu.1) _ a.defers rfl).put (dst:=some u) (λ z hz=>by cases hz;exact hDtu.2) _ a.defers rfl) rfl
      rcases S.obj L _ hL with ⟨hit,h2,h3,h4⟩ | ⟨mb,es,clock,sb,en,hmb,M,hit,hseen,hcur⟩
      · refine fin w false [] seen (fun _ _ => by rw [hxv]; exact zqu hit) ?_ (hend fun c hc hne => (hne (h3 c hc)).elim)
        exact S.write (o':=.mit q m F seen) hL (λ b hb=>hb) (.refl B w) (λ _ _=>rfl) (.inl ⟨hit,h2,h3,h4⟩) (λ N hN=>by simp[zb8] at hN)
      · have hmap := S.hw.fz hmb
        have hlen:es.size=en.length:=by
          have:=congrArg List.length M.ents
          simpa using this
        have hat:∀ (c:List Int),c.length=q.2.1->F c ≠ none->∃ (j:Nat) (e:MapEntry) (v:List Int),es[j]? = some e/\en[j]? = some (c,v):=by
          intro c hc hne
          rw[M.find c hc] at hne
          obtain⟨j,v,hj⟩:=zmH hne
          have hj2:j < es.size:=by rw[hlen];exact (dqn.1 hj).1
          exact⟨j,es[j],v,Array.getElem?_eq_getElem hj2,hj⟩
        obtain⟨o1,ho1⟩:∃ o1,ops[0]? = some o1:=by
          unfold znA at hn
          split at hn
          · rename_i o1 o2 hl;exact⟨o1,by rw[<- Array.getElem?_toList,hl];rfl⟩
          · cases hn
        rcases run_next_at (P:=P) w o1.type (g.bk L) mb clock clock sb es clock hit hmap M.born (dqt _) with ⟨hz,hrun⟩ | ⟨e,he,w1,hw1,hrun⟩
        · refine fin w false [] seen (fun o ho => by rw [ho1] at ho; cases ho; rw [hxv]; exact hrun) ?_ (hend fun c hc hne => ?_)
          · exact S.write (o':=.mit q m F seen) hL (λ b hb=>hb) (.refl B w) (λ _ _=>rfl) (.inr ⟨mb,es,clock,sb,en,hmb,M,hit,hseen,hcur⟩) (λ N hN=>by simp[zb8] at hN)
          · obtain ⟨j, e, v, h1, h2⟩ := hat c hc hne
            refine (hseen j e (c,v) h1 h2).1 ?_
            have hem:e∈es:=Array.mem_of_getElem? h1
            by_cases hin:e.born∈sb
            · exact hin
            · have : e ∈ leftOf es sb := Array.mem_filter.2 ⟨hem, by simpa using hin⟩
              rw[Array.eq_empty_of_size_eq_zero hz] at this
              simp at this
        · have he' : e ∈ leftOf es sb := by simpa using he
          obtain⟨hem,hnin⟩:=Array.mem_filter.1 he'
          have hnin:e.born ∉ sb:=by simpa using hnin
          obtain⟨j,hj⟩:=Array.getElem?_of_mem hem
          have hj2:j < en.length:=by rw[<- hlen];exact (dqp.1 hj).1
          obtain⟨⟨c,v⟩,hcv⟩:∃ x,en[j]? = some x:=⟨en[j],dqD hj2⟩
          have hlc:=M.len (c,v) (dqx hcv)
          have hF:F c=some v:=by rw[M.find c hlc.1];exact zgq M.nodup hcv
          have hns:c ∉ seen:=λ h=>hnin ((hseen j e (c,v) hj hcv).2 h)
          have hk:=zo4.1 hround c hlc.1 (by rw[hF];simp) hns
          have hlt:=(dqp.1 hit).1
          have hw1h:w1.heap=w.heap:=by rcases hw1 with rfl | rfl <;> rfl
          have hoth:∀ b,b ≠ g.bk L->(ChangeMaps.setBlock w1 (g.bk L) (.mapIter (some mb) clock (sb.push e.born) clock)).heap[b]? = w.heap[b]?:=λ b hb=>by
            show (w1.heap.setIfInBounds (g.bk L) _)[b]? = _
            rw[Array.getElem?_setIfInBounds,if_neg (λ x=>hb x.symm),hw1h]
          refine fin _ true [e.key,e.val] (c :: seen) (λ o ho=>by rw[ho1] at ho;cases ho;rw[hxv];exact hrun) ?_ hk
          have hB:=(S.own L _ (g.bk L) hL rfl).1
          refine S.write (o' := .mit q m F (c :: seen)) hL (fun b hb => hb)
            ⟨⟨by rcases hw1 with rfl | rfl <;> rfl,by rcases hw1 with rfl | rfl <;> rfl,by rcases hw1 with rfl | rfl <;> rfl,by show _<=(w1.heap.setIfInBounds _ _).size;rw[hw1h];simp,λ k hk=>hoth k (by omega)⟩,by rcases hw1 with rfl | rfl;exact dqt _;exact zpP (Nat.le_succ _)⟩
            (λ b hb=>hoth b λ x=>hb (by rw[x];rfl)) (.inr ⟨mb,es,clock,sb.push e.born,en,hmb,M,?_,?_,?_⟩) (λ N hN=>by simp[zb8] at hN)
          · show (w1.heap.setIfInBounds (g.bk L) _)[g.bk L]? = _
            rw[hw1h];simp[hlt]
          · intro j' e2 x2 h1 h2
            have hb2:e2.born=e.born↔x2.1=c:=by
              have hk2:(en.map (·.1))[j']? = some x2.1:=by simp[h2]
              have hk1:(en.map (·.1))[j]? = some c:=by simp[hcv]
              have hb1:(es.toList.map (·.born))[j]? = some e.born:=by simp[hj]
              have hb2':(es.toList.map (·.born))[j']? = some e2.born:=by simp[h1]
              constructor
              · intro h
                have:j'=j:=(List.getElem?_inj (dqn.1 hb2').1 M.bornN).1 (by rw[hb2',hb1,h])
                subst this
                rw[hk2] at hk1;simpa using hk1
              · intro h
                have:j'=j:=(List.getElem?_inj (dqn.1 hk2).1 M.nodup).1 (by rw[hk2,hk1,h])
                subst this
                rw[h1] at hj;simp only[dqa] at hj;rw[hj]
            rw[Array.mem_push,dqq,hseen j' e2 x2 h1 h2,hb2]
            exact Or.comm
          · intro c' r' h
            simp only[dqy] at h
            obtain⟨rfl,rfl⟩:=h
            exact⟨j,e,v,hj,hcv,by simp⟩
    · exact h.elim
  · exact h.elim
end
end Go.Pm
