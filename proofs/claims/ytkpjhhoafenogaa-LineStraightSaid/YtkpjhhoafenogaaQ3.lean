/- Part 3 of what the proof rests on: a machine that runs functions of the program on pure values, proved sound; the functions that the law reaches, and what they compute. -/
import Derived.Test.YtkpjhhoafenogaaQ2
import Derived.Scope
import Derived.OrdersIn
import Derived.RangeFuncNested
import Derived.Maps.RangeRun
set_option linter.all false
namespace Go.Pm

section
variable {P:Program} {Γ:Ctrs} {o:Oper} {ev:Operand→DV} {ob:Nat→Option AO} {A:OpAct}

theorem fmc {α β : Type} {f h : α → List β} : ∀ {l : List α}, (∀ x ∈ l, f x = h x) → l.flatMap f = l.flatMap h
  | [],_=>rfl
  | x :: l,hf=>by simp only [List.flatMap_cons];rw [hf x List.mem_cons_self,fmc fun y hy=>hf y (List.mem_cons_of_mem _ hy)]

theorem zxu {x:Operand} (hop:o.op=.move x∨o.op=.assign x):ActOk P Γ o ev ob (.val [] (ev x) [] []):=by
 have hx:x∈o.op.operands.toList:=by rcases hop with h | h <;> simp [h,Op.operands]
 refine ActOk.pure (zfN hx fun L hL=>hL) fun ev' ob' he _=>?_
 rcases hop with h | h <;> simp only [act,h,he x hx]

theorem zFP {b:Bool} {x y:DV} : ∀ L∈dvV (zmF b x y),L∈dvV x∨L∈dvV y:=by
 unfold zmF
 split
 ·intro L hL;simp [dvV,d1V,clV] at hL
 ·cases b with
  | true=>exact fun L hL=>.inl hL
  | false=>exact fun L hL=>.inr hL

theorem zFQ {c x y:Operand} {t:Bool} (hop:o.op=.pick c x y) (hc:ev c=.one (.c (.p (.bool t)))):ActOk P Γ o ev ob (.val [] (zmF t (ev x) (ev y)) [] []):=by
 have hcm:c∈o.op.operands.toList:=by simp [hop,Op.operands]
 have hx:x∈o.op.operands.toList:=by simp [hop,Op.operands]
 have hy:y∈o.op.operands.toList:=by simp [hop,Op.operands]
 refine ActOk.pure (fun L hL=>?_) fun ev' ob' he _=>?_
 ·rcases zFP L hL with h | h
  ·exact .inl (.inl ⟨x,hx,h⟩)
  ·exact .inl (.inl ⟨y,hy,h⟩)
 ·simp only [act,hop,he c hcm,he x hx,he y hy,hc]

theorem znS {ao : AO} {d : Nat → DV} (hlo : ∀ L ∈ aoV ao, Men o ev ob [] L) (hld : ∀ t, ∀ L ∈ dvV (d t), L = t)
    (hc:∀ ev' ob',(∀ x∈o.op.operands.toList,ev' x=ev x)→act P Γ o ev' ob'=zrl ob' o.dst ao d) (hA:zrl ob o.dst ao d=A) (hs:A.safe):ActOk P Γ o ev ob A:=by
  have hA':=hA
  unfold zrl at hA
  split at hA
  · rename_i t ht
    split at hA
    · rename_i hn
      subst hA
      have men:∀ L,Men o ev ob [] L→Men o ev ob [(t,true)] L:=fun L h=>h.imp_right fun ⟨y,hy,_⟩=>by simp at hy
      refine ⟨fun x hx=>?_,.inl rfl,fun x hx L hL=>?_,fun d' hd' L hL=>?_,fun ev' ob' he hob=>?_⟩
      · simp only [OpAct.u,List.mem_singleton] at hx;subst hx;simp [OpAct.fp]
      · simp only [OpAct.u,List.mem_singleton] at hx;subst hx;exact men L (hlo L hL)
      · simp only [OpAct.gives] at hd';subst hd';rw [hld t L hL];exact .inr (by simp [OpAct.fp])
      · rw [hc ev' ob' he]
        have:=hob (t,true) (by simp [OpAct.fp])
        simp only at this
        simp only [zrl,ht,this,hn]
    · subst hA;exact hs.elim
  · subst hA;exact hs.elim

theorem zxv {t:TypeId} {z:List Cl} (h:zdO P t=some z):z.flatMap clV=[]:=by
 have h1:=zpB h
 cases hz:z.flatMap clV with
 | nil=>rfl
 | cons L l =>
  have:L∈z.flatMap clV:=by rw [hz];exact List.mem_cons_self
  obtain ⟨c,hc,hL⟩:=List.mem_flatMap.1 this
  have:L∈z.flatMap zaG:=List.mem_flatMap.2 ⟨c,hc,zrG L hL⟩
  rw [h1] at this;simp at this

theorem zrH (d:D1):d.cells.flatMap clV=d1V d:=by cases d <;> simp [D1.cells,d1V]

theorem zux {t : TypeId} : ∀ (parts : List (Nat × Operand)) (z l : List Cl), zcS P t ev z parts = some l → ∀ L ∈ l.flatMap clV, L ∈ z.flatMap clV ∨ ∃ x ∈ parts, L ∈ dvV (ev x.2)
  | [],z,l,h=>by simp [zcS] at h;subst h;exact fun L hL=>.inl hL
  | (i,x) :: r,z,l,h=>by
    simp only [zcS] at h
    split at h
    · rename_i d hd
      have splV:∀ (l' l:List Cl) (off:Nat),∀ L∈(spl l off l').flatMap clV,L∈l.flatMap clV∨L∈l'.flatMap clV:=by
        intro l'
        induction l' with
        | nil=>intro l off L hL;exact .inl hL
        | cons c l' ih =>
          intro l off L hL
          simp only [spl] at hL
          rcases ih _ _ L hL with h | h
          · obtain ⟨c', hc', hL'⟩ := List.mem_flatMap.1 h
            rcases List.mem_or_eq_of_mem_set hc' with h2 | h2
            · exact .inl (List.mem_flatMap.2 ⟨c',h2,hL'⟩)
            · subst h2;exact .inr (List.mem_flatMap.2 ⟨c',List.mem_cons_self,hL'⟩)
          · exact .inr (by simp only [List.flatMap_cons,List.mem_append];exact .inr h)
      have step:∀ off,zcS P t ev (spl z off d.cells) r=some l→∀ L∈l.flatMap clV,L∈z.flatMap clV∨∃ y∈(i,x) :: r,L∈dvV (ev y.2):=by
        intro off hb L hL
        rcases zux r _ l hb L hL with h | ⟨y,hy,hL⟩
        · rcases splV _ _ _ L h with h | h
          · exact .inl h
          · refine .inr ⟨(i, x), List.mem_cons_self, ?_⟩
            simp only [hd,dvV];rw [← zrH];exact h
        · exact .inr ⟨y,List.mem_cons_of_mem _ hy,hL⟩
      split at h
      · split at h
        · split at h
          · split at h
            · exact step _ h
            · cases h
          · cases h
        · cases h
      · split at h
        · split at h
          · exact step _ h
          · cases h
        · cases h
      · cases h
    · cases h

theorem zj3 {ev' : Operand → DV} {t : TypeId} : ∀ (parts : List (Nat × Operand)) (z : List Cl), (∀ x ∈ parts, ev' x.2 = ev x.2) → zcS P t ev' z parts = zcS P t ev z parts
  | [],z,_=>rfl
  | (i,x) :: r,z,h=>by
    have hx:ev' x=ev x:=h (i,x) List.mem_cons_self
    have ih:∀ z,zcS P t ev' z r=zcS P t ev z r:=fun z=>zj3 r z fun y hy=>h y (List.mem_cons_of_mem _ hy)
    simp only [zcS,hx,ih]

theorem zih {ev':Operand→DV} {ob':Nat→Option AO} {s:Nat} : ∀ (parts:List (Nat×Operand)) (i:Nat) (ls:List (List PV)) (u:Upd) (labs:List Nat),zc7 ob ev s i parts=some (ls,u,labs) →
  (∀ x∈parts,ev' x.2=ev x.2)→(∀ L∈labs,ob' L=ob L)→zc7 ob' ev' s i parts=some (ls,u,labs)
 | [],i,ls,u,labs,h,_,_=>by simpa [zc7] using h
 | (j,x) :: r,i,ls,u,labs,h,he,hob=>by
  have hx:ev' x=ev x:=he (j,x) List.mem_cons_self
  simp only [zc7] at h ⊢
  rw [hx]
  split at h
  ·rename_i hij
   split at h
   ·rename_i d hd
    split at h
    ·rename_i l u1 ls' us labs' h1 h2
     split at h
     ·rename_i hlen
      simp only [Option.some.injEq,Prod.mk.injEq] at h
      obtain ⟨rfl,rfl,rfl⟩:=h
      have e1:zdP ob' d.cells=some (l,u1):=by
       rw [← h1]
       refine zhd fun L hL=>hob L (List.mem_append.2 (.inl ?_))
       cases d <;> simpa [D1.cells,zbl] using hL
      have e2:=zih r (i+1) ls' us labs' h2 (fun y hy=>he y (List.mem_cons_of_mem _ hy)) (fun L hL=>hob L (List.mem_append.2 (.inr hL)))
      simp only [e1,e2,hlen]
     ·cases h
    ·cases h
   ·cases h
  ·cases h
theorem zf3 {s : Nat} : ∀ (parts : List (Nat × Operand)) (i : Nat) (ls : List (List PV)) (u : Upd) (labs : List Nat), zc7 ob ev s i parts = some (ls, u, labs) → ∀ x ∈ u, x.1 ∈ labs ∧ aoV x.2 = []
  | [],i,ls,u,labs,h=>by simp [zc7] at h;rw [h.2.1];intro x hx;simp at hx
  | (j,x) :: r,i,ls,u,labs,h=>by
    simp only [zc7] at h
    split at h
    · split at h
      · rename_i d hd
        split at h
        · rename_i l u1 ls' us labs' h1 h2
          split at h
          · simp only [Option.some.injEq, Prod.mk.injEq] at h
            obtain ⟨rfl,rfl,rfl⟩:=h
            intro y hy
            rcases List.mem_append.1 hy with hy | hy
            · obtain ⟨h3, h4⟩ := ze2 h1 y hy
              refine ⟨List.mem_append.2 (.inl ?_),h4⟩
              cases d <;> simpa [D1.cells,zbl] using h3
            · obtain ⟨h3, h4⟩ := zf3 r _ _ _ _ h2 y hy
              exact ⟨List.mem_append.2 (.inr h3),h4⟩
          · cases h
        · cases h
      · cases h
    · cases h

theorem zCI {t : TypeId} {parts : Array (Nat × Operand)} {z l : List Cl} (hop : o.op = .build t parts) (hf : zh7 P t = true) (hz : zdO P t = some z) (hl : zcS P t ev z parts.toList = some l) :
  ActOk P Γ o ev ob (.val [] (.one (.agg l)) [] []):=by
 have hm:∀ x∈parts.toList,x.2∈o.op.operands.toList:=fun x hx=>by
  simp only [hop,Op.operands]
  exact List.mem_map.2 ⟨x,hx,rfl⟩
 refine ActOk.pure (fun L hL=>?_) fun ev' ob' he _=>?_
 ·rcases zux _ _ _ hl L hL with h | ⟨x, hx, h⟩
  ·rw [zxv hz] at h;simp at h
  ·exact .inl (.inl ⟨x.2,hm x hx,h⟩)
 ·simp only [act,hop,hf,hz,zj3 parts.toList z (fun x hx=>he x.2 (hm x hx)),hl]

theorem zpW {l:List Nat} {L:Nat} (h:L∈l):(L,true)∈wr l:=List.mem_map.2 ⟨L,h,rfl⟩

theorem zwd {t:TypeId} {n:Nat} {parts:Array (Nat×Operand)} (hop:o.op=.buildSlice t n parts) (hf:zKz Γ o.dst=true) (hA:zg6 P o t n parts.toList ev ob=A) (hs:A.safe):ActOk P Γ o ev ob A:=by
 have hm:∀ x∈parts.toList,x.2∈o.op.operands.toList:=fun x hx=>by
  simp only [hop,Op.operands]
  exact List.mem_map.2 ⟨x,hx,rfl⟩
 have hc:∀ ev' ob',act P Γ o ev' ob'=zg6 P o t n parts.toList ev' ob':=fun ev' ob'=>by
  simp only [act,hop,hf]
 unfold zg6 at hA
 split at hA
 ·rename_i te x dst hu hp hd
  have hx:x∈o.op.operands.toList:=hm (0,x) (by rw [hp];simp)
  split at hA
  ·rename_i ie z M hi hz hex
   split at hA
   ·rename_i hM hn
    split at hA
    ·rename_i hb
     subst hA
     refine ⟨fun x hx=>?_,.inl rfl,fun x hx L hL=>?_,fun d' hd' L hL=>?_,fun ev' ob' he hob=>?_⟩
     ·simp only [OpAct.u, List.mem_cons, List.not_mem_nil, or_false] at hx
      rcases hx with rfl | rfl <;> simp [OpAct.fp]
     ·simp only [OpAct.u, List.mem_cons, List.not_mem_nil, or_false] at hx
      rcases hx with rfl | rfl <;> simp [aoV] at hL
     ·simp only [OpAct.gives] at hd'; subst hd'
      simp only [dvV,d1V,clV,List.mem_singleton] at hL
      subst hL
      exact .inr (by simp [OpAct.fp])
     ·have e1 := hob (M, true) (by simp [OpAct.fp])
      have e2:=hob (dst,true) (by simp [OpAct.fp])
      simp only at e1 e2
      rw [hc]
      simp only [zg6,hu,hp,hd,hi,hz,he x hx,hex,e1,hM,e2,hn,hb]
    ·subst hA;exact hs.elim
   ·subst hA;exact hs.elim
  ·subst hA;exact hs.elim
 ·subst hA;exact hs.elim

theorem znT {t:TypeId} {n:Nat} {parts:Array (Nat×Operand)} (hop:o.op=.buildSlice t n parts) (hA:act P Γ o ev ob=A) (hs:A.safe):ActOk P Γ o ev ob A:=by
 have hm:∀ x∈parts.toList,x.2∈o.op.operands.toList:=fun x hx=>by
  simp only [hop,Op.operands]
  exact List.mem_map.2 ⟨x,hx,rfl⟩
 simp only [act,hop] at hA
 split at hA
 ·rename_i hf
  exact zwd hop hf hA hs
 rename_i hvf
 split at hA
 ·rename_i e hu
  split at hA
  ·rename_i ie hie
   split at hA
   ·rename_i ls u labs hp
    split at hA
    ·rename_i z dst hb hz hd
     split at hA
     ·rename_i hn
      subst hA
      refine ⟨fun x hx=>?_,.inl rfl,fun x hx L hL=>?_,fun d' hd' L hL=>?_,fun ev' ob' he hob=>?_⟩
      ·simp only [OpAct.u, List.mem_cons] at hx
       simp only [OpAct.fp,List.mem_append]
       rcases hx with rfl | hx
       ·exact .inr (by simp)
       ·exact .inl (zpW (zf3 _ _ _ _ _ hp x hx).1)
      ·simp only [OpAct.u, List.mem_cons] at hx
       rcases hx with rfl | hx
       ·simp [aoV] at hL
       ·rw [(zf3 _ _ _ _ _ hp x hx).2] at hL;simp at hL
      ·simp only [OpAct.gives] at hd'; subst hd'
       simp only [dvV,d1V,clV,List.mem_singleton] at hL
       subst hL
       exact .inr (by simp [OpAct.fp])
      ·have e1 := zih (ev' := ev') (ob' := ob') _ _ _ _ _ hp (fun x hx => he x.2 (hm x hx)) (fun L hL => hob (L, true) (List.mem_append.2 (.inl (zpW hL))))
       have e2:=hob (dst,true) (List.mem_append.2 (.inr (by simp)))
       simp only at e2
       rw [hd] at hvf
       simp only [act,hop,hvf,hu,hie,e1,hb,hz,hd,e2,hn]
     ·subst hA;exact hs.elim
    ·subst hA;exact hs.elim
   ·subst hA;exact hs.elim
  ·subst hA;exact hs.elim
 ·subst hA;exact hs.elim

theorem zKX {L:Nat} {ao:AO} {w:Bool} {d:D1} (hL:ob L=some ao) (h:∀ M∈d1V d,M∈aoV ao):∀ M∈dvV (.one d),Men o ev ob [(L,w)] M∨(M,true)∈[(L,w)] :=
 fun M hM=>.inl (.inr ⟨(L,w),by simp,ao,hL,h M hM⟩)

theorem zFR {t:TypeId} {x:Operand} (hop:o.op=.load t x) (hA:act P Γ o ev ob=A) (hs:A.safe):ActOk P Γ o ev ob A:=by
 have hm:x∈o.op.operands.toList:=by simp [hop,Op.operands]
 simp only [act,hop] at hA
 split at hA
 ·rename_i ag n hag hn
  split at hA
  ·rename_i L off hx
   split at hA
   ·rename_i ty cells hL
    split at hA
    ·rename_i d hr
     subst hA
     refine ActOk.pure (zKX hL (zxt hr)) fun ev' ob' he hob=>?_
     have e:=hob (L,false) (by simp);simp only at e
     simp only [act,hop,hag,hn,he x hm,hx,e,hL,hr]
    ·subst hA;exact hs.elim
   ·rename_i cells hL
    split at hA
    ·rename_i d hr
     subst hA
     refine ActOk.pure (fun M hM=>?_) fun ev' ob' he hob=>?_
     ·simp only [dvV] at hM;rw [zk5 hr] at hM;simp at hM
     have e:=hob (L,false) (by simp);simp only at e
     simp only [act,hop,hag,hn,he x hm,hx,e,hL,hr]
    ·subst hA;exact hs.elim
   ·subst hA;exact hs.elim
  ·rename_i cells off hx
   split at hA
   ·rename_i d hr
    subst hA
    refine ActOk.pure (fun M hM=>?_) fun ev' ob' he hob=>?_
    ·simp only [dvV] at hM;rw [zk5 hr] at hM;simp at hM
    simp only [act,hop,hag,hn,he x hm,hx,hr]
   ·subst hA;exact hs.elim
  ·rename_i L s i k hx
   split at hA
   ·rename_i e s' b len get hL
    split at hA
    ·rename_i d hss hr
     subst hA
     refine ActOk.pchk (fun M hM=>?_) fun ev' ob' he hob=>?_
     ·simp only [dvV] at hM;rw [zk5 hr] at hM;simp at hM
     have e:=hob (L,false) (by simp);simp only at e
     simp only [act,hop,hag,hn,he x hm,hx,e,hL,hss,hr]
    ·subst hA;exact hs.elim
   ·rename_i s' len get hL
    split at hA
    ·rename_i d hss hr
     subst hA
     refine ActOk.pchk (fun M hM=>?_) fun ev' ob' he hob=>?_
     ·simp only [dvV] at hM;rw [zk5 hr] at hM;simp at hM
     have e:=hob (L,false) (by simp);simp only at e
     simp only [act,hop,hag,hn,he x hm,hx,e,hL,hss,hr]
    ·subst hA;exact hs.elim
   ·rename_i hL
    split at hA
    ·rename_i hss
     subst hA
     refine ActOk.pchk (fun M hM=>.inl (.inl ⟨x,hm,?_⟩)) fun ev' ob' he hob=>?_
     ·rw [hx];exact hM
     have e:=hob (L,false) (by simp);simp only at e
     simp only [act,hop,hag,hn,he x hm,hx,e,hL,hss]
    ·subst hA;exact hs.elim
   ·rename_i hL
    split at hA
    ·rename_i hss
     subst hA
     refine ActOk.pchk (fun M hM=>.inl (.inl ⟨x,hm,?_⟩)) fun ev' ob' he hob=>?_
     ·rw [hx];exact hM
     have e:=hob (L,false) (by simp);simp only at e
     simp only [act,hop,hag,hn,he x hm,hx,e,hL,hss]
    ·subst hA;exact hs.elim
   ·subst hA;exact hs.elim
  ·rename_i L s i j k hx
   split at hA
   ·rename_i hL
    split at hA
    ·rename_i d hss hr
     subst hA
     refine ActOk.pchk (fun M hM=>?_) fun ev' ob' he hob=>?_
     ·simp only [dvV] at hM;rw [zk5 hr] at hM;simp at hM
     have e:=hob (L,false) (by simp);simp only at e
     simp only [act,hop,hag,hn,he x hm,hx,e,hL,hss,hr]
    ·subst hA;exact hs.elim
   ·subst hA;exact hs.elim
  ·subst hA;exact hs.elim
 ·subst hA;exact hs.elim

theorem zOp:∀ (l' l:List Cl) (off:Nat),∀ L∈(spl l off l').flatMap clV,L∈l.flatMap clV∨L∈l'.flatMap clV:=by
 intro l'
 induction l' with
 | nil=>intro l off L hL;exact .inl hL
 | cons c l' ih =>
  intro l off L hL
  simp only [spl] at hL
  rcases ih _ _ L hL with h | h
  ·obtain ⟨c', hc', hL'⟩ := List.mem_flatMap.1 h
   rcases List.mem_or_eq_of_mem_set hc' with h2 | h2
   ·exact .inl (List.mem_flatMap.2 ⟨c',h2,hL'⟩)
   ·subst h2;exact .inr (List.mem_flatMap.2 ⟨c',List.mem_cons_self,hL'⟩)
  ·exact .inr (by simp only [List.flatMap_cons,List.mem_append];exact .inr h)

theorem zCJ {t:TypeId} {x y:Operand} (hop:o.op=.store t x y) (hA:act P Γ o ev ob=A) (hs:A.safe):ActOk P Γ o ev ob A:=by
 have hx:x∈o.op.operands.toList:=by simp [hop,Op.operands]
 have hy:y∈o.op.operands.toList:=by simp [hop,Op.operands]
 simp only [act,hop] at hA
 split at hA
 ·rename_i n L off d hn hex hey
  split at hA
  ·rename_i ty cells hL
   split at hA
   ·rename_i hb
    subst hA
    refine ⟨fun z hz=>?_,.inl rfl,fun z hz M hM=>?_,fun d' hd' M hM=>?_,fun ev' ob' he hob=>?_⟩
    ·simp only [OpAct.u,List.mem_singleton] at hz;subst hz;simp [OpAct.fp]
    ·simp only [OpAct.u, List.mem_singleton] at hz; subst hz
     simp only [aoV] at hM
     rcases zOp _ _ _ M hM with h | h
     ·exact .inr ⟨(L,true),by simp [OpAct.fp],_,hL,h⟩
     ·refine .inl ⟨y, hy, ?_⟩
      rw [hey];simp only [dvV];rw [← zrH];exact h
    ·simp only [OpAct.gives] at hd';subst hd';simp [dvV,d1V,clV] at hM
    ·have e := hob (L, true) (by simp [OpAct.fp]); simp only at e
     simp only [act,hop,hn,he x hx,he y hy,hex,hey,e,hL,hb]
   ·subst hA;exact hs.elim
  ·subst hA;exact hs.elim
 ·rename_i n L s i k d hn hex hey
  split at hA
  ·rename_i e s' b len get hL
   split at hA
   ·rename_i l hl
    split at hA
    ·rename_i hb
     subst hA
     refine ⟨fun z hz=>?_,.inl rfl,fun z hz M hM=>?_,fun d' hd' M hM=>?_,fun ev' ob' he hob=>?_⟩
     ·simp only [OpAct.u,List.mem_singleton] at hz;subst hz;simp [OpAct.fp]
     ·simp only [OpAct.u,List.mem_singleton] at hz;subst hz;simp [aoV] at hM
     ·simp only [OpAct.gives] at hd';subst hd';simp [dvV,d1V,clV] at hM
     ·have e := hob (L, true) (by simp [OpAct.fp]); simp only at e
      simp only [act,hop,hn,he x hx,he y hy,hex,hey,e,hL,hl,hb]
    ·subst hA;exact hs.elim
   ·subst hA;exact hs.elim
  ·rename_i te bb kt vt q len mk nn F hL
   split at hA
   ·rename_i M'
    split at hA
    ·rename_i kt' vt' q' mm F' hM'
     split at hA
     ·rename_i hb
      split at hA
      ·rename_i hq
       subst hA
       refine ⟨fun z hz=>?_,.inl rfl,fun z hz M hM=>?_,fun d' hd' M hM=>?_,fun ev' ob' he hob=>?_⟩
       ·simp only [OpAct.u, List.mem_cons, List.not_mem_nil, or_false] at hz
        rcases hz with rfl | rfl <;> simp [OpAct.fp]
       ·simp only [OpAct.u, List.mem_cons, List.not_mem_nil, or_false] at hz
        rcases hz with rfl | rfl <;> simp [aoV] at hM
       ·simp only [OpAct.gives] at hd';subst hd';simp [dvV,d1V,clV] at hM
       ·have e := hob (L, true) (by simp [OpAct.fp]); simp only at e
        have e2:=hob (M',true) (by simp [OpAct.fp]);simp only at e2
        simp only [act,hop,hn,he x hx,he y hy,hex,hey,e,hL,e2,hM',hb]
        rw [if_pos hq]
      ·subst hA;exact hs.elim
     ·subst hA;exact hs.elim
    ·subst hA;exact hs.elim
   ·subst hA;exact hs.elim
  ·subst hA;exact hs.elim
 ·rename_i n L s i j k d hn hex hey
  split at hA
  ·rename_i hL
   split at hA
   ·rename_i l hl
    split at hA
    ·rename_i hb
     subst hA
     refine ⟨fun z hz=>?_,.inl rfl,fun z hz M hM=>?_,fun d' hd' M hM=>?_,fun ev' ob' he hob=>?_⟩
     ·simp only [OpAct.u,List.mem_singleton] at hz;subst hz;simp [OpAct.fp]
     ·simp only [OpAct.u,List.mem_singleton] at hz;subst hz;simp [aoV] at hM
     ·simp only [OpAct.gives] at hd';subst hd';simp [dvV,d1V,clV] at hM
     ·have e := hob (L, true) (by simp [OpAct.fp]); simp only at e
      simp only [act,hop,hn,he x hx,he y hy,hex,hey,e,hL,hl,hb]
    ·subst hA;exact hs.elim
   ·subst hA;exact hs.elim
  ·subst hA;exact hs.elim
 ·subst hA;exact hs.elim

theorem zrI {x:Operand} (hop:o.op=.nilCheck x) (hA:act P Γ o ev ob=A) (hs:A.safe):ActOk P Γ o ev ob A:=by
 have hx:x∈o.op.operands.toList:=by simp [hop,Op.operands]
 simp only [act,hop] at hA
 split at hA
 ·rename_i L off h; subst hA
  exact ActOk.pure (zfN hx fun L hL=>by rw [h];exact hL) fun ev' ob' he _=>by simp only [act,hop,he x hx,h]
 ·rename_i L off h; subst hA
  exact ActOk.pure (zfN hx fun L hL=>by rw [h];exact hL) fun ev' ob' he _=>by simp only [act,hop,he x hx,h]
 ·rename_i L s i k h; subst hA
  exact ActOk.pure (zfN hx fun L hL=>by rw [h];exact hL) fun ev' ob' he _=>by simp only [act,hop,he x hx,h]
 ·rename_i h; subst hA
  exact ActOk.pure (zfN hx fun L hL=>by rw [h];exact hL) fun ev' ob' he _=>by simp only [act,hop,he x hx,h]
 ·subst hA;exact hs.elim

theorem zCK {op : BinOp} {k : IntKind} {p q : Int} (hs : (zwB op k p q).safe)
    (hc:∀ ev' ob',(∀ x∈o.op.operands.toList,ev' x=ev x)→act P Γ o ev' ob'=zwB op k p q):ActOk P Γ o ev ob (zwB op k p q):=by
  cases op <;> first
    | exact hs.elim
    | exact ActOk.pure (zcJ _) fun ev' ob' he _=>hc ev' ob' he
    | exact ActOk.pchk (zcJ _) fun ev' ob' he _=>hc ev' ob' he

theorem zCL {op:BinOp} {t t':TypeId} {x y:Operand} (hop:o.op=.binOp op t x y t') (hA:act P Γ o ev ob=A) (hs:A.safe):ActOk P Γ o ev ob A:=by
 have hx:x∈o.op.operands.toList:=by simp [hop,Op.operands]
 have hy:y∈o.op.operands.toList:=by simp [hop,Op.operands]
 simp only [act,hop] at hA
 split at hA
 ·rename_i k p k' q hex hey
  split at hA
  ·rename_i hk
   subst hA
   exact zCK hs fun ev' ob' he=>by simp only [act,hop,he x hx,he y hy,hex,hey,hk,if_true]
  ·subst hA;exact hs.elim
 ·rename_i p q hex hey
  split at hA
  ·rename_i hu; subst hA
   exact ActOk.pure (zcJ _) fun ev' ob' he _=>by simp only [act,hop,he x hx,he y hy,hex,hey,hu]
  ·rename_i hu; subst hA
   exact ActOk.pure (zcJ _) fun ev' ob' he _=>by simp only [act,hop,he x hx,he y hy,hex,hey,hu]
  ·subst hA;exact hs.elim
 ·rename_i cs ds hex hey
  have hc:∀ ev' ob',(∀ x∈o.op.operands.toList,ev' x=ev x)→act P Γ o ev' ob'=A:=fun ev' ob' he=>by
   simp only [act,hop,he x hx,he y hy,hex,hey];exact hA
  unfold zCm at hA
  split at hA
  ·split at hA
   ·subst hA;exact ActOk.pure (zcJ _) fun ev' ob' he _=>hc ev' ob' he
   ·subst hA;exact ActOk.pure (zcJ _) fun ev' ob' he _=>hc ev' ob' he
   ·subst hA;exact hs.elim
  ·subst hA;exact hs.elim
 ·rename_i hex hey
  have hc:∀ ev' ob',(∀ x∈o.op.operands.toList,ev' x=ev x)→act P Γ o ev' ob'=A:=fun ev' ob' he=>by
   simp only [act,hop,he x hx,he y hy,hex,hey];exact hA
  split at hA
  ·subst hA
   exact ⟨fun x hx=>by simp [OpAct.u] at hx,.inl rfl,fun x hx=>by simp [OpAct.u] at hx,fun d hd L hL=>by (simp only [OpAct.gives] at hd;obtain ⟨q,rfl⟩:=hd;simp [dvV,d1V,clV] at hL),fun ev' ob' he _=>hc ev' ob' he⟩
  ·subst hA
   exact ⟨fun x hx=>by simp [OpAct.u] at hx,.inl rfl,fun x hx=>by simp [OpAct.u] at hx,fun d hd L hL=>by (simp only [OpAct.gives] at hd;obtain ⟨q,rfl⟩:=hd;simp [dvV,d1V,clV] at hL),fun ev' ob' he _=>hc ev' ob' he⟩
  ·subst hA;exact hs.elim
 ·rename_i hex hey
  have hc:∀ ev' ob',(∀ x∈o.op.operands.toList,ev' x=ev x)→act P Γ o ev' ob'=A:=fun ev' ob' he=>by
   simp only [act,hop,he x hx,he y hy,hex,hey];exact hA
  split at hA
  ·subst hA;exact ActOk.pure (zcJ _) fun ev' ob' he _=>hc ev' ob' he
  ·subst hA;exact ActOk.pure (zcJ _) fun ev' ob' he _=>hc ev' ob' he
  ·subst hA;exact hs.elim
 ·subst hA;exact hs.elim

theorem zCM {t:TypeId} {x y:Operand} (hop:o.op=.index t x y) (hA:act P Γ o ev ob=A) (hs:A.safe):ActOk P Γ o ev ob A:=by
 have hx:x∈o.op.operands.toList:=by simp [hop,Op.operands]
 have hy:y∈o.op.operands.toList:=by simp [hop,Op.operands]
 have hc:∀ ev' ob',(∀ x∈o.op.operands.toList,ev' x=ev x)→act P Γ o ev' ob'=A:=fun ev' ob' he=>by
  rw [← hA];simp only [act,hop,he x hx,he y hy]
 simp only [act,hop,znt] at hA
 split at hA
 ·split at hA
  ·rename_i cs k j _ _ hex hey
   split at hA
   ·rename_i d _ hr
    subst hA
    refine ActOk.pure (zfN hx fun L hL=>?_) fun ev' ob' he _=>hc ev' ob' he
    rw [hex];exact zxt hr L hL
   ·subst hA;exact hs.elim
  ·subst hA;exact hs.elim
 ·subst hA;exact hs.elim

theorem ok_slice {t:TypeId} {x:Operand} {lo hi:Option Operand} (hop:o.op=.slice t x lo hi none) (hA:act P Γ o ev ob=A) (hs:A.safe):ActOk P Γ o ev ob A:=by
 have hx:x∈o.op.operands.toList:=by simp [hop,Op.operands]
 have hlo:∀ y,lo=some y→y∈o.op.operands.toList:=fun y e=>by subst e;simp [hop,Op.operands]
 have hhi:∀ y,hi=some y→y∈o.op.operands.toList:=fun y e=>by subst e;simp [hop,Op.operands]
 have hc:∀ ev' ob',(∀ x∈o.op.operands.toList,ev' x=ev x)→act P Γ o ev' ob'=A:=fun ev' ob' he=>by
  have e1:zvS ev' lo=zvS ev lo:=by
   cases lo with
   | none=>rfl
   | some y=>simp only [zvS,he y (hlo y rfl)]
  have e2:zvS ev' hi=zvS ev hi:=by
   cases hi with
   | none=>rfl
   | some y=>simp only [zvS,he y (hhi y rfl)]
  rw [← hA];simp only [act,hop,he x hx,e1,e2]
 simp only [act,hop,zkj] at hA
 split at hA
 ·split at hA
  ·split at hA
   ·subst hA
    exact ActOk.pchk (fun L hL=>by simp [dvV,d1V,clV] at hL) fun ev' ob' he _=>hc ev' ob' he
   ·subst hA;exact hs.elim
  ·subst hA;exact hs.elim
 ·subst hA;exact hs.elim

theorem zrJ {d:D1} : ∀ L,L∈d1V d→L∈zbl d:=by
 intro L hL
 cases d with
 | c y=>exact zrG L hL
 | agg cs =>
  obtain ⟨c,hc,hL⟩:=List.mem_flatMap.1 hL
  exact List.mem_flatMap.2 ⟨c,hc,zrG L hL⟩

theorem zk8 {q:MQ} {kd:DV} {ok:Bool} {F:List Int→Option (List Int)} {fin:DV→OpAct} (hA:found q kd ok F fin=A) (hs:A.safe):∃ d,(∀ M∈dvV d,False)∧fin d=A:=by
 unfold found at hA
 split at hA
 ·split at hA
  ·rename_i d hdv
   have hV:∀ M,M∈d1V d→False:=fun M hM=>by have:=zrJ M hM;rw [zkm hdv] at this;simp at this
   cases ok with
   | true =>
    refine ⟨_,fun M hM=>?_,hA⟩
    simp only [dvV,List.flatMap_cons,List.flatMap_nil,List.append_nil,List.mem_append] at hM
    rcases hM with hM | hM
    ·exact hV M hM
    ·simp [d1V,clV] at hM
   | false=>exact ⟨.one d,fun M hM=>hV M hM,hA⟩
  ·subst hA;exact hs.elim
 ·subst hA;exact hs.elim

theorem zxw {t:TypeId} {x y:Operand} {k:Bool} (hop:o.op=.lookup t x y k) (hA:act P Γ o ev ob=A) (hs:A.safe):ActOk P Γ o ev ob A:=by
 have hx:x∈o.op.operands.toList:=by simp [hop,Op.operands]
 have hy:y∈o.op.operands.toList:=by simp [hop,Op.operands]
 have hc0:∀ ev' ob',(∀ x∈o.op.operands.toList,ev' x=ev x)→act P Γ o ev' ob'=match zEc (ev x) with | true=>zmK P t (ev x) (ev y) k ob' | false=>zfV P t (ev x) (ev y) k:=fun ev' ob' he=>by
  simp only [act,hop,he x hx,he y hy]
  cases zEc (ev x) <;> rfl
 cases hmo:zEc (ev x) with
 | true =>
  rw [hc0 ev ob (fun _ _=>rfl),hmo] at hA
  have hc1:∀ ev' ob',(∀ x∈o.op.operands.toList,ev' x=ev x)→act P Γ o ev' ob'=zmK P t (ev x) (ev y) k ob':=fun ev' ob' he=>by rw [hc0 ev' ob' he,hmo]
  simp only at hA
  unfold zmK at hA hc1
  split at hA
  ·rename_i kt vt L hu hex
   split at hA
   ·rename_i q kt' vt' q' n F hE hL
    split at hA
    ·rename_i hcond
     obtain ⟨d,hd,e⟩:=zk8 hA hs
     subst e
     refine ActOk.pure (fun M hM=>(hd M hM).elim) fun ev' ob' he hob=>?_
     rw [hc1 ev' ob' he]
     have:=hob (L,false) (by simp);simp only at this
     simp only [hu,hex,this,hL,hE,if_pos hcond]
     exact hA
    ·subst hA;exact hs.elim
   ·subst hA;exact hs.elim
  ·rename_i kt vt L i hu hex
   split at hA
   ·rename_i q te bb kt' vt' q' n mk nn F hE hL
    split at hA
    ·rename_i hcond
     obtain ⟨d,hd,e⟩:=zk8 hA hs
     subst e
     refine ActOk.pchk (fun M hM=>(hd M hM).elim) fun ev' ob' he hob=>?_
     rw [hc1 ev' ob' he]
     have:=hob (L,false) (by simp);simp only at this
     simp only [hu,hex,this,hL,hE,if_pos hcond]
     exact hA
    ·subst hA;exact hs.elim
   ·subst hA;exact hs.elim
  ·rename_i kt vt q' n F hu hex
   split at hA
   ·rename_i q hE
    split at hA
    ·rename_i hcond
     obtain ⟨d,hd,e⟩:=zk8 hA hs
     subst e
     refine ActOk.pure (fun M hM=>(hd M hM).elim) fun ev' ob' he hob=>?_
     rw [hc1 ev' ob' he]
     simp only [hu,hex,hE,if_pos hcond]
     exact hA
    ·subst hA;exact hs.elim
   ·subst hA;exact hs.elim
  ·subst hA;exact hs.elim
 | false =>
 have hc:∀ ev' ob',(∀ x∈o.op.operands.toList,ev' x=ev x)→act P Γ o ev' ob'=A:=fun ev' ob' he=>by
  rw [← hA,hc0 ev' ob' he,hc0 ev ob (fun _ _=>rfl),hmo]
 rw [hc0 ev ob (fun _ _=>rfl),hmo] at hA
 simp only [zfV] at hA
 split at hA
 ·split at hA
  ·rename_i F j _ _ _ _ _
   subst hA
   refine ⟨fun x hx=>by simp [OpAct.u] at hx,.inl rfl,fun x hx=>by simp [OpAct.u] at hx,fun d hd L hL=>?_,fun ev' ob' he _=>hc ev' ob' he⟩
   simp only [OpAct.gives] at hd
   obtain ⟨q,rfl⟩:=hd
   have:∀ l:List Int,(zCl q l).flatMap clV=[]:=by
    intro l
    induction l with
    | nil=>rfl
    | cons x l ih=>simp [zCl,clV,ih]
   simp [dvV,d1V,clV,this] at hL
  ·subst hA;exact hs.elim
 ·subst hA;exact hs.elim

theorem zpX {t:TypeId} {x y z:Operand} (hop:o.op=.mapUpdate t x y z) (hA:act P Γ o ev ob=A) (hs:A.safe):ActOk P Γ o ev ob A:=by
 have hx:x∈o.op.operands.toList:=by simp [hop,Op.operands]
 have hy:y∈o.op.operands.toList:=by simp [hop,Op.operands]
 have hz:z∈o.op.operands.toList:=by simp [hop,Op.operands]
 have hc0:∀ ev' ob',(∀ x∈o.op.operands.toList,ev' x=ev x)→act P Γ o ev' ob'=match zEc (ev x) with | true=>zvR P t (ev x) (ev y) (ev z) ob' | false=>zfW P t (ev x) (ev y) (ev z):=fun ev' ob' he=>by
  simp only [act,hop,he x hx,he y hy,he z hz]
  cases zEc (ev x) <;> rfl
 cases hmo:zEc (ev x) with
 | true =>
  rw [hc0 ev ob (fun _ _=>rfl),hmo] at hA
  have hc1:∀ ev' ob',(∀ x∈o.op.operands.toList,ev' x=ev x)→act P Γ o ev' ob'=zvR P t (ev x) (ev y) (ev z) ob':=fun ev' ob' he=>by rw [hc0 ev' ob' he,hmo]
  simp only at hA
  unfold zvR at hA hc1
  split at hA
  ·rename_i kt vt L hu hex
   split at hA
   ·rename_i q kt' vt' q' n F hE hL
    split at hA
    ·rename_i c dv hck hez
     split at hA
     ·rename_i l hl
      split at hA
      ·rename_i hcond
       have hcc:∀ ev' ob',(∀ x∈o.op.operands.toList,ev' x=ev x)→(∀ y∈[(L,true)],ob' y.1=ob y.1)→act P Γ o ev' ob'=A:=fun ev' ob' he hob=>by
        rw [hc1 ev' ob' he]
        have:=hob (L,true) (by simp);simp only at this
        simp only [hu,hex,this,hL,hE,hck,hez,hl,if_pos hcond]
        exact hA
       subst hA
       refine ⟨fun x hx=>?_,.inl rfl,fun x hx M hM=>?_,fun d' hd' M hM=>?_,fun ev' ob' he hob=>hcc ev' ob' he hob⟩
       ·simp only [OpAct.u,List.mem_singleton] at hx;subst hx;simp [OpAct.fp]
       ·simp only [OpAct.u,List.mem_singleton] at hx;subst hx;simp [aoV] at hM
       ·simp only [OpAct.gives] at hd';subst hd';simp [dvV,d1V,clV] at hM
      ·subst hA;exact hs.elim
     ·subst hA;exact hs.elim
    ·subst hA;exact hs.elim
   ·subst hA;exact hs.elim
  ·rename_i kt vt L i hu hex
   split at hA
   ·rename_i q te bb kt' vt' q' n mk nn F hE hL
    split at hA
    ·rename_i c dv hck hez
     split at hA
     ·rename_i l hl
      split at hA
      ·rename_i hcond
       have hcc:∀ ev' ob',(∀ x∈o.op.operands.toList,ev' x=ev x)→(∀ y∈[(L,true)],ob' y.1=ob y.1)→act P Γ o ev' ob'=A:=fun ev' ob' he hob=>by
        rw [hc1 ev' ob' he]
        have:=hob (L,true) (by simp);simp only at this
        simp only [hu,hex,this,hL,hE,hck,hez,hl,if_pos hcond]
        exact hA
       subst hA
       refine ⟨fun x hx=>?_,.inl rfl,fun x hx M hM=>?_,fun d' hd' M hM=>?_,fun ev' ob' he hob=>hcc ev' ob' he hob⟩
       ·simp only [OpAct.u,List.mem_singleton] at hx;subst hx;simp [OpAct.fp]
       ·simp only [OpAct.u,List.mem_singleton] at hx;subst hx;simp [aoV] at hM
       ·simp only [OpAct.gives] at hd';subst hd';simp [dvV,d1V,clV] at hM
      ·subst hA;exact hs.elim
     ·subst hA;exact hs.elim
    ·subst hA;exact hs.elim
   ·subst hA;exact hs.elim
  ·subst hA;exact hs.elim
 | false =>
 have hc:∀ ev' ob',(∀ x∈o.op.operands.toList,ev' x=ev x)→act P Γ o ev' ob'=A:=fun ev' ob' he=>by
  rw [← hA,hc0 ev' ob' he,hc0 ev ob (fun _ _=>rfl),hmo]
 rw [hc0 ev ob (fun _ _=>rfl),hmo] at hA
 simp only [zfW] at hA
 split at hA
 ·split at hA
  ·subst hA
   exact ActOk.pchk (fun L hL=>by simp [dvV,d1V,clV] at hL) fun ev' ob' he _=>hc ev' ob' he
  ·subst hA;exact hs.elim
 ·subst hA;exact hs.elim

theorem zwe {t:TypeId} (hop:o.op=.makeMap t none) (hA:act P Γ o ev ob=A) (hs:A.safe):ActOk P Γ o ev ob A:=by
 cases hv:zKz Γ o.dst with
 | true =>
  simp only [act,hop,hv] at hA
  split at hA
  ·rename_i kt vt hu
   split at hA
   ·rename_i q hE
    exact znS (ao:=.mo kt vt q 0 (fun _=>none)) (d:=fun t=>.cl (.mo t)) (fun L hL=>by simp [aoV] at hL) (fun t L hL=>by simp [dvV,d1V,clV] at hL) (fun ev' ob' _=>by simp only [act,hop,hv,hu,hE]) hA hs
   ·subst hA;exact hs.elim
  ·subst hA;exact hs.elim
 | false =>
 have hc:∀ ev' ob',act P Γ o ev' ob'=A:=fun ev' ob'=>by rw [← hA];simp only [act,hop,hv]
 simp only [act,hop,hv] at hA
 split at hA
 ·split at hA
  ·subst hA;exact ActOk.pchk (zcJ _) fun ev' ob' _ _=>hc ev' ob'
  ·subst hA;exact hs.elim
 ·subst hA;exact hs.elim

theorem zFS {op:UnOp} {t:TypeId} {x:Operand} (hop:o.op=.unOp op t x) (hA:act P Γ o ev ob=A) (hs:A.safe):ActOk P Γ o ev ob A:=by
 have hx:x∈o.op.operands.toList:=by simp [hop,Op.operands]
 simp only [act,hop] at hA
 split at hA
 ·rename_i h; subst hA
  exact ActOk.pure (zcJ _) fun ev' ob' he _=>by simp only [act,hop,he x hx,h]
 ·rename_i h; subst hA
  exact ActOk.pure (zcJ _) fun ev' ob' he _=>by simp only [act,hop,he x hx,h]
 ·subst hA;exact hs.elim

theorem zpY {t:TypeId} {x:Operand} {f:Nat} (hop:o.op=.fieldAddr t x f) (hA:act P Γ o ev ob=A) (hs:A.safe):ActOk P Γ o ev ob A:=by
 have hx:x∈o.op.operands.toList:=by simp [hop,Op.operands]
 simp only [act,hop] at hA
 split at hA
 ·rename_i off hf
  split at hA
  ·rename_i h; subst hA
   exact ActOk.pure (zfN hx fun L hL=>by rw [h];exact hL) fun ev' ob' he _=>by simp only [act,hop,he x hx,h,hf]
  ·rename_i h; subst hA
   exact ActOk.pure (zfN hx fun L hL=>by rw [h];exact hL) fun ev' ob' he _=>by simp only [act,hop,he x hx,h,hf]
  ·rename_i h; subst hA
   exact ActOk.pure (zfN hx fun L hL=>by rw [h];exact hL) fun ev' ob' he _=>by simp only [act,hop,he x hx,h,hf]
  ·rename_i h; subst hA
   exact ActOk.pure (zfN hx fun L hL=>by rw [h];exact hL) fun ev' ob' he _=>by simp only [act,hop,he x hx,h,hf]
  ·subst hA;exact hs.elim
 ·subst hA;exact hs.elim

theorem zpZ {t:TypeId} {x y:Operand} (hop:o.op=.indexAddr t x y) (hA:act P Γ o ev ob=A) (hs:A.safe):ActOk P Γ o ev ob A:=by
 have hx:x∈o.op.operands.toList:=by simp [hop,Op.operands]
 have hy:y∈o.op.operands.toList:=by simp [hop,Op.operands]
 simp only [act,hop] at hA
 split at hA
 ·rename_i e hu
  split at hA
  ·rename_i n k j hn hj
   split at hA
   ·rename_i len s get hex
    split at hA
    ·rename_i hs'; subst hA
     exact ActOk.pchk (zcJ _) fun ev' ob' he _=>by simp only [act,hop,he x hx,he y hy,hex,hu,hn,hj,hs',if_true]
    ·subst hA;exact hs.elim
   ·rename_i L hex
    split at hA
    ·rename_i e' s b len get hL
     split at hA
     ·rename_i hs'; subst hA
      refine ActOk.pchk (fun M hM=>.inl (.inl ⟨x,hx,?_⟩)) fun ev' ob' he hob=>?_
      ·rw [hex];exact hM
      have e:=hob (L,false) (by simp);simp only at e
      simp only [act,hop,he x hx,he y hy,hex,hu,hn,hj,e,hL,hs',if_true]
     ·subst hA;exact hs.elim
    ·rename_i s len get hL
     split at hA
     ·rename_i hs'; subst hA
      refine ActOk.pchk (zcJ _) fun ev' ob' he hob=>?_
      have e:=hob (L,false) (by simp);simp only at e
      simp only [act,hop,he x hx,he y hy,hex,hu,hn,hj,e,hL,hs',if_true]
     ·subst hA;exact hs.elim
    ·rename_i hL
     split at hA
     ·rename_i hs'; subst hA
      refine ActOk.pchk (fun M hM=>.inl (.inl ⟨x,hx,?_⟩)) fun ev' ob' he hob=>?_
      ·rw [hex];exact hM
      have e:=hob (L,false) (by simp);simp only at e
      simp only [act,hop,he x hx,he y hy,hex,hu,hn,hj,e,hL,hs',if_true]
     ·subst hA;exact hs.elim
    ·rename_i hL
     split at hA
     ·rename_i hs'; subst hA
      refine ActOk.pchk (fun M hM=>.inl (.inl ⟨x,hx,?_⟩)) fun ev' ob' he hob=>?_
      ·rw [hex];exact hM
      have e:=hob (L,false) (by simp);simp only at e
      simp only [act,hop,he x hx,he y hy,hex,hu,hn,hj,e,hL,hs',if_true]
     ·subst hA;exact hs.elim
    ·subst hA;exact hs.elim
   ·rename_i L i hex
    split at hA
    ·rename_i hL
     split at hA
     ·rename_i hs'; subst hA
      refine ActOk.pchk (fun M hM=>.inl (.inl ⟨x,hx,?_⟩)) fun ev' ob' he hob=>?_
      ·rw [hex];exact hM
      have e:=hob (L,false) (by simp);simp only at e
      simp only [act,hop,he x hx,he y hy,hex,hu,hn,hj,e,hL,hs',if_true]
     ·subst hA;exact hs.elim
    ·subst hA;exact hs.elim
   ·subst hA;exact hs.elim
  ·subst hA;exact hs.elim
 ·rename_i m e hu
  have hc:∀ ev' ob',(∀ x∈o.op.operands.toList,ev' x=ev x)→act P Γ o ev' ob'=A:=fun ev' ob' he=>by
   simp only [act,hop,hu,he x hx,he y hy];exact hA
  unfold zki at hA
  split at hA
  ·split at hA
   ·split at hA
    ·rename_i h;subst hA;exact ActOk.pure (zfN hx fun L hL=>by simp [dvV,d1V,clV] at hL) fun ev' ob' he _=>hc ev' ob' he
    ·rename_i h;subst hA;exact ActOk.pure (zcJ _) fun ev' ob' he _=>hc ev' ob' he
    ·subst hA;exact hs.elim
   ·subst hA;exact hs.elim
  ·subst hA;exact hs.elim
 ·subst hA;exact hs.elim

theorem zwf {x:Operand} {k:Nat} (hop:o.op=.extract x k) (hA:act P Γ o ev ob=A) (hs:A.safe):ActOk P Γ o ev ob A:=by
 have hx:x∈o.op.operands.toList:=by simp [hop,Op.operands]
 simp only [act,hop] at hA
 split at hA
 ·rename_i ds h
  split at hA
  ·rename_i d hd; subst hA
   refine ActOk.pure (zfN hx fun L hL=>?_) fun ev' ob' he _=>by simp only [act,hop,he x hx,h,hd]
   rw [h];exact List.mem_flatMap.2 ⟨d,List.mem_of_getElem? hd,hL⟩
  ·subst hA;exact hs.elim
 ·subst hA;exact hs.elim

theorem zii {c:Callee} {args:Array Operand} {ts:Array TypeId} (hop:o.op=.call { callee:=c,args,argTypes:=ts }):∀ x∈args.toList,x∈o.op.operands.toList:=by
 intro x hx
 simp only [hop,Op.operands]
 cases c <;> simp [Call.operands] <;> simp at hx <;> first | exact hx | exact .inr hx

theorem zKY {b:Builtin} {args:Array Operand} {ts:Array TypeId} (hb:b=.max∨b=.min) (hop:o.op=.call { callee:=.builtin b,args,argTypes:=ts }) (hA:act P Γ o ev ob=A) (hs:A.safe):ActOk P Γ o ev ob A:=by
 have hm:=zii hop
 have hmap:∀ ev':Operand→DV,(∀ x∈o.op.operands.toList,ev' x=ev x)→args.toList.map ev'=args.toList.map ev:=fun ev' he=>List.map_congr_left fun x hx=>he x (hm x hx)
 rcases hb with rfl | rfl <;> simp only [act,hop] at hA <;> split at hA
 ·rename_i h;subst hA;exact ActOk.pure (zcJ _) fun ev' ob' he _=>by simp only [act,hop,hmap ev' he,h]
 ·subst hA;exact hs.elim
 ·rename_i h;subst hA;exact ActOk.pure (zcJ _) fun ev' ob' he _=>by simp only [act,hop,hmap ev' he,h]
 ·subst hA;exact hs.elim

theorem zKZ {args:Array Operand} {ts:Array TypeId} (hop:o.op=.call { callee:=.builtin .len,args,argTypes:=ts }) (hA:act P Γ o ev ob=A) (hs:A.safe):ActOk P Γ o ev ob A:=by
 have hm:=zii hop
 simp only [act,hop] at hA
 split at hA
 ·rename_i x t hargs ht
  have hx:x∈o.op.operands.toList:=hm x (by rw [hargs];simp)
  split at hA
  ·rename_i e hu
   split at hA
   ·rename_i h;subst hA;exact ActOk.pure (zcJ _) fun ev' ob' he _=>by simp only [act,hop,hargs,ht,hu,he x hx,h]
   ·rename_i h;subst hA;exact ActOk.pure (zcJ _) fun ev' ob' he _=>by simp only [act,hop,hargs,ht,hu,he x hx,h]
   ·rename_i L h
    split at hA
    ·rename_i hL; subst hA
     refine ActOk.pure (zcJ _) fun ev' ob' he hob=>?_
     have e:=hob (L,false) (by simp);simp only at e
     simp only [act,hop,hargs,ht,hu,he x hx,h,e,hL]
    ·rename_i hL; subst hA
     refine ActOk.pure (zcJ _) fun ev' ob' he hob=>?_
     have e:=hob (L,false) (by simp);simp only at e
     simp only [act,hop,hargs,ht,hu,he x hx,h,e,hL]
    ·rename_i hL; subst hA
     refine ActOk.pure (zcJ _) fun ev' ob' he hob=>?_
     have e:=hob (L,false) (by simp);simp only at e
     simp only [act,hop,hargs,ht,hu,he x hx,h,e,hL]
    ·rename_i hL; subst hA
     refine ActOk.pure (zcJ _) fun ev' ob' he hob=>?_
     have e:=hob (L,false) (by simp);simp only at e
     simp only [act,hop,hargs,ht,hu,he x hx,h,e,hL]
    ·subst hA;exact hs.elim
   ·rename_i L i h
    split at hA
    ·rename_i hL; subst hA
     refine ActOk.pchk (zcJ _) fun ev' ob' he hob=>?_
     have e:=hob (L,false) (by simp);simp only at e
     simp only [act,hop,hargs,ht,hu,he x hx,h,e,hL]
    ·subst hA;exact hs.elim
   ·subst hA;exact hs.elim
  ·rename_i kt vt hu
   split at hA
   ·rename_i L h
    split at hA
    ·rename_i hL; subst hA
     refine ActOk.pure (zcJ _) fun ev' ob' he hob=>?_
     have e:=hob (L,false) (by simp);simp only at e
     simp only [act,hop,hargs,ht,hu,he x hx,h,e,hL]
    ·subst hA;exact hs.elim
   ·rename_i h; subst hA
    exact ActOk.pure (zcJ _) fun ev' ob' he _=>by simp only [act,hop,hargs,ht,hu,he x hx,h]
   ·subst hA;exact hs.elim
  ·subst hA;exact hs.elim
 ·subst hA;exact hs.elim

theorem zwg {d:DV} {T:Nat} (h:ziR d ob=some T):d=.one (.c (.vec T))∧∃ a1 a2 a3 a4 a5 a6 a7 a8,ob T=some (.vv a1 a2 a3 a4 a5 a6 a7 a8):=by
 unfold ziR at h
 split at h
 ·split at h
  ·rename_i hT
   simp only [Option.some.injEq] at h;subst h
   exact ⟨rfl,_,_,_,_,_,_,_,_,hT⟩
  ·cases h
 ·cases h

def zj4 (d:DV) (ob:Nat→Option AO):Option (Nat×Nat×(Nat→List PV)×List (Nat×Bool)) :=
 match d with
 | .one (.c (.p (.sl n sz get)))=>some (n,sz,get,[])
 | .one (.c (.vec M))=>match ob M with
  | some (.vec _ sz _ n get)=>some (n,sz,get,[(M,false)])
  | some (.fvec sz n get)=>some (n,sz,get,[(M,false)])
  | _=>none
 | _=>none
theorem zp0 {d : DV} {ob' : Nat → Option AO} {m sz : Nat} {new : Nat → List PV} {fps : List (Nat × Bool)} (h : zj4 d ob = some (m, sz, new, fps)) (hob : ∀ y ∈ fps, ob' y.1 = ob y.1) :
  zj4 d ob'=some (m,sz,new,fps):=by
 unfold zj4 at h ⊢
 split at h
 ·exact h
 ·rename_i M
  split at h
  ·rename_i hM
   have h':=h
   simp only [Option.some.injEq,Prod.mk.injEq] at h
   have e:=hob (M,false) (by rw [← h.2.2.2];simp);simp only at e
   rw [e,hM];exact h'
  ·rename_i hM
   have h':=h
   simp only [Option.some.injEq,Prod.mk.injEq] at h
   have e:=hob (M,false) (by rw [← h.2.2.2];simp);simp only at e
   rw [e,hM];exact h'
  ·cases h
 ·cases h

theorem zwh {d:DV} {ob':Nat→Option AO} {m sz:Nat} {new:Nat→List PV} {fps:List (Nat×Bool)} (h:zj4 d ob=some (m,sz,new,fps)) (hob:∀ y∈fps,ob' y.1=ob y.1):ziR d ob'=none:=by
 unfold zj4 at h
 split at h
 ·rfl
 ·rename_i M
  split at h
  ·rename_i hM
   simp only [Option.some.injEq,Prod.mk.injEq] at h
   have e:=hob (M,false) (by rw [← h.2.2.2];simp);simp only at e
   simp only [ziR,e,hM]
  ·rename_i hM
   simp only [Option.some.injEq,Prod.mk.injEq] at h
   have e:=hob (M,false) (by rw [← h.2.2.2];simp);simp only at e
   simp only [ziR,e,hM]
  ·cases h
 ·cases h

theorem zrK {s x : Operand} {e : TypeId} {ie : TypeInfo} {T : Nat} (hsm : s ∈ o.op.operands.toList) (hx : x ∈ o.op.operands.toList) (hT0 : ziR (ev x) ob = some T)
    (hc:∀ ev' ob',ev' x=ev x→ziR (ev' x) ob'=some T→act P Γ o ev' ob'=zed o e ie (ev' s) T ob') (hA:zed o e ie (ev s) T ob=A) (hs:A.safe):ActOk P Γ o ev ob A:=by
  obtain ⟨hxT,a1,a2,a3,a4,a5,a6,a7,a8,hTT⟩:=zwg hT0
  unfold zed at hA
  split at hA
  · rename_i hT
    split at hA
    · rename_i L hes
      split at hA
      · rename_i hL
        split at hA
        · rename_i hif
          subst hA
          refine ⟨fun z hz=>?_,.inr ⟨L,rfl,by simp [OpAct.fp]⟩,fun z hz M hM=>?_,fun d' hd' M hM=>?_,fun ev' ob' he hob=>?_⟩
          · simp only [OpAct.u, List.mem_cons, List.not_mem_nil, or_false] at hz
            rcases hz with rfl | rfl <;> simp [OpAct.fp]
          · simp only [OpAct.u, List.mem_cons, List.not_mem_nil, or_false] at hz
            rcases hz with rfl | rfl <;> simp [aoV] at hM
          · simp only [OpAct.gives] at hd'; subst hd'
            simp only [dvV,d1V,clV,List.mem_singleton] at hM;subst hM
            exact .inr (by simp [OpAct.fp])
          · have e1 := hob (L, true) (by simp [OpAct.fp])
            have e2:=hob (T,true) (by simp [OpAct.fp])
            simp only at e1 e2
            rw [hc ev' ob' (he x hx) (by rw [he x hx,hxT];simp only [ziR,e2,hTT])]
            simp only [zed,he s hsm,hes,e1,e2,hL,hT]
            rw [if_pos hif]
        · subst hA;exact hs.elim
      · subst hA;exact hs.elim
    · subst hA;exact hs.elim
  · subst hA;exact hs.elim

theorem zxx {args:Array Operand} {ts:Array TypeId} (hop:o.op=.call { callee:=.builtin .append,args,argTypes:=ts }) (hA:act P Γ o ev ob=A) (hs:A.safe):ActOk P Γ o ev ob A:=by
 have hm:=zii hop
 have hA0:=hA
 simp only [act,hop] at hA
 split at hA
 ·rename_i s x t t' hargs ht
  have hsm:s∈o.op.operands.toList:=hm s (by rw [hargs];simp)
  have hx:x∈o.op.operands.toList:=hm x (by rw [hargs];simp)
  split at hA
  ·rename_i e dst hu htt hd
   split at hA
   ·rename_i ie z hie hz
    have hA2:(match ziR (ev x) ob with
     | some T=>zed o e ie (ev s) T ob
     | none=>match zj4 (ev x) ob with
      | some (m,sz,new,fps)=>(match ev s with
       | .one (.c (.vec L))=>match ob L with
        | some (.vec e' s' b' n get)=>if e'=e∧s'=ie.size∧b'=ie.bytes∧sz=s'∧0 < s'∧zaW (ev x) ≠ [L] then
          .chk ((L,true) :: fps) ((n+m) * b'≤140737488355328∧n+m≤9223372036854775807) (.cl (.vec L)) [(L,.vec e s' b' (n+m) (appG n get new))] [L]
         else .no
        | _=>.no
       | .one (.c (.p .nils))=>match ob dst with
        | none=>if sz=ie.size∧0 < sz then
          .chk ((dst,true) :: fps) (m * ie.bytes≤140737488355328∧m≤9223372036854775807) (.cl (.vec dst)) [(dst,.vec e sz ie.bytes m new)] []
         else .no
        | some _=>.no
       | _=>.no)
      | none=>.no)=A:=hA
    clear hA
    have hcut:∀ (ev':Operand→DV) (ob':Nat→Option AO),act P Γ o ev' ob'=(match ziR (ev' x) ob' with
     | some T=>zed o e ie (ev' s) T ob'
     | none=>match zj4 (ev' x) ob' with
      | some (m,sz,new,fps)=>(match ev' s with
       | .one (.c (.vec L))=>match ob' L with
        | some (.vec e' s' b' n get)=>if e'=e∧s'=ie.size∧b'=ie.bytes∧sz=s'∧0 < s'∧zaW (ev' x) ≠ [L] then
          .chk ((L,true) :: fps) ((n+m) * b'≤140737488355328∧n+m≤9223372036854775807) (.cl (.vec L)) [(L,.vec e s' b' (n+m) (appG n get new))] [L]
         else .no
        | _=>.no
       | .one (.c (.p .nils))=>match ob' dst with
        | none=>if sz=ie.size∧0 < sz then
          .chk ((dst,true) :: fps) (m * ie.bytes≤140737488355328∧m≤9223372036854775807) (.cl (.vec dst)) [(dst,.vec e sz ie.bytes m new)] []
         else .no
        | some _=>.no
       | _=>.no)
      | none=>.no):=by
     intro ev' ob'
     simp only [act,hop,hargs,ht,hu,htt,hd,hie,hz]
     rfl
    split at hA2
    ·rename_i T hT
     exact zrK hsm hx hT (fun ev' ob' he hT'=>by rw [hcut,hT']) hA2 hs
    rename_i hVn
    have hA:=hA2
    split at hA
    ·rename_i m sz new fps hsrc
     have hvn':∀ (ev':Operand→DV) (ob':Nat→Option AO),(∀ x∈o.op.operands.toList,ev' x=ev x)→(∀ y∈fps,ob' y.1=ob y.1)→ziR (ev' x) ob'=none:=by
      intro ev' ob' he hob
      rw [he x hx];exact zwh hsrc hob
     -- the source looks only at what fps names
     have src':∀ (ev':Operand→DV) (ob':Nat→Option AO),(∀ x∈o.op.operands.toList,ev' x=ev x)→(∀ y∈fps,ob' y.1=ob y.1) →
       zj4 (ev' x) ob'=some (m,sz,new,fps):=by
      intro ev' ob' he hob
      rw [he x hx]
      exact zp0 hsrc hob
     split at hA
     ·rename_i L hes
      split at hA
      ·rename_i e' s' b' n' get' hL
       split at hA
       ·rename_i hif
        subst hA
        refine ⟨fun z hz=>?_,.inr ⟨L,rfl,by simp [OpAct.fp]⟩,fun z hz M hM=>?_,fun d' hd' M hM=>?_,fun ev' ob' he hob=>?_⟩
        ·simp only [OpAct.u,List.mem_singleton] at hz;subst hz;simp [OpAct.fp]
        ·simp only [OpAct.u,List.mem_singleton] at hz;subst hz;simp [aoV] at hM
        ·simp only [OpAct.gives] at hd'; subst hd'
         simp only [dvV,d1V,clV,List.mem_singleton] at hM;subst hM
         exact .inr (by simp [OpAct.fp])
        ·have e1 := src' ev' ob' he (fun y hy => hob y (List.mem_cons_of_mem _ hy))
         have e2:=hob (L,true) (by simp [OpAct.fp]);simp only at e2
         rw [hcut,hvn' ev' ob' he (fun y hy=>hob y (List.mem_cons_of_mem _ hy))]
         simp only []
         rw [e1]
         simp only [he s hsm,he x hx,hes,e2,hL]
         rw [if_pos hif]
       ·subst hA;exact hs.elim
      ·subst hA;exact hs.elim
     ·rename_i hes
      split at hA
      ·rename_i hn
       split at hA
       ·rename_i hif
        subst hA
        refine ⟨fun z hz=>?_,.inl rfl,fun z hz M hM=>?_,fun d' hd' M hM=>?_,fun ev' ob' he hob=>?_⟩
        ·simp only [OpAct.u,List.mem_singleton] at hz;subst hz;simp [OpAct.fp]
        ·simp only [OpAct.u,List.mem_singleton] at hz;subst hz;simp [aoV] at hM
        ·simp only [OpAct.gives] at hd'; subst hd'
         simp only [dvV,d1V,clV,List.mem_singleton] at hM;subst hM
         exact .inr (by simp [OpAct.fp])
        ·have e1 := src' ev' ob' he (fun y hy => hob y (List.mem_cons_of_mem _ hy))
         have e2:=hob (dst,true) (by simp [OpAct.fp]);simp only at e2
         rw [hcut,hvn' ev' ob' he (fun y hy=>hob y (List.mem_cons_of_mem _ hy))]
         simp only []
         rw [e1]
         simp only [he s hsm,hes,e2,hn]
         rw [if_pos hif]
       ·subst hA;exact hs.elim
      ·subst hA;exact hs.elim
     ·subst hA;exact hs.elim
    ·subst hA;exact hs.elim
   ·subst hA;exact hs.elim
  ·subst hA;exact hs.elim
 ·subst hA;exact hs.elim

theorem zK1 (x:PA):d1V (paD x)=[]:=by
 cases x with
 | one p=>rfl
 | agg cs=>exact zuv cs
theorem zm6 (rs:List PA):dvV (resD rs)=[]:=by
 have tup:∀ l:List PA,dvV (.tup (l.map paD))=[]:=by
  intro l
  induction l with
  | nil=>rfl
  | cons x l ih=>simp only [List.map_cons,dvV,List.flatMap_cons,zK1,List.nil_append] at ih ⊢;exact ih
 match rs with
 | []=>exact tup _
 | [x]=>exact zK1 x
 | x :: y :: l=>exact tup _

theorem zK2 {k : OwnK} {args : Array Operand} {c : Callee} {ts : Array TypeId} (hop : o.op = .call { callee := c, args, argTypes := ts })
    (hc:∀ ev' ob',(∀ x∈o.op.operands.toList,ev' x=ev x)→act P Γ o ev' ob'=zg0 P Γ o k (args.toList.map ev') ob') (hA:zg0 P Γ o k (args.toList.map ev) ob=A) (hs:A.safe):ActOk P Γ o ev ob A:=by
  have hm:=zii hop
  have hmap:∀ ev':Operand→DV,(∀ x∈o.op.operands.toList,ev' x=ev x)→args.toList.map ev'=args.toList.map ev:=fun ev' he=>List.map_congr_left fun x hx=>he x (hm x hx)
  unfold zg0 at hA
  split at hA
  · subst hA;exact hs.elim
  · split at hA
    · rename_i L hf caps hargs
      split at hA
      · rename_i hL hag
        split at hA
        · rename_i hif
          subst hA
          refine ⟨fun z hz=>?_,.inl rfl,fun z hz M hM=>?_,fun d' hd' M hM=>?_,fun ev' ob' he hob=>?_⟩
          · simp only [OpAct.u,List.mem_singleton] at hz;subst hz;simp [OpAct.fp]
          · simp only [OpAct.u,List.mem_singleton] at hz;subst hz;simp [aoV] at hM
          · simp only [OpAct.gives] at hd';subst hd';simp [dvV] at hM
          · have e2 := hob (L, true) (by simp [OpAct.fp]); simp only at e2
            rw [hc ev' ob' he,hmap ev' he]
            simp only [zg0,hargs,e2,hL,hag]
            rw [if_pos hif]
        · subst hA;exact hs.elim
      · subst hA;exact hs.elim
    · subst hA;exact hs.elim
  · split at hA
    · rename_i dst hargs hd
      split at hA
      · rename_i hn hi hz
        split at hA
        · rename_i hif
          subst hA
          refine ⟨fun z hz=>?_,.inl rfl,fun z hz M hM=>?_,fun d' hd' M hM=>?_,fun ev' ob' he hob=>?_⟩
          · simp only [OpAct.u,List.mem_singleton] at hz;subst hz;simp [OpAct.fp]
          · simp only [OpAct.u,List.mem_singleton] at hz;subst hz;simp [aoV] at hM
          · simp only [OpAct.gives] at hd'; subst hd'
            simp only [dvV,d1V,clV,List.mem_singleton] at hM;subst hM
            exact .inr (by simp [OpAct.fp])
          · have e2 := hob (dst, true) (by simp [OpAct.fp]); simp only at e2
            rw [hc ev' ob' he,hmap ev' he]
            simp only [zg0,hargs,hd,e2,hn,hi,hz]
            rw [if_pos hif]
        · subst hA;exact hs.elim
      · subst hA;exact hs.elim
    · subst hA;exact hs.elim
  · split at hA
    · rename_i L hargs
      split at hA
      · rename_i hL
        split at hA
        · rename_i hif
          split at hA
          · subst hA
            refine ⟨fun z hz=>?_,.inr ⟨L,rfl,by simp [OpAct.fp]⟩,fun z hz M hM=>?_,fun d' hd' M hM=>?_,fun ev' ob' he hob=>?_⟩
            · simp only [OpAct.u,List.mem_singleton] at hz;subst hz;simp [OpAct.fp]
            · simp only [OpAct.u,List.mem_singleton] at hz;subst hz;simp [aoV] at hM
            · simp only [OpAct.gives] at hd'; subst hd'
              simp only [dvV,d1V,clV,List.mem_singleton] at hM;subst hM
              exact .inr (by simp [OpAct.fp])
            · have e2 := hob (L, true) (by simp [OpAct.fp]); simp only at e2
              rw [hc ev' ob' he,hmap ev' he]
              simp only [zg0,hargs,e2,hL]
              rw [if_pos hif]
          · subst hA
            refine ⟨fun z hz=>?_,.inl rfl,fun z hz M hM=>?_,fun d' hd' M hM=>?_,fun ev' ob' he hob=>?_⟩
            · simp only [OpAct.u,List.mem_singleton] at hz;subst hz;simp [OpAct.fp]
            · simp only [OpAct.u,List.mem_singleton] at hz;subst hz;simp [aoV] at hM
            · simp only [OpAct.gives] at hd';subst hd';simp [dvV] at hM
            · have e2 := hob (L, true) (by simp [OpAct.fp]); simp only at e2
              rw [hc ev' ob' he,hmap ev' he]
              simp only [zg0,hargs,e2,hL]
              rw [if_pos hif]
        · subst hA;exact hs.elim
      · subst hA;exact hs.elim
    · subst hA;exact hs.elim

theorem zrL {ob:Nat→Option AO} : ∀ {cells l:List Cl} {ys cs:List XC} {u:List (Nat×AO)} {ms:List Nat},zfZ cells ys=some (l,u)→zdX ob cells=some (cs,ms) →
  u.map (·.1)=ms∧(∀ x∈u,aoV x.2=[])∧∀ L∈l.flatMap clV,L∈cells.flatMap clV
 | [],l,[],cs,u,ms,h,h2=>by
  simp only [zfZ,Option.some.injEq,Prod.mk.injEq] at h;obtain ⟨rfl,rfl⟩:=h
  simp only [zdX,Option.some.injEq,Prod.mk.injEq] at h2;rw [← h2.2]
  exact ⟨rfl,fun x hx=>by simp at hx,fun L hL=>hL⟩
 | [],l,_ :: _,cs,u,ms,h,h2=>by simp [zfZ] at h
 | c :: cells,l,[],cs,u,ms,h,h2=>by simp [zfZ] at h
 | c :: cells,l,y :: ys,cs,u,ms,h,h2=>by
  unfold zfZ at h
  split at h
  ·rename_i e;simp at e
  ·rename_i e1 e2
   simp only [List.cons.injEq] at e1 e2
   obtain ⟨rfl,rfl⟩:=e1;obtain ⟨rfl,rfl⟩:=e2
   split at h
   ·rename_i hp
    simp only [Option.some.injEq,Prod.mk.injEq] at h;obtain ⟨rfl,rfl⟩:=h
    simp only [zdX] at h2
    split at h2
    ·rename_i hc
     simp only [Option.some.injEq,Prod.mk.injEq] at h2;rw [← h2.2]
     obtain ⟨i1,i2,i3⟩:=zrL hp hc
     exact ⟨i1,i2,fun L hL=>by simp only [List.flatMap_cons,clV,List.nil_append] at hL ⊢;exact i3 L hL⟩
    ·cases h2
   ·cases h
  ·rename_i e1 e2
   simp only [List.cons.injEq] at e1 e2
   obtain ⟨rfl,rfl⟩:=e1;obtain ⟨rfl,rfl⟩:=e2
   split at h
   ·rename_i hp
    simp only [Option.some.injEq,Prod.mk.injEq] at h;obtain ⟨rfl,rfl⟩:=h
    simp only [zdX] at h2
    split at h2
    ·rename_i hc
     split at h2
     ·simp only [Option.some.injEq, Prod.mk.injEq] at h2; rw [← h2.2]
      obtain ⟨i1,i2,i3⟩:=zrL hp hc
      refine ⟨by simp [i1],fun x hx=>?_,fun L hL=>?_⟩
      ·rcases List.mem_cons.1 hx with e | hx
       ·subst e;rfl
       ·exact i2 x hx
      ·simp only [List.flatMap_cons, List.mem_append] at hL ⊢
       exact hL.imp_right (i3 L)
     ·cases h2
    ·cases h2
   ·cases h
  ·cases h
theorem zK3 {ob : Nat → Option AO} {d : DV} {x y : XA} {u : List (Nat × AO)} {ls ms : List Nat} (h : zwD ob d y = some u) (h2 : zrb ob d = some (x, ls, ms)) :
  u.map (·.1)=ls∧∀ x∈u,∀ L∈aoV x.2,∃ o',ob x.1=some o'∧L∈aoV o':=by
 have data:zmC ob d=some (x,ls,ms)→ls=[]:=by
  intro h
  unfold zmC at h
  split at h
  ·simp only [Option.some.injEq,Prod.mk.injEq] at h;exact h.2.1.symm
  ·cases h
 unfold zwD at h
 split at h
 ·rename_i L
  split at h
  ·rename_i ty' cells hL
   rw [zeJ,hL] at h2
   dsimp only at h2
   split at h2
   ·rename_i cs ms' hc
    simp only [Option.some.injEq,Prod.mk.injEq] at h2;obtain ⟨rfl,rfl,rfl⟩:=h2
    split at h
    ·split at h
     ·rename_i l u' hty hp
      simp only [Option.some.injEq] at h;subst h
      obtain ⟨i1,i2,i3⟩:=zrL hp hc
      refine ⟨by simp [i1],fun x hx K hK=>?_⟩
      rcases List.mem_cons.1 hx with e | hx
      ·subst e;exact ⟨_,hL,i3 K hK⟩
      ·rw [i2 x hx] at hK;simp at hK
     ·cases h
    ·cases h
   ·cases h2
  ·rename_i hno
   have hx:zmC ob (.one (.c (.ptr L 0)))=some (x,ls,ms):=by
    rw [zeJ] at h2
    cases hL:ob L with
    | none=>rw [hL] at h2;exact h2
    | some o =>
     rw [hL] at h2
     cases o with
     | box ty cells=>exact absurd hL (hno _ _)
     | _=>exact h2
   rw [data hx]
   split at h
   ·simp only [Option.some.injEq] at h;subst h;exact ⟨rfl,fun x hx=>by simp at hx⟩
   ·cases h
 ·rename_i hno
  have hx:zmC ob d=some (x,ls,ms):=by
   unfold zrb at h2
   split at h2
   ·exact (hno _ rfl).elim
   ·exact h2
  rw [data hx]
  split at h
  ·simp only [Option.some.injEq] at h;subst h;exact ⟨rfl,fun x hx=>by simp at hx⟩
  ·cases h
theorem zxy {ob:Nat→Option AO} : ∀ {ds:List DV} {xs ys:List XA} {u:List (Nat×AO)} {ls ms:List Nat},zfQ ob ds ys=some u→zeV ob ds=some (xs,ls,ms) →
  u.map (·.1)=ls∧∀ x∈u,∀ L∈aoV x.2,∃ o',ob x.1=some o'∧L∈aoV o'
 | [],xs,[],u,ls,ms,h,h2=>by
  simp only [zfQ,Option.some.injEq] at h;subst h
  simp only [zeV,Option.some.injEq,Prod.mk.injEq] at h2;rw [← h2.2.1]
  exact ⟨rfl,fun x hx=>by simp at hx⟩
 | [],_,_ :: _,_,_,_,h,_=>by simp [zfQ] at h
 | _ :: _,_,[],_,_,_,h,_=>by simp [zfQ] at h
 | d :: ds,xs,y :: ys,u,ls,ms,h,h2=>by
  simp only [zfQ] at h
  split at h
  ·rename_i u1 u2 e1 e2
   simp only [Option.some.injEq] at h;subst h
   simp only [zeV] at h2
   split at h2
   ·rename_i x bl m1 xs' bls m2 h3 h4
    simp only [Option.some.injEq,Prod.mk.injEq] at h2;rw [← h2.2.1]
    obtain ⟨i1,i2⟩:=zxy e2 h4
    obtain ⟨j1,j2⟩:=zK3 e1 h3
    exact ⟨by simp [i1,j1],fun x hx=>(List.mem_append.1 hx).elim (j2 x) (i2 x)⟩
   ·cases h2
  ·cases h
theorem zk9 {ob ob' : Nat → Option AO} : ∀ {cells : List Cl}, (∀ L ∈ cells.flatMap zaG, ob' L = ob L) → zdX ob' cells = zdX ob cells
  | [],_=>rfl
  | c :: cells,h=>by
    have ih:zdX ob' cells=zdX ob cells:=zk9 fun L hL=>h L (by simp only [List.flatMap_cons,List.mem_append];exact .inr hL)
    cases c with
    | vec M=>simp only [zdX,ih,h M (by simp [zaG])]
    | _=>simp only [zdX,ih]
theorem zxz {ob ob':Nat→Option AO} {d:DV} (h:∀ L∈za6 ob d,ob' L=ob L):zrb ob' d=zrb ob d∧∀ y,zwD ob' d y=zwD ob d y:=by
 have hx:zmC ob' d=zmC ob d:=by simp only [zmC,zm5 h]
 by_cases hd:∃ L,d=.one (.c (.ptr L 0))
 ·obtain ⟨L, rfl⟩ := hd
  have hL:ob' L=ob L:=h L (List.mem_flatMap.2 ⟨L,by simp [zaW,zbl,zaG],List.mem_cons_self⟩)
  refine ⟨?_,fun y=>by simp only [zwD,hL]⟩
  rw [zeJ,zeJ,hL,hx]
  cases ho:ob L with
  | none=>rfl
  | some o =>
   cases o with
   | box ty cells =>
    have:zdX ob' cells=zdX ob cells:=zk9 fun M hM=>h M (List.mem_flatMap.2 ⟨L,by simp [zaW,zbl,zaG],List.mem_cons_of_mem _ (by rw [ho];exact hM)⟩)
    simp only [this]
   | _=>rfl
 ·refine ⟨?_, fun y => ?_⟩
  ·unfold zrb
   split
   ·exact (hd ⟨_,rfl⟩).elim
   ·exact hx
  ·unfold zwD
   split
   ·exact (hd ⟨_,rfl⟩).elim
   ·rfl
theorem zm7 {ob ob' : Nat → Option AO} : ∀ {ds : List DV}, (∀ L ∈ ds.flatMap (za6 ob), ob' L = ob L) → zeV ob' ds = zeV ob ds ∧ ∀ ys, zfQ ob' ds ys = zfQ ob ds ys
  | [],_=>⟨rfl,fun ys=>by cases ys <;> rfl⟩
  | d :: ds,h=>by
    obtain ⟨i1,i2⟩:=zm7 (ds:=ds) (ob':=ob') fun L hL=>h L (by simp only [List.flatMap_cons,List.mem_append];exact .inr hL)
    obtain ⟨j1,j2⟩:=zxz (ob':=ob') (d:=d) fun L hL=>h L (by simp only [List.flatMap_cons,List.mem_append];exact .inl hL)
    refine ⟨by simp only [zeV,i1,j1],fun ys=>?_⟩
    cases ys with
    | nil=>rfl
    | cons y ys=>simp only [zfQ,i2,j2]
theorem zEo {C:MK} {ds:List DV} (hk:∀ ev' ob',(∀ x∈o.op.operands.toList,ev' x=ev x)→act P Γ o ev' ob'=zjZ C ds ob') (hA:zjZ C ds ob=A) (hs:A.safe):ActOk P Γ o ev ob A:=by
 unfold zjZ at hA
 split at hA
 ·rename_i xs ls ms has
  split at hA
  ·rename_i s rs ys hCx
   split at hA
   ·rename_i u hput hcond
    subst hA
    have hcond':=hcond
    simp only [Bool.and_eq_true,Nat.ble_eq] at hcond
    obtain ⟨h1,h2⟩:=zxy hput has
    have hw:∀ L∈ls,(L,true)∈wr ls ++ rd (ds.flatMap (za6 ob)):=fun L hL=>List.mem_append.2 (.inl (zpW hL))
    have hul:∀ x∈u,x.1∈ls:=fun x hx=>by rw [← h1];exact List.mem_map.2 ⟨x,hx,rfl⟩
    refine ⟨fun x hx=>hw _ (hul x hx),?_,fun x hx L hL=>?_,fun d hd L hL=>(by simp only [OpAct.gives] at hd;subst hd;rw [zm6] at hL;simp at hL),fun ev' ob' he hob=>?_⟩
    ·match ms,hcond.2,has with
     | [],_,_=>exact .inl rfl
     | [x],_,has=>exact .inr ⟨x,rfl,hw x (zkW has x (by simp))⟩
     | _ :: _ :: _,h,_=>simp at h
    ·obtain ⟨o', ho, hL⟩ := h2 x hx L hL
     exact .inr ⟨(x.1,true),hw _ (hul x hx),o',ho,hL⟩
    ·have hl : ∀ L ∈ ds.flatMap (za6 ob), ob' L = ob L := fun L hL => hob (L, false) (List.mem_append.2 (.inr (List.mem_map.2 ⟨L, hL, rfl⟩)))
     have e1:=zm7 hl
     have e2:ds.flatMap (za6 ob')=ds.flatMap (za6 ob):=fmc fun d hd=>zfi fun L hL=>hl L (List.mem_flatMap.2 ⟨d,hd,hL⟩)
     rw [hk ev' ob' he]
     simp only [zjZ,e1.1,has,hCx,e1.2,hput,hcond',e2]
   ·subst hA;exact hs.elim
  ·subst hA;exact hs.elim
 ·subst hA;exact hs.elim
theorem zla {ev' : Operand → DV} : ∀ {l : List Operand}, (∀ x ∈ l, ev' x = ev x) → znv ev' l = znv ev l
  | [],_=>rfl
  | x :: l,h=>by simp only [znv,h x List.mem_cons_self,zla fun y hy=>h y (List.mem_cons_of_mem _ hy)]

theorem zFT {f:Operand} {args:Array Operand} {ts:Array TypeId} (hop:o.op=.call { callee:=.value f,args,argTypes:=ts }) (hA:act P Γ o ev ob=A) (hs:A.safe):ActOk P Γ o ev ob A:=by
 have hm:=zii hop
 have hf:f∈o.op.operands.toList:=by simp [hop,Op.operands,Call.operands]
 simp only [act,hop] at hA
 have e0:∀ ev':Operand→DV,(∀ x∈o.op.operands.toList,ev' x=ev x)→args.toList.map ev'=args.toList.map ev:=fun ev' he=>List.map_congr_left fun x hx=>he x (hm x hx)
 split at hA
 ·rename_i gf caps hef
  split at hA
  ·rename_i C hC
   exact zEo (fun ev' ob' he=>by simp only [act,hop,he f hf,hef,hC,e0 ev' he]) hA hs
  ·subst hA;exact hs.elim
 ·rename_i gf first caps hef
  split at hA
  ·rename_i C hC
   exact zEo (fun ev' ob' he=>by simp only [act,hop,he f hf,hef,hC,e0 ev' he]) hA hs
  rename_i hC
  split at hA
  ·rename_i hk
   split at hA
   ·exact zK2 (k:=Γ.own gf) hop (fun ev' ob' he=>by simp only [act,hop,he f hf,hef,hC,hk]) hA hs
   ·subst hA;exact hs.elim
  rename_i hko
  split at hA
  ·rename_i as u has
   have key:∀ (ev':Operand→DV) (ob':Nat→Option AO),(∀ x∈o.op.operands.toList,ev' x=ev x)→(∀ L∈args.toList.flatMap fun x=>za6 ob (ev x),ob' L=ob L) →
     act P Γ o ev' ob'=(Γ gf (first.map .one ++ as ++ caps.map .one)).act (args.toList.flatMap fun x=>za6 ob (ev x)) u:=by
    intro ev' ob' he hl
    have e0:args.toList.map ev'=args.toList.map ev:=List.map_congr_left fun x hx=>he x (hm x hx)
    have e1:zgV ob' (args.toList.map ev)=zgV ob (args.toList.map ev):=zk6 fun L hL=>hl L (by rw [List.flatMap_map] at hL;exact hL)
    have e2:(args.toList.flatMap fun x=>za6 ob' (ev' x))=args.toList.flatMap fun x=>za6 ob (ev x):=by
     refine fmc fun x hx=>?_
     rw [he x (hm x hx)]
     exact zfi fun L hL=>hl L (List.mem_flatMap.2 ⟨x,hx,hL⟩)
    simp only [act,hop,he f hf,hef,hC,hko,e0,e1,has,e2]
   have hwrT:∀ L,L∈(args.toList.flatMap fun x=>za6 ob (ev x))→(L,true)∈wr (args.toList.flatMap fun x=>za6 ob (ev x)):=fun L hL=>List.mem_map.2 ⟨L,hL,rfl⟩
   have hrdF:∀ L,L∈(args.toList.flatMap fun x=>za6 ob (ev x))→(L,false)∈rd (args.toList.flatMap fun x=>za6 ob (ev x)):=fun L hL=>List.mem_map.2 ⟨L,hL,rfl⟩
   have hk:∀ x∈u,(x.1,true)∈wr (args.toList.flatMap fun x=>za6 ob (ev x))∧aoV x.2=[]:=fun x hx=>by
    obtain ⟨h1,h2⟩:=ziX has x hx
    refine ⟨hwrT _ ?_,h2⟩
    rw [List.flatMap_map] at h1;exact h1
   generalize hC':Γ gf (first.map .one ++ as ++ caps.map .one)=C at hA key
   generalize (args.toList.flatMap fun x=>za6 ob (ev x))=labs at hA key hk hwrT hrdF
   cases C with
   | no=>subst hA;exact hs.elim
   | tot r =>
    cases hsc:zh5 r with
    | true =>
     rw [zrg hsc] at hA;simp only [zrg hsc] at key;subst hA
     exact ⟨fun x hx=>by simp [OpAct.u] at hx,.inl rfl,fun x hx=>by simp [OpAct.u] at hx,fun d hd L hL=>(by cases hd;rw [zm6] at hL;simp at hL),fun ev' ob' he hob=>key ev' ob' he fun L hL=>hob (L,false) (hrdF L hL)⟩
    | false =>
     rw [zrh hsc] at hA;simp only [zrh hsc] at key;subst hA
     exact ⟨fun x hx=>(hk x hx).1,.inl rfl,fun x hx L hL=>(by rw [(hk x hx).2] at hL;simp at hL),fun d hd L hL=>(by simp only [OpAct.gives] at hd;subst hd;rw [zm6] at hL;simp at hL),fun ev' ob' he hob=>key ev' ob' he fun L hL=>hob (L,true) (hwrT L hL)⟩
   | det s r =>
    cases hsc:zh5 r with
    | true =>
     rw [znr hsc] at hA;simp only [znr hsc] at key;subst hA
     exact ⟨fun x hx=>by simp [OpAct.u] at hx,.inl rfl,fun x hx=>by simp [OpAct.u] at hx,fun d hd L hL=>(by cases hd;rw [zm6] at hL;simp at hL),fun ev' ob' he hob=>key ev' ob' he fun L hL=>hob (L,false) (hrdF L hL)⟩
    | false =>
     rw [zns hsc] at hA;simp only [zns hsc] at key;subst hA
     exact ⟨fun x hx=>(hk x hx).1,.inl rfl,fun x hx L hL=>(by rw [(hk x hx).2] at hL;simp at hL),fun d hd L hL=>(by simp only [OpAct.gives] at hd;subst hd;rw [zm6] at hL;simp at hL),fun ev' ob' he hob=>key ev' ob' he fun L hL=>hob (L,true) (hwrT L hL)⟩
   | rel ρ s post r =>
    subst hA
    exact ⟨fun x hx=>(hk x hx).1,.inl rfl,fun x hx L hL=>(by rw [(hk x hx).2] at hL;simp at hL),fun d hd L hL=>(by simp only [COut.act,OpAct.gives] at hd;obtain ⟨x,rfl⟩:=hd;rw [zm6] at hL;simp at hL),fun ev' ob' he hob=>key ev' ob' he fun L hL=>hob (L,true) (hwrT L hL)⟩
  ·subst hA;exact hs.elim
 ·subst hA;exact hs.elim

theorem zrM {f:FuncId} {first caps:Array Operand} (hop:o.op=.makeFunc (.func f) first caps) (hA:act P Γ o ev ob=A) (hs:A.safe):ActOk P Γ o ev ob A:=by
 have hm:∀ x∈first.toList ++ caps.toList,x∈o.op.operands.toList:=fun x hx=>by simp only [hop,Op.operands];simpa using hx
 simp only [act,hop] at hA
 split at hA
 ·rename_i hmt
  split at hA
  ·rename_i cs hf hc
   subst hA
   refine ActOk.pure (fun L hL=>by simp [dvV,d1V,clV] at hL) fun ev' ob' he _=>?_
   have e1:znv ev' caps.toList=some cs:=(zla fun x hx=>he x (hm x (List.mem_append.2 (.inr hx)))).trans hc
   simp only [act,hop,hmt,hf,e1]
  ·subst hA;exact hs.elim
 rename_i hmt
 split at hA
 ·rename_i l u l' u' h1 h2
  subst hA
  have lab1:∀ (x:Operand) (c:Cl),ev x=.one (.c c)→∀ L,L∈zaG c→L∈za6 ob (ev x):=fun x c h L hL=>by
   rw [h];exact List.mem_flatMap.2 ⟨L,hL,List.mem_cons_self⟩
  have lab2:∀ (x:Operand) (c:Cl),ev x=.one (.c c)→∀ L,L∈zaG c→∀ o',ob L=some o'→∀ M∈zbL o',M∈za6 ob (ev x):=fun x c h L hL o' ho' M hM=>by
   rw [h];refine List.mem_flatMap.2 ⟨L,hL,List.mem_cons_of_mem _ ?_⟩;rw [ho'];exact hM
  have clm:∀ (xs:List Operand),∀ L∈(xs.flatMap fun x=>match ev x with | .one (.c c)=>[c] | _=>[.junk]).flatMap zaG,∃ x∈xs,∃ c,ev x=.one (.c c)∧L∈zaG c:=by
   intro xs L hL
   obtain ⟨c,hc,hL⟩:=List.mem_flatMap.1 hL
   obtain ⟨x,hx,hc⟩:=List.mem_flatMap.1 hc
   refine ⟨x,hx,?_⟩
   split at hc
   ·rename_i c' h;simp at hc;subst hc;exact ⟨_,h,hL⟩
   ·simp at hc;subst hc;simp [zaG] at hL
  have keys:∀ (xs:List Operand) (l:List PV) (u:Upd),zmE ob (xs.flatMap fun x=>match ev x with | .one (.c c)=>[c] | _=>[.junk])=some (l,u) →
    ∀ x∈u,x.1∈xs.flatMap (fun x=>za6 ob (ev x))∧aoV x.2=[]:=by
   intro xs l u h y hy
   obtain ⟨h3,h4⟩:=zk7 h y hy
   refine ⟨?_,h4⟩
   rcases h3 with h3 | ⟨L,hL,o',h5,h6⟩
   ·obtain ⟨x, hx, c, hc, hL⟩ := clm xs _ h3
    exact List.mem_flatMap.2 ⟨x,hx,lab1 x c hc _ hL⟩
   ·obtain ⟨x, hx, c, hc, hL⟩ := clm xs _ hL
    exact List.mem_flatMap.2 ⟨x,hx,lab2 x c hc _ hL _ h5 _ h6⟩
  have cong:∀ (xs:List Operand) (ev':Operand→DV) (ob':Nat→Option AO),(∀ x∈xs,ev' x=ev x)→(∀ L∈xs.flatMap (fun x=>za6 ob (ev x)),ob' L=ob L) →
    zmE ob' (xs.flatMap fun x=>match ev' x with | .one (.c c)=>[c] | _=>[.junk])=zmE ob (xs.flatMap fun x=>match ev x with | .one (.c c)=>[c] | _=>[.junk]):=by
   intro xs ev' ob' he hob
   have e0:(xs.flatMap fun x=>match ev' x with | .one (.c c)=>[c] | _=>[.junk])=xs.flatMap fun x=>match ev x with | .one (.c c)=>[c] | _=>[.junk] :=
    fmc fun x hx=>by rw [he x hx]
   rw [e0]
   refine ziW fun L hL=>?_
   obtain ⟨x,hx,c,hc,hL⟩:=clm xs _ hL
   exact ⟨hob L (List.mem_flatMap.2 ⟨x,hx,lab1 x c hc _ hL⟩),fun o' ho' M hM=>hob M (List.mem_flatMap.2 ⟨x,hx,lab2 x c hc _ hL _ ho' _ hM⟩)⟩
  refine ⟨fun x hx=>?_,.inl rfl,fun x hx L hL=>?_,fun d' hd' L hL=>?_,fun ev' ob' he hob=>?_⟩
  ·simp only [OpAct.u] at hx
   refine zpW ?_
   rw [List.flatMap_append]
   rcases List.mem_append.1 hx with hx | hx
   ·exact List.mem_append.2 (.inl (keys _ _ _ h1 x hx).1)
   ·exact List.mem_append.2 (.inr (keys _ _ _ h2 x hx).1)
  ·simp only [OpAct.u] at hx
   rcases List.mem_append.1 hx with hx | hx
   ·rw [(keys _ _ _ h1 x hx).2] at hL;simp at hL
   ·rw [(keys _ _ _ h2 x hx).2] at hL;simp at hL
  ·simp only [OpAct.gives] at hd';subst hd';simp [dvV,d1V,clV] at hL
  ·have hl : ∀ L ∈ (first.toList ++ caps.toList).flatMap fun x => za6 ob (ev x), ob' L = ob L := fun L hL => hob (L, true) (zpW hL)
   have e1:=cong first.toList ev' ob' (fun x hx=>he x (hm x (List.mem_append.2 (.inl hx)))) (fun L hL=>hl L (by rw [List.flatMap_append];exact List.mem_append.2 (.inl hL)))
   have e2:=cong caps.toList ev' ob' (fun x hx=>he x (hm x (List.mem_append.2 (.inr hx)))) (fun L hL=>hl L (by rw [List.flatMap_append];exact List.mem_append.2 (.inr hL)))
   have e3:((first.toList ++ caps.toList).flatMap fun x=>za6 ob' (ev' x))=(first.toList ++ caps.toList).flatMap fun x=>za6 ob (ev x):=by
    refine fmc fun x hx=>?_
    rw [he x (hm x hx)]
    exact zfi fun L hL=>hl L (List.mem_flatMap.2 ⟨x,hx,hL⟩)
   simp only [act,hop,hmt,e3]
   split
   ·rename_i l2 u2 l3 u3 h3 h4
    have a1:some (l2,u2)=some (l,u):=h3.symm.trans (e1.trans h1)
    have a2:some (l3,u3)=some (l',u'):=h4.symm.trans (e2.trans h2)
    simp only [Option.some.injEq,Prod.mk.injEq] at a1 a2
    obtain ⟨rfl,rfl⟩:=a1
    obtain ⟨rfl,rfl⟩:=a2
    rfl
   ·rename_i hno
    exact (hno l u l' u' (e1.trans h1) (e2.trans h2)).elim
 ·subst hA;exact hs.elim

theorem zp1 {t:TypeId} {x y:Operand} (hop:o.op=.makeSlice t x y) (hA:act P Γ o ev ob=A) (hs:A.safe):ActOk P Γ o ev ob A:=by
 have hx:x∈o.op.operands.toList:=by simp [hop,Op.operands]
 have hy:y∈o.op.operands.toList:=by simp [hop,Op.operands]
 have hc0:∀ ev' ob',(∀ x∈o.op.operands.toList,ev' x=ev x)→act P Γ o ev' ob'=zfX P Γ t (ev x) (ev y) o.dst ob':=fun ev' ob' he=>by simp only [act,hop,he x hx,he y hy]
 have hA0:=hA
 rw [hc0 ev ob (fun _ _=>rfl)] at hA
 unfold zfX at hA
 split at hA
 ·rename_i e k1 j k2 j2 dst hu hex hey hdst
  split at hA
  ·rename_i ie z hi hz hfresh
   have fin:∀ (s:Prop) (ao:AO),aoV ao=[]→OpAct.chk [(dst,true)] s (.cl (.vec dst)) [(dst,ao)] []=A→(∀ ob':Nat→Option AO,ob' dst=none→zfX P Γ t (ev x) (ev y) o.dst ob'=A)→ActOk P Γ o ev ob A:=by
    intro s ao hao e hcc
    subst e
    refine ⟨fun z hz=>?_,.inl rfl,fun z hz M hM=>?_,fun d' hd' M hM=>?_,fun ev' ob' he hob=>?_⟩
    ·simp only [OpAct.u,List.mem_singleton] at hz;subst hz;simp [OpAct.fp]
    ·simp only [OpAct.u,List.mem_singleton] at hz;subst hz;rw [hao] at hM;simp at hM
    ·simp only [OpAct.gives] at hd'; subst hd'
     simp only [dvV,d1V,clV,List.mem_singleton] at hM;subst hM
     exact .inr (by simp [OpAct.fp])
    ·have e2 := hob (dst, true) (by simp [OpAct.fp]); simp only at e2
     rw [hc0 ev' ob' he]
     exact hcc ob' (e2.trans hfresh)
   have hcc:∀ ob':Nat→Option AO,ob' dst=none→zfX P Γ t (ev x) (ev y) o.dst ob'=A:=fun ob' h=>by
    have:act P Γ o ev ob=A:=hA0
    rw [hc0 ev ob (fun _ _=>rfl)] at this
    rw [← this]
    unfold zfX
    simp only [hu,hex,hey,hdst,hi,hz,hfresh,h]
   split at hA
   ·split at hA
    ·split at hA
     ·exact fin _ _ rfl hA hcc
     ·subst hA;exact hs.elim
    ·subst hA;exact hs.elim
   ·split at hA
    ·split at hA
     ·exact fin _ _ rfl hA hcc
     ·subst hA;exact hs.elim
    ·subst hA;exact hs.elim
  ·subst hA;exact hs.elim
 ·subst hA;exact hs.elim

theorem zCN {t:TypeId} {x:Operand} (hop:o.op=.range t x) (hA:act P Γ o ev ob=A) (hs:A.safe):ActOk P Γ o ev ob A:=by
 have hx:x∈o.op.operands.toList:=by simp [hop,Op.operands]
 simp only [act,hop] at hA
 split at hA
 ·rename_i q q' m F hq hex
  split at hA
  ·rename_i e
   exact znS (ao:=.mit q m F []) (d:=fun t=>.cl (.ptr t 0)) (fun L hL=>by simp [aoV] at hL) (fun t L hL=>by simp [dvV,d1V,clV] at hL) (fun ev' ob' he=>by simp only [act,hop,he x hx,hex,hq,if_pos e]) hA hs
  ·subst hA;exact hs.elim
 ·subst hA;exact hs.elim

theorem zCO {x:Operand} (hop:o.op=.entry x) (hA:act P Γ o ev ob=A) (hs:A.safe):ActOk P Γ o ev ob A:=by
 have hx:x∈o.op.operands.toList:=by simp [hop,Op.operands]
 simp only [act,hop] at hA
 split at hA
 ·rename_i L hex
  split at hA
  ·rename_i q m F c seen hL
   split at hA
   ·rename_i kd vd hkd hvd
    subst hA
    refine ActOk.pure (fun M hM=>?_) fun ev' ob' he hob=>?_
    ·simp only [dvV, List.flatMap_cons, List.flatMap_nil, List.append_nil, List.mem_append] at hM
     rcases hM with hM | hM
     ·have:=zrJ M hM;rw [zuo hkd] at this;simp at this
     ·have:=zrJ M hM;rw [zkm hvd] at this;simp at this
    ·have e := hob (L, false) (by simp); simp only at e
     simp only [act,hop,he x hx,hex,e,hL,hkd,hvd]
   ·subst hA;exact hs.elim
  ·subst hA;exact hs.elim
 ·subst hA;exact hs.elim

theorem zOq (hA:act P Γ o ev ob=A) (hs:A.safe):ActOk P Γ o ev ob A:=by
 have hA':=hA
 cases hop:o.op with
 | move x=>simp only [act,hop] at hA;subst hA;exact zxu (.inl hop)
 | assign x=>simp only [act,hop] at hA;subst hA;exact zxu (.inr hop)
 | pick c x y =>
  simp only [act,hop] at hA
  split at hA
  ·rename_i t hc;subst hA;exact zFQ hop hc
  ·subst hA;exact hs.elim
 | alloc e =>
  simp only [act,hop] at hA
  split at hA
  ·rename_i z hz
   refine znS (ao:=.box e z) (d:=fun t=>.cl (.ptr t 0)) (fun L hL=>?_) (fun t L hL=>by simp [dvV,d1V,clV] at hL) (fun ev' ob' _=>by simp only [act,hop,hz]) hA hs
   simp only [aoV] at hL;rw [zxv hz] at hL;simp at hL
  ·subst hA;exact hs.elim
 | box e x =>
  have hx:x∈o.op.operands.toList:=by simp [hop,Op.operands]
  simp only [act,hop] at hA
  split at hA
  ·rename_i d m hex hm
   split at hA
   ·rename_i hcond
    refine znS (ao:=.box e d.cells) (d:=fun t=>.cl (.ptr t 0)) (fun L hL=>?_) (fun t L hL=>by simp [dvV,d1V,clV] at hL) (fun ev' ob' he=>by simp only [act,hop,he x hx,hex,hm,hcond]) hA hs
    simp only [aoV] at hL
    rw [zrH] at hL
    exact .inl ⟨x,hx,by rw [hex];exact hL⟩
   ·subst hA;exact hs.elim
  ·subst hA;exact hs.elim
 | build t parts =>
  simp only [act,hop] at hA
  split at hA
  ·rename_i z hf hz
   split at hA
   ·rename_i l hl;subst hA;exact zCI hop hf hz hl
   ·subst hA;exact hs.elim
  ·subst hA;exact hs.elim
 | buildSlice t m parts=>exact znT hop hA' hs
 | load t x=>exact zFR hop hA' hs
 | store t x y=>exact zCJ hop hA' hs
 | nilCheck x=>exact zrI hop hA' hs
 | binOp op t x y t'=>exact zCL hop hA' hs
 | unOp op t x=>exact zFS hop hA' hs
 | fieldAddr t x f=>exact zpY hop hA' hs
 | indexAddr t x y=>exact zpZ hop hA' hs
 | extract x k=>exact zwf hop hA' hs
 | index t x y=>exact zCM hop hA' hs
 | slice t x lo hi mx =>
  cases mx with
  | none=>exact ok_slice hop hA' hs
  | some m=>simp only [act,hop] at hA;subst hA;exact hs.elim
 | lookup t x y k=>exact zxw hop hA' hs
 | mapUpdate t x y z=>exact zpX hop hA' hs
 | makeMap t x =>
  cases x with
  | none=>exact zwe hop hA' hs
  | some x=>simp only [act,hop] at hA;subst hA;exact hs.elim
 | makeSlice t x y=>exact zp1 hop hA' hs
 | range t x=>exact zCN hop hA' hs
 | entry x=>exact zCO hop hA' hs
 | makeFunc fn first caps =>
  cases fn with
  | func f=>exact zrM hop hA' hs
  | _=>simp only [act,hop] at hA;subst hA;exact hs.elim
 | call c =>
  obtain ⟨callee,args,ts⟩:=c
  cases callee with
  | value f=>exact zFT hop hA' hs
  | invoke x m=>simp only [act,hop] at hA;subst hA;exact hs.elim
  | builtin b =>
   cases b with
   | len=>exact zKZ hop hA' hs
   | max=>exact zKY (.inl rfl) hop hA' hs
   | min=>exact zKY (.inr rfl) hop hA' hs
   | append=>exact zxx hop hA' hs
   | _=>simp only [act,hop] at hA;subst hA;exact hs.elim
 | _=>simp only [act,hop] at hA;subst hA;exact hs.elim
end
end Go.Pm
namespace Go.Pm

structure Eqv (σ τ : St) : Prop where
  env:∀ t,lk σ.env t=lk τ.env t
  objs:∀ L,lk σ.objs L=lk τ.objs L
  log:∀ x,x∈σ.log↔x∈τ.log

theorem Eqv.refl (σ:St):Eqv σ σ:=⟨fun _=>rfl,fun _=>rfl,fun _=>Iff.rfl⟩
theorem Eqv.symm {σ τ:St} (h:Eqv σ τ):Eqv τ σ:=⟨fun t=>(h.env t).symm,fun t=>(h.objs t).symm,fun x=>(h.log x).symm⟩

theorem zlb {e e':List (Nat×DV)} {x:Operand} (h:∀ t∈zKD x,lk e t=lk e' t):evO e x=evO e' x:=by
 cases x with
 | tmp t=>simp only [evO];rw [h t (by simp [zKD])]
 | _=>rfl

theorem zlc (x:Cl):zca [] x=x:=by cases x <;> rfl
theorem zm8 (x:D1):zci [] x=x:=by
 cases x with
 | c x=>simp [zci,zlc]
 | agg cs=>simp only [zci];rw [show zca []=id from funext zlc,List.map_id]
theorem zxA (x:DV):zc8 [] x=x:=by
 cases x with
 | one x=>simp [zc8,zm8]
 | tup cs=>simp only [zc8];rw [show zci []=id from funext zm8,List.map_id]
theorem zxB (x:AO):zcu [] x=x:=by
 cases x with
 | box ty cs=>simp only [zcu];rw [show zca []=id from funext zlc,List.map_id]
 | _=>rfl

theorem znU {l:List Nat} {x:Cl} (h:∀ L∈clV x,L ∉ l):zca l x=x:=by
 cases x with
 | vec L =>
  have h1:l.contains L=false:=by simpa using h L (by simp [clV])
  simp only [zca,h1]
 | vptr L s i k =>
  have h1:l.contains L=false:=by simpa using h L (by simp [clV])
  simp only [zca,h1]
 | ivec L i =>
  have h1:l.contains L=false:=by simpa using h L (by simp [clV])
  simp only [zca,h1]
 | iptr L s i j k =>
  have h1:l.contains L=false:=by simpa using h L (by simp [clV])
  simp only [zca,h1]
 | imap L i =>
  have h1:l.contains L=false:=by simpa using h L (by simp [clV])
  simp only [zca,h1]
 | _=>rfl
theorem zij {α : Type} {f : α → α} : ∀ {l : List α}, (∀ x ∈ l, f x = x) → l.map f = l
  | [],_=>rfl
  | x :: l,h=>by rw [List.map_cons,h x List.mem_cons_self,zij fun y hy=>h y (List.mem_cons_of_mem _ hy)]
theorem zp2 {l:List Nat} {x:D1} (h:∀ L∈d1V x,L ∉ l):zci l x=x:=by
 cases x with
 | c x=>simp only [zci];rw [znU h]
 | agg cs=>simp only [zci];rw [zij fun x hx=>znU fun L hL=>h L (List.mem_flatMap.2 ⟨x,hx,hL⟩)]
theorem znV {l:List Nat} {x:DV} (h:∀ L∈dvV x,L ∉ l):zc8 l x=x:=by
 cases x with
 | one x=>simp only [zc8];rw [zp2 h]
 | tup cs=>simp only [zc8];rw [zij fun x hx=>zp2 fun L hL=>h L (List.mem_flatMap.2 ⟨x,hx,hL⟩)]
theorem znW {l:List Nat} {x:AO} (h:∀ L∈aoV x,L ∉ l):zcu l x=x:=by
 cases x with
 | box ty cs=>simp only [zcu];rw [zij fun x hx=>znU fun L hL=>h L (List.mem_flatMap.2 ⟨x,hx,hL⟩)]
 | _=>rfl

theorem zrN {l:List Nat} {x:Cl} : clV (zca l x)=clV x:=by
 cases x with
 | vec L=>simp only [zca];split <;> rfl
 | vptr L s i k=>simp only [zca];split <;> rfl
 | ivec L i=>simp only [zca];split <;> rfl
 | iptr L s i j k=>simp only [zca];split <;> rfl
 | imap L i=>simp only [zca];split <;> rfl
 | _=>rfl
theorem zuy {l:List Nat} {x:D1} : d1V (zci l x)=d1V x:=by
 cases x with
 | c x=>exact zrN
 | agg cs=>simp only [zci,d1V,List.flatMap_map];exact fmc fun x _=>zrN
theorem zFU {l:List Nat} {x:DV} : dvV (zc8 l x)=dvV x:=by
 cases x with
 | one x=>exact zuy
 | tup cs=>simp only [zc8,dvV,List.flatMap_map];exact fmc fun x _=>zuy
theorem zrO {l:List Nat} {x:AO} : aoV (zcu l x)=aoV x:=by
 cases x with
 | box ty cs=>simp only [zcu,aoV,List.flatMap_map];exact fmc fun x _=>zrN
 | _=>rfl

theorem ziY {l m:List Nat} (x:Cl):zca l (zca m x)=zca m (zca l x):=by
 cases x with
 | vec L=>simp only [zca];cases hl:l.contains L <;> cases hm:m.contains L <;> simp only [hl,hm]
 | vptr L s i k=>simp only [zca];cases hl:l.contains L <;> cases hm:m.contains L <;> simp only [hl,hm]
 | ivec L i=>simp only [zca];cases hl:l.contains L <;> cases hm:m.contains L <;> simp only [hl,hm]
 | imap L i=>simp only [zca];cases hl:l.contains L <;> cases hm:m.contains L <;> simp only [hl,hm]
 | iptr L s i j k=>simp only [zca];cases hl:l.contains L <;> cases hm:m.contains L <;> simp only [hl,hm]
 | _=>rfl
theorem zld {l m:List Nat} (x:D1):zci l (zci m x)=zci m (zci l x):=by
 cases x with
 | c x=>simp only [zci];rw [ziY]
 | agg cs=>simp only [zci,List.map_map];rw [show zca l ∘ zca m=zca m ∘ zca l from funext ziY]
theorem zwi {l m:List Nat} (x:DV):zc8 l (zc8 m x)=zc8 m (zc8 l x):=by
 cases x with
 | one x=>simp only [zc8];rw [zld]
 | tup cs=>simp only [zc8,List.map_map];rw [show zci l ∘ zci m=zci m ∘ zci l from funext zld]
theorem zwj {l m:List Nat} (x:AO):zcu l (zcu m x)=zcu m (zcu l x):=by
 cases x with
 | box ty cs=>simp only [zcu,List.map_map];rw [show zca l ∘ zca m=zca m ∘ zca l from funext ziY]
 | _=>rfl

theorem zCP {α : Type} {f : α → α} : ∀ {l : List (Nat × α)} {t : Nat}, lk (kills f l) t = (lk l t).map f
  | [],_=>rfl
  | (k,a) :: r,t=>by
    simp only [kills]
    rw [zaq,zaq]
    split
    · rfl
    · exact zCP

theorem zFV {σ : St} {i : Nat} {dst : Option Nat} {fp : List (Nat × Bool)} {d : DV} {u : List (Nat × AO)} {kl : List Nat} (t : Nat) :
  lk (σ.upd i dst fp d u kl).env t=if dst=some t then some d else (lk σ.env t).map (zc8 kl):=by
 cases kl with
 | nil =>
  have e:(lk σ.env t).map (zc8 [])=lk σ.env t:=by cases lk σ.env t <;> simp [zxA]
  rw [e]
  cases dst with
  | none=>rfl
  | some s=>simp only [St.upd,zaq,Option.some.injEq]
 | cons K r =>
  cases dst with
  | none=>simp only [St.upd,zCP];rw [if_neg (by simp)]
  | some s=>simp only [St.upd,zaq,zCP,Option.some.injEq]
theorem zCQ {σ : St} {i : Nat} {dst : Option Nat} {fp : List (Nat × Bool)} {d : DV} {u : List (Nat × AO)} {kl : List Nat} (L : Nat) :
  lk (σ.upd i dst fp d u kl).objs L=match lk u L with | some o=>some o | none=>(lk σ.objs L).map (zcu kl):=by
 cases kl with
 | nil =>
  have e:(lk σ.objs L).map (zcu [])=lk σ.objs L:=by cases lk σ.objs L <;> simp [zxB]
  rw [e]
  change lk (u ++ σ.objs) L=_
  rw [zcH]
  cases lk u L <;> rfl
 | cons K r =>
  simp only [St.upd,zcH,zCP]
  cases lk u L <;> rfl
theorem zFW {σ:St} {i:Nat} {dst:Option Nat} {fp:List (Nat×Bool)} {d:DV} {u:List (Nat×AO)} {kl:List Nat} : (σ.upd i dst fp d u kl).log=σ.log:=by
 cases kl <;> rfl

def OpAct.may : OpAct → DV → Prop
  | .no,_=>False
  | .val _ d _ _,d'=>d'=d
  | .chk _ _ d _ _,d'=>d'=d
  | .rel _ _ ρ _ post d,d'=>∃ x:ρ,post x∧d'=d x
theorem OpAct.may_gives {A:OpAct} {d:DV} (h:A.may d):A.gives d:=by
 cases A with
 | rel fp u ρ s post r=>obtain ⟨x,_,hx⟩:=h;exact ⟨x,hx⟩
 | _=>exact h
theorem OpAct.may_of_safe {A:OpAct} (h:A.safe):∃ d,A.may d:=by
 cases A with
 | no=>exact h.elim
 | val fp d u kl=>exact ⟨d,rfl⟩
 | chk fp s d u kl=>exact ⟨d,rfl⟩
 | rel fp u ρ s post r=>obtain ⟨_,x,hx⟩:=h;exact ⟨r x,x,hx,rfl⟩

def nx (A:OpAct) (lg:List (Nat×Bool)→List Nat→List (Nat×Nat×Nat)) (i:Nat) (dst:Option Nat) (σ:St) (d:DV):St :=
 (σ.upd i dst A.fp d A.u A.kl).relog (lg A.fp A.kl)

theorem zdS {A : OpAct} {lg : List (Nat × Bool) → List Nat → List (Nat × Nat × Nat)} {i : Nat} {dst : Option Nat} {K : St → Prop} {σ : St} :
  zf0 A lg i dst K σ↔A.safe∧∀ d,A.may d→K (nx A lg i dst σ d):=by
 cases A with
 | no=>simp [zf0,OpAct.safe]
 | val fp d u kl=>simp [zf0,OpAct.safe,OpAct.may,nx,OpAct.fp,OpAct.u,OpAct.kl]
 | chk fp s d u kl=>simp [zf0,OpAct.safe,OpAct.may,nx,OpAct.fp,OpAct.u,OpAct.kl]
 | rel fp u ρ s post d =>
  simp only [zf0,OpAct.safe,OpAct.may,nx,OpAct.fp,OpAct.u,OpAct.kl]
  constructor
  ·rintro ⟨h1, h2, h3⟩
   exact ⟨⟨h1,h2⟩,fun d' ⟨x,hx,e⟩=>e ▸ h3 x hx⟩
  ·rintro ⟨⟨h1, h2⟩, h3⟩
   exact ⟨h1,h2,fun x hx=>h3 _ ⟨x,hx,rfl⟩⟩

section
variable (P:Program) (Γ:Ctrs) (nt:Nat) (ops:Array Oper)

def zfS (env:List (Nat×DV)) (o:Oper):Option Bool :=
 match o.guard with
 | none=>some true
 | some (j,want) =>
  match (ops[j]?).bind (·.dst) with
  | none=>none
  | some g =>
   match lk env g with
   | some (.one (.c (.p (.bool b))))=>some (b == want)
   | some (.one (.c .undef))=>some false
   | _=>none

def zm9 (σ:St) (o:Oper):OpAct :=
 match zb1 nt o.dst,zfS ops σ.env o with
 | true,some true=>act P Γ o (evO σ.env) (lk σ.objs)
 | true,some false=>.val [] (.cl .undef) [] []
 | _,_=>.no

def lgG (σ:St) (i:Nat) (o:Oper) (fp:List (Nat×Bool)) (kl:List Nat):List (Nat×Nat×Nat) :=
 match zfS ops σ.env o with
 | some true=>zkD σ i o fp kl
 | _=>[]

def vcL : List Nat → (St → Prop) → St → Prop
  | [],K,σ=>K σ
  | i :: r,K,σ=>match ops[i]? with
    | none=>vcL r K σ
    | some o=>zf0 (zm9 P Γ nt ops σ o) (lgG ops σ i o) i o.dst (vcL r K) σ

def looks (σ:St) (o:Oper):List Nat :=
 match zfS ops σ.env o with
 | some true=>zh9 ops o
 | _=>gdT ops o

end

section
variable {P:Program} {Γ:Ctrs} {nt:Nat} {ops:Array Oper} {σ τ:St} {o:Oper} {i:Nat} {A:OpAct}

theorem zik {L k:Nat} {r:List Nat} : k∈zCf σ (L :: r)↔∃ o,lk σ.objs k=some o∧L∈aoV o:=by
 simp only [zCf,List.mem_filter,List.mem_map]
 constructor
 ·rintro ⟨_, h⟩
  split at h
  ·rename_i o ho;exact ⟨o,ho,by simpa using h⟩
  ·cases h
 ·rintro ⟨o, ho, hL⟩
  refine ⟨⟨(k,o),zb9 ho,rfl⟩,?_⟩
  rw [ho];simpa using hL

theorem zp3:∀ t∈looks ops σ o,t∈zh9 ops o:=by
 unfold looks
 split
 ·exact fun _ h=>h
 ·exact fun t h=>List.mem_append.2 (.inr h)
theorem zp4:∀ t∈gdT ops o,t∈looks ops σ o:=by
 unfold looks
 split
 ·exact fun t h=>List.mem_append.2 (.inr h)
 ·exact fun t h=>h

theorem zfj {env env':List (Nat×DV)} (h:∀ t∈gdT ops o,lk env' t=lk env t):zfS ops env' o=zfS ops env o:=by
 unfold zfS
 split
 ·rfl
 ·rename_i j want hg
  split
  ·rfl
  ·rename_i g hgt
   rw [h g (by simp [gdT,hg,hgt])]

theorem zxC {b:Bool} (h:zfS ops σ.env o=some b):∀ t∈gdT ops o,∀ v,lk σ.env t=some v→dvV v=[]:=by
 intro t ht v hv
 unfold gdT at ht
 split at ht
 ·rename_i j want hg
  split at ht
  ·rename_i g hgt
   simp only [List.mem_singleton] at ht
   subst ht
   unfold zfS at h
   rw [hg] at h
   simp only [hgt] at h
   rw [hv] at h
   split at h
   ·rename_i e;simp only [Option.some.injEq] at e;subst e;rfl
   ·rename_i e;simp only [Option.some.injEq] at e;subst e;rfl
   ·cases h
  ·simp at ht
 ·simp at ht

structure Loc (P : Program) (Γ : Ctrs) (nt : Nat) (ops : Array Oper) (σ : St) (i : Nat) (o : Oper) (A : OpAct) (lg : List (Nat × Nat × Nat)) : Prop where
  fst:∀ x∈lg,x.1=i
  wr:∀ x∈A.u,(i,x.1,1)∈lg
  kl:A.kl=[]∨∃ L,A.kl=[L]
  kl3:∀ L∈A.kl,(i,L,3)∈lg
  kl1:∀ L∈A.kl,(i,L,1)∈lg
  kb:∀ L∈A.kl,∀ k o',lk σ.objs k=some o'→L∈aoV o'→(i,k,1)∈lg
  labu:∀ x∈A.u,∀ L∈aoV x.2,(i,L,2)∈lg
  labd:∀ d,A.may d→∀ L∈dvV d,(i,L,2)∈lg∨(i,L,1)∈lg
  see:∀ t∈looks ops σ o,∀ v,lk σ.env t=some v→∀ L∈dvV v,(i,L,2)∈lg
  fpm:∀ y∈A.fp,∀ o',lk σ.objs y.1=some o'→∀ L∈aoV o',(i,L,2)∈lg
  fpt:∀ y∈A.fp,(i,y.1,0)∈lg∨(i,y.1,1)∈lg
  wfp:∀ x∈A.u,(x.1,true)∈A.fp
  congr:∀ τ,(∀ t∈looks ops σ o,lk τ.env t=lk σ.env t)→(∀ y∈A.fp,lk τ.objs y.1=lk σ.objs y.1)→zm9 P Γ nt ops τ o=A
  logc:∀ τ,(∀ t∈looks ops σ o,lk τ.env t=lk σ.env t)→(∀ y∈A.fp,lk τ.objs y.1=lk σ.objs y.1) →
    (∀ L∈A.kl,∀ k,(∃ o',lk τ.objs k=some o'∧L∈aoV o')↔∃ o',lk σ.objs k=some o'∧L∈aoV o')→∀ x,x∈lgG ops τ i o A.fp A.kl↔x∈lg

theorem zcW {fp : List (Nat × Bool)} {kl : List Nat} {x : Nat × Nat × Nat} : x ∈ zkD σ i o fp kl ↔
    (∃ y∈fp,x=(i,y.1,match y.2 with | true=>1 | false=>0))∨(∃ L∈zrn σ o fp,x=(i,L,2))∨(∃ L∈kl,x=(i,L,3))∨∃ k∈zCf σ kl,x=(i,k,1):=by
  simp only [zkD,List.mem_append,List.mem_map,or_assoc]
  constructor
  · rintro (⟨y, h1, h2⟩ | ⟨y, h1, h2⟩ | ⟨y, h1, h2⟩ | ⟨y, h1, h2⟩)
    · exact .inl ⟨y,h1,h2.symm⟩
    · exact .inr (.inl ⟨y,h1,h2.symm⟩)
    · exact .inr (.inr (.inl ⟨y,h1,h2.symm⟩))
    · exact .inr (.inr (.inr ⟨y,h1,h2.symm⟩))
  · rintro (⟨y, h1, h2⟩ | ⟨y, h1, h2⟩ | ⟨y, h1, h2⟩ | ⟨y, h1, h2⟩)
    · exact .inl ⟨y,h1,h2.symm⟩
    · exact .inr (.inl ⟨y,h1,h2.symm⟩)
    · exact .inr (.inr (.inl ⟨y,h1,h2.symm⟩))
    · exact .inr (.inr (.inr ⟨y,h1,h2.symm⟩))

theorem zxD {fp:List (Nat×Bool)} {L:Nat} (h:Men o (evO σ.env) (lk σ.objs) fp L):L∈zrn σ o fp:=by
 unfold zrn
 rcases h with ⟨x,hx,hL⟩ | ⟨y,hy,o',ho,hL⟩
 ·exact List.mem_append.2 (.inl (List.mem_flatMap.2 ⟨x,hx,hL⟩))
 ·refine List.mem_append.2 (.inr (List.mem_flatMap.2 ⟨y,hy,?_⟩));rw [ho];exact hL

theorem zle {fp:List (Nat×Bool)} (he:∀ x∈o.op.operands.toList,evO τ.env x=evO σ.env x) (hob:∀ y∈fp,lk τ.objs y.1=lk σ.objs y.1):zrn τ o fp=zrn σ o fp:=by
 unfold zrn
 rw [fmc (f:=fun x=>dvV (evO τ.env x)) (h:=fun x=>dvV (evO σ.env x)) fun x hx=>by rw [he x hx]]
 congr 1
 exact fmc fun y hy=>by rw [hob y hy]

theorem zuz (hA:zm9 P Γ nt ops σ o=A) (hs:A.safe):Loc P Γ nt ops σ i o A (lgG ops σ i o A.fp A.kl):=by
 have hA':=hA
 unfold zm9 at hA
 split at hA
 ·rename_i hd hw
  have K:=zOq hA hs
  have hlg:∀ fp kl,lgG ops σ i o fp kl=zkD σ i o fp kl:=fun fp kl=>by unfold lgG;rw [hw]
  have hlooks:looks ops σ o=zh9 ops o:=by unfold looks;rw [hw]
  have hmen:∀ L,Men o (evO σ.env) (lk σ.objs) A.fp L→(i,L,2)∈lgG ops σ i o A.fp A.kl:=fun L h=>by
   rw [hlg];exact zcW.2 (.inr (.inl ⟨L,zxD h,rfl⟩))
  have hfw:∀ L,(L,true)∈A.fp→(i,L,1)∈lgG ops σ i o A.fp A.kl:=fun L h=>by
   rw [hlg];exact zcW.2 (.inl ⟨_,h,rfl⟩)
  have hop:∀ τ:St,(∀ t∈looks ops σ o,lk τ.env t=lk σ.env t)→∀ x∈o.op.operands.toList,evO τ.env x=evO σ.env x:=fun τ h x hx =>
   zlb fun t ht=>h t (by rw [hlooks];exact List.mem_append.2 (.inl (List.mem_flatMap.2 ⟨x,hx,ht⟩)))
  have hwt:∀ τ:St,(∀ t∈looks ops σ o,lk τ.env t=lk σ.env t)→zfS ops τ.env o=some true:=fun τ h=>by
   rw [zfj (env:=σ.env) fun t ht=>h t (zp4 t ht),hw]
  refine ⟨fun x hx=>?_,fun x hx=>hfw _ (K.wr x hx),?_,fun L hL=>?_,fun L hL=>?_,fun L hL k o' hk hL'=>?_,fun x hx L hL=>hmen L (K.labu x hx L hL),
   fun d hd' L hL=>(K.labd d (OpAct.may_gives hd') L hL).imp (hmen L) (hfw L),fun t ht v hv L hL=>?_,fun y hy o' ho L hL=>hmen L (.inr ⟨y,hy,o',ho,hL⟩),fun y hy=>?_,K.wr,fun τ he hob=>?_,fun τ he hob hkb x=>?_⟩
  ·rw [hlg] at hx
   rcases zcW.1 hx with ⟨_,_,h⟩ | ⟨_,_,h⟩ | ⟨_,_,h⟩ | ⟨_,_,h⟩ <;> rw [h]
  ·exact K.kl.imp_right fun ⟨L,h,_⟩=>⟨L,h⟩
  ·rw [hlg];exact zcW.2 (.inr (.inr (.inl ⟨L,hL,rfl⟩)))
  ·rcases K.kl with h | ⟨M, h, h2⟩
   ·rw [h] at hL;simp at hL
   ·rw [h] at hL;simp at hL;subst hL;exact hfw _ h2
  ·rw [hlg]
   refine zcW.2 (.inr (.inr (.inr ⟨k,?_,rfl⟩)))
   rcases K.kl with h | ⟨M,h,h2⟩
   ·rw [h] at hL;simp at hL
   ·rw [h] at hL ⊢;simp at hL;subst hL;exact zik.2 ⟨o',hk,hL'⟩
  ·rw [hlooks] at ht
   rcases List.mem_append.1 ht with ht | ht
   ·obtain ⟨x, hx, ht⟩ := List.mem_flatMap.1 ht
    refine hmen L (.inl ⟨x,hx,?_⟩)
    cases x with
    | tmp s=>simp only [zKD,List.mem_singleton] at ht;subst ht;simp only [evO,hv];exact hL
    | _=>simp [zKD] at ht
   ·rw [zxC hw t ht v hv] at hL;simp at hL
  ·rw [hlg]
   obtain ⟨L,b⟩:=y
   cases b with
   | true=>exact .inr (zcW.2 (.inl ⟨_,hy,rfl⟩))
   | false=>exact .inl (zcW.2 (.inl ⟨_,hy,rfl⟩))
  ·unfold zm9
   rw [hd,hwt τ he]
   exact K.congr _ _ (hop τ he) hob
  ·have e1 : lgG ops τ i o A.fp A.kl = zkD τ i o A.fp A.kl := by unfold lgG; rw [hwt τ he]
   rw [e1,hlg,zcW,zcW,zle (hop τ he) hob]
   refine or_congr Iff.rfl (or_congr Iff.rfl (or_congr Iff.rfl ?_))
   rcases K.kl with h | ⟨M,h,h2⟩
   ·rw [h];simp [zCf]
   ·rw [h]
    have:∀ k,k∈zCf τ [M]↔k∈zCf σ [M]:=fun k=>by rw [zik,zik];exact hkb M (by rw [h];simp) k
    constructor
    ·rintro ⟨k,h1,h2⟩;exact ⟨k,(this k).1 h1,h2⟩
    ·rintro ⟨k,h1,h2⟩;exact ⟨k,(this k).2 h1,h2⟩
 ·rename_i hd hw
  subst hA
  have hlg:∀ fp kl,lgG ops σ i o fp kl=[]:=fun fp kl=>by unfold lgG;rw [hw]
  have hlooks:looks ops σ o=gdT ops o:=by unfold looks;rw [hw]
  have hwt:∀ τ:St,(∀ t∈looks ops σ o,lk τ.env t=lk σ.env t)→zfS ops τ.env o=some false:=fun τ h=>by
   rw [zfj (env:=σ.env) fun t ht=>h t (zp4 t ht),hw]
  refine ⟨fun x hx=>?_,fun x hx=>?_,.inl rfl,fun L hL=>?_,fun L hL=>?_,fun L hL=>?_,fun x hx=>?_,fun d hd' L hL=>?_,fun t ht v hv L hL=>?_,fun y hy=>?_,fun y hy=>?_,fun x hx=>?_,fun τ he hob=>?_,fun τ he hob hkb x=>?_⟩
  ·rw [hlg] at hx;simp at hx
  ·simp [OpAct.u] at hx
  ·simp [OpAct.kl] at hL
  ·simp [OpAct.kl] at hL
  ·simp [OpAct.kl] at hL
  ·simp [OpAct.u] at hx
  ·simp only [OpAct.may] at hd';subst hd';simp [dvV,d1V,clV] at hL
  ·rw [hlooks] at ht;rw [zxC hw t ht v hv] at hL;simp at hL
  ·simp [OpAct.fp] at hy
  ·simp [OpAct.fp] at hy
  ·simp [OpAct.u] at hx
  ·unfold zm9;rw [hd,hwt τ he]
  ·rw [hlg]
   have:lgG ops τ i o (OpAct.val [] (.cl .undef) [] []).fp (OpAct.val [] (.cl .undef) [] []).kl=[]:=by unfold lgG;rw [hwt τ he]
   rw [this]
 ·subst hA;exact hs.elim

theorem zna {lg:List (Nat×Bool)→List Nat→List (Nat×Nat×Nat)} {dst:Option Nat} {d:DV} (t:Nat):lk (nx A lg i dst σ d).env t=if dst=some t then some d else (lk σ.env t).map (zc8 A.kl):=zFV t
theorem ziZ {lg:List (Nat×Bool)→List Nat→List (Nat×Nat×Nat)} {dst:Option Nat} {d:DV} (L:Nat):lk (nx A lg i dst σ d).objs L=match lk A.u L with | some o=>some o | none=>(lk σ.objs L).map (zcu A.kl):=zCQ L
theorem zil {lg:List (Nat×Bool)→List Nat→List (Nat×Nat×Nat)} {dst:Option Nat} {d:DV} : (nx A lg i dst σ d).log=lg A.fp A.kl ++ σ.log:=by simp only [nx,St.relog,zFW]

theorem zCR (h:Eqv σ τ) (o:Oper):zm9 P Γ nt ops τ o=zm9 P Γ nt ops σ o:=by
 unfold zm9
 rw [zfj (env:=σ.env) fun t _=>(h.env t).symm,show evO τ.env=evO σ.env from funext fun x=>zlb fun t _=>(h.env t).symm,show lk τ.objs=lk σ.objs from funext fun t=>(h.objs t).symm]
theorem zFX (h:Eqv σ τ) {fp:List (Nat×Bool)} {kl:List Nat} (x:Nat×Nat×Nat):x∈lgG ops σ i o fp kl↔x∈lgG ops τ i o fp kl:=by
 unfold lgG
 rw [zfj (env:=σ.env) (env':=τ.env) fun t _=>(h.env t).symm]
 split
 ·rw [zcW, zcW, zle (σ := σ) (τ := τ) (fun x _ => zlb fun t _ => (h.env t).symm) (fun y _ => (h.objs y.1).symm)]
  refine or_congr Iff.rfl (or_congr Iff.rfl (or_congr Iff.rfl ?_))
  cases kl with
  | nil=>simp [zCf]
  | cons L r =>
   have:∀ k,k∈zCf σ (L :: r)↔k∈zCf τ (L :: r):=fun k=>by rw [zik,zik,h.objs k]
   constructor
   ·rintro ⟨k,h1,h2⟩;exact ⟨k,(this k).1 h1,h2⟩
   ·rintro ⟨k,h1,h2⟩;exact ⟨k,(this k).2 h1,h2⟩
 ·exact Iff.rfl

theorem znX {K : St → Prop} (hK : ∀ σ τ, Eqv σ τ → K σ → K τ) : ∀ (l : List Nat) (σ τ : St), Eqv σ τ → vcL P Γ nt ops l K σ → vcL P Γ nt ops l K τ
  | [],σ,τ,h,hv=>hK σ τ h hv
  | i :: r,σ,τ,h,hv=>by
    simp only [vcL] at hv ⊢
    split at hv
    · exact znX hK r σ τ h hv
    · rename_i o ho
      rw [zdS] at hv ⊢
      rw [zCR h]
      refine ⟨hv.1,fun d hd=>znX hK r _ _ ⟨fun t=>?_,fun L=>?_,fun x=>?_⟩ (hv.2 d hd)⟩
      · rw [zna,zna,h.env]
      · rw [ziZ,ziZ,h.objs]
      · rw [zil, zil, List.mem_append, List.mem_append, h.log x]
        exact or_congr (zFX h x) Iff.rfl

theorem zim {K K':St→Prop} {l l':List Nat} {i:Nat} (hK:∀ σ,vcL P Γ nt ops l K σ→vcL P Γ nt ops l' K' σ) (hv:vcL P Γ nt ops (i :: l) K σ):vcL P Γ nt ops (i :: l') K' σ:=by
 simp only [vcL] at hv ⊢
 split at hv
 ·exact hK _ hv
 ·rw [zdS] at hv ⊢
  exact ⟨hv.1,fun d hd=>hK _ (hv.2 d hd)⟩

theorem zrP {K : St → Prop} {R : List (Nat × Nat × Nat) → Prop} (hR : ∀ l m, (∀ x ∈ l, x ∈ m) → R m → R l) (hK : ∀ σ, K σ → R σ.log) : ∀ (l : List Nat) (σ : St), vcL P Γ nt ops l K σ → R σ.log
  | [],σ,hv=>hK σ hv
  | i :: r,σ,hv=>by
    simp only [vcL] at hv
    split at hv
    · exact zrP hR hK r σ hv
    · rw [zdS] at hv
      obtain ⟨d,hd⟩:=OpAct.may_of_safe hv.1
      refine hR _ _ (fun x hx=>?_) (zrP hR hK r _ (hv.2 d hd))
      rw [zil];exact List.mem_append.2 (.inr hx)

def zlf (log:List (Nat×Nat×Nat)) (i j:Nat):Prop:=∀ L k m,(i,L,k)∈log→(j,L,m)∈log→zwF k m=false

theorem znb {l:List Nat} {x:Option DV} (h:∀ v,x=some v→∀ L∈dvV v,L ∉ l):x.map (zc8 l)=x:=by
 cases x with
 | none=>rfl
 | some v=>simp only [Option.map_some];rw [znV (h v rfl)]
theorem znc {l:List Nat} {x:Option AO} (h:∀ v,x=some v→∀ L∈aoV v,L ∉ l):x.map (zcu l)=x:=by
 cases x with
 | none=>rfl
 | some v=>simp only [Option.map_some];rw [znW (h v rfl)]

theorem zCS {a b:Oper} (h:zpx ops a b=false):(∀ t∈zh9 ops b,a.dst ≠ some t)∧(∀ t∈zh9 ops a,b.dst ≠ some t)∧∀ t,a.dst=some t→b.dst ≠ some t:=by
 simp only [zpx,Bool.or_eq_false_iff] at h
 obtain ⟨⟨h1,h2⟩,h3⟩:=h
 refine ⟨fun t ht e=>?_,fun t ht e=>?_,fun t e e'=>?_⟩
 ·rw [e] at h1; simp only [meets] at h1
  have:(zh9 ops b).contains t=true:=by simpa using ht
  rw [this] at h1;cases h1
 ·rw [e] at h2; simp only [meets] at h2
  have:(zh9 ops a).contains t=true:=by simpa using ht
  rw [this] at h2;cases h2
 ·rw [e, e'] at h3; simp only [zwE] at h3
  rw [show Nat.beq t t=true from by simp] at h3;cases h3

theorem zCT {K : St → Prop} {i j : Nat} {oi oj : Oper} {r : List Nat} (hi : ops[i]? = some oi) (hj : ops[j]? = some oj) (hT : zpx ops oi oj = false)
    (hE:∀ τ τ',Eqv τ τ'→vcL P Γ nt ops r K τ→vcL P Γ nt ops r K τ') (hN:∀ τ,vcL P Γ nt ops r K τ→zlf τ.log i j)
    (h:vcL P Γ nt ops (i :: j :: r) K σ):vcL P Γ nt ops (j :: i :: r) K σ:=by
  obtain ⟨cT1,cT2,cT3⟩:=zCS hT
  simp only [vcL,hi,hj] at h ⊢
  rw [zdS] at h
  obtain ⟨hsA,hA⟩:=h
  generalize hAe:zm9 P Γ nt ops σ oi=A at hsA hA
  have LA:=zuz (i:=i) hAe hsA
  -- the second operation behind the first: as before it
  have key:∀ d,A.may d→∃ B,zm9 P Γ nt ops (nx A (lgG ops σ i oi) i oi.dst σ d) oj=B∧B.safe ∧
      (∀ e,B.may e→vcL P Γ nt ops r K (nx B (lgG ops (nx A (lgG ops σ i oi) i oi.dst σ d) j oj) j oj.dst (nx A (lgG ops σ i oi) i oi.dst σ d) e)) ∧
      zlf (lgG ops (nx A (lgG ops σ i oi) i oi.dst σ d) j oj B.fp B.kl ++ (lgG ops σ i oi A.fp A.kl)) i j:=by
    intro d hd
    have h2:=hA d hd
    rw [zdS] at h2
    obtain ⟨hsB,hB⟩:=h2
    refine ⟨_,rfl,hsB,hB,?_⟩
    obtain ⟨e,he⟩:=OpAct.may_of_safe hsB
    have:=hN _ (hB e he)
    rw [zil,zil] at this
    intro L k m hk hm
    refine this L k m ?_ ?_
    · rcases List.mem_append.1 hk with h | h
      · exact List.mem_append.2 (.inl h)
      · exact List.mem_append.2 (.inr (List.mem_append.2 (.inl h)))
    · rcases List.mem_append.1 hm with h | h
      · exact List.mem_append.2 (.inl h)
      · exact List.mem_append.2 (.inr (List.mem_append.2 (.inl h)))
  have main:∀ d,A.may d→∀ B,zm9 P Γ nt ops (nx A (lgG ops σ i oi) i oi.dst σ d) oj=B→B.safe →
      (∀ e,B.may e→vcL P Γ nt ops r K (nx B (lgG ops (nx A (lgG ops σ i oi) i oi.dst σ d) j oj) j oj.dst (nx A (lgG ops σ i oi) i oi.dst σ d) e)) →
      zlf (lgG ops (nx A (lgG ops σ i oi) i oi.dst σ d) j oj B.fp B.kl ++ (lgG ops σ i oi A.fp A.kl)) i j →
      zm9 P Γ nt ops σ oj=B∧∀ e,B.may e→zm9 P Γ nt ops (nx B (lgG ops σ j oj) j oj.dst σ e) oi=A ∧
        vcL P Γ nt ops r K (nx A (lgG ops (nx B (lgG ops σ j oj) j oj.dst σ e) i oi) i oi.dst (nx B (lgG ops σ j oj) j oj.dst σ e) d):=by
    intro d hd B hBe hsB hB hno
    generalize hσ1:nx A (lgG ops σ i oi) i oi.dst σ d=σ1 at hBe hB hno
    have LB:=zuz (i:=j) hBe hsB
    have no:∀ L k m,(i,L,k)∈lgG ops σ i oi A.fp A.kl→(j,L,m)∈lgG ops σ1 j oj B.fp B.kl→zwF k m=true→False:=fun L k m h1 h2 hc=>by
      have:=hno L k m (List.mem_append.2 (.inr h1)) (List.mem_append.2 (.inl h2))
      rw [this] at hc;cases hc
    have zQl:∀ t,lk σ1.env t=if oi.dst=some t then some d else (lk σ.env t).map (zc8 A.kl):=fun t=>by rw [← hσ1,zna]
    have objs1:∀ L,lk σ1.objs L=match lk A.u L with | some o=>some o | none=>(lk σ.objs L).map (zcu A.kl):=fun L=>by rw [← hσ1,ziZ]
    -- what the second looks at, the first has not changed
    have seeB:∀ t∈looks ops σ1 oj,lk σ.env t=lk σ1.env t:=by
      intro t ht
      have e:=zQl t
      rw [if_neg (cT1 t (zp3 t ht))] at e
      rw [e]
      refine (znb fun v hv L hL hk=>?_).symm
      rw [hv,Option.map_some] at e
      exact no L 3 2 (LA.kl3 L hk) (LB.see t ht _ e L (by rw [zFU];exact hL)) rfl
    have fpB:∀ y∈B.fp,lk σ.objs y.1=lk σ1.objs y.1:=by
      intro y hy
      have e:=objs1 y.1
      have hn:lk A.u y.1=none:=by
        cases hu:lk A.u y.1 with
        | none=>rfl
        | some o' =>
          have h1:=LA.wr _ (zb9 hu)
          rcases LB.fpt y hy with h2 | h2
          · exact (no _ _ _ h1 h2 rfl).elim
          · exact (no _ _ _ h1 h2 rfl).elim
      rw [hn] at e
      simp only at e
      rw [e]
      refine (znc fun v hv L hL hk=>?_).symm
      rw [hv,Option.map_some] at e
      exact no L 3 2 (LA.kl3 L hk) (LB.fpm y hy _ e L (by rw [zrO];exact hL)) rfl
    have hBσ:=LB.congr σ seeB fpB
    refine ⟨hBσ,fun e he=>?_⟩
    generalize hσ1':nx B (lgG ops σ j oj) j oj.dst σ e=σ1'
    have env1':∀ t,lk σ1'.env t=if oj.dst=some t then some e else (lk σ.env t).map (zc8 B.kl):=fun t=>by rw [← hσ1',zna]
    have objs1':∀ L,lk σ1'.objs L=match lk B.u L with | some o=>some o | none=>(lk σ.objs L).map (zcu B.kl):=fun L=>by rw [← hσ1',ziZ]
    have seeA:∀ t∈looks ops σ oi,lk σ1'.env t=lk σ.env t:=by
      intro t ht
      rw [env1',if_neg (cT2 t (zp3 t ht))]
      exact znb fun v hv L hL hk=>no L 2 3 (LA.see t ht v hv L hL) (LB.kl3 L hk) rfl
    have uB:∀ y∈A.fp,lk B.u y.1=none:=by
      intro y hy
      cases hu:lk B.u y.1 with
      | none=>rfl
      | some o' =>
        have h1:=LB.wr _ (zb9 hu)
        rcases LA.fpt y hy with h2 | h2
        · exact (no _ _ _ h2 h1 rfl).elim
        · exact (no _ _ _ h2 h1 rfl).elim
    have fpA:∀ y∈A.fp,lk σ1'.objs y.1=lk σ.objs y.1:=by
      intro y hy
      rw [objs1',uB y hy]
      exact znc fun v hv L hL hk=>no L 2 3 (LA.fpm y hy v hv L hL) (LB.kl3 L hk) rfl
    have hAσ:=LA.congr σ1' seeA fpA
    refine ⟨hAσ,hE _ _ ⟨fun t=>?_,fun L=>?_,fun x=>?_⟩ (hB e he)⟩
    · -- the temporaries
      rw [zna,zna,zQl,env1']
      by_cases h1:oj.dst=some t
      · rw [if_pos h1, if_pos h1, if_neg fun h2 => cT3 t h2 h1, Option.map_some, znV fun L hL hk => ?_]
        rcases LB.labd e he L hL with h3 | h3
        · exact no L 3 2 (LA.kl3 L hk) h3 rfl
        · exact no L 1 1 (LA.kl1 L hk) h3 rfl
      · rw [if_neg h1, if_neg h1]
        by_cases h2:oi.dst=some t
        · rw [if_pos h2, if_pos h2, Option.map_some, znV fun L hL hk => ?_]
          rcases LA.labd d hd L hL with h3 | h3
          · exact no L 2 3 h3 (LB.kl3 L hk) rfl
          · exact no L 1 1 h3 (LB.kl1 L hk) rfl
        · rw [if_neg h2, if_neg h2]
          cases lk σ.env t with
          | none=>rfl
          | some v=>simp only [Option.map_some];rw [zwi]
    · -- the objects
      rw [ziZ,ziZ,objs1,objs1']
      cases hb:lk B.u L with
      | some ob =>
        cases ha:lk A.u L with
        | some oa=>exact (no L 1 1 (LA.wr _ (zb9 ha)) (LB.wr _ (zb9 hb)) rfl).elim
        | none =>
          simp only [Option.map_some]
          rw [znW fun M hM hk=>no M 3 2 (LA.kl3 M hk) (LB.labu _ (zb9 hb) M hM) rfl]
      | none =>
        cases ha:lk A.u L with
        | some oa =>
          simp only [Option.map_some]
          rw [znW fun M hM hk=>no M 2 3 (LA.labu _ (zb9 ha) M hM) (LB.kl3 M hk) rfl]
        | none =>
          simp only
          cases lk σ.objs L with
          | none=>rfl
          | some v=>simp only [Option.map_some];rw [zwj]
    · -- the log
      rw [zil,zil]
      have l1:σ1.log=lgG ops σ i oi A.fp A.kl ++ σ.log:=by rw [← hσ1,zil]
      have l2:σ1'.log=lgG ops σ j oj B.fp B.kl ++ σ.log:=by rw [← hσ1',zil]
      rw [l1,l2]
      have e1:x∈lgG ops σ j oj B.fp B.kl↔x∈lgG ops σ1 j oj B.fp B.kl:=by
        refine LB.logc σ seeB fpB (fun L hL k=>?_) x
        rw [objs1]
        cases ha:lk A.u k with
        | some oa =>
          simp only [Option.some.injEq]
          constructor
          · rintro ⟨o', ho, hL'⟩
            exact (no L 2 3 (LA.fpm _ (LA.wfp _ (zb9 ha)) o' ho L hL') (LB.kl3 L hL) rfl).elim
          · rintro ⟨o', rfl, hL'⟩
            exact (no L 2 3 (LA.labu _ (zb9 ha) L hL') (LB.kl3 L hL) rfl).elim
        | none =>
          simp only
          cases lk σ.objs k with
          | none=>simp
          | some v=>simp [zrO]
      have e2:x∈lgG ops σ1' i oi A.fp A.kl↔x∈lgG ops σ i oi A.fp A.kl:=by
        refine LA.logc σ1' seeA fpA (fun L hL k=>?_) x
        rw [objs1']
        cases hb:lk B.u k with
        | some ob =>
          simp only [Option.some.injEq]
          constructor
          · rintro ⟨o', rfl, hL'⟩
            exact (no L 3 2 (LA.kl3 L hL) (LB.labu _ (zb9 hb) L hL') rfl).elim
          · rintro ⟨o', ho, hL'⟩
            exact (no k 1 1 (LA.kb L hL k o' ho hL') (LB.wr _ (zb9 hb)) rfl).elim
        | none =>
          simp only
          cases lk σ.objs k with
          | none=>simp
          | some v=>simp [zrO]
      simp only [List.mem_append]
      rw [e1,e2,← or_assoc,← or_assoc]
      exact or_congr (or_comm) Iff.rfl
  rw [zdS]
  obtain ⟨d0,hd0⟩:=OpAct.may_of_safe hsA
  obtain ⟨B,hBe,hsB,hB,hno⟩:=key d0 hd0
  obtain ⟨hBσ,hrest⟩:=main d0 hd0 B hBe hsB hB hno
  rw [hBσ]
  refine ⟨hsB,fun e he=>?_⟩
  rw [zdS]
  rw [(hrest e he).1]
  refine ⟨hsA,fun d hd=>?_⟩
  obtain ⟨B',hBe',hsB',hB',hno'⟩:=key d hd
  obtain ⟨hBσ',hrest'⟩:=main d hd B' hBe' hsB' hB' hno'
  have hBB:B'=B:=hBσ'.symm.trans hBσ
  subst hBB
  exact (hrest' e he).2

end
end Go.Pm
namespace Go.Pm
open Go.RowKit (Below)

section
variable {P:Program} {Γ:Ctrs} {nt B:Nat} {w0:World} {h0:Fz} {g:Gh} {σ:St} {a:Act} {w:World} {r:Option Nat} {n i:Nat} {Q:Exit→Act→World→Prop}

theorem zlg {o:Oper} {R R':Act→World→Prop} (h:o.wpIn (FR r) n P a w R Q) (hR:∀ a w,R a w→R' a w):o.wpIn (FR r) n P a w R' Q:=by
 refine ⟨h.1,?_⟩
 have h2:=h.2
 generalize (o.semAt (FR r).round a.eval).run P w=res at h2 ⊢
 match res,h2 with
 | .ok (.value v) w',h2=>exact hR _ _ h2
 | .ok .skip w',h2=>exact hR _ _ h2
 | .ok (.defer d) w',h2=>exact hR _ _ h2
 | .ok (.enter f args) w',h2 =>
  refine ⟨h2.1,h2.2.mono ?_⟩
  intro e w'' he
  cases e with
  | returned v=>exact hR _ _ he
  | panicked ch=>exact he
  | outgrown=>exact he
 | .ok (.row row args) w',h2=>exact ⟨h2.1,h2.2.mono fun v w'' hv=>hR _ _ hv⟩
 | .ok (.round l f tmps x y) w',h2 =>
  refine ⟨h2.1,h2.2.mono ?_⟩
  intro e w'' he
  cases e with
  | returned v=>exact hR _ _ he
  | panicked ch=>exact he
  | outgrown=>exact he
 | .halt (.panic v) w',h2=>exact h2

theorem zEp {o:Oper} {R:Act→World→Prop} (h:o.wpIn (FR r) n P a w R Q):o.wpIn (FR r) n P a w (fun a' w'=>R a' w'∧∃ v ds,a'=({ a with defers:=ds } : Act).put o.dst v) Q:=by
 refine ⟨h.1,?_⟩
 have h2:=h.2
 generalize (o.semAt (FR r).round a.eval).run P w=res at h2 ⊢
 match res,h2 with
 | .ok (.value v) w',h2=>exact ⟨h2,v,a.defers,rfl⟩
 | .ok .skip w',h2=>exact ⟨h2,undef,a.defers,rfl⟩
 | .ok (.defer d) w',h2=>exact ⟨h2,undef,d :: a.defers,rfl⟩
 | .ok (.enter f args) w',h2 =>
  refine ⟨h2.1,h2.2.mono ?_⟩
  intro e w'' he
  cases e with
  | returned v=>exact ⟨he,v,a.defers,rfl⟩
  | panicked ch=>exact he
  | outgrown=>exact he
 | .ok (.row row args) w',h2=>exact ⟨h2.1,h2.2.mono fun v w'' hv=>⟨hv,v,a.defers,rfl⟩⟩
 | .ok (.round l f tmps x y) w',h2 =>
  refine ⟨h2.1,h2.2.mono ?_⟩
  intro e w'' he
  cases e with
  | returned v=>exact ⟨he,v,a.defers,rfl⟩
  | panicked ch=>exact he
  | outgrown=>exact he
 | .halt (.panic v) w',h2=>exact h2

def Kp (D:List Nat) (a a':Act):Prop:=(∀ t,t ∉ D→a'.tmps.getD t undef=a.tmps.getD t undef)∧a'.tmps.size=a.tmps.size
theorem Kp.refl (D:List Nat) (a:Act):Kp D a a:=⟨fun _ _=>rfl,rfl⟩
theorem Kp.put {D:List Nat} {a0 a:Act} (h:Kp D a0 a) {dst:Option Nat} (hd:∀ t,dst=some t→t∈D) (v:Value) (ds:List Deferred):Kp D a0 (({ a with defers:=ds } : Act).put dst v):=by
 cases dst with
 | none=>exact h
 | some t =>
  refine ⟨fun u hu=>?_,by simp [Act.put,h.2]⟩
  have hne:t ≠ u:=fun e=>hu (e ▸ hd t rfl)
  rw [← h.1 u hu]
  simp [Act.put,Array.getD_eq_getD_getElem?,Array.getElem?_setIfInBounds_ne hne]

theorem zj5 {ops:Array Oper} {tmps:Array Value} {j g:Nat} {b:Bool} (hg:(ops[j]?).bind (·.dst)=some g) (hv:tmps.getD g undef=.bool b):yielded ops tmps j=some b:=by
 unfold yielded
 rw [hg]
 simp only [Option.bind_some]
 rw [Array.getD_eq_getD_getElem?] at hv
 cases h:tmps[g]? with
 | none=>rw [h] at hv;simp [undef] at hv
 | some v=>rw [h] at hv;simp only [Option.getD_some] at hv;subst hv;rfl
theorem zin {ops:Array Oper} {tmps:Array Value} {j g:Nat} (hg:(ops[j]?).bind (·.dst)=some g) (hv:tmps.getD g undef=undef):yielded ops tmps j=none:=by
 unfold yielded
 rw [hg]
 simp only [Option.bind_some]
 rw [Array.getD_eq_getD_getElem?] at hv
 cases h:tmps[g]? with
 | none=>rfl
 | some v=>rw [h] at hv;simp only [Option.getD_some] at hv;subst hv;rfl

theorem Sim.skip (S:Sim P nt B w0 h0 g σ a w) {dst:Option Nat} (hd:zb1 nt dst=true):Sim P nt B w0 h0 g (σ.skip dst) (a.put dst undef) w:=by
 have:=S.put (d:=.cl .undef) (v:=undef) hd rfl (fun L hL=>by simp [zaW,zbl,zaG] at hL) σ.log
 cases dst <;> exact this

theorem zrQ (hok : OkAll P Γ) {ops : Array Oper} {K : St → Prop} {D : List Nat} {a0 : Act} {ad : List Deferred} (hD : ∀ (j : Nat) (o : Oper), ops[j]? = some o → ∀ t, o.dst = some t → t ∈ D)
    (hQ:∀ σ',K σ'→∀ g' a' w',Sim P nt B w0 h0 g' σ' a' w'→Kp D a0 a'→a'.defers=ad→Q .normal a' w') :
    ∀ (l:List Oper) (i:Nat) (σ:St) (g:Gh) (a:Act) (w:World),(∀ j,l[j]? = ops[i+j]?)→zfR P Γ nt ops i l K σ→Sim P nt B w0 h0 g σ a w→Kp D a0 a→a.defers=ad →
      wpOpsIn (FR r) n P ops Q (List.range' i l.length) a w:=by
  intro l
  induction l with
  | nil=>intro i σ g a w _ h S hk had;exact hQ σ h g a w S hk had
  | cons o l ih =>
    intro i σ g a w hl h S hkp had
    have ho:ops[i]? = some o:=by have:=hl 0;simpa using this.symm
    have hl':∀ j,l[j]? = ops[i+1+j]?:=fun j=>by have:=hl (j+1);rw [List.getElem?_cons_succ] at this;rw [this];congr 1;omega
    simp only [List.length_cons,List.range'_succ,wpOpsIn,ho]
    simp only [zfR] at h
    split at h
    · exact h.elim
    · rename_i hd
      have run:∀ (σ:St),Sim P nt B w0 h0 g σ a w→zf0 (act P Γ o (evO σ.env) (lk σ.objs)) (zkD σ i o) i o.dst (zfR P Γ nt ops (i+1) l K) σ→o.wpIn (FR r) n P a w (wpOpsIn (FR r) n P ops Q (List.range' (i+1) l.length)) Q:=by
        intro σ S h
        obtain ⟨hs,hk⟩:=zkK.1 h
        refine zlg (zEp (zkZ (i:=i) (Q:=Q) (r:=r) (n:=n) hok S hd rfl hs)) ?_
        rintro a' w' ⟨⟨hdf,g',σ',hst,S'⟩,v,ds,rfl⟩
        exact ih (i+1) _ g' _ w' hl' (hk σ' hst) (S'.log _) (hkp.put (hD i o ho) v ds) (hdf.trans had)
      have skp:∀ (σ:St),Sim P nt B w0 h0 g σ a w→zfR P Γ nt ops (i+1) l K (σ.skip o.dst)→wpOpsIn (FR r) n P ops Q (List.range' (i+1) l.length) (a.put o.dst undef) w:=by
        intro σ S h
        exact ih (i+1) _ g _ w hl' h (S.skip hd) (hkp.put (hD i o ho) undef a.defers) ((put_defers _ _ _).trans had)
      split at h
      · rename_i hg
        rw [if_pos (by simp [Region.wanted,hg])]
        exact run σ S h
      · rename_i j want hg
        split at h
        · exact h.elim
        · rename_i gt hgt
          split at h
          · rename_i b hb
            have hv:a.tmps.getD gt undef=.bool b:=by
              have:=S.env gt _ hb
              generalize a.tmps.getD gt undef=v at this
              cases this;rfl
            have hy:=zj5 hgt hv
            have S1:∀ c,b=c→Sim P nt B w0 h0 g (σ.setT gt (.bool c)) a w:=by
              intro c hc
              refine S.env' (t:=gt) (d:=.bool c) ?_ (zdR _)
              rw [hv,hc];exact .bool c
            have h2:=zh8.1 h
            cases b with
            | true =>
              have h3:=h2.1 rfl
              cases want with
              | true=>rw [if_pos (by simp [Region.wanted,hg,hy])];exact run _ (S1 true rfl) h3
              | false=>rw [if_neg (by simp [Region.wanted,hg,hy])];exact ⟨fun _ _=>trivial,skp _ (S1 true rfl) h3⟩
            | false =>
              have h3:=h2.2 rfl
              cases want with
              | true=>rw [if_neg (by simp [Region.wanted,hg,hy])];exact ⟨fun _ _=>trivial,skp _ (S1 false rfl) h3⟩
              | false=>rw [if_pos (by simp [Region.wanted,hg,hy])];exact run _ (S1 false rfl) h3
          · rename_i hb
            have hv:a.tmps.getD gt undef=undef:=S.env gt _ hb
            have hy:=zin hgt hv
            rw [if_neg (by simp [Region.wanted,hg,hy])]
            exact ⟨fun _ _=>trivial,skp _ S h⟩
          · exact h.elim

theorem zrR (hok : OkAll P Γ) {ops : Array Oper} {K : St → Prop} {D : List Nat} {a0 : Act} (hD : ∀ (j : Nat) (o : Oper), ops[j]? = some o → ∀ t, o.dst = some t → t ∈ D)
    (h:zfR P Γ nt ops 0 ops.toList K σ) (S:Sim P nt B w0 h0 g σ a w) (hkp:Kp D a0 a)
    (hQ:∀ σ',K σ'→∀ g' a' w',Sim P nt B w0 h0 g' σ' a' w'→Kp D a0 a'→a'.defers=a.defers→Q .normal a' w'):wpOpsIn (FR r) n P ops Q (List.range ops.size) a w:=by
  have:=zrQ (r:=r) (n:=n) hok hD hQ ops.toList 0 σ g a w (fun j=>by simp) h S hkp rfl
  rw [List.range_eq_range']
  simpa using this

end
end Go.Pm
namespace Go.Pm
open Go.RowKit (Below)

section
variable {P:Program} {Γ:Ctrs} {nt B:Nat} {w0:World} {h0:Fz} {g:Gh} {σ:St} {a:Act} {w:World} {r:Option Nat} {n i:Nat} {Q:Exit→Act→World→Prop} {ops:Array Oper}

theorem zwk {K:St→Prop} (hK:∀ σ τ,Eqv σ τ→K σ→K τ):∀ (l:List Oper) (i:Nat) (σ:St),(∀ j,l[j]? = ops[i+j]?)→zfR P Γ nt ops i l K σ→vcL P Γ nt ops (List.range' i l.length) K σ:=by
 intro l
 induction l with
 | nil=>intro i σ _ h;exact h
 | cons o l ih =>
  intro i σ hl h
  have ho:ops[i]? = some o:=by have:=hl 0;simpa using this.symm
  have hl':∀ j,l[j]? = ops[i+1+j]?:=fun j=>by have:=hl (j+1);rw [List.getElem?_cons_succ] at this;rw [this];congr 1;omega
  rw [List.length_cons,List.range'_succ]
  simp only [zfR] at h
  split at h
  ·exact h.elim
  ·rename_i hd
   have one:∀ τ:St,zfS ops τ.env o=some true→zf0 (act P Γ o (evO τ.env) (lk τ.objs)) (zkD τ i o) i o.dst (zfR P Γ nt ops (i+1) l K) τ→vcL P Γ nt ops (i :: List.range' (i+1) l.length) K τ:=by
    intro τ hw hv
    simp only [vcL,ho]
    have e1:zm9 P Γ nt ops τ o=act P Γ o (evO τ.env) (lk τ.objs):=by unfold zm9;rw [hd,hw]
    have e2:lgG ops τ i o=zkD τ i o:=by funext fp kl;unfold lgG;rw [hw]
    rw [e1,e2]
    rw [zdS] at hv ⊢
    exact ⟨hv.1,fun d hd=>ih (i+1) _ hl' (hv.2 d hd)⟩
   have two:∀ τ:St,zfS ops τ.env o=some false→zfR P Γ nt ops (i+1) l K (τ.skip o.dst)→vcL P Γ nt ops (i :: List.range' (i+1) l.length) K τ:=by
    intro τ hw hv
    simp only [vcL,ho]
    have e1:zm9 P Γ nt ops τ o=.val [] (.cl .undef) [] []:=by unfold zm9;rw [hd,hw]
    have e2:lgG ops τ i o=fun _ _=>[]:=by funext fp kl;unfold lgG;rw [hw]
    rw [e1,e2]
    change vcL P Γ nt ops (List.range' (i+1) l.length) K ((τ.upd i o.dst [] (.cl .undef) [] []).relog [])
    have e3:(τ.upd i o.dst [] (.cl .undef) [] []).relog []=τ.skip o.dst:=by cases o.dst <;> rfl
    rw [e3]
    exact ih (i+1) _ hl' hv
   split at h
   ·rename_i hg
    exact one σ (by unfold zfS;rw [hg]) h
   ·rename_i j want hg
    split at h
    ·exact h.elim
    ·rename_i gt hgt
     have wt:∀ b,zfS ops (σ.setT gt (.bool b)).env o=some (b == want):=fun b=>by
      unfold zfS
      rw [hg]
      simp only [hgt]
      rw [show lk (σ.setT gt (.bool b)).env gt=some (.bool b) by simp [St.setT,zaq]]
     split at h
     ·rename_i b hb
      have eq:∀ c,b=c→Eqv (σ.setT gt (.bool c)) σ:=fun c hc=>⟨fun t=>by
       simp only [St.setT,zaq]
       split
       ·rename_i e;subst e;rw [hb,hc]
       ·rfl,fun _=>rfl,fun _=>Iff.rfl⟩
      have h2:=zh8.1 h
      refine znX hK _ _ _ (eq b rfl) ?_
      cases b with
      | true =>
       have h3:=h2.1 rfl
       cases want with
       | true=>exact one _ (wt true) h3
       | false=>exact two _ (wt true) h3
      | false =>
       have h3:=h2.2 rfl
       cases want with
       | true=>exact two _ (wt false) h3
       | false=>exact one _ (wt false) h3
     ·rename_i hb
      refine two σ ?_ h
      unfold zfS
      rw [hg]
      simp only [hgt]
      rw [hb]
     ·exact h.elim

theorem zK4 (hok : OkAll P Γ) {K : St → Prop} {l : List Nat} {R : Act → World → Prop} {D : List Nat} {a0 : Act} {ad : List Deferred} (hD : ∀ (j : Nat) (o : Oper), ops[j]? = some o → ∀ t, o.dst = some t → t ∈ D)
    (hv:vcL P Γ nt ops (i :: l) K σ) (S:Sim P nt B w0 h0 g σ a w) (hkp:Kp D a0 a) (had:a.defers=ad)
    (hR:∀ σ' g' a' w',vcL P Γ nt ops l K σ'→Sim P nt B w0 h0 g' σ' a' w'→Kp D a0 a'→a'.defers=ad→R a' w'):wpOpIn (FR r) n P ops Q i R a w:=by
  simp only [vcL] at hv
  unfold wpOpIn
  split at hv
  · rename_i ho
    rw [ho]
    exact hR σ g a w hv S hkp had
  · rename_i o ho
    rw [ho]
    simp only
    obtain ⟨hs,hk⟩:=zkK.1 hv
    have wnt:∀ b,zfS ops σ.env o=some b→Region.wanted o (yielded ops a.tmps)=b:=by
      intro b hw
      unfold zfS at hw
      split at hw
      · rename_i hg
        simp only [Option.some.injEq] at hw;subst hw
        simp [Region.wanted,hg]
      · rename_i j want hg
        split at hw
        · cases hw
        · rename_i gt hgt
          split at hw
          · rename_i c hb
            simp only [Option.some.injEq] at hw;subst hw
            have hvv:a.tmps.getD gt undef=.bool c:=by
              have:=S.env gt _ hb
              generalize a.tmps.getD gt undef=v at this
              cases this;rfl
            simp [Region.wanted,hg,zj5 hgt hvv]
          · rename_i hb
            simp only [Option.some.injEq] at hw;subst hw
            have hvv:a.tmps.getD gt undef=undef:=S.env gt _ hb
            simp [Region.wanted,hg,zin hgt hvv]
          · cases hw
    generalize hA:zm9 P Γ nt ops σ o=A at hs hk
    have hA':=hA
    unfold zm9 at hA
    split at hA
    · rename_i hd hw
      rw [if_pos (wnt true hw)]
      refine zlg (zEp (zkZ (i:=i) (Q:=Q) (r:=r) (n:=n) hok S hd hA hs)) ?_
      rintro a' w' ⟨⟨hdf,g',σ',hst,S'⟩,v,ds,rfl⟩
      exact hR _ g' _ w' (hk σ' hst) (S'.log _) (hkp.put (hD i o ho) v ds) (hdf.trans had)
    · rename_i hd hw
      rw [if_neg (by rw [wnt false hw];simp)]
      refine ⟨fun _ _=>trivial,?_⟩
      subst hA
      refine hR _ g _ w (hk _ rfl) ?_ (hkp.put (hD i o ho) undef a.defers) ((put_defers _ _ _).trans had)
      have:=S.skip hd
      have e:(σ.upd i o.dst [] (.cl .undef) [] [])=σ.skip o.dst:=by cases o.dst <;> rfl
      rw [e]
      exact this.log _
    · subst hA;exact hs.elim

theorem zp5 {K : St → Prop} {i : Nat} {oi : Oper} {l2 : List Nat} (hi : ops[i]? = some oi) (hE : ∀ σ τ, Eqv σ τ → K σ → K τ) {R : List (Nat × Nat × Nat) → Prop} (hR : ∀ l m, (∀ x ∈ l, x ∈ m) → R m → R l) (hK : ∀ σ, K σ → R σ.log) :
  ∀ (l1:List Nat) (σ:St),(∀ p∈l1,(∀ log,R log→zlf log p i)∧∀ op,ops[p]? = some op→zpx ops op oi=false) →
   vcL P Γ nt ops (l1 ++ i :: l2) K σ→vcL P Γ nt ops (i :: (l1 ++ l2)) K σ
 | [],σ,_,h=>h
 | p :: l1,σ,hp,h=>by
  have h1:vcL P Γ nt ops (p :: i :: (l1 ++ l2)) K σ:=zim (fun σ h=>zp5 hi hE hR hK l1 σ (fun q hq=>hp q (List.mem_cons_of_mem _ hq)) h) h
  obtain ⟨hN,hT⟩:=hp p List.mem_cons_self
  cases hop:ops[p]? with
  | none =>
   have e:∀ l σ,vcL P Γ nt ops (p :: l) K σ↔vcL P Γ nt ops l K σ:=fun l σ=>by simp only [vcL,hop]
   have h2:=(e _ _).1 h1
   exact zim (fun τ h=>(e _ _).2 h) h2
  | some op =>
   exact zCT hop hi (hT op hop) (fun τ τ' he hv=>znX hE _ _ _ he hv) (fun τ hv=>hN _ (zrP hR hK _ _ hv)) h1

theorem zlh {ms:List Nat} {S:Nat→Prop} {p:Nat} : ∀ (es:List Edge),(∀ e∈es,Region.binds .any e=true→S e.on) →
  (∀ k m,ms[k]? = some m→S k→m.testBit p=true→S p)→(zkE ms es).testBit p=true→S p
 | [],_,_,h=>by simp [zkE] at h
 | e :: r,he,hm,h=>by
  have ih:=zlh (ms:=ms) (p:=p) r (fun e' h'=>he e' (List.mem_cons_of_mem _ h')) hm
  simp only [zkE] at h
  split at h
  ·rename_i m hb hms
   have hS:=he e List.mem_cons_self hb
   rw [Nat.testBit_or,Nat.testBit_or,Bool.or_eq_true,Bool.or_eq_true] at h
   rcases h with (h | h) | h
   ·rw [Nat.testBit_two_pow] at h
    have:e.on=p:=of_decide_eq_true h
    rw [← this];exact hS
   ·exact hm _ _ hms hS h
   ·exact ih h
  ·exact ih h

theorem znd {S:Nat→Prop} {p:Nat} (hcl:∀ (k:Nat) (o:Oper),ops[k]? = some o→S k→∀ e∈o.after,Region.binds .any e=true→S e.on):∀ (l:List Oper) (ms:List Nat),(∀ j,l[j]? = ops[ms.length+j]?) →
  (∀ (k:Nat) (o:Oper) (m:Nat),ops[k]? = some o→ms[k]? = some m→(∀ e∈o.after,Region.binds .any e=true→S e.on)→m.testBit p=true→S p) →
  ∀ (k:Nat) (o:Oper) (m:Nat),ops[k]? = some o→(masks l ms)[k]? = some m→(∀ e∈o.after,Region.binds .any e=true→S e.on)→m.testBit p=true→S p
 | [],ms,_,h=>h
 | o :: r,ms,hl,h=>by
  have ho:ops[ms.length]? = some o:=by have:=hl 0;simpa using this.symm
  simp only [masks]
  refine znd hcl r (ms ++ [zkE ms o.after.toList]) (fun j=>by have:=hl (j+1);rw [List.getElem?_cons_succ] at this;rw [this,List.length_append];congr 1;simp;omega) ?_
  intro k ok m hk hm he hb
  rw [List.getElem?_append] at hm
  split at hm
  ·exact h k ok m hk hm he hb
  ·rename_i hlt
   have hk':k=ms.length:=by
    rcases Nat.lt_or_ge k (ms.length+1) with h1 | h1
    ·omega
    ·rw [List.getElem?_eq_none (by simp;omega)] at hm;cases hm
   subst hk'
   rw [ho] at hk
   simp only [Option.some.injEq] at hk;subst hk
   simp only [Nat.sub_self,List.getElem?_cons_zero,Option.some.injEq] at hm
   subst hm
   refine zlh _ (fun e h'=>he e (by simpa using h')) (fun k' m' hm' hS hb'=>?_) hb
   have hlt':k' < ms.length:=by
    rcases Nat.lt_or_ge k' ms.length with h1 | h1
    ·exact h1
    ·rw [List.getElem?_eq_none h1] at hm';cases hm'
   cases hok:ops[k']? with
   | some ok'=>exact h k' ok' m' hok hm' (hcl k' ok' hok hS) hb'
   | none =>
    have hlen:ms.length < ops.size:=by
     rcases Nat.lt_or_ge ms.length ops.size with h1 | h1
     ·exact h1
     ·rw [Array.getElem?_eq_none h1] at ho;cases ho
    rw [Array.getElem?_eq_none_iff] at hok;omega

def zkd (ms:List Nat) (log:List (Nat×Nat×Nat)):Prop:=znw ms log=true
theorem zkd.sub {ms:List Nat} (l m:List (Nat×Nat×Nat)) (h:∀ x∈l,x∈m) (hm:zkd ms m):zkd ms l:=by
 simp only [zkd,znw,List.all_eq_true] at hm ⊢
 exact fun x hx y hy=>hm x (h x hx) y (h y hy)
theorem zkd.no {ms:List Nat} {log:List (Nat×Nat×Nat)} (h:zkd ms log) {p i:Nat} (hpi:p < i) (hb:∀ m,ms[i]? = some m→m.testBit p=false):zlf log p i:=by
 intro L k m h1 h2
 simp only [zkd,znw,List.all_eq_true] at h
 have:=h _ h1 _ h2
 simp only [Bool.or_eq_true,Bool.not_eq_true'] at this
 rcases this with ((h3 | h3) | h3) | h3
 ·rw [show Nat.blt p i=true from by simpa [Nat.blt_eq] using hpi] at h3;cases h3
 ·rw [show Nat.beq L L=true from by simp] at h3;cases h3
 ·exact h3
 ·split at h3
  ·rename_i m' hm';rw [hb m' hm'] at h3;cases h3
  ·cases h3

def unl (ops:Array Oper) (listed:Array Bool):List Nat:=(List.range ops.size).filter fun k=>!listed.getD k true

theorem zli {listed:Array Bool} : i∈Region.ready .any ops listed↔i∈unl ops listed∧∃ o,ops[i]? = some o∧∀ e∈o.after,Region.binds .any e=true→listed.getD e.on false=true:=by
 simp only [Region.ready,unl,List.mem_filter,Bool.and_eq_true]
 constructor
 ·rintro ⟨h1, h2, h3⟩
  refine ⟨⟨h1,h2⟩,?_⟩
  cases ho:ops[i]? with
  | none=>rw [ho] at h3;simp at h3
  | some o =>
   rw [ho] at h3
   simp only [Option.map_some,Option.getD_some,Array.all_eq_true_iff_forall_mem,Bool.or_eq_true,Bool.not_eq_true'] at h3
   refine ⟨o,rfl,fun e he hb=>?_⟩
   rcases h3 e he with h | h
   ·rw [hb] at h;cases h
   ·exact h
 ·rintro ⟨⟨h1, h2⟩, o, ho, h3⟩
  refine ⟨h1,h2,?_⟩
  rw [ho]
  simp only [Option.map_some,Option.getD_some,Array.all_eq_true_iff_forall_mem,Bool.or_eq_true,Bool.not_eq_true']
  intro e he
  cases hb:Region.binds .any e with
  | false=>exact .inl rfl
  | true=>exact .inr (h3 e he hb)

theorem zuA {listed:Array Bool} {i k:Nat} {b:Bool} : (listed.setIfInBounds i true).getD k b=if k=i∧k < listed.size then true else listed.getD k b:=by
 rw [Array.getD_eq_getD_getElem?,Array.getD_eq_getD_getElem?,Array.getElem?_setIfInBounds]
 by_cases h:i=k
 ·subst h
  by_cases hs:i < listed.size
  ·simp [hs]
  ·simp [hs]
 ·rw [if_neg h,if_neg (by omega)]

theorem zFY {listed:Array Bool} (hsz:listed.size=ops.size):unl ops (listed.setIfInBounds i true)=(unl ops listed).filter fun k=>!(k == i):=by
 unfold unl
 rw [List.filter_filter]
 refine List.filter_congr fun k hk=>?_
 have hk:=List.mem_range.1 hk
 rw [zuA]
 by_cases h:k=i
 ·subst h;rw [if_pos ⟨rfl,by omega⟩];simp
 ·rw [if_neg (fun h'=>h h'.1)];simp [h]

theorem zFZ (hok : OkAll P Γ) {K : St → Prop} {D : List Nat} {a0 : Act} {ad : List Deferred} (hD : ∀ (j : Nat) (o : Oper), ops[j]? = some o → ∀ t, o.dst = some t → t ∈ D) (hE : ∀ σ τ, Eqv σ τ → K σ → K τ) (hlow : zCp ops = true) (hT : zt2 ops (masks ops.toList []) = true)
    (hL:∀ σ,K σ→zkd (masks ops.toList []) σ.log) (hQ:∀ σ',K σ'→∀ g' a' w',Sim P nt B w0 h0 g' σ' a' w'→Kp D a0 a'→a'.defers=ad→Q .normal a' w') :
    ∀ (fuel:Nat) (listed:Array Bool) (σ:St) (g:Gh) (a:Act) (w:World),listed.size=ops.size→(unl ops listed).length≤fuel →
      (∀ k o,ops[k]? = some o→listed.getD k false=true→∀ e∈o.after,Region.binds .any e=true→listed.getD e.on false=true) →
      vcL P Γ nt ops (unl ops listed) K σ→Sim P nt B w0 h0 g σ a w→Kp D a0 a→a.defers=ad→wpAnyIn (FR r) n P .any ops Q fuel listed a w:=by
  -- if nothing is ready, nothing is left
  have stuck:∀ listed:Array Bool,Region.ready .any ops listed=[]→unl ops listed=[]:=by
    intro listed hr
    cases hu:unl ops listed with
    | nil=>rfl
    | cons i rest =>
      exfalso
      have hi:i∈unl ops listed:=by rw [hu];exact List.mem_cons_self
      have hsz:i < ops.size:=List.mem_range.1 (List.mem_filter.1 hi).1
      have hsort:(unl ops listed).Pairwise (· < ·):=List.Pairwise.filter _ List.pairwise_lt_range
      have:i∈Region.ready .any ops listed:=by
        refine zli.2 ⟨hi,ops[i],Array.getElem?_eq_getElem hsz,fun e he hb=>?_⟩
        simp only [zCp,List.all_eq_true] at hlow
        have h1:=hlow i (List.mem_range.2 hsz)
        rw [Array.getElem?_eq_getElem hsz] at h1
        simp only [List.all_eq_true,Bool.or_eq_true,Bool.not_eq_true'] at h1
        have h2:e.on < i:=by
          rcases h1 e (by simpa using he) with h | h
          · rw [hb] at h;cases h
          · simpa [Nat.blt_eq] using h
        cases hl:listed.getD e.on false with
        | true=>rfl
        | false =>
          exfalso
          have hmem:e.on∈unl ops listed∨listed.getD e.on true=true:=by
            cases hl2:listed.getD e.on true with
            | true=>exact .inr rfl
            | false=>exact .inl (List.mem_filter.2 ⟨List.mem_range.2 (by omega),by rw [hl2];rfl⟩)
          rw [hu] at hmem hsort
          rcases hmem with hmem | hmem
          · rcases List.mem_cons.1 hmem with h | h
            · omega
            · have:=(List.pairwise_cons.1 hsort).1 _ h;omega
          · -- then it lies outside
            rw [Array.getD_eq_getD_getElem?] at hl hmem
            have hout:listed[e.on]? = none:=by
              cases hx:listed[e.on]? with
              | none=>rfl
              | some b=>rw [hx] at hl hmem;simp at hl hmem;rw [hl] at hmem;cases hmem
            have hi2:listed.getD i true=true:=by
              rw [Array.getElem?_eq_none_iff] at hout
              rw [Array.getD_eq_getD_getElem?,Array.getElem?_eq_none (by omega)];rfl
            have:=(List.mem_filter.1 hi).2
            rw [hi2] at this;cases this
      rw [hr] at this;simp at this
  intro fuel
  induction fuel with
  | zero =>
    intro listed σ g a w hsz hf hcl hv S hkp had
    have hnil:unl ops listed=[]:=List.eq_nil_of_length_eq_zero (by omega)
    refine ⟨?_,?_⟩
    · cases hr:Region.ready .any ops listed with
      | nil=>rfl
      | cons i l =>
        have:=(zli (i:=i) (ops:=ops) (listed:=listed)).1 (by rw [hr];exact List.mem_cons_self)
        rw [hnil] at this;simp at this
    · rw [hnil] at hv
      exact hQ σ hv g a w S hkp had
  | succ fuel ih =>
    intro listed σ g a w hsz hf hcl hv S hkp had
    refine ⟨fun hr=>?_,fun i hi=>?_⟩
    · have hnil := stuck listed hr
      rw [hnil] at hv
      exact hQ σ hv g a w S hkp had
    · obtain ⟨hu, oi, hoi, hed⟩ := zli.1 hi
      have hil:i < ops.size:=List.mem_range.1 (List.mem_filter.1 hu).1
      have hsort:(unl ops listed).Pairwise (· < ·):=List.Pairwise.filter _ List.pairwise_lt_range
      obtain ⟨l1,l2,hl⟩:=List.append_of_mem hu
      rw [hl] at hsort hv
      have hlt:∀ p∈l1,p < i:=fun p hp=>(List.pairwise_append.1 hsort).2.2 p hp i List.mem_cons_self
      have hgt:∀ p∈l2,i < p:=fun p hp=>(List.pairwise_cons.1 (List.pairwise_append.1 hsort).2.1).1 p hp
      have hset:unl ops (listed.setIfInBounds i true)=l1 ++ l2:=by
        rw [zFY hsz,hl,List.filter_append,List.filter_cons]
        rw [if_neg (by simp),List.filter_eq_self.2 fun p hp=>by have:=hlt p hp;simp;omega,List.filter_eq_self.2 fun p hp=>by have:=hgt p hp;simp;omega]
      have bits:∀ p∈l1,∀ m,(masks ops.toList [])[i]? = some m→m.testBit p=false:=by
        intro p hp m hm
        cases hb:m.testBit p with
        | false=>rfl
        | true =>
          exfalso
          have:=znd (S:=fun k=>listed.getD k false=true) (p:=p) (ops:=ops) (fun k o ho hS=>hcl k o ho hS) ops.toList [] (fun j=>by simp) (fun k o m _ hm=>by simp at hm) i oi m hoi hm hed hb
          have hpu:p∈unl ops listed:=by rw [hl];exact List.mem_append.2 (.inl hp)
          have h2:=(List.mem_filter.1 hpu).2
          rw [Array.getD_eq_getD_getElem?] at this h2
          cases hx:listed[p]? with
          | none=>rw [hx] at this;simp at this
          | some b=>rw [hx] at this h2;simp at this h2;rw [this] at h2;cases h2
      have hfront:=zp5 hoi hE (R:=zkd (masks ops.toList [])) zkd.sub hL l1 σ (fun p hp=>⟨fun log hlog=>hlog.no (hlt p hp) (bits p hp),fun op hop=>?_⟩) hv
      · refine zK4 hok hD hfront S hkp had fun σ' g' a' w' hv' S' hkp' had' => ?_
        refine ih (listed.setIfInBounds i true) σ' g' a' w' (by simpa using hsz) ?_ ?_ ?_ S' hkp' had'
        · rw [hset]
          rw [hl] at hf
          simp only [List.length_append,List.length_cons] at hf ⊢
          omega
        · intro k o hk hlk e he hb
          rw [zuA] at hlk ⊢
          split at hlk
          · rename_i hki
            rw [hki.1,hoi] at hk
            simp only [Option.some.injEq] at hk;subst hk
            have:=hed e he hb
            split
            · rfl
            · exact this
          · have := hcl k o hk hlk e he hb
            split
            · rfl
            · exact this
        · rw [hset];exact hv'
      · simp only [zt2, List.all_eq_true] at hT
        have h1:=hT i (List.mem_range.2 hil) p (List.mem_range.2 (hlt p hp))
        rw [hop,hoi] at h1
        cases hm:(masks ops.toList [])[i]? with
        | none=>rw [hm] at h1;simp at h1
        | some m =>
          rw [hm] at h1
          simp only [Bool.or_eq_true,Bool.not_eq_true'] at h1
          rcases h1 with h | h
          · exact h
          · rw [bits p hp m hm] at h;cases h

theorem Sim.drew (S:Sim P nt B w0 h0 g σ a w):Sim P nt B w0 h0 g σ a { w with drawn:=w.drawn+1 }:=by
 refine { S with obj:=fun L o h=>?_,below:=?_,hw:=S.hw,bs:=S.bs }
 ·have := S.obj L o h
  cases o <;> exact this
 ·exact S.below.drew

theorem zwl (hok : OkAll P Γ) {K : St → Prop} {D : List Nat} {a0 : Act} (hD : ∀ (j : Nat) (o : Oper), ops[j]? = some o → ∀ t, o.dst = some t → t ∈ D) (hkp : Kp D a0 a) (hm : P.follows .mixedOrders = true) (hlow : zCp ops = true) (hT : zt2 ops (masks ops.toList []) = true) (hE : ∀ σ τ, Eqv σ τ → K σ → K τ)
    (h:zfR P Γ nt ops 0 ops.toList (fun σ'=>match znw (masks ops.toList []) σ'.log with
      | true=>K σ'
      | false=>False) σ) (S:Sim P nt B w0 h0 g σ a w)
    (hQ:∀ σ',K σ'→∀ g' a' w',Sim P nt B w0 h0 g' σ' a' w'→Kp D a0 a'→a'.defers=a.defers→Q .normal a' w') {id:Nat} : (Code.region id ops true).wpIn (FR r) n P Q a w:=by
  refine wpIn_region_any hm ?_
  have hE':∀ σ τ:St,Eqv σ τ→(match znw (masks ops.toList []) σ.log with | true=>K σ | false=>False)→(match znw (masks ops.toList []) τ.log with | true=>K τ | false=>False):=by
    intro σ τ he hσ
    split at hσ
    · rename_i hl
      have:zkd (masks ops.toList []) τ.log:=zkd.sub _ _ (fun x hx=>(he.log x).2 hx) hl
      rw [show znw (masks ops.toList []) τ.log=true from this]
      exact hE σ τ he hσ
    · exact hσ.elim
  have hun:unl ops (Array.replicate ops.size false)=List.range ops.size:=by
    unfold unl
    refine List.filter_eq_self.2 fun k hk=>?_
    have:=List.mem_range.1 hk
    simp [Array.getD_eq_getD_getElem?,this]
  refine zFZ hok hD (K:=fun σ'=>match znw (masks ops.toList []) σ'.log with | true=>K σ' | false=>False) hE' hlow hT (fun σ hσ=>?_) (fun σ' hσ=>?_) ops.size _ σ g a _ (by simp) ?_ ?_ ?_ S.drew hkp rfl
  · split at hσ
    · assumption
    · exact hσ.elim
  · split at hσ
    · exact hQ σ' hσ
    · exact hσ.elim
  · rw [hun];simp
  · intro k o _ hk
    rw [Array.getD_eq_getD_getElem?] at hk
    by_cases hks:k < ops.size
    · simp [hks] at hk
    · rw [Array.getElem?_eq_none (by simp;omega)] at hk;simp at hk
  · rw [hun]
    have:=zwk hE' ops.toList 0 σ (fun j=>by simp) h
    rw [List.range_eq_range']
    simpa using this
end
end Go.Pm
namespace Go.Pm
open Go.RowKit (Below)

def zEq (h h':Fz):Prop:=∀ b o,h b=some o→(∃ C ty fr,o=.fz (.cells C ty fr))∨(∃ F,o=.inv F)∨(∃ es c,o=.fz (.map es c))→h' b=some o
theorem Fle.c {h h':Fz} (hl:Fle h h'):zEq h h':=fun b o hb _=>hl b o hb

section
variable {P:Program} {Γ:Ctrs} {nt B:Nat} {w0:World} {h0:Fz} {g:Gh} {σ:St} {a:Act} {w:World} {r:Option Nat} {n i:Nat} {Q:Exit→Act→World→Prop}

abbrev Gh.re (g:Gh) (h:Fz):Gh:=⟨h,g.bk,g.sv,g.iv⟩

theorem zEr {h:Fz} (hl:zEq g.h h) {c:Cl} {x:Value} (hc:clR g c x):clR (g.re h) c x:=by
 cases c with
 | p v=>exact Rep.mono' hl hc
 | clo f caps=>obtain ⟨cv,e,hr⟩:=hc;exact ⟨cv,e,zeW (fun _ _ hp=>Rep.mono' hl hp) (fun _ _=>rfl) hr⟩
 | _=>exact hc
theorem zK5 {h:Fz} (hl:zEq g.h h):∀ {cs:List Cl} {vs:List Value},RL (clR g) cs vs→RL (clR (g.re h)) cs vs:=fun hc=>hc.mono fun _ _=>zEr hl
theorem zEs {h:Fz} (hl:zEq g.h h) {d:D1} {x:Value} (hd:d1R g d x):d1R (g.re h) d x:=by
 cases d with
 | c y=>exact zEr hl hd
 | agg cs=>obtain ⟨vs,rfl,hr⟩:=hd;exact ⟨vs,rfl,zK5 hl hr⟩
theorem zxE {h:Fz} (hl:zEq g.h h) {d:DV} {x:Value} (hd:dvR g d x):dvR (g.re h) d x:=by
 cases d with
 | one y=>exact zEs hl hd
 | tup ds=>obtain ⟨vs,rfl,hr⟩:=hd;exact ⟨vs,rfl,hr.mono fun _ _=>zEs hl⟩
theorem zxF {h:Fz} (hl:zEq g.h h) {L:Nat} {o:AO} (ho:aoR P g w B L o):aoR P (g.re h) w B L o:=by
 cases o with
 | box ty cs=>obtain ⟨C,hC,hr⟩:=ho;exact ⟨C,hC,zK5 hl hr⟩
 | fbox cs=>obtain ⟨C,ty,fr,hC,hr⟩:=ho;exact ⟨C,ty,fr,hl _ _ hC (.inl ⟨_,_,_,rfl⟩),hr.mono fun _ _=>Rep.mono' hl⟩
 | vec e s b n get=>obtain ⟨h1,h2,xs,hx,hr⟩:=ho;exact ⟨h1,h2,xs,hx,fun i hi=>(hr i hi).mono fun _ _=>Rep.mono' hl⟩
 | fvec s n get=>exact ⟨Rep.mono' hl ho.1,ho.2⟩
 | vv te bb e s b n ln get =>
  obtain ⟨h1,h2,h3,h4,h5,h6⟩:=ho
  exact ⟨h1,h2,h3,h4,fun i hi=>by obtain ⟨h7,xs,hx,hr⟩:=h5 i hi;exact ⟨h7,xs,hx,fun j hj=>(hr j hj).mono fun _ _=>Rep.mono' hl⟩,h6⟩
 | mo kt vt q n F=>exact ho
 | vm te bb kt vt q n mk nn F=>exact ho
 | mit q n F seen =>
  rcases ho with h1 | ⟨m,es,clock,sb,en,h1,h2⟩
  ·exact .inl h1
  ·exact .inr ⟨m,es,clock,sb,en,hl _ _ h1 (.inr (.inr ⟨_,_,rfl⟩)),h2⟩
 | gone=>trivial

def Fz.add (h:Fz) (b:Nat) (o:Obj):Fz:=fun k=>if k=b then some (.fz o) else h k
def Fz.del (h:Fz) (b:Nat):Fz:=fun k=>if k=b then none else h k
theorem Fz.add_same {h:Fz} {b:Nat} {o:Obj} : h.add b o b=some (.fz o):=if_pos rfl
theorem Fz.add_other {h:Fz} {b k:Nat} {o:Obj} (hk:k ≠ b):h.add b o k=h k:=if_neg hk
theorem Fz.del_same {h:Fz} {b:Nat} : h.del b b=none:=if_pos rfl
theorem Fz.del_other {h:Fz} {b k:Nat} (hk:k ≠ b):h.del b k=h k:=if_neg hk
theorem Fz.le_add {h:Fz} {b:Nat} {o:Obj} (hb:h b=none):Fle h (h.add b o):=fun k x hk=>by
 rw [Fz.add_other (fun e=>by subst e;rw [hb] at hk;cases hk)];exact hk

theorem Sim.hide (S : Sim P nt B w0 h0 g σ a w) {b : Nat} {o : Obj} (hb : g.h b = none) (hw : w.heap[b]? = some o) (hB : B ≤ b) (hno : ∀ L o, lk σ.objs L = some o → ¬ obk g L o b) :
  Sim P nt B w0 (h0.add b o) (g.re (g.h.add b o)) σ a w:=by
 have hle:=Fz.le_add (o:=o) hb
 have h0b:h0 b=none:=by
  cases h:h0 b with
  | none=>rfl
  | some x=>rw [S.le0 b x h] at hb;cases hb
 refine ⟨S.dfr.mono hle,S.size,fun t d ht=>zxE hle.c (S.env t d ht),fun L x hL=>zxF hle.c (S.obj L x hL),fun L x k hL hk=>?_,S.sep,?_,?_,?_,?_,S.bs,S.clE,S.clO⟩
 ·obtain ⟨h1, h2⟩ := S.own L x k hL hk
  refine ⟨h1,?_⟩
  show g.h.add b o k=none
  rw [Fz.add_other (fun e=>hno L x hL (by rw [← e];exact hk))];exact h2
 ·intro k x hk
  by_cases h:k=b
  ·subst h
   have hk:g.h.add k o k=some x:=hk
   rw [Fz.add_same] at hk;simp only [Option.some.injEq] at hk;subst hk
   exact ⟨o,hw,rfl⟩
  ·have hk : g.h.add b o k = some x := hk
   rw [Fz.add_other h] at hk;exact S.hw k x hk
 ·intro k x hk
  show g.h.add b o k=some x
  by_cases h:k=b
  ·subst h;rw [Fz.add_same] at hk ⊢;exact hk
  ·rw [Fz.add_other h] at hk ⊢;exact S.le0 k x hk
 ·intro k x hk
  have hk:g.h.add b o k=some x:=hk
  by_cases h:k=b
  ·exact .inr (h ▸ hB)
  ·rw [Fz.add_other h] at hk ⊢;exact S.hn k x hk
 ·exact ⟨S.below.os,S.below.tape,S.below.output,S.below.size,S.below.drawn,fun k hk hn=>S.below.block k hk fun F hF=>by
   refine hn F ?_
   rw [Fz.add_other (fun e=>by subst e;rw [h0b] at hF;cases hF)];exact hF⟩

theorem Sim.unhide {b : Nat} {o : Obj} (S : Sim P nt B w0 (h0.add b o) g σ a w) (hB : B ≤ b) (h0b : h0 b = none) (hc : o.isCells = false) (hm : ∀ ds, o ≠ .deferred ds) (hmm : ∀ es c, o ≠ .map es c) :
  g.h b=some (.fz o)∧(∀ L x,lk σ.objs L=some x→¬ obk g L x b)∧w.heap[b]? = some o∧Sim P nt B w0 h0 (g.re (g.h.del b)) σ a w:=by
 have hb:g.h b=some (.fz o):=S.le0 b _ Fz.add_same
 have hl:zEq g.h (g.h.del b):=fun k x hk hx=>by
  rw [Fz.del_other];exact hk
  intro e;subst e;rw [hb] at hk;simp only [Option.some.injEq] at hk;subst hk
  rcases hx with ⟨C,ty,fr,hx⟩ | ⟨F,hx⟩ | ⟨es,c,hx⟩
  ·cases hx;cases hc
  ·cases hx
  ·cases hx;exact hmm _ _ rfl
 have hwb:w.heap[b]? = some o:=S.hw.fz hb
 refine ⟨hb,(fun L x hL hk=>by (have:=(S.own L x b hL hk).2;rw [hb] at this;cases this)),hwb,?_⟩
 refine ⟨?_,S.size,fun t d ht=>zxE hl (S.env t d ht),fun L x hL=>zxF hl (S.obj L x hL),fun L x k hL hk=>?_,S.sep,?_,?_,?_,?_,S.bs,S.clE,S.clO⟩
 ·obtain ⟨Ds, h1, h2, h3⟩ := S.dfr
  refine ⟨Ds,h1,h2,fun D hD=>⟨(h3 D hD).1,?_⟩⟩
  show g.h.del b D=_
  rw [Fz.del_other];exact (h3 D hD).2
  intro e;subst e
  have:=(h3 D hD).2
  rw [hb] at this;simp only [Option.some.injEq,FzO.fz.injEq] at this
  exact hm _ this
 ·obtain ⟨h1, h2⟩ := S.own L x k hL hk
  refine ⟨h1,?_⟩
  show g.h.del b k=none
  unfold Fz.del
  split
  ·rfl
  ·exact h2
 ·intro k x hk
  have hk:g.h.del b k=some x:=hk
  unfold Fz.del at hk
  split at hk
  ·cases hk
  ·exact S.hw k x hk
 ·intro k x hk
  have hkb:k ≠ b:=fun e=>by subst e;rw [h0b] at hk;cases hk
  show g.h.del b k=some x
  rw [Fz.del_other hkb]
  exact S.le0 k x (by rw [Fz.add_other hkb];exact hk)
 ·intro k x hk
  have hk:g.h.del b k=some x:=hk
  by_cases h:k=b
  ·exact .inr (h ▸ hB)
  ·rw [Fz.del_other h] at hk
   rcases S.hn k x hk with h1 | h1
   ·rw [Fz.add_other h] at h1;exact .inl h1
   ·exact .inr h1
 ·exact ⟨S.below.os,S.below.tape,S.below.output,S.below.size,S.below.drawn,fun k hk hn=>S.below.block k hk fun F hF=>by
   by_cases h:k=b
   ·omega
   ·rw [Fz.add_other h] at hF;exact hn F hF⟩

theorem Sim.putObj (S:Sim P nt B w0 h0 g σ a w) {b:Nat} (o:Obj) (hb:g.h b=none) (hB:B≤b) (hno:∀ L x,lk σ.objs L=some x→¬ obk g L x b):Sim P nt B w0 h0 g σ a (w.putObj b o):=by
  have hne:∀ k,k ≠ b→(w.putObj b o).heap[k]? = w.heap[k]?:=fun k hk=>World.putObj_heap_other hk
  refine S.change (g' := g) (objs' := σ.objs) (fun L _ _ => zdt.refl g L) (fun _ _ h => h) (S.hw.same fun k x hk => hne k fun e => by subst e; rw [hb] at hk; cases hk) (fun _ _ h => .inl h)
    ⟨rfl,rfl,rfl,by simp,Nat.le_refl _,fun k hk _=>hne k (by omega)⟩ ?_ S.own S.sep (fun L o h=>⟨o,h⟩) S.clO
  intro L x hL
  exact zcB (S.obj L x hL) (zdt.refl g L) (fun M _=>zdt.refl g M) (fun _ _ h=>h) fun k hk=>hne k fun e=>by subst e;exact hno L x hL hk

theorem Sim.act (S:Sim P nt B w0 h0 g σ a w) {a':Act} (hd:Marks B g.h a'.defers) (hs:nt≤a'.tmps.size) (he:∀ t d,lk σ.env t=some d→dvR g d (a'.tmps.getD t undef)):Sim P nt B w0 h0 g σ a' w :=
 ⟨hd,hs,he,S.obj,S.own,S.sep,S.hw,S.le0,S.hn,S.below,S.bs,S.clE,S.clO⟩

theorem Sim.envs (S : Sim P nt B w0 h0 g σ a w) {env : List (Nat × DV)} (he : ∀ t d, lk env t = some d → dvR g d (a.tmps.getD t undef)) (hl : ∀ t d, lk env t = some d → ∀ L ∈ zaW d, ∃ o, lk σ.objs L = some o)
    (l:List (Nat×Nat×Nat)):Sim P nt B w0 h0 g ⟨env,σ.objs,l⟩ a w :=
  ⟨S.dfr,S.size,he,S.obj,S.own,S.sep,S.hw,S.le0,S.hn,S.below,S.bs,hl,S.clO⟩

theorem fold_size : ∀ (l : List (Nat × Value)) (t : Array Value), (l.foldl (fun t (p, v) => t.setIfInBounds p v) t).size = t.size
  | [],t=>rfl
  | (p,v) :: l,t=>by rw [List.foldl_cons,fold_size l];simp
theorem zne : ∀ (l : List (Nat × Value)) (t : Array Value) (k : Nat), (∀ x ∈ l, x.1 ≠ k) → (l.foldl (fun t (p, v) => t.setIfInBounds p v) t).getD k undef = t.getD k undef
  | [],t,k,_=>rfl
  | (p,v) :: l,t,k,h=>by
    rw [List.foldl_cons,zne l _ k fun x hx=>h x (List.mem_cons_of_mem _ hx)]
    have hp:p ≠ k:=h (p,v) List.mem_cons_self
    simp [Array.getD_eq_getD_getElem?,Array.getElem?_setIfInBounds_ne hp]

theorem zxG (nt0:Nat):∀ (ps:List Nat) (ys:List PA) (us:List Value) (e env:List (Nat×DV)) (t:Array Value),zib ps ys e=some env→RL (paR g.h) ys us→(∀ p∈ps,p < t.size) →
  (∀ k d,lk e k=some d→dvR g d (t.getD k undef)) →
  us.length=ps.length∧∀ k d,lk env k=some d→dvR g d (((ps.zip us).foldl (fun t (p,v)=>t.setIfInBounds p v) t).getD k undef)
 | [],[],us,e,env,t,h,hr,_,he=>by
  simp only [zib,Option.some.injEq] at h;subst h
  cases us with
  | nil=>exact ⟨rfl,he⟩
  | cons=>exact hr.elim
 | p :: ps,y :: ys,[],e,env,t,h,hr,_,he=>hr.elim
 | p :: ps,y :: ys,u :: us,e,env,t,h,hr,hp,he=>by
  simp only [zib] at h
  have hlt:=hp p List.mem_cons_self
  obtain ⟨h1,h2⟩:=zxG nt0 ps ys us _ env (t.setIfInBounds p u) h hr.2 (fun q hq=>by have:=hp q (List.mem_cons_of_mem _ hq);simpa using this) (fun k d hk=>by
   rw [zaq] at hk
   split at hk
   ·rename_i e1
    simp only [Option.some.injEq] at hk;subst hk;subst e1
    rw [show (t.setIfInBounds p u).getD p undef=u by simp [Array.getD_eq_getD_getElem?,hlt]]
    exact zxd hr.1
   ·rename_i e1
    have:=he k d hk
    rw [show (t.setIfInBounds p u).getD k undef=t.getD k undef by simp [Array.getD_eq_getD_getElem?,Array.getElem?_setIfInBounds_ne e1]]
    exact this)
  exact ⟨by simp [h1],h2⟩
 | [],_ :: _,_,_,_,_,h,_,_,_=>by simp [zib] at h
 | _ :: _,[],_,_,_,_,h,_,_,_=>by simp [zib] at h
theorem zp6 : ∀ (ps : List Nat) (ys : List PA) (e env : List (Nat × DV)), zib ps ys e = some env → ∀ k d, lk env k = some d → lk e k = some d ∨ zaW d = []
  | [],[],e,env,h,k,d,hk=>by simp only [zib,Option.some.injEq] at h;subst h;exact .inl hk
  | p :: ps,y :: ys,e,env,h,k,d,hk=>by
    simp only [zib] at h
    rcases zp6 ps ys _ env h k d hk with h1 | h1
    · rw [zaq] at h1
      split at h1
      · simp only [Option.some.injEq] at h1;subst h1;exact .inr (zkR y)
      · exact .inl h1
    · exact .inr h1
  | [],_ :: _,_,_,h,_,_,_=>by simp [zib] at h
  | _ :: _,[],_,_,h,_,_,_=>by simp [zib] at h

theorem Sim.up (S:Sim P nt B w0 h0 g σ a w):Sim P nt B w0 g.h g σ a w :=
 ⟨S.dfr,S.size,S.env,S.obj,S.own,S.sep,S.hw,fun _ _ h=>h,fun _ _ h=>.inl h,
  ⟨S.below.os,S.below.tape,S.below.output,S.below.size,S.below.drawn,fun k hk hn=>S.below.block k hk fun F hF=>hn F (S.le0 k _ hF)⟩,S.bs,S.clE,S.clO⟩
theorem Sim.down {h1:Fz} (S:Sim P nt B w0 h1 g σ a w) (hl:Fle h0 h1) (hn:∀ b o,h1 b=some o→h0 b=some o∨B≤b):Sim P nt B w0 h0 g σ a w :=
 ⟨S.dfr,S.size,S.env,S.obj,S.own,S.sep,S.hw,fun b o h=>S.le0 b o (hl b o h),fun b o h=>by
   rcases S.hn b o h with h | h
   ·exact hn b o h
   ·exact .inr h,
  ⟨S.below.os,S.below.tape,S.below.output,S.below.size,S.below.drawn,fun k hk hx=>S.below.block k hk fun F hF=>by
   rcases hn k _ hF with h | h
   ·exact hx F h
   ·omega⟩,S.bs,S.clE,S.clO⟩

theorem zlj {k:Keep} {σ s:St} (h:canon P k σ=some s):∀ t d,lk s.env t=some d→t∈k.tmps:=by
 unfold canon at h
 split at h
 ·unfold zkF at h
  split at h
  ·cases h
  split at h
  ·cases h
  split at h
  ·cases h
  simp only [] at h
  split at h
  ·simp only [Option.some.injEq] at h
   subst h
   intro t d ht
   obtain ⟨_,_,_,h1⟩:=zdM ht
   exact h1
  ·cases h
 ·cases h

def Rnd (r:Option Nat) (h0:Fz):Prop:=∀ l,r=some l→∃ rec:Loop,h0 l=some (.fz (.loop rec))
theorem Rnd.none (h0:Fz):Rnd none h0:=fun l h=>by cases h

theorem znY (S : Sim P nt B w0 h0 g σ a w) (hR : Rnd r h0) (fn : FuncId) (ps : Array Tmp) (x y : Code) :
  ∃ (l:Nat) (mark:List Deferred) (w1:World) (d:Nat) (h1:Fz),(Instr.enterLoop fn a.tmps ps x y r).run P w=.ok (l,mark) w1∧w.heap.size≤l ∧
   w1.heap[l]? = some (.loop { state:=.ready,pending:=none,fn,tmps:=a.tmps,params:=ps, assign:=x,body:=y,defers:=d })∧Fle g.h h1∧h1 l=none ∧
   Sim P nt B w0 h0 (g.re h1) σ { a with defers:=mark ++ a.defers } w1:=by
 have hnone:∀ k,w.heap.size≤k→g.h k=none:=fun k hk=>by
  cases h:g.h k with
  | none=>rfl
  | some x=>exact absurd (zg9 S.hw h) (by omega)
 cases r with
 | none =>
  have hb0:g.h w.heap.size=none:=hnone _ (Nat.le_refl _)
  have hw1:((w.alloc (.deferred (some []))).alloc (.loop { state:=.ready,pending:=none,fn,tmps:=a.tmps,params:=ps, assign:=x,body:=y,defers:=w.heap.size })).heap[w.heap.size]? = some (.deferred (some [])):=by
   exact (Below.heap_alloc _ _ _ (by simp)).trans (World.alloc_heap_new w _)
  have hbel:Below w.heap.size w ((w.alloc (.deferred (some []))).alloc (.loop { state:=.ready,pending:=none,fn,tmps:=a.tmps,params:=ps, assign:=x,body:=y,defers:=w.heap.size })) :=
   ((Below.refl _ w).alloc (Nat.le_refl _) _).alloc (by simp) _
  have S1:=S.world (h':=g.h.add w.heap.size (.deferred (some []))) (Fz.le_add hb0) (fun k z hk=>by
    by_cases h:k=w.heap.size
    ·subst h;rw [Fz.add_same] at hk;simp only [Option.some.injEq] at hk;subst hk;exact ⟨_,hw1,rfl⟩
    ·rw [Fz.add_other h] at hk
     obtain ⟨o,h1,h2⟩:=S.hw k z hk
     exact ⟨o,by rw [hbel.block k (S.hw.lt hk)];exact h1,h2⟩)
   (fun k z hk=>by
    by_cases h:k=w.heap.size
    ·exact .inr (by omega)
    ·rw [Fz.add_other h] at hk;exact .inl hk) (.of ⟨hbel,Nat.le_refl _⟩)
  refine ⟨w.heap.size+1,[{ target:=.collected w.heap.size,args:=#[] }],_,w.heap.size,g.h.add w.heap.size (.deferred (some [])),run_enterLoop_outer fn a.tmps ps x y,by omega,?_,Fz.le_add hb0,?_,?_⟩
  ·have := World.alloc_heap_new (w.alloc (.deferred (some []))) (.loop { state := .ready, pending := none, fn, tmps := a.tmps, params := ps, assign := x, body := y, defers := w.heap.size })
   rwa [World.size_alloc] at this
  ·rw [Fz.add_other (by omega)];exact hnone _ (by omega)
  ·refine S1.act ?_ S1.size S1.env
   obtain ⟨Ds,h1,h2,h3⟩:=S.dfr
   refine ⟨w.heap.size :: Ds,List.nodup_cons.2 ⟨fun hm=>?_,h1⟩,by simp [h2],fun D hD=>?_⟩
   ·have:=zg9 S.hw (h3 _ hm).2;omega
   ·rcases List.mem_cons.1 hD with rfl | hD
    ·exact ⟨S.bs,Fz.add_same⟩
    ·exact ⟨(h3 D hD).1,Fz.le_add hb0 _ _ (h3 D hD).2⟩
 | some l0 =>
  obtain ⟨rec,hrec⟩:=hR l0 rfl
  have hl0:w.heap[l0]? = some (.loop rec):=S.hw.fz (S.le0 _ _ hrec)
  have hbel:Below w.heap.size w (w.alloc (.loop { state:=.ready,pending:=none,fn,tmps:=a.tmps,params:=ps, assign:=x,body:=y,defers:=rec.defers })):=(Below.refl _ w).alloc (Nat.le_refl _) _
  have S1:=S.world (h':=g.h) (fun _ _ h=>h) (S.hw.same fun k z hk=>hbel.block k (S.hw.lt hk)) (fun _ _ h=>.inl h) (.of ⟨hbel,Nat.le_refl _⟩)
  exact ⟨w.heap.size,[],_,rec.defers,g.h,run_enterLoop_inner hl0 fn a.tmps ps x y,Nat.le_refl _,World.alloc_heap_new w _,fun _ _ h=>h,hnone _ (Nat.le_refl _),S1⟩
end
end Go.Pm
namespace Go.Pm
open Go.RowKit (Below)

theorem znZ : ∀ {n : Nat} {K : List Int → Prop}, zNX n K ↔ ∀ l, l.length = n → K l
  | 0,K=>⟨fun h l hl=>by rw [List.eq_nil_of_length_eq_zero hl];exact h,fun h=>h [] rfl⟩
  | n+1,K=>by
    simp only [zNX]
    constructor
    · intro h l hl
      cases l with
      | nil=>simp at hl
      | cons x l=>exact znZ.1 (h x) l (by simpa using hl)
    · intro h x
      exact znZ.2 fun l hl=>h (x :: l) (by simp [hl])

theorem zlk {c : List Int} : ∀ {en : List (List Int × List Int)}, zeP c en ≠ none → ∃ (j : Nat) (v : List Int), en[j]? = some (c, v)
  | [],h=>by simp [zeP] at h
  | (k,v) :: r,h=>by
    simp only [zeP] at h
    split at h
    · rename_i e;subst e;exact ⟨0,v,rfl⟩
    · obtain ⟨j,u,hj⟩:=zlk h;exact ⟨j+1,u,by simpa using hj⟩

section
variable {P:Program} {Γ:Ctrs} {nt B:Nat} {w0:World} {h0:Fz} {g:Gh} {σ:St} {a:Act} {w:World} {r:Option Nat} {n i:Nat} {Q:Exit→Act→World→Prop}

theorem zp7 {b:Nat} {ty:TypeId} (h:w.heap[b]? = some (.mapIter none 0 #[] 0)):(Instr.next (.pointer (some ⟨b,0,none⟩)) false ty).run P w=.ok (.tuple #[.bool false]) w:=by
 simp only [Instr.next,getObj,Sem.run_bind,Sem.run,h,Result.andThen]
 rfl

theorem zCU {id : Nat} {ops : Array Oper} {x : Operand} {t u : Nat} {b : Bool} {v : Value} {w1 : World} {R : Act → World → Prop} (hn : zmM ops = some (x, t, u)) (htu : t < a.tmps.size)
    (hrun:∀ o1,ops[0]? = some o1→(Instr.next (a.eval x) false o1.type).run P w=.ok v w1) (hv:∃ vs:List Value,v=.tuple (Value.bool b :: vs).toArray)
    (hR:(R ((a.put (some t) v).put (some u) (.bool b)) w1)) (hQ:∀ a' w',R a' w'→Q .normal a' w'):(Code.region id ops false).wpIn (FR r) n P Q a w:=by
  unfold zmM at hn
  split at hn
  · rename_i o1 o2 hl
    split at hn
    · rename_i x' t' t2 u' e1 e2 e3 e4 e5 e6
      split at hn
      · rename_i hbe
        simp only [Option.some.injEq,Prod.mk.injEq] at hn
        obtain ⟨rfl,rfl,rfl⟩:=hn
        have hbe:=Nat.eq_of_beq_eq_true hbe
        subst hbe
        have hsz:ops.size=2:=by rw [← Array.length_toList,hl];rfl
        have h0:ops[0]? = some o1:=by rw [← Array.getElem?_toList,hl];rfl
        have h1:ops[1]? = some o2:=by rw [← Array.getElem?_toList,hl];rfl
        refine wpIn_region ?_
        rw [hsz,show List.range 2=[0,1] from rfl]
        simp only [wpOpsIn,h0,h1]
        rw [if_pos (by simp [Region.wanted,e5])]
        obtain ⟨vs,rfl⟩:=hv
        refine zlg (zd6 (by simp [e1]) (v:=.tuple (Value.bool b :: vs).toArray) (w':=w1) (R:=fun a' w'=>a'=a.put o1.dst (.tuple (Value.bool b :: vs).toArray)∧w'=w1) ?_ ⟨rfl,rfl⟩) ?_
        · simp only [execOp,e1,Sem.run_bind,hrun o1 h0,Result.andThen_ok,Sem.run_pure]
        · rintro a' w' ⟨_, rfl, rfl⟩
          rw [if_pos (by simp [Region.wanted,e6])]
          refine zlg (zd6 (by simp [e2]) (v:=.bool b) (w':=w') (R:=fun a'' w''=>a''=(a.put o1.dst (.tuple (Value.bool b :: vs).toArray)).put o2.dst (.bool b)∧w''=w') ?_ ⟨rfl,rfl⟩) ?_
          · have hev:(a.put o1.dst (.tuple (Value.bool b :: vs).toArray)).eval (.tmp t2)=.tuple (Value.bool b :: vs).toArray:=by
              have:=zue a t2 (.tuple (Value.bool b :: vs).toArray) t2 htu
              rw [if_pos rfl] at this
              rw [e3];exact this
            simp only [execOp,e2,hev,Sem.run_bind]
            simp [Instr.extract]
          · rintro a'' w'' ⟨_, rfl, rfl⟩
            rw [e3,e4]
            exact hQ _ _ hR
      · cases hn
    · cases hn
  · cases hn

theorem zwm (ann : Ann) {id : Nat} {ops : Array Oper} {draw : Bool} {x : Operand} {t u : Nat} {K : St → Prop} {D : List Nat} {a0 : Act}
    (hD:∀ t∈zCg ops.toList,t∈D) (hn:zmM ops=some (x,t,u)) (h:zwH P ann id x t u draw K σ) (S:Sim P ann.nt B w0 h0 g σ a w) (hkp:Kp D a0 a)
    (hQ:∀ g' σ' a' w',K σ'→Sim P ann.nt B w0 h0 g' σ' a' w'→Kp D a0 a'→a'.defers=a.defers→Q .normal a' w'):(Code.region id ops draw).wpIn (FR r) n P Q a w:=by
  have hreg:∀ σ',zKF P ann id K σ'→∀ g' a' w',Sim P ann.nt B w0 h0 g' σ' a' w'→Kp D a0 a'→a'.defers=a.defers→Q .normal a' w':=by
    intro σ' h g' a' w' S hk' hdf
    unfold zKF at h
    split at h
    · split at h
      · rename_i s hs
        obtain ⟨g2,S2⟩:=zbq hs S
        exact hQ g2 s a' w' h S2 hk' hdf
      · exact h.elim
    · exact hQ g' σ' a' w' h S hk' hdf
  have hDtu:t∈D∧u∈D:=by
    unfold zmM at hn
    split at hn
    · rename_i o1 o2 hl
      split at hn
      · rename_i x' t' t2 u' e1 e2 e3 e4 e5 e6
        split at hn
        · simp only [Option.some.injEq, Prod.mk.injEq] at hn
          obtain ⟨rfl,rfl,rfl⟩:=hn
          rw [hl] at hD
          simp only [zCg,e3,e4] at hD
          exact ⟨hD _ (by simp),hD _ (by simp)⟩
        · cases hn
      · cases hn
    · cases hn
  unfold zwH at h
  split at h
  · rename_i L hb hx
    simp only [Bool.and_eq_true,Bool.not_eq_true'] at hb
    obtain ⟨⟨ht,hu⟩,hdr⟩:=hb
    subst hdr
    split at h
    · rename_i q m F seen hL
      have hfm:zCr q.2.1 m F:=by
        rcases S.obj L _ hL with ⟨_,rfl,h3,_⟩ | ⟨_,es,clock,_,en,_,M,_,_,_⟩
        · exact ⟨[],rfl,List.nodup_nil,fun k hk=>by simp at hk,fun c hc=>by simp [h3 c hc]⟩
        · refine ⟨en.map (·.1), by rw [List.length_map, M.size], M.nodup, fun k hk => ?_, fun c hc => ?_⟩
          · obtain ⟨x,hx,rfl⟩:=List.mem_map.1 hk;exact (M.len x hx).1
          · rw [M.find c hc]
            constructor
            · intro h
              obtain ⟨j,v,hj⟩:=zlk h
              exact List.mem_map.2 ⟨_,List.mem_of_getElem? hj,rfl⟩
            · intro h
              obtain ⟨⟨k,v⟩,hx,rfl⟩:=List.mem_map.1 h
              obtain ⟨j,hj⟩:=List.getElem?_of_mem hx
              rw [ze0 M.nodup hj];simp
      obtain ⟨hend,hround⟩:=h hfm
      have hxv:a.eval x=.pointer (some ⟨g.bk L,0,none⟩):=(zbM S hx).1
      have hts:t < a.tmps.size:=Nat.lt_of_lt_of_le (by simpa using ht) S.size
      -- behind the step
      have fin:∀ (w1:World) (b:Bool) (vs:List Value) (seen':List (List Int)),
          (∀ o1,ops[0]? = some o1→(Instr.next (a.eval x) false o1.type).run P w=.ok (.tuple (Value.bool b :: vs).toArray) w1)→Sim P ann.nt B w0 h0 g { σ with objs:=(L,.mit q m F seen') :: σ.objs } a w1 →
          zKF P ann id K ⟨(u,.bool b) :: (t,.junk) :: σ.env,(L,.mit q m F seen') :: σ.objs,[]⟩→(Code.region id ops false).wpIn (FR r) n P Q a w:=by
        intro w1 b vs seen' hrun S1 hk
        refine zCU (R:=fun a' w'=>a'=(a.put (some t) (.tuple (Value.bool b :: vs).toArray)).put (some u) (.bool b)∧w'=w1) hn hts hrun ⟨vs,rfl⟩ ⟨rfl,rfl⟩ ?_
        rintro a' w' ⟨rfl,rfl⟩
        have S2:=S1.put (dst:=some t) (d:=.junk) (v:=.tuple (Value.bool b :: vs).toArray) ht trivial (fun M hM=>by simp [zaW,zbl,zaG] at hM) []
        have S3:=S2.put (dst:=some u) (d:=.bool b) (v:=.bool b) hu (.bool b) (zdR _) []
        exact hreg _ hk g _ _ S3 ((hkp.put (dst:=some t) (fun z hz=>by cases hz;exact hDtu.1) _ a.defers).put (dst:=some u) (fun z hz=>by cases hz;exact hDtu.2) _ a.defers) rfl
      rcases S.obj L _ hL with ⟨hit,h2,h3,h4⟩ | ⟨mb,es,clock,sb,en,hmb,M,hit,hseen,hcur⟩
      · refine fin w false [] seen (fun _ _ => by rw [hxv]; exact zp7 hit) ?_ (hend fun c hc hne => (hne (h3 c hc)).elim)
        exact S.write (o':=.mit q m F seen) hL (fun b hb=>hb) (.refl B w) (fun _ _=>rfl) (.inl ⟨hit,h2,h3,h4⟩) (fun N hN=>by simp [zbL] at hN)
      · have hmap := S.hw.fz hmb
        have hlen:es.size=en.length:=by
          have:=congrArg List.length M.ents
          simpa using this
        have hat:∀ (c:List Int),c.length=q.2.1→F c ≠ none→∃ (j:Nat) (e:MapEntry) (v:List Int),es[j]? = some e∧en[j]? = some (c,v):=by
          intro c hc hne
          rw [M.find c hc] at hne
          obtain ⟨j,v,hj⟩:=zlk hne
          have hj2:j < es.size:=by rw [hlen];exact (List.getElem?_eq_some_iff.1 hj).1
          exact ⟨j,es[j],v,Array.getElem?_eq_getElem hj2,hj⟩
        obtain ⟨o1,ho1⟩:∃ o1,ops[0]? = some o1:=by
          unfold zmM at hn
          split at hn
          · rename_i o1 o2 hl;exact ⟨o1,by rw [← Array.getElem?_toList,hl];rfl⟩
          · cases hn
        rcases run_next_at (P:=P) w o1.type (g.bk L) mb clock clock sb es clock hit hmap M.born (Nat.le_refl _) with ⟨hz,hrun⟩ | ⟨e,he,w1,hw1,hrun⟩
        · refine fin w false [] seen (fun o ho => by rw [ho1] at ho; cases ho; rw [hxv]; exact hrun) ?_ (hend fun c hc hne => ?_)
          · exact S.write (o':=.mit q m F seen) hL (fun b hb=>hb) (.refl B w) (fun _ _=>rfl) (.inr ⟨mb,es,clock,sb,en,hmb,M,hit,hseen,hcur⟩) (fun N hN=>by simp [zbL] at hN)
          · obtain ⟨j, e, v, h1, h2⟩ := hat c hc hne
            refine (hseen j e (c,v) h1 h2).1 ?_
            have hem:e∈es:=Array.mem_of_getElem? h1
            by_cases hin:e.born∈sb
            · exact hin
            · have : e ∈ leftOf es sb := Array.mem_filter.2 ⟨hem, by simpa using hin⟩
              rw [Array.eq_empty_of_size_eq_zero hz] at this
              simp at this
        · have he' : e ∈ leftOf es sb := by simpa using he
          obtain ⟨hem,hnin⟩:=Array.mem_filter.1 he'
          have hnin:e.born ∉ sb:=by simpa using hnin
          obtain ⟨j,hj⟩:=Array.getElem?_of_mem hem
          have hj2:j < en.length:=by rw [← hlen];exact (Array.getElem?_eq_some_iff.1 hj).1
          obtain ⟨⟨c,v⟩,hcv⟩:∃ x,en[j]? = some x:=⟨en[j],List.getElem?_eq_getElem hj2⟩
          have hlc:=M.len (c,v) (List.mem_of_getElem? hcv)
          have hF:F c=some v:=by rw [M.find c hlc.1];exact ze0 M.nodup hcv
          have hns:c ∉ seen:=fun h=>hnin ((hseen j e (c,v) hj hcv).2 h)
          have hk:=znZ.1 hround c hlc.1 (by rw [hF];simp) hns
          have hlt:=(Array.getElem?_eq_some_iff.1 hit).1
          have hw1h:w1.heap=w.heap:=by rcases hw1 with rfl | rfl <;> rfl
          have hoth:∀ b,b ≠ g.bk L→(ChangeMaps.setBlock w1 (g.bk L) (.mapIter (some mb) clock (sb.push e.born) clock)).heap[b]? = w.heap[b]?:=fun b hb=>by
            show (w1.heap.setIfInBounds (g.bk L) _)[b]? = _
            rw [Array.getElem?_setIfInBounds,if_neg (fun x=>hb x.symm),hw1h]
          refine fin _ true [e.key,e.val] (c :: seen) (fun o ho=>by rw [ho1] at ho;cases ho;rw [hxv];exact hrun) ?_ hk
          have hB:=(S.own L _ (g.bk L) hL rfl).1
          refine S.write (o' := .mit q m F (c :: seen)) hL (fun b hb => hb)
            ⟨⟨by rcases hw1 with rfl | rfl <;> rfl,by rcases hw1 with rfl | rfl <;> rfl,by rcases hw1 with rfl | rfl <;> rfl,by show _≤(w1.heap.setIfInBounds _ _).size;rw [hw1h];simp,fun k hk=>hoth k (by omega)⟩,by rcases hw1 with rfl | rfl;exact Nat.le_refl _;exact Nat.le_succ _⟩
            (fun b hb=>hoth b fun x=>hb (by rw [x];rfl)) (.inr ⟨mb,es,clock,sb.push e.born,en,hmb,M,?_,?_,?_⟩) (fun N hN=>by simp [zbL] at hN)
          · show (w1.heap.setIfInBounds (g.bk L) _)[g.bk L]? = _
            rw [hw1h];simp [hlt]
          · intro j' e2 x2 h1 h2
            have hb2:e2.born=e.born↔x2.1=c:=by
              have hk2:(en.map (·.1))[j']? = some x2.1:=by simp [h2]
              have hk1:(en.map (·.1))[j]? = some c:=by simp [hcv]
              have hb1:(es.toList.map (·.born))[j]? = some e.born:=by simp [hj]
              have hb2':(es.toList.map (·.born))[j']? = some e2.born:=by simp [h1]
              constructor
              · intro h
                have:j'=j:=(List.getElem?_inj (List.getElem?_eq_some_iff.1 hb2').1 M.bornN).1 (by rw [hb2',hb1,h])
                subst this
                rw [hk2] at hk1;simpa using hk1
              · intro h
                have:j'=j:=(List.getElem?_inj (List.getElem?_eq_some_iff.1 hk2).1 M.nodup).1 (by rw [hk2,hk1,h])
                subst this
                rw [h1] at hj;simp only [Option.some.injEq] at hj;rw [hj]
            rw [Array.mem_push,List.mem_cons,hseen j' e2 x2 h1 h2,hb2]
            exact Or.comm
          · intro c' r' h
            simp only [List.cons.injEq] at h
            obtain ⟨rfl,rfl⟩:=h
            exact ⟨j,e,v,hj,hcv,by simp⟩
    · exact h.elim
  · exact h.elim
end
end Go.Pm
namespace Go.Pm
open Go.RowKit (Below)

theorem zhe {P : Program} : ∀ (l : List (Nat × Nat × Nat × (Nat → List PV))) (σ τ : St), Eqv σ τ → (zen P l σ = none ∧ zen P l τ = none) ∨ ∃ σ' τ', zen P l σ = some σ' ∧ zen P l τ = some τ' ∧ Eqv σ' τ'
  | [],σ,τ,h=>.inr ⟨σ,τ,rfl,rfl,h⟩
  | (t,L,e,g) :: r,σ,τ,h=>by
    simp only [zen]
    rw [← h.env,← h.objs]
    split
    · split
      · split
        · refine zhe r _ _ ⟨fun s => ?_, fun s => ?_, h.log⟩
          · simp only [zaq,h.env]
          · simp only [zaq,h.objs]
        · exact .inl ⟨rfl,rfl⟩
      · exact .inl ⟨rfl,rfl⟩
    · exact zhe r _ _ h
    · exact .inl ⟨rfl,rfl⟩
theorem zhf {P : Program} : ∀ (l : List (Nat × Nat × Nat × Nat × (Nat → List PV))) (σ τ : St), Eqv σ τ → (zeo P l σ = none ∧ zeo P l τ = none) ∨ ∃ σ' τ', zeo P l σ = some σ' ∧ zeo P l τ = some τ' ∧ Eqv σ' τ'
  | [],σ,τ,h=>.inr ⟨σ,τ,rfl,rfl,h⟩
  | (B,k,L,e,g) :: r,σ,τ,h=>by
    simp only [zeo]
    rw [← h.objs,← h.objs]
    split
    · split
      · split
        · split
          · refine zhf r _ _ ⟨h.env, fun s => ?_, h.log⟩
            simp only [zaq,h.objs]
          · exact .inl ⟨rfl,rfl⟩
        · exact .inl ⟨rfl,rfl⟩
      · exact zhf r _ _ h
      · exact .inl ⟨rfl,rfl⟩
    · exact .inl ⟨rfl,rfl⟩
theorem zhg {P : Program} : ∀ (l : List (Nat × Nat × Nat × Nat × Nat × (Nat → Nat → List PV))) (σ τ : St), Eqv σ τ → (zep P l σ = none ∧ zep P l τ = none) ∨ ∃ σ' τ', zep P l σ = some σ' ∧ zep P l τ = some τ' ∧ Eqv σ' τ'
  | [],σ,τ,h=>.inr ⟨σ,τ,rfl,rfl,h⟩
  | (B,k,L,te,e,g) :: r,σ,τ,h=>by
    simp only [zep]
    rw [← h.objs,← h.objs]
    split
    · split
      · split
        · split
          · split
            · refine zhg r _ _ ⟨h.env, fun s => ?_, h.log⟩
              simp only [zaq,h.objs]
            · exact .inl ⟨rfl,rfl⟩
          · exact .inl ⟨rfl,rfl⟩
        · exact .inl ⟨rfl,rfl⟩
      · exact zhg r _ _ h
      · exact .inl ⟨rfl,rfl⟩
    · exact .inl ⟨rfl,rfl⟩
theorem zfk : ∀ (l : List (Nat × Nat × (Nat → List PV))) (σ τ : St), Eqv σ τ → (zdY l σ = none ∧ zdY l τ = none) ∨ ∃ σ' τ', zdY l σ = some σ' ∧ zdY l τ = some τ' ∧ Eqv σ' τ'
  | [],σ,τ,h=>.inr ⟨σ,τ,rfl,rfl,h⟩
  | (t,s,g) :: r,σ,τ,h=>by
    have ho:lk σ.objs=lk τ.objs:=funext h.objs
    simp only [zdY]
    rw [← h.env,← ho]
    split
    · split
      · split
        · refine zfk r _ _ ⟨fun s => ?_, h.objs, h.log⟩
          simp only [zaq,h.env]
        · exact zfk r _ _ h
      · split
        · refine zfk r _ _ ⟨fun s => ?_, fun s => ?_, h.log⟩
          · simp only [zaq,h.env]
          · simp only [zcH,h.objs]
        · exact .inl ⟨rfl,rfl⟩
    · exact .inl ⟨rfl,rfl⟩
theorem zll {α : Type} {f : α → α} {l l' : List (Nat × α)} (h : ∀ t, lk l t = lk l' t) : ∀ ks, zkb f l ks = zkb f l' ks
  | []=>rfl
  | t :: r=>by simp only [zkb,h,zll h r]
theorem zCV {ob ob':Nat→Option AO} (h:∀ t,ob t=ob' t):∀ ks,zvU ob ks=zvU ob' ks:=by
 intro ks
 have:ob=ob':=funext h
 rw [this]
theorem zwn {P:Program} {k:Keep} {σ τ:St} (h:Eqv σ τ):zkF P k σ=zkF P k τ:=by
 unfold zkF
 rcases zhe (P:=P) k.coT σ τ h with ⟨h1,h2⟩ | ⟨σ1,τ1,h1,h2,h3⟩
 ·rw [h1,h2]
 ·rw [h1, h2]
  simp only
  rcases zhf (P:=P) k.coB σ1 τ1 h3 with ⟨h4,h5⟩ | ⟨σ2,τ2,h4,h5,h6⟩
  ·rw [h4,h5]
  ·rw [h4, h5]
   simp only
   rcases zhg (P:=P) k.coV σ2 τ2 h6 with ⟨h7,h8⟩ | ⟨σ3,τ3,h7,h8,h9⟩
   ·rw [h7,h8]
   ·rw [h7, h8]
    simp only
    rw [zll h9.env,zll h9.objs]
theorem zxH {P:Program} {k:Keep} {σ τ:St} (h:Eqv σ τ):canon P k σ=canon P k τ:=by
 unfold canon
 have h1:Eqv (zKE k.coF σ) (zKE k.coF τ):=⟨h.env,fun t=>by simp only [zKE,zcH,h.objs,zCV h.objs],h.log⟩
 rcases zfk k.coZ _ _ h1 with ⟨h2,h3⟩ | ⟨σ1,τ1,h2,h3,h4⟩
 ·rw [h2,h3]
 ·rw [h2,h3];exact zwn h4

section
variable {P:Program} {Γ:Ctrs} {nt B:Nat} {w0:World} {h0:Fz} {r:Option Nat} {n:Nat}

theorem zdK {b : Frame} {a : Act} {k : List Item} {cs : List Frame} {w : World} {c : Code} :
  step P (lone (b.atR a (.code (.scope c) :: k)) cs w)=.next (lone (b.atR a (.code c :: .inScope c :: k)) cs w) :=
 step_lone_go (by simp [stepG,stepG.exec,Frame.atR])
theorem zn0 {b : Frame} {a : Act} {k : List Item} {cs : List Frame} {w : World} {c : Code} :
  step P (lone (b.atR a (.inScope c :: k)) cs w)=.next (lone (b.atR a k) cs w) :=
 step_lone_go (by simp [stepG,stepG.exec,Frame.atR])

theorem znf {c:Code} {Q:Exit→Act→World→Prop} {a:Act} {w:World} {F:Fence} (h:c.wpIn F n P (Exit.noGoto Q) a w):(Code.scope c).wpIn F n P Q a w:=by
 intro b k cs hro hb hr
 obtain ⟨e,a₁,w₁,hq,harr⟩:=h b (.inScope c :: k) cs hro hb hr
 have h0:(lone (b.atR a (.code (.scope c) :: k)) cs w).fenced P F:=fenced_calm hb hr rfl
 cases e with
 | normal=>exact ⟨.normal,a₁,w₁,hq,.head h0 zdK (StepsIn.trans harr (.one (fenced_calm hb hr rfl) zn0))⟩
 | exit id =>
  refine ⟨.exit id,a₁,w₁,hq,fun k' hk=>.head h0 zdK (harr.1 k' (by simp [exitTo,hk])),fun hr' hk=>?_⟩
  obtain ⟨k₁,h1,h2⟩:=harr.2 hr' (by simp [exitTo,hk])
  exact ⟨k₁,h1,.head h0 zdK h2⟩
 | goto l=>exact hq.elim
 | ret=>exact ⟨_,a₁,w₁,hq,.of_steps (.one h0 zdK) harr⟩
 | panic ch=>exact ⟨_,a₁,w₁,hq,.of_steps (.one h0 zdK) harr⟩
 | outgrown=>exact ⟨_,a₁,w₁,hq,.of_steps (b:=b) (k:=k) (cs:=cs) (e:=.outgrown) (.one h0 zdK) harr⟩

def zrS (F:Fence) (n:Nat) (P:Program) (c:Code) (Q:Exit→Act→World→Prop) (a:Act) (w:World):Prop :=
 ∀ (b:Frame) (k:List Item) (cs:List Frame),b.roundOf=F.round→F.fn b.fn→F.room (cs.length+1+n) →
  ∃ e a' w',Q e a' w'∧ArrivesIn (Machine.fenced P F) P (lone (b.atR a (.code c :: .inLoop c :: k)) cs w) b k cs e a' w'

theorem zfl {F:Fence} {c:Code} {Q:Exit→Act→World→Prop} {a:Act} {w:World} (h:zrS F n P c Q a w):(Code.loop c).wpIn F n P Q a w:=by
 intro b k cs hro hb hr
 obtain ⟨e,a',w',hq,harr⟩:=h b k cs hro hb hr
 exact ⟨e,a',w',hq,.of_steps (.one (fenced_calm hb hr rfl) stepR_loop) harr⟩

theorem zfm {F:Fence} {c:Code} {Q:Exit→Act→World→Prop} {a:Act} {w:World} (h:c.wpIn F n P (Exit.then (zrS F n P c Q) Q) a w):zrS F n P c Q a w:=by
 intro b k cs hro hb hr
 obtain ⟨e,a₁,w₁,hq,harr⟩:=h b (.inLoop c :: k) cs hro hb hr
 cases e with
 | normal =>
  obtain ⟨e₂,a₂,w₂,hq₂,harr₂⟩:=hq b k cs hro hb hr
  exact ⟨e₂,a₂,w₂,hq₂,.of_steps (StepsIn.trans harr (.one (fenced_calm hb hr rfl) stepR_inLoop)) harr₂⟩
 | exit id=>exact ⟨_,a₁,w₁,hq,.pass (x:=.inLoop c) rfl (fun _ _=>.inl (by simp)) harr⟩
 | goto l=>exact ⟨_,a₁,w₁,hq,.pass (x:=.inLoop c) rfl (fun _ _=>.inl (by simp)) harr⟩
 | ret=>exact ⟨_,a₁,w₁,hq,.pass (x:=.inLoop c) rfl (fun _ _=>.inl (by simp)) harr⟩
 | panic ch=>exact ⟨_,a₁,w₁,hq,.pass (x:=.inLoop c) rfl (fun _ _=>.inl (by simp)) harr⟩
 | outgrown=>exact ⟨_,a₁,w₁,hq,.pass (x:=.inLoop c) rfl (fun _ _=>.inl (by simp)) harr⟩

def PostR (P:Program) (nt B:Nat) (w0:World) (h0:Fz) (D:List Nat) (a0:Act) (K:Exit→St→Prop):Exit→Act→World→Prop :=
 fun e a' w'=>∃ g' σ',K e σ'∧Sim P nt B w0 h0 g' σ' a' w'∧Kp D a0 a'

def Snd (P:Program) (Γ:Ctrs) (ann:Ann) (B:Nat) (w0:World) (c:Code):Prop :=
 ∀ (r:Option Nat) (n:Nat) (h0:Fz) (D:List Nat) (a0:Act) (K:Exit→St→Prop) (σ:St) (g:Gh) (a:Act) (w:World),(∀ t∈zkk c,t∈D)→Rnd r h0→vc P Γ ann c K σ →
  Sim P ann.nt B w0 h0 g σ a w→Kp D a0 a→c.wpIn (FR r) n P (PostR P ann.nt B w0 h0 D a0 K) a w

theorem zuB : ∀ {l : List Oper} {j : Nat} {o : Oper} {t : Nat}, l[j]? = some o → o.dst = some t → t ∈ zCg l
  | [],j,o,t,h,_=>by simp at h
  | x :: l,j,o,t,h,hd=>by
    cases j with
    | zero =>
      simp only [List.getElem?_cons_zero,Option.some.injEq] at h;subst h
      simp only [zCg,hd];exact List.mem_cons_self
    | succ j =>
      have:=zuB (l:=l) (j:=j) (by simpa using h) hd
      simp only [zCg];split
      · exact List.mem_cons_of_mem _ this
      · exact this

theorem zp8 (hok : OkAll P Γ) (ann : Ann) {id : Nat} {ops : Array Oper} {draw : Bool} {K : St → Prop} {Q : Exit → Act → World → Prop} {D : List Nat} {a0 : Act} {σ : St} {g : Gh} {a : Act} {w : World}
    (hD:∀ t∈zCg ops.toList,t∈D) (h:zCq P Γ ann id ops draw K σ) (S:Sim P ann.nt B w0 h0 g σ a w) (hkp:Kp D a0 a)
    (hQ:∀ g' σ' a' w',K σ'→Sim P ann.nt B w0 h0 g' σ' a' w'→Kp D a0 a'→a'.defers=a.defers→Q .normal a' w'):(Code.region id ops draw).wpIn (FR r) n P Q a w:=by
  have hD':∀ (j:Nat) (o:Oper),ops[j]? = some o→∀ t,o.dst=some t→t∈D:=fun j o ho t ht=>hD t (zuB (by simpa using ho) ht)
  have hreg:∀ σ',(match lk ann.reg id with | some k=>(match canon P k σ' with | some s=>K s | none=>False) | none=>K σ')→∀ g' a' w',Sim P ann.nt B w0 h0 g' σ' a' w'→Kp D a0 a'→a'.defers=a.defers→Q .normal a' w':=by
    intro σ' h g' a' w' S hk' hdf
    split at h
    · split at h
      · rename_i s hs
        obtain ⟨g2,S2⟩:=zbq hs S
        exact hQ g2 s a' w' h S2 hk' hdf
      · exact h.elim
    · exact hQ g' σ' a' w' h S hk' hdf
  simp only [zCq] at h
  cases draw with
  | false =>
    refine wpIn_region ?_
    exact zrR hok hD' h (S.log _) hkp hreg
  | true =>
    simp only at h
    split at h
    · rename_i hc
      simp only [Bool.and_eq_true] at hc
      refine zwl (K:=fun σ'=>match lk ann.reg id with
        | some k=>match canon P k σ' with
          | some s=>K s
          | none=>False
        | none=>False) hok hD' hkp hc.1.1 hc.1.2 hc.2 (fun σ τ he hσ=>?_) h (S.log []) ?_
      · split at hσ
        · rename_i k hk
          rw [zxH he] at hσ
          exact hσ
        · exact hσ.elim
      · intro σ' h g' a' w' S hk' hdf
        split at h
        · split at h
          · rename_i s hs
            obtain ⟨g2,S2⟩:=zbq hs S
            exact hQ g2 s a' w' h S2 hk' hdf
          · exact h.elim
        · exact h.elim
    · exact h.elim

def zxI (P : Program) (Γ : Ctrs) (ann : Ann) (x y : Code) (ps : List Nat) (k : Keep) (K : Exit → St → Prop) : List (List PA) → St → Prop
  | [],s=>K .normal s
  | yv :: rest,s=>match zib ps yv s.env with
    | some env=>vc P Γ ann x (zFz (vc P Γ ann y (zmO P k (zxI P Γ ann x y ps k K rest) K)) fun _ _=>False) ⟨env,s.objs,[]⟩
    | none=>False

theorem zrT (hok:OkAll P Γ) {ann:Ann} {f:Operand} {ps:Array Tmp} {x y:Code} (ihx:Snd P Γ ann B w0 x) (ihy:Snd P Γ ann B w0 y):Snd P Γ ann B w0 (.rangeFunc f ps x y):=by
 intro r n h0 D a0 K σ g a w hD hR h S hkp
 simp only [vc] at h
 split at h
 ·rename_i k hk
  split at h
  ·rename_i s hs hdis
   simp only [Bool.and_eq_true] at hdis
   obtain ⟨hdis,hpnt⟩:=hdis
   split at h
   ·rename_i gf caps hf
    split at h
    ·rename_i safe ys hit
     obtain ⟨hsafe,h⟩:=h
     have hgood:zxI P Γ ann x y ps.toList k K ys s:=h (zxI P Γ ann x y ps.toList k K) (fun _ h=>h) (fun _ _ _ h=>h)
     obtain ⟨g1,S1⟩:=zbq hs S
     have hout:∀ t∈k.tmps,t ∉ ps.toList∧t ∉ zkk x ++ zkk y:=by
      intro t ht
      have h1:=List.all_eq_true.1 hdis t ht
      simp only [Bool.not_eq_true'] at h1
      have h2:t ∉ ps.toList ++ (zkk x ++ zkk y):=by simpa using h1
      exact ⟨fun h=>h2 (List.mem_append.2 (.inl h)),fun h=>h2 (List.mem_append.2 (.inr h))⟩
     refine wpIn_rangeFunc fun fn _=>?_
     obtain ⟨l,mark,w1,d,h1,hrun,hlw,hl1,hle1,hn1,S2⟩:=znY S1 hR fn ps x y
     have hfn:=zcx S1 hf
     generalize hfv:a.eval f=fvv at hfn
     cases hfn with
     | fn _ _ _ fv cv l1 l2 hf1 hc1 =>
      have e1:fv=[]:=List.eq_nil_of_length_eq_zero l1.symm
      subst e1
      let a1:Act:={ a with defers:=mark ++ a.defers }
      let rec_:LoopState→Option Code→Loop:=fun st pe=>{ state:=st,pending:=pe,fn,tmps:=a.tmps,params:=ps, assign:=x,body:=y,defers:=d }
      let J:List (List PA)→Fz→World→Prop:=fun rest h W=>∃ s bk sv iv,zxI P Γ ann x y ps.toList k K rest s∧(∀ t d,lk s.env t=some d→t∈k.tmps)∧Sim P ann.nt B w0 h0 ⟨h,bk,sv,iv⟩ s a1 W∧h l=none∧B≤l ∧
       (∀ L o,lk s.objs L=some o→¬ obk ⟨h,bk,sv,iv⟩ L o l)∧W.heap[l]? = some (.loop (rec_ .ready none))
      let Jx:List (List PA)→Fz→World→Prop:=fun _ h W=>∃ s bk sv iv c,((c=.ret∧K .ret s)∨∃ id,c=.exit id∧K (.exit id) s)∧Sim P ann.nt B w0 h0 ⟨h,bk,sv,iv⟩ s a1 W∧h l=none∧B≤l ∧
       (∀ L o,lk s.objs L=some o→¬ obk ⟨h,bk,sv,iv⟩ L o l)∧W.heap[l]? = some (.loop (rec_ .done (some c)))
      have keepl:∀ {h h':Fz} {W W':World},W.heap[l]? ≠ none→h l=none→(∀ b o,h' b=some o→h b=some o∨W.heap.size≤b)→Bel h W.heap.size W W'→h' l=none∧W'.heap[l]? = W.heap[l]?:=by
       intro h h' W W' hW hl hn hb
       have hlt:l < W.heap.size:=by
        cases hx:W.heap[l]? with
        | none=>exact absurd hx hW
        | some o=>exact (Array.getElem?_eq_some_iff.1 hx).1
       refine ⟨?_,hb.block l hlt fun F hF=>by rw [hl] at hF;cases hF⟩
       cases hx:h' l with
       | none=>rfl
       | some o =>
        rcases hn l o hx with h3 | h3
        ·rw [hl] at h3;cases h3
        ·omega
      have hJ:JSt J:=by
       rintro rest h W h' W' ⟨s,bk,sv,iv,hg,he,SJ,hl,hB,hno,hW⟩ hle hw' hn hb
       obtain ⟨k1,k2⟩:=keepl (by rw [hW];simp) hl hn hb
       exact ⟨s,bk,sv,iv,hg,he,SJ.world hle hw' hn hb,k1,hB,hno,by rw [k2];exact hW⟩
      have hJx:JSt Jx:=by
       rintro rest h W h' W' ⟨s,bk,sv,iv,c,hc,SJ,hl,hB,hno,hW⟩ hle hw' hn hb
       obtain ⟨k1,k2⟩:=keepl (by rw [hW];simp) hl hn hb
       exact ⟨s,bk,sv,iv,c,hc,SJ.world hle hw' hn hb,k1,hB,hno,by rw [k2];exact hW⟩
      have hBl:B≤l:=Nat.le_trans S1.bs hlw
      have h0l:∀ {h:Fz} {bk sv iv} {s:St} {W:World},Sim P ann.nt B w0 h0 ⟨h,bk,sv,iv⟩ s a1 W→h l=none→h0 l=none:=fun SJ hl=>by
       cases hx:h0 l with
       | none=>rfl
       | some o=>have:=SJ.le0 l o hx;simp only [hl] at this;cases this
      have hno1:∀ L o,lk s.objs L=some o→¬ obk (g1.re h1) L o l:=fun L o ho hk=>by
       have:obk g1 L o l:=hk
       have:=zcw (S1.obj L o ho) this
       omega
      have hstart:=hok.it gf (caps.map .one) safe ys hit hsafe l J Jx w1 h1 cv hJ hJx ?_ ⟨s,g1.bk,g1.sv,g1.iv,hgood,zlj hs,S2,hn1,hBl,hno1,hl1⟩ (zxg ((zv9 l2 hc1).mono fun _ _ h=>h.mono hle1)) S2.hw
      ·obtain ⟨hcall, hseq⟩ := hstart
       refine ⟨l,mark,w1,{ target:=.fn (.func gf) cv.toArray,args:=#[.func (.yield l) #[] #[]] },w1,gf,(.func (.yield l) #[] #[] :: cv).toArray,w1,?_,?_,fun _ _=>trivial,?_,fun h=>by simp [FR] at h,(zug hseq).mono ?_⟩
       ·exact hrun
       ·simp only [resolve, hfv]
        simp [go_sem]
       ·simp only [invoke]
        rw [show (#[.func (.yield l) #[] #[]] ++ cv.toArray)=(.func (.yield l) #[] #[] :: cv).toArray by simp]
        exact zcV hcall
       ·rintro e W3 ⟨v, h3, rfl, hle3, hw3, (⟨s3, bk, sv, iv, hg3, he3, S3, hl3, hB3, hno3, hW3⟩ | ⟨_, s3, bk, sv, iv, c, hc, S3, hl3, hB3, hno3, hW3⟩)⟩
        ·have S4 := S3.putObj (.loop { rec_ .ready none with state := .exhausted }) hl3 hB3 hno3
         refine ⟨none,_,run_endLoop hW3 (by simp [rec_]),_,s3,hg3,S4,hkp⟩
        ·have S4 := S3.putObj (.loop { rec_ .done (some c) with state := .exhausted }) hl3 hB3 hno3
         refine ⟨some c,_,run_endLoop hW3 (by simp [rec_]),?_⟩
         rcases hc with ⟨rfl,hc⟩ | ⟨id,rfl,hc⟩
         ·exact wpIn_ret ⟨_,s3,hc,S4,hkp⟩
         ·exact wpIn_exit ⟨_,s3,hc,S4,hkp⟩
      ·-- one round
       rintro yv rest h W us ⟨s,bk,sv,iv,hg,hek,SJ,hl,_,hno,hW⟩ hus hHw n'
       simp only [zxI] at hg
       split at hg
       ·rename_i env henv
        have hlt:l < W.heap.size:=(Array.getElem?_eq_some_iff.1 hW).1
        have h0l':=h0l SJ hl
        have SJ2:=SJ.up.hide hl hW hBl hno
        have hle2:Fle h (h.add l (.loop (rec_ .ready none))):=Fz.le_add hl
        have hpsz:∀ p∈ps.toList,p < a.tmps.size:=fun p hp=>by
         have:=List.all_eq_true.1 hpnt p hp
         exact Nat.lt_of_lt_of_le (by simpa [Nat.blt_eq] using this) SJ.size
        obtain ⟨hul,henvR⟩:=zxG (g:=(⟨h.add l (.loop (rec_ .ready none)),bk,sv,iv⟩:Gh)) 0 ps.toList yv us s.env env a.tmps henv (hus.mono fun p q hpq=>by
         cases p with
         | one v=>exact Rep.mono hle2 hpq
         | agg cs=>obtain ⟨vs,h5,h6⟩:=hpq;exact ⟨vs,h5,h6.mono fun _ _=>Rep.mono hle2⟩) hpsz (fun t d ht=>SJ2.env t d ht)
        have hzip:(ps.zip us.toArray).foldl (fun tmps (t,a)=>tmps.setIfInBounds t a) a.tmps=(ps.toList.zip us).foldl (fun t (p,v)=>t.setIfInBounds p v) a.tmps:=by
         rw [← Array.foldl_toList,Array.toList_zip]
        let ar:Act:={ tmps:=(ps.toList.zip us).foldl (fun t (p,v)=>t.setIfInBounds p v) a.tmps,defers:=[] }
        have Sr:Sim P ann.nt B w0 (h.add l (.loop (rec_ .ready none))) ⟨h.add l (.loop (rec_ .ready none)),bk,sv,iv⟩ ⟨env,s.objs,[]⟩ ar W:=by
         have Sa:=(SJ2.envs (env:=[]) (fun t d ht=>by simp [lk] at ht) (fun t d ht=>by simp [lk] at ht) []).act (a':=ar) (Marks.nil _ _) (by rw [show ar.tmps.size=a.tmps.size from fold_size _ _];exact SJ.size) (fun t d ht=>by simp [lk] at ht)
         exact Sa.envs henvR (fun t d ht L hL=>by
          rcases zp6 _ _ _ _ henv t d ht with h5 | h5
          ·exact SJ.clE t d h5 L hL
          ·rw [h5] at hL;simp at hL) []
        have hrd:∀ st pe,Rnd (some l) (h.add l (.loop (rec_ st pe))):=fun st pe l' e=>by cases e;exact ⟨_,Fz.add_same⟩
        refine ⟨_,_,_,_,by rw [run_yield (P:=P) (args:=us.toArray) hW (by simp [rec_,hul]),hzip],roundIn_of_wpIn (F:=Fence.wide) trivial ?_⟩
        show x.wpIn (FR (some l)) n' P _ ar W
        refine wpIn_mono (ihx (some l) n' _ (zkk x ++ zkk y) ar _ _ _ ar W (fun t ht=>List.mem_append.2 (.inl ht)) (hrd _ _) hg Sr (Kp.refl _ _)) ?_
        rintro e a' w' ⟨g2,σ2,hK2,S2,hkp2⟩
        cases e with
        | normal =>
         simp only [zFz] at hK2
         obtain ⟨_,hno2,hw2,S3⟩:=S2.unhide hBl hl rfl (fun ds=>by simp) (fun _ _=>by simp)
         refine ⟨_,run_beginRound hw2 rfl,?_⟩
         have S4:=S3.putObj (.loop { rec_ .ready none with state:=.busy }) Fz.del_same hBl hno2
         have hw4:(w'.putObj l (.loop { rec_ .ready none with state:=.busy })).heap[l]? = some (.loop (rec_ .busy none)):=World.putObj_heap_same (Array.getElem?_eq_some_iff.1 hw2).1
         have S5:=S4.hide (o:=.loop (rec_ .busy none)) Fz.del_same hw4 hBl hno2
         show y.wpIn (FR (some l)) n' P _ a' _
         refine wpIn_mono (ihy (some l) n' _ (zkk x ++ zkk y) ar _ σ2 _ a' _ (fun t ht=>List.mem_append.2 (.inr ht)) (hrd _ _) hK2 S5 hkp2) ?_
         rintro e a5 w5 ⟨g6,σ6,hK6,S6,hkp6⟩
         have back:∀ s7,canon P k σ6=some s7→∃ (w5l:w5.heap[l]? = some (.loop (rec_ .busy none))) (h':Fz) (bk sv:_) (iv:Nat→Nat→Value),Fle h h'∧h' l=none ∧
           ∀ o',Sim P ann.nt B w0 h0 ⟨h',bk,sv,iv⟩ s7 a1 (w5.putObj l o')∧(∀ L o,lk s7.objs L=some o→¬ obk ⟨h',bk,sv,iv⟩ L o l):=by
          intro s7 hs7
          obtain ⟨g7,S7⟩:=zbq hs7 S6
          obtain ⟨_,hno8,hw8,S8⟩:=S7.unhide hBl hl rfl (fun ds=>by simp) (fun _ _=>by simp)
          have hle8:Fle h (g7.h.del l):=S8.le0
          refine ⟨hw8,g7.h.del l,g7.bk,g7.sv,g7.iv,hle8,Fz.del_same,fun o'=>⟨?_,hno8⟩⟩
          have S9:=(S8.putObj o' Fz.del_same hBl hno8).down (h0:=h0) SJ.le0 SJ.hn
          refine S9.act (SJ.dfr.mono hle8) SJ.size fun t d ht=>?_
          obtain ⟨h10,h11⟩:=hout t (zlj hs7 t d ht)
          have h12:=hkp6.1 t h11
          have h13:ar.tmps.getD t undef=a.tmps.getD t undef:=zne _ _ _ fun q hq e=>h10 (e ▸ (List.of_mem_zip hq).1)
          have:=S9.env t d ht
          rw [h12,h13] at this
          exact this
         cases e with
         | normal =>
          simp only [zmO] at hK6
          split at hK6
          ·rename_i s7 hs7
           obtain ⟨w5l,h',bk',sv',iv',hle',hl',hS⟩:=back s7 hs7
           have hlt5:=(Array.getElem?_eq_some_iff.1 w5l).1
           refine ⟨_,_,run_endRound none w5l,h',hle',(hS _).1.hw,.inl ⟨rfl,s7,bk',sv',iv',hK6,zlj hs7,(hS _).1,hl',hBl,(hS (.loop (rec_ .ready none))).2,?_⟩⟩
           exact World.putObj_heap_same hlt5
          ·exact hK6.elim
         | ret =>
          simp only [zmO] at hK6
          split at hK6
          ·rename_i s7 hs7
           obtain ⟨w5l,h',bk',sv',iv',hle',hl',hS⟩:=back s7 hs7
           have hlt5:=(Array.getElem?_eq_some_iff.1 w5l).1
           refine ⟨_,_,run_endRound (some .ret) w5l,h',hle',(hS _).1.hw,.inr ⟨rfl,s7,bk',sv',iv',.ret,.inl ⟨rfl,hK6⟩,(hS _).1,hl',hBl,(hS (.loop (rec_ .ready none))).2,?_⟩⟩
           exact World.putObj_heap_same hlt5
          ·exact hK6.elim
         | exit id =>
          simp only [zmO] at hK6
          split at hK6
          ·rename_i s7 hs7
           obtain ⟨w5l,h',bk',sv',iv',hle',hl',hS⟩:=back s7 hs7
           have hlt5:=(Array.getElem?_eq_some_iff.1 w5l).1
           refine ⟨_,_,run_endRound (some (.exit id)) w5l,h',hle',(hS _).1.hw,.inr ⟨rfl,s7,bk',sv',iv',.exit id,.inr ⟨id,rfl,hK6⟩,(hS _).1,hl',hBl,(hS (.loop (rec_ .ready none))).2,?_⟩⟩
           exact World.putObj_heap_same hlt5
          ·exact hK6.elim
         | goto q=>exact hK6.elim
         | panic ch=>exact hK6.elim
         | outgrown=>exact hK6.elim
        | exit id=>exact hK2.elim
        | goto q=>exact hK2.elim
        | ret=>exact hK2.elim
        | panic ch=>exact hK2.elim
        | outgrown=>exact hK2.elim
       ·exact hg.elim
    ·exact h.elim
   ·exact h.elim
  ·exact h.elim
 ·exact h.elim

theorem zEt (hok:OkAll P Γ) (ann:Ann):∀ (c:Code),Snd P Γ ann B w0 c:=by
 intro c
 induction c with
 | skip=>intro r n h0 D a0 K σ g a w _ _ h S hkp;exact wpIn_skip ⟨g,σ,h,S,hkp⟩
 | region id ops draw =>
  intro r n h0 D a0 K σ g a w hD _ h S hkp
  simp only [vc] at h
  split at h
  ·rename_i x t u hn
   exact zwm ann hD hn h S hkp fun g' σ' a' w' hK S' hk' _=>⟨g',σ',hK,S',hk'⟩
  ·exact zp8 hok ann hD h S hkp fun g' σ' a' w' hK S' hk' _=>⟨g',σ',hK,S',hk'⟩
 | seq x y ihx ihy =>
  intro r n h0 D a0 K σ g a w hD hR h S hkp
  refine wpIn_seq (wpIn_mono (ihx r n h0 D a0 _ σ g a w (fun t ht=>hD t (List.mem_append.2 (.inl ht))) hR h S hkp) ?_)
  have hDy:∀ t∈zkk y,t∈D:=fun t ht=>hD t (List.mem_append.2 (.inr ht))
  rintro e a' w' ⟨g',σ',hK,S',hk'⟩
  cases e with
  | normal =>
   simp only [zFz,zOm] at hK
   split at hK
   ·split at hK
    ·rename_i s hs
     obtain ⟨g2,S2⟩:=zbq hs S'
     exact ihy r n h0 D a0 K s g2 a' w' hDy hR hK S2 hk'
    ·exact hK.elim
   ·exact ihy r n h0 D a0 K σ' g' a' w' hDy hR hK S' hk'
  | exit id=>exact ⟨g',σ',hK,S',hk'⟩
  | goto l=>exact ⟨g',σ',hK,S',hk'⟩
  | ret=>exact ⟨g',σ',hK,S',hk'⟩
  | panic ch=>exact ⟨g',σ',hK,S',hk'⟩
  | outgrown=>exact ⟨g',σ',hK,S',hk'⟩
 | cond c x y ihx ihy =>
  intro r n h0 D a0 K σ g a w hD hR h S hkp
  simp only [vc] at h
  split at h
  ·rename_i t ht
   have hv:=zgF S ht
   have hS:∀ b,t=b→Sim P ann.nt B w0 h0 g (zvV σ c b) a w:=by
    intro b hb
    cases c with
    | tmp q =>
     refine S.env' (t:=q) (d:=.bool b) ?_ (zdR _)
     have:a.tmps.getD q undef=.bool t:=hv
     rw [this,hb];exact .bool b
    | _=>exact S
   have h2:=zh8.1 h
   refine wpIn_cond hv ?_
   cases t with
   | true=>exact ihx r n h0 D a0 K _ g a w (fun t ht=>hD t (List.mem_append.2 (.inl ht))) hR (h2.1 rfl) (hS true rfl) hkp
   | false=>exact ihy r n h0 D a0 K _ g a w (fun t ht=>hD t (List.mem_append.2 (.inr ht))) hR (h2.2 rfl) (hS false rfl) hkp
  ·exact h.elim
 | block id b ih =>
  intro r n h0 D a0 K σ g a w hD hR h S hkp
  refine wpIn_block (wpIn_mono (ih r n h0 D a0 _ σ g a w hD hR h S hkp) ?_)
  rintro e a' w' ⟨g',σ',hK,S',hk'⟩
  cases e with
  | exit j =>
   simp only [zaA] at hK
   simp only [Exit.inBlock]
   split at hK
   ·rename_i hj;rw [if_pos (Nat.eq_of_beq_eq_true hj)];exact ⟨g',σ',hK,S',hk'⟩
   ·rename_i hj;rw [if_neg (Nat.ne_of_beq_eq_false hj)];exact ⟨g',σ',hK,S',hk'⟩
  | normal=>exact ⟨g',σ',hK,S',hk'⟩
  | goto l=>exact ⟨g',σ',hK,S',hk'⟩
  | ret=>exact ⟨g',σ',hK,S',hk'⟩
  | panic ch=>exact ⟨g',σ',hK,S',hk'⟩
  | outgrown=>exact ⟨g',σ',hK,S',hk'⟩
 | loop b ih =>
  intro r n h0 D a0 K σ g a w hD hR h S hkp
  simp only [vc] at h
  split at h
  ·rename_i k hk
   split at h
   ·rename_i s hs
    obtain ⟨g1,S1⟩:=zbq hs S
    refine zfl ?_
    have key:=h (fun s=>∀ g a w,Sim P ann.nt B w0 h0 g s a w→Kp D a0 a→zrS (FR r) n P b (PostR P ann.nt B w0 h0 D a0 K) a w) ?_
    ·exact key g1 a w S1 hkp
    ·intro s hs g a w S hkp
     refine zfm (wpIn_mono (ih r n h0 D a0 _ s g a w hD hR hs S hkp) ?_)
     rintro e a' w' ⟨g',σ',hK,S',hk'⟩
     cases e with
     | normal =>
      simp only [zb8,hk] at hK
      split at hK
      ·rename_i s2 hs2
       obtain ⟨g2,S2⟩:=zbq hs2 S'
       exact hK g2 a' w' S2 hk'
      ·exact hK.elim
     | exit id=>exact ⟨g',σ',hK,S',hk'⟩
     | goto l=>exact ⟨g',σ',hK,S',hk'⟩
     | ret=>exact ⟨g',σ',hK,S',hk'⟩
     | panic ch=>exact ⟨g',σ',hK,S',hk'⟩
     | outgrown=>exact ⟨g',σ',hK,S',hk'⟩
   ·exact h.elim
  ·split at h
   ·rename_i m k hk
    have key:∀ (m:Nat) (σ:St) (g:Gh) (a:Act) (w:World),zNY P k (vc P Γ ann b) m K σ→Sim P ann.nt B w0 h0 g σ a w→Kp D a0 a→zrS (FR r) n P b (PostR P ann.nt B w0 h0 D a0 K) a w:=by
     intro m
     induction m with
     | zero=>intro σ g a w h;exact h.elim
     | succ m ihm =>
      intro σ g a w h S hkp
      simp only [zNY] at h
      split at h
      ·rename_i s hs
       obtain ⟨g1,S1⟩:=zbq hs S
       refine zfm (wpIn_mono (ih r n h0 D a0 _ s g1 a w hD hR h S1 hkp) ?_)
       rintro e a' w' ⟨g',σ',hK,S',hk'⟩
       cases e with
       | normal=>exact ihm σ' g' a' w' hK S' hk'
       | exit id=>exact ⟨g',σ',hK,S',hk'⟩
       | goto l=>exact ⟨g',σ',hK,S',hk'⟩
       | ret=>exact ⟨g',σ',hK,S',hk'⟩
       | panic ch=>exact ⟨g',σ',hK,S',hk'⟩
       | outgrown=>exact ⟨g',σ',hK,S',hk'⟩
      ·exact h.elim
    exact zfl (key m σ g a w h S hkp)
   ·exact h.elim
 | exit id=>intro r n h0 D a0 K σ g a w _ _ h S hkp;exact wpIn_exit ⟨g,σ,h,S,hkp⟩
 | scope b ih =>
  intro r n h0 D a0 K σ g a w hD hR h S hkp
  refine znf (wpIn_mono (ih r n h0 D a0 _ σ g a w hD hR h S hkp) ?_)
  rintro e a' w' ⟨g',σ',hK,S',hk'⟩
  cases e with
  | goto l=>exact hK
  | normal=>exact ⟨g',σ',hK,S',hk'⟩
  | exit l=>exact ⟨g',σ',hK,S',hk'⟩
  | ret=>exact ⟨g',σ',hK,S',hk'⟩
  | panic ch=>exact ⟨g',σ',hK,S',hk'⟩
  | outgrown=>exact ⟨g',σ',hK,S',hk'⟩
 | label l=>intro r n h0 D a0 K σ g a w _ _ h S hkp;exact wpIn_label ⟨g,σ,h,S,hkp⟩
 | ret=>intro r n h0 D a0 K σ g a w _ _ h S hkp;exact wpIn_ret ⟨g,σ,h,S,hkp⟩
 | rangeFunc f ps x y ihx ihy=>exact zrT hok ihx ihy
 | goto l=>intro r n h0 D a0 K σ g a w _ _ h S;exact h.elim
 | refuse s=>intro r n h0 D a0 K σ g a w _ _ h S;exact h.elim
end
end Go.Pm
namespace Go.Pm
open Go.RowKit (Below)

section
variable {P:Program} {Γ:Ctrs}

theorem zlm : ∀ (args : List PA) (i t : Nat) (d : DV), lk (zic i args) t = some d → ∃ x, args[t - i]? = some x ∧ i ≤ t ∧ d = .one (paD x)
  | [],i,t,d,h=>by simp [zic,lk] at h
  | x :: r,i,t,d,h=>by
    simp only [zic] at h
    rw [zaq] at h
    split at h
    · rename_i e
      simp only [Option.some.injEq] at h
      subst e
      exact ⟨x,by simp,Nat.le_refl _,h.symm⟩
    · rename_i e
      obtain ⟨y,h1,h2,h3⟩:=zlm r (i+1) t d h
      refine ⟨y,?_,by omega,h3⟩
      rw [show t - i=(t - (i+1))+1 by omega,List.getElem?_cons_succ];exact h1

def resV (tmps : Array Value) : ResultVar → Sem Value
  | .tmp t=>pure (tmps.getD t undef)
  | .cell b t=>do loadVar t (← asAddr (tmps.getD b undef))

theorem zwo {w:World} (x:Addr):(asAddr (.pointer (some x))).run P w=.ok x w:=rfl

theorem zln {nt B:Nat} {w0:World} {h0:Fz} {g:Gh} {σ:St} {a:Act} {w:World} (S:Sim P nt B w0 h0 g σ a w):∀ (rs:List ResultVar) (l:List PA),zpy P σ rs=some l →
  ∃ (u:Upd) (vs:List Value),zdC (lk σ.objs) u ∧
   (rs.mapM (resV a.tmps)).run P w=.ok vs w ∧
   ∀ (u':Upd) (h':Fz),(∀ y∈u,y∈u')→Frozen g (lk σ.objs) u' h'→RL (paR h') l vs
 | [],l,h=>by
  simp [zpy] at h;subst h
  exact ⟨[],[],zdC.nil _,rfl,fun _ _ _ _=>trivial⟩
 | .tmp t :: r,l,h=>by
  simp only [zpy] at h
  split at h
  ·rename_i d hd
   split at h
   ·rename_i x u1 l2 h1 h2
    simp only [Option.some.injEq] at h;subst h
    obtain ⟨u2,vs,hu2,hrun,hr⟩:=zln S r l2 h2
    refine ⟨u1 ++ u2,a.tmps.getD t undef :: vs,(znD h1).append hu2,?_,fun u' h' hu F=>⟨F.repD h1 (fun y hy=>hu y (List.mem_append.2 (.inl hy))) (S.env t d hd),hr u' h' (fun y hy=>hu y (List.mem_append.2 (.inr hy))) F⟩⟩
    rw [List.mapM_cons]
    simp only [resV,Sem.run_bind,Sem.run_pure,Result.andThen_ok]
    rw [hrun];rfl
   ·cases h
  ·cases h
 | .cell t ty :: r,l,h=>by
  simp only [zpy] at h
  split at h
  ·rename_i L off ag m ht hg hs
   split at h
   ·rename_i ty' cells hL
    split at h
    ·rename_i d hd
     split at h
     ·rename_i x u1 l2 h1 h2
      simp only [Option.some.injEq] at h;subst h
      obtain ⟨u2,vs,hu2,hrun,hr⟩:=zln S r l2 h2
      obtain ⟨C,hC,hcr⟩:=S.obj L _ hL
      obtain ⟨v,hload,hv⟩:=zuh (P:=P) hg hs hC 0 (fun j y hj=>by obtain ⟨v,hv,hyv⟩:=hcr.get j y hj;exact ⟨v,by simpa using hv,hyv⟩) hd
      have hp:a.tmps.getD t undef=.pointer (some ⟨g.bk L,off,none⟩):=S.env t _ ht
      rw [Nat.zero_add] at hload
      refine ⟨u1 ++ u2,v :: vs,(znD h1).append hu2,?_,fun u' h' hu F=>⟨F.repD h1 (fun y hy=>hu y (List.mem_append.2 (.inl hy))) hv,hr u' h' (fun y hy=>hu y (List.mem_append.2 (.inr hy))) F⟩⟩
      have h1:(resV a.tmps (.cell t ty)).run P w=.ok v w:=by
       simp only [resV,Sem.run_bind,hp,zwo,Result.andThen_ok,hload]
      rw [List.mapM_cons]
      simp only [Sem.run_bind,h1,Result.andThen_ok]
      rw [hrun];rfl
     ·cases h
    ·cases h
   ·cases h
  ·cases h

theorem zrU {nt B : Nat} {w0 : World} {h0 : Fz} {g : Gh} {σ : St} {a : Act} {w : World} (S : Sim P nt B w0 h0 g σ a w) {fn : Func} {l : List PA} (h : zpy P σ fn.results.toList = some l) :
  ∃ (u:Upd) (v:Value),zdC (lk σ.objs) u∧(results fn a.tmps).run P w=.ok v w∧∀ (h':Fz),Frozen g (lk σ.objs) u h'→zt5 h' l v:=by
 obtain ⟨u,vs,hu,hrun,hr⟩:=zln S fn.results.toList l h
 refine ⟨u,if h:vs.toArray.size=1 then vs.toArray[0] else .tuple vs.toArray,hu,?_,fun h' F=>?_⟩
 ·have e : results fn a.tmps = (do let vs ← fn.results.mapM (resV a.tmps); pure (if h : vs.size = 1 then vs[0] else .tuple vs)) := rfl
  rw [e,Array.mapM_eq_mapM_toList]
  simp only [Sem.run_bind,Sem.run_map]
  rw [hrun]
  simp only [Result.andThen_ok,Sem.run_pure]
 ·have hrl := hr u h' (fun y hy => hy) F
  match l,vs,hrl with
  | [],[],_=>exact ⟨[],rfl,trivial⟩
  | [x],[v],hrl=>exact hrl.1
  | x :: y :: l,v :: v2 :: vs,hrl =>
   refine ⟨v :: v2 :: vs,?_,hrl⟩
   rw [dif_neg (by simp)]
  | [],_ :: _,hrl=>exact hrl.elim
  | [_],[],hrl=>exact hrl.elim
  | [_],_ :: _ :: _,hrl=>exact hrl.2.elim
  | _ :: _ :: _,[],hrl=>exact hrl.elim
  | _ :: _ :: _,[_],hrl=>exact hrl.2.elim

theorem Sim.unmark {nt B : Nat} {w0 : World} {h0 : Fz} {g : Gh} {σ : St} {a : Act} {w : World} (S : Sim P nt B w0 h0 g σ a w) {D : Nat} {Ds : List Nat}
    (hnd:(D :: Ds).Nodup) (hm:∀ E∈D :: Ds,B≤E∧g.h E=some (.fz (.deferred (some [])))) (h0b:∀ b,h0 b=some (.fz (.deferred (some [])))→b < B) {ds:List Deferred} (hds:ds=Ds.map (fun D=>{ target:=.collected D,args:=#[] })) :
    w.heap[D]? = some (.deferred (some []))∧Sim P nt B w0 h0 (g.re (g.h.del D)) σ { a with defers:=ds } (w.putObj D (.deferred none)):=by
  obtain ⟨hB,hb⟩:=hm D List.mem_cons_self
  have hnot:=(List.nodup_cons.1 hnd).1
  have hl:zEq g.h (g.h.del D):=fun k x hk hx=>by
    rw [Fz.del_other];exact hk
    intro e;subst e;rw [hb] at hk;simp only [Option.some.injEq] at hk;subst hk
    rcases hx with ⟨C,ty,fr,hx⟩ | ⟨F,hx⟩ | ⟨es,c,hx⟩ <;> cases hx
  have hno:∀ L x,lk σ.objs L=some x→¬ obk g L x D:=fun L x hL hk=>by have:=(S.own L x D hL hk).2;rw [hb] at this;cases this
  refine ⟨S.hw.fz hb,?_⟩
  have S1:Sim P nt B w0 h0 (g.re (g.h.del D)) σ { a with defers:=ds } w:=by
    refine ⟨⟨Ds,(List.nodup_cons.1 hnd).2,hds,fun E hE=>⟨(hm E (List.mem_cons_of_mem _ hE)).1,?_⟩⟩,S.size,fun t d ht=>zxE hl (S.env t d ht),fun L x hL=>zxF hl (S.obj L x hL),fun L x k hL hk=>?_,S.sep,?_,?_,?_,S.below,S.bs,S.clE,S.clO⟩
    · show g.h.del D E = _
      rw [Fz.del_other (fun e=>hnot (by rw [← e];exact hE))];exact (hm E (List.mem_cons_of_mem _ hE)).2
    · obtain ⟨h1, h2⟩ := S.own L x k hL hk
      refine ⟨h1,?_⟩
      show g.h.del D k=none
      unfold Fz.del
      split
      · rfl
      · exact h2
    · intro k x hk
      have hk:g.h.del D k=some x:=hk
      unfold Fz.del at hk
      split at hk
      · cases hk
      · exact S.hw k x hk
    · intro k x hk
      show g.h.del D k=some x
      rw [Fz.del_other (fun e=>by
        subst e
        have h1:=S.le0 _ _ hk
        rw [hb] at h1;simp only [Option.some.injEq] at h1;rw [← h1] at hk
        have:=h0b _ hk;omega)];exact S.le0 k x hk
    · intro k x hk
      have hk:g.h.del D k=some x:=hk
      unfold Fz.del at hk
      split at hk
      · cases hk
      · exact S.hn k x hk
  exact S1.putObj _ Fz.del_same hB hno

theorem zrV {nt B : Nat} {w0 : World} {h0 : Fz} {σ : St} {fn : Func} {R : Ending → World → Prop} {n : Nat} (h0b : ∀ b, h0 b = some (.fz (.deferred (some []))) → b < B) :
  ∀ (Ds:List Nat) (g:Gh) (a:Act) (w:World),Ds.Nodup→a.defers=Ds.map (fun D=>{ target:=.collected D,args:=#[] })→(∀ D∈Ds,B≤D∧g.h D=some (.fz (.deferred (some []))))→Sim P nt B w0 h0 g σ a w →
   (∀ g' a' w',a'.tmps=a.tmps→Sim P nt B w0 h0 g' σ a' w'→∃ v,(results fn a'.tmps).run P w'=.ok v w'∧R (.returned v) w')→LeavesInM (FR none) n P fn a.tmps R a.defers .returning w
 | [],g,a,w,_,ha,_,S,hR=>by
  rw [ha]
  exact hR g a w rfl S
 | D :: Ds,g,a,w,hnd,ha,hm,S,hR=>by
  obtain ⟨h1,S1⟩:=S.unmark hnd hm h0b rfl
  rw [ha,List.map_cons]
  refine ⟨by simp,.inl ⟨D,_,rfl,run_takeDeferred h1,?_⟩⟩
  have hnot:=(List.nodup_cons.1 hnd).1
  exact zrV h0b Ds _ { a with defers:=Ds.map (fun D=>{ target:=.collected D,args:=#[] }) } _ (List.nodup_cons.1 hnd).2 rfl (fun E hE=>⟨(hm E (List.mem_cons_of_mem _ hE)).1,by
   show g.h.del D E=_
   rw [Fz.del_other (fun e=>hnot (by rw [← e];exact hE))];exact (hm E (List.mem_cons_of_mem _ hE)).2⟩) S1 (fun g' a' w' ht=>hR g' a' w' ht)

theorem zp9 {nt : Nat} {args : List PA} {w : World} {h0 : Fz} {vs : List Value} {m : Nat} (hnt : nt = m) (hlen : args.length ≤ nt) (hvs : RL (paR h0) args vs) (hfz : Hw h0 w) :
  Sim P nt w.heap.size w h0 ⟨h0,fun _=>0,fun _=>undef,fun _ _=>undef⟩ ⟨zic 0 args,[],[]⟩ { tmps:=vs.toArray ++ Array.replicate (m - vs.toArray.size) undef,defers:=[] } w:=by
 have hl:=hvs.length
 refine ⟨Marks.nil _ _,by simp;omega,?_,fun L o ho=>by simp [lk] at ho,fun L o b ho=>by simp [lk] at ho,fun L o b L' o' ho=>by simp [lk] at ho,hfz,fun _ _ h=>h,fun b o h=>.inl h,Bel.refl _ _ _,Nat.le_refl _,?_,fun L o ho=>by simp [lk] at ho⟩
 ·intro t d ht
  obtain ⟨x,hx,_,rfl⟩:=zlm args 0 t d ht
  obtain ⟨v,hv,hxv⟩:=hvs.get t x (by simpa using hx)
  have hlt:=(List.getElem?_eq_some_iff.1 hv).1
  have:(vs.toArray ++ Array.replicate (m - vs.toArray.size) undef).getD t undef=v:=by
   rw [Array.getD_eq_getD_getElem?,Array.getElem?_append_left (by simpa using hlt)]
   simp [hv]
  rw [this]
  exact zxd (g:=⟨h0,fun _=>0,fun _=>undef,fun _ _=>undef⟩) hxv
 ·intro t d ht L hL
  obtain ⟨x,hx,_,rfl⟩:=zlm args 0 t d ht
  rw [show zaW (.one (paD x))=zbl (paD x) from rfl,zkR] at hL;simp at hL

theorem zqa {G : Ctrs} (hok : OkAll P G) {f : FuncId} {ann : Ann} {args : List PA} {Kx : Func → Exit → St → Prop} {w : World} {h0 : Fz} {vs : List Value} {R : Ending → World → Prop} {fn : Func} {c : Code}
    (hfn:P.funcs[f]? = some fn) (hbody:fn.body=some c) (hnt:ann.nt=fn.ntmps) (hlen:args.length≤ann.nt) (hv:vc P G ann c (Kx fn) ⟨zic 0 args,[],[]⟩) (hvs:RL (paR h0) args vs) (hfz:Hw h0 w)
    (hend:∀ e σ g a w',Kx fn e σ→Sim P ann.nt w.heap.size w h0 g σ a w'→(e=.normal∨e=.ret)∧∃ v,(results fn a.tmps).run P w'=.ok v w'∧R (.returned v) w'):Calls P f vs.toArray w R:=by
  have S:=zp9 (P:=P) hnt hlen hvs hfz
  have hwp:=zEt (B:=w.heap.size) (w0:=w) hok ann c none 0 h0 (zkk c) _ (Kx fn) _ _ _ _ (fun _ h=>h) (Rnd.none h0) hv S (Kp.refl _ _)
  refine (callsIn_wide (n:=0)).1 ?_
  refine callsIn_of_wp_marks (F:=FR none) hfn hbody trivial (wpIn_mono hwp ?_)
  have h0b:∀ b,h0 b=some (.fz (.deferred (some [])))→b < w.heap.size:=fun b h=>hfz.lt h
  rintro e a' w' ⟨g',σ',hK',S',_⟩
  have fin:LeavesInM (FR none) 0 P fn a'.tmps R a'.defers .returning w':=by
    obtain ⟨Ds,h1,h2,h3⟩:=S'.dfr
    exact zrV h0b Ds g' a' w' h1 h2 h3 S' fun g2 a2 w2 _ S2=>(hend e σ' g2 a2 w2 hK' S2).2
  rcases (hend e σ' g' a' w' hK' S').1 with rfl | rfl
  · exact fin
  · exact fin

theorem zxJ {G : Ctrs} (hok : OkAll P G) {f : FuncId} {args : List PA} {K : List PA → Prop} {ann : Ann} (hv : vcFun P G ann f args K) {w : World} {h0 : Fz} {vs : List Value} (hvs : RL (paR h0) args vs) (hfz : Hw h0 w) :
  Calls P f vs.toArray w fun e w'=>∃ (h':Fz) (rs:List PA) (v:Value),K rs∧e=.returned v∧zt5 h' rs v∧Bel h0 w.heap.size w w' ∧
   Fle h0 h'∧Hw h' w'∧∀ b o,h' b=some o→h0 b=some o∨w.heap.size≤b:=by
 unfold vcFun at hv
 split at hv
 ·rename_i fn hfn
  split at hv
  ·rename_i c hbody
   split at hv
   ·rename_i hnt
    simp only [Bool.and_eq_true,Nat.ble_eq] at hnt
    refine zqa (G:=G) hok (Kx:=fun fn=>zbF P fn K) hfn hbody (Nat.eq_of_beq_eq_true hnt.1) hnt.2 hv hvs hfz ?_
    intro e σ' g' a' w' hK' S'
    have fin:zNZ P fn K σ'→∃ v,(results fn a'.tmps).run P w'=.ok v w' ∧
      (∃ (h':Fz) (rs:List PA) (v_1:Value),K rs∧Ending.returned v=.returned v_1∧zt5 h' rs v_1∧Bel h0 w.heap.size w w'∧Fle h0 h'∧Hw h' w'∧∀ b o,h' b=some o→h0 b=some o∨w.heap.size≤b):=by
     intro hf
     unfold zNZ at hf
     split at hf
     ·rename_i l hl
      obtain ⟨u,v,hu,hrun,hres⟩:=zrU S' hl
      obtain ⟨h',S2,F⟩:=S'.freeze hu
      exact ⟨v,hrun,h',l,v,hf,rfl,hres h' F,S2.below,S2.le0,S2.hw,S2.hn⟩
     ·exact hf.elim
    cases e with
    | normal=>exact ⟨.inl rfl,fin hK'⟩
    | ret=>exact ⟨.inr rfl,fin hK'⟩
    | exit id=>exact hK'.elim
    | goto l=>exact hK'.elim
    | panic ch=>exact hK'.elim
    | outgrown=>exact hK'.elim
   ·exact hv.elim
  ·exact hv.elim
 ·exact hv.elim
theorem zCW {G : Ctrs} (hok : OkAll P G) {f : FuncId} {C : List PA → COut} (hc : zaj P f)
    (h:∀ args K,(C args).wp K→∃ memo vv ann,vcFun P { G with memo:=memo,vv:=vv } ann f args K):Ok P f C:=by
  intro args K hK w h0 vs hvs hfz
  obtain ⟨memo,vv,ann,hv⟩:=h args K hK
  exact ⟨hc,zxJ (G:={ G with memo:=memo,vv:=vv }) ⟨hok.mt,hok.fn,hok.own,hok.it⟩ hv hvs hfz⟩
end
end Go.Pm
namespace Go.Pm
open Go.RowKit (Below)

def zKq (i j:Nat):Nat:=i+4096 * (j+1)
def zCX : Nat → List XA → List (Nat × DV)
  | _,[]=>[]
  | i,.d a :: r=>(i,.one (paD a)) :: zCX (i+1) r
  | i,.box _ _ :: r=>(i,.cl (.ptr i 0)) :: zCX (i+1) r
def zj6 (i : Nat) : Nat → List XC → List Cl
  | _,[]=>[]
  | j,.p v :: r=>.p v :: zj6 i (j+1) r
  | j,.vec _ _ _ _ _ :: r=>.vec (zKq i j) :: zj6 i (j+1) r
def zi0 (i : Nat) : Nat → List XC → List (Nat × AO)
  | _,[]=>[]
  | j,.p _ :: r=>zi0 i (j+1) r
  | j,.vec e s b n get :: r=>(zKq i j,.vec e s b n get) :: zi0 i (j+1) r
def zdT : Nat → List XA → List (Nat × AO)
  | _,[]=>[]
  | i,.d _ :: r=>zdT (i+1) r
  | i,.box ty cs :: r=>(i,.box ty (zj6 i 0 cs)) :: (zi0 i 0 cs ++ zdT (i+1) r)
def zK6 : Nat → List XA → List Nat
  | _,[]=>[]
  | i,.d _ :: r=>zK6 (i+1) r
  | i,.box _ _ :: r=>i :: zK6 (i+1) r

section
variable (P:Program)
def zrW (σ : St) : List ResultVar → Option (List PA × List (Nat × AO))
  | []=>some ([],[])
  | .tmp t :: r=>match lk σ.env t with
    | some d=>match zrf (lk σ.objs) d,zrW σ r with
      | some (x,u),some (l,us)=>some (x :: l,u ++ us)
      | _,_=>none
    | none=>none
  | .cell _ _ :: _=>none
def zF0 (ob : Nat → Option AO) (env : List (Nat × DV)) : Nat → List XA → Option (List XA × List Nat)
  | _,[]=>some ([],[])
  | i,.d a :: r=>match zF0 ob env (i+1) r with
    | some (ys,ls)=>some (.d a :: ys,ls)
    | none=>none
  | i,.box _ _ :: r=>match lk env i,zF0 ob env (i+1) r with
    | some (.one (.c (.ptr L 0))),some (ys,ls)=>match zrb ob (.one (.c (.ptr L 0))) with
      | some (y,l,_)=>some (y :: ys,l ++ ls)
      | none=>none
    | _,_=>none
def zFG (fn:Func) (xs:List XA) (K:List PA→List XA→Prop) (σ:St):Prop :=
 match zrW σ fn.results.toList with
 | some (l,u)=>match zF0 (lk (u ++ σ.objs)) σ.env 0 xs with
  | some (ys,ls)=>match zmL ls with
   | true=>K l ys
   | false=>False
  | none=>False
 | none=>False
def zK7 (fn : Func) (xs : List XA) (K : List PA → List XA → Prop) : Exit → St → Prop
  | .ret,σ=>zFG fn xs K σ
  | .normal,σ=>zFG fn xs K σ
  | _,_=>False
def zwp (Γ:Ctrs) (ann:Ann) (f:FuncId) (xs:List XA) (K:List PA→List XA→Prop):Prop :=
 match P.funcs[f]? with
 | some fn=>match fn.body with
  | some c=>match Nat.beq ann.nt fn.ntmps && Nat.ble xs.length ann.nt && zmL ((zdT 0 xs).map (·.1)) && zQk (zK6 0 xs) (zkk c) with
   | true=>vc P Γ ann c (zK7 fn xs K) ⟨zCX 0 xs,zdT 0 xs,[]⟩
   | false=>False
  | none=>False
 | none=>False
end

section
variable {P:Program} {Γ:Ctrs}

def zn1 (w:World) (v:Value):List Value:=match v with
 | .pointer (some a)=>match w.heap[a.block]? with
  | some (.cells C _ _)=>C.toList
  | _=>[]
 | _=>[]
def xVV (i : Nat) : Nat → List XC → List Value → List (Nat × Value)
  | j,.p _ :: r,_ :: vs=>xVV i (j+1) r vs
  | j,.vec _ _ _ _ _ :: r,v :: vs=>(zKq i j,v) :: xVV i (j+1) r vs
  | _,_,_=>[]
def zlo (w : World) : Nat → List XA → List Value → List (Nat × Value)
  | i,.d _ :: r,_ :: vs=>zlo w (i+1) r vs
  | i,.box _ cs :: r,v :: vs=>(i,v) :: (xVV i 0 cs (zn1 w v) ++ zlo w (i+1) r vs)
  | _,_,_=>[]
def zN2 : Value → Nat
  | .pointer (some a)=>a.block
  | _=>0

section start
variable {h:Fz} {w:World} {B:Nat} {g:Gh} (hle:∀ p x,Rep h p x→Rep g.h p x)
include hle
theorem zF1 {i:Nat} : ∀ {cs:List XC} {j:Nat} {vs:List Value},RL (xcR P h w B) cs vs→(∀ x∈xVV i j cs vs,g.sv x.1=x.2) →
  RL (clR g) (zj6 i j cs) vs∧(∀ x∈zi0 i j cs,zFM x.2∧zbL x.2=[]∧aoR P g w B x.1 x.2)∧zwJ cs vs=(zi0 i j cs).flatMap (fun x=>kO g x.1 x.2)∧(xVV i j cs vs).map (·.1)=(zi0 i j cs).map (·.1) ∧
   ∀ M∈(zj6 i j cs).flatMap zaG,M∈(zi0 i j cs).map (·.1)
 | [],j,[],_,_=>⟨trivial,fun x hx=>by simp [zi0] at hx,rfl,rfl,fun M hM=>by simp [zj6] at hM⟩
 | [],_,_ :: _,hr,_=>hr.elim
 | _ :: _,_,[],hr,_=>hr.elim
 | .p p :: cs,j,v :: vs,hr,hs=>by
  obtain ⟨i1,i2,i3,i4,i5⟩:=zF1 (j:=j+1) hr.2 hs
  exact ⟨⟨hle _ _ hr.1,i1⟩,i2,by simp only [zwJ,xcK,List.nil_append];exact i3,i4,fun M hM=>i5 M (by simpa [zj6,zaG] using hM)⟩
 | .vec e s b n get :: cs,j,v :: vs,hr,hs=>by
  obtain ⟨i1,i2,i3,i4,i5⟩:=zF1 (j:=j+1) hr.2 (fun x hx=>hs x (List.mem_cons_of_mem _ hx))
  have hv:g.sv (zKq i j)=v:=hs (zKq i j,v) List.mem_cons_self
  obtain ⟨h1,h2,h3,xs,hx,hx2⟩:=hr.1
  refine ⟨⟨⟨hv.symm,h1⟩,i1⟩,fun x hx=>?_,?_,by simp [xVV,zi0,i4],fun M hM=>?_⟩
  ·rcases List.mem_cons.1 hx with e1 | hx
   ·subst e1
    refine ⟨trivial,rfl,h2,h3,xs,?_,fun q hq=>(hx2 q hq).mono hle⟩
    show w.ownsRow B e s (g.sv (zKq i j)) n xs
    rw [hv];assumption
   ·exact i2 x hx
  ·simp only [zwJ,xcK,zi0,List.flatMap_cons,kO,hv,i3]
  ·simp only [zj6, List.flatMap_cons, List.mem_append, zaG, List.mem_singleton] at hM
   simp only [zi0,List.map_cons,List.mem_cons]
   exact hM.imp_right (i5 M)
theorem zrX:∀ {xs:List XA} {i:Nat} {vs:List Value},RL (xaR P h w B) xs vs→(∀ x∈zlo w i xs vs,g.sv x.1=x.2∧g.bk x.1=zN2 x.2) →
  (∀ x∈zdT i xs,zFM x.2∧(∀ M∈zbL x.2,M∈(zdT i xs).map (·.1))∧aoR P g w B x.1 x.2)∧xsK w xs vs=(zdT i xs).flatMap (fun x=>kO g x.1 x.2)∧(zlo w i xs vs).map (·.1)=(zdT i xs).map (·.1)
 | [],i,[],_,_=>⟨fun x hx=>by simp [zdT] at hx,rfl,rfl⟩
 | [],_,_ :: _,hr,_=>hr.elim
 | _ :: _,_,[],hr,_=>hr.elim
 | .d a :: xs,i,v :: vs,hr,hs=>by
  obtain ⟨i1,i2,i3⟩:=zrX (i:=i+1) hr.2 hs
  exact ⟨i1,by simp only [xsK,xaK,List.nil_append];exact i2,i3⟩
 | .box ty cs :: xs,i,v :: vs,hr,hs=>by
  obtain ⟨i1,i2,i3⟩:=zrX (i:=i+1) hr.2 (fun x hx=>hs x (List.mem_cons_of_mem _ (List.mem_append.2 (.inr hx))))
  obtain ⟨k,C,rfl,hC,hrl⟩:=hr.1
  have hca:zn1 w (.pointer (some ⟨k,0,none⟩))=C.toList:=by simp only [zn1,hC]
  obtain ⟨j1,j2,j3,j4,j5⟩:=zF1 (i:=i) (j:=0) hle hrl (fun x hx=>(hs x (List.mem_cons_of_mem _ (List.mem_append.2 (.inl (by rw [hca];exact hx))))).1)
  have hb:g.bk i=k:=(hs (i,_) List.mem_cons_self).2
  refine ⟨fun x hx=>?_,?_,?_⟩
  ·simp only [zdT] at hx
   rcases List.mem_cons.1 hx with e | hx
   ·subst e
    refine ⟨trivial,fun M hM=>?_,C,by rw [hb];exact hC,j1⟩
    simp only [zdT,List.map_cons,List.map_append,List.mem_cons,List.mem_append]
    exact .inr (.inl (j5 M hM))
   ·rcases List.mem_append.1 hx with hx | hx
    ·obtain ⟨q1, q2, q3⟩ := j2 x hx
     exact ⟨q1,fun M hM=>by rw [q2] at hM;simp at hM,q3⟩
    ·obtain ⟨q1, q2, q3⟩ := i1 x hx
     refine ⟨q1,fun M hM=>?_,q3⟩
     simp only [zdT,List.map_cons,List.map_append,List.mem_cons,List.mem_append]
     exact .inr (.inr (q2 M hM))
  ·simp only [xsK,xaK,hC,zdT,List.flatMap_cons,List.flatMap_append,kO,hb,j3,i2];simp
  ·simp only [zlo,zdT,List.map_cons,List.map_append,hca,j4,i3]
end start

theorem zrY : ∀ (xs : List XA) (i t : Nat) (d : DV), lk (zCX i xs) t = some d → ∃ x, xs[t - i]? = some x ∧ i ≤ t ∧ d = match x with | .d a => .one (paD a) | .box _ _ => .cl (.ptr t 0)
  | [],i,t,d,h=>by simp [zCX,lk] at h
  | x :: r,i,t,d,h=>by
    have key:lk (zCX (i+1) r) t=some d→i ≠ t→∃ y,(x :: r)[t - i]? = some y∧i≤t∧d=match y with | .d a=>.one (paD a) | .box _ _=>.cl (.ptr t 0):=fun h hne=>by
      obtain ⟨y,h1,h2,h3⟩:=zrY r (i+1) t d h
      refine ⟨y,?_,by omega,h3⟩
      rw [show t - i=(t - (i+1))+1 by omega,List.getElem?_cons_succ];exact h1
    cases x with
    | d a =>
      simp only [zCX] at h
      rw [zaq] at h
      split at h
      · rename_i e;subst e;simp only [Option.some.injEq] at h;exact ⟨.d a,by simp,Nat.le_refl _,h.symm⟩
      · rename_i e;exact key h e
    | box ty cs =>
      simp only [zCX] at h
      rw [zaq] at h
      split at h
      · rename_i e;subst e;simp only [Option.some.injEq] at h;exact ⟨.box ty cs,by simp,Nat.le_refl _,h.symm⟩
      · rename_i e;exact key h e
theorem zqb : ∀ {xs : List XA} {i t : Nat} {ty : Nat} {cs : List XC}, xs[t - i]? = some (.box ty cs) → i ≤ t → t ∈ (zdT i xs).map (·.1)
  | [],i,t,ty,cs,h,_=>by simp at h
  | x :: xs,i,t,ty,cs,h,hi=>by
    by_cases e:t=i
    · subst e
      simp at h;subst h
      simp [zdT]
    · rw [show t - i = (t - (i + 1)) + 1 by omega, List.getElem?_cons_succ] at h
      have:=zqb (i:=i+1) h (by omega)
      cases x with
      | d a=>exact this
      | box ty' cs' =>
        simp only [zdT,List.map_cons,List.map_append,List.mem_cons,List.mem_append]
        exact .inr (.inr this)
theorem zqc {w : World} : ∀ {xs : List XA} {i t : Nat} {ty : Nat} {cs : List XC} {vs : List Value} {v : Value}, xs[t - i]? = some (.box ty cs) → vs[t - i]? = some v → i ≤ t → (t, v) ∈ zlo w i xs vs
  | [],i,t,ty,cs,vs,v,h,_,_=>by simp at h
  | _ :: _,i,t,ty,cs,[],v,_,h,_=>by simp at h
  | x :: xs,i,t,ty,cs,u :: vs,v,h,h2,hi=>by
    by_cases e:t=i
    · subst e
      simp at h h2;subst h h2
      simp [zlo]
    · rw [show t - i = (t - (i + 1)) + 1 by omega, List.getElem?_cons_succ] at h h2
      have:=zqc (w:=w) (i:=i+1) h h2 (by omega)
      cases x with
      | d a=>exact this
      | box ty' cs' =>
        simp only [zlo,List.mem_cons,List.mem_append]
        exact .inr (.inr this)

def pinned (h:Fz) (K:List Nat) (w:World):Fz:=fun b =>
 match h b with
 | some (.inv F)=>some (.inv F)
 | some (.fz (.cells C ty fr))=>some (.fz (.cells C ty fr))
 | some (.fz (.map es c))=>some (.fz (.map es c))
 | _=>match K.contains b with
  | true=>none
  | false=>(w.heap[b]?).map .pin
theorem zrZ {h:Fz} {K:List Nat} {w:World} {b:Nat} {o:FzO} (hb:h b=some o) (ho:(∃ C ty fr,o=.fz (.cells C ty fr))∨(∃ F,o=.inv F)∨(∃ es c,o=.fz (.map es c))):pinned h K w b=some o:=by
 rcases ho with ⟨C,ty,fr,rfl⟩ | ⟨F,rfl⟩ | ⟨es,c,rfl⟩ <;> simp only [pinned,hb]
def zQm (h:Fz) (K:List Nat) (w:World) (b:Nat):Prop :=
 (∃ o, h b = some o ∧ pinned h K w b = some o ∧ ((∃ C ty fr, o = .fz (.cells C ty fr)) ∨ (∃ F, o = .inv F) ∨ (∃ es c, o = .fz (.map es c)))) ∨
  ((∀ F,h b ≠ some (.inv F))∧b∈K∧pinned h K w b=none)∨((∀ F,h b ≠ some (.inv F))∧b ∉ K∧pinned h K w b=(w.heap[b]?).map .pin)
theorem zhh {h:Fz} {K:List Nat} {w:World} {b:Nat} (hF:∀ F,h b ≠ some (.inv F)) (e:pinned h K w b=(match K.contains b with | true=>none | false=>(w.heap[b]?).map .pin)):zQm h K w b:=by
 cases hk:K.contains b with
 | true=>rw [hk] at e;exact .inr (.inl ⟨hF,by simpa using hk,e⟩)
 | false=>rw [hk] at e;exact .inr (.inr ⟨hF,by simpa using hk,e⟩)
theorem zcz {h:Fz} {K:List Nat} {w:World} (b:Nat):zQm h K w b:=by
 cases hb:h b with
 | none=>exact zhh (fun F e=>by rw [hb] at e;cases e) (by simp only [pinned,hb])
 | some o =>
  cases o with
  | inv F=>exact .inl ⟨_,hb,by simp only [pinned,hb],.inr (.inl ⟨F,rfl⟩)⟩
  | pin o=>exact zhh (fun F e=>by rw [hb] at e;cases e) (by simp only [pinned,hb])
  | fz o =>
   cases o with
   | cells C ty fr=>exact .inl ⟨_,hb,by simp only [pinned,hb],.inl ⟨C,ty,fr,rfl⟩⟩
   | map es c=>exact .inl ⟨_,hb,by simp only [pinned,hb],.inr (.inr ⟨es,c,rfl⟩)⟩
   | _=>exact zhh (fun F e=>by rw [hb] at e;cases e) (by simp only [pinned,hb])
theorem zng {h:Fz} {K:List Nat} {w:World} {p:PV} {x:Value} (hr:Rep h p x):Rep (pinned h K w) p x:=hr.mono' fun _ _ hb ho=>zrZ hb ho
theorem zxK {h:Fz} {K:List Nat} {w:World} (H:Hw h w):Hw (pinned h K w) w:=by
 intro b x hb
 rcases zcz (h:=h) (K:=K) (w:=w) b with ⟨o,h1,h2,_⟩ | ⟨_,_,h2⟩ | ⟨_,_,h2⟩
 ·rw [h2] at hb;simp only [Option.some.injEq] at hb;subst hb;exact H b _ h1
 ·rw [h2] at hb;cases hb
 ·rw [h2] at hb
  obtain ⟨o,ho,rfl⟩:=Option.map_eq_some_iff.1 hb
  exact ⟨o,ho,rfl⟩

theorem zi1 {h h':Fz} (hle:∀ p x,Rep h p x→Rep h' p x) {a:PA} {v:Value} (hr:paR h a v):paR h' a v:=by
 cases a with
 | one p=>exact hle _ _ hr
 | agg cs=>obtain ⟨vs,rfl,hr⟩:=hr;exact ⟨vs,rfl,hr.mono hle⟩
theorem zCY {h h':Fz} (hle:∀ p x,Rep h p x→Rep h' p x) {rs:List PA} {v:Value} (hr:zt5 h rs v):zt5 h' rs v:=by
 match rs,hr with
 | [],⟨vs,e,r⟩=>exact ⟨vs,e,r.mono fun _ _=>zi1 hle⟩
 | [x],hr=>exact zi1 hle hr
 | x :: y :: l,⟨vs,e,r⟩=>exact ⟨vs,e,r.mono fun _ _=>zi1 hle⟩
theorem zF2 {h h':Fz} {w:World} {B:Nat} (hle:∀ p x,Rep h p x→Rep h' p x) {c:XC} {v:Value} (hr:xcR P h w B c v):xcR P h' w B c v:=by
 cases c with
 | p v=>exact hle _ _ hr
 | vec e s b n get=>obtain ⟨h1,h2,h3,xs,h4,h5⟩:=hr;exact ⟨h1,h2,h3,xs,h4,fun q hq=>(h5 q hq).mono hle⟩
theorem zF3 {h h':Fz} {w:World} {B:Nat} (hle:∀ p x,Rep h p x→Rep h' p x) {c:XA} {v:Value} (hr:xaR P h w B c v):xaR P h' w B c v:=by
 cases c with
 | d a=>exact zi1 hle hr
 | box ty cs=>obtain ⟨k,C,h1,h2,h3⟩:=hr;exact ⟨k,C,h1,h2,h3.mono fun _ _=>zF2 hle⟩

theorem zF4 {nt m : Nat} {xs : List XA} {w : World} {h : Fz} {B : Nat} {vs : List Value} (hnt : nt = m) (hlen : xs.length ≤ nt) (hvs : RL (xaR P h w B) xs vs) (hn : (xsK w xs vs).Nodup)
    (hK:∀ b∈xsK w xs vs,B≤b∧h b=none) (hw:Hw h w) (hB:B≤w.heap.size) (hlab:((zdT 0 xs).map (·.1)).Nodup) :
    ∃ g,Sim P nt B w (pinned h (xsK w xs vs) w) g ⟨zCX 0 xs,zdT 0 xs,[]⟩ { tmps:=vs.toArray ++ Array.replicate (m - vs.toArray.size) undef,defers:=[] } w:=by
  let nv:=zlo w 0 xs vs
  let h0:=pinned h (xsK w xs vs) w
  let g:Gh:=⟨h0,fun L=>zN2 ((lk nv L).getD undef),fun L=>(lk nv L).getD undef,fun _ _=>undef⟩
  have hle:∀ p x,Rep h p x→Rep g.h p x:=fun p x hr=>zng hr
  have hkeys:nv.map (·.1)=(zdT 0 xs).map (·.1):=by
    have:∀ {xs:List XA} {i:Nat} {vs:List Value},RL (xaR P h w B) xs vs→(zlo w i xs vs).map (·.1)=(zdT i xs).map (·.1):=by
      intro xs
      induction xs with
      | nil=>intro i vs hr;cases vs with
        | nil=>rfl
        | cons=>exact hr.elim
      | cons x xs ih =>
        intro i vs hr
        cases vs with
        | nil=>exact hr.elim
        | cons v vs =>
          cases x with
          | d a=>exact ih hr.2
          | box ty cs =>
            obtain ⟨k,C,rfl,hC,hrl⟩:=hr.1
            have hv:∀ {cs:List XC} {j:Nat} {vs:List Value},RL (xcR P h w B) cs vs→(xVV i j cs vs).map (·.1)=(zi0 i j cs).map (·.1):=by
              intro cs
              induction cs with
              | nil=>intro j vs hr;cases vs with
                | nil=>rfl
                | cons=>exact hr.elim
              | cons c cs ih2 =>
                intro j vs hr
                cases vs with
                | nil=>exact hr.elim
                | cons v vs=>cases c with
                  | p q=>exact ih2 hr.2
                  | vec e s b n get=>simp only [xVV,zi0,List.map_cons];rw [ih2 hr.2]
            simp only [zlo,zdT,List.map_cons,List.map_append,zn1,hC]
            rw [hv hrl,ih hr.2]
    exact this hvs
  have hlkv:∀ x∈nv,lk nv x.1=some x.2:=fun x hx=>zkU (by rw [hkeys];exact hlab) hx
  obtain ⟨o1,o2,o3⟩:=zrX (g:=g) (i:=0) hle hvs (fun x hx=>⟨by show (lk nv x.1).getD undef=x.2;rw [hlkv x hx];rfl,by show zN2 ((lk nv x.1).getD undef)=_;rw [hlkv x hx];rfl⟩)
  have hmem:∀ L o,lk (zdT 0 xs) L=some o→(L,o)∈zdT 0 xs:=fun L o h=>zb9 h
  have hl:=hvs.length
  have hblk:∀ L o b,lk (zdT 0 xs) L=some o→obk g L o b→b∈(zdT 0 xs).flatMap (fun x=>kO g x.1 x.2):=fun L o b hL hb=>List.mem_flatMap.2 ⟨_,hmem L o hL,zm1 (o1 _ (hmem L o hL)).1 hb⟩
  refine ⟨g,Marks.nil _ _,by simp;omega,?_,fun L o hL=>(o1 _ (hmem L o hL)).2.2,?_,?_,zxK hw,fun _ _ h=>h,fun b o h=>.inl h,Bel.refl _ _ _,hB,?_,?_⟩
  · intro t d ht
    obtain ⟨x,hx,_,rfl⟩:=zrY xs 0 t d ht
    obtain ⟨v,hv,hxv⟩:=hvs.get t x (by simpa using hx)
    have hlt:=(List.getElem?_eq_some_iff.1 hv).1
    have:(vs.toArray ++ Array.replicate (m - vs.toArray.size) undef).getD t undef=v:=by
      rw [Array.getD_eq_getD_getElem?,Array.getElem?_append_left (by simpa using hlt)]
      simp [hv]
    rw [this]
    cases x with
    | d a=>exact zxd (g:=g) (zi1 hle hxv)
    | box ty cs =>
      obtain ⟨k,C,rfl,hC,_⟩:=hxv
      have:=hlkv _ (zqc (w:=w) (i:=0) hx (by simpa using hv) (Nat.zero_le _))
      show Value.pointer (some ⟨k,0,none⟩)=.pointer (some ⟨zN2 ((lk nv t).getD undef),0,none⟩)
      rw [show lk nv t=some (.pointer (some ⟨k,0,none⟩)) from this];rfl
  · intro L o b hL hb
    have hbK:b∈xsK w xs vs:=by rw [o2];exact hblk L o b hL hb
    refine ⟨(hK b hbK).1,?_⟩
    show pinned h (xsK w xs vs) w b=none
    rcases zcz (h:=h) (K:=xsK w xs vs) (w:=w) b with ⟨o,h1,_⟩ | ⟨_,_,h2⟩ | ⟨_,h2,_⟩
    · rw [(hK b hbK).2] at h1;cases h1
    · exact h2
    · exact (h2 hbK).elim
  · intro L o b L' o' hL hL' hb hb'
    rw [o2] at hn
    have:=zkS hn (L,o) (L',o') b (hmem L o hL) (hmem L' o' hL') (zm1 (o1 _ (hmem L o hL)).1 hb) (zm1 (o1 _ (hmem L' o' hL')).1 hb')
    exact congrArg Prod.fst this
  · intro t d ht L hL
    obtain ⟨x,hx,_,rfl⟩:=zrY xs 0 t d ht
    cases x with
    | d a=>rw [show zaW (.one (paD a))=zbl (paD a) from rfl,zkR] at hL;simp at hL
    | box ty cs =>
      simp [zaW,zbl,zaG] at hL;subst hL
      exact zkV (zqb (i:=0) hx (Nat.zero_le _))
  · intro L o hL M hM
    exact zkV ((o1 _ (hmem L o hL)).2.1 M hM)

theorem zqd {nt B:Nat} {w0:World} {h0:Fz} {g:Gh} {σ:St} {a:Act} {w:World} (S:Sim P nt B w0 h0 g σ a w):∀ (rs:List ResultVar) (l:List PA) (u:Upd),zrW σ rs=some (l,u) →
  ∃ (vs:List Value),zdC (lk σ.objs) u∧(rs.mapM (resV a.tmps)).run P w=.ok vs w∧∀ (u':Upd) (h':Fz),(∀ y∈u,y∈u')→Frozen g (lk σ.objs) u' h'→RL (paR h') l vs
 | [],l,u,h=>by
  simp [zrW] at h;obtain ⟨rfl,rfl⟩:=h
  exact ⟨[],zdC.nil _,rfl,fun _ _ _ _=>trivial⟩
 | .tmp t :: r,l,u,h=>by
  simp only [zrW] at h
  split at h
  ·rename_i d hd
   split at h
   ·rename_i x u1 l2 u2 h1 h2
    simp only [Option.some.injEq,Prod.mk.injEq] at h;obtain ⟨rfl,rfl⟩:=h
    obtain ⟨vs,hu2,hrun,hr⟩:=zqd S r l2 u2 h2
    refine ⟨a.tmps.getD t undef :: vs,(znD h1).append hu2,?_,fun u' h' hu F=>⟨F.repD h1 (fun y hy=>hu y (List.mem_append.2 (.inl hy))) (S.env t d hd),hr u' h' (fun y hy=>hu y (List.mem_append.2 (.inr hy))) F⟩⟩
    rw [List.mapM_cons]
    simp only [resV,Sem.run_bind,Sem.run_pure,Result.andThen_ok]
    rw [hrun];rfl
   ·cases h
  ·cases h
 | .cell _ _ :: _,_,_,h=>by simp [zrW] at h
theorem zqe {nt B : Nat} {w0 : World} {h0 : Fz} {g : Gh} {σ : St} {a : Act} {w : World} (S : Sim P nt B w0 h0 g σ a w) {fn : Func} {l : List PA} {u : Upd} (h : zrW σ fn.results.toList = some (l, u)) :
  ∃ (v:Value),zdC (lk σ.objs) u∧(results fn a.tmps).run P w=.ok v w∧∀ (h':Fz),Frozen g (lk σ.objs) u h'→zt5 h' l v:=by
 obtain ⟨vs,hu,hrun,hr⟩:=zqd S fn.results.toList l u h
 refine ⟨if h:vs.toArray.size=1 then vs.toArray[0] else .tuple vs.toArray,hu,?_,fun h' F=>?_⟩
 ·have e : results fn a.tmps = (do let vs ← fn.results.mapM (resV a.tmps); pure (if h : vs.size = 1 then vs[0] else .tuple vs)) := rfl
  rw [e,Array.mapM_eq_mapM_toList]
  simp only [Sem.run_bind,Sem.run_map]
  rw [hrun]
  simp only [Result.andThen_ok,Sem.run_pure]
 ·have hrl := hr u h' (fun y hy => hy) F
  match l,vs,hrl with
  | [],[],_=>exact ⟨[],rfl,trivial⟩
  | [x],[v],hrl=>exact hrl.1
  | x :: y :: l,v :: v2 :: vs,hrl =>
   refine ⟨v :: v2 :: vs,?_,hrl⟩
   rw [dif_neg (by simp)]
  | [],_ :: _,hrl=>exact hrl.elim
  | [_],[],hrl=>exact hrl.elim
  | [_],_ :: _ :: _,hrl=>exact hrl.2.elim
  | _ :: _ :: _,[],hrl=>exact hrl.elim
  | _ :: _ :: _,[_],hrl=>exact hrl.2.elim

theorem zxL {nt B : Nat} {w0 : World} {h0 : Fz} {g : Gh} {σ : St} {a : Act} {w w1 : World} {h : Fz} (S : Sim P nt B w0 h0 g σ a w) (hle : ∀ p x, Rep h p x → Rep g.h p x) :
  ∀ {xs ys:List XA} {ls:List Nat} {i:Nat} {vs:List Value},zF0 (lk σ.objs) σ.env i xs=some (ys,ls)→RL (xaR P h w1 B) xs vs→(∀ t v,vs[t]? = some v→i+t∈zK6 i xs→a.tmps.getD (i+t) undef=v) →
  RL (xaR P g.h w B) ys vs∧xsK w ys vs=ls.flatMap (kB g (lk σ.objs))∧∀ L∈ls,isB (lk σ.objs) L
 | [],ys,ls,i,[],h1,_,_=>by
  simp only [zF0,Option.some.injEq,Prod.mk.injEq] at h1;obtain ⟨rfl,rfl⟩:=h1
  exact ⟨trivial,rfl,fun L hL=>by simp at hL⟩
 | [],_,_,_,_ :: _,_,hr,_=>hr.elim
 | _ :: _,_,_,_,[],_,hr,_=>hr.elim
 | .d p :: xs,ys,ls,i,v :: vs,h1,hr,ht=>by
  simp only [zF0] at h1
  split at h1
  ·rename_i ys' ls' h2
   simp only [Option.some.injEq,Prod.mk.injEq] at h1;obtain ⟨rfl,rfl⟩:=h1
   obtain ⟨i1,i2,i3⟩:=zxL S hle h2 hr.2 (fun t u hu hb=>by
    have:=ht (t+1) u (by simpa using hu) (by rw [show i+(t+1)=i+1+t by omega];exact hb)
    rw [show i+1+t=i+(t+1) by omega];exact this)
   exact ⟨⟨zi1 hle hr.1,i1⟩,by simp only [xsK,xaK,List.nil_append];exact i2,i3⟩
  ·cases h1
 | .box ty cs :: xs,ys,ls,i,v :: vs,h1,hr,ht=>by
  simp only [zF0] at h1
  split at h1
  ·rename_i L ys' ls' hL h2
   split at h1
   ·rename_i y l ms hy
    simp only [Option.some.injEq,Prod.mk.injEq] at h1;obtain ⟨rfl,rfl⟩:=h1
    obtain ⟨i1,i2,i3⟩:=zxL S hle h2 hr.2 (fun t u hu hb=>by
     have:=ht (t+1) u (by simpa using hu) (by rw [show i+(t+1)=i+1+t by omega];exact List.mem_cons_of_mem _ hb)
     rw [show i+1+t=i+(t+1) by omega];exact this)
    have hv:a.tmps.getD i undef=v:=ht 0 v rfl (by simp [zK6])
    obtain ⟨j1,j2,j3⟩:=zEn S hy (S.env i _ hL)
    rw [hv] at j1 j2
    exact ⟨⟨j1,i1⟩,by simp only [xsK,i2,j2,List.flatMap_append],fun M hM=>(List.mem_append.1 hM).elim (j3 M) (i3 M)⟩
   ·cases h1
  ·cases h1

def zxM (P:Program) (h:Fz) (base:Nat) (w:World) (xs:List XA) (vs:List Value) (K:List PA→List XA→Prop) (e:Ending) (w':World):Prop :=
 ∃ (h':Fz) (v:Value) (rs:List PA) (ys:List XA),K rs ys∧e=.returned v∧zt5 h' rs v∧RL (xaR P h' w' base) ys vs∧(xsK w' ys vs).Nodup ∧
   (∀ b∈xsK w' ys vs,(b∈xsK w xs vs∨w.heap.size≤b)∧h' b=none)∧Fle h h'∧Hw h' w'∧(∀ b o,h' b=some o→h b=some o∨w.heap.size≤b∨b∈xsK w xs vs)∧BelX h (xsK w xs vs) w w'
theorem zF5 {G : Ctrs} (hok : OkAll P G) {f : FuncId} {ann : Ann} {xs : List XA} {K : List PA → List XA → Prop} {w : World} {h : Fz} {base : Nat} {vs : List Value} (hv : zwp P G ann f xs K) (hvs : RL (xaR P h w base) xs vs)
    (hn:(xsK w xs vs).Nodup) (hK:∀ b∈xsK w xs vs,base≤b∧h b=none) (hw:Hw h w) (hB:base≤w.heap.size) :
    Calls P f vs.toArray w (zxM P h base w xs vs K):=by
  unfold zwp at hv
  split at hv
  · rename_i fn hfn
    split at hv
    · rename_i c hbody
      split at hv
      · rename_i hc
        simp only [Bool.and_eq_true,Nat.ble_eq] at hc
        obtain ⟨⟨⟨hnt,hlen⟩,hlab⟩,hdisj⟩:=hc
        obtain ⟨g0,S⟩:=zF4 (P:=P) (Nat.eq_of_beq_eq_true hnt) hlen hvs hn hK hw hB (zeI hlab)
        have hwp:=zEt (B:=base) (w0:=w) hok ann c none 0 (pinned h (xsK w xs vs) w) (zkk c) _ (zK7 fn xs K) _ _ _ _ (fun _ h=>h) (Rnd.none _) hv S (Kp.refl _ _)
        refine (callsIn_wide (n:=0)).1 ?_
        refine callsIn_of_wp_marks (F:=FR none) hfn hbody trivial (wpIn_mono hwp ?_)
        have h0b:∀ b,pinned h (xsK w xs vs) w b=some (.fz (.deferred (some [])))→b < base:=fun b hb=>by
          rcases zcz (h:=h) (K:=xsK w xs vs) (w:=w) b with ⟨o,h1,h2,h3⟩ | ⟨_,_,h2⟩ | ⟨_,_,h2⟩
          · rw [h2] at hb; simp only [Option.some.injEq] at hb; subst hb
            rcases h3 with ⟨C,ty,fr,e⟩ | ⟨F,e⟩ | ⟨es,c,e⟩ <;> cases e
          · rw [h2] at hb;cases hb
          · rw [h2] at hb
            obtain ⟨o,_,e⟩:=Option.map_eq_some_iff.1 hb
            cases e
        rintro e a' w' ⟨g',σ',hK',S',hkp⟩
        have fin:zFG fn xs K σ'→LeavesInM (FR none) 0 P fn a'.tmps (zxM P h base w xs vs K) a'.defers .returning w':=by
          intro hf
          obtain ⟨Ds,h1,h2,h3⟩:=S'.dfr
          refine zrV h0b Ds g' a' w' h1 h2 h3 S' fun g2 a2 w2 ht S2=>?_
          unfold zFG at hf
          split at hf
          · rename_i l u hl
            split at hf
            · rename_i ys ls ho
              split at hf
              · rename_i hnl
                obtain ⟨v,hu,hrun,hres⟩:=zqe S2 hl
                obtain ⟨h3',S3,F⟩:=S2.freeze hu
                have hle3:∀ p x,Rep h p x→Rep h3' p x:=fun p x hr=>(zng (K:=xsK w xs vs) (w:=w) hr).mono S3.le0
                obtain ⟨o1,o2,o3⟩:=zxL S3 (w1:=w) hle3 ho hvs (fun t u hu hb=>by
                  rw [Nat.zero_add] at hb ⊢
                  rw [ht,hkp.1 t (fun hd=>by
                    have:=List.all_eq_true.1 hdisj t hb
                    simp at this;exact this hd)]
                  have hlt:=(List.getElem?_eq_some_iff.1 hu).1
                  rw [Array.getD_eq_getD_getElem?,Array.getElem?_append_left (by simpa using hlt)]
                  simp [hu])
                let h':Fz:=fun b=>match h3' b with | some (.pin _)=>h b | x=>x
                have hnp:∀ b o,h3' b=some o→(∀ x,o ≠ .pin x)→h' b=some o:=fun b o hb hx=>by
                  show (match h3' b with | some (.pin _)=>h b | x=>x)=some o
                  rw [hb]
                  cases o with
                  | pin x=>exact (hx x rfl).elim
                  | _=>rfl
                have hpn:∀ b x,h3' b=some (.pin x)→h' b=h b:=fun b x hb=>by
                  show (match h3' b with | some (.pin _)=>h b | x=>x)=h b
                  rw [hb]
                have hnn:∀ b,h3' b=none→h' b=none:=fun b hb=>by
                  show (match h3' b with | some (.pin _)=>h b | x=>x)=none
                  rw [hb]
                have hrep:∀ p x,Rep h3' p x→Rep h' p x:=fun p x hr=>hr.mono' fun b o hb ho=>hnp b o hb fun x e=>by
                  subst e;rcases ho with ⟨C,ty,fr,e⟩ | ⟨F,e⟩ | ⟨es,c,e⟩ <;> cases e
                have hpin:∀ b y,pinned h (xsK w xs vs) w b=some y→h3' b=some y:=fun b y hb=>S3.le0 b y hb
                have hlt:∀ b,b < w.heap.size→∃ o,w.heap[b]? = some o:=fun b hb=>⟨_,Array.getElem?_eq_getElem hb⟩
                have hnd:=zeI hnl
                refine ⟨v,hrun,h',v,l,ys,hf,rfl,zCY hrep (hres h3' F),o1.mono fun _ _=>zF3 hrep,by rw [o2];exact zkT S3 hnd,fun b hb=>?_,fun b x hb=>?_,fun b x hb=>?_,fun b x hb=>?_,⟨S3.below.os,S3.below.tape,S3.below.output,S3.below.size,S3.below.drawn,fun k hk hkK hF=>?_⟩⟩
                · rw [o2] at hb
                  obtain ⟨L,hL,hb⟩:=List.mem_flatMap.1 hb
                  unfold kB at hb
                  split at hb
                  · rename_i o' ho'
                    have hob:base≤b∧h3' b=none:=S3.own L o' b ho' (zuq hb)
                    refine ⟨?_,hnn b hob.2⟩
                    by_cases hbs:b < w.heap.size
                    · refine .inl ?_
                      rcases zcz (h:=h) (K:=xsK w xs vs) (w:=w) b with ⟨o,_,h2,_⟩ | ⟨_,h2,_⟩ | ⟨_,_,h2⟩
                      · have:=hpin b _ h2;rw [hob.2] at this;cases this
                      · exact h2
                      · obtain ⟨o, ho⟩ := hlt b hbs
                        rw [ho] at h2
                        have:=hpin b _ h2;rw [hob.2] at this;cases this
                    · exact .inr (by omega)
                  · simp at hb
                · rcases zcz (h := h) (K := xsK w xs vs) (w := w) b with ⟨o, h1, h2, h3⟩ | ⟨_, h2, _⟩ | ⟨_, _, h2⟩
                  · rw [h1] at hb; simp only [Option.some.injEq] at hb; subst hb
                    exact hnp b _ (hpin b _ h2) fun x e=>by subst e;rcases h3 with ⟨C,ty,fr,e⟩ | ⟨F,e⟩ | ⟨es,c,e⟩ <;> cases e
                  · rw [(hK b h2).2] at hb;cases hb
                  · obtain ⟨o, ho⟩ := hlt b (hw.lt hb)
                    rw [ho] at h2
                    rw [hpn b _ (hpin b _ h2)];exact hb
                · cases h3b:h3' b with
                  | none=>rw [hnn b h3b] at hb;cases hb
                  | some y =>
                    by_cases hy:∃ o,y=.pin o
                    · obtain ⟨o, rfl⟩ := hy
                      rw [hpn b _ h3b] at hb
                      rcases zcz (h:=h) (K:=xsK w xs vs) (w:=w) b with ⟨o',h1,h2,h3⟩ | ⟨_,h2,_⟩ | ⟨_,_,h2⟩
                      · have := hpin b _ h2
                        rw [h3b] at this;simp only [Option.some.injEq] at this;subst this
                        rcases h3 with ⟨C,ty,fr,e⟩ | ⟨F,e⟩ | ⟨es,c,e⟩ <;> cases e
                      · rw [(hK b h2).2] at hb;cases hb
                      · obtain ⟨o1, ho1, hx1⟩ := hw b x hb
                        rw [ho1] at h2
                        have:=hpin b _ h2
                        rw [h3b] at this;simp only [Option.some.injEq,FzO.pin.injEq] at this;subst this
                        obtain ⟨o2,ho2,hx2⟩:=S3.hw b _ h3b
                        simp only [FzO.ok] at hx2;subst hx2
                        exact ⟨_,ho2,hx1⟩
                    · rw [hnp b y h3b fun x e => hy ⟨x, e⟩] at hb
                      simp only [Option.some.injEq] at hb;subst hb
                      exact S3.hw b _ h3b
                · cases h3b:h3' b with
                  | none=>rw [hnn b h3b] at hb;cases hb
                  | some y =>
                    by_cases hy:∃ o,y=.pin o
                    · obtain ⟨o, rfl⟩ := hy
                      rw [hpn b _ h3b] at hb
                      exact .inl hb
                    · rw [hnp b y h3b fun x e => hy ⟨x, e⟩] at hb
                      simp only [Option.some.injEq] at hb;subst hb
                      by_cases hbs:b < w.heap.size
                      · rcases zcz (h := h) (K := xsK w xs vs) (w := w) b with ⟨o', h1, h2, h3⟩ | ⟨_, h2, _⟩ | ⟨_, _, h2⟩
                        · have := hpin b _ h2
                          rw [h3b] at this;simp only [Option.some.injEq] at this;subst this
                          exact .inl h1
                        · exact .inr (.inr h2)
                        · obtain ⟨o, ho⟩ := hlt b hbs
                          rw [ho] at h2
                          have:=hpin b _ h2
                          rw [h3b] at this;simp only [Option.some.injEq] at this
                          exact (hy ⟨_,this⟩).elim
                      · exact .inr (.inl (by omega))
                · rcases zcz (h := h) (K := xsK w xs vs) (w := w) k with ⟨o', h1, h2, h3⟩ | ⟨_, h2, _⟩ | ⟨_, _, h2⟩
                  · rcases h3 with ⟨C, ty, fr, rfl⟩ | ⟨F, rfl⟩ | ⟨es, c, rfl⟩
                    · rw [S3.hw.fz (hpin k _ h2),hw.fz h1]
                    · exact (hF F h1).elim
                    · rw [S3.hw.fz (hpin k _ h2),hw.fz h1]
                  · exact (hkK h2).elim
                  · obtain ⟨o, ho⟩ := hlt k hk
                    rw [ho] at h2 ⊢
                    obtain ⟨o2,ho2,hx2⟩:=S3.hw k _ (hpin k _ h2)
                    simp only [FzO.ok] at hx2;subst hx2
                    exact ho2
              · exact hf.elim
            · exact hf.elim
          · exact hf.elim
        cases e with
        | normal=>exact fin hK'
        | ret=>exact fin hK'
        | exit id=>exact hK'.elim
        | goto l=>exact hK'.elim
        | panic ch=>exact hK'.elim
        | outgrown=>exact hK'.elim
      · exact hv.elim
    · exact hv.elim
  · exact hv.elim
theorem zxN {G : Ctrs} (hok : OkAll P G) {f : FuncId} {C : MK} (hc : zaj P f)
    (h:∀ xs safe rs ys,C xs=some (safe,rs,ys)→safe→∀ K:List PA→List XA→Prop,K rs ys→∃ memo vv ann,zwp P { G with memo:=memo,vv:=vv } ann f xs K):zvX P f C:=by
  intro xs ys safe rs hC hs w h0 base vs hvs hn hK hw hB
  obtain ⟨memo,vv,ann,hv⟩:=h xs safe rs ys hC hs (fun l zs=>l=rs∧zs=ys) ⟨rfl,rfl⟩
  refine ⟨hc,(zF5 (G:={ G with memo:=memo,vv:=vv }) ⟨hok.mt,hok.fn,hok.own,hok.it⟩ hv hvs hn hK hw hB).mono ?_⟩
  rintro e w' ⟨h',v,rs',ys',⟨rfl,rfl⟩,r⟩
  exact ⟨h',v,r⟩
end
end Go.Pm
namespace Go.Pm
open Go.RowKit (Below)

section
variable {P:Program} {Γ:Ctrs} {nt:Nat} {n:Nat}

theorem zCZ {o : Oper} {a : Act} {w w' : World} {R : Act → World → Prop} {Q : Exit → Act → World → Prop} (hnd : ∀ c, o.op ≠ .defer c) {l f : Nat} {tmps : Array Value} {x y : Code} (h : (execOp a.eval o).run P w = .ok (.round l f tmps x y) w')
    (hR:RoundIn Fence.wide (n - 1) P l f tmps x y w' fun e w''=>∃ v,e=.returned v∧R (a.put o.dst v) w''):o.wpIn (FR none) n P a w R Q:=by
  refine ⟨fun _ _=>trivial,?_⟩
  rw [Oper.semAt_eq _ _ _ hnd,h,Oper.uponIn_round]
  refine ⟨fun h=>by simp [FR] at h,?_⟩
  have hR':RoundIn (FR none) (n - 1) P l f tmps x y w' fun e w''=>∃ v,e=.returned v∧R (a.put o.dst v) w'':=hR
  refine hR'.mono ?_
  rintro e w'' ⟨v,rfl,hv⟩
  exact hv

theorem zr0 {h : Fz} {g : Gh} (hg : g.h = h) : ∀ {ds : List DV} {l : List PA} {vs : List Value}, zgW ds = some l → RL (dvR g) ds vs → RL (paR h) l vs
  | [],l,vs,h,hr=>by
    simp only [zgW,Option.some.injEq] at h;subst h
    cases vs with
    | nil=>trivial
    | cons=>exact hr.elim
  | d :: ds,l,[],h,hr=>hr.elim
  | .one (.c (.p p)) :: ds,l,v :: vs,h,hr=>by
    simp only [zgW] at h
    split at h
    · rename_i l' hl'
      simp only [Option.some.injEq] at h;subst h
      refine ⟨?_,zr0 hg hl' hr.2⟩
      have:=hr.1
      rw [← hg]
      exact this
    · cases h
  | .one (.agg cs) :: ds,l,v :: vs,h,hr=>by
    simp only [zgW] at h
    split at h
    · rename_i l' m' hc hm'
      simp only [Option.some.injEq] at h;subst h
      refine ⟨?_,zr0 hg hm' hr.2⟩
      obtain ⟨us,rfl,hus⟩:=hr.1
      rw [ze1 hc] at hus
      have:=RL.map_left.1 hus
      exact ⟨us,rfl,by rw [← hg];exact this⟩
    · cases h
  | .one (.c (.ptr _ _)) :: ds,l,v :: vs,h,hr=>by simp [zgW] at h
  | .one (.c (.vptr _ _ _ _)) :: ds,l,v :: vs,h,hr=>by simp [zgW] at h
  | .one (.c (.vec _)) :: ds,l,v :: vs,h,hr=>by simp [zgW] at h
  | .one (.c (.ivec _ _)) :: ds,l,v :: vs,h,hr=>by simp [zgW] at h
  | .one (.c (.iptr _ _ _ _ _)) :: ds,l,v :: vs,h,hr=>by simp [zgW] at h
  | .one (.c .undef) :: ds,l,v :: vs,h,hr=>by simp [zgW] at h
  | .one (.c .junk) :: ds,l,v :: vs,h,hr=>by simp [zgW] at h
  | .one (.c (.dead _)) :: ds,l,v :: vs,h,hr=>by simp [zgW] at h
  | .tup _ :: ds,l,v :: vs,h,hr=>by simp [zgW] at h

variable (J Jx:List (List PA)→Fz→World→Prop)

def JQ (q:Bool) (ys:List (List PA)) (h:Fz) (w:World):Prop :=
 match q with
 | false=>J ys h w
 | true=>∃ rest,Jx rest h w

def zC0 (P:Program) (nt:Nat) (hs:Fz) (K:YK):Exit→Act→World→Prop :=
 fun e a' w'=>∃ ys q σ w0 h0 g,K e ys q σ∧Sim P nt w0.heap.size w0 h0 g σ a' w'∧Fle hs h0∧JQ J Jx q ys h0 w0∧a'.defers=[]

variable {J Jx}
theorem JQ.later {q:Bool} {ys:List (List PA)} {h0:Fz} {w0:World} {g:Gh} {σ:St} {a:Act} {w:World} (hJ:JSt J) (hJx:JSt Jx) (h:JQ J Jx q ys h0 w0) (S:Sim P nt w0.heap.size w0 h0 g σ a w):JQ J Jx q ys g.h w:=by
 cases q with
 | false=>exact hJ _ _ _ _ _ h S.le0 S.hw S.hn S.below
 | true=>obtain ⟨rest,h⟩:=h;exact ⟨rest,hJx _ _ _ _ _ h S.le0 S.hw S.hn S.below⟩

def YH (P:Program) (J Jx:List (List PA)→Fz→World→Prop) (l:Nat):Prop :=
 ∀ y rest h W us,J (y :: rest) h W→RL (paR h) y us→Hw h W→∀ n,∃ fn tmps assign body,(Instr.yield l us.toArray).run P W=.ok (.round l fn tmps assign body) W ∧
   RoundIn Fence.wide n P l fn tmps assign body W fun e W'=>∃ h',Fle h h'∧Hw h' W'∧((e=.returned (.bool true)∧J rest h' W')∨(e=.returned (.bool false)∧Jx rest h' W'))

theorem ze3 {kl : List Nat} {l : List (Nat × DV)} : ∀ {ks : List Nat} {t : Nat} {d : DV}, lk (zg7 kl l ks) t = some d → lk l t = some d ∧ ∀ L ∈ zaW d, L ∈ kl
  | [],t,d,h=>by simp [zg7,lk] at h
  | k :: ks,t,d,h=>by
    simp only [zg7] at h
    split at h
    · rename_i d' hd'
      split at h
      · rename_i hl
        rw [zaq] at h
        split at h
        · rename_i e
          simp only [Option.some.injEq] at h;subst h;subst e
          refine ⟨hd',fun L hL=>?_⟩
          have:=List.all_eq_true.1 hl L hL
          simpa using this
        · exact ze3 h
      · exact ze3 h
    · exact ze3 h

theorem zn2 {ob : Nat → Option AO} : ∀ {ks : List Nat} {x : Nat × AO}, x ∈ zvW ob ks → ∃ l, ob x.1 = some (.fbox l) ∧ x.2 = .fbox l
  | [],x,h=>by simp [zvW] at h
  | k :: ks,x,h=>by
    simp only [zvW] at h
    split at h
    · rename_i l hk
      rcases List.mem_cons.1 h with rfl | h
      · exact ⟨l,hk,rfl⟩
      · exact zn2 h
    · exact zn2 h
theorem zko {σ:St} {L:Nat} {o:AO} (h:lk (zCs σ) L=some o):∃ l,o=.fbox l∧lk (zvU (lk σ.objs) (σ.objs.map (·.1)) ++ σ.objs) L=some (.fbox l):=by
 unfold zCs at h
 rw [zcH] at h ⊢
 cases hb:lk (zvU (lk σ.objs) (σ.objs.map (·.1))) L with
 | some x =>
  rw [hb] at h
  simp only [Option.some.injEq] at h
  subst h
  obtain ⟨ty,cells,l,_,h2,_⟩:=zk4 (zb9 hb)
  have h2:x=.fbox l:=h2
  subst h2
  exact ⟨l,rfl,rfl⟩
 | none =>
  rw [hb] at h
  simp only at h
  obtain ⟨l,h1,h2⟩:=zn2 (zb9 h)
  exact ⟨l,h2,h1⟩
theorem zg3 {α : Type} : ∀ {l : List (Nat × α)} {L : Nat}, L ∈ l.map (·.1) → ∃ o, lk l L = some o
  | [],L,h=>by simp at h
  | (k,a) :: r,L,h=>by
    rw [zaq]
    split
    · exact ⟨a,rfl⟩
    · rename_i hne
      simp only [List.map_cons,List.mem_cons] at h
      rcases h with rfl | h
      · exact absurd rfl hne
      · exact zg3 h

theorem zC1 {σ : St} {o : Oper} {args : Array Operand} {t l : Nat} (h : zOn σ o = some (args, t, l)) :
  ∃ f ts,o.op=.call { callee:=.value f,args,argTypes:=ts }∧o.guard=none∧o.dst=some t∧evO σ.env f=.one (.c (.p (.yl l))):=by
 unfold zOn at h
 split at h
 ·rename_i f as ts t' hop hg hd
  split at h
  ·rename_i l hl
   simp only [Option.some.injEq,Prod.mk.injEq] at h
   obtain ⟨rfl,rfl,rfl⟩:=h
   exact ⟨f,ts,hop,hg,hd,hl⟩
  ·cases h
 ·cases h

theorem zqf (hok : OkAll P Γ) {l : Nat} (hJ : JSt J) (hJx : JSt Jx) (hY : YH P J Jx l) {hs : Fz} {ops : Array Oper} {K : List (List PA) → Bool → St → Prop} {Q : Exit → Act → World → Prop}
    (hQ:∀ ys q σ w0 h0 g a w,K ys q σ→Sim P nt w0.heap.size w0 h0 g σ a w→Fle hs h0→JQ J Jx q ys h0 w0→a.defers=[]→Q .normal a w) :
    ∀ (lo:List Oper) (i:Nat) (ys:List (List PA)) (q:Bool) (σ:St) (w0:World) (h0:Fz) (g:Gh) (a:Act) (w:World),(∀ j,lo[j]? = ops[i+j]?)→zkG P Γ nt l lo K ys q σ →
      Sim P nt w0.heap.size w0 h0 g σ a w→Fle hs h0→JQ J Jx q ys h0 w0→a.defers=[]→wpOpsIn (FR none) n P ops Q (List.range' i lo.length) a w:=by
  intro lo
  induction lo with
  | nil=>intro i ys q σ w0 h0 g a w _ h S hle hj hd;exact hQ ys q σ w0 h0 g a w h S hle hj hd
  | cons o lo ih =>
    intro i ys q σ w0 h0 g a w hl h S hle hj hdf
    have ho:ops[i]? = some o:=by have:=hl 0;simpa using this.symm
    have hl':∀ j,lo[j]? = ops[i+1+j]?:=fun j=>by have:=hl (j+1);rw [List.getElem?_cons_succ] at this;rw [this];congr 1;omega
    simp only [List.length_cons,List.range'_succ,wpOpsIn,ho]
    simp only [zkG] at h
    split at h
    · rename_i args t l1 hyl
      obtain ⟨f,ts,hop,hg,hdst,hf⟩:=zC1 hyl
      rw [if_pos (by simp [Region.wanted,hg])]
      split at h
      · rename_i y hy ht
        obtain ⟨rfl,rest,rfl,htr,hfa⟩:=h
        have hfn:=zcx S hf
        generalize hfv:a.eval f=fvv at hfn
        cases hfn with
        | yl _ =>
          obtain ⟨h1,S1,_⟩:=S.freeze (zuu (ob:=lk σ.objs) (ks:=σ.objs.map (·.1)))
          have hJn:J (y :: rest) h1 w:=hj.later hJ hJx S1
          have hus:RL (paR h1) y (args.toList.map a.eval):=zr0 (g:=⟨h1,g.bk,g.sv,g.iv⟩) rfl hy (zxf S1 args.toList)
          obtain ⟨fn,tmps,x,c,hrun,hround⟩:=hY y rest h1 w _ hJn hus S1.hw (n - 1)
          refine zCZ (by simp [hop]) (l:=l1) (f:=fn) (tmps:=tmps) (x:=x) (y:=c) (w':=w) ?_ (hround.mono ?_)
          · simp only [execOp, hop, resolve, hfv, Deferred.ofValue, Sem.run_bind, Sem.run_pure, Result.andThen_ok, invoke]
            rw [show (#[] ++ Array.map a.eval args)=(args.toList.map a.eval).toArray by cases args;simp]
            exact hrun
          · have hto : zb1 nt (some t) = true := ht
            have next:∀ (b:Bool) (h':Fz) (W':World),Fle h1 h'→Hw h' W'→JQ J Jx (!b) rest h' W'→zkG P Γ nt l1 lo K rest (!b) ((zny σ).setT t (.bool b)) →
                wpOpsIn (FR none) n P ops Q (List.range' (i+1) lo.length) (a.put o.dst (.bool b)) W':=by
              intro b h' W' hle' hw' hj' hv'
              have S0:Sim P nt W'.heap.size W' h' ⟨h',g.bk,g.sv,g.iv⟩ (zny σ) a W':=by
                refine ⟨by rw [hdf];exact Marks.nil _ _,S.size,?_,fun L o ho=>?_,fun L o b ho hob=>?_,fun L o b L' o' ho ho' hob hob'=>?_,hw',fun _ _ h=>h,fun b o h=>.inl h,Bel.refl _ _ _,Nat.le_refl _,?_,fun L o ho M hM=>?_⟩
                · intro u d hu
                  obtain ⟨h2,_⟩:=ze3 hu
                  exact zt8 (g:=⟨h1,g.bk,g.sv,g.iv⟩) (g':=⟨h',g.bk,g.sv,g.iv⟩) (fun L hL=>⟨rfl,rfl,rfl⟩) hle' (S1.env u d h2)
                · obtain ⟨l, rfl, h2⟩ := zko ho
                  obtain ⟨C,ty,fr,hC,hr⟩:=S1.obj L _ h2
                  exact ⟨C,ty,fr,hle' _ _ hC,hr.mono fun _ _=>Rep.mono hle'⟩
                · obtain ⟨l,rfl,_⟩:=zko ho;exact hob.elim
                · obtain ⟨l,rfl,_⟩:=zko ho;exact hob.elim
                · intro u d hu L hL
                  exact zg3 ((ze3 hu).2 L hL)
                · obtain ⟨l,rfl,_⟩:=zko ho;simp [zbL] at hM
              have S2:=S0.put (dst:=some t) (d:=.bool b) (v:=.bool b) hto (.bool b) (zdR _) []
              rw [hdst]
              exact ih (i+1) rest (!b) _ W' h' _ _ W' hl' hv' S2 (fun b o hb=>hle' b o (S1.le0 b o (hle b o hb))) hj' ((put_defers _ _ _).trans hdf)
            rintro e W' ⟨h',hle',hw',(⟨rfl,hj'⟩ | ⟨rfl,hj'⟩)⟩
            · exact ⟨_,rfl,next true h' W' hle' hw' hj' htr⟩
            · exact ⟨_,rfl,next false h' W' hle' hw' ⟨rest,hj'⟩ hfa⟩
      · exact h.elim
    · split at h
      · rename_i hd hg
        rw [if_pos (by simp [Region.wanted,hg])]
        obtain ⟨hs',hk⟩:=zkK.1 h
        refine zlg (zkZ (i:=0) (Q:=Q) (r:=none) (n:=n) hok S hd rfl hs') ?_
        rintro a' w' ⟨hdf',g',σ',hst,S'⟩
        exact ih (i+1) ys q _ w0 h0 g' a' w' hl' (hk σ' hst) (S'.log _) hle hj (hdf'.trans hdf)
      · exact h.elim

theorem zxO (hok:OkAll P Γ) (ann:Ann) {l:Nat} (hJ:JSt J) (hJx:JSt Jx) (hY:YH P J Jx l) {hs:Fz} : ∀ (c:Code) (K:YK) (ys:List (List PA)) (q:Bool) (σ:St) (w0:World) (h0:Fz) (g:Gh) (a:Act) (w:World),
  vcY P Γ ann l c K ys q σ→Sim P ann.nt w0.heap.size w0 h0 g σ a w→Fle hs h0→JQ J Jx q ys h0 w0→a.defers=[]→c.wpIn (FR none) n P (zC0 J Jx P ann.nt hs K) a w:=by
 intro c
 induction c with
 | skip=>intro K ys q σ w0 h0 g a w h S hle hj hd;exact wpIn_skip ⟨ys,q,σ,w0,h0,g,h,S,hle,hj,hd⟩
 | region id ops draw =>
  intro K ys q σ w0 h0 g a w h S hle hj hd
  simp only [vcY] at h
  split at h
  ·-- a region that yields
   refine wpIn_region ?_
   have:=zqf (n:=n) hok hJ hJx hY (hs:=hs) (ops:=ops) (Q:=zC0 J Jx P ann.nt hs K) (fun ys q σ w0 h0 g a w h S hle hj hd=>?_) ops.toList 0 ys q _ w0 h0 g a w (fun j=>by simp) h (S.log _) hle hj hd
   ·rw [List.range_eq_range']
    simpa using this
   ·split at h
    ·split at h
     ·rename_i s hs'
      obtain ⟨g2,S2⟩:=zbq hs' S
      exact ⟨ys,q,s,w0,h0,g2,h,S2,hle,hj,hd⟩
     ·exact h.elim
    ·exact ⟨ys,q,_,w0,h0,g,h,S.log _,hle,hj,hd⟩
  ·exact h.elim
  ·exact zp8 (r:=none) (n:=n) hok ann (D:=zCg ops.toList) (a0:=a) (fun _ h=>h) h S (Kp.refl _ _) fun g' σ' a' w' hK S' _ hdf=>⟨ys,q,σ',w0,h0,g',hK,S',hle,hj,hdf.trans hd⟩
 | seq x y ihx ihy =>
  intro K ys q σ w0 h0 g a w h S hle hj hd
  refine wpIn_seq (wpIn_mono (ihx _ ys q σ w0 h0 g a w h S hle hj hd) ?_)
  rintro e a' w' ⟨ys',q',σ',w1,h1,g',hK,S',hle',hj',hd'⟩
  cases e with
  | normal =>
   simp only [zKG,zKI] at hK
   split at hK
   ·split at hK
    ·rename_i s hs
     obtain ⟨g2,S2⟩:=zbq hs S'
     exact ihy K ys' q' s w1 h1 g2 a' w' hK S2 hle' hj' hd'
    ·exact hK.elim
   ·exact ihy K ys' q' σ' w1 h1 g' a' w' hK S' hle' hj' hd'
  | exit id=>exact ⟨ys',q',σ',w1,h1,g',hK,S',hle',hj',hd'⟩
  | goto l=>exact ⟨ys',q',σ',w1,h1,g',hK,S',hle',hj',hd'⟩
  | ret=>exact ⟨ys',q',σ',w1,h1,g',hK,S',hle',hj',hd'⟩
  | panic ch=>exact ⟨ys',q',σ',w1,h1,g',hK,S',hle',hj',hd'⟩
  | outgrown=>exact ⟨ys',q',σ',w1,h1,g',hK,S',hle',hj',hd'⟩
 | cond c x y ihx ihy =>
  intro K ys q σ w0 h0 g a w h S hle hj hd
  simp only [vcY] at h
  split at h
  ·rename_i t ht
   have hv:=zgF S ht
   have hS:∀ b,t=b→Sim P ann.nt w0.heap.size w0 h0 g (zvV σ c b) a w:=by
    intro b hb
    cases c with
    | tmp q =>
     refine S.env' (t:=q) (d:=.bool b) ?_ (zdR _)
     have:a.tmps.getD q undef=.bool t:=hv
     rw [this,hb];exact .bool b
    | _=>exact S
   have h2:=zh8.1 h
   refine wpIn_cond hv ?_
   cases t with
   | true=>exact ihx K ys q _ w0 h0 g a w (h2.1 rfl) (hS true rfl) hle hj hd
   | false=>exact ihy K ys q _ w0 h0 g a w (h2.2 rfl) (hS false rfl) hle hj hd
  ·exact h.elim
 | block id b ih =>
  intro K ys q σ w0 h0 g a w h S hle hj hd
  refine wpIn_block (wpIn_mono (ih _ ys q σ w0 h0 g a w h S hle hj hd) ?_)
  rintro e a' w' ⟨ys',q',σ',w1,h1,g',hK,S',hle',hj',hd'⟩
  cases e with
  | exit j =>
   simp only [zdQ] at hK
   simp only [Exit.inBlock]
   split at hK
   ·rename_i hj;rw [if_pos (Nat.eq_of_beq_eq_true hj)];exact ⟨ys',q',σ',w1,h1,g',hK,S',hle',hj',hd'⟩
   ·rename_i hj;rw [if_neg (Nat.ne_of_beq_eq_false hj)];exact ⟨ys',q',σ',w1,h1,g',hK,S',hle',hj',hd'⟩
  | normal=>exact ⟨ys',q',σ',w1,h1,g',hK,S',hle',hj',hd'⟩
  | goto l=>exact ⟨ys',q',σ',w1,h1,g',hK,S',hle',hj',hd'⟩
  | ret=>exact ⟨ys',q',σ',w1,h1,g',hK,S',hle',hj',hd'⟩
  | panic ch=>exact ⟨ys',q',σ',w1,h1,g',hK,S',hle',hj',hd'⟩
  | outgrown=>exact ⟨ys',q',σ',w1,h1,g',hK,S',hle',hj',hd'⟩
 | loop b ih =>
  intro K ys q σ w0 h0 g a w h S hle hj hd
  simp only [vcY] at h
  split at h
  ·rename_i k hk
   split at h
   ·rename_i s hs'
    obtain ⟨g1,S1⟩:=zbq hs' S
    refine zfl ?_
    have key:=h (fun ys q s=>∀ w0 h0 g a w,Sim P ann.nt w0.heap.size w0 h0 g s a w→Fle hs h0→JQ J Jx q ys h0 w0→a.defers=[]→zrS (FR none) n P b (zC0 J Jx P ann.nt hs K) a w) ?_
    ·exact key w0 h0 g1 a w S1 hle hj hd
    ·intro ys q s hs2 w0 h0 g a w S hle hj hd
     refine zfm (wpIn_mono (ih _ ys q s w0 h0 g a w hs2 S hle hj hd) ?_)
     rintro e a' w' ⟨ys',q',σ',w1,h1,g',hK,S',hle',hj',hd'⟩
     cases e with
     | normal =>
      simp only [zkc,hk] at hK
      split at hK
      ·rename_i s2 hs2
       obtain ⟨g2,S2⟩:=zbq hs2 S'
       exact hK w1 h1 g2 a' w' S2 hle' hj' hd'
      ·exact hK.elim
     | exit id=>exact ⟨ys',q',σ',w1,h1,g',hK,S',hle',hj',hd'⟩
     | goto l=>exact ⟨ys',q',σ',w1,h1,g',hK,S',hle',hj',hd'⟩
     | ret=>exact ⟨ys',q',σ',w1,h1,g',hK,S',hle',hj',hd'⟩
     | panic ch=>exact ⟨ys',q',σ',w1,h1,g',hK,S',hle',hj',hd'⟩
     | outgrown=>exact ⟨ys',q',σ',w1,h1,g',hK,S',hle',hj',hd'⟩
   ·exact h.elim
  ·split at h
   ·rename_i m k hk
    have key:∀ (m:Nat) (ys:List (List PA)) (q:Bool) (σ:St) (w0:World) (h0:Fz) (g:Gh) (a:Act) (w:World),zCt P k (vcY P Γ ann l b) m K ys q σ→Sim P ann.nt w0.heap.size w0 h0 g σ a w→Fle hs h0→JQ J Jx q ys h0 w0→a.defers=[] →
      zrS (FR none) n P b (zC0 J Jx P ann.nt hs K) a w:=by
     intro m
     induction m with
     | zero=>intro ys q σ w0 h0 g a w h;exact h.elim
     | succ m ihm =>
      intro ys q σ w0 h0 g a w h S hle hj hd
      simp only [zCt] at h
      split at h
      ·rename_i s hs'
       obtain ⟨g1,S1⟩:=zbq hs' S
       refine zfm (wpIn_mono (ih _ ys q s w0 h0 g1 a w h S1 hle hj hd) ?_)
       rintro e a' w' ⟨ys',q',σ',w1,h1,g',hK,S',hle',hj',hd'⟩
       cases e with
       | normal=>exact ihm ys' q' σ' w1 h1 g' a' w' hK S' hle' hj' hd'
       | exit id=>exact ⟨ys',q',σ',w1,h1,g',hK,S',hle',hj',hd'⟩
       | goto l=>exact ⟨ys',q',σ',w1,h1,g',hK,S',hle',hj',hd'⟩
       | ret=>exact ⟨ys',q',σ',w1,h1,g',hK,S',hle',hj',hd'⟩
       | panic ch=>exact ⟨ys',q',σ',w1,h1,g',hK,S',hle',hj',hd'⟩
       | outgrown=>exact ⟨ys',q',σ',w1,h1,g',hK,S',hle',hj',hd'⟩
      ·exact h.elim
    exact zfl (key m ys q σ w0 h0 g a w h S hle hj hd)
   ·exact h.elim
 | exit id=>intro K ys q σ w0 h0 g a w h S hle hj hd;exact wpIn_exit ⟨ys,q,σ,w0,h0,g,h,S,hle,hj,hd⟩
 | scope b ih =>
  intro K ys q σ w0 h0 g a w h S hle hj hd
  refine znf (wpIn_mono (ih _ ys q σ w0 h0 g a w h S hle hj hd) ?_)
  rintro e a' w' ⟨ys',q',σ',w1,h1,g',hK,S',hle',hj',hd'⟩
  cases e with
  | goto l=>exact hK
  | normal=>exact ⟨ys',q',σ',w1,h1,g',hK,S',hle',hj',hd'⟩
  | exit l=>exact ⟨ys',q',σ',w1,h1,g',hK,S',hle',hj',hd'⟩
  | ret=>exact ⟨ys',q',σ',w1,h1,g',hK,S',hle',hj',hd'⟩
  | panic ch=>exact ⟨ys',q',σ',w1,h1,g',hK,S',hle',hj',hd'⟩
  | outgrown=>exact ⟨ys',q',σ',w1,h1,g',hK,S',hle',hj',hd'⟩
 | label l=>intro K ys q σ w0 h0 g a w h S hle hj hd;exact wpIn_label ⟨ys,q,σ,w0,h0,g,h,S,hle,hj,hd⟩
 | ret=>intro K ys q σ w0 h0 g a w h S hle hj hd;exact wpIn_ret ⟨ys,q,σ,w0,h0,g,h,S,hle,hj,hd⟩
 | rangeFunc f ps x y _ _=>intro K ys q σ w0 h0 g a w h S;exact h.elim
 | goto l=>intro K ys q σ w0 h0 g a w h S;exact h.elim
 | refuse s=>intro K ys q σ w0 h0 g a w h S;exact h.elim

theorem zC2 {G : Ctrs} (hok : OkAll P G) {f : FuncId} {C : List PA → Option (Prop × List (List PA))} (hc : zaj P f)
    (h:∀ l caps safe ys,C caps=some (safe,ys)→safe→∃ memo vv ann,vcIter P { G with memo:=memo,vv:=vv } ann f l caps ys):zEe P f C:=by
  intro caps safe ys hC hsafe l J Jx w h0 vs hJ hJx hY hj0 hvs hfz
  refine ⟨hc,?_⟩
  obtain ⟨memo,vv,ann,hv⟩:=h l caps safe ys hC hsafe
  unfold vcIter at hv
  split at hv
  · rename_i fn hfn
    split at hv
    · rename_i c hbody
      split at hv
      · rename_i hnt
        simp only [Bool.and_eq_true,Nat.ble_eq] at hnt
        obtain ⟨⟨hnt,hlen⟩,hres⟩:=hnt
        have S:=zp9 (P:=P) (args:=.one (.yl l) :: caps) (vs:=.func (.yield l) #[] #[] :: vs) (h0:=h0) (w:=w) (Nat.eq_of_beq_eq_true hnt) (by simpa using hlen) ⟨.yl l,hvs⟩ hfz
        have hwp:=zxO (n:=0) (Γ:={ G with memo:=memo,vv:=vv }) (J:=J) (Jx:=Jx) (hs:=h0) ⟨hok.mt,hok.fn,hok.own,hok.it⟩ ann (l:=l) hJ hJx hY c _ ys false _ w h0 _ _ w hv S (fun _ _ h=>h) hj0 rfl
        refine (callsIn_wide (n:=0)).1 ?_
        refine callsIn_of_wp (F:=FR none) hfn hbody trivial (wpIn_mono hwp ?_)
        rintro e a' w' ⟨ys',q',σ',w1,h1,g',hK,S',hle,hj,hd⟩
        have fin:zN0 ys' q'→a'.defers=[]∧∃ v,(results fn a'.tmps).run P w'=.ok v w'∧∃ v2 h',Ending.returned v=.returned v2∧Fle h0 h'∧Hw h' w'∧(J [] h' w'∨∃ rest,Jx rest h' w'):=by
          intro hf
          have hr:fn.results = #[]:=by simpa using hres
          refine ⟨hd,.tuple #[],?_,_,g'.h,rfl,fun b o hb=>S'.le0 b o (hle b o hb),S'.hw,?_⟩
          · simp [results,hr]
          · have := hj.later hJ hJx S'
            cases q' with
            | false=>simp only [zN0] at hf;subst hf;exact .inl this
            | true=>exact .inr this
        cases e with
        | normal=>exact fin hK
        | ret=>exact fin hK
        | exit id=>exact hK.elim
        | goto l=>exact hK.elim
        | panic ch=>exact hK.elim
        | outgrown=>exact hK.elim
      · exact hv.elim
    · exact hv.elim
  · exact hv.elim

def zQn (P:Program) (fn:Func) (e s b n:Nat) (get:Nat→List PV):Exit→St→Prop:=fun ex σ =>
 (match ex with | .normal=>True | .ret=>True | _=>False)∧match fn.results.toList with
 | [.tmp t]=>match lk σ.env t with
  | some (.one (.c (.vec L)))=>match lk σ.objs L with
   | some (.vec e' s' b' n' get')=>e'=e∧s'=s∧b'=b∧n'=n∧∀ i,i < n→get' i=get i
   | _=>False
  | some (.one (.c (.p .nils)))=>n=0
  | _=>False
 | _=>False
def zxP (P:Program) (Γ:Ctrs) (ann:Ann) (f:FuncId) (args:List PA) (e s b n:Nat) (get:Nat→List PV):Prop :=
 match P.funcs[f]? with
 | some fn=>match fn.body with
  | some c=>match Nat.beq ann.nt fn.ntmps && Nat.ble args.length ann.nt with
   | true=>vc P Γ ann c (zQn P fn e s b n get) ⟨zic 0 args,[],[]⟩
   | false=>False
  | none=>False
 | none=>False

theorem zr1 {G : Ctrs} (hok : OkAll P G) {f : FuncId} {e s b : Nat} (hc : zaj P f)
    (h:∀ n get,n * b≤140737488355328→n≤9223372036854775807→∃ memo vv ann,zxP P { G with memo:=memo,vv:=vv } ann f [.one (.sl n s get)] e s b n get):znz P f (.clone e s b):=by
  intro w h0 v n get hv hfz h1 h2
  refine ⟨hc,?_⟩
  obtain ⟨memo,vv,ann,hv'⟩:=h n get h1 h2
  unfold zxP at hv'
  split at hv'
  · rename_i fn hfn
    split at hv'
    · rename_i c hbody
      split at hv'
      · rename_i hnt
        simp only [Bool.and_eq_true,Nat.ble_eq] at hnt
        refine zqa (G:={ G with memo:=memo,vv:=vv }) ⟨hok.mt,hok.fn,hok.own,hok.it⟩ (Kx:=fun fn=>zQn P fn e s b n get) (vs:=[v]) hfn hbody (Nat.eq_of_beq_eq_true hnt.1) hnt.2 hv' ⟨hv,trivial⟩ hfz ?_
        intro ex σ' g' a' w' hK' S'
        obtain ⟨hex,hK'⟩:=hK'
        refine ⟨by cases ex <;> first | exact .inl rfl | exact .inr rfl | exact hex.elim,?_⟩
        split at hK'
        · rename_i t hres
          have hr:fn.results = #[.tmp t]:=by rw [← Array.toArray_toList (xs:=fn.results),hres]
          have hrun:(results fn a'.tmps).run P w'=.ok (a'.tmps.getD t undef) w':=by
            simp only [results,hr]
            simp
          split at hK'
          · rename_i L hL
            split at hK'
            · rename_i e' s' b' n' get' hob
              obtain ⟨rfl,rfl,rfl,rfl,hg⟩:=hK'
              have hvt:=S'.env t _ hL
              obtain ⟨hvt,hone⟩:=hvt
              refine ⟨_,hrun,g'.h,g'.sv L,by rw [hvt],by rw [← hvt];exact hone,?_,fun k hk=>(S'.own L _ k hob hk).2,S'.below,S'.le0,S'.hw,S'.hn⟩
              obtain ⟨_,_,xs,hxs,hr⟩:=S'.obj L _ hob
              exact ⟨xs,hxs,fun i hi=>by rw [← hg i hi];exact hr i hi⟩
            · exact hK'.elim
          · rename_i hL
            subst hK'
            have hvt:a'.tmps.getD t undef=.slice none 0 0:=zie (S'.env t _ hL)
            exact ⟨_,hrun,g'.h,.slice none 0 0,by rw [hvt],rfl,⟨[],World.ownsRow_nil w' _ e s,fun i hi=>absurd hi (by omega)⟩,fun k hk=>(by simp [Value.ownBlock] at hk),S'.below,S'.le0,S'.hw,S'.hn⟩
          · exact hK'.elim
        · exact hK'.elim
      · exact hv'.elim
    · exact hv'.elim
  · exact hv'.elim
end
end Go.Pm
