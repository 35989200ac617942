/- Part 3 of what the proof rests on: a machine that runs functions of the program on pure values, proved sound; the functions that the law reaches, and what they compute. -/
import Derived.Test.YtedhjaaikeakoaaDoorQ2
import Derived.OrdersIn
import Derived.RangeFuncNested
import Derived.Maps.RangeRun
set_option linter.all false
namespace Go.Pm

def OpAct.fp : OpAct → List (Nat × Bool)
  | .no=>[]
  | .val fp _ _ _=>fp
  | .chk fp _ _ _ _=>fp
  | .rel fp _ _ _ _ _=>fp
  | .alt fp _ _ _ _ _ _=>fp
def OpAct.u : OpAct → List (Nat × AO)
  | .no=>[]
  | .val _ _ u _=>u
  | .chk _ _ _ u _=>u
  | .rel _ u _ _ _ _=>u
  | .alt _ u _ _ _ _ _=>u
def OpAct.kl : OpAct → List Nat
  | .no=>[]
  | .val _ _ _ k=>k
  | .chk _ _ _ _ k=>k
  | .rel _ _ _ _ _ _=>[]
  | .alt _ _ _ _ _ _ _=>[]
def OpAct.gives : OpAct → DV → Prop
  | .no,_=>False
  | .val _ d _ _,d'=>d'=d
  | .chk _ _ d _ _,d'=>d'=d
  | .rel _ _ ρ _ _ d,d'=>∃ x:ρ,d'=d x
  | .alt _ _ _ _ d1 _ d2,d'=>d'=d1\/d'=d2

def Men (o:Oper) (ev:Operand->DV) (ob:Nat->Option AO) (fp:List (Nat×Bool)) (L:Nat):Prop :=
 (∃ x∈o.op.operands.toList,L∈dvV (ev x))\/∃ y∈fp,∃ o',ob y.1=some o'/\L∈aoV o'

structure ActOk (P : Program) (Γ : Ctrs) (o : Oper) (ev : Operand → DV) (ob : Nat → Option AO) (A : OpAct) : Prop where
  wr:∀ x∈A.u,(x.1,true)∈A.fp
  kl:A.kl=[]\/∃ L,A.kl=[L]/\(L,true)∈A.fp
  labu:∀ x∈A.u,∀ L∈aoV x.2,Men o ev ob A.fp L
  labd:∀ d,A.gives d->∀ L∈dvV d,Men o ev ob A.fp L\/(L,true)∈A.fp
  congr:∀ ev' ob',(∀ x∈o.op.operands.toList,ev' x=ev x)->(∀ y∈A.fp,ob' y.1=ob y.1)->act P Γ o ev' ob'=A

section
variable {P:Program}{Γ:Ctrs}{o:Oper}{ev:Operand->DV}{ob:Nat->Option AO}{A:OpAct}

theorem ActOk.pure {fp : List (Nat × Bool)} {d : DV} (hd : ∀ L ∈ dvV d, Men o ev ob fp L ∨ (L, true) ∈ fp)
    (hc:∀ ev' ob',(∀ x∈o.op.operands.toList,ev' x=ev x)->(∀ y∈fp,ob' y.1=ob y.1)->act P Γ o ev' ob'=.val fp d [] []):ActOk P Γ o ev ob (.val fp d [] []) :=
  ⟨λ x hx=>by simp[OpAct.u] at hx,.inl rfl,λ x hx=>by simp[OpAct.u] at hx,λ d' h=>by simp only[OpAct.gives] at h;subst h;exact hd,hc⟩
theorem ActOk.pchk {fp : List (Nat × Bool)} {s : Prop} {d : DV} (hd : ∀ L ∈ dvV d, Men o ev ob fp L ∨ (L, true) ∈ fp)
    (hc:∀ ev' ob',(∀ x∈o.op.operands.toList,ev' x=ev x)->(∀ y∈fp,ob' y.1=ob y.1)->act P Γ o ev' ob'=.chk fp s d [] []):ActOk P Γ o ev ob (.chk fp s d [] []) :=
  ⟨λ x hx=>by simp[OpAct.u] at hx,.inl rfl,λ x hx=>by simp[OpAct.u] at hx,λ d' h=>by simp only[OpAct.gives] at h;subst h;exact hd,hc⟩
theorem zcd {fp:List (Nat×Bool)}(v:PV):∀ L∈dvV (.p v),Men o ev ob fp L\/(L,true)∈fp:=λ L hL=>by simp[dvV,d1V,clV] at hL
theorem zda {fp:List (Nat×Bool)}{x:Operand}{d:DV}(hx:x∈o.op.operands.toList) (h:∀ L∈dvV d,L∈dvV (ev x)):∀ L∈dvV d,Men o ev ob fp L\/(L,true)∈fp :=
 λ L hL=>.inl (.inl ⟨x,hx,h L hL⟩)

theorem zp9 {c:Cl} : ∀ L∈clV c,L∈zaF c:=by cases c <;> simp[clV,zaF]

theorem ztd {ag:Bool}{m off:Nat}{cells:List Cl}{d:D1}(hr:zg1 ag m cells off=some d):∀ L∈d1V d,L∈cells.flatMap clV:=by
 cases ag with
 | true =>
  simp only[zg1] at hr
  split at hr
  ·simp only [dqa] at hr; subst hr
   intro L hL
   simp only[d1V,dqo] at hL ⊢
   obtain⟨c,hc,hL⟩:=hL
   exact⟨c,List.mem_of_mem_drop (List.mem_of_mem_take hc),hL⟩
  ·cases hr
 | false =>
  simp only[zg1] at hr
  split at hr
  ·rename_i x hx
   simp only[dqa] at hr;subst hr
   intro L hL
   simp only[d1V] at hL
   exact dqo.2 ⟨x,dqx hx,hL⟩
  ·cases hr
theorem zte (cells:List PV):(cells.map Cl.p).flatMap clV=[]:=by
 induction cells with
 | nil=>rfl
 | cons c r ih=>simp[clV,ih]
theorem zkE {ag:Bool}{m off:Nat}{cells:List PV}{d:D1}(hr:zg1 ag m (cells.map .p) off=some d):d1V d=[]:=by
 have:=ztd hr
 rw[zte] at this
 cases hd:d1V d with
 | nil=>rfl
 | cons x l=>have:=this x (by rw[hd];exact dqj);simp at this

theorem zl5 {ob':Nat->Option AO}{c:Cl}(h:∀ L∈zaF c,ob' L=ob L):zsK ob' c=zsK ob c:=by
 cases c <;> first | rfl | (simp only[zsK];rw[h _ (by simp[zaF])])
theorem zhe {ob' : Nat → Option AO} : ∀ {cs : List Cl}, (∀ L ∈ cs.flatMap zaF, ob' L = ob L) → zdA ob' cs = zdA ob cs
  | [],_=>rfl
  | c :: cs,h=>by
    simp only[zdA]
    rw[zl5 (λ L hL=>h L (by simp[hL])),zhe (λ L hL=>h L (by simp only[dqJ,dqg];exact .inr hL))]
theorem zoS {ob':Nat->Option AO}{c:Cl}(h:∀ L∈zaF c,ob' L=ob L/\∀ o',ob L=some o'->∀ M∈zbB o',ob' M=ob M):frz ob' c=frz ob c:=by
 cases c with
 | ptr L off =>
  obtain⟨h1,h2⟩:=h L (by simp[zaF])
  simp only[frz]
  rw[h1]
  cases hL:ob L with
  | none=>rfl
  | some o' =>
   cases o' with
   | box ty cells=>simp only[];rw[zhe (λ M hM=>h2 _ hL M hM)]
   | _=>rfl
 | _=>exact zl5 λ L hL=>(h L hL).1
theorem zio {ob' : Nat → Option AO} : ∀ {cs : List Cl}, (∀ L ∈ cs.flatMap zaF, ob' L = ob L ∧ ∀ o', ob L = some o' → ∀ M ∈ zbB o', ob' M = ob M) → zlz ob' cs = zlz ob cs
  | [],_=>rfl
  | c :: cs,h=>by
    simp only[zlz]
    rw[zoS (λ L hL=>h L (by simp[hL])),zio (λ L hL=>h L (by simp only[dqJ,dqg];exact .inr hL))]
theorem zl6 {ob':Nat->Option AO}{d:DV}(h:∀ L∈zaY ob d,ob' L=ob L):zpE ob' d=zpE ob d:=by
 have key:∀ L∈zaX d,ob' L=ob L/\∀ o',ob L=some o'->∀ M∈zbB o',ob' M=ob M:=by
  intro L hL
  refine⟨h L (dqo.2 ⟨L,hL,dqj⟩),λ o' ho' M hM=>h M (dqo.2 ⟨L,hL,dqf _ ?_⟩)⟩
  rw[ho'];exact hM
 cases d with
 | one d =>
  cases d with
  | c c=>simp only[zpE];rw[zoS key]
  | agg cs=>simp only[zpE];rw[zio key]
 | tup ds=>rfl
theorem zhf {ob' : Nat → Option AO} : ∀ {ds : List DV}, (∀ L ∈ ds.flatMap (zaY ob), ob' L = ob L) → zeR ob' ds = zeR ob ds
  | [],_=>rfl
  | d :: ds,h=>by
    simp only[zeR]
    rw[zl6 (λ L hL=>h L (by simp[hL])),zhf (λ L hL=>h L (by simp only[dqJ,dqg];exact .inr hL))]
theorem zd3 {ob':Nat->Option AO}{d:DV}(h:∀ L∈zaY ob d,ob' L=ob L):zaY ob' d=zaY ob d:=by
 unfold zaY at h ⊢
 have:∀ l:List Nat,(∀ L∈l.flatMap (λ L=>L :: match ob L with | some o=>zbB o | none=>[]),ob' L=ob L) ->
   (l.flatMap λ L=>L :: match ob' L with | some o=>zbB o | none=>[])=l.flatMap λ L=>L :: match ob L with | some o=>zbB o | none=>[]:=by
  intro l
  induction l with
  | nil=>intro _;rfl
  | cons L l ih =>
   intro h
   simp only[dqJ]
   rw[h L (by simp),ih (λ M hM=>h M (by simp only[dqJ,dqg];exact .inr hM))]
 exact this _ h

theorem zhU {c:Cl}{v:PV}{u:Upd}(h:zsK ob c=some (v,u)):∀ x∈u,x.1∈zaF c/\aoV x.2=[]:=by
 unfold zsK at h
 split at h
 ·simp only[dqa,dqh] at h;rw[<- h.2];intro x hx;simp at hx
 ·split at h
  ·simp only[dqa,dqh] at h;rw[<- h.2];intro x hx;simp at hx;subst hx;exact⟨by simp[zaF],rfl⟩
  ·simp only[dqa,dqh] at h;rw[<- h.2];intro x hx;simp at hx
  ·simp only[dqa,dqh] at h;rw[<- h.2];intro x hx;simp only[dqi] at hx;subst hx;exact⟨by simp[zaF],rfl⟩
  ·simp only[dqa,dqh] at h;rw[<- h.2];intro x hx;simp only[dqi] at hx;subst hx;exact⟨by simp[zaF],rfl⟩
  ·cases h
 ·split at h
  ·simp only[dqa,dqh] at h;rw[<- h.2];intro x hx;simp only[dqi] at hx;subst hx;exact⟨by simp[zaF],rfl⟩
  ·cases h
 ·cases h
theorem ze5 : ∀ {cs : List Cl} {l : List PV} {u : Upd}, zdA ob cs = some (l, u) → ∀ x ∈ u, x.1 ∈ cs.flatMap zaF ∧ aoV x.2 = []
  | [],l,u,h=>by simp[zdA] at h;rw[h.2];intro x hx;simp at hx
  | c :: cs,l,u,h=>by
    simp only[zdA] at h
    split at h
    · rename_i v u1 l2 u2 h1 h2
      simp only[dqa,dqh] at h;rw[<- h.2]
      intro x hx
      simp only[dqJ,dqg]
      rcases dqg.1 hx with hx | hx
      · exact⟨.inl (zhU h1 x hx).1,(zhU h1 x hx).2⟩
      · exact⟨.inr (ze5 h2 x hx).1,(ze5 h2 x hx).2⟩
    · cases h
theorem ztf {c:Cl}{v:PV}{u:Upd}(h:frz ob c=some (v,u)):∀ x∈u,(x.1∈zaF c\/∃ L∈zaF c,∃ o',ob L=some o'/\x.1∈zbB o')/\aoV x.2=[]:=by
 unfold frz at h
 split at h
 ·split at h
  ·rename_i L off _x ty cells hL
   split at h
   ·rename_i l us hl
    simp only[dqa,dqh] at h;rw[<- h.2]
    intro x hx
    rcases dqg.1 hx with hx | hx
    ·exact⟨.inr ⟨L,by simp[zaF],_,hL,(ze5 hl x hx).1⟩,(ze5 hl x hx).2⟩
    ·simp at hx;subst hx;exact⟨.inl (by simp[zaF]),rfl⟩
   ·cases h
  ·simp only[dqa,dqh] at h;rw[<- h.2];intro x hx;simp at hx
  ·cases h
 ·intro x hx;exact⟨.inl (zhU h x hx).1,(zhU h x hx).2⟩
theorem zkF : ∀ {cs : List Cl} {l : List PV} {u : Upd}, zlz ob cs = some (l, u) → ∀ x ∈ u, (x.1 ∈ cs.flatMap zaF ∨ ∃ L ∈ cs.flatMap zaF, ∃ o', ob L = some o' ∧ x.1 ∈ zbB o') ∧ aoV x.2 = []
  | [],l,u,h=>by simp[zlz] at h;rw[h.2];intro x hx;simp at hx
  | c :: cs,l,u,h=>by
    simp only[zlz] at h
    split at h
    · rename_i v u1 l2 u2 h1 h2
      simp only[dqa,dqh] at h;rw[<- h.2]
      intro x hx
      simp only[dqJ,dqg]
      rcases dqg.1 hx with hx | hx
      · obtain ⟨h3, h4⟩ := ztf h1 x hx
        refine⟨?_,h4⟩
        rcases h3 with h3 | ⟨L,hL,o',h5,h6⟩
        · exact .inl (.inl h3)
        · exact .inr ⟨L,.inl hL,o',h5,h6⟩
      · obtain ⟨h3, h4⟩ := zkF h2 x hx
        refine⟨?_,h4⟩
        rcases h3 with h3 | ⟨L,hL,o',h5,h6⟩
        · exact .inl (.inr h3)
        · exact .inr ⟨L,.inr hL,o',h5,h6⟩
    · cases h
theorem zoT {d:DV}{v:PA}{u:Upd}(h:zpE ob d=some (v,u)):∀ x∈u,x.1∈zaY ob d/\aoV x.2=[]:=by
 have deep:∀ k,(k∈zaX d\/∃ L∈zaX d,∃ o',ob L=some o'/\k∈zbB o')->k∈zaY ob d:=by
  intro k hk
  rcases hk with hk | ⟨L,hL,o',h5,h6⟩
  ·exact dqo.2 ⟨k,hk,dqj⟩
  ·refine dqo.2 ⟨L, hL, dqf _ ?_⟩
   rw[h5];exact h6
 unfold zpE at h
 split at h
 ·split at h
  ·rename_i v' u' h1
   simp only[dqa,dqh] at h;rw[<- h.2]
   intro x hx;obtain⟨h3,h4⟩:=ztf h1 x hx;exact⟨deep _ h3,h4⟩
  ·cases h
 ·split at h
  ·rename_i v' u' h1
   simp only[dqa,dqh] at h;rw[<- h.2]
   intro x hx;obtain⟨h3,h4⟩:=zkF h1 x hx;exact⟨deep _ h3,h4⟩
  ·cases h
 ·cases h
theorem ziq : ∀ {ds : List DV} {l : List PA} {u : Upd}, zeR ob ds = some (l, u) → ∀ x ∈ u, x.1 ∈ ds.flatMap (zaY ob) ∧ aoV x.2 = []
  | [],l,u,h=>by simp[zeR] at h;rw[h.2];intro x hx;simp at hx
  | d :: ds,l,u,h=>by
    simp only[zeR] at h
    split at h
    · rename_i v u1 l2 u2 h1 h2
      simp only[dqa,dqh] at h;rw[<- h.2]
      intro x hx
      simp only[dqJ,dqg]
      rcases dqg.1 hx with hx | hx
      · exact⟨.inl (zoT h1 x hx).1,(zoT h1 x hx).2⟩
      · exact⟨.inr (ziq h2 x hx).1,(ziq h2 x hx).2⟩
    · cases h
end
end Go.Pm
namespace Go.Pm

section
variable {P:Program}{Γ:Ctrs}{o:Oper}{ev:Operand->DV}{ob:Nat->Option AO}{A:OpAct}

theorem fmc {α β : Type} {f h : α → List β} : ∀ {l : List α}, (∀ x ∈ l, f x = h x) → l.flatMap f = l.flatMap h
  | [],_=>rfl
  | x :: l,hf=>by simp only[dqJ];rw[hf x dqj,fmc λ y hy=>hf y (dqf _ hy)]

theorem zwm {x:Operand}(hop:o.op=.move x\/o.op=.assign x):ActOk P Γ o ev ob (.val [] (ev x) [] []):=by
 have hx:x∈o.op.operands.toList:=by rcases hop with h | h <;> simp[h,Op.operands]
 refine ActOk.pure (zda hx λ L hL=>hL) λ ev' ob' he _=>?_
 rcases hop with h | h <;> simp only[act,h,he x hx]

theorem zE4 {b:Bool}{x y:DV} : ∀ L∈dvV (zlA b x y),L∈dvV x\/L∈dvV y:=by
 unfold zlA
 split
 ·intro L hL;simp[dvV,d1V,clV] at hL
 ·cases b with
  | true=>exact λ L hL=>.inl hL
  | false=>exact λ L hL=>.inr hL

theorem zE5 {c x y:Operand}{t:Bool}(hop:o.op=.pick c x y) (hc:ev c=.one (.c (.p (.bool t)))):ActOk P Γ o ev ob (.val [] (zlA t (ev x) (ev y)) [] []):=by
 have hcm:c∈o.op.operands.toList:=by simp[hop,Op.operands]
 have hx:x∈o.op.operands.toList:=by simp[hop,Op.operands]
 have hy:y∈o.op.operands.toList:=by simp[hop,Op.operands]
 refine ActOk.pure (λ L hL=>?_) λ ev' ob' he _=>?_
 ·rcases zE4 L hL with h | h
  ·exact .inl (.inl ⟨x,hx,h⟩)
  ·exact .inl (.inl ⟨y,hy,h⟩)
 ·simp only[act,hop,he c hcm,he x hx,he y hy,hc]

theorem zmZ {ao : AO} {d : Nat → DV} (hlo : ∀ L ∈ aoV ao, Men o ev ob [] L) (hld : ∀ t, ∀ L ∈ dvV (d t), L = t)
    (hc:∀ ev' ob',(∀ x∈o.op.operands.toList,ev' x=ev x)->act P Γ o ev' ob'=zpL ob' o.dst ao d) (hA:zpL ob o.dst ao d=A) (hs:A.safe):ActOk P Γ o ev ob A:=by
  have hA':=hA
  unfold zpL at hA
  split at hA
  · rename_i t ht
    split at hA
    · rename_i hn
      subst hA
      have men:∀ L,Men o ev ob [] L->Men o ev ob [(t,true)] L:=λ L h=>h.imp_right λ ⟨y,hy,_⟩=>by simp at hy
      refine⟨λ x hx=>?_,.inl rfl,λ x hx L hL=>?_,λ d' hd' L hL=>?_,λ ev' ob' he hob=>?_⟩
      · simp only[OpAct.u,dqi] at hx;subst hx;simp[OpAct.fp]
      · simp only[OpAct.u,dqi] at hx;subst hx;exact men L (hlo L hL)
      · simp only[OpAct.gives] at hd';subst hd';rw[hld t L hL];exact .inr (by simp[OpAct.fp])
      · rw [hc ev' ob' he]
        have:=hob (t,true) (by simp[OpAct.fp])
        simp only at this
        simp only[zpL,ht,this,hn]
    · exact dq9 hA hs
  · exact dq9 hA hs

theorem zwn {t:TypeId}{z:List Cl}(h:zde P t=some z):z.flatMap clV=[]:=by
 have h1:=zoy h
 cases hz:z.flatMap clV with
 | nil=>rfl
 | cons L l =>
  have:L∈z.flatMap clV:=by rw[hz];exact dqj
  obtain⟨c,hc,hL⟩:=dqo.1 this
  have:L∈z.flatMap zaF:=dqo.2 ⟨c,hc,zp9 L hL⟩
  rw[h1] at this;simp at this

theorem zqa (d:D1):d.cells.flatMap clV=d1V d:=by cases d <;> simp[D1.cells,d1V]

theorem zJy {t k:Nat}{cells:List Cl} : ∀ L∈(zEL P t k cells).flatMap clV,L∈cells.flatMap clV:=by
 unfold zEL
 split
 ·split
  ·intro L hL
   obtain⟨c,hc,hL⟩:=dqo.1 hL
   rcases List.mem_or_eq_of_mem_set hc with h | h
   ·exact dqo.2 ⟨c,h,hL⟩
   ·subst h;simp[clV] at hL
  ·exact λ L hL=>hL
 ·exact λ L hL=>hL
theorem zwo : ∀ (fs : List Field) {cells : List Cl}, ∀ L ∈ (zvk P fs cells).flatMap clV, L ∈ cells.flatMap clV
  | [],_,L,h=>h
  | _ :: r,_,L,h=>zJy L (zwo r L h)
theorem zBG {t:TypeId}{cells:List Cl} : ∀ L∈(zhK P t cells).flatMap clV,L∈cells.flatMap clV:=by
 unfold zhK
 split
 ·exact zwo _
 ·exact λ L hL=>hL
theorem ztg {t : TypeId} : ∀ (parts : List (Nat × Operand)) (z l : List Cl), zct P t ev z parts = some l → ∀ L ∈ l.flatMap clV, L ∈ z.flatMap clV ∨ ∃ x ∈ parts, L ∈ dvV (ev x.2)
  | [],z,l,h=>by simp[zct] at h;subst h;exact λ L hL=>.inl hL
  | (i,x) :: r,z,l,h=>by
    simp only[zct] at h
    split at h
    · rename_i d hd
      have splV:∀ (l' l:List Cl) (off:Nat),∀ L∈(spl l off l').flatMap clV,L∈l.flatMap clV\/L∈l'.flatMap clV:=by
        intro l'
        induction l' with
        | nil=>intro l off L hL;exact .inl hL
        | cons c l' ih =>
          intro l off L hL
          simp only[spl] at hL
          rcases ih _ _ L hL with h | h
          · obtain ⟨c', hc', hL'⟩ := dqo.1 h
            rcases List.mem_or_eq_of_mem_set hc' with h2 | h2
            · exact .inl (dqo.2 ⟨c',h2,hL'⟩)
            · subst h2;exact .inr (dqo.2 ⟨c',dqj,hL'⟩)
          · exact .inr (by simp only[dqJ,dqg];exact .inr h)
      have step:∀ off,zct P t ev (spl z off d.cells) r=some l->∀ L∈l.flatMap clV,L∈z.flatMap clV\/∃ y∈(i,x) :: r,L∈dvV (ev y.2):=by
        intro off hb L hL
        rcases ztg r _ l hb L hL with h | ⟨y,hy,hL⟩
        · rcases splV _ _ _ L h with h | h
          · exact .inl h
          · refine .inr ⟨(i, x), dqj, ?_⟩
            simp only[hd,dvV];rw[<- zqa];exact h
        · exact .inr ⟨y,dqf _ hy,hL⟩
      split at h
      · split at h
        · split at h
          · split at h
            · exact step _ h
            · cases h
          · cases h
        · cases h
      · split at h
        · split at h
          · exact step _ h
          · cases h
        · cases h
      · cases h
    · cases h

theorem zjv {ev' : Operand → DV} {t : TypeId} : ∀ (parts : List (Nat × Operand)) (z : List Cl), (∀ x ∈ parts, ev' x.2 = ev x.2) → zct P t ev' z parts = zct P t ev z parts
  | [],z,_=>rfl
  | (i,x) :: r,z,h=>by
    have hx:ev' x=ev x:=h (i,x) dqj
    have ih:∀ z,zct P t ev' z r=zct P t ev z r:=λ z=>zjv r z λ y hy=>h y (dqf _ hy)
    simp only[zct,hx,ih]

theorem zhV {ev':Operand->DV}{ob':Nat->Option AO}{s:Nat} : ∀ (parts:List (Nat×Operand)) (i:Nat) (ls:List (List PV)) (u:Upd) (labs:List Nat),zcK ob ev s i parts=some (ls,u,labs) ->
  (∀ x∈parts,ev' x.2=ev x.2)->(∀ L∈labs,ob' L=ob L)->zcK ob' ev' s i parts=some (ls,u,labs)
 | [],i,ls,u,labs,h,_,_=>by simpa [zcK] using h
 | (j,x) :: r,i,ls,u,labs,h,he,hob=>by
  have hx:ev' x=ev x:=he (j,x) dqj
  simp only[zcK] at h ⊢
  rw[hx]
  split at h
  ·rename_i hij
   split at h
   ·rename_i d hd
    split at h
    ·rename_i l u1 ls' us labs' h1 h2
     split at h
     ·rename_i hlen
      simp only[dqa,dqh] at h
      obtain⟨rfl,rfl,rfl⟩:=h
      have e1:zdA ob' d.cells=some (l,u1):=by
       rw[<- h1]
       refine zhe λ L hL=>hob L (dqg.2 (.inl ?_))
       cases d <;> simpa [D1.cells,zbg] using hL
      have e2:=zhV r (i+1) ls' us labs' h2 (λ y hy=>he y (dqf _ hy)) (λ L hL=>hob L (dqg.2 (.inr hL)))
      simp only[e1,e2,hlen]
     ·cases h
    ·cases h
   ·cases h
  ·cases h
theorem zfT {s : Nat} : ∀ (parts : List (Nat × Operand)) (i : Nat) (ls : List (List PV)) (u : Upd) (labs : List Nat), zcK ob ev s i parts = some (ls, u, labs) → ∀ x ∈ u, x.1 ∈ labs ∧ aoV x.2 = []
  | [],i,ls,u,labs,h=>by simp[zcK] at h;rw[h.2.1];intro x hx;simp at hx
  | (j,x) :: r,i,ls,u,labs,h=>by
    simp only[zcK] at h
    split at h
    · split at h
      · rename_i d hd
        split at h
        · rename_i l u1 ls' us labs' h1 h2
          split at h
          · simp only [dqa, dqh] at h
            obtain⟨rfl,rfl,rfl⟩:=h
            intro y hy
            rcases dqg.1 hy with hy | hy
            · obtain ⟨h3, h4⟩ := ze5 h1 y hy
              refine⟨dqg.2 (.inl ?_),h4⟩
              cases d <;> simpa [D1.cells,zbg] using h3
            · obtain ⟨h3, h4⟩ := zfT r _ _ _ _ h2 y hy
              exact⟨dqg.2 (.inr h3),h4⟩
          · cases h
        · cases h
      · cases h
    · cases h

theorem zBH {t : TypeId} {parts : Array (Nat × Operand)} {z l : List Cl} (hop : o.op = .build t parts) (hf : zhJ P t = true) (hz : zde P t = some z) (hl : zct P t ev z parts.toList = some l) :
  ActOk P Γ o ev ob (.val [] (.one (.agg l)) [] []):=by
 have hm:∀ x∈parts.toList,x.2∈o.op.operands.toList:=λ x hx=>by
  simp only[hop,Op.operands]
  exact dqz.2 ⟨x,hx,rfl⟩
 refine ActOk.pure (λ L hL=>?_) λ ev' ob' he _=>?_
 ·rcases ztg _ _ _ hl L hL with h | ⟨x, hx, h⟩
  ·rw[zwn hz] at h;simp at h
  ·exact .inl (.inl ⟨x.2,hm x hx,h⟩)
 ·simp only[act,hop,hf,hz,zjv parts.toList z (λ x hx=>he x.2 (hm x hx)),hl]

theorem zoU {l:List Nat}{L:Nat}(h:L∈l):(L,true)∈wr l:=dqz.2 ⟨L,h,rfl⟩

theorem zuJ {t:TypeId}{n:Nat}{parts:Array (Nat×Operand)}(hop:o.op=.buildSlice t n parts) (hf:zJb Γ o.dst=true) (hA:zg9 P o t n parts.toList ev ob=A) (hs:A.safe):ActOk P Γ o ev ob A:=by
 have hm:∀ x∈parts.toList,x.2∈o.op.operands.toList:=λ x hx=>by
  simp only[hop,Op.operands]
  exact dqz.2 ⟨x,hx,rfl⟩
 have hc:∀ ev' ob',act P Γ o ev' ob'=zg9 P o t n parts.toList ev' ob':=λ ev' ob'=>by
  simp only[act,hop,hf]
 unfold zg9 at hA
 split at hA
 ·rename_i te x dst hu hp hd
  have hx:x∈o.op.operands.toList:=hm (0,x) (by rw[hp];simp)
  split at hA
  ·rename_i ie z M hi hz hex
   split at hA
   ·rename_i hM hn
    split at hA
    ·rename_i hb
     subst hA
     refine⟨λ x hx=>?_,.inl rfl,λ x hx L hL=>?_,λ d' hd' L hL=>?_,λ ev' ob' he hob=>?_⟩
     ·simp only [OpAct.u, dqq, List.not_mem_nil, or_false] at hx
      rcases hx with rfl | rfl <;> simp[OpAct.fp]
     ·simp only [OpAct.u, dqq, List.not_mem_nil, or_false] at hx
      rcases hx with rfl | rfl <;> simp[aoV] at hL
     ·simp only [OpAct.gives] at hd'; subst hd'
      simp only[dvV,d1V,clV,dqi] at hL
      subst hL
      exact .inr (by simp[OpAct.fp])
     ·have e1 := hob (M, true) (by simp [OpAct.fp])
      have e2:=hob (dst,true) (by simp[OpAct.fp])
      simp only at e1 e2
      rw[hc]
      simp only[zg9,hu,hp,hd,hi,hz,he x hx,hex,e1,hM,e2,hn,hb]
    ·exact dq9 hA hs
   ·exact dq9 hA hs
  ·exact dq9 hA hs
 ·exact dq9 hA hs

theorem zm0 {t:TypeId}{n:Nat}{parts:Array (Nat×Operand)}(hop:o.op=.buildSlice t n parts) (hA:act P Γ o ev ob=A) (hs:A.safe):ActOk P Γ o ev ob A:=by
 have hm:∀ x∈parts.toList,x.2∈o.op.operands.toList:=λ x hx=>by
  simp only[hop,Op.operands]
  exact dqz.2 ⟨x,hx,rfl⟩
 simp only[act,hop] at hA
 split at hA
 ·rename_i hf
  exact zuJ hop hf hA hs
 rename_i hvf
 split at hA
 ·rename_i e hu
  split at hA
  ·rename_i ie hie
   split at hA
   ·rename_i ls u labs hp
    split at hA
    ·rename_i z dst hb hz hd
     split at hA
     ·rename_i hn
      subst hA
      refine⟨λ x hx=>?_,.inl rfl,λ x hx L hL=>?_,λ d' hd' L hL=>?_,λ ev' ob' he hob=>?_⟩
      ·simp only [OpAct.u, dqq] at hx
       simp only[OpAct.fp,dqg]
       rcases hx with rfl | hx
       ·exact .inr (by simp)
       ·exact .inl (zoU (zfT _ _ _ _ _ hp x hx).1)
      ·simp only [OpAct.u, dqq] at hx
       rcases hx with rfl | hx
       ·simp[aoV] at hL
       ·rw[(zfT _ _ _ _ _ hp x hx).2] at hL;simp at hL
      ·simp only [OpAct.gives] at hd'; subst hd'
       simp only[dvV,d1V,clV,dqi] at hL
       subst hL
       exact .inr (by simp[OpAct.fp])
      ·have e1 := zhV (ev' := ev') (ob' := ob') _ _ _ _ _ hp (fun x hx => he x.2 (hm x hx)) (fun L hL => hob (L, true) (dqg.2 (.inl (zoU hL))))
       have e2:=hob (dst,true) (dqg.2 (.inr (by simp)))
       simp only at e2
       rw[hd] at hvf
       simp only[act,hop,hvf,hu,hie,e1,hb,hz,hd,e2,hn]
     ·exact dq9 hA hs
    ·exact dq9 hA hs
   ·exact dq9 hA hs
  ·exact dq9 hA hs
 ·exact dq9 hA hs

theorem zJz {L:Nat}{ao:AO}{w:Bool}{d:D1}(hL:ob L=some ao) (h:∀ M∈d1V d,M∈aoV ao):∀ M∈dvV (.one d),Men o ev ob [(L,w)] M\/(M,true)∈[(L,w)] :=
 λ M hM=>.inl (.inr ⟨(L,w),by simp,ao,hL,h M hM⟩)

theorem zE6 (l : List Cl) : ∀ (n k : Nat), (rdI l n k).flatMap clV = []
  | 0,_=>rfl
  | n+1,k=>by rw[rdI,dqJ,zE6 l n (k+1)];rfl
theorem zwp {ag:Bool}{s k:Nat}{l:List Cl}{d:D1}(h:rdX ag s l k=some d):d1V d=[]:=by
 cases ag with
 | true =>
  have h:some (D1.agg (rdI l s k))=some d:=h
  simp only[dqa] at h;subst h
  exact zE6 l s k
 | false =>
  have h:(match rdI l s k with | [x]=>some (D1.c x) | _=>none)=some d:=h
  split at h
  ·rename_i x e
   simp only[dqa] at h;subst h
   have:=zE6 l s k
   rw[e] at this
   simpa [d1V] using this
  ·cases h
theorem zE7 {t:TypeId}{x:Operand}(hop:o.op=.load t x) (hA:act P Γ o ev ob=A) (hs:A.safe):ActOk P Γ o ev ob A:=by
 have hm:x∈o.op.operands.toList:=by simp[hop,Op.operands]
 simp only[act,hop] at hA
 split at hA
 ·rename_i ag n hag hn
  split at hA
  ·rename_i L off hx
   split at hA
   ·rename_i ty cells hL
    split at hA
    ·rename_i d hr
     subst hA
     refine ActOk.pure (zJz hL (ztd hr)) λ ev' ob' he hob=>?_
     have e:=hob (L,false) (by simp);simp only at e
     simp only[act,hop,hag,hn,he x hm,hx,e,hL,hr]
    ·exact dq9 hA hs
   ·rename_i cells hL
    split at hA
    ·rename_i d hr
     subst hA
     refine ActOk.pure (λ M hM=>?_) λ ev' ob' he hob=>?_
     ·simp only[dvV] at hM;rw[zkE hr] at hM;simp at hM
     have e:=hob (L,false) (by simp);simp only at e
     simp only[act,hop,hag,hn,he x hm,hx,e,hL,hr]
    ·exact dq9 hA hs
   ·exact dq9 hA hs
  ·rename_i cells off hx
   split at hA
   ·rename_i d hr
    subst hA
    refine ActOk.pure (λ M hM=>?_) λ ev' ob' he hob=>?_
    ·simp only[dvV] at hM;rw[zkE hr] at hM;simp at hM
    simp only[act,hop,hag,hn,he x hm,hx,hr]
   ·exact dq9 hA hs
  ·rename_i L s i k hx
   split at hA
   ·rename_i e s' b len get hL
    split at hA
    ·rename_i d hss hr
     subst hA
     refine ActOk.pchk (λ M hM=>?_) λ ev' ob' he hob=>?_
     ·simp only[dvV] at hM;rw[zkE hr] at hM;simp at hM
     have e:=hob (L,false) (by simp);simp only at e
     simp only[act,hop,hag,hn,he x hm,hx,e,hL,hss,hr]
    ·exact dq9 hA hs
   ·rename_i s' len get hL
    split at hA
    ·rename_i d hss hr
     subst hA
     refine ActOk.pchk (λ M hM=>?_) λ ev' ob' he hob=>?_
     ·simp only[dvV] at hM;rw[zkE hr] at hM;simp at hM
     have e:=hob (L,false) (by simp);simp only at e
     simp only[act,hop,hag,hn,he x hm,hx,e,hL,hss,hr]
    ·exact dq9 hA hs
   ·rename_i hL
    split at hA
    ·rename_i hss
     subst hA
     refine ActOk.pchk (λ M hM=>.inl (.inl ⟨x,hm,?_⟩)) λ ev' ob' he hob=>?_
     ·rw[hx];exact hM
     have e:=hob (L,false) (by simp);simp only at e
     simp only[act,hop,hag,hn,he x hm,hx,e,hL,hss]
    ·exact dq9 hA hs
   ·rename_i hL
    split at hA
    ·rename_i hss
     subst hA
     refine ActOk.pchk (λ M hM=>.inl (.inl ⟨x,hm,?_⟩)) λ ev' ob' he hob=>?_
     ·rw[hx];exact hM
     have e:=hob (L,false) (by simp);simp only at e
     simp only[act,hop,hag,hn,he x hm,hx,e,hL,hss]
    ·exact dq9 hA hs
   ·exact dq9 hA hs
  ·rename_i L s i j k hx
   split at hA
   ·rename_i hL
    split at hA
    ·rename_i d hss hr
     subst hA
     refine ActOk.pchk (λ M hM=>?_) λ ev' ob' he hob=>?_
     ·simp only[dvV] at hM;rw[zkE hr] at hM;simp at hM
     have e:=hob (L,false) (by simp);simp only at e
     simp only[act,hop,hag,hn,he x hm,hx,e,hL,hss,hr]
    ·exact dq9 hA hs
   ·exact dq9 hA hs
  ·rename_i L b m' n' j c hx
   split at hA
   ·rename_i hL
    split at hA
    ·rename_i d hss hr
     subst hA
     refine ActOk.pure (λ M hM=>?_) λ ev' ob' he hob=>?_
     ·simp only[dvV] at hM;rw[zwp hr] at hM;simp at hM
     have e:=hob (L,false) (by simp);simp only at e
     simp only[act,hop,hag,hn,he x hm,hx,e,hL,hss,hr]
    ·exact dq9 hA hs
   ·rename_i hL
    split at hA
    ·rename_i d hss hr
     subst hA
     refine ActOk.pure (λ M hM=>?_) λ ev' ob' he hob=>?_
     ·simp only[dvV] at hM;rw[zwp hr] at hM;simp at hM
     have e:=hob (L,false) (by simp);simp only at e
     simp only[act,hop,hag,hn,he x hm,hx,e,hL,hss,hr]
    ·exact dq9 hA hs
   ·exact dq9 hA hs
  ·rename_i cells b m' n' j c hx
   split at hA
   ·rename_i d hss hr
    subst hA
    refine ActOk.pure (λ M hM=>?_) λ ev' ob' he hob=>?_
    ·simp only[dvV] at hM;rw[zwp hr] at hM;simp at hM
    simp only[act,hop,hag,hn,he x hm,hx,hss,hr]
   ·exact dq9 hA hs
  ·rename_i L s i b m' n' j c hx
   split at hA
   ·rename_i hL
    split at hA
    ·rename_i d hss hr
     subst hA
     refine ActOk.pchk (λ M hM=>?_) λ ev' ob' he hob=>?_
     ·simp only[dvV] at hM;rw[zwp hr] at hM;simp at hM
     have e:=hob (L,false) (by simp);simp only at e
     simp only[act,hop,hag,hn,he x hm,hx,e,hL,hss,hr]
    ·exact dq9 hA hs
   ·exact dq9 hA hs
  ·exact dq9 hA hs
 ·exact dq9 hA hs

theorem zMz:∀ (l' l:List Cl) (off:Nat),∀ L∈(spl l off l').flatMap clV,L∈l.flatMap clV\/L∈l'.flatMap clV:=by
 intro l'
 induction l' with
 | nil=>intro l off L hL;exact .inl hL
 | cons c l' ih =>
  intro l off L hL
  simp only[spl] at hL
  rcases ih _ _ L hL with h | h
  ·obtain ⟨c', hc', hL'⟩ := dqo.1 h
   rcases List.mem_or_eq_of_mem_set hc' with h2 | h2
   ·exact .inl (dqo.2 ⟨c',h2,hL'⟩)
   ·subst h2;exact .inr (dqo.2 ⟨c',dqj,hL'⟩)
  ·exact .inr (by simp only[dqJ,dqg];exact .inr h)

theorem zBI {t:TypeId}{x y:Operand}(hop:o.op=.store t x y) (hA:act P Γ o ev ob=A) (hs:A.safe):ActOk P Γ o ev ob A:=by
 have hx:x∈o.op.operands.toList:=by simp[hop,Op.operands]
 have hy:y∈o.op.operands.toList:=by simp[hop,Op.operands]
 simp only[act,hop] at hA
 split at hA
 ·rename_i n L off d hn hex hey
  split at hA
  ·rename_i ty cells hL
   split at hA
   ·rename_i hb
    subst hA
    refine⟨λ z hz=>?_,.inl rfl,λ z hz M hM=>?_,λ d' hd' M hM=>?_,λ ev' ob' he hob=>?_⟩
    ·simp only[OpAct.u,dqi] at hz;subst hz;simp[OpAct.fp]
    ·simp only [OpAct.u, dqi] at hz; subst hz
     simp only[aoV] at hM
     rcases zMz _ _ _ M hM with h | h
     ·exact .inr ⟨(L,true),by simp[OpAct.fp],_,hL,h⟩
     ·refine .inl ⟨y, hy, ?_⟩
      rw[hey];simp only[dvV];rw[<- zqa];exact h
    ·simp only[OpAct.gives] at hd';subst hd';simp[dvV,d1V,clV] at hM
    ·have e := hob (L, true) (by simp [OpAct.fp]); simp only at e
     simp only[act,hop,hn,he x hx,he y hy,hex,hey,e,hL,hb]
   ·exact dq9 hA hs
  ·exact dq9 hA hs
 ·rename_i n L s i k d hn hex hey
  split at hA
  ·rename_i e s' b len get hL
   split at hA
   ·rename_i l hl
    split at hA
    ·rename_i hb
     subst hA
     refine⟨λ z hz=>?_,.inl rfl,λ z hz M hM=>?_,λ d' hd' M hM=>?_,λ ev' ob' he hob=>?_⟩
     ·simp only[OpAct.u,dqi] at hz;subst hz;simp[OpAct.fp]
     ·simp only[OpAct.u,dqi] at hz;subst hz;simp[aoV] at hM
     ·simp only[OpAct.gives] at hd';subst hd';simp[dvV,d1V,clV] at hM
     ·have e := hob (L, true) (by simp [OpAct.fp]); simp only at e
      simp only[act,hop,hn,he x hx,he y hy,hex,hey,e,hL,hl,hb]
    ·exact dq9 hA hs
   ·exact dq9 hA hs
  ·rename_i te bb e s' by' len ln get hL
   split at hA
   ·rename_i M'
    split at hA
    ·rename_i e2 s2 b2 mm get2 hM'
     split at hA
     ·rename_i hb
      split at hA
      ·rename_i hq
       subst hA
       refine⟨λ z hz=>?_,.inl rfl,λ z hz M hM=>?_,λ d' hd' M hM=>?_,λ ev' ob' he hob=>?_⟩
       ·simp only [OpAct.u, dqq, List.not_mem_nil, or_false] at hz
        rcases hz with rfl | rfl <;> simp[OpAct.fp]
       ·simp only [OpAct.u, dqq, List.not_mem_nil, or_false] at hz
        rcases hz with rfl | rfl <;> simp[aoV] at hM
       ·simp only[OpAct.gives] at hd';subst hd';simp[dvV,d1V,clV] at hM
       ·have e := hob (L, true) (by simp [OpAct.fp]); simp only at e
        have e2:=hob (M',true) (by simp[OpAct.fp]);simp only at e2
        simp only[act,hop,hn,he x hx,he y hy,hex,hey,e,hL,e2,hM',hb]
        rw[if_pos hq]
      ·exact dq9 hA hs
     ·exact dq9 hA hs
    ·exact dq9 hA hs
   ·exact dq9 hA hs
  ·rename_i te bb kt vt q len mk nn F hL
   split at hA
   ·rename_i M'
    split at hA
    ·rename_i kt' vt' q' mm F' hM'
     split at hA
     ·rename_i hb
      split at hA
      ·rename_i hq
       subst hA
       refine⟨λ z hz=>?_,.inl rfl,λ z hz M hM=>?_,λ d' hd' M hM=>?_,λ ev' ob' he hob=>?_⟩
       ·simp only [OpAct.u, dqq, List.not_mem_nil, or_false] at hz
        rcases hz with rfl | rfl <;> simp[OpAct.fp]
       ·simp only [OpAct.u, dqq, List.not_mem_nil, or_false] at hz
        rcases hz with rfl | rfl <;> simp[aoV] at hM
       ·simp only[OpAct.gives] at hd';subst hd';simp[dvV,d1V,clV] at hM
       ·have e := hob (L, true) (by simp [OpAct.fp]); simp only at e
        have e2:=hob (M',true) (by simp[OpAct.fp]);simp only at e2
        simp only[act,hop,hn,he x hx,he y hy,hex,hey,e,hL,e2,hM',hb]
        rw[if_pos hq]
      ·exact dq9 hA hs
     ·exact dq9 hA hs
    ·exact dq9 hA hs
   ·exact dq9 hA hs
  ·exact dq9 hA hs
 ·rename_i n L s i j k d hn hex hey
  split at hA
  ·rename_i hL
   split at hA
   ·rename_i l hl
    split at hA
    ·rename_i hb
     subst hA
     refine⟨λ z hz=>?_,.inl rfl,λ z hz M hM=>?_,λ d' hd' M hM=>?_,λ ev' ob' he hob=>?_⟩
     ·simp only[OpAct.u,dqi] at hz;subst hz;simp[OpAct.fp]
     ·simp only[OpAct.u,dqi] at hz;subst hz;simp[aoV] at hM
     ·simp only[OpAct.gives] at hd';subst hd';simp[dvV,d1V,clV] at hM
     ·have e := hob (L, true) (by simp [OpAct.fp]); simp only at e
      simp only[act,hop,hn,he x hx,he y hy,hex,hey,e,hL,hl,hb]
    ·exact dq9 hA hs
   ·exact dq9 hA hs
  ·exact dq9 hA hs
 ·rename_i n L b m' n' j c d hn hex hey
  split at hA
  ·rename_i ty cells vs hL hvs
   split at hA
   ·rename_i hb
    subst hA
    refine⟨λ z hz=>?_,.inl rfl,λ z hz M hM=>?_,λ d' hd' M hM=>?_,λ ev' ob' he hob=>?_⟩
    ·simp only[OpAct.u,dqi] at hz;subst hz;simp[OpAct.fp]
    ·simp only [OpAct.u, dqi] at hz; subst hz
     simp only[aoV,dqo,dqz] at hM
     obtain⟨_,⟨_,_,rfl⟩,hM⟩:=hM
     simp[clV] at hM
    ·simp only[OpAct.gives] at hd';subst hd';simp[dvV,d1V,clV] at hM
    ·have e := hob (L, true) (by simp [OpAct.fp]); simp only at e
     simp only[act,hop,hn,he x hx,he y hy,hex,hey,e,hL,hvs,hb]
   ·exact dq9 hA hs
  ·exact dq9 hA hs
 ·rename_i n L s i b m' n' j c d hn hex hey
  split at hA
  ·rename_i e1 s' by' len get vs hL hvs
   split at hA
   ·rename_i hb
    subst hA
    refine⟨λ z hz=>?_,.inl rfl,λ z hz M hM=>?_,λ d' hd' M hM=>?_,λ ev' ob' he hob=>?_⟩
    ·simp only[OpAct.u,dqi] at hz;subst hz;simp[OpAct.fp]
    ·simp only[OpAct.u,dqi] at hz;subst hz;simp[aoV] at hM
    ·simp only[OpAct.gives] at hd';subst hd';simp[dvV,d1V,clV] at hM
    ·have e := hob (L, true) (by simp [OpAct.fp]); simp only at e
     simp only[act,hop,hn,he x hx,he y hy,hex,hey,e,hL,hvs,hb]
   ·exact dq9 hA hs
  ·exact dq9 hA hs
 ·exact dq9 hA hs

theorem zqb {x:Operand}(hop:o.op=.nilCheck x) (hA:act P Γ o ev ob=A) (hs:A.safe):ActOk P Γ o ev ob A:=by
 have hx:x∈o.op.operands.toList:=by simp[hop,Op.operands]
 simp only[act,hop] at hA
 split at hA
 ·rename_i L off h; subst hA
  exact ActOk.pure (zda hx λ L hL=>by rw[h];exact hL) λ ev' ob' he _=>by simp only[act,hop,he x hx,h]
 ·rename_i L off h; subst hA
  exact ActOk.pure (zda hx λ L hL=>by rw[h];exact hL) λ ev' ob' he _=>by simp only[act,hop,he x hx,h]
 ·rename_i L s i k h; subst hA
  exact ActOk.pure (zda hx λ L hL=>by rw[h];exact hL) λ ev' ob' he _=>by simp only[act,hop,he x hx,h]
 ·rename_i h; subst hA
  exact ActOk.pure (zda hx λ L hL=>by rw[h];exact hL) λ ev' ob' he _=>by simp only[act,hop,he x hx,h]
 ·rename_i h; subst hA
  exact ActOk.pure (zda hx λ L hL=>by rw[h];exact hL) λ ev' ob' he _=>by simp only[act,hop,he x hx,h]
 ·rename_i h; subst hA
  exact ActOk.pure (zda hx λ L hL=>by rw[h];exact hL) λ ev' ob' he _=>by simp only[act,hop,he x hx,h]
 ·rename_i h; subst hA
  exact ActOk.pure (zda hx λ L hL=>by rw[h];exact hL) λ ev' ob' he _=>by simp only[act,hop,he x hx,h]
 ·exact dq9 hA hs

theorem zBJ {op : BinOp} {k : IntKind} {p q : Int} (hs : (zvi op k p q).safe)
    (hc:∀ ev' ob',(∀ x∈o.op.operands.toList,ev' x=ev x)->act P Γ o ev' ob'=zvi op k p q):ActOk P Γ o ev ob (zvi op k p q):=by
  cases op <;> first
    | exact hs.elim
    | exact ActOk.pure (zcd _) λ ev' ob' he _=>hc ev' ob' he
    | exact ActOk.pchk (zcd _) λ ev' ob' he _=>hc ev' ob' he

theorem zBK {op:BinOp}{t t':TypeId}{x y:Operand}(hop:o.op=.binOp op t x y t') (hA:act P Γ o ev ob=A) (hs:A.safe):ActOk P Γ o ev ob A:=by
 have hx:x∈o.op.operands.toList:=by simp[hop,Op.operands]
 have hy:y∈o.op.operands.toList:=by simp[hop,Op.operands]
 simp only[act,hop] at hA
 split at hA
 ·rename_i k p k' q hex hey
  split at hA
  ·rename_i hk
   subst hA
   exact zBJ hs λ ev' ob' he=>by simp only[act,hop,he x hx,he y hy,hex,hey,hk,if_true]
  ·exact dq9 hA hs
 ·rename_i p q hex hey
  split at hA
  ·rename_i hu; subst hA
   exact ActOk.pure (zcd _) λ ev' ob' he _=>by simp only[act,hop,he x hx,he y hy,hex,hey,hu]
  ·rename_i hu; subst hA
   exact ActOk.pure (zcd _) λ ev' ob' he _=>by simp only[act,hop,he x hx,he y hy,hex,hey,hu]
  ·exact dq9 hA hs
 ·rename_i cs ds hex hey
  have hc:∀ ev' ob',(∀ x∈o.op.operands.toList,ev' x=ev x)->act P Γ o ev' ob'=A:=λ ev' ob' he=>by
   simp only[act,hop,he x hx,he y hy,hex,hey];exact hA
  unfold zBd at hA
  split at hA
  ·split at hA
   ·subst hA;exact ActOk.pure (zcd _) λ ev' ob' he _=>hc ev' ob' he
   ·subst hA;exact ActOk.pure (zcd _) λ ev' ob' he _=>hc ev' ob' he
   ·exact dq9 hA hs
  ·exact dq9 hA hs
 ·rename_i hex hey
  have hc:∀ ev' ob',(∀ x∈o.op.operands.toList,ev' x=ev x)->act P Γ o ev' ob'=A:=λ ev' ob' he=>by
   simp only[act,hop,he x hx,he y hy,hex,hey];exact hA
  split at hA
  ·subst hA
   exact⟨λ x hx=>by simp[OpAct.u] at hx,.inl rfl,λ x hx=>by simp[OpAct.u] at hx,λ d hd L hL=>by (simp only[OpAct.gives] at hd;obtain⟨q,rfl⟩:=hd;simp[dvV,d1V,clV] at hL),λ ev' ob' he _=>hc ev' ob' he⟩
  ·subst hA
   exact⟨λ x hx=>by simp[OpAct.u] at hx,.inl rfl,λ x hx=>by simp[OpAct.u] at hx,λ d hd L hL=>by (simp only[OpAct.gives] at hd;obtain⟨q,rfl⟩:=hd;simp[dvV,d1V,clV] at hL),λ ev' ob' he _=>hc ev' ob' he⟩
  ·exact dq9 hA hs
 ·rename_i hex hey
  have hc:∀ ev' ob',(∀ x∈o.op.operands.toList,ev' x=ev x)->act P Γ o ev' ob'=A:=λ ev' ob' he=>by
   simp only[act,hop,he x hx,he y hy,hex,hey];exact hA
  split at hA
  ·subst hA;exact ActOk.pchk (λ M hM=>by simp[dvV,d1V,clV] at hM) λ ev' ob' he _=>hc ev' ob' he
  ·subst hA;exact ActOk.pchk (λ M hM=>by simp[dvV,d1V,clV] at hM) λ ev' ob' he _=>hc ev' ob' he
  ·exact dq9 hA hs
 ·rename_i hex hey
  have hc:∀ ev' ob',(∀ x∈o.op.operands.toList,ev' x=ev x)->act P Γ o ev' ob'=A:=λ ev' ob' he=>by
   simp only[act,hop,he x hx,he y hy,hex,hey];exact hA
  split at hA
  ·subst hA;exact ActOk.pure (zcd _) λ ev' ob' he _=>hc ev' ob' he
  ·subst hA;exact ActOk.pure (zcd _) λ ev' ob' he _=>hc ev' ob' he
  ·exact dq9 hA hs
 ·exact dq9 hA hs

theorem zBL {t:TypeId}{x y:Operand}(hop:o.op=.index t x y) (hA:act P Γ o ev ob=A) (hs:A.safe):ActOk P Γ o ev ob A:=by
 have hx:x∈o.op.operands.toList:=by simp[hop,Op.operands]
 have hy:y∈o.op.operands.toList:=by simp[hop,Op.operands]
 have hc:∀ ev' ob',(∀ x∈o.op.operands.toList,ev' x=ev x)->act P Γ o ev' ob'=A:=λ ev' ob' he=>by
  rw[<- hA];simp only[act,hop,he x hx,he y hy]
 simp only[act,hop,zmu] at hA
 split at hA
 ·split at hA
  ·split at hA
   ·split at hA
    ·rename_i d _ hr
     subst hA
     refine ActOk.pchk (λ M hM=>?_) λ ev' ob' he _=>hc ev' ob' he
     simp only[dvV] at hM;rw[zwp hr] at hM;simp at hM
    ·exact dq9 hA hs
   ·exact dq9 hA hs
  ·split at hA
   ·rename_i cs k j _ _ hex hey
    split at hA
    ·rename_i d _ hr
     subst hA
     refine ActOk.pure (zda hx λ L hL=>?_) λ ev' ob' he _=>hc ev' ob' he
     rw[hex];exact ztd hr L hL
    ·exact dq9 hA hs
   ·exact dq9 hA hs
 ·exact dq9 hA hs

theorem zBM {t:TypeId}{x:Operand}{f:Nat}(hop:o.op=.field t x f) (hA:act P Γ o ev ob=A) (hs:A.safe):ActOk P Γ o ev ob A:=by
 have hx:x∈o.op.operands.toList:=by simp[hop,Op.operands]
 have hc:∀ ev' ob',(∀ x∈o.op.operands.toList,ev' x=ev x)->act P Γ o ev' ob'=A:=λ ev' ob' he=>by
  rw[<- hA];simp only[act,hop,he x hx]
 simp only[act,hop,zmv] at hA
 split at hA
 ·split at hA
  ·split at hA
   ·rename_i hex
    split at hA
    ·rename_i d hr
     subst hA
     refine ActOk.pure (zda hx λ L hL=>?_) λ ev' ob' he _=>hc ev' ob' he
     rw[hex];exact ztd hr L hL
    ·exact dq9 hA hs
   ·exact dq9 hA hs
  ·exact dq9 hA hs
 ·exact dq9 hA hs

theorem ok_slice {t:TypeId}{x:Operand}{lo hi:Option Operand}(hop:o.op=.slice t x lo hi none) (hA:act P Γ o ev ob=A) (hs:A.safe):ActOk P Γ o ev ob A:=by
 have hx:x∈o.op.operands.toList:=by simp[hop,Op.operands]
 have hlo:∀ y,lo=some y->y∈o.op.operands.toList:=λ y e=>by subst e;simp[hop,Op.operands]
 have hhi:∀ y,hi=some y->y∈o.op.operands.toList:=λ y e=>by subst e;simp[hop,Op.operands]
 have hc:∀ ev' ob',(∀ x∈o.op.operands.toList,ev' x=ev x)->act P Γ o ev' ob'=A:=λ ev' ob' he=>by
  have e1:zur ev' lo=zur ev lo:=by
   cases lo with
   | none=>rfl
   | some y=>simp only[zur,he y (hlo y rfl)]
  have e2:zur ev' hi=zur ev hi:=by
   cases hi with
   | none=>rfl
   | some y=>simp only[zur,he y (hhi y rfl)]
  rw[<- hA];simp only[act,hop,he x hx,e1,e2]
 simp only[act,hop,zjR] at hA
 split at hA
 ·split at hA
  ·split at hA
   ·subst hA
    exact ActOk.pchk (λ L hL=>by simp[dvV,d1V,clV] at hL) λ ev' ob' he _=>hc ev' ob' he
   ·exact dq9 hA hs
  ·exact dq9 hA hs
 ·exact dq9 hA hs

theorem zqc {d:D1} : ∀ L,L∈d1V d->L∈zbg d:=by
 intro L hL
 cases d with
 | c y=>exact zp9 L hL
 | agg cs =>
  obtain⟨c,hc,hL⟩:=dqo.1 hL
  exact dqo.2 ⟨c,hc,zp9 L hL⟩

theorem zkG {q:MQ}{kd:DV}{ok:Bool}{F:List Int->Option (List Int)}{fin:DV->OpAct}(hA:found q kd ok F fin=A) (hs:A.safe):∃ d,(∀ M∈dvV d,False)/\fin d=A:=by
 unfold found at hA
 split at hA
 ·split at hA
  ·rename_i d hdv
   have hV:∀ M,M∈d1V d->False:=λ M hM=>by have:=zqc M hM;rw[zjW hdv] at this;simp at this
   cases ok with
   | true =>
    refine⟨_,λ M hM=>?_,hA⟩
    simp only[dvV,dqJ,List.flatMap_nil,List.append_nil,dqg] at hM
    rcases hM with hM | hM
    ·exact hV M hM
    ·simp[d1V,clV] at hM
   | false=>exact⟨.one d,λ M hM=>hV M hM,hA⟩
  ·exact dq9 hA hs
 ·exact dq9 hA hs

theorem zwq {t:TypeId}{x y:Operand}{k:Bool}(hop:o.op=.lookup t x y k) (hA:act P Γ o ev ob=A) (hs:A.safe):ActOk P Γ o ev ob A:=by
 have hx:x∈o.op.operands.toList:=by simp[hop,Op.operands]
 have hy:y∈o.op.operands.toList:=by simp[hop,Op.operands]
 have hc0:∀ ev' ob',(∀ x∈o.op.operands.toList,ev' x=ev x)->act P Γ o ev' ob'=match zDk (ev x) with | true=>zlN P t (ev x) (ev y) k ob' | false=>zfL P t (ev x) (ev y) k:=λ ev' ob' he=>by
  simp only[act,hop,he x hx,he y hy]
  cases zDk (ev x) <;> rfl
 cases hmo:zDk (ev x) with
 | true =>
  rw[hc0 ev ob (λ _ _=>rfl),hmo] at hA
  have hc1:∀ ev' ob',(∀ x∈o.op.operands.toList,ev' x=ev x)->act P Γ o ev' ob'=zlN P t (ev x) (ev y) k ob':=λ ev' ob' he=>by rw[hc0 ev' ob' he,hmo]
  simp only at hA
  unfold zlN at hA hc1
  split at hA
  ·rename_i kt vt L hu hex
   split at hA
   ·rename_i q kt' vt' q' n F hE hL
    split at hA
    ·rename_i hcond
     obtain⟨d,hd,e⟩:=zkG hA hs
     subst e
     refine ActOk.pure (λ M hM=>(hd M hM).elim) λ ev' ob' he hob=>?_
     rw[hc1 ev' ob' he]
     have:=hob (L,false) (by simp);simp only at this
     simp only[hu,hex,this,hL,hE,if_pos hcond]
     exact hA
    ·exact dq9 hA hs
   ·exact dq9 hA hs
  ·rename_i kt vt L i hu hex
   split at hA
   ·rename_i q te bb kt' vt' q' n mk nn F hE hL
    split at hA
    ·rename_i hcond
     obtain⟨d,hd,e⟩:=zkG hA hs
     subst e
     refine ActOk.pchk (λ M hM=>(hd M hM).elim) λ ev' ob' he hob=>?_
     rw[hc1 ev' ob' he]
     have:=hob (L,false) (by simp);simp only at this
     simp only[hu,hex,this,hL,hE,if_pos hcond]
     exact hA
    ·exact dq9 hA hs
   ·exact dq9 hA hs
  ·rename_i kt vt q' n F hu hex
   split at hA
   ·rename_i q hE
    split at hA
    ·rename_i hcond
     obtain⟨d,hd,e⟩:=zkG hA hs
     subst e
     refine ActOk.pure (λ M hM=>(hd M hM).elim) λ ev' ob' he hob=>?_
     rw[hc1 ev' ob' he]
     simp only[hu,hex,hE,if_pos hcond]
     exact hA
    ·exact dq9 hA hs
   ·exact dq9 hA hs
  ·exact dq9 hA hs
 | false =>
 have hc:∀ ev' ob',(∀ x∈o.op.operands.toList,ev' x=ev x)->act P Γ o ev' ob'=A:=λ ev' ob' he=>by
  rw[<- hA,hc0 ev' ob' he,hc0 ev ob (λ _ _=>rfl),hmo]
 rw[hc0 ev ob (λ _ _=>rfl),hmo] at hA
 simp only[zfL] at hA
 split at hA
 ·split at hA
  ·rename_i F j _ _ _ _ _
   subst hA
   refine⟨λ x hx=>by simp[OpAct.u] at hx,.inl rfl,λ x hx=>by simp[OpAct.u] at hx,λ d hd L hL=>?_,λ ev' ob' he _=>hc ev' ob' he⟩
   simp only[OpAct.gives] at hd
   obtain⟨q,rfl⟩:=hd
   have:∀ l:List Int,(zBc q l).flatMap clV=[]:=by
    intro l
    induction l with
    | nil=>rfl
    | cons x l ih=>simp[zBc,clV,ih]
   simp[dvV,d1V,clV,this] at hL
  ·exact dq9 hA hs
 ·exact dq9 hA hs

theorem zoV {t:TypeId}{x y z:Operand}(hop:o.op=.mapUpdate t x y z) (hA:act P Γ o ev ob=A) (hs:A.safe):ActOk P Γ o ev ob A:=by
 have hx:x∈o.op.operands.toList:=by simp[hop,Op.operands]
 have hy:y∈o.op.operands.toList:=by simp[hop,Op.operands]
 have hz:z∈o.op.operands.toList:=by simp[hop,Op.operands]
 have hc0:∀ ev' ob',(∀ x∈o.op.operands.toList,ev' x=ev x)->act P Γ o ev' ob'=match zDk (ev x) with | true=>zuq P t (ev x) (ev y) (ev z) ob' | false=>zfM P t (ev x) (ev y) (ev z):=λ ev' ob' he=>by
  simp only[act,hop,he x hx,he y hy,he z hz]
  cases zDk (ev x) <;> rfl
 cases hmo:zDk (ev x) with
 | true =>
  rw[hc0 ev ob (λ _ _=>rfl),hmo] at hA
  have hc1:∀ ev' ob',(∀ x∈o.op.operands.toList,ev' x=ev x)->act P Γ o ev' ob'=zuq P t (ev x) (ev y) (ev z) ob':=λ ev' ob' he=>by rw[hc0 ev' ob' he,hmo]
  simp only at hA
  unfold zuq at hA hc1
  split at hA
  ·rename_i kt vt L hu hex
   split at hA
   ·rename_i q kt' vt' q' n F hE hL
    split at hA
    ·rename_i c dv hck hez
     split at hA
     ·rename_i l hl
      split at hA
      ·rename_i hcond
       have hcc:∀ ev' ob',(∀ x∈o.op.operands.toList,ev' x=ev x)->(∀ y∈[(L,true)],ob' y.1=ob y.1)->act P Γ o ev' ob'=A:=λ ev' ob' he hob=>by
        rw[hc1 ev' ob' he]
        have:=hob (L,true) (by simp);simp only at this
        simp only[hu,hex,this,hL,hE,hck,hez,hl,if_pos hcond]
        exact hA
       subst hA
       refine⟨λ x hx=>?_,.inl rfl,λ x hx M hM=>?_,λ d' hd' M hM=>?_,λ ev' ob' he hob=>hcc ev' ob' he hob⟩
       ·simp only[OpAct.u,dqi] at hx;subst hx;simp[OpAct.fp]
       ·simp only[OpAct.u,dqi] at hx;subst hx;simp[aoV] at hM
       ·simp only[OpAct.gives] at hd';subst hd';simp[dvV,d1V,clV] at hM
      ·exact dq9 hA hs
     ·exact dq9 hA hs
    ·exact dq9 hA hs
   ·exact dq9 hA hs
  ·rename_i kt vt L i hu hex
   split at hA
   ·rename_i q te bb kt' vt' q' n mk nn F hE hL
    split at hA
    ·rename_i c dv hck hez
     split at hA
     ·rename_i l hl
      split at hA
      ·rename_i hcond
       have hcc:∀ ev' ob',(∀ x∈o.op.operands.toList,ev' x=ev x)->(∀ y∈[(L,true)],ob' y.1=ob y.1)->act P Γ o ev' ob'=A:=λ ev' ob' he hob=>by
        rw[hc1 ev' ob' he]
        have:=hob (L,true) (by simp);simp only at this
        simp only[hu,hex,this,hL,hE,hck,hez,hl,if_pos hcond]
        exact hA
       subst hA
       refine⟨λ x hx=>?_,.inl rfl,λ x hx M hM=>?_,λ d' hd' M hM=>?_,λ ev' ob' he hob=>hcc ev' ob' he hob⟩
       ·simp only[OpAct.u,dqi] at hx;subst hx;simp[OpAct.fp]
       ·simp only[OpAct.u,dqi] at hx;subst hx;simp[aoV] at hM
       ·simp only[OpAct.gives] at hd';subst hd';simp[dvV,d1V,clV] at hM
      ·exact dq9 hA hs
     ·exact dq9 hA hs
    ·exact dq9 hA hs
   ·exact dq9 hA hs
  ·exact dq9 hA hs
 | false =>
 have hc:∀ ev' ob',(∀ x∈o.op.operands.toList,ev' x=ev x)->act P Γ o ev' ob'=A:=λ ev' ob' he=>by
  rw[<- hA,hc0 ev' ob' he,hc0 ev ob (λ _ _=>rfl),hmo]
 rw[hc0 ev ob (λ _ _=>rfl),hmo] at hA
 simp only[zfM] at hA
 split at hA
 ·split at hA
  ·subst hA
   exact ActOk.pchk (λ L hL=>by simp[dvV,d1V,clV] at hL) λ ev' ob' he _=>hc ev' ob' he
  ·exact dq9 hA hs
 ·exact dq9 hA hs

theorem zuK {t:TypeId}(hop:o.op=.makeMap t none) (hA:act P Γ o ev ob=A) (hs:A.safe):ActOk P Γ o ev ob A:=by
 cases hv:zJb Γ o.dst with
 | true =>
  simp only[act,hop,hv] at hA
  split at hA
  ·rename_i kt vt hu
   split at hA
   ·rename_i q hE
    exact zmZ (ao:=.mo kt vt q 0 (λ _=>none)) (d:=λ t=>.cl (.mo t)) (λ L hL=>by simp[aoV] at hL) (λ t L hL=>by simpa [dvV,d1V,clV] using hL) (λ ev' ob' _=>by simp only[act,hop,hv,hu,hE]) hA hs
   ·exact dq9 hA hs
  ·exact dq9 hA hs
 | false =>
 have hc:∀ ev' ob',act P Γ o ev' ob'=A:=λ ev' ob'=>by rw[<- hA];simp only[act,hop,hv]
 simp only[act,hop,hv] at hA
 split at hA
 ·split at hA
  ·subst hA;exact ActOk.pchk (zcd _) λ ev' ob' _ _=>hc ev' ob'
  ·exact dq9 hA hs
 ·exact dq9 hA hs

theorem zE8 {op:UnOp}{t:TypeId}{x:Operand}(hop:o.op=.unOp op t x) (hA:act P Γ o ev ob=A) (hs:A.safe):ActOk P Γ o ev ob A:=by
 have hx:x∈o.op.operands.toList:=by simp[hop,Op.operands]
 simp only[act,hop] at hA
 split at hA
 ·rename_i h; subst hA
  exact ActOk.pure (zcd _) λ ev' ob' he _=>by simp only[act,hop,he x hx,h]
 ·rename_i h; subst hA
  exact ActOk.pure (zcd _) λ ev' ob' he _=>by simp only[act,hop,he x hx,h]
 ·exact dq9 hA hs

theorem zoW {t:TypeId}{x:Operand}{f:Nat}(hop:o.op=.fieldAddr t x f) (hA:act P Γ o ev ob=A) (hs:A.safe):ActOk P Γ o ev ob A:=by
 have hx:x∈o.op.operands.toList:=by simp[hop,Op.operands]
 simp only[act,hop] at hA
 split at hA
 ·rename_i off hf
  split at hA
  ·rename_i h; subst hA
   exact ActOk.pure (zda hx λ L hL=>by rw[h];exact hL) λ ev' ob' he _=>by simp only[act,hop,he x hx,h,hf]
  ·rename_i h; subst hA
   exact ActOk.pure (zda hx λ L hL=>by rw[h];exact hL) λ ev' ob' he _=>by simp only[act,hop,he x hx,h,hf]
  ·rename_i h; subst hA
   exact ActOk.pure (zda hx λ L hL=>by rw[h];exact hL) λ ev' ob' he _=>by simp only[act,hop,he x hx,h,hf]
  ·rename_i h; subst hA
   exact ActOk.pure (zda hx λ L hL=>by rw[h];exact hL) λ ev' ob' he _=>by simp only[act,hop,he x hx,h,hf]
  ·rename_i h; subst hA
   exact ActOk.pure (zda hx λ L hL=>by rw[h];exact hL) λ ev' ob' he _=>by simp only[act,hop,he x hx,h,hf]
  ·rename_i h; subst hA
   exact ActOk.pure (zda hx λ L hL=>by rw[h];exact hL) λ ev' ob' he _=>by simp only[act,hop,he x hx,h,hf]
  ·rename_i h; subst hA
   exact ActOk.pure (zda hx λ L hL=>by rw[h];exact hL) λ ev' ob' he _=>by simp only[act,hop,he x hx,h,hf]
  ·exact dq9 hA hs
 ·exact dq9 hA hs

theorem zoX {t:TypeId}{x y:Operand}(hop:o.op=.indexAddr t x y) (hA:act P Γ o ev ob=A) (hs:A.safe):ActOk P Γ o ev ob A:=by
 have hx:x∈o.op.operands.toList:=by simp[hop,Op.operands]
 have hy:y∈o.op.operands.toList:=by simp[hop,Op.operands]
 simp only[act,hop] at hA
 split at hA
 ·rename_i e hu
  split at hA
  ·rename_i n k j hn hj
   split at hA
   ·rename_i len s get hex
    split at hA
    ·rename_i hs'; subst hA
     exact ActOk.pchk (zcd _) λ ev' ob' he _=>by simp only[act,hop,he x hx,he y hy,hex,hu,hn,hj,hs',if_true]
    ·exact dq9 hA hs
   ·rename_i L hex
    split at hA
    ·rename_i e' s b len get hL
     split at hA
     ·rename_i hs'; subst hA
      refine ActOk.pchk (λ M hM=>.inl (.inl ⟨x,hx,?_⟩)) λ ev' ob' he hob=>?_
      ·rw[hex];exact hM
      have e:=hob (L,false) (by simp);simp only at e
      simp only[act,hop,he x hx,he y hy,hex,hu,hn,hj,e,hL,hs',if_true]
     ·exact dq9 hA hs
    ·rename_i s len get hL
     split at hA
     ·rename_i hs'; subst hA
      refine ActOk.pchk (zcd _) λ ev' ob' he hob=>?_
      have e:=hob (L,false) (by simp);simp only at e
      simp only[act,hop,he x hx,he y hy,hex,hu,hn,hj,e,hL,hs',if_true]
     ·exact dq9 hA hs
    ·rename_i hL
     split at hA
     ·rename_i hs'; subst hA
      refine ActOk.pchk (λ M hM=>.inl (.inl ⟨x,hx,?_⟩)) λ ev' ob' he hob=>?_
      ·rw[hex];exact hM
      have e:=hob (L,false) (by simp);simp only at e
      simp only[act,hop,he x hx,he y hy,hex,hu,hn,hj,e,hL,hs',if_true]
     ·exact dq9 hA hs
    ·rename_i hL
     split at hA
     ·rename_i hs'; subst hA
      refine ActOk.pchk (λ M hM=>.inl (.inl ⟨x,hx,?_⟩)) λ ev' ob' he hob=>?_
      ·rw[hex];exact hM
      have e:=hob (L,false) (by simp);simp only at e
      simp only[act,hop,he x hx,he y hy,hex,hu,hn,hj,e,hL,hs',if_true]
     ·exact dq9 hA hs
    ·exact dq9 hA hs
   ·rename_i L i hex
    split at hA
    ·rename_i hL
     split at hA
     ·rename_i hs'; subst hA
      refine ActOk.pchk (λ M hM=>.inl (.inl ⟨x,hx,?_⟩)) λ ev' ob' he hob=>?_
      ·rw[hex];exact hM
      have e:=hob (L,false) (by simp);simp only at e
      simp only[act,hop,he x hx,he y hy,hex,hu,hn,hj,e,hL,hs',if_true]
     ·exact dq9 hA hs
    ·exact dq9 hA hs
   ·exact dq9 hA hs
  ·exact dq9 hA hs
 ·rename_i m e hu
  have hc:∀ ev' ob',(∀ x∈o.op.operands.toList,ev' x=ev x)->act P Γ o ev' ob'=A:=λ ev' ob' he=>by
   simp only[act,hop,hu,he x hx,he y hy];exact hA
  unfold zjQ at hA
  split at hA
  ·split at hA
   ·split at hA
    ·subst hA;exact ActOk.pchk (λ L hL=>by simp[dvV,d1V,clV] at hL) λ ev' ob' he _=>hc ev' ob' he
    ·subst hA;exact ActOk.pchk (λ L hL=>by simp[dvV,d1V,clV] at hL) λ ev' ob' he _=>hc ev' ob' he
    ·rename_i h;subst hA;exact ActOk.pchk (λ M hM=>.inl (.inl ⟨x,hx,by rw[h];exact hM⟩)) λ ev' ob' he _=>hc ev' ob' he
    ·exact dq9 hA hs
   ·exact dq9 hA hs
  ·split at hA
   ·split at hA
    ·split at hA
     ·rename_i h;subst hA;exact ActOk.pure (zda hx λ L hL=>by simp[dvV,d1V,clV] at hL) λ ev' ob' he _=>hc ev' ob' he
     ·rename_i h;subst hA;exact ActOk.pure (zcd _) λ ev' ob' he _=>hc ev' ob' he
     ·exact dq9 hA hs
    ·exact dq9 hA hs
   ·exact dq9 hA hs
 ·exact dq9 hA hs

theorem zuL {x:Operand}{k:Nat}(hop:o.op=.extract x k) (hA:act P Γ o ev ob=A) (hs:A.safe):ActOk P Γ o ev ob A:=by
 have hx:x∈o.op.operands.toList:=by simp[hop,Op.operands]
 simp only[act,hop] at hA
 split at hA
 ·rename_i ds h
  split at hA
  ·rename_i d hd; subst hA
   refine ActOk.pure (zda hx λ L hL=>?_) λ ev' ob' he _=>by simp only[act,hop,he x hx,h,hd]
   rw[h];exact dqo.2 ⟨d,dqx hd,hL⟩
  ·exact dq9 hA hs
 ·exact dq9 hA hs

theorem zgQ {c:Callee}{args:Array Operand}{ts:Array TypeId}(hop:o.op=.call { callee:=c,args,argTypes:=ts }):∀ x∈args.toList,x∈o.op.operands.toList:=by
 intro x hx
 simp only[hop,Op.operands]
 cases c <;> simp[Call.operands] <;> simp at hx <;> first | exact hx | exact .inr hx

theorem zJA {b:Builtin}{args:Array Operand}{ts:Array TypeId}(hb:b=.max\/b=.min) (hop:o.op=.call { callee:=.builtin b,args,argTypes:=ts }) (hA:act P Γ o ev ob=A) (hs:A.safe):ActOk P Γ o ev ob A:=by
 have hm:=zgQ hop
 have hmap:∀ ev':Operand->DV,(∀ x∈o.op.operands.toList,ev' x=ev x)->args.toList.map ev'=args.toList.map ev:=λ ev' he=>List.map_congr_left λ x hx=>he x (hm x hx)
 rcases hb with rfl | rfl <;> simp only[act,hop] at hA <;> split at hA
 ·rename_i h;subst hA;exact ActOk.pure (zcd _) λ ev' ob' he _=>by simp only[act,hop,hmap ev' he,h]
 ·exact dq9 hA hs
 ·rename_i h;subst hA;exact ActOk.pure (zcd _) λ ev' ob' he _=>by simp only[act,hop,hmap ev' he,h]
 ·exact dq9 hA hs

theorem zJB {args:Array Operand}{ts:Array TypeId}(hop:o.op=.call { callee:=.builtin .len,args,argTypes:=ts }) (hA:act P Γ o ev ob=A) (hs:A.safe):ActOk P Γ o ev ob A:=by
 have hm:=zgQ hop
 simp only[act,hop] at hA
 split at hA
 ·rename_i x t hargs ht
  have hx:x∈o.op.operands.toList:=hm x (by rw[hargs];simp)
  split at hA
  ·rename_i e hu
   split at hA
   ·rename_i h;subst hA;exact ActOk.pure (zcd _) λ ev' ob' he _=>by simp only[act,hop,hargs,ht,hu,he x hx,h]
   ·rename_i h;subst hA;exact ActOk.pure (zcd _) λ ev' ob' he _=>by simp only[act,hop,hargs,ht,hu,he x hx,h]
   ·rename_i L h
    split at hA
    ·rename_i hL; subst hA
     refine ActOk.pure (zcd _) λ ev' ob' he hob=>?_
     have e:=hob (L,false) (by simp);simp only at e
     simp only[act,hop,hargs,ht,hu,he x hx,h,e,hL]
    ·rename_i hL; subst hA
     refine ActOk.pure (zcd _) λ ev' ob' he hob=>?_
     have e:=hob (L,false) (by simp);simp only at e
     simp only[act,hop,hargs,ht,hu,he x hx,h,e,hL]
    ·rename_i hL; subst hA
     refine ActOk.pure (zcd _) λ ev' ob' he hob=>?_
     have e:=hob (L,false) (by simp);simp only at e
     simp only[act,hop,hargs,ht,hu,he x hx,h,e,hL]
    ·rename_i hL; subst hA
     refine ActOk.pure (zcd _) λ ev' ob' he hob=>?_
     have e:=hob (L,false) (by simp);simp only at e
     simp only[act,hop,hargs,ht,hu,he x hx,h,e,hL]
    ·exact dq9 hA hs
   ·rename_i L i h
    split at hA
    ·rename_i hL; subst hA
     refine ActOk.pchk (zcd _) λ ev' ob' he hob=>?_
     have e:=hob (L,false) (by simp);simp only at e
     simp only[act,hop,hargs,ht,hu,he x hx,h,e,hL]
    ·exact dq9 hA hs
   ·exact dq9 hA hs
  ·rename_i kt vt hu
   split at hA
   ·rename_i L h
    split at hA
    ·rename_i hL; subst hA
     refine ActOk.pure (zcd _) λ ev' ob' he hob=>?_
     have e:=hob (L,false) (by simp);simp only at e
     simp only[act,hop,hargs,ht,hu,he x hx,h,e,hL]
    ·exact dq9 hA hs
   ·rename_i h; subst hA
    exact ActOk.pure (zcd _) λ ev' ob' he _=>by simp only[act,hop,hargs,ht,hu,he x hx,h]
   ·exact dq9 hA hs
  ·exact dq9 hA hs
 ·exact dq9 hA hs

theorem zuM {d:DV}{T:Nat}(h:zii d ob=some T):d=.one (.c (.vec T))/\∃ a1 a2 a3 a4 a5 a6 a7 a8,ob T=some (.vv a1 a2 a3 a4 a5 a6 a7 a8):=by
 unfold zii at h
 split at h
 ·split at h
  ·rename_i hT
   simp only[dqa] at h;subst h
   exact⟨rfl,_,_,_,_,_,_,_,_,hT⟩
  ·cases h
 ·cases h

def zjw (d:DV) (ob:Nat->Option AO):Option (Nat×Nat×(Nat->List PV)×List (Nat×Bool)) :=
 match d with
 | .one (.c (.p (.sl n sz get)))=>some (n,sz,get,[])
 | .one (.c (.vec M))=>match ob M with
  | some (.vec _ sz _ n get)=>some (n,sz,get,[(M,false)])
  | some (.fvec sz n get)=>some (n,sz,get,[(M,false)])
  | _=>none
 | _=>none
theorem zoY {d : DV} {ob' : Nat → Option AO} {m sz : Nat} {new : Nat → List PV} {fps : List (Nat × Bool)} (h : zjw d ob = some (m, sz, new, fps)) (hob : ∀ y ∈ fps, ob' y.1 = ob y.1) :
  zjw d ob'=some (m,sz,new,fps):=by
 unfold zjw at h ⊢
 split at h
 ·exact h
 ·rename_i M
  split at h
  ·rename_i hM
   have h':=h
   simp only[dqa,dqh] at h
   have e:=hob (M,false) (by rw[<- h.2.2.2];simp);simp only at e
   rw[e,hM];exact h'
  ·rename_i hM
   have h':=h
   simp only[dqa,dqh] at h
   have e:=hob (M,false) (by rw[<- h.2.2.2];simp);simp only at e
   rw[e,hM];exact h'
  ·cases h
 ·cases h

theorem zuN {d:DV}{ob':Nat->Option AO}{m sz:Nat}{new:Nat->List PV}{fps:List (Nat×Bool)}(h:zjw d ob=some (m,sz,new,fps)) (hob:∀ y∈fps,ob' y.1=ob y.1):zii d ob'=none:=by
 unfold zjw at h
 split at h
 ·rfl
 ·rename_i M
  split at h
  ·rename_i hM
   simp only[dqa,dqh] at h
   have e:=hob (M,false) (by rw[<- h.2.2.2];simp);simp only at e
   simp only[zii,e,hM]
  ·rename_i hM
   simp only[dqa,dqh] at h
   have e:=hob (M,false) (by rw[<- h.2.2.2];simp);simp only at e
   simp only[zii,e,hM]
  ·cases h
 ·cases h

theorem zqd {s x : Operand} {e : TypeId} {ie : TypeInfo} {T : Nat} (hsm : s ∈ o.op.operands.toList) (hx : x ∈ o.op.operands.toList) (hT0 : zii (ev x) ob = some T)
    (hc:∀ ev' ob',ev' x=ev x->zii (ev' x) ob'=some T->act P Γ o ev' ob'=zd0 o e ie (ev' s) T ob') (hA:zd0 o e ie (ev s) T ob=A) (hs:A.safe):ActOk P Γ o ev ob A:=by
  obtain⟨hxT,a1,a2,a3,a4,a5,a6,a7,a8,hTT⟩:=zuM hT0
  unfold zd0 at hA
  split at hA
  · rename_i hT
    split at hA
    · rename_i L hes
      split at hA
      · rename_i hL
        split at hA
        · rename_i hif
          subst hA
          refine⟨λ z hz=>?_,.inr ⟨L,rfl,by simp[OpAct.fp]⟩,λ z hz M hM=>?_,λ d' hd' M hM=>?_,λ ev' ob' he hob=>?_⟩
          · simp only [OpAct.u, dqq, List.not_mem_nil, or_false] at hz
            rcases hz with rfl | rfl <;> simp[OpAct.fp]
          · simp only [OpAct.u, dqq, List.not_mem_nil, or_false] at hz
            rcases hz with rfl | rfl <;> simp[aoV] at hM
          · simp only [OpAct.gives] at hd'; subst hd'
            simp only[dvV,d1V,clV,dqi] at hM;subst hM
            exact .inr (by simp[OpAct.fp])
          · have e1 := hob (L, true) (by simp [OpAct.fp])
            have e2:=hob (T,true) (by simp[OpAct.fp])
            simp only at e1 e2
            rw[hc ev' ob' (he x hx) (by rw[he x hx,hxT];simp only[zii,e2,hTT])]
            simp only[zd0,he s hsm,hes,e1,e2,hL,hT]
            rw[if_pos hif]
        · exact dq9 hA hs
      · exact dq9 hA hs
    · exact dq9 hA hs
  · exact dq9 hA hs

theorem zJC {args:Array Operand}{ts:Array TypeId}(hop:o.op=.call { callee:=.builtin .delete,args,argTypes:=ts }) (hA:act P Γ o ev ob=A) (hs:A.safe):ActOk P Γ o ev ob A:=by
 have hm:=zgQ hop
 have hmap:∀ ev':Operand->DV,(∀ x∈o.op.operands.toList,ev' x=ev x)->args.toList.map ev'=args.toList.map ev:=λ ev' he=>List.map_congr_left λ x hx=>he x (hm x hx)
 have hc1:∀ ev' ob',(∀ x∈o.op.operands.toList,ev' x=ev x)->act P Γ o ev' ob'=zop P (args.toList.map ev) ts.toList ob':=λ ev' ob' he=>by simp only[act,hop,hmap ev' he]
 rw[hc1 ev ob (λ _ _=>rfl)] at hA
 unfold zop at hA hc1
 split at hA
 ·rename_i L k t t' hargs hts
  split at hA
  ·rename_i kt vt hu
   split at hA
   ·rename_i q kt' vt' q' n F hE hL
    split at hA
    ·rename_i c hck
     split at hA
     ·rename_i hcond
      have hcc:∀ ev' ob',(∀ x∈o.op.operands.toList,ev' x=ev x)->(∀ y∈[(L,true)],ob' y.1=ob y.1)->act P Γ o ev' ob'=A:=λ ev' ob' he hob=>by
       rw[hc1 ev' ob' he]
       have:=hob (L,true) (by simp);simp only at this
       simp only[hargs,hts,hu,this,hL,hE,hck,if_pos hcond]
       exact hA
      subst hA
      refine⟨λ x hx=>?_,.inl rfl,λ x hx M hM=>?_,λ d' hd' M hM=>?_,λ ev' ob' he hob=>hcc ev' ob' he hob⟩
      ·simp only[OpAct.u,dqi] at hx;subst hx;simp[OpAct.fp]
      ·simp only[OpAct.u,dqi] at hx;subst hx;simp[aoV] at hM
      ·simp only[OpAct.gives] at hd';subst hd';simp[dvV] at hM
     ·exact dq9 hA hs
    ·exact dq9 hA hs
   ·exact dq9 hA hs
  ·exact dq9 hA hs
 ·exact dq9 hA hs

theorem zwr {args:Array Operand}{ts:Array TypeId}(hop:o.op=.call { callee:=.builtin .append,args,argTypes:=ts }) (hA:act P Γ o ev ob=A) (hs:A.safe):ActOk P Γ o ev ob A:=by
 have hm:=zgQ hop
 have hA0:=hA
 simp only[act,hop] at hA
 split at hA
 ·rename_i s x t t' hargs ht
  have hsm:s∈o.op.operands.toList:=hm s (by rw[hargs];simp)
  have hx:x∈o.op.operands.toList:=hm x (by rw[hargs];simp)
  split at hA
  ·rename_i e dst hu htt hd
   split at hA
   ·rename_i ie z hie hz
    have hA2:(match zii (ev x) ob with
     | some T=>zd0 o e ie (ev s) T ob
     | none=>match zjw (ev x) ob with
      | some (m,sz,new,fps)=>(match ev s with
       | .one (.c (.vec L))=>match ob L with
        | some (.vec e' s' b' n get)=>if e'=e/\s'=ie.size/\b'=ie.bytes/\sz=s'/\0 < s'/\zaX (ev x) ≠ [L] then
          .chk ((L,true) :: fps) ((n+m) * b'<=140737488355328/\n+m<=9223372036854775807) (.cl (.vec L)) [(L,.vec e s' b' (n+m) (appG n get new))] [L]
         else .no
        | _=>.no
       | .one (.c (.p .nils))=>match ob dst with
        | none=>if sz=ie.size/\0 < sz then
          .chk ((dst,true) :: fps) (m * ie.bytes<=140737488355328/\m<=9223372036854775807) (.cl (.vec dst)) [(dst,.vec e sz ie.bytes m new)] []
         else .no
        | some _=>.no
       | _=>.no)
      | none=>.no)=A:=hA
    clear hA
    have hcut:∀ (ev':Operand->DV) (ob':Nat->Option AO),act P Γ o ev' ob'=(match zii (ev' x) ob' with
     | some T=>zd0 o e ie (ev' s) T ob'
     | none=>match zjw (ev' x) ob' with
      | some (m,sz,new,fps)=>(match ev' s with
       | .one (.c (.vec L))=>match ob' L with
        | some (.vec e' s' b' n get)=>if e'=e/\s'=ie.size/\b'=ie.bytes/\sz=s'/\0 < s'/\zaX (ev' x) ≠ [L] then
          .chk ((L,true) :: fps) ((n+m) * b'<=140737488355328/\n+m<=9223372036854775807) (.cl (.vec L)) [(L,.vec e s' b' (n+m) (appG n get new))] [L]
         else .no
        | _=>.no
       | .one (.c (.p .nils))=>match ob' dst with
        | none=>if sz=ie.size/\0 < sz then
          .chk ((dst,true) :: fps) (m * ie.bytes<=140737488355328/\m<=9223372036854775807) (.cl (.vec dst)) [(dst,.vec e sz ie.bytes m new)] []
         else .no
        | some _=>.no
       | _=>.no)
      | none=>.no):=by
     intro ev' ob'
     simp only[act,hop,hargs,ht,hu,htt,hd,hie,hz]
     rfl
    split at hA2
    ·rename_i T hT
     exact zqd hsm hx hT (λ ev' ob' he hT'=>by rw[hcut,hT']) hA2 hs
    rename_i hVn
    have hA:=hA2
    split at hA
    ·rename_i m sz new fps hsrc
     have hvn':∀ (ev':Operand->DV) (ob':Nat->Option AO),(∀ x∈o.op.operands.toList,ev' x=ev x)->(∀ y∈fps,ob' y.1=ob y.1)->zii (ev' x) ob'=none:=by
      intro ev' ob' he hob
      rw[he x hx];exact zuN hsrc hob
     -- the source looks only at what fps names
     have src':∀ (ev':Operand->DV) (ob':Nat->Option AO),(∀ x∈o.op.operands.toList,ev' x=ev x)->(∀ y∈fps,ob' y.1=ob y.1) ->
       zjw (ev' x) ob'=some (m,sz,new,fps):=by
      intro ev' ob' he hob
      rw[he x hx]
      exact zoY hsrc hob
     split at hA
     ·rename_i L hes
      split at hA
      ·rename_i e' s' b' n' get' hL
       split at hA
       ·rename_i hif
        subst hA
        refine⟨λ z hz=>?_,.inr ⟨L,rfl,by simp[OpAct.fp]⟩,λ z hz M hM=>?_,λ d' hd' M hM=>?_,λ ev' ob' he hob=>?_⟩
        ·simp only[OpAct.u,dqi] at hz;subst hz;simp[OpAct.fp]
        ·simp only[OpAct.u,dqi] at hz;subst hz;simp[aoV] at hM
        ·simp only [OpAct.gives] at hd'; subst hd'
         simp only[dvV,d1V,clV,dqi] at hM;subst hM
         exact .inr (by simp[OpAct.fp])
        ·have e1 := src' ev' ob' he (fun y hy => hob y (dqf _ hy))
         have e2:=hob (L,true) (by simp[OpAct.fp]);simp only at e2
         rw[hcut,hvn' ev' ob' he (λ y hy=>hob y (dqf _ hy))]
         simp only[]
         rw[e1]
         simp only[he s hsm,he x hx,hes,e2,hL]
         rw[if_pos hif]
       ·exact dq9 hA hs
      ·exact dq9 hA hs
     ·rename_i hes
      split at hA
      ·rename_i hn
       split at hA
       ·rename_i hif
        subst hA
        refine⟨λ z hz=>?_,.inl rfl,λ z hz M hM=>?_,λ d' hd' M hM=>?_,λ ev' ob' he hob=>?_⟩
        ·simp only[OpAct.u,dqi] at hz;subst hz;simp[OpAct.fp]
        ·simp only[OpAct.u,dqi] at hz;subst hz;simp[aoV] at hM
        ·simp only [OpAct.gives] at hd'; subst hd'
         simp only[dvV,d1V,clV,dqi] at hM;subst hM
         exact .inr (by simp[OpAct.fp])
        ·have e1 := src' ev' ob' he (fun y hy => hob y (dqf _ hy))
         have e2:=hob (dst,true) (by simp[OpAct.fp]);simp only at e2
         rw[hcut,hvn' ev' ob' he (λ y hy=>hob y (dqf _ hy))]
         simp only[]
         rw[e1]
         simp only[he s hsm,hes,e2,hn]
         rw[if_pos hif]
       ·exact dq9 hA hs
      ·exact dq9 hA hs
     ·exact dq9 hA hs
    ·exact dq9 hA hs
   ·exact dq9 hA hs
  ·exact dq9 hA hs
 ·exact dq9 hA hs

theorem zJD (x:PA):d1V (paD x)=[]:=by
 cases x with
 | one p=>rfl
 | agg cs=>exact zte cs
theorem zhW (rs:List PA):dvV (resD rs)=[]:=by
 have tup:∀ l:List PA,dvV (.tup (l.map paD))=[]:=by
  intro l
  induction l with
  | nil=>rfl
  | cons x l ih=>simp only[dqK,dvV,dqJ,zJD,List.nil_append] at ih ⊢;exact ih
 match rs with
 | []=>exact tup _
 | [x]=>exact zJD x
 | x :: y :: l=>exact tup _

theorem zJE {k : OwnK} {args : Array Operand} {c : Callee} {ts : Array TypeId} (hop : o.op = .call { callee := c, args, argTypes := ts })
    (hc:∀ ev' ob',(∀ x∈o.op.operands.toList,ev' x=ev x)->act P Γ o ev' ob'=zfx P Γ o k (args.toList.map ev') ob') (hA:zfx P Γ o k (args.toList.map ev) ob=A) (hs:A.safe):ActOk P Γ o ev ob A:=by
  have hm:=zgQ hop
  have hmap:∀ ev':Operand->DV,(∀ x∈o.op.operands.toList,ev' x=ev x)->args.toList.map ev'=args.toList.map ev:=λ ev' he=>List.map_congr_left λ x hx=>he x (hm x hx)
  unfold zfx at hA
  split at hA
  · exact dq9 hA hs
  · split at hA
    · rename_i L hf caps hargs
      split at hA
      · rename_i hL hag
        split at hA
        · rename_i hif
          subst hA
          refine⟨λ z hz=>?_,.inl rfl,λ z hz M hM=>?_,λ d' hd' M hM=>?_,λ ev' ob' he hob=>?_⟩
          · simp only[OpAct.u,dqi] at hz;subst hz;simp[OpAct.fp]
          · simp only[OpAct.u,dqi] at hz;subst hz;simp[aoV] at hM
          · simp only[OpAct.gives] at hd';subst hd';simp[dvV] at hM
          · have e2 := hob (L, true) (by simp [OpAct.fp]); simp only at e2
            rw[hc ev' ob' he,hmap ev' he]
            simp only[zfx,hargs,e2,hL,hag]
            rw[if_pos hif]
        · exact dq9 hA hs
      · exact dq9 hA hs
    · exact dq9 hA hs
  · split at hA
    · rename_i dst hargs hd
      split at hA
      · rename_i hn hi hz
        split at hA
        · rename_i hif
          subst hA
          refine⟨λ z hz=>?_,.inl rfl,λ z hz M hM=>?_,λ d' hd' M hM=>?_,λ ev' ob' he hob=>?_⟩
          · simp only[OpAct.u,dqi] at hz;subst hz;simp[OpAct.fp]
          · simp only[OpAct.u,dqi] at hz;subst hz;simp[aoV] at hM
          · simp only [OpAct.gives] at hd'; subst hd'
            simp only[dvV,d1V,clV,dqi] at hM;subst hM
            exact .inr (by simp[OpAct.fp])
          · have e2 := hob (dst, true) (by simp [OpAct.fp]); simp only at e2
            rw[hc ev' ob' he,hmap ev' he]
            simp only[zfx,hargs,hd,e2,hn,hi,hz]
            rw[if_pos hif]
        · exact dq9 hA hs
      · exact dq9 hA hs
    · exact dq9 hA hs
  · split at hA
    · rename_i L hargs
      split at hA
      · rename_i hL
        subst hA
        refine ActOk.pure (λ M hM=>?_) λ ev' ob' he hob=>?_
        · have hin : DV.one (.c (.mo L)) ∈ args.toList.map ev := by rw [hargs]; simp
          obtain⟨y,hy,e⟩:=dqz.1 hin
          exact .inl (.inl ⟨y,hm y hy,by rw[e];simpa [dvV,d1V,clV] using hM⟩)
        have e2:=hob (L,false) (by simp);simp only at e2
        rw[hc ev' ob' he,hmap ev' he]
        simp only[zfx,hargs,e2,hL]
      · exact dq9 hA hs
    · exact dq9 hA hs
  · split at hA
    · rename_i it' L hargs
      split at hA
      · rename_i hL
        split at hA
        · rename_i hif
          subst hA
          refine ActOk.pchk (λ M hM=>by simp[dvV,d1V,clV] at hM) λ ev' ob' he hob=>?_
          have e2:=hob (L,false) (by simp);simp only at e2
          rw[hc ev' ob' he,hmap ev' he]
          simp only[zfx,hargs,e2,hL]
          rw[if_pos hif]
        · exact dq9 hA hs
      · exact dq9 hA hs
    · exact dq9 hA hs
  · split at hA
    · rename_i L hargs
      split at hA
      · rename_i hL
        split at hA
        · rename_i hif
          split at hA
          · subst hA
            refine⟨λ z hz=>?_,.inr ⟨L,rfl,by simp[OpAct.fp]⟩,λ z hz M hM=>?_,λ d' hd' M hM=>?_,λ ev' ob' he hob=>?_⟩
            · simp only[OpAct.u,dqi] at hz;subst hz;simp[OpAct.fp]
            · simp only[OpAct.u,dqi] at hz;subst hz;simp[aoV] at hM
            · simp only [OpAct.gives] at hd'; subst hd'
              simp only[dvV,d1V,clV,dqi] at hM;subst hM
              exact .inr (by simp[OpAct.fp])
            · have e2 := hob (L, true) (by simp [OpAct.fp]); simp only at e2
              rw[hc ev' ob' he,hmap ev' he]
              simp only[zfx,hargs,e2,hL]
              rw[if_pos hif]
          · subst hA
            refine⟨λ z hz=>?_,.inl rfl,λ z hz M hM=>?_,λ d' hd' M hM=>?_,λ ev' ob' he hob=>?_⟩
            · simp only[OpAct.u,dqi] at hz;subst hz;simp[OpAct.fp]
            · simp only[OpAct.u,dqi] at hz;subst hz;simp[aoV] at hM
            · simp only[OpAct.gives] at hd';subst hd';simp[dvV] at hM
            · have e2 := hob (L, true) (by simp [OpAct.fp]); simp only at e2
              rw[hc ev' ob' he,hmap ev' he]
              simp only[zfx,hargs,e2,hL]
              rw[if_pos hif]
        · exact dq9 hA hs
      · exact dq9 hA hs
    · exact dq9 hA hs

theorem zm1 {ob:Nat->Option AO} : ∀ {cells l:List Cl}{ys cs:List XC}{u:List (Nat×AO)}{ms:List Nat},zfG cells ys=some (l,u)->zdf ob cells=some (cs,ms) ->
  u.map (·.1)=ms/\(∀ x∈u,aoV x.2=[])/\∀ L∈l.flatMap clV,L∈cells.flatMap clV
 | [],l,[],cs,u,ms,h,h2=>by
  simp only[zfG,dqa,dqh] at h;obtain⟨rfl,rfl⟩:=h
  simp only[zdf,dqa,dqh] at h2;rw[<- h2.2]
  exact⟨rfl,λ x hx=>by simp at hx,λ L hL=>hL⟩
 | [],l,_ :: _,cs,u,ms,h,h2=>by simp[zfG] at h
 | c :: cells,l,[],cs,u,ms,h,h2=>by simp[zfG] at h
 | c :: cells,l,y :: ys,cs,u,ms,h,h2=>by
  unfold zfG at h
  split at h
  ·rename_i e;simp at e
  ·rename_i e1 e2
   simp only[dqy] at e1 e2
   obtain⟨rfl,rfl⟩:=e1;obtain⟨rfl,rfl⟩:=e2
   split at h
   ·rename_i hp
    simp only[dqa,dqh] at h;obtain⟨rfl,rfl⟩:=h
    simp only[zdf] at h2
    split at h2
    ·rename_i hc
     simp only[dqa,dqh] at h2;rw[<- h2.2]
     obtain⟨i1,i2,i3⟩:=zm1 hp hc
     exact⟨i1,i2,λ L hL=>by simp only[dqJ,clV,List.nil_append] at hL ⊢;exact i3 L hL⟩
    ·cases h2
   ·cases h
  ·rename_i e1 e2
   simp only[dqy] at e1 e2
   obtain⟨rfl,rfl⟩:=e1;obtain⟨rfl,rfl⟩:=e2
   split at h
   ·rename_i hp
    simp only[dqa,dqh] at h;obtain⟨rfl,rfl⟩:=h
    simp only[zdf] at h2
    split at h2
    ·rename_i hc
     split at h2
     ·simp only [dqa, dqh] at h2; rw [← h2.2]
      obtain⟨i1,i2,i3⟩:=zm1 hp hc
      refine⟨by simp[i1],λ x hx=>?_,λ L hL=>?_⟩
      ·rcases dqq.1 hx with e | hx
       ·subst e;rfl
       ·exact i2 x hx
      ·simp only [dqJ, dqg] at hL ⊢
       exact hL.imp_right (i3 L)
     ·cases h2
    ·cases h2
   ·cases h
  ·rename_i e1 e2
   simp only[dqy] at e1 e2
   obtain⟨rfl,rfl⟩:=e1;obtain⟨rfl,rfl⟩:=e2
   split at h
   ·rename_i hp
    simp only[dqa,dqh] at h;obtain⟨rfl,rfl⟩:=h
    simp only[zdf] at h2
    split at h2
    ·rename_i hc
     split at h2
     ·simp only [dqa, dqh] at h2; rw [← h2.2]
      obtain⟨i1,i2,i3⟩:=zm1 hp hc
      refine⟨by simp[i1],λ x hx=>?_,λ L hL=>?_⟩
      ·rcases dqq.1 hx with e | hx
       ·subst e;rfl
       ·exact i2 x hx
      ·simp only [dqJ, dqg] at hL ⊢
       exact hL.imp_right (i3 L)
     ·cases h2
    ·cases h2
   ·cases h
  ·cases h
theorem zJF {ob : Nat → Option AO} {d : DV} {x y : XA} {u : List (Nat × AO)} {ls ms : List Nat} (h : zvj ob d y = some u) (h2 : zpG ob d = some (x, ls, ms)) :
  u.map (·.1)=ls/\∀ x∈u,∀ L∈aoV x.2,∃ o',ob x.1=some o'/\L∈aoV o':=by
 have data:zly ob d=some (x,ls,ms)->ls=[]:=by
  intro h
  unfold zly at h
  split at h
  ·simp only[dqa,dqh] at h;exact h.2.1.symm
  ·cases h
 unfold zvj at h
 split at h
 ·rename_i L
  split at h
  ·rename_i ty' cells hL
   rw[zeF,hL] at h2
   dsimp only at h2
   split at h2
   ·rename_i cs ms' hc
    simp only[dqa,dqh] at h2;obtain⟨rfl,rfl,rfl⟩:=h2
    split at h
    ·split at h
     ·rename_i l u' hty hp
      simp only[dqa] at h;subst h
      obtain⟨i1,i2,i3⟩:=zm1 hp hc
      refine⟨by simp[i1],λ x hx K hK=>?_⟩
      rcases dqq.1 hx with e | hx
      ·subst e;exact⟨_,hL,i3 K hK⟩
      ·rw[i2 x hx] at hK;simp at hK
     ·cases h
    ·cases h
   ·cases h2
  ·rename_i hno
   have hx:zly ob (.one (.c (.ptr L 0)))=some (x,ls,ms):=by
    rw[zeF] at h2
    cases hL:ob L with
    | none=>rw[hL] at h2;exact h2
    | some o =>
     rw[hL] at h2
     cases o with
     | box ty cells=>exact absurd hL (hno _ _)
     | _=>exact h2
   rw[data hx]
   split at h
   ·simp only[dqa] at h;subst h;exact⟨rfl,λ x hx=>by simp at hx⟩
   ·cases h
 ·rename_i hno
  have hx:zly ob d=some (x,ls,ms):=by
   unfold zpG at h2
   split at h2
   ·exact (hno _ rfl).elim
   ·exact h2
  rw[data hx]
  split at h
  ·simp only[dqa] at h;subst h;exact⟨rfl,λ x hx=>by simp at hx⟩
  ·cases h
theorem zwt {ob:Nat->Option AO} : ∀ {ds:List DV}{xs ys:List XA}{u:List (Nat×AO)}{ls ms:List Nat},zfH ob ds ys=some u->ze0 ob ds=some (xs,ls,ms) ->
  u.map (·.1)=ls/\∀ x∈u,∀ L∈aoV x.2,∃ o',ob x.1=some o'/\L∈aoV o'
 | [],xs,[],u,ls,ms,h,h2=>by
  simp only[zfH,dqa] at h;subst h
  simp only[ze0,dqa,dqh] at h2;rw[<- h2.2.1]
  exact⟨rfl,λ x hx=>by simp at hx⟩
 | [],_,_ :: _,_,_,_,h,_=>by simp[zfH] at h
 | _ :: _,_,[],_,_,_,h,_=>by simp[zfH] at h
 | d :: ds,xs,y :: ys,u,ls,ms,h,h2=>by
  simp only[zfH] at h
  split at h
  ·rename_i u1 u2 e1 e2
   simp only[dqa] at h;subst h
   simp only[ze0] at h2
   split at h2
   ·rename_i x bl m1 xs' bls m2 h3 h4
    simp only[dqa,dqh] at h2;rw[<- h2.2.1]
    obtain⟨i1,i2⟩:=zwt e2 h4
    obtain⟨j1,j2⟩:=zJF e1 h3
    exact⟨by simp[i1,j1],λ x hx=>(dqg.1 hx).elim (j2 x) (i2 x)⟩
   ·cases h2
  ·cases h
theorem zkH {ob ob' : Nat → Option AO} : ∀ {cells : List Cl}, (∀ L ∈ cells.flatMap zaF, ob' L = ob L) → zdf ob' cells = zdf ob cells
  | [],_=>rfl
  | c :: cells,h=>by
    have ih:zdf ob' cells=zdf ob cells:=zkH λ L hL=>h L (by simp only[dqJ,dqg];exact .inr hL)
    cases c with
    | vec M=>simp only[zdf,ih,h M (by simp[zaF])]
    | mo M=>simp only[zdf,ih,h M (by simp[zaF])]
    | _=>simp only[zdf,ih]
theorem zwu {ob ob':Nat->Option AO}{d:DV}(h:∀ L∈zaY ob d,ob' L=ob L):zpG ob' d=zpG ob d/\∀ y,zvj ob' d y=zvj ob d y:=by
 have hx:zly ob' d=zly ob d:=by simp only[zly,zl6 h]
 by_cases hd:∃ L,d=.one (.c (.ptr L 0))
 ·obtain ⟨L, rfl⟩ := hd
  have hL:ob' L=ob L:=h L (dqo.2 ⟨L,by simp[zaX,zbg,zaF],dqj⟩)
  refine⟨?_,λ y=>by simp only[zvj,hL]⟩
  rw[zeF,zeF,hL,hx]
  cases ho:ob L with
  | none=>rfl
  | some o =>
   cases o with
   | box ty cells =>
    have:zdf ob' cells=zdf ob cells:=zkH λ M hM=>h M (dqo.2 ⟨L,by simp[zaX,zbg,zaF],dqf _ (by rw[ho];exact hM)⟩)
    simp only[this]
   | _=>rfl
 ·refine ⟨?_, fun y => ?_⟩
  ·unfold zpG
   split
   ·exact (hd ⟨_,rfl⟩).elim
   ·exact hx
  ·unfold zvj
   split
   ·exact (hd ⟨_,rfl⟩).elim
   ·rfl
theorem zl7 {ob ob' : Nat → Option AO} : ∀ {ds : List DV}, (∀ L ∈ ds.flatMap (zaY ob), ob' L = ob L) → ze0 ob' ds = ze0 ob ds ∧ ∀ ys, zfH ob' ds ys = zfH ob ds ys
  | [],_=>⟨rfl,λ ys=>by cases ys <;> rfl⟩
  | d :: ds,h=>by
    obtain⟨i1,i2⟩:=zl7 (ds:=ds) (ob':=ob') λ L hL=>h L (by simp only[dqJ,dqg];exact .inr hL)
    obtain⟨j1,j2⟩:=zwu (ob':=ob') (d:=d) λ L hL=>h L (by simp only[dqJ,dqg];exact .inl hL)
    refine⟨by simp only[ze0,i1,j1],λ ys=>?_⟩
    cases ys with
    | nil=>rfl
    | cons y ys=>simp only[zfH,i2,j2]
theorem zDA {C:MK}{ds:List DV}(hk:∀ ev' ob',(∀ x∈o.op.operands.toList,ev' x=ev x)->act P Γ o ev' ob'=zjr C ds ob') (hA:zjr C ds ob=A) (hs:A.safe):ActOk P Γ o ev ob A:=by
 unfold zjr at hA
 split at hA
 ·rename_i xs ls ms has
  split at hA
  ·rename_i s rs ys hCx
   split at hA
   ·rename_i u hput hcond
    subst hA
    have hcond':=hcond
    simp only[dqm,Nat.ble_eq] at hcond
    obtain⟨h1,h2⟩:=zwt hput has
    have hw:∀ L∈ls,(L,true)∈wr ls ++ rd (ds.flatMap (zaY ob)):=λ L hL=>dqg.2 (.inl (zoU hL))
    have hul:∀ x∈u,x.1∈ls:=λ x hx=>by rw[<- h1];exact dqz.2 ⟨x,hx,rfl⟩
    refine⟨λ x hx=>hw _ (hul x hx),?_,λ x hx L hL=>?_,λ d hd L hL=>(by simp only[OpAct.gives] at hd;subst hd;rw[zhW] at hL;simp at hL),λ ev' ob' he hob=>?_⟩
    ·match ms,hcond.2,has with
     | [],_,_=>exact .inl rfl
     | [x],_,has=>exact .inr ⟨x,rfl,hw x (zku has x (by simp))⟩
     | _ :: _ :: _,h,_=>simp at h
    ·obtain ⟨o', ho, hL⟩ := h2 x hx L hL
     exact .inr ⟨(x.1,true),hw _ (hul x hx),o',ho,hL⟩
    ·have hl : ∀ L ∈ ds.flatMap (zaY ob), ob' L = ob L := fun L hL => hob (L, false) (dqg.2 (.inr (dqz.2 ⟨L, hL, rfl⟩)))
     have e1:=zl7 hl
     have e2:ds.flatMap (zaY ob')=ds.flatMap (zaY ob):=fmc λ d hd=>zd3 λ L hL=>hl L (dqo.2 ⟨d,hd,hL⟩)
     rw[hk ev' ob' he]
     simp only[zjr,e1.1,has,hCx,e1.2,hput,hcond',e2]
   ·exact dq9 hA hs
  ·exact dq9 hA hs
 ·exact dq9 hA hs
theorem zkI {ev' : Operand → DV} : ∀ {l : List Operand}, (∀ x ∈ l, ev' x = ev x) → zmx ev' l = zmx ev l
  | [],_=>rfl
  | x :: l,h=>by simp only[zmx,h x dqj,zkI λ y hy=>h y (dqf _ hy)]

theorem zwv {C : COut} {args : Array Operand} {c : Callee} {ts : Array TypeId} {as : List PA} {u : Upd} (hop : o.op = .call { callee := c, args, argTypes := ts })
    (has:zeR ob (args.toList.map ev)=some (as,u))
    (key:∀ (ev':Operand->DV) (ob':Nat->Option AO),(∀ x∈o.op.operands.toList,ev' x=ev x)->(∀ L∈args.toList.flatMap λ x=>zaY ob (ev x),ob' L=ob L) ->
      act P Γ o ev' ob'=C.act (args.toList.flatMap λ x=>zaY ob (ev x)) u) (hA:C.act (args.toList.flatMap λ x=>zaY ob (ev x)) u=A) (hs:A.safe):ActOk P Γ o ev ob A:=by
  have hwrT:∀ L,L∈(args.toList.flatMap λ x=>zaY ob (ev x))->(L,true)∈wr (args.toList.flatMap λ x=>zaY ob (ev x)):=λ L hL=>dqz.2 ⟨L,hL,rfl⟩
  have hrdF:∀ L,L∈(args.toList.flatMap λ x=>zaY ob (ev x))->(L,false)∈rd (args.toList.flatMap λ x=>zaY ob (ev x)):=λ L hL=>dqz.2 ⟨L,hL,rfl⟩
  have hk:∀ x∈u,(x.1,true)∈wr (args.toList.flatMap λ x=>zaY ob (ev x))/\aoV x.2=[]:=λ x hx=>by
    obtain⟨h1,h2⟩:=ziq has x hx
    refine⟨hwrT _ ?_,h2⟩
    rw[List.flatMap_map] at h1;exact h1
  generalize (args.toList.flatMap λ x=>zaY ob (ev x))=labs at hA key hk hwrT hrdF
  cases C with
  | no=>exact dq9 hA hs
  | tot r =>
    cases hsc:zgY r with
    | true =>
      rw[zpH hsc] at hA;simp only[zpH hsc] at key;subst hA
      exact⟨λ x hx=>by simp[OpAct.u] at hx,.inl rfl,λ x hx=>by simp[OpAct.u] at hx,λ d hd L hL=>(by cases hd;rw[zhW] at hL;simp at hL),λ ev' ob' he hob=>key ev' ob' he λ L hL=>hob (L,false) (hrdF L hL)⟩
    | false =>
      cases hl:zhG u r with
      | true =>
        rw[zmq hsc hl] at hA;simp only[zmq hsc hl] at key;subst hA
        exact⟨λ x hx=>by simp[OpAct.u] at hx,.inl rfl,λ x hx=>by simp[OpAct.u] at hx,λ d hd L hL=>(by cases hd;rw[zhW] at hL;simp at hL),λ ev' ob' he hob=>key ev' ob' he λ L hL=>hob (L,false) (hrdF L hL)⟩
      | false =>
        rw[zpI hsc hl] at hA;simp only[zpI hsc hl] at key;subst hA
        exact⟨λ x hx=>(hk x hx).1,.inl rfl,λ x hx L hL=>(by rw[(hk x hx).2] at hL;simp at hL),λ d hd L hL=>(by simp only[OpAct.gives] at hd;subst hd;rw[zhW] at hL;simp at hL),λ ev' ob' he hob=>key ev' ob' he λ L hL=>hob (L,true) (hwrT L hL)⟩
  | det s r =>
    cases hsc:zgY r with
    | true =>
      rw[zmr hsc] at hA;simp only[zmr hsc] at key;subst hA
      exact⟨λ x hx=>by simp[OpAct.u] at hx,.inl rfl,λ x hx=>by simp[OpAct.u] at hx,λ d hd L hL=>(by cases hd;rw[zhW] at hL;simp at hL),λ ev' ob' he hob=>key ev' ob' he λ L hL=>hob (L,false) (hrdF L hL)⟩
    | false =>
      cases hl:zhG u r with
      | true =>
        rw[zj6 hsc hl] at hA;simp only[zj6 hsc hl] at key;subst hA
        exact⟨λ x hx=>by simp[OpAct.u] at hx,.inl rfl,λ x hx=>by simp[OpAct.u] at hx,λ d hd L hL=>(by cases hd;rw[zhW] at hL;simp at hL),λ ev' ob' he hob=>key ev' ob' he λ L hL=>hob (L,false) (hrdF L hL)⟩
      | false =>
        rw[zms hsc hl] at hA;simp only[zms hsc hl] at key;subst hA
        exact⟨λ x hx=>(hk x hx).1,.inl rfl,λ x hx L hL=>(by rw[(hk x hx).2] at hL;simp at hL),λ d hd L hL=>(by simp only[OpAct.gives] at hd;subst hd;rw[zhW] at hL;simp at hL),λ ev' ob' he hob=>key ev' ob' he λ L hL=>hob (L,true) (hwrT L hL)⟩
  | rel ρ s post r =>
    subst hA
    exact⟨λ x hx=>(hk x hx).1,.inl rfl,λ x hx L hL=>(by rw[(hk x hx).2] at hL;simp at hL),λ d hd L hL=>(by simp only[COut.act,OpAct.gives] at hd;obtain⟨x,rfl⟩:=hd;rw[zhW] at hL;simp at hL),λ ev' ob' he hob=>key ev' ob' he λ L hL=>hob (L,true) (hwrT L hL)⟩
  | alt b s1 r1 s2 r2 =>
    subst hA
    exact⟨λ x hx=>(hk x hx).1,.inl rfl,λ x hx L hL=>(by rw[(hk x hx).2] at hL;simp at hL),λ d hd L hL=>(by simp only[COut.act,OpAct.gives] at hd;rcases hd with rfl | rfl <;> (rw[zhW] at hL;simp at hL)),λ ev' ob' he hob=>key ev' ob' he λ L hL=>hob (L,true) (hwrT L hL)⟩
theorem zE9 {f:Operand}{args:Array Operand}{ts:Array TypeId}(hop:o.op=.call { callee:=.value f,args,argTypes:=ts }) (hA:act P Γ o ev ob=A) (hs:A.safe):ActOk P Γ o ev ob A:=by
 have hm:=zgQ hop
 have hf:f∈o.op.operands.toList:=by simp[hop,Op.operands,Call.operands]
 simp only[act,hop] at hA
 have e0:∀ ev':Operand->DV,(∀ x∈o.op.operands.toList,ev' x=ev x)->args.toList.map ev'=args.toList.map ev:=λ ev' he=>List.map_congr_left λ x hx=>he x (hm x hx)
 split at hA
 ·rename_i gf caps hef
  split at hA
  ·rename_i C hC
   exact zDA (λ ev' ob' he=>by simp only[act,hop,he f hf,hef,hC,e0 ev' he]) hA hs
  ·exact dq9 hA hs
 ·rename_i gf first caps hef
  split at hA
  ·rename_i C hC
   exact zDA (λ ev' ob' he=>by simp only[act,hop,he f hf,hef,hC,e0 ev' he]) hA hs
  rename_i hC
  split at hA
  ·rename_i hk
   split at hA
   ·exact zJE (k:=Γ.own gf) hop (λ ev' ob' he=>by simp only[act,hop,he f hf,hef,hC,hk]) hA hs
   ·exact dq9 hA hs
  rename_i hko
  split at hA
  ·rename_i as u has
   have key:∀ (ev':Operand->DV) (ob':Nat->Option AO),(∀ x∈o.op.operands.toList,ev' x=ev x)->(∀ L∈args.toList.flatMap λ x=>zaY ob (ev x),ob' L=ob L) ->
     act P Γ o ev' ob'=(Γ gf (first.map .one ++ as ++ caps.map .one)).act (args.toList.flatMap λ x=>zaY ob (ev x)) u:=by
    intro ev' ob' he hl
    have e0:args.toList.map ev'=args.toList.map ev:=List.map_congr_left λ x hx=>he x (hm x hx)
    have e1:zeR ob' (args.toList.map ev)=zeR ob (args.toList.map ev):=zhf λ L hL=>hl L (by rw[List.flatMap_map] at hL;exact hL)
    have e2:(args.toList.flatMap λ x=>zaY ob' (ev' x))=args.toList.flatMap λ x=>zaY ob (ev x):=by
     refine fmc λ x hx=>?_
     rw[he x (hm x hx)]
     exact zd3 λ L hL=>hl L (dqo.2 ⟨x,hx,hL⟩)
    simp only[act,hop,he f hf,hef,hC,hko,e0,e1,has,e2]
   exact zwv hop has key hA hs
  ·exact dq9 hA hs
 ·rename_i gf cells hef
  split at hA
  ·rename_i as u has
   have key:∀ (ev':Operand->DV) (ob':Nat->Option AO),(∀ x∈o.op.operands.toList,ev' x=ev x)->(∀ L∈args.toList.flatMap λ x=>zaY ob (ev x),ob' L=ob L) ->
     act P Γ o ev' ob'=(Γ gf (.agg cells :: as)).act (args.toList.flatMap λ x=>zaY ob (ev x)) u:=by
    intro ev' ob' he hl
    have e0:args.toList.map ev'=args.toList.map ev:=List.map_congr_left λ x hx=>he x (hm x hx)
    have e1:zeR ob' (args.toList.map ev)=zeR ob (args.toList.map ev):=zhf λ L hL=>hl L (by rw[List.flatMap_map] at hL;exact hL)
    have e2:(args.toList.flatMap λ x=>zaY ob' (ev' x))=args.toList.flatMap λ x=>zaY ob (ev x):=by
     refine fmc λ x hx=>?_
     rw[he x (hm x hx)]
     exact zd3 λ L hL=>hl L (dqo.2 ⟨x,hx,hL⟩)
    simp only[act,hop,he f hf,hef,e0,e1,has,e2]
   exact zwv hop has key hA hs
  ·exact dq9 hA hs
 ·exact dq9 hA hs

theorem zqe {f:FuncId}{first caps:Array Operand}(hop:o.op=.makeFunc (.func f) first caps) (hA:act P Γ o ev ob=A) (hs:A.safe):ActOk P Γ o ev ob A:=by
 have hm:∀ x∈first.toList ++ caps.toList,x∈o.op.operands.toList:=λ x hx=>by simp only[hop,Op.operands];simpa using hx
 simp only[act,hop] at hA
 split at hA
 ·rename_i hmt
  split at hA
  ·rename_i cs hf hc
   subst hA
   refine ActOk.pure (λ L hL=>by simp[dvV,d1V,clV] at hL) λ ev' ob' he _=>?_
   have e1:zmx ev' caps.toList=some cs:=(zkI λ x hx=>he x (hm x (dqg.2 (.inr hx)))).trans hc
   simp only[act,hop,hmt,hf,e1]
  ·exact dq9 hA hs
 rename_i hmt
 have hbc:∀ ev':Operand->DV,(∀ x∈o.op.operands.toList,ev' x=ev x)->zus ev' first.toList caps.toList=zus ev first.toList caps.toList:=λ ev' he=>by
  unfold zus
  cases hf:first.toList with
  | nil=>rfl
  | cons x r =>
   cases r with
   | cons y r=>rfl
   | nil =>
    cases hc:caps.toList with
    | cons y r=>rfl
    | nil=>simp only[];rw[he x (hm x (by rw[hf];simp))]
 split at hA
 ·rename_i l hb
  subst hA
  exact ActOk.pure (zcd _) λ ev' ob' he _=>by simp only[act,hop,hmt,hbc ev' he,hb]
 rename_i hbn
 split at hA
 ·rename_i l u l' u' h1 h2
  subst hA
  have lab1:∀ (x:Operand) (c:Cl),ev x=.one (.c c)->∀ L,L∈zaF c->L∈zaY ob (ev x):=λ x c h L hL=>by
   rw[h];exact dqo.2 ⟨L,hL,dqj⟩
  have lab2:∀ (x:Operand) (c:Cl),ev x=.one (.c c)->∀ L,L∈zaF c->∀ o',ob L=some o'->∀ M∈zbB o',M∈zaY ob (ev x):=λ x c h L hL o' ho' M hM=>by
   rw[h];refine dqo.2 ⟨L,hL,dqf _ ?_⟩;rw[ho'];exact hM
  have clm:∀ (xs:List Operand),∀ L∈(xs.flatMap λ x=>match ev x with | .one (.c c)=>[c] | _=>[.junk]).flatMap zaF,∃ x∈xs,∃ c,ev x=.one (.c c)/\L∈zaF c:=by
   intro xs L hL
   obtain⟨c,hc,hL⟩:=dqo.1 hL
   obtain⟨x,hx,hc⟩:=dqo.1 hc
   refine⟨x,hx,?_⟩
   split at hc
   ·rename_i c' h;simp at hc;subst hc;exact⟨_,h,hL⟩
   ·simp at hc;subst hc;simp[zaF] at hL
  have keys:∀ (xs:List Operand) (l:List PV) (u:Upd),zlz ob (xs.flatMap λ x=>match ev x with | .one (.c c)=>[c] | _=>[.junk])=some (l,u) ->
    ∀ x∈u,x.1∈xs.flatMap (λ x=>zaY ob (ev x))/\aoV x.2=[]:=by
   intro xs l u h y hy
   obtain⟨h3,h4⟩:=zkF h y hy
   refine⟨?_,h4⟩
   rcases h3 with h3 | ⟨L,hL,o',h5,h6⟩
   ·obtain ⟨x, hx, c, hc, hL⟩ := clm xs _ h3
    exact dqo.2 ⟨x,hx,lab1 x c hc _ hL⟩
   ·obtain ⟨x, hx, c, hc, hL⟩ := clm xs _ hL
    exact dqo.2 ⟨x,hx,lab2 x c hc _ hL _ h5 _ h6⟩
  have cong:∀ (xs:List Operand) (ev':Operand->DV) (ob':Nat->Option AO),(∀ x∈xs,ev' x=ev x)->(∀ L∈xs.flatMap (λ x=>zaY ob (ev x)),ob' L=ob L) ->
    zlz ob' (xs.flatMap λ x=>match ev' x with | .one (.c c)=>[c] | _=>[.junk])=zlz ob (xs.flatMap λ x=>match ev x with | .one (.c c)=>[c] | _=>[.junk]):=by
   intro xs ev' ob' he hob
   have e0:(xs.flatMap λ x=>match ev' x with | .one (.c c)=>[c] | _=>[.junk])=xs.flatMap λ x=>match ev x with | .one (.c c)=>[c] | _=>[.junk] :=
    fmc λ x hx=>by rw[he x hx]
   rw[e0]
   refine zio λ L hL=>?_
   obtain⟨x,hx,c,hc,hL⟩:=clm xs _ hL
   exact⟨hob L (dqo.2 ⟨x,hx,lab1 x c hc _ hL⟩),λ o' ho' M hM=>hob M (dqo.2 ⟨x,hx,lab2 x c hc _ hL _ ho' _ hM⟩)⟩
  refine⟨λ x hx=>?_,.inl rfl,λ x hx L hL=>?_,λ d' hd' L hL=>?_,λ ev' ob' he hob=>?_⟩
  ·simp only [OpAct.u] at hx
   refine zoU ?_
   rw[List.flatMap_append]
   rcases dqg.1 hx with hx | hx
   ·exact dqg.2 (.inl (keys _ _ _ h1 x hx).1)
   ·exact dqg.2 (.inr (keys _ _ _ h2 x hx).1)
  ·simp only [OpAct.u] at hx
   rcases dqg.1 hx with hx | hx
   ·rw[(keys _ _ _ h1 x hx).2] at hL;simp at hL
   ·rw[(keys _ _ _ h2 x hx).2] at hL;simp at hL
  ·simp only[OpAct.gives] at hd';subst hd';simp[dvV,d1V,clV] at hL
  ·have hl : ∀ L ∈ (first.toList ++ caps.toList).flatMap fun x => zaY ob (ev x), ob' L = ob L := fun L hL => hob (L, true) (zoU hL)
   have e1:=cong first.toList ev' ob' (λ x hx=>he x (hm x (dqg.2 (.inl hx)))) (λ L hL=>hl L (by rw[List.flatMap_append];exact dqg.2 (.inl hL)))
   have e2:=cong caps.toList ev' ob' (λ x hx=>he x (hm x (dqg.2 (.inr hx)))) (λ L hL=>hl L (by rw[List.flatMap_append];exact dqg.2 (.inr hL)))
   have e3:((first.toList ++ caps.toList).flatMap λ x=>zaY ob' (ev' x))=(first.toList ++ caps.toList).flatMap λ x=>zaY ob (ev x):=by
    refine fmc λ x hx=>?_
    rw[he x (hm x hx)]
    exact zd3 λ L hL=>hl L (dqo.2 ⟨x,hx,hL⟩)
   simp only[act,hop,hmt,e3,hbc ev' he,hbn]
   split
   ·rename_i l2 u2 l3 u3 h3 h4
    have a1:some (l2,u2)=some (l,u):=h3.symm.trans (e1.trans h1)
    have a2:some (l3,u3)=some (l',u'):=h4.symm.trans (e2.trans h2)
    simp only[dqa,dqh] at a1 a2
    obtain⟨rfl,rfl⟩:=a1
    obtain⟨rfl,rfl⟩:=a2
    rfl
   ·rename_i hno
    exact (hno l u l' u' (e1.trans h1) (e2.trans h2)).elim
 ·exact dq9 hA hs

theorem zoZ {t:TypeId}{x y:Operand}(hop:o.op=.makeSlice t x y) (hA:act P Γ o ev ob=A) (hs:A.safe):ActOk P Γ o ev ob A:=by
 have hx:x∈o.op.operands.toList:=by simp[hop,Op.operands]
 have hy:y∈o.op.operands.toList:=by simp[hop,Op.operands]
 have hc0:∀ ev' ob',(∀ x∈o.op.operands.toList,ev' x=ev x)->act P Γ o ev' ob'=zfN P Γ t (ev x) (ev y) o.dst ob':=λ ev' ob' he=>by simp only[act,hop,he x hx,he y hy]
 have hA0:=hA
 rw[hc0 ev ob (λ _ _=>rfl)] at hA
 unfold zfN at hA
 split at hA
 ·rename_i e k1 j k2 j2 dst hu hex hey hdst
  split at hA
  ·rename_i ie z hi hz hfresh
   have fin:∀ (s:Prop) (ao:AO),aoV ao=[]->OpAct.chk [(dst,true)] s (.cl (.vec dst)) [(dst,ao)] []=A->(∀ ob':Nat->Option AO,ob' dst=none->zfN P Γ t (ev x) (ev y) o.dst ob'=A)->ActOk P Γ o ev ob A:=by
    intro s ao hao e hcc
    subst e
    refine⟨λ z hz=>?_,.inl rfl,λ z hz M hM=>?_,λ d' hd' M hM=>?_,λ ev' ob' he hob=>?_⟩
    ·simp only[OpAct.u,dqi] at hz;subst hz;simp[OpAct.fp]
    ·simp only[OpAct.u,dqi] at hz;subst hz;rw[hao] at hM;simp at hM
    ·simp only [OpAct.gives] at hd'; subst hd'
     simp only[dvV,d1V,clV,dqi] at hM;subst hM
     exact .inr (by simp[OpAct.fp])
    ·have e2 := hob (dst, true) (by simp [OpAct.fp]); simp only at e2
     rw[hc0 ev' ob' he]
     exact hcc ob' (e2.trans hfresh)
   have hcc:∀ ob':Nat->Option AO,ob' dst=none->zfN P Γ t (ev x) (ev y) o.dst ob'=A:=λ ob' h=>by
    have:act P Γ o ev ob=A:=hA0
    rw[hc0 ev ob (λ _ _=>rfl)] at this
    rw[<- this]
    unfold zfN
    simp only[hu,hex,hey,hdst,hi,hz,hfresh,h]
   split at hA
   ·split at hA
    ·split at hA
     ·exact fin _ _ rfl hA hcc
     ·exact dq9 hA hs
    ·split at hA
     ·split at hA
      ·exact fin _ _ rfl hA hcc
      ·exact dq9 hA hs
     ·exact dq9 hA hs
    ·exact dq9 hA hs
   ·split at hA
    ·split at hA
     ·exact fin _ _ rfl hA hcc
     ·exact dq9 hA hs
    ·exact dq9 hA hs
  ·exact dq9 hA hs
 ·exact dq9 hA hs

theorem zBN {t:TypeId}{x:Operand}(hop:o.op=.range t x) (hA:act P Γ o ev ob=A) (hs:A.safe):ActOk P Γ o ev ob A:=by
 have hx:x∈o.op.operands.toList:=by simp[hop,Op.operands]
 simp only[act,hop] at hA
 split at hA
 ·rename_i q q' m F hq hex
  split at hA
  ·rename_i e
   exact zmZ (ao:=.mit q m F []) (d:=λ t=>.cl (.ptr t 0)) (λ L hL=>by simp[aoV] at hL) (λ t L hL=>by simp[dvV,d1V,clV] at hL) (λ ev' ob' he=>by simp only[act,hop,he x hx,hex,hq,if_pos e]) hA hs
  ·exact dq9 hA hs
 ·exact dq9 hA hs

theorem zBO {x:Operand}(hop:o.op=.entry x) (hA:act P Γ o ev ob=A) (hs:A.safe):ActOk P Γ o ev ob A:=by
 have hx:x∈o.op.operands.toList:=by simp[hop,Op.operands]
 simp only[act,hop] at hA
 split at hA
 ·rename_i L hex
  split at hA
  ·rename_i q m F c seen hL
   split at hA
   ·rename_i kd vd hkd hvd
    subst hA
    refine ActOk.pure (λ M hM=>?_) λ ev' ob' he hob=>?_
    ·simp only [dvV, dqJ, List.flatMap_nil, List.append_nil, dqg] at hM
     rcases hM with hM | hM
     ·have:=zqc M hM;rw[zs5 hkd] at this;simp at this
     ·have:=zqc M hM;rw[zjW hvd] at this;simp at this
    ·have e := hob (L, false) (by simp); simp only at e
     simp only[act,hop,he x hx,hex,e,hL,hkd,hvd]
   ·exact dq9 hA hs
  ·exact dq9 hA hs
 ·exact dq9 hA hs

theorem zMA (hA:act P Γ o ev ob=A) (hs:A.safe):ActOk P Γ o ev ob A:=by
 have hA':=hA
 cases hop:o.op with
 | move x=>simp only[act,hop] at hA;subst hA;exact zwm (.inl hop)
 | assign x=>simp only[act,hop] at hA;subst hA;exact zwm (.inr hop)
 | pick c x y =>
  simp only[act,hop] at hA
  split at hA
  ·rename_i t hc;subst hA;exact zE5 hop hc
  ·exact dq9 hA hs
 | alloc e =>
  simp only[act,hop] at hA
  split at hA
  ·rename_i z hz
   refine zmZ (ao:=.box e z) (d:=λ t=>.cl (.ptr t 0)) (λ L hL=>?_) (λ t L hL=>by simp[dvV,d1V,clV] at hL) (λ ev' ob' _=>by simp only[act,hop,hz]) hA hs
   simp only[aoV] at hL;rw[zwn hz] at hL;simp at hL
  ·exact dq9 hA hs
 | box e x =>
  have hx:x∈o.op.operands.toList:=by simp[hop,Op.operands]
  simp only[act,hop] at hA
  split at hA
  ·rename_i d m hex hm
   split at hA
   ·rename_i hcond
    refine zmZ (ao:=.box e (zhK P e d.cells)) (d:=λ t=>.cl (.ptr t 0)) (λ L hL=>?_) (λ t L hL=>by simp[dvV,d1V,clV] at hL) (λ ev' ob' he=>by simp only[act,hop,he x hx,hex,hm,hcond]) hA hs
    simp only[aoV] at hL
    have hL:=zBG L hL
    rw[zqa] at hL
    exact .inl ⟨x,hx,by rw[hex];exact hL⟩
   ·exact dq9 hA hs
  ·exact dq9 hA hs
 | build t parts =>
  simp only[act,hop] at hA
  split at hA
  ·rename_i z hf hz
   split at hA
   ·rename_i l hl;subst hA;exact zBH hop hf hz hl
   ·exact dq9 hA hs
  ·exact dq9 hA hs
 | buildSlice t m parts=>exact zm0 hop hA' hs
 | load t x=>exact zE7 hop hA' hs
 | store t x y=>exact zBI hop hA' hs
 | nilCheck x=>exact zqb hop hA' hs
 | binOp op t x y t'=>exact zBK hop hA' hs
 | unOp op t x=>exact zE8 hop hA' hs
 | fieldAddr t x f=>exact zoW hop hA' hs
 | indexAddr t x y=>exact zoX hop hA' hs
 | extract x k=>exact zuL hop hA' hs
 | index t x y=>exact zBL hop hA' hs
 | field t x f=>exact zBM hop hA' hs
 | slice t x lo hi mx =>
  cases mx with
  | none=>exact ok_slice hop hA' hs
  | some m=>simp only[act,hop] at hA;exact dq9 hA hs
 | lookup t x y k=>exact zwq hop hA' hs
 | mapUpdate t x y z=>exact zoV hop hA' hs
 | makeMap t x =>
  cases x with
  | none=>exact zuK hop hA' hs
  | some x=>simp only[act,hop] at hA;exact dq9 hA hs
 | makeSlice t x y=>exact zoZ hop hA' hs
 | range t x=>exact zBN hop hA' hs
 | entry x=>exact zBO hop hA' hs
 | makeFunc fn first caps =>
  cases fn with
  | func f=>exact zqe hop hA' hs
  | _=>simp only[act,hop] at hA;exact dq9 hA hs
 | call c =>
  obtain⟨callee,args,ts⟩:=c
  cases callee with
  | value f=>exact zE9 hop hA' hs
  | invoke x m=>simp only[act,hop] at hA;exact dq9 hA hs
  | builtin b =>
   cases b with
   | len=>exact zJB hop hA' hs
   | max=>exact zJA (.inl rfl) hop hA' hs
   | min=>exact zJA (.inr rfl) hop hA' hs
   | append=>exact zwr hop hA' hs
   | delete=>exact zJC hop hA' hs
   | _=>simp only[act,hop] at hA;exact dq9 hA hs
 | _=>simp only[act,hop] at hA;exact dq9 hA hs
end
end Go.Pm
namespace Go.Pm

structure Eqv (σ τ : St) : Prop where
  env:∀ t,lk σ.env t=lk τ.env t
  objs:∀ L,lk σ.objs L=lk τ.objs L
  log:∀ x,x∈σ.log↔x∈τ.log

theorem Eqv.refl (σ:St):Eqv σ σ:=⟨λ _=>rfl,λ _=>rfl,λ _=>Iff.rfl⟩
theorem Eqv.symm {σ τ:St}(h:Eqv σ τ):Eqv τ σ:=⟨λ t=>(h.env t).symm,λ t=>(h.objs t).symm,λ x=>(h.log x).symm⟩

theorem zkJ {e e':List (Nat×DV)}{x:Operand}(h:∀ t∈zJf x,lk e t=lk e' t):evO e x=evO e' x:=by
 cases x with
 | tmp t=>simp only[evO];rw[h t (by simp[zJf])]
 | _=>rfl

theorem zkK (x:Cl):zbG [] x=x:=by cases x <;> rfl
theorem zl8 (x:D1):zb2 [] x=x:=by
 cases x with
 | c x=>simp[zb2,zkK]
 | agg cs=>simp only[zb2];rw[show zbG []=id from funext zkK,List.map_id]
theorem zww (x:DV):zcL [] x=x:=by
 cases x with
 | one x=>simp[zcL,zl8]
 | tup cs=>simp only[zcL];rw[show zb2 []=id from funext zl8,List.map_id]
theorem zwx (x:AO):zb9 [] x=x:=by
 cases x with
 | box ty cs=>simp only[zb9];rw[show zbG []=id from funext zkK,List.map_id]
 | _=>rfl

theorem zm2 {l:List Nat}{x:Cl}(h:∀ L∈clV x,L ∉ l):zbG l x=x:=by
 cases x with
 | vec L =>
  have h1:l.contains L=false:=by simpa using h L (by simp[clV])
  simp only[zbG,h1]
 | vptr L s i k =>
  have h1:l.contains L=false:=by simpa using h L (by simp[clV])
  simp only[zbG,h1]
 | ivec L i =>
  have h1:l.contains L=false:=by simpa using h L (by simp[clV])
  simp only[zbG,h1]
 | iptr L s i j k =>
  have h1:l.contains L=false:=by simpa using h L (by simp[clV])
  simp only[zbG,h1]
 | imap L i =>
  have h1:l.contains L=false:=by simpa using h L (by simp[clV])
  simp only[zbG,h1]
 | xv L s i b n m j c =>
  have h1:l.contains L=false:=by simpa using h L (by simp[clV])
  simp only[zbG,h1]
 | mo L =>
  have h1:l.contains L=false:=by simpa using h L (by simp[clV])
  simp only[zbG,h1]
 | mkey it L =>
  have h1:l.contains L=false:=by simpa using h L (by simp[clV])
  simp only[zbG,h1]
 | _=>rfl
theorem zhX {α : Type} {f : α → α} : ∀ {l : List α}, (∀ x ∈ l, f x = x) → l.map f = l
  | [],_=>rfl
  | x :: l,h=>by rw[dqK,h x dqj,zhX λ y hy=>h y (dqf _ hy)]
theorem zo0 {l:List Nat}{x:D1}(h:∀ L∈d1V x,L ∉ l):zb2 l x=x:=by
 cases x with
 | c x=>simp only[zb2];rw[zm2 h]
 | agg cs=>simp only[zb2];rw[zhX λ x hx=>zm2 λ L hL=>h L (dqo.2 ⟨x,hx,hL⟩)]
theorem zm3 {l:List Nat}{x:DV}(h:∀ L∈dvV x,L ∉ l):zcL l x=x:=by
 cases x with
 | one x=>simp only[zcL];rw[zo0 h]
 | tup cs=>simp only[zcL];rw[zhX λ x hx=>zo0 λ L hL=>h L (dqo.2 ⟨x,hx,hL⟩)]
theorem zm4 {l:List Nat}{x:AO}(h:∀ L∈aoV x,L ∉ l):zb9 l x=x:=by
 cases x with
 | box ty cs=>simp only[zb9];rw[zhX λ x hx=>zm2 λ L hL=>h L (dqo.2 ⟨x,hx,hL⟩)]
 | _=>rfl

theorem zqf {l:List Nat}{x:Cl} : clV (zbG l x)=clV x:=by
 cases x with
 | vec L=>simp only[zbG];split <;> rfl
 | vptr L s i k=>simp only[zbG];split <;> rfl
 | ivec L i=>simp only[zbG];split <;> rfl
 | iptr L s i j k=>simp only[zbG];split <;> rfl
 | imap L i=>simp only[zbG];split <;> rfl
 | xv L s i b n m j c=>simp only[zbG];split <;> rfl
 | mo L=>simp only[zbG];split <;> rfl
 | mkey it L=>simp only[zbG];split <;> rfl
 | _=>rfl
theorem zth {l:List Nat}{x:D1} : d1V (zb2 l x)=d1V x:=by
 cases x with
 | c x=>exact zqf
 | agg cs=>simp only[zb2,d1V,List.flatMap_map];exact fmc λ x _=>zqf
theorem zFa {l:List Nat}{x:DV} : dvV (zcL l x)=dvV x:=by
 cases x with
 | one x=>exact zth
 | tup cs=>simp only[zcL,dvV,List.flatMap_map];exact fmc λ x _=>zth
theorem zqg {l:List Nat}{x:AO} : aoV (zb9 l x)=aoV x:=by
 cases x with
 | box ty cs=>simp only[zb9,aoV,List.flatMap_map];exact fmc λ x _=>zqf
 | _=>rfl

theorem zir {l m:List Nat}(x:Cl):zbG l (zbG m x)=zbG m (zbG l x):=by
 cases x with
 | vec L=>simp only[zbG];cases hl:l.contains L <;> cases hm:m.contains L <;> simp only[hl,hm]
 | vptr L s i k=>simp only[zbG];cases hl:l.contains L <;> cases hm:m.contains L <;> simp only[hl,hm]
 | ivec L i=>simp only[zbG];cases hl:l.contains L <;> cases hm:m.contains L <;> simp only[hl,hm]
 | imap L i=>simp only[zbG];cases hl:l.contains L <;> cases hm:m.contains L <;> simp only[hl,hm]
 | xv L s i b n k j c=>simp only[zbG];cases hl:l.contains L <;> cases hm:m.contains L <;> simp only[hl,hm]
 | mo L=>simp only[zbG];cases hl:l.contains L <;> cases hm:m.contains L <;> simp only[hl,hm]
 | mkey it L=>simp only[zbG];cases hl:l.contains L <;> cases hm:m.contains L <;> simp only[hl,hm]
 | iptr L s i j k=>simp only[zbG];cases hl:l.contains L <;> cases hm:m.contains L <;> simp only[hl,hm]
 | _=>rfl
theorem zkL {l m:List Nat}(x:D1):zb2 l (zb2 m x)=zb2 m (zb2 l x):=by
 cases x with
 | c x=>simp only[zb2];rw[zir]
 | agg cs=>simp only[zb2,List.map_map];rw[show zbG l ∘ zbG m=zbG m ∘ zbG l from funext zir]
theorem zuO {l m:List Nat}(x:DV):zcL l (zcL m x)=zcL m (zcL l x):=by
 cases x with
 | one x=>simp only[zcL];rw[zkL]
 | tup cs=>simp only[zcL,List.map_map];rw[show zb2 l ∘ zb2 m=zb2 m ∘ zb2 l from funext zkL]
theorem zuP {l m:List Nat}(x:AO):zb9 l (zb9 m x)=zb9 m (zb9 l x):=by
 cases x with
 | box ty cs=>simp only[zb9,List.map_map];rw[show zbG l ∘ zbG m=zbG m ∘ zbG l from funext zir]
 | _=>rfl

theorem zBP {α : Type} {f : α → α} : ∀ {l : List (Nat × α)} {t : Nat}, lk (kills f l) t = (lk l t).map f
  | [],_=>rfl
  | (k,a) :: r,t=>by
    simp only[kills]
    rw[zaz,zaz]
    split
    · rfl
    · exact zBP

theorem zFb {σ : St} {i : Nat} {dst : Option Nat} {fp : List (Nat × Bool)} {d : DV} {u : List (Nat × AO)} {kl : List Nat} (t : Nat) :
  lk (σ.upd i dst fp d u kl).env t=if dst=some t then some d else (lk σ.env t).map (zcL kl):=by
 cases kl with
 | nil =>
  have e:(lk σ.env t).map (zcL [])=lk σ.env t:=by cases lk σ.env t <;> simp[zww]
  rw[e]
  cases dst with
  | none=>rfl
  | some s=>simp only[St.upd,zaz,dqa]
 | cons K r =>
  cases dst with
  | none=>simp only[St.upd,zBP];rw[if_neg (by simp)]
  | some s=>simp only[St.upd,zaz,zBP,dqa]
theorem zBQ {σ : St} {i : Nat} {dst : Option Nat} {fp : List (Nat × Bool)} {d : DV} {u : List (Nat × AO)} {kl : List Nat} (L : Nat) :
  lk (σ.upd i dst fp d u kl).objs L=match lk u L with | some o=>some o | none=>(lk σ.objs L).map (zb9 kl):=by
 cases kl with
 | nil =>
  have e:(lk σ.objs L).map (zb9 [])=lk σ.objs L:=by cases lk σ.objs L <;> simp[zwx]
  rw[e]
  change lk (u ++ σ.objs) L=_
  rw[zcj]
  cases lk u L <;> rfl
 | cons K r =>
  simp only[St.upd,zcj,zBP]
  cases lk u L <;> rfl
theorem zFc {σ:St}{i:Nat}{dst:Option Nat}{fp:List (Nat×Bool)}{d:DV}{u:List (Nat×AO)}{kl:List Nat} : (σ.upd i dst fp d u kl).log=σ.log:=by
 cases kl <;> rfl

def OpAct.may : OpAct → DV → Prop
  | .no,_=>False
  | .val _ d _ _,d'=>d'=d
  | .chk _ _ d _ _,d'=>d'=d
  | .rel _ _ ρ _ post d,d'=>∃ x:ρ,post x/\d'=d x
  | .alt _ _ b _ d1 _ d2,d'=>(b=true/\d'=d1)\/(b=false/\d'=d2)
theorem OpAct.may_gives {A:OpAct}{d:DV}(h:A.may d):A.gives d:=by
 cases A with
 | rel fp u ρ s post r=>obtain⟨x,_,hx⟩:=h;exact⟨x,hx⟩
 | alt fp u b s1 d1 s2 d2=>exact h.imp And.right And.right
 | _=>exact h
theorem OpAct.may_of_safe {A:OpAct}(h:A.safe):∃ d,A.may d:=by
 cases A with
 | no=>exact h.elim
 | val fp d u kl=>exact⟨d,rfl⟩
 | chk fp s d u kl=>exact⟨d,rfl⟩
 | rel fp u ρ s post r=>obtain⟨_,x,hx⟩:=h;exact⟨r x,x,hx,rfl⟩
 | alt fp u b s1 d1 s2 d2=>cases b;exact⟨_,.inr ⟨rfl,rfl⟩⟩;exact⟨_,.inl ⟨rfl,rfl⟩⟩

def nx (A:OpAct) (lg:List (Nat×Bool)->List Nat->List (Nat×Nat×Nat)) (i:Nat) (dst:Option Nat) (σ:St) (d:DV):St :=
 (σ.upd i dst A.fp d A.u A.kl).relog (lg A.fp A.kl)

theorem zdC {A : OpAct} {lg : List (Nat × Bool) → List Nat → List (Nat × Nat × Nat)} {i : Nat} {dst : Option Nat} {K : St → Prop} {σ : St} :
  ze7 A lg i dst K σ↔A.safe/\∀ d,A.may d->K (nx A lg i dst σ d):=by
 cases A with
 | no=>simp[ze7,OpAct.safe]
 | val fp d u kl=>simp[ze7,OpAct.safe,OpAct.may,nx,OpAct.fp,OpAct.u,OpAct.kl]
 | chk fp s d u kl=>simp[ze7,OpAct.safe,OpAct.may,nx,OpAct.fp,OpAct.u,OpAct.kl]
 | rel fp u ρ s post d =>
  simp only[ze7,OpAct.safe,OpAct.may,nx,OpAct.fp,OpAct.u,OpAct.kl]
  constructor
  ·rintro ⟨h1, h2, h3⟩
   exact⟨⟨h1,h2⟩,λ d' ⟨x,hx,e⟩=>e ▸ h3 x hx⟩
  ·rintro ⟨⟨h1, h2⟩, h3⟩
   exact⟨h1,h2,λ x hx=>h3 _ ⟨x,hx,rfl⟩⟩
 | alt fp u b s1 d1 s2 d2 =>
  cases b <;> simp[ze7,OpAct.safe,OpAct.may,nx,OpAct.fp,OpAct.u,OpAct.kl,zdN]

section
variable (P:Program) (Γ:Ctrs) (nt:Nat) (ops:Array Oper)

def zfJ (env:List (Nat×DV)) (o:Oper):Option Bool :=
 match o.guard with
 | none=>some true
 | some (j,want) =>
  match (ops[j]?).bind (·.dst) with
  | none=>none
  | some g =>
   match lk env g with
   | some (.one (.c (.p (.bool b))))=>some (b == want)
   | some (.one (.c .undef))=>some false
   | _=>none

def zl9 (σ:St) (o:Oper):OpAct :=
 match zbE nt o.dst,zfJ ops σ.env o with
 | true,some true=>act P Γ o (evO σ.env) (lk σ.objs)
 | true,some false=>.val [] (.cl .undef) [] []
 | _,_=>.no

def lgG (σ:St) (i:Nat) (o:Oper) (fp:List (Nat×Bool)) (kl:List Nat):List (Nat×Nat×Nat) :=
 match zfJ ops σ.env o with
 | some true=>zj8 σ i o fp kl
 | _=>[]

def vcL : List Nat → (St → Prop) → St → Prop
  | [],K,σ=>K σ
  | i :: r,K,σ=>match ops[i]? with
    | none=>vcL r K σ
    | some o=>ze7 (zl9 P Γ nt ops σ o) (lgG ops σ i o) i o.dst (vcL r K) σ

def looks (σ:St) (o:Oper):List Nat :=
 match zfJ ops σ.env o with
 | some true=>zhL ops o
 | _=>gdT ops o

end

section
variable {P:Program}{Γ:Ctrs}{nt:Nat}{ops:Array Oper}{σ τ:St}{o:Oper}{i:Nat}{A:OpAct}

theorem zhY {L k:Nat}{r:List Nat} : k∈zA7 σ (L :: r)↔∃ o,lk σ.objs k=some o/\L∈aoV o:=by
 simp only[zA7,List.mem_filter,dqz]
 constructor
 ·rintro ⟨_, h⟩
  split at h
  ·rename_i o ho;exact⟨o,ho,by simpa using h⟩
  ·cases h
 ·rintro ⟨o, ho, hL⟩
  refine⟨⟨(k,o),zbP ho,rfl⟩,?_⟩
  rw[ho];simpa using hL

theorem zo1:∀ t∈looks ops σ o,t∈zhL ops o:=by
 unfold looks
 split
 ·exact λ _ h=>h
 ·exact λ t h=>dqg.2 (.inr h)
theorem zo2:∀ t∈gdT ops o,t∈looks ops σ o:=by
 unfold looks
 split
 ·exact λ t h=>dqg.2 (.inr h)
 ·exact λ t h=>h

theorem zfi {env env':List (Nat×DV)}(h:∀ t∈gdT ops o,lk env' t=lk env t):zfJ ops env' o=zfJ ops env o:=by
 unfold zfJ
 split
 ·rfl
 ·rename_i j want hg
  split
  ·rfl
  ·rename_i g hgt
   rw[h g (by simp[gdT,hg,hgt])]

theorem zwy {b:Bool}(h:zfJ ops σ.env o=some b):∀ t∈gdT ops o,∀ v,lk σ.env t=some v->dvV v=[]:=by
 intro t ht v hv
 unfold gdT at ht
 split at ht
 ·rename_i j want hg
  split at ht
  ·rename_i g hgt
   simp only[dqi] at ht
   subst ht
   unfold zfJ at h
   rw[hg] at h
   simp only[hgt] at h
   rw[hv] at h
   split at h
   ·rename_i e;simp only[dqa] at e;subst e;rfl
   ·rename_i e;simp only[dqa] at e;subst e;rfl
   ·cases h
  ·simp at ht
 ·simp at ht

structure Loc (P : Program) (Γ : Ctrs) (nt : Nat) (ops : Array Oper) (σ : St) (i : Nat) (o : Oper) (A : OpAct) (lg : List (Nat × Nat × Nat)) : Prop where
  fst:∀ x∈lg,x.1=i
  wr:∀ x∈A.u,(i,x.1,1)∈lg
  kl:A.kl=[]\/∃ L,A.kl=[L]
  kl3:∀ L∈A.kl,(i,L,3)∈lg
  kl1:∀ L∈A.kl,(i,L,1)∈lg
  kb:∀ L∈A.kl,∀ k o',lk σ.objs k=some o'->L∈aoV o'->(i,k,1)∈lg
  labu:∀ x∈A.u,∀ L∈aoV x.2,(i,L,2)∈lg
  labd:∀ d,A.may d->∀ L∈dvV d,(i,L,2)∈lg\/(i,L,1)∈lg
  see:∀ t∈looks ops σ o,∀ v,lk σ.env t=some v->∀ L∈dvV v,(i,L,2)∈lg
  fpm:∀ y∈A.fp,∀ o',lk σ.objs y.1=some o'->∀ L∈aoV o',(i,L,2)∈lg
  fpt:∀ y∈A.fp,(i,y.1,0)∈lg\/(i,y.1,1)∈lg
  wfp:∀ x∈A.u,(x.1,true)∈A.fp
  congr:∀ τ,(∀ t∈looks ops σ o,lk τ.env t=lk σ.env t)->(∀ y∈A.fp,lk τ.objs y.1=lk σ.objs y.1)->zl9 P Γ nt ops τ o=A
  logc:∀ τ,(∀ t∈looks ops σ o,lk τ.env t=lk σ.env t)->(∀ y∈A.fp,lk τ.objs y.1=lk σ.objs y.1) ->
    (∀ L∈A.kl,∀ k,(∃ o',lk τ.objs k=some o'/\L∈aoV o')↔∃ o',lk σ.objs k=some o'/\L∈aoV o')->∀ x,x∈lgG ops τ i o A.fp A.kl↔x∈lg

theorem zcx {fp : List (Nat × Bool)} {kl : List Nat} {x : Nat × Nat × Nat} : x ∈ zj8 σ i o fp kl ↔
    (∃ y∈fp,x=(i,y.1,match y.2 with | true=>1 | false=>0))\/(∃ L∈zpN σ o fp,x=(i,L,2))\/(∃ L∈kl,x=(i,L,3))\/∃ k∈zA7 σ kl,x=(i,k,1):=by
  simp only[zj8,dqg,dqz,or_assoc]
  constructor
  · rintro (⟨y, h1, h2⟩ | ⟨y, h1, h2⟩ | ⟨y, h1, h2⟩ | ⟨y, h1, h2⟩)
    · exact .inl ⟨y,h1,h2.symm⟩
    · exact .inr (.inl ⟨y,h1,h2.symm⟩)
    · exact .inr (.inr (.inl ⟨y,h1,h2.symm⟩))
    · exact .inr (.inr (.inr ⟨y,h1,h2.symm⟩))
  · rintro (⟨y, h1, h2⟩ | ⟨y, h1, h2⟩ | ⟨y, h1, h2⟩ | ⟨y, h1, h2⟩)
    · exact .inl ⟨y,h1,h2.symm⟩
    · exact .inr (.inl ⟨y,h1,h2.symm⟩)
    · exact .inr (.inr (.inl ⟨y,h1,h2.symm⟩))
    · exact .inr (.inr (.inr ⟨y,h1,h2.symm⟩))

theorem zwz {fp:List (Nat×Bool)}{L:Nat}(h:Men o (evO σ.env) (lk σ.objs) fp L):L∈zpN σ o fp:=by
 unfold zpN
 rcases h with ⟨x,hx,hL⟩ | ⟨y,hy,o',ho,hL⟩
 ·exact dqg.2 (.inl (dqo.2 ⟨x,hx,hL⟩))
 ·refine dqg.2 (.inr (dqo.2 ⟨y,hy,?_⟩));rw[ho];exact hL

theorem zkM {fp:List (Nat×Bool)}(he:∀ x∈o.op.operands.toList,evO τ.env x=evO σ.env x) (hob:∀ y∈fp,lk τ.objs y.1=lk σ.objs y.1):zpN τ o fp=zpN σ o fp:=by
 unfold zpN
 rw[fmc (f:=λ x=>dvV (evO τ.env x)) (h:=λ x=>dvV (evO σ.env x)) λ x hx=>by rw[he x hx]]
 congr 1
 exact fmc λ y hy=>by rw[hob y hy]

theorem zti (hA:zl9 P Γ nt ops σ o=A) (hs:A.safe):Loc P Γ nt ops σ i o A (lgG ops σ i o A.fp A.kl):=by
 have hA':=hA
 unfold zl9 at hA
 split at hA
 ·rename_i hd hw
  have K:=zMA hA hs
  have hlg:∀ fp kl,lgG ops σ i o fp kl=zj8 σ i o fp kl:=λ fp kl=>by unfold lgG;rw[hw]
  have hlooks:looks ops σ o=zhL ops o:=by unfold looks;rw[hw]
  have hmen:∀ L,Men o (evO σ.env) (lk σ.objs) A.fp L->(i,L,2)∈lgG ops σ i o A.fp A.kl:=λ L h=>by
   rw[hlg];exact zcx.2 (.inr (.inl ⟨L,zwz h,rfl⟩))
  have hfw:∀ L,(L,true)∈A.fp->(i,L,1)∈lgG ops σ i o A.fp A.kl:=λ L h=>by
   rw[hlg];exact zcx.2 (.inl ⟨_,h,rfl⟩)
  have hop:∀ τ:St,(∀ t∈looks ops σ o,lk τ.env t=lk σ.env t)->∀ x∈o.op.operands.toList,evO τ.env x=evO σ.env x:=λ τ h x hx =>
   zkJ λ t ht=>h t (by rw[hlooks];exact dqg.2 (.inl (dqo.2 ⟨x,hx,ht⟩)))
  have hwt:∀ τ:St,(∀ t∈looks ops σ o,lk τ.env t=lk σ.env t)->zfJ ops τ.env o=some true:=λ τ h=>by
   rw[zfi (env:=σ.env) λ t ht=>h t (zo2 t ht),hw]
  refine⟨λ x hx=>?_,λ x hx=>hfw _ (K.wr x hx),?_,λ L hL=>?_,λ L hL=>?_,λ L hL k o' hk hL'=>?_,λ x hx L hL=>hmen L (K.labu x hx L hL),
   λ d hd' L hL=>(K.labd d (OpAct.may_gives hd') L hL).imp (hmen L) (hfw L),λ t ht v hv L hL=>?_,λ y hy o' ho L hL=>hmen L (.inr ⟨y,hy,o',ho,hL⟩),λ y hy=>?_,K.wr,λ τ he hob=>?_,λ τ he hob hkb x=>?_⟩
  ·rw [hlg] at hx
   rcases zcx.1 hx with ⟨_,_,h⟩ | ⟨_,_,h⟩ | ⟨_,_,h⟩ | ⟨_,_,h⟩ <;> rw[h]
  ·exact K.kl.imp_right λ ⟨L,h,_⟩=>⟨L,h⟩
  ·rw[hlg];exact zcx.2 (.inr (.inr (.inl ⟨L,hL,rfl⟩)))
  ·rcases K.kl with h | ⟨M, h, h2⟩
   ·rw[h] at hL;simp at hL
   ·rw[h] at hL;simp at hL;subst hL;exact hfw _ h2
  ·rw [hlg]
   refine zcx.2 (.inr (.inr (.inr ⟨k,?_,rfl⟩)))
   rcases K.kl with h | ⟨M,h,h2⟩
   ·rw[h] at hL;simp at hL
   ·rw[h] at hL ⊢;simp at hL;subst hL;exact zhY.2 ⟨o',hk,hL'⟩
  ·rw [hlooks] at ht
   rcases dqg.1 ht with ht | ht
   ·obtain ⟨x, hx, ht⟩ := dqo.1 ht
    refine hmen L (.inl ⟨x,hx,?_⟩)
    cases x with
    | tmp s=>simp only[zJf,dqi] at ht;subst ht;simp only[evO,hv];exact hL
    | _=>simp[zJf] at ht
   ·rw[zwy hw t ht v hv] at hL;simp at hL
  ·rw [hlg]
   obtain⟨L,b⟩:=y
   cases b with
   | true=>exact .inr (zcx.2 (.inl ⟨_,hy,rfl⟩))
   | false=>exact .inl (zcx.2 (.inl ⟨_,hy,rfl⟩))
  ·unfold zl9
   rw[hd,hwt τ he]
   exact K.congr _ _ (hop τ he) hob
  ·have e1 : lgG ops τ i o A.fp A.kl = zj8 τ i o A.fp A.kl := by unfold lgG; rw [hwt τ he]
   rw[e1,hlg,zcx,zcx,zkM (hop τ he) hob]
   refine or_congr Iff.rfl (or_congr Iff.rfl (or_congr Iff.rfl ?_))
   rcases K.kl with h | ⟨M,h,h2⟩
   ·rw[h];simp[zA7]
   ·rw [h]
    have:∀ k,k∈zA7 τ [M]↔k∈zA7 σ [M]:=λ k=>by rw[zhY,zhY];exact hkb M (by rw[h];simp) k
    constructor
    ·rintro⟨k,h1,h2⟩;exact⟨k,(this k).1 h1,h2⟩
    ·rintro⟨k,h1,h2⟩;exact⟨k,(this k).2 h1,h2⟩
 ·rename_i hd hw
  subst hA
  have hlg:∀ fp kl,lgG ops σ i o fp kl=[]:=λ fp kl=>by unfold lgG;rw[hw]
  have hlooks:looks ops σ o=gdT ops o:=by unfold looks;rw[hw]
  have hwt:∀ τ:St,(∀ t∈looks ops σ o,lk τ.env t=lk σ.env t)->zfJ ops τ.env o=some false:=λ τ h=>by
   rw[zfi (env:=σ.env) λ t ht=>h t (zo2 t ht),hw]
  refine⟨λ x hx=>?_,λ x hx=>?_,.inl rfl,λ L hL=>?_,λ L hL=>?_,λ L hL=>?_,λ x hx=>?_,λ d hd' L hL=>?_,λ t ht v hv L hL=>?_,λ y hy=>?_,λ y hy=>?_,λ x hx=>?_,λ τ he hob=>?_,λ τ he hob hkb x=>?_⟩
  ·rw[hlg] at hx;simp at hx
  ·simp[OpAct.u] at hx
  ·simp[OpAct.kl] at hL
  ·simp[OpAct.kl] at hL
  ·simp[OpAct.kl] at hL
  ·simp[OpAct.u] at hx
  ·simp only[OpAct.may] at hd';subst hd';simp[dvV,d1V,clV] at hL
  ·rw[hlooks] at ht;rw[zwy hw t ht v hv] at hL;simp at hL
  ·simp[OpAct.fp] at hy
  ·simp[OpAct.fp] at hy
  ·simp[OpAct.u] at hx
  ·unfold zl9;rw[hd,hwt τ he]
  ·rw [hlg]
   have:lgG ops τ i o (OpAct.val [] (.cl .undef) [] []).fp (OpAct.val [] (.cl .undef) [] []).kl=[]:=by unfold lgG;rw[hwt τ he]
   rw[this]
 ·exact dq9 hA hs

theorem zma {lg:List (Nat×Bool)->List Nat->List (Nat×Nat×Nat)}{dst:Option Nat}{d:DV}(t:Nat):lk (nx A lg i dst σ d).env t=if dst=some t then some d else (lk σ.env t).map (zcL A.kl):=zFb t
theorem zis {lg:List (Nat×Bool)->List Nat->List (Nat×Nat×Nat)}{dst:Option Nat}{d:DV}(L:Nat):lk (nx A lg i dst σ d).objs L=match lk A.u L with | some o=>some o | none=>(lk σ.objs L).map (zb9 A.kl):=zBQ L
theorem zhZ {lg:List (Nat×Bool)->List Nat->List (Nat×Nat×Nat)}{dst:Option Nat}{d:DV} : (nx A lg i dst σ d).log=lg A.fp A.kl ++ σ.log:=by simp only[nx,St.relog,zFc]

theorem zBR (h:Eqv σ τ) (o:Oper):zl9 P Γ nt ops τ o=zl9 P Γ nt ops σ o:=by
 unfold zl9
 rw[zfi (env:=σ.env) λ t _=>(h.env t).symm,show evO τ.env=evO σ.env from funext λ x=>zkJ λ t _=>(h.env t).symm,show lk τ.objs=lk σ.objs from funext λ t=>(h.objs t).symm]
theorem zFd (h:Eqv σ τ){fp:List (Nat×Bool)}{kl:List Nat}(x:Nat×Nat×Nat):x∈lgG ops σ i o fp kl↔x∈lgG ops τ i o fp kl:=by
 unfold lgG
 rw[zfi (env:=σ.env) (env':=τ.env) λ t _=>(h.env t).symm]
 split
 ·rw [zcx, zcx, zkM (σ := σ) (τ := τ) (fun x _ => zkJ fun t _ => (h.env t).symm) (fun y _ => (h.objs y.1).symm)]
  refine or_congr Iff.rfl (or_congr Iff.rfl (or_congr Iff.rfl ?_))
  cases kl with
  | nil=>simp[zA7]
  | cons L r =>
   have:∀ k,k∈zA7 σ (L :: r)↔k∈zA7 τ (L :: r):=λ k=>by rw[zhY,zhY,h.objs k]
   constructor
   ·rintro⟨k,h1,h2⟩;exact⟨k,(this k).1 h1,h2⟩
   ·rintro⟨k,h1,h2⟩;exact⟨k,(this k).2 h1,h2⟩
 ·exact Iff.rfl

theorem zm5 {K : St → Prop} (hK : ∀ σ τ, Eqv σ τ → K σ → K τ) : ∀ (l : List Nat) (σ τ : St), Eqv σ τ → vcL P Γ nt ops l K σ → vcL P Γ nt ops l K τ
  | [],σ,τ,h,hv=>hK σ τ h hv
  | i :: r,σ,τ,h,hv=>by
    simp only[vcL] at hv ⊢
    split at hv
    · exact zm5 hK r σ τ h hv
    · rename_i o ho
      rw[zdC] at hv ⊢
      rw[zBR h]
      refine⟨hv.1,λ d hd=>zm5 hK r _ _ ⟨λ t=>?_,λ L=>?_,λ x=>?_⟩ (hv.2 d hd)⟩
      · rw[zma,zma,h.env]
      · rw[zis,zis,h.objs]
      · rw [zhZ, zhZ, dqg, dqg, h.log x]
        exact or_congr (zFd h x) Iff.rfl

theorem zh0 {K K':St->Prop}{l l':List Nat}{i:Nat}(hK:∀ σ,vcL P Γ nt ops l K σ->vcL P Γ nt ops l' K' σ) (hv:vcL P Γ nt ops (i :: l) K σ):vcL P Γ nt ops (i :: l') K' σ:=by
 simp only[vcL] at hv ⊢
 split at hv
 ·exact hK _ hv
 ·rw [zdC] at hv ⊢
  exact⟨hv.1,λ d hd=>hK _ (hv.2 d hd)⟩

theorem zqh {K : St → Prop} {R : List (Nat × Nat × Nat) → Prop} (hR : ∀ l m, (∀ x ∈ l, x ∈ m) → R m → R l) (hK : ∀ σ, K σ → R σ.log) : ∀ (l : List Nat) (σ : St), vcL P Γ nt ops l K σ → R σ.log
  | [],σ,hv=>hK σ hv
  | i :: r,σ,hv=>by
    simp only[vcL] at hv
    split at hv
    · exact zqh hR hK r σ hv
    · rw [zdC] at hv
      obtain⟨d,hd⟩:=OpAct.may_of_safe hv.1
      refine hR _ _ (λ x hx=>?_) (zqh hR hK r _ (hv.2 d hd))
      rw[zhZ];exact dqg.2 (.inr hx)

def zkN (log:List (Nat×Nat×Nat)) (i j:Nat):Prop:=∀ L k m,(i,L,k)∈log->(j,L,m)∈log->zvm k m=false

theorem zmb {l:List Nat}{x:Option DV}(h:∀ v,x=some v->∀ L∈dvV v,L ∉ l):x.map (zcL l)=x:=by
 cases x with
 | none=>rfl
 | some v=>simp only[Option.map_some];rw[zm3 (h v rfl)]
theorem zmc {l:List Nat}{x:Option AO}(h:∀ v,x=some v->∀ L∈aoV v,L ∉ l):x.map (zb9 l)=x:=by
 cases x with
 | none=>rfl
 | some v=>simp only[Option.map_some];rw[zm4 (h v rfl)]

theorem zBS {a b:Oper}(h:zoq ops a b=false):(∀ t∈zhL ops b,a.dst ≠ some t)/\(∀ t∈zhL ops a,b.dst ≠ some t)/\∀ t,a.dst=some t->b.dst ≠ some t:=by
 simp only[zoq,Bool.or_eq_false_iff] at h
 obtain⟨⟨h1,h2⟩,h3⟩:=h
 refine⟨λ t ht e=>?_,λ t ht e=>?_,λ t e e'=>?_⟩
 ·rw [e] at h1; simp only [meets] at h1
  have:(zhL ops b).contains t=true:=by simpa using ht
  rw[this] at h1;cases h1
 ·rw [e] at h2; simp only [meets] at h2
  have:(zhL ops a).contains t=true:=by simpa using ht
  rw[this] at h2;cases h2
 ·rw [e, e'] at h3; simp only [zvl] at h3
  rw[show Nat.beq t t=true from by simp] at h3;cases h3

theorem zBT {K : St → Prop} {i j : Nat} {oi oj : Oper} {r : List Nat} (hi : ops[i]? = some oi) (hj : ops[j]? = some oj) (hT : zoq ops oi oj = false)
    (hE:∀ τ τ',Eqv τ τ'->vcL P Γ nt ops r K τ->vcL P Γ nt ops r K τ') (hN:∀ τ,vcL P Γ nt ops r K τ->zkN τ.log i j)
    (h:vcL P Γ nt ops (i :: j :: r) K σ):vcL P Γ nt ops (j :: i :: r) K σ:=by
  obtain⟨cT1,cT2,cT3⟩:=zBS hT
  simp only[vcL,hi,hj] at h ⊢
  rw[zdC] at h
  obtain⟨hsA,hA⟩:=h
  generalize hAe:zl9 P Γ nt ops σ oi=A at hsA hA
  have LA:=zti (i:=i) hAe hsA
  -- the second operation behind the first: as before it
  have key:∀ d,A.may d->∃ B,zl9 P Γ nt ops (nx A (lgG ops σ i oi) i oi.dst σ d) oj=B/\B.safe /\
      (∀ e,B.may e->vcL P Γ nt ops r K (nx B (lgG ops (nx A (lgG ops σ i oi) i oi.dst σ d) j oj) j oj.dst (nx A (lgG ops σ i oi) i oi.dst σ d) e)) /\
      zkN (lgG ops (nx A (lgG ops σ i oi) i oi.dst σ d) j oj B.fp B.kl ++ (lgG ops σ i oi A.fp A.kl)) i j:=by
    intro d hd
    have h2:=hA d hd
    rw[zdC] at h2
    obtain⟨hsB,hB⟩:=h2
    refine⟨_,rfl,hsB,hB,?_⟩
    obtain⟨e,he⟩:=OpAct.may_of_safe hsB
    have:=hN _ (hB e he)
    rw[zhZ,zhZ] at this
    intro L k m hk hm
    refine this L k m ?_ ?_
    · rcases dqg.1 hk with h | h
      · exact dqg.2 (.inl h)
      · exact dqg.2 (.inr (dqg.2 (.inl h)))
    · rcases dqg.1 hm with h | h
      · exact dqg.2 (.inl h)
      · exact dqg.2 (.inr (dqg.2 (.inl h)))
  have main:∀ d,A.may d->∀ B,zl9 P Γ nt ops (nx A (lgG ops σ i oi) i oi.dst σ d) oj=B->B.safe ->
      (∀ e,B.may e->vcL P Γ nt ops r K (nx B (lgG ops (nx A (lgG ops σ i oi) i oi.dst σ d) j oj) j oj.dst (nx A (lgG ops σ i oi) i oi.dst σ d) e)) ->
      zkN (lgG ops (nx A (lgG ops σ i oi) i oi.dst σ d) j oj B.fp B.kl ++ (lgG ops σ i oi A.fp A.kl)) i j ->
      zl9 P Γ nt ops σ oj=B/\∀ e,B.may e->zl9 P Γ nt ops (nx B (lgG ops σ j oj) j oj.dst σ e) oi=A /\
        vcL P Γ nt ops r K (nx A (lgG ops (nx B (lgG ops σ j oj) j oj.dst σ e) i oi) i oi.dst (nx B (lgG ops σ j oj) j oj.dst σ e) d):=by
    intro d hd B hBe hsB hB hno
    generalize hσ1:nx A (lgG ops σ i oi) i oi.dst σ d=σ1 at hBe hB hno
    have LB:=zti (i:=j) hBe hsB
    have no:∀ L k m,(i,L,k)∈lgG ops σ i oi A.fp A.kl->(j,L,m)∈lgG ops σ1 j oj B.fp B.kl->zvm k m=true->False:=λ L k m h1 h2 hc=>by
      have:=hno L k m (dqg.2 (.inr h1)) (dqg.2 (.inl h2))
      rw[this] at hc;cases hc
    have zNX:∀ t,lk σ1.env t=if oi.dst=some t then some d else (lk σ.env t).map (zcL A.kl):=λ t=>by rw[<- hσ1,zma]
    have objs1:∀ L,lk σ1.objs L=match lk A.u L with | some o=>some o | none=>(lk σ.objs L).map (zb9 A.kl):=λ L=>by rw[<- hσ1,zis]
    -- what the second looks at, the first has not changed
    have seeB:∀ t∈looks ops σ1 oj,lk σ.env t=lk σ1.env t:=by
      intro t ht
      have e:=zNX t
      rw[if_neg (cT1 t (zo1 t ht))] at e
      rw[e]
      refine (zmb λ v hv L hL hk=>?_).symm
      rw[hv,Option.map_some] at e
      exact no L 3 2 (LA.kl3 L hk) (LB.see t ht _ e L (by rw[zFa];exact hL)) rfl
    have fpB:∀ y∈B.fp,lk σ.objs y.1=lk σ1.objs y.1:=by
      intro y hy
      have e:=objs1 y.1
      have hn:lk A.u y.1=none:=by
        cases hu:lk A.u y.1 with
        | none=>rfl
        | some o' =>
          have h1:=LA.wr _ (zbP hu)
          rcases LB.fpt y hy with h2 | h2
          · exact (no _ _ _ h1 h2 rfl).elim
          · exact (no _ _ _ h1 h2 rfl).elim
      rw[hn] at e
      simp only at e
      rw[e]
      refine (zmc λ v hv L hL hk=>?_).symm
      rw[hv,Option.map_some] at e
      exact no L 3 2 (LA.kl3 L hk) (LB.fpm y hy _ e L (by rw[zqg];exact hL)) rfl
    have hBσ:=LB.congr σ seeB fpB
    refine⟨hBσ,λ e he=>?_⟩
    generalize hσ1':nx B (lgG ops σ j oj) j oj.dst σ e=σ1'
    have env1':∀ t,lk σ1'.env t=if oj.dst=some t then some e else (lk σ.env t).map (zcL B.kl):=λ t=>by rw[<- hσ1',zma]
    have objs1':∀ L,lk σ1'.objs L=match lk B.u L with | some o=>some o | none=>(lk σ.objs L).map (zb9 B.kl):=λ L=>by rw[<- hσ1',zis]
    have seeA:∀ t∈looks ops σ oi,lk σ1'.env t=lk σ.env t:=by
      intro t ht
      rw[env1',if_neg (cT2 t (zo1 t ht))]
      exact zmb λ v hv L hL hk=>no L 2 3 (LA.see t ht v hv L hL) (LB.kl3 L hk) rfl
    have uB:∀ y∈A.fp,lk B.u y.1=none:=by
      intro y hy
      cases hu:lk B.u y.1 with
      | none=>rfl
      | some o' =>
        have h1:=LB.wr _ (zbP hu)
        rcases LA.fpt y hy with h2 | h2
        · exact (no _ _ _ h2 h1 rfl).elim
        · exact (no _ _ _ h2 h1 rfl).elim
    have fpA:∀ y∈A.fp,lk σ1'.objs y.1=lk σ.objs y.1:=by
      intro y hy
      rw[objs1',uB y hy]
      exact zmc λ v hv L hL hk=>no L 2 3 (LA.fpm y hy v hv L hL) (LB.kl3 L hk) rfl
    have hAσ:=LA.congr σ1' seeA fpA
    refine⟨hAσ,hE _ _ ⟨λ t=>?_,λ L=>?_,λ x=>?_⟩ (hB e he)⟩
    · -- the temporaries
      rw[zma,zma,zNX,env1']
      by_cases h1:oj.dst=some t
      · rw [if_pos h1, if_pos h1, if_neg fun h2 => cT3 t h2 h1, Option.map_some, zm3 fun L hL hk => ?_]
        rcases LB.labd e he L hL with h3 | h3
        · exact no L 3 2 (LA.kl3 L hk) h3 rfl
        · exact no L 1 1 (LA.kl1 L hk) h3 rfl
      · rw [if_neg h1, if_neg h1]
        by_cases h2:oi.dst=some t
        · rw [if_pos h2, if_pos h2, Option.map_some, zm3 fun L hL hk => ?_]
          rcases LA.labd d hd L hL with h3 | h3
          · exact no L 2 3 h3 (LB.kl3 L hk) rfl
          · exact no L 1 1 h3 (LB.kl1 L hk) rfl
        · rw [if_neg h2, if_neg h2]
          cases lk σ.env t with
          | none=>rfl
          | some v=>simp only[Option.map_some];rw[zuO]
    · -- the objects
      rw[zis,zis,objs1,objs1']
      cases hb:lk B.u L with
      | some ob =>
        cases ha:lk A.u L with
        | some oa=>exact (no L 1 1 (LA.wr _ (zbP ha)) (LB.wr _ (zbP hb)) rfl).elim
        | none =>
          simp only[Option.map_some]
          rw[zm4 λ M hM hk=>no M 3 2 (LA.kl3 M hk) (LB.labu _ (zbP hb) M hM) rfl]
      | none =>
        cases ha:lk A.u L with
        | some oa =>
          simp only[Option.map_some]
          rw[zm4 λ M hM hk=>no M 2 3 (LA.labu _ (zbP ha) M hM) (LB.kl3 M hk) rfl]
        | none =>
          simp only
          cases lk σ.objs L with
          | none=>rfl
          | some v=>simp only[Option.map_some];rw[zuP]
    · -- the log
      rw[zhZ,zhZ]
      have l1:σ1.log=lgG ops σ i oi A.fp A.kl ++ σ.log:=by rw[<- hσ1,zhZ]
      have l2:σ1'.log=lgG ops σ j oj B.fp B.kl ++ σ.log:=by rw[<- hσ1',zhZ]
      rw[l1,l2]
      have e1:x∈lgG ops σ j oj B.fp B.kl↔x∈lgG ops σ1 j oj B.fp B.kl:=by
        refine LB.logc σ seeB fpB (λ L hL k=>?_) x
        rw[objs1]
        cases ha:lk A.u k with
        | some oa =>
          simp only[dqa]
          constructor
          · rintro ⟨o', ho, hL'⟩
            exact (no L 2 3 (LA.fpm _ (LA.wfp _ (zbP ha)) o' ho L hL') (LB.kl3 L hL) rfl).elim
          · rintro ⟨o', rfl, hL'⟩
            exact (no L 2 3 (LA.labu _ (zbP ha) L hL') (LB.kl3 L hL) rfl).elim
        | none =>
          simp only
          cases lk σ.objs k with
          | none=>simp
          | some v=>simp[zqg]
      have e2:x∈lgG ops σ1' i oi A.fp A.kl↔x∈lgG ops σ i oi A.fp A.kl:=by
        refine LA.logc σ1' seeA fpA (λ L hL k=>?_) x
        rw[objs1']
        cases hb:lk B.u k with
        | some ob =>
          simp only[dqa]
          constructor
          · rintro ⟨o', rfl, hL'⟩
            exact (no L 3 2 (LA.kl3 L hL) (LB.labu _ (zbP hb) L hL') rfl).elim
          · rintro ⟨o', ho, hL'⟩
            exact (no k 1 1 (LA.kb L hL k o' ho hL') (LB.wr _ (zbP hb)) rfl).elim
        | none =>
          simp only
          cases lk σ.objs k with
          | none=>simp
          | some v=>simp[zqg]
      simp only[dqg]
      rw[e1,e2,<- or_assoc,<- or_assoc]
      exact or_congr (or_comm) Iff.rfl
  rw[zdC]
  obtain⟨d0,hd0⟩:=OpAct.may_of_safe hsA
  obtain⟨B,hBe,hsB,hB,hno⟩:=key d0 hd0
  obtain⟨hBσ,hrest⟩:=main d0 hd0 B hBe hsB hB hno
  rw[hBσ]
  refine⟨hsB,λ e he=>?_⟩
  rw[zdC]
  rw[(hrest e he).1]
  refine⟨hsA,λ d hd=>?_⟩
  obtain⟨B',hBe',hsB',hB',hno'⟩:=key d hd
  obtain⟨hBσ',hrest'⟩:=main d hd B' hBe' hsB' hB' hno'
  have hBB:B'=B:=hBσ'.symm.trans hBσ
  subst hBB
  exact (hrest' e he).2

end
end Go.Pm
namespace Go.Pm
open Go.RowKit (Below)

section
variable {P:Program}{Γ:Ctrs}{nt B:Nat}{w0:World}{h0:Fz}{g:Gh}{σ:St}{a:Act}{w:World}{r:Option Nat}{n i:Nat}{Q:Exit->Act->World->Prop}{ops:Array Oper}

theorem zuQ {K:St->Prop}(hK:∀ σ τ,Eqv σ τ->K σ->K τ):∀ (l:List Oper) (i:Nat) (σ:St),(∀ j,l[j]? = ops[i+j]?)->zfI P Γ nt ops i l K σ->vcL P Γ nt ops (List.range' i l.length) K σ:=by
 intro l
 induction l with
 | nil=>intro i σ _ h;exact h
 | cons o l ih =>
  intro i σ hl h
  have ho:ops[i]? = some o:=by have:=hl 0;simpa using this.symm
  have hl':∀ j,l[j]? = ops[i+1+j]?:=λ j=>by have:=hl (j+1);rw[dqC] at this;rw[this];congr 1;omega
  rw[dqr,List.range'_succ]
  simp only[zfI] at h
  split at h
  ·exact h.elim
  ·rename_i hd
   have one:∀ τ:St,zfJ ops τ.env o=some true->ze7 (act P Γ o (evO τ.env) (lk τ.objs)) (zj8 τ i o) i o.dst (zfI P Γ nt ops (i+1) l K) τ->vcL P Γ nt ops (i :: List.range' (i+1) l.length) K τ:=by
    intro τ hw hv
    simp only[vcL,ho]
    have e1:zl9 P Γ nt ops τ o=act P Γ o (evO τ.env) (lk τ.objs):=by unfold zl9;rw[hd,hw]
    have e2:lgG ops τ i o=zj8 τ i o:=by funext fp kl;unfold lgG;rw[hw]
    rw[e1,e2]
    rw[zdC] at hv ⊢
    exact⟨hv.1,λ d hd=>ih (i+1) _ hl' (hv.2 d hd)⟩
   have two:∀ τ:St,zfJ ops τ.env o=some false->zfI P Γ nt ops (i+1) l K (τ.skip o.dst)->vcL P Γ nt ops (i :: List.range' (i+1) l.length) K τ:=by
    intro τ hw hv
    simp only[vcL,ho]
    have e1:zl9 P Γ nt ops τ o=.val [] (.cl .undef) [] []:=by unfold zl9;rw[hd,hw]
    have e2:lgG ops τ i o=λ _ _=>[]:=by funext fp kl;unfold lgG;rw[hw]
    rw[e1,e2]
    change vcL P Γ nt ops (List.range' (i+1) l.length) K ((τ.upd i o.dst [] (.cl .undef) [] []).relog [])
    have e3:(τ.upd i o.dst [] (.cl .undef) [] []).relog []=τ.skip o.dst:=by cases o.dst <;> rfl
    rw[e3]
    exact ih (i+1) _ hl' hv
   split at h
   ·rename_i hg
    exact one σ (by unfold zfJ;rw[hg]) h
   ·rename_i j want hg
    split at h
    ·exact h.elim
    ·rename_i gt hgt
     have wt:∀ b,zfJ ops (σ.setT gt (.bool b)).env o=some (b == want):=λ b=>by
      unfold zfJ
      rw[hg]
      simp only[hgt]
      rw[show lk (σ.setT gt (.bool b)).env gt=some (.bool b) by simp[St.setT,zaz]]
     split at h
     ·rename_i b hb
      have eq:∀ c,b=c->Eqv (σ.setT gt (.bool c)) σ:=λ c hc=>⟨λ t=>by
       simp only[St.setT,zaz]
       split
       ·rename_i e;subst e;rw[hb,hc]
       ·rfl,λ _=>rfl,λ _=>Iff.rfl⟩
      have h2:=zfO.1 h
      refine zm5 hK _ _ _ (eq b rfl) ?_
      cases b with
      | true =>
       have h3:=h2.1 rfl
       cases want with
       | true=>exact one _ (wt true) h3
       | false=>exact two _ (wt true) h3
      | false =>
       have h3:=h2.2 rfl
       cases want with
       | true=>exact two _ (wt false) h3
       | false=>exact one _ (wt false) h3
     ·rename_i hb
      refine two σ ?_ h
      unfold zfJ
      rw[hg]
      simp only[hgt]
      rw[hb]
     ·exact h.elim

theorem zJG (hok : OkAll P Γ) {K : St → Prop} {l : List Nat} {R : Act → World → Prop} {D : List Nat} {a0 : Act} {ad : List Deferred} (hD : ∀ (j : Nat) (o : Oper), ops[j]? = some o → ∀ t, o.dst = some t → t ∈ D)
    (hv:vcL P Γ nt ops (i :: l) K σ) (S:Sim P nt B w0 h0 g σ a w) (hkp:Kp D a0 a) (had:a.defers=ad)
    (hR:∀ σ' g' a' w',vcL P Γ nt ops l K σ'->Sim P nt B w0 h0 g' σ' a' w'->Kp D a0 a'->a'.defers=ad->R a' w'):wpOpIn (FR r) n P ops Q i R a w:=by
  simp only[vcL] at hv
  unfold wpOpIn
  split at hv
  · rename_i ho
    rw[ho]
    exact hR σ g a w hv S hkp had
  · rename_i o ho
    rw[ho]
    simp only
    obtain⟨hs,hk⟩:=zkg.1 hv
    have wnt:∀ b,zfJ ops σ.env o=some b->Region.wanted o (yielded ops a.tmps)=b:=by
      intro b hw
      unfold zfJ at hw
      split at hw
      · rename_i hg
        simp only[dqa] at hw;subst hw
        simp[Region.wanted,hg]
      · rename_i j want hg
        split at hw
        · cases hw
        · rename_i gt hgt
          split at hw
          · rename_i c hb
            simp only[dqa] at hw;subst hw
            have hvv:a.tmps.getD gt undef=.bool c:=by
              have:=S.env gt _ hb
              generalize a.tmps.getD gt undef=v at this
              cases this;rfl
            simp[Region.wanted,hg,zfS hgt hvv]
          · rename_i hb
            simp only[dqa] at hw;subst hw
            have hvv:a.tmps.getD gt undef=undef:=S.env gt _ hb
            simp[Region.wanted,hg,zfh hgt hvv]
          · cases hw
    generalize hA:zl9 P Γ nt ops σ o=A at hs hk
    have hA':=hA
    unfold zl9 at hA
    split at hA
    · rename_i hd hw
      rw[if_pos (wnt true hw)]
      refine zkD (zDz (zkx (i:=i) (Q:=Q) (r:=r) (n:=n) hok S hd hA hs)) ?_
      rintro a' w' ⟨⟨hdf,g',σ',hst,S'⟩,v,ds,rfl⟩
      exact hR _ g' _ w' (hk σ' hst) (S'.log _) (hkp.put (hD i o ho) v ds) (hdf.trans had)
    · rename_i hd hw
      rw[if_neg (by rw[wnt false hw];simp)]
      refine⟨λ _ _=>trivial,?_⟩
      subst hA
      refine hR _ g _ w (hk _ rfl) ?_ (hkp.put (hD i o ho) undef a.defers) ((put_defers _ _ _).trans had)
      have:=S.skip hd
      have e:(σ.upd i o.dst [] (.cl .undef) [] [])=σ.skip o.dst:=by cases o.dst <;> rfl
      rw[e]
      exact this.log _
    · exact dq9 hA hs

theorem zo3 {K : St → Prop} {i : Nat} {oi : Oper} {l2 : List Nat} (hi : ops[i]? = some oi) (hE : ∀ σ τ, Eqv σ τ → K σ → K τ) {R : List (Nat × Nat × Nat) → Prop} (hR : ∀ l m, (∀ x ∈ l, x ∈ m) → R m → R l) (hK : ∀ σ, K σ → R σ.log) :
  ∀ (l1:List Nat) (σ:St),(∀ p∈l1,(∀ log,R log->zkN log p i)/\∀ op,ops[p]? = some op->zoq ops op oi=false) ->
   vcL P Γ nt ops (l1 ++ i :: l2) K σ->vcL P Γ nt ops (i :: (l1 ++ l2)) K σ
 | [],σ,_,h=>h
 | p :: l1,σ,hp,h=>by
  have h1:vcL P Γ nt ops (p :: i :: (l1 ++ l2)) K σ:=zh0 (λ σ h=>zo3 hi hE hR hK l1 σ (λ q hq=>hp q (dqf _ hq)) h) h
  obtain⟨hN,hT⟩:=hp p dqj
  cases hop:ops[p]? with
  | none =>
   have e:∀ l σ,vcL P Γ nt ops (p :: l) K σ↔vcL P Γ nt ops l K σ:=λ l σ=>by simp only[vcL,hop]
   have h2:=(e _ _).1 h1
   exact zh0 (λ τ h=>(e _ _).2 h) h2
  | some op =>
   exact zBT hop hi (hT op hop) (λ τ τ' he hv=>zm5 hE _ _ _ he hv) (λ τ hv=>hN _ (zqh hR hK _ _ hv)) h1

theorem zkO {ms:List Nat}{S:Nat->Prop}{p:Nat} : ∀ (es:List Edge),(∀ e∈es,Region.binds .any e=true->S e.on) ->
  (∀ k m,ms[k]? = some m->S k->m.testBit p=true->S p)->(zj9 ms es).testBit p=true->S p
 | [],_,_,h=>by simp[zj9] at h
 | e :: r,he,hm,h=>by
  have ih:=zkO (ms:=ms) (p:=p) r (λ e' h'=>he e' (dqf _ h')) hm
  simp only[zj9] at h
  split at h
  ·rename_i m hb hms
   have hS:=he e dqj hb
   rw[Nat.testBit_or,Nat.testBit_or,Bool.or_eq_true,Bool.or_eq_true] at h
   rcases h with (h | h) | h
   ·rw [Nat.testBit_two_pow] at h
    have:e.on=p:=of_decide_eq_true h
    rw[<- this];exact hS
   ·exact hm _ _ hms hS h
   ·exact ih h
  ·exact ih h

theorem zmd {S:Nat->Prop}{p:Nat}(hcl:∀ (k:Nat) (o:Oper),ops[k]? = some o->S k->∀ e∈o.after,Region.binds .any e=true->S e.on):∀ (l:List Oper) (ms:List Nat),(∀ j,l[j]? = ops[ms.length+j]?) ->
  (∀ (k:Nat) (o:Oper) (m:Nat),ops[k]? = some o->ms[k]? = some m->(∀ e∈o.after,Region.binds .any e=true->S e.on)->m.testBit p=true->S p) ->
  ∀ (k:Nat) (o:Oper) (m:Nat),ops[k]? = some o->(masks l ms)[k]? = some m->(∀ e∈o.after,Region.binds .any e=true->S e.on)->m.testBit p=true->S p
 | [],ms,_,h=>h
 | o :: r,ms,hl,h=>by
  have ho:ops[ms.length]? = some o:=by have:=hl 0;simpa using this.symm
  simp only[masks]
  refine zmd hcl r (ms ++ [zj9 ms o.after.toList]) (λ j=>by have:=hl (j+1);rw[dqC] at this;rw[this,dqu];congr 1;simp;omega) ?_
  intro k ok m hk hm he hb
  rw[List.getElem?_append] at hm
  split at hm
  ·exact h k ok m hk hm he hb
  ·rename_i hlt
   have hk':k=ms.length:=by
    rcases Nat.lt_or_ge k (ms.length+1) with h1 | h1
    ·omega
    ·rw[dqM (by simp;omega)] at hm;cases hm
   subst hk'
   rw[ho] at hk
   simp only[dqa] at hk;subst hk
   simp only[Nat.sub_self,List.getElem?_cons_zero,dqa] at hm
   subst hm
   refine zkO _ (λ e h'=>he e (by simpa using h')) (λ k' m' hm' hS hb'=>?_) hb
   have hlt':k' < ms.length:=by
    rcases Nat.lt_or_ge k' ms.length with h1 | h1
    ·exact h1
    ·rw[dqM h1] at hm';cases hm'
   cases hok:ops[k']? with
   | some ok'=>exact h k' ok' m' hok hm' (hcl k' ok' hok hS) hb'
   | none =>
    have hlen:ms.length < ops.size:=by
     rcases Nat.lt_or_ge ms.length ops.size with h1 | h1
     ·exact h1
     ·rw[Array.getElem?_eq_none h1] at ho;cases ho
    rw[Array.getElem?_eq_none_iff] at hok;omega

def zjM (ms:List Nat) (log:List (Nat×Nat×Nat)):Prop:=zmy ms log=true
theorem zjM.sub {ms:List Nat}(l m:List (Nat×Nat×Nat)) (h:∀ x∈l,x∈m) (hm:zjM ms m):zjM ms l:=by
 simp only[zjM,zmy,List.all_eq_true] at hm ⊢
 exact λ x hx y hy=>hm x (h x hx) y (h y hy)
theorem zjM.no {ms:List Nat}{log:List (Nat×Nat×Nat)}(h:zjM ms log){p i:Nat}(hpi:p < i) (hb:∀ m,ms[i]? = some m->m.testBit p=false):zkN log p i:=by
 intro L k m h1 h2
 simp only[zjM,zmy,List.all_eq_true] at h
 have:=h _ h1 _ h2
 simp only[Bool.or_eq_true,Bool.not_eq_true'] at this
 rcases this with ((h3 | h3) | h3) | h3
 ·rw[show Nat.blt p i=true from by simpa [Nat.blt_eq] using hpi] at h3;cases h3
 ·rw[show Nat.beq L L=true from by simp] at h3;cases h3
 ·exact h3
 ·split at h3
  ·rename_i m' hm';rw[hb m' hm'] at h3;cases h3
  ·cases h3

def unl (ops:Array Oper) (listed:Array Bool):List Nat:=(List.range ops.size).filter λ k=>!listed.getD k true

theorem zkP {listed:Array Bool} : i∈Region.ready .any ops listed↔i∈unl ops listed/\∃ o,ops[i]? = some o/\∀ e∈o.after,Region.binds .any e=true->listed.getD e.on false=true:=by
 simp only[Region.ready,unl,List.mem_filter,dqm]
 constructor
 ·rintro ⟨h1, h2, h3⟩
  refine⟨⟨h1,h2⟩,?_⟩
  cases ho:ops[i]? with
  | none=>rw[ho] at h3;simp at h3
  | some o =>
   rw[ho] at h3
   simp only[Option.map_some,Option.getD_some,Array.all_eq_true_iff_forall_mem,Bool.or_eq_true,Bool.not_eq_true'] at h3
   refine⟨o,rfl,λ e he hb=>?_⟩
   rcases h3 e he with h | h
   ·rw[hb] at h;cases h
   ·exact h
 ·rintro ⟨⟨h1, h2⟩, o, ho, h3⟩
  refine⟨h1,h2,?_⟩
  rw[ho]
  simp only[Option.map_some,Option.getD_some,Array.all_eq_true_iff_forall_mem,Bool.or_eq_true,Bool.not_eq_true']
  intro e he
  cases hb:Region.binds .any e with
  | false=>exact .inl rfl
  | true=>exact .inr (h3 e he hb)

theorem ztj {listed:Array Bool}{i k:Nat}{b:Bool} : (listed.setIfInBounds i true).getD k b=if k=i/\k < listed.size then true else listed.getD k b:=by
 rw[dql,dql,Array.getElem?_setIfInBounds]
 by_cases h:i=k
 ·subst h
  by_cases hs:i < listed.size
  ·simp[hs]
  ·simp[hs]
 ·rw[if_neg h,if_neg (by omega)]

theorem zFe {listed:Array Bool}(hsz:listed.size=ops.size):unl ops (listed.setIfInBounds i true)=(unl ops listed).filter λ k=>!(k == i):=by
 unfold unl
 rw[List.filter_filter]
 refine List.filter_congr λ k hk=>?_
 have hk:=List.mem_range.1 hk
 rw[ztj]
 by_cases h:k=i
 ·subst h;rw[if_pos ⟨rfl,by omega⟩];simp
 ·rw[if_neg (λ h'=>h h'.1)];simp[h]

theorem zFf (hok : OkAll P Γ) {K : St → Prop} {D : List Nat} {a0 : Act} {ad : List Deferred} (hD : ∀ (j : Nat) (o : Oper), ops[j]? = some o → ∀ t, o.dst = some t → t ∈ D) (hE : ∀ σ τ, Eqv σ τ → K σ → K τ) (hlow : zBf ops = true) (hT : zsL ops (masks ops.toList []) = true)
    (hL:∀ σ,K σ->zjM (masks ops.toList []) σ.log) (hQ:∀ σ',K σ'->∀ g' a' w',Sim P nt B w0 h0 g' σ' a' w'->Kp D a0 a'->a'.defers=ad->Q .normal a' w') :
    ∀ (fuel:Nat) (listed:Array Bool) (σ:St) (g:Gh) (a:Act) (w:World),listed.size=ops.size->(unl ops listed).length<=fuel ->
      (∀ k o,ops[k]? = some o->listed.getD k false=true->∀ e∈o.after,Region.binds .any e=true->listed.getD e.on false=true) ->
      vcL P Γ nt ops (unl ops listed) K σ->Sim P nt B w0 h0 g σ a w->Kp D a0 a->a.defers=ad->wpAnyIn (FR r) n P .any ops Q fuel listed a w:=by
  -- if nothing is ready, nothing is left
  have stuck:∀ listed:Array Bool,Region.ready .any ops listed=[]->unl ops listed=[]:=by
    intro listed hr
    cases hu:unl ops listed with
    | nil=>rfl
    | cons i rest =>
      exfalso
      have hi:i∈unl ops listed:=by rw[hu];exact dqj
      have hsz:i < ops.size:=List.mem_range.1 (List.mem_filter.1 hi).1
      have hsort:(unl ops listed).Pairwise (· < ·):=List.Pairwise.filter _ List.pairwise_lt_range
      have:i∈Region.ready .any ops listed:=by
        refine zkP.2 ⟨hi,ops[i],Array.getElem?_eq_getElem hsz,λ e he hb=>?_⟩
        simp only[zBf,List.all_eq_true] at hlow
        have h1:=hlow i (List.mem_range.2 hsz)
        rw[Array.getElem?_eq_getElem hsz] at h1
        simp only[List.all_eq_true,Bool.or_eq_true,Bool.not_eq_true'] at h1
        have h2:e.on < i:=by
          rcases h1 e (by simpa using he) with h | h
          · rw[hb] at h;cases h
          · simpa [Nat.blt_eq] using h
        cases hl:listed.getD e.on false with
        | true=>rfl
        | false =>
          exfalso
          have hmem:e.on∈unl ops listed\/listed.getD e.on true=true:=by
            cases hl2:listed.getD e.on true with
            | true=>exact .inr rfl
            | false=>exact .inl (List.mem_filter.2 ⟨List.mem_range.2 (by omega),by rw[hl2];rfl⟩)
          rw[hu] at hmem hsort
          rcases hmem with hmem | hmem
          · rcases dqq.1 hmem with h | h
            · omega
            · have:=(List.pairwise_cons.1 hsort).1 _ h;omega
          · -- then it lies outside
            rw[dql] at hl hmem
            have hout:listed[e.on]? = none:=by
              cases hx:listed[e.on]? with
              | none=>rfl
              | some b=>rw[hx] at hl hmem;simp at hl hmem;rw[hl] at hmem;cases hmem
            have hi2:listed.getD i true=true:=by
              rw[Array.getElem?_eq_none_iff] at hout
              rw[dql,Array.getElem?_eq_none (by omega)];rfl
            have:=(List.mem_filter.1 hi).2
            rw[hi2] at this;cases this
      rw[hr] at this;simp at this
  intro fuel
  induction fuel with
  | zero =>
    intro listed σ g a w hsz hf hcl hv S hkp had
    have hnil:unl ops listed=[]:=List.eq_nil_of_length_eq_zero (by omega)
    refine⟨?_,?_⟩
    · cases hr:Region.ready .any ops listed with
      | nil=>rfl
      | cons i l =>
        have:=(zkP (i:=i) (ops:=ops) (listed:=listed)).1 (by rw[hr];exact dqj)
        rw[hnil] at this;simp at this
    · rw [hnil] at hv
      exact hQ σ hv g a w S hkp had
  | succ fuel ih =>
    intro listed σ g a w hsz hf hcl hv S hkp had
    refine⟨λ hr=>?_,λ i hi=>?_⟩
    · have hnil := stuck listed hr
      rw[hnil] at hv
      exact hQ σ hv g a w S hkp had
    · obtain ⟨hu, oi, hoi, hed⟩ := zkP.1 hi
      have hil:i < ops.size:=List.mem_range.1 (List.mem_filter.1 hu).1
      have hsort:(unl ops listed).Pairwise (· < ·):=List.Pairwise.filter _ List.pairwise_lt_range
      obtain⟨l1,l2,hl⟩:=List.append_of_mem hu
      rw[hl] at hsort hv
      have hlt:∀ p∈l1,p < i:=λ p hp=>(List.pairwise_append.1 hsort).2.2 p hp i dqj
      have hgt:∀ p∈l2,i < p:=λ p hp=>(List.pairwise_cons.1 (List.pairwise_append.1 hsort).2.1).1 p hp
      have hset:unl ops (listed.setIfInBounds i true)=l1 ++ l2:=by
        rw[zFe hsz,hl,List.filter_append,List.filter_cons]
        rw[if_neg (by simp),List.filter_eq_self.2 λ p hp=>by have:=hlt p hp;simp;omega,List.filter_eq_self.2 λ p hp=>by have:=hgt p hp;simp;omega]
      have bits:∀ p∈l1,∀ m,(masks ops.toList [])[i]? = some m->m.testBit p=false:=by
        intro p hp m hm
        cases hb:m.testBit p with
        | false=>rfl
        | true =>
          exfalso
          have:=zmd (S:=λ k=>listed.getD k false=true) (p:=p) (ops:=ops) (λ k o ho hS=>hcl k o ho hS) ops.toList [] (λ j=>by simp) (λ k o m _ hm=>by simp at hm) i oi m hoi hm hed hb
          have hpu:p∈unl ops listed:=by rw[hl];exact dqg.2 (.inl hp)
          have h2:=(List.mem_filter.1 hpu).2
          rw[dql] at this h2
          cases hx:listed[p]? with
          | none=>rw[hx] at this;simp at this
          | some b=>rw[hx] at this h2;simp at this h2;rw[this] at h2;cases h2
      have hfront:=zo3 hoi hE (R:=zjM (masks ops.toList [])) zjM.sub hL l1 σ (λ p hp=>⟨λ log hlog=>hlog.no (hlt p hp) (bits p hp),λ op hop=>?_⟩) hv
      · refine zJG hok hD hfront S hkp had fun σ' g' a' w' hv' S' hkp' had' => ?_
        refine ih (listed.setIfInBounds i true) σ' g' a' w' (by simpa using hsz) ?_ ?_ ?_ S' hkp' had'
        · rw [hset]
          rw[hl] at hf
          simp only[dqu,dqr] at hf ⊢
          omega
        · intro k o hk hlk e he hb
          rw[ztj] at hlk ⊢
          split at hlk
          · rename_i hki
            rw[hki.1,hoi] at hk
            simp only[dqa] at hk;subst hk
            have:=hed e he hb
            split
            · rfl
            · exact this
          · have := hcl k o hk hlk e he hb
            split
            · rfl
            · exact this
        · rw[hset];exact hv'
      · simp only [zsL, List.all_eq_true] at hT
        have h1:=hT i (List.mem_range.2 hil) p (List.mem_range.2 (hlt p hp))
        rw[hop,hoi] at h1
        cases hm:(masks ops.toList [])[i]? with
        | none=>rw[hm] at h1;simp at h1
        | some m =>
          rw[hm] at h1
          simp only[Bool.or_eq_true,Bool.not_eq_true'] at h1
          rcases h1 with h | h
          · exact h
          · rw[bits p hp m hm] at h;cases h

theorem Sim.drew (S:Sim P nt B w0 h0 g σ a w):Sim P nt B w0 h0 g σ a { w with drawn:=w.drawn+1 }:=by
 refine { S with obj:=λ L o h=>?_,below:=?_,hw:=S.hw,bs:=S.bs }
 ·have := S.obj L o h
  cases o <;> exact this
 ·exact S.below.drew

theorem zuR (hok : OkAll P Γ) {K : St → Prop} {D : List Nat} {a0 : Act} (hD : ∀ (j : Nat) (o : Oper), ops[j]? = some o → ∀ t, o.dst = some t → t ∈ D) (hkp : Kp D a0 a) (hm : P.follows .mixedOrders = true) (hlow : zBf ops = true) (hT : zsL ops (masks ops.toList []) = true) (hE : ∀ σ τ, Eqv σ τ → K σ → K τ)
    (h:zfI P Γ nt ops 0 ops.toList (λ σ'=>match zmy (masks ops.toList []) σ'.log with
      | true=>K σ'
      | false=>False) σ) (S:Sim P nt B w0 h0 g σ a w)
    (hQ:∀ σ',K σ'->∀ g' a' w',Sim P nt B w0 h0 g' σ' a' w'->Kp D a0 a'->a'.defers=a.defers->Q .normal a' w') {id:Nat} : (Code.region id ops true).wpIn (FR r) n P Q a w:=by
  refine wpIn_region_any hm ?_
  have hE':∀ σ τ:St,Eqv σ τ->(match zmy (masks ops.toList []) σ.log with | true=>K σ | false=>False)->(match zmy (masks ops.toList []) τ.log with | true=>K τ | false=>False):=by
    intro σ τ he hσ
    split at hσ
    · rename_i hl
      have:zjM (masks ops.toList []) τ.log:=zjM.sub _ _ (λ x hx=>(he.log x).2 hx) hl
      rw[show zmy (masks ops.toList []) τ.log=true from this]
      exact hE σ τ he hσ
    · exact hσ.elim
  have hun:unl ops (Array.replicate ops.size false)=List.range ops.size:=by
    unfold unl
    refine List.filter_eq_self.2 λ k hk=>?_
    have:=List.mem_range.1 hk
    simp[dql,this]
  refine zFf hok hD (K:=λ σ'=>match zmy (masks ops.toList []) σ'.log with | true=>K σ' | false=>False) hE' hlow hT (λ σ hσ=>?_) (λ σ' hσ=>?_) ops.size _ σ g a _ (by simp) ?_ ?_ ?_ S.drew hkp rfl
  · split at hσ
    · assumption
    · exact hσ.elim
  · split at hσ
    · exact hQ σ' hσ
    · exact hσ.elim
  · rw[hun];simp
  · intro k o _ hk
    rw[dql] at hk
    by_cases hks:k < ops.size
    · simp[hks] at hk
    · rw[Array.getElem?_eq_none (by simp;omega)] at hk;simp at hk
  · rw [hun]
    have:=zuQ hE' ops.toList 0 σ (λ j=>by simp) h
    rw[List.range_eq_range']
    simpa using this
end
end Go.Pm
namespace Go.Pm
open Go.RowKit (Below)

def zDB (h h':Fz):Prop:=∀ b o,h b=some o->(∃ C ty fr,o=.fz (.cells C ty fr))\/(∃ F,o=.inv F)\/(∃ es c,o=.fz (.map es c))->h' b=some o
theorem Fle.c {h h':Fz}(hl:Fle h h'):zDB h h':=λ b o hb _=>hl b o hb

section
variable {P:Program}{Γ:Ctrs}{nt B:Nat}{w0:World}{h0:Fz}{g:Gh}{σ:St}{a:Act}{w:World}{r:Option Nat}{n i:Nat}{Q:Exit->Act->World->Prop}

abbrev Gh.re (g:Gh) (h:Fz):Gh:=⟨h,g.bk,g.sv,g.iv⟩

theorem zDC {h:Fz}(hl:zDB g.h h){c:Cl}{x:Value}(hc:clR g c x):clR (g.re h) c x:=by
 cases c with
 | p v=>exact Rep.mono' hl hc
 | xf cells b n m j c=>exact⟨hc.1,Rep.mono' hl hc.2⟩
 | clo f caps=>obtain⟨cv,e,hr⟩:=hc;exact⟨cv,e,ze1 (λ _ _ hp=>Rep.mono' hl hp) (λ _ _=>rfl) hr⟩
 | mkey it L=>obtain⟨k,C,ty,fr,e,h1,h2⟩:=hc;exact⟨k,C,ty,fr,e,hl _ _ h1 (.inl ⟨_,_,_,rfl⟩),h2⟩
 | _=>exact hc
theorem zJH {h:Fz}(hl:zDB g.h h):∀ {cs:List Cl}{vs:List Value},RL (clR g) cs vs->RL (clR (g.re h)) cs vs:=λ hc=>hc.mono λ _ _=>zDC hl
theorem zDD {h:Fz}(hl:zDB g.h h){d:D1}{x:Value}(hd:d1R g d x):d1R (g.re h) d x:=by
 cases d with
 | c y=>exact zDC hl hd
 | agg cs=>obtain⟨vs,rfl,hr⟩:=hd;exact⟨vs,rfl,zJH hl hr⟩
theorem zwA {h:Fz}(hl:zDB g.h h){d:DV}{x:Value}(hd:dvR g d x):dvR (g.re h) d x:=by
 cases d with
 | one y=>exact zDD hl hd
 | tup ds=>obtain⟨vs,rfl,hr⟩:=hd;exact⟨vs,rfl,hr.mono λ _ _=>zDD hl⟩
theorem zwB {h:Fz}(hl:zDB g.h h){L:Nat}{o:AO}(ho:aoR P g w B L o):aoR P (g.re h) w B L o:=by
 cases o with
 | box ty cs=>obtain⟨C,hC,hr⟩:=ho;exact⟨C,hC,zJH hl hr⟩
 | fbox cs=>obtain⟨C,ty,fr,hC,hr⟩:=ho;exact⟨C,ty,fr,hl _ _ hC (.inl ⟨_,_,_,rfl⟩),hr.mono λ _ _=>Rep.mono' hl⟩
 | vec e s b n get=>obtain⟨h1,h2,xs,hx,hr⟩:=ho;exact⟨h1,h2,xs,hx,λ i hi=>(hr i hi).mono λ _ _=>Rep.mono' hl⟩
 | fvec s n get=>exact⟨Rep.mono' hl ho.1,ho.2⟩
 | vv te bb e s b n ln get =>
  obtain⟨h1,h2,h3,h4,h5,h6⟩:=ho
  exact⟨h1,h2,h3,h4,λ i hi=>by obtain⟨h7,h70,xs,hx,hr⟩:=h5 i hi;exact⟨h7,h70,xs,hx,λ j hj=>(hr j hj).mono λ _ _=>Rep.mono' hl⟩,h6⟩
 | mo kt vt q n F=>exact ho
 | vm te bb kt vt q n mk nn F=>exact ho
 | mit q n F seen =>
  rcases ho with h1 | ⟨m,es,clock,sb,en,h1,h2⟩
  ·exact .inl h1
  ·exact .inr ⟨m,es,clock,sb,en,hl _ _ h1 (.inr (.inr ⟨_,_,rfl⟩)),h2⟩
 | gone=>trivial

def Fz.add (h:Fz) (b:Nat) (o:Obj):Fz:=λ k=>if k=b then some (.fz o) else h k
def Fz.del (h:Fz) (b:Nat):Fz:=λ k=>if k=b then none else h k
theorem Fz.add_same {h:Fz}{b:Nat}{o:Obj} : h.add b o b=some (.fz o):=if_pos rfl
theorem Fz.add_other {h:Fz}{b k:Nat}{o:Obj}(hk:k ≠ b):h.add b o k=h k:=if_neg hk
theorem Fz.del_same {h:Fz}{b:Nat} : h.del b b=none:=if_pos rfl
theorem Fz.del_other {h:Fz}{b k:Nat}(hk:k ≠ b):h.del b k=h k:=if_neg hk
theorem Fz.le_add {h:Fz}{b:Nat}{o:Obj}(hb:h b=none):Fle h (h.add b o):=λ k x hk=>by
 rw[Fz.add_other (λ e=>by subst e;rw[hb] at hk;cases hk)];exact hk

theorem zeu.del {h0:Fz}{b:Nat}{o:Obj}(H:zeu (h0.add b o)) (hc:o.isCells=false) (hmm:∀ es c,o ≠ .map es c):zeu h0:=by
 have key:∀ k x,h0.add b o k=some x->(∃ C ty fr,x=.fz (.cells C ty fr))\/(∃ F,x=.inv F)\/(∃ es c,x=.fz (.map es c))->h0 k=some x:=λ k x hk hx=>by
  by_cases e:k=b
  ·subst e
   rw[Fz.add_same] at hk;simp only[dqa] at hk;subst hk
   rcases hx with ⟨C,ty,fr,hx⟩ | ⟨F,hx⟩ | ⟨es,c,hx⟩
   ·cases hx;cases hc
   ·cases hx
   ·cases hx;exact absurd rfl (hmm _ _)
  ·rwa[Fz.add_other e] at hk
 intro k l hk
 obtain⟨C,ty,fr,h1,h2⟩:=H k l hk
 exact⟨C,ty,fr,key _ _ h1 (.inl ⟨_,_,_,rfl⟩),h2.mono λ _ _ r=>r.mono' key⟩
theorem Sim.hide (S : Sim P nt B w0 h0 g σ a w) {b : Nat} {o : Obj} (hb : g.h b = none) (hw : w.heap[b]? = some o) (hB : B ≤ b) (hno : ∀ L o, lk σ.objs L = some o → ¬ obk g L o b) :
  Sim P nt B w0 (h0.add b o) (g.re (g.h.add b o)) σ a w:=by
 have hle:=Fz.le_add (o:=o) hb
 have h0b:h0 b=none:=by
  cases h:h0 b with
  | none=>rfl
  | some x=>rw[S.le0 b x h] at hb;cases hb
 refine⟨S.dfr.mono hle,S.size,λ t d ht=>zwA hle.c (S.env t d ht),λ L x hL=>zwB hle.c (S.obj L x hL),λ L x k hL hk=>?_,S.sep,?_,?_,?_,?_,S.bs,S.clE,S.clO,S.gl.mono (Fz.le_add h0b)⟩
 ·obtain ⟨h1, h2⟩ := S.own L x k hL hk
  refine⟨h1,?_⟩
  show g.h.add b o k=none
  rw[Fz.add_other (λ e=>hno L x hL (by rw[<- e];exact hk))];exact h2
 ·intro k x hk
  by_cases h:k=b
  ·subst h
   have hk:g.h.add k o k=some x:=hk
   rw[Fz.add_same] at hk;simp only[dqa] at hk;subst hk
   exact⟨o,hw,rfl⟩
  ·have hk : g.h.add b o k = some x := hk
   rw[Fz.add_other h] at hk;exact S.hw k x hk
 ·intro k x hk
  show g.h.add b o k=some x
  by_cases h:k=b
  ·subst h;rw[Fz.add_same] at hk ⊢;exact hk
  ·rw[Fz.add_other h] at hk ⊢;exact S.le0 k x hk
 ·intro k x hk
  have hk:g.h.add b o k=some x:=hk
  by_cases h:k=b
  ·exact .inr (h ▸ hB)
  ·rw[Fz.add_other h] at hk ⊢;exact S.hn k x hk
 ·exact⟨S.below.os,S.below.tape,S.below.output,S.below.size,S.below.drawn,λ k hk hn=>S.below.block k hk λ F hF=>by
   refine hn F ?_
   rw[Fz.add_other (λ e=>by subst e;rw[h0b] at hF;cases hF)];exact hF⟩

theorem Sim.unhide {b : Nat} {o : Obj} (S : Sim P nt B w0 (h0.add b o) g σ a w) (hB : B ≤ b) (h0b : h0 b = none) (hc : o.isCells = false) (hm : ∀ ds, o ≠ .deferred ds) (hmm : ∀ es c, o ≠ .map es c) :
  g.h b=some (.fz o)/\(∀ L x,lk σ.objs L=some x->¬ obk g L x b)/\w.heap[b]? = some o/\Sim P nt B w0 h0 (g.re (g.h.del b)) σ a w:=by
 have hb:g.h b=some (.fz o):=S.le0 b _ Fz.add_same
 have hl:zDB g.h (g.h.del b):=λ k x hk hx=>by
  rw[Fz.del_other];exact hk
  intro e;subst e;rw[hb] at hk;simp only[dqa] at hk;subst hk
  rcases hx with ⟨C,ty,fr,hx⟩ | ⟨F,hx⟩ | ⟨es,c,hx⟩
  ·cases hx;cases hc
  ·cases hx
  ·cases hx;exact hmm _ _ rfl
 have hwb:w.heap[b]? = some o:=S.hw.fz hb
 refine⟨hb,(λ L x hL hk=>by (have:=(S.own L x b hL hk).2;rw[hb] at this;cases this)),hwb,?_⟩
 refine⟨?_,S.size,λ t d ht=>zwA hl (S.env t d ht),λ L x hL=>zwB hl (S.obj L x hL),λ L x k hL hk=>?_,S.sep,?_,?_,?_,?_,S.bs,S.clE,S.clO,S.gl.del hc hmm⟩
 ·obtain ⟨Ds, h1, h2, h3, h4⟩ := S.dfr
  refine⟨Ds,h1,h2,λ D hD=>⟨(h3 D hD).1,?_⟩,h4⟩
  show g.h.del b D=_
  rw[Fz.del_other];exact (h3 D hD).2
  intro e;subst e
  have:=(h3 D hD).2
  rw[hb] at this;simp only[dqa,FzO.fz.injEq] at this
  exact hm _ this
 ·obtain ⟨h1, h2⟩ := S.own L x k hL hk
  refine⟨h1,?_⟩
  show g.h.del b k=none
  unfold Fz.del
  split
  ·rfl
  ·exact h2
 ·intro k x hk
  have hk:g.h.del b k=some x:=hk
  unfold Fz.del at hk
  split at hk
  ·cases hk
  ·exact S.hw k x hk
 ·intro k x hk
  have hkb:k ≠ b:=λ e=>by subst e;rw[h0b] at hk;cases hk
  show g.h.del b k=some x
  rw[Fz.del_other hkb]
  exact S.le0 k x (by rw[Fz.add_other hkb];exact hk)
 ·intro k x hk
  have hk:g.h.del b k=some x:=hk
  by_cases h:k=b
  ·exact .inr (h ▸ hB)
  ·rw [Fz.del_other h] at hk
   rcases S.hn k x hk with h1 | h1
   ·rw[Fz.add_other h] at h1;exact .inl h1
   ·exact .inr h1
 ·exact⟨S.below.os,S.below.tape,S.below.output,S.below.size,S.below.drawn,λ k hk hn=>S.below.block k hk λ F hF=>by
   by_cases h:k=b
   ·omega
   ·rw[Fz.add_other h] at hF;exact hn F hF⟩

theorem Sim.putObj (S:Sim P nt B w0 h0 g σ a w){b:Nat}(o:Obj) (hb:g.h b=none) (hB:B<=b) (hno:∀ L x,lk σ.objs L=some x->¬ obk g L x b):Sim P nt B w0 h0 g σ a (w.putObj b o):=by
  have hne:∀ k,k ≠ b->(w.putObj b o).heap[k]? = w.heap[k]?:=λ k hk=>World.putObj_heap_other hk
  refine S.change (g' := g) (objs' := σ.objs) (fun L _ _ => zcV.refl g L) (fun _ _ h => h) (S.hw.same fun k x hk => hne k fun e => by subst e; rw [hb] at hk; cases hk) (fun _ _ h => .inl h)
    ⟨rfl,rfl,rfl,by simp,dqt _,λ k hk _=>hne k (by omega)⟩ ?_ S.own S.sep (λ L o h=>⟨o,h⟩) S.clO
  intro L x hL
  exact zb5 (S.obj L x hL) (zcV.refl g L) (λ M _=>zcV.refl g M) (λ _ _ h=>h) λ k hk=>hne k λ e=>by subst e;exact hno L x hL hk

theorem Sim.act (S:Sim P nt B w0 h0 g σ a w){a':Act}(hd:Marks P B g.h a'.defers) (hs:nt<=a'.tmps.size) (he:∀ t d,lk σ.env t=some d->dvR g d (a'.tmps.getD t undef)):Sim P nt B w0 h0 g σ a' w :=
 ⟨hd,hs,he,S.obj,S.own,S.sep,S.hw,S.le0,S.hn,S.below,S.bs,S.clE,S.clO,S.gl⟩

theorem Sim.envs (S : Sim P nt B w0 h0 g σ a w) {env : List (Nat × DV)} (he : ∀ t d, lk env t = some d → dvR g d (a.tmps.getD t undef)) (hl : ∀ t d, lk env t = some d → ∀ L ∈ zaX d, ∃ o, lk σ.objs L = some o)
    (l:List (Nat×Nat×Nat)):Sim P nt B w0 h0 g ⟨env,σ.objs,l⟩ a w :=
  ⟨S.dfr,S.size,he,S.obj,S.own,S.sep,S.hw,S.le0,S.hn,S.below,S.bs,hl,S.clO,S.gl⟩

theorem fold_size : ∀ (l : List (Nat × Value)) (t : Array Value), (l.foldl (fun t (p, v) => t.setIfInBounds p v) t).size = t.size
  | [],t=>rfl
  | (p,v) :: l,t=>by rw[List.foldl_cons,fold_size l];simp
theorem zme : ∀ (l : List (Nat × Value)) (t : Array Value) (k : Nat), (∀ x ∈ l, x.1 ≠ k) → (l.foldl (fun t (p, v) => t.setIfInBounds p v) t).getD k undef = t.getD k undef
  | [],t,k,_=>rfl
  | (p,v) :: l,t,k,h=>by
    rw[List.foldl_cons,zme l _ k λ x hx=>h x (dqf _ hx)]
    have hp:p ≠ k:=h (p,v) dqj
    simp[dql,Array.getElem?_setIfInBounds_ne hp]

theorem zwC (nt0:Nat):∀ (ps:List Nat) (ys:List PA) (us:List Value) (e env:List (Nat×DV)) (t:Array Value),zhO ps ys e=some env->RL (paR g.h) ys us->(∀ p∈ps,p < t.size) ->
  (∀ k d,lk e k=some d->dvR g d (t.getD k undef)) ->
  us.length=ps.length/\∀ k d,lk env k=some d->dvR g d (((ps.zip us).foldl (λ t (p,v)=>t.setIfInBounds p v) t).getD k undef)
 | [],[],us,e,env,t,h,hr,_,he=>by
  simp only[zhO,dqa] at h;subst h
  cases us with
  | nil=>exact⟨rfl,he⟩
  | cons=>exact hr.elim
 | p :: ps,y :: ys,[],e,env,t,h,hr,_,he=>hr.elim
 | p :: ps,y :: ys,u :: us,e,env,t,h,hr,hp,he=>by
  simp only[zhO] at h
  have hlt:=hp p dqj
  obtain⟨h1,h2⟩:=zwC nt0 ps ys us _ env (t.setIfInBounds p u) h hr.2 (λ q hq=>by have:=hp q (dqf _ hq);simpa using this) (λ k d hk=>by
   rw[zaz] at hk
   split at hk
   ·rename_i e1
    simp only[dqa] at hk;subst hk;subst e1
    rw[show (t.setIfInBounds p u).getD p undef=u by simp[dql,hlt]]
    exact zv6 hr.1
   ·rename_i e1
    have:=he k d hk
    rw[show (t.setIfInBounds p u).getD k undef=t.getD k undef by simp[dql,Array.getElem?_setIfInBounds_ne e1]]
    exact this)
  exact⟨by simp[h1],h2⟩
 | [],_ :: _,_,_,_,_,h,_,_,_=>by simp[zhO] at h
 | _ :: _,[],_,_,_,_,h,_,_,_=>by simp[zhO] at h
theorem zo4 : ∀ (ps : List Nat) (ys : List PA) (e env : List (Nat × DV)), zhO ps ys e = some env → ∀ k d, lk env k = some d → lk e k = some d ∨ zaX d = []
  | [],[],e,env,h,k,d,hk=>by simp only[zhO,dqa] at h;subst h;exact .inl hk
  | p :: ps,y :: ys,e,env,h,k,d,hk=>by
    simp only[zhO] at h
    rcases zo4 ps ys _ env h k d hk with h1 | h1
    · rw [zaz] at h1
      split at h1
      · simp only[dqa] at h1;subst h1;exact .inr (zkp y)
      · exact .inl h1
    · exact .inr h1
  | [],_ :: _,_,_,h,_,_,_=>by simp[zhO] at h
  | _ :: _,[],_,_,h,_,_,_=>by simp[zhO] at h

theorem Sim.up (S:Sim P nt B w0 h0 g σ a w):Sim P nt B w0 g.h g σ a w :=
 ⟨S.dfr,S.size,S.env,S.obj,S.own,S.sep,S.hw,λ _ _ h=>h,λ _ _ h=>.inl h,
  ⟨S.below.os,S.below.tape,S.below.output,S.below.size,S.below.drawn,λ k hk hn=>S.below.block k hk λ F hF=>hn F (S.le0 k _ hF)⟩,S.bs,S.clE,S.clO,S.gl.mono S.le0⟩
theorem Sim.down {h1:Fz}(S:Sim P nt B w0 h1 g σ a w) (hgl:zeu h0) (hl:Fle h0 h1) (hn:∀ b o,h1 b=some o->h0 b=some o\/B<=b):Sim P nt B w0 h0 g σ a w :=
 ⟨S.dfr,S.size,S.env,S.obj,S.own,S.sep,S.hw,λ b o h=>S.le0 b o (hl b o h),λ b o h=>by
   rcases S.hn b o h with h | h
   ·exact hn b o h
   ·exact .inr h,
  ⟨S.below.os,S.below.tape,S.below.output,S.below.size,S.below.drawn,λ k hk hx=>S.below.block k hk λ F hF=>by
   rcases hn k _ hF with h | h
   ·exact hx F h
   ·omega⟩,S.bs,S.clE,S.clO,hgl⟩

theorem zkQ {k:Keep}{σ s:St}(h:canon P k σ=some s):∀ t d,lk s.env t=some d->t∈k.tmps:=by
 unfold canon at h
 split at h
 ·unfold zka at h
  split at h
  ·cases h
  split at h
  ·cases h
  split at h
  ·cases h
  simp only[] at h
  split at h
  ·simp only [dqa] at h
   subst h
   intro t d ht
   obtain⟨_,_,_,h1⟩:=zdu ht
   exact h1
  ·cases h
 ·cases h

def Rnd (r:Option Nat) (h0:Fz):Prop:=∀ l,r=some l->∃ rec:Loop,h0 l=some (.fz (.loop rec))
theorem Rnd.none (h0:Fz):Rnd none h0:=λ l h=>by cases h

theorem zm6 (S : Sim P nt B w0 h0 g σ a w) (hR : Rnd r h0) (fn : FuncId) (ps : Array Tmp) (x y : Code) :
  ∃ (l:Nat) (mark:List Deferred) (w1:World) (d:Nat) (h1:Fz),(Instr.enterLoop fn a.tmps ps x y r).run P w=.ok (l,mark) w1/\w.heap.size<=l /\
   w1.heap[l]? = some (.loop { state:=.ready,pending:=none,fn,tmps:=a.tmps,params:=ps, assign:=x,body:=y,defers:=d })/\Fle g.h h1/\h1 l=none /\
   Sim P nt B w0 h0 (g.re h1) σ { a with defers:=mark ++ a.defers } w1:=by
 have hnone:∀ k,w.heap.size<=k->g.h k=none:=λ k hk=>by
  cases h:g.h k with
  | none=>rfl
  | some x=>exact absurd (zhc S.hw h) (by omega)
 cases r with
 | none =>
  have hb0:g.h w.heap.size=none:=hnone _ (dqt _)
  have hw1:((w.alloc (.deferred (some []))).alloc (.loop { state:=.ready,pending:=none,fn,tmps:=a.tmps,params:=ps, assign:=x,body:=y,defers:=w.heap.size })).heap[w.heap.size]? = some (.deferred (some [])):=by
   exact (Below.heap_alloc _ _ _ (by simp)).trans (World.alloc_heap_new w _)
  have hbel:Below w.heap.size w ((w.alloc (.deferred (some []))).alloc (.loop { state:=.ready,pending:=none,fn,tmps:=a.tmps,params:=ps, assign:=x,body:=y,defers:=w.heap.size })) :=
   ((Below.refl _ w).alloc (dqt _) _).alloc (by simp) _
  have S1:=S.world (h':=g.h.add w.heap.size (.deferred (some []))) (Fz.le_add hb0) (λ k z hk=>by
    by_cases h:k=w.heap.size
    ·subst h;rw[Fz.add_same] at hk;simp only[dqa] at hk;subst hk;exact⟨_,hw1,rfl⟩
    ·rw [Fz.add_other h] at hk
     obtain⟨o,h1,h2⟩:=S.hw k z hk
     exact⟨o,by rw[hbel.block k (S.hw.lt hk)];exact h1,h2⟩)
   (λ k z hk=>by
    by_cases h:k=w.heap.size
    ·exact .inr (by omega)
    ·rw[Fz.add_other h] at hk;exact .inl hk) (.of ⟨hbel,dqt _⟩)
  refine⟨w.heap.size+1,[{ target:=.collected w.heap.size,args:=#[] }],_,w.heap.size,g.h.add w.heap.size (.deferred (some [])),run_enterLoop_outer fn a.tmps ps x y,by omega,?_,Fz.le_add hb0,?_,?_⟩
  ·have := World.alloc_heap_new (w.alloc (.deferred (some []))) (.loop { state := .ready, pending := none, fn, tmps := a.tmps, params := ps, assign := x, body := y, defers := w.heap.size })
   rwa[World.size_alloc] at this
  ·rw[Fz.add_other (by omega)];exact hnone _ (by omega)
  ·refine S1.act ?_ S1.size S1.env
   obtain⟨Ds,h1,h2,h3,h4⟩:=S.dfr
   refine⟨.inl w.heap.size :: Ds,List.nodup_cons.2 ⟨λ hm=>?_,h1⟩,by simp[h2,deD],λ D hD=>?_,λ d hd=>?_⟩
   ·have:=zhc S.hw (h3 _ (zmC hm)).2;omega
   rotate_left
   ·rcases dqq.1 hd with e | hd
    ·cases e
    ·exact h4 d hd
   ·rcases dqq.1 hD with e | hD
    ·cases e;exact⟨S.bs,Fz.add_same⟩
    ·exact⟨(h3 D hD).1,Fz.le_add hb0 _ _ (h3 D hD).2⟩
 | some l0 =>
  obtain⟨rec,hrec⟩:=hR l0 rfl
  have hl0:w.heap[l0]? = some (.loop rec):=S.hw.fz (S.le0 _ _ hrec)
  have hbel:Below w.heap.size w (w.alloc (.loop { state:=.ready,pending:=none,fn,tmps:=a.tmps,params:=ps, assign:=x,body:=y,defers:=rec.defers })):=(Below.refl _ w).alloc (dqt _) _
  have S1:=S.world (h':=g.h) (λ _ _ h=>h) (S.hw.same λ k z hk=>hbel.block k (S.hw.lt hk)) (λ _ _ h=>.inl h) (.of ⟨hbel,dqt _⟩)
  exact⟨w.heap.size,[],_,rec.defers,g.h,run_enterLoop_inner hl0 fn a.tmps ps x y,dqt _,World.alloc_heap_new w _,λ _ _ h=>h,hnone _ (dqt _),S1⟩
end
end Go.Pm
namespace Go.Pm
open Go.RowKit (Below)

theorem zm7 : ∀ {n : Nat} {K : List Int → Prop}, zMc n K ↔ ∀ l, l.length = n → K l
  | 0,K=>⟨λ h l hl=>by rw[List.eq_nil_of_length_eq_zero hl];exact h,λ h=>h [] rfl⟩
  | n+1,K=>by
    simp only[zMc]
    constructor
    · intro h l hl
      cases l with
      | nil=>simp at hl
      | cons x l=>exact zm7.1 (h x) l (by simpa using hl)
    · intro h x
      exact zm7.2 λ l hl=>h (x :: l) (by simp[hl])

theorem zkR {c : List Int} : ∀ {en : List (List Int × List Int)}, zdO c en ≠ none → ∃ (j : Nat) (v : List Int), en[j]? = some (c, v)
  | [],h=>by simp[zdO] at h
  | (k,v) :: r,h=>by
    simp only[zdO] at h
    split at h
    · rename_i e;subst e;exact⟨0,v,rfl⟩
    · obtain⟨j,u,hj⟩:=zkR h;exact⟨j+1,u,by simpa using hj⟩

section
variable {P:Program}{Γ:Ctrs}{nt B:Nat}{w0:World}{h0:Fz}{g:Gh}{σ:St}{a:Act}{w:World}{r:Option Nat}{n i:Nat}{Q:Exit->Act->World->Prop}

theorem zo5 {b:Nat}{ty:TypeId}(h:w.heap[b]? = some (.mapIter none 0 #[] 0)):(Instr.next (.pointer (some ⟨b,0,none⟩)) false ty).run P w=.ok (.tuple #[.bool false]) w:=by
 simp only[Instr.next,getObj,dqd,Sem.run,h,Result.andThen]
 rfl

theorem zBU {id : Nat} {ops : Array Oper} {x : Operand} {t u : Nat} {b : Bool} {v : Value} {w1 : World} {R : Act → World → Prop} (hn : zlP ops = some (x, t, u)) (htu : t < a.tmps.size)
    (hrun:∀ o1,ops[0]? = some o1->(Instr.next (a.eval x) false o1.type).run P w=.ok v w1) (hv:∃ vs:List Value,v=.tuple (Value.bool b :: vs).toArray)
    (hR:(R ((a.put (some t) v).put (some u) (.bool b)) w1)) (hQ:∀ a' w',R a' w'->Q .normal a' w'):(Code.region id ops false).wpIn (FR r) n P Q a w:=by
  unfold zlP at hn
  split at hn
  · rename_i o1 o2 hl
    split at hn
    · rename_i x' t' t2 u' e1 e2 e3 e4 e5 e6
      split at hn
      · rename_i hbe
        simp only[dqa,dqh] at hn
        obtain⟨rfl,rfl,rfl⟩:=hn
        have hbe:=dqc hbe
        subst hbe
        have hsz:ops.size=2:=by rw[<- Array.length_toList,hl];rfl
        have h0:ops[0]? = some o1:=by rw[<- Array.getElem?_toList,hl];rfl
        have h1:ops[1]? = some o2:=by rw[<- Array.getElem?_toList,hl];rfl
        refine wpIn_region ?_
        rw[hsz,show List.range 2=[0,1] from rfl]
        simp only[wpOpsIn,h0,h1]
        rw[if_pos (by simp[Region.wanted,e5])]
        obtain⟨vs,rfl⟩:=hv
        refine zkD (zc9 (by simp[e1]) (v:=.tuple (Value.bool b :: vs).toArray) (w':=w1) (R:=λ a' w'=>a'=a.put o1.dst (.tuple (Value.bool b :: vs).toArray)/\w'=w1) ?_ ⟨rfl,rfl⟩) ?_
        · simp only[execOp,e1,dqd,hrun o1 h0,dqb,dqe]
        · rintro a' w' ⟨_, rfl, rfl⟩
          rw[if_pos (by simp[Region.wanted,e6])]
          refine zkD (zc9 (by simp[e2]) (v:=.bool b) (w':=w') (R:=λ a'' w''=>a''=(a.put o1.dst (.tuple (Value.bool b :: vs).toArray)).put o2.dst (.bool b)/\w''=w') ?_ ⟨rfl,rfl⟩) ?_
          · have hev:(a.put o1.dst (.tuple (Value.bool b :: vs).toArray)).eval (.tmp t2)=.tuple (Value.bool b :: vs).toArray:=by
              have:=zsV a t2 (.tuple (Value.bool b :: vs).toArray) t2 htu
              rw[if_pos rfl] at this
              rw[e3];exact this
            simp only[execOp,e2,hev,dqd]
            simp[Instr.extract]
          · rintro a'' w'' ⟨_, rfl, rfl⟩
            rw[e3,e4]
            exact hQ _ _ hR
      · cases hn
    · cases hn
  · cases hn

theorem zuS (ann : Ann) {id : Nat} {ops : Array Oper} {draw : Bool} {x : Operand} {t u : Nat} {K : St → Prop} {D : List Nat} {a0 : Act}
    (hD:∀ t∈zvq ops.toList,t∈D) (hn:zlP ops=some (x,t,u)) (h:zvo P ann id x t u draw K σ) (S:Sim P ann.nt B w0 h0 g σ a w) (hkp:Kp D a0 a)
    (hQ:∀ g' σ' a' w',K σ'->Sim P ann.nt B w0 h0 g' σ' a' w'->Kp D a0 a'->a'.defers=a.defers->Q .normal a' w'):(Code.region id ops draw).wpIn (FR r) n P Q a w:=by
  have hreg:∀ σ',zEM P ann id K σ'->∀ g' a' w',Sim P ann.nt B w0 h0 g' σ' a' w'->Kp D a0 a'->a'.defers=a.defers->Q .normal a' w':=by
    intro σ' h g' a' w' S hk' hdf
    unfold zEM at h
    split at h
    · split at h
      · rename_i s hs
        obtain⟨g2,S2⟩:=zbs hs S
        exact hQ g2 s a' w' h S2 hk' hdf
      · exact h.elim
    · exact hQ g' σ' a' w' h S hk' hdf
  have hDtu:t∈D/\u∈D:=by
    unfold zlP at hn
    split at hn
    · rename_i o1 o2 hl
      split at hn
      · rename_i x' t' t2 u' e1 e2 e3 e4 e5 e6
        split at hn
        · simp only [dqa, dqh] at hn
          obtain⟨rfl,rfl,rfl⟩:=hn
          rw[hl] at hD
          simp only[zvq,e3,e4] at hD
          exact⟨hD _ (by simp),hD _ (by simp)⟩
        · cases hn
      · cases hn
    · cases hn
  unfold zvo at h
  split at h
  · rename_i L hb hx
    simp only[dqm,Bool.not_eq_true'] at hb
    obtain⟨⟨ht,hu⟩,hdr⟩:=hb
    subst hdr
    split at h
    · rename_i q m F seen hL
      have hfm:zNS q.2.1 m F:=by
        rcases S.obj L _ hL with ⟨_,rfl,h3,_⟩ | ⟨_,es,clock,_,en,_,M,_,_,_⟩
        · exact⟨[],rfl,List.nodup_nil,λ k hk=>by simp at hk,λ c hc=>by simp[h3 c hc]⟩
        · refine ⟨en.map (·.1), by rw [List.length_map, M.size], M.nodup, fun k hk => ?_, fun c hc => ?_⟩
          · obtain⟨x,hx,rfl⟩:=dqz.1 hk;exact (M.len x hx).1
          · rw [M.find c hc]
            constructor
            · intro h
              obtain⟨j,v,hj⟩:=zkR h
              exact dqz.2 ⟨_,dqx hj,rfl⟩
            · intro h
              obtain⟨⟨k,v⟩,hx,rfl⟩:=dqz.1 h
              obtain⟨j,hj⟩:=List.getElem?_of_mem hx
              rw[ze4 M.nodup hj];simp
      obtain⟨hend,hround⟩:=h hfm
      have hxv:a.eval x=.pointer (some ⟨g.bk L,0,none⟩):=(za8 S hx).1
      have hts:t < a.tmps.size:=dqS (by simpa using ht) S.size
      -- behind the step
      have fin:∀ (w1:World) (b:Bool) (vs:List Value) (seen':List (List Int)),
          (∀ o1,ops[0]? = some o1->(Instr.next (a.eval x) false o1.type).run P w=.ok (.tuple (Value.bool b :: vs).toArray) w1)->Sim P ann.nt B w0 h0 g { σ with objs:=(L,.mit q m F seen') :: σ.objs } a w1 ->
          zEM P ann id K ⟨(u,.bool b) :: (t,.junk) :: σ.env,(L,.mit q m F seen') :: σ.objs,[]⟩->(Code.region id ops false).wpIn (FR r) n P Q a w:=by
        intro w1 b vs seen' hrun S1 hk
        refine zBU (R:=λ a' w'=>a'=(a.put (some t) (.tuple (Value.bool b :: vs).toArray)).put (some u) (.bool b)/\w'=w1) hn hts hrun ⟨vs,rfl⟩ ⟨rfl,rfl⟩ ?_
        rintro a' w' ⟨rfl,rfl⟩
        have S2:=S1.put (dst:=some t) (d:=.junk) (v:=.tuple (Value.bool b :: vs).toArray) ht trivial (λ M hM=>by simp[zaX,zbg,zaF] at hM) []
        have S3:=S2.put (dst:=some u) (d:=.bool b) (v:=.bool b) hu (.bool b) (zcW _) []
        exact hreg _ hk g _ _ S3 ((hkp.put (dst:=some t) (λ z hz=>by cases hz;exact hDtu.1) _ a.defers).put (dst:=some u) (λ z hz=>by cases hz;exact hDtu.2) _ a.defers) rfl
      rcases S.obj L _ hL with ⟨hit,h2,h3,h4⟩ | ⟨mb,es,clock,sb,en,hmb,M,hit,hseen,hcur⟩
      · refine fin w false [] seen (fun _ _ => by rw [hxv]; exact zo5 hit) ?_ (hend fun c hc hne => (hne (h3 c hc)).elim)
        exact S.write (o':=.mit q m F seen) hL (λ b hb=>hb) (.refl B w) (λ _ _=>rfl) (.inl ⟨hit,h2,h3,h4⟩) (λ N hN=>by simp[zbB] at hN)
      · have hmap := S.hw.fz hmb
        have hlen:es.size=en.length:=by
          have:=congrArg List.length M.ents
          simpa using this
        have hat:∀ (c:List Int),c.length=q.2.1->F c ≠ none->∃ (j:Nat) (e:MapEntry) (v:List Int),es[j]? = some e/\en[j]? = some (c,v):=by
          intro c hc hne
          rw[M.find c hc] at hne
          obtain⟨j,v,hj⟩:=zkR hne
          have hj2:j < es.size:=by rw[hlen];exact (dqn.1 hj).1
          exact⟨j,es[j],v,Array.getElem?_eq_getElem hj2,hj⟩
        obtain⟨o1,ho1⟩:∃ o1,ops[0]? = some o1:=by
          unfold zlP at hn
          split at hn
          · rename_i o1 o2 hl;exact⟨o1,by rw[<- Array.getElem?_toList,hl];rfl⟩
          · cases hn
        rcases run_next_at (P:=P) w o1.type (g.bk L) mb clock clock sb es clock hit hmap M.born (dqt _) with ⟨hz,hrun⟩ | ⟨e,he,w1,hw1,hrun⟩
        · refine fin w false [] seen (fun o ho => by rw [ho1] at ho; cases ho; rw [hxv]; exact hrun) ?_ (hend fun c hc hne => ?_)
          · exact S.write (o':=.mit q m F seen) hL (λ b hb=>hb) (.refl B w) (λ _ _=>rfl) (.inr ⟨mb,es,clock,sb,en,hmb,M,hit,hseen,hcur⟩) (λ N hN=>by simp[zbB] at hN)
          · obtain ⟨j, e, v, h1, h2⟩ := hat c hc hne
            refine (hseen j e (c,v) h1 h2).1 ?_
            have hem:e∈es:=Array.mem_of_getElem? h1
            by_cases hin:e.born∈sb
            · exact hin
            · have : e ∈ leftOf es sb := Array.mem_filter.2 ⟨hem, by simpa using hin⟩
              rw[Array.eq_empty_of_size_eq_zero hz] at this
              simp at this
        · have he' : e ∈ leftOf es sb := by simpa using he
          obtain⟨hem,hnin⟩:=Array.mem_filter.1 he'
          have hnin:e.born ∉ sb:=by simpa using hnin
          obtain⟨j,hj⟩:=Array.getElem?_of_mem hem
          have hj2:j < en.length:=by rw[<- hlen];exact (dqp.1 hj).1
          obtain⟨⟨c,v⟩,hcv⟩:∃ x,en[j]? = some x:=⟨en[j],dqD hj2⟩
          have hlc:=M.len (c,v) (dqx hcv)
          have hF:F c=some v:=by rw[M.find c hlc.1];exact ze4 M.nodup hcv
          have hns:c ∉ seen:=λ h=>hnin ((hseen j e (c,v) hj hcv).2 h)
          have hk:=zm7.1 hround c hlc.1 (by rw[hF];simp) hns
          have hlt:=(dqp.1 hit).1
          have hw1h:w1.heap=w.heap:=by rcases hw1 with rfl | rfl <;> rfl
          have hoth:∀ b,b ≠ g.bk L->(ChangeMaps.setBlock w1 (g.bk L) (.mapIter (some mb) clock (sb.push e.born) clock)).heap[b]? = w.heap[b]?:=λ b hb=>by
            show (w1.heap.setIfInBounds (g.bk L) _)[b]? = _
            rw[Array.getElem?_setIfInBounds,if_neg (λ x=>hb x.symm),hw1h]
          refine fin _ true [e.key,e.val] (c :: seen) (λ o ho=>by rw[ho1] at ho;cases ho;rw[hxv];exact hrun) ?_ hk
          have hB:=(S.own L _ (g.bk L) hL rfl).1
          refine S.write (o' := .mit q m F (c :: seen)) hL (fun b hb => hb)
            ⟨⟨by rcases hw1 with rfl | rfl <;> rfl,by rcases hw1 with rfl | rfl <;> rfl,by rcases hw1 with rfl | rfl <;> rfl,by show _<=(w1.heap.setIfInBounds _ _).size;rw[hw1h];simp,λ k hk=>hoth k (by omega)⟩,by rcases hw1 with rfl | rfl;exact dqt _;exact zot (Nat.le_succ _)⟩
            (λ b hb=>hoth b λ x=>hb (by rw[x];rfl)) (.inr ⟨mb,es,clock,sb.push e.born,en,hmb,M,?_,?_,?_⟩) (λ N hN=>by simp[zbB] at hN)
          · show (w1.heap.setIfInBounds (g.bk L) _)[g.bk L]? = _
            rw[hw1h];simp[hlt]
          · intro j' e2 x2 h1 h2
            have hb2:e2.born=e.born↔x2.1=c:=by
              have hk2:(en.map (·.1))[j']? = some x2.1:=by simp[h2]
              have hk1:(en.map (·.1))[j]? = some c:=by simp[hcv]
              have hb1:(es.toList.map (·.born))[j]? = some e.born:=by simp[hj]
              have hb2':(es.toList.map (·.born))[j']? = some e2.born:=by simp[h1]
              constructor
              · intro h
                have:j'=j:=(List.getElem?_inj (dqn.1 hb2').1 M.bornN).1 (by rw[hb2',hb1,h])
                subst this
                rw[hk2] at hk1;simpa using hk1
              · intro h
                have:j'=j:=(List.getElem?_inj (dqn.1 hk2).1 M.nodup).1 (by rw[hk2,hk1,h])
                subst this
                rw[h1] at hj;simp only[dqa] at hj;rw[hj]
            rw[Array.mem_push,dqq,hseen j' e2 x2 h1 h2,hb2]
            exact Or.comm
          · intro c' r' h
            simp only[dqy] at h
            obtain⟨rfl,rfl⟩:=h
            exact⟨j,e,v,hj,hcv,by simp⟩
    · exact h.elim
  · exact h.elim
end
end Go.Pm
namespace Go.Pm
open Go.RowKit (Below)

theorem zhg {P : Program} : ∀ (l : List (Nat × Nat × Nat × (Nat → List PV))) (σ τ : St), Eqv σ τ → (zed P l σ = none ∧ zed P l τ = none) ∨ ∃ σ' τ', zed P l σ = some σ' ∧ zed P l τ = some τ' ∧ Eqv σ' τ'
  | [],σ,τ,h=>.inr ⟨σ,τ,rfl,rfl,h⟩
  | (t,L,e,g) :: r,σ,τ,h=>by
    simp only[zed]
    rw[<- h.env,<- h.objs]
    split
    · split
      · split
        · refine zhg r _ _ ⟨fun s => ?_, fun s => ?_, h.log⟩
          · simp only[zaz,h.env]
          · simp only[zaz,h.objs]
        · exact .inl ⟨rfl,rfl⟩
      · exact .inl ⟨rfl,rfl⟩
    · exact zhg r _ _ h
    · exact .inl ⟨rfl,rfl⟩
theorem zhh {P : Program} : ∀ (l : List (Nat × Nat × Nat × Nat × (Nat → List PV))) (σ τ : St), Eqv σ τ → (zee P l σ = none ∧ zee P l τ = none) ∨ ∃ σ' τ', zee P l σ = some σ' ∧ zee P l τ = some τ' ∧ Eqv σ' τ'
  | [],σ,τ,h=>.inr ⟨σ,τ,rfl,rfl,h⟩
  | (B,k,L,e,g) :: r,σ,τ,h=>by
    simp only[zee]
    rw[<- h.objs,<- h.objs]
    split
    · split
      · split
        · split
          · refine zhh r _ _ ⟨h.env, fun s => ?_, h.log⟩
            simp only[zaz,h.objs]
          · exact .inl ⟨rfl,rfl⟩
        · exact .inl ⟨rfl,rfl⟩
      · exact zhh r _ _ h
      · exact .inl ⟨rfl,rfl⟩
    · exact .inl ⟨rfl,rfl⟩
theorem zhi {P : Program} : ∀ (l : List (Nat × Nat × Nat × Nat × Nat × (Nat → Nat → List PV))) (σ τ : St), Eqv σ τ → (zef P l σ = none ∧ zef P l τ = none) ∨ ∃ σ' τ', zef P l σ = some σ' ∧ zef P l τ = some τ' ∧ Eqv σ' τ'
  | [],σ,τ,h=>.inr ⟨σ,τ,rfl,rfl,h⟩
  | (B,k,L,te,e,g) :: r,σ,τ,h=>by
    simp only[zef]
    rw[<- h.objs,<- h.objs]
    split
    · split
      · split
        · split
          · split
            · refine zhi r _ _ ⟨h.env, fun s => ?_, h.log⟩
              simp only[zaz,h.objs]
            · exact .inl ⟨rfl,rfl⟩
          · exact .inl ⟨rfl,rfl⟩
        · exact .inl ⟨rfl,rfl⟩
      · exact zhi r _ _ h
      · exact .inl ⟨rfl,rfl⟩
    · exact .inl ⟨rfl,rfl⟩
theorem zhj : ∀ (l : List (Nat × Nat × (Nat → List PV))) (σ τ : St), Eqv σ τ → (zeg l σ = none ∧ zeg l τ = none) ∨ ∃ σ' τ', zeg l σ = some σ' ∧ zeg l τ = some τ' ∧ Eqv σ' τ'
  | [],σ,τ,h=>.inr ⟨σ,τ,rfl,rfl,h⟩
  | (t,s,g) :: r,σ,τ,h=>by
    have ho:lk σ.objs=lk τ.objs:=funext h.objs
    simp only[zeg]
    rw[<- h.env,<- ho]
    split
    · split
      · refine zhj r _ _ ⟨fun s => ?_, h.objs, h.log⟩
        simp only[zaz,h.env]
      · split
        · refine zhj r _ _ ⟨fun s => ?_, fun s => ?_, h.log⟩
          · simp only[zaz,h.env]
          · simp only[zcj,h.objs]
        · exact .inl ⟨rfl,rfl⟩
    · exact .inl ⟨rfl,rfl⟩
theorem zkS {α : Type} {f : α → α} {l l' : List (Nat × α)} (h : ∀ t, lk l t = lk l' t) : ∀ ks, zjK f l ks = zjK f l' ks
  | []=>rfl
  | t :: r=>by simp only[zjK,h,zkS h r]
theorem zBV {ob ob':Nat->Option AO}(h:∀ t,ob t=ob' t):∀ ks,zut ob ks=zut ob' ks:=by
 intro ks
 have:ob=ob':=funext h
 rw[this]
theorem zuT {P:Program}{k:Keep}{σ τ:St}(h:Eqv σ τ):zka P k σ=zka P k τ:=by
 unfold zka
 rcases zhg (P:=P) k.coT σ τ h with ⟨h1,h2⟩ | ⟨σ1,τ1,h1,h2,h3⟩
 ·rw[h1,h2]
 ·rw [h1, h2]
  simp only
  rcases zhh (P:=P) k.coB σ1 τ1 h3 with ⟨h4,h5⟩ | ⟨σ2,τ2,h4,h5,h6⟩
  ·rw[h4,h5]
  ·rw [h4, h5]
   simp only
   rcases zhi (P:=P) k.coV σ2 τ2 h6 with ⟨h7,h8⟩ | ⟨σ3,τ3,h7,h8,h9⟩
   ·rw[h7,h8]
   ·rw [h7, h8]
    simp only
    rw[zkS h9.env,zkS h9.objs]
theorem zwD {P:Program}{k:Keep}{σ τ:St}(h:Eqv σ τ):canon P k σ=canon P k τ:=by
 unfold canon
 have h1:Eqv (zJg k.coF σ) (zJg k.coF τ):=⟨h.env,λ t=>by simp only[zJg,zcj,h.objs,zBV h.objs],h.log⟩
 rcases zhj k.coZ _ _ h1 with ⟨h2,h3⟩ | ⟨σ1,τ1,h2,h3,h4⟩
 ·rw[h2,h3]
 ·rw[h2,h3];exact zuT h4

section
variable {P:Program}{Γ:Ctrs}{nt B:Nat}{w0:World}{h0:Fz}{r:Option Nat}{n:Nat}

theorem zdl {b : Frame} {a : Act} {k : List Item} {cs : List Frame} {w : World} {c : Code} :
  step P (lone (b.atR a (.code (.scope c) :: k)) cs w)=.next (lone (b.atR a (.code c :: .inScope c :: k)) cs w) :=
 step_lone_go (by simp[stepG,stepG.exec,Frame.atR])
theorem zm8 {b : Frame} {a : Act} {k : List Item} {cs : List Frame} {w : World} {c : Code} :
  step P (lone (b.atR a (.inScope c :: k)) cs w)=.next (lone (b.atR a k) cs w) :=
 step_lone_go (by simp[stepG,stepG.exec,Frame.atR])

theorem zmf {c:Code}{Q:Exit->Act->World->Prop}{a:Act}{w:World}{F:Fence}(h:c.wpIn F n P (Exit.noGoto Q) a w):(Code.scope c).wpIn F n P Q a w:=by
 intro b k cs hro hb hr
 obtain⟨e,a₁,w₁,hq,harr⟩:=h b (.inScope c :: k) cs hro hb hr
 have h0:(lone (b.atR a (.code (.scope c) :: k)) cs w).fenced P F:=fenced_calm hb hr rfl
 cases e with
 | normal=>exact⟨.normal,a₁,w₁,hq,.head h0 zdl (StepsIn.trans harr (.one (fenced_calm hb hr rfl) zm8))⟩
 | exit id =>
  refine⟨.exit id,a₁,w₁,hq,λ k' hk=>.head h0 zdl (harr.1 k' (by simp[exitTo,hk])),λ hr' hk=>?_⟩
  obtain⟨k₁,h1,h2⟩:=harr.2 hr' (by simp[exitTo,hk])
  exact⟨k₁,h1,.head h0 zdl h2⟩
 | goto l=>exact hq.elim
 | ret=>exact⟨_,a₁,w₁,hq,.of_steps (.one h0 zdl) harr⟩
 | panic ch=>exact⟨_,a₁,w₁,hq,.of_steps (.one h0 zdl) harr⟩
 | outgrown=>exact⟨_,a₁,w₁,hq,.of_steps (b:=b) (k:=k) (cs:=cs) (e:=.outgrown) (.one h0 zdl) harr⟩

def zqi (F:Fence) (n:Nat) (P:Program) (c:Code) (Q:Exit->Act->World->Prop) (a:Act) (w:World):Prop :=
 ∀ (b:Frame) (k:List Item) (cs:List Frame),b.roundOf=F.round->F.fn b.fn->F.room (cs.length+1+n) ->
  ∃ e a' w',Q e a' w'/\ArrivesIn (Machine.fenced P F) P (lone (b.atR a (.code c :: .inLoop c :: k)) cs w) b k cs e a' w'

theorem zfj {F:Fence}{c:Code}{Q:Exit->Act->World->Prop}{a:Act}{w:World}(h:zqi F n P c Q a w):(Code.loop c).wpIn F n P Q a w:=by
 intro b k cs hro hb hr
 obtain⟨e,a',w',hq,harr⟩:=h b k cs hro hb hr
 exact⟨e,a',w',hq,.of_steps (.one (fenced_calm hb hr rfl) stepR_loop) harr⟩

theorem zfk {F:Fence}{c:Code}{Q:Exit->Act->World->Prop}{a:Act}{w:World}(h:c.wpIn F n P (Exit.then (zqi F n P c Q) Q) a w):zqi F n P c Q a w:=by
 intro b k cs hro hb hr
 obtain⟨e,a₁,w₁,hq,harr⟩:=h b (.inLoop c :: k) cs hro hb hr
 cases e with
 | normal =>
  obtain⟨e₂,a₂,w₂,hq₂,harr₂⟩:=hq b k cs hro hb hr
  exact⟨e₂,a₂,w₂,hq₂,.of_steps (StepsIn.trans harr (.one (fenced_calm hb hr rfl) stepR_inLoop)) harr₂⟩
 | exit id=>exact⟨_,a₁,w₁,hq,.pass (x:=.inLoop c) rfl (λ _ _=>.inl (by simp)) harr⟩
 | goto l=>exact⟨_,a₁,w₁,hq,.pass (x:=.inLoop c) rfl (λ _ _=>.inl (by simp)) harr⟩
 | ret=>exact⟨_,a₁,w₁,hq,.pass (x:=.inLoop c) rfl (λ _ _=>.inl (by simp)) harr⟩
 | panic ch=>exact⟨_,a₁,w₁,hq,.pass (x:=.inLoop c) rfl (λ _ _=>.inl (by simp)) harr⟩
 | outgrown=>exact⟨_,a₁,w₁,hq,.pass (x:=.inLoop c) rfl (λ _ _=>.inl (by simp)) harr⟩

def PostR (P:Program) (nt B:Nat) (w0:World) (h0:Fz) (D:List Nat) (a0:Act) (K:Exit->St->Prop):Exit->Act->World->Prop :=
 λ e a' w'=>∃ g' σ',K e σ'/\Sim P nt B w0 h0 g' σ' a' w'/\Kp D a0 a'

def Snd (P:Program) (Γ:Ctrs) (ann:Ann) (B:Nat) (w0:World) (c:Code):Prop :=
 ∀ (r:Option Nat) (n:Nat) (h0:Fz) (D:List Nat) (a0:Act) (K:Exit->St->Prop) (σ:St) (g:Gh) (a:Act) (w:World),(∀ t∈zhN c,t∈D)->Rnd r h0->vc P Γ ann c K σ ->
  Sim P ann.nt B w0 h0 g σ a w->Kp D a0 a->c.wpIn (FR r) n P (PostR P ann.nt B w0 h0 D a0 K) a w

theorem ztk : ∀ {l : List Oper} {j : Nat} {o : Oper} {t : Nat}, l[j]? = some o → o.dst = some t → t ∈ zvq l
  | [],j,o,t,h,_=>by simp at h
  | x :: l,j,o,t,h,hd=>by
    cases j with
    | zero =>
      simp only[List.getElem?_cons_zero,dqa] at h;subst h
      simp only[zvq,hd];exact dqj
    | succ j =>
      have:=ztk (l:=l) (j:=j) (by simpa using h) hd
      simp only[zvq];split
      · exact dqf _ this
      · exact this

theorem zo6 (hok : OkAll P Γ) (ann : Ann) {id : Nat} {ops : Array Oper} {draw : Bool} {K : St → Prop} {Q : Exit → Act → World → Prop} {D : List Nat} {a0 : Act} {σ : St} {g : Gh} {a : Act} {w : World}
    (hD:∀ t∈zvq ops.toList,t∈D) (h:zBg P Γ ann id ops draw K σ) (S:Sim P ann.nt B w0 h0 g σ a w) (hkp:Kp D a0 a)
    (hQ:∀ g' σ' a' w',K σ'->Sim P ann.nt B w0 h0 g' σ' a' w'->Kp D a0 a'->a'.defers=a.defers->Q .normal a' w'):(Code.region id ops draw).wpIn (FR r) n P Q a w:=by
  have hD':∀ (j:Nat) (o:Oper),ops[j]? = some o->∀ t,o.dst=some t->t∈D:=λ j o ho t ht=>hD t (ztk (by simpa using ho) ht)
  have hreg:∀ σ',(match lk ann.reg id with | some k=>(match canon P k σ' with | some s=>K s | none=>False) | none=>K σ')->∀ g' a' w',Sim P ann.nt B w0 h0 g' σ' a' w'->Kp D a0 a'->a'.defers=a.defers->Q .normal a' w':=by
    intro σ' h g' a' w' S hk' hdf
    split at h
    · split at h
      · rename_i s hs
        obtain⟨g2,S2⟩:=zbs hs S
        exact hQ g2 s a' w' h S2 hk' hdf
      · exact h.elim
    · exact hQ g' σ' a' w' h S hk' hdf
  simp only[zBg] at h
  cases draw with
  | false =>
    refine wpIn_region ?_
    exact zp8 hok hD' h (S.log _) hkp hreg
  | true =>
    simp only at h
    split at h
    · rename_i hc
      simp only[dqm] at hc
      refine zuR (K:=λ σ'=>match lk ann.reg id with
        | some k=>match canon P k σ' with
          | some s=>K s
          | none=>False
        | none=>False) hok hD' hkp hc.1.1 hc.1.2 hc.2 (λ σ τ he hσ=>?_) h (S.log []) ?_
      · split at hσ
        · rename_i k hk
          rw[zwD he] at hσ
          exact hσ
        · exact hσ.elim
      · intro σ' h g' a' w' S hk' hdf
        split at h
        · split at h
          · rename_i s hs
            obtain⟨g2,S2⟩:=zbs hs S
            exact hQ g2 s a' w' h S2 hk' hdf
          · exact h.elim
        · exact h.elim
    · exact h.elim

def zwE (P : Program) (Γ : Ctrs) (ann : Ann) (x y : Code) (ps : List Nat) (k : Keep) (K : Exit → St → Prop) : List (List PA) → St → Prop
  | [],s=>K .normal s
  | yv :: rest,s=>match zhO ps yv s.env with
    | some env=>vc P Γ ann x (zDl (vc P Γ ann y (zlQ P k (zwE P Γ ann x y ps k K rest) K)) λ _ _=>False) ⟨env,s.objs,[]⟩
    | none=>False

theorem zqj (hok:OkAll P Γ){ann:Ann}{f:Operand}{ps:Array Tmp}{x y:Code}(ihx:Snd P Γ ann B w0 x) (ihy:Snd P Γ ann B w0 y):Snd P Γ ann B w0 (.rangeFunc f ps x y):=by
 intro r n h0 D a0 K σ g a w hD hR h S hkp
 simp only[vc] at h
 split at h
 ·rename_i k hk
  split at h
  ·rename_i s hs hdis
   simp only[dqm] at hdis
   obtain⟨hdis,hpnt⟩:=hdis
   split at h
   ·rename_i gf caps hf
    split at h
    ·rename_i safe ys hit
     obtain⟨hsafe,h⟩:=h
     have hgood:zwE P Γ ann x y ps.toList k K ys s:=h (zwE P Γ ann x y ps.toList k K) (λ _ h=>h) (λ _ _ _ h=>h)
     obtain⟨g1,S1⟩:=zbs hs S
     have hout:∀ t∈k.tmps,t ∉ ps.toList/\t ∉ zhN x ++ zhN y:=by
      intro t ht
      have h1:=List.all_eq_true.1 hdis t ht
      simp only[Bool.not_eq_true'] at h1
      have h2:t ∉ ps.toList ++ (zhN x ++ zhN y):=by simpa using h1
      exact⟨λ h=>h2 (dqg.2 (.inl h)),λ h=>h2 (dqg.2 (.inr h))⟩
     refine wpIn_rangeFunc λ fn _=>?_
     obtain⟨l,mark,w1,d,h1,hrun,hlw,hl1,hle1,hn1,S2⟩:=zm6 S1 hR fn ps x y
     have hfn:=zbQ S1 hf
     generalize hfv:a.eval f=fvv at hfn
     cases hfn with
     | fn _ _ _ fv cv l1 l2 hf1 hc1 =>
      have e1:fv=[]:=List.eq_nil_of_length_eq_zero l1.symm
      subst e1
      let a1:Act:={ a with defers:=mark ++ a.defers }
      let rec_:LoopState->Option Code->Loop:=λ st pe=>{ state:=st,pending:=pe,fn,tmps:=a.tmps,params:=ps, assign:=x,body:=y,defers:=d }
      let J:List (List PA)->Fz->World->Prop:=λ rest h W=>∃ s bk sv iv,zwE P Γ ann x y ps.toList k K rest s/\(∀ t d,lk s.env t=some d->t∈k.tmps)/\Sim P ann.nt B w0 h0 ⟨h,bk,sv,iv⟩ s a1 W/\h l=none/\B<=l /\
       (∀ L o,lk s.objs L=some o->¬ obk ⟨h,bk,sv,iv⟩ L o l)/\W.heap[l]? = some (.loop (rec_ .ready none))
      let Jx:List (List PA)->Fz->World->Prop:=λ _ h W=>∃ s bk sv iv c,((c=.ret/\K .ret s)\/∃ id,c=.exit id/\K (.exit id) s)/\Sim P ann.nt B w0 h0 ⟨h,bk,sv,iv⟩ s a1 W/\h l=none/\B<=l /\
       (∀ L o,lk s.objs L=some o->¬ obk ⟨h,bk,sv,iv⟩ L o l)/\W.heap[l]? = some (.loop (rec_ .done (some c)))
      have keepl:∀ {h h':Fz} {W W':World},W.heap[l]? ≠ none->h l=none->(∀ b o,h' b=some o->h b=some o\/W.heap.size<=b)->Bel h W.heap.size W W'->h' l=none/\W'.heap[l]? = W.heap[l]?:=by
       intro h h' W W' hW hl hn hb
       have hlt:l < W.heap.size:=by
        cases hx:W.heap[l]? with
        | none=>exact absurd hx hW
        | some o=>exact (dqp.1 hx).1
       refine⟨?_,hb.block l hlt λ F hF=>by rw[hl] at hF;cases hF⟩
       cases hx:h' l with
       | none=>rfl
       | some o =>
        rcases hn l o hx with h3 | h3
        ·rw[hl] at h3;cases h3
        ·omega
      have hJ:JSt J:=by
       rintro rest h W h' W' ⟨s,bk,sv,iv,hg,he,SJ,hl,hB,hno,hW⟩ hle hw' hn hb
       obtain⟨k1,k2⟩:=keepl (by rw[hW];simp) hl hn hb
       exact⟨s,bk,sv,iv,hg,he,SJ.world hle hw' hn hb,k1,hB,hno,by rw[k2];exact hW⟩
      have hJx:JSt Jx:=by
       rintro rest h W h' W' ⟨s,bk,sv,iv,c,hc,SJ,hl,hB,hno,hW⟩ hle hw' hn hb
       obtain⟨k1,k2⟩:=keepl (by rw[hW];simp) hl hn hb
       exact⟨s,bk,sv,iv,c,hc,SJ.world hle hw' hn hb,k1,hB,hno,by rw[k2];exact hW⟩
      have hBl:B<=l:=dqE S1.bs hlw
      have h0l:∀ {h:Fz} {bk sv iv} {s:St} {W:World},Sim P ann.nt B w0 h0 ⟨h,bk,sv,iv⟩ s a1 W->h l=none->h0 l=none:=λ SJ hl=>by
       cases hx:h0 l with
       | none=>rfl
       | some o=>have:=SJ.le0 l o hx;simp only[hl] at this;cases this
      have hno1:∀ L o,lk s.objs L=some o->¬ obk (g1.re h1) L o l:=λ L o ho hk=>by
       have:obk g1 L o l:=hk
       have:=zca (S1.obj L o ho) this
       omega
      have hstart:=hok.it gf (caps.map .one) safe ys hit hsafe l J Jx w1 h1 cv hJ hJx (S2.gl.mono S2.le0) ?_ ⟨s,g1.bk,g1.sv,g1.iv,hgood,zkQ hs,S2,hn1,hBl,hno1,hl1⟩ (zv8 ((zp4 l2 hc1).mono λ _ _ h=>h.mono hle1)) S2.hw
      ·obtain ⟨hcall, hseq⟩ := hstart
       refine⟨l,mark,w1,{ target:=.fn (.func gf) cv.toArray,args:=#[.func (.yield l) #[] #[]] },w1,gf,(.func (.yield l) #[] #[] :: cv).toArray,w1,?_,?_,λ _ _=>trivial,?_,λ h=>by simp[FR] at h,(zsW hseq).mono ?_⟩
       ·exact hrun
       ·simp only [resolve, hfv]
        simp[go_sem]
       ·simp only [invoke]
        rw[show (#[.func (.yield l) #[] #[]] ++ cv.toArray)=(.func (.yield l) #[] #[] :: cv).toArray by simp]
        exact zcc hcall
       ·rintro e W3 ⟨v, h3, rfl, hle3, hw3, (⟨s3, bk, sv, iv, hg3, he3, S3, hl3, hB3, hno3, hW3⟩ | ⟨_, s3, bk, sv, iv, c, hc, S3, hl3, hB3, hno3, hW3⟩)⟩
        ·have S4 := S3.putObj (.loop { rec_ .ready none with state := .exhausted }) hl3 hB3 hno3
         refine⟨none,_,run_endLoop hW3 (by simp[rec_]),_,s3,hg3,S4,hkp⟩
        ·have S4 := S3.putObj (.loop { rec_ .done (some c) with state := .exhausted }) hl3 hB3 hno3
         refine⟨some c,_,run_endLoop hW3 (by simp[rec_]),?_⟩
         rcases hc with ⟨rfl,hc⟩ | ⟨id,rfl,hc⟩
         ·exact wpIn_ret ⟨_,s3,hc,S4,hkp⟩
         ·exact wpIn_exit ⟨_,s3,hc,S4,hkp⟩
      ·-- one round
       rintro yv rest h W us ⟨s,bk,sv,iv,hg,hek,SJ,hl,_,hno,hW⟩ hus hHw n'
       simp only[zwE] at hg
       split at hg
       ·rename_i env henv
        have hlt:l < W.heap.size:=(dqp.1 hW).1
        have h0l':=h0l SJ hl
        have SJ2:=SJ.up.hide hl hW hBl hno
        have hle2:Fle h (h.add l (.loop (rec_ .ready none))):=Fz.le_add hl
        have hpsz:∀ p∈ps.toList,p < a.tmps.size:=λ p hp=>by
         have:=List.all_eq_true.1 hpnt p hp
         exact dqS (by simpa [Nat.blt_eq] using this) SJ.size
        obtain⟨hul,henvR⟩:=zwC (g:=(⟨h.add l (.loop (rec_ .ready none)),bk,sv,iv⟩:Gh)) 0 ps.toList yv us s.env env a.tmps henv (hus.mono λ p q hpq=>by
         cases p with
         | one v=>exact Rep.mono hle2 hpq
         | agg cs=>obtain⟨vs,h5,h6⟩:=hpq;exact⟨vs,h5,h6.mono λ _ _=>Rep.mono hle2⟩) hpsz (λ t d ht=>SJ2.env t d ht)
        have hzip:(ps.zip us.toArray).foldl (λ tmps (t,a)=>tmps.setIfInBounds t a) a.tmps=(ps.toList.zip us).foldl (λ t (p,v)=>t.setIfInBounds p v) a.tmps:=by
         rw[<- Array.foldl_toList,Array.toList_zip]
        let ar:Act:={ tmps:=(ps.toList.zip us).foldl (λ t (p,v)=>t.setIfInBounds p v) a.tmps,defers:=[] }
        have Sr:Sim P ann.nt B w0 (h.add l (.loop (rec_ .ready none))) ⟨h.add l (.loop (rec_ .ready none)),bk,sv,iv⟩ ⟨env,s.objs,[]⟩ ar W:=by
         have Sa:=(SJ2.envs (env:=[]) (λ t d ht=>by simp[lk] at ht) (λ t d ht=>by simp[lk] at ht) []).act (a':=ar) (Marks.nil _ _) (by rw[show ar.tmps.size=a.tmps.size from fold_size _ _];exact SJ.size) (λ t d ht=>by simp[lk] at ht)
         exact Sa.envs henvR (λ t d ht L hL=>by
          rcases zo4 _ _ _ _ henv t d ht with h5 | h5
          ·exact SJ.clE t d h5 L hL
          ·rw[h5] at hL;simp at hL) []
        have hrd:∀ st pe,Rnd (some l) (h.add l (.loop (rec_ st pe))):=λ st pe l' e=>by cases e;exact⟨_,Fz.add_same⟩
        refine⟨_,_,_,_,by rw[run_yield (P:=P) (args:=us.toArray) hW (by simp[rec_,hul]),hzip],roundIn_of_wpIn (F:=Fence.wide) trivial ?_⟩
        show x.wpIn (FR (some l)) n' P _ ar W
        refine wpIn_mono (ihx (some l) n' _ (zhN x ++ zhN y) ar _ _ _ ar W (λ t ht=>dqg.2 (.inl ht)) (hrd _ _) hg Sr (Kp.refl _ _)) ?_
        rintro e a' w' ⟨g2,σ2,hK2,S2,hkp2⟩
        cases e with
        | normal =>
         simp only[zDl] at hK2
         obtain⟨_,hno2,hw2,S3⟩:=S2.unhide hBl hl rfl (λ ds=>by simp) (λ _ _=>by simp)
         refine⟨_,run_beginRound hw2 rfl,?_⟩
         have S4:=S3.putObj (.loop { rec_ .ready none with state:=.busy }) Fz.del_same hBl hno2
         have hw4:(w'.putObj l (.loop { rec_ .ready none with state:=.busy })).heap[l]? = some (.loop (rec_ .busy none)):=World.putObj_heap_same (dqp.1 hw2).1
         have S5:=S4.hide (o:=.loop (rec_ .busy none)) Fz.del_same hw4 hBl hno2
         show y.wpIn (FR (some l)) n' P _ a' _
         refine wpIn_mono (ihy (some l) n' _ (zhN x ++ zhN y) ar _ σ2 _ a' _ (λ t ht=>dqg.2 (.inr ht)) (hrd _ _) hK2 S5 hkp2) ?_
         rintro e a5 w5 ⟨g6,σ6,hK6,S6,hkp6⟩
         have back:∀ s7,canon P k σ6=some s7->∃ (w5l:w5.heap[l]? = some (.loop (rec_ .busy none))) (h':Fz) (bk sv:_) (iv:Nat->Nat->Value),Fle h h'/\h' l=none /\
           ∀ o',Sim P ann.nt B w0 h0 ⟨h',bk,sv,iv⟩ s7 a1 (w5.putObj l o')/\(∀ L o,lk s7.objs L=some o->¬ obk ⟨h',bk,sv,iv⟩ L o l):=by
          intro s7 hs7
          obtain⟨g7,S7⟩:=zbs hs7 S6
          obtain⟨_,hno8,hw8,S8⟩:=S7.unhide hBl hl rfl (λ ds=>by simp) (λ _ _=>by simp)
          have hle8:Fle h (g7.h.del l):=S8.le0
          refine⟨hw8,g7.h.del l,g7.bk,g7.sv,g7.iv,hle8,Fz.del_same,λ o'=>⟨?_,hno8⟩⟩
          have S9:=(S8.putObj o' Fz.del_same hBl hno8).down (h0:=h0) SJ.gl SJ.le0 SJ.hn
          refine S9.act (SJ.dfr.mono hle8) SJ.size λ t d ht=>?_
          obtain⟨h10,h11⟩:=hout t (zkQ hs7 t d ht)
          have h12:=hkp6.1 t h11
          have h13:ar.tmps.getD t undef=a.tmps.getD t undef:=zme _ _ _ λ q hq e=>h10 (e ▸ (List.of_mem_zip hq).1)
          have:=S9.env t d ht
          rw[h12,h13] at this
          exact this
         cases e with
         | normal =>
          simp only[zlQ] at hK6
          split at hK6
          ·rename_i s7 hs7
           obtain⟨w5l,h',bk',sv',iv',hle',hl',hS⟩:=back s7 hs7
           have hlt5:=(dqp.1 w5l).1
           refine⟨_,_,run_endRound none w5l,h',hle',(hS _).1.hw,.inl ⟨rfl,s7,bk',sv',iv',hK6,zkQ hs7,(hS _).1,hl',hBl,(hS (.loop (rec_ .ready none))).2,?_⟩⟩
           exact World.putObj_heap_same hlt5
          ·exact hK6.elim
         | ret =>
          simp only[zlQ] at hK6
          split at hK6
          ·rename_i s7 hs7
           obtain⟨w5l,h',bk',sv',iv',hle',hl',hS⟩:=back s7 hs7
           have hlt5:=(dqp.1 w5l).1
           refine⟨_,_,run_endRound (some .ret) w5l,h',hle',(hS _).1.hw,.inr ⟨rfl,s7,bk',sv',iv',.ret,.inl ⟨rfl,hK6⟩,(hS _).1,hl',hBl,(hS (.loop (rec_ .ready none))).2,?_⟩⟩
           exact World.putObj_heap_same hlt5
          ·exact hK6.elim
         | exit id =>
          simp only[zlQ] at hK6
          split at hK6
          ·rename_i s7 hs7
           obtain⟨w5l,h',bk',sv',iv',hle',hl',hS⟩:=back s7 hs7
           have hlt5:=(dqp.1 w5l).1
           refine⟨_,_,run_endRound (some (.exit id)) w5l,h',hle',(hS _).1.hw,.inr ⟨rfl,s7,bk',sv',iv',.exit id,.inr ⟨id,rfl,hK6⟩,(hS _).1,hl',hBl,(hS (.loop (rec_ .ready none))).2,?_⟩⟩
           exact World.putObj_heap_same hlt5
          ·exact hK6.elim
         | goto q=>exact hK6.elim
         | panic ch=>exact hK6.elim
         | outgrown=>exact hK6.elim
        | exit id=>exact hK2.elim
        | goto q=>exact hK2.elim
        | ret=>exact hK2.elim
        | panic ch=>exact hK2.elim
        | outgrown=>exact hK2.elim
       ·exact hg.elim
    ·exact h.elim
   ·exact h.elim
  ·exact h.elim
 ·exact h.elim

theorem zdW (hok:OkAll P Γ) (ann:Ann):∀ (c:Code),Snd P Γ ann B w0 c:=by
 intro c
 induction c with
 | skip=>intro r n h0 D a0 K σ g a w _ _ h S hkp;exact wpIn_skip ⟨g,σ,h,S,hkp⟩
 | region id ops draw =>
  intro r n h0 D a0 K σ g a w hD _ h S hkp
  simp only[vc] at h
  split at h
  ·rename_i x t u hn
   exact zuS ann hD hn h S hkp λ g' σ' a' w' hK S' hk' _=>⟨g',σ',hK,S',hk'⟩
  ·exact zo6 hok ann hD h S hkp λ g' σ' a' w' hK S' hk' _=>⟨g',σ',hK,S',hk'⟩
 | seq x y ihx ihy =>
  intro r n h0 D a0 K σ g a w hD hR h S hkp
  refine wpIn_seq (wpIn_mono (ihx r n h0 D a0 _ σ g a w (λ t ht=>hD t (dqg.2 (.inl ht))) hR h S hkp) ?_)
  have hDy:∀ t∈zhN y,t∈D:=λ t ht=>hD t (dqg.2 (.inr ht))
  rintro e a' w' ⟨g',σ',hK,S',hk'⟩
  cases e with
  | normal =>
   simp only[zDl,zMw] at hK
   split at hK
   ·split at hK
    ·rename_i s hs
     obtain⟨g2,S2⟩:=zbs hs S'
     exact ihy r n h0 D a0 K s g2 a' w' hDy hR hK S2 hk'
    ·exact hK.elim
   ·exact ihy r n h0 D a0 K σ' g' a' w' hDy hR hK S' hk'
  | exit id=>exact⟨g',σ',hK,S',hk'⟩
  | goto l=>exact⟨g',σ',hK,S',hk'⟩
  | ret=>exact⟨g',σ',hK,S',hk'⟩
  | panic ch=>exact⟨g',σ',hK,S',hk'⟩
  | outgrown=>exact⟨g',σ',hK,S',hk'⟩
 | cond c x y ihx ihy =>
  intro r n h0 D a0 K σ g a w hD hR h S hkp
  simp only[vc] at h
  split at h
  ·rename_i t ht
   have hv:=zgO S ht
   have hS:∀ b,t=b->Sim P ann.nt B w0 h0 g (zuv σ c b) a w:=by
    intro b hb
    cases c with
    | tmp q =>
     refine S.env' (t:=q) (d:=.bool b) ?_ (zcW _)
     have:a.tmps.getD q undef=.bool t:=hv
     rw[this,hb];exact .bool b
    | _=>exact S
   have h2:=zfO.1 h
   refine wpIn_cond hv ?_
   cases t with
   | true=>exact ihx r n h0 D a0 K _ g a w (λ t ht=>hD t (dqg.2 (.inl ht))) hR (h2.1 rfl) (hS true rfl) hkp
   | false=>exact ihy r n h0 D a0 K _ g a w (λ t ht=>hD t (dqg.2 (.inr ht))) hR (h2.2 rfl) (hS false rfl) hkp
  ·exact h.elim
 | block id b ih =>
  intro r n h0 D a0 K σ g a w hD hR h S hkp
  refine wpIn_block (wpIn_mono (ih r n h0 D a0 _ σ g a w hD hR h S hkp) ?_)
  rintro e a' w' ⟨g',σ',hK,S',hk'⟩
  cases e with
  | exit j =>
   simp only[zfy] at hK
   simp only[Exit.inBlock]
   split at hK
   ·rename_i hj;rw[if_pos (dqc hj)];exact⟨g',σ',hK,S',hk'⟩
   ·rename_i hj;rw[if_neg (Nat.ne_of_beq_eq_false hj)];exact⟨g',σ',hK,S',hk'⟩
  | normal=>exact⟨g',σ',hK,S',hk'⟩
  | goto l=>exact⟨g',σ',hK,S',hk'⟩
  | ret=>exact⟨g',σ',hK,S',hk'⟩
  | panic ch=>exact⟨g',σ',hK,S',hk'⟩
  | outgrown=>exact⟨g',σ',hK,S',hk'⟩
 | loop b ih =>
  intro r n h0 D a0 K σ g a w hD hR h S hkp
  simp only[vc] at h
  split at h
  ·rename_i k hk
   split at h
   ·rename_i s hs
    obtain⟨g1,S1⟩:=zbs hs S
    refine zfj ?_
    have key:=h (λ s=>∀ g a w,Sim P ann.nt B w0 h0 g s a w->Kp D a0 a->zqi (FR r) n P b (PostR P ann.nt B w0 h0 D a0 K) a w) ?_
    ·exact key g1 a w S1 hkp
    ·intro s hs g a w S hkp
     refine zfk (wpIn_mono (ih r n h0 D a0 _ s g a w hD hR hs S hkp) ?_)
     rintro e a' w' ⟨g',σ',hK,S',hk'⟩
     cases e with
     | normal =>
      simp only[zuu,hk] at hK
      split at hK
      ·rename_i s2 hs2
       obtain⟨g2,S2⟩:=zbs hs2 S'
       exact hK g2 a' w' S2 hk'
      ·exact hK.elim
     | exit id=>exact⟨g',σ',hK,S',hk'⟩
     | goto l=>exact⟨g',σ',hK,S',hk'⟩
     | ret=>exact⟨g',σ',hK,S',hk'⟩
     | panic ch=>exact⟨g',σ',hK,S',hk'⟩
     | outgrown=>exact⟨g',σ',hK,S',hk'⟩
   ·exact h.elim
  ·split at h
   ·rename_i m k hk
    have key:∀ (m:Nat) (σ:St) (g:Gh) (a:Act) (w:World),zMd P k (vc P Γ ann b) m K σ->Sim P ann.nt B w0 h0 g σ a w->Kp D a0 a->zqi (FR r) n P b (PostR P ann.nt B w0 h0 D a0 K) a w:=by
     intro m
     induction m with
     | zero=>intro σ g a w h;exact h.elim
     | succ m ihm =>
      intro σ g a w h S hkp
      simp only[zMd] at h
      split at h
      ·rename_i s hs
       obtain⟨g1,S1⟩:=zbs hs S
       refine zfk (wpIn_mono (ih r n h0 D a0 _ s g1 a w hD hR h S1 hkp) ?_)
       rintro e a' w' ⟨g',σ',hK,S',hk'⟩
       cases e with
       | normal=>exact ihm σ' g' a' w' hK S' hk'
       | exit id=>exact⟨g',σ',hK,S',hk'⟩
       | goto l=>exact⟨g',σ',hK,S',hk'⟩
       | ret=>exact⟨g',σ',hK,S',hk'⟩
       | panic ch=>exact⟨g',σ',hK,S',hk'⟩
       | outgrown=>exact⟨g',σ',hK,S',hk'⟩
      ·exact h.elim
    exact zfj (key m σ g a w h S hkp)
   ·exact h.elim
 | exit id=>intro r n h0 D a0 K σ g a w _ _ h S hkp;exact wpIn_exit ⟨g,σ,h,S,hkp⟩
 | scope b ih =>
  intro r n h0 D a0 K σ g a w hD hR h S hkp
  refine zmf (wpIn_mono (ih r n h0 D a0 _ σ g a w hD hR h S hkp) ?_)
  rintro e a' w' ⟨g',σ',hK,S',hk'⟩
  cases e with
  | goto l=>exact hK
  | normal=>exact⟨g',σ',hK,S',hk'⟩
  | exit l=>exact⟨g',σ',hK,S',hk'⟩
  | ret=>exact⟨g',σ',hK,S',hk'⟩
  | panic ch=>exact⟨g',σ',hK,S',hk'⟩
  | outgrown=>exact⟨g',σ',hK,S',hk'⟩
 | label l=>intro r n h0 D a0 K σ g a w _ _ h S hkp;exact wpIn_label ⟨g,σ,h,S,hkp⟩
 | ret=>intro r n h0 D a0 K σ g a w _ _ h S hkp;exact wpIn_ret ⟨g,σ,h,S,hkp⟩
 | rangeFunc f ps x y ihx ihy=>exact zqj hok ihx ihy
 | goto l=>intro r n h0 D a0 K σ g a w _ _ h S;exact h.elim
 | refuse s=>intro r n h0 D a0 K σ g a w _ _ h S;exact h.elim
end
end Go.Pm
namespace Go.Pm
open Go.RowKit (Below)

section
variable {P:Program}{Γ:Ctrs}

theorem zkT : ∀ (args : List PA) (i t : Nat) (d : DV), lk (zhP i args) t = some d → ∃ x, args[t - i]? = some x ∧ i ≤ t ∧ d = .one (paD x)
  | [],i,t,d,h=>by simp[zhP,lk] at h
  | x :: r,i,t,d,h=>by
    simp only[zhP] at h
    rw[zaz] at h
    split at h
    · rename_i e
      simp only[dqa] at h
      subst e
      exact⟨x,by simp,dqt _,h.symm⟩
    · rename_i e
      obtain⟨y,h1,h2,h3⟩:=zkT r (i+1) t d h
      refine⟨y,?_,by omega,h3⟩
      rw[show t - i=(t - (i+1))+1 by omega,dqC];exact h1

def resV (tmps : Array Value) : ResultVar → Sem Value
  | .tmp t=>pure (tmps.getD t undef)
  | .cell b t=>do loadVar t (<- asAddr (tmps.getD b undef))

theorem zmg {w:World}(x:Addr):(asAddr (.pointer (some x))).run P w=.ok x w:=rfl

theorem zkU {nt B:Nat}{w0:World}{h0:Fz}{g:Gh}{σ:St}{a:Act}{w:World}(S:Sim P nt B w0 h0 g σ a w):∀ (rs:List ResultVar) (l:List PA),zor P σ rs=some l ->
  ∃ (u:Upd) (vs:List Value),zc3 (lk σ.objs) u /\
   (rs.mapM (resV a.tmps)).run P w=.ok vs w /\
   ∀ (u':Upd) (h':Fz),(∀ y∈u,y∈u')->Frozen g (lk σ.objs) u' h'->RL (paR h') l vs
 | [],l,h=>by
  simp[zor] at h;subst h
  exact⟨[],[],zc3.nil _,rfl,λ _ _ _ _=>trivial⟩
 | .tmp t :: r,l,h=>by
  simp only[zor] at h
  split at h
  ·rename_i d hd
   split at h
   ·rename_i x u1 l2 h1 h2
    simp only[dqa] at h;subst h
    obtain⟨u2,vs,hu2,hrun,hr⟩:=zkU S r l2 h2
    refine⟨u1 ++ u2,a.tmps.getD t undef :: vs,(zkf h1).append hu2,?_,λ u' h' hu F=>⟨F.repD h1 (λ y hy=>hu y (dqg.2 (.inl hy))) (S.env t d hd),hr u' h' (λ y hy=>hu y (dqg.2 (.inr hy))) F⟩⟩
    rw[List.mapM_cons]
    simp only[resV,dqd,dqe,dqb]
    rw[hrun];rfl
   ·cases h
  ·cases h
 | .cell t ty :: r,l,h=>by
  simp only[zor] at h
  split at h
  ·rename_i L off ag m ht hg hs
   split at h
   ·rename_i ty' cells hL
    split at h
    ·rename_i d hd
     split at h
     ·rename_i x u1 l2 h1 h2
      simp only[dqa] at h;subst h
      obtain⟨u2,vs,hu2,hrun,hr⟩:=zkU S r l2 h2
      obtain⟨C,hC,hcr⟩:=S.obj L _ hL
      obtain⟨v,hload,hv⟩:=zmH (P:=P) hg hs hC 0 (λ j y hj=>by obtain⟨v,hv,hyv⟩:=hcr.get j y hj;exact⟨v,by simpa using hv,hyv⟩) hd
      have hp:a.tmps.getD t undef=.pointer (some ⟨g.bk L,off,none⟩):=S.env t _ ht
      rw[Nat.zero_add] at hload
      refine⟨u1 ++ u2,v :: vs,(zkf h1).append hu2,?_,λ u' h' hu F=>⟨F.repD h1 (λ y hy=>hu y (dqg.2 (.inl hy))) hv,hr u' h' (λ y hy=>hu y (dqg.2 (.inr hy))) F⟩⟩
      have h1:(resV a.tmps (.cell t ty)).run P w=.ok v w:=by
       simp only[resV,dqd,hp,zmg,dqb,hload]
      rw[List.mapM_cons]
      simp only[dqd,h1,dqb]
      rw[hrun];rfl
     ·cases h
    ·cases h
   ·cases h
  ·cases h

theorem zkV {nt B : Nat} {w0 : World} {h0 : Fz} {g : Gh} {σ : St} {a : Act} {w : World} (S : Sim P nt B w0 h0 g σ a w) {fn : Func} {l : List PA} (h : zor P σ fn.results.toList = some l) :
  ∃ (u:Upd) (v:Value),zc3 (lk σ.objs) u/\(results fn a.tmps).run P w=.ok v w/\∀ (h':Fz),Frozen g (lk σ.objs) u h'->zok h' l v:=by
 obtain⟨u,vs,hu,hrun,hr⟩:=zkU S fn.results.toList l h
 refine⟨u,if h:vs.toArray.size=1 then vs.toArray[0] else .tuple vs.toArray,hu,?_,λ h' F=>?_⟩
 ·have e : results fn a.tmps = (do let vs ← fn.results.mapM (resV a.tmps); pure (if h : vs.size = 1 then vs[0] else .tuple vs)) := rfl
  rw[e,Array.mapM_eq_mapM_toList]
  simp only[dqd,Sem.run_map]
  rw[hrun]
  simp only[dqb,dqe]
 ·have hrl := hr u h' (fun y hy => hy) F
  match l,vs,hrl with
  | [],[],_=>exact⟨[],rfl,trivial⟩
  | [x],[v],hrl=>exact hrl.1
  | x :: y :: l,v :: v2 :: vs,hrl =>
   refine⟨v :: v2 :: vs,?_,hrl⟩
   rw[dif_neg (by simp)]
  | [],_ :: _,hrl=>exact hrl.elim
  | [_],[],hrl=>exact hrl.elim
  | [_],_ :: _ :: _,hrl=>exact hrl.2.elim
  | _ :: _ :: _,[],hrl=>exact hrl.elim
  | _ :: _ :: _,[_],hrl=>exact hrl.2.elim

theorem Sim.unmark {nt B : Nat} {w0 : World} {h0 : Fz} {g : Gh} {σ : St} {a : Act} {w : World} (S : Sim P nt B w0 h0 g σ a w) {D : Nat} {Ds : List (Nat ⊕ Deferred)}
    (hnd:(lefts (.inl D :: Ds)).Nodup) (hm:∀ E,Sum.inl E∈.inl D :: Ds->B<=E/\g.h E=some (.fz (.deferred (some [])))) (hi:∀ d,Sum.inr d∈Ds->zmB P d) (h0b:∀ b,h0 b=some (.fz (.deferred (some [])))->b < B) {ds:List Deferred} (hds:ds=Ds.map deD) :
    w.heap[D]? = some (.deferred (some []))/\Sim P nt B w0 h0 (g.re (g.h.del D)) σ { a with defers:=ds } (w.putObj D (.deferred none)):=by
  obtain⟨hB,hb⟩:=hm D dqj
  have hnot:=(List.nodup_cons.1 hnd).1
  have hl:zDB g.h (g.h.del D):=λ k x hk hx=>by
    rw[Fz.del_other];exact hk
    intro e;subst e;rw[hb] at hk;simp only[dqa] at hk;subst hk
    rcases hx with ⟨C,ty,fr,hx⟩ | ⟨F,hx⟩ | ⟨es,c,hx⟩ <;> cases hx
  have hno:∀ L x,lk σ.objs L=some x->¬ obk g L x D:=λ L x hL hk=>by have:=(S.own L x D hL hk).2;rw[hb] at this;cases this
  refine⟨S.hw.fz hb,?_⟩
  have S1:Sim P nt B w0 h0 (g.re (g.h.del D)) σ { a with defers:=ds } w:=by
    refine⟨⟨Ds,(List.nodup_cons.1 hnd).2,hds,λ E hE=>⟨(hm E (dqf _ hE)).1,?_⟩,hi⟩,S.size,λ t d ht=>zwA hl (S.env t d ht),λ L x hL=>zwB hl (S.obj L x hL),λ L x k hL hk=>?_,S.sep,?_,?_,?_,S.below,S.bs,S.clE,S.clO,S.gl⟩
    · show g.h.del D E = _
      rw[Fz.del_other (λ e=>hnot (by rw[<- e];exact zhQ hE))];exact (hm E (dqf _ hE)).2
    · obtain ⟨h1, h2⟩ := S.own L x k hL hk
      refine⟨h1,?_⟩
      show g.h.del D k=none
      unfold Fz.del
      split
      · rfl
      · exact h2
    · intro k x hk
      have hk:g.h.del D k=some x:=hk
      unfold Fz.del at hk
      split at hk
      · cases hk
      · exact S.hw k x hk
    · intro k x hk
      show g.h.del D k=some x
      rw[Fz.del_other (λ e=>by
        subst e
        have h1:=S.le0 _ _ hk
        rw[hb] at h1;simp only[dqa] at h1;rw[<- h1] at hk
        have:=h0b _ hk;omega)];exact S.le0 k x hk
    · intro k x hk
      have hk:g.h.del D k=some x:=hk
      unfold Fz.del at hk
      split at hk
      · cases hk
      · exact S.hn k x hk
  exact S1.putObj _ Fz.del_same hB hno

theorem zkW {nt B : Nat} {w0 : World} {h0 : Fz} {σ : St} {fn : Func} {R : Ending → World → Prop} {n : Nat} (h0b : ∀ b, h0 b = some (.fz (.deferred (some []))) → b < B) :
  ∀ (Ds:List (Nat ⊕ Deferred)) (g:Gh) (a:Act) (w:World),(lefts Ds).Nodup->a.defers=Ds.map deD->(∀ D,Sum.inl D∈Ds->B<=D/\g.h D=some (.fz (.deferred (some []))))->(∀ d,Sum.inr d∈Ds->zmB P d)->Sim P nt B w0 h0 g σ a w ->
   (∀ g' a' w',a'.tmps=a.tmps->Sim P nt B w0 h0 g' σ a' w'->∃ v,(results fn a'.tmps).run P w'=.ok v w'/\R (.returned v) w')->LeavesInM (FR none) n P fn a.tmps R a.defers .returning w
 | [],g,a,w,_,ha,_,_,S,hR=>by
  rw[ha]
  exact hR g a w rfl S
 | .inl D :: Ds,g,a,w,hnd,ha,hm,hi,S,hR=>by
  obtain⟨h1,S1⟩:=S.unmark hnd hm (λ d hd=>hi d (dqf _ hd)) h0b rfl
  rw[ha,dqK]
  refine⟨by simp,.inl ⟨D,_,rfl,run_takeDeferred h1,?_⟩⟩
  have hnot:=(List.nodup_cons.1 hnd).1
  exact zkW h0b Ds _ { a with defers:=Ds.map deD } _ (List.nodup_cons.1 hnd).2 rfl (λ E hE=>⟨(hm E (dqf _ hE)).1,by
   show g.h.del D E=_
   rw[Fz.del_other (λ e=>hnot (by rw[<- e];exact zhQ hE))];exact (hm E (dqf _ hE)).2⟩) (λ d hd=>hi d (dqf _ hd)) S1 (λ g' a' w' ht=>hR g' a' w' ht)
 | .inr d :: Ds,g,a,w,hnd,ha,hm,hi,S,hR=>by
  obtain⟨fv,cap,f,args,h1,h2,h3⟩:=hi d dqj
  rw[ha,dqK]
  refine⟨by simp,.inr ⟨(λ h=>by cases h),fv,cap,f,args,h1,h2 w,(λ _ _=>trivial),?_⟩⟩
  obtain⟨c1,c2⟩:=h3 (n - 1) w
  refine⟨c1,λ c cs hc hr=>?_⟩
  obtain⟨e,u',w',fr,hR',rest⟩:=c2 c cs hc hr
  refine⟨e,u',w',fr,?_,rest⟩
  obtain⟨⟨v,rfl⟩,rfl,rfl⟩:=hR'
  have hm':∀ D,Sum.inl D∈Ds->B<=D/\g.h D=some (.fz (.deferred (some []))):=λ D hD=>hm D (dqf _ hD)
  have hi':∀ d,Sum.inr d∈Ds->zmB P d:=λ d hd=>hi d (dqf _ hd)
  exact zkW h0b Ds g { a with defers:=Ds.map deD } _ hnd rfl hm' hi' (S.act ⟨Ds,hnd,rfl,hm',hi'⟩ S.size S.env) (λ g' a' w' ht=>hR g' a' w' ht)

theorem zkX {nt : Nat} {args : List PA} {w : World} {h0 : Fz} {vs : List Value} {m : Nat} (hnt : nt = m) (hlen : args.length ≤ nt) (hvs : RL (paR h0) args vs) (hfz : Hw h0 w) (hgl : zeu h0) :
  Sim P nt w.heap.size w h0 ⟨h0,λ _=>0,λ _=>undef,λ _ _=>undef⟩ ⟨zhP 0 args,[],[]⟩ { tmps:=vs.toArray ++ Array.replicate (m - vs.toArray.size) undef,defers:=[] } w:=by
 have hl:=hvs.length
 refine⟨Marks.nil _ _,by simp;omega,?_,λ L o ho=>by simp[lk] at ho,λ L o b ho=>by simp[lk] at ho,λ L o b L' o' ho=>by simp[lk] at ho,hfz,λ _ _ h=>h,λ b o h=>.inl h,Bel.refl _ _ _,dqt _,?_,λ L o ho=>by simp[lk] at ho,hgl⟩
 ·intro t d ht
  obtain⟨x,hx,_,rfl⟩:=zkT args 0 t d ht
  obtain⟨v,hv,hxv⟩:=hvs.get t x (by simpa using hx)
  have hlt:=(dqn.1 hv).1
  have:(vs.toArray ++ Array.replicate (m - vs.toArray.size) undef).getD t undef=v:=by
   rw[dql,Array.getElem?_append_left (by simpa using hlt)]
   simp[hv]
  rw[this]
  exact zv6 (g:=⟨h0,λ _=>0,λ _=>undef,λ _ _=>undef⟩) hxv
 ·intro t d ht L hL
  obtain⟨x,hx,_,rfl⟩:=zkT args 0 t d ht
  rw[show zaX (.one (paD x))=zbg (paD x) from rfl,zkp] at hL;simp at hL

theorem zwF {G : Ctrs} (hok : OkAll P G) {f : FuncId} {ann : Ann} {args : List PA} {Kx : Func → Exit → St → Prop} {w : World} {h0 : Fz} {vs : List Value} {R : Ending → World → Prop} {fn : Func} {c : Code}
    (hfn:P.funcs[f]? = some fn) (hbody:fn.body=some c) (hnt:ann.nt=fn.ntmps) (hlen:args.length<=ann.nt) (hv:vc P G ann c (Kx fn) ⟨zhP 0 args,[],[]⟩) (hvs:RL (paR h0) args vs) (hfz:Hw h0 w) (hgl:zeu h0)
    (hend:∀ e σ g a w',Kx fn e σ->Sim P ann.nt w.heap.size w h0 g σ a w'->(e=.normal\/e=.ret)/\∃ v,(results fn a.tmps).run P w'=.ok v w'/\R (.returned v) w'):Calls P f vs.toArray w R:=by
  have S:=zkX (P:=P) hnt hlen hvs hfz hgl
  have hwp:=zdW (B:=w.heap.size) (w0:=w) hok ann c none 0 h0 (zhN c) _ (Kx fn) _ _ _ _ (λ _ h=>h) (Rnd.none h0) hv S (Kp.refl _ _)
  refine (callsIn_wide (n:=0)).1 ?_
  refine callsIn_of_wp_marks (F:=FR none) hfn hbody trivial (wpIn_mono hwp ?_)
  have h0b:∀ b,h0 b=some (.fz (.deferred (some [])))->b < w.heap.size:=λ b h=>hfz.lt h
  rintro e a' w' ⟨g',σ',hK',S',_⟩
  have fin:LeavesInM (FR none) 0 P fn a'.tmps R a'.defers .returning w':=by
    obtain⟨Ds,h1,h2,h3,h4⟩:=S'.dfr
    exact zkW h0b Ds g' a' w' h1 h2 h3 h4 S' λ g2 a2 w2 _ S2=>(hend e σ' g2 a2 w2 hK' S2).2
  rcases (hend e σ' g' a' w' hK' S').1 with rfl | rfl
  · exact fin
  · exact fin

theorem zwG {G : Ctrs} (hok : OkAll P G) {f : FuncId} {args : List PA} {K : List PA → Prop} {ann : Ann} (hv : vcFun P G ann f args K) {w : World} {h0 : Fz} {vs : List Value} (hvs : RL (paR h0) args vs) (hfz : Hw h0 w) (hgl : zeu h0) :
  Calls P f vs.toArray w λ e w'=>∃ (h':Fz) (rs:List PA) (v:Value),K rs/\e=.returned v/\zok h' rs v/\Bel h0 w.heap.size w w' /\
   Fle h0 h'/\Hw h' w'/\∀ b o,h' b=some o->h0 b=some o\/w.heap.size<=b:=by
 unfold vcFun at hv
 split at hv
 ·rename_i fn hfn
  split at hv
  ·rename_i c hbody
   split at hv
   ·rename_i hnt
    simp only[dqm,Nat.ble_eq] at hnt
    refine zwF (G:=G) hok (Kx:=λ fn=>zpO P fn K) hfn hbody (dqc hnt.1) hnt.2 hv hvs hfz hgl ?_
    intro e σ' g' a' w' hK' S'
    have fin:zI4 P fn K σ'->∃ v,(results fn a'.tmps).run P w'=.ok v w' /\
      (∃ (h':Fz) (rs:List PA) (v_1:Value),K rs/\Ending.returned v=.returned v_1/\zok h' rs v_1/\Bel h0 w.heap.size w w'/\Fle h0 h'/\Hw h' w'/\∀ b o,h' b=some o->h0 b=some o\/w.heap.size<=b):=by
     intro hf
     unfold zI4 at hf
     split at hf
     ·rename_i l hl
      obtain⟨u,v,hu,hrun,hres⟩:=zkV S' hl
      obtain⟨h',S2,F⟩:=S'.freeze hu
      exact⟨v,hrun,h',l,v,hf,rfl,hres h' F,S2.below,S2.le0,S2.hw,S2.hn⟩
     ·exact hf.elim
    cases e with
    | normal=>exact⟨.inl rfl,fin hK'⟩
    | ret=>exact⟨.inr rfl,fin hK'⟩
    | exit id=>exact hK'.elim
    | goto l=>exact hK'.elim
    | panic ch=>exact hK'.elim
    | outgrown=>exact hK'.elim
   ·exact hv.elim
  ·exact hv.elim
 ·exact hv.elim
theorem zBW {G : Ctrs} (hok : OkAll P G) {f : FuncId} {C : List PA → COut} (hc : zav P f)
    (h:∀ args K,(C args).wp K->∃ memo vv ann,vcFun P { G with memo:=memo,vv:=vv } ann f args K):Ok P f C:=by
  intro args K hK w h0 vs hvs hfz hgl
  obtain⟨memo,vv,ann,hv⟩:=h args K hK
  exact⟨hc,zwG (G:={ G with memo:=memo,vv:=vv }) ⟨hok.mt,hok.fn,hok.own,hok.it⟩ hv hvs hfz hgl⟩
end
end Go.Pm
namespace Go.Pm
open Go.RowKit (Below)

section
variable {P:Program}{Γ:Ctrs}{nt:Nat}{n:Nat}

theorem zBX {o : Oper} {a : Act} {w w' : World} {R : Act → World → Prop} {Q : Exit → Act → World → Prop} (hnd : ∀ c, o.op ≠ .defer c) {l f : Nat} {tmps : Array Value} {x y : Code} (h : (execOp a.eval o).run P w = .ok (.round l f tmps x y) w')
    (hR:RoundIn Fence.wide (n - 1) P l f tmps x y w' λ e w''=>∃ v,e=.returned v/\R (a.put o.dst v) w''):o.wpIn (FR none) n P a w R Q:=by
  refine⟨λ _ _=>trivial,?_⟩
  rw[Oper.semAt_eq _ _ _ hnd,h,Oper.uponIn_round]
  refine⟨λ h=>by simp[FR] at h,?_⟩
  have hR':RoundIn (FR none) (n - 1) P l f tmps x y w' λ e w''=>∃ v,e=.returned v/\R (a.put o.dst v) w'':=hR
  refine hR'.mono ?_
  rintro e w'' ⟨v,rfl,hv⟩
  exact hv

theorem zqk {h : Fz} {g : Gh} (hg : g.h = h) : ∀ {ds : List DV} {l : List PA} {vs : List Value}, zgZ ds = some l → RL (dvR g) ds vs → RL (paR h) l vs
  | [],l,vs,h,hr=>by
    simp only[zgZ,dqa] at h;subst h
    cases vs with
    | nil=>trivial
    | cons=>exact hr.elim
  | d :: ds,l,[],h,hr=>hr.elim
  | .one (.c (.p p)) :: ds,l,v :: vs,h,hr=>by
    simp only[zgZ] at h
    split at h
    · rename_i l' hl'
      simp only[dqa] at h;subst h
      refine⟨?_,zqk hg hl' hr.2⟩
      have:=hr.1
      rw[<- hg]
      exact this
    · cases h
  | .one (.agg cs) :: ds,l,v :: vs,h,hr=>by
    simp only[zgZ] at h
    split at h
    · rename_i l' m' hc hm'
      simp only[dqa] at h;subst h
      refine⟨?_,zqk hg hm' hr.2⟩
      obtain⟨us,rfl,hus⟩:=hr.1
      rw[zea hc] at hus
      have:=RL.map_left.1 hus
      exact⟨us,rfl,by rw[<- hg];exact this⟩
    · cases h
  | .one (.c (.ptr _ _)) :: ds,l,v :: vs,h,hr=>by simp[zgZ] at h
  | .one (.c (.vptr _ _ _ _)) :: ds,l,v :: vs,h,hr=>by simp[zgZ] at h
  | .one (.c (.vec _)) :: ds,l,v :: vs,h,hr=>by simp[zgZ] at h
  | .one (.c (.ivec _ _)) :: ds,l,v :: vs,h,hr=>by simp[zgZ] at h
  | .one (.c (.iptr _ _ _ _ _)) :: ds,l,v :: vs,h,hr=>by simp[zgZ] at h
  | .one (.c .undef) :: ds,l,v :: vs,h,hr=>by simp[zgZ] at h
  | .one (.c .junk) :: ds,l,v :: vs,h,hr=>by simp[zgZ] at h
  | .one (.c (.dead _)) :: ds,l,v :: vs,h,hr=>by simp[zgZ] at h
  | .tup _ :: ds,l,v :: vs,h,hr=>by simp[zgZ] at h

variable (J Jx:List (List PA)->Fz->World->Prop)

def JQ (q:Bool) (ys:List (List PA)) (h:Fz) (w:World):Prop :=
 match q with
 | false=>J ys h w
 | true=>∃ rest,Jx rest h w

def zBY (P:Program) (nt:Nat) (hs:Fz) (K:YK):Exit->Act->World->Prop :=
 λ e a' w'=>∃ ys q σ w0 h0 g,K e ys q σ/\Sim P nt w0.heap.size w0 h0 g σ a' w'/\Fle hs h0/\JQ J Jx q ys h0 w0/\a'.defers=[]

variable {J Jx}
theorem JQ.later {q:Bool}{ys:List (List PA)}{h0:Fz}{w0:World}{g:Gh}{σ:St}{a:Act}{w:World}(hJ:JSt J) (hJx:JSt Jx) (h:JQ J Jx q ys h0 w0) (S:Sim P nt w0.heap.size w0 h0 g σ a w):JQ J Jx q ys g.h w:=by
 cases q with
 | false=>exact hJ _ _ _ _ _ h S.le0 S.hw S.hn S.below
 | true=>obtain⟨rest,h⟩:=h;exact⟨rest,hJx _ _ _ _ _ h S.le0 S.hw S.hn S.below⟩

def YH (P:Program) (J Jx:List (List PA)->Fz->World->Prop) (l:Nat):Prop :=
 ∀ y rest h W us,J (y :: rest) h W->RL (paR h) y us->Hw h W->∀ n,∃ fn tmps assign body,(Instr.yield l us.toArray).run P W=.ok (.round l fn tmps assign body) W /\
   RoundIn Fence.wide n P l fn tmps assign body W λ e W'=>∃ h',Fle h h'/\Hw h' W'/\((e=.returned (.bool true)/\J rest h' W')\/(e=.returned (.bool false)/\Jx rest h' W'))

theorem ze6 {kl : List Nat} {l : List (Nat × DV)} : ∀ {ks : List Nat} {t : Nat} {d : DV}, lk (zha kl l ks) t = some d → lk l t = some d ∧ ∀ L ∈ zaX d, L ∈ kl
  | [],t,d,h=>by simp[zha,lk] at h
  | k :: ks,t,d,h=>by
    simp only[zha] at h
    split at h
    · rename_i d' hd'
      split at h
      · rename_i hl
        rw[zaz] at h
        split at h
        · rename_i e
          simp only[dqa] at h;subst h;subst e
          refine⟨hd',λ L hL=>?_⟩
          have:=List.all_eq_true.1 hl L hL
          simpa using this
        · exact ze6 h
      · exact ze6 h
    · exact ze6 h

theorem zm9 {ob : Nat → Option AO} : ∀ {ks : List Nat} {x : Nat × AO}, x ∈ zuw ob ks → ∃ l, ob x.1 = some (.fbox l) ∧ x.2 = .fbox l
  | [],x,h=>by simp[zuw] at h
  | k :: ks,x,h=>by
    simp only[zuw] at h
    split at h
    · rename_i l hk
      rcases dqq.1 h with rfl | h
      · exact⟨l,hk,rfl⟩
      · exact zm9 h
    · exact zm9 h
theorem zjY {σ:St}{L:Nat}{o:AO}(h:lk (zBh σ) L=some o):∃ l,o=.fbox l/\lk (zut (lk σ.objs) (σ.objs.map (·.1)) ++ σ.objs) L=some (.fbox l):=by
 unfold zBh at h
 rw[zcj] at h ⊢
 cases hb:lk (zut (lk σ.objs) (σ.objs.map (·.1))) L with
 | some x =>
  rw[hb] at h
  simp only[dqa] at h
  subst h
  obtain⟨ty,cells,l,_,h2,_⟩:=zkC (zbP hb)
  have h2:x=.fbox l:=h2
  subst h2
  exact⟨l,rfl,rfl⟩
 | none =>
  rw[hb] at h
  simp only at h
  obtain⟨l,h1,h2⟩:=zm9 (zbP h)
  exact⟨l,h2,h1⟩
theorem zg5 {α : Type} : ∀ {l : List (Nat × α)} {L : Nat}, L ∈ l.map (·.1) → ∃ o, lk l L = some o
  | [],L,h=>by simp at h
  | (k,a) :: r,L,h=>by
    rw[zaz]
    split
    · exact⟨a,rfl⟩
    · rename_i hne
      simp only[dqK,dqq] at h
      rcases h with rfl | h
      · exact absurd rfl hne
      · exact zg5 h

theorem zBZ {σ : St} {o : Oper} {args : Array Operand} {t l : Nat} (h : zMx σ o = some (args, t, l)) :
  ∃ f ts,o.op=.call { callee:=.value f,args,argTypes:=ts }/\o.dst=some t/\evO σ.env f=.one (.c (.p (.yl l))):=by
 unfold zMx at h
 split at h
 ·rename_i f as ts t' hop hd
  split at h
  ·rename_i l hl
   simp only[dqa,dqh] at h
   obtain⟨rfl,rfl,rfl⟩:=h
   exact⟨f,ts,hop,hd,hl⟩
  ·cases h
 ·cases h

theorem zo7 (hok : OkAll P Γ) {l : Nat} (hJ : JSt J) (hJx : JSt Jx) (hY : YH P J Jx l) {hs : Fz} {ops : Array Oper} {K : List (List PA) → Bool → St → Prop} {Q : Exit → Act → World → Prop}
    (hQ:∀ ys q σ w0 h0 g a w,K ys q σ->Sim P nt w0.heap.size w0 h0 g σ a w->Fle hs h0->JQ J Jx q ys h0 w0->a.defers=[]->Q .normal a w) :
    ∀ (lo:List Oper) (i:Nat) (ys:List (List PA)) (q:Bool) (σ:St) (w0:World) (h0:Fz) (g:Gh) (a:Act) (w:World),(∀ j,lo[j]? = ops[i+j]?)->zfz P Γ nt l ops lo K ys q σ ->
      Sim P nt w0.heap.size w0 h0 g σ a w->Fle hs h0->JQ J Jx q ys h0 w0->a.defers=[]->wpOpsIn (FR none) n P ops Q (List.range' i lo.length) a w:=by
  intro lo
  induction lo with
  | nil=>intro i ys q σ w0 h0 g a w _ h S hle hj hd;exact hQ ys q σ w0 h0 g a w h S hle hj hd
  | cons o lo ih =>
    intro i ys q σ w0 h0 g a w hl h S hle hj hdf
    have ho:ops[i]? = some o:=by have:=hl 0;simpa using this.symm
    have hl':∀ j,lo[j]? = ops[i+1+j]?:=λ j=>by have:=hl (j+1);rw[dqC] at this;rw[this];congr 1;omega
    simp only[dqr,List.range'_succ,wpOpsIn,ho]
    have run:∀ (σ:St),Sim P nt w0.heap.size w0 h0 g σ a w->zkb P Γ nt l o (zfz P Γ nt l ops lo K) ys q σ->o.wpIn (FR none) n P a w (wpOpsIn (FR none) n P ops Q (List.range' (i+1) lo.length)) Q:=by
      clear h S
      intro σ S h
      unfold zkb at h
      split at h
      · rename_i args t l1 hyl
        obtain⟨f,ts,hop,hdst,hf⟩:=zBZ hyl
        split at h
        · rename_i y hy ht
          obtain⟨rfl,rest,rfl,htr,hfa⟩:=h
          have hfn:=zbQ S hf
          generalize hfv:a.eval f=fvv at hfn
          cases hfn with
          | yl _ =>
            obtain⟨h1,S1,_⟩:=S.freeze (ztc (ob:=lk σ.objs) (ks:=σ.objs.map (·.1)))
            have hJn:J (y :: rest) h1 w:=hj.later hJ hJx S1
            have hus:RL (paR h1) y (args.toList.map a.eval):=zqk (g:=⟨h1,g.bk,g.sv,g.iv⟩) rfl hy (zv7 S1 args.toList)
            obtain⟨fn,tmps,x,c,hrun,hround⟩:=hY y rest h1 w _ hJn hus S1.hw (n - 1)
            refine zBX (by simp[hop]) (l:=l1) (f:=fn) (tmps:=tmps) (x:=x) (y:=c) (w':=w) ?_ (hround.mono ?_)
            · simp only [execOp, hop, resolve, hfv, Deferred.ofValue, dqd, dqe, dqb, invoke]
              rw[show (#[] ++ Array.map a.eval args)=(args.toList.map a.eval).toArray by cases args;simp]
              exact hrun
            · have hto : zbE nt (some t) = true := ht
              have next:∀ (b:Bool) (h':Fz) (W':World),Fle h1 h'->Hw h' W'->JQ J Jx (!b) rest h' W'->zfz P Γ nt l1 ops lo K rest (!b) ((zmA σ).setT t (.bool b)) ->
                  wpOpsIn (FR none) n P ops Q (List.range' (i+1) lo.length) (a.put o.dst (.bool b)) W':=by
                intro b h' W' hle' hw' hj' hv'
                have S0:Sim P nt W'.heap.size W' h' ⟨h',g.bk,g.sv,g.iv⟩ (zmA σ) a W':=by
                  refine⟨by rw[hdf];exact Marks.nil _ _,S.size,?_,λ L o ho=>?_,λ L o b ho hob=>?_,λ L o b L' o' ho ho' hob hob'=>?_,hw',λ _ _ h=>h,λ b o h=>.inl h,Bel.refl _ _ _,dqt _,?_,λ L o ho M hM=>?_,(S1.gl.mono S1.le0).mono hle'⟩
                  · intro u d hu
                    obtain⟨h2,_⟩:=ze6 hu
                    exact zsR (g:=⟨h1,g.bk,g.sv,g.iv⟩) (g':=⟨h',g.bk,g.sv,g.iv⟩) (λ L hL=>⟨rfl,rfl,rfl⟩) hle' (S1.env u d h2)
                  · obtain ⟨l, rfl, h2⟩ := zjY ho
                    obtain⟨C,ty,fr,hC,hr⟩:=S1.obj L _ h2
                    exact⟨C,ty,fr,hle' _ _ hC,hr.mono λ _ _=>Rep.mono hle'⟩
                  · obtain⟨l,rfl,_⟩:=zjY ho;exact hob.elim
                  · obtain⟨l,rfl,_⟩:=zjY ho;exact hob.elim
                  · intro u d hu L hL
                    exact zg5 ((ze6 hu).2 L hL)
                  · obtain⟨l,rfl,_⟩:=zjY ho;simp[zbB] at hM
                have S2:=S0.put (dst:=some t) (d:=.bool b) (v:=.bool b) hto (.bool b) (zcW _) []
                rw[hdst]
                exact ih (i+1) rest (!b) _ W' h' _ _ W' hl' hv' S2 (λ b o hb=>hle' b o (S1.le0 b o (hle b o hb))) hj' ((put_defers _ _ _).trans hdf)
              rintro e W' ⟨h',hle',hw',(⟨rfl,hj'⟩ | ⟨rfl,hj'⟩)⟩
              · exact⟨_,rfl,next true h' W' hle' hw' hj' htr⟩
              · exact⟨_,rfl,next false h' W' hle' hw' ⟨rest,hj'⟩ hfa⟩
        · exact h.elim
      · split at h
        · rename_i hd
          obtain⟨hs',hk⟩:=zkg.1 h
          refine zkD (zkx (i:=0) (Q:=Q) (r:=none) (n:=n) hok S hd rfl hs') ?_
          rintro a' w' ⟨hdf',g',σ',hst,S'⟩
          exact ih (i+1) ys q _ w0 h0 g' a' w' hl' (hk σ' hst) (S'.log _) hle hj (hdf'.trans hdf)
        · exact h.elim
    have skp:∀ (σ:St),zbE nt o.dst=true->Sim P nt w0.heap.size w0 h0 g σ a w->zfz P Γ nt l ops lo K ys q (σ.skip o.dst)->wpOpsIn (FR none) n P ops Q (List.range' (i+1) lo.length) (a.put o.dst undef) w:=by
      intro σ hd S h
      exact ih (i+1) ys q _ w0 h0 g _ w hl' h (S.skip hd) hle hj ((put_defers _ _ _).trans hdf)
    simp only[zfz] at h
    split at h
    · rename_i hg
      rw[if_pos (by simp[Region.wanted,hg])]
      exact run σ S h
    · rename_i j want hg
      split at h
      · rename_i gt hd hgt
        split at h
        · rename_i b hb
          have hv:a.tmps.getD gt undef=.bool b:=by
            have:=S.env gt _ hb
            generalize a.tmps.getD gt undef=v at this
            cases this;rfl
          have hy:=zfS hgt hv
          have S1:∀ c,b=c->Sim P nt w0.heap.size w0 h0 g (σ.setT gt (.bool c)) a w:=by
            intro c hc
            refine S.env' (t:=gt) (d:=.bool c) ?_ (zcW _)
            rw[hv,hc];exact .bool c
          have h2:=zfO.1 h
          cases b with
          | true =>
            have h3:=h2.1 rfl
            cases want with
            | true=>rw[if_pos (by simp[Region.wanted,hg,hy])];exact run _ (S1 true rfl) h3
            | false=>rw[if_neg (by simp[Region.wanted,hg,hy])];exact⟨λ _ _=>trivial,skp _ hd (S1 true rfl) h3⟩
          | false =>
            have h3:=h2.2 rfl
            cases want with
            | true=>rw[if_neg (by simp[Region.wanted,hg,hy])];exact⟨λ _ _=>trivial,skp _ hd (S1 false rfl) h3⟩
            | false=>rw[if_pos (by simp[Region.wanted,hg,hy])];exact run _ (S1 false rfl) h3
        · rename_i hb
          have hv:a.tmps.getD gt undef=undef:=S.env gt _ hb
          have hy:=zfh hgt hv
          rw[if_neg (by simp[Region.wanted,hg,hy])]
          exact⟨λ _ _=>trivial,skp _ hd S h⟩
        · exact h.elim
      · exact h.elim

theorem zwH (hok:OkAll P Γ) (ann:Ann){l:Nat}(hJ:JSt J) (hJx:JSt Jx) (hY:YH P J Jx l){hs:Fz} : ∀ (c:Code) (K:YK) (ys:List (List PA)) (q:Bool) (σ:St) (w0:World) (h0:Fz) (g:Gh) (a:Act) (w:World),
  vcY P Γ ann l c K ys q σ->Sim P ann.nt w0.heap.size w0 h0 g σ a w->Fle hs h0->JQ J Jx q ys h0 w0->a.defers=[]->c.wpIn (FR none) n P (zBY J Jx P ann.nt hs K) a w:=by
 intro c
 induction c with
 | skip=>intro K ys q σ w0 h0 g a w h S hle hj hd;exact wpIn_skip ⟨ys,q,σ,w0,h0,g,h,S,hle,hj,hd⟩
 | region id ops draw =>
  intro K ys q σ w0 h0 g a w h S hle hj hd
  simp only[vcY] at h
  split at h
  ·-- a region that yields
   refine wpIn_region ?_
   have:=zo7 (n:=n) hok hJ hJx hY (hs:=hs) (ops:=ops) (Q:=zBY J Jx P ann.nt hs K) (λ ys q σ w0 h0 g a w h S hle hj hd=>?_) ops.toList 0 ys q _ w0 h0 g a w (λ j=>by simp) h (S.log _) hle hj hd
   ·rw [List.range_eq_range']
    simpa using this
   ·split at h
    ·split at h
     ·rename_i s hs'
      obtain⟨g2,S2⟩:=zbs hs' S
      exact⟨ys,q,s,w0,h0,g2,h,S2,hle,hj,hd⟩
     ·exact h.elim
    ·exact⟨ys,q,_,w0,h0,g,h,S.log _,hle,hj,hd⟩
  ·exact h.elim
  ·exact zo6 (r:=none) (n:=n) hok ann (D:=zvq ops.toList) (a0:=a) (λ _ h=>h) h S (Kp.refl _ _) λ g' σ' a' w' hK S' _ hdf=>⟨ys,q,σ',w0,h0,g',hK,S',hle,hj,hdf.trans hd⟩
 | seq x y ihx ihy =>
  intro K ys q σ w0 h0 g a w h S hle hj hd
  refine wpIn_seq (wpIn_mono (ihx _ ys q σ w0 h0 g a w h S hle hj hd) ?_)
  rintro e a' w' ⟨ys',q',σ',w1,h1,g',hK,S',hle',hj',hd'⟩
  cases e with
  | normal =>
   simp only[zNV,zNW] at hK
   split at hK
   ·split at hK
    ·rename_i s hs
     obtain⟨g2,S2⟩:=zbs hs S'
     exact ihy K ys' q' s w1 h1 g2 a' w' hK S2 hle' hj' hd'
    ·exact hK.elim
   ·exact ihy K ys' q' σ' w1 h1 g' a' w' hK S' hle' hj' hd'
  | exit id=>exact⟨ys',q',σ',w1,h1,g',hK,S',hle',hj',hd'⟩
  | goto l=>exact⟨ys',q',σ',w1,h1,g',hK,S',hle',hj',hd'⟩
  | ret=>exact⟨ys',q',σ',w1,h1,g',hK,S',hle',hj',hd'⟩
  | panic ch=>exact⟨ys',q',σ',w1,h1,g',hK,S',hle',hj',hd'⟩
  | outgrown=>exact⟨ys',q',σ',w1,h1,g',hK,S',hle',hj',hd'⟩
 | cond c x y ihx ihy =>
  intro K ys q σ w0 h0 g a w h S hle hj hd
  simp only[vcY] at h
  split at h
  ·rename_i t ht
   have hv:=zgO S ht
   have hS:∀ b,t=b->Sim P ann.nt w0.heap.size w0 h0 g (zuv σ c b) a w:=by
    intro b hb
    cases c with
    | tmp q =>
     refine S.env' (t:=q) (d:=.bool b) ?_ (zcW _)
     have:a.tmps.getD q undef=.bool t:=hv
     rw[this,hb];exact .bool b
    | _=>exact S
   have h2:=zfO.1 h
   refine wpIn_cond hv ?_
   cases t with
   | true=>exact ihx K ys q _ w0 h0 g a w (h2.1 rfl) (hS true rfl) hle hj hd
   | false=>exact ihy K ys q _ w0 h0 g a w (h2.2 rfl) (hS false rfl) hle hj hd
  ·exact h.elim
 | block id b ih =>
  intro K ys q σ w0 h0 g a w h S hle hj hd
  refine wpIn_block (wpIn_mono (ih _ ys q σ w0 h0 g a w h S hle hj hd) ?_)
  rintro e a' w' ⟨ys',q',σ',w1,h1,g',hK,S',hle',hj',hd'⟩
  cases e with
  | exit j =>
   simp only[zos] at hK
   simp only[Exit.inBlock]
   split at hK
   ·rename_i hj;rw[if_pos (dqc hj)];exact⟨ys',q',σ',w1,h1,g',hK,S',hle',hj',hd'⟩
   ·rename_i hj;rw[if_neg (Nat.ne_of_beq_eq_false hj)];exact⟨ys',q',σ',w1,h1,g',hK,S',hle',hj',hd'⟩
  | normal=>exact⟨ys',q',σ',w1,h1,g',hK,S',hle',hj',hd'⟩
  | goto l=>exact⟨ys',q',σ',w1,h1,g',hK,S',hle',hj',hd'⟩
  | ret=>exact⟨ys',q',σ',w1,h1,g',hK,S',hle',hj',hd'⟩
  | panic ch=>exact⟨ys',q',σ',w1,h1,g',hK,S',hle',hj',hd'⟩
  | outgrown=>exact⟨ys',q',σ',w1,h1,g',hK,S',hle',hj',hd'⟩
 | loop b ih =>
  intro K ys q σ w0 h0 g a w h S hle hj hd
  simp only[vcY] at h
  split at h
  ·rename_i k hk
   split at h
   ·rename_i s hs'
    obtain⟨g1,S1⟩:=zbs hs' S
    refine zfj ?_
    have key:=h (λ ys q s=>∀ w0 h0 g a w,Sim P ann.nt w0.heap.size w0 h0 g s a w->Fle hs h0->JQ J Jx q ys h0 w0->a.defers=[]->zqi (FR none) n P b (zBY J Jx P ann.nt hs K) a w) ?_
    ·exact key w0 h0 g1 a w S1 hle hj hd
    ·intro ys q s hs2 w0 h0 g a w S hle hj hd
     refine zfk (wpIn_mono (ih _ ys q s w0 h0 g a w hs2 S hle hj hd) ?_)
     rintro e a' w' ⟨ys',q',σ',w1,h1,g',hK,S',hle',hj',hd'⟩
     cases e with
     | normal =>
      simp only[zBi,hk] at hK
      split at hK
      ·rename_i s2 hs2
       obtain⟨g2,S2⟩:=zbs hs2 S'
       exact hK w1 h1 g2 a' w' S2 hle' hj' hd'
      ·exact hK.elim
     | exit id=>exact⟨ys',q',σ',w1,h1,g',hK,S',hle',hj',hd'⟩
     | goto l=>exact⟨ys',q',σ',w1,h1,g',hK,S',hle',hj',hd'⟩
     | ret=>exact⟨ys',q',σ',w1,h1,g',hK,S',hle',hj',hd'⟩
     | panic ch=>exact⟨ys',q',σ',w1,h1,g',hK,S',hle',hj',hd'⟩
     | outgrown=>exact⟨ys',q',σ',w1,h1,g',hK,S',hle',hj',hd'⟩
   ·exact h.elim
  ·split at h
   ·rename_i m k hk
    have key:∀ (m:Nat) (ys:List (List PA)) (q:Bool) (σ:St) (w0:World) (h0:Fz) (g:Gh) (a:Act) (w:World),zBj P k (vcY P Γ ann l b) m K ys q σ->Sim P ann.nt w0.heap.size w0 h0 g σ a w->Fle hs h0->JQ J Jx q ys h0 w0->a.defers=[] ->
      zqi (FR none) n P b (zBY J Jx P ann.nt hs K) a w:=by
     intro m
     induction m with
     | zero=>intro ys q σ w0 h0 g a w h;exact h.elim
     | succ m ihm =>
      intro ys q σ w0 h0 g a w h S hle hj hd
      simp only[zBj] at h
      split at h
      ·rename_i s hs'
       obtain⟨g1,S1⟩:=zbs hs' S
       refine zfk (wpIn_mono (ih _ ys q s w0 h0 g1 a w h S1 hle hj hd) ?_)
       rintro e a' w' ⟨ys',q',σ',w1,h1,g',hK,S',hle',hj',hd'⟩
       cases e with
       | normal=>exact ihm ys' q' σ' w1 h1 g' a' w' hK S' hle' hj' hd'
       | exit id=>exact⟨ys',q',σ',w1,h1,g',hK,S',hle',hj',hd'⟩
       | goto l=>exact⟨ys',q',σ',w1,h1,g',hK,S',hle',hj',hd'⟩
       | ret=>exact⟨ys',q',σ',w1,h1,g',hK,S',hle',hj',hd'⟩
       | panic ch=>exact⟨ys',q',σ',w1,h1,g',hK,S',hle',hj',hd'⟩
       | outgrown=>exact⟨ys',q',σ',w1,h1,g',hK,S',hle',hj',hd'⟩
      ·exact h.elim
    exact zfj (key m ys q σ w0 h0 g a w h S hle hj hd)
   ·exact h.elim
 | exit id=>intro K ys q σ w0 h0 g a w h S hle hj hd;exact wpIn_exit ⟨ys,q,σ,w0,h0,g,h,S,hle,hj,hd⟩
 | scope b ih =>
  intro K ys q σ w0 h0 g a w h S hle hj hd
  refine zmf (wpIn_mono (ih _ ys q σ w0 h0 g a w h S hle hj hd) ?_)
  rintro e a' w' ⟨ys',q',σ',w1,h1,g',hK,S',hle',hj',hd'⟩
  cases e with
  | goto l=>exact hK
  | normal=>exact⟨ys',q',σ',w1,h1,g',hK,S',hle',hj',hd'⟩
  | exit l=>exact⟨ys',q',σ',w1,h1,g',hK,S',hle',hj',hd'⟩
  | ret=>exact⟨ys',q',σ',w1,h1,g',hK,S',hle',hj',hd'⟩
  | panic ch=>exact⟨ys',q',σ',w1,h1,g',hK,S',hle',hj',hd'⟩
  | outgrown=>exact⟨ys',q',σ',w1,h1,g',hK,S',hle',hj',hd'⟩
 | label l=>intro K ys q σ w0 h0 g a w h S hle hj hd;exact wpIn_label ⟨ys,q,σ,w0,h0,g,h,S,hle,hj,hd⟩
 | ret=>intro K ys q σ w0 h0 g a w h S hle hj hd;exact wpIn_ret ⟨ys,q,σ,w0,h0,g,h,S,hle,hj,hd⟩
 | rangeFunc f ps x y _ _=>intro K ys q σ w0 h0 g a w h S;exact h.elim
 | goto l=>intro K ys q σ w0 h0 g a w h S;exact h.elim
 | refuse s=>intro K ys q σ w0 h0 g a w h S;exact h.elim

theorem zB0 {G : Ctrs} (hok : OkAll P G) {f : FuncId} {C : List PA → Option (Prop × List (List PA))} (hc : zav P f)
    (h:∀ l caps safe ys,C caps=some (safe,ys)->safe->∃ memo vv ann,vcIter P { G with memo:=memo,vv:=vv } ann f l caps ys):zDm P f C:=by
  intro caps safe ys hC hsafe l J Jx w h0 vs hJ hJx hgl hY hj0 hvs hfz
  refine⟨hc,?_⟩
  obtain⟨memo,vv,ann,hv⟩:=h l caps safe ys hC hsafe
  unfold vcIter at hv
  split at hv
  · rename_i fn hfn
    split at hv
    · rename_i c hbody
      split at hv
      · rename_i hnt
        simp only[dqm,Nat.ble_eq] at hnt
        obtain⟨⟨hnt,hlen⟩,hres⟩:=hnt
        have S:=zkX (P:=P) (args:=.one (.yl l) :: caps) (vs:=.func (.yield l) #[] #[] :: vs) (h0:=h0) (w:=w) (dqc hnt) (by simpa using hlen) ⟨.yl l,hvs⟩ hfz hgl
        have hwp:=zwH (n:=0) (Γ:={ G with memo:=memo,vv:=vv }) (J:=J) (Jx:=Jx) (hs:=h0) ⟨hok.mt,hok.fn,hok.own,hok.it⟩ ann (l:=l) hJ hJx hY c _ ys false _ w h0 _ _ w hv S (λ _ _ h=>h) hj0 rfl
        refine (callsIn_wide (n:=0)).1 ?_
        refine callsIn_of_wp (F:=FR none) hfn hbody trivial (wpIn_mono hwp ?_)
        rintro e a' w' ⟨ys',q',σ',w1,h1,g',hK,S',hle,hj,hd⟩
        have fin:zMe ys' q'->a'.defers=[]/\∃ v,(results fn a'.tmps).run P w'=.ok v w'/\∃ v2 h',Ending.returned v=.returned v2/\Fle h0 h'/\Hw h' w'/\(J [] h' w'\/∃ rest,Jx rest h' w'):=by
          intro hf
          have hr:fn.results = #[]:=by simpa using hres
          refine⟨hd,.tuple #[],?_,_,g'.h,rfl,λ b o hb=>S'.le0 b o (hle b o hb),S'.hw,?_⟩
          · simp[results,hr]
          · have := hj.later hJ hJx S'
            cases q' with
            | false=>simp only[zMe] at hf;subst hf;exact .inl this
            | true=>exact .inr this
        cases e with
        | normal=>exact fin hK
        | ret=>exact fin hK
        | exit id=>exact hK.elim
        | goto l=>exact hK.elim
        | panic ch=>exact hK.elim
        | outgrown=>exact hK.elim
      · exact hv.elim
    · exact hv.elim
  · exact hv.elim

end
end Go.Pm
namespace Go.Pm
open Go.RowKit (Below)

def zuU (i j:Nat):Nat:=i+4096 * (j+1)
def zB1 : Nat → List XA → List (Nat × DV)
  | _,[]=>[]
  | i,.d a :: r=>(i,.one (paD a)) :: zB1 (i+1) r
  | i,.box _ _ :: r=>(i,.cl (.ptr i 0)) :: zB1 (i+1) r
def zg6 (i : Nat) : Nat → List XC → List Cl
  | _,[]=>[]
  | j,.p v :: r=>.p v :: zg6 i (j+1) r
  | j,.vec _ _ _ _ _ :: r=>.vec (zuU i j) :: zg6 i (j+1) r
  | j,.mo _ _ _ _ _ :: r=>.mo (zuU i j) :: zg6 i (j+1) r
def zfK (i : Nat) : Nat → List XC → List (Nat × AO)
  | _,[]=>[]
  | j,.p _ :: r=>zfK i (j+1) r
  | j,.vec e s b n get :: r=>(zuU i j,.vec e s b n get) :: zfK i (j+1) r
  | j,.mo kt vt q n F :: r=>(zuU i j,.mo kt vt q n F) :: zfK i (j+1) r
def zdD : Nat → List XA → List (Nat × AO)
  | _,[]=>[]
  | i,.d _ :: r=>zdD (i+1) r
  | i,.box ty cs :: r=>(i,.box ty (zg6 i 0 cs)) :: (zfK i 0 cs ++ zdD (i+1) r)
def zJI : Nat → List XA → List Nat
  | _,[]=>[]
  | i,.d _ :: r=>zJI (i+1) r
  | i,.box _ _ :: r=>i :: zJI (i+1) r

section
variable (P:Program)
def zo8 (σ : St) : List ResultVar → Option (List PA × List (Nat × AO))
  | []=>some ([],[])
  | .tmp t :: r=>match lk σ.env t with
    | some d=>match zpE (lk σ.objs) d,zo8 σ r with
      | some (x,u),some (l,us)=>some (x :: l,u ++ us)
      | _,_=>none
    | none=>none
  | .cell t ty :: r=>match lk σ.env t,zeY P ty,szT P ty with
    | some (.one (.c (.ptr L off))),some g,some n=>match lk σ.objs L with
      | some (.box _ cells)=>match zg1 g n cells off with
        | some d=>match zpE (lk σ.objs) (.one d),zo8 σ r with
          | some (x,u),some (l,us)=>some (x :: l,u ++ us)
          | _,_=>none
        | none=>none
      | _=>none
    | _,_,_=>none
def zFg (ob : Nat → Option AO) (env : List (Nat × DV)) : Nat → List XA → Option (List XA × List Nat)
  | _,[]=>some ([],[])
  | i,.d a :: r=>match zFg ob env (i+1) r with
    | some (ys,ls)=>some (.d a :: ys,ls)
    | none=>none
  | i,.box _ _ :: r=>match lk env i,zFg ob env (i+1) r with
    | some (.one (.c (.ptr L 0))),some (ys,ls)=>match zpG ob (.one (.c (.ptr L 0))) with
      | some (y,l,_)=>some (y :: ys,l ++ ls)
      | none=>none
    | _,_=>none
def zEU (fn:Func) (xs:List XA) (K:List PA->List XA->Prop) (σ:St):Prop :=
 match zo8 P σ fn.results.toList with
 | some (l,u)=>match zFg (lk (u ++ σ.objs)) σ.env 0 xs with
  | some (ys,ls)=>match zlO ls with
   | true=>K l ys
   | false=>False
  | none=>False
 | none=>False
def zlE (fn : Func) (xs : List XA) (K : List PA → List XA → Prop) : Exit → St → Prop
  | .ret,σ=>zEU P fn xs K σ
  | .normal,σ=>zEU P fn xs K σ
  | _,_=>False
def zkY (Γ:Ctrs) (ann:Ann) (f:FuncId) (xs:List XA) (K:List PA->List XA->Prop):Prop :=
 match P.funcs[f]? with
 | some fn=>match fn.body with
  | some c=>match Nat.beq ann.nt fn.ntmps && Nat.ble xs.length ann.nt && zlO ((zdD 0 xs).map (·.1)) && zNU (zJI 0 xs) (zhN c) with
   | true=>vc P Γ ann c (zlE P fn xs K) ⟨zB1 0 xs,zdD 0 xs,[]⟩
   | false=>False
  | none=>False
 | none=>False
end

section
variable {P:Program}{Γ:Ctrs}

def zna (w:World) (v:Value):List Value:=match v with
 | .pointer (some a)=>match w.heap[a.block]? with
  | some (.cells C _ _)=>C.toList
  | _=>[]
 | _=>[]
def xVV (i : Nat) : Nat → List XC → List Value → List (Nat × Value)
  | j,.p _ :: r,_ :: vs=>xVV i (j+1) r vs
  | j,.vec _ _ _ _ _ :: r,v :: vs=>(zuU i j,v) :: xVV i (j+1) r vs
  | j,.mo _ _ _ _ _ :: r,v :: vs=>(zuU i j,v) :: xVV i (j+1) r vs
  | _,_,_=>[]
def zkZ (w : World) : Nat → List XA → List Value → List (Nat × Value)
  | i,.d _ :: r,_ :: vs=>zkZ w (i+1) r vs
  | i,.box _ cs :: r,v :: vs=>(i,v) :: (xVV i 0 cs (zna w v) ++ zkZ w (i+1) r vs)
  | _,_,_=>[]
def zMg : Value → Nat
  | .pointer (some a)=>a.block
  | _=>0

section start
variable {h:Fz}{w:World}{B:Nat}{g:Gh}(hle:∀ p x,Rep h p x->Rep g.h p x)
include hle
theorem zB2 {i:Nat} : ∀ {cs:List XC}{j:Nat}{vs:List Value},RL (xcR P h w B) cs vs->(∀ x∈xVV i j cs vs,g.sv x.1=x.2) ->
  RL (clR g) (zg6 i j cs) vs/\(∀ x∈zfK i j cs,zDw x.2/\zbB x.2=[]/\aoR P g w B x.1 x.2)/\zsO cs vs=(zfK i j cs).flatMap (λ x=>kO g x.1 x.2)/\(xVV i j cs vs).map (·.1)=(zfK i j cs).map (·.1) /\
   ∀ M∈(zg6 i j cs).flatMap zaF,M∈(zfK i j cs).map (·.1)
 | [],j,[],_,_=>⟨trivial,λ x hx=>by simp[zfK] at hx,rfl,rfl,λ M hM=>by simp[zg6] at hM⟩
 | [],_,_ :: _,hr,_=>hr.elim
 | _ :: _,_,[],hr,_=>hr.elim
 | .p p :: cs,j,v :: vs,hr,hs=>by
  obtain⟨i1,i2,i3,i4,i5⟩:=zB2 (j:=j+1) hr.2 hs
  exact⟨⟨hle _ _ hr.1,i1⟩,i2,by simp only[zsO,xcK,List.nil_append];exact i3,i4,λ M hM=>i5 M (by simpa [zg6,zaF] using hM)⟩
 | .vec e s b n get :: cs,j,v :: vs,hr,hs=>by
  obtain⟨i1,i2,i3,i4,i5⟩:=zB2 (j:=j+1) hr.2 (λ x hx=>hs x (dqf _ hx))
  have hv:g.sv (zuU i j)=v:=hs (zuU i j,v) dqj
  obtain⟨h1,h2,h3,xs,hx,hx2⟩:=hr.1
  refine⟨⟨⟨hv.symm,h1⟩,i1⟩,λ x hx=>?_,?_,by simp[xVV,zfK,i4],λ M hM=>?_⟩
  ·rcases dqq.1 hx with e1 | hx
   ·subst e1
    refine⟨trivial,rfl,h2,h3,xs,?_,λ q hq=>(hx2 q hq).mono hle⟩
    show w.ownsRow B e s (g.sv (zuU i j)) n xs
    rw[hv];assumption
   ·exact i2 x hx
  ·simp only[zsO,xcK,zfK,dqJ,kO,hv,i3]
  ·simp only [zg6, dqJ, dqg, zaF, dqi] at hM
   simp only[zfK,dqK,dqq]
   exact hM.imp_right (i5 M)
 | .mo kt vt q n F :: cs,j,v :: vs,hr,hs=>by
  obtain⟨i1,i2,i3,i4,i5⟩:=zB2 (j:=j+1) hr.2 (λ x hx=>hs x (dqf _ hx))
  have hv:g.sv (zuU i j)=v:=hs (zuU i j,v) dqj
  obtain⟨b,es,clock,rfl,h2,h3⟩:=hr.1
  have hb:zcG (g.sv (zuU i j))=b:=by rw[hv];rfl
  refine⟨⟨by show Value.map (some b)=.map (some (zcG (g.sv (zuU i j))));rw[hb],i1⟩,λ x hx=>?_,?_,by simp[xVV,zfK,i4],λ M hM=>?_⟩
  ·rcases dqq.1 hx with e1 | hx
   ·subst e1
    exact⟨trivial,rfl,es,clock,by rw[hb];exact h2,h3⟩
   ·exact i2 x hx
  ·simp only[zsO,xcK,zfK,dqJ,kO,hb,i3];rfl
  ·simp only [zg6, dqJ, dqg, zaF, dqi] at hM
   simp only[zfK,dqK,dqq]
   exact hM.imp_right (i5 M)
theorem zql:∀ {xs:List XA}{i:Nat}{vs:List Value},RL (xaR P h w B) xs vs->(∀ x∈zkZ w i xs vs,g.sv x.1=x.2/\g.bk x.1=zMg x.2) ->
  (∀ x∈zdD i xs,zDw x.2/\(∀ M∈zbB x.2,M∈(zdD i xs).map (·.1))/\aoR P g w B x.1 x.2)/\xsK w xs vs=(zdD i xs).flatMap (λ x=>kO g x.1 x.2)/\(zkZ w i xs vs).map (·.1)=(zdD i xs).map (·.1)
 | [],i,[],_,_=>⟨λ x hx=>by simp[zdD] at hx,rfl,rfl⟩
 | [],_,_ :: _,hr,_=>hr.elim
 | _ :: _,_,[],hr,_=>hr.elim
 | .d a :: xs,i,v :: vs,hr,hs=>by
  obtain⟨i1,i2,i3⟩:=zql (i:=i+1) hr.2 hs
  exact⟨i1,by simp only[xsK,xaK,List.nil_append];exact i2,i3⟩
 | .box ty cs :: xs,i,v :: vs,hr,hs=>by
  obtain⟨i1,i2,i3⟩:=zql (i:=i+1) hr.2 (λ x hx=>hs x (dqf _ (dqg.2 (.inr hx))))
  obtain⟨k,C,rfl,hC,hrl⟩:=hr.1
  have hca:zna w (.pointer (some ⟨k,0,none⟩))=C.toList:=by simp only[zna,hC]
  obtain⟨j1,j2,j3,j4,j5⟩:=zB2 (i:=i) (j:=0) hle hrl (λ x hx=>(hs x (dqf _ (dqg.2 (.inl (by rw[hca];exact hx))))).1)
  have hb:g.bk i=k:=(hs (i,_) dqj).2
  refine⟨λ x hx=>?_,?_,?_⟩
  ·simp only [zdD] at hx
   rcases dqq.1 hx with e | hx
   ·subst e
    refine⟨trivial,λ M hM=>?_,C,by rw[hb];exact hC,j1⟩
    simp only[zdD,dqK,List.map_append,dqq,dqg]
    exact .inr (.inl (j5 M hM))
   ·rcases dqg.1 hx with hx | hx
    ·obtain ⟨q1, q2, q3⟩ := j2 x hx
     exact⟨q1,λ M hM=>by rw[q2] at hM;simp at hM,q3⟩
    ·obtain ⟨q1, q2, q3⟩ := i1 x hx
     refine⟨q1,λ M hM=>?_,q3⟩
     simp only[zdD,dqK,List.map_append,dqq,dqg]
     exact .inr (.inr (q2 M hM))
  ·simp only[xsK,xaK,hC,zdD,dqJ,List.flatMap_append,kO,hb,j3,i2];simp
  ·simp only[zkZ,zdD,dqK,List.map_append,hca,j4,i3]
end start

theorem zqm : ∀ (xs : List XA) (i t : Nat) (d : DV), lk (zB1 i xs) t = some d → ∃ x, xs[t - i]? = some x ∧ i ≤ t ∧ d = match x with | .d a => .one (paD a) | .box _ _ => .cl (.ptr t 0)
  | [],i,t,d,h=>by simp[zB1,lk] at h
  | x :: r,i,t,d,h=>by
    have key:lk (zB1 (i+1) r) t=some d->i ≠ t->∃ y,(x :: r)[t - i]? = some y/\i<=t/\d=match y with | .d a=>.one (paD a) | .box _ _=>.cl (.ptr t 0):=λ h hne=>by
      obtain⟨y,h1,h2,h3⟩:=zqm r (i+1) t d h
      refine⟨y,?_,by omega,h3⟩
      rw[show t - i=(t - (i+1))+1 by omega,dqC];exact h1
    cases x with
    | d a =>
      simp only[zB1] at h
      rw[zaz] at h
      split at h
      · rename_i e;subst e;simp only[dqa] at h;exact⟨.d a,by simp,dqt _,h.symm⟩
      · rename_i e;exact key h e
    | box ty cs =>
      simp only[zB1] at h
      rw[zaz] at h
      split at h
      · rename_i e;subst e;simp only[dqa] at h;exact⟨.box ty cs,by simp,dqt _,h.symm⟩
      · rename_i e;exact key h e
theorem zo9 : ∀ {xs : List XA} {i t : Nat} {ty : Nat} {cs : List XC}, xs[t - i]? = some (.box ty cs) → i ≤ t → t ∈ (zdD i xs).map (·.1)
  | [],i,t,ty,cs,h,_=>by simp at h
  | x :: xs,i,t,ty,cs,h,hi=>by
    by_cases e:t=i
    · subst e
      simp at h;subst h
      simp[zdD]
    · rw [show t - i = (t - (i + 1)) + 1 by omega, dqC] at h
      have:=zo9 (i:=i+1) h (by omega)
      cases x with
      | d a=>exact this
      | box ty' cs' =>
        simp only[zdD,dqK,List.map_append,dqq,dqg]
        exact .inr (.inr this)
theorem zpa {w : World} : ∀ {xs : List XA} {i t : Nat} {ty : Nat} {cs : List XC} {vs : List Value} {v : Value}, xs[t - i]? = some (.box ty cs) → vs[t - i]? = some v → i ≤ t → (t, v) ∈ zkZ w i xs vs
  | [],i,t,ty,cs,vs,v,h,_,_=>by simp at h
  | _ :: _,i,t,ty,cs,[],v,_,h,_=>by simp at h
  | x :: xs,i,t,ty,cs,u :: vs,v,h,h2,hi=>by
    by_cases e:t=i
    · subst e
      simp at h h2;subst h h2
      simp[zkZ]
    · rw [show t - i = (t - (i + 1)) + 1 by omega, dqC] at h h2
      have:=zpa (w:=w) (i:=i+1) h h2 (by omega)
      cases x with
      | d a=>exact this
      | box ty' cs' =>
        simp only[zkZ,dqq,dqg]
        exact .inr (.inr this)

def pinned (h:Fz) (K:List Nat) (w:World):Fz:=λ b =>
 match h b with
 | some (.inv F)=>some (.inv F)
 | some (.fz (.cells C ty fr))=>some (.fz (.cells C ty fr))
 | some (.fz (.map es c))=>some (.fz (.map es c))
 | _=>match K.contains b with
  | true=>none
  | false=>(w.heap[b]?).map .pin
theorem zk0 {h:Fz}{K:List Nat}{w:World}{b:Nat}{o:FzO}(hb:h b=some o) (ho:(∃ C ty fr,o=.fz (.cells C ty fr))\/(∃ F,o=.inv F)\/(∃ es c,o=.fz (.map es c))):pinned h K w b=some o:=by
 rcases ho with ⟨C,ty,fr,rfl⟩ | ⟨F,rfl⟩ | ⟨es,c,rfl⟩ <;> simp only[pinned,hb]
def zNY (h:Fz) (K:List Nat) (w:World) (b:Nat):Prop :=
 (∃ o, h b = some o ∧ pinned h K w b = some o ∧ ((∃ C ty fr, o = .fz (.cells C ty fr)) ∨ (∃ F, o = .inv F) ∨ (∃ es c, o = .fz (.map es c)))) ∨
  ((∀ F,h b ≠ some (.inv F))/\b∈K/\pinned h K w b=none)\/((∀ F,h b ≠ some (.inv F))/\b ∉ K/\pinned h K w b=(w.heap[b]?).map .pin)
theorem zhk {h:Fz}{K:List Nat}{w:World}{b:Nat}(hF:∀ F,h b ≠ some (.inv F)) (e:pinned h K w b=(match K.contains b with | true=>none | false=>(w.heap[b]?).map .pin)):zNY h K w b:=by
 cases hk:K.contains b with
 | true=>rw[hk] at e;exact .inr (.inl ⟨hF,by simpa using hk,e⟩)
 | false=>rw[hk] at e;exact .inr (.inr ⟨hF,by simpa using hk,e⟩)
theorem zce {h:Fz}{K:List Nat}{w:World}(b:Nat):zNY h K w b:=by
 cases hb:h b with
 | none=>exact zhk (λ F e=>by rw[hb] at e;cases e) (by simp only[pinned,hb])
 | some o =>
  cases o with
  | inv F=>exact .inl ⟨_,hb,by simp only[pinned,hb],.inr (.inl ⟨F,rfl⟩)⟩
  | pin o=>exact zhk (λ F e=>by rw[hb] at e;cases e) (by simp only[pinned,hb])
  | fz o =>
   cases o with
   | cells C ty fr=>exact .inl ⟨_,hb,by simp only[pinned,hb],.inl ⟨C,ty,fr,rfl⟩⟩
   | map es c=>exact .inl ⟨_,hb,by simp only[pinned,hb],.inr (.inr ⟨es,c,rfl⟩)⟩
   | _=>exact zhk (λ F e=>by rw[hb] at e;cases e) (by simp only[pinned,hb])
theorem zit {h:Fz}{K:List Nat}{w:World}{p:PV}{x:Value}(hr:Rep h p x):Rep (pinned h K w) p x:=hr.mono' λ _ _ hb ho=>zk0 hb ho
theorem zwI {h:Fz}{K:List Nat}{w:World}(H:Hw h w):Hw (pinned h K w) w:=by
 intro b x hb
 rcases zce (h:=h) (K:=K) (w:=w) b with ⟨o,h1,h2,_⟩ | ⟨_,_,h2⟩ | ⟨_,_,h2⟩
 ·rw[h2] at hb;simp only[dqa] at hb;subst hb;exact H b _ h1
 ·rw[h2] at hb;cases hb
 ·rw [h2] at hb
  obtain⟨o,ho,rfl⟩:=dqv.1 hb
  exact⟨o,ho,rfl⟩

theorem zwJ {h:Fz}{K:List Nat}{w:World}(H:zeu h):zeu (pinned h K w):=λ k l hk=>by
 obtain⟨C,ty,fr,h1,h2⟩:=H k l hk
 exact⟨C,ty,fr,zk0 h1 (.inl ⟨_,_,_,rfl⟩),h2.mono λ _ _ r=>zit r⟩
theorem ziu {h h':Fz}(hle:∀ p x,Rep h p x->Rep h' p x){a:PA}{v:Value}(hr:paR h a v):paR h' a v:=by
 cases a with
 | one p=>exact hle _ _ hr
 | agg cs=>obtain⟨vs,rfl,hr⟩:=hr;exact⟨vs,rfl,hr.mono hle⟩
theorem zB3 {h h':Fz}(hle:∀ p x,Rep h p x->Rep h' p x){rs:List PA}{v:Value}(hr:zok h rs v):zok h' rs v:=by
 match rs,hr with
 | [],⟨vs,e,r⟩=>exact⟨vs,e,r.mono λ _ _=>ziu hle⟩
 | [x],hr=>exact ziu hle hr
 | x :: y :: l,⟨vs,e,r⟩=>exact⟨vs,e,r.mono λ _ _=>ziu hle⟩
theorem zFh {h h':Fz}{w:World}{B:Nat}(hle:∀ p x,Rep h p x->Rep h' p x){c:XC}{v:Value}(hr:xcR P h w B c v):xcR P h' w B c v:=by
 cases c with
 | p v=>exact hle _ _ hr
 | vec e s b n get=>obtain⟨h1,h2,h3,xs,h4,h5⟩:=hr;exact⟨h1,h2,h3,xs,h4,λ q hq=>(h5 q hq).mono hle⟩
 | mo kt vt q n F=>exact hr
theorem zFi {h h':Fz}{w:World}{B:Nat}(hle:∀ p x,Rep h p x->Rep h' p x){c:XA}{v:Value}(hr:xaR P h w B c v):xaR P h' w B c v:=by
 cases c with
 | d a=>exact ziu hle hr
 | box ty cs=>obtain⟨k,C,h1,h2,h3⟩:=hr;exact⟨k,C,h1,h2,h3.mono λ _ _=>zFh hle⟩

theorem zFj {nt m : Nat} {xs : List XA} {w : World} {h : Fz} {B : Nat} {vs : List Value} (hnt : nt = m) (hlen : xs.length ≤ nt) (hvs : RL (xaR P h w B) xs vs) (hn : (xsK w xs vs).Nodup)
    (hK:∀ b∈xsK w xs vs,B<=b/\h b=none) (hw:Hw h w) (hgl:zeu h) (hB:B<=w.heap.size) (hlab:((zdD 0 xs).map (·.1)).Nodup) :
    ∃ g,Sim P nt B w (pinned h (xsK w xs vs) w) g ⟨zB1 0 xs,zdD 0 xs,[]⟩ { tmps:=vs.toArray ++ Array.replicate (m - vs.toArray.size) undef,defers:=[] } w:=by
  let nv:=zkZ w 0 xs vs
  let h0:=pinned h (xsK w xs vs) w
  let g:Gh:=⟨h0,λ L=>zMg ((lk nv L).getD undef),λ L=>(lk nv L).getD undef,λ _ _=>undef⟩
  have hle:∀ p x,Rep h p x->Rep g.h p x:=λ p x hr=>zit hr
  have hkeys:nv.map (·.1)=(zdD 0 xs).map (·.1):=by
    have:∀ {xs:List XA} {i:Nat} {vs:List Value},RL (xaR P h w B) xs vs->(zkZ w i xs vs).map (·.1)=(zdD i xs).map (·.1):=by
      intro xs
      induction xs with
      | nil=>intro i vs hr;cases vs with
        | nil=>rfl
        | cons=>exact hr.elim
      | cons x xs ih =>
        intro i vs hr
        cases vs with
        | nil=>exact hr.elim
        | cons v vs =>
          cases x with
          | d a=>exact ih hr.2
          | box ty cs =>
            obtain⟨k,C,rfl,hC,hrl⟩:=hr.1
            have hv:∀ {cs:List XC} {j:Nat} {vs:List Value},RL (xcR P h w B) cs vs->(xVV i j cs vs).map (·.1)=(zfK i j cs).map (·.1):=by
              intro cs
              induction cs with
              | nil=>intro j vs hr;cases vs with
                | nil=>rfl
                | cons=>exact hr.elim
              | cons c cs ih2 =>
                intro j vs hr
                cases vs with
                | nil=>exact hr.elim
                | cons v vs=>cases c with
                  | p q=>exact ih2 hr.2
                  | vec e s b n get=>simp only[xVV,zfK,dqK];rw[ih2 hr.2]
                  | mo kt vt q n F=>simp only[xVV,zfK,dqK];rw[ih2 hr.2]
            simp only[zkZ,zdD,dqK,List.map_append,zna,hC]
            rw[hv hrl,ih hr.2]
    exact this hvs
  have hlkv:∀ x∈nv,lk nv x.1=some x.2:=λ x hx=>zks (by rw[hkeys];exact hlab) hx
  obtain⟨o1,o2,o3⟩:=zql (g:=g) (i:=0) hle hvs (λ x hx=>⟨by show (lk nv x.1).getD undef=x.2;rw[hlkv x hx];rfl,by show zMg ((lk nv x.1).getD undef)=_;rw[hlkv x hx];rfl⟩)
  have hmem:∀ L o,lk (zdD 0 xs) L=some o->(L,o)∈zdD 0 xs:=λ L o h=>zbP h
  have hl:=hvs.length
  have hblk:∀ L o b,lk (zdD 0 xs) L=some o->obk g L o b->b∈(zdD 0 xs).flatMap (λ x=>kO g x.1 x.2):=λ L o b hL hb=>dqo.2 ⟨_,hmem L o hL,zl2 (o1 _ (hmem L o hL)).1 hb⟩
  refine⟨g,Marks.nil _ _,by simp;omega,?_,λ L o hL=>(o1 _ (hmem L o hL)).2.2,?_,?_,zwI hw,λ _ _ h=>h,λ b o h=>.inl h,Bel.refl _ _ _,hB,?_,?_,?_⟩
  · intro t d ht
    obtain⟨x,hx,_,rfl⟩:=zqm xs 0 t d ht
    obtain⟨v,hv,hxv⟩:=hvs.get t x (by simpa using hx)
    have hlt:=(dqn.1 hv).1
    have:(vs.toArray ++ Array.replicate (m - vs.toArray.size) undef).getD t undef=v:=by
      rw[dql,Array.getElem?_append_left (by simpa using hlt)]
      simp[hv]
    rw[this]
    cases x with
    | d a=>exact zv6 (g:=g) (ziu hle hxv)
    | box ty cs =>
      obtain⟨k,C,rfl,hC,_⟩:=hxv
      have:=hlkv _ (zpa (w:=w) (i:=0) hx (by simpa using hv) (Nat.zero_le _))
      show Value.pointer (some ⟨k,0,none⟩)=.pointer (some ⟨zMg ((lk nv t).getD undef),0,none⟩)
      rw[show lk nv t=some (.pointer (some ⟨k,0,none⟩)) from this];rfl
  · intro L o b hL hb
    have hbK:b∈xsK w xs vs:=by rw[o2];exact hblk L o b hL hb
    refine⟨(hK b hbK).1,?_⟩
    show pinned h (xsK w xs vs) w b=none
    rcases zce (h:=h) (K:=xsK w xs vs) (w:=w) b with ⟨o,h1,_⟩ | ⟨_,_,h2⟩ | ⟨_,h2,_⟩
    · rw[(hK b hbK).2] at h1;cases h1
    · exact h2
    · exact (h2 hbK).elim
  · intro L o b L' o' hL hL' hb hb'
    rw[o2] at hn
    have:=zkq hn (L,o) (L',o') b (hmem L o hL) (hmem L' o' hL') (zl2 (o1 _ (hmem L o hL)).1 hb) (zl2 (o1 _ (hmem L' o' hL')).1 hb')
    exact congrArg Prod.fst this
  · intro t d ht L hL
    obtain⟨x,hx,_,rfl⟩:=zqm xs 0 t d ht
    cases x with
    | d a=>rw[show zaX (.one (paD a))=zbg (paD a) from rfl,zkp] at hL;simp at hL
    | box ty cs =>
      simp[zaX,zbg,zaF] at hL;subst hL
      exact zkt (zo9 (i:=0) hx (Nat.zero_le _))
  · intro L o hL M hM
    exact zkt ((o1 _ (hmem L o hL)).2.1 M hM)
  · exact zwJ hgl

theorem zk1 {nt B:Nat}{w0:World}{h0:Fz}{g:Gh}{σ:St}{a:Act}{w:World}(S:Sim P nt B w0 h0 g σ a w):∀ (rs:List ResultVar) (l:List PA) (u:Upd),zo8 P σ rs=some (l,u) ->
  ∃ (vs:List Value),zc3 (lk σ.objs) u/\(rs.mapM (resV a.tmps)).run P w=.ok vs w/\∀ (u':Upd) (h':Fz),(∀ y∈u,y∈u')->Frozen g (lk σ.objs) u' h'->RL (paR h') l vs
 | [],l,u,h=>by
  simp[zo8] at h;obtain⟨rfl,rfl⟩:=h
  exact⟨[],zc3.nil _,rfl,λ _ _ _ _=>trivial⟩
 | .tmp t :: r,l,u,h=>by
  simp only[zo8] at h
  split at h
  ·rename_i d hd
   split at h
   ·rename_i x u1 l2 u2 h1 h2
    simp only[dqa,dqh] at h;obtain⟨rfl,rfl⟩:=h
    obtain⟨vs,hu2,hrun,hr⟩:=zk1 S r l2 u2 h2
    refine⟨a.tmps.getD t undef :: vs,(zkf h1).append hu2,?_,λ u' h' hu F=>⟨F.repD h1 (λ y hy=>hu y (dqg.2 (.inl hy))) (S.env t d hd),hr u' h' (λ y hy=>hu y (dqg.2 (.inr hy))) F⟩⟩
    rw[List.mapM_cons]
    simp only[resV,dqd,dqe,dqb]
    rw[hrun];rfl
   ·cases h
  ·cases h
 | .cell t ty :: r,l,u,h=>by
  simp only[zo8] at h
  split at h
  ·rename_i L off ag m ht hg hs
   split at h
   ·rename_i ty' cells hL
    split at h
    ·rename_i d hd
     split at h
     ·rename_i x u1 l2 u2 h1 h2
      simp only[dqa,dqh] at h;obtain⟨rfl,rfl⟩:=h
      obtain⟨vs,hu2,hrun,hr⟩:=zk1 S r l2 u2 h2
      obtain⟨C,hC,hcr⟩:=S.obj L _ hL
      obtain⟨v,hload,hv⟩:=zmH (P:=P) hg hs hC 0 (λ j y hj=>by obtain⟨v,hv,hyv⟩:=hcr.get j y hj;exact⟨v,by simpa using hv,hyv⟩) hd
      have hp:a.tmps.getD t undef=.pointer (some ⟨g.bk L,off,none⟩):=S.env t _ ht
      rw[Nat.zero_add] at hload
      refine⟨v :: vs,(zkf h1).append hu2,?_,λ u' h' hu F=>⟨F.repD h1 (λ y hy=>hu y (dqg.2 (.inl hy))) hv,hr u' h' (λ y hy=>hu y (dqg.2 (.inr hy))) F⟩⟩
      have h1:(resV a.tmps (.cell t ty)).run P w=.ok v w:=by
       simp only[resV,dqd,hp,zmg,dqb,hload]
      rw[List.mapM_cons]
      simp only[dqd,h1,dqb]
      rw[hrun];rfl
     ·cases h
    ·cases h
   ·cases h
  ·cases h
theorem zpb {nt B : Nat} {w0 : World} {h0 : Fz} {g : Gh} {σ : St} {a : Act} {w : World} (S : Sim P nt B w0 h0 g σ a w) {fn : Func} {l : List PA} {u : Upd} (h : zo8 P σ fn.results.toList = some (l, u)) :
  ∃ (v:Value),zc3 (lk σ.objs) u/\(results fn a.tmps).run P w=.ok v w/\∀ (h':Fz),Frozen g (lk σ.objs) u h'->zok h' l v:=by
 obtain⟨vs,hu,hrun,hr⟩:=zk1 S fn.results.toList l u h
 refine⟨if h:vs.toArray.size=1 then vs.toArray[0] else .tuple vs.toArray,hu,?_,λ h' F=>?_⟩
 ·have e : results fn a.tmps = (do let vs ← fn.results.mapM (resV a.tmps); pure (if h : vs.size = 1 then vs[0] else .tuple vs)) := rfl
  rw[e,Array.mapM_eq_mapM_toList]
  simp only[dqd,Sem.run_map]
  rw[hrun]
  simp only[dqb,dqe]
 ·have hrl := hr u h' (fun y hy => hy) F
  match l,vs,hrl with
  | [],[],_=>exact⟨[],rfl,trivial⟩
  | [x],[v],hrl=>exact hrl.1
  | x :: y :: l,v :: v2 :: vs,hrl =>
   refine⟨v :: v2 :: vs,?_,hrl⟩
   rw[dif_neg (by simp)]
  | [],_ :: _,hrl=>exact hrl.elim
  | [_],[],hrl=>exact hrl.elim
  | [_],_ :: _ :: _,hrl=>exact hrl.2.elim
  | _ :: _ :: _,[],hrl=>exact hrl.elim
  | _ :: _ :: _,[_],hrl=>exact hrl.2.elim

theorem zwK {nt B : Nat} {w0 : World} {h0 : Fz} {g : Gh} {σ : St} {a : Act} {w w1 : World} {h : Fz} (S : Sim P nt B w0 h0 g σ a w) (hle : ∀ p x, Rep h p x → Rep g.h p x) :
  ∀ {xs ys:List XA} {ls:List Nat} {i:Nat} {vs:List Value},zFg (lk σ.objs) σ.env i xs=some (ys,ls)->RL (xaR P h w1 B) xs vs->(∀ t v,vs[t]? = some v->i+t∈zJI i xs->a.tmps.getD (i+t) undef=v) ->
  RL (xaR P g.h w B) ys vs/\xsK w ys vs=ls.flatMap (kB g (lk σ.objs))/\∀ L∈ls,isB (lk σ.objs) L
 | [],ys,ls,i,[],h1,_,_=>by
  simp only[zFg,dqa,dqh] at h1;obtain⟨rfl,rfl⟩:=h1
  exact⟨trivial,rfl,λ L hL=>by simp at hL⟩
 | [],_,_,_,_ :: _,_,hr,_=>hr.elim
 | _ :: _,_,_,_,[],_,hr,_=>hr.elim
 | .d p :: xs,ys,ls,i,v :: vs,h1,hr,ht=>by
  simp only[zFg] at h1
  split at h1
  ·rename_i ys' ls' h2
   simp only[dqa,dqh] at h1;obtain⟨rfl,rfl⟩:=h1
   obtain⟨i1,i2,i3⟩:=zwK S hle h2 hr.2 (λ t u hu hb=>by
    have:=ht (t+1) u (by simpa using hu) (by rw[show i+(t+1)=i+1+t by omega];exact hb)
    rw[show i+1+t=i+(t+1) by omega];exact this)
   exact⟨⟨ziu hle hr.1,i1⟩,by simp only[xsK,xaK,List.nil_append];exact i2,i3⟩
  ·cases h1
 | .box ty cs :: xs,ys,ls,i,v :: vs,h1,hr,ht=>by
  simp only[zFg] at h1
  split at h1
  ·rename_i L ys' ls' hL h2
   split at h1
   ·rename_i y l ms hy
    simp only[dqa,dqh] at h1;obtain⟨rfl,rfl⟩:=h1
    obtain⟨i1,i2,i3⟩:=zwK S hle h2 hr.2 (λ t u hu hb=>by
     have:=ht (t+1) u (by simpa using hu) (by rw[show i+(t+1)=i+1+t by omega];exact dqf _ hb)
     rw[show i+1+t=i+(t+1) by omega];exact this)
    have hv:a.tmps.getD i undef=v:=ht 0 v rfl (by simp[zJI])
    obtain⟨j1,j2,j3⟩:=zDx S hy (S.env i _ hL)
    rw[hv] at j1 j2
    exact⟨⟨j1,i1⟩,by simp only[xsK,i2,j2,List.flatMap_append],λ M hM=>(dqg.1 hM).elim (j3 M) (i3 M)⟩
   ·cases h1
  ·cases h1

def zwL (P:Program) (h:Fz) (base:Nat) (w:World) (xs:List XA) (vs:List Value) (K:List PA->List XA->Prop) (e:Ending) (w':World):Prop :=
 ∃ (h':Fz) (v:Value) (rs:List PA) (ys:List XA),K rs ys/\e=.returned v/\zok h' rs v/\RL (xaR P h' w' base) ys vs/\(xsK w' ys vs).Nodup /\
   (∀ b∈xsK w' ys vs,(b∈xsK w xs vs\/w.heap.size<=b)/\h' b=none)/\Fle h h'/\Hw h' w'/\(∀ b o,h' b=some o->h b=some o\/w.heap.size<=b\/b∈xsK w xs vs)/\BelX h (xsK w xs vs) w w'
theorem zwM {G : Ctrs} (hok : OkAll P G) {f : FuncId} {ann : Ann} {xs : List XA} {K : List PA → List XA → Prop} {w : World} {h : Fz} {base : Nat} {vs : List Value} (hv : zkY P G ann f xs K) (hvs : RL (xaR P h w base) xs vs)
    (hn:(xsK w xs vs).Nodup) (hK:∀ b∈xsK w xs vs,base<=b/\h b=none) (hw:Hw h w) (hgl:zeu h) (hB:base<=w.heap.size) :
    Calls P f vs.toArray w (zwL P h base w xs vs K):=by
  unfold zkY at hv
  split at hv
  · rename_i fn hfn
    split at hv
    · rename_i c hbody
      split at hv
      · rename_i hc
        simp only[dqm,Nat.ble_eq] at hc
        obtain⟨⟨⟨hnt,hlen⟩,hlab⟩,hdisj⟩:=hc
        obtain⟨g0,S⟩:=zFj (P:=P) (dqc hnt) hlen hvs hn hK hw hgl hB (zeE hlab)
        have hwp:=zdW (B:=base) (w0:=w) hok ann c none 0 (pinned h (xsK w xs vs) w) (zhN c) _ (zlE P fn xs K) _ _ _ _ (λ _ h=>h) (Rnd.none _) hv S (Kp.refl _ _)
        refine (callsIn_wide (n:=0)).1 ?_
        refine callsIn_of_wp_marks (F:=FR none) hfn hbody trivial (wpIn_mono hwp ?_)
        have h0b:∀ b,pinned h (xsK w xs vs) w b=some (.fz (.deferred (some [])))->b < base:=λ b hb=>by
          rcases zce (h:=h) (K:=xsK w xs vs) (w:=w) b with ⟨o,h1,h2,h3⟩ | ⟨_,_,h2⟩ | ⟨_,_,h2⟩
          · rw [h2] at hb; simp only [dqa] at hb; subst hb
            rcases h3 with ⟨C,ty,fr,e⟩ | ⟨F,e⟩ | ⟨es,c,e⟩ <;> cases e
          · rw[h2] at hb;cases hb
          · rw [h2] at hb
            obtain⟨o,_,e⟩:=dqv.1 hb
            cases e
        rintro e a' w' ⟨g',σ',hK',S',hkp⟩
        have fin:zEU P fn xs K σ'->LeavesInM (FR none) 0 P fn a'.tmps (zwL P h base w xs vs K) a'.defers .returning w':=by
          intro hf
          obtain⟨Ds,h1,h2,h3,h4⟩:=S'.dfr
          refine zkW h0b Ds g' a' w' h1 h2 h3 h4 S' λ g2 a2 w2 ht S2=>?_
          unfold zEU at hf
          split at hf
          · rename_i l u hl
            split at hf
            · rename_i ys ls ho
              split at hf
              · rename_i hnl
                obtain⟨v,hu,hrun,hres⟩:=zpb S2 hl
                obtain⟨h3',S3,F⟩:=S2.freeze hu
                have hle3:∀ p x,Rep h p x->Rep h3' p x:=λ p x hr=>(zit (K:=xsK w xs vs) (w:=w) hr).mono S3.le0
                obtain⟨o1,o2,o3⟩:=zwK S3 (w1:=w) hle3 ho hvs (λ t u hu hb=>by
                  rw[Nat.zero_add] at hb ⊢
                  rw[ht,hkp.1 t (λ hd=>by
                    have:=List.all_eq_true.1 hdisj t hb
                    simp at this;exact this hd)]
                  have hlt:=(dqn.1 hu).1
                  rw[dql,Array.getElem?_append_left (by simpa using hlt)]
                  simp[hu])
                let h':Fz:=λ b=>match h3' b with | some (.pin _)=>h b | x=>x
                have hnp:∀ b o,h3' b=some o->(∀ x,o ≠ .pin x)->h' b=some o:=λ b o hb hx=>by
                  show (match h3' b with | some (.pin _)=>h b | x=>x)=some o
                  rw[hb]
                  cases o with
                  | pin x=>exact (hx x rfl).elim
                  | _=>rfl
                have hpn:∀ b x,h3' b=some (.pin x)->h' b=h b:=λ b x hb=>by
                  show (match h3' b with | some (.pin _)=>h b | x=>x)=h b
                  rw[hb]
                have hnn:∀ b,h3' b=none->h' b=none:=λ b hb=>by
                  show (match h3' b with | some (.pin _)=>h b | x=>x)=none
                  rw[hb]
                have hrep:∀ p x,Rep h3' p x->Rep h' p x:=λ p x hr=>hr.mono' λ b o hb ho=>hnp b o hb λ x e=>by
                  subst e;rcases ho with ⟨C,ty,fr,e⟩ | ⟨F,e⟩ | ⟨es,c,e⟩ <;> cases e
                have hpin:∀ b y,pinned h (xsK w xs vs) w b=some y->h3' b=some y:=λ b y hb=>S3.le0 b y hb
                have hlt:∀ b,b < w.heap.size->∃ o,w.heap[b]? = some o:=λ b hb=>⟨_,Array.getElem?_eq_getElem hb⟩
                have hnd:=zeE hnl
                refine⟨v,hrun,h',v,l,ys,hf,rfl,zB3 hrep (hres h3' F),o1.mono λ _ _=>zFi hrep,by rw[o2];exact zkr S3 hnd,λ b hb=>?_,λ b x hb=>?_,λ b x hb=>?_,λ b x hb=>?_,⟨S3.below.os,S3.below.tape,S3.below.output,S3.below.size,S3.below.drawn,λ k hk hkK hF=>?_⟩⟩
                · rw [o2] at hb
                  obtain⟨L,hL,hb⟩:=dqo.1 hb
                  unfold kB at hb
                  split at hb
                  · rename_i o' ho'
                    have hob:base<=b/\h3' b=none:=S3.own L o' b ho' (zs7 hb)
                    refine⟨?_,hnn b hob.2⟩
                    by_cases hbs:b < w.heap.size
                    · refine .inl ?_
                      rcases zce (h:=h) (K:=xsK w xs vs) (w:=w) b with ⟨o,_,h2,_⟩ | ⟨_,h2,_⟩ | ⟨_,_,h2⟩
                      · have:=hpin b _ h2;rw[hob.2] at this;cases this
                      · exact h2
                      · obtain ⟨o, ho⟩ := hlt b hbs
                        rw[ho] at h2
                        have:=hpin b _ h2;rw[hob.2] at this;cases this
                    · exact .inr (by omega)
                  · simp at hb
                · rcases zce (h := h) (K := xsK w xs vs) (w := w) b with ⟨o, h1, h2, h3⟩ | ⟨_, h2, _⟩ | ⟨_, _, h2⟩
                  · rw [h1] at hb; simp only [dqa] at hb; subst hb
                    exact hnp b _ (hpin b _ h2) λ x e=>by subst e;rcases h3 with ⟨C,ty,fr,e⟩ | ⟨F,e⟩ | ⟨es,c,e⟩ <;> cases e
                  · rw[(hK b h2).2] at hb;cases hb
                  · obtain ⟨o, ho⟩ := hlt b (hw.lt hb)
                    rw[ho] at h2
                    rw[hpn b _ (hpin b _ h2)];exact hb
                · cases h3b:h3' b with
                  | none=>rw[hnn b h3b] at hb;cases hb
                  | some y =>
                    by_cases hy:∃ o,y=.pin o
                    · obtain ⟨o, rfl⟩ := hy
                      rw[hpn b _ h3b] at hb
                      rcases zce (h:=h) (K:=xsK w xs vs) (w:=w) b with ⟨o',h1,h2,h3⟩ | ⟨_,h2,_⟩ | ⟨_,_,h2⟩
                      · have := hpin b _ h2
                        rw[h3b] at this;simp only[dqa] at this;subst this
                        rcases h3 with ⟨C,ty,fr,e⟩ | ⟨F,e⟩ | ⟨es,c,e⟩ <;> cases e
                      · rw[(hK b h2).2] at hb;cases hb
                      · obtain ⟨o1, ho1, hx1⟩ := hw b x hb
                        rw[ho1] at h2
                        have:=hpin b _ h2
                        rw[h3b] at this;simp only[dqa,FzO.pin.injEq] at this;subst this
                        obtain⟨o2,ho2,hx2⟩:=S3.hw b _ h3b
                        simp only[FzO.ok] at hx2;subst hx2
                        exact⟨_,ho2,hx1⟩
                    · rw [hnp b y h3b fun x e => hy ⟨x, e⟩] at hb
                      simp only[dqa] at hb;subst hb
                      exact S3.hw b _ h3b
                · cases h3b:h3' b with
                  | none=>rw[hnn b h3b] at hb;cases hb
                  | some y =>
                    by_cases hy:∃ o,y=.pin o
                    · obtain ⟨o, rfl⟩ := hy
                      rw[hpn b _ h3b] at hb
                      exact .inl hb
                    · rw [hnp b y h3b fun x e => hy ⟨x, e⟩] at hb
                      simp only[dqa] at hb;subst hb
                      by_cases hbs:b < w.heap.size
                      · rcases zce (h := h) (K := xsK w xs vs) (w := w) b with ⟨o', h1, h2, h3⟩ | ⟨_, h2, _⟩ | ⟨_, _, h2⟩
                        · have := hpin b _ h2
                          rw[h3b] at this;simp only[dqa] at this;subst this
                          exact .inl h1
                        · exact .inr (.inr h2)
                        · obtain ⟨o, ho⟩ := hlt b hbs
                          rw[ho] at h2
                          have:=hpin b _ h2
                          rw[h3b] at this;simp only[dqa] at this
                          exact (hy ⟨_,this⟩).elim
                      · exact .inr (.inl (by omega))
                · rcases zce (h := h) (K := xsK w xs vs) (w := w) k with ⟨o', h1, h2, h3⟩ | ⟨_, h2, _⟩ | ⟨_, _, h2⟩
                  · rcases h3 with ⟨C, ty, fr, rfl⟩ | ⟨F, rfl⟩ | ⟨es, c, rfl⟩
                    · rw[S3.hw.fz (hpin k _ h2),hw.fz h1]
                    · exact (hF F h1).elim
                    · rw[S3.hw.fz (hpin k _ h2),hw.fz h1]
                  · exact (hkK h2).elim
                  · obtain ⟨o, ho⟩ := hlt k hk
                    rw[ho] at h2 ⊢
                    obtain⟨o2,ho2,hx2⟩:=S3.hw k _ (hpin k _ h2)
                    simp only[FzO.ok] at hx2;subst hx2
                    exact ho2
              · exact hf.elim
            · exact hf.elim
          · exact hf.elim
        cases e with
        | normal=>exact fin hK'
        | ret=>exact fin hK'
        | exit id=>exact hK'.elim
        | goto l=>exact hK'.elim
        | panic ch=>exact hK'.elim
        | outgrown=>exact hK'.elim
      · exact hv.elim
    · exact hv.elim
  · exact hv.elim
theorem zwN {G : Ctrs} (hok : OkAll P G) {f : FuncId} {C : MK} (hc : zav P f)
    (h:∀ xs safe rs ys,C xs=some (safe,rs,ys)->safe->∀ K:List PA->List XA->Prop,K rs ys->∃ memo vv ann,zkY P { G with memo:=memo,vv:=vv } ann f xs K):zjL P f C:=by
  intro xs ys safe rs hC hs w h0 base vs hvs hn hK hw hgl hB
  obtain⟨memo,vv,ann,hv⟩:=h xs safe rs ys hC hs (λ l zs=>l=rs/\zs=ys) ⟨rfl,rfl⟩
  refine⟨hc,(zwM (G:={ G with memo:=memo,vv:=vv }) ⟨hok.mt,hok.fn,hok.own,hok.it⟩ hv hvs hn hK hw hgl hB).mono ?_⟩
  rintro e w' ⟨h',v,rs',ys',⟨rfl,rfl⟩,r⟩
  exact⟨h',v,r⟩
end
end Go.Pm
