/- Part 3 of what the proof rests on: a machine that runs functions of the program on pure values, proved sound; the functions that the law reaches, and what they compute. -/
import Derived.Test.YtldchibepobgnaaDoorQ2
import Derived.Scope
import Derived.OrdersIn
import Derived.RangeFuncNested
import Derived.Maps.RangeRun
set_option linter.all false
namespace Go.Pm
open Go.RowKit (Below)

theorem zeB {α : Type} {f : α → α} {l : List (Nat × α)} : ∀ {ks : List Nat} {t : Nat} {x : α}, lk (zlL f l ks) t = some x → ∃ y, lk l t = some y ∧ x = f y ∧ t ∈ ks
  | [],t,x,h=>by simp[zlL,lk] at h
  | k :: ks,t,x,h=>by
    simp only[zlL] at h
    split at h
    · rename_i d hd
      rw[zaB] at h
      split at h
      · rename_i e
        simp only[dqa] at h
        subst e
        exact⟨d,hd,h.symm,dqj⟩
      · obtain⟨y,h1,h2,h3⟩:=zeB h;exact⟨y,h1,h2,dqf _ h3⟩
    · obtain⟨y,h1,h2,h3⟩:=zeB h;exact⟨y,h1,h2,dqf _ h3⟩

theorem zfK {α : Type} {f : α → α} {l : List (Nat × α)} : ∀ {ks : List Nat} {t : Nat} {y : α}, lk l t = some y → t ∈ ks → lk (zlL f l ks) t = some (f y)
  | [],t,y,_,ht=>by simp at ht
  | k :: ks,t,y,h,ht=>by
    simp only[zlL]
    by_cases hk:k=t
    · subst hk;rw[h];rw[zaB,if_pos rfl]
    · have ht' : t ∈ ks := by rcases dqq.1 ht with h | h; · exact absurd h.symm hk
                              · exact h
      split
      · rw[zaB,if_neg hk];exact zfK h ht'
      · exact zfK h ht'

section
variable {P:Program}{Γ:Ctrs}{nt B:Nat}{w0:World}{h0:Fz}{g:Gh}{σ:St}{a:Act}{w:World}{r:Option Nat}{n i:Nat}{Q:Exit->Act->World->Prop}

theorem zry {c:Cl}{x:Value}(h:clR g c x):clR g (zgZ c) x:=by
 cases c <;> exact h
theorem zj5 : ∀ {cs : List Cl} {vs : List Value}, RL (clR g) cs vs → RL (clR g) (cs.map zgZ) vs
  | [],[],_=>trivial
  | [],_ :: _,h=>h.elim
  | _ :: _,[],h=>h.elim
  | _ :: _,_ :: _,h=>⟨zry h.1,zj5 h.2⟩
theorem zoo {d:D1}{x:Value}(h:d1R g d x):d1R g (zjn d) x:=by
 cases d with
 | c y=>exact zry h
 | agg cs=>obtain⟨vs,rfl,hr⟩:=h;exact⟨vs,rfl,zj5 hr⟩
theorem zmE : ∀ {cs : List D1} {vs : List Value}, RL (d1R g) cs vs → RL (d1R g) (cs.map zjn) vs
  | [],[],_=>trivial
  | [],_ :: _,h=>h.elim
  | _ :: _,[],h=>h.elim
  | _ :: _,_ :: _,h=>⟨zoo h.1,zmE h.2⟩
theorem zFp {d:DV}{x:Value}(h:dvR g d x):dvR g (zwO d) x:=by
 cases d with
 | one y=>exact zoo h
 | tup ds=>obtain⟨vs,rfl,hr⟩:=h;exact⟨vs,rfl,zmE hr⟩
theorem zmF {c:Cl} : ∀ M∈zaN (zgZ c),M∈zaN c:=by
 cases c <;> first | exact λ _ h=>h | (intro M h;simp[zgZ,zaN] at h)
theorem zmG {cs:List Cl} : ∀ M∈(cs.map zgZ).flatMap zaN,M∈cs.flatMap zaN:=by
 intro M hM
 simp only[dqo,dqz] at hM ⊢
 obtain⟨_,⟨c,hc,rfl⟩,hM⟩:=hM
 exact⟨c,hc,zmF M hM⟩
theorem zln {d:D1} : ∀ M∈zb3 (zjn d),M∈zb3 d:=by
 cases d with
 | c y=>exact zmF
 | agg cs=>exact zmG
theorem zy9 {d:DV} : ∀ M∈zby (zwO d),M∈zby d:=by
 cases d with
 | one y=>exact zln
 | tup ds =>
  intro M hM
  simp only[zwO,zby,dqo,dqz] at hM ⊢
  obtain⟨_,⟨d,hd,rfl⟩,hM⟩:=hM
  exact⟨d,hd,zln M hM⟩
theorem zt2 {o:AO} : ∀ M∈zcl (zoZ o),M∈zcl o:=by
 cases o with
 | box ty cs=>exact zmG
 | _=>exact λ _ h=>h
theorem zAv {B L:Nat}{o:AO}(h:aoR P g w B L o):aoR P g w B L (zoZ o):=by
 cases o with
 | box ty cs=>obtain⟨C,hC,hr⟩:=h;exact⟨C,hC,zj5 hr⟩
 | _=>exact h
theorem zmH {L:Nat}{o:AO} : obk g L (zoZ o)=obk g L o:=by cases o <;> rfl

theorem Sim.env' (S : Sim P nt B w0 h0 g σ a w) {t : Nat} {d : DV} (hv : dvR g d (a.tmps.getD t undef)) (hl : ∀ L ∈ zby d, ∃ o, lk σ.objs L = some o) :
  Sim P nt B w0 h0 g { σ with env:=(t,d) :: σ.env } a w:=by
 refine⟨S.dfr,S.size,?_,S.obj,S.own,S.sep,S.hw,S.le0,S.hn,S.below,S.bs,?_,S.clO,S.gl⟩
 ·intro u e hu
  simp only[zaB] at hu
  split at hu
  ·rename_i h;simp only[dqa] at hu;subst hu;rw[<- h];exact hv
  ·exact S.env u e hu
 ·intro u e hu
  simp only[zaB] at hu
  split at hu
  ·simp only[dqa] at hu;subst hu;exact hl
  ·exact S.clE u e hu

theorem Sim.coerce (S : Sim P nt B w0 h0 g σ a w) {L e : Nat} {ie : TypeInfo} {z : List Cl} (get : Nat → List PV) (hL : lk σ.objs L = none) (hi : P.info? e = some ie) (hz : zec P e = some z) (hp : 0 < ie.size) :
  Sim P nt B w0 h0 (g.setSv L (.slice none 0 0)) { σ with objs:=(L,.vec e ie.size ie.bytes 0 get) :: σ.objs } a w:=by
 obtain⟨zv,hzv,hzs⟩:=zc5 hz hi
 refine S.newVec hL (.refl B w) (λ _ _=>rfl) (λ b hb=>by simp[Value.ownBlock] at hb) ⟨hp,⟨ie,zv,hi,rfl,rfl,hzv,hzs⟩,[],?_,λ k hk=>absurd hk (by omega)⟩
 rw[show (g.setSv L (.slice none 0 0)).sv L=.slice none 0 0 by simp[Gh.setSv]]
 exact World.ownsRow_nil w B e ie.size

theorem zhR {h:Fz}{v:Value}(hr:Rep h .nils v):v=.slice none 0 0:=by cases hr;rfl

theorem zgq : ∀ (l : List (Nat × Nat × Nat × (Nat → List PV))) (σ σ' : St) (g : Gh), zfm P l σ = some σ' → Sim P nt B w0 h0 g σ a w → ∃ g', Sim P nt B w0 h0 g' σ' a w
  | [],σ,σ',g,h,S=>by simp[zfm] at h;subst h;exact⟨g,S⟩
  | (t,L,e,get) :: l,σ,σ',g,h,S=>by
    simp only[zfm] at h
    split at h
    · rename_i ht
      split at h
      · rename_i ie z hL hi hz
        split at h
        · rename_i hp
          have S1:=S.coerce get hL hi hz (Nat.lt_of_succ_le (Nat.le_of_ble_eq_true hp))
          have hv:a.tmps.getD t undef=.slice none 0 0:=zhR (S.env t _ ht)
          have S2:=S1.env' (t:=t) (d:=.cl (.vec L)) (by rw[hv];simp[dvR,d1R,clR,Gh.setSv,Value.oneCell']) (λ M hM=>by simp[zby,zb3,zaN] at hM;subst hM;exact⟨_,by rw[zaB,if_pos rfl]⟩)
          exact zgq l _ σ' _ h S2
        · cases h
      · cases h
    · exact zgq l σ σ' g h S
    · cases h

theorem zgr : ∀ (l : List (Nat × Nat × Nat × Nat × (Nat → List PV))) (σ σ' : St) (g : Gh), zfn P l σ = some σ' → Sim P nt B w0 h0 g σ a w → ∃ g', Sim P nt B w0 h0 g' σ' a w
  | [],σ,σ',g,h,S=>by simp[zfn] at h;subst h;exact⟨g,S⟩
  | (bx,k,L,e,get) :: l,σ,σ',g,h,S=>by
    simp only[zfn] at h
    split at h
    · rename_i ty cs hbx
      split at h
      · rename_i hk
        split at h
        · rename_i ie z hL hi hz
          split at h
          · rename_i hp
            have S1:=S.coerce get hL hi hz (Nat.lt_of_succ_le (Nat.le_of_ble_eq_true hp))
            have hne:L ≠ bx:=λ e=>by subst e;rw[hL] at hbx;cases hbx
            have hbx1:lk ({ σ with objs:=(L,AO.vec e ie.size ie.bytes 0 get) :: σ.objs } : St).objs bx=some (.box ty cs):=by
              show lk ((L,AO.vec e ie.size ie.bytes 0 get) :: σ.objs) bx=_
              rw[zaB,if_neg hne];exact hbx
            obtain⟨C,hC,hr⟩:=S1.obj bx _ hbx1
            obtain⟨v,hv,hkv⟩:=hr.get k _ hk
            have hv0:v=.slice none 0 0:=zhR hkv
            subst hv0
            have hCset:C.toList.set k (.slice none 0 0)=C.toList:=by
              apply List.ext_getElem?
              intro j
              by_cases hj:j=k
              · subst hj
                have hlt:=(dqn.1 hv).1
                rw[List.getElem?_set_self hlt,hv]
              · rw[List.getElem?_set_ne (λ e=>hj e.symm)]
            have S2 := S1.write (o' := .box ty (cs.set k (.vec L))) (w' := w) hbx1 (fun b hb => hb) (.refl B w) (fun _ _ => rfl)
              ⟨C,hC,by rw[<- hCset];exact hr.set k (by simp[clR,Gh.setSv,Value.oneCell'])⟩
              (λ M hM=>by
                simp only[zcl,dqo] at hM
                obtain⟨c,hc,hM⟩:=hM
                rcases List.mem_or_eq_of_mem_set hc with h | h
                · exact S1.clO bx _ hbx1 M (dqo.2 ⟨c,h,hM⟩)
                · subst h;simp[zaN] at hM;subst hM;exact⟨_,by rw[zaB,if_pos rfl]⟩)
            exact zgr l _ σ' _ h S2
          · cases h
        · cases h
      · exact zgr l σ σ' g h S
      · cases h
    · cases h

theorem Sim.adopt0 (S : Sim P nt B w0 h0 g σ a w) {t : Nat} {o' : AO} {g' : Gh} (ht : lk σ.objs t = none) (hh : g'.h = g.h) (hs : ∀ M, M ≠ t → zdJ g g' M)
    (hv:∀ k,¬ obk g' t o' k) (hr:aoR P g' w B t o') (hlab:zcl o'=[]):Sim P nt B w0 h0 g' { σ with objs:=(t,o') :: σ.objs } a w:=by
  have hne:∀ L o,lk σ.objs L=some o->L ≠ t:=λ L o h e=>by subst e;rw[ht] at h;cases h
  have hsame:∀ L o,lk σ.objs L=some o->zdJ g g' L:=λ L o h=>hs L (hne L o h)
  have hle:Fle g.h g'.h:=by rw[hh];exact λ _ _ h=>h
  have hlk:∀ L o,lk ((t,o') :: σ.objs) L=some o->(L=t/\o=o')\/(L ≠ t/\lk σ.objs L=some o):=by
    intro L o h
    rw[zaB] at h
    split at h
    · rename_i e;simp only[dqa] at h;exact .inl ⟨e.symm,h.symm⟩
    · rename_i e;exact .inr ⟨λ e'=>e e'.symm,h⟩
  refine S.change (g':=g') hsame hle (by rw[hh];exact S.hw) (λ b o h=>.inl (by rw[hh] at h;exact h)) (.refl _ B w) ?_ ?_ ?_ ?_ ?_
  · intro L o ho
    rcases hlk L o ho with ⟨rfl,rfl⟩ | ⟨_,ho⟩
    · exact hr
    · exact zcQ (S.obj L o ho) (hsame L o ho) (λ M hM=>by obtain⟨o',ho'⟩:=S.clO L o ho M hM;exact hsame M o' ho') hle λ _ _=>rfl
  · intro L o k ho hk
    rcases hlk L o ho with ⟨rfl,rfl⟩ | ⟨_,ho⟩
    · exact (hv k hk).elim
    · rw[zbN (hsame L o ho)] at hk;rw[hh];exact S.own L o k ho hk
  · intro L o k L' o2 ho ho' hk hk'
    rcases hlk L o ho with ⟨rfl,rfl⟩ | ⟨_,ho2⟩ <;> rcases hlk L' o2 ho' with ⟨rfl,rfl⟩ | ⟨_,ho2'⟩
    · rfl
    · exact (hv k hk).elim
    · exact (hv k hk').elim
    · rw [zbN (hsame L o ho2)] at hk; rw [zbN (hsame L' o2 ho2')] at hk'
      exact S.sep L o k L' o2 ho2 ho2' hk hk'
  · intro L o ho
    refine⟨o,?_⟩
    rw[zaB,if_neg (λ e=>hne L o ho e.symm)];exact ho
  · intro L o ho M hM
    rcases hlk L o ho with ⟨rfl,rfl⟩ | ⟨_,ho⟩
    · rw[hlab] at hM;simp at hM
    · obtain ⟨o2, ho2⟩ := S.clO L o ho M hM
      exact⟨o2,by rw[zaB,if_neg (λ e=>hne M o2 ho2 e.symm)];exact ho2⟩

theorem zgs : ∀ (l : List (Nat × Nat × Nat × Nat × Nat × (Nat → Nat → List PV))) (σ σ' : St) (g : Gh), zfo P l σ = some σ' → Sim P nt B w0 h0 g σ a w → ∃ g', Sim P nt B w0 h0 g' σ' a w
  | [],σ,σ',g,h,S=>by simp[zfo] at h;subst h;exact⟨g,S⟩
  | (bx,k,L,te,e,get) :: l,σ,σ',g,h,S=>by
    simp only[zfo] at h
    split at h
    · rename_i ty cs hbx
      split at h
      · rename_i hk
        split at h
        · rename_i it zt hL hit hzt
          split at h
          · rename_i ie z hi hz
            split at h
            · rename_i hp
              simp only[dqm] at hp
              have hs1:=dqc hp.1
              have hpos:0 < ie.size:=Nat.lt_of_succ_le (Nat.le_of_ble_eq_true hp.2)
              obtain⟨zv,hzv,hzs⟩:=zc5 hz hi
              obtain⟨tv,htv,hts⟩:=zc5 hzt hit
              let g':=g.setVv L (.slice none 0 0) (λ _=>.slice none 0 0)
              have hsv:g'.sv L=.slice none 0 0:=by simp[g',Gh.setVv]
              have S1 := S.adopt0 (t := L) (o' := .vv te it.bytes e ie.size ie.bytes 0 (fun _ => 0) get) (g' := g') hL rfl zol
                (fun k hk => by rcases hk with hk | ⟨i, hi, _⟩
                                · rw[hsv] at hk;cases hk
                                · omega)
                ⟨hpos,⟨it,tv,hit,hs1,rfl,htv,by rw[hts,hs1]⟩,⟨ie,zv,hi,rfl,rfl,hzv,hzs⟩,by rw[hsv];exact World.ownsRow_nil w B te 1,λ i hi=>absurd hi (by omega),λ i k hi=>absurd hi (by omega)⟩ rfl
              have hne:L ≠ bx:=λ e=>by subst e;rw[hL] at hbx;cases hbx
              have hbx1:lk ({ σ with objs:=(L,AO.vv te it.bytes e ie.size ie.bytes 0 (λ _=>0) get) :: σ.objs } : St).objs bx=some (.box ty cs):=by
                show lk ((L,AO.vv te it.bytes e ie.size ie.bytes 0 (λ _=>0) get) :: σ.objs) bx=_
                rw[zaB,if_neg hne];exact hbx
              obtain⟨C,hC,hr⟩:=S1.obj bx _ hbx1
              obtain⟨v,hv,hkv⟩:=hr.get k _ hk
              have hv0:v=.slice none 0 0:=zhR hkv
              subst hv0
              have hCset:C.toList.set k (.slice none 0 0)=C.toList:=by
                apply List.ext_getElem?
                intro j
                by_cases hj:j=k
                · subst hj
                  have hlt:=(dqn.1 hv).1
                  rw[List.getElem?_set_self hlt,hv]
                · rw[List.getElem?_set_ne (λ e=>hj e.symm)]
              have S2 := S1.write (o' := .box ty (cs.set k (.vec L))) (w' := w) hbx1 (fun b hb => hb) (.refl B w) (fun _ _ => rfl)
                ⟨C,hC,by rw[<- hCset];exact hr.set k ⟨hsv.symm,rfl⟩⟩
                (λ M hM=>by
                  simp only[zcl,dqo] at hM
                  obtain⟨c,hc,hM⟩:=hM
                  rcases List.mem_or_eq_of_mem_set hc with h | h
                  · exact S1.clO bx _ hbx1 M (dqo.2 ⟨c,h,hM⟩)
                  · subst h;simp[zaN] at hM;subst hM;exact⟨_,by rw[zaB,if_pos rfl]⟩)
              exact zgs l _ σ' _ h S2
            · cases h
          · cases h
        · cases h
      · exact zgs l σ σ' g h S
      · cases h
    · cases h

theorem zmI {ob : Nat → Option AO} : ∀ {ks : List Nat} {x : Nat × AO}, x ∈ zyU ob ks → ∃ ty cells l, ob x.1 = some (.box ty cells) ∧ x.2 = .fbox l ∧ zeE ob cells = some (l, [])
  | [],x,h=>by simp[zyU] at h
  | k :: ks,x,h=>by
    simp only[zyU] at h
    split at h
    · rename_i ty cells hk
      split at h
      · rename_i l hl
        rcases dqq.1 h with rfl | h
        · exact⟨ty,cells,l,hk,rfl,hl⟩
        · exact zmI h
      · exact zmI h
    · exact zmI h
theorem zxb {ob:Nat->Option AO}{ks:List Nat} : zeq ob (zyU ob ks):=λ x hx=>by
 obtain⟨ty,cells,l,h1,h2,h3⟩:=zmI hx
 exact .inr (.inl ⟨ty,cells,l,[],h1,h2,h3,λ y hy=>by simp at hy⟩)
theorem zHs {h:Fz}{s:Nat}{gt:Nat->List PV}{v:PV}{x:Value}(r:Rep h v x):Rep h (zN s gt v) x:=by
 unfold zN
 split
 ·split
  ·have hn := zhR r
   rw[hn];exact .nsT _ _
  ·exact .nsF _ _ _ _ r
  ·exact r
 ·split
  ·have hn := zhR r
   rw[hn];exact .sl0 s gt
  ·exact r
theorem zgt : ∀ (l : List (Nat × Nat × (Nat → List PV))) (σ σ' : St) (g : Gh), zfp l σ = some σ' → Sim P nt B w0 h0 g σ a w → ∃ g', Sim P nt B w0 h0 g' σ' a w
  | [],σ,σ',g,h,S=>by simp[zfp] at h;subst h;exact⟨g,S⟩
  | (t,s,gt) :: r,σ,σ',g,h,S=>by
    unfold zfp at h
    split at h
    · rename_i x hx
      have hv:=S.env t _ hx
      split at h
      · rename_i v
        exact zgt r _ σ' g h (S.env' (t:=t) (d:=.p (zN s gt v)) (zHs hv) (λ L hL=>by simp[zby,zb3,zaN] at hL))
      · split at h
        · rename_i v u hf
          obtain⟨h',S1,F⟩:=S.freeze (ztK hf)
          have hr:=F.rep0 hf (λ y hy=>hy) hv
          exact zgt r _ σ' _ h (S1.env' (t:=t) (d:=.p (zN s gt v)) (zHs hr) (λ L hL=>by simp[zby,zb3,zaN] at hL))
        · cases h
    · cases h
theorem zrz {k:Keep}{s:St}{g:Gh}{σ:St}(h:zmm P k σ=some s) (S:Sim P nt B w0 h0 g σ a w):∃ g',Sim P nt B w0 h0 g' s a w:=by
 unfold zmm at h
 split at h
 ·cases h
 ·rename_i σ1 h1
  obtain⟨g1,S1⟩:=zgq k.coT σ σ1 g h1 S
  split at h
  ·cases h
  ·rename_i σ2 h2
   obtain⟨g2',S2'⟩:=zgr k.coB σ1 σ2 g1 h2 S1
   split at h
   ·cases h
   rename_i σ3 h3
   obtain⟨g2,S2⟩:=zgs k.coV σ2 σ3 g2' h3 S2'
   simp only[] at h
   split at h
   ·rename_i hcl
    simp only[dqa] at h
    subst h
    simp only[dqm,List.all_eq_true] at hcl
    obtain⟨hc1,hc2⟩:=hcl
    have hin:∀ {labs l:List Nat},zzx labs l=true->∀ L∈l,L∈labs:=by
     intro labs l h L hL
     have:=List.all_eq_true.1 h L hL
     simpa using this
    refine⟨g2,S2.dfr,S2.size,?_,?_,?_,?_,S2.hw,S2.le0,S2.hn,S2.below,S2.bs,?_,?_,S2.gl⟩
    ·intro t d ht
     obtain⟨y,h1,rfl,_⟩:=zeB ht
     exact zFp (S2.env t y h1)
    ·intro L o ho
     obtain⟨y,h1,rfl,_⟩:=zeB ho
     exact zAv (S2.obj L y h1)
    ·intro L o b ho hb
     obtain⟨y,h1,rfl,_⟩:=zeB ho
     rw[zmH] at hb
     exact S2.own L y b h1 hb
    ·intro L o b L' o' ho ho' hb hb'
     obtain⟨y,h1,rfl,_⟩:=zeB ho
     obtain⟨y',h1',rfl,_⟩:=zeB ho'
     rw[zmH] at hb hb'
     exact S2.sep L y b L' y' h1 h1' hb hb'
    ·intro t d ht L hL
     have hm:=hin (hc1 (t,d) (zcJ ht)) L hL
     obtain⟨y,h1,rfl,_⟩:=zeB ht
     obtain⟨o,ho⟩:=S2.clE t y h1 L (zy9 L hL)
     exact⟨_,zfK ho hm⟩
    ·intro L o ho M hM
     have hm:=hin (hc2 (L,o) (zcJ ho)) M hM
     obtain⟨y,h1,rfl,_⟩:=zeB ho
     obtain⟨o',ho'⟩:=S2.clO L y h1 M (zt2 M hM)
     exact⟨_,zfK ho' hm⟩
   ·cases h
theorem zce {k:Keep}{s:St}(h:canon P k σ=some s) (S:Sim P nt B w0 h0 g σ a w):∃ g',Sim P nt B w0 h0 g' s a w:=by
 obtain⟨h',S1,_⟩:=S.freeze (zxb (ob:=lk σ.objs) (ks:=k.coF))
 unfold canon at h
 split at h
 ·rename_i s1 h1
  obtain⟨g1,S2⟩:=zgt k.coZ (zNV k.coF σ) s1 _ h1 S1
  exact zrz h S2
 ·cases h
end
end Go.Pm
namespace Go.Pm
open Go.RowKit (Below)

section
variable {P:Program}{Γ:Ctrs}{nt B:Nat}{w0:World}{h0:Fz}{g:Gh}{σ:St}{a:Act}{w:World}{r:Option Nat}{n i:Nat}{Q:Exit->Act->World->Prop}

theorem zmJ {o:Oper}{R R':Act->World->Prop}(h:o.wpIn (FR r) n P a w R Q) (hR:∀ a w,R a w->R' a w):o.wpIn (FR r) n P a w R' Q:=by
 refine⟨h.1,?_⟩
 have h2:=h.2
 generalize (o.semAt (FR r).round a.eval).run P w=res at h2 ⊢
 match res,h2 with
 | .ok (.value v) w',h2=>exact hR _ _ h2
 | .ok .skip w',h2=>exact hR _ _ h2
 | .ok (.defer d) w',h2=>exact hR _ _ h2
 | .ok (.enter f args) w',h2 =>
  refine⟨h2.1,h2.2.mono ?_⟩
  intro e w'' he
  cases e with
  | returned v=>exact hR _ _ he
  | panicked ch=>exact he
  | outgrown=>exact he
 | .ok (.row row args) w',h2=>exact⟨h2.1,h2.2.mono λ v w'' hv=>hR _ _ hv⟩
 | .ok (.round l f tmps x y) w',h2 =>
  refine⟨h2.1,h2.2.mono ?_⟩
  intro e w'' he
  cases e with
  | returned v=>exact hR _ _ he
  | panicked ch=>exact he
  | outgrown=>exact he
 | .halt (.panic v) w',h2=>exact h2

theorem zHt {o:Oper}{R:Act->World->Prop}(h:o.wpIn (FR r) n P a w R Q):o.wpIn (FR r) n P a w (λ a' w'=>R a' w'/\∃ v ds,a'=({ a with defers:=ds } : Act).put o.dst v) Q:=by
 refine⟨h.1,?_⟩
 have h2:=h.2
 generalize (o.semAt (FR r).round a.eval).run P w=res at h2 ⊢
 match res,h2 with
 | .ok (.value v) w',h2=>exact⟨h2,v,a.defers,rfl⟩
 | .ok .skip w',h2=>exact⟨h2,undef,a.defers,rfl⟩
 | .ok (.defer d) w',h2=>exact⟨h2,undef,d :: a.defers,rfl⟩
 | .ok (.enter f args) w',h2 =>
  refine⟨h2.1,h2.2.mono ?_⟩
  intro e w'' he
  cases e with
  | returned v=>exact⟨he,v,a.defers,rfl⟩
  | panicked ch=>exact he
  | outgrown=>exact he
 | .ok (.row row args) w',h2=>exact⟨h2.1,h2.2.mono λ v w'' hv=>⟨hv,v,a.defers,rfl⟩⟩
 | .ok (.round l f tmps x y) w',h2 =>
  refine⟨h2.1,h2.2.mono ?_⟩
  intro e w'' he
  cases e with
  | returned v=>exact⟨he,v,a.defers,rfl⟩
  | panicked ch=>exact he
  | outgrown=>exact he
 | .halt (.panic v) w',h2=>exact h2

def Kp (D:List Nat) (a a':Act):Prop:=(∀ t,t ∉ D->a'.tmps.getD t undef=a.tmps.getD t undef)/\a'.tmps.size=a.tmps.size/\(rfS ∉ D->a'.defers=a.defers)
theorem Kp.refl (D:List Nat) (a:Act):Kp D a a:=⟨λ _ _=>rfl,rfl,λ _=>rfl⟩
theorem Kp.put {D:List Nat}{a0 a:Act}(h:Kp D a0 a){dst:Option Nat}(hd:∀ t,dst=some t->t∈D) (v:Value) (ds:List Deferred) (hds:ds=a.defers):Kp D a0 (({ a with defers:=ds } : Act).put dst v):=by
 subst hds
 cases dst with
 | none=>exact h
 | some t =>
  refine⟨λ u hu=>?_,by simp[Act.put,h.2.1],λ hr=>h.2.2 hr⟩
  have hne:t ≠ u:=λ e=>hu (e ▸ hd t rfl)
  rw[<- h.1 u hu]
  simp[Act.put,dql,Array.getElem?_setIfInBounds_ne hne]

theorem zg3 {ops:Array Oper}{tmps:Array Value}{j g:Nat}{b:Bool}(hg:(ops[j]?).bind (·.dst)=some g) (hv:tmps.getD g undef=.bool b):yielded ops tmps j=some b:=by
 unfold yielded
 rw[hg]
 simp only[Option.bind_some]
 rw[dql] at hv
 cases h:tmps[g]? with
 | none=>rw[h] at hv;simp[undef] at hv
 | some v=>rw[h] at hv;simp only[Option.getD_some] at hv;subst hv;rfl
theorem zgu {ops:Array Oper}{tmps:Array Value}{j g:Nat}(hg:(ops[j]?).bind (·.dst)=some g) (hv:tmps.getD g undef=undef):yielded ops tmps j=none:=by
 unfold yielded
 rw[hg]
 simp only[Option.bind_some]
 rw[dql] at hv
 cases h:tmps[g]? with
 | none=>rfl
 | some v=>rw[h] at hv;simp only[Option.getD_some] at hv;subst hv;rfl

theorem Sim.skip (S:Sim P nt B w0 h0 g σ a w){dst:Option Nat}(hd:zcp nt dst=true):Sim P nt B w0 h0 g (σ.skip dst) (a.put dst undef) w:=by
 have:=S.put (d:=.cl .undef) (v:=undef) hd rfl (λ L hL=>by simp[zby,zb3,zaN] at hL) σ.log
 cases dst <;> exact this

theorem zt3 (hok : OkAll P Γ) {ops : Array Oper} {K : St → Prop} {D : List Nat} {a0 : Act} {ad : List Deferred} (hD : ∀ (j : Nat) (o : Oper), ops[j]? = some o → ∀ t, o.dst = some t → t ∈ D)
    (hQ:∀ σ',K σ'->∀ g' a' w',Sim P nt B w0 h0 g' σ' a' w'->Kp D a0 a'->a'.defers=ad->Q .normal a' w') :
    ∀ (l:List Oper) (i:Nat) (σ:St) (g:Gh) (a:Act) (w:World),(∀ j,l[j]? = ops[i+j]?)->zgR P Γ nt ops i l K σ->Sim P nt B w0 h0 g σ a w->Kp D a0 a->a.defers=ad ->
      wpOpsIn (FR r) n P ops Q (List.range' i l.length) a w:=by
  intro l
  induction l with
  | nil=>intro i σ g a w _ h S hk had;exact hQ σ h g a w S hk had
  | cons o l ih =>
    intro i σ g a w hl h S hkp had
    have ho:ops[i]? = some o:=by have:=hl 0;simpa using this.symm
    have hl':∀ j,l[j]? = ops[i+1+j]?:=λ j=>by have:=hl (j+1);rw[dqC] at this;rw[this];congr 1;omega
    simp only[dqr,List.range'_succ,wpOpsIn,ho]
    simp only[zgR] at h
    split at h
    · exact h.elim
    · rename_i hd
      have run:∀ (σ:St),Sim P nt B w0 h0 g σ a w->zgl (act P Γ o (evO σ.env) (lk σ.objs)) (zmk σ i o) i o.dst (zgR P Γ nt ops (i+1) l K) σ->o.wpIn (FR r) n P a w (wpOpsIn (FR r) n P ops Q (List.range' (i+1) l.length)) Q:=by
        intro σ S h
        obtain⟨hs,hk⟩:=zmr.1 h
        refine zmJ (zHt (zmD (i:=i) (Q:=Q) (r:=r) (n:=n) hok S hd rfl hs)) ?_
        rintro a' w' ⟨⟨hdf,g',σ',hst,S'⟩,v,ds,rfl⟩
        exact ih (i+1) _ g' _ w' hl' (hk σ' hst) (S'.log _) (hkp.put (hD i o ho) v ds ((put_defers _ _ _).symm.trans hdf)) (hdf.trans had)
      have skp:∀ (σ:St),Sim P nt B w0 h0 g σ a w->zgR P Γ nt ops (i+1) l K (σ.skip o.dst)->wpOpsIn (FR r) n P ops Q (List.range' (i+1) l.length) (a.put o.dst undef) w:=by
        intro σ S h
        exact ih (i+1) _ g _ w hl' h (S.skip hd) (hkp.put (hD i o ho) undef a.defers rfl) ((put_defers _ _ _).trans had)
      split at h
      · rename_i hg
        rw[if_pos (by simp[Region.wanted,hg])]
        exact run σ S h
      · rename_i j want hg
        split at h
        · exact h.elim
        · rename_i gt hgt
          split at h
          · rename_i b hb
            have hv:a.tmps.getD gt undef=.bool b:=by
              have:=S.env gt _ hb
              generalize a.tmps.getD gt undef=v at this
              cases this;rfl
            have hy:=zg3 hgt hv
            have S1:∀ c,b=c->Sim P nt B w0 h0 g (σ.setT gt (.bool c)) a w:=by
              intro c hc
              refine S.env' (t:=gt) (d:=.bool c) ?_ (zdM _)
              rw[hv,hc];exact .bool c
            have h2:=zgY.1 h
            cases b with
            | true =>
              have h3:=h2.1 rfl
              cases want with
              | true=>rw[if_pos (by simp[Region.wanted,hg,hy])];exact run _ (S1 true rfl) h3
              | false=>rw[if_neg (by simp[Region.wanted,hg,hy])];exact⟨λ _ _=>trivial,skp _ (S1 true rfl) h3⟩
            | false =>
              have h3:=h2.2 rfl
              cases want with
              | true=>rw[if_neg (by simp[Region.wanted,hg,hy])];exact⟨λ _ _=>trivial,skp _ (S1 false rfl) h3⟩
              | false=>rw[if_pos (by simp[Region.wanted,hg,hy])];exact run _ (S1 false rfl) h3
          · rename_i hb
            have hv:a.tmps.getD gt undef=undef:=S.env gt _ hb
            have hy:=zgu hgt hv
            rw[if_neg (by simp[Region.wanted,hg,hy])]
            exact⟨λ _ _=>trivial,skp _ S h⟩
          · exact h.elim

theorem zt4 (hok : OkAll P Γ) {ops : Array Oper} {K : St → Prop} {D : List Nat} {a0 : Act} (hD : ∀ (j : Nat) (o : Oper), ops[j]? = some o → ∀ t, o.dst = some t → t ∈ D)
    (h:zgR P Γ nt ops 0 ops.toList K σ) (S:Sim P nt B w0 h0 g σ a w) (hkp:Kp D a0 a)
    (hQ:∀ σ',K σ'->∀ g' a' w',Sim P nt B w0 h0 g' σ' a' w'->Kp D a0 a'->a'.defers=a.defers->Q .normal a' w'):wpOpsIn (FR r) n P ops Q (List.range ops.size) a w:=by
  have:=zt3 (r:=r) (n:=n) hok hD hQ ops.toList 0 σ g a w (λ j=>by simp) h S hkp rfl
  rw[List.range_eq_range']
  simpa using this

end
end Go.Pm
namespace Go.Pm

def OpAct.fp : OpAct → List (Nat × Bool)
  | .no=>[]
  | .val fp _ _ _=>fp
  | .chk fp _ _ _ _=>fp
  | .rel fp _ _ _ _ _=>fp
  | .alt fp _ _ _ _ _ _=>fp
def OpAct.u : OpAct → List (Nat × AO)
  | .no=>[]
  | .val _ _ u _=>u
  | .chk _ _ _ u _=>u
  | .rel _ u _ _ _ _=>u
  | .alt _ u _ _ _ _ _=>u
def OpAct.kl : OpAct → List Nat
  | .no=>[]
  | .val _ _ _ k=>k
  | .chk _ _ _ _ k=>k
  | .rel _ _ _ _ _ _=>[]
  | .alt _ _ _ _ _ _ _=>[]
def OpAct.gives : OpAct → DV → Prop
  | .no,_=>False
  | .val _ d _ _,d'=>d'=d
  | .chk _ _ d _ _,d'=>d'=d
  | .rel _ _ ρ _ _ d,d'=>∃ x:ρ,d'=d x
  | .alt _ _ _ _ d1 _ d2,d'=>d'=d1\/d'=d2

def Men (o:Oper) (ev:Operand->DV) (ob:Nat->Option AO) (fp:List (Nat×Bool)) (L:Nat):Prop :=
 (∃ x∈o.op.operands.toList,L∈dvV (ev x))\/∃ y∈fp,∃ o',ob y.1=some o'/\L∈aoV o'

structure ActOk (P : Program) (Γ : Ctrs) (o : Oper) (ev : Operand → DV) (ob : Nat → Option AO) (A : OpAct) : Prop where
  wr:∀ x∈A.u,(x.1,true)∈A.fp
  kl:A.kl=[]\/∃ L,A.kl=[L]/\(L,true)∈A.fp
  labu:∀ x∈A.u,∀ L∈aoV x.2,Men o ev ob A.fp L
  labd:∀ d,A.gives d->∀ L∈dvV d,Men o ev ob A.fp L\/(L,true)∈A.fp
  congr:∀ ev' ob',(∀ x∈o.op.operands.toList,ev' x=ev x)->(∀ y∈A.fp,ob' y.1=ob y.1)->act P Γ o ev' ob'=A

section
variable {P:Program}{Γ:Ctrs}{o:Oper}{ev:Operand->DV}{ob:Nat->Option AO}{A:OpAct}

theorem ActOk.pure {fp : List (Nat × Bool)} {d : DV} (hd : ∀ L ∈ dvV d, Men o ev ob fp L ∨ (L, true) ∈ fp)
    (hc:∀ ev' ob',(∀ x∈o.op.operands.toList,ev' x=ev x)->(∀ y∈fp,ob' y.1=ob y.1)->act P Γ o ev' ob'=.val fp d [] []):ActOk P Γ o ev ob (.val fp d [] []) :=
  ⟨λ x hx=>by simp[OpAct.u] at hx,.inl rfl,λ x hx=>by simp[OpAct.u] at hx,λ d' h=>by simp only[OpAct.gives] at h;subst h;exact hd,hc⟩
theorem ActOk.pchk {fp : List (Nat × Bool)} {s : Prop} {d : DV} (hd : ∀ L ∈ dvV d, Men o ev ob fp L ∨ (L, true) ∈ fp)
    (hc:∀ ev' ob',(∀ x∈o.op.operands.toList,ev' x=ev x)->(∀ y∈fp,ob' y.1=ob y.1)->act P Γ o ev' ob'=.chk fp s d [] []):ActOk P Γ o ev ob (.chk fp s d [] []) :=
  ⟨λ x hx=>by simp[OpAct.u] at hx,.inl rfl,λ x hx=>by simp[OpAct.u] at hx,λ d' h=>by simp only[OpAct.gives] at h;subst h;exact hd,hc⟩
theorem zc7 {fp:List (Nat×Bool)}(v:PV):∀ L∈dvV (.p v),Men o ev ob fp L\/(L,true)∈fp:=λ L hL=>by simp[dvV,d1V,clV] at hL
theorem zd0 {fp:List (Nat×Bool)}{x:Operand}{d:DV}(hx:x∈o.op.operands.toList) (h:∀ L∈dvV d,L∈dvV (ev x)):∀ L∈dvV d,Men o ev ob fp L\/(L,true)∈fp :=
 λ L hL=>.inl (.inl ⟨x,hx,h L hL⟩)

theorem zt5 {c:Cl} : ∀ L∈clV c,L∈zaN c:=by cases c <;> simp[clV,zaN]

theorem zxc {ag:Bool}{m off:Nat}{cells:List Cl}{d:D1}(hr:zh7 ag m cells off=some d):∀ L∈d1V d,L∈cells.flatMap clV:=by
 cases ag with
 | true =>
  simp only[zh7] at hr
  split at hr
  ·simp only [dqa] at hr; subst hr
   intro L hL
   simp only[d1V,dqo] at hL ⊢
   obtain⟨c,hc,hL⟩:=hL
   exact⟨c,List.mem_of_mem_drop (List.mem_of_mem_take hc),hL⟩
  ·cases hr
 | false =>
  simp only[zh7] at hr
  split at hr
  ·rename_i x hx
   simp only[dqa] at hr;subst hr
   intro L hL
   simp only[d1V] at hL
   exact dqo.2 ⟨x,dqx hx,hL⟩
  ·cases hr
theorem zxd (cells:List PV):(cells.map Cl.p).flatMap clV=[]:=by
 induction cells with
 | nil=>rfl
 | cons c r ih=>simp[clV,ih]
theorem zmK {ag:Bool}{m off:Nat}{cells:List PV}{d:D1}(hr:zh7 ag m (cells.map .p) off=some d):d1V d=[]:=by
 have:=zxc hr
 rw[zxd] at this
 cases hd:d1V d with
 | nil=>rfl
 | cons x l=>have:=this x (by rw[hd];exact dqj);simp at this

theorem zop {ob':Nat->Option AO}{c:Cl}(h:∀ L∈zaN c,ob' L=ob L):zwM ob' c=zwM ob c:=by
 cases c <;> first | rfl | (simp only[zwM];rw[h _ (by simp[zaN])])
theorem zio {ob' : Nat → Option AO} : ∀ {cs : List Cl}, (∀ L ∈ cs.flatMap zaN, ob' L = ob L) → zeE ob' cs = zeE ob cs
  | [],_=>rfl
  | c :: cs,h=>by
    simp only[zeE]
    rw[zop (λ L hL=>h L (by simp[hL])),zio (λ L hL=>h L (by simp only[dqJ,dqg];exact .inr hL))]
theorem zrA {ob':Nat->Option AO}{c:Cl}(h:∀ L∈zaN c,ob' L=ob L/\∀ o',ob L=some o'->∀ M∈zcl o',ob' M=ob M):frz ob' c=frz ob c:=by
 cases c with
 | ptr L off =>
  obtain⟨h1,h2⟩:=h L (by simp[zaN])
  simp only[frz]
  rw[h1]
  cases hL:ob L with
  | none=>rfl
  | some o' =>
   cases o' with
   | box ty cells=>simp only[];rw[zio (λ M hM=>h2 _ hL M hM)]
   | _=>rfl
 | _=>exact zop λ L hL=>(h L hL).1
theorem zj6 {ob' : Nat → Option AO} : ∀ {cs : List Cl}, (∀ L ∈ cs.flatMap zaN, ob' L = ob L ∧ ∀ o', ob L = some o' → ∀ M ∈ zcl o', ob' M = ob M) → zn1 ob' cs = zn1 ob cs
  | [],_=>rfl
  | c :: cs,h=>by
    simp only[zn1]
    rw[zrA (λ L hL=>h L (by simp[hL])),zj6 (λ L hL=>h L (by simp only[dqJ,dqg];exact .inr hL))]
theorem zoq {ob':Nat->Option AO}{d:DV}(h:∀ L∈zbz ob d,ob' L=ob L):ztw ob' d=ztw ob d:=by
 have key:∀ L∈zby d,ob' L=ob L/\∀ o',ob L=some o'->∀ M∈zcl o',ob' M=ob M:=by
  intro L hL
  refine⟨h L (dqo.2 ⟨L,hL,dqj⟩),λ o' ho' M hM=>h M (dqo.2 ⟨L,hL,dqf _ ?_⟩)⟩
  rw[ho'];exact hM
 cases d with
 | one d =>
  cases d with
  | c c=>simp only[ztw];rw[zrA key]
  | agg cs=>simp only[ztw];rw[zj6 key]
 | tup ds=>rfl
theorem ziq {ob' : Nat → Option AO} : ∀ {ds : List DV}, (∀ L ∈ ds.flatMap (zbz ob), ob' L = ob L) → zfS ob' ds = zfS ob ds
  | [],_=>rfl
  | d :: ds,h=>by
    simp only[zfS]
    rw[zoq (λ L hL=>h L (by simp[hL])),ziq (λ L hL=>h L (by simp only[dqJ,dqg];exact .inr hL))]
theorem ze5 {ob':Nat->Option AO}{d:DV}(h:∀ L∈zbz ob d,ob' L=ob L):zbz ob' d=zbz ob d:=by
 unfold zbz at h ⊢
 have:∀ l:List Nat,(∀ L∈l.flatMap (λ L=>L :: match ob L with | some o=>zcl o | none=>[]),ob' L=ob L) ->
   (l.flatMap λ L=>L :: match ob' L with | some o=>zcl o | none=>[])=l.flatMap λ L=>L :: match ob L with | some o=>zcl o | none=>[]:=by
  intro l
  induction l with
  | nil=>intro _;rfl
  | cons L l ih =>
   intro h
   simp only[dqJ]
   rw[h L (by simp),ih (λ M hM=>h M (by simp only[dqJ,dqg];exact .inr hM))]
 exact this _ h

theorem zju {c:Cl}{v:PV}{u:Upd}(h:zwM ob c=some (v,u)):∀ x∈u,x.1∈zaN c/\aoV x.2=[]:=by
 unfold zwM at h
 split at h
 ·simp only[dqa,dqh] at h;rw[<- h.2];intro x hx;simp at hx
 ·split at h
  ·simp only[dqa,dqh] at h;rw[<- h.2];intro x hx;simp at hx;subst hx;exact⟨by simp[zaN],rfl⟩
  ·simp only[dqa,dqh] at h;rw[<- h.2];intro x hx;simp at hx
  ·simp only[dqa,dqh] at h;rw[<- h.2];intro x hx;simp only[dqi] at hx;subst hx;exact⟨by simp[zaN],rfl⟩
  ·simp only[dqa,dqh] at h;rw[<- h.2];intro x hx;simp only[dqi] at hx;subst hx;exact⟨by simp[zaN],rfl⟩
  ·cases h
 ·split at h
  ·simp only[dqa,dqh] at h;rw[<- h.2];intro x hx;simp only[dqi] at hx;subst hx;exact⟨by simp[zaN],rfl⟩
  ·cases h
 ·cases h
theorem zga : ∀ {cs : List Cl} {l : List PV} {u : Upd}, zeE ob cs = some (l, u) → ∀ x ∈ u, x.1 ∈ cs.flatMap zaN ∧ aoV x.2 = []
  | [],l,u,h=>by simp[zeE] at h;rw[h.2];intro x hx;simp at hx
  | c :: cs,l,u,h=>by
    simp only[zeE] at h
    split at h
    · rename_i v u1 l2 u2 h1 h2
      simp only[dqa,dqh] at h;rw[<- h.2]
      intro x hx
      simp only[dqJ,dqg]
      rcases dqg.1 hx with hx | hx
      · exact⟨.inl (zju h1 x hx).1,(zju h1 x hx).2⟩
      · exact⟨.inr (zga h2 x hx).1,(zga h2 x hx).2⟩
    · cases h
theorem zxe {c:Cl}{v:PV}{u:Upd}(h:frz ob c=some (v,u)):∀ x∈u,(x.1∈zaN c\/∃ L∈zaN c,∃ o',ob L=some o'/\x.1∈zcl o')/\aoV x.2=[]:=by
 unfold frz at h
 split at h
 ·split at h
  ·rename_i L off _x ty cells hL
   split at h
   ·rename_i l us hl
    simp only[dqa,dqh] at h;rw[<- h.2]
    intro x hx
    rcases dqg.1 hx with hx | hx
    ·exact⟨.inr ⟨L,by simp[zaN],_,hL,(zga hl x hx).1⟩,(zga hl x hx).2⟩
    ·simp at hx;subst hx;exact⟨.inl (by simp[zaN]),rfl⟩
   ·cases h
  ·simp only[dqa,dqh] at h;rw[<- h.2];intro x hx;simp at hx
  ·cases h
 ·intro x hx;exact⟨.inl (zju h x hx).1,(zju h x hx).2⟩
theorem zmL : ∀ {cs : List Cl} {l : List PV} {u : Upd}, zn1 ob cs = some (l, u) → ∀ x ∈ u, (x.1 ∈ cs.flatMap zaN ∨ ∃ L ∈ cs.flatMap zaN, ∃ o', ob L = some o' ∧ x.1 ∈ zcl o') ∧ aoV x.2 = []
  | [],l,u,h=>by simp[zn1] at h;rw[h.2];intro x hx;simp at hx
  | c :: cs,l,u,h=>by
    simp only[zn1] at h
    split at h
    · rename_i v u1 l2 u2 h1 h2
      simp only[dqa,dqh] at h;rw[<- h.2]
      intro x hx
      simp only[dqJ,dqg]
      rcases dqg.1 hx with hx | hx
      · obtain ⟨h3, h4⟩ := zxe h1 x hx
        refine⟨?_,h4⟩
        rcases h3 with h3 | ⟨L,hL,o',h5,h6⟩
        · exact .inl (.inl h3)
        · exact .inr ⟨L,.inl hL,o',h5,h6⟩
      · obtain ⟨h3, h4⟩ := zmL h2 x hx
        refine⟨?_,h4⟩
        rcases h3 with h3 | ⟨L,hL,o',h5,h6⟩
        · exact .inl (.inr h3)
        · exact .inr ⟨L,.inr hL,o',h5,h6⟩
    · cases h
theorem zrB {d:DV}{v:PA}{u:Upd}(h:ztw ob d=some (v,u)):∀ x∈u,x.1∈zbz ob d/\aoV x.2=[]:=by
 have deep:∀ k,(k∈zby d\/∃ L∈zby d,∃ o',ob L=some o'/\k∈zcl o')->k∈zbz ob d:=by
  intro k hk
  rcases hk with hk | ⟨L,hL,o',h5,h6⟩
  ·exact dqo.2 ⟨k,hk,dqj⟩
  ·refine dqo.2 ⟨L, hL, dqf _ ?_⟩
   rw[h5];exact h6
 unfold ztw at h
 split at h
 ·split at h
  ·rename_i v' u' h1
   simp only[dqa,dqh] at h;rw[<- h.2]
   intro x hx;obtain⟨h3,h4⟩:=zxe h1 x hx;exact⟨deep _ h3,h4⟩
  ·cases h
 ·split at h
  ·rename_i v' u' h1
   simp only[dqa,dqh] at h;rw[<- h.2]
   intro x hx;obtain⟨h3,h4⟩:=zmL h1 x hx;exact⟨deep _ h3,h4⟩
  ·cases h
 ·cases h
theorem zj7 : ∀ {ds : List DV} {l : List PA} {u : Upd}, zfS ob ds = some (l, u) → ∀ x ∈ u, x.1 ∈ ds.flatMap (zbz ob) ∧ aoV x.2 = []
  | [],l,u,h=>by simp[zfS] at h;rw[h.2];intro x hx;simp at hx
  | d :: ds,l,u,h=>by
    simp only[zfS] at h
    split at h
    · rename_i v u1 l2 u2 h1 h2
      simp only[dqa,dqh] at h;rw[<- h.2]
      intro x hx
      simp only[dqJ,dqg]
      rcases dqg.1 hx with hx | hx
      · exact⟨.inl (zrB h1 x hx).1,(zrB h1 x hx).2⟩
      · exact⟨.inr (zj7 h2 x hx).1,(zj7 h2 x hx).2⟩
    · cases h
end
end Go.Pm
namespace Go.Pm

section
variable {P:Program}{Γ:Ctrs}{o:Oper}{ev:Operand->DV}{ob:Nat->Option AO}{A:OpAct}

theorem fmc {α β : Type} {f h : α → List β} : ∀ {l : List α}, (∀ x ∈ l, f x = h x) → l.flatMap f = l.flatMap h
  | [],_=>rfl
  | x :: l,hf=>by simp only[dqJ];rw[hf x dqj,fmc λ y hy=>hf y (dqf _ hy)]

theorem zAw {x:Operand}(hop:o.op=.move x\/o.op=.assign x):ActOk P Γ o ev ob (.val [] (ev x) [] []):=by
 have hx:x∈o.op.operands.toList:=by rcases hop with h | h <;> simp[h,Op.operands]
 refine ActOk.pure (zd0 hx λ L hL=>hL) λ ev' ob' he _=>?_
 rcases hop with h | h <;> simp only[act,h,he x hx]

theorem zJh {b:Bool}{x y:DV} : ∀ L∈dvV (zn2 b x y),L∈dvV x\/L∈dvV y:=by
 unfold zn2
 split
 ·intro L hL;simp[dvV,d1V,clV] at hL
 ·cases b with
  | true=>exact λ L hL=>.inl hL
  | false=>exact λ L hL=>.inr hL

theorem zJi {c x y:Operand}{t:Bool}(hop:o.op=.pick c x y) (hc:ev c=.one (.c (.p (.bool t)))):ActOk P Γ o ev ob (.val [] (zn2 t (ev x) (ev y)) [] []):=by
 have hcm:c∈o.op.operands.toList:=by simp[hop,Op.operands]
 have hx:x∈o.op.operands.toList:=by simp[hop,Op.operands]
 have hy:y∈o.op.operands.toList:=by simp[hop,Op.operands]
 refine ActOk.pure (λ L hL=>?_) λ ev' ob' he _=>?_
 ·rcases zJh L hL with h | h
  ·exact .inl (.inl ⟨x,hx,h⟩)
  ·exact .inl (.inl ⟨y,hy,h⟩)
 ·simp only[act,hop,he c hcm,he x hx,he y hy,hc]

theorem zpr {ao : AO} {d : Nat → DV} (hlo : ∀ L ∈ aoV ao, Men o ev ob [] L) (hld : ∀ t, ∀ L ∈ dvV (d t), L = t)
    (hc:∀ ev' ob',(∀ x∈o.op.operands.toList,ev' x=ev x)->act P Γ o ev' ob'=ztF ob' o.dst ao d) (hA:ztF ob o.dst ao d=A) (hs:A.safe):ActOk P Γ o ev ob A:=by
  have hA':=hA
  unfold ztF at hA
  split at hA
  · rename_i t ht
    split at hA
    · rename_i hn
      subst hA
      have men:∀ L,Men o ev ob [] L->Men o ev ob [(t,true)] L:=λ L h=>h.imp_right λ ⟨y,hy,_⟩=>by simp at hy
      refine⟨λ x hx=>?_,.inl rfl,λ x hx L hL=>?_,λ d' hd' L hL=>?_,λ ev' ob' he hob=>?_⟩
      · simp only[OpAct.u,dqi] at hx;subst hx;simp[OpAct.fp]
      · simp only[OpAct.u,dqi] at hx;subst hx;exact men L (hlo L hL)
      · simp only[OpAct.gives] at hd';subst hd';rw[hld t L hL];exact .inr (by simp[OpAct.fp])
      · rw [hc ev' ob' he]
        have:=hob (t,true) (by simp[OpAct.fp])
        simp only at this
        simp only[ztF,ht,this,hn]
    · exact dq9 hA hs
  · exact dq9 hA hs

theorem zAx {t:TypeId}{z:List Cl}(h:zec P t=some z):z.flatMap clV=[]:=by
 have h1:=zra h
 cases hz:z.flatMap clV with
 | nil=>rfl
 | cons L l =>
  have:L∈z.flatMap clV:=by rw[hz];exact dqj
  obtain⟨c,hc,hL⟩:=dqo.1 this
  have:L∈z.flatMap zaN:=dqo.2 ⟨c,hc,zt5 L hL⟩
  rw[h1] at this;simp at this

theorem zt6 (d:D1):d.cells.flatMap clV=d1V d:=by cases d <;> simp[D1.cells,d1V]

theorem zOg {t k:Nat}{cells:List Cl} : ∀ L∈(zIZ P t k cells).flatMap clV,L∈cells.flatMap clV:=by
 unfold zIZ
 split
 ·split
  ·intro L hL
   obtain⟨c,hc,hL⟩:=dqo.1 hL
   rcases List.mem_or_eq_of_mem_set hc with h | h
   ·exact dqo.2 ⟨c,h,hL⟩
   ·subst h;simp[clV] at hL
  ·exact λ L hL=>hL
 ·exact λ L hL=>hL
theorem zAy : ∀ (fs : List Field) {cells : List Cl}, ∀ L ∈ (zzu P fs cells).flatMap clV, L ∈ cells.flatMap clV
  | [],_,L,h=>h
  | _ :: r,_,L,h=>zOg L (zAy r L h)
theorem zFq {t:TypeId}{cells:List Cl} : ∀ L∈(zjl P t cells).flatMap clV,L∈cells.flatMap clV:=by
 unfold zjl
 split
 ·exact zAy _
 ·exact λ L hL=>hL
theorem zxf {t : TypeId} : ∀ (parts : List (Nat × Operand)) (z l : List Cl), zdo P t ev z parts = some l → ∀ L ∈ l.flatMap clV, L ∈ z.flatMap clV ∨ ∃ x ∈ parts, L ∈ dvV (ev x.2)
  | [],z,l,h=>by simp[zdo] at h;subst h;exact λ L hL=>.inl hL
  | (i,x) :: r,z,l,h=>by
    simp only[zdo] at h
    split at h
    · rename_i d hd
      have splV:∀ (l' l:List Cl) (off:Nat),∀ L∈(spl l off l').flatMap clV,L∈l.flatMap clV\/L∈l'.flatMap clV:=by
        intro l'
        induction l' with
        | nil=>intro l off L hL;exact .inl hL
        | cons c l' ih =>
          intro l off L hL
          simp only[spl] at hL
          rcases ih _ _ L hL with h | h
          · obtain ⟨c', hc', hL'⟩ := dqo.1 h
            rcases List.mem_or_eq_of_mem_set hc' with h2 | h2
            · exact .inl (dqo.2 ⟨c',h2,hL'⟩)
            · subst h2;exact .inr (dqo.2 ⟨c',dqj,hL'⟩)
          · exact .inr (by simp only[dqJ,dqg];exact .inr h)
      have step:∀ off,zdo P t ev (spl z off d.cells) r=some l->∀ L∈l.flatMap clV,L∈z.flatMap clV\/∃ y∈(i,x) :: r,L∈dvV (ev y.2):=by
        intro off hb L hL
        rcases zxf r _ l hb L hL with h | ⟨y,hy,hL⟩
        · rcases splV _ _ _ L h with h | h
          · exact .inl h
          · refine .inr ⟨(i, x), dqj, ?_⟩
            simp only[hd,dvV];rw[<- zt6];exact h
        · exact .inr ⟨y,dqf _ hy,hL⟩
      split at h
      · split at h
        · split at h
          · split at h
            · exact step _ h
            · cases h
          · cases h
        · cases h
      · split at h
        · split at h
          · exact step _ h
          · cases h
        · cases h
      · cases h
    · cases h

theorem zlo {ev' : Operand → DV} {t : TypeId} : ∀ (parts : List (Nat × Operand)) (z : List Cl), (∀ x ∈ parts, ev' x.2 = ev x.2) → zdo P t ev' z parts = zdo P t ev z parts
  | [],z,_=>rfl
  | (i,x) :: r,z,h=>by
    have hx:ev' x=ev x:=h (i,x) dqj
    have ih:∀ z,zdo P t ev' z r=zdo P t ev z r:=λ z=>zlo r z λ y hy=>h y (dqf _ hy)
    simp only[zdo,hx,ih]

theorem zjv {ev':Operand->DV}{ob':Nat->Option AO}{s:Nat} : ∀ (parts:List (Nat×Operand)) (i:Nat) (ls:List (List PV)) (u:Upd) (labs:List Nat),zdD ob ev s i parts=some (ls,u,labs) ->
  (∀ x∈parts,ev' x.2=ev x.2)->(∀ L∈labs,ob' L=ob L)->zdD ob' ev' s i parts=some (ls,u,labs)
 | [],i,ls,u,labs,h,_,_=>by simpa [zdD] using h
 | (j,x) :: r,i,ls,u,labs,h,he,hob=>by
  have hx:ev' x=ev x:=he (j,x) dqj
  simp only[zdD] at h ⊢
  rw[hx]
  split at h
  ·rename_i hij
   split at h
   ·rename_i d hd
    split at h
    ·rename_i l u1 ls' us labs' h1 h2
     split at h
     ·rename_i hlen
      simp only[dqa,dqh] at h
      obtain⟨rfl,rfl,rfl⟩:=h
      have e1:zeE ob' d.cells=some (l,u1):=by
       rw[<- h1]
       refine zio λ L hL=>hob L (dqg.2 (.inl ?_))
       cases d <;> simpa [D1.cells,zb3] using hL
      have e2:=zjv r (i+1) ls' us labs' h2 (λ y hy=>he y (dqf _ hy)) (λ L hL=>hob L (dqg.2 (.inr hL)))
      simp only[e1,e2,hlen]
     ·cases h
    ·cases h
   ·cases h
  ·cases h
theorem zg4 {s : Nat} : ∀ (parts : List (Nat × Operand)) (i : Nat) (ls : List (List PV)) (u : Upd) (labs : List Nat), zdD ob ev s i parts = some (ls, u, labs) → ∀ x ∈ u, x.1 ∈ labs ∧ aoV x.2 = []
  | [],i,ls,u,labs,h=>by simp[zdD] at h;rw[h.2.1];intro x hx;simp at hx
  | (j,x) :: r,i,ls,u,labs,h=>by
    simp only[zdD] at h
    split at h
    · split at h
      · rename_i d hd
        split at h
        · rename_i l u1 ls' us labs' h1 h2
          split at h
          · simp only [dqa, dqh] at h
            obtain⟨rfl,rfl,rfl⟩:=h
            intro y hy
            rcases dqg.1 hy with hy | hy
            · obtain ⟨h3, h4⟩ := zga h1 y hy
              refine⟨dqg.2 (.inl ?_),h4⟩
              cases d <;> simpa [D1.cells,zb3] using h3
            · obtain ⟨h3, h4⟩ := zg4 r _ _ _ _ h2 y hy
              exact⟨dqg.2 (.inr h3),h4⟩
          · cases h
        · cases h
      · cases h
    · cases h

theorem zFr {t : TypeId} {parts : Array (Nat × Operand)} {z l : List Cl} (hop : o.op = .build t parts) (hf : zjk P t = true) (hz : zec P t = some z) (hl : zdo P t ev z parts.toList = some l) :
  ActOk P Γ o ev ob (.val [] (.one (.agg l)) [] []):=by
 have hm:∀ x∈parts.toList,x.2∈o.op.operands.toList:=λ x hx=>by
  simp only[hop,Op.operands]
  exact dqz.2 ⟨x,hx,rfl⟩
 refine ActOk.pure (λ L hL=>?_) λ ev' ob' he _=>?_
 ·rcases zxf _ _ _ hl L hL with h | ⟨x, hx, h⟩
  ·rw[zAx hz] at h;simp at h
  ·exact .inl (.inl ⟨x.2,hm x hx,h⟩)
 ·simp only[act,hop,hf,hz,zlo parts.toList z (λ x hx=>he x.2 (hm x hx)),hl]

theorem zrC {l:List Nat}{L:Nat}(h:L∈l):(L,true)∈wr l:=dqz.2 ⟨L,h,rfl⟩

theorem zza {t:TypeId}{n:Nat}{parts:Array (Nat×Operand)}(hop:o.op=.buildSlice t n parts) (hf:zNP Γ o.dst=true) (hA:zij P o t n parts.toList ev ob=A) (hs:A.safe):ActOk P Γ o ev ob A:=by
 have hm:∀ x∈parts.toList,x.2∈o.op.operands.toList:=λ x hx=>by
  simp only[hop,Op.operands]
  exact dqz.2 ⟨x,hx,rfl⟩
 have hc:∀ ev' ob',act P Γ o ev' ob'=zij P o t n parts.toList ev' ob':=λ ev' ob'=>by
  simp only[act,hop,hf]
 unfold zij at hA
 split at hA
 ·rename_i te x dst hu hp hd
  have hx:x∈o.op.operands.toList:=hm (0,x) (by rw[hp];simp)
  split at hA
  ·rename_i ie z M hi hz hex
   split at hA
   ·rename_i hM hn
    split at hA
    ·rename_i hb
     subst hA
     refine⟨λ x hx=>?_,.inl rfl,λ x hx L hL=>?_,λ d' hd' L hL=>?_,λ ev' ob' he hob=>?_⟩
     ·simp only [OpAct.u, dqq, List.not_mem_nil, or_false] at hx
      rcases hx with rfl | rfl <;> simp[OpAct.fp]
     ·simp only [OpAct.u, dqq, List.not_mem_nil, or_false] at hx
      rcases hx with rfl | rfl <;> simp[aoV] at hL
     ·simp only [OpAct.gives] at hd'; subst hd'
      simp only[dvV,d1V,clV,dqi] at hL
      subst hL
      exact .inr (by simp[OpAct.fp])
     ·have e1 := hob (M, true) (by simp [OpAct.fp])
      have e2:=hob (dst,true) (by simp[OpAct.fp])
      simp only at e1 e2
      rw[hc]
      simp only[zij,hu,hp,hd,hi,hz,he x hx,hex,e1,hM,e2,hn,hb]
    ·exact dq9 hA hs
   ·exact dq9 hA hs
  ·exact dq9 hA hs
 ·exact dq9 hA hs

theorem zps {t:TypeId}{n:Nat}{parts:Array (Nat×Operand)}(hop:o.op=.buildSlice t n parts) (hA:act P Γ o ev ob=A) (hs:A.safe):ActOk P Γ o ev ob A:=by
 have hm:∀ x∈parts.toList,x.2∈o.op.operands.toList:=λ x hx=>by
  simp only[hop,Op.operands]
  exact dqz.2 ⟨x,hx,rfl⟩
 simp only[act,hop] at hA
 split at hA
 ·rename_i hf
  exact zza hop hf hA hs
 rename_i hvf
 split at hA
 ·rename_i e hu
  split at hA
  ·rename_i ie hie
   split at hA
   ·rename_i ls u labs hp
    split at hA
    ·rename_i z dst hb hz hd
     split at hA
     ·rename_i hn
      subst hA
      refine⟨λ x hx=>?_,.inl rfl,λ x hx L hL=>?_,λ d' hd' L hL=>?_,λ ev' ob' he hob=>?_⟩
      ·simp only [OpAct.u, dqq] at hx
       simp only[OpAct.fp,dqg]
       rcases hx with rfl | hx
       ·exact .inr (by simp)
       ·exact .inl (zrC (zg4 _ _ _ _ _ hp x hx).1)
      ·simp only [OpAct.u, dqq] at hx
       rcases hx with rfl | hx
       ·simp[aoV] at hL
       ·rw[(zg4 _ _ _ _ _ hp x hx).2] at hL;simp at hL
      ·simp only [OpAct.gives] at hd'; subst hd'
       simp only[dvV,d1V,clV,dqi] at hL
       subst hL
       exact .inr (by simp[OpAct.fp])
      ·have e1 := zjv (ev' := ev') (ob' := ob') _ _ _ _ _ hp (fun x hx => he x.2 (hm x hx)) (fun L hL => hob (L, true) (dqg.2 (.inl (zrC hL))))
       have e2:=hob (dst,true) (dqg.2 (.inr (by simp)))
       simp only at e2
       rw[hd] at hvf
       simp only[act,hop,hvf,hu,hie,e1,hb,hz,hd,e2,hn]
     ·exact dq9 hA hs
    ·exact dq9 hA hs
   ·exact dq9 hA hs
  ·exact dq9 hA hs
 ·exact dq9 hA hs

theorem zOh {L:Nat}{ao:AO}{w:Bool}{d:D1}(hL:ob L=some ao) (h:∀ M∈d1V d,M∈aoV ao):∀ M∈dvV (.one d),Men o ev ob [(L,w)] M\/(M,true)∈[(L,w)] :=
 λ M hM=>.inl (.inr ⟨(L,w),by simp,ao,hL,h M hM⟩)

theorem zJj (l : List Cl) : ∀ (n k : Nat), (rdI l n k).flatMap clV = []
  | 0,_=>rfl
  | n+1,k=>by rw[rdI,dqJ,zJj l n (k+1)];rfl
theorem zAz {ag:Bool}{s k:Nat}{l:List Cl}{d:D1}(h:rdX ag s l k=some d):d1V d=[]:=by
 cases ag with
 | true =>
  have h:some (D1.agg (rdI l s k))=some d:=h
  simp only[dqa] at h;subst h
  exact zJj l s k
 | false =>
  have h:(match rdI l s k with | [x]=>some (D1.c x) | _=>none)=some d:=h
  split at h
  ·rename_i x e
   simp only[dqa] at h;subst h
   have:=zJj l s k
   rw[e] at this
   simpa [d1V] using this
  ·cases h
theorem zJk {t:TypeId}{x:Operand}(hop:o.op=.load t x) (hA:act P Γ o ev ob=A) (hs:A.safe):ActOk P Γ o ev ob A:=by
 have hm:x∈o.op.operands.toList:=by simp[hop,Op.operands]
 simp only[act,hop] at hA
 split at hA
 ·rename_i ag n hag hn
  split at hA
  ·rename_i L off hx
   split at hA
   ·rename_i ty cells hL
    split at hA
    ·rename_i d hr
     subst hA
     refine ActOk.pure (zOh hL (zxc hr)) λ ev' ob' he hob=>?_
     have e:=hob (L,false) (by simp);simp only at e
     simp only[act,hop,hag,hn,he x hm,hx,e,hL,hr]
    ·exact dq9 hA hs
   ·rename_i cells hL
    split at hA
    ·rename_i d hr
     subst hA
     refine ActOk.pure (λ M hM=>?_) λ ev' ob' he hob=>?_
     ·simp only[dvV] at hM;rw[zmK hr] at hM;simp at hM
     have e:=hob (L,false) (by simp);simp only at e
     simp only[act,hop,hag,hn,he x hm,hx,e,hL,hr]
    ·exact dq9 hA hs
   ·exact dq9 hA hs
  ·rename_i cells off hx
   split at hA
   ·rename_i d hr
    subst hA
    refine ActOk.pure (λ M hM=>?_) λ ev' ob' he hob=>?_
    ·simp only[dvV] at hM;rw[zmK hr] at hM;simp at hM
    simp only[act,hop,hag,hn,he x hm,hx,hr]
   ·exact dq9 hA hs
  ·rename_i L s i k hx
   split at hA
   ·rename_i e s' b len get hL
    split at hA
    ·rename_i d hss hr
     subst hA
     refine ActOk.pchk (λ M hM=>?_) λ ev' ob' he hob=>?_
     ·simp only[dvV] at hM;rw[zmK hr] at hM;simp at hM
     have e:=hob (L,false) (by simp);simp only at e
     simp only[act,hop,hag,hn,he x hm,hx,e,hL,hss,hr]
    ·exact dq9 hA hs
   ·rename_i s' len get hL
    split at hA
    ·rename_i d hss hr
     subst hA
     refine ActOk.pchk (λ M hM=>?_) λ ev' ob' he hob=>?_
     ·simp only[dvV] at hM;rw[zmK hr] at hM;simp at hM
     have e:=hob (L,false) (by simp);simp only at e
     simp only[act,hop,hag,hn,he x hm,hx,e,hL,hss,hr]
    ·exact dq9 hA hs
   ·rename_i hL
    split at hA
    ·rename_i hss
     subst hA
     refine ActOk.pchk (λ M hM=>.inl (.inl ⟨x,hm,?_⟩)) λ ev' ob' he hob=>?_
     ·rw[hx];exact hM
     have e:=hob (L,false) (by simp);simp only at e
     simp only[act,hop,hag,hn,he x hm,hx,e,hL,hss]
    ·exact dq9 hA hs
   ·rename_i hL
    split at hA
    ·rename_i hss
     subst hA
     refine ActOk.pchk (λ M hM=>.inl (.inl ⟨x,hm,?_⟩)) λ ev' ob' he hob=>?_
     ·rw[hx];exact hM
     have e:=hob (L,false) (by simp);simp only at e
     simp only[act,hop,hag,hn,he x hm,hx,e,hL,hss]
    ·exact dq9 hA hs
   ·exact dq9 hA hs
  ·rename_i L s i j k hx
   split at hA
   ·rename_i hL
    split at hA
    ·rename_i d hss hr
     subst hA
     refine ActOk.pchk (λ M hM=>?_) λ ev' ob' he hob=>?_
     ·simp only[dvV] at hM;rw[zmK hr] at hM;simp at hM
     have e:=hob (L,false) (by simp);simp only at e
     simp only[act,hop,hag,hn,he x hm,hx,e,hL,hss,hr]
    ·exact dq9 hA hs
   ·exact dq9 hA hs
  ·rename_i L b m' n' j c hx
   split at hA
   ·rename_i hL
    split at hA
    ·rename_i d hss hr
     subst hA
     refine ActOk.pure (λ M hM=>?_) λ ev' ob' he hob=>?_
     ·simp only[dvV] at hM;rw[zAz hr] at hM;simp at hM
     have e:=hob (L,false) (by simp);simp only at e
     simp only[act,hop,hag,hn,he x hm,hx,e,hL,hss,hr]
    ·exact dq9 hA hs
   ·rename_i hL
    split at hA
    ·rename_i d hss hr
     subst hA
     refine ActOk.pure (λ M hM=>?_) λ ev' ob' he hob=>?_
     ·simp only[dvV] at hM;rw[zAz hr] at hM;simp at hM
     have e:=hob (L,false) (by simp);simp only at e
     simp only[act,hop,hag,hn,he x hm,hx,e,hL,hss,hr]
    ·exact dq9 hA hs
   ·exact dq9 hA hs
  ·rename_i cells b m' n' j c hx
   split at hA
   ·rename_i d hss hr
    subst hA
    refine ActOk.pure (λ M hM=>?_) λ ev' ob' he hob=>?_
    ·simp only[dvV] at hM;rw[zAz hr] at hM;simp at hM
    simp only[act,hop,hag,hn,he x hm,hx,hss,hr]
   ·exact dq9 hA hs
  ·rename_i L s i b m' n' j c hx
   split at hA
   ·rename_i hL
    split at hA
    ·rename_i d hss hr
     subst hA
     refine ActOk.pchk (λ M hM=>?_) λ ev' ob' he hob=>?_
     ·simp only[dvV] at hM;rw[zAz hr] at hM;simp at hM
     have e:=hob (L,false) (by simp);simp only at e
     simp only[act,hop,hag,hn,he x hm,hx,e,hL,hss,hr]
    ·exact dq9 hA hs
   ·exact dq9 hA hs
  ·exact dq9 hA hs
 ·exact dq9 hA hs

theorem zSf:∀ (l' l:List Cl) (off:Nat),∀ L∈(spl l off l').flatMap clV,L∈l.flatMap clV\/L∈l'.flatMap clV:=by
 intro l'
 induction l' with
 | nil=>intro l off L hL;exact .inl hL
 | cons c l' ih =>
  intro l off L hL
  simp only[spl] at hL
  rcases ih _ _ L hL with h | h
  ·obtain ⟨c', hc', hL'⟩ := dqo.1 h
   rcases List.mem_or_eq_of_mem_set hc' with h2 | h2
   ·exact .inl (dqo.2 ⟨c',h2,hL'⟩)
   ·subst h2;exact .inr (dqo.2 ⟨c',dqj,hL'⟩)
  ·exact .inr (by simp only[dqJ,dqg];exact .inr h)

theorem zFs {t:TypeId}{x y:Operand}(hop:o.op=.store t x y) (hA:act P Γ o ev ob=A) (hs:A.safe):ActOk P Γ o ev ob A:=by
 have hx:x∈o.op.operands.toList:=by simp[hop,Op.operands]
 have hy:y∈o.op.operands.toList:=by simp[hop,Op.operands]
 simp only[act,hop] at hA
 split at hA
 ·rename_i n L off d hn hex hey
  split at hA
  ·rename_i ty cells hL
   split at hA
   ·rename_i hb
    subst hA
    refine⟨λ z hz=>?_,.inl rfl,λ z hz M hM=>?_,λ d' hd' M hM=>?_,λ ev' ob' he hob=>?_⟩
    ·simp only[OpAct.u,dqi] at hz;subst hz;simp[OpAct.fp]
    ·simp only [OpAct.u, dqi] at hz; subst hz
     simp only[aoV] at hM
     rcases zSf _ _ _ M hM with h | h
     ·exact .inr ⟨(L,true),by simp[OpAct.fp],_,hL,h⟩
     ·refine .inl ⟨y, hy, ?_⟩
      rw[hey];simp only[dvV];rw[<- zt6];exact h
    ·simp only[OpAct.gives] at hd';subst hd';simp[dvV,d1V,clV] at hM
    ·have e := hob (L, true) (by simp [OpAct.fp]); simp only at e
     simp only[act,hop,hn,he x hx,he y hy,hex,hey,e,hL,hb]
   ·exact dq9 hA hs
  ·exact dq9 hA hs
 ·rename_i n L s i k d hn hex hey
  split at hA
  ·rename_i e s' b len get hL
   split at hA
   ·rename_i l hl
    split at hA
    ·rename_i hb
     subst hA
     refine⟨λ z hz=>?_,.inl rfl,λ z hz M hM=>?_,λ d' hd' M hM=>?_,λ ev' ob' he hob=>?_⟩
     ·simp only[OpAct.u,dqi] at hz;subst hz;simp[OpAct.fp]
     ·simp only[OpAct.u,dqi] at hz;subst hz;simp[aoV] at hM
     ·simp only[OpAct.gives] at hd';subst hd';simp[dvV,d1V,clV] at hM
     ·have e := hob (L, true) (by simp [OpAct.fp]); simp only at e
      simp only[act,hop,hn,he x hx,he y hy,hex,hey,e,hL,hl,hb]
    ·exact dq9 hA hs
   ·exact dq9 hA hs
  ·rename_i te bb e s' by' len ln get hL
   split at hA
   ·rename_i M'
    split at hA
    ·rename_i e2 s2 b2 mm get2 hM'
     split at hA
     ·rename_i hb
      split at hA
      ·rename_i hq
       subst hA
       refine⟨λ z hz=>?_,.inl rfl,λ z hz M hM=>?_,λ d' hd' M hM=>?_,λ ev' ob' he hob=>?_⟩
       ·simp only [OpAct.u, dqq, List.not_mem_nil, or_false] at hz
        rcases hz with rfl | rfl <;> simp[OpAct.fp]
       ·simp only [OpAct.u, dqq, List.not_mem_nil, or_false] at hz
        rcases hz with rfl | rfl <;> simp[aoV] at hM
       ·simp only[OpAct.gives] at hd';subst hd';simp[dvV,d1V,clV] at hM
       ·have e := hob (L, true) (by simp [OpAct.fp]); simp only at e
        have e2:=hob (M',true) (by simp[OpAct.fp]);simp only at e2
        simp only[act,hop,hn,he x hx,he y hy,hex,hey,e,hL,e2,hM',hb]
        rw[if_pos hq]
      ·exact dq9 hA hs
     ·exact dq9 hA hs
    ·exact dq9 hA hs
   ·exact dq9 hA hs
  ·rename_i te bb kt vt q len mk nn F hL
   split at hA
   ·rename_i M'
    split at hA
    ·rename_i kt' vt' q' mm F' hM'
     split at hA
     ·rename_i hb
      split at hA
      ·rename_i hq
       subst hA
       refine⟨λ z hz=>?_,.inl rfl,λ z hz M hM=>?_,λ d' hd' M hM=>?_,λ ev' ob' he hob=>?_⟩
       ·simp only [OpAct.u, dqq, List.not_mem_nil, or_false] at hz
        rcases hz with rfl | rfl <;> simp[OpAct.fp]
       ·simp only [OpAct.u, dqq, List.not_mem_nil, or_false] at hz
        rcases hz with rfl | rfl <;> simp[aoV] at hM
       ·simp only[OpAct.gives] at hd';subst hd';simp[dvV,d1V,clV] at hM
       ·have e := hob (L, true) (by simp [OpAct.fp]); simp only at e
        have e2:=hob (M',true) (by simp[OpAct.fp]);simp only at e2
        simp only[act,hop,hn,he x hx,he y hy,hex,hey,e,hL,e2,hM',hb]
        rw[if_pos hq]
      ·exact dq9 hA hs
     ·exact dq9 hA hs
    ·exact dq9 hA hs
   ·exact dq9 hA hs
  ·exact dq9 hA hs
 ·rename_i n L s i j k d hn hex hey
  split at hA
  ·rename_i hL
   split at hA
   ·rename_i l hl
    split at hA
    ·rename_i hb
     subst hA
     refine⟨λ z hz=>?_,.inl rfl,λ z hz M hM=>?_,λ d' hd' M hM=>?_,λ ev' ob' he hob=>?_⟩
     ·simp only[OpAct.u,dqi] at hz;subst hz;simp[OpAct.fp]
     ·simp only[OpAct.u,dqi] at hz;subst hz;simp[aoV] at hM
     ·simp only[OpAct.gives] at hd';subst hd';simp[dvV,d1V,clV] at hM
     ·have e := hob (L, true) (by simp [OpAct.fp]); simp only at e
      simp only[act,hop,hn,he x hx,he y hy,hex,hey,e,hL,hl,hb]
    ·exact dq9 hA hs
   ·exact dq9 hA hs
  ·exact dq9 hA hs
 ·rename_i n L b m' n' j c d hn hex hey
  split at hA
  ·rename_i ty cells vs hL hvs
   split at hA
   ·rename_i hb
    subst hA
    refine⟨λ z hz=>?_,.inl rfl,λ z hz M hM=>?_,λ d' hd' M hM=>?_,λ ev' ob' he hob=>?_⟩
    ·simp only[OpAct.u,dqi] at hz;subst hz;simp[OpAct.fp]
    ·simp only [OpAct.u, dqi] at hz; subst hz
     simp only[aoV,dqo,dqz] at hM
     obtain⟨_,⟨_,_,rfl⟩,hM⟩:=hM
     simp[clV] at hM
    ·simp only[OpAct.gives] at hd';subst hd';simp[dvV,d1V,clV] at hM
    ·have e := hob (L, true) (by simp [OpAct.fp]); simp only at e
     simp only[act,hop,hn,he x hx,he y hy,hex,hey,e,hL,hvs,hb]
   ·exact dq9 hA hs
  ·exact dq9 hA hs
 ·rename_i n L s i b m' n' j c d hn hex hey
  split at hA
  ·rename_i e1 s' by' len get vs hL hvs
   split at hA
   ·rename_i hb
    subst hA
    refine⟨λ z hz=>?_,.inl rfl,λ z hz M hM=>?_,λ d' hd' M hM=>?_,λ ev' ob' he hob=>?_⟩
    ·simp only[OpAct.u,dqi] at hz;subst hz;simp[OpAct.fp]
    ·simp only[OpAct.u,dqi] at hz;subst hz;simp[aoV] at hM
    ·simp only[OpAct.gives] at hd';subst hd';simp[dvV,d1V,clV] at hM
    ·have e := hob (L, true) (by simp [OpAct.fp]); simp only at e
     simp only[act,hop,hn,he x hx,he y hy,hex,hey,e,hL,hvs,hb]
   ·exact dq9 hA hs
  ·exact dq9 hA hs
 ·exact dq9 hA hs

theorem zt7 {x:Operand}(hop:o.op=.nilCheck x) (hA:act P Γ o ev ob=A) (hs:A.safe):ActOk P Γ o ev ob A:=by
 have hx:x∈o.op.operands.toList:=by simp[hop,Op.operands]
 simp only[act,hop] at hA
 split at hA
 ·rename_i L off h; subst hA
  exact ActOk.pure (zd0 hx λ L hL=>by rw[h];exact hL) λ ev' ob' he _=>by simp only[act,hop,he x hx,h]
 ·rename_i L off h; subst hA
  exact ActOk.pure (zd0 hx λ L hL=>by rw[h];exact hL) λ ev' ob' he _=>by simp only[act,hop,he x hx,h]
 ·rename_i L s i k h; subst hA
  exact ActOk.pure (zd0 hx λ L hL=>by rw[h];exact hL) λ ev' ob' he _=>by simp only[act,hop,he x hx,h]
 ·rename_i h; subst hA
  exact ActOk.pure (zd0 hx λ L hL=>by rw[h];exact hL) λ ev' ob' he _=>by simp only[act,hop,he x hx,h]
 ·rename_i h; subst hA
  exact ActOk.pure (zd0 hx λ L hL=>by rw[h];exact hL) λ ev' ob' he _=>by simp only[act,hop,he x hx,h]
 ·rename_i h; subst hA
  exact ActOk.pure (zd0 hx λ L hL=>by rw[h];exact hL) λ ev' ob' he _=>by simp only[act,hop,he x hx,h]
 ·rename_i h; subst hA
  exact ActOk.pure (zd0 hx λ L hL=>by rw[h];exact hL) λ ev' ob' he _=>by simp only[act,hop,he x hx,h]
 ·exact dq9 hA hs

theorem zFt {op : BinOp} {k : IntKind} {p q : Int} (hs : (zzs op k p q).safe)
    (hc:∀ ev' ob',(∀ x∈o.op.operands.toList,ev' x=ev x)->act P Γ o ev' ob'=zzs op k p q):ActOk P Γ o ev ob (zzs op k p q):=by
  cases op <;> first
    | exact hs.elim
    | exact ActOk.pure (zc7 _) λ ev' ob' he _=>hc ev' ob' he
    | exact ActOk.pchk (zc7 _) λ ev' ob' he _=>hc ev' ob' he

theorem zFu {op:BinOp}{t t':TypeId}{x y:Operand}(hop:o.op=.binOp op t x y t') (hA:act P Γ o ev ob=A) (hs:A.safe):ActOk P Γ o ev ob A:=by
 have hx:x∈o.op.operands.toList:=by simp[hop,Op.operands]
 have hy:y∈o.op.operands.toList:=by simp[hop,Op.operands]
 simp only[act,hop] at hA
 split at hA
 ·rename_i k p k' q hex hey
  split at hA
  ·rename_i hk
   subst hA
   exact zFt hs λ ev' ob' he=>by simp only[act,hop,he x hx,he y hy,hex,hey,hk,if_true]
  ·exact dq9 hA hs
 ·rename_i p q hex hey
  split at hA
  ·rename_i hu; subst hA
   exact ActOk.pure (zc7 _) λ ev' ob' he _=>by simp only[act,hop,he x hx,he y hy,hex,hey,hu]
  ·rename_i hu; subst hA
   exact ActOk.pure (zc7 _) λ ev' ob' he _=>by simp only[act,hop,he x hx,he y hy,hex,hey,hu]
  ·exact dq9 hA hs
 ·rename_i cs ds hex hey
  have hc:∀ ev' ob',(∀ x∈o.op.operands.toList,ev' x=ev x)->act P Γ o ev' ob'=A:=λ ev' ob' he=>by
   simp only[act,hop,he x hx,he y hy,hex,hey];exact hA
  unfold zEY at hA
  split at hA
  ·split at hA
   ·subst hA;exact ActOk.pure (zc7 _) λ ev' ob' he _=>hc ev' ob' he
   ·subst hA;exact ActOk.pure (zc7 _) λ ev' ob' he _=>hc ev' ob' he
   ·exact dq9 hA hs
  ·exact dq9 hA hs
 ·rename_i hex hey
  have hc:∀ ev' ob',(∀ x∈o.op.operands.toList,ev' x=ev x)->act P Γ o ev' ob'=A:=λ ev' ob' he=>by
   simp only[act,hop,he x hx,he y hy,hex,hey];exact hA
  split at hA
  ·subst hA
   exact⟨λ x hx=>by simp[OpAct.u] at hx,.inl rfl,λ x hx=>by simp[OpAct.u] at hx,λ d hd L hL=>by (simp only[OpAct.gives] at hd;obtain⟨q,rfl⟩:=hd;simp[dvV,d1V,clV] at hL),λ ev' ob' he _=>hc ev' ob' he⟩
  ·subst hA
   exact⟨λ x hx=>by simp[OpAct.u] at hx,.inl rfl,λ x hx=>by simp[OpAct.u] at hx,λ d hd L hL=>by (simp only[OpAct.gives] at hd;obtain⟨q,rfl⟩:=hd;simp[dvV,d1V,clV] at hL),λ ev' ob' he _=>hc ev' ob' he⟩
  ·exact dq9 hA hs
 ·rename_i hex hey
  have hc:∀ ev' ob',(∀ x∈o.op.operands.toList,ev' x=ev x)->act P Γ o ev' ob'=A:=λ ev' ob' he=>by
   simp only[act,hop,he x hx,he y hy,hex,hey];exact hA
  split at hA
  ·subst hA;exact ActOk.pchk (λ M hM=>by simp[dvV,d1V,clV] at hM) λ ev' ob' he _=>hc ev' ob' he
  ·subst hA;exact ActOk.pchk (λ M hM=>by simp[dvV,d1V,clV] at hM) λ ev' ob' he _=>hc ev' ob' he
  ·exact dq9 hA hs
 ·rename_i hex hey
  have hc:∀ ev' ob',(∀ x∈o.op.operands.toList,ev' x=ev x)->act P Γ o ev' ob'=A:=λ ev' ob' he=>by
   simp only[act,hop,he x hx,he y hy,hex,hey];exact hA
  split at hA
  ·subst hA;exact ActOk.pure (zc7 _) λ ev' ob' he _=>hc ev' ob' he
  ·subst hA;exact ActOk.pure (zc7 _) λ ev' ob' he _=>hc ev' ob' he
  ·exact dq9 hA hs
 ·exact dq9 hA hs

theorem zFv {t:TypeId}{x y:Operand}(hop:o.op=.index t x y) (hA:act P Γ o ev ob=A) (hs:A.safe):ActOk P Γ o ev ob A:=by
 have hx:x∈o.op.operands.toList:=by simp[hop,Op.operands]
 have hy:y∈o.op.operands.toList:=by simp[hop,Op.operands]
 have hc:∀ ev' ob',(∀ x∈o.op.operands.toList,ev' x=ev x)->act P Γ o ev' ob'=A:=λ ev' ob' he=>by
  rw[<- hA];simp only[act,hop,he x hx,he y hy]
 simp only[act,hop,zoU] at hA
 split at hA
 ·split at hA
  ·split at hA
   ·split at hA
    ·rename_i d _ hr
     subst hA
     refine ActOk.pchk (λ M hM=>?_) λ ev' ob' he _=>hc ev' ob' he
     simp only[dvV] at hM;rw[zAz hr] at hM;simp at hM
    ·exact dq9 hA hs
   ·exact dq9 hA hs
  ·split at hA
   ·rename_i cs k j _ _ hex hey
    split at hA
    ·rename_i d _ hr
     subst hA
     refine ActOk.pure (zd0 hx λ L hL=>?_) λ ev' ob' he _=>hc ev' ob' he
     rw[hex];exact zxc hr L hL
    ·exact dq9 hA hs
   ·exact dq9 hA hs
 ·exact dq9 hA hs

theorem zFw {t:TypeId}{x:Operand}{f:Nat}(hop:o.op=.field t x f) (hA:act P Γ o ev ob=A) (hs:A.safe):ActOk P Γ o ev ob A:=by
 have hx:x∈o.op.operands.toList:=by simp[hop,Op.operands]
 have hc:∀ ev' ob',(∀ x∈o.op.operands.toList,ev' x=ev x)->act P Γ o ev' ob'=A:=λ ev' ob' he=>by
  rw[<- hA];simp only[act,hop,he x hx]
 simp only[act,hop,zoV] at hA
 split at hA
 ·split at hA
  ·split at hA
   ·rename_i hex
    split at hA
    ·rename_i d hr
     subst hA
     refine ActOk.pure (zd0 hx λ L hL=>?_) λ ev' ob' he _=>hc ev' ob' he
     rw[hex];exact zxc hr L hL
    ·exact dq9 hA hs
   ·exact dq9 hA hs
  ·exact dq9 hA hs
 ·exact dq9 hA hs

theorem ok_slice {t:TypeId}{x:Operand}{lo hi:Option Operand}(hop:o.op=.slice t x lo hi none) (hA:act P Γ o ev ob=A) (hs:A.safe):ActOk P Γ o ev ob A:=by
 have hx:x∈o.op.operands.toList:=by simp[hop,Op.operands]
 have hlo:∀ y,lo=some y->y∈o.op.operands.toList:=λ y e=>by subst e;simp[hop,Op.operands]
 have hhi:∀ y,hi=some y->y∈o.op.operands.toList:=λ y e=>by subst e;simp[hop,Op.operands]
 have hc:∀ ev' ob',(∀ x∈o.op.operands.toList,ev' x=ev x)->act P Γ o ev' ob'=A:=λ ev' ob' he=>by
  have e1:zyR ev' lo=zyR ev lo:=by
   cases lo with
   | none=>rfl
   | some y=>simp only[zyR,he y (hlo y rfl)]
  have e2:zyR ev' hi=zyR ev hi:=by
   cases hi with
   | none=>rfl
   | some y=>simp only[zyR,he y (hhi y rfl)]
  rw[<- hA];simp only[act,hop,he x hx,e1,e2]
 simp only[act,hop,zlQ] at hA
 split at hA
 ·split at hA
  ·split at hA
   ·subst hA
    exact ActOk.pchk (λ L hL=>by simp[dvV,d1V,clV] at hL) λ ev' ob' he _=>hc ev' ob' he
   ·exact dq9 hA hs
  ·exact dq9 hA hs
 ·exact dq9 hA hs

theorem zt8 {d:D1} : ∀ L,L∈d1V d->L∈zb3 d:=by
 intro L hL
 cases d with
 | c y=>exact zt5 L hL
 | agg cs =>
  obtain⟨c,hc,hL⟩:=dqo.1 hL
  exact dqo.2 ⟨c,hc,zt5 L hL⟩

theorem zmM {q:MQ}{kd:DV}{ok:Bool}{F:List Int->Option (List Int)}{fin:DV->OpAct}(hA:found q kd ok F fin=A) (hs:A.safe):∃ d,(∀ M∈dvV d,False)/\fin d=A:=by
 unfold found at hA
 split at hA
 ·split at hA
  ·rename_i d hdv
   have hV:∀ M,M∈d1V d->False:=λ M hM=>by have:=zt8 M hM;rw[zlV hdv] at this;simp at this
   cases ok with
   | true =>
    refine⟨_,λ M hM=>?_,hA⟩
    simp only[dvV,dqJ,List.flatMap_nil,List.append_nil,dqg] at hM
    rcases hM with hM | hM
    ·exact hV M hM
    ·simp[d1V,clV] at hM
   | false=>exact⟨.one d,λ M hM=>hV M hM,hA⟩
  ·exact dq9 hA hs
 ·exact dq9 hA hs

theorem zAA {t:TypeId}{x y:Operand}{k:Bool}(hop:o.op=.lookup t x y k) (hA:act P Γ o ev ob=A) (hs:A.safe):ActOk P Γ o ev ob A:=by
 have hx:x∈o.op.operands.toList:=by simp[hop,Op.operands]
 have hy:y∈o.op.operands.toList:=by simp[hop,Op.operands]
 have hc0:∀ ev' ob',(∀ x∈o.op.operands.toList,ev' x=ev x)->act P Γ o ev' ob'=match zHh (ev x) with | true=>zn9 P t (ev x) (ev y) k ob' | false=>zgV P t (ev x) (ev y) k:=λ ev' ob' he=>by
  simp only[act,hop,he x hx,he y hy]
  cases zHh (ev x) <;> rfl
 cases hmo:zHh (ev x) with
 | true =>
  rw[hc0 ev ob (λ _ _=>rfl),hmo] at hA
  have hc1:∀ ev' ob',(∀ x∈o.op.operands.toList,ev' x=ev x)->act P Γ o ev' ob'=zn9 P t (ev x) (ev y) k ob':=λ ev' ob' he=>by rw[hc0 ev' ob' he,hmo]
  simp only at hA
  unfold zn9 at hA hc1
  split at hA
  ·rename_i kt vt L hu hex
   split at hA
   ·rename_i q kt' vt' q' n F hE hL
    split at hA
    ·rename_i hcond
     obtain⟨d,hd,e⟩:=zmM hA hs
     subst e
     refine ActOk.pure (λ M hM=>(hd M hM).elim) λ ev' ob' he hob=>?_
     rw[hc1 ev' ob' he]
     have:=hob (L,false) (by simp);simp only at this
     simp only[hu,hex,this,hL,hE,if_pos hcond]
     exact hA
    ·exact dq9 hA hs
   ·exact dq9 hA hs
  ·rename_i kt vt L i hu hex
   split at hA
   ·rename_i q te bb kt' vt' q' n mk nn F hE hL
    split at hA
    ·rename_i hcond
     obtain⟨d,hd,e⟩:=zmM hA hs
     subst e
     refine ActOk.pchk (λ M hM=>(hd M hM).elim) λ ev' ob' he hob=>?_
     rw[hc1 ev' ob' he]
     have:=hob (L,false) (by simp);simp only at this
     simp only[hu,hex,this,hL,hE,if_pos hcond]
     exact hA
    ·exact dq9 hA hs
   ·exact dq9 hA hs
  ·rename_i kt vt q' n F hu hex
   split at hA
   ·rename_i q hE
    split at hA
    ·rename_i hcond
     obtain⟨d,hd,e⟩:=zmM hA hs
     subst e
     refine ActOk.pure (λ M hM=>(hd M hM).elim) λ ev' ob' he hob=>?_
     rw[hc1 ev' ob' he]
     simp only[hu,hex,hE,if_pos hcond]
     exact hA
    ·exact dq9 hA hs
   ·exact dq9 hA hs
  ·exact dq9 hA hs
 | false =>
 have hc:∀ ev' ob',(∀ x∈o.op.operands.toList,ev' x=ev x)->act P Γ o ev' ob'=A:=λ ev' ob' he=>by
  rw[<- hA,hc0 ev' ob' he,hc0 ev ob (λ _ _=>rfl),hmo]
 rw[hc0 ev ob (λ _ _=>rfl),hmo] at hA
 simp only[zgV] at hA
 split at hA
 ·split at hA
  ·rename_i F j _ _ _ _ _
   subst hA
   refine⟨λ x hx=>by simp[OpAct.u] at hx,.inl rfl,λ x hx=>by simp[OpAct.u] at hx,λ d hd L hL=>?_,λ ev' ob' he _=>hc ev' ob' he⟩
   simp only[OpAct.gives] at hd
   obtain⟨q,rfl⟩:=hd
   have:∀ l:List Int,(zEX q l).flatMap clV=[]:=by
    intro l
    induction l with
    | nil=>rfl
    | cons x l ih=>simp[zEX,clV,ih]
   simp[dvV,d1V,clV,this] at hL
  ·exact dq9 hA hs
 ·exact dq9 hA hs

theorem zrD {t:TypeId}{x y z:Operand}(hop:o.op=.mapUpdate t x y z) (hA:act P Γ o ev ob=A) (hs:A.safe):ActOk P Γ o ev ob A:=by
 have hx:x∈o.op.operands.toList:=by simp[hop,Op.operands]
 have hy:y∈o.op.operands.toList:=by simp[hop,Op.operands]
 have hz:z∈o.op.operands.toList:=by simp[hop,Op.operands]
 have hc0:∀ ev' ob',(∀ x∈o.op.operands.toList,ev' x=ev x)->act P Γ o ev' ob'=match zHh (ev x) with | true=>zyQ P t (ev x) (ev y) (ev z) ob' | false=>zgW P t (ev x) (ev y) (ev z):=λ ev' ob' he=>by
  simp only[act,hop,he x hx,he y hy,he z hz]
  cases zHh (ev x) <;> rfl
 cases hmo:zHh (ev x) with
 | true =>
  rw[hc0 ev ob (λ _ _=>rfl),hmo] at hA
  have hc1:∀ ev' ob',(∀ x∈o.op.operands.toList,ev' x=ev x)->act P Γ o ev' ob'=zyQ P t (ev x) (ev y) (ev z) ob':=λ ev' ob' he=>by rw[hc0 ev' ob' he,hmo]
  simp only at hA
  unfold zyQ at hA hc1
  split at hA
  ·rename_i kt vt L hu hex
   split at hA
   ·rename_i q kt' vt' q' n F hE hL
    split at hA
    ·rename_i c dv hck hez
     split at hA
     ·rename_i l hl
      split at hA
      ·rename_i hcond
       have hcc:∀ ev' ob',(∀ x∈o.op.operands.toList,ev' x=ev x)->(∀ y∈[(L,true)],ob' y.1=ob y.1)->act P Γ o ev' ob'=A:=λ ev' ob' he hob=>by
        rw[hc1 ev' ob' he]
        have:=hob (L,true) (by simp);simp only at this
        simp only[hu,hex,this,hL,hE,hck,hez,hl,if_pos hcond]
        exact hA
       subst hA
       refine⟨λ x hx=>?_,.inl rfl,λ x hx M hM=>?_,λ d' hd' M hM=>?_,λ ev' ob' he hob=>hcc ev' ob' he hob⟩
       ·simp only[OpAct.u,dqi] at hx;subst hx;simp[OpAct.fp]
       ·simp only[OpAct.u,dqi] at hx;subst hx;simp[aoV] at hM
       ·simp only[OpAct.gives] at hd';subst hd';simp[dvV,d1V,clV] at hM
      ·exact dq9 hA hs
     ·exact dq9 hA hs
    ·exact dq9 hA hs
   ·exact dq9 hA hs
  ·rename_i kt vt L i hu hex
   split at hA
   ·rename_i q te bb kt' vt' q' n mk nn F hE hL
    split at hA
    ·rename_i c dv hck hez
     split at hA
     ·rename_i l hl
      split at hA
      ·rename_i hcond
       have hcc:∀ ev' ob',(∀ x∈o.op.operands.toList,ev' x=ev x)->(∀ y∈[(L,true)],ob' y.1=ob y.1)->act P Γ o ev' ob'=A:=λ ev' ob' he hob=>by
        rw[hc1 ev' ob' he]
        have:=hob (L,true) (by simp);simp only at this
        simp only[hu,hex,this,hL,hE,hck,hez,hl,if_pos hcond]
        exact hA
       subst hA
       refine⟨λ x hx=>?_,.inl rfl,λ x hx M hM=>?_,λ d' hd' M hM=>?_,λ ev' ob' he hob=>hcc ev' ob' he hob⟩
       ·simp only[OpAct.u,dqi] at hx;subst hx;simp[OpAct.fp]
       ·simp only[OpAct.u,dqi] at hx;subst hx;simp[aoV] at hM
       ·simp only[OpAct.gives] at hd';subst hd';simp[dvV,d1V,clV] at hM
      ·exact dq9 hA hs
     ·exact dq9 hA hs
    ·exact dq9 hA hs
   ·exact dq9 hA hs
  ·exact dq9 hA hs
 | false =>
 have hc:∀ ev' ob',(∀ x∈o.op.operands.toList,ev' x=ev x)->act P Γ o ev' ob'=A:=λ ev' ob' he=>by
  rw[<- hA,hc0 ev' ob' he,hc0 ev ob (λ _ _=>rfl),hmo]
 rw[hc0 ev ob (λ _ _=>rfl),hmo] at hA
 simp only[zgW] at hA
 split at hA
 ·split at hA
  ·subst hA
   exact ActOk.pchk (λ L hL=>by simp[dvV,d1V,clV] at hL) λ ev' ob' he _=>hc ev' ob' he
  ·exact dq9 hA hs
 ·exact dq9 hA hs

theorem zzb {t:TypeId}(hop:o.op=.makeMap t none) (hA:act P Γ o ev ob=A) (hs:A.safe):ActOk P Γ o ev ob A:=by
 cases hv:zNP Γ o.dst with
 | true =>
  simp only[act,hop,hv] at hA
  split at hA
  ·rename_i kt vt hu
   split at hA
   ·rename_i q hE
    exact zpr (ao:=.mo kt vt q 0 (λ _=>none)) (d:=λ t=>.cl (.mo t)) (λ L hL=>by simp[aoV] at hL) (λ t L hL=>by simpa [dvV,d1V,clV] using hL) (λ ev' ob' _=>by simp only[act,hop,hv,hu,hE]) hA hs
   ·exact dq9 hA hs
  ·exact dq9 hA hs
 | false =>
 have hc:∀ ev' ob',act P Γ o ev' ob'=A:=λ ev' ob'=>by rw[<- hA];simp only[act,hop,hv]
 simp only[act,hop,hv] at hA
 split at hA
 ·split at hA
  ·subst hA;exact ActOk.pchk (zc7 _) λ ev' ob' _ _=>hc ev' ob'
  ·exact dq9 hA hs
 ·exact dq9 hA hs

theorem zJl {op:UnOp}{t:TypeId}{x:Operand}(hop:o.op=.unOp op t x) (hA:act P Γ o ev ob=A) (hs:A.safe):ActOk P Γ o ev ob A:=by
 have hx:x∈o.op.operands.toList:=by simp[hop,Op.operands]
 simp only[act,hop] at hA
 split at hA
 ·rename_i h; subst hA
  exact ActOk.pure (zc7 _) λ ev' ob' he _=>by simp only[act,hop,he x hx,h]
 ·rename_i h; subst hA
  exact ActOk.pure (zc7 _) λ ev' ob' he _=>by simp only[act,hop,he x hx,h]
 ·exact dq9 hA hs

theorem zrE {t:TypeId}{x:Operand}{f:Nat}(hop:o.op=.fieldAddr t x f) (hA:act P Γ o ev ob=A) (hs:A.safe):ActOk P Γ o ev ob A:=by
 have hx:x∈o.op.operands.toList:=by simp[hop,Op.operands]
 simp only[act,hop] at hA
 split at hA
 ·rename_i off hf
  split at hA
  ·rename_i h; subst hA
   exact ActOk.pure (zd0 hx λ L hL=>by rw[h];exact hL) λ ev' ob' he _=>by simp only[act,hop,he x hx,h,hf]
  ·rename_i h; subst hA
   exact ActOk.pure (zd0 hx λ L hL=>by rw[h];exact hL) λ ev' ob' he _=>by simp only[act,hop,he x hx,h,hf]
  ·rename_i h; subst hA
   exact ActOk.pure (zd0 hx λ L hL=>by rw[h];exact hL) λ ev' ob' he _=>by simp only[act,hop,he x hx,h,hf]
  ·rename_i h; subst hA
   exact ActOk.pure (zd0 hx λ L hL=>by rw[h];exact hL) λ ev' ob' he _=>by simp only[act,hop,he x hx,h,hf]
  ·rename_i h; subst hA
   exact ActOk.pure (zd0 hx λ L hL=>by rw[h];exact hL) λ ev' ob' he _=>by simp only[act,hop,he x hx,h,hf]
  ·rename_i h; subst hA
   exact ActOk.pure (zd0 hx λ L hL=>by rw[h];exact hL) λ ev' ob' he _=>by simp only[act,hop,he x hx,h,hf]
  ·rename_i h; subst hA
   exact ActOk.pure (zd0 hx λ L hL=>by rw[h];exact hL) λ ev' ob' he _=>by simp only[act,hop,he x hx,h,hf]
  ·exact dq9 hA hs
 ·exact dq9 hA hs

theorem zrF {t:TypeId}{x y:Operand}(hop:o.op=.indexAddr t x y) (hA:act P Γ o ev ob=A) (hs:A.safe):ActOk P Γ o ev ob A:=by
 have hx:x∈o.op.operands.toList:=by simp[hop,Op.operands]
 have hy:y∈o.op.operands.toList:=by simp[hop,Op.operands]
 simp only[act,hop] at hA
 split at hA
 ·rename_i e hu
  split at hA
  ·rename_i n k j hn hj
   split at hA
   ·rename_i len s get hex
    split at hA
    ·rename_i hs'; subst hA
     exact ActOk.pchk (zc7 _) λ ev' ob' he _=>by simp only[act,hop,he x hx,he y hy,hex,hu,hn,hj,hs',if_true]
    ·exact dq9 hA hs
   ·rename_i L hex
    split at hA
    ·rename_i e' s b len get hL
     split at hA
     ·rename_i hs'; subst hA
      refine ActOk.pchk (λ M hM=>.inl (.inl ⟨x,hx,?_⟩)) λ ev' ob' he hob=>?_
      ·rw[hex];exact hM
      have e:=hob (L,false) (by simp);simp only at e
      simp only[act,hop,he x hx,he y hy,hex,hu,hn,hj,e,hL,hs',if_true]
     ·exact dq9 hA hs
    ·rename_i s len get hL
     split at hA
     ·rename_i hs'; subst hA
      refine ActOk.pchk (zc7 _) λ ev' ob' he hob=>?_
      have e:=hob (L,false) (by simp);simp only at e
      simp only[act,hop,he x hx,he y hy,hex,hu,hn,hj,e,hL,hs',if_true]
     ·exact dq9 hA hs
    ·rename_i hL
     split at hA
     ·rename_i hs'; subst hA
      refine ActOk.pchk (λ M hM=>.inl (.inl ⟨x,hx,?_⟩)) λ ev' ob' he hob=>?_
      ·rw[hex];exact hM
      have e:=hob (L,false) (by simp);simp only at e
      simp only[act,hop,he x hx,he y hy,hex,hu,hn,hj,e,hL,hs',if_true]
     ·exact dq9 hA hs
    ·rename_i hL
     split at hA
     ·rename_i hs'; subst hA
      refine ActOk.pchk (λ M hM=>.inl (.inl ⟨x,hx,?_⟩)) λ ev' ob' he hob=>?_
      ·rw[hex];exact hM
      have e:=hob (L,false) (by simp);simp only at e
      simp only[act,hop,he x hx,he y hy,hex,hu,hn,hj,e,hL,hs',if_true]
     ·exact dq9 hA hs
    ·exact dq9 hA hs
   ·rename_i L i hex
    split at hA
    ·rename_i hL
     split at hA
     ·rename_i hs'; subst hA
      refine ActOk.pchk (λ M hM=>.inl (.inl ⟨x,hx,?_⟩)) λ ev' ob' he hob=>?_
      ·rw[hex];exact hM
      have e:=hob (L,false) (by simp);simp only at e
      simp only[act,hop,he x hx,he y hy,hex,hu,hn,hj,e,hL,hs',if_true]
     ·exact dq9 hA hs
    ·exact dq9 hA hs
   ·exact dq9 hA hs
  ·exact dq9 hA hs
 ·rename_i m e hu
  have hc:∀ ev' ob',(∀ x∈o.op.operands.toList,ev' x=ev x)->act P Γ o ev' ob'=A:=λ ev' ob' he=>by
   simp only[act,hop,hu,he x hx,he y hy];exact hA
  unfold zlP at hA
  split at hA
  ·split at hA
   ·split at hA
    ·subst hA;exact ActOk.pchk (λ L hL=>by simp[dvV,d1V,clV] at hL) λ ev' ob' he _=>hc ev' ob' he
    ·subst hA;exact ActOk.pchk (λ L hL=>by simp[dvV,d1V,clV] at hL) λ ev' ob' he _=>hc ev' ob' he
    ·rename_i h;subst hA;exact ActOk.pchk (λ M hM=>.inl (.inl ⟨x,hx,by rw[h];exact hM⟩)) λ ev' ob' he _=>hc ev' ob' he
    ·exact dq9 hA hs
   ·exact dq9 hA hs
  ·split at hA
   ·split at hA
    ·split at hA
     ·rename_i h;subst hA;exact ActOk.pure (zd0 hx λ L hL=>by simp[dvV,d1V,clV] at hL) λ ev' ob' he _=>hc ev' ob' he
     ·rename_i h;subst hA;exact ActOk.pure (zc7 _) λ ev' ob' he _=>hc ev' ob' he
     ·exact dq9 hA hs
    ·exact dq9 hA hs
   ·exact dq9 hA hs
 ·exact dq9 hA hs

theorem zzc {x:Operand}{k:Nat}(hop:o.op=.extract x k) (hA:act P Γ o ev ob=A) (hs:A.safe):ActOk P Γ o ev ob A:=by
 have hx:x∈o.op.operands.toList:=by simp[hop,Op.operands]
 simp only[act,hop] at hA
 split at hA
 ·rename_i ds h
  split at hA
  ·rename_i d hd; subst hA
   refine ActOk.pure (zd0 hx λ L hL=>?_) λ ev' ob' he _=>by simp only[act,hop,he x hx,h,hd]
   rw[h];exact dqo.2 ⟨d,dqx hd,hL⟩
  ·exact dq9 hA hs
 ·exact dq9 hA hs

theorem zhS {c:Callee}{args:Array Operand}{ts:Array TypeId}(hop:o.op=.call { callee:=c,args,argTypes:=ts }):∀ x∈args.toList,x∈o.op.operands.toList:=by
 intro x hx
 simp only[hop,Op.operands]
 cases c <;> simp[Call.operands] <;> simp at hx <;> first | exact hx | exact .inr hx

theorem zOi {b:Builtin}{args:Array Operand}{ts:Array TypeId}(hb:b=.max\/b=.min) (hop:o.op=.call { callee:=.builtin b,args,argTypes:=ts }) (hA:act P Γ o ev ob=A) (hs:A.safe):ActOk P Γ o ev ob A:=by
 have hm:=zhS hop
 have hmap:∀ ev':Operand->DV,(∀ x∈o.op.operands.toList,ev' x=ev x)->args.toList.map ev'=args.toList.map ev:=λ ev' he=>List.map_congr_left λ x hx=>he x (hm x hx)
 rcases hb with rfl | rfl <;> simp only[act,hop] at hA <;> split at hA
 ·rename_i h;subst hA;exact ActOk.pure (zc7 _) λ ev' ob' he _=>by simp only[act,hop,hmap ev' he,h]
 ·exact dq9 hA hs
 ·rename_i h;subst hA;exact ActOk.pure (zc7 _) λ ev' ob' he _=>by simp only[act,hop,hmap ev' he,h]
 ·exact dq9 hA hs

theorem zOj {args:Array Operand}{ts:Array TypeId}(hop:o.op=.call { callee:=.builtin .len,args,argTypes:=ts }) (hA:act P Γ o ev ob=A) (hs:A.safe):ActOk P Γ o ev ob A:=by
 have hm:=zhS hop
 simp only[act,hop] at hA
 split at hA
 ·rename_i x t hargs ht
  have hx:x∈o.op.operands.toList:=hm x (by rw[hargs];simp)
  split at hA
  ·rename_i e hu
   split at hA
   ·rename_i h;subst hA;exact ActOk.pure (zc7 _) λ ev' ob' he _=>by simp only[act,hop,hargs,ht,hu,he x hx,h]
   ·rename_i h;subst hA;exact ActOk.pure (zc7 _) λ ev' ob' he _=>by simp only[act,hop,hargs,ht,hu,he x hx,h]
   ·rename_i L h
    split at hA
    ·rename_i hL; subst hA
     refine ActOk.pure (zc7 _) λ ev' ob' he hob=>?_
     have e:=hob (L,false) (by simp);simp only at e
     simp only[act,hop,hargs,ht,hu,he x hx,h,e,hL]
    ·rename_i hL; subst hA
     refine ActOk.pure (zc7 _) λ ev' ob' he hob=>?_
     have e:=hob (L,false) (by simp);simp only at e
     simp only[act,hop,hargs,ht,hu,he x hx,h,e,hL]
    ·rename_i hL; subst hA
     refine ActOk.pure (zc7 _) λ ev' ob' he hob=>?_
     have e:=hob (L,false) (by simp);simp only at e
     simp only[act,hop,hargs,ht,hu,he x hx,h,e,hL]
    ·rename_i hL; subst hA
     refine ActOk.pure (zc7 _) λ ev' ob' he hob=>?_
     have e:=hob (L,false) (by simp);simp only at e
     simp only[act,hop,hargs,ht,hu,he x hx,h,e,hL]
    ·exact dq9 hA hs
   ·rename_i L i h
    split at hA
    ·rename_i hL; subst hA
     refine ActOk.pchk (zc7 _) λ ev' ob' he hob=>?_
     have e:=hob (L,false) (by simp);simp only at e
     simp only[act,hop,hargs,ht,hu,he x hx,h,e,hL]
    ·exact dq9 hA hs
   ·exact dq9 hA hs
  ·rename_i kt vt hu
   split at hA
   ·rename_i L h
    split at hA
    ·rename_i hL; subst hA
     refine ActOk.pure (zc7 _) λ ev' ob' he hob=>?_
     have e:=hob (L,false) (by simp);simp only at e
     simp only[act,hop,hargs,ht,hu,he x hx,h,e,hL]
    ·exact dq9 hA hs
   ·rename_i h; subst hA
    exact ActOk.pure (zc7 _) λ ev' ob' he _=>by simp only[act,hop,hargs,ht,hu,he x hx,h]
   ·exact dq9 hA hs
  ·exact dq9 hA hs
 ·exact dq9 hA hs

theorem zzd {d:DV}{T:Nat}(h:zjZ d ob=some T):d=.one (.c (.vec T))/\∃ a1 a2 a3 a4 a5 a6 a7 a8,ob T=some (.vv a1 a2 a3 a4 a5 a6 a7 a8):=by
 unfold zjZ at h
 split at h
 ·split at h
  ·rename_i hT
   simp only[dqa] at h;subst h
   exact⟨rfl,_,_,_,_,_,_,_,_,hT⟩
  ·cases h
 ·cases h

def zlp (d:DV) (ob:Nat->Option AO):Option (Nat×Nat×(Nat->List PV)×List (Nat×Bool)) :=
 match d with
 | .one (.c (.p (.sl n sz get)))=>some (n,sz,get,[])
 | .one (.c (.vec M))=>match ob M with
  | some (.vec _ sz _ n get)=>some (n,sz,get,[(M,false)])
  | some (.fvec sz n get)=>some (n,sz,get,[(M,false)])
  | _=>none
 | _=>none
theorem zrG {d : DV} {ob' : Nat → Option AO} {m sz : Nat} {new : Nat → List PV} {fps : List (Nat × Bool)} (h : zlp d ob = some (m, sz, new, fps)) (hob : ∀ y ∈ fps, ob' y.1 = ob y.1) :
  zlp d ob'=some (m,sz,new,fps):=by
 unfold zlp at h ⊢
 split at h
 ·exact h
 ·rename_i M
  split at h
  ·rename_i hM
   have h':=h
   simp only[dqa,dqh] at h
   have e:=hob (M,false) (by rw[<- h.2.2.2];simp);simp only at e
   rw[e,hM];exact h'
  ·rename_i hM
   have h':=h
   simp only[dqa,dqh] at h
   have e:=hob (M,false) (by rw[<- h.2.2.2];simp);simp only at e
   rw[e,hM];exact h'
  ·cases h
 ·cases h

theorem zze {d:DV}{ob':Nat->Option AO}{m sz:Nat}{new:Nat->List PV}{fps:List (Nat×Bool)}(h:zlp d ob=some (m,sz,new,fps)) (hob:∀ y∈fps,ob' y.1=ob y.1):zjZ d ob'=none:=by
 unfold zlp at h
 split at h
 ·rfl
 ·rename_i M
  split at h
  ·rename_i hM
   simp only[dqa,dqh] at h
   have e:=hob (M,false) (by rw[<- h.2.2.2];simp);simp only at e
   simp only[zjZ,e,hM]
  ·rename_i hM
   simp only[dqa,dqh] at h
   have e:=hob (M,false) (by rw[<- h.2.2.2];simp);simp only at e
   simp only[zjZ,e,hM]
  ·cases h
 ·cases h

theorem zt9 {s x : Operand} {e : TypeId} {ie : TypeInfo} {T : Nat} (hsm : s ∈ o.op.operands.toList) (hx : x ∈ o.op.operands.toList) (hT0 : zjZ (ev x) ob = some T)
    (hc:∀ ev' ob',ev' x=ev x->zjZ (ev' x) ob'=some T->act P Γ o ev' ob'=ze1 o e ie (ev' s) T ob') (hA:ze1 o e ie (ev s) T ob=A) (hs:A.safe):ActOk P Γ o ev ob A:=by
  obtain⟨hxT,a1,a2,a3,a4,a5,a6,a7,a8,hTT⟩:=zzd hT0
  unfold ze1 at hA
  split at hA
  · rename_i hT
    split at hA
    · rename_i L hes
      split at hA
      · rename_i hL
        split at hA
        · rename_i hif
          subst hA
          refine⟨λ z hz=>?_,.inr ⟨L,rfl,by simp[OpAct.fp]⟩,λ z hz M hM=>?_,λ d' hd' M hM=>?_,λ ev' ob' he hob=>?_⟩
          · simp only [OpAct.u, dqq, List.not_mem_nil, or_false] at hz
            rcases hz with rfl | rfl <;> simp[OpAct.fp]
          · simp only [OpAct.u, dqq, List.not_mem_nil, or_false] at hz
            rcases hz with rfl | rfl <;> simp[aoV] at hM
          · simp only [OpAct.gives] at hd'; subst hd'
            simp only[dvV,d1V,clV,dqi] at hM;subst hM
            exact .inr (by simp[OpAct.fp])
          · have e1 := hob (L, true) (by simp [OpAct.fp])
            have e2:=hob (T,true) (by simp[OpAct.fp])
            simp only at e1 e2
            rw[hc ev' ob' (he x hx) (by rw[he x hx,hxT];simp only[zjZ,e2,hTT])]
            simp only[ze1,he s hsm,hes,e1,e2,hL,hT]
            rw[if_pos hif]
        · exact dq9 hA hs
      · exact dq9 hA hs
    · exact dq9 hA hs
  · exact dq9 hA hs

theorem zOk {args:Array Operand}{ts:Array TypeId}(hop:o.op=.call { callee:=.builtin .delete,args,argTypes:=ts }) (hA:act P Γ o ev ob=A) (hs:A.safe):ActOk P Γ o ev ob A:=by
 have hm:=zhS hop
 have hmap:∀ ev':Operand->DV,(∀ x∈o.op.operands.toList,ev' x=ev x)->args.toList.map ev'=args.toList.map ev:=λ ev' he=>List.map_congr_left λ x hx=>he x (hm x hx)
 have hc1:∀ ev' ob',(∀ x∈o.op.operands.toList,ev' x=ev x)->act P Γ o ev' ob'=zq0 P (args.toList.map ev) ts.toList ob':=λ ev' ob' he=>by simp only[act,hop,hmap ev' he]
 rw[hc1 ev ob (λ _ _=>rfl)] at hA
 unfold zq0 at hA hc1
 split at hA
 ·rename_i L k t t' hargs hts
  split at hA
  ·rename_i kt vt hu
   split at hA
   ·rename_i q kt' vt' q' n F hE hL
    split at hA
    ·rename_i c hck
     split at hA
     ·rename_i hcond
      have hcc:∀ ev' ob',(∀ x∈o.op.operands.toList,ev' x=ev x)->(∀ y∈[(L,true)],ob' y.1=ob y.1)->act P Γ o ev' ob'=A:=λ ev' ob' he hob=>by
       rw[hc1 ev' ob' he]
       have:=hob (L,true) (by simp);simp only at this
       simp only[hargs,hts,hu,this,hL,hE,hck,if_pos hcond]
       exact hA
      subst hA
      refine⟨λ x hx=>?_,.inl rfl,λ x hx M hM=>?_,λ d' hd' M hM=>?_,λ ev' ob' he hob=>hcc ev' ob' he hob⟩
      ·simp only[OpAct.u,dqi] at hx;subst hx;simp[OpAct.fp]
      ·simp only[OpAct.u,dqi] at hx;subst hx;simp[aoV] at hM
      ·simp only[OpAct.gives] at hd';subst hd';simp[dvV] at hM
     ·exact dq9 hA hs
    ·exact dq9 hA hs
   ·exact dq9 hA hs
  ·exact dq9 hA hs
 ·exact dq9 hA hs

theorem zAB {args:Array Operand}{ts:Array TypeId}(hop:o.op=.call { callee:=.builtin .append,args,argTypes:=ts }) (hA:act P Γ o ev ob=A) (hs:A.safe):ActOk P Γ o ev ob A:=by
 have hm:=zhS hop
 have hA0:=hA
 simp only[act,hop] at hA
 split at hA
 ·rename_i s x t t' hargs ht
  have hsm:s∈o.op.operands.toList:=hm s (by rw[hargs];simp)
  have hx:x∈o.op.operands.toList:=hm x (by rw[hargs];simp)
  split at hA
  ·rename_i e dst hu htt hd
   split at hA
   ·rename_i ie z hie hz
    have hA2:(match zjZ (ev x) ob with
     | some T=>ze1 o e ie (ev s) T ob
     | none=>match zlp (ev x) ob with
      | some (m,sz,new,fps)=>(match ev s with
       | .one (.c (.vec L))=>match ob L with
        | some (.vec e' s' b' n get)=>if e'=e/\s'=ie.size/\b'=ie.bytes/\sz=s'/\0 < s'/\zby (ev x) ≠ [L] then
          .chk ((L,true) :: fps) ((n+m) * b'<=140737488355328/\n+m<=9223372036854775807) (.cl (.vec L)) [(L,.vec e s' b' (n+m) (appG n get new))] [L]
         else .no
        | _=>.no
       | .one (.c (.p .nils))=>match ob dst with
        | none=>if sz=ie.size/\0 < sz then
          .chk ((dst,true) :: fps) (m * ie.bytes<=140737488355328/\m<=9223372036854775807) (.cl (.vec dst)) [(dst,.vec e sz ie.bytes m new)] []
         else .no
        | some _=>.no
       | _=>.no)
      | none=>.no)=A:=hA
    clear hA
    have hcut:∀ (ev':Operand->DV) (ob':Nat->Option AO),act P Γ o ev' ob'=(match zjZ (ev' x) ob' with
     | some T=>ze1 o e ie (ev' s) T ob'
     | none=>match zlp (ev' x) ob' with
      | some (m,sz,new,fps)=>(match ev' s with
       | .one (.c (.vec L))=>match ob' L with
        | some (.vec e' s' b' n get)=>if e'=e/\s'=ie.size/\b'=ie.bytes/\sz=s'/\0 < s'/\zby (ev' x) ≠ [L] then
          .chk ((L,true) :: fps) ((n+m) * b'<=140737488355328/\n+m<=9223372036854775807) (.cl (.vec L)) [(L,.vec e s' b' (n+m) (appG n get new))] [L]
         else .no
        | _=>.no
       | .one (.c (.p .nils))=>match ob' dst with
        | none=>if sz=ie.size/\0 < sz then
          .chk ((dst,true) :: fps) (m * ie.bytes<=140737488355328/\m<=9223372036854775807) (.cl (.vec dst)) [(dst,.vec e sz ie.bytes m new)] []
         else .no
        | some _=>.no
       | _=>.no)
      | none=>.no):=by
     intro ev' ob'
     simp only[act,hop,hargs,ht,hu,htt,hd,hie,hz]
     rfl
    split at hA2
    ·rename_i T hT
     exact zt9 hsm hx hT (λ ev' ob' he hT'=>by rw[hcut,hT']) hA2 hs
    rename_i hVn
    have hA:=hA2
    split at hA
    ·rename_i m sz new fps hsrc
     have hvn':∀ (ev':Operand->DV) (ob':Nat->Option AO),(∀ x∈o.op.operands.toList,ev' x=ev x)->(∀ y∈fps,ob' y.1=ob y.1)->zjZ (ev' x) ob'=none:=by
      intro ev' ob' he hob
      rw[he x hx];exact zze hsrc hob
     -- the source looks only at what fps names
     have src':∀ (ev':Operand->DV) (ob':Nat->Option AO),(∀ x∈o.op.operands.toList,ev' x=ev x)->(∀ y∈fps,ob' y.1=ob y.1) ->
       zlp (ev' x) ob'=some (m,sz,new,fps):=by
      intro ev' ob' he hob
      rw[he x hx]
      exact zrG hsrc hob
     split at hA
     ·rename_i L hes
      split at hA
      ·rename_i e' s' b' n' get' hL
       split at hA
       ·rename_i hif
        subst hA
        refine⟨λ z hz=>?_,.inr ⟨L,rfl,by simp[OpAct.fp]⟩,λ z hz M hM=>?_,λ d' hd' M hM=>?_,λ ev' ob' he hob=>?_⟩
        ·simp only[OpAct.u,dqi] at hz;subst hz;simp[OpAct.fp]
        ·simp only[OpAct.u,dqi] at hz;subst hz;simp[aoV] at hM
        ·simp only [OpAct.gives] at hd'; subst hd'
         simp only[dvV,d1V,clV,dqi] at hM;subst hM
         exact .inr (by simp[OpAct.fp])
        ·have e1 := src' ev' ob' he (fun y hy => hob y (dqf _ hy))
         have e2:=hob (L,true) (by simp[OpAct.fp]);simp only at e2
         rw[hcut,hvn' ev' ob' he (λ y hy=>hob y (dqf _ hy))]
         simp only[]
         rw[e1]
         simp only[he s hsm,he x hx,hes,e2,hL]
         rw[if_pos hif]
       ·exact dq9 hA hs
      ·exact dq9 hA hs
     ·rename_i hes
      split at hA
      ·rename_i hn
       split at hA
       ·rename_i hif
        subst hA
        refine⟨λ z hz=>?_,.inl rfl,λ z hz M hM=>?_,λ d' hd' M hM=>?_,λ ev' ob' he hob=>?_⟩
        ·simp only[OpAct.u,dqi] at hz;subst hz;simp[OpAct.fp]
        ·simp only[OpAct.u,dqi] at hz;subst hz;simp[aoV] at hM
        ·simp only [OpAct.gives] at hd'; subst hd'
         simp only[dvV,d1V,clV,dqi] at hM;subst hM
         exact .inr (by simp[OpAct.fp])
        ·have e1 := src' ev' ob' he (fun y hy => hob y (dqf _ hy))
         have e2:=hob (dst,true) (by simp[OpAct.fp]);simp only at e2
         rw[hcut,hvn' ev' ob' he (λ y hy=>hob y (dqf _ hy))]
         simp only[]
         rw[e1]
         simp only[he s hsm,hes,e2,hn]
         rw[if_pos hif]
       ·exact dq9 hA hs
      ·exact dq9 hA hs
     ·exact dq9 hA hs
    ·exact dq9 hA hs
   ·exact dq9 hA hs
  ·exact dq9 hA hs
 ·exact dq9 hA hs

theorem zOl (x:PA):d1V (paD x)=[]:=by
 cases x with
 | one p=>rfl
 | agg cs=>exact zxd cs
theorem zjw (rs:List PA):dvV (resD rs)=[]:=by
 have tup:∀ l:List PA,dvV (.tup (l.map paD))=[]:=by
  intro l
  induction l with
  | nil=>rfl
  | cons x l ih=>simp only[dqK,dvV,dqJ,zOl,List.nil_append] at ih ⊢;exact ih
 match rs with
 | []=>exact tup _
 | [x]=>exact zOl x
 | x :: y :: l=>exact tup _

theorem zOm {k : OwnK} {args : Array Operand} {c : Callee} {ts : Array TypeId} (hop : o.op = .call { callee := c, args, argTypes := ts })
    (hc:∀ ev' ob',(∀ x∈o.op.operands.toList,ev' x=ev x)->act P Γ o ev' ob'=zf4 P Γ o k (args.toList.map ev') ob') (hA:zf4 P Γ o k (args.toList.map ev) ob=A) (hs:A.safe):ActOk P Γ o ev ob A:=by
  have hm:=zhS hop
  have hmap:∀ ev':Operand->DV,(∀ x∈o.op.operands.toList,ev' x=ev x)->args.toList.map ev'=args.toList.map ev:=λ ev' he=>List.map_congr_left λ x hx=>he x (hm x hx)
  unfold zf4 at hA
  split at hA
  · exact dq9 hA hs
  · split at hA
    · rename_i L hf caps hargs
      split at hA
      · rename_i hL hag
        split at hA
        · rename_i hif
          subst hA
          refine⟨λ z hz=>?_,.inl rfl,λ z hz M hM=>?_,λ d' hd' M hM=>?_,λ ev' ob' he hob=>?_⟩
          · simp only[OpAct.u,dqi] at hz;subst hz;simp[OpAct.fp]
          · simp only[OpAct.u,dqi] at hz;subst hz;simp[aoV] at hM
          · simp only[OpAct.gives] at hd';subst hd';simp[dvV] at hM
          · have e2 := hob (L, true) (by simp [OpAct.fp]); simp only at e2
            rw[hc ev' ob' he,hmap ev' he]
            simp only[zf4,hargs,e2,hL,hag]
            rw[if_pos hif]
        · exact dq9 hA hs
      · exact dq9 hA hs
    · exact dq9 hA hs
  · split at hA
    · rename_i dst hargs hd
      split at hA
      · rename_i hn hi hz
        split at hA
        · rename_i hif
          subst hA
          refine⟨λ z hz=>?_,.inl rfl,λ z hz M hM=>?_,λ d' hd' M hM=>?_,λ ev' ob' he hob=>?_⟩
          · simp only[OpAct.u,dqi] at hz;subst hz;simp[OpAct.fp]
          · simp only[OpAct.u,dqi] at hz;subst hz;simp[aoV] at hM
          · simp only [OpAct.gives] at hd'; subst hd'
            simp only[dvV,d1V,clV,dqi] at hM;subst hM
            exact .inr (by simp[OpAct.fp])
          · have e2 := hob (dst, true) (by simp [OpAct.fp]); simp only at e2
            rw[hc ev' ob' he,hmap ev' he]
            simp only[zf4,hargs,hd,e2,hn,hi,hz]
            rw[if_pos hif]
        · exact dq9 hA hs
      · exact dq9 hA hs
    · exact dq9 hA hs
  · split at hA
    · rename_i L hargs
      split at hA
      · rename_i hL
        subst hA
        refine ActOk.pure (λ M hM=>?_) λ ev' ob' he hob=>?_
        · have hin : DV.one (.c (.mo L)) ∈ args.toList.map ev := by rw [hargs]; simp
          obtain⟨y,hy,e⟩:=dqz.1 hin
          exact .inl (.inl ⟨y,hm y hy,by rw[e];simpa [dvV,d1V,clV] using hM⟩)
        have e2:=hob (L,false) (by simp);simp only at e2
        rw[hc ev' ob' he,hmap ev' he]
        simp only[zf4,hargs,e2,hL]
      · exact dq9 hA hs
    · exact dq9 hA hs
  · split at hA
    · rename_i it' L hargs
      split at hA
      · rename_i hL
        split at hA
        · rename_i hif
          subst hA
          refine ActOk.pchk (λ M hM=>by simp[dvV,d1V,clV] at hM) λ ev' ob' he hob=>?_
          have e2:=hob (L,false) (by simp);simp only at e2
          rw[hc ev' ob' he,hmap ev' he]
          simp only[zf4,hargs,e2,hL]
          rw[if_pos hif]
        · exact dq9 hA hs
      · exact dq9 hA hs
    · exact dq9 hA hs
  · split at hA
    · rename_i L hargs
      split at hA
      · rename_i hL
        split at hA
        · rename_i hif
          split at hA
          · subst hA
            refine⟨λ z hz=>?_,.inr ⟨L,rfl,by simp[OpAct.fp]⟩,λ z hz M hM=>?_,λ d' hd' M hM=>?_,λ ev' ob' he hob=>?_⟩
            · simp only[OpAct.u,dqi] at hz;subst hz;simp[OpAct.fp]
            · simp only[OpAct.u,dqi] at hz;subst hz;simp[aoV] at hM
            · simp only [OpAct.gives] at hd'; subst hd'
              simp only[dvV,d1V,clV,dqi] at hM;subst hM
              exact .inr (by simp[OpAct.fp])
            · have e2 := hob (L, true) (by simp [OpAct.fp]); simp only at e2
              rw[hc ev' ob' he,hmap ev' he]
              simp only[zf4,hargs,e2,hL]
              rw[if_pos hif]
          · subst hA
            refine⟨λ z hz=>?_,.inl rfl,λ z hz M hM=>?_,λ d' hd' M hM=>?_,λ ev' ob' he hob=>?_⟩
            · simp only[OpAct.u,dqi] at hz;subst hz;simp[OpAct.fp]
            · simp only[OpAct.u,dqi] at hz;subst hz;simp[aoV] at hM
            · simp only[OpAct.gives] at hd';subst hd';simp[dvV] at hM
            · have e2 := hob (L, true) (by simp [OpAct.fp]); simp only at e2
              rw[hc ev' ob' he,hmap ev' he]
              simp only[zf4,hargs,e2,hL]
              rw[if_pos hif]
        · exact dq9 hA hs
      · exact dq9 hA hs
    · exact dq9 hA hs
  · split at hA
    · rename_i az dst has hd
      split at hA
      · rename_i s b cells e hF hfresh
        subst hA
        refine⟨λ z hz=>?_,.inl rfl,λ z hz M hM=>?_,λ d' hd' M hM=>?_,λ ev' ob' he hob=>?_⟩
        · simp only[OpAct.u,dqi] at hz;subst hz;simp[OpAct.fp]
        · simp only [OpAct.u, dqi] at hz; subst hz
          simp only[aoV,dqo,dqz] at hM
          obtain⟨c,⟨v,_,rfl⟩,hM⟩:=hM
          simp[clV] at hM
        · rcases hd' with rfl | rfl <;> simp[dvV,d1V,clV] at hM
        · have e2 := hob (dst, true) (by simp [OpAct.fp]); simp only at e2
          rw[hc ev' ob' he,hmap ev' he]
          simp only[zf4,has,hd,e2,hF,hfresh]
      · exact dq9 hA hs
    · exact dq9 hA hs

theorem zpt {ob:Nat->Option AO} : ∀ {cells l:List Cl}{ys cs:List XC}{u:List (Nat×AO)}{ms:List Nat},zgP cells ys=some (l,u)->zed ob cells=some (cs,ms) ->
  u.map (·.1)=ms/\(∀ x∈u,aoV x.2=[])/\∀ L∈l.flatMap clV,L∈cells.flatMap clV
 | [],l,[],cs,u,ms,h,h2=>by
  simp only[zgP,dqa,dqh] at h;obtain⟨rfl,rfl⟩:=h
  simp only[zed,dqa,dqh] at h2;rw[<- h2.2]
  exact⟨rfl,λ x hx=>by simp at hx,λ L hL=>hL⟩
 | [],l,_ :: _,cs,u,ms,h,h2=>by simp[zgP] at h
 | c :: cells,l,[],cs,u,ms,h,h2=>by simp[zgP] at h
 | c :: cells,l,y :: ys,cs,u,ms,h,h2=>by
  unfold zgP at h
  split at h
  ·rename_i e;simp at e
  ·rename_i e1 e2
   simp only[dqy] at e1 e2
   obtain⟨rfl,rfl⟩:=e1;obtain⟨rfl,rfl⟩:=e2
   split at h
   ·rename_i hp
    simp only[dqa,dqh] at h;obtain⟨rfl,rfl⟩:=h
    simp only[zed] at h2
    split at h2
    ·rename_i hc
     simp only[dqa,dqh] at h2;rw[<- h2.2]
     obtain⟨i1,i2,i3⟩:=zpt hp hc
     exact⟨i1,i2,λ L hL=>by simp only[dqJ,clV,List.nil_append] at hL ⊢;exact i3 L hL⟩
    ·cases h2
   ·cases h
  ·rename_i e1 e2
   simp only[dqy] at e1 e2
   obtain⟨rfl,rfl⟩:=e1;obtain⟨rfl,rfl⟩:=e2
   split at h
   ·rename_i hp
    simp only[dqa,dqh] at h;obtain⟨rfl,rfl⟩:=h
    simp only[zed] at h2
    split at h2
    ·rename_i hc
     split at h2
     ·simp only [dqa, dqh] at h2; rw [← h2.2]
      obtain⟨i1,i2,i3⟩:=zpt hp hc
      refine⟨by simp[i1],λ x hx=>?_,λ L hL=>?_⟩
      ·rcases dqq.1 hx with e | hx
       ·subst e;rfl
       ·exact i2 x hx
      ·simp only [dqJ, dqg] at hL ⊢
       exact hL.imp_right (i3 L)
     ·cases h2
    ·cases h2
   ·cases h
  ·rename_i e1 e2
   simp only[dqy] at e1 e2
   obtain⟨rfl,rfl⟩:=e1;obtain⟨rfl,rfl⟩:=e2
   split at h
   ·rename_i hp
    simp only[dqa,dqh] at h;obtain⟨rfl,rfl⟩:=h
    simp only[zed] at h2
    split at h2
    ·rename_i hc
     split at h2
     ·simp only [dqa, dqh] at h2; rw [← h2.2]
      obtain⟨i1,i2,i3⟩:=zpt hp hc
      refine⟨by simp[i1],λ x hx=>?_,λ L hL=>?_⟩
      ·rcases dqq.1 hx with e | hx
       ·subst e;rfl
       ·exact i2 x hx
      ·simp only [dqJ, dqg] at hL ⊢
       exact hL.imp_right (i3 L)
     ·cases h2
    ·cases h2
   ·cases h
  ·cases h
theorem zOn {ob : Nat → Option AO} {d : DV} {x y : XA} {u : List (Nat × AO)} {ls ms : List Nat} (h : zzt ob d y = some u) (h2 : zty ob d = some (x, ls, ms)) :
  u.map (·.1)=ls/\∀ x∈u,∀ L∈aoV x.2,∃ o',ob x.1=some o'/\L∈aoV o':=by
 have data:znZ ob d=some (x,ls,ms)->ls=[]:=by
  intro h
  unfold znZ at h
  split at h
  ·simp only[dqa,dqh] at h;exact h.2.1.symm
  ·cases h
 unfold zzt at h
 split at h
 ·rename_i L
  split at h
  ·rename_i ty' cells hL
   rw[zfJ,hL] at h2
   dsimp only at h2
   split at h2
   ·rename_i cs ms' hc
    simp only[dqa,dqh] at h2;obtain⟨rfl,rfl,rfl⟩:=h2
    split at h
    ·split at h
     ·rename_i l u' hty hp
      simp only[dqa] at h;subst h
      obtain⟨i1,i2,i3⟩:=zpt hp hc
      refine⟨by simp[i1],λ x hx K hK=>?_⟩
      rcases dqq.1 hx with e | hx
      ·subst e;exact⟨_,hL,i3 K hK⟩
      ·rw[i2 x hx] at hK;simp at hK
     ·cases h
    ·cases h
   ·cases h2
  ·rename_i hno
   have hx:znZ ob (.one (.c (.ptr L 0)))=some (x,ls,ms):=by
    rw[zfJ] at h2
    cases hL:ob L with
    | none=>rw[hL] at h2;exact h2
    | some o =>
     rw[hL] at h2
     cases o with
     | box ty cells=>exact absurd hL (hno _ _)
     | _=>exact h2
   rw[data hx]
   split at h
   ·simp only[dqa] at h;subst h;exact⟨rfl,λ x hx=>by simp at hx⟩
   ·cases h
 ·rename_i hno
  have hx:znZ ob d=some (x,ls,ms):=by
   unfold zty at h2
   split at h2
   ·exact (hno _ rfl).elim
   ·exact h2
  rw[data hx]
  split at h
  ·simp only[dqa] at h;subst h;exact⟨rfl,λ x hx=>by simp at hx⟩
  ·cases h
theorem zAC {ob:Nat->Option AO} : ∀ {ds:List DV}{xs ys:List XA}{u:List (Nat×AO)}{ls ms:List Nat},zgQ ob ds ys=some u->zf5 ob ds=some (xs,ls,ms) ->
  u.map (·.1)=ls/\∀ x∈u,∀ L∈aoV x.2,∃ o',ob x.1=some o'/\L∈aoV o'
 | [],xs,[],u,ls,ms,h,h2=>by
  simp only[zgQ,dqa] at h;subst h
  simp only[zf5,dqa,dqh] at h2;rw[<- h2.2.1]
  exact⟨rfl,λ x hx=>by simp at hx⟩
 | [],_,_ :: _,_,_,_,h,_=>by simp[zgQ] at h
 | _ :: _,_,[],_,_,_,h,_=>by simp[zgQ] at h
 | d :: ds,xs,y :: ys,u,ls,ms,h,h2=>by
  simp only[zgQ] at h
  split at h
  ·rename_i u1 u2 e1 e2
   simp only[dqa] at h;subst h
   simp only[zf5] at h2
   split at h2
   ·rename_i x bl m1 xs' bls m2 h3 h4
    simp only[dqa,dqh] at h2;rw[<- h2.2.1]
    obtain⟨i1,i2⟩:=zAC e2 h4
    obtain⟨j1,j2⟩:=zOn e1 h3
    exact⟨by simp[i1,j1],λ x hx=>(dqg.1 hx).elim (j2 x) (i2 x)⟩
   ·cases h2
  ·cases h
theorem zmN {ob ob' : Nat → Option AO} : ∀ {cells : List Cl}, (∀ L ∈ cells.flatMap zaN, ob' L = ob L) → zed ob' cells = zed ob cells
  | [],_=>rfl
  | c :: cells,h=>by
    have ih:zed ob' cells=zed ob cells:=zmN λ L hL=>h L (by simp only[dqJ,dqg];exact .inr hL)
    cases c with
    | vec M=>simp only[zed,ih,h M (by simp[zaN])]
    | mo M=>simp only[zed,ih,h M (by simp[zaN])]
    | _=>simp only[zed,ih]
theorem zAD {ob ob':Nat->Option AO}{d:DV}(h:∀ L∈zbz ob d,ob' L=ob L):zty ob' d=zty ob d/\∀ y,zzt ob' d y=zzt ob d y:=by
 have hx:znZ ob' d=znZ ob d:=by simp only[znZ,zoq h]
 by_cases hd:∃ L,d=.one (.c (.ptr L 0))
 ·obtain ⟨L, rfl⟩ := hd
  have hL:ob' L=ob L:=h L (dqo.2 ⟨L,by simp[zby,zb3,zaN],dqj⟩)
  refine⟨?_,λ y=>by simp only[zzt,hL]⟩
  rw[zfJ,zfJ,hL,hx]
  cases ho:ob L with
  | none=>rfl
  | some o =>
   cases o with
   | box ty cells =>
    have:zed ob' cells=zed ob cells:=zmN λ M hM=>h M (dqo.2 ⟨L,by simp[zby,zb3,zaN],dqf _ (by rw[ho];exact hM)⟩)
    simp only[this]
   | _=>rfl
 ·refine ⟨?_, fun y => ?_⟩
  ·unfold zty
   split
   ·exact (hd ⟨_,rfl⟩).elim
   ·exact hx
  ·unfold zzt
   split
   ·exact (hd ⟨_,rfl⟩).elim
   ·rfl
theorem zor {ob ob' : Nat → Option AO} : ∀ {ds : List DV}, (∀ L ∈ ds.flatMap (zbz ob), ob' L = ob L) → zf5 ob' ds = zf5 ob ds ∧ ∀ ys, zgQ ob' ds ys = zgQ ob ds ys
  | [],_=>⟨rfl,λ ys=>by cases ys <;> rfl⟩
  | d :: ds,h=>by
    obtain⟨i1,i2⟩:=zor (ds:=ds) (ob':=ob') λ L hL=>h L (by simp only[dqJ,dqg];exact .inr hL)
    obtain⟨j1,j2⟩:=zAD (ob':=ob') (d:=d) λ L hL=>h L (by simp only[dqJ,dqg];exact .inl hL)
    refine⟨by simp only[zf5,i1,j1],λ ys=>?_⟩
    cases ys with
    | nil=>rfl
    | cons y ys=>simp only[zgQ,i2,j2]
theorem zHu {C:MK}{ds:List DV}(hk:∀ ev' ob',(∀ x∈o.op.operands.toList,ev' x=ev x)->act P Γ o ev' ob'=zli C ds ob') (hA:zli C ds ob=A) (hs:A.safe):ActOk P Γ o ev ob A:=by
 unfold zli at hA
 split at hA
 ·rename_i xs ls ms has
  split at hA
  ·rename_i s rs ys hCx
   split at hA
   ·rename_i u hput hcond
    subst hA
    have hcond':=hcond
    simp only[dqm,Nat.ble_eq] at hcond
    obtain⟨h1,h2⟩:=zAC hput has
    have hw:∀ L∈ls,(L,true)∈wr ls ++ rd (ds.flatMap (zbz ob)):=λ L hL=>dqg.2 (.inl (zrC hL))
    have hul:∀ x∈u,x.1∈ls:=λ x hx=>by rw[<- h1];exact dqz.2 ⟨x,hx,rfl⟩
    refine⟨λ x hx=>hw _ (hul x hx),?_,λ x hx L hL=>?_,λ d hd L hL=>(by simp only[OpAct.gives] at hd;subst hd;rw[zjw] at hL;simp at hL),λ ev' ob' he hob=>?_⟩
    ·match ms,hcond.2,has with
     | [],_,_=>exact .inl rfl
     | [x],_,has=>exact .inr ⟨x,rfl,hw x (zmA has x (by simp))⟩
     | _ :: _ :: _,h,_=>simp at h
    ·obtain ⟨o', ho, hL⟩ := h2 x hx L hL
     exact .inr ⟨(x.1,true),hw _ (hul x hx),o',ho,hL⟩
    ·have hl : ∀ L ∈ ds.flatMap (zbz ob), ob' L = ob L := fun L hL => hob (L, false) (dqg.2 (.inr (dqz.2 ⟨L, hL, rfl⟩)))
     have e1:=zor hl
     have e2:ds.flatMap (zbz ob')=ds.flatMap (zbz ob):=fmc λ d hd=>ze5 λ L hL=>hl L (dqo.2 ⟨d,hd,hL⟩)
     rw[hk ev' ob' he]
     simp only[zli,e1.1,has,hCx,e1.2,hput,hcond',e2]
   ·exact dq9 hA hs
  ·exact dq9 hA hs
 ·exact dq9 hA hs
theorem zmO {ev' : Operand → DV} : ∀ {l : List Operand}, (∀ x ∈ l, ev' x = ev x) → zoX ev' l = zoX ev l
  | [],_=>rfl
  | x :: l,h=>by simp only[zoX,h x dqj,zmO λ y hy=>h y (dqf _ hy)]

theorem zAE {C : COut} {args : Array Operand} {c : Callee} {ts : Array TypeId} {az : List PA} {u : Upd} (hop : o.op = .call { callee := c, args, argTypes := ts })
    (has:zfS ob (args.toList.map ev)=some (az,u))
    (key:∀ (ev':Operand->DV) (ob':Nat->Option AO),(∀ x∈o.op.operands.toList,ev' x=ev x)->(∀ L∈args.toList.flatMap λ x=>zbz ob (ev x),ob' L=ob L) ->
      act P Γ o ev' ob'=C.act (args.toList.flatMap λ x=>zbz ob (ev x)) u) (hA:C.act (args.toList.flatMap λ x=>zbz ob (ev x)) u=A) (hs:A.safe):ActOk P Γ o ev ob A:=by
  have hwrT:∀ L,L∈(args.toList.flatMap λ x=>zbz ob (ev x))->(L,true)∈wr (args.toList.flatMap λ x=>zbz ob (ev x)):=λ L hL=>dqz.2 ⟨L,hL,rfl⟩
  have hrdF:∀ L,L∈(args.toList.flatMap λ x=>zbz ob (ev x))->(L,false)∈rd (args.toList.flatMap λ x=>zbz ob (ev x)):=λ L hL=>dqz.2 ⟨L,hL,rfl⟩
  have hk:∀ x∈u,(x.1,true)∈wr (args.toList.flatMap λ x=>zbz ob (ev x))/\aoV x.2=[]:=λ x hx=>by
    obtain⟨h1,h2⟩:=zj7 has x hx
    refine⟨hwrT _ ?_,h2⟩
    rw[List.flatMap_map] at h1;exact h1
  generalize (args.toList.flatMap λ x=>zbz ob (ev x))=labs at hA key hk hwrT hrdF
  cases C with
  | no=>exact dq9 hA hs
  | tot r =>
    cases hsc:zh3 r with
    | true =>
      rw[ztA hsc] at hA;simp only[ztA hsc] at key;subst hA
      exact⟨λ x hx=>by simp[OpAct.u] at hx,.inl rfl,λ x hx=>by simp[OpAct.u] at hx,λ d hd L hL=>(by cases hd;rw[zjw] at hL;simp at hL),λ ev' ob' he hob=>key ev' ob' he λ L hL=>hob (L,false) (hrdF L hL)⟩
    | false =>
      cases hl:zji u r with
      | true =>
        rw[zoR hsc hl] at hA;simp only[zoR hsc hl] at key;subst hA
        exact⟨λ x hx=>by simp[OpAct.u] at hx,.inl rfl,λ x hx=>by simp[OpAct.u] at hx,λ d hd L hL=>(by cases hd;rw[zjw] at hL;simp at hL),λ ev' ob' he hob=>key ev' ob' he λ L hL=>hob (L,false) (hrdF L hL)⟩
      | false =>
        rw[ztB hsc hl] at hA;simp only[ztB hsc hl] at key;subst hA
        exact⟨λ x hx=>(hk x hx).1,.inl rfl,λ x hx L hL=>(by rw[(hk x hx).2] at hL;simp at hL),λ d hd L hL=>(by simp only[OpAct.gives] at hd;subst hd;rw[zjw] at hL;simp at hL),λ ev' ob' he hob=>key ev' ob' he λ L hL=>hob (L,true) (hwrT L hL)⟩
  | det s r =>
    cases hsc:zh3 r with
    | true =>
      rw[zoS hsc] at hA;simp only[zoS hsc] at key;subst hA
      exact⟨λ x hx=>by simp[OpAct.u] at hx,.inl rfl,λ x hx=>by simp[OpAct.u] at hx,λ d hd L hL=>(by cases hd;rw[zjw] at hL;simp at hL),λ ev' ob' he hob=>key ev' ob' he λ L hL=>hob (L,false) (hrdF L hL)⟩
    | false =>
      cases hl:zji u r with
      | true =>
        rw[zmi hsc hl] at hA;simp only[zmi hsc hl] at key;subst hA
        exact⟨λ x hx=>by simp[OpAct.u] at hx,.inl rfl,λ x hx=>by simp[OpAct.u] at hx,λ d hd L hL=>(by cases hd;rw[zjw] at hL;simp at hL),λ ev' ob' he hob=>key ev' ob' he λ L hL=>hob (L,false) (hrdF L hL)⟩
      | false =>
        rw[zoT hsc hl] at hA;simp only[zoT hsc hl] at key;subst hA
        exact⟨λ x hx=>(hk x hx).1,.inl rfl,λ x hx L hL=>(by rw[(hk x hx).2] at hL;simp at hL),λ d hd L hL=>(by simp only[OpAct.gives] at hd;subst hd;rw[zjw] at hL;simp at hL),λ ev' ob' he hob=>key ev' ob' he λ L hL=>hob (L,true) (hwrT L hL)⟩
  | rel ρ s post r =>
    subst hA
    exact⟨λ x hx=>(hk x hx).1,.inl rfl,λ x hx L hL=>(by rw[(hk x hx).2] at hL;simp at hL),λ d hd L hL=>(by simp only[COut.act,OpAct.gives] at hd;obtain⟨x,rfl⟩:=hd;rw[zjw] at hL;simp at hL),λ ev' ob' he hob=>key ev' ob' he λ L hL=>hob (L,true) (hwrT L hL)⟩
  | alt b s1 r1 s2 r2 =>
    subst hA
    exact⟨λ x hx=>(hk x hx).1,.inl rfl,λ x hx L hL=>(by rw[(hk x hx).2] at hL;simp at hL),λ d hd L hL=>(by simp only[COut.act,OpAct.gives] at hd;rcases hd with rfl | rfl <;> (rw[zjw] at hL;simp at hL)),λ ev' ob' he hob=>key ev' ob' he λ L hL=>hob (L,true) (hwrT L hL)⟩
theorem zJm {f:Operand}{args:Array Operand}{ts:Array TypeId}(hop:o.op=.call { callee:=.value f,args,argTypes:=ts }) (hA:act P Γ o ev ob=A) (hs:A.safe):ActOk P Γ o ev ob A:=by
 have hm:=zhS hop
 have hf:f∈o.op.operands.toList:=by simp[hop,Op.operands,Call.operands]
 simp only[act,hop] at hA
 have e0:∀ ev':Operand->DV,(∀ x∈o.op.operands.toList,ev' x=ev x)->args.toList.map ev'=args.toList.map ev:=λ ev' he=>List.map_congr_left λ x hx=>he x (hm x hx)
 split at hA
 ·rename_i gf caps hef
  split at hA
  ·rename_i C hC
   exact zHu (λ ev' ob' he=>by simp only[act,hop,he f hf,hef,hC,e0 ev' he]) hA hs
  ·exact dq9 hA hs
 ·rename_i gf first caps hef
  split at hA
  ·rename_i C hC
   exact zHu (λ ev' ob' he=>by simp only[act,hop,he f hf,hef,hC,e0 ev' he]) hA hs
  rename_i hC
  split at hA
  ·rename_i hk
   split at hA
   ·exact zOm (k:=Γ.own gf) hop (λ ev' ob' he=>by simp only[act,hop,he f hf,hef,hC,hk]) hA hs
   ·exact dq9 hA hs
  rename_i hko
  split at hA
  ·rename_i az u has
   have key:∀ (ev':Operand->DV) (ob':Nat->Option AO),(∀ x∈o.op.operands.toList,ev' x=ev x)->(∀ L∈args.toList.flatMap λ x=>zbz ob (ev x),ob' L=ob L) ->
     act P Γ o ev' ob'=(Γ gf (first.map .one ++ az ++ caps.map .one)).act (args.toList.flatMap λ x=>zbz ob (ev x)) u:=by
    intro ev' ob' he hl
    have e0:args.toList.map ev'=args.toList.map ev:=List.map_congr_left λ x hx=>he x (hm x hx)
    have e1:zfS ob' (args.toList.map ev)=zfS ob (args.toList.map ev):=ziq λ L hL=>hl L (by rw[List.flatMap_map] at hL;exact hL)
    have e2:(args.toList.flatMap λ x=>zbz ob' (ev' x))=args.toList.flatMap λ x=>zbz ob (ev x):=by
     refine fmc λ x hx=>?_
     rw[he x (hm x hx)]
     exact ze5 λ L hL=>hl L (dqo.2 ⟨x,hx,hL⟩)
    simp only[act,hop,he f hf,hef,hC,hko,e0,e1,has,e2]
   exact zAE hop has key hA hs
  ·exact dq9 hA hs
 ·rename_i gf cells hef
  split at hA
  ·rename_i az u has
   have key:∀ (ev':Operand->DV) (ob':Nat->Option AO),(∀ x∈o.op.operands.toList,ev' x=ev x)->(∀ L∈args.toList.flatMap λ x=>zbz ob (ev x),ob' L=ob L) ->
     act P Γ o ev' ob'=(Γ gf (.agg cells :: az)).act (args.toList.flatMap λ x=>zbz ob (ev x)) u:=by
    intro ev' ob' he hl
    have e0:args.toList.map ev'=args.toList.map ev:=List.map_congr_left λ x hx=>he x (hm x hx)
    have e1:zfS ob' (args.toList.map ev)=zfS ob (args.toList.map ev):=ziq λ L hL=>hl L (by rw[List.flatMap_map] at hL;exact hL)
    have e2:(args.toList.flatMap λ x=>zbz ob' (ev' x))=args.toList.flatMap λ x=>zbz ob (ev x):=by
     refine fmc λ x hx=>?_
     rw[he x (hm x hx)]
     exact ze5 λ L hL=>hl L (dqo.2 ⟨x,hx,hL⟩)
    simp only[act,hop,he f hf,hef,e0,e1,has,e2]
   exact zAE hop has key hA hs
  ·exact dq9 hA hs
 ·exact dq9 hA hs

theorem zua {f:FuncId}{first caps:Array Operand}(hop:o.op=.makeFunc (.func f) first caps) (hA:act P Γ o ev ob=A) (hs:A.safe):ActOk P Γ o ev ob A:=by
 have hm:∀ x∈first.toList ++ caps.toList,x∈o.op.operands.toList:=λ x hx=>by simp only[hop,Op.operands];simpa using hx
 simp only[act,hop] at hA
 split at hA
 ·rename_i hmt
  split at hA
  ·rename_i cs hf hc
   subst hA
   refine ActOk.pure (λ L hL=>by simp[dvV,d1V,clV] at hL) λ ev' ob' he _=>?_
   have e1:zoX ev' caps.toList=some cs:=(zmO λ x hx=>he x (hm x (dqg.2 (.inr hx)))).trans hc
   simp only[act,hop,hmt,hf,e1]
  ·exact dq9 hA hs
 rename_i hmt
 have hbc:∀ ev':Operand->DV,(∀ x∈o.op.operands.toList,ev' x=ev x)->zyT ev' first.toList caps.toList=zyT ev first.toList caps.toList:=λ ev' he=>by
  unfold zyT
  cases hf:first.toList with
  | nil=>rfl
  | cons x r =>
   cases r with
   | cons y r=>rfl
   | nil =>
    cases hc:caps.toList with
    | cons y r=>rfl
    | nil=>simp only[];rw[he x (hm x (by rw[hf];simp))]
 split at hA
 ·rename_i l hb
  subst hA
  exact ActOk.pure (zc7 _) λ ev' ob' he _=>by simp only[act,hop,hmt,hbc ev' he,hb]
 rename_i hbn
 split at hA
 ·rename_i l u l' u' h1 h2
  subst hA
  have lab1:∀ (x:Operand) (c:Cl),ev x=.one (.c c)->∀ L,L∈zaN c->L∈zbz ob (ev x):=λ x c h L hL=>by
   rw[h];exact dqo.2 ⟨L,hL,dqj⟩
  have lab2:∀ (x:Operand) (c:Cl),ev x=.one (.c c)->∀ L,L∈zaN c->∀ o',ob L=some o'->∀ M∈zcl o',M∈zbz ob (ev x):=λ x c h L hL o' ho' M hM=>by
   rw[h];refine dqo.2 ⟨L,hL,dqf _ ?_⟩;rw[ho'];exact hM
  have clm:∀ (xs:List Operand),∀ L∈(xs.flatMap λ x=>match ev x with | .one (.c c)=>[c] | _=>[.junk]).flatMap zaN,∃ x∈xs,∃ c,ev x=.one (.c c)/\L∈zaN c:=by
   intro xs L hL
   obtain⟨c,hc,hL⟩:=dqo.1 hL
   obtain⟨x,hx,hc⟩:=dqo.1 hc
   refine⟨x,hx,?_⟩
   split at hc
   ·rename_i c' h;simp at hc;subst hc;exact⟨_,h,hL⟩
   ·simp at hc;subst hc;simp[zaN] at hL
  have keys:∀ (xs:List Operand) (l:List PV) (u:Upd),zn1 ob (xs.flatMap λ x=>match ev x with | .one (.c c)=>[c] | _=>[.junk])=some (l,u) ->
    ∀ x∈u,x.1∈xs.flatMap (λ x=>zbz ob (ev x))/\aoV x.2=[]:=by
   intro xs l u h y hy
   obtain⟨h3,h4⟩:=zmL h y hy
   refine⟨?_,h4⟩
   rcases h3 with h3 | ⟨L,hL,o',h5,h6⟩
   ·obtain ⟨x, hx, c, hc, hL⟩ := clm xs _ h3
    exact dqo.2 ⟨x,hx,lab1 x c hc _ hL⟩
   ·obtain ⟨x, hx, c, hc, hL⟩ := clm xs _ hL
    exact dqo.2 ⟨x,hx,lab2 x c hc _ hL _ h5 _ h6⟩
  have cong:∀ (xs:List Operand) (ev':Operand->DV) (ob':Nat->Option AO),(∀ x∈xs,ev' x=ev x)->(∀ L∈xs.flatMap (λ x=>zbz ob (ev x)),ob' L=ob L) ->
    zn1 ob' (xs.flatMap λ x=>match ev' x with | .one (.c c)=>[c] | _=>[.junk])=zn1 ob (xs.flatMap λ x=>match ev x with | .one (.c c)=>[c] | _=>[.junk]):=by
   intro xs ev' ob' he hob
   have e0:(xs.flatMap λ x=>match ev' x with | .one (.c c)=>[c] | _=>[.junk])=xs.flatMap λ x=>match ev x with | .one (.c c)=>[c] | _=>[.junk] :=
    fmc λ x hx=>by rw[he x hx]
   rw[e0]
   refine zj6 λ L hL=>?_
   obtain⟨x,hx,c,hc,hL⟩:=clm xs _ hL
   exact⟨hob L (dqo.2 ⟨x,hx,lab1 x c hc _ hL⟩),λ o' ho' M hM=>hob M (dqo.2 ⟨x,hx,lab2 x c hc _ hL _ ho' _ hM⟩)⟩
  refine⟨λ x hx=>?_,.inl rfl,λ x hx L hL=>?_,λ d' hd' L hL=>?_,λ ev' ob' he hob=>?_⟩
  ·simp only [OpAct.u] at hx
   refine zrC ?_
   rw[List.flatMap_append]
   rcases dqg.1 hx with hx | hx
   ·exact dqg.2 (.inl (keys _ _ _ h1 x hx).1)
   ·exact dqg.2 (.inr (keys _ _ _ h2 x hx).1)
  ·simp only [OpAct.u] at hx
   rcases dqg.1 hx with hx | hx
   ·rw[(keys _ _ _ h1 x hx).2] at hL;simp at hL
   ·rw[(keys _ _ _ h2 x hx).2] at hL;simp at hL
  ·simp only[OpAct.gives] at hd';subst hd';simp[dvV,d1V,clV] at hL
  ·have hl : ∀ L ∈ (first.toList ++ caps.toList).flatMap fun x => zbz ob (ev x), ob' L = ob L := fun L hL => hob (L, true) (zrC hL)
   have e1:=cong first.toList ev' ob' (λ x hx=>he x (hm x (dqg.2 (.inl hx)))) (λ L hL=>hl L (by rw[List.flatMap_append];exact dqg.2 (.inl hL)))
   have e2:=cong caps.toList ev' ob' (λ x hx=>he x (hm x (dqg.2 (.inr hx)))) (λ L hL=>hl L (by rw[List.flatMap_append];exact dqg.2 (.inr hL)))
   have e3:((first.toList ++ caps.toList).flatMap λ x=>zbz ob' (ev' x))=(first.toList ++ caps.toList).flatMap λ x=>zbz ob (ev x):=by
    refine fmc λ x hx=>?_
    rw[he x (hm x hx)]
    exact ze5 λ L hL=>hl L (dqo.2 ⟨x,hx,hL⟩)
   simp only[act,hop,hmt,e3,hbc ev' he,hbn]
   split
   ·rename_i l2 u2 l3 u3 h3 h4
    have a1:some (l2,u2)=some (l,u):=h3.symm.trans (e1.trans h1)
    have a2:some (l3,u3)=some (l',u'):=h4.symm.trans (e2.trans h2)
    simp only[dqa,dqh] at a1 a2
    obtain⟨rfl,rfl⟩:=a1
    obtain⟨rfl,rfl⟩:=a2
    rfl
   ·rename_i hno
    exact (hno l u l' u' (e1.trans h1) (e2.trans h2)).elim
 ·exact dq9 hA hs

theorem zrH {t:TypeId}{x y:Operand}(hop:o.op=.makeSlice t x y) (hA:act P Γ o ev ob=A) (hs:A.safe):ActOk P Γ o ev ob A:=by
 have hx:x∈o.op.operands.toList:=by simp[hop,Op.operands]
 have hy:y∈o.op.operands.toList:=by simp[hop,Op.operands]
 have hc0:∀ ev' ob',(∀ x∈o.op.operands.toList,ev' x=ev x)->act P Γ o ev' ob'=zgX P Γ t (ev x) (ev y) o.dst ob':=λ ev' ob' he=>by simp only[act,hop,he x hx,he y hy]
 have hA0:=hA
 rw[hc0 ev ob (λ _ _=>rfl)] at hA
 unfold zgX at hA
 split at hA
 ·rename_i e k1 j k2 j2 dst hu hex hey hdst
  split at hA
  ·rename_i ie z hi hz hfresh
   have fin:∀ (s:Prop) (ao:AO),aoV ao=[]->OpAct.chk [(dst,true)] s (.cl (.vec dst)) [(dst,ao)] []=A->(∀ ob':Nat->Option AO,ob' dst=none->zgX P Γ t (ev x) (ev y) o.dst ob'=A)->ActOk P Γ o ev ob A:=by
    intro s ao hao e hcc
    subst e
    refine⟨λ z hz=>?_,.inl rfl,λ z hz M hM=>?_,λ d' hd' M hM=>?_,λ ev' ob' he hob=>?_⟩
    ·simp only[OpAct.u,dqi] at hz;subst hz;simp[OpAct.fp]
    ·simp only[OpAct.u,dqi] at hz;subst hz;rw[hao] at hM;simp at hM
    ·simp only [OpAct.gives] at hd'; subst hd'
     simp only[dvV,d1V,clV,dqi] at hM;subst hM
     exact .inr (by simp[OpAct.fp])
    ·have e2 := hob (dst, true) (by simp [OpAct.fp]); simp only at e2
     rw[hc0 ev' ob' he]
     exact hcc ob' (e2.trans hfresh)
   have hcc:∀ ob':Nat->Option AO,ob' dst=none->zgX P Γ t (ev x) (ev y) o.dst ob'=A:=λ ob' h=>by
    have:act P Γ o ev ob=A:=hA0
    rw[hc0 ev ob (λ _ _=>rfl)] at this
    rw[<- this]
    unfold zgX
    simp only[hu,hex,hey,hdst,hi,hz,hfresh,h]
   split at hA
   ·split at hA
    ·split at hA
     ·exact fin _ _ rfl hA hcc
     ·exact dq9 hA hs
    ·split at hA
     ·split at hA
      ·exact fin _ _ rfl hA hcc
      ·exact dq9 hA hs
     ·exact dq9 hA hs
    ·exact dq9 hA hs
   ·split at hA
    ·split at hA
     ·exact fin _ _ rfl hA hcc
     ·exact dq9 hA hs
    ·exact dq9 hA hs
  ·exact dq9 hA hs
 ·exact dq9 hA hs

theorem zFx {t:TypeId}{x:Operand}(hop:o.op=.range t x) (hA:act P Γ o ev ob=A) (hs:A.safe):ActOk P Γ o ev ob A:=by
 have hx:x∈o.op.operands.toList:=by simp[hop,Op.operands]
 simp only[act,hop] at hA
 split at hA
 ·rename_i q q' m F hq hex
  split at hA
  ·rename_i e
   exact zpr (ao:=.mit q m F []) (d:=λ t=>.cl (.ptr t 0)) (λ L hL=>by simp[aoV] at hL) (λ t L hL=>by simp[dvV,d1V,clV] at hL) (λ ev' ob' he=>by simp only[act,hop,he x hx,hex,hq,if_pos e]) hA hs
  ·exact dq9 hA hs
 ·exact dq9 hA hs

theorem zFy {x:Operand}(hop:o.op=.entry x) (hA:act P Γ o ev ob=A) (hs:A.safe):ActOk P Γ o ev ob A:=by
 have hx:x∈o.op.operands.toList:=by simp[hop,Op.operands]
 simp only[act,hop] at hA
 split at hA
 ·rename_i L hex
  split at hA
  ·rename_i q m F c seen hL
   split at hA
   ·rename_i kd vd hkd hvd
    subst hA
    refine ActOk.pure (λ M hM=>?_) λ ev' ob' he hob=>?_
    ·simp only [dvV, dqJ, List.flatMap_nil, List.append_nil, dqg] at hM
     rcases hM with hM | hM
     ·have:=zt8 M hM;rw[zw5 hkd] at this;simp at this
     ·have:=zt8 M hM;rw[zlV hvd] at this;simp at this
    ·have e := hob (L, false) (by simp); simp only at e
     simp only[act,hop,he x hx,hex,e,hL,hkd,hvd]
   ·exact dq9 hA hs
  ·exact dq9 hA hs
 ·exact dq9 hA hs

theorem zSg (hA:act P Γ o ev ob=A) (hs:A.safe):ActOk P Γ o ev ob A:=by
 have hA':=hA
 cases hop:o.op with
 | move x=>simp only[act,hop] at hA;subst hA;exact zAw (.inl hop)
 | assign x=>simp only[act,hop] at hA;subst hA;exact zAw (.inr hop)
 | pick c x y =>
  simp only[act,hop] at hA
  split at hA
  ·rename_i t hc;subst hA;exact zJi hop hc
  ·exact dq9 hA hs
 | alloc e =>
  simp only[act,hop] at hA
  split at hA
  ·rename_i z hz
   refine zpr (ao:=.box e z) (d:=λ t=>.cl (.ptr t 0)) (λ L hL=>?_) (λ t L hL=>by simp[dvV,d1V,clV] at hL) (λ ev' ob' _=>by simp only[act,hop,hz]) hA hs
   simp only[aoV] at hL;rw[zAx hz] at hL;simp at hL
  ·exact dq9 hA hs
 | box e x =>
  have hx:x∈o.op.operands.toList:=by simp[hop,Op.operands]
  simp only[act,hop] at hA
  split at hA
  ·rename_i d m hex hm
   split at hA
   ·rename_i hcond
    refine zpr (ao:=.box e (zjl P e d.cells)) (d:=λ t=>.cl (.ptr t 0)) (λ L hL=>?_) (λ t L hL=>by simp[dvV,d1V,clV] at hL) (λ ev' ob' he=>by simp only[act,hop,he x hx,hex,hm,hcond]) hA hs
    simp only[aoV] at hL
    have hL:=zFq L hL
    rw[zt6] at hL
    exact .inl ⟨x,hx,by rw[hex];exact hL⟩
   ·exact dq9 hA hs
  ·exact dq9 hA hs
 | build t parts =>
  simp only[act,hop] at hA
  split at hA
  ·rename_i z hf hz
   split at hA
   ·rename_i l hl;subst hA;exact zFr hop hf hz hl
   ·exact dq9 hA hs
  ·exact dq9 hA hs
 | buildSlice t m parts=>exact zps hop hA' hs
 | load t x=>exact zJk hop hA' hs
 | store t x y=>exact zFs hop hA' hs
 | nilCheck x=>exact zt7 hop hA' hs
 | binOp op t x y t'=>exact zFu hop hA' hs
 | unOp op t x=>exact zJl hop hA' hs
 | fieldAddr t x f=>exact zrE hop hA' hs
 | indexAddr t x y=>exact zrF hop hA' hs
 | extract x k=>exact zzc hop hA' hs
 | index t x y=>exact zFv hop hA' hs
 | field t x f=>exact zFw hop hA' hs
 | slice t x lo hi mx =>
  cases mx with
  | none=>exact ok_slice hop hA' hs
  | some m=>simp only[act,hop] at hA;exact dq9 hA hs
 | lookup t x y k=>exact zAA hop hA' hs
 | mapUpdate t x y z=>exact zrD hop hA' hs
 | makeMap t x =>
  cases x with
  | none=>exact zzb hop hA' hs
  | some x=>simp only[act,hop] at hA;exact dq9 hA hs
 | makeSlice t x y=>exact zrH hop hA' hs
 | range t x=>exact zFx hop hA' hs
 | entry x=>exact zFy hop hA' hs
 | makeFunc fn first caps =>
  cases fn with
  | func f=>exact zua hop hA' hs
  | _=>simp only[act,hop] at hA;exact dq9 hA hs
 | call c =>
  obtain⟨callee,args,ts⟩:=c
  cases callee with
  | value f=>exact zJm hop hA' hs
  | invoke x m=>simp only[act,hop] at hA;exact dq9 hA hs
  | builtin b =>
   cases b with
   | len=>exact zOj hop hA' hs
   | max=>exact zOi (.inl rfl) hop hA' hs
   | min=>exact zOi (.inr rfl) hop hA' hs
   | append=>exact zAB hop hA' hs
   | delete=>exact zOk hop hA' hs
   | _=>simp only[act,hop] at hA;exact dq9 hA hs
 | _=>simp only[act,hop] at hA;exact dq9 hA hs
end
end Go.Pm
namespace Go.Pm

structure Eqv (σ τ : St) : Prop where
  env:∀ t,lk σ.env t=lk τ.env t
  objs:∀ L,lk σ.objs L=lk τ.objs L
  log:∀ x,x∈σ.log↔x∈τ.log

theorem Eqv.refl (σ:St):Eqv σ σ:=⟨λ _=>rfl,λ _=>rfl,λ _=>Iff.rfl⟩
theorem Eqv.symm {σ τ:St}(h:Eqv σ τ):Eqv τ σ:=⟨λ t=>(h.env t).symm,λ t=>(h.objs t).symm,λ x=>(h.log x).symm⟩

theorem zmP {e e':List (Nat×DV)}{x:Operand}(h:∀ t∈zNU x,lk e t=lk e' t):evO e x=evO e' x:=by
 cases x with
 | tmp t=>simp only[evO];rw[h t (by simp[zNU])]
 | _=>rfl

theorem zmQ (x:Cl):zcs [] x=x:=by cases x <;> rfl
theorem zos (x:D1):zcW [] x=x:=by
 cases x with
 | c x=>simp[zcW,zmQ]
 | agg cs=>simp only[zcW];rw[show zcs []=id from funext zmQ,List.map_id]
theorem zAF (x:DV):zdE [] x=x:=by
 cases x with
 | one x=>simp[zdE,zos]
 | tup cs=>simp only[zdE];rw[show zcW []=id from funext zos,List.map_id]
theorem zAG (x:AO):zc3 [] x=x:=by
 cases x with
 | box ty cs=>simp only[zc3];rw[show zcs []=id from funext zmQ,List.map_id]
 | _=>rfl

theorem zpu {l:List Nat}{x:Cl}(h:∀ L∈clV x,L ∉ l):zcs l x=x:=by
 cases x with
 | vec L =>
  have h1:l.contains L=false:=by simpa using h L (by simp[clV])
  simp only[zcs,h1]
 | vptr L s i k =>
  have h1:l.contains L=false:=by simpa using h L (by simp[clV])
  simp only[zcs,h1]
 | ivec L i =>
  have h1:l.contains L=false:=by simpa using h L (by simp[clV])
  simp only[zcs,h1]
 | iptr L s i j k =>
  have h1:l.contains L=false:=by simpa using h L (by simp[clV])
  simp only[zcs,h1]
 | imap L i =>
  have h1:l.contains L=false:=by simpa using h L (by simp[clV])
  simp only[zcs,h1]
 | xv L s i b n m j c =>
  have h1:l.contains L=false:=by simpa using h L (by simp[clV])
  simp only[zcs,h1]
 | mo L =>
  have h1:l.contains L=false:=by simpa using h L (by simp[clV])
  simp only[zcs,h1]
 | mkey it L =>
  have h1:l.contains L=false:=by simpa using h L (by simp[clV])
  simp only[zcs,h1]
 | _=>rfl
theorem zjx {α : Type} {f : α → α} : ∀ {l : List α}, (∀ x ∈ l, f x = x) → l.map f = l
  | [],_=>rfl
  | x :: l,h=>by rw[dqK,h x dqj,zjx λ y hy=>h y (dqf _ hy)]
theorem zrI {l:List Nat}{x:D1}(h:∀ L∈d1V x,L ∉ l):zcW l x=x:=by
 cases x with
 | c x=>simp only[zcW];rw[zpu h]
 | agg cs=>simp only[zcW];rw[zjx λ x hx=>zpu λ L hL=>h L (dqo.2 ⟨x,hx,hL⟩)]
theorem zpv {l:List Nat}{x:DV}(h:∀ L∈dvV x,L ∉ l):zdE l x=x:=by
 cases x with
 | one x=>simp only[zdE];rw[zrI h]
 | tup cs=>simp only[zdE];rw[zjx λ x hx=>zrI λ L hL=>h L (dqo.2 ⟨x,hx,hL⟩)]
theorem zpw {l:List Nat}{x:AO}(h:∀ L∈aoV x,L ∉ l):zc3 l x=x:=by
 cases x with
 | box ty cs=>simp only[zc3];rw[zjx λ x hx=>zpu λ L hL=>h L (dqo.2 ⟨x,hx,hL⟩)]
 | _=>rfl

theorem zue {l:List Nat}{x:Cl} : clV (zcs l x)=clV x:=by
 cases x with
 | vec L=>simp only[zcs];split <;> rfl
 | vptr L s i k=>simp only[zcs];split <;> rfl
 | ivec L i=>simp only[zcs];split <;> rfl
 | iptr L s i j k=>simp only[zcs];split <;> rfl
 | imap L i=>simp only[zcs];split <;> rfl
 | xv L s i b n m j c=>simp only[zcs];split <;> rfl
 | mo L=>simp only[zcs];split <;> rfl
 | mkey it L=>simp only[zcs];split <;> rfl
 | _=>rfl
theorem zxg {l:List Nat}{x:D1} : d1V (zcW l x)=d1V x:=by
 cases x with
 | c x=>exact zue
 | agg cs=>simp only[zcW,d1V,List.flatMap_map];exact fmc λ x _=>zue
theorem zJn {l:List Nat}{x:DV} : dvV (zdE l x)=dvV x:=by
 cases x with
 | one x=>exact zxg
 | tup cs=>simp only[zdE,dvV,List.flatMap_map];exact fmc λ x _=>zxg
theorem zuf {l:List Nat}{x:AO} : aoV (zc3 l x)=aoV x:=by
 cases x with
 | box ty cs=>simp only[zc3,aoV,List.flatMap_map];exact fmc λ x _=>zue
 | _=>rfl

theorem zj8 {l m:List Nat}(x:Cl):zcs l (zcs m x)=zcs m (zcs l x):=by
 cases x with
 | vec L=>simp only[zcs];cases hl:l.contains L <;> cases hm:m.contains L <;> simp only[hl,hm]
 | vptr L s i k=>simp only[zcs];cases hl:l.contains L <;> cases hm:m.contains L <;> simp only[hl,hm]
 | ivec L i=>simp only[zcs];cases hl:l.contains L <;> cases hm:m.contains L <;> simp only[hl,hm]
 | imap L i=>simp only[zcs];cases hl:l.contains L <;> cases hm:m.contains L <;> simp only[hl,hm]
 | xv L s i b n k j c=>simp only[zcs];cases hl:l.contains L <;> cases hm:m.contains L <;> simp only[hl,hm]
 | mo L=>simp only[zcs];cases hl:l.contains L <;> cases hm:m.contains L <;> simp only[hl,hm]
 | mkey it L=>simp only[zcs];cases hl:l.contains L <;> cases hm:m.contains L <;> simp only[hl,hm]
 | iptr L s i j k=>simp only[zcs];cases hl:l.contains L <;> cases hm:m.contains L <;> simp only[hl,hm]
 | _=>rfl
theorem zmR {l m:List Nat}(x:D1):zcW l (zcW m x)=zcW m (zcW l x):=by
 cases x with
 | c x=>simp only[zcW];rw[zj8]
 | agg cs=>simp only[zcW,List.map_map];rw[show zcs l ∘ zcs m=zcs m ∘ zcs l from funext zj8]
theorem zzf {l m:List Nat}(x:DV):zdE l (zdE m x)=zdE m (zdE l x):=by
 cases x with
 | one x=>simp only[zdE];rw[zmR]
 | tup cs=>simp only[zdE,List.map_map];rw[show zcW l ∘ zcW m=zcW m ∘ zcW l from funext zmR]
theorem zzg {l m:List Nat}(x:AO):zc3 l (zc3 m x)=zc3 m (zc3 l x):=by
 cases x with
 | box ty cs=>simp only[zc3,List.map_map];rw[show zcs l ∘ zcs m=zcs m ∘ zcs l from funext zj8]
 | _=>rfl

theorem zFz {α : Type} {f : α → α} : ∀ {l : List (Nat × α)} {t : Nat}, lk (kills f l) t = (lk l t).map f
  | [],_=>rfl
  | (k,a) :: r,t=>by
    simp only[kills]
    rw[zaB,zaB]
    split
    · rfl
    · exact zFz

theorem zJo {σ : St} {i : Nat} {dst : Option Nat} {fp : List (Nat × Bool)} {d : DV} {u : List (Nat × AO)} {kl : List Nat} (t : Nat) :
  lk (σ.upd i dst fp d u kl).env t=if dst=some t then some d else (lk σ.env t).map (zdE kl):=by
 cases kl with
 | nil =>
  have e:(lk σ.env t).map (zdE [])=lk σ.env t:=by cases lk σ.env t <;> simp[zAF]
  rw[e]
  cases dst with
  | none=>rfl
  | some s=>simp only[St.upd,zaB,dqa]
 | cons K r =>
  cases dst with
  | none=>simp only[St.upd,zFz];rw[if_neg (by simp)]
  | some s=>simp only[St.upd,zaB,zFz,dqa]
theorem zFA {σ : St} {i : Nat} {dst : Option Nat} {fp : List (Nat × Bool)} {d : DV} {u : List (Nat × AO)} {kl : List Nat} (L : Nat) :
  lk (σ.upd i dst fp d u kl).objs L=match lk u L with | some o=>some o | none=>(lk σ.objs L).map (zc3 kl):=by
 cases kl with
 | nil =>
  have e:(lk σ.objs L).map (zc3 [])=lk σ.objs L:=by cases lk σ.objs L <;> simp[zAG]
  rw[e]
  change lk (u ++ σ.objs) L=_
  rw[zdd]
  cases lk u L <;> rfl
 | cons K r =>
  simp only[St.upd,zdd,zFz]
  cases lk u L <;> rfl
theorem zJp {σ:St}{i:Nat}{dst:Option Nat}{fp:List (Nat×Bool)}{d:DV}{u:List (Nat×AO)}{kl:List Nat} : (σ.upd i dst fp d u kl).log=σ.log:=by
 cases kl <;> rfl

def OpAct.may : OpAct → DV → Prop
  | .no,_=>False
  | .val _ d _ _,d'=>d'=d
  | .chk _ _ d _ _,d'=>d'=d
  | .rel _ _ ρ _ post d,d'=>∃ x:ρ,post x/\d'=d x
  | .alt _ _ b _ d1 _ d2,d'=>(b=true/\d'=d1)\/(b=false/\d'=d2)
theorem OpAct.may_gives {A:OpAct}{d:DV}(h:A.may d):A.gives d:=by
 cases A with
 | rel fp u ρ s post r=>obtain⟨x,_,hx⟩:=h;exact⟨x,hx⟩
 | alt fp u b s1 d1 s2 d2=>exact h.imp And.right And.right
 | _=>exact h
theorem OpAct.may_of_safe {A:OpAct}(h:A.safe):∃ d,A.may d:=by
 cases A with
 | no=>exact h.elim
 | val fp d u kl=>exact⟨d,rfl⟩
 | chk fp s d u kl=>exact⟨d,rfl⟩
 | rel fp u ρ s post r=>obtain⟨_,x,hx⟩:=h;exact⟨r x,x,hx,rfl⟩
 | alt fp u b s1 d1 s2 d2=>cases b;exact⟨_,.inr ⟨rfl,rfl⟩⟩;exact⟨_,.inl ⟨rfl,rfl⟩⟩

def nx (A:OpAct) (lg:List (Nat×Bool)->List Nat->List (Nat×Nat×Nat)) (i:Nat) (dst:Option Nat) (σ:St) (d:DV):St :=
 (σ.upd i dst A.fp d A.u A.kl).relog (lg A.fp A.kl)

theorem zeG {A : OpAct} {lg : List (Nat × Bool) → List Nat → List (Nat × Nat × Nat)} {i : Nat} {dst : Option Nat} {K : St → Prop} {σ : St} :
  zgl A lg i dst K σ↔A.safe/\∀ d,A.may d->K (nx A lg i dst σ d):=by
 cases A with
 | no=>simp[zgl,OpAct.safe]
 | val fp d u kl=>simp[zgl,OpAct.safe,OpAct.may,nx,OpAct.fp,OpAct.u,OpAct.kl]
 | chk fp s d u kl=>simp[zgl,OpAct.safe,OpAct.may,nx,OpAct.fp,OpAct.u,OpAct.kl]
 | rel fp u ρ s post d =>
  simp only[zgl,OpAct.safe,OpAct.may,nx,OpAct.fp,OpAct.u,OpAct.kl]
  constructor
  ·rintro ⟨h1, h2, h3⟩
   exact⟨⟨h1,h2⟩,λ d' ⟨x,hx,e⟩=>e ▸ h3 x hx⟩
  ·rintro ⟨⟨h1, h2⟩, h3⟩
   exact⟨h1,h2,λ x hx=>h3 _ ⟨x,hx,rfl⟩⟩
 | alt fp u b s1 d1 s2 d2 =>
  cases b <;> simp[zgl,OpAct.safe,OpAct.may,nx,OpAct.fp,OpAct.u,OpAct.kl,zcr]

section
variable (P:Program) (Γ:Ctrs) (nt:Nat) (ops:Array Oper)

def zgT (env:List (Nat×DV)) (o:Oper):Option Bool :=
 match o.guard with
 | none=>some true
 | some (j,want) =>
  match (ops[j]?).bind (·.dst) with
  | none=>none
  | some g =>
   match lk env g with
   | some (.one (.c (.p (.bool b))))=>some (b == want)
   | some (.one (.c .undef))=>some false
   | _=>none

def zot (σ:St) (o:Oper):OpAct :=
 match zcp nt o.dst,zgT ops σ.env o with
 | true,some true=>act P Γ o (evO σ.env) (lk σ.objs)
 | true,some false=>.val [] (.cl .undef) [] []
 | _,_=>.no

def lgG (σ:St) (i:Nat) (o:Oper) (fp:List (Nat×Bool)) (kl:List Nat):List (Nat×Nat×Nat) :=
 match zgT ops σ.env o with
 | some true=>zmk σ i o fp kl
 | _=>[]

def vcL : List Nat → (St → Prop) → St → Prop
  | [],K,σ=>K σ
  | i :: r,K,σ=>match ops[i]? with
    | none=>vcL r K σ
    | some o=>zgl (zot P Γ nt ops σ o) (lgG ops σ i o) i o.dst (vcL r K) σ

def looks (σ:St) (o:Oper):List Nat :=
 match zgT ops σ.env o with
 | some true=>zjm ops o
 | _=>gdT ops o

end

section
variable {P:Program}{Γ:Ctrs}{nt:Nat}{ops:Array Oper}{σ τ:St}{o:Oper}{i:Nat}{A:OpAct}

theorem zjy {L k:Nat}{r:List Nat} : k∈zES σ (L :: r)↔∃ o,lk σ.objs k=some o/\L∈aoV o:=by
 simp only[zES,List.mem_filter,dqz]
 constructor
 ·rintro ⟨_, h⟩
  split at h
  ·rename_i o ho;exact⟨o,ho,by simpa using h⟩
  ·cases h
 ·rintro ⟨o, ho, hL⟩
  refine⟨⟨(k,o),zcJ ho,rfl⟩,?_⟩
  rw[ho];simpa using hL

theorem zrJ:∀ t∈looks ops σ o,t∈zjm ops o:=by
 unfold looks
 split
 ·exact λ _ h=>h
 ·exact λ t h=>dqg.2 (.inr h)
theorem zrK:∀ t∈gdT ops o,t∈looks ops σ o:=by
 unfold looks
 split
 ·exact λ t h=>dqg.2 (.inr h)
 ·exact λ t h=>h

theorem zgv {env env':List (Nat×DV)}(h:∀ t∈gdT ops o,lk env' t=lk env t):zgT ops env' o=zgT ops env o:=by
 unfold zgT
 split
 ·rfl
 ·rename_i j want hg
  split
  ·rfl
  ·rename_i g hgt
   rw[h g (by simp[gdT,hg,hgt])]

theorem zAH {b:Bool}(h:zgT ops σ.env o=some b):∀ t∈gdT ops o,∀ v,lk σ.env t=some v->dvV v=[]:=by
 intro t ht v hv
 unfold gdT at ht
 split at ht
 ·rename_i j want hg
  split at ht
  ·rename_i g hgt
   simp only[dqi] at ht
   subst ht
   unfold zgT at h
   rw[hg] at h
   simp only[hgt] at h
   rw[hv] at h
   split at h
   ·rename_i e;simp only[dqa] at e;subst e;rfl
   ·rename_i e;simp only[dqa] at e;subst e;rfl
   ·cases h
  ·simp at ht
 ·simp at ht

structure Loc (P : Program) (Γ : Ctrs) (nt : Nat) (ops : Array Oper) (σ : St) (i : Nat) (o : Oper) (A : OpAct) (lg : List (Nat × Nat × Nat)) : Prop where
  fst:∀ x∈lg,x.1=i
  wr:∀ x∈A.u,(i,x.1,1)∈lg
  kl:A.kl=[]\/∃ L,A.kl=[L]
  kl3:∀ L∈A.kl,(i,L,3)∈lg
  kl1:∀ L∈A.kl,(i,L,1)∈lg
  kb:∀ L∈A.kl,∀ k o',lk σ.objs k=some o'->L∈aoV o'->(i,k,1)∈lg
  labu:∀ x∈A.u,∀ L∈aoV x.2,(i,L,2)∈lg
  labd:∀ d,A.may d->∀ L∈dvV d,(i,L,2)∈lg\/(i,L,1)∈lg
  see:∀ t∈looks ops σ o,∀ v,lk σ.env t=some v->∀ L∈dvV v,(i,L,2)∈lg
  fpm:∀ y∈A.fp,∀ o',lk σ.objs y.1=some o'->∀ L∈aoV o',(i,L,2)∈lg
  fpt:∀ y∈A.fp,(i,y.1,0)∈lg\/(i,y.1,1)∈lg
  wfp:∀ x∈A.u,(x.1,true)∈A.fp
  congr:∀ τ,(∀ t∈looks ops σ o,lk τ.env t=lk σ.env t)->(∀ y∈A.fp,lk τ.objs y.1=lk σ.objs y.1)->zot P Γ nt ops τ o=A
  logc:∀ τ,(∀ t∈looks ops σ o,lk τ.env t=lk σ.env t)->(∀ y∈A.fp,lk τ.objs y.1=lk σ.objs y.1) ->
    (∀ L∈A.kl,∀ k,(∃ o',lk τ.objs k=some o'/\L∈aoV o')↔∃ o',lk σ.objs k=some o'/\L∈aoV o')->∀ x,x∈lgG ops τ i o A.fp A.kl↔x∈lg

theorem zds {fp : List (Nat × Bool)} {kl : List Nat} {x : Nat × Nat × Nat} : x ∈ zmk σ i o fp kl ↔
    (∃ y∈fp,x=(i,y.1,match y.2 with | true=>1 | false=>0))\/(∃ L∈ztG σ o fp,x=(i,L,2))\/(∃ L∈kl,x=(i,L,3))\/∃ k∈zES σ kl,x=(i,k,1):=by
  simp only[zmk,dqg,dqz,or_assoc]
  constructor
  · rintro (⟨y, h1, h2⟩ | ⟨y, h1, h2⟩ | ⟨y, h1, h2⟩ | ⟨y, h1, h2⟩)
    · exact .inl ⟨y,h1,h2.symm⟩
    · exact .inr (.inl ⟨y,h1,h2.symm⟩)
    · exact .inr (.inr (.inl ⟨y,h1,h2.symm⟩))
    · exact .inr (.inr (.inr ⟨y,h1,h2.symm⟩))
  · rintro (⟨y, h1, h2⟩ | ⟨y, h1, h2⟩ | ⟨y, h1, h2⟩ | ⟨y, h1, h2⟩)
    · exact .inl ⟨y,h1,h2.symm⟩
    · exact .inr (.inl ⟨y,h1,h2.symm⟩)
    · exact .inr (.inr (.inl ⟨y,h1,h2.symm⟩))
    · exact .inr (.inr (.inr ⟨y,h1,h2.symm⟩))

theorem zAI {fp:List (Nat×Bool)}{L:Nat}(h:Men o (evO σ.env) (lk σ.objs) fp L):L∈ztG σ o fp:=by
 unfold ztG
 rcases h with ⟨x,hx,hL⟩ | ⟨y,hy,o',ho,hL⟩
 ·exact dqg.2 (.inl (dqo.2 ⟨x,hx,hL⟩))
 ·refine dqg.2 (.inr (dqo.2 ⟨y,hy,?_⟩));rw[ho];exact hL

theorem zmS {fp:List (Nat×Bool)}(he:∀ x∈o.op.operands.toList,evO τ.env x=evO σ.env x) (hob:∀ y∈fp,lk τ.objs y.1=lk σ.objs y.1):ztG τ o fp=ztG σ o fp:=by
 unfold ztG
 rw[fmc (f:=λ x=>dvV (evO τ.env x)) (h:=λ x=>dvV (evO σ.env x)) λ x hx=>by rw[he x hx]]
 congr 1
 exact fmc λ y hy=>by rw[hob y hy]

theorem zxh (hA:zot P Γ nt ops σ o=A) (hs:A.safe):Loc P Γ nt ops σ i o A (lgG ops σ i o A.fp A.kl):=by
 have hA':=hA
 unfold zot at hA
 split at hA
 ·rename_i hd hw
  have K:=zSg hA hs
  have hlg:∀ fp kl,lgG ops σ i o fp kl=zmk σ i o fp kl:=λ fp kl=>by unfold lgG;rw[hw]
  have hlooks:looks ops σ o=zjm ops o:=by unfold looks;rw[hw]
  have hmen:∀ L,Men o (evO σ.env) (lk σ.objs) A.fp L->(i,L,2)∈lgG ops σ i o A.fp A.kl:=λ L h=>by
   rw[hlg];exact zds.2 (.inr (.inl ⟨L,zAI h,rfl⟩))
  have hfw:∀ L,(L,true)∈A.fp->(i,L,1)∈lgG ops σ i o A.fp A.kl:=λ L h=>by
   rw[hlg];exact zds.2 (.inl ⟨_,h,rfl⟩)
  have hop:∀ τ:St,(∀ t∈looks ops σ o,lk τ.env t=lk σ.env t)->∀ x∈o.op.operands.toList,evO τ.env x=evO σ.env x:=λ τ h x hx =>
   zmP λ t ht=>h t (by rw[hlooks];exact dqg.2 (.inl (dqo.2 ⟨x,hx,ht⟩)))
  have hwt:∀ τ:St,(∀ t∈looks ops σ o,lk τ.env t=lk σ.env t)->zgT ops τ.env o=some true:=λ τ h=>by
   rw[zgv (env:=σ.env) λ t ht=>h t (zrK t ht),hw]
  refine⟨λ x hx=>?_,λ x hx=>hfw _ (K.wr x hx),?_,λ L hL=>?_,λ L hL=>?_,λ L hL k o' hk hL'=>?_,λ x hx L hL=>hmen L (K.labu x hx L hL),
   λ d hd' L hL=>(K.labd d (OpAct.may_gives hd') L hL).imp (hmen L) (hfw L),λ t ht v hv L hL=>?_,λ y hy o' ho L hL=>hmen L (.inr ⟨y,hy,o',ho,hL⟩),λ y hy=>?_,K.wr,λ τ he hob=>?_,λ τ he hob hkb x=>?_⟩
  ·rw [hlg] at hx
   rcases zds.1 hx with ⟨_,_,h⟩ | ⟨_,_,h⟩ | ⟨_,_,h⟩ | ⟨_,_,h⟩ <;> rw[h]
  ·exact K.kl.imp_right λ ⟨L,h,_⟩=>⟨L,h⟩
  ·rw[hlg];exact zds.2 (.inr (.inr (.inl ⟨L,hL,rfl⟩)))
  ·rcases K.kl with h | ⟨M, h, h2⟩
   ·rw[h] at hL;simp at hL
   ·rw[h] at hL;simp at hL;subst hL;exact hfw _ h2
  ·rw [hlg]
   refine zds.2 (.inr (.inr (.inr ⟨k,?_,rfl⟩)))
   rcases K.kl with h | ⟨M,h,h2⟩
   ·rw[h] at hL;simp at hL
   ·rw[h] at hL ⊢;simp at hL;subst hL;exact zjy.2 ⟨o',hk,hL'⟩
  ·rw [hlooks] at ht
   rcases dqg.1 ht with ht | ht
   ·obtain ⟨x, hx, ht⟩ := dqo.1 ht
    refine hmen L (.inl ⟨x,hx,?_⟩)
    cases x with
    | tmp s=>simp only[zNU,dqi] at ht;subst ht;simp only[evO,hv];exact hL
    | _=>simp[zNU] at ht
   ·rw[zAH hw t ht v hv] at hL;simp at hL
  ·rw [hlg]
   obtain⟨L,b⟩:=y
   cases b with
   | true=>exact .inr (zds.2 (.inl ⟨_,hy,rfl⟩))
   | false=>exact .inl (zds.2 (.inl ⟨_,hy,rfl⟩))
  ·unfold zot
   rw[hd,hwt τ he]
   exact K.congr _ _ (hop τ he) hob
  ·have e1 : lgG ops τ i o A.fp A.kl = zmk τ i o A.fp A.kl := by unfold lgG; rw [hwt τ he]
   rw[e1,hlg,zds,zds,zmS (hop τ he) hob]
   refine or_congr Iff.rfl (or_congr Iff.rfl (or_congr Iff.rfl ?_))
   rcases K.kl with h | ⟨M,h,h2⟩
   ·rw[h];simp[zES]
   ·rw [h]
    have:∀ k,k∈zES τ [M]↔k∈zES σ [M]:=λ k=>by rw[zjy,zjy];exact hkb M (by rw[h];simp) k
    constructor
    ·rintro⟨k,h1,h2⟩;exact⟨k,(this k).1 h1,h2⟩
    ·rintro⟨k,h1,h2⟩;exact⟨k,(this k).2 h1,h2⟩
 ·rename_i hd hw
  subst hA
  have hlg:∀ fp kl,lgG ops σ i o fp kl=[]:=λ fp kl=>by unfold lgG;rw[hw]
  have hlooks:looks ops σ o=gdT ops o:=by unfold looks;rw[hw]
  have hwt:∀ τ:St,(∀ t∈looks ops σ o,lk τ.env t=lk σ.env t)->zgT ops τ.env o=some false:=λ τ h=>by
   rw[zgv (env:=σ.env) λ t ht=>h t (zrK t ht),hw]
  refine⟨λ x hx=>?_,λ x hx=>?_,.inl rfl,λ L hL=>?_,λ L hL=>?_,λ L hL=>?_,λ x hx=>?_,λ d hd' L hL=>?_,λ t ht v hv L hL=>?_,λ y hy=>?_,λ y hy=>?_,λ x hx=>?_,λ τ he hob=>?_,λ τ he hob hkb x=>?_⟩
  ·rw[hlg] at hx;simp at hx
  ·simp[OpAct.u] at hx
  ·simp[OpAct.kl] at hL
  ·simp[OpAct.kl] at hL
  ·simp[OpAct.kl] at hL
  ·simp[OpAct.u] at hx
  ·simp only[OpAct.may] at hd';subst hd';simp[dvV,d1V,clV] at hL
  ·rw[hlooks] at ht;rw[zAH hw t ht v hv] at hL;simp at hL
  ·simp[OpAct.fp] at hy
  ·simp[OpAct.fp] at hy
  ·simp[OpAct.u] at hx
  ·unfold zot;rw[hd,hwt τ he]
  ·rw [hlg]
   have:lgG ops τ i o (OpAct.val [] (.cl .undef) [] []).fp (OpAct.val [] (.cl .undef) [] []).kl=[]:=by unfold lgG;rw[hwt τ he]
   rw[this]
 ·exact dq9 hA hs

theorem zou {lg:List (Nat×Bool)->List Nat->List (Nat×Nat×Nat)}{dst:Option Nat}{d:DV}(t:Nat):lk (nx A lg i dst σ d).env t=if dst=some t then some d else (lk σ.env t).map (zdE A.kl):=zJo t
theorem zj9 {lg:List (Nat×Bool)->List Nat->List (Nat×Nat×Nat)}{dst:Option Nat}{d:DV}(L:Nat):lk (nx A lg i dst σ d).objs L=match lk A.u L with | some o=>some o | none=>(lk σ.objs L).map (zc3 A.kl):=zFA L
theorem zjz {lg:List (Nat×Bool)->List Nat->List (Nat×Nat×Nat)}{dst:Option Nat}{d:DV} : (nx A lg i dst σ d).log=lg A.fp A.kl ++ σ.log:=by simp only[nx,St.relog,zJp]

theorem zFB (h:Eqv σ τ) (o:Oper):zot P Γ nt ops τ o=zot P Γ nt ops σ o:=by
 unfold zot
 rw[zgv (env:=σ.env) λ t _=>(h.env t).symm,show evO τ.env=evO σ.env from funext λ x=>zmP λ t _=>(h.env t).symm,show lk τ.objs=lk σ.objs from funext λ t=>(h.objs t).symm]
theorem zJq (h:Eqv σ τ){fp:List (Nat×Bool)}{kl:List Nat}(x:Nat×Nat×Nat):x∈lgG ops σ i o fp kl↔x∈lgG ops τ i o fp kl:=by
 unfold lgG
 rw[zgv (env:=σ.env) (env':=τ.env) λ t _=>(h.env t).symm]
 split
 ·rw [zds, zds, zmS (σ := σ) (τ := τ) (fun x _ => zmP fun t _ => (h.env t).symm) (fun y _ => (h.objs y.1).symm)]
  refine or_congr Iff.rfl (or_congr Iff.rfl (or_congr Iff.rfl ?_))
  cases kl with
  | nil=>simp[zES]
  | cons L r =>
   have:∀ k,k∈zES σ (L :: r)↔k∈zES τ (L :: r):=λ k=>by rw[zjy,zjy,h.objs k]
   constructor
   ·rintro⟨k,h1,h2⟩;exact⟨k,(this k).1 h1,h2⟩
   ·rintro⟨k,h1,h2⟩;exact⟨k,(this k).2 h1,h2⟩
 ·exact Iff.rfl

theorem zpx {K : St → Prop} (hK : ∀ σ τ, Eqv σ τ → K σ → K τ) : ∀ (l : List Nat) (σ τ : St), Eqv σ τ → vcL P Γ nt ops l K σ → vcL P Γ nt ops l K τ
  | [],σ,τ,h,hv=>hK σ τ h hv
  | i :: r,σ,τ,h,hv=>by
    simp only[vcL] at hv ⊢
    split at hv
    · exact zpx hK r σ τ h hv
    · rename_i o ho
      rw[zeG] at hv ⊢
      rw[zFB h]
      refine⟨hv.1,λ d hd=>zpx hK r _ _ ⟨λ t=>?_,λ L=>?_,λ x=>?_⟩ (hv.2 d hd)⟩
      · rw[zou,zou,h.env]
      · rw[zj9,zj9,h.objs]
      · rw [zjz, zjz, dqg, dqg, h.log x]
        exact or_congr (zJq h x) Iff.rfl

theorem zjA {K K':St->Prop}{l l':List Nat}{i:Nat}(hK:∀ σ,vcL P Γ nt ops l K σ->vcL P Γ nt ops l' K' σ) (hv:vcL P Γ nt ops (i :: l) K σ):vcL P Γ nt ops (i :: l') K' σ:=by
 simp only[vcL] at hv ⊢
 split at hv
 ·exact hK _ hv
 ·rw [zeG] at hv ⊢
  exact⟨hv.1,λ d hd=>hK _ (hv.2 d hd)⟩

theorem zug {K : St → Prop} {R : List (Nat × Nat × Nat) → Prop} (hR : ∀ l m, (∀ x ∈ l, x ∈ m) → R m → R l) (hK : ∀ σ, K σ → R σ.log) : ∀ (l : List Nat) (σ : St), vcL P Γ nt ops l K σ → R σ.log
  | [],σ,hv=>hK σ hv
  | i :: r,σ,hv=>by
    simp only[vcL] at hv
    split at hv
    · exact zug hR hK r σ hv
    · rw [zeG] at hv
      obtain⟨d,hd⟩:=OpAct.may_of_safe hv.1
      refine hR _ _ (λ x hx=>?_) (zug hR hK r _ (hv.2 d hd))
      rw[zjz];exact dqg.2 (.inr hx)

def zmT (log:List (Nat×Nat×Nat)) (i j:Nat):Prop:=∀ L k m,(i,L,k)∈log->(j,L,m)∈log->zzw k m=false

theorem zov {l:List Nat}{x:Option DV}(h:∀ v,x=some v->∀ L∈dvV v,L ∉ l):x.map (zdE l)=x:=by
 cases x with
 | none=>rfl
 | some v=>simp only[Option.map_some];rw[zpv (h v rfl)]
theorem zow {l:List Nat}{x:Option AO}(h:∀ v,x=some v->∀ L∈aoV v,L ∉ l):x.map (zc3 l)=x:=by
 cases x with
 | none=>rfl
 | some v=>simp only[Option.map_some];rw[zpw (h v rfl)]

theorem zFC {a b:Oper}(h:zq2 ops a b=false):(∀ t∈zjm ops b,a.dst ≠ some t)/\(∀ t∈zjm ops a,b.dst ≠ some t)/\∀ t,a.dst=some t->b.dst ≠ some t:=by
 simp only[zq2,Bool.or_eq_false_iff] at h
 obtain⟨⟨h1,h2⟩,h3⟩:=h
 refine⟨λ t ht e=>?_,λ t ht e=>?_,λ t e e'=>?_⟩
 ·rw [e] at h1; simp only [meets] at h1
  have:(zjm ops b).contains t=true:=by simpa using ht
  rw[this] at h1;cases h1
 ·rw [e] at h2; simp only [meets] at h2
  have:(zjm ops a).contains t=true:=by simpa using ht
  rw[this] at h2;cases h2
 ·rw [e, e'] at h3; simp only [zzv] at h3
  rw[show Nat.beq t t=true from by simp] at h3;cases h3

theorem zFD {K : St → Prop} {i j : Nat} {oi oj : Oper} {r : List Nat} (hi : ops[i]? = some oi) (hj : ops[j]? = some oj) (hT : zq2 ops oi oj = false)
    (hE:∀ τ τ',Eqv τ τ'->vcL P Γ nt ops r K τ->vcL P Γ nt ops r K τ') (hN:∀ τ,vcL P Γ nt ops r K τ->zmT τ.log i j)
    (h:vcL P Γ nt ops (i :: j :: r) K σ):vcL P Γ nt ops (j :: i :: r) K σ:=by
  obtain⟨cT1,cT2,cT3⟩:=zFC hT
  simp only[vcL,hi,hj] at h ⊢
  rw[zeG] at h
  obtain⟨hsA,hA⟩:=h
  generalize hAe:zot P Γ nt ops σ oi=A at hsA hA
  have LA:=zxh (i:=i) hAe hsA
  -- the second operation behind the first: az before it
  have key:∀ d,A.may d->∃ B,zot P Γ nt ops (nx A (lgG ops σ i oi) i oi.dst σ d) oj=B/\B.safe /\
      (∀ e,B.may e->vcL P Γ nt ops r K (nx B (lgG ops (nx A (lgG ops σ i oi) i oi.dst σ d) j oj) j oj.dst (nx A (lgG ops σ i oi) i oi.dst σ d) e)) /\
      zmT (lgG ops (nx A (lgG ops σ i oi) i oi.dst σ d) j oj B.fp B.kl ++ (lgG ops σ i oi A.fp A.kl)) i j:=by
    intro d hd
    have h2:=hA d hd
    rw[zeG] at h2
    obtain⟨hsB,hB⟩:=h2
    refine⟨_,rfl,hsB,hB,?_⟩
    obtain⟨e,he⟩:=OpAct.may_of_safe hsB
    have:=hN _ (hB e he)
    rw[zjz,zjz] at this
    intro L k m hk hm
    refine this L k m ?_ ?_
    · rcases dqg.1 hk with h | h
      · exact dqg.2 (.inl h)
      · exact dqg.2 (.inr (dqg.2 (.inl h)))
    · rcases dqg.1 hm with h | h
      · exact dqg.2 (.inl h)
      · exact dqg.2 (.inr (dqg.2 (.inl h)))
  have main:∀ d,A.may d->∀ B,zot P Γ nt ops (nx A (lgG ops σ i oi) i oi.dst σ d) oj=B->B.safe ->
      (∀ e,B.may e->vcL P Γ nt ops r K (nx B (lgG ops (nx A (lgG ops σ i oi) i oi.dst σ d) j oj) j oj.dst (nx A (lgG ops σ i oi) i oi.dst σ d) e)) ->
      zmT (lgG ops (nx A (lgG ops σ i oi) i oi.dst σ d) j oj B.fp B.kl ++ (lgG ops σ i oi A.fp A.kl)) i j ->
      zot P Γ nt ops σ oj=B/\∀ e,B.may e->zot P Γ nt ops (nx B (lgG ops σ j oj) j oj.dst σ e) oi=A /\
        vcL P Γ nt ops r K (nx A (lgG ops (nx B (lgG ops σ j oj) j oj.dst σ e) i oi) i oi.dst (nx B (lgG ops σ j oj) j oj.dst σ e) d):=by
    intro d hd B hBe hsB hB hno
    generalize hσ1:nx A (lgG ops σ i oi) i oi.dst σ d=σ1 at hBe hB hno
    have LB:=zxh (i:=j) hBe hsB
    have no:∀ L k m,(i,L,k)∈lgG ops σ i oi A.fp A.kl->(j,L,m)∈lgG ops σ1 j oj B.fp B.kl->zzw k m=true->False:=λ L k m h1 h2 hc=>by
      have:=hno L k m (dqg.2 (.inr h1)) (dqg.2 (.inl h2))
      rw[this] at hc;cases hc
    have zUE:∀ t,lk σ1.env t=if oi.dst=some t then some d else (lk σ.env t).map (zdE A.kl):=λ t=>by rw[<- hσ1,zou]
    have objs1:∀ L,lk σ1.objs L=match lk A.u L with | some o=>some o | none=>(lk σ.objs L).map (zc3 A.kl):=λ L=>by rw[<- hσ1,zj9]
    -- what the second looks at, the first has not changed
    have seeB:∀ t∈looks ops σ1 oj,lk σ.env t=lk σ1.env t:=by
      intro t ht
      have e:=zUE t
      rw[if_neg (cT1 t (zrJ t ht))] at e
      rw[e]
      refine (zov λ v hv L hL hk=>?_).symm
      rw[hv,Option.map_some] at e
      exact no L 3 2 (LA.kl3 L hk) (LB.see t ht _ e L (by rw[zJn];exact hL)) rfl
    have fpB:∀ y∈B.fp,lk σ.objs y.1=lk σ1.objs y.1:=by
      intro y hy
      have e:=objs1 y.1
      have hn:lk A.u y.1=none:=by
        cases hu:lk A.u y.1 with
        | none=>rfl
        | some o' =>
          have h1:=LA.wr _ (zcJ hu)
          rcases LB.fpt y hy with h2 | h2
          · exact (no _ _ _ h1 h2 rfl).elim
          · exact (no _ _ _ h1 h2 rfl).elim
      rw[hn] at e
      simp only at e
      rw[e]
      refine (zow λ v hv L hL hk=>?_).symm
      rw[hv,Option.map_some] at e
      exact no L 3 2 (LA.kl3 L hk) (LB.fpm y hy _ e L (by rw[zuf];exact hL)) rfl
    have hBσ:=LB.congr σ seeB fpB
    refine⟨hBσ,λ e he=>?_⟩
    generalize hσ1':nx B (lgG ops σ j oj) j oj.dst σ e=σ1'
    have env1':∀ t,lk σ1'.env t=if oj.dst=some t then some e else (lk σ.env t).map (zdE B.kl):=λ t=>by rw[<- hσ1',zou]
    have objs1':∀ L,lk σ1'.objs L=match lk B.u L with | some o=>some o | none=>(lk σ.objs L).map (zc3 B.kl):=λ L=>by rw[<- hσ1',zj9]
    have seeA:∀ t∈looks ops σ oi,lk σ1'.env t=lk σ.env t:=by
      intro t ht
      rw[env1',if_neg (cT2 t (zrJ t ht))]
      exact zov λ v hv L hL hk=>no L 2 3 (LA.see t ht v hv L hL) (LB.kl3 L hk) rfl
    have uB:∀ y∈A.fp,lk B.u y.1=none:=by
      intro y hy
      cases hu:lk B.u y.1 with
      | none=>rfl
      | some o' =>
        have h1:=LB.wr _ (zcJ hu)
        rcases LA.fpt y hy with h2 | h2
        · exact (no _ _ _ h2 h1 rfl).elim
        · exact (no _ _ _ h2 h1 rfl).elim
    have fpA:∀ y∈A.fp,lk σ1'.objs y.1=lk σ.objs y.1:=by
      intro y hy
      rw[objs1',uB y hy]
      exact zow λ v hv L hL hk=>no L 2 3 (LA.fpm y hy v hv L hL) (LB.kl3 L hk) rfl
    have hAσ:=LA.congr σ1' seeA fpA
    refine⟨hAσ,hE _ _ ⟨λ t=>?_,λ L=>?_,λ x=>?_⟩ (hB e he)⟩
    · -- the temporaries
      rw[zou,zou,zUE,env1']
      by_cases h1:oj.dst=some t
      · rw [if_pos h1, if_pos h1, if_neg fun h2 => cT3 t h2 h1, Option.map_some, zpv fun L hL hk => ?_]
        rcases LB.labd e he L hL with h3 | h3
        · exact no L 3 2 (LA.kl3 L hk) h3 rfl
        · exact no L 1 1 (LA.kl1 L hk) h3 rfl
      · rw [if_neg h1, if_neg h1]
        by_cases h2:oi.dst=some t
        · rw [if_pos h2, if_pos h2, Option.map_some, zpv fun L hL hk => ?_]
          rcases LA.labd d hd L hL with h3 | h3
          · exact no L 2 3 h3 (LB.kl3 L hk) rfl
          · exact no L 1 1 h3 (LB.kl1 L hk) rfl
        · rw [if_neg h2, if_neg h2]
          cases lk σ.env t with
          | none=>rfl
          | some v=>simp only[Option.map_some];rw[zzf]
    · -- the objects
      rw[zj9,zj9,objs1,objs1']
      cases hb:lk B.u L with
      | some ob =>
        cases ha:lk A.u L with
        | some oa=>exact (no L 1 1 (LA.wr _ (zcJ ha)) (LB.wr _ (zcJ hb)) rfl).elim
        | none =>
          simp only[Option.map_some]
          rw[zpw λ M hM hk=>no M 3 2 (LA.kl3 M hk) (LB.labu _ (zcJ hb) M hM) rfl]
      | none =>
        cases ha:lk A.u L with
        | some oa =>
          simp only[Option.map_some]
          rw[zpw λ M hM hk=>no M 2 3 (LA.labu _ (zcJ ha) M hM) (LB.kl3 M hk) rfl]
        | none =>
          simp only
          cases lk σ.objs L with
          | none=>rfl
          | some v=>simp only[Option.map_some];rw[zzg]
    · -- the log
      rw[zjz,zjz]
      have l1:σ1.log=lgG ops σ i oi A.fp A.kl ++ σ.log:=by rw[<- hσ1,zjz]
      have l2:σ1'.log=lgG ops σ j oj B.fp B.kl ++ σ.log:=by rw[<- hσ1',zjz]
      rw[l1,l2]
      have e1:x∈lgG ops σ j oj B.fp B.kl↔x∈lgG ops σ1 j oj B.fp B.kl:=by
        refine LB.logc σ seeB fpB (λ L hL k=>?_) x
        rw[objs1]
        cases ha:lk A.u k with
        | some oa =>
          simp only[dqa]
          constructor
          · rintro ⟨o', ho, hL'⟩
            exact (no L 2 3 (LA.fpm _ (LA.wfp _ (zcJ ha)) o' ho L hL') (LB.kl3 L hL) rfl).elim
          · rintro ⟨o', rfl, hL'⟩
            exact (no L 2 3 (LA.labu _ (zcJ ha) L hL') (LB.kl3 L hL) rfl).elim
        | none =>
          simp only
          cases lk σ.objs k with
          | none=>simp
          | some v=>simp[zuf]
      have e2:x∈lgG ops σ1' i oi A.fp A.kl↔x∈lgG ops σ i oi A.fp A.kl:=by
        refine LA.logc σ1' seeA fpA (λ L hL k=>?_) x
        rw[objs1']
        cases hb:lk B.u k with
        | some ob =>
          simp only[dqa]
          constructor
          · rintro ⟨o', rfl, hL'⟩
            exact (no L 3 2 (LA.kl3 L hL) (LB.labu _ (zcJ hb) L hL') rfl).elim
          · rintro ⟨o', ho, hL'⟩
            exact (no k 1 1 (LA.kb L hL k o' ho hL') (LB.wr _ (zcJ hb)) rfl).elim
        | none =>
          simp only
          cases lk σ.objs k with
          | none=>simp
          | some v=>simp[zuf]
      simp only[dqg]
      rw[e1,e2,<- or_assoc,<- or_assoc]
      exact or_congr (or_comm) Iff.rfl
  rw[zeG]
  obtain⟨d0,hd0⟩:=OpAct.may_of_safe hsA
  obtain⟨B,hBe,hsB,hB,hno⟩:=key d0 hd0
  obtain⟨hBσ,hrest⟩:=main d0 hd0 B hBe hsB hB hno
  rw[hBσ]
  refine⟨hsB,λ e he=>?_⟩
  rw[zeG]
  rw[(hrest e he).1]
  refine⟨hsA,λ d hd=>?_⟩
  obtain⟨B',hBe',hsB',hB',hno'⟩:=key d hd
  obtain⟨hBσ',hrest'⟩:=main d hd B' hBe' hsB' hB' hno'
  have hBB:B'=B:=hBσ'.symm.trans hBσ
  subst hBB
  exact (hrest' e he).2

end
end Go.Pm
namespace Go.Pm
open Go.RowKit (Below)

section
variable {P:Program}{Γ:Ctrs}{nt B:Nat}{w0:World}{h0:Fz}{g:Gh}{σ:St}{a:Act}{w:World}{r:Option Nat}{n i:Nat}{Q:Exit->Act->World->Prop}{ops:Array Oper}

theorem zzh {K:St->Prop}(hK:∀ σ τ,Eqv σ τ->K σ->K τ):∀ (l:List Oper) (i:Nat) (σ:St),(∀ j,l[j]? = ops[i+j]?)->zgR P Γ nt ops i l K σ->vcL P Γ nt ops (List.range' i l.length) K σ:=by
 intro l
 induction l with
 | nil=>intro i σ _ h;exact h
 | cons o l ih =>
  intro i σ hl h
  have ho:ops[i]? = some o:=by have:=hl 0;simpa using this.symm
  have hl':∀ j,l[j]? = ops[i+1+j]?:=λ j=>by have:=hl (j+1);rw[dqC] at this;rw[this];congr 1;omega
  rw[dqr,List.range'_succ]
  simp only[zgR] at h
  split at h
  ·exact h.elim
  ·rename_i hd
   have one:∀ τ:St,zgT ops τ.env o=some true->zgl (act P Γ o (evO τ.env) (lk τ.objs)) (zmk τ i o) i o.dst (zgR P Γ nt ops (i+1) l K) τ->vcL P Γ nt ops (i :: List.range' (i+1) l.length) K τ:=by
    intro τ hw hv
    simp only[vcL,ho]
    have e1:zot P Γ nt ops τ o=act P Γ o (evO τ.env) (lk τ.objs):=by unfold zot;rw[hd,hw]
    have e2:lgG ops τ i o=zmk τ i o:=by funext fp kl;unfold lgG;rw[hw]
    rw[e1,e2]
    rw[zeG] at hv ⊢
    exact⟨hv.1,λ d hd=>ih (i+1) _ hl' (hv.2 d hd)⟩
   have two:∀ τ:St,zgT ops τ.env o=some false->zgR P Γ nt ops (i+1) l K (τ.skip o.dst)->vcL P Γ nt ops (i :: List.range' (i+1) l.length) K τ:=by
    intro τ hw hv
    simp only[vcL,ho]
    have e1:zot P Γ nt ops τ o=.val [] (.cl .undef) [] []:=by unfold zot;rw[hd,hw]
    have e2:lgG ops τ i o=λ _ _=>[]:=by funext fp kl;unfold lgG;rw[hw]
    rw[e1,e2]
    change vcL P Γ nt ops (List.range' (i+1) l.length) K ((τ.upd i o.dst [] (.cl .undef) [] []).relog [])
    have e3:(τ.upd i o.dst [] (.cl .undef) [] []).relog []=τ.skip o.dst:=by cases o.dst <;> rfl
    rw[e3]
    exact ih (i+1) _ hl' hv
   split at h
   ·rename_i hg
    exact one σ (by unfold zgT;rw[hg]) h
   ·rename_i j want hg
    split at h
    ·exact h.elim
    ·rename_i gt hgt
     have wt:∀ b,zgT ops (σ.setT gt (.bool b)).env o=some (b == want):=λ b=>by
      unfold zgT
      rw[hg]
      simp only[hgt]
      rw[show lk (σ.setT gt (.bool b)).env gt=some (.bool b) by simp[St.setT,zaB]]
     split at h
     ·rename_i b hb
      have eq:∀ c,b=c->Eqv (σ.setT gt (.bool c)) σ:=λ c hc=>⟨λ t=>by
       simp only[St.setT,zaB]
       split
       ·rename_i e;subst e;rw[hb,hc]
       ·rfl,λ _=>rfl,λ _=>Iff.rfl⟩
      have h2:=zgY.1 h
      refine zpx hK _ _ _ (eq b rfl) ?_
      cases b with
      | true =>
       have h3:=h2.1 rfl
       cases want with
       | true=>exact one _ (wt true) h3
       | false=>exact two _ (wt true) h3
      | false =>
       have h3:=h2.2 rfl
       cases want with
       | true=>exact two _ (wt false) h3
       | false=>exact one _ (wt false) h3
     ·rename_i hb
      refine two σ ?_ h
      unfold zgT
      rw[hg]
      simp only[hgt]
      rw[hb]
     ·exact h.elim

theorem zOo (hok : OkAll P Γ) {K : St → Prop} {l : List Nat} {R : Act → World → Prop} {D : List Nat} {a0 : Act} {ad : List Deferred} (hD : ∀ (j : Nat) (o : Oper), ops[j]? = some o → ∀ t, o.dst = some t → t ∈ D)
    (hv:vcL P Γ nt ops (i :: l) K σ) (S:Sim P nt B w0 h0 g σ a w) (hkp:Kp D a0 a) (had:a.defers=ad)
    (hR:∀ σ' g' a' w',vcL P Γ nt ops l K σ'->Sim P nt B w0 h0 g' σ' a' w'->Kp D a0 a'->a'.defers=ad->R a' w'):wpOpIn (FR r) n P ops Q i R a w:=by
  simp only[vcL] at hv
  unfold wpOpIn
  split at hv
  · rename_i ho
    rw[ho]
    exact hR σ g a w hv S hkp had
  · rename_i o ho
    rw[ho]
    simp only
    obtain⟨hs,hk⟩:=zmr.1 hv
    have wnt:∀ b,zgT ops σ.env o=some b->Region.wanted o (yielded ops a.tmps)=b:=by
      intro b hw
      unfold zgT at hw
      split at hw
      · rename_i hg
        simp only[dqa] at hw;subst hw
        simp[Region.wanted,hg]
      · rename_i j want hg
        split at hw
        · cases hw
        · rename_i gt hgt
          split at hw
          · rename_i c hb
            simp only[dqa] at hw;subst hw
            have hvv:a.tmps.getD gt undef=.bool c:=by
              have:=S.env gt _ hb
              generalize a.tmps.getD gt undef=v at this
              cases this;rfl
            simp[Region.wanted,hg,zg3 hgt hvv]
          · rename_i hb
            simp only[dqa] at hw;subst hw
            have hvv:a.tmps.getD gt undef=undef:=S.env gt _ hb
            simp[Region.wanted,hg,zgu hgt hvv]
          · cases hw
    generalize hA:zot P Γ nt ops σ o=A at hs hk
    have hA':=hA
    unfold zot at hA
    split at hA
    · rename_i hd hw
      rw[if_pos (wnt true hw)]
      refine zmJ (zHt (zmD (i:=i) (Q:=Q) (r:=r) (n:=n) hok S hd hA hs)) ?_
      rintro a' w' ⟨⟨hdf,g',σ',hst,S'⟩,v,ds,rfl⟩
      exact hR _ g' _ w' (hk σ' hst) (S'.log _) (hkp.put (hD i o ho) v ds ((put_defers _ _ _).symm.trans hdf)) (hdf.trans had)
    · rename_i hd hw
      rw[if_neg (by rw[wnt false hw];simp)]
      refine⟨λ _ _=>trivial,?_⟩
      subst hA
      refine hR _ g _ w (hk _ rfl) ?_ (hkp.put (hD i o ho) undef a.defers rfl) ((put_defers _ _ _).trans had)
      have:=S.skip hd
      have e:(σ.upd i o.dst [] (.cl .undef) [] [])=σ.skip o.dst:=by cases o.dst <;> rfl
      rw[e]
      exact this.log _
    · exact dq9 hA hs

theorem zrL {K : St → Prop} {i : Nat} {oi : Oper} {l2 : List Nat} (hi : ops[i]? = some oi) (hE : ∀ σ τ, Eqv σ τ → K σ → K τ) {R : List (Nat × Nat × Nat) → Prop} (hR : ∀ l m, (∀ x ∈ l, x ∈ m) → R m → R l) (hK : ∀ σ, K σ → R σ.log) :
  ∀ (l1:List Nat) (σ:St),(∀ p∈l1,(∀ log,R log->zmT log p i)/\∀ op,ops[p]? = some op->zq2 ops op oi=false) ->
   vcL P Γ nt ops (l1 ++ i :: l2) K σ->vcL P Γ nt ops (i :: (l1 ++ l2)) K σ
 | [],σ,_,h=>h
 | p :: l1,σ,hp,h=>by
  have h1:vcL P Γ nt ops (p :: i :: (l1 ++ l2)) K σ:=zjA (λ σ h=>zrL hi hE hR hK l1 σ (λ q hq=>hp q (dqf _ hq)) h) h
  obtain⟨hN,hT⟩:=hp p dqj
  cases hop:ops[p]? with
  | none =>
   have e:∀ l σ,vcL P Γ nt ops (p :: l) K σ↔vcL P Γ nt ops l K σ:=λ l σ=>by simp only[vcL,hop]
   have h2:=(e _ _).1 h1
   exact zjA (λ τ h=>(e _ _).2 h) h2
  | some op =>
   exact zFD hop hi (hT op hop) (λ τ τ' he hv=>zpx hE _ _ _ he hv) (λ τ hv=>hN _ (zug hR hK _ _ hv)) h1

theorem zmU {ms:List Nat}{S:Nat->Prop}{p:Nat} : ∀ (es:List Edge),(∀ e∈es,Region.binds .any e=true->S e.on) ->
  (∀ k m,ms[k]? = some m->S k->m.testBit p=true->S p)->(zml ms es).testBit p=true->S p
 | [],_,_,h=>by simp[zml] at h
 | e :: r,he,hm,h=>by
  have ih:=zmU (ms:=ms) (p:=p) r (λ e' h'=>he e' (dqf _ h')) hm
  simp only[zml] at h
  split at h
  ·rename_i m hb hms
   have hS:=he e dqj hb
   rw[Nat.testBit_or,Nat.testBit_or,Bool.or_eq_true,Bool.or_eq_true] at h
   rcases h with (h | h) | h
   ·rw [Nat.testBit_two_pow] at h
    have:e.on=p:=of_decide_eq_true h
    rw[<- this];exact hS
   ·exact hm _ _ hms hS h
   ·exact ih h
  ·exact ih h

theorem zox {S:Nat->Prop}{p:Nat}(hcl:∀ (k:Nat) (o:Oper),ops[k]? = some o->S k->∀ e∈o.after,Region.binds .any e=true->S e.on):∀ (l:List Oper) (ms:List Nat),(∀ j,l[j]? = ops[ms.length+j]?) ->
  (∀ (k:Nat) (o:Oper) (m:Nat),ops[k]? = some o->ms[k]? = some m->(∀ e∈o.after,Region.binds .any e=true->S e.on)->m.testBit p=true->S p) ->
  ∀ (k:Nat) (o:Oper) (m:Nat),ops[k]? = some o->(masks l ms)[k]? = some m->(∀ e∈o.after,Region.binds .any e=true->S e.on)->m.testBit p=true->S p
 | [],ms,_,h=>h
 | o :: r,ms,hl,h=>by
  have ho:ops[ms.length]? = some o:=by have:=hl 0;simpa using this.symm
  simp only[masks]
  refine zox hcl r (ms ++ [zml ms o.after.toList]) (λ j=>by have:=hl (j+1);rw[dqC] at this;rw[this,dqu];congr 1;simp;omega) ?_
  intro k ok m hk hm he hb
  rw[List.getElem?_append] at hm
  split at hm
  ·exact h k ok m hk hm he hb
  ·rename_i hlt
   have hk':k=ms.length:=by
    rcases Nat.lt_or_ge k (ms.length+1) with h1 | h1
    ·omega
    ·rw[dqM (by simp;omega)] at hm;cases hm
   subst hk'
   rw[ho] at hk
   simp only[dqa] at hk;subst hk
   simp only[Nat.sub_self,List.getElem?_cons_zero,dqa] at hm
   subst hm
   refine zmU _ (λ e h'=>he e (by simpa using h')) (λ k' m' hm' hS hb'=>?_) hb
   have hlt':k' < ms.length:=by
    rcases Nat.lt_or_ge k' ms.length with h1 | h1
    ·exact h1
    ·rw[dqM h1] at hm';cases hm'
   cases hok:ops[k']? with
   | some ok'=>exact h k' ok' m' hok hm' (hcl k' ok' hok hS) hb'
   | none =>
    have hlen:ms.length < ops.size:=by
     rcases Nat.lt_or_ge ms.length ops.size with h1 | h1
     ·exact h1
     ·rw[Array.getElem?_eq_none h1] at ho;cases ho
    rw[Array.getElem?_eq_none_iff] at hok;omega

def zlM (ms:List Nat) (log:List (Nat×Nat×Nat)):Prop:=zoY ms log=true
theorem zlM.sub {ms:List Nat}(l m:List (Nat×Nat×Nat)) (h:∀ x∈l,x∈m) (hm:zlM ms m):zlM ms l:=by
 simp only[zlM,zoY,List.all_eq_true] at hm ⊢
 exact λ x hx y hy=>hm x (h x hx) y (h y hy)
theorem zlM.no {ms:List Nat}{log:List (Nat×Nat×Nat)}(h:zlM ms log){p i:Nat}(hpi:p < i) (hb:∀ m,ms[i]? = some m->m.testBit p=false):zmT log p i:=by
 intro L k m h1 h2
 simp only[zlM,zoY,List.all_eq_true] at h
 have:=h _ h1 _ h2
 simp only[Bool.or_eq_true,Bool.not_eq_true'] at this
 rcases this with ((h3 | h3) | h3) | h3
 ·rw[show Nat.blt p i=true from by simpa [Nat.blt_eq] using hpi] at h3;cases h3
 ·rw[show Nat.beq L L=true from by simp] at h3;cases h3
 ·exact h3
 ·split at h3
  ·rename_i m' hm';rw[hb m' hm'] at h3;cases h3
  ·cases h3

def unl (ops:Array Oper) (listed:Array Bool):List Nat:=(List.range ops.size).filter λ k=>!listed.getD k true

theorem zmV {listed:Array Bool} : i∈Region.ready .any ops listed↔i∈unl ops listed/\∃ o,ops[i]? = some o/\∀ e∈o.after,Region.binds .any e=true->listed.getD e.on false=true:=by
 simp only[Region.ready,unl,List.mem_filter,dqm]
 constructor
 ·rintro ⟨h1, h2, h3⟩
  refine⟨⟨h1,h2⟩,?_⟩
  cases ho:ops[i]? with
  | none=>rw[ho] at h3;simp at h3
  | some o =>
   rw[ho] at h3
   simp only[Option.map_some,Option.getD_some,Array.all_eq_true_iff_forall_mem,Bool.or_eq_true,Bool.not_eq_true'] at h3
   refine⟨o,rfl,λ e he hb=>?_⟩
   rcases h3 e he with h | h
   ·rw[hb] at h;cases h
   ·exact h
 ·rintro ⟨⟨h1, h2⟩, o, ho, h3⟩
  refine⟨h1,h2,?_⟩
  rw[ho]
  simp only[Option.map_some,Option.getD_some,Array.all_eq_true_iff_forall_mem,Bool.or_eq_true,Bool.not_eq_true']
  intro e he
  cases hb:Region.binds .any e with
  | false=>exact .inl rfl
  | true=>exact .inr (h3 e he hb)

theorem zxi {listed:Array Bool}{i k:Nat}{b:Bool} : (listed.setIfInBounds i true).getD k b=if k=i/\k < listed.size then true else listed.getD k b:=by
 rw[dql,dql,Array.getElem?_setIfInBounds]
 by_cases h:i=k
 ·subst h
  by_cases hs:i < listed.size
  ·simp[hs]
  ·simp[hs]
 ·rw[if_neg h,if_neg (by omega)]

theorem zJr {listed:Array Bool}(hsz:listed.size=ops.size):unl ops (listed.setIfInBounds i true)=(unl ops listed).filter λ k=>!(k == i):=by
 unfold unl
 rw[List.filter_filter]
 refine List.filter_congr λ k hk=>?_
 have hk:=List.mem_range.1 hk
 rw[zxi]
 by_cases h:k=i
 ·subst h;rw[if_pos ⟨rfl,by omega⟩];simp
 ·rw[if_neg (λ h'=>h h'.1)];simp[h]

theorem zJs (hok : OkAll P Γ) {K : St → Prop} {D : List Nat} {a0 : Act} {ad : List Deferred} (hD : ∀ (j : Nat) (o : Oper), ops[j]? = some o → ∀ t, o.dst = some t → t ∈ D) (hE : ∀ σ τ, Eqv σ τ → K σ → K τ) (hlow : zEZ ops = true) (hT : zwN ops (masks ops.toList []) = true)
    (hL:∀ σ,K σ->zlM (masks ops.toList []) σ.log) (hQ:∀ σ',K σ'->∀ g' a' w',Sim P nt B w0 h0 g' σ' a' w'->Kp D a0 a'->a'.defers=ad->Q .normal a' w') :
    ∀ (fuel:Nat) (listed:Array Bool) (σ:St) (g:Gh) (a:Act) (w:World),listed.size=ops.size->(unl ops listed).length<=fuel ->
      (∀ k o,ops[k]? = some o->listed.getD k false=true->∀ e∈o.after,Region.binds .any e=true->listed.getD e.on false=true) ->
      vcL P Γ nt ops (unl ops listed) K σ->Sim P nt B w0 h0 g σ a w->Kp D a0 a->a.defers=ad->wpAnyIn (FR r) n P .any ops Q fuel listed a w:=by
  -- if nothing is ready, nothing is left
  have stuck:∀ listed:Array Bool,Region.ready .any ops listed=[]->unl ops listed=[]:=by
    intro listed hr
    cases hu:unl ops listed with
    | nil=>rfl
    | cons i rest =>
      exfalso
      have hi:i∈unl ops listed:=by rw[hu];exact dqj
      have hsz:i < ops.size:=List.mem_range.1 (List.mem_filter.1 hi).1
      have hsort:(unl ops listed).Pairwise (· < ·):=List.Pairwise.filter _ List.pairwise_lt_range
      have:i∈Region.ready .any ops listed:=by
        refine zmV.2 ⟨hi,ops[i],Array.getElem?_eq_getElem hsz,λ e he hb=>?_⟩
        simp only[zEZ,List.all_eq_true] at hlow
        have h1:=hlow i (List.mem_range.2 hsz)
        rw[Array.getElem?_eq_getElem hsz] at h1
        simp only[List.all_eq_true,Bool.or_eq_true,Bool.not_eq_true'] at h1
        have h2:e.on < i:=by
          rcases h1 e (by simpa using he) with h | h
          · rw[hb] at h;cases h
          · simpa [Nat.blt_eq] using h
        cases hl:listed.getD e.on false with
        | true=>rfl
        | false =>
          exfalso
          have hmem:e.on∈unl ops listed\/listed.getD e.on true=true:=by
            cases hl2:listed.getD e.on true with
            | true=>exact .inr rfl
            | false=>exact .inl (List.mem_filter.2 ⟨List.mem_range.2 (by omega),by rw[hl2];rfl⟩)
          rw[hu] at hmem hsort
          rcases hmem with hmem | hmem
          · rcases dqq.1 hmem with h | h
            · omega
            · have:=(List.pairwise_cons.1 hsort).1 _ h;omega
          · -- then it lies outside
            rw[dql] at hl hmem
            have hout:listed[e.on]? = none:=by
              cases hx:listed[e.on]? with
              | none=>rfl
              | some b=>rw[hx] at hl hmem;simp at hl hmem;rw[hl] at hmem;cases hmem
            have hi2:listed.getD i true=true:=by
              rw[Array.getElem?_eq_none_iff] at hout
              rw[dql,Array.getElem?_eq_none (by omega)];rfl
            have:=(List.mem_filter.1 hi).2
            rw[hi2] at this;cases this
      rw[hr] at this;simp at this
  intro fuel
  induction fuel with
  | zero =>
    intro listed σ g a w hsz hf hcl hv S hkp had
    have hnil:unl ops listed=[]:=List.eq_nil_of_length_eq_zero (by omega)
    refine⟨?_,?_⟩
    · cases hr:Region.ready .any ops listed with
      | nil=>rfl
      | cons i l =>
        have:=(zmV (i:=i) (ops:=ops) (listed:=listed)).1 (by rw[hr];exact dqj)
        rw[hnil] at this;simp at this
    · rw [hnil] at hv
      exact hQ σ hv g a w S hkp had
  | succ fuel ih =>
    intro listed σ g a w hsz hf hcl hv S hkp had
    refine⟨λ hr=>?_,λ i hi=>?_⟩
    · have hnil := stuck listed hr
      rw[hnil] at hv
      exact hQ σ hv g a w S hkp had
    · obtain ⟨hu, oi, hoi, hed⟩ := zmV.1 hi
      have hil:i < ops.size:=List.mem_range.1 (List.mem_filter.1 hu).1
      have hsort:(unl ops listed).Pairwise (· < ·):=List.Pairwise.filter _ List.pairwise_lt_range
      obtain⟨l1,l2,hl⟩:=List.append_of_mem hu
      rw[hl] at hsort hv
      have hlt:∀ p∈l1,p < i:=λ p hp=>(List.pairwise_append.1 hsort).2.2 p hp i dqj
      have hgt:∀ p∈l2,i < p:=λ p hp=>(List.pairwise_cons.1 (List.pairwise_append.1 hsort).2.1).1 p hp
      have hset:unl ops (listed.setIfInBounds i true)=l1 ++ l2:=by
        rw[zJr hsz,hl,List.filter_append,List.filter_cons]
        rw[if_neg (by simp),List.filter_eq_self.2 λ p hp=>by have:=hlt p hp;simp;omega,List.filter_eq_self.2 λ p hp=>by have:=hgt p hp;simp;omega]
      have bits:∀ p∈l1,∀ m,(masks ops.toList [])[i]? = some m->m.testBit p=false:=by
        intro p hp m hm
        cases hb:m.testBit p with
        | false=>rfl
        | true =>
          exfalso
          have:=zox (S:=λ k=>listed.getD k false=true) (p:=p) (ops:=ops) (λ k o ho hS=>hcl k o ho hS) ops.toList [] (λ j=>by simp) (λ k o m _ hm=>by simp at hm) i oi m hoi hm hed hb
          have hpu:p∈unl ops listed:=by rw[hl];exact dqg.2 (.inl hp)
          have h2:=(List.mem_filter.1 hpu).2
          rw[dql] at this h2
          cases hx:listed[p]? with
          | none=>rw[hx] at this;simp at this
          | some b=>rw[hx] at this h2;simp at this h2;rw[this] at h2;cases h2
      have hfront:=zrL hoi hE (R:=zlM (masks ops.toList [])) zlM.sub hL l1 σ (λ p hp=>⟨λ log hlog=>hlog.no (hlt p hp) (bits p hp),λ op hop=>?_⟩) hv
      · refine zOo hok hD hfront S hkp had fun σ' g' a' w' hv' S' hkp' had' => ?_
        refine ih (listed.setIfInBounds i true) σ' g' a' w' (by simpa using hsz) ?_ ?_ ?_ S' hkp' had'
        · rw [hset]
          rw[hl] at hf
          simp only[dqu,dqr] at hf ⊢
          omega
        · intro k o hk hlk e he hb
          rw[zxi] at hlk ⊢
          split at hlk
          · rename_i hki
            rw[hki.1,hoi] at hk
            simp only[dqa] at hk;subst hk
            have:=hed e he hb
            split
            · rfl
            · exact this
          · have := hcl k o hk hlk e he hb
            split
            · rfl
            · exact this
        · rw[hset];exact hv'
      · simp only [zwN, List.all_eq_true] at hT
        have h1:=hT i (List.mem_range.2 hil) p (List.mem_range.2 (hlt p hp))
        rw[hop,hoi] at h1
        cases hm:(masks ops.toList [])[i]? with
        | none=>rw[hm] at h1;simp at h1
        | some m =>
          rw[hm] at h1
          simp only[Bool.or_eq_true,Bool.not_eq_true'] at h1
          rcases h1 with h | h
          · exact h
          · rw[bits p hp m hm] at h;cases h

theorem Sim.drew (S:Sim P nt B w0 h0 g σ a w):Sim P nt B w0 h0 g σ a { w with drawn:=w.drawn+1 }:=by
 refine { S with obj:=λ L o h=>?_,below:=?_,hw:=S.hw,bs:=S.bs }
 ·have := S.obj L o h
  cases o <;> exact this
 ·exact S.below.drew

theorem zzi (hok : OkAll P Γ) {K : St → Prop} {D : List Nat} {a0 : Act} (hD : ∀ (j : Nat) (o : Oper), ops[j]? = some o → ∀ t, o.dst = some t → t ∈ D) (hkp : Kp D a0 a) (hm : P.follows .mixedOrders = true) (hlow : zEZ ops = true) (hT : zwN ops (masks ops.toList []) = true) (hE : ∀ σ τ, Eqv σ τ → K σ → K τ)
    (h:zgR P Γ nt ops 0 ops.toList (λ σ'=>match zoY (masks ops.toList []) σ'.log with
      | true=>K σ'
      | false=>False) σ) (S:Sim P nt B w0 h0 g σ a w)
    (hQ:∀ σ',K σ'->∀ g' a' w',Sim P nt B w0 h0 g' σ' a' w'->Kp D a0 a'->a'.defers=a.defers->Q .normal a' w') {id:Nat} : (Code.region id ops true).wpIn (FR r) n P Q a w:=by
  refine wpIn_region_any hm ?_
  have hE':∀ σ τ:St,Eqv σ τ->(match zoY (masks ops.toList []) σ.log with | true=>K σ | false=>False)->(match zoY (masks ops.toList []) τ.log with | true=>K τ | false=>False):=by
    intro σ τ he hσ
    split at hσ
    · rename_i hl
      have:zlM (masks ops.toList []) τ.log:=zlM.sub _ _ (λ x hx=>(he.log x).2 hx) hl
      rw[show zoY (masks ops.toList []) τ.log=true from this]
      exact hE σ τ he hσ
    · exact hσ.elim
  have hun:unl ops (Array.replicate ops.size false)=List.range ops.size:=by
    unfold unl
    refine List.filter_eq_self.2 λ k hk=>?_
    have:=List.mem_range.1 hk
    simp[dql,this]
  refine zJs hok hD (K:=λ σ'=>match zoY (masks ops.toList []) σ'.log with | true=>K σ' | false=>False) hE' hlow hT (λ σ hσ=>?_) (λ σ' hσ=>?_) ops.size _ σ g a _ (by simp) ?_ ?_ ?_ S.drew hkp rfl
  · split at hσ
    · assumption
    · exact hσ.elim
  · split at hσ
    · exact hQ σ' hσ
    · exact hσ.elim
  · rw[hun];simp
  · intro k o _ hk
    rw[dql] at hk
    by_cases hks:k < ops.size
    · simp[hks] at hk
    · rw[Array.getElem?_eq_none (by simp;omega)] at hk;simp at hk
  · rw [hun]
    have:=zzh hE' ops.toList 0 σ (λ j=>by simp) h
    rw[List.range_eq_range']
    simpa using this
end
end Go.Pm
namespace Go.Pm
open Go.RowKit (Below)

def zHv (h h':Fz):Prop:=∀ b o,h b=some o->(∃ C ty fr,o=.fz (.cells C ty fr))\/(∃ F,o=.inv F)\/(∃ es c,o=.fz (.map es c))->h' b=some o
theorem Fle.c {h h':Fz}(hl:Fle h h'):zHv h h':=λ b o hb _=>hl b o hb

section
variable {P:Program}{Γ:Ctrs}{nt B:Nat}{w0:World}{h0:Fz}{g:Gh}{σ:St}{a:Act}{w:World}{r:Option Nat}{n i:Nat}{Q:Exit->Act->World->Prop}

abbrev Gh.re (g:Gh) (h:Fz):Gh:=⟨h,g.bk,g.sv,g.iv⟩

theorem zHw {h:Fz}(hl:zHv g.h h){c:Cl}{x:Value}(hc:clR g c x):clR (g.re h) c x:=by
 cases c with
 | p v=>exact Rep.mono' hl hc
 | xf cells b n m j c=>exact⟨hc.1,Rep.mono' hl hc.2⟩
 | clo f caps=>obtain⟨cv,e,hr⟩:=hc;exact⟨cv,e,zf6 (λ _ _ hp=>Rep.mono' hl hp) (λ _ _=>rfl) hr⟩
 | mkey it L=>obtain⟨k,C,ty,fr,e,h1,h2⟩:=hc;exact⟨k,C,ty,fr,e,hl _ _ h1 (.inl ⟨_,_,_,rfl⟩),h2⟩
 | _=>exact hc
theorem zOp {h:Fz}(hl:zHv g.h h):∀ {cs:List Cl}{vs:List Value},RL (clR g) cs vs->RL (clR (g.re h)) cs vs:=λ hc=>hc.mono λ _ _=>zHw hl
theorem zHx {h:Fz}(hl:zHv g.h h){d:D1}{x:Value}(hd:d1R g d x):d1R (g.re h) d x:=by
 cases d with
 | c y=>exact zHw hl hd
 | agg cs=>obtain⟨vs,rfl,hr⟩:=hd;exact⟨vs,rfl,zOp hl hr⟩
theorem zAJ {h:Fz}(hl:zHv g.h h){d:DV}{x:Value}(hd:dvR g d x):dvR (g.re h) d x:=by
 cases d with
 | one y=>exact zHx hl hd
 | tup ds=>obtain⟨vs,rfl,hr⟩:=hd;exact⟨vs,rfl,hr.mono λ _ _=>zHx hl⟩
theorem zAK {h:Fz}(hl:zHv g.h h){L:Nat}{o:AO}(ho:aoR P g w B L o):aoR P (g.re h) w B L o:=by
 cases o with
 | box ty cs=>obtain⟨C,hC,hr⟩:=ho;exact⟨C,hC,zOp hl hr⟩
 | fbox cs=>obtain⟨C,ty,fr,hC,hr⟩:=ho;exact⟨C,ty,fr,hl _ _ hC (.inl ⟨_,_,_,rfl⟩),hr.mono λ _ _=>Rep.mono' hl⟩
 | vec e s b n get=>obtain⟨h1,h2,xs,hx,hr⟩:=ho;exact⟨h1,h2,xs,hx,λ i hi=>(hr i hi).mono λ _ _=>Rep.mono' hl⟩
 | fvec s n get=>exact⟨Rep.mono' hl ho.1,ho.2⟩
 | vv te bb e s b n ln get =>
  obtain⟨h1,h2,h3,h4,h5,h6⟩:=ho
  exact⟨h1,h2,h3,h4,λ i hi=>by obtain⟨h7,h70,xs,hx,hr⟩:=h5 i hi;exact⟨h7,h70,xs,hx,λ j hj=>(hr j hj).mono λ _ _=>Rep.mono' hl⟩,h6⟩
 | mo kt vt q n F=>exact ho
 | vm te bb kt vt q n mk nn F=>exact ho
 | mit q n F seen =>
  rcases ho with h1 | ⟨m,es,clock,sb,en,h1,h2⟩
  ·exact .inl h1
  ·exact .inr ⟨m,es,clock,sb,en,hl _ _ h1 (.inr (.inr ⟨_,_,rfl⟩)),h2⟩
 | gone=>trivial

def Fz.add (h:Fz) (b:Nat) (o:Obj):Fz:=λ k=>if k=b then some (.fz o) else h k
def Fz.del (h:Fz) (b:Nat):Fz:=λ k=>if k=b then none else h k
theorem Fz.add_same {h:Fz}{b:Nat}{o:Obj} : h.add b o b=some (.fz o):=if_pos rfl
theorem Fz.add_other {h:Fz}{b k:Nat}{o:Obj}(hk:k ≠ b):h.add b o k=h k:=if_neg hk
theorem Fz.del_same {h:Fz}{b:Nat} : h.del b b=none:=if_pos rfl
theorem Fz.del_other {h:Fz}{b k:Nat}(hk:k ≠ b):h.del b k=h k:=if_neg hk
theorem Fz.le_add {h:Fz}{b:Nat}{o:Obj}(hb:h b=none):Fle h (h.add b o):=λ k x hk=>by
 rw[Fz.add_other (λ e=>by subst e;rw[hb] at hk;cases hk)];exact hk

theorem zgS.del {h0:Fz}{b:Nat}{o:Obj}(H:zgS (h0.add b o)) (hc:o.isCells=false) (hmm:∀ es c,o ≠ .map es c):zgS h0:=by
 have key:∀ k x,h0.add b o k=some x->(∃ C ty fr,x=.fz (.cells C ty fr))\/(∃ F,x=.inv F)\/(∃ es c,x=.fz (.map es c))->h0 k=some x:=λ k x hk hx=>by
  by_cases e:k=b
  ·subst e
   rw[Fz.add_same] at hk;simp only[dqa] at hk;subst hk
   rcases hx with ⟨C,ty,fr,hx⟩ | ⟨F,hx⟩ | ⟨es,c,hx⟩
   ·cases hx;cases hc
   ·cases hx
   ·cases hx;exact absurd rfl (hmm _ _)
  ·rwa[Fz.add_other e] at hk
 intro k l hk
 obtain⟨C,ty,fr,h1,h2⟩:=H k l hk
 exact⟨C,ty,fr,key _ _ h1 (.inl ⟨_,_,_,rfl⟩),h2.mono λ _ _ r=>r.mono' key⟩
theorem Sim.hide (S : Sim P nt B w0 h0 g σ a w) {b : Nat} {o : Obj} (hb : g.h b = none) (hw : w.heap[b]? = some o) (hB : B ≤ b) (hno : ∀ L o, lk σ.objs L = some o → ¬ obk g L o b) :
  Sim P nt B w0 (h0.add b o) (g.re (g.h.add b o)) σ a w:=by
 have hle:=Fz.le_add (o:=o) hb
 have h0b:h0 b=none:=by
  cases h:h0 b with
  | none=>rfl
  | some x=>rw[S.le0 b x h] at hb;cases hb
 refine⟨S.dfr.mono hle,S.size,λ t d ht=>zAJ hle.c (S.env t d ht),λ L x hL=>zAK hle.c (S.obj L x hL),λ L x k hL hk=>?_,S.sep,?_,?_,?_,?_,S.bs,S.clE,S.clO,S.gl.mono (Fz.le_add h0b)⟩
 ·obtain ⟨h1, h2⟩ := S.own L x k hL hk
  refine⟨h1,?_⟩
  show g.h.add b o k=none
  rw[Fz.add_other (λ e=>hno L x hL (by rw[<- e];exact hk))];exact h2
 ·intro k x hk
  by_cases h:k=b
  ·subst h
   have hk:g.h.add k o k=some x:=hk
   rw[Fz.add_same] at hk;simp only[dqa] at hk;subst hk
   exact⟨o,hw,rfl⟩
  ·have hk : g.h.add b o k = some x := hk
   rw[Fz.add_other h] at hk;exact S.hw k x hk
 ·intro k x hk
  show g.h.add b o k=some x
  by_cases h:k=b
  ·subst h;rw[Fz.add_same] at hk ⊢;exact hk
  ·rw[Fz.add_other h] at hk ⊢;exact S.le0 k x hk
 ·intro k x hk
  have hk:g.h.add b o k=some x:=hk
  by_cases h:k=b
  ·exact .inr (h ▸ hB)
  ·rw[Fz.add_other h] at hk ⊢;exact S.hn k x hk
 ·exact⟨S.below.os,S.below.tape,S.below.output,S.below.size,S.below.drawn,λ k hk hn=>S.below.block k hk λ F hF=>by
   refine hn F ?_
   rw[Fz.add_other (λ e=>by subst e;rw[h0b] at hF;cases hF)];exact hF⟩

theorem Sim.unhide {b : Nat} {o : Obj} (S : Sim P nt B w0 (h0.add b o) g σ a w) (hB : B ≤ b) (h0b : h0 b = none) (hc : o.isCells = false) (hm : ∀ ds, o ≠ .deferred ds) (hmm : ∀ es c, o ≠ .map es c) :
  g.h b=some (.fz o)/\(∀ L x,lk σ.objs L=some x->¬ obk g L x b)/\w.heap[b]? = some o/\Sim P nt B w0 h0 (g.re (g.h.del b)) σ a w:=by
 have hb:g.h b=some (.fz o):=S.le0 b _ Fz.add_same
 have hl:zHv g.h (g.h.del b):=λ k x hk hx=>by
  rw[Fz.del_other];exact hk
  intro e;subst e;rw[hb] at hk;simp only[dqa] at hk;subst hk
  rcases hx with ⟨C,ty,fr,hx⟩ | ⟨F,hx⟩ | ⟨es,c,hx⟩
  ·cases hx;cases hc
  ·cases hx
  ·cases hx;exact hmm _ _ rfl
 have hwb:w.heap[b]? = some o:=S.hw.fz hb
 refine⟨hb,(λ L x hL hk=>by (have:=(S.own L x b hL hk).2;rw[hb] at this;cases this)),hwb,?_⟩
 refine⟨?_,S.size,λ t d ht=>zAJ hl (S.env t d ht),λ L x hL=>zAK hl (S.obj L x hL),λ L x k hL hk=>?_,S.sep,?_,?_,?_,?_,S.bs,S.clE,S.clO,S.gl.del hc hmm⟩
 ·obtain ⟨Ds, h1, h2, h3, h4⟩ := S.dfr
  refine⟨Ds,h1,h2,λ D hD=>⟨(h3 D hD).1,?_⟩,h4⟩
  show g.h.del b D=_
  rw[Fz.del_other];exact (h3 D hD).2
  intro e;subst e
  have:=(h3 D hD).2
  rw[hb] at this;simp only[dqa,FzO.fz.injEq] at this
  exact hm _ this
 ·obtain ⟨h1, h2⟩ := S.own L x k hL hk
  refine⟨h1,?_⟩
  show g.h.del b k=none
  unfold Fz.del
  split
  ·rfl
  ·exact h2
 ·intro k x hk
  have hk:g.h.del b k=some x:=hk
  unfold Fz.del at hk
  split at hk
  ·cases hk
  ·exact S.hw k x hk
 ·intro k x hk
  have hkb:k ≠ b:=λ e=>by subst e;rw[h0b] at hk;cases hk
  show g.h.del b k=some x
  rw[Fz.del_other hkb]
  exact S.le0 k x (by rw[Fz.add_other hkb];exact hk)
 ·intro k x hk
  have hk:g.h.del b k=some x:=hk
  by_cases h:k=b
  ·exact .inr (h ▸ hB)
  ·rw [Fz.del_other h] at hk
   rcases S.hn k x hk with h1 | h1
   ·rw[Fz.add_other h] at h1;exact .inl h1
   ·exact .inr h1
 ·exact⟨S.below.os,S.below.tape,S.below.output,S.below.size,S.below.drawn,λ k hk hn=>S.below.block k hk λ F hF=>by
   by_cases h:k=b
   ·omega
   ·rw[Fz.add_other h] at hF;exact hn F hF⟩

theorem Sim.putObj (S:Sim P nt B w0 h0 g σ a w){b:Nat}(o:Obj) (hb:g.h b=none) (hB:B<=b) (hno:∀ L x,lk σ.objs L=some x->¬ obk g L x b):Sim P nt B w0 h0 g σ a (w.putObj b o):=by
  have hne:∀ k,k ≠ b->(w.putObj b o).heap[k]? = w.heap[k]?:=λ k hk=>World.putObj_heap_other hk
  refine S.change (g' := g) (objs' := σ.objs) (fun L _ _ => zdJ.refl g L) (fun _ _ h => h) (S.hw.same fun k x hk => hne k fun e => by subst e; rw [hb] at hk; cases hk) (fun _ _ h => .inl h)
    ⟨rfl,rfl,rfl,by simp,dqt _,λ k hk _=>hne k (by omega)⟩ ?_ S.own S.sep (λ L o h=>⟨o,h⟩) S.clO
  intro L x hL
  exact zcQ (S.obj L x hL) (zdJ.refl g L) (λ M _=>zdJ.refl g M) (λ _ _ h=>h) λ k hk=>hne k λ e=>by subst e;exact hno L x hL hk

theorem Sim.act (S:Sim P nt B w0 h0 g σ a w){a':Act}(hd:Marks P B g.h a'.defers) (hs:nt<=a'.tmps.size) (he:∀ t d,lk σ.env t=some d->dvR g d (a'.tmps.getD t undef)):Sim P nt B w0 h0 g σ a' w :=
 ⟨hd,hs,he,S.obj,S.own,S.sep,S.hw,S.le0,S.hn,S.below,S.bs,S.clE,S.clO,S.gl⟩

theorem Sim.envs (S : Sim P nt B w0 h0 g σ a w) {env : List (Nat × DV)} (he : ∀ t d, lk env t = some d → dvR g d (a.tmps.getD t undef)) (hl : ∀ t d, lk env t = some d → ∀ L ∈ zby d, ∃ o, lk σ.objs L = some o)
    (l:List (Nat×Nat×Nat)):Sim P nt B w0 h0 g ⟨env,σ.objs,l⟩ a w :=
  ⟨S.dfr,S.size,he,S.obj,S.own,S.sep,S.hw,S.le0,S.hn,S.below,S.bs,hl,S.clO,S.gl⟩

theorem fold_size : ∀ (l : List (Nat × Value)) (t : Array Value), (l.foldl (fun t (p, v) => t.setIfInBounds p v) t).size = t.size
  | [],t=>rfl
  | (p,v) :: l,t=>by rw[List.foldl_cons,fold_size l];simp
theorem zoy : ∀ (l : List (Nat × Value)) (t : Array Value) (k : Nat), (∀ x ∈ l, x.1 ≠ k) → (l.foldl (fun t (p, v) => t.setIfInBounds p v) t).getD k undef = t.getD k undef
  | [],t,k,_=>rfl
  | (p,v) :: l,t,k,h=>by
    rw[List.foldl_cons,zoy l _ k λ x hx=>h x (dqf _ hx)]
    have hp:p ≠ k:=h (p,v) dqj
    simp[dql,Array.getElem?_setIfInBounds_ne hp]

theorem zAL (nt0:Nat):∀ (ps:List Nat) (ys:List PA) (us:List Value) (e env:List (Nat×DV)) (t:Array Value),zjo ps ys e=some env->RL (paR g.h) ys us->(∀ p∈ps,p < t.size) ->
  (∀ k d,lk e k=some d->dvR g d (t.getD k undef)) ->
  us.length=ps.length/\∀ k d,lk env k=some d->dvR g d (((ps.zip us).foldl (λ t (p,v)=>t.setIfInBounds p v) t).getD k undef)
 | [],[],us,e,env,t,h,hr,_,he=>by
  simp only[zjo,dqa] at h;subst h
  cases us with
  | nil=>exact⟨rfl,he⟩
  | cons=>exact hr.elim
 | p :: ps,y :: ys,[],e,env,t,h,hr,_,he=>hr.elim
 | p :: ps,y :: ys,u :: us,e,env,t,h,hr,hp,he=>by
  simp only[zjo] at h
  have hlt:=hp p dqj
  obtain⟨h1,h2⟩:=zAL nt0 ps ys us _ env (t.setIfInBounds p u) h hr.2 (λ q hq=>by have:=hp q (dqf _ hq);simpa using this) (λ k d hk=>by
   rw[zaB] at hk
   split at hk
   ·rename_i e1
    simp only[dqa] at hk;subst hk;subst e1
    rw[show (t.setIfInBounds p u).getD p undef=u by simp[dql,hlt]]
    exact zFi hr.1
   ·rename_i e1
    have:=he k d hk
    rw[show (t.setIfInBounds p u).getD k undef=t.getD k undef by simp[dql,Array.getElem?_setIfInBounds_ne e1]]
    exact this)
  exact⟨by simp[h1],h2⟩
 | [],_ :: _,_,_,_,_,h,_,_,_=>by simp[zjo] at h
 | _ :: _,[],_,_,_,_,h,_,_,_=>by simp[zjo] at h
theorem zrM : ∀ (ps : List Nat) (ys : List PA) (e env : List (Nat × DV)), zjo ps ys e = some env → ∀ k d, lk env k = some d → lk e k = some d ∨ zby d = []
  | [],[],e,env,h,k,d,hk=>by simp only[zjo,dqa] at h;subst h;exact .inl hk
  | p :: ps,y :: ys,e,env,h,k,d,hk=>by
    simp only[zjo] at h
    rcases zrM ps ys _ env h k d hk with h1 | h1
    · rw [zaB] at h1
      split at h1
      · simp only[dqa] at h1;subst h1;exact .inr (zpl y)
      · exact .inl h1
    · exact .inr h1
  | [],_ :: _,_,_,h,_,_,_=>by simp[zjo] at h
  | _ :: _,[],_,_,h,_,_,_=>by simp[zjo] at h

theorem Sim.up (S:Sim P nt B w0 h0 g σ a w):Sim P nt B w0 g.h g σ a w :=
 ⟨S.dfr,S.size,S.env,S.obj,S.own,S.sep,S.hw,λ _ _ h=>h,λ _ _ h=>.inl h,
  ⟨S.below.os,S.below.tape,S.below.output,S.below.size,S.below.drawn,λ k hk hn=>S.below.block k hk λ F hF=>hn F (S.le0 k _ hF)⟩,S.bs,S.clE,S.clO,S.gl.mono S.le0⟩
theorem Sim.down {h1:Fz}(S:Sim P nt B w0 h1 g σ a w) (hgl:zgS h0) (hl:Fle h0 h1) (hn:∀ b o,h1 b=some o->h0 b=some o\/B<=b):Sim P nt B w0 h0 g σ a w :=
 ⟨S.dfr,S.size,S.env,S.obj,S.own,S.sep,S.hw,λ b o h=>S.le0 b o (hl b o h),λ b o h=>by
   rcases S.hn b o h with h | h
   ·exact hn b o h
   ·exact .inr h,
  ⟨S.below.os,S.below.tape,S.below.output,S.below.size,S.below.drawn,λ k hk hx=>S.below.block k hk λ F hF=>by
   rcases hn k _ hF with h | h
   ·exact hx F h
   ·omega⟩,S.bs,S.clE,S.clO,hgl⟩

theorem zmW {k:Keep}{σ s:St}(h:canon P k σ=some s):∀ t d,lk s.env t=some d->t∈k.tmps:=by
 unfold canon at h
 split at h
 ·unfold zmm at h
  split at h
  ·cases h
  split at h
  ·cases h
  split at h
  ·cases h
  simp only[] at h
  split at h
  ·simp only [dqa] at h
   subst h
   intro t d ht
   obtain⟨_,_,_,h1⟩:=zeB ht
   exact h1
  ·cases h
 ·cases h

def Rnd (r:Option Nat) (h0:Fz):Prop:=∀ l,r=some l->∃ rec:Loop,h0 l=some (.fz (.loop rec))
theorem Rnd.none (h0:Fz):Rnd none h0:=λ l h=>by cases h

theorem zpy (S : Sim P nt B w0 h0 g σ a w) (hR : Rnd r h0) (fn : FuncId) (ps : Array Tmp) (x y : Code) :
  ∃ (l:Nat) (mark:List Deferred) (w1:World) (d:Nat) (h1:Fz),(Instr.enterLoop fn a.tmps ps x y r).run P w=.ok (l,mark) w1/\w.heap.size<=l /\
   w1.heap[l]? = some (.loop { state:=.ready,pending:=none,fn,tmps:=a.tmps,params:=ps, assign:=x,body:=y,defers:=d })/\Fle g.h h1/\h1 l=none /\
   Sim P nt B w0 h0 (g.re h1) σ { a with defers:=mark ++ a.defers } w1:=by
 have hnone:∀ k,w.heap.size<=k->g.h k=none:=λ k hk=>by
  cases h:g.h k with
  | none=>rfl
  | some x=>exact absurd (zim S.hw h) (by omega)
 cases r with
 | none =>
  have hb0:g.h w.heap.size=none:=hnone _ (dqt _)
  have hw1:((w.alloc (.deferred (some []))).alloc (.loop { state:=.ready,pending:=none,fn,tmps:=a.tmps,params:=ps, assign:=x,body:=y,defers:=w.heap.size })).heap[w.heap.size]? = some (.deferred (some [])):=by
   exact (Below.heap_alloc _ _ _ (by simp)).trans (World.alloc_heap_new w _)
  have hbel:Below w.heap.size w ((w.alloc (.deferred (some []))).alloc (.loop { state:=.ready,pending:=none,fn,tmps:=a.tmps,params:=ps, assign:=x,body:=y,defers:=w.heap.size })) :=
   ((Below.refl _ w).alloc (dqt _) _).alloc (by simp) _
  have S1:=S.world (h':=g.h.add w.heap.size (.deferred (some []))) (Fz.le_add hb0) (λ k z hk=>by
    by_cases h:k=w.heap.size
    ·subst h;rw[Fz.add_same] at hk;simp only[dqa] at hk;subst hk;exact⟨_,hw1,rfl⟩
    ·rw [Fz.add_other h] at hk
     obtain⟨o,h1,h2⟩:=S.hw k z hk
     exact⟨o,by rw[hbel.block k (S.hw.lt hk)];exact h1,h2⟩)
   (λ k z hk=>by
    by_cases h:k=w.heap.size
    ·exact .inr (by omega)
    ·rw[Fz.add_other h] at hk;exact .inl hk) (.of ⟨hbel,dqt _⟩)
  refine⟨w.heap.size+1,[{ target:=.collected w.heap.size,args:=#[] }],_,w.heap.size,g.h.add w.heap.size (.deferred (some [])),run_enterLoop_outer fn a.tmps ps x y,by omega,?_,Fz.le_add hb0,?_,?_⟩
  ·have := World.alloc_heap_new (w.alloc (.deferred (some []))) (.loop { state := .ready, pending := none, fn, tmps := a.tmps, params := ps, assign := x, body := y, defers := w.heap.size })
   rwa[World.size_alloc] at this
  ·rw[Fz.add_other (by omega)];exact hnone _ (by omega)
  ·refine S1.act ?_ S1.size S1.env
   obtain⟨Ds,h1,h2,h3,h4⟩:=S.dfr
   refine⟨.inl w.heap.size :: Ds,List.nodup_cons.2 ⟨λ hm=>?_,h1⟩,by simp[h2,deD],λ D hD=>?_,λ d hd=>?_⟩
   ·have:=zim S.hw (h3 _ (zo1 hm)).2;omega
   rotate_left
   ·rcases dqq.1 hd with e | hd
    ·cases e
    ·exact h4 d hd
   ·rcases dqq.1 hD with e | hD
    ·cases e;exact⟨S.bs,Fz.add_same⟩
    ·exact⟨(h3 D hD).1,Fz.le_add hb0 _ _ (h3 D hD).2⟩
 | some l0 =>
  obtain⟨rec,hrec⟩:=hR l0 rfl
  have hl0:w.heap[l0]? = some (.loop rec):=S.hw.fz (S.le0 _ _ hrec)
  have hbel:Below w.heap.size w (w.alloc (.loop { state:=.ready,pending:=none,fn,tmps:=a.tmps,params:=ps, assign:=x,body:=y,defers:=rec.defers })):=(Below.refl _ w).alloc (dqt _) _
  have S1:=S.world (h':=g.h) (λ _ _ h=>h) (S.hw.same λ k z hk=>hbel.block k (S.hw.lt hk)) (λ _ _ h=>.inl h) (.of ⟨hbel,dqt _⟩)
  exact⟨w.heap.size,[],_,rec.defers,g.h,run_enterLoop_inner hl0 fn a.tmps ps x y,dqt _,World.alloc_heap_new w _,λ _ _ h=>h,hnone _ (dqt _),S1⟩
end
end Go.Pm
namespace Go.Pm
open Go.RowKit (Below)

theorem zpz : ∀ {n : Nat} {K : List Int → Prop}, zRH n K ↔ ∀ l, l.length = n → K l
  | 0,K=>⟨λ h l hl=>by rw[List.eq_nil_of_length_eq_zero hl];exact h,λ h=>h [] rfl⟩
  | n+1,K=>by
    simp only[zRH]
    constructor
    · intro h l hl
      cases l with
      | nil=>simp at hl
      | cons x l=>exact zpz.1 (h x) l (by simpa using hl)
    · intro h x
      exact zpz.2 λ l hl=>h (x :: l) (by simp[hl])

theorem zmX {c : List Int} : ∀ {en : List (List Int × List Int)}, zeQ c en ≠ none → ∃ (j : Nat) (v : List Int), en[j]? = some (c, v)
  | [],h=>by simp[zeQ] at h
  | (k,v) :: r,h=>by
    simp only[zeQ] at h
    split at h
    · rename_i e;subst e;exact⟨0,v,rfl⟩
    · obtain⟨j,u,hj⟩:=zmX h;exact⟨j+1,u,by simpa using hj⟩

section
variable {P:Program}{Γ:Ctrs}{nt B:Nat}{w0:World}{h0:Fz}{g:Gh}{σ:St}{a:Act}{w:World}{r:Option Nat}{n i:Nat}{Q:Exit->Act->World->Prop}

theorem zrN {b:Nat}{ty:TypeId}(h:w.heap[b]? = some (.mapIter none 0 #[] 0)):(Instr.next (.pointer (some ⟨b,0,none⟩)) false ty).run P w=.ok (.tuple #[.bool false]) w:=by
 simp only[Instr.next,getObj,dqd,Sem.run,h,Result.andThen]
 rfl

theorem zFE {id : Nat} {ops : Array Oper} {x : Operand} {t u : Nat} {b : Bool} {v : Value} {w1 : World} {R : Act → World → Prop} (hn : zoa ops = some (x, t, u)) (htu : t < a.tmps.size)
    (hrun:∀ o1,ops[0]? = some o1->(Instr.next (a.eval x) false o1.type).run P w=.ok v w1) (hv:∃ vs:List Value,v=.tuple (Value.bool b :: vs).toArray)
    (hR:(R ((a.put (some t) v).put (some u) (.bool b)) w1)) (hQ:∀ a' w',R a' w'->Q .normal a' w'):(Code.region id ops false).wpIn (FR r) n P Q a w:=by
  unfold zoa at hn
  split at hn
  · rename_i o1 o2 hl
    split at hn
    · rename_i x' t' t2 u' e1 e2 e3 e4 e5 e6
      split at hn
      · rename_i hbe
        simp only[dqa,dqh] at hn
        obtain⟨rfl,rfl,rfl⟩:=hn
        have hbe:=dqc hbe
        subst hbe
        have hsz:ops.size=2:=by rw[<- Array.length_toList,hl];rfl
        have h0:ops[0]? = some o1:=by rw[<- Array.getElem?_toList,hl];rfl
        have h1:ops[1]? = some o2:=by rw[<- Array.getElem?_toList,hl];rfl
        refine wpIn_region ?_
        rw[hsz,show List.range 2=[0,1] from rfl]
        simp only[wpOpsIn,h0,h1]
        rw[if_pos (by simp[Region.wanted,e5])]
        obtain⟨vs,rfl⟩:=hv
        refine zmJ (zdZ (by simp[e1]) (v:=.tuple (Value.bool b :: vs).toArray) (w':=w1) (R:=λ a' w'=>a'=a.put o1.dst (.tuple (Value.bool b :: vs).toArray)/\w'=w1) ?_ ⟨rfl,rfl⟩) ?_
        · simp only[execOp,e1,dqd,hrun o1 h0,dqb,dqe]
        · rintro a' w' ⟨_, rfl, rfl⟩
          rw[if_pos (by simp[Region.wanted,e6])]
          refine zmJ (zdZ (by simp[e2]) (v:=.bool b) (w':=w') (R:=λ a'' w''=>a''=(a.put o1.dst (.tuple (Value.bool b :: vs).toArray)).put o2.dst (.bool b)/\w''=w') ?_ ⟨rfl,rfl⟩) ?_
          · have hev:(a.put o1.dst (.tuple (Value.bool b :: vs).toArray)).eval (.tmp t2)=.tuple (Value.bool b :: vs).toArray:=by
              have:=zwX a t2 (.tuple (Value.bool b :: vs).toArray) t2 htu
              rw[if_pos rfl] at this
              rw[e3];exact this
            simp only[execOp,e2,hev,dqd]
            simp[Instr.extract]
          · rintro a'' w'' ⟨_, rfl, rfl⟩
            rw[e3,e4]
            exact hQ _ _ hR
      · cases hn
    · cases hn
  · cases hn

theorem zzj (ann : Ann) {id : Nat} {ops : Array Oper} {draw : Bool} {x : Operand} {t u : Nat} {K : St → Prop} {D : List Nat} {a0 : Act}
    (hD:∀ t∈zET ops.toList,t∈D) (hn:zoa ops=some (x,t,u)) (h:zzy P ann id x t u draw K σ) (S:Sim P ann.nt B w0 h0 g σ a w) (hkp:Kp D a0 a)
    (hQ:∀ g' σ' a' w',K σ'->Sim P ann.nt B w0 h0 g' σ' a' w'->Kp D a0 a'->a'.defers=a.defers->Q .normal a' w'):(Code.region id ops draw).wpIn (FR r) n P Q a w:=by
  have hreg:∀ σ',zNW P ann id K σ'->∀ g' a' w',Sim P ann.nt B w0 h0 g' σ' a' w'->Kp D a0 a'->a'.defers=a.defers->Q .normal a' w':=by
    intro σ' h g' a' w' S hk' hdf
    unfold zNW at h
    split at h
    · split at h
      · rename_i s hs
        obtain⟨g2,S2⟩:=zce hs S
        exact hQ g2 s a' w' h S2 hk' hdf
      · exact h.elim
    · exact hQ g' σ' a' w' h S hk' hdf
  have hDtu:t∈D/\u∈D:=by
    unfold zoa at hn
    split at hn
    · rename_i o1 o2 hl
      split at hn
      · rename_i x' t' t2 u' e1 e2 e3 e4 e5 e6
        split at hn
        · simp only [dqa, dqh] at hn
          obtain⟨rfl,rfl,rfl⟩:=hn
          rw[hl] at hD
          simp only[zET,e3,e4] at hD
          exact⟨hD _ (by simp),hD _ (by simp)⟩
        · cases hn
      · cases hn
    · cases hn
  unfold zzy at h
  split at h
  · rename_i L hb hx
    simp only[dqm,Bool.not_eq_true'] at hb
    obtain⟨⟨ht,hu⟩,hdr⟩:=hb
    subst hdr
    split at h
    · rename_i q m F seen hL
      have hfm:zUA q.2.1 m F:=by
        rcases S.obj L _ hL with ⟨_,rfl,h3,_⟩ | ⟨_,es,clock,_,en,_,M,_,_,_⟩
        · exact⟨[],rfl,List.nodup_nil,λ k hk=>by simp at hk,λ c hc=>by simp[h3 c hc]⟩
        · refine ⟨en.map (·.1), by rw [List.length_map, M.size], M.nodup, fun k hk => ?_, fun c hc => ?_⟩
          · obtain⟨x,hx,rfl⟩:=dqz.1 hk;exact (M.len x hx).1
          · rw [M.find c hc]
            constructor
            · intro h
              obtain⟨j,v,hj⟩:=zmX h
              exact dqz.2 ⟨_,dqx hj,rfl⟩
            · intro h
              obtain⟨⟨k,v⟩,hx,rfl⟩:=dqz.1 h
              obtain⟨j,hj⟩:=List.getElem?_of_mem hx
              rw[zf9 M.nodup hj];simp
      obtain⟨hend,hround⟩:=h hfm
      have hxv:a.eval x=.pointer (some ⟨g.bk L,0,none⟩):=(zbI S hx).1
      have hts:t < a.tmps.size:=dqS (by simpa using ht) S.size
      -- behind the step
      have fin:∀ (w1:World) (b:Bool) (vs:List Value) (seen':List (List Int)),
          (∀ o1,ops[0]? = some o1->(Instr.next (a.eval x) false o1.type).run P w=.ok (.tuple (Value.bool b :: vs).toArray) w1)->Sim P ann.nt B w0 h0 g { σ with objs:=(L,.mit q m F seen') :: σ.objs } a w1 ->
          zNW P ann id K ⟨(u,.bool b) :: (t,.junk) :: σ.env,(L,.mit q m F seen') :: σ.objs,[]⟩->(Code.region id ops false).wpIn (FR r) n P Q a w:=by
        intro w1 b vs seen' hrun S1 hk
        refine zFE (R:=λ a' w'=>a'=(a.put (some t) (.tuple (Value.bool b :: vs).toArray)).put (some u) (.bool b)/\w'=w1) hn hts hrun ⟨vs,rfl⟩ ⟨rfl,rfl⟩ ?_
        rintro a' w' ⟨rfl,rfl⟩
        have S2:=S1.put (dst:=some t) (d:=.junk) (v:=.tuple (Value.bool b :: vs).toArray) ht trivial (λ M hM=>by simp[zby,zb3,zaN] at hM) []
        have S3:=S2.put (dst:=some u) (d:=.bool b) (v:=.bool b) hu (.bool b) (zdM _) []
        exact hreg _ hk g _ _ S3 ((hkp.put (dst:=some t) (λ z hz=>by cases hz;exact hDtu.1) _ a.defers rfl).put (dst:=some u) (λ z hz=>by cases hz;exact hDtu.2) _ a.defers rfl) rfl
      rcases S.obj L _ hL with ⟨hit,h2,h3,h4⟩ | ⟨mb,es,clock,sb,en,hmb,M,hit,hseen,hcur⟩
      · refine fin w false [] seen (fun _ _ => by rw [hxv]; exact zrN hit) ?_ (hend fun c hc hne => (hne (h3 c hc)).elim)
        exact S.write (o':=.mit q m F seen) hL (λ b hb=>hb) (.refl B w) (λ _ _=>rfl) (.inl ⟨hit,h2,h3,h4⟩) (λ N hN=>by simp[zcl] at hN)
      · have hmap := S.hw.fz hmb
        have hlen:es.size=en.length:=by
          have:=congrArg List.length M.ents
          simpa using this
        have hat:∀ (c:List Int),c.length=q.2.1->F c ≠ none->∃ (j:Nat) (e:MapEntry) (v:List Int),es[j]? = some e/\en[j]? = some (c,v):=by
          intro c hc hne
          rw[M.find c hc] at hne
          obtain⟨j,v,hj⟩:=zmX hne
          have hj2:j < es.size:=by rw[hlen];exact (dqn.1 hj).1
          exact⟨j,es[j],v,Array.getElem?_eq_getElem hj2,hj⟩
        obtain⟨o1,ho1⟩:∃ o1,ops[0]? = some o1:=by
          unfold zoa at hn
          split at hn
          · rename_i o1 o2 hl;exact⟨o1,by rw[<- Array.getElem?_toList,hl];rfl⟩
          · cases hn
        rcases run_next_at (P:=P) w o1.type (g.bk L) mb clock clock sb es clock hit hmap M.born (dqt _) with ⟨hz,hrun⟩ | ⟨e,he,w1,hw1,hrun⟩
        · refine fin w false [] seen (fun o ho => by rw [ho1] at ho; cases ho; rw [hxv]; exact hrun) ?_ (hend fun c hc hne => ?_)
          · exact S.write (o':=.mit q m F seen) hL (λ b hb=>hb) (.refl B w) (λ _ _=>rfl) (.inr ⟨mb,es,clock,sb,en,hmb,M,hit,hseen,hcur⟩) (λ N hN=>by simp[zcl] at hN)
          · obtain ⟨j, e, v, h1, h2⟩ := hat c hc hne
            refine (hseen j e (c,v) h1 h2).1 ?_
            have hem:e∈es:=Array.mem_of_getElem? h1
            by_cases hin:e.born∈sb
            · exact hin
            · have : e ∈ leftOf es sb := Array.mem_filter.2 ⟨hem, by simpa using hin⟩
              rw[Array.eq_empty_of_size_eq_zero hz] at this
              simp at this
        · have he' : e ∈ leftOf es sb := by simpa using he
          obtain⟨hem,hnin⟩:=Array.mem_filter.1 he'
          have hnin:e.born ∉ sb:=by simpa using hnin
          obtain⟨j,hj⟩:=Array.getElem?_of_mem hem
          have hj2:j < en.length:=by rw[<- hlen];exact (dqp.1 hj).1
          obtain⟨⟨c,v⟩,hcv⟩:∃ x,en[j]? = some x:=⟨en[j],dqD hj2⟩
          have hlc:=M.len (c,v) (dqx hcv)
          have hF:F c=some v:=by rw[M.find c hlc.1];exact zf9 M.nodup hcv
          have hns:c ∉ seen:=λ h=>hnin ((hseen j e (c,v) hj hcv).2 h)
          have hk:=zpz.1 hround c hlc.1 (by rw[hF];simp) hns
          have hlt:=(dqp.1 hit).1
          have hw1h:w1.heap=w.heap:=by rcases hw1 with rfl | rfl <;> rfl
          have hoth:∀ b,b ≠ g.bk L->(ChangeMaps.setBlock w1 (g.bk L) (.mapIter (some mb) clock (sb.push e.born) clock)).heap[b]? = w.heap[b]?:=λ b hb=>by
            show (w1.heap.setIfInBounds (g.bk L) _)[b]? = _
            rw[Array.getElem?_setIfInBounds,if_neg (λ x=>hb x.symm),hw1h]
          refine fin _ true [e.key,e.val] (c :: seen) (λ o ho=>by rw[ho1] at ho;cases ho;rw[hxv];exact hrun) ?_ hk
          have hB:=(S.own L _ (g.bk L) hL rfl).1
          refine S.write (o' := .mit q m F (c :: seen)) hL (fun b hb => hb)
            ⟨⟨by rcases hw1 with rfl | rfl <;> rfl,by rcases hw1 with rfl | rfl <;> rfl,by rcases hw1 with rfl | rfl <;> rfl,by show _<=(w1.heap.setIfInBounds _ _).size;rw[hw1h];simp,λ k hk=>hoth k (by omega)⟩,by rcases hw1 with rfl | rfl;exact dqt _;exact zq5 (Nat.le_succ _)⟩
            (λ b hb=>hoth b λ x=>hb (by rw[x];rfl)) (.inr ⟨mb,es,clock,sb.push e.born,en,hmb,M,?_,?_,?_⟩) (λ N hN=>by simp[zcl] at hN)
          · show (w1.heap.setIfInBounds (g.bk L) _)[g.bk L]? = _
            rw[hw1h];simp[hlt]
          · intro j' e2 x2 h1 h2
            have hb2:e2.born=e.born↔x2.1=c:=by
              have hk2:(en.map (·.1))[j']? = some x2.1:=by simp[h2]
              have hk1:(en.map (·.1))[j]? = some c:=by simp[hcv]
              have hb1:(es.toList.map (·.born))[j]? = some e.born:=by simp[hj]
              have hb2':(es.toList.map (·.born))[j']? = some e2.born:=by simp[h1]
              constructor
              · intro h
                have:j'=j:=(List.getElem?_inj (dqn.1 hb2').1 M.bornN).1 (by rw[hb2',hb1,h])
                subst this
                rw[hk2] at hk1;simpa using hk1
              · intro h
                have:j'=j:=(List.getElem?_inj (dqn.1 hk2).1 M.nodup).1 (by rw[hk2,hk1,h])
                subst this
                rw[h1] at hj;simp only[dqa] at hj;rw[hj]
            rw[Array.mem_push,dqq,hseen j' e2 x2 h1 h2,hb2]
            exact Or.comm
          · intro c' r' h
            simp only[dqy] at h
            obtain⟨rfl,rfl⟩:=h
            exact⟨j,e,v,hj,hcv,by simp⟩
    · exact h.elim
  · exact h.elim
end
end Go.Pm
namespace Go.Pm
open Go.RowKit (Below)

theorem zir {P : Program} : ∀ (l : List (Nat × Nat × Nat × (Nat → List PV))) (σ τ : St), Eqv σ τ → (zfm P l σ = none ∧ zfm P l τ = none) ∨ ∃ σ' τ', zfm P l σ = some σ' ∧ zfm P l τ = some τ' ∧ Eqv σ' τ'
  | [],σ,τ,h=>.inr ⟨σ,τ,rfl,rfl,h⟩
  | (t,L,e,g) :: r,σ,τ,h=>by
    simp only[zfm]
    rw[<- h.env,<- h.objs]
    split
    · split
      · split
        · refine zir r _ _ ⟨fun s => ?_, fun s => ?_, h.log⟩
          · simp only[zaB,h.env]
          · simp only[zaB,h.objs]
        · exact .inl ⟨rfl,rfl⟩
      · exact .inl ⟨rfl,rfl⟩
    · exact zir r _ _ h
    · exact .inl ⟨rfl,rfl⟩
theorem zis {P : Program} : ∀ (l : List (Nat × Nat × Nat × Nat × (Nat → List PV))) (σ τ : St), Eqv σ τ → (zfn P l σ = none ∧ zfn P l τ = none) ∨ ∃ σ' τ', zfn P l σ = some σ' ∧ zfn P l τ = some τ' ∧ Eqv σ' τ'
  | [],σ,τ,h=>.inr ⟨σ,τ,rfl,rfl,h⟩
  | (B,k,L,e,g) :: r,σ,τ,h=>by
    simp only[zfn]
    rw[<- h.objs,<- h.objs]
    split
    · split
      · split
        · split
          · refine zis r _ _ ⟨h.env, fun s => ?_, h.log⟩
            simp only[zaB,h.objs]
          · exact .inl ⟨rfl,rfl⟩
        · exact .inl ⟨rfl,rfl⟩
      · exact zis r _ _ h
      · exact .inl ⟨rfl,rfl⟩
    · exact .inl ⟨rfl,rfl⟩
theorem zit {P : Program} : ∀ (l : List (Nat × Nat × Nat × Nat × Nat × (Nat → Nat → List PV))) (σ τ : St), Eqv σ τ → (zfo P l σ = none ∧ zfo P l τ = none) ∨ ∃ σ' τ', zfo P l σ = some σ' ∧ zfo P l τ = some τ' ∧ Eqv σ' τ'
  | [],σ,τ,h=>.inr ⟨σ,τ,rfl,rfl,h⟩
  | (B,k,L,te,e,g) :: r,σ,τ,h=>by
    simp only[zfo]
    rw[<- h.objs,<- h.objs]
    split
    · split
      · split
        · split
          · split
            · refine zit r _ _ ⟨h.env, fun s => ?_, h.log⟩
              simp only[zaB,h.objs]
            · exact .inl ⟨rfl,rfl⟩
          · exact .inl ⟨rfl,rfl⟩
        · exact .inl ⟨rfl,rfl⟩
      · exact zit r _ _ h
      · exact .inl ⟨rfl,rfl⟩
    · exact .inl ⟨rfl,rfl⟩
theorem ziu : ∀ (l : List (Nat × Nat × (Nat → List PV))) (σ τ : St), Eqv σ τ → (zfp l σ = none ∧ zfp l τ = none) ∨ ∃ σ' τ', zfp l σ = some σ' ∧ zfp l τ = some τ' ∧ Eqv σ' τ'
  | [],σ,τ,h=>.inr ⟨σ,τ,rfl,rfl,h⟩
  | (t,s,g) :: r,σ,τ,h=>by
    have ho:lk σ.objs=lk τ.objs:=funext h.objs
    simp only[zfp]
    rw[<- h.env,<- ho]
    split
    · split
      · refine ziu r _ _ ⟨fun s => ?_, h.objs, h.log⟩
        simp only[zaB,h.env]
      · split
        · refine ziu r _ _ ⟨fun s => ?_, fun s => ?_, h.log⟩
          · simp only[zaB,h.env]
          · simp only[zdd,h.objs]
        · exact .inl ⟨rfl,rfl⟩
    · exact .inl ⟨rfl,rfl⟩
theorem zmY {α : Type} {f : α → α} {l l' : List (Nat × α)} (h : ∀ t, lk l t = lk l' t) : ∀ ks, zlL f l ks = zlL f l' ks
  | []=>rfl
  | t :: r=>by simp only[zlL,h,zmY h r]
theorem zFF {ob ob':Nat->Option AO}(h:∀ t,ob t=ob' t):∀ ks,zyU ob ks=zyU ob' ks:=by
 intro ks
 have:ob=ob':=funext h
 rw[this]
theorem zzk {P:Program}{k:Keep}{σ τ:St}(h:Eqv σ τ):zmm P k σ=zmm P k τ:=by
 unfold zmm
 rcases zir (P:=P) k.coT σ τ h with ⟨h1,h2⟩ | ⟨σ1,τ1,h1,h2,h3⟩
 ·rw[h1,h2]
 ·rw [h1, h2]
  simp only
  rcases zis (P:=P) k.coB σ1 τ1 h3 with ⟨h4,h5⟩ | ⟨σ2,τ2,h4,h5,h6⟩
  ·rw[h4,h5]
  ·rw [h4, h5]
   simp only
   rcases zit (P:=P) k.coV σ2 τ2 h6 with ⟨h7,h8⟩ | ⟨σ3,τ3,h7,h8,h9⟩
   ·rw[h7,h8]
   ·rw [h7, h8]
    simp only
    rw[zmY h9.env,zmY h9.objs]
theorem zAM {P:Program}{k:Keep}{σ τ:St}(h:Eqv σ τ):canon P k σ=canon P k τ:=by
 unfold canon
 have h1:Eqv (zNV k.coF σ) (zNV k.coF τ):=⟨h.env,λ t=>by simp only[zNV,zdd,h.objs,zFF h.objs],h.log⟩
 rcases ziu k.coZ _ _ h1 with ⟨h2,h3⟩ | ⟨σ1,τ1,h2,h3,h4⟩
 ·rw[h2,h3]
 ·rw[h2,h3];exact zzk h4

section
variable {P:Program}{Γ:Ctrs}{nt B:Nat}{w0:World}{h0:Fz}{r:Option Nat}{n:Nat}

theorem zes {b : Frame} {a : Act} {k : List Item} {cs : List Frame} {w : World} {c : Code} :
  step P (lone (b.atR a (.code (.scope c) :: k)) cs w)=.next (lone (b.atR a (.code c :: .inScope c :: k)) cs w) :=
 step_lone_go (by simp[stepG,stepG.exec,Frame.atR])
theorem zpA {b : Frame} {a : Act} {k : List Item} {cs : List Frame} {w : World} {c : Code} :
  step P (lone (b.atR a (.inScope c :: k)) cs w)=.next (lone (b.atR a k) cs w) :=
 step_lone_go (by simp[stepG,stepG.exec,Frame.atR])

theorem zoz {c:Code}{Q:Exit->Act->World->Prop}{a:Act}{w:World}{F:Fence}(h:c.wpIn F n P (Exit.noGoto Q) a w):(Code.scope c).wpIn F n P Q a w:=by
 intro b k cs hro hb hr
 obtain⟨e,a₁,w₁,hq,harr⟩:=h b (.inScope c :: k) cs hro hb hr
 have h0:(lone (b.atR a (.code (.scope c) :: k)) cs w).fenced P F:=fenced_calm hb hr rfl
 cases e with
 | normal=>exact⟨.normal,a₁,w₁,hq,.head h0 zes (StepsIn.trans harr (.one (fenced_calm hb hr rfl) zpA))⟩
 | exit id =>
  refine⟨.exit id,a₁,w₁,hq,λ k' hk=>.head h0 zes (harr.1 k' (by simp[exitTo,hk])),λ hr' hk=>?_⟩
  obtain⟨k₁,h1,h2⟩:=harr.2 hr' (by simp[exitTo,hk])
  exact⟨k₁,h1,.head h0 zes h2⟩
 | goto l=>exact hq.elim
 | ret=>exact⟨_,a₁,w₁,hq,.of_steps (.one h0 zes) harr⟩
 | panic ch=>exact⟨_,a₁,w₁,hq,.of_steps (.one h0 zes) harr⟩
 | outgrown=>exact⟨_,a₁,w₁,hq,.of_steps (b:=b) (k:=k) (cs:=cs) (e:=.outgrown) (.one h0 zes) harr⟩

def zuh (F:Fence) (n:Nat) (P:Program) (c:Code) (Q:Exit->Act->World->Prop) (a:Act) (w:World):Prop :=
 ∀ (b:Frame) (k:List Item) (cs:List Frame),b.roundOf=F.round->F.fn b.fn->F.room (cs.length+1+n) ->
  ∃ e a' w',Q e a' w'/\ArrivesIn (Machine.fenced P F) P (lone (b.atR a (.code c :: .inLoop c :: k)) cs w) b k cs e a' w'

theorem zgw {F:Fence}{c:Code}{Q:Exit->Act->World->Prop}{a:Act}{w:World}(h:zuh F n P c Q a w):(Code.loop c).wpIn F n P Q a w:=by
 intro b k cs hro hb hr
 obtain⟨e,a',w',hq,harr⟩:=h b k cs hro hb hr
 exact⟨e,a',w',hq,.of_steps (.one (fenced_calm hb hr rfl) stepR_loop) harr⟩

theorem zgx {F:Fence}{c:Code}{Q:Exit->Act->World->Prop}{a:Act}{w:World}(h:c.wpIn F n P (Exit.then (zuh F n P c Q) Q) a w):zuh F n P c Q a w:=by
 intro b k cs hro hb hr
 obtain⟨e,a₁,w₁,hq,harr⟩:=h b (.inLoop c :: k) cs hro hb hr
 cases e with
 | normal =>
  obtain⟨e₂,a₂,w₂,hq₂,harr₂⟩:=hq b k cs hro hb hr
  exact⟨e₂,a₂,w₂,hq₂,.of_steps (StepsIn.trans harr (.one (fenced_calm hb hr rfl) stepR_inLoop)) harr₂⟩
 | exit id=>exact⟨_,a₁,w₁,hq,.pass (x:=.inLoop c) rfl (λ _ _=>.inl (by simp)) harr⟩
 | goto l=>exact⟨_,a₁,w₁,hq,.pass (x:=.inLoop c) rfl (λ _ _=>.inl (by simp)) harr⟩
 | ret=>exact⟨_,a₁,w₁,hq,.pass (x:=.inLoop c) rfl (λ _ _=>.inl (by simp)) harr⟩
 | panic ch=>exact⟨_,a₁,w₁,hq,.pass (x:=.inLoop c) rfl (λ _ _=>.inl (by simp)) harr⟩
 | outgrown=>exact⟨_,a₁,w₁,hq,.pass (x:=.inLoop c) rfl (λ _ _=>.inl (by simp)) harr⟩

def PostR (P:Program) (nt B:Nat) (w0:World) (h0:Fz) (D:List Nat) (a0:Act) (K:Exit->St->Prop):Exit->Act->World->Prop :=
 λ e a' w'=>∃ g' σ',K e σ'/\Sim P nt B w0 h0 g' σ' a' w'/\Kp D a0 a'

def Snd (P:Program) (Γ:Ctrs) (ann:Ann) (B:Nat) (w0:World) (c:Code):Prop :=
 ∀ (r:Option Nat) (n:Nat) (h0:Fz) (D:List Nat) (a0:Act) (K:Exit->St->Prop) (σ:St) (g:Gh) (a:Act) (w:World),(∀ t∈zn0 c,t∈D)->Rnd r h0->vc P Γ ann c K σ ->
  Sim P ann.nt B w0 h0 g σ a w->Kp D a0 a->c.wpIn (FR r) n P (PostR P ann.nt B w0 h0 D a0 K) a w

theorem zxj : ∀ {l : List Oper} {j : Nat} {o : Oper} {t : Nat}, l[j]? = some o → o.dst = some t → t ∈ zET l
  | [],j,o,t,h,_=>by simp at h
  | x :: l,j,o,t,h,hd=>by
    cases j with
    | zero =>
      simp only[List.getElem?_cons_zero,dqa] at h;subst h
      simp only[zET,hd];exact dqj
    | succ j =>
      have:=zxj (l:=l) (j:=j) (by simpa using h) hd
      simp only[zET];split
      · exact dqf _ this
      · exact this

theorem zrO (hok : OkAll P Γ) (ann : Ann) {id : Nat} {ops : Array Oper} {draw : Bool} {K : St → Prop} {Q : Exit → Act → World → Prop} {D : List Nat} {a0 : Act} {σ : St} {g : Gh} {a : Act} {w : World}
    (hD:∀ t∈zET ops.toList,t∈D) (h:zE0 P Γ ann id ops draw K σ) (S:Sim P ann.nt B w0 h0 g σ a w) (hkp:Kp D a0 a)
    (hQ:∀ g' σ' a' w',K σ'->Sim P ann.nt B w0 h0 g' σ' a' w'->Kp D a0 a'->a'.defers=a.defers->Q .normal a' w'):(Code.region id ops draw).wpIn (FR r) n P Q a w:=by
  have hD':∀ (j:Nat) (o:Oper),ops[j]? = some o->∀ t,o.dst=some t->t∈D:=λ j o ho t ht=>hD t (zxj (by simpa using ho) ht)
  have hreg:∀ σ',(match lk ann.reg id with | some k=>(match canon P k σ' with | some s=>K s | none=>False) | none=>K σ')->∀ g' a' w',Sim P ann.nt B w0 h0 g' σ' a' w'->Kp D a0 a'->a'.defers=a.defers->Q .normal a' w':=by
    intro σ' h g' a' w' S hk' hdf
    split at h
    · split at h
      · rename_i s hs
        obtain⟨g2,S2⟩:=zce hs S
        exact hQ g2 s a' w' h S2 hk' hdf
      · exact h.elim
    · exact hQ g' σ' a' w' h S hk' hdf
  simp only[zE0] at h
  cases draw with
  | false =>
    refine wpIn_region ?_
    exact zt4 hok hD' h (S.log _) hkp hreg
  | true =>
    simp only at h
    split at h
    · rename_i hc
      simp only[dqm] at hc
      refine zzi (K:=λ σ'=>match lk ann.reg id with
        | some k=>match canon P k σ' with
          | some s=>K s
          | none=>False
        | none=>False) hok hD' hkp hc.1.1 hc.1.2 hc.2 (λ σ τ he hσ=>?_) h (S.log []) ?_
      · split at hσ
        · rename_i k hk
          rw[zAM he] at hσ
          exact hσ
        · exact hσ.elim
      · intro σ' h g' a' w' S hk' hdf
        split at h
        · split at h
          · rename_i s hs
            obtain⟨g2,S2⟩:=zce hs S
            exact hQ g2 s a' w' h S2 hk' hdf
          · exact h.elim
        · exact h.elim
    · exact h.elim

def zAN (P : Program) (Γ : Ctrs) (ann : Ann) (x y : Code) (ps : List Nat) (k : Keep) (K : Exit → St → Prop) : List (List PA) → St → Prop
  | [],s=>K .normal s
  | yv :: rest,s=>match zjo ps yv s.env with
    | some env=>vc P Γ ann x (zI0 (vc P Γ ann y (zob P k (zAN P Γ ann x y ps k K rest) K)) λ _ _=>False) ⟨env,s.objs,[]⟩
    | none=>False

theorem zui (hok:OkAll P Γ){ann:Ann}{f:Operand}{ps:Array Tmp}{x y:Code}(ihx:Snd P Γ ann B w0 x) (ihy:Snd P Γ ann B w0 y):Snd P Γ ann B w0 (.rangeFunc f ps x y):=by
 intro r n h0 D a0 K σ g a w hD hR h S hkp
 simp only[vc] at h
 split at h
 ·rename_i k hk
  split at h
  ·rename_i s hs hdis
   simp only[dqm] at hdis
   obtain⟨hdis,hpnt⟩:=hdis
   split at h
   ·rename_i gf caps hf
    split at h
    ·rename_i safe ys hit
     obtain⟨hsafe,h⟩:=h
     have hgood:zAN P Γ ann x y ps.toList k K ys s:=h (zAN P Γ ann x y ps.toList k K) (λ _ h=>h) (λ _ _ _ h=>h)
     obtain⟨g1,S1⟩:=zce hs S
     have hout:∀ t∈k.tmps,t ∉ ps.toList/\t ∉ zn0 x ++ zn0 y:=by
      intro t ht
      have h1:=List.all_eq_true.1 hdis t ht
      simp only[Bool.not_eq_true'] at h1
      have h2:t ∉ ps.toList ++ (zn0 x ++ zn0 y):=by simpa using h1
      exact⟨λ h=>h2 (dqg.2 (.inl h)),λ h=>h2 (dqg.2 (.inr h))⟩
     refine wpIn_rangeFunc λ fn _=>?_
     obtain⟨l,mark,w1,d,h1,hrun,hlw,hl1,hle1,hn1,S2⟩:=zpy S1 hR fn ps x y
     have hfn:=zcK S1 hf
     generalize hfv:a.eval f=fvv at hfn
     cases hfn with
     | fn _ _ _ fv cv l1 l2 hf1 hc1 =>
      have e1:fv=[]:=List.eq_nil_of_length_eq_zero l1.symm
      subst e1
      let a1:Act:={ a with defers:=mark ++ a.defers }
      let rec_:LoopState->Option Code->Loop:=λ st pe=>{ state:=st,pending:=pe,fn,tmps:=a.tmps,params:=ps, assign:=x,body:=y,defers:=d }
      let J:List (List PA)->Fz->World->Prop:=λ rest h W=>∃ s bk sv iv,zAN P Γ ann x y ps.toList k K rest s/\(∀ t d,lk s.env t=some d->t∈k.tmps)/\Sim P ann.nt B w0 h0 ⟨h,bk,sv,iv⟩ s a1 W/\h l=none/\B<=l /\
       (∀ L o,lk s.objs L=some o->¬ obk ⟨h,bk,sv,iv⟩ L o l)/\W.heap[l]? = some (.loop (rec_ .ready none))
      let Jx:List (List PA)->Fz->World->Prop:=λ _ h W=>∃ s bk sv iv c,((c=.ret/\K .ret s)\/∃ id,c=.exit id/\K (.exit id) s)/\Sim P ann.nt B w0 h0 ⟨h,bk,sv,iv⟩ s a1 W/\h l=none/\B<=l /\
       (∀ L o,lk s.objs L=some o->¬ obk ⟨h,bk,sv,iv⟩ L o l)/\W.heap[l]? = some (.loop (rec_ .done (some c)))
      have keepl:∀ {h h':Fz} {W W':World},W.heap[l]? ≠ none->h l=none->(∀ b o,h' b=some o->h b=some o\/W.heap.size<=b)->Bel h W.heap.size W W'->h' l=none/\W'.heap[l]? = W.heap[l]?:=by
       intro h h' W W' hW hl hn hb
       have hlt:l < W.heap.size:=by
        cases hx:W.heap[l]? with
        | none=>exact absurd hx hW
        | some o=>exact (dqp.1 hx).1
       refine⟨?_,hb.block l hlt λ F hF=>by rw[hl] at hF;cases hF⟩
       cases hx:h' l with
       | none=>rfl
       | some o =>
        rcases hn l o hx with h3 | h3
        ·rw[hl] at h3;cases h3
        ·omega
      have hJ:JSt J:=by
       rintro rest h W h' W' ⟨s,bk,sv,iv,hg,he,SJ,hl,hB,hno,hW⟩ hle hw' hn hb
       obtain⟨k1,k2⟩:=keepl (by rw[hW];simp) hl hn hb
       exact⟨s,bk,sv,iv,hg,he,SJ.world hle hw' hn hb,k1,hB,hno,by rw[k2];exact hW⟩
      have hJx:JSt Jx:=by
       rintro rest h W h' W' ⟨s,bk,sv,iv,c,hc,SJ,hl,hB,hno,hW⟩ hle hw' hn hb
       obtain⟨k1,k2⟩:=keepl (by rw[hW];simp) hl hn hb
       exact⟨s,bk,sv,iv,c,hc,SJ.world hle hw' hn hb,k1,hB,hno,by rw[k2];exact hW⟩
      have hBl:B<=l:=dqE S1.bs hlw
      have h0l:∀ {h:Fz} {bk sv iv} {s:St} {W:World},Sim P ann.nt B w0 h0 ⟨h,bk,sv,iv⟩ s a1 W->h l=none->h0 l=none:=λ SJ hl=>by
       cases hx:h0 l with
       | none=>rfl
       | some o=>have:=SJ.le0 l o hx;simp only[hl] at this;cases this
      have hno1:∀ L o,lk s.objs L=some o->¬ obk (g1.re h1) L o l:=λ L o ho hk=>by
       have:obk g1 L o l:=hk
       have:=zcY (S1.obj L o ho) this
       omega
      have hstart:=hok.it gf (caps.map .one) safe ys hit hsafe l J Jx w1 h1 cv hJ hJx (S2.gl.mono S2.le0) ?_ ⟨s,g1.bk,g1.sv,g1.iv,hgood,zmW hs,S2,hn1,hBl,hno1,hl1⟩ (zAf ((ztY l2 hc1).mono λ _ _ h=>h.mono hle1)) S2.hw
      ·obtain ⟨hcall, hseq⟩ := hstart
       refine⟨l,mark,w1,{ target:=.fn (.func gf) cv.toArray,args:=#[.func (.yield l) #[] #[]] },w1,gf,(.func (.yield l) #[] #[] :: cv).toArray,w1,?_,?_,λ _ _=>trivial,?_,λ h=>by simp[FR] at h,(zwY hseq).mono ?_⟩
       ·exact hrun
       ·simp only [resolve, hfv]
        simp[go_sem]
       ·simp only [invoke]
        rw[show (#[.func (.yield l) #[] #[]] ++ cv.toArray)=(.func (.yield l) #[] #[] :: cv).toArray by simp]
        exact zc6 hcall
       ·rintro e W3 ⟨v, h3, rfl, hle3, hw3, (⟨s3, bk, sv, iv, hg3, he3, S3, hl3, hB3, hno3, hW3⟩ | ⟨_, s3, bk, sv, iv, c, hc, S3, hl3, hB3, hno3, hW3⟩)⟩
        ·have S4 := S3.putObj (.loop { rec_ .ready none with state := .exhausted }) hl3 hB3 hno3
         refine⟨none,_,run_endLoop hW3 (by simp[rec_]),_,s3,hg3,S4,hkp.1,hkp.2.1,λ hr=>absurd (hD rfS dqj) hr⟩
        ·have S4 := S3.putObj (.loop { rec_ .done (some c) with state := .exhausted }) hl3 hB3 hno3
         refine⟨some c,_,run_endLoop hW3 (by simp[rec_]),?_⟩
         rcases hc with ⟨rfl,hc⟩ | ⟨id,rfl,hc⟩
         ·exact wpIn_ret ⟨_,s3,hc,S4,hkp.1,hkp.2.1,λ hr=>absurd (hD rfS dqj) hr⟩
         ·exact wpIn_exit ⟨_,s3,hc,S4,hkp.1,hkp.2.1,λ hr=>absurd (hD rfS dqj) hr⟩
      ·-- one round
       rintro yv rest h W us ⟨s,bk,sv,iv,hg,hek,SJ,hl,_,hno,hW⟩ hus hHw n'
       simp only[zAN] at hg
       split at hg
       ·rename_i env henv
        have hlt:l < W.heap.size:=(dqp.1 hW).1
        have h0l':=h0l SJ hl
        have SJ2:=SJ.up.hide hl hW hBl hno
        have hle2:Fle h (h.add l (.loop (rec_ .ready none))):=Fz.le_add hl
        have hpsz:∀ p∈ps.toList,p < a.tmps.size:=λ p hp=>by
         have:=List.all_eq_true.1 hpnt p hp
         exact dqS (by simpa [Nat.blt_eq] using this) SJ.size
        obtain⟨hul,henvR⟩:=zAL (g:=(⟨h.add l (.loop (rec_ .ready none)),bk,sv,iv⟩:Gh)) 0 ps.toList yv us s.env env a.tmps henv (hus.mono λ p q hpq=>by
         cases p with
         | one v=>exact Rep.mono hle2 hpq
         | agg cs=>obtain⟨vs,h5,h6⟩:=hpq;exact⟨vs,h5,h6.mono λ _ _=>Rep.mono hle2⟩) hpsz (λ t d ht=>SJ2.env t d ht)
        have hzip:(ps.zip us.toArray).foldl (λ tmps (t,a)=>tmps.setIfInBounds t a) a.tmps=(ps.toList.zip us).foldl (λ t (p,v)=>t.setIfInBounds p v) a.tmps:=by
         rw[<- Array.foldl_toList,Array.toList_zip]
        let ar:Act:={ tmps:=(ps.toList.zip us).foldl (λ t (p,v)=>t.setIfInBounds p v) a.tmps,defers:=[] }
        have Sr:Sim P ann.nt B w0 (h.add l (.loop (rec_ .ready none))) ⟨h.add l (.loop (rec_ .ready none)),bk,sv,iv⟩ ⟨env,s.objs,[]⟩ ar W:=by
         have Sa:=(SJ2.envs (env:=[]) (λ t d ht=>by simp[lk] at ht) (λ t d ht=>by simp[lk] at ht) []).act (a':=ar) (Marks.nil _ _) (by rw[show ar.tmps.size=a.tmps.size from fold_size _ _];exact SJ.size) (λ t d ht=>by simp[lk] at ht)
         exact Sa.envs henvR (λ t d ht L hL=>by
          rcases zrM _ _ _ _ henv t d ht with h5 | h5
          ·exact SJ.clE t d h5 L hL
          ·rw[h5] at hL;simp at hL) []
        have hrd:∀ st pe,Rnd (some l) (h.add l (.loop (rec_ st pe))):=λ st pe l' e=>by cases e;exact⟨_,Fz.add_same⟩
        refine⟨_,_,_,_,by rw[run_yield (P:=P) (args:=us.toArray) hW (by simp[rec_,hul]),hzip],roundIn_of_wpIn (F:=Fence.wide) trivial ?_⟩
        show x.wpIn (FR (some l)) n' P _ ar W
        refine wpIn_mono (ihx (some l) n' _ (zn0 x ++ zn0 y) ar _ _ _ ar W (λ t ht=>dqg.2 (.inl ht)) (hrd _ _) hg Sr (Kp.refl _ _)) ?_
        rintro e a' w' ⟨g2,σ2,hK2,S2,hkp2⟩
        cases e with
        | normal =>
         simp only[zI0] at hK2
         obtain⟨_,hno2,hw2,S3⟩:=S2.unhide hBl hl rfl (λ ds=>by simp) (λ _ _=>by simp)
         refine⟨_,run_beginRound hw2 rfl,?_⟩
         have S4:=S3.putObj (.loop { rec_ .ready none with state:=.busy }) Fz.del_same hBl hno2
         have hw4:(w'.putObj l (.loop { rec_ .ready none with state:=.busy })).heap[l]? = some (.loop (rec_ .busy none)):=World.putObj_heap_same (dqp.1 hw2).1
         have S5:=S4.hide (o:=.loop (rec_ .busy none)) Fz.del_same hw4 hBl hno2
         show y.wpIn (FR (some l)) n' P _ a' _
         refine wpIn_mono (ihy (some l) n' _ (zn0 x ++ zn0 y) ar _ σ2 _ a' _ (λ t ht=>dqg.2 (.inr ht)) (hrd _ _) hK2 S5 hkp2) ?_
         rintro e a5 w5 ⟨g6,σ6,hK6,S6,hkp6⟩
         have back:∀ s7,canon P k σ6=some s7->∃ (w5l:w5.heap[l]? = some (.loop (rec_ .busy none))) (h':Fz) (bk sv:_) (iv:Nat->Nat->Value),Fle h h'/\h' l=none /\
           ∀ o',Sim P ann.nt B w0 h0 ⟨h',bk,sv,iv⟩ s7 a1 (w5.putObj l o')/\(∀ L o,lk s7.objs L=some o->¬ obk ⟨h',bk,sv,iv⟩ L o l):=by
          intro s7 hs7
          obtain⟨g7,S7⟩:=zce hs7 S6
          obtain⟨_,hno8,hw8,S8⟩:=S7.unhide hBl hl rfl (λ ds=>by simp) (λ _ _=>by simp)
          have hle8:Fle h (g7.h.del l):=S8.le0
          refine⟨hw8,g7.h.del l,g7.bk,g7.sv,g7.iv,hle8,Fz.del_same,λ o'=>⟨?_,hno8⟩⟩
          have S9:=(S8.putObj o' Fz.del_same hBl hno8).down (h0:=h0) SJ.gl SJ.le0 SJ.hn
          refine S9.act (SJ.dfr.mono hle8) SJ.size λ t d ht=>?_
          obtain⟨h10,h11⟩:=hout t (zmW hs7 t d ht)
          have h12:=hkp6.1 t h11
          have h13:ar.tmps.getD t undef=a.tmps.getD t undef:=zoy _ _ _ λ q hq e=>h10 (e ▸ (List.of_mem_zip hq).1)
          have:=S9.env t d ht
          rw[h12,h13] at this
          exact this
         cases e with
         | normal =>
          simp only[zob] at hK6
          split at hK6
          ·rename_i s7 hs7
           obtain⟨w5l,h',bk',sv',iv',hle',hl',hS⟩:=back s7 hs7
           have hlt5:=(dqp.1 w5l).1
           refine⟨_,_,run_endRound none w5l,h',hle',(hS _).1.hw,.inl ⟨rfl,s7,bk',sv',iv',hK6,zmW hs7,(hS _).1,hl',hBl,(hS (.loop (rec_ .ready none))).2,?_⟩⟩
           exact World.putObj_heap_same hlt5
          ·exact hK6.elim
         | ret =>
          simp only[zob] at hK6
          split at hK6
          ·rename_i s7 hs7
           obtain⟨w5l,h',bk',sv',iv',hle',hl',hS⟩:=back s7 hs7
           have hlt5:=(dqp.1 w5l).1
           refine⟨_,_,run_endRound (some .ret) w5l,h',hle',(hS _).1.hw,.inr ⟨rfl,s7,bk',sv',iv',.ret,.inl ⟨rfl,hK6⟩,(hS _).1,hl',hBl,(hS (.loop (rec_ .ready none))).2,?_⟩⟩
           exact World.putObj_heap_same hlt5
          ·exact hK6.elim
         | exit id =>
          simp only[zob] at hK6
          split at hK6
          ·rename_i s7 hs7
           obtain⟨w5l,h',bk',sv',iv',hle',hl',hS⟩:=back s7 hs7
           have hlt5:=(dqp.1 w5l).1
           refine⟨_,_,run_endRound (some (.exit id)) w5l,h',hle',(hS _).1.hw,.inr ⟨rfl,s7,bk',sv',iv',.exit id,.inr ⟨id,rfl,hK6⟩,(hS _).1,hl',hBl,(hS (.loop (rec_ .ready none))).2,?_⟩⟩
           exact World.putObj_heap_same hlt5
          ·exact hK6.elim
         | goto q=>exact hK6.elim
         | panic ch=>exact hK6.elim
         | outgrown=>exact hK6.elim
        | exit id=>exact hK2.elim
        | goto q=>exact hK2.elim
        | ret=>exact hK2.elim
        | panic ch=>exact hK2.elim
        | outgrown=>exact hK2.elim
       ·exact hg.elim
    ·exact h.elim
   ·exact h.elim
  ·exact h.elim
 ·exact h.elim

theorem zOq (hok:OkAll P Γ) (ann:Ann):∀ (c:Code),Snd P Γ ann B w0 c:=by
 intro c
 induction c with
 | skip=>intro r n h0 D a0 K σ g a w _ _ h S hkp;exact wpIn_skip ⟨g,σ,h,S,hkp⟩
 | region id ops draw =>
  intro r n h0 D a0 K σ g a w hD _ h S hkp
  simp only[vc] at h
  split at h
  ·rename_i x t u hn
   exact zzj ann hD hn h S hkp λ g' σ' a' w' hK S' hk' _=>⟨g',σ',hK,S',hk'⟩
  ·exact zrO hok ann hD h S hkp λ g' σ' a' w' hK S' hk' _=>⟨g',σ',hK,S',hk'⟩
 | seq x y ihx ihy =>
  intro r n h0 D a0 K σ g a w hD hR h S hkp
  refine wpIn_seq (wpIn_mono (ihx r n h0 D a0 _ σ g a w (λ t ht=>hD t (dqg.2 (.inl ht))) hR h S hkp) ?_)
  have hDy:∀ t∈zn0 y,t∈D:=λ t ht=>hD t (dqg.2 (.inr ht))
  rintro e a' w' ⟨g',σ',hK,S',hk'⟩
  cases e with
  | normal =>
   simp only[zI0,zSb] at hK
   split at hK
   ·split at hK
    ·rename_i s hs
     obtain⟨g2,S2⟩:=zce hs S'
     exact ihy r n h0 D a0 K s g2 a' w' hDy hR hK S2 hk'
    ·exact hK.elim
   ·exact ihy r n h0 D a0 K σ' g' a' w' hDy hR hK S' hk'
  | exit id=>exact⟨g',σ',hK,S',hk'⟩
  | goto l=>exact⟨g',σ',hK,S',hk'⟩
  | ret=>exact⟨g',σ',hK,S',hk'⟩
  | panic ch=>exact⟨g',σ',hK,S',hk'⟩
  | outgrown=>exact⟨g',σ',hK,S',hk'⟩
 | cond c x y ihx ihy =>
  intro r n h0 D a0 K σ g a w hD hR h S hkp
  simp only[vc] at h
  split at h
  ·rename_i t ht
   have hv:=zhQ S ht
   have hS:∀ b,t=b->Sim P ann.nt B w0 h0 g (zyV σ c b) a w:=by
    intro b hb
    cases c with
    | tmp q =>
     refine S.env' (t:=q) (d:=.bool b) ?_ (zdM _)
     have:a.tmps.getD q undef=.bool t:=hv
     rw[this,hb];exact .bool b
    | _=>exact S
   have h2:=zgY.1 h
   refine wpIn_cond hv ?_
   cases t with
   | true=>exact ihx r n h0 D a0 K _ g a w (λ t ht=>hD t (dqg.2 (.inl ht))) hR (h2.1 rfl) (hS true rfl) hkp
   | false=>exact ihy r n h0 D a0 K _ g a w (λ t ht=>hD t (dqg.2 (.inr ht))) hR (h2.2 rfl) (hS false rfl) hkp
  ·exact h.elim
 | block id b ih =>
  intro r n h0 D a0 K σ g a w hD hR h S hkp
  refine wpIn_block (wpIn_mono (ih r n h0 D a0 _ σ g a w hD hR h S hkp) ?_)
  rintro e a' w' ⟨g',σ',hK,S',hk'⟩
  cases e with
  | exit j =>
   simp only[zwP] at hK
   simp only[Exit.inBlock]
   split at hK
   ·rename_i hj;rw[if_pos (dqc hj)];exact⟨g',σ',hK,S',hk'⟩
   ·rename_i hj;rw[if_neg (Nat.ne_of_beq_eq_false hj)];exact⟨g',σ',hK,S',hk'⟩
  | normal=>exact⟨g',σ',hK,S',hk'⟩
  | goto l=>exact⟨g',σ',hK,S',hk'⟩
  | ret=>exact⟨g',σ',hK,S',hk'⟩
  | panic ch=>exact⟨g',σ',hK,S',hk'⟩
  | outgrown=>exact⟨g',σ',hK,S',hk'⟩
 | loop b ih =>
  intro r n h0 D a0 K σ g a w hD hR h S hkp
  simp only[vc] at h
  split at h
  ·rename_i k hk
   split at h
   ·rename_i s hs
    obtain⟨g1,S1⟩:=zce hs S
    refine zgw ?_
    have key:=h (λ s=>∀ g a w,Sim P ann.nt B w0 h0 g s a w->Kp D a0 a->zuh (FR r) n P b (PostR P ann.nt B w0 h0 D a0 K) a w) ?_
    ·exact key g1 a w S1 hkp
    ·intro s hs g a w S hkp
     refine zgx (wpIn_mono (ih r n h0 D a0 _ s g a w hD hR hs S hkp) ?_)
     rintro e a' w' ⟨g',σ',hK,S',hk'⟩
     cases e with
     | normal =>
      simp only[zE1,hk] at hK
      split at hK
      ·rename_i s2 hs2
       obtain⟨g2,S2⟩:=zce hs2 S'
       exact hK g2 a' w' S2 hk'
      ·exact hK.elim
     | exit id=>exact⟨g',σ',hK,S',hk'⟩
     | goto l=>exact⟨g',σ',hK,S',hk'⟩
     | ret=>exact⟨g',σ',hK,S',hk'⟩
     | panic ch=>exact⟨g',σ',hK,S',hk'⟩
     | outgrown=>exact⟨g',σ',hK,S',hk'⟩
   ·exact h.elim
  ·split at h
   ·rename_i m k hk
    have key:∀ (m:Nat) (σ:St) (g:Gh) (a:Act) (w:World),zRI P k (vc P Γ ann b) m K σ->Sim P ann.nt B w0 h0 g σ a w->Kp D a0 a->zuh (FR r) n P b (PostR P ann.nt B w0 h0 D a0 K) a w:=by
     intro m
     induction m with
     | zero=>intro σ g a w h;exact h.elim
     | succ m ihm =>
      intro σ g a w h S hkp
      simp only[zRI] at h
      split at h
      ·rename_i s hs
       obtain⟨g1,S1⟩:=zce hs S
       refine zgx (wpIn_mono (ih r n h0 D a0 _ s g1 a w hD hR h S1 hkp) ?_)
       rintro e a' w' ⟨g',σ',hK,S',hk'⟩
       cases e with
       | normal=>exact ihm σ' g' a' w' hK S' hk'
       | exit id=>exact⟨g',σ',hK,S',hk'⟩
       | goto l=>exact⟨g',σ',hK,S',hk'⟩
       | ret=>exact⟨g',σ',hK,S',hk'⟩
       | panic ch=>exact⟨g',σ',hK,S',hk'⟩
       | outgrown=>exact⟨g',σ',hK,S',hk'⟩
      ·exact h.elim
    exact zgw (key m σ g a w h S hkp)
   ·exact h.elim
 | exit id=>intro r n h0 D a0 K σ g a w _ _ h S hkp;exact wpIn_exit ⟨g,σ,h,S,hkp⟩
 | scope b ih =>
  intro r n h0 D a0 K σ g a w hD hR h S hkp
  refine zoz (wpIn_mono (ih r n h0 D a0 _ σ g a w hD hR h S hkp) ?_)
  rintro e a' w' ⟨g',σ',hK,S',hk'⟩
  cases e with
  | goto l=>exact hK
  | normal=>exact⟨g',σ',hK,S',hk'⟩
  | exit l=>exact⟨g',σ',hK,S',hk'⟩
  | ret=>exact⟨g',σ',hK,S',hk'⟩
  | panic ch=>exact⟨g',σ',hK,S',hk'⟩
  | outgrown=>exact⟨g',σ',hK,S',hk'⟩
 | label l=>intro r n h0 D a0 K σ g a w _ _ h S hkp;exact wpIn_label ⟨g,σ,h,S,hkp⟩
 | ret=>intro r n h0 D a0 K σ g a w _ _ h S hkp;exact wpIn_ret ⟨g,σ,h,S,hkp⟩
 | rangeFunc f ps x y ihx ihy=>exact zui hok ihx ihy
 | goto l=>intro r n h0 D a0 K σ g a w _ _ h S;exact h.elim
 | refuse s=>intro r n h0 D a0 K σ g a w _ _ h S;exact h.elim
end
end Go.Pm
namespace Go.Pm
open Go.RowKit (Below)

section
variable {P:Program}{Γ:Ctrs}

theorem zmZ : ∀ (args : List PA) (i t : Nat) (d : DV), lk (zg0 i args) t = some d → ∃ x, args[t - i]? = some x ∧ i ≤ t ∧ d = .one (paD x)
  | [],i,t,d,h=>by simp[zg0,lk] at h
  | x :: r,i,t,d,h=>by
    simp only[zg0] at h
    rw[zaB] at h
    split at h
    · rename_i e
      simp only[dqa] at h
      subst e
      exact⟨x,by simp,dqt _,h.symm⟩
    · rename_i e
      obtain⟨y,h1,h2,h3⟩:=zmZ r (i+1) t d h
      refine⟨y,?_,by omega,h3⟩
      rw[show t - i=(t - (i+1))+1 by omega,dqC];exact h1

def resV (tmps : Array Value) : ResultVar → Sem Value
  | .tmp t=>pure (tmps.getD t undef)
  | .cell b t=>do loadVar t (<- asAddr (tmps.getD b undef))

theorem zzl {w:World}(x:Addr):(asAddr (.pointer (some x))).run P w=.ok x w:=rfl

theorem zm0 {nt B:Nat}{w0:World}{h0:Fz}{g:Gh}{σ:St}{a:Act}{w:World}(S:Sim P nt B w0 h0 g σ a w):∀ (rs:List ResultVar) (l:List PA),zq3 P σ rs=some l ->
  ∃ (u:Upd) (vs:List Value),zeq (lk σ.objs) u /\
   (rs.mapM (resV a.tmps)).run P w=.ok vs w /\
   ∀ (u':Upd) (h':Fz),(∀ y∈u,y∈u')->Frozen g (lk σ.objs) u' h'->RL (paR h') l vs
 | [],l,h=>by
  simp[zq3] at h;subst h
  exact⟨[],[],zeq.nil _,rfl,λ _ _ _ _=>trivial⟩
 | .tmp t :: r,l,h=>by
  simp only[zq3] at h
  split at h
  ·rename_i d hd
   split at h
   ·rename_i x u1 l2 h1 h2
    simp only[dqa] at h;subst h
    obtain⟨u2,vs,hu2,hrun,hr⟩:=zm0 S r l2 h2
    refine⟨u1 ++ u2,a.tmps.getD t undef :: vs,(ztL h1).append hu2,?_,λ u' h' hu F=>⟨F.repD h1 (λ y hy=>hu y (dqg.2 (.inl hy))) (S.env t d hd),hr u' h' (λ y hy=>hu y (dqg.2 (.inr hy))) F⟩⟩
    rw[List.mapM_cons]
    simp only[resV,dqd,dqe,dqb]
    rw[hrun];rfl
   ·cases h
  ·cases h
 | .cell t ty :: r,l,h=>by
  simp only[zq3] at h
  split at h
  ·rename_i L off ag m ht hg hs
   split at h
   ·rename_i ty' cells hL
    split at h
    ·rename_i d hd
     split at h
     ·rename_i x u1 l2 h1 h2
      simp only[dqa] at h;subst h
      obtain⟨u2,vs,hu2,hrun,hr⟩:=zm0 S r l2 h2
      obtain⟨C,hC,hcr⟩:=S.obj L _ hL
      obtain⟨v,hload,hv⟩:=zwZ (P:=P) hg hs hC 0 (λ j y hj=>by obtain⟨v,hv,hyv⟩:=hcr.get j y hj;exact⟨v,by simpa using hv,hyv⟩) hd
      have hp:a.tmps.getD t undef=.pointer (some ⟨g.bk L,off,none⟩):=S.env t _ ht
      rw[Nat.zero_add] at hload
      refine⟨u1 ++ u2,v :: vs,(ztL h1).append hu2,?_,λ u' h' hu F=>⟨F.repD h1 (λ y hy=>hu y (dqg.2 (.inl hy))) hv,hr u' h' (λ y hy=>hu y (dqg.2 (.inr hy))) F⟩⟩
      have h1:(resV a.tmps (.cell t ty)).run P w=.ok v w:=by
       simp only[resV,dqd,hp,zzl,dqb,hload]
      rw[List.mapM_cons]
      simp only[dqd,h1,dqb]
      rw[hrun];rfl
     ·cases h
    ·cases h
   ·cases h
  ·cases h

theorem zuj {nt B : Nat} {w0 : World} {h0 : Fz} {g : Gh} {σ : St} {a : Act} {w : World} (S : Sim P nt B w0 h0 g σ a w) {fn : Func} {l : List PA} (h : zq3 P σ fn.results.toList = some l) :
  ∃ (u:Upd) (v:Value),zeq (lk σ.objs) u/\(results fn a.tmps).run P w=.ok v w/\∀ (h':Fz),Frozen g (lk σ.objs) u h'->zzo h' l v:=by
 obtain⟨u,vs,hu,hrun,hr⟩:=zm0 S fn.results.toList l h
 refine⟨u,if h:vs.toArray.size=1 then vs.toArray[0] else .tuple vs.toArray,hu,?_,λ h' F=>?_⟩
 ·have e : results fn a.tmps = (do let vs ← fn.results.mapM (resV a.tmps); pure (if h : vs.size = 1 then vs[0] else .tuple vs)) := rfl
  rw[e,Array.mapM_eq_mapM_toList]
  simp only[dqd,Sem.run_map]
  rw[hrun]
  simp only[dqb,dqe]
 ·have hrl := hr u h' (fun y hy => hy) F
  match l,vs,hrl with
  | [],[],_=>exact⟨[],rfl,trivial⟩
  | [x],[v],hrl=>exact hrl.1
  | x :: y :: l,v :: v2 :: vs,hrl =>
   refine⟨v :: v2 :: vs,?_,hrl⟩
   rw[dif_neg (by simp)]
  | [],_ :: _,hrl=>exact hrl.elim
  | [_],[],hrl=>exact hrl.elim
  | [_],_ :: _ :: _,hrl=>exact hrl.2.elim
  | _ :: _ :: _,[],hrl=>exact hrl.elim
  | _ :: _ :: _,[_],hrl=>exact hrl.2.elim

theorem Sim.unmark {nt B : Nat} {w0 : World} {h0 : Fz} {g : Gh} {σ : St} {a : Act} {w : World} (S : Sim P nt B w0 h0 g σ a w) {D : Nat} {Ds : List (Nat ⊕ Deferred)}
    (hnd:(lefts (.inl D :: Ds)).Nodup) (hm:∀ E,Sum.inl E∈.inl D :: Ds->B<=E/\g.h E=some (.fz (.deferred (some [])))) (hi:∀ d,Sum.inr d∈Ds->zE4 P d) (h0b:∀ b,h0 b=some (.fz (.deferred (some [])))->b < B) {ds:List Deferred} (hds:ds=Ds.map deD) :
    w.heap[D]? = some (.deferred (some []))/\Sim P nt B w0 h0 (g.re (g.h.del D)) σ { a with defers:=ds } (w.putObj D (.deferred none)):=by
  obtain⟨hB,hb⟩:=hm D dqj
  have hnot:=(List.nodup_cons.1 hnd).1
  have hl:zHv g.h (g.h.del D):=λ k x hk hx=>by
    rw[Fz.del_other];exact hk
    intro e;subst e;rw[hb] at hk;simp only[dqa] at hk;subst hk
    rcases hx with ⟨C,ty,fr,hx⟩ | ⟨F,hx⟩ | ⟨es,c,hx⟩ <;> cases hx
  have hno:∀ L x,lk σ.objs L=some x->¬ obk g L x D:=λ L x hL hk=>by have:=(S.own L x D hL hk).2;rw[hb] at this;cases this
  refine⟨S.hw.fz hb,?_⟩
  have S1:Sim P nt B w0 h0 (g.re (g.h.del D)) σ { a with defers:=ds } w:=by
    refine⟨⟨Ds,(List.nodup_cons.1 hnd).2,hds,λ E hE=>⟨(hm E (dqf _ hE)).1,?_⟩,hi⟩,S.size,λ t d ht=>zAJ hl (S.env t d ht),λ L x hL=>zAK hl (S.obj L x hL),λ L x k hL hk=>?_,S.sep,?_,?_,?_,S.below,S.bs,S.clE,S.clO,S.gl⟩
    · show g.h.del D E = _
      rw[Fz.del_other (λ e=>hnot (by rw[<- e];exact zjq hE))];exact (hm E (dqf _ hE)).2
    · obtain ⟨h1, h2⟩ := S.own L x k hL hk
      refine⟨h1,?_⟩
      show g.h.del D k=none
      unfold Fz.del
      split
      · rfl
      · exact h2
    · intro k x hk
      have hk:g.h.del D k=some x:=hk
      unfold Fz.del at hk
      split at hk
      · cases hk
      · exact S.hw k x hk
    · intro k x hk
      show g.h.del D k=some x
      rw[Fz.del_other (λ e=>by
        subst e
        have h1:=S.le0 _ _ hk
        rw[hb] at h1;simp only[dqa] at h1;rw[<- h1] at hk
        have:=h0b _ hk;omega)];exact S.le0 k x hk
    · intro k x hk
      have hk:g.h.del D k=some x:=hk
      unfold Fz.del at hk
      split at hk
      · cases hk
      · exact S.hn k x hk
  exact S1.putObj _ Fz.del_same hB hno

theorem zuk {nt B : Nat} {w0 : World} {h0 : Fz} {σ : St} {fn : Func} {R : Ending → World → Prop} {n : Nat} (h0b : ∀ b, h0 b = some (.fz (.deferred (some []))) → b < B) :
  ∀ (Ds:List (Nat ⊕ Deferred)) (g:Gh) (a:Act) (w:World),(lefts Ds).Nodup->a.defers=Ds.map deD->(∀ D,Sum.inl D∈Ds->B<=D/\g.h D=some (.fz (.deferred (some []))))->(∀ d,Sum.inr d∈Ds->zE4 P d)->Sim P nt B w0 h0 g σ a w ->
   (∀ g' a' w',a'.tmps=a.tmps->Sim P nt B w0 h0 g' σ a' w'->∃ v,(results fn a'.tmps).run P w'=.ok v w'/\R (.returned v) w')->LeavesInM (FR none) n P fn a.tmps R a.defers .returning w
 | [],g,a,w,_,ha,_,_,S,hR=>by
  rw[ha]
  exact hR g a w rfl S
 | .inl D :: Ds,g,a,w,hnd,ha,hm,hi,S,hR=>by
  obtain⟨h1,S1⟩:=S.unmark hnd hm (λ d hd=>hi d (dqf _ hd)) h0b rfl
  rw[ha,dqK]
  refine⟨by simp,.inl ⟨D,_,rfl,run_takeDeferred h1,?_⟩⟩
  have hnot:=(List.nodup_cons.1 hnd).1
  exact zuk h0b Ds _ { a with defers:=Ds.map deD } _ (List.nodup_cons.1 hnd).2 rfl (λ E hE=>⟨(hm E (dqf _ hE)).1,by
   show g.h.del D E=_
   rw[Fz.del_other (λ e=>hnot (by rw[<- e];exact zjq hE))];exact (hm E (dqf _ hE)).2⟩) (λ d hd=>hi d (dqf _ hd)) S1 (λ g' a' w' ht=>hR g' a' w' ht)
 | .inr d :: Ds,g,a,w,hnd,ha,hm,hi,S,hR=>by
  obtain⟨fv,cap,f,args,h1,h2,h3⟩:=hi d dqj
  rw[ha,dqK]
  refine⟨by simp,.inr ⟨(λ h=>by cases h),fv,cap,f,args,h1,h2 w,(λ _ _=>trivial),?_⟩⟩
  obtain⟨c1,c2⟩:=h3 (n - 1) w
  refine⟨c1,λ c cs hc hr=>?_⟩
  obtain⟨e,u',w',fr,hR',rest⟩:=c2 c cs hc hr
  refine⟨e,u',w',fr,?_,rest⟩
  obtain⟨⟨v,rfl⟩,rfl,rfl⟩:=hR'
  have hm':∀ D,Sum.inl D∈Ds->B<=D/\g.h D=some (.fz (.deferred (some []))):=λ D hD=>hm D (dqf _ hD)
  have hi':∀ d,Sum.inr d∈Ds->zE4 P d:=λ d hd=>hi d (dqf _ hd)
  exact zuk h0b Ds g { a with defers:=Ds.map deD } _ hnd rfl hm' hi' (S.act ⟨Ds,hnd,rfl,hm',hi'⟩ S.size S.env) (λ g' a' w' ht=>hR g' a' w' ht)

theorem zrP {nt : Nat} {args : List PA} {w : World} {h0 : Fz} {vs : List Value} {m : Nat} (hnt : nt = m) (hlen : args.length ≤ nt) (hvs : RL (paR h0) args vs) (hfz : Hw h0 w) (hgl : zgS h0) :
  Sim P nt w.heap.size w h0 ⟨h0,λ _=>0,λ _=>undef,λ _ _=>undef⟩ ⟨zg0 0 args,[],[]⟩ { tmps:=vs.toArray ++ Array.replicate (m - vs.toArray.size) undef,defers:=[] } w:=by
 have hl:=hvs.length
 refine⟨Marks.nil _ _,by simp;omega,?_,λ L o ho=>by simp[lk] at ho,λ L o b ho=>by simp[lk] at ho,λ L o b L' o' ho=>by simp[lk] at ho,hfz,λ _ _ h=>h,λ b o h=>.inl h,Bel.refl _ _ _,dqt _,?_,λ L o ho=>by simp[lk] at ho,hgl⟩
 ·intro t d ht
  obtain⟨x,hx,_,rfl⟩:=zmZ args 0 t d ht
  obtain⟨v,hv,hxv⟩:=hvs.get t x (by simpa using hx)
  have hlt:=(dqn.1 hv).1
  have:(vs.toArray ++ Array.replicate (m - vs.toArray.size) undef).getD t undef=v:=by
   rw[dql,Array.getElem?_append_left (by simpa using hlt)]
   simp[hv]
  rw[this]
  exact zFi (g:=⟨h0,λ _=>0,λ _=>undef,λ _ _=>undef⟩) hxv
 ·intro t d ht L hL
  obtain⟨x,hx,_,rfl⟩:=zmZ args 0 t d ht
  rw[show zby (.one (paD x))=zb3 (paD x) from rfl,zpl] at hL;simp at hL

theorem zrQ {G : Ctrs} (hok : OkAll P G) {f : FuncId} {ann : Ann} {args : List PA} {Kx : Func → Exit → St → Prop} {w : World} {h0 : Fz} {vs : List Value} {R : Ending → World → Prop} {fn : Func} {c : Code}
    (hfn:P.funcs[f]? = some fn) (hbody:fn.body=some c) (hnt:ann.nt=fn.ntmps) (hlen:args.length<=ann.nt) (hv:vc P G ann c (Kx fn) ⟨zg0 0 args,[],[]⟩) (hvs:RL (paR h0) args vs) (hfz:Hw h0 w) (hgl:zgS h0)
    (hend:∀ e σ g a w',Kx fn e σ->Sim P ann.nt w.heap.size w h0 g σ a w'->(e=.normal\/e=.ret)/\∃ v,(results fn a.tmps).run P w'=.ok v w'/\R (.returned v) w'):Calls P f vs.toArray w R:=by
  have S:=zrP (P:=P) hnt hlen hvs hfz hgl
  have hwp:=zOq (B:=w.heap.size) (w0:=w) hok ann c none 0 h0 (zn0 c) _ (Kx fn) _ _ _ _ (λ _ h=>h) (Rnd.none h0) hv S (Kp.refl _ _)
  refine (callsIn_wide (n:=0)).1 ?_
  refine callsIn_of_wp_marks (F:=FR none) hfn hbody trivial (wpIn_mono hwp ?_)
  have h0b:∀ b,h0 b=some (.fz (.deferred (some [])))->b < w.heap.size:=λ b h=>hfz.lt h
  rintro e a' w' ⟨g',σ',hK',S',_⟩
  have fin:LeavesInM (FR none) 0 P fn a'.tmps R a'.defers .returning w':=by
    obtain⟨Ds,h1,h2,h3,h4⟩:=S'.dfr
    exact zuk h0b Ds g' a' w' h1 h2 h3 h4 S' λ g2 a2 w2 _ S2=>(hend e σ' g2 a2 w2 hK' S2).2
  rcases (hend e σ' g' a' w' hK' S').1 with rfl | rfl
  · exact fin
  · exact fin

theorem zAO {G : Ctrs} (hok : OkAll P G) {f : FuncId} {args : List PA} {K : List PA → Prop} {ann : Ann} (hv : vcFun P G ann f args K) {w : World} {h0 : Fz} {vs : List Value} (hvs : RL (paR h0) args vs) (hfz : Hw h0 w) (hgl : zgS h0) :
  Calls P f vs.toArray w λ e w'=>∃ (h':Fz) (rs:List PA) (v:Value),K rs/\e=.returned v/\zzo h' rs v/\Bel h0 w.heap.size w w' /\
   Fle h0 h'/\Hw h' w'/\∀ b o,h' b=some o->h0 b=some o\/w.heap.size<=b:=by
 unfold vcFun at hv
 split at hv
 ·rename_i fn hfn
  split at hv
  ·rename_i c hbody
   split at hv
   ·rename_i hnt
    simp only[dqm,Nat.ble_eq] at hnt
    refine zrQ (G:=G) hok (Kx:=λ fn=>zq4 P fn K) hfn hbody (dqc hnt.1) hnt.2 hv hvs hfz hgl ?_
    intro e σ' g' a' w' hK' S'
    have fin:zRJ P fn K σ'->∃ v,(results fn a'.tmps).run P w'=.ok v w' /\
      (∃ (h':Fz) (rs:List PA) (v_1:Value),K rs/\Ending.returned v=.returned v_1/\zzo h' rs v_1/\Bel h0 w.heap.size w w'/\Fle h0 h'/\Hw h' w'/\∀ b o,h' b=some o->h0 b=some o\/w.heap.size<=b):=by
     intro hf
     unfold zRJ at hf
     split at hf
     ·rename_i l hl
      obtain⟨u,v,hu,hrun,hres⟩:=zuj S' hl
      obtain⟨h',S2,F⟩:=S'.freeze hu
      exact⟨v,hrun,h',l,v,hf,rfl,hres h' F,S2.below,S2.le0,S2.hw,S2.hn⟩
     ·exact hf.elim
    cases e with
    | normal=>exact⟨.inl rfl,fin hK'⟩
    | ret=>exact⟨.inr rfl,fin hK'⟩
    | exit id=>exact hK'.elim
    | goto l=>exact hK'.elim
    | panic ch=>exact hK'.elim
    | outgrown=>exact hK'.elim
   ·exact hv.elim
  ·exact hv.elim
 ·exact hv.elim
theorem zFG {G : Ctrs} (hok : OkAll P G) {f : FuncId} {C : List PA → COut} (hc : zaj P f)
    (h:∀ args K,(C args).wp K->∃ memo vv ann,vcFun P { G with memo:=memo,vv:=vv } ann f args K):Ok P f C:=by
  intro args K hK w h0 vs hvs hfz hgl
  obtain⟨memo,vv,ann,hv⟩:=h args K hK
  exact⟨hc,zAO (G:={ G with memo:=memo,vv:=vv }) ⟨hok.mt,hok.fn,hok.own,hok.it⟩ hv hvs hfz hgl⟩
end
end Go.Pm
namespace Go.Pm
open Go.RowKit (Below)

section
variable {P:Program}{Γ:Ctrs}{nt:Nat}{n:Nat}

theorem zFH {o : Oper} {a : Act} {w w' : World} {R : Act → World → Prop} {Q : Exit → Act → World → Prop} (hnd : ∀ c, o.op ≠ .defer c) {l f : Nat} {tmps : Array Value} {x y : Code} (h : (execOp a.eval o).run P w = .ok (.round l f tmps x y) w')
    (hR:RoundIn Fence.wide (n - 1) P l f tmps x y w' λ e w''=>∃ v,e=.returned v/\R (a.put o.dst v) w''):o.wpIn (FR none) n P a w R Q:=by
  refine⟨λ _ _=>trivial,?_⟩
  rw[Oper.semAt_eq _ _ _ hnd,h,Oper.uponIn_round]
  refine⟨λ h=>by simp[FR] at h,?_⟩
  have hR':RoundIn (FR none) (n - 1) P l f tmps x y w' λ e w''=>∃ v,e=.returned v/\R (a.put o.dst v) w'':=hR
  refine hR'.mono ?_
  rintro e w'' ⟨v,rfl,hv⟩
  exact hv

theorem zul {h : Fz} {g : Gh} (hg : g.h = h) : ∀ {ds : List DV} {l : List PA} {vs : List Value}, zh4 ds = some l → RL (dvR g) ds vs → RL (paR h) l vs
  | [],l,vs,h,hr=>by
    simp only[zh4,dqa] at h;subst h
    cases vs with
    | nil=>trivial
    | cons=>exact hr.elim
  | d :: ds,l,[],h,hr=>hr.elim
  | .one (.c (.p p)) :: ds,l,v :: vs,h,hr=>by
    simp only[zh4] at h
    split at h
    · rename_i l' hl'
      simp only[dqa] at h;subst h
      refine⟨?_,zul hg hl' hr.2⟩
      have:=hr.1
      rw[<- hg]
      exact this
    · cases h
  | .one (.agg cs) :: ds,l,v :: vs,h,hr=>by
    simp only[zh4] at h
    split at h
    · rename_i l' m' hc hm'
      simp only[dqa] at h;subst h
      refine⟨?_,zul hg hm' hr.2⟩
      obtain⟨us,rfl,hus⟩:=hr.1
      rw[zer hc] at hus
      have:=RL.map_left.1 hus
      exact⟨us,rfl,by rw[<- hg];exact this⟩
    · cases h
  | .one (.c (.ptr _ _)) :: ds,l,v :: vs,h,hr=>by simp[zh4] at h
  | .one (.c (.vptr _ _ _ _)) :: ds,l,v :: vs,h,hr=>by simp[zh4] at h
  | .one (.c (.vec _)) :: ds,l,v :: vs,h,hr=>by simp[zh4] at h
  | .one (.c (.ivec _ _)) :: ds,l,v :: vs,h,hr=>by simp[zh4] at h
  | .one (.c (.iptr _ _ _ _ _)) :: ds,l,v :: vs,h,hr=>by simp[zh4] at h
  | .one (.c .undef) :: ds,l,v :: vs,h,hr=>by simp[zh4] at h
  | .one (.c .junk) :: ds,l,v :: vs,h,hr=>by simp[zh4] at h
  | .one (.c (.dead _)) :: ds,l,v :: vs,h,hr=>by simp[zh4] at h
  | .tup _ :: ds,l,v :: vs,h,hr=>by simp[zh4] at h

variable (J Jx:List (List PA)->Fz->World->Prop)

def JQ (q:Bool) (ys:List (List PA)) (h:Fz) (w:World):Prop :=
 match q with
 | false=>J ys h w
 | true=>∃ rest,Jx rest h w

def zFI (P:Program) (nt:Nat) (hs:Fz) (K:YK):Exit->Act->World->Prop :=
 λ e a' w'=>∃ ys q σ w0 h0 g,K e ys q σ/\Sim P nt w0.heap.size w0 h0 g σ a' w'/\Fle hs h0/\JQ J Jx q ys h0 w0/\a'.defers=[]

variable {J Jx}
theorem JQ.later {q:Bool}{ys:List (List PA)}{h0:Fz}{w0:World}{g:Gh}{σ:St}{a:Act}{w:World}(hJ:JSt J) (hJx:JSt Jx) (h:JQ J Jx q ys h0 w0) (S:Sim P nt w0.heap.size w0 h0 g σ a w):JQ J Jx q ys g.h w:=by
 cases q with
 | false=>exact hJ _ _ _ _ _ h S.le0 S.hw S.hn S.below
 | true=>obtain⟨rest,h⟩:=h;exact⟨rest,hJx _ _ _ _ _ h S.le0 S.hw S.hn S.below⟩

def YH (P:Program) (J Jx:List (List PA)->Fz->World->Prop) (l:Nat):Prop :=
 ∀ y rest h W us,J (y :: rest) h W->RL (paR h) y us->Hw h W->∀ n,∃ fn tmps assign body,(Instr.yield l us.toArray).run P W=.ok (.round l fn tmps assign body) W /\
   RoundIn Fence.wide n P l fn tmps assign body W λ e W'=>∃ h',Fle h h'/\Hw h' W'/\((e=.returned (.bool true)/\J rest h' W')\/(e=.returned (.bool false)/\Jx rest h' W'))

theorem zgb {kl : List Nat} {l : List (Nat × DV)} : ∀ {ks : List Nat} {t : Nat} {d : DV}, lk (zik kl l ks) t = some d → lk l t = some d ∧ ∀ L ∈ zby d, L ∈ kl
  | [],t,d,h=>by simp[zik,lk] at h
  | k :: ks,t,d,h=>by
    simp only[zik] at h
    split at h
    · rename_i d' hd'
      split at h
      · rename_i hl
        rw[zaB] at h
        split at h
        · rename_i e
          simp only[dqa] at h;subst h;subst e
          refine⟨hd',λ L hL=>?_⟩
          have:=List.all_eq_true.1 hl L hL
          simpa using this
        · exact zgb h
      · exact zgb h
    · exact zgb h

theorem zpB {ob : Nat → Option AO} : ∀ {ks : List Nat} {x : Nat × AO}, x ∈ zyW ob ks → ∃ l, ob x.1 = some (.fbox l) ∧ x.2 = .fbox l
  | [],x,h=>by simp[zyW] at h
  | k :: ks,x,h=>by
    simp only[zyW] at h
    split at h
    · rename_i l hk
      rcases dqq.1 h with rfl | h
      · exact⟨l,hk,rfl⟩
      · exact zpB h
    · exact zpB h
theorem zlX {σ:St}{L:Nat}{o:AO}(h:lk (zE2 σ) L=some o):∃ l,o=.fbox l/\lk (zyU (lk σ.objs) (σ.objs.map (·.1)) ++ σ.objs) L=some (.fbox l):=by
 unfold zE2 at h
 rw[zdd] at h ⊢
 cases hb:lk (zyU (lk σ.objs) (σ.objs.map (·.1))) L with
 | some x =>
  rw[hb] at h
  simp only[dqa] at h
  subst h
  obtain⟨ty,cells,l,_,h2,_⟩:=zmI (zcJ hb)
  have h2:x=.fbox l:=h2
  subst h2
  exact⟨l,rfl,rfl⟩
 | none =>
  rw[hb] at h
  simp only at h
  obtain⟨l,h1,h2⟩:=zpB (zcJ h)
  exact⟨l,h2,h1⟩
theorem zia {α : Type} : ∀ {l : List (Nat × α)} {L : Nat}, L ∈ l.map (·.1) → ∃ o, lk l L = some o
  | [],L,h=>by simp at h
  | (k,a) :: r,L,h=>by
    rw[zaB]
    split
    · exact⟨a,rfl⟩
    · rename_i hne
      simp only[dqK,dqq] at h
      rcases h with rfl | h
      · exact absurd rfl hne
      · exact zia h

theorem zFJ {σ : St} {o : Oper} {args : Array Operand} {t l : Nat} (h : zSc σ o = some (args, t, l)) :
  ∃ f ts,o.op=.call { callee:=.value f,args,argTypes:=ts }/\o.dst=some t/\evO σ.env f=.one (.c (.p (.yl l))):=by
 unfold zSc at h
 split at h
 ·rename_i f az ts t' hop hd
  split at h
  ·rename_i l hl
   simp only[dqa,dqh] at h
   obtain⟨rfl,rfl,rfl⟩:=h
   exact⟨f,ts,hop,hd,hl⟩
  ·cases h
 ·cases h

theorem zrR (hok : OkAll P Γ) {l : Nat} (hJ : JSt J) (hJx : JSt Jx) (hY : YH P J Jx l) {hs : Fz} {ops : Array Oper} {K : List (List PA) → Bool → St → Prop} {Q : Exit → Act → World → Prop}
    (hQ:∀ ys q σ w0 h0 g a w,K ys q σ->Sim P nt w0.heap.size w0 h0 g σ a w->Fle hs h0->JQ J Jx q ys h0 w0->a.defers=[]->Q .normal a w) :
    ∀ (lo:List Oper) (i:Nat) (ys:List (List PA)) (q:Bool) (σ:St) (w0:World) (h0:Fz) (g:Gh) (a:Act) (w:World),(∀ j,lo[j]? = ops[i+j]?)->zgL P Γ nt l ops lo K ys q σ ->
      Sim P nt w0.heap.size w0 h0 g σ a w->Fle hs h0->JQ J Jx q ys h0 w0->a.defers=[]->wpOpsIn (FR none) n P ops Q (List.range' i lo.length) a w:=by
  intro lo
  induction lo with
  | nil=>intro i ys q σ w0 h0 g a w _ h S hle hj hd;exact hQ ys q σ w0 h0 g a w h S hle hj hd
  | cons o lo ih =>
    intro i ys q σ w0 h0 g a w hl h S hle hj hdf
    have ho:ops[i]? = some o:=by have:=hl 0;simpa using this.symm
    have hl':∀ j,lo[j]? = ops[i+1+j]?:=λ j=>by have:=hl (j+1);rw[dqC] at this;rw[this];congr 1;omega
    simp only[dqr,List.range'_succ,wpOpsIn,ho]
    have run:∀ (σ:St),Sim P nt w0.heap.size w0 h0 g σ a w->zmn P Γ nt l o (zgL P Γ nt l ops lo K) ys q σ->o.wpIn (FR none) n P a w (wpOpsIn (FR none) n P ops Q (List.range' (i+1) lo.length)) Q:=by
      clear h S
      intro σ S h
      unfold zmn at h
      split at h
      · rename_i args t l1 hyl
        obtain⟨f,ts,hop,hdst,hf⟩:=zFJ hyl
        split at h
        · rename_i y hy ht
          obtain⟨rfl,rest,rfl,htr,hfa⟩:=h
          have hfn:=zcK S hf
          generalize hfv:a.eval f=fvv at hfn
          cases hfn with
          | yl _ =>
            obtain⟨h1,S1,_⟩:=S.freeze (zxb (ob:=lk σ.objs) (ks:=σ.objs.map (·.1)))
            have hJn:J (y :: rest) h1 w:=hj.later hJ hJx S1
            have hus:RL (paR h1) y (args.toList.map a.eval):=zul (g:=⟨h1,g.bk,g.sv,g.iv⟩) rfl hy (zAe S1 args.toList)
            obtain⟨fn,tmps,x,c,hrun,hround⟩:=hY y rest h1 w _ hJn hus S1.hw (n - 1)
            refine zFH (by simp[hop]) (l:=l1) (f:=fn) (tmps:=tmps) (x:=x) (y:=c) (w':=w) ?_ (hround.mono ?_)
            · simp only [execOp, hop, resolve, hfv, Deferred.ofValue, dqd, dqe, dqb, invoke]
              rw[show (#[] ++ Array.map a.eval args)=(args.toList.map a.eval).toArray by cases args;simp]
              exact hrun
            · have hto : zcp nt (some t) = true := ht
              have next:∀ (b:Bool) (h':Fz) (W':World),Fle h1 h'->Hw h' W'->JQ J Jx (!b) rest h' W'->zgL P Γ nt l1 ops lo K rest (!b) ((zo0 σ).setT t (.bool b)) ->
                  wpOpsIn (FR none) n P ops Q (List.range' (i+1) lo.length) (a.put o.dst (.bool b)) W':=by
                intro b h' W' hle' hw' hj' hv'
                have S0:Sim P nt W'.heap.size W' h' ⟨h',g.bk,g.sv,g.iv⟩ (zo0 σ) a W':=by
                  refine⟨by rw[hdf];exact Marks.nil _ _,S.size,?_,λ L o ho=>?_,λ L o b ho hob=>?_,λ L o b L' o' ho ho' hob hob'=>?_,hw',λ _ _ h=>h,λ b o h=>.inl h,Bel.refl _ _ _,dqt _,?_,λ L o ho M hM=>?_,(S1.gl.mono S1.le0).mono hle'⟩
                  · intro u d hu
                    obtain⟨h2,_⟩:=zgb hu
                    exact zwU (g:=⟨h1,g.bk,g.sv,g.iv⟩) (g':=⟨h',g.bk,g.sv,g.iv⟩) (λ L hL=>⟨rfl,rfl,rfl⟩) hle' (S1.env u d h2)
                  · obtain ⟨l, rfl, h2⟩ := zlX ho
                    obtain⟨C,ty,fr,hC,hr⟩:=S1.obj L _ h2
                    exact⟨C,ty,fr,hle' _ _ hC,hr.mono λ _ _=>Rep.mono hle'⟩
                  · obtain⟨l,rfl,_⟩:=zlX ho;exact hob.elim
                  · obtain⟨l,rfl,_⟩:=zlX ho;exact hob.elim
                  · intro u d hu L hL
                    exact zia ((zgb hu).2 L hL)
                  · obtain⟨l,rfl,_⟩:=zlX ho;simp[zcl] at hM
                have S2:=S0.put (dst:=some t) (d:=.bool b) (v:=.bool b) hto (.bool b) (zdM _) []
                rw[hdst]
                exact ih (i+1) rest (!b) _ W' h' _ _ W' hl' hv' S2 (λ b o hb=>hle' b o (S1.le0 b o (hle b o hb))) hj' ((put_defers _ _ _).trans hdf)
              rintro e W' ⟨h',hle',hw',(⟨rfl,hj'⟩ | ⟨rfl,hj'⟩)⟩
              · exact⟨_,rfl,next true h' W' hle' hw' hj' htr⟩
              · exact⟨_,rfl,next false h' W' hle' hw' ⟨rest,hj'⟩ hfa⟩
        · exact h.elim
      · split at h
        · rename_i hd
          obtain⟨hs',hk⟩:=zmr.1 h
          refine zmJ (zmD (i:=0) (Q:=Q) (r:=none) (n:=n) hok S hd rfl hs') ?_
          rintro a' w' ⟨hdf',g',σ',hst,S'⟩
          exact ih (i+1) ys q _ w0 h0 g' a' w' hl' (hk σ' hst) (S'.log _) hle hj (hdf'.trans hdf)
        · exact h.elim
    have skp:∀ (σ:St),zcp nt o.dst=true->Sim P nt w0.heap.size w0 h0 g σ a w->zgL P Γ nt l ops lo K ys q (σ.skip o.dst)->wpOpsIn (FR none) n P ops Q (List.range' (i+1) lo.length) (a.put o.dst undef) w:=by
      intro σ hd S h
      exact ih (i+1) ys q _ w0 h0 g _ w hl' h (S.skip hd) hle hj ((put_defers _ _ _).trans hdf)
    simp only[zgL] at h
    split at h
    · rename_i hg
      rw[if_pos (by simp[Region.wanted,hg])]
      exact run σ S h
    · rename_i j want hg
      split at h
      · rename_i gt hd hgt
        split at h
        · rename_i b hb
          have hv:a.tmps.getD gt undef=.bool b:=by
            have:=S.env gt _ hb
            generalize a.tmps.getD gt undef=v at this
            cases this;rfl
          have hy:=zg3 hgt hv
          have S1:∀ c,b=c->Sim P nt w0.heap.size w0 h0 g (σ.setT gt (.bool c)) a w:=by
            intro c hc
            refine S.env' (t:=gt) (d:=.bool c) ?_ (zdM _)
            rw[hv,hc];exact .bool c
          have h2:=zgY.1 h
          cases b with
          | true =>
            have h3:=h2.1 rfl
            cases want with
            | true=>rw[if_pos (by simp[Region.wanted,hg,hy])];exact run _ (S1 true rfl) h3
            | false=>rw[if_neg (by simp[Region.wanted,hg,hy])];exact⟨λ _ _=>trivial,skp _ hd (S1 true rfl) h3⟩
          | false =>
            have h3:=h2.2 rfl
            cases want with
            | true=>rw[if_neg (by simp[Region.wanted,hg,hy])];exact⟨λ _ _=>trivial,skp _ hd (S1 false rfl) h3⟩
            | false=>rw[if_pos (by simp[Region.wanted,hg,hy])];exact run _ (S1 false rfl) h3
        · rename_i hb
          have hv:a.tmps.getD gt undef=undef:=S.env gt _ hb
          have hy:=zgu hgt hv
          rw[if_neg (by simp[Region.wanted,hg,hy])]
          exact⟨λ _ _=>trivial,skp _ hd S h⟩
        · exact h.elim
      · exact h.elim

theorem zAP (hok:OkAll P Γ) (ann:Ann){l:Nat}(hJ:JSt J) (hJx:JSt Jx) (hY:YH P J Jx l){hs:Fz} : ∀ (c:Code) (K:YK) (ys:List (List PA)) (q:Bool) (σ:St) (w0:World) (h0:Fz) (g:Gh) (a:Act) (w:World),
  vcY P Γ ann l c K ys q σ->Sim P ann.nt w0.heap.size w0 h0 g σ a w->Fle hs h0->JQ J Jx q ys h0 w0->a.defers=[]->c.wpIn (FR none) n P (zFI J Jx P ann.nt hs K) a w:=by
 intro c
 induction c with
 | skip=>intro K ys q σ w0 h0 g a w h S hle hj hd;exact wpIn_skip ⟨ys,q,σ,w0,h0,g,h,S,hle,hj,hd⟩
 | region id ops draw =>
  intro K ys q σ w0 h0 g a w h S hle hj hd
  simp only[vcY] at h
  split at h
  ·-- a region that yields
   refine wpIn_region ?_
   have:=zrR (n:=n) hok hJ hJx hY (hs:=hs) (ops:=ops) (Q:=zFI J Jx P ann.nt hs K) (λ ys q σ w0 h0 g a w h S hle hj hd=>?_) ops.toList 0 ys q _ w0 h0 g a w (λ j=>by simp) h (S.log _) hle hj hd
   ·rw [List.range_eq_range']
    simpa using this
   ·split at h
    ·split at h
     ·rename_i s hs'
      obtain⟨g2,S2⟩:=zce hs' S
      exact⟨ys,q,s,w0,h0,g2,h,S2,hle,hj,hd⟩
     ·exact h.elim
    ·exact⟨ys,q,_,w0,h0,g,h,S.log _,hle,hj,hd⟩
  ·exact h.elim
  ·exact zrO (r:=none) (n:=n) hok ann (D:=zET ops.toList) (a0:=a) (λ _ h=>h) h S (Kp.refl _ _) λ g' σ' a' w' hK S' _ hdf=>⟨ys,q,σ',w0,h0,g',hK,S',hle,hj,hdf.trans hd⟩
 | seq x y ihx ihy =>
  intro K ys q σ w0 h0 g a w h S hle hj hd
  refine wpIn_seq (wpIn_mono (ihx _ ys q σ w0 h0 g a w h S hle hj hd) ?_)
  rintro e a' w' ⟨ys',q',σ',w1,h1,g',hK,S',hle',hj',hd'⟩
  cases e with
  | normal =>
   simp only[zUC,zUD] at hK
   split at hK
   ·split at hK
    ·rename_i s hs
     obtain⟨g2,S2⟩:=zce hs S'
     exact ihy K ys' q' s w1 h1 g2 a' w' hK S2 hle' hj' hd'
    ·exact hK.elim
   ·exact ihy K ys' q' σ' w1 h1 g' a' w' hK S' hle' hj' hd'
  | exit id=>exact⟨ys',q',σ',w1,h1,g',hK,S',hle',hj',hd'⟩
  | goto l=>exact⟨ys',q',σ',w1,h1,g',hK,S',hle',hj',hd'⟩
  | ret=>exact⟨ys',q',σ',w1,h1,g',hK,S',hle',hj',hd'⟩
  | panic ch=>exact⟨ys',q',σ',w1,h1,g',hK,S',hle',hj',hd'⟩
  | outgrown=>exact⟨ys',q',σ',w1,h1,g',hK,S',hle',hj',hd'⟩
 | cond c x y ihx ihy =>
  intro K ys q σ w0 h0 g a w h S hle hj hd
  simp only[vcY] at h
  split at h
  ·rename_i t ht
   have hv:=zhQ S ht
   have hS:∀ b,t=b->Sim P ann.nt w0.heap.size w0 h0 g (zyV σ c b) a w:=by
    intro b hb
    cases c with
    | tmp q =>
     refine S.env' (t:=q) (d:=.bool b) ?_ (zdM _)
     have:a.tmps.getD q undef=.bool t:=hv
     rw[this,hb];exact .bool b
    | _=>exact S
   have h2:=zgY.1 h
   refine wpIn_cond hv ?_
   cases t with
   | true=>exact ihx K ys q _ w0 h0 g a w (h2.1 rfl) (hS true rfl) hle hj hd
   | false=>exact ihy K ys q _ w0 h0 g a w (h2.2 rfl) (hS false rfl) hle hj hd
  ·exact h.elim
 | block id b ih =>
  intro K ys q σ w0 h0 g a w h S hle hj hd
  refine wpIn_block (wpIn_mono (ih _ ys q σ w0 h0 g a w h S hle hj hd) ?_)
  rintro e a' w' ⟨ys',q',σ',w1,h1,g',hK,S',hle',hj',hd'⟩
  cases e with
  | exit j =>
   simp only[zlj] at hK
   simp only[Exit.inBlock]
   split at hK
   ·rename_i hj;rw[if_pos (dqc hj)];exact⟨ys',q',σ',w1,h1,g',hK,S',hle',hj',hd'⟩
   ·rename_i hj;rw[if_neg (Nat.ne_of_beq_eq_false hj)];exact⟨ys',q',σ',w1,h1,g',hK,S',hle',hj',hd'⟩
  | normal=>exact⟨ys',q',σ',w1,h1,g',hK,S',hle',hj',hd'⟩
  | goto l=>exact⟨ys',q',σ',w1,h1,g',hK,S',hle',hj',hd'⟩
  | ret=>exact⟨ys',q',σ',w1,h1,g',hK,S',hle',hj',hd'⟩
  | panic ch=>exact⟨ys',q',σ',w1,h1,g',hK,S',hle',hj',hd'⟩
  | outgrown=>exact⟨ys',q',σ',w1,h1,g',hK,S',hle',hj',hd'⟩
 | loop b ih =>
  intro K ys q σ w0 h0 g a w h S hle hj hd
  simp only[vcY] at h
  split at h
  ·rename_i k hk
   split at h
   ·rename_i s hs'
    obtain⟨g1,S1⟩:=zce hs' S
    refine zgw ?_
    have key:=h (λ ys q s=>∀ w0 h0 g a w,Sim P ann.nt w0.heap.size w0 h0 g s a w->Fle hs h0->JQ J Jx q ys h0 w0->a.defers=[]->zuh (FR none) n P b (zFI J Jx P ann.nt hs K) a w) ?_
    ·exact key w0 h0 g1 a w S1 hle hj hd
    ·intro ys q s hs2 w0 h0 g a w S hle hj hd
     refine zgx (wpIn_mono (ih _ ys q s w0 h0 g a w hs2 S hle hj hd) ?_)
     rintro e a' w' ⟨ys',q',σ',w1,h1,g',hK,S',hle',hj',hd'⟩
     cases e with
     | normal =>
      simp only[zyX,hk] at hK
      split at hK
      ·rename_i s2 hs2
       obtain⟨g2,S2⟩:=zce hs2 S'
       exact hK w1 h1 g2 a' w' S2 hle' hj' hd'
      ·exact hK.elim
     | exit id=>exact⟨ys',q',σ',w1,h1,g',hK,S',hle',hj',hd'⟩
     | goto l=>exact⟨ys',q',σ',w1,h1,g',hK,S',hle',hj',hd'⟩
     | ret=>exact⟨ys',q',σ',w1,h1,g',hK,S',hle',hj',hd'⟩
     | panic ch=>exact⟨ys',q',σ',w1,h1,g',hK,S',hle',hj',hd'⟩
     | outgrown=>exact⟨ys',q',σ',w1,h1,g',hK,S',hle',hj',hd'⟩
   ·exact h.elim
  ·split at h
   ·rename_i m k hk
    have key:∀ (m:Nat) (ys:List (List PA)) (q:Bool) (σ:St) (w0:World) (h0:Fz) (g:Gh) (a:Act) (w:World),zE3 P k (vcY P Γ ann l b) m K ys q σ->Sim P ann.nt w0.heap.size w0 h0 g σ a w->Fle hs h0->JQ J Jx q ys h0 w0->a.defers=[] ->
      zuh (FR none) n P b (zFI J Jx P ann.nt hs K) a w:=by
     intro m
     induction m with
     | zero=>intro ys q σ w0 h0 g a w h;exact h.elim
     | succ m ihm =>
      intro ys q σ w0 h0 g a w h S hle hj hd
      simp only[zE3] at h
      split at h
      ·rename_i s hs'
       obtain⟨g1,S1⟩:=zce hs' S
       refine zgx (wpIn_mono (ih _ ys q s w0 h0 g1 a w h S1 hle hj hd) ?_)
       rintro e a' w' ⟨ys',q',σ',w1,h1,g',hK,S',hle',hj',hd'⟩
       cases e with
       | normal=>exact ihm ys' q' σ' w1 h1 g' a' w' hK S' hle' hj' hd'
       | exit id=>exact⟨ys',q',σ',w1,h1,g',hK,S',hle',hj',hd'⟩
       | goto l=>exact⟨ys',q',σ',w1,h1,g',hK,S',hle',hj',hd'⟩
       | ret=>exact⟨ys',q',σ',w1,h1,g',hK,S',hle',hj',hd'⟩
       | panic ch=>exact⟨ys',q',σ',w1,h1,g',hK,S',hle',hj',hd'⟩
       | outgrown=>exact⟨ys',q',σ',w1,h1,g',hK,S',hle',hj',hd'⟩
      ·exact h.elim
    exact zgw (key m ys q σ w0 h0 g a w h S hle hj hd)
   ·exact h.elim
 | exit id=>intro K ys q σ w0 h0 g a w h S hle hj hd;exact wpIn_exit ⟨ys,q,σ,w0,h0,g,h,S,hle,hj,hd⟩
 | scope b ih =>
  intro K ys q σ w0 h0 g a w h S hle hj hd
  refine zoz (wpIn_mono (ih _ ys q σ w0 h0 g a w h S hle hj hd) ?_)
  rintro e a' w' ⟨ys',q',σ',w1,h1,g',hK,S',hle',hj',hd'⟩
  cases e with
  | goto l=>exact hK
  | normal=>exact⟨ys',q',σ',w1,h1,g',hK,S',hle',hj',hd'⟩
  | exit l=>exact⟨ys',q',σ',w1,h1,g',hK,S',hle',hj',hd'⟩
  | ret=>exact⟨ys',q',σ',w1,h1,g',hK,S',hle',hj',hd'⟩
  | panic ch=>exact⟨ys',q',σ',w1,h1,g',hK,S',hle',hj',hd'⟩
  | outgrown=>exact⟨ys',q',σ',w1,h1,g',hK,S',hle',hj',hd'⟩
 | label l=>intro K ys q σ w0 h0 g a w h S hle hj hd;exact wpIn_label ⟨ys,q,σ,w0,h0,g,h,S,hle,hj,hd⟩
 | ret=>intro K ys q σ w0 h0 g a w h S hle hj hd;exact wpIn_ret ⟨ys,q,σ,w0,h0,g,h,S,hle,hj,hd⟩
 | rangeFunc f ps x y _ _=>intro K ys q σ w0 h0 g a w h S;exact h.elim
 | goto l=>intro K ys q σ w0 h0 g a w h S;exact h.elim
 | refuse s=>intro K ys q σ w0 h0 g a w h S;exact h.elim

theorem zFK {G : Ctrs} (hok : OkAll P G) {f : FuncId} {C : List PA → Option (Prop × List (List PA))} (hc : zaj P f)
    (h:∀ l caps safe ys,C caps=some (safe,ys)->safe->∃ memo vv ann,vcIter P { G with memo:=memo,vv:=vv } ann f l caps ys):zE5 P f C:=by
  intro caps safe ys hC hsafe l J Jx w h0 vs hJ hJx hgl hY hj0 hvs hfz
  refine⟨hc,?_⟩
  obtain⟨memo,vv,ann,hv⟩:=h l caps safe ys hC hsafe
  unfold vcIter at hv
  split at hv
  · rename_i fn hfn
    split at hv
    · rename_i c hbody
      split at hv
      · rename_i hnt
        simp only[dqm,Nat.ble_eq] at hnt
        obtain⟨⟨hnt,hlen⟩,hres⟩:=hnt
        have S:=zrP (P:=P) (args:=.one (.yl l) :: caps) (vs:=.func (.yield l) #[] #[] :: vs) (h0:=h0) (w:=w) (dqc hnt) (by simpa using hlen) ⟨.yl l,hvs⟩ hfz hgl
        have hwp:=zAP (n:=0) (Γ:={ G with memo:=memo,vv:=vv }) (J:=J) (Jx:=Jx) (hs:=h0) ⟨hok.mt,hok.fn,hok.own,hok.it⟩ ann (l:=l) hJ hJx hY c _ ys false _ w h0 _ _ w hv S (λ _ _ h=>h) hj0 rfl
        refine (callsIn_wide (n:=0)).1 ?_
        refine callsIn_of_wp (F:=FR none) hfn hbody trivial (wpIn_mono hwp ?_)
        rintro e a' w' ⟨ys',q',σ',w1,h1,g',hK,S',hle,hj,hd⟩
        have fin:zRK ys' q'->a'.defers=[]/\∃ v,(results fn a'.tmps).run P w'=.ok v w'/\∃ v2 h',Ending.returned v=.returned v2/\Fle h0 h'/\Hw h' w'/\(J [] h' w'\/∃ rest,Jx rest h' w'):=by
          intro hf
          have hr:fn.results = #[]:=by simpa using hres
          refine⟨hd,.tuple #[],?_,_,g'.h,rfl,λ b o hb=>S'.le0 b o (hle b o hb),S'.hw,?_⟩
          · simp[results,hr]
          · have := hj.later hJ hJx S'
            cases q' with
            | false=>simp only[zRK] at hf;subst hf;exact .inl this
            | true=>exact .inr this
        cases e with
        | normal=>exact fin hK
        | ret=>exact fin hK
        | exit id=>exact hK.elim
        | goto l=>exact hK.elim
        | panic ch=>exact hK.elim
        | outgrown=>exact hK.elim
      · exact hv.elim
    · exact hv.elim
  · exact hv.elim

def zUF (P:Program) (fn:Func) (e s b n:Nat) (get:Nat->List PV):Exit->St->Prop:=λ ex σ =>
 (match ex with | .normal=>True | .ret=>True | _=>False)/\match fn.results.toList with
 | [.tmp t]=>match lk σ.env t with
  | some (.one (.c (.vec L)))=>match lk σ.objs L with
   | some (.vec e' s' b' n' get')=>e'=e/\s'=s/\b'=b/\n'=n/\∀ i,i < n->get' i=get i
   | _=>False
  | some (.one (.c (.p .nils)))=>n=0
  | _=>False
 | _=>False
def zum (P:Program) (Γ:Ctrs) (ann:Ann) (f:FuncId) (args:List PA) (e s b n:Nat) (get:Nat->List PV):Prop :=
 match P.funcs[f]? with
 | some fn=>match fn.body with
  | some c=>match Nat.beq ann.nt fn.ntmps && Nat.ble args.length ann.nt with
   | true=>vc P Γ ann c (zUF P fn e s b n get) ⟨zg0 0 args,[],[]⟩
   | false=>False
  | none=>False
 | none=>False

theorem zun {G : Ctrs} (hok : OkAll P G) {f : FuncId} {e s b : Nat} (hc : zaj P f)
    (h:∀ n get,n * b<=140737488355328->n<=9223372036854775807->∃ memo vv ann,zum P { G with memo:=memo,vv:=vv } ann f [.one (.sl n s get)] e s b n get):zq6 P f (.clone e s b):=by
  intro w h0 v n get hv hfz hgl h1 h2
  refine⟨hc,?_⟩
  obtain⟨memo,vv,ann,hv'⟩:=h n get h1 h2
  unfold zum at hv'
  split at hv'
  · rename_i fn hfn
    split at hv'
    · rename_i c hbody
      split at hv'
      · rename_i hnt
        simp only[dqm,Nat.ble_eq] at hnt
        refine zrQ (G:={ G with memo:=memo,vv:=vv }) ⟨hok.mt,hok.fn,hok.own,hok.it⟩ (Kx:=λ fn=>zUF P fn e s b n get) (vs:=[v]) hfn hbody (dqc hnt.1) hnt.2 hv' ⟨hv,trivial⟩ hfz hgl ?_
        intro ex σ' g' a' w' hK' S'
        obtain⟨hex,hK'⟩:=hK'
        refine⟨by cases ex <;> first | exact .inl rfl | exact .inr rfl | exact hex.elim,?_⟩
        split at hK'
        · rename_i t hres
          have hr:fn.results = #[.tmp t]:=by rw[<- Array.toArray_toList (xs:=fn.results),hres]
          have hrun:(results fn a'.tmps).run P w'=.ok (a'.tmps.getD t undef) w':=by
            simp only[results,hr]
            simp
          split at hK'
          · rename_i L hL
            split at hK'
            · rename_i e' s' b' n' get' hob
              obtain⟨rfl,rfl,rfl,rfl,hg⟩:=hK'
              have hvt:=S'.env t _ hL
              obtain⟨hvt,hone⟩:=hvt
              refine⟨_,hrun,g'.h,g'.sv L,by rw[hvt],by rw[<- hvt];exact hone,?_,λ k hk=>(S'.own L _ k hob hk).2,S'.below,S'.le0,S'.hw,S'.hn⟩
              obtain⟨_,_,xs,hxs,hr⟩:=S'.obj L _ hob
              exact⟨xs,hxs,λ i hi=>by rw[<- hg i hi];exact hr i hi⟩
            · exact hK'.elim
          · rename_i hL
            subst hK'
            have hvt:a'.tmps.getD t undef=.slice none 0 0:=zhR (S'.env t _ hL)
            exact⟨_,hrun,g'.h,.slice none 0 0,by rw[hvt],rfl,⟨[],World.ownsRow_nil w' _ e s,λ i hi=>absurd hi (by omega)⟩,λ k hk=>(by simp[Value.ownBlock] at hk),S'.below,S'.le0,S'.hw,S'.hn⟩
          · exact hK'.elim
        · exact hK'.elim
      · exact hv'.elim
    · exact hv'.elim
  · exact hv'.elim

end
end Go.Pm
namespace Go.Pm
open Go.RowKit (Below)

section
variable (P:Program)
def zJt (σ : St) : List ResultVar → Option (List PA × List (Nat × AO))
  | []=>some ([],[])
  | .tmp t :: r=>match lk σ.env t with
    | some d=>match ztw (lk σ.objs) d,zJt σ r with
      | some (x,u),some (l,us)=>some (x :: l,u ++ us)
      | _,_=>none
    | none=>none
  | .cell t ty :: r=>match lk σ.env t,zf3 P ty,szT P ty with
    | some (.one (.c (.ptr L off))),some g,some n=>match lk σ.objs L with
      | some (.box _ cells)=>match zh7 g n cells off with
        | some d=>match ztw (lk σ.objs) (.one d),zJt σ r with
          | some (x,u),some (l,us)=>some (x :: l,u ++ us)
          | _,_=>none
        | none=>none
      | _=>none
    | _,_,_=>none
def zSh (ob : Nat → Option AO) (env : List (Nat × DV)) : Nat → List XA → Option (List XA × List Nat)
  | _,[]=>some ([],[])
  | i,.d a :: r=>match zSh ob env (i+1) r with
    | some (ys,ls)=>some (.d a :: ys,ls)
    | none=>none
  | i,.box _ _ :: r=>match lk env i,zSh ob env (i+1) r with
    | some (.one (.c (.ptr L 0))),some (ys,ls)=>match zty ob (.one (.c (.ptr L 0))) with
      | some (y,l,_)=>some (y :: ys,l ++ ls)
      | none=>none
    | _,_=>none
def zSe (fn:Func) (xs:List XA) (K:List PA->List XA->Prop) (σ:St):Prop :=
 match zJt P σ fn.results.toList with
 | some (l,u)=>match zSh (lk (u ++ σ.objs)) σ.env 0 xs with
  | some (ys,ls)=>match zq1 ls with
   | true=>K l ys
   | false=>False
  | none=>False
 | none=>False
end

section
variable {P:Program}{Γ:Ctrs}

section start
variable {h:Fz}{w:World}{B:Nat}{g:Gh}(hle:∀ p x,Rep h p x->Rep g.h p x)
include hle
end start

def pinned (h:Fz) (K:List Nat) (w:World):Fz:=λ b =>
 match h b with
 | some (.inv F)=>some (.inv F)
 | some (.fz (.cells C ty fr))=>some (.fz (.cells C ty fr))
 | some (.fz (.map es c))=>some (.fz (.map es c))
 | _=>match K.contains b with
  | true=>none
  | false=>(w.heap[b]?).map .pin
end
end Go.Pm
