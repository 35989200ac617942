/- Part 3 of what the proof rests on: a machine that runs functions of the program on pure values, proved sound; the functions that the law reaches, what they compute, and plain laws of that. -/
import Derived.Test.YtjkijdhdbhooiaaGreatQ2
import Derived.OrdersIn
import Derived.RangeFuncNested
import Derived.Test.YtjkijdhdbhooiaaGreatProg
import Derived.Tactics
import Derived.Tactics2
import Derived.Recover
import Derived.RecoverIn
import Derived.TacticsInMore
import Derived.ProofKit
import Derived.Deep.Slices
import Derived.OpenShut
set_option linter.all false
noncomputable section
namespace Go.Pm
variable [aJ]
open Go.RowKit (Below)

section
variable {P:Program}{Γ:aX}{nt B:Nat}{w0:World}{h0:Fz}{g:Gh}{σ:St}{a:Act}{w:World}{r:Option Nat}{n i:Nat}{Q:Exit->Act->World->Prop}{ops:Array Oper}

theorem TQ {K:St->Prop}(hK:∀ σ τ,xx σ τ->K σ->K τ):∀ (l:List Oper) (i:Nat) (σ:St),(∀ j,l[j]? = ops[i+j]?)->iJ P Γ nt ops i l K σ->ug P Γ nt ops (List.range' i l.length) K σ:=by
 intro l
 induction l with
 | nil=>intro i σ _ h;exact h
 | cons o l ih =>
  intro i σ hl h;have ho:ops[i]? = some o:=by have:=hl 0;simpa using this.symm
  have hl':∀ j,l[j]? = ops[i+1+j]?:=λ j=>by have:=hl (j+1);rw[SC] at this;rw[this];congr 1;omega
  rw[Oi,List.range'_succ];simp only[iJ] at h;split at h
  ·exact h.elim
  ·rename_i hd;have one:∀ τ:St,kN ops τ.env o=some true->kH (act P Γ o (eH τ.env) (lk τ.aB)) (lL τ i o) i o.dst (iJ P Γ nt ops (i+1) l K) τ->ug P Γ nt ops (i :: List.range' (i+1) l.length) K τ:=by
    intro τ hw hv;simp only[ug,ho];have e1:qK P Γ nt ops τ o=act P Γ o (eH τ.env) (lk τ.aB):=by unfold qK;rw[hd,hw]
    have e2:ni ops τ i o=lL τ i o:=by funext fp kl;unfold ni;rw[hw]
    rw[e1,e2];rw[jJ] at hv ⊢;exact⟨hv.1,λ d hd=>ih (i+1) _ hl' (hv.2 d hd)⟩
   have two:∀ τ:St,kN ops τ.env o=some false->iJ P Γ nt ops (i+1) l K (τ.skip o.dst)->ug P Γ nt ops (i :: List.range' (i+1) l.length) K τ:=by
    intro τ hw hv;simp only[ug,ho];have e1:qK P Γ nt ops τ o=.val [] (.cl .undef) [] []:=by unfold qK;rw[hd,hw]
    have e2:ni ops τ i o=λ _ _=>[]:=by funext fp kl;unfold ni;rw[hw]
    rw[e1,e2];change ug P Γ nt ops (List.range' (i+1) l.length) K ((τ.upd i o.dst [] (.cl .undef) [] []).relog []);have e3:(τ.upd i o.dst [] (.cl .undef) [] []).relog []=τ.skip o.dst:=by cases o.dst <;> rfl
    rw[e3];exact ih (i+1) _ hl' hv
   split at h
   ·rename_i hg;exact one σ (by unfold kN;rw[hg]) h
   ·rename_i j want hg;split at h
    ·exact h.elim
    ·rename_i gt hgt;have wt:∀ b,kN ops (σ.setT gt (.bool b)).env o=some (b == want):=λ b=>by
      unfold kN;rw[hg];simp only[hgt];rw[show lk (σ.setT gt (.bool b)).env gt=some (.bool b) by simp[St.setT,aV]]
     split at h
     ·rename_i b hb;have eq:∀ c,b=c->xx (σ.setT gt (.bool c)) σ:=λ c hc=>⟨λ t=>by
       simp only[St.setT,aV];split
       ·rename_i e;subst e;rw[hb,hc]
       ·rfl,λ _=>rfl,λ _=>Iff.rfl⟩
      have h2:=mX.1 h;refine Dx hK _ _ _ (eq b rfl) ?_;cases b with
      | true =>
       have h3:=h2.1 rfl;cases want with
       | true=>exact one _ (wt true) h3
       | false=>exact two _ (wt true) h3
      | false =>
       have h3:=h2.2 rfl;cases want with
       | true=>exact two _ (wt false) h3
       | false=>exact one _ (wt false) h3
     ·rename_i hb;refine two σ ?_ h;unfold kN;rw[hg];simp only[hgt];rw[hb]
     ·exact h.elim

theorem zn0 (hok : iE P Γ) {K : St → Prop} {l : List Nat} {R : Act → World → Prop} {D : List Nat} {a0 : Act} {ad : List Deferred} (hD : ∀ (j : Nat) (o : Oper), ops[j]? = some o → ∀ t, o.dst = some t → t ∈ D)
    (hv:ug P Γ nt ops (i :: l) K σ) (S:bU P nt B w0 h0 g σ a w) (hkp:Kp D a0 a) (had:a.defers=ad)
    (hR:∀ σ' g' a' w',ug P Γ nt ops l K σ'->bU P nt B w0 h0 g' σ' a' w'->Kp D a0 a'->a'.defers=ad->R a' w'):wpOpIn (FR r) n P ops Q i R a w:=by
  simp only[ug] at hv;unfold wpOpIn;split at hv
  · rename_i ho;rw[ho];exact hR σ g a w hv S hkp had
  · rename_i o ho;rw[ho];simp only;obtain⟨hs,hk⟩:=Aa.1 hv;have wnt:∀ b,kN ops σ.env o=some b->Region.wanted o (yielded ops a.tmps)=b:=by
      intro b hw;unfold kN at hw;split at hw
      · rename_i hg;simp only[bJ] at hw;subst hw;simp[Region.wanted,hg]
      · rename_i j want hg;split at hw
        · cases hw
        · rename_i gt hgt;split at hw
          · rename_i c hb;simp only[bJ] at hw;subst hw;have hvv:a.tmps.getD gt undef=.bool c:=by
              have:=S.env gt _ hb;generalize a.tmps.getD gt undef=v at this;cases this;rfl
            simp[Region.wanted,hg,rU hgt hvv]
          · rename_i hb;simp only[bJ] at hw;subst hw;have hvv:a.tmps.getD gt undef=undef:=S.env gt _ hb;simp[Region.wanted,hg,pM hgt hvv]
          · cases hw
    generalize hA:qK P Γ nt ops σ o=A at hs hk;have hA':=hA;unfold qK at hA;split at hA
    · rename_i hd hw;rw[if_pos (wnt true hw)];refine Lu (TF (Ai (i:=i) (Q:=Q) (r:=r) (n:=n) hok S hd hA hs)) ?_;rintro a' w' ⟨⟨hdf,g',σ',hst,S'⟩,v,ds,rfl⟩;exact hR _ g' _ w' (hk σ' hst) (S'.log _) (hkp.put (hD i o ho) v ds ((put_defers _ _ _).symm.trans hdf)) (hdf.trans had)
    · rename_i hd hw;rw[if_neg (by rw[wnt false hw];simp)];refine⟨λ _ _=>trivial,?_⟩;subst hA;refine hR _ g _ w (hk _ rfl) ?_ (hkp.put (hD i o ho) undef a.defers rfl) ((put_defers _ _ _).trans had);have:=S.skip hd;have e:(σ.upd i o.dst [] (.cl .undef) [] [])=σ.skip o.dst:=by cases o.dst <;> rfl
      rw[e];exact this.log _
    · subst hA;exact hs.elim

theorem Kq {K : St → Prop} {i : Nat} {oi : Oper} {l2 : List Nat} (hi : ops[i]? = some oi) (hE : ∀ σ τ, xx σ τ → K σ → K τ) {R : List (Nat × Nat × Nat) → Prop} (hR : ∀ l m, (∀ x ∈ l, x ∈ m) → R m → R l) (hK : ∀ σ, K σ → R σ.log) :
  ∀ (l1:List Nat) (σ:St),(∀ p∈l1,(∀ log,R log->yH log p i)/\∀ op,ops[p]? = some op->Ei ops op oi=false) ->
   ug P Γ nt ops (l1 ++ i :: l2) K σ->ug P Γ nt ops (i :: (l1 ++ l2)) K σ
 | [],σ,_,h=>h
 | p :: l1,σ,hp,h=>by
  have h1:ug P Γ nt ops (p :: i :: (l1 ++ l2)) K σ:=wM (λ σ h=>Kq hi hE hR hK l1 σ (λ q hq=>hp q (je _ hq)) h) h;obtain⟨hN,hT⟩:=hp p kR;cases hop:ops[p]? with
  | none =>
   have e:∀ l σ,ug P Γ nt ops (p :: l) K σ↔ug P Γ nt ops l K σ:=λ l σ=>by simp only[ug,hop]
   have h2:=(e _ _).1 h1;exact wM (λ τ h=>(e _ _).2 h) h2
  | some op =>
   exact zcx hop hi (hT op hop) (λ τ τ' he hv=>Dx hE _ _ _ he hv) (λ τ hv=>hN _ (LW hR hK _ _ hv)) h1

theorem BV {ms:List Nat}{S:Nat->Prop}{p:Nat} : ∀ (es:List Edge),(∀ e∈es,Region.binds .any e=true->S e.on) ->
  (∀ k m,ms[k]? = some m->S k->m.testBit p=true->S p)->(wY ms es).testBit p=true->S p
 | [],_,_,h=>by simp[wY] at h
 | e :: r,he,hm,h=>by
  have ih:=BV (ms:=ms) (p:=p) r (λ e' h'=>he e' (je _ h')) hm;simp only[wY] at h;split at h
  ·rename_i m hb hms;have hS:=he e kR hb;rw[Nat.testBit_or,Nat.testBit_or,Bool.or_eq_true,Bool.or_eq_true] at h;rcases h with (h | h) | h
   ·rw [Nat.testBit_two_pow] at h;have:e.on=p:=of_decide_eq_true h;rw[<- this];exact hS
   ·exact hm _ _ hms hS h
   ·exact ih h
  ·exact ih h

theorem FM {S:Nat->Prop}{p:Nat}(hcl:∀ (k:Nat) (o:Oper),ops[k]? = some o->S k->∀ e∈o.after,Region.binds .any e=true->S e.on):∀ (l:List Oper) (ms:List Nat),(∀ j,l[j]? = ops[ms.length+j]?) ->
  (∀ (k:Nat) (o:Oper) (m:Nat),ops[k]? = some o->ms[k]? = some m->(∀ e∈o.after,Region.binds .any e=true->S e.on)->m.testBit p=true->S p) ->
  ∀ (k:Nat) (o:Oper) (m:Nat),ops[k]? = some o->(masks l ms)[k]? = some m->(∀ e∈o.after,Region.binds .any e=true->S e.on)->m.testBit p=true->S p
 | [],ms,_,h=>h
 | o :: r,ms,hl,h=>by
  have ho:ops[ms.length]? = some o:=by have:=hl 0;simpa using this.symm
  simp only[masks];refine FM hcl r (ms ++ [wY ms o.after.toList]) (λ j=>by have:=hl (j+1);rw[SC] at this;rw[this,RY];congr 1;simp;omega) ?_;intro k ok m hk hm he hb;rw[List.getElem?_append] at hm;split at hm
  ·exact h k ok m hk hm he hb
  ·rename_i hlt;have hk':k=ms.length:=by
    rcases Nat.lt_or_ge k (ms.length+1) with h1 | h1
    ·omega
    ·rw[dqM (by simp;omega)] at hm;cases hm
   subst hk';rw[ho] at hk;simp only[bJ] at hk;subst hk;simp only[Nat.sub_self,List.getElem?_cons_zero,bJ] at hm;subst hm;refine BV _ (λ e h'=>he e (by simpa using h')) (λ k' m' hm' hS hb'=>?_) hb;have hlt':k' < ms.length:=by
    rcases Nat.lt_or_ge k' ms.length with h1 | h1
    ·exact h1
    ·rw[dqM h1] at hm';cases hm'
   cases hok:ops[k']? with
   | some ok'=>exact h k' ok' m' hok hm' (hcl k' ok' hok hS) hb'
   | none =>
    have hlen:ms.length < ops.size:=by
     rcases Nat.lt_or_ge ms.length ops.size with h1 | h1
     ·exact h1
     ·rw[Array.getElem?_eq_none h1] at ho;cases ho
    rw[Array.getElem?_eq_none_iff] at hok;omega

def tY (ms:List Nat) (log:List (Nat×Nat×Nat)):Prop:=qy ms log=true
theorem tY.sub {ms:List Nat}(l m:List (Nat×Nat×Nat)) (h:∀ x∈l,x∈m) (hm:tY ms m):tY ms l:=by
 simp only[tY,qy,List.all_eq_true] at hm ⊢;exact λ x hx y hy=>hm x (h x hx) y (h y hy)
theorem tY.no {ms:List Nat}{log:List (Nat×Nat×Nat)}(h:tY ms log){p i:Nat}(hpi:p < i) (hb:∀ m,ms[i]? = some m->m.testBit p=false):yH log p i:=by
 intro L k m h1 h2;simp only[tY,qy,List.all_eq_true] at h;have:=h _ h1 _ h2;simp only[Bool.or_eq_true,Bool.not_eq_true'] at this;rcases this with ((h3 | h3) | h3) | h3
 ·rw[show Nat.blt p i=true from by simpa [Nat.blt_eq] using hpi] at h3;cases h3
 ·rw[show Nat.beq L L=true from by simp] at h3;cases h3
 ·exact h3
 ·split at h3
  ·rename_i m' hm';rw[hb m' hm'] at h3;cases h3
  ·cases h3

def Ol (ops:Array Oper) (listed:Array Bool):List Nat:=(List.range ops.size).filter λ k=>!listed.getD k true

theorem Aq {listed:Array Bool} : i∈Region.ready .any ops listed↔i∈Ol ops listed/\∃ o,ops[i]? = some o/\∀ e∈o.after,Region.binds .any e=true->listed.getD e.on false=true:=by
 simp only[Region.ready,Ol,List.mem_filter,fE];constructor
 ·rintro ⟨h1, h2, h3⟩;refine⟨⟨h1,h2⟩,?_⟩;cases ho:ops[i]? with
  | none=>rw[ho] at h3;simp at h3
  | some o =>
   rw[ho] at h3;simp only[Option.map_some,Option.getD_some,Array.all_eq_true_iff_forall_mem,Bool.or_eq_true,Bool.not_eq_true'] at h3;refine⟨o,rfl,λ e he hb=>?_⟩;rcases h3 e he with h | h
   ·rw[hb] at h;cases h
   ·exact h
 ·rintro ⟨⟨h1, h2⟩, o, ho, h3⟩;refine⟨h1,h2,?_⟩;rw[ho];simp only[Option.map_some,Option.getD_some,Array.all_eq_true_iff_forall_mem,Bool.or_eq_true,Bool.not_eq_true'];intro e he;cases hb:Region.binds .any e with
  | false=>exact .inl rfl
  | true=>exact .inr (h3 e he hb)

theorem PW {listed:Array Bool}{i k:Nat}{b:Bool} : (listed.setIfInBounds i true).getD k b=if k=i/\k < listed.size then true else listed.getD k b:=by
 rw[rE,rE,Array.getElem?_setIfInBounds];by_cases h:i=k
 ·subst h;by_cases hs:i < listed.size
  ·simp[hs]
  ·simp[hs]
 ·rw[if_neg h,if_neg (by omega)]

theorem zhm {listed:Array Bool}(hsz:listed.size=ops.size):Ol ops (listed.setIfInBounds i true)=(Ol ops listed).filter λ k=>!(k == i):=by
 unfold Ol;rw[List.filter_filter];refine List.filter_congr λ k hk=>?_;have hk:=List.mem_range.1 hk;rw[PW];by_cases h:k=i
 ·subst h;rw[if_pos ⟨rfl,by omega⟩];simp
 ·rw[if_neg (λ h'=>h h'.1)];simp[h]

theorem zhn (hok : iE P Γ) {K : St → Prop} {D : List Nat} {a0 : Act} {ad : List Deferred} (hD : ∀ (j : Nat) (o : Oper), ops[j]? = some o → ∀ t, o.dst = some t → t ∈ D) (hE : ∀ σ τ, xx σ τ → K σ → K τ) (hlow : Ej ops = true) (hT : wZ ops (masks ops.toList []) = true)
    (hL:∀ σ,K σ->tY (masks ops.toList []) σ.log) (hQ:∀ σ',K σ'->∀ g' a' w',bU P nt B w0 h0 g' σ' a' w'->Kp D a0 a'->a'.defers=ad->Q .normal a' w') :
    ∀ (fuel:Nat) (listed:Array Bool) (σ:St) (g:Gh) (a:Act) (w:World),listed.size=ops.size->(Ol ops listed).length<=fuel ->
      (∀ k o,ops[k]? = some o->listed.getD k false=true->∀ e∈o.after,Region.binds .any e=true->listed.getD e.on false=true) ->
      ug P Γ nt ops (Ol ops listed) K σ->bU P nt B w0 h0 g σ a w->Kp D a0 a->a.defers=ad->wpAnyIn (FR r) n P .any ops Q fuel listed a w:=by
  -- if nothing is ready, nothing is left
  have stuck:∀ listed:Array Bool,Region.ready .any ops listed=[]->Ol ops listed=[]:=by
    intro listed hr;cases hu:Ol ops listed with
    | nil=>rfl
    | cons i rest =>
      exfalso;have hi:i∈Ol ops listed:=by rw[hu];exact kR
      have hsz:i < ops.size:=List.mem_range.1 (List.mem_filter.1 hi).1;have hsort:(Ol ops listed).Pairwise (· < ·):=List.Pairwise.filter _ List.pairwise_lt_range;have:i∈Region.ready .any ops listed:=by
        refine Aq.2 ⟨hi,ops[i],Array.getElem?_eq_getElem hsz,λ e he hb=>?_⟩;simp only[Ej,List.all_eq_true] at hlow;have h1:=hlow i (List.mem_range.2 hsz);rw[Array.getElem?_eq_getElem hsz] at h1;simp only[List.all_eq_true,Bool.or_eq_true,Bool.not_eq_true'] at h1;have h2:e.on < i:=by
          rcases h1 e (by simpa using he) with h | h
          · rw[hb] at h;cases h
          · simpa [Nat.blt_eq] using h
        cases hl:listed.getD e.on false with
        | true=>rfl
        | false =>
          exfalso;have hmem:e.on∈Ol ops listed\/listed.getD e.on true=true:=by
            cases hl2:listed.getD e.on true with
            | true=>exact .inr rfl
            | false=>exact .inl (List.mem_filter.2 ⟨List.mem_range.2 (by omega),by rw[hl2];rfl⟩)
          rw[hu] at hmem hsort;rcases hmem with hmem | hmem
          · rcases jf.1 hmem with h | h
            · omega
            · have:=(List.pairwise_cons.1 hsort).1 _ h;omega
          · -- then it lies outside
            rw[rE] at hl hmem;have hout:listed[e.on]? = none:=by
              cases hx:listed[e.on]? with
              | none=>rfl
              | some b=>rw[hx] at hl hmem;simp at hl hmem;rw[hl] at hmem;cases hmem
            have hi2:listed.getD i true=true:=by
              rw[Array.getElem?_eq_none_iff] at hout;rw[rE,Array.getElem?_eq_none (by omega)];rfl
            have:=(List.mem_filter.1 hi).2;rw[hi2] at this;cases this
      rw[hr] at this;simp at this
  intro fuel
  induction fuel with
  | zero =>
    intro listed σ g a w hsz hf hcl hv S hkp had;have hnil:Ol ops listed=[]:=List.eq_nil_of_length_eq_zero (by omega);refine⟨?_,?_⟩
    · cases hr:Region.ready .any ops listed with
      | nil=>rfl
      | cons i l =>
        have:=(Aq (i:=i) (ops:=ops) (listed:=listed)).1 (by rw[hr];exact kR);rw[hnil] at this;simp at this
    · rw [hnil] at hv;exact hQ σ hv g a w S hkp had
  | succ fuel ih =>
    intro listed σ g a w hsz hf hcl hv S hkp had;refine⟨λ hr=>?_,λ i hi=>?_⟩
    · have hnil := stuck listed hr;rw[hnil] at hv;exact hQ σ hv g a w S hkp had
    · obtain ⟨hu, oi, hoi, hed⟩ := Aq.1 hi;have hil:i < ops.size:=List.mem_range.1 (List.mem_filter.1 hu).1;have hsort:(Ol ops listed).Pairwise (· < ·):=List.Pairwise.filter _ List.pairwise_lt_range;obtain⟨l1,l2,hl⟩:=List.append_of_mem hu;rw[hl] at hsort hv;have hlt:∀ p∈l1,p < i:=λ p hp=>(List.pairwise_append.1 hsort).2.2 p hp i kR;have hgt:∀ p∈l2,i < p:=λ p hp=>(List.pairwise_cons.1 (List.pairwise_append.1 hsort).2.1).1 p hp;have hset:Ol ops (listed.setIfInBounds i true)=l1 ++ l2:=by
        rw[zhm hsz,hl,List.filter_append,List.filter_cons];rw[if_neg (by simp),List.filter_eq_self.2 λ p hp=>by have:=hlt p hp;simp;omega,List.filter_eq_self.2 λ p hp=>by have:=hgt p hp;simp;omega]
      have bits:∀ p∈l1,∀ m,(masks ops.toList [])[i]? = some m->m.testBit p=false:=by
        intro p hp m hm;cases hb:m.testBit p with
        | false=>rfl
        | true =>
          exfalso;have:=FM (S:=λ k=>listed.getD k false=true) (p:=p) (ops:=ops) (λ k o ho hS=>hcl k o ho hS) ops.toList [] (λ j=>by simp) (λ k o m _ hm=>by simp at hm) i oi m hoi hm hed hb;have hpu:p∈Ol ops listed:=by rw[hl];exact dL.2 (.inl hp)
          have h2:=(List.mem_filter.1 hpu).2;rw[rE] at this h2;cases hx:listed[p]? with
          | none=>rw[hx] at this;simp at this
          | some b=>rw[hx] at this h2;simp at this h2;rw[this] at h2;cases h2
      have zn1:=Kq hoi hE (R:=tY (masks ops.toList [])) tY.sub hL l1 σ (λ p hp=>⟨λ log zDK=>zDK.no (hlt p hp) (bits p hp),λ op hop=>?_⟩) hv
      · refine zn0 hok hD zn1 S hkp had fun σ' g' a' w' hv' S' zDL zDM => ?_;refine ih (listed.setIfInBounds i true) σ' g' a' w' (by simpa using hsz) ?_ ?_ ?_ S' zDL zDM
        · rw [hset];rw[hl] at hf;simp only[RY,Oi] at hf ⊢;omega
        · intro k o hk hlk e he hb;rw[PW] at hlk ⊢;split at hlk
          · rename_i hki;rw[hki.1,hoi] at hk;simp only[bJ] at hk;subst hk;have:=hed e he hb;split
            · rfl
            · exact this
          · have := hcl k o hk hlk e he hb;split
            · rfl
            · exact this
        · rw[hset];exact hv'
      · simp only [wZ, List.all_eq_true] at hT;have h1:=hT i (List.mem_range.2 hil) p (List.mem_range.2 (hlt p hp));rw[hop,hoi] at h1;cases hm:(masks ops.toList [])[i]? with
        | none=>rw[hm] at h1;simp at h1
        | some m =>
          rw[hm] at h1;simp only[Bool.or_eq_true,Bool.not_eq_true'] at h1;rcases h1 with h | h
          · exact h
          · rw[bits p hp m hm] at h;cases h

theorem bU.drew (S:bU P nt B w0 h0 g σ a w):bU P nt B w0 h0 g σ a { w with drawn:=w.drawn+1 }:=by
 refine { S with obj:=λ L o h=>?_,below:=?_,hw:=S.hw,bs:=S.bs }
 ·have := S.obj L o h;cases o <;> exact this
 ·exact S.below.drew

theorem TR (hok : iE P Γ) {K : St → Prop} {D : List Nat} {a0 : Act} (hD : ∀ (j : Nat) (o : Oper), ops[j]? = some o → ∀ t, o.dst = some t → t ∈ D) (hkp : Kp D a0 a) (hm : P.follows .mixedOrders = true) (hlow : Ej ops = true) (hT : wZ ops (masks ops.toList []) = true) (hE : ∀ σ τ, xx σ τ → K σ → K τ)
    (h:iJ P Γ nt ops 0 ops.toList (λ σ'=>match qy (masks ops.toList []) σ'.log with
      | true=>K σ'
      | false=>False) σ) (S:bU P nt B w0 h0 g σ a w)
    (hQ:∀ σ',K σ'->∀ g' a' w',bU P nt B w0 h0 g' σ' a' w'->Kp D a0 a'->a'.defers=a.defers->Q .normal a' w') {id:Nat} : (Code.region id ops true).wpIn (FR r) n P Q a w:=by
  refine wpIn_region_any hm ?_;have hE':∀ σ τ:St,xx σ τ->(match qy (masks ops.toList []) σ.log with | true=>K σ | false=>False)->(match qy (masks ops.toList []) τ.log with | true=>K τ | false=>False):=by
    intro σ τ he hσ;split at hσ
    · rename_i hl;have:tY (masks ops.toList []) τ.log:=tY.sub _ _ (λ x hx=>(he.log x).2 hx) hl;rw[show qy (masks ops.toList []) τ.log=true from this];exact hE σ τ he hσ
    · exact hσ.elim
  have hun:Ol ops (Array.replicate ops.size false)=List.range ops.size:=by
    unfold Ol;refine List.filter_eq_self.2 λ k hk=>?_;have:=List.mem_range.1 hk;simp[rE,this]
  refine zhn hok hD (K:=λ σ'=>match qy (masks ops.toList []) σ'.log with | true=>K σ' | false=>False) hE' hlow hT (λ σ hσ=>?_) (λ σ' hσ=>?_) ops.size _ σ g a _ (by simp) ?_ ?_ ?_ S.drew hkp rfl
  · split at hσ
    · assumption
    · exact hσ.elim
  · split at hσ
    · exact hQ σ' hσ
    · exact hσ.elim
  · rw[hun];simp
  · intro k o _ hk;rw[rE] at hk;by_cases hks:k < ops.size
    · simp[hks] at hk
    · rw[Array.getElem?_eq_none (by simp;omega)] at hk;simp at hk
  · rw [hun];have:=TQ hE' ops.toList 0 σ (λ j=>by simp) h;rw[List.range_eq_range'];simpa using this
end
end Go.Pm
namespace Go.Pm
variable [aJ]
open Go.RowKit (Below)

def PX (h h':Fz):Prop:=∀ b o,h b=some o->(∃ C ty fr,o=.fz (.cells C ty fr))->h' b=some o
theorem iP.c {h h':Fz}(hl:iP h h'):PX h h':=λ b o hb _=>hl b o hb

section
variable {P:Program}{Γ:aX}{nt B:Nat}{w0:World}{h0:Fz}{g:Gh}{σ:St}{a:Act}{w:World}{r:Option Nat}{n i:Nat}{Q:Exit->Act->World->Prop}

abbrev Gh.re (g:Gh) (h:Fz):Gh:=⟨h,g.bk,g.sv,g.iv⟩

theorem zcz {h:Fz}(hl:PX g.h h){c:Cl}{x:Value}(hc:gJ g c x):gJ (g.re h) c x:=by
 cases c with
 | p v=>exact Rep.mono' hl hc
 | clo f caps=>obtain⟨cv,e,hr⟩:=hc;exact⟨cv,e,mY (λ _ _ hp=>Rep.mono' hl hp) (λ _ _=>rfl) hr⟩
 | _=>exact hc
theorem zlJ {h:Fz}(hl:PX g.h h):∀ {cs:List Cl}{vs:List Value},RL (gJ g) cs vs->RL (gJ (g.re h)) cs vs:=λ hc=>hc.mono λ _ _=>zcz hl
theorem zcA {h:Fz}(hl:PX g.h h){d:D1}{x:Value}(hd:wI g d x):wI (g.re h) d x:=by
 cases d with
 | c y=>exact zcz hl hd
 | agg cs=>obtain⟨vs,rfl,hr⟩:=hd;exact⟨vs,rfl,zlJ hl hr⟩
theorem TS {h:Fz}(hl:PX g.h h){d:DV}{x:Value}(hd:oJ g d x):oJ (g.re h) d x:=by
 cases d with
 | one y=>exact zcA hl hd
 | tup ds=>obtain⟨vs,rfl,hr⟩:=hd;exact⟨vs,rfl,hr.mono λ _ _=>zcA hl⟩
theorem TT {h:Fz}(hl:PX g.h h){L:Nat}{o:AO}(ho:IX P g w B L o):IX P (g.re h) w B L o:=by
 cases o with
 | box ty cs=>obtain⟨C,hC,hr⟩:=ho;exact⟨C,hC,zlJ hl hr⟩
 | fbox cs=>obtain⟨C,ty,fr,hC,hr⟩:=ho;exact⟨C,ty,fr,hl _ _ hC ⟨_,_,_,rfl⟩,hr.mono λ _ _=>Rep.mono' hl⟩
 | vec e s b n get=>obtain⟨h1,h2,xs,hx,hr⟩:=ho;exact⟨h1,h2,xs,hx,λ i hi=>(hr i hi).mono λ _ _=>Rep.mono' hl⟩
 | fvec s n get=>exact⟨Rep.mono' hl ho.1,ho.2⟩
 | vv te bb e s b n ln get =>
  obtain⟨h1,h2,h3,h4,h5,h6⟩:=ho;exact⟨h1,h2,h3,h4,λ i hi=>by obtain⟨h7,h70,xs,hx,hr⟩:=h5 i hi;exact⟨h7,h70,xs,hx,λ j hj=>(hr j hj).mono λ _ _=>Rep.mono' hl⟩,h6⟩
 | vt te bb e s b n ln get o =>
  obtain⟨h1,h2,h3,h4,h41,h42,h5,h6⟩:=ho;exact⟨h1,h2,h3,h4,h41,h42,λ i hi ho=>by obtain⟨h7,h70,xs,hx,hr⟩:=h5 i hi ho;exact⟨h7,h70,xs,hx,λ j hj=>(hr j hj).mono λ _ _=>Rep.mono' hl⟩,h6⟩
 | mo kt vt q n F=>exact ho
 | gone=>trivial

def Fz.add (h:Fz) (b:Nat) (o:Obj):Fz:=λ k=>if k=b then some (.fz o) else h k
def Fz.del (h:Fz) (b:Nat):Fz:=λ k=>if k=b then none else h k
theorem Fz.add_same {h:Fz}{b:Nat}{o:Obj} : h.add b o b=some (.fz o):=if_pos rfl
theorem Fz.add_other {h:Fz}{b k:Nat}{o:Obj}(hk:k ≠ b):h.add b o k=h k:=if_neg hk
theorem Fz.del_same {h:Fz}{b:Nat} : h.del b b=none:=if_pos rfl
theorem Fz.del_other {h:Fz}{b k:Nat}(hk:k ≠ b):h.del b k=h k:=if_neg hk
theorem Fz.le_add {h:Fz}{b:Nat}{o:Obj}(hb:h b=none):iP h (h.add b o):=λ k x hk=>by
 rw[Fz.add_other (λ e=>by subst e;rw[hb] at hk;cases hk)];exact hk

theorem bU.hide (S : bU P nt B w0 h0 g σ a w) {b : Nat} {o : Obj} (hb : g.h b = none) (hw : w.heap[b]? = some o) (hB : B ≤ b) (hno : ∀ L o, lk σ.aB L = some o → ¬ fB g L o b) :
  bU P nt B w0 (h0.add b o) (g.re (g.h.add b o)) σ a w:=by
 have hle:=Fz.le_add (o:=o) hb;have Su:h0 b=none:=by
  cases h:h0 b with
  | none=>rfl
  | some x=>rw[S.le0 b x h] at hb;cases hb
 refine⟨S.dfr.mono hle,S.size,λ t d ht=>TS hle.c (S.env t d ht),λ L x hL=>TT hle.c (S.obj L x hL),λ L x k hL hk=>?_,S.sep,?_,?_,?_,?_,S.bs,S.clE,S.clO⟩
 ·obtain ⟨h1, h2⟩ := S.own L x k hL hk;refine⟨h1,?_⟩;show g.h.add b o k=none;rw[Fz.add_other (λ e=>hno L x hL (by rw[<- e];exact hk))];exact h2
 ·intro k x hk;by_cases h:k=b
  ·subst h;have hk:g.h.add k o k=some x:=hk;rw[Fz.add_same] at hk;simp only[bJ] at hk;subst hk;exact⟨o,hw,rfl⟩
  ·have hk : g.h.add b o k = some x := hk;rw[Fz.add_other h] at hk;exact S.hw k x hk
 ·intro k x hk;show g.h.add b o k=some x;by_cases h:k=b
  ·subst h;rw[Fz.add_same] at hk ⊢;exact hk
  ·rw[Fz.add_other h] at hk ⊢;exact S.le0 k x hk
 ·intro k x hk;have hk:g.h.add b o k=some x:=hk;by_cases h:k=b
  ·exact .inr (h ▸ hB)
  ·rw[Fz.add_other h] at hk ⊢;exact S.hn k x hk
 ·exact⟨S.below.os,S.below.tape,S.below.output,S.below.size,S.below.drawn,λ k hk=>S.below.block k hk⟩

theorem bU.unhide {b : Nat} {o : Obj} (S : bU P nt B w0 (h0.add b o) g σ a w) (hB : B ≤ b) (Su : h0 b = none) (hc : o.isCells = false) (hm : ∀ ds, o ≠ .deferred ds) :
  g.h b=some (.fz o)/\(∀ L x,lk σ.aB L=some x->¬ fB g L x b)/\w.heap[b]? = some o/\bU P nt B w0 h0 (g.re (g.h.del b)) σ a w:=by
 have hb:g.h b=some (.fz o):=S.le0 b _ Fz.add_same;have hl:PX g.h (g.h.del b):=λ k x hk hx=>by
  rw[Fz.del_other];exact hk;intro e;subst e;rw[hb] at hk;simp only[bJ] at hk;subst hk;obtain⟨C,ty,fr,hx⟩:=hx;cases hx;cases hc
 have hwb:w.heap[b]? = some o:=S.hw.fz hb;refine⟨hb,(λ L x hL hk=>by (have:=(S.own L x b hL hk).2;rw[hb] at this;cases this)),hwb,?_⟩;refine⟨?_,S.size,λ t d ht=>TS hl (S.env t d ht),λ L x hL=>TT hl (S.obj L x hL),λ L x k hL hk=>?_,S.sep,?_,?_,?_,?_,S.bs,S.clE,S.clO⟩
 ·obtain ⟨Ds, h1, h2, h3, h4⟩ := S.dfr;refine⟨Ds,h1,h2,λ D hD=>⟨(h3 D hD).1,?_⟩,h4⟩;show g.h.del b D=_;rw[Fz.del_other];exact (h3 D hD).2;intro e;subst e;have:=(h3 D hD).2;rw[hb] at this;simp only[bJ,OE.fz.injEq] at this;exact hm _ this
 ·obtain ⟨h1, h2⟩ := S.own L x k hL hk;refine⟨h1,?_⟩;show g.h.del b k=none;unfold Fz.del;split
  ·rfl
  ·exact h2
 ·intro k x hk;have hk:g.h.del b k=some x:=hk;unfold Fz.del at hk;split at hk
  ·cases hk
  ·exact S.hw k x hk
 ·intro k x hk;have hkb:k ≠ b:=λ e=>by subst e;rw[Su] at hk;cases hk
  show g.h.del b k=some x;rw[Fz.del_other hkb];exact S.le0 k x (by rw[Fz.add_other hkb];exact hk)
 ·intro k x hk;have hk:g.h.del b k=some x:=hk;by_cases h:k=b
  ·exact .inr (h ▸ hB)
  ·rw [Fz.del_other h] at hk;rcases S.hn k x hk with h1 | h1
   ·rw[Fz.add_other h] at h1;exact .inl h1
   ·exact .inr h1
 ·exact⟨S.below.os,S.below.tape,S.below.output,S.below.size,S.below.drawn,λ k hk=>S.below.block k hk⟩

theorem bU.putObj (S:bU P nt B w0 h0 g σ a w){b:Nat}(o:Obj) (hb:g.h b=none) (hB:B<=b) (hno:∀ L x,lk σ.aB L=some x->¬ fB g L x b):bU P nt B w0 h0 g σ a (w.putObj b o):=by
  have hne:∀ k,k ≠ b->(w.putObj b o).heap[k]? = w.heap[k]?:=λ k hk=>World.putObj_heap_other hk
  refine S.change (g' := g) (wJ := σ.aB) (fun L _ _ => gG.refl g L) (fun _ _ h => h) (S.hw.same fun k x hk => hne k fun e => by subst e; rw [hb] at hk; cases hk) (fun _ _ h => .inl h)
    ⟨rfl,rfl,rfl,by simp,iZ _,λ k hk=>hne k (by omega)⟩ ?_ S.own S.sep (λ L o h=>⟨o,h⟩) S.clO
  intro L x hL;exact iK (S.obj L x hL) (gG.refl g L) (λ M _=>gG.refl g M) (λ _ _ h=>h) λ k hk=>hne k λ e=>by subst e;exact hno L x hL hk

theorem bU.act (S:bU P nt B w0 h0 g σ a w){a':Act}(hd:Marks P B g.h a'.defers) (hs:nt<=a'.tmps.size) (he:∀ t d,lk σ.env t=some d->oJ g d (a'.tmps.getD t undef)):bU P nt B w0 h0 g σ a' w :=
 ⟨hd,hs,he,S.obj,S.own,S.sep,S.hw,S.le0,S.hn,S.below,S.bs,S.clE,S.clO⟩

theorem bU.envs (S : bU P nt B w0 h0 g σ a w) {env : List (Nat × DV)} (he : ∀ t d, lk env t = some d → oJ g d (a.tmps.getD t undef)) (hl : ∀ t d, lk env t = some d → ∀ L ∈ bY d, ∃ o, lk σ.aB L = some o)
    (l:List (Nat×Nat×Nat)):bU P nt B w0 h0 g ⟨env,σ.aB,l⟩ a w :=
  ⟨S.dfr,S.size,he,S.obj,S.own,S.sep,S.hw,S.le0,S.hn,S.below,S.bs,hl,S.clO⟩

theorem fold_size : ∀ (l : List (Nat × Value)) (t : Array Value), (l.foldl (fun t (p, v) => t.setIfInBounds p v) t).size = t.size
  | [],t=>rfl
  | (p,v) :: l,t=>by rw[List.foldl_cons,fold_size l];simp
theorem FN : ∀ (l : List (Nat × Value)) (t : Array Value) (k : Nat), (∀ x ∈ l, x.1 ≠ k) → (l.foldl (fun t (p, v) => t.setIfInBounds p v) t).getD k undef = t.getD k undef
  | [],t,k,_=>rfl
  | (p,v) :: l,t,k,h=>by
    rw[List.foldl_cons,FN l _ k λ x hx=>h x (je _ hx)];have hp:p ≠ k:=h (p,v) kR;simp[rE,Array.getElem?_setIfInBounds_ne hp]

theorem WI (nt0:Nat):∀ (ps:List Nat) (ys:List PA) (us:List Value) (e env:List (Nat×DV)) (t:Array Value),mi ps ys e=some env->RL (kL g.h) ys us->(∀ p∈ps,p < t.size) ->
  (∀ k d,lk e k=some d->oJ g d (t.getD k undef)) ->
  us.length=ps.length/\∀ k d,lk env k=some d->oJ g d (((ps.zip us).foldl (λ t (p,v)=>t.setIfInBounds p v) t).getD k undef)
 | [],[],us,e,env,t,h,hr,_,he=>by
  simp only[mi,bJ] at h;subst h;cases us with
  | nil=>exact⟨rfl,he⟩
  | cons=>exact hr.elim
 | p :: ps,y :: ys,[],e,env,t,h,hr,_,he=>hr.elim
 | p :: ps,y :: ys,u :: us,e,env,t,h,hr,hp,he=>by
  simp only[mi] at h;have hlt:=hp p kR;obtain⟨h1,h2⟩:=WI nt0 ps ys us _ env (t.setIfInBounds p u) h hr.2 (λ q hq=>by have:=hp q (je _ hq);simpa using this) (λ k d hk=>by
   rw[aV] at hk;split at hk
   ·rename_i e1;simp only[bJ] at hk;subst hk;subst e1;rw[show (t.setIfInBounds p u).getD p undef=u by simp[rE,hlt]];exact ET hr.1
   ·rename_i e1;have:=he k d hk;rw[show (t.setIfInBounds p u).getD k undef=t.getD k undef by simp[rE,Array.getElem?_setIfInBounds_ne e1]];exact this)
  exact⟨by simp[h1],h2⟩
 | [],_ :: _,_,_,_,_,h,_,_,_=>by simp[mi] at h
 | _ :: _,[],_,_,_,_,h,_,_,_=>by simp[mi] at h
theorem Kr : ∀ (ps : List Nat) (ys : List PA) (e env : List (Nat × DV)), mi ps ys e = some env → ∀ k d, lk env k = some d → lk e k = some d ∨ bY d = []
  | [],[],e,env,h,k,d,hk=>by simp only[mi,bJ] at h;subst h;exact .inl hk
  | p :: ps,y :: ys,e,env,h,k,d,hk=>by
    simp only[mi] at h;rcases Kr ps ys _ env h k d hk with h1 | h1
    · rw [aV] at h1;split at h1
      · simp only[bJ] at h1;subst h1;exact .inr (rQ y)
      · exact .inl h1
    · exact .inr h1
  | [],_ :: _,_,_,h,_,_,_=>by simp[mi] at h
  | _ :: _,[],_,_,h,_,_,_=>by simp[mi] at h

theorem bU.up (S:bU P nt B w0 h0 g σ a w):bU P nt B w0 g.h g σ a w :=
 ⟨S.dfr,S.size,S.env,S.obj,S.own,S.sep,S.hw,λ _ _ h=>h,λ _ _ h=>.inl h,
  ⟨S.below.os,S.below.tape,S.below.output,S.below.size,S.below.drawn,λ k hk=>S.below.block k hk⟩,S.bs,S.clE,S.clO⟩
theorem bU.down {h1:Fz}(S:bU P nt B w0 h1 g σ a w) (hl:iP h0 h1) (hn:∀ b o,h1 b=some o->h0 b=some o\/B<=b):bU P nt B w0 h0 g σ a w :=
 ⟨S.dfr,S.size,S.env,S.obj,S.own,S.sep,S.hw,λ b o h=>S.le0 b o (hl b o h),λ b o h=>by
   rcases S.hn b o h with h | h
   ·exact hn b o h
   ·exact .inr h,
  ⟨S.below.os,S.below.tape,S.below.output,S.below.size,S.below.drawn,λ k hk=>S.below.block k hk⟩,S.bs,S.clE,S.clO⟩

theorem TU {k:Keep}{σ s:St}(h:uq P k σ=some s):∀ t d,lk s.env t=some d->t∈k.tmps:=by
 unfold uq at h;split at h
 ·cases h
 split at h
 ·cases h
 split at h
 ·cases h
 simp only[] at h;split at h
 ·simp only [bJ] at h;subst h;intro t d ht;obtain⟨_,_,_,h1⟩:=jk ht;exact h1
 ·cases h
theorem zho {k a b e:Nat}{σ:St} : ∀ t d,lk (nf1 P k a b e σ).env t=some d->∃ d',lk σ.env t=some d':=by
 have key:∀ x y,lk σ.env a=some y->∀ t d,lk (SL a x σ.env) t=some d->∃ d',lk σ.env t=some d':=by
  intro x y hy t d ht;rw[yD ⟨y,hy⟩,aV] at ht;split at ht
  ·rename_i e;exact⟨y,e ▸ hy⟩
  ·exact⟨d,ht⟩
 unfold nf1
 repeat' split
 all_goals first
  | exact λ t d ht=>⟨d,ht⟩
  | exact key _ _ (by assumption)
theorem BX : ∀ {l : List (Nat × Nat × Nat × Nat)} {σ : St}, ∀ t d, lk (Di P l σ).env t = some d → ∃ d', lk σ.env t = some d'
  | [],_,_,d,ht=>⟨d,ht⟩
  | (_,_,_,_) :: l,_,t,d,ht=>by
    obtain⟨d',h2⟩:=BX (l:=l) t d ht;exact zho t d' h2
theorem Ar {k:Keep}{σ s:St}(h:canon P k σ=some s):∀ t d,lk s.env t=some d->t∈k.tmps:=by
 unfold canon at h;split at h
 ·split at h
  ·rename_i s1 h1;intro t d ht;cases h;obtain⟨d',h2⟩:=BX t d ht;exact TU h1 t d' h2
  ·cases h
 ·cases h

def Rnd (r:Option Nat) (h0:Fz):Prop:=∀ l,r=some l->∃ rec:Loop,h0 l=some (.fz (.loop rec))
theorem Rnd.none (h0:Fz):Rnd none h0:=λ l h=>by cases h

theorem Jd (S : bU P nt B w0 h0 g σ a w) (hR : Rnd r h0) (fn : FuncId) (ps : Array Tmp) (x y : Code) :
  ∃ (l:Nat) (mark:List Deferred) (w1:World) (d:Nat) (h1:Fz),(Instr.enterLoop fn a.tmps ps x y r).run P w=.ok (l,mark) w1/\w.heap.size<=l /\
   w1.heap[l]? = some (.loop { state:=.ready,pending:=none,fn,tmps:=a.tmps,params:=ps, assign:=x,body:=y,defers:=d })/\iP g.h h1/\h1 l=none /\
   bU P nt B w0 h0 (g.re h1) σ { a with defers:=mark ++ a.defers } w1:=by
 have hnone:∀ k,w.heap.size<=k->g.h k=none:=λ k hk=>by
  cases h:g.h k with
  | none=>rfl
  | some x=>exact absurd (qF S.hw h) (by omega)
 cases r with
 | none =>
  have hb0:g.h w.heap.size=none:=hnone _ (iZ _);have hw1:((w.alloc (.deferred (some []))).alloc (.loop { state:=.ready,pending:=none,fn,tmps:=a.tmps,params:=ps, assign:=x,body:=y,defers:=w.heap.size })).heap[w.heap.size]? = some (.deferred (some [])):=by
   exact (Below.heap_alloc _ _ _ (by simp)).trans (World.alloc_heap_new w _)
  have hbel:Below w.heap.size w ((w.alloc (.deferred (some []))).alloc (.loop { state:=.ready,pending:=none,fn,tmps:=a.tmps,params:=ps, assign:=x,body:=y,defers:=w.heap.size })) :=
   ((Below.refl _ w).alloc (iZ _) _).alloc (by simp) _
  have S1:=S.world (h':=g.h.add w.heap.size (.deferred (some []))) (Fz.le_add hb0) (λ k z hk=>by
    by_cases h:k=w.heap.size
    ·subst h;rw[Fz.add_same] at hk;simp only[bJ] at hk;subst hk;exact⟨_,hw1,rfl⟩
    ·rw [Fz.add_other h] at hk;obtain⟨o,h1,h2⟩:=S.hw k z hk;exact⟨o,by rw[hbel.block k (S.hw.lt hk)];exact h1,h2⟩)
   (λ k z hk=>by
    by_cases h:k=w.heap.size
    ·exact .inr (by omega)
    ·rw[Fz.add_other h] at hk;exact .inl hk) (.of ⟨hbel,iZ _⟩)
  refine⟨w.heap.size+1,[{ target:=.collected w.heap.size,args:=#[] }],_,w.heap.size,g.h.add w.heap.size (.deferred (some [])),run_enterLoop_outer fn a.tmps ps x y,by omega,?_,Fz.le_add hb0,?_,?_⟩
  ·have := World.alloc_heap_new (w.alloc (.deferred (some []))) (.loop { state := .ready, pending := none, fn, tmps := a.tmps, params := ps, assign := x, body := y, defers := w.heap.size });rwa[World.size_alloc] at this
  ·rw[Fz.add_other (by omega)];exact hnone _ (by omega)
  ·refine S1.act ?_ S1.size S1.env;obtain⟨Ds,h1,h2,h3,h4⟩:=S.dfr;refine⟨.inl w.heap.size :: Ds,List.nodup_cons.2 ⟨λ hm=>?_,h1⟩,by simp[h2,deD],λ D hD=>?_,λ d hd=>?_⟩
   ·have:=qF S.hw (h3 _ (Es hm)).2;omega
   rotate_left
   ·rcases jf.1 hd with e | hd
    ·cases e
    ·exact h4 d hd
   ·rcases jf.1 hD with e | hD
    ·cases e;exact⟨S.bs,Fz.add_same⟩
    ·exact⟨(h3 D hD).1,Fz.le_add hb0 _ _ (h3 D hD).2⟩
 | some l0 =>
  obtain⟨rec,hrec⟩:=hR l0 rfl;have hl0:w.heap[l0]? = some (.loop rec):=S.hw.fz (S.le0 _ _ hrec);have hbel:Below w.heap.size w (w.alloc (.loop { state:=.ready,pending:=none,fn,tmps:=a.tmps,params:=ps, assign:=x,body:=y,defers:=rec.defers })):=(Below.refl _ w).alloc (iZ _) _;have S1:=S.world (h':=g.h) (λ _ _ h=>h) (S.hw.same λ k z hk=>hbel.block k (S.hw.lt hk)) (λ _ _ h=>.inl h) (.of ⟨hbel,iZ _⟩);exact⟨w.heap.size,[],_,rec.defers,g.h,run_enterLoop_inner hl0 fn a.tmps ps x y,iZ _,World.alloc_heap_new w _,λ _ _ h=>h,hnone _ (iZ _),S1⟩
end
end Go.Pm
namespace Go.Pm
variable [aJ]
open Go.RowKit (Below)

theorem uM {P : Program} : ∀ (l : List (Nat × Nat × Nat)) (σ τ : St), xx σ τ → (jP P l σ = none ∧ jP P l τ = none) ∨ ∃ σ' τ', jP P l σ = some σ' ∧ jP P l τ = some τ' ∧ xx σ' τ'
  | [],σ,τ,h=>.inr ⟨σ,τ,rfl,rfl,h⟩
  | (t,L,e) :: r,σ,τ,h=>by
    simp only[jP];rw[<- h.env,<- h.aB];split
    · split
      · split
        · refine uM r _ _ ⟨fun s => ?_, fun s => ?_, h.log⟩
          · simp only[aV,h.env]
          · simp only[aV,h.aB]
        · exact .inl ⟨rfl,rfl⟩
      · exact .inl ⟨rfl,rfl⟩
    · exact uM r _ _ h
    · exact .inl ⟨rfl,rfl⟩
theorem uN {P : Program} : ∀ (l : List (Nat × Nat × Nat × Nat)) (σ τ : St), xx σ τ → (jQ P l σ = none ∧ jQ P l τ = none) ∨ ∃ σ' τ', jQ P l σ = some σ' ∧ jQ P l τ = some τ' ∧ xx σ' τ'
  | [],σ,τ,h=>.inr ⟨σ,τ,rfl,rfl,h⟩
  | (B,k,L,e) :: r,σ,τ,h=>by
    simp only[jQ];rw[<- h.aB,<- h.aB];split
    · split
      · split
        · split
          · refine uN r _ _ ⟨h.env, fun s => ?_, h.log⟩;simp only[aV,h.aB]
          · exact .inl ⟨rfl,rfl⟩
        · exact .inl ⟨rfl,rfl⟩
      · exact uN r _ _ h
      · exact .inl ⟨rfl,rfl⟩
    · exact .inl ⟨rfl,rfl⟩
theorem uO {P : Program} : ∀ (l : List (Nat × Nat × Nat × Nat × Nat)) (σ τ : St), xx σ τ → (jR P l σ = none ∧ jR P l τ = none) ∨ ∃ σ' τ', jR P l σ = some σ' ∧ jR P l τ = some τ' ∧ xx σ' τ'
  | [],σ,τ,h=>.inr ⟨σ,τ,rfl,rfl,h⟩
  | (B,k,L,te,e) :: r,σ,τ,h=>by
    simp only[jR];rw[<- h.aB,<- h.aB];split
    · split
      · split
        · split
          · split
            · refine uO r _ _ ⟨h.env, fun s => ?_, h.log⟩;simp only[aV,h.aB]
            · exact .inl ⟨rfl,rfl⟩
          · exact .inl ⟨rfl,rfl⟩
        · exact .inl ⟨rfl,rfl⟩
      · exact uO r _ _ h
      · exact .inl ⟨rfl,rfl⟩
    · exact .inl ⟨rfl,rfl⟩
theorem uP : ∀ (l : List Nat) (σ τ : St), xx σ τ → (jS l σ = none ∧ jS l τ = none) ∨ ∃ σ' τ', jS l σ = some σ' ∧ jS l τ = some τ' ∧ xx σ' τ'
  | [],σ,τ,h=>.inr ⟨σ,τ,rfl,rfl,h⟩
  | t :: r,σ,τ,h=>by
    have ho:lk σ.aB=lk τ.aB:=funext h.aB;simp only[jS];rw[<- h.env,<- ho];split
    · split
      · refine uP r _ _ ⟨fun s => ?_, h.aB, h.log⟩;simp only[aV,h.env]
      · split
        · refine uP r _ _ ⟨fun s => ?_, fun s => ?_, h.log⟩
          · simp only[aV,h.env]
          · simp only[fC,h.aB]
        · exact .inl ⟨rfl,rfl⟩
    · exact .inl ⟨rfl,rfl⟩
theorem Au {α : Type} {f : α → α} {l l' : List (Nat × α)} (h : ∀ t, lk l t = lk l' t) : ∀ ks, tJ f l ks = tJ f l' ks
  | []=>rfl
  | t :: r=>by simp only[tJ,h,Au h r]
theorem zcB {ob ob':Nat->Option AO}(h:∀ t,ob t=ob' t):∀ ks,zW ob ks=zW ob' ks:=by
 intro ks;have:ob=ob':=funext h;rw[this]
theorem zcC {ob ob':Nat->Option AO}(h:∀ t,ob t=ob' t):∀ ks,I8 ob ks=I8 ob' ks:=by
 intro ks;have:ob=ob':=funext h;rw[this]
theorem TV {P:Program}{k:Keep}{σ τ:St}(h:xx σ τ):uq P k σ=uq P k τ:=by
 unfold uq;rcases uM (P:=P) k.coT σ τ h with ⟨h1,h2⟩ | ⟨σ1,τ1,h1,h2,h3⟩
 ·rw[h1,h2]
 ·rw [h1, h2];simp only;rcases uN (P:=P) k.coB σ1 τ1 h3 with ⟨h4,h5⟩ | ⟨σ2,τ2,h4,h5,h6⟩
  ·rw[h4,h5]
  ·rw [h4, h5];simp only;rcases uO (P:=P) k.coV σ2 τ2 h6 with ⟨h7,h8⟩ | ⟨σ3,τ3,h7,h8,h9⟩
   ·rw[h7,h8]
   ·rw [h7, h8];simp only;rw[Au h9.env,show lk σ3.aB=lk τ3.aB from funext h9.aB];rw[Au h9.aB]
theorem zcD {σ τ:St}{n:Nat}(h:xx σ τ):xx (Yf σ n) (Yf τ n):=by
 have ho:lk σ.aB=lk τ.aB:=funext h.aB;unfold Yf;rw[<- ho]
 repeat' split
 all_goals first
  | exact h
  | exact⟨h.env,λ t=>by simp only[List.singleton_append,aV,h.aB],h.log⟩
theorem WJ : ∀ (l : List Nat) {σ τ : St}, xx σ τ → xx (coP l σ) (coP l τ)
  | [],_,_,h=>h
  | _ :: r,_,_,h=>WJ r (zcD h)
theorem YR {P:Program}{k:Keep}{σ τ:St}(h:xx σ τ):canon P k σ=canon P k τ:=by
 unfold canon;have h1:xx (Ye k.coF σ) (Ye k.coF τ):=⟨h.env,λ t=>by simp only[Ye,fC,h.aB,zcB h.aB,zcC h.aB],h.log⟩;rcases uP k.coZ _ _ (WJ k.coF h1) with ⟨h2,h3⟩ | ⟨σ1,τ1,h2,h3,h4⟩
 ·rw[h2,h3]
 ·rw[h2,h3];simp only;rw[TV h4]

section
variable {P:Program}{Γ:aX}{nt B:Nat}{w0:World}{h0:Fz}{r:Option Nat}{n:Nat}

theorem jK {b : Frame} {a : Act} {k : List Item} {cs : List Frame} {w : World} {c : Code} :
  step P (lone (b.atR a (.code (.scope c) :: k)) cs w)=.next (lone (b.atR a (.code c :: .inScope c :: k)) cs w) :=
 step_lone_go (by simp[stepG,stepG.exec,Frame.atR])
theorem Je {b : Frame} {a : Act} {k : List Item} {cs : List Frame} {w : World} {c : Code} :
  step P (lone (b.atR a (.inScope c :: k)) cs w)=.next (lone (b.atR a k) cs w) :=
 step_lone_go (by simp[stepG,stepG.exec,Frame.atR])

theorem FO {c:Code}{Q:Exit->Act->World->Prop}{a:Act}{w:World}{F:Fence}(h:c.wpIn F n P (Exit.noGoto Q) a w):(Code.scope c).wpIn F n P Q a w:=by
 intro b k cs hro hb hr;obtain⟨e,a₁,w₁,hq,harr⟩:=h b (.inScope c :: k) cs hro hb hr;have h0:(lone (b.atR a (.code (.scope c) :: k)) cs w).fenced P F:=fenced_calm hb hr rfl;cases e with
 | normal=>exact⟨.normal,a₁,w₁,hq,.head h0 jK (StepsIn.trans harr (.one (fenced_calm hb hr rfl) Je))⟩
 | exit id =>
  refine⟨.exit id,a₁,w₁,hq,λ k' hk=>.head h0 jK (harr.1 k' (by simp[exitTo,hk])),λ hr' hk=>?_⟩;obtain⟨k₁,h1,h2⟩:=harr.2 hr' (by simp[exitTo,hk]);exact⟨k₁,h1,.head h0 jK h2⟩
 | goto l=>exact hq.elim
 | ret=>exact⟨_,a₁,w₁,hq,.of_steps (.one h0 jK) harr⟩
 | panic ch=>exact⟨_,a₁,w₁,hq,.of_steps (.one h0 jK) harr⟩
 | outgrown=>exact⟨_,a₁,w₁,hq,.of_steps (b:=b) (k:=k) (cs:=cs) (e:=.outgrown) (.one h0 jK) harr⟩

def FP (F:Fence) (n:Nat) (P:Program) (c:Code) (Q:Exit->Act->World->Prop) (a:Act) (w:World):Prop :=
 ∀ (b:Frame) (k:List Item) (cs:List Frame),b.roundOf=F.round->F.fn b.fn->F.room (cs.length+1+n) ->
  ∃ e a' w',Q e a' w'/\ArrivesIn (Machine.fenced P F) P (lone (b.atR a (.code c :: .inLoop c :: k)) cs w) b k cs e a' w'

theorem oU {F:Fence}{c:Code}{Q:Exit->Act->World->Prop}{a:Act}{w:World}(h:FP F n P c Q a w):(Code.loop c).wpIn F n P Q a w:=by
 intro b k cs hro hb hr;obtain⟨e,a',w',hq,harr⟩:=h b k cs hro hb hr;exact⟨e,a',w',hq,.of_steps (.one (fenced_calm hb hr rfl) stepR_loop) harr⟩

theorem oV {F:Fence}{c:Code}{Q:Exit->Act->World->Prop}{a:Act}{w:World}(h:c.wpIn F n P (Exit.then (FP F n P c Q) Q) a w):FP F n P c Q a w:=by
 intro b k cs hro hb hr;obtain⟨e,a₁,w₁,hq,harr⟩:=h b (.inLoop c :: k) cs hro hb hr;cases e with
 | normal =>
  obtain⟨e₂,a₂,w₂,hq₂,harr₂⟩:=hq b k cs hro hb hr;exact⟨e₂,a₂,w₂,hq₂,.of_steps (StepsIn.trans harr (.one (fenced_calm hb hr rfl) stepR_inLoop)) harr₂⟩
 | exit id=>exact⟨_,a₁,w₁,hq,.pass (x:=.inLoop c) rfl (λ _ _=>.inl (by simp)) harr⟩
 | goto l=>exact⟨_,a₁,w₁,hq,.pass (x:=.inLoop c) rfl (λ _ _=>.inl (by simp)) harr⟩
 | ret=>exact⟨_,a₁,w₁,hq,.pass (x:=.inLoop c) rfl (λ _ _=>.inl (by simp)) harr⟩
 | panic ch=>exact⟨_,a₁,w₁,hq,.pass (x:=.inLoop c) rfl (λ _ _=>.inl (by simp)) harr⟩
 | outgrown=>exact⟨_,a₁,w₁,hq,.pass (x:=.inLoop c) rfl (λ _ _=>.inl (by simp)) harr⟩

def PostR (P:Program) (nt B:Nat) (w0:World) (h0:Fz) (D:List Nat) (a0:Act) (K:Exit->St->Prop):Exit->Act->World->Prop :=
 λ e a' w'=>∃ g' σ',K e σ'/\bU P nt B w0 h0 g' σ' a' w'/\Kp D a0 a'

def Snd (P:Program) (Γ:aX) (aT:bW) (B:Nat) (w0:World) (c:Code):Prop :=
 ∀ (r:Option Nat) (n:Nat) (h0:Fz) (D:List Nat) (a0:Act) (K:Exit->St->Prop) (σ:St) (g:Gh) (a:Act) (w:World),(∀ t∈eY c,t∈D)->Rnd r h0->vc P Γ aT c K σ ->
  bU P aT.nt B w0 h0 g σ a w->Kp D a0 a->c.wpIn (FR r) n P (PostR P aT.nt B w0 h0 D a0 K) a w

theorem FQ : ∀ {l : List Oper} {j : Nat} {o : Oper} {t : Nat}, l[j]? = some o → o.dst = some t → t ∈ zY l
  | [],j,o,t,h,_=>by simp at h
  | x :: l,j,o,t,h,hd=>by
    cases j with
    | zero =>
      simp only[List.getElem?_cons_zero,bJ] at h;subst h;simp only[zY,hd];exact kR
    | succ j =>
      have:=FQ (l:=l) (j:=j) (by simpa using h) hd;simp only[zY];split
      · exact je _ this
      · exact this

theorem Kt (hok : iE P Γ) (aT : bW) {id : Nat} {ops : Array Oper} {draw : Bool} {K : St → Prop} {Q : Exit → Act → World → Prop} {D : List Nat} {a0 : Act} {σ : St} {g : Gh} {a : Act} {w : World}
    (hD:∀ t∈zY ops.toList,t∈D) (h:Ju P Γ aT id ops draw K σ) (S:bU P aT.nt B w0 h0 g σ a w) (hkp:Kp D a0 a)
    (hQ:∀ g' σ' a' w',K σ'->bU P aT.nt B w0 h0 g' σ' a' w'->Kp D a0 a'->a'.defers=a.defers->Q .normal a' w'):(Code.region id ops draw).wpIn (FR r) n P Q a w:=by
  have hD':∀ (j:Nat) (o:Oper),ops[j]? = some o->∀ t,o.dst=some t->t∈D:=λ j o ho t ht=>hD t (FQ (by simpa using ho) ht);have zDN:∀ σ',(match lk aT.reg id with | some k=>(match canon P k σ' with | some s=>K s | none=>False) | none=>K σ')->∀ g' a' w',bU P aT.nt B w0 h0 g' σ' a' w'->Kp D a0 a'->a'.defers=a.defers->Q .normal a' w':=by
    intro σ' h g' a' w' S hk' hdf;split at h
    · split at h
      · rename_i s hs;obtain⟨g2,S2⟩:=dP hs S;exact hQ g2 s a' w' h S2 hk' hdf
      · exact h.elim
    · exact hQ g' σ' a' w' h S hk' hdf
  simp only[Ju] at h;cases draw with
  | false =>
    refine wpIn_region ?_;exact BM hok hD' h (S.log _) hkp zDN
  | true =>
    simp only at h;split at h
    · rename_i hc;simp only[fE] at hc
      refine TR (K:=λ σ'=>match lk aT.reg id with
        | some k=>match canon P k σ' with
          | some s=>K s
          | none=>False
        | none=>False) hok hD' hkp hc.1.1 hc.1.2 hc.2 (λ σ τ he hσ=>?_) h (S.log []) ?_
      · split at hσ
        · rename_i k hk;rw[YR he] at hσ;exact hσ
        · exact hσ.elim
      · intro σ' h g' a' w' S hk' hdf;split at h
        · split at h
          · rename_i s hs;obtain⟨g2,S2⟩:=dP hs S;exact hQ g2 s a' w' h S2 hk' hdf
          · exact h.elim
        · exact h.elim
    · exact h.elim

def PY (P : Program) (Γ : aX) (aT : bW) (x y : Code) (ps : List Nat) (k : Keep) (K : Exit → St → Prop) : List (List PA) → St → Prop
  | [],s=>K .normal s
  | yv :: rest,s=>match mi ps yv s.env with
    | some env=>vc P Γ aT x (Yg (vc P Γ aT y (ut P k (PY P Γ aT x y ps k K rest) K)) λ _ _=>False) ⟨env,s.aB,[]⟩
    | none=>False

theorem PZ (hok:iE P Γ){aT:bW}{f:Operand}{ps:Array Tmp}{x y:Code}(ihx:Snd P Γ aT B w0 x) (Sv:Snd P Γ aT B w0 y):Snd P Γ aT B w0 (.rangeFunc f ps x y):=by
 intro r n h0 D a0 K σ g a w hD hR h S hkp;simp only[vc] at h;split at h
 ·rename_i k hk;split at h
  ·rename_i s hs hdis;simp only[fE] at hdis;obtain⟨hdis,zDO⟩:=hdis;split at h
   ·rename_i gf caps hf;split at h
    ·rename_i ys hit;have hgood:PY P Γ aT x y ps.toList k K ys s:=h (PY P Γ aT x y ps.toList k K) (λ _ h=>h) (λ _ _ _ h=>h);obtain⟨g1,S1⟩:=dP hs S;have hout:∀ t∈k.tmps,t ∉ ps.toList/\t ∉ eY x ++ eY y:=by
      intro t ht;have h1:=List.all_eq_true.1 hdis t ht;simp only[Bool.not_eq_true'] at h1;have h2:t ∉ ps.toList ++ (eY x ++ eY y):=by simpa using h1
      exact⟨λ h=>h2 (dL.2 (.inl h)),λ h=>h2 (dL.2 (.inr h))⟩
     refine wpIn_rangeFunc λ fn _=>?_;obtain⟨l,mark,w1,d,h1,hrun,hlw,hl1,hle1,hn1,S2⟩:=Jd S1 hR fn ps x y;have hfn:=iq S1 hf;generalize hfv:a.eval f=fvv at hfn;cases hfn with
     | fn _ _ _ fv cv l1 l2 hf1 hc1 =>
      have e1:fv=[]:=List.eq_nil_of_length_eq_zero l1.symm;subst e1;let a1:Act:={ a with defers:=mark ++ a.defers };let rec_:LoopState->Option Code->Loop:=λ st pe=>{ state:=st,pending:=pe,fn,tmps:=a.tmps,params:=ps, assign:=x,body:=y,defers:=d }
      let J:List (List PA)->Fz->World->Prop:=λ rest h W=>∃ s bk sv iv,PY P Γ aT x y ps.toList k K rest s/\(∀ t d,lk s.env t=some d->t∈k.tmps)/\bU P aT.nt B w0 h0 ⟨h,bk,sv,iv⟩ s a1 W/\h l=none/\B<=l /\
       (∀ L o,lk s.aB L=some o->¬ fB ⟨h,bk,sv,iv⟩ L o l)/\W.heap[l]? = some (.loop (rec_ .ready none))
      let Jx:List (List PA)->Fz->World->Prop:=λ _ h W=>∃ s bk sv iv c,((c=.ret/\K .ret s)\/∃ id,c=.exit id/\K (.exit id) s)/\bU P aT.nt B w0 h0 ⟨h,bk,sv,iv⟩ s a1 W/\h l=none/\B<=l /\
       (∀ L o,lk s.aB L=some o->¬ fB ⟨h,bk,sv,iv⟩ L o l)/\W.heap[l]? = some (.loop (rec_ .done (some c)))
      have zlK:∀ {h h':Fz} {W W':World},W.heap[l]? ≠ none->h l=none->(∀ b o,h' b=some o->h b=some o\/W.heap.size<=b)->tN h W.heap.size W W'->h' l=none/\W'.heap[l]? = W.heap[l]?:=by
       intro h h' W W' hW hl hn hb;have hlt:l < W.heap.size:=by
        cases hx:W.heap[l]? with
        | none=>exact absurd hx hW
        | some o=>exact (RX.1 hx).1
       refine⟨?_,hb.block l hlt⟩;cases hx:h' l with
       | none=>rfl
       | some o =>
        rcases hn l o hx with h3 | h3
        ·rw[hl] at h3;cases h3
        ·omega
      have hJ:JSt J:=by
       rintro rest h W h' W' ⟨s,bk,sv,iv,hg,he,SJ,hl,hB,hno,hW⟩ hle hw' hn hb;obtain⟨k1,k2⟩:=zlK (by rw[hW];simp) hl hn hb;exact⟨s,bk,sv,iv,hg,he,SJ.world hle hw' hn hb,k1,hB,hno,by rw[k2];exact hW⟩
      have hJx:JSt Jx:=by
       rintro rest h W h' W' ⟨s,bk,sv,iv,c,hc,SJ,hl,hB,hno,hW⟩ hle hw' hn hb;obtain⟨k1,k2⟩:=zlK (by rw[hW];simp) hl hn hb;exact⟨s,bk,sv,iv,c,hc,SJ.world hle hw' hn hb,k1,hB,hno,by rw[k2];exact hW⟩
      have hBl:B<=l:=Bv S1.bs hlw;have h0l:∀ {h:Fz} {bk sv iv} {s:St} {W:World},bU P aT.nt B w0 h0 ⟨h,bk,sv,iv⟩ s a1 W->h l=none->h0 l=none:=λ SJ hl=>by
       cases hx:h0 l with
       | none=>rfl
       | some o=>have:=SJ.le0 l o hx;simp only[hl] at this;cases this
      have zDP:∀ L o,lk s.aB L=some o->¬ fB (g1.re h1) L o l:=λ L o ho hk=>by
       have:fB g1 L o l:=hk;have:=gm (S1.obj L o ho) this;omega
      have hstart:=hok.it gf (caps.map .one) ys hit l J Jx w1 h1 cv hJ hJx ?_ ⟨s,g1.bk,g1.sv,g1.iv,hgood,Ar hs,S2,hn1,hBl,zDP,hl1⟩ (Tt ((EW l2 hc1).mono λ _ _ h=>h.mono hle1)) S2.hw
      ·obtain ⟨hcall, hseq⟩ := hstart;refine⟨l,mark,w1,{ target:=.fn (.func gf) cv.toArray,args:=#[.func (.yield l) #[] #[]] },w1,gf,(.func (.yield l) #[] #[] :: cv).toArray,w1,?_,?_,λ _ _=>trivial,?_,λ h=>by simp[FR] at h,(OW hseq).mono ?_⟩
       ·exact hrun
       ·simp only [resolve, hfv];simp[go_sem]
       ·simp only [invoke];rw[show (#[.func (.yield l) #[] #[]] ++ cv.toArray)=(.func (.yield l) #[] #[] :: cv).toArray by simp];exact dQ hcall
       ·rintro e W3 ⟨v, h3, rfl, hle3, hw3, (⟨s3, bk, sv, iv, hg3, he3, S3, hl3, hB3, zn2, hW3⟩ | ⟨_, s3, bk, sv, iv, c, hc, S3, hl3, hB3, zn2, hW3⟩)⟩
        ·have S4 := S3.putObj (.loop { rec_ .ready none with state := .exhausted }) hl3 hB3 zn2;refine⟨none,_,run_endLoop hW3 (by simp[rec_]),_,s3,hg3,S4,hkp.1,hkp.2.1,λ hr=>absurd (hD rfS kR) hr⟩
        ·have S4 := S3.putObj (.loop { rec_ .done (some c) with state := .exhausted }) hl3 hB3 zn2;refine⟨some c,_,run_endLoop hW3 (by simp[rec_]),?_⟩;rcases hc with ⟨rfl,hc⟩ | ⟨id,rfl,hc⟩
         ·exact wpIn_ret ⟨_,s3,hc,S4,hkp.1,hkp.2.1,λ hr=>absurd (hD rfS kR) hr⟩
         ·exact wpIn_exit ⟨_,s3,hc,S4,hkp.1,hkp.2.1,λ hr=>absurd (hD rfS kR) hr⟩
      ·-- one round
       rintro yv rest h W us ⟨s,bk,sv,iv,hg,hek,SJ,hl,_,hno,hW⟩ hus hHw n';simp only[PY] at hg;split at hg
       ·rename_i env henv;have hlt:l < W.heap.size:=(RX.1 hW).1;have zQP:=h0l SJ hl;have SJ2:=SJ.up.hide hl hW hBl hno;have hle2:iP h (h.add l (.loop (rec_ .ready none))):=Fz.le_add hl;have zDQ:∀ p∈ps.toList,p < a.tmps.size:=λ p hp=>by
         have:=List.all_eq_true.1 zDO p hp;exact dqS (by simpa [Nat.blt_eq] using this) SJ.size
        obtain⟨hul,zwz⟩:=WI (g:=(⟨h.add l (.loop (rec_ .ready none)),bk,sv,iv⟩:Gh)) 0 ps.toList yv us s.env env a.tmps henv (hus.mono λ p q hpq=>by
         cases p with
         | one v=>exact Rep.mono hle2 hpq
         | agg cs=>obtain⟨vs,h5,h6⟩:=hpq;exact⟨vs,h5,h6.mono λ _ _=>Rep.mono hle2⟩) zDQ (λ t d ht=>SJ2.env t d ht)
        have zDR:(ps.zip us.toArray).foldl (λ tmps (t,a)=>tmps.setIfInBounds t a) a.tmps=(ps.toList.zip us).foldl (λ t (p,v)=>t.setIfInBounds p v) a.tmps:=by
         rw[<- Array.foldl_toList,Array.toList_zip]
        let ar:Act:={ tmps:=(ps.toList.zip us).foldl (λ t (p,v)=>t.setIfInBounds p v) a.tmps,defers:=[] };have Sr:bU P aT.nt B w0 (h.add l (.loop (rec_ .ready none))) ⟨h.add l (.loop (rec_ .ready none)),bk,sv,iv⟩ ⟨env,s.aB,[]⟩ ar W:=by
         have Sa:=(SJ2.envs (env:=[]) (λ t d ht=>by simp[lk] at ht) (λ t d ht=>by simp[lk] at ht) []).act (a':=ar) (Marks.nil _ _) (by rw[show ar.tmps.size=a.tmps.size from fold_size _ _];exact SJ.size) (λ t d ht=>by simp[lk] at ht);exact Sa.envs zwz (λ t d ht L hL=>by
          rcases Kr _ _ _ _ henv t d ht with h5 | h5
          ·exact SJ.clE t d h5 L hL
          ·rw[h5] at hL;simp at hL) []
        have hrd:∀ st pe,Rnd (some l) (h.add l (.loop (rec_ st pe))):=λ st pe l' e=>by cases e;exact⟨_,Fz.add_same⟩
        refine⟨_,_,_,_,by rw[run_yield (P:=P) (args:=us.toArray) hW (by simp[rec_,hul]),zDR],roundIn_of_wpIn (F:=Fence.wide) trivial ?_⟩;show x.wpIn (FR (some l)) n' P _ ar W;refine wpIn_mono (ihx (some l) n' _ (eY x ++ eY y) ar _ _ _ ar W (λ t ht=>dL.2 (.inl ht)) (hrd _ _) hg Sr (Kp.refl _ _)) ?_;rintro e a' w' ⟨g2,σ2,hK2,S2,zDS⟩;cases e with
        | normal =>
         simp only[Yg] at hK2;obtain⟨_,zwA,hw2,S3⟩:=S2.unhide hBl hl rfl (λ ds=>by simp);refine⟨_,run_beginRound hw2 rfl,?_⟩;have S4:=S3.putObj (.loop { rec_ .ready none with state:=.busy }) Fz.del_same hBl zwA;have hw4:(w'.putObj l (.loop { rec_ .ready none with state:=.busy })).heap[l]? = some (.loop (rec_ .busy none)):=World.putObj_heap_same (RX.1 hw2).1;have S5:=S4.hide (o:=.loop (rec_ .busy none)) Fz.del_same hw4 hBl zwA;show y.wpIn (FR (some l)) n' P _ a' _;refine wpIn_mono (Sv (some l) n' _ (eY x ++ eY y) ar _ σ2 _ a' _ (λ t ht=>dL.2 (.inr ht)) (hrd _ _) hK2 S5 zDS) ?_;rintro e a5 w5 ⟨g6,σ6,hK6,S6,zDT⟩
         have back:∀ s7,canon P k σ6=some s7->∃ (w5l:w5.heap[l]? = some (.loop (rec_ .busy none))) (h':Fz) (bk sv:_) (iv:Nat->Nat->Value),iP h h'/\h' l=none /\
           ∀ o',bU P aT.nt B w0 h0 ⟨h',bk,sv,iv⟩ s7 a1 (w5.putObj l o')/\(∀ L o,lk s7.aB L=some o->¬ fB ⟨h',bk,sv,iv⟩ L o l):=by
          intro s7 hs7;obtain⟨g7,S7⟩:=dP hs7 S6;obtain⟨_,zwB,hw8,S8⟩:=S7.unhide hBl hl rfl (λ ds=>by simp);have zwC:iP h (g7.h.del l):=S8.le0;refine⟨hw8,g7.h.del l,g7.bk,g7.sv,g7.iv,zwC,Fz.del_same,λ o'=>⟨?_,zwB⟩⟩;have S9:=(S8.putObj o' Fz.del_same hBl zwB).down (h0:=h0) SJ.le0 SJ.hn;refine S9.act (SJ.dfr.mono zwC) SJ.size λ t d ht=>?_;obtain⟨h10,h11⟩:=hout t (Ar hs7 t d ht);have h12:=zDT.1 t h11;have h13:ar.tmps.getD t undef=a.tmps.getD t undef:=FN _ _ _ λ q hq e=>h10 (e ▸ (List.of_mem_zip hq).1);have:=S9.env t d ht;rw[h12,h13] at this;exact this
         cases e with
         | normal =>
          simp only[ut] at hK6;split at hK6
          ·rename_i s7 hs7;obtain⟨w5l,h',bk',sv',iv',fP,hl',hS⟩:=back s7 hs7;have zcF:=(RX.1 w5l).1;refine⟨_,_,run_endRound none w5l,h',fP,(hS _).1.hw,.inl ⟨rfl,s7,bk',sv',iv',hK6,Ar hs7,(hS _).1,hl',hBl,(hS (.loop (rec_ .ready none))).2,?_⟩⟩;exact World.putObj_heap_same zcF
          ·exact hK6.elim
         | ret =>
          simp only[ut] at hK6;split at hK6
          ·rename_i s7 hs7;obtain⟨w5l,h',bk',sv',iv',fP,hl',hS⟩:=back s7 hs7;have zcF:=(RX.1 w5l).1;refine⟨_,_,run_endRound (some .ret) w5l,h',fP,(hS _).1.hw,.inr ⟨rfl,s7,bk',sv',iv',.ret,.inl ⟨rfl,hK6⟩,(hS _).1,hl',hBl,(hS (.loop (rec_ .ready none))).2,?_⟩⟩;exact World.putObj_heap_same zcF
          ·exact hK6.elim
         | exit id =>
          simp only[ut] at hK6;split at hK6
          ·rename_i s7 hs7;obtain⟨w5l,h',bk',sv',iv',fP,hl',hS⟩:=back s7 hs7;have zcF:=(RX.1 w5l).1;refine⟨_,_,run_endRound (some (.exit id)) w5l,h',fP,(hS _).1.hw,.inr ⟨rfl,s7,bk',sv',iv',.exit id,.inr ⟨id,rfl,hK6⟩,(hS _).1,hl',hBl,(hS (.loop (rec_ .ready none))).2,?_⟩⟩;exact World.putObj_heap_same zcF
          ·exact hK6.elim
         | goto q=>exact hK6.elim
         | panic ch=>exact hK6.elim
         | outgrown=>exact hK6.elim
        | exit id=>exact hK2.elim
        | goto q=>exact hK2.elim
        | ret=>exact hK2.elim
        | panic ch=>exact hK2.elim
        | outgrown=>exact hK2.elim
       ·exact hg.elim
    ·exact h.elim
   ·exact h.elim
  ·exact h.elim
 ·exact h.elim

theorem FT (hok:iE P Γ) (aT:bW):∀ (c:Code),Snd P Γ aT B w0 c:=by
 intro c
 induction c with
 | skip=>intro r n h0 D a0 K σ g a w _ _ h S hkp;exact wpIn_skip ⟨g,σ,h,S,hkp⟩
 | region id ops draw =>
  intro r n h0 D a0 K σ g a w hD _ h S hkp;simp only[vc] at h;exact Kt hok aT hD h S hkp λ g' σ' a' w' hK S' hk' _=>⟨g',σ',hK,S',hk'⟩
 | seq x y ihx Sv =>
  intro r n h0 D a0 K σ g a w hD hR h S hkp;refine wpIn_seq (wpIn_mono (ihx r n h0 D a0 _ σ g a w (λ t ht=>hD t (dL.2 (.inl ht))) hR h S hkp) ?_);have hDy:∀ t∈eY y,t∈D:=λ t ht=>hD t (dL.2 (.inr ht));rintro e a' w' ⟨g',σ',hK,S',hk'⟩;cases e with
  | normal =>
   simp only[Yg,zgO] at hK;split at hK
   ·split at hK
    ·rename_i s hs;obtain⟨g2,S2⟩:=dP hs S';exact Sv r n h0 D a0 K s g2 a' w' hDy hR hK S2 hk'
    ·exact hK.elim
   ·exact Sv r n h0 D a0 K σ' g' a' w' hDy hR hK S' hk'
  | exit id=>exact⟨g',σ',hK,S',hk'⟩
  | goto l=>exact⟨g',σ',hK,S',hk'⟩
  | ret=>exact⟨g',σ',hK,S',hk'⟩
  | panic ch=>exact⟨g',σ',hK,S',hk'⟩
  | outgrown=>exact⟨g',σ',hK,S',hk'⟩
 | cond c x y ihx Sv =>
  intro r n h0 D a0 K σ g a w hD hR h S hkp;simp only[vc] at h;split at h
  ·rename_i t ht;have hv:=qH S ht;have hS:∀ b,t=b->bU P aT.nt B w0 h0 g (tK σ c b) a w:=by
    intro b hb;cases c with
    | tmp q =>
     refine S.env' (t:=q) (d:=.bool b) ?_ (iV _);have:a.tmps.getD q undef=.bool t:=hv;rw[this,hb];exact .bool b
    | _=>exact S
   have h2:=mX.1 h;refine wpIn_cond hv ?_;cases t with
   | true=>exact ihx r n h0 D a0 K _ g a w (λ t ht=>hD t (dL.2 (.inl ht))) hR (h2.1 rfl) (hS true rfl) hkp
   | false=>exact Sv r n h0 D a0 K _ g a w (λ t ht=>hD t (dL.2 (.inr ht))) hR (h2.2 rfl) (hS false rfl) hkp
  ·exact h.elim
 | block id b ih =>
  intro r n h0 D a0 K σ g a w hD hR h S hkp;refine wpIn_block (wpIn_mono (ih r n h0 D a0 _ σ g a w hD hR h S hkp) ?_);rintro e a' w' ⟨g',σ',hK,S',hk'⟩;cases e with
  | exit j =>
   simp only[SN] at hK;simp only[Exit.inBlock];split at hK
   ·rename_i hj;rw[if_pos (jb hj)];exact⟨g',σ',hK,S',hk'⟩
   ·rename_i hj;rw[if_neg (Nat.ne_of_beq_eq_false hj)];exact⟨g',σ',hK,S',hk'⟩
  | normal=>exact⟨g',σ',hK,S',hk'⟩
  | goto l=>exact⟨g',σ',hK,S',hk'⟩
  | ret=>exact⟨g',σ',hK,S',hk'⟩
  | panic ch=>exact⟨g',σ',hK,S',hk'⟩
  | outgrown=>exact⟨g',σ',hK,S',hk'⟩
 | loop b ih =>
  intro r n h0 D a0 K σ g a w hD hR h S hkp;simp only[vc] at h;split at h
  ·rename_i k hk;split at h
   ·rename_i s hs;obtain⟨g1,S1⟩:=dP hs S;refine oU ?_;have key:=h (λ s=>∀ g a w,bU P aT.nt B w0 h0 g s a w->Kp D a0 a->FP (FR r) n P b (PostR P aT.nt B w0 h0 D a0 K) a w) ?_
    ·exact key g1 a w S1 hkp
    ·intro s hs g a w S hkp;refine oV (wpIn_mono (ih r n h0 D a0 _ s g a w hD hR hs S hkp) ?_);rintro e a' w' ⟨g',σ',hK,S',hk'⟩;cases e with
     | normal =>
      simp only[zbJ,hk] at hK;split at hK
      ·rename_i s2 hs2;obtain⟨g2,S2⟩:=dP hs2 S';exact hK g2 a' w' S2 hk'
      ·exact hK.elim
     | exit id=>exact⟨g',σ',hK,S',hk'⟩
     | goto l=>exact⟨g',σ',hK,S',hk'⟩
     | ret=>exact⟨g',σ',hK,S',hk'⟩
     | panic ch=>exact⟨g',σ',hK,S',hk'⟩
     | outgrown=>exact⟨g',σ',hK,S',hk'⟩
   ·exact h.elim
  ·split at h
   ·rename_i m k hk;have key:∀ (m:Nat) (σ:St) (g:Gh) (a:Act) (w:World),Yh P k (vc P Γ aT b) m K σ->bU P aT.nt B w0 h0 g σ a w->Kp D a0 a->FP (FR r) n P b (PostR P aT.nt B w0 h0 D a0 K) a w:=by
     intro m
     induction m with
     | zero=>intro σ g a w h;exact h.elim
     | succ m ihm =>
      intro σ g a w h S hkp;simp only[Yh] at h;split at h
      ·rename_i s hs;obtain⟨g1,S1⟩:=dP hs S;refine oV (wpIn_mono (ih r n h0 D a0 _ s g1 a w hD hR h S1 hkp) ?_);rintro e a' w' ⟨g',σ',hK,S',hk'⟩;cases e with
       | normal=>exact ihm σ' g' a' w' hK S' hk'
       | exit id=>exact⟨g',σ',hK,S',hk'⟩
       | goto l=>exact⟨g',σ',hK,S',hk'⟩
       | ret=>exact⟨g',σ',hK,S',hk'⟩
       | panic ch=>exact⟨g',σ',hK,S',hk'⟩
       | outgrown=>exact⟨g',σ',hK,S',hk'⟩
      ·exact h.elim
    exact oU (key m σ g a w h S hkp)
   ·exact h.elim
 | exit id=>intro r n h0 D a0 K σ g a w _ _ h S hkp;exact wpIn_exit ⟨g,σ,h,S,hkp⟩
 | scope b ih =>
  intro r n h0 D a0 K σ g a w hD hR h S hkp;refine FO (wpIn_mono (ih r n h0 D a0 _ σ g a w hD hR h S hkp) ?_);rintro e a' w' ⟨g',σ',hK,S',hk'⟩;cases e with
  | goto l=>exact hK
  | normal=>exact⟨g',σ',hK,S',hk'⟩
  | exit l=>exact⟨g',σ',hK,S',hk'⟩
  | ret=>exact⟨g',σ',hK,S',hk'⟩
  | panic ch=>exact⟨g',σ',hK,S',hk'⟩
  | outgrown=>exact⟨g',σ',hK,S',hk'⟩
 | label l=>intro r n h0 D a0 K σ g a w _ _ h S hkp;exact wpIn_label ⟨g,σ,h,S,hkp⟩
 | ret=>intro r n h0 D a0 K σ g a w _ _ h S hkp;exact wpIn_ret ⟨g,σ,h,S,hkp⟩
 | rangeFunc f ps x y ihx Sv=>exact PZ hok ihx Sv
 | goto l=>intro r n h0 D a0 K σ g a w _ _ h S;exact h.elim
 | refuse s=>intro r n h0 D a0 K σ g a w _ _ h S;exact h.elim
end
end Go.Pm
namespace Go.Pm
variable [aJ]
open Go.RowKit (Below)

section
variable {P:Program}{Γ:aX}

theorem ny : ∀ (args : List PA) (i t : Nat) (d : DV), lk (gQ i args) t = some d → ∃ x, args[t - i]? = some x ∧ i ≤ t ∧ d = .one (Dc x)
  | [],i,t,d,h=>by simp[gQ,lk] at h
  | x :: r,i,t,d,h=>by
    simp only[gQ] at h;rw[aV] at h;split at h
    · rename_i e;simp only[bJ] at h;subst e;exact⟨x,by simp,iZ _,h.symm⟩
    · rename_i e;obtain⟨y,h1,h2,h3⟩:=ny r (i+1) t d h;refine⟨y,?_,by omega,h3⟩;rw[show t - i=(t - (i+1))+1 by omega,SC];exact h1

def resV (tmps : Array Value) : ResultVar → Sem Value
  | .tmp t=>pure (tmps.getD t undef)
  | .cell b t=>do loadVar t (<- asAddr (tmps.getD b undef))

theorem FU {w:World}(x:Addr):(asAddr (.pointer (some x))).run P w=.ok x w:=rfl

theorem Aw {nt B:Nat}{w0:World}{h0:Fz}{g:Gh}{σ:St}{a:Act}{w:World}(S:bU P nt B w0 h0 g σ a w):∀ (rs:List ResultVar) (l:List PA),kJ P σ rs=some l ->
  ∃ (u:jT) (vs:List Value),dW (lk σ.aB) u /\
   (rs.mapM (resV a.tmps)).run P w=.ok vs w /\
   ∀ (u':jT) (h':Fz),(∀ y∈u,y∈u')->ed g (lk σ.aB) u' h'->RL (kL h') l vs
 | [],l,h=>by
  simp[kJ] at h;subst h;exact⟨[],[],dW.nil _,rfl,λ _ _ _ _=>trivial⟩
 | .tmp t :: r,l,h=>by
  simp only[kJ] at h;split at h
  ·rename_i d hd;split at h
   ·rename_i x u1 l2 h1 h2;simp only[bJ] at h;subst h;obtain⟨u2,vs,hu2,hrun,hr⟩:=Aw S r l2 h2;refine⟨u1 ++ u2,a.tmps.getD t undef :: vs,(yg h1).append hu2,?_,λ u' h' hu F=>⟨F.repD h1 (λ y hy=>hu y (dL.2 (.inl hy))) (S.env t d hd),hr u' h' (λ y hy=>hu y (dL.2 (.inr hy))) F⟩⟩;rw[List.mapM_cons];simp only[resV,fD,iT,fM];rw[hrun];rfl
   ·cases h
  ·cases h
 | .cell t ty :: r,l,h=>by
  simp only[kJ] at h;split at h
  ·rename_i L off ag m ht hg hs;split at h
   ·rename_i ty' cells hL;split at h
    ·rename_i d hd;split at h
     ·rename_i x u1 l2 h1 h2;simp only[bJ] at h;subst h;obtain⟨u2,vs,hu2,hrun,hr⟩:=Aw S r l2 h2;obtain⟨C,hC,hcr⟩:=S.obj L _ hL;obtain⟨v,hload,hv⟩:=Ey (P:=P) hg hs hC 0 (λ j y hj=>by obtain⟨v,hv,hyv⟩:=hcr.get j y hj;exact⟨v,by simpa using hv,hyv⟩) hd;have hp:a.tmps.getD t undef=.pointer (some ⟨g.bk L,off,none⟩):=S.env t _ ht;rw[Nat.zero_add] at hload;refine⟨u1 ++ u2,v :: vs,(yg h1).append hu2,?_,λ u' h' hu F=>⟨F.repD h1 (λ y hy=>hu y (dL.2 (.inl hy))) hv,hr u' h' (λ y hy=>hu y (dL.2 (.inr hy))) F⟩⟩;have h1:(resV a.tmps (.cell t ty)).run P w=.ok v w:=by
       simp only[resV,fD,hp,FU,fM,hload]
      rw[List.mapM_cons];simp only[fD,h1,fM];rw[hrun];rfl
     ·cases h
    ·cases h
   ·cases h
  ·cases h

theorem BZ {nt B : Nat} {w0 : World} {h0 : Fz} {g : Gh} {σ : St} {a : Act} {w : World} (S : bU P nt B w0 h0 g σ a w) {fn : Func} {l : List PA} (h : kJ P σ fn.results.toList = some l) :
  ∃ (u:jT) (v:Value),dW (lk σ.aB) u/\(results fn a.tmps).run P w=.ok v w/\∀ (h':Fz),ed g (lk σ.aB) u h'->nJ h' l v:=by
 obtain⟨u,vs,hu,hrun,hr⟩:=Aw S fn.results.toList l h;refine⟨u,if h:vs.toArray.size=1 then vs.toArray[0] else .tuple vs.toArray,hu,?_,λ h' F=>?_⟩
 ·have e : results fn a.tmps = (do let vs ← fn.results.mapM (resV a.tmps); pure (if h : vs.size = 1 then vs[0] else .tuple vs)) := rfl;rw[e,Array.mapM_eq_mapM_toList];simp only[fD,Sem.run_map];rw[hrun];simp only[fM,iT]
 ·have hrl := hr u h' (fun y hy => hy) F
  match l,vs,hrl with
  | [],[],_=>exact⟨[],rfl,trivial⟩
  | [x],[v],hrl=>exact hrl.1
  | x :: y :: l,v :: v2 :: vs,hrl =>
   refine⟨v :: v2 :: vs,?_,hrl⟩;rw[dif_neg (by simp)]
  | [],_ :: _,hrl=>exact hrl.elim
  | [_],[],hrl=>exact hrl.elim
  | [_],_ :: _ :: _,hrl=>exact hrl.2.elim
  | _ :: _ :: _,[],hrl=>exact hrl.elim
  | _ :: _ :: _,[_],hrl=>exact hrl.2.elim

theorem bU.unmark {nt B : Nat} {w0 : World} {h0 : Fz} {g : Gh} {σ : St} {a : Act} {w : World} (S : bU P nt B w0 h0 g σ a w) {D : Nat} {Ds : List (Nat ⊕ Deferred)}
    (hnd:(lefts (.inl D :: Ds)).Nodup) (hm:∀ E,Sum.inl E∈.inl D :: Ds->B<=E/\g.h E=some (.fz (.deferred (some [])))) (hi:∀ d,Sum.inr d∈Ds->Bz P d) (Su:∀ b,h0 b=some (.fz (.deferred (some [])))->b < B) {ds:List Deferred} (hds:ds=Ds.map deD) :
    w.heap[D]? = some (.deferred (some []))/\bU P nt B w0 h0 (g.re (g.h.del D)) σ { a with defers:=ds } (w.putObj D (.deferred none)):=by
  obtain⟨hB,hb⟩:=hm D kR;have hnot:=(List.nodup_cons.1 hnd).1;have hl:PX g.h (g.h.del D):=λ k x hk hx=>by
    rw[Fz.del_other];exact hk;intro e;subst e;rw[hb] at hk;simp only[bJ] at hk;subst hk;obtain⟨C,ty,fr,hx⟩:=hx;cases hx
  have hno:∀ L x,lk σ.aB L=some x->¬ fB g L x D:=λ L x hL hk=>by have:=(S.own L x D hL hk).2;rw[hb] at this;cases this
  refine⟨S.hw.fz hb,?_⟩;have S1:bU P nt B w0 h0 (g.re (g.h.del D)) σ { a with defers:=ds } w:=by
    refine⟨⟨Ds,(List.nodup_cons.1 hnd).2,hds,λ E hE=>⟨(hm E (je _ hE)).1,?_⟩,hi⟩,S.size,λ t d ht=>TS hl (S.env t d ht),λ L x hL=>TT hl (S.obj L x hL),λ L x k hL hk=>?_,S.sep,?_,?_,?_,S.below,S.bs,S.clE,S.clO⟩
    · show g.h.del D E = _;rw[Fz.del_other (λ e=>hnot (by rw[<- e];exact vG hE))];exact (hm E (je _ hE)).2
    · obtain ⟨h1, h2⟩ := S.own L x k hL hk;refine⟨h1,?_⟩;show g.h.del D k=none;unfold Fz.del;split
      · rfl
      · exact h2
    · intro k x hk;have hk:g.h.del D k=some x:=hk;unfold Fz.del at hk;split at hk
      · cases hk
      · exact S.hw k x hk
    · intro k x hk;show g.h.del D k=some x;rw[Fz.del_other (λ e=>by
        subst e;have h1:=S.le0 _ _ hk;rw[hb] at h1;simp only[bJ] at h1;rw[<- h1] at hk;have:=Su _ hk;omega)];exact S.le0 k x hk
    · intro k x hk;have hk:g.h.del D k=some x:=hk;unfold Fz.del at hk;split at hk
      · cases hk
      · exact S.hn k x hk
  exact S1.putObj _ Fz.del_same hB hno

theorem vM {nt B : Nat} {w0 : World} {h0 : Fz} {σ : St} {fn : Func} {R : Ending → World → Prop} {n : Nat} (Su : ∀ b, h0 b = some (.fz (.deferred (some []))) → b < B) :
  ∀ (Ds:List (Nat ⊕ Deferred)) (g:Gh) (a:Act) (w:World),(lefts Ds).Nodup->a.defers=Ds.map deD->(∀ D,Sum.inl D∈Ds->B<=D/\g.h D=some (.fz (.deferred (some []))))->(∀ d,Sum.inr d∈Ds->Bz P d)->bU P nt B w0 h0 g σ a w ->
   (∀ g' a' w',a'.tmps=a.tmps->bU P nt B w0 h0 g' σ a' w'->∃ v,(results fn a'.tmps).run P w'=.ok v w'/\R (.returned v) w')->LeavesInM (FR none) n P fn a.tmps R a.defers .returning w
 | [],g,a,w,_,ha,_,_,S,hR=>by
  rw[ha];exact hR g a w rfl S
 | .inl D :: Ds,g,a,w,hnd,ha,hm,hi,S,hR=>by
  obtain⟨h1,S1⟩:=S.unmark hnd hm (λ d hd=>hi d (je _ hd)) Su rfl;rw[ha,nG];refine⟨by simp,.inl ⟨D,_,rfl,run_takeDeferred h1,?_⟩⟩;have hnot:=(List.nodup_cons.1 hnd).1;exact vM Su Ds _ { a with defers:=Ds.map deD } _ (List.nodup_cons.1 hnd).2 rfl (λ E hE=>⟨(hm E (je _ hE)).1,by
   show g.h.del D E=_;rw[Fz.del_other (λ e=>hnot (by rw[<- e];exact vG hE))];exact (hm E (je _ hE)).2⟩) (λ d hd=>hi d (je _ hd)) S1 (λ g' a' w' ht=>hR g' a' w' ht)
 | .inr d :: Ds,g,a,w,hnd,ha,hm,hi,S,hR=>by
  obtain⟨fv,cap,f,args,h1,h2,h3⟩:=hi d kR;rw[ha,nG];refine⟨by simp,.inr ⟨(λ h=>by cases h),fv,cap,f,args,h1,h2 w,(λ _ _=>trivial),?_⟩⟩;obtain⟨c1,c2⟩:=h3 (n - 1) w;refine⟨c1,λ c cs hc hr=>?_⟩;obtain⟨e,u',w',fr,hR',rest⟩:=c2 c cs hc hr;refine⟨e,u',w',fr,?_,rest⟩;obtain⟨⟨v,rfl⟩,rfl,rfl⟩:=hR';have hm':∀ D,Sum.inl D∈Ds->B<=D/\g.h D=some (.fz (.deferred (some []))):=λ D hD=>hm D (je _ hD);have hi':∀ d,Sum.inr d∈Ds->Bz P d:=λ d hd=>hi d (je _ hd);exact vM Su Ds g { a with defers:=Ds.map deD } _ hnd rfl hm' hi' (S.act ⟨Ds,hnd,rfl,hm',hi'⟩ S.size S.env) (λ g' a' w' ht=>hR g' a' w' ht)

theorem Ku {nt : Nat} {args : List PA} {w : World} {h0 : Fz} {vs : List Value} {m : Nat} (hnt : nt = m) (hlen : args.length ≤ nt) (hvs : RL (kL h0) args vs) (hfz : Hw h0 w) :
  bU P nt w.heap.size w h0 ⟨h0,λ _=>0,λ _=>undef,λ _ _=>undef⟩ ⟨gQ 0 args,[],[]⟩ { tmps:=vs.toArray ++ Array.replicate (m - vs.toArray.size) undef,defers:=[] } w:=by
 have hl:=hvs.length;refine⟨Marks.nil _ _,by simp;omega,?_,λ L o ho=>by simp[lk] at ho,λ L o b ho=>by simp[lk] at ho,λ L o b L' o' ho=>by simp[lk] at ho,hfz,λ _ _ h=>h,λ b o h=>.inl h,tN.refl _ _ _,iZ _,?_,λ L o ho=>by simp[lk] at ho⟩
 ·intro t d ht;obtain⟨x,hx,_,rfl⟩:=ny args 0 t d ht;obtain⟨v,hv,hxv⟩:=hvs.get t x (by simpa using hx);have hlt:=(wW.1 hv).1;have:(vs.toArray ++ Array.replicate (m - vs.toArray.size) undef).getD t undef=v:=by
   rw[rE,Array.getElem?_append_left (by simpa using hlt)];simp[hv]
  rw[this];exact ET (g:=⟨h0,λ _=>0,λ _=>undef,λ _ _=>undef⟩) hxv
 ·intro t d ht L hL;obtain⟨x,hx,_,rfl⟩:=ny args 0 t d ht;rw[show bY (.one (Dc x))=cZ (Dc x) from rfl,rQ] at hL;simp at hL

theorem Kv {G : aX} (hok : iE P G) {f : FuncId} {aT : bW} {args : List PA} {Kx : Func → Exit → St → Prop} {w : World} {h0 : Fz} {vs : List Value} {R : Ending → World → Prop} {fn : Func} {c : Code}
    (hfn:P.funcs[f]? = some fn) (hbody:fn.body=some c) (hnt:aT.nt=fn.ntmps) (hlen:args.length<=aT.nt) (hv:vc P G aT c (Kx fn) ⟨gQ 0 args,[],[]⟩) (hvs:RL (kL h0) args vs) (hfz:Hw h0 w)
    (hend:∀ e σ g a w',Kx fn e σ->bU P aT.nt w.heap.size w h0 g σ a w'->(e=.normal\/e=.ret)/\∃ v,(results fn a.tmps).run P w'=.ok v w'/\R (.returned v) w'):Calls P f vs.toArray w R:=by
  have S:=Ku (P:=P) hnt hlen hvs hfz;have hwp:=FT (B:=w.heap.size) (w0:=w) hok aT c none 0 h0 (eY c) _ (Kx fn) _ _ _ _ (λ _ h=>h) (Rnd.none h0) hv S (Kp.refl _ _);refine (callsIn_wide (n:=0)).1 ?_;refine callsIn_of_wp_marks (F:=FR none) hfn hbody trivial (wpIn_mono hwp ?_);have Su:∀ b,h0 b=some (.fz (.deferred (some [])))->b < w.heap.size:=λ b h=>hfz.lt h;rintro e a' w' ⟨g',σ',hK',S',_⟩;have fin:LeavesInM (FR none) 0 P fn a'.tmps R a'.defers .returning w':=by
    obtain⟨Ds,h1,h2,h3,h4⟩:=S'.dfr;exact vM Su Ds g' a' w' h1 h2 h3 h4 S' λ g2 a2 w2 _ S2=>(hend e σ' g2 a2 w2 hK' S2).2
  rcases (hend e σ' g' a' w' hK' S').1 with rfl | rfl
  · exact fin
  · exact fin

theorem zhq {G : aX} (hok : iE P G) {f : FuncId} {args : List PA} {K : List PA → Prop} {aT : bW} (hv : vcFun P G aT f args K) {w : World} {h0 : Fz} {vs : List Value} (hvs : RL (kL h0) args vs) (hfz : Hw h0 w) :
  Calls P f vs.toArray w λ e w'=>∃ (h':Fz) (rs:List PA) (v:Value),K rs/\e=.returned v/\nJ h' rs v/\tN h0 w.heap.size w w' /\
   iP h0 h'/\Hw h' w'/\∀ b o,h' b=some o->h0 b=some o\/w.heap.size<=b:=by
 unfold vcFun at hv;split at hv
 ·rename_i fn hfn;split at hv
  ·rename_i c hbody;split at hv
   ·rename_i hnt;simp only[fE,Nat.ble_eq] at hnt;refine Kv (G:=G) hok (Kx:=λ fn=>Jv P fn K) hfn hbody (jb hnt.1) hnt.2 hv hvs hfz ?_;intro e σ' g' a' w' hK' S'
    have fin:Em P fn K σ'->∃ v,(results fn a'.tmps).run P w'=.ok v w' /\
      (∃ (h':Fz) (rs:List PA) (v_1:Value),K rs/\Ending.returned v=.returned v_1/\nJ h' rs v_1/\tN h0 w.heap.size w w'/\iP h0 h'/\Hw h' w'/\∀ b o,h' b=some o->h0 b=some o\/w.heap.size<=b):=by
     intro hf;unfold Em at hf;split at hf
     ·rename_i l hl;obtain⟨u,v,hu,hrun,hres⟩:=BZ S' hl;obtain⟨h',S2,F⟩:=S'.freeze hu;exact⟨v,hrun,h',l,v,hf,rfl,hres h' F,S2.below,S2.le0,S2.hw,S2.hn⟩
     ·exact hf.elim
    cases e with
    | normal=>exact⟨.inl rfl,fin hK'⟩
    | ret=>exact⟨.inr rfl,fin hK'⟩
    | exit id=>exact hK'.elim
    | goto l=>exact hK'.elim
    | panic ch=>exact hK'.elim
    | outgrown=>exact hK'.elim
   ·exact hv.elim
  ·exact hv.elim
 ·exact hv.elim
theorem zcG {G : aX} (hok : iE P G) {f : FuncId} {C : List PA → ae (List PA)} (hc : dA P f)
    (h:∀ args rs,(C args).o=some rs->∃ vv aT,vcFun P { G with vv:=vv } aT f args λ rs'=>rs'=rs):Ok P f C:=by
  intro args rs hK w h0 vs hvs hfz;obtain⟨vv,aT,hv⟩:=h args rs hK;refine⟨hc,(zhq (G:={ G with vv:=vv }) ⟨hok.mt,hok.fn,hok.own,hok.it,hok.cmp⟩ hv hvs hfz).mono ?_⟩;rintro e w' ⟨h',rs',v,rfl,he⟩;exact⟨h',v,he⟩
end
end Go.Pm
namespace Go.Pm
variable [aJ]
open Go.RowKit (Below)

section
variable {P:Program}{Γ:aX}{nt:Nat}{n:Nat}

theorem zcH {o : Oper} {a : Act} {w w' : World} {R : Act → World → Prop} {Q : Exit → Act → World → Prop} (hnd : ∀ c, o.op ≠ .defer c) {l f : Nat} {tmps : Array Value} {x y : Code} (h : (execOp a.eval o).run P w = .ok (.round l f tmps x y) w')
    (hR:RoundIn Fence.wide (n - 1) P l f tmps x y w' λ e w''=>∃ v,e=.returned v/\R (a.put o.dst v) w''):o.wpIn (FR none) n P a w R Q:=by
  refine⟨λ _ _=>trivial,?_⟩;rw[Oper.semAt_eq _ _ _ hnd,h,Oper.uponIn_round];refine⟨λ h=>by simp[FR] at h,?_⟩;have hR':RoundIn (FR none) (n - 1) P l f tmps x y w' λ e w''=>∃ v,e=.returned v/\R (a.put o.dst v) w'':=hR;refine hR'.mono ?_;rintro e w'' ⟨v,rfl,hv⟩;exact hv

theorem LX {h : Fz} {g : Gh} (hg : g.h = h) : ∀ {ds : List DV} {l : List PA} {vs : List Value}, nH ds = some l → RL (oJ g) ds vs → RL (kL h) l vs
  | [],l,vs,h,hr=>by
    simp only[nH,bJ] at h;subst h;cases vs with
    | nil=>trivial
    | cons=>exact hr.elim
  | d :: ds,l,[],h,hr=>hr.elim
  | .one (.c (.p p)) :: ds,l,v :: vs,h,hr=>by
    simp only[nH] at h;split at h
    · rename_i l' hl';simp only[bJ] at h;subst h;refine⟨?_,LX hg hl' hr.2⟩;have:=hr.1;rw[<- hg];exact this
    · cases h
  | .one (.agg cs) :: ds,l,v :: vs,h,hr=>by
    simp only[nH] at h;split at h
    · rename_i l' m' hc hm';simp only[bJ] at h;subst h;refine⟨?_,LX hg hm' hr.2⟩;obtain⟨us,rfl,hus⟩:=hr.1;rw[kY hc] at hus;have:=RL.map_left.1 hus;exact⟨us,rfl,by rw[<- hg];exact this⟩
    · cases h
  | .one (.c (.ptr _ _)) :: ds,l,v :: vs,h,hr=>by simp[nH] at h
  | .one (.c (.vptr _ _ _ _)) :: ds,l,v :: vs,h,hr=>by simp[nH] at h
  | .one (.c (.vec _)) :: ds,l,v :: vs,h,hr=>by simp[nH] at h
  | .one (.c .undef) :: ds,l,v :: vs,h,hr=>by simp[nH] at h
  | .one (.c .junk) :: ds,l,v :: vs,h,hr=>by simp[nH] at h
  | .one (.c (.dead _)) :: ds,l,v :: vs,h,hr=>by simp[nH] at h
  | .tup _ :: ds,l,v :: vs,h,hr=>by simp[nH] at h

variable (J Jx:List (List PA)->Fz->World->Prop)

def JQ (q:Bool) (ys:List (List PA)) (h:Fz) (w:World):Prop :=
 match q with
 | false=>J ys h w
 | true=>∃ rest,Jx rest h w

structure YI (l : Nat) (a : Act) : Prop where
  d:a.defers=[]
  y:a.tmps.getD 0 undef=.func (.yield l) #[] #[]
theorem YI.put {l:Nat}{a:Act}(h:YI l a){dst:Option Nat}(hd:dst ≠ some 0){v:Value}{ds:List Deferred}(hds:(({ a with defers:=ds } : Act).put dst v).defers=[]):YI l (({ a with defers:=ds } : Act).put dst v):=by
 refine⟨hds,?_⟩;cases dst with
 | none=>exact h.y
 | some t =>
  have ht:t ≠ 0:=λ e=>hd (by rw[e]);have:=h.y;simpa [Act.put,rE,Array.getElem?_setIfInBounds_ne ht] using this
def WL (P:Program) (nt l:Nat) (hs:Fz) (K:YK):Exit->Act->World->Prop :=
 λ e a' w'=>∃ ys q σ w0 h0 g,K e ys q σ/\bU P nt w0.heap.size w0 h0 g σ a' w'/\iP hs h0/\JQ J Jx q ys h0 w0/\YI l a'

variable {J Jx}
theorem JQ.later {q:Bool}{ys:List (List PA)}{h0:Fz}{w0:World}{g:Gh}{σ:St}{a:Act}{w:World}(hJ:JSt J) (hJx:JSt Jx) (h:JQ J Jx q ys h0 w0) (S:bU P nt w0.heap.size w0 h0 g σ a w):JQ J Jx q ys g.h w:=by
 cases q with
 | false=>exact hJ _ _ _ _ _ h S.le0 S.hw S.hn S.below
 | true=>obtain⟨rest,h⟩:=h;exact⟨rest,hJx _ _ _ _ _ h S.le0 S.hw S.hn S.below⟩

def YH (P:Program) (J Jx:List (List PA)->Fz->World->Prop) (l:Nat):Prop :=
 ∀ y rest h W us,J (y :: rest) h W->RL (kL h) y us->Hw h W->∀ n,∃ fn tmps assign body,(Instr.yield l us.toArray).run P W=.ok (.round l fn tmps assign body) W /\
   RoundIn Fence.wide n P l fn tmps assign body W λ e W'=>∃ h',iP h h'/\Hw h' W'/\((e=.returned (.bool true)/\J rest h' W')\/(e=.returned (.bool false)/\Jx rest h' W'))

theorem nP {kl : List Nat} {l : List (Nat × DV)} : ∀ {ks : List Nat} {t : Nat} {d : DV}, lk (rH kl l ks) t = some d → lk l t = some d ∧ ∀ L ∈ bY d, L ∈ kl
  | [],t,d,h=>by simp[rH,lk] at h
  | k :: ks,t,d,h=>by
    simp only[rH] at h;split at h
    · rename_i d' hd';split at h
      · rename_i hl;rw[aV] at h;split at h
        · rename_i e;simp only[bJ] at h;subst h;subst e;refine⟨hd',λ L hL=>?_⟩;have:=List.all_eq_true.1 hl L hL;simpa using this
        · exact nP h
      · exact nP h
    · exact nP h

theorem FV {ob : Nat → Option AO} : ∀ {ks : List Nat} {x : Nat × AO}, x ∈ Jy ob ks → ∃ l, ob x.1 = some (.fbox l) ∧ x.2 = .fbox l
  | [],x,h=>by simp[Jy] at h
  | k :: ks,x,h=>by
    simp only[Jy] at h;split at h
    · rename_i l hk;rcases jf.1 h with rfl | h
      · exact⟨l,hk,rfl⟩
      · exact FV h
    · exact FV h
theorem yI {σ:St}{L:Nat}{o:AO}(h:lk (En σ) L=some o):∃ l,o=.fbox l/\lk (zW (lk σ.aB) (σ.aB.map (·.1)) ++ σ.aB) L=some (.fbox l):=by
 unfold En at h;rw[fC] at h ⊢;cases hb:lk (zW (lk σ.aB) (σ.aB.map (·.1))) L with
 | some x =>
  rw[hb] at h;simp only[bJ] at h;subst h;obtain⟨ty,cells,l,_,h2,_⟩:=yC (dY hb);have h2:x=.fbox l:=h2;subst h2;exact⟨l,rfl,rfl⟩
 | none =>
  rw[hb] at h;simp only at h;obtain⟨l,h1,h2⟩:=FV (dY h);exact⟨l,h2,h1⟩
theorem uQ {α : Type} : ∀ {l : List (Nat × α)} {L : Nat}, L ∈ l.map (·.1) → ∃ o, lk l L = some o
  | [],L,h=>by simp at h
  | (k,a) :: r,L,h=>by
    rw[aV];split
    · exact⟨a,rfl⟩
    · rename_i hne;simp only[nG,jf] at h;rcases h with rfl | h
      · exact absurd rfl hne
      · exact uQ h

theorem zcI {σ : St} {o : Oper} {args : Array Operand} {t : Nat} (h : zgP σ o = some (args, t)) :
  ∃ f ts,o.op=.call { callee:=.value f,args,argTypes:=ts }/\o.dst=some t/\eH σ.env f=.cl (.vec OD)/\lk σ.env 0=some (.cl (.vec OD)):=by
 unfold zgP at h;split at h
 ·rename_i f az ts t' hop hd;split at h
  ·rename_i hl;split at h
   ·rename_i h0;simp only[bJ,eF] at h;obtain⟨rfl,rfl⟩:=h;exact⟨f,ts,hop,hd,hl,h0⟩
   ·cases h
  ·cases h
 ·cases h

theorem WM {σ:St}{L:Nat}{o:AO}(h:lk ((OD,AO.gone) :: En σ) L=some o):(L=OD/\o=.gone)\/lk (En σ) L=some o:=by
 rw[aV] at h;split at h
 ·rename_i e;simp only[bJ] at h;exact .inl ⟨e.symm,h.symm⟩
 ·exact .inr h
theorem LY (hok : iE P Γ) {l : Nat} (hJ : JSt J) (hJx : JSt Jx) (hY : YH P J Jx l) {hs : Fz} {ops : Array Oper} {K : List (List PA) → Bool → St → Prop} {Q : Exit → Act → World → Prop}
    (hQ:∀ ys q σ w0 h0 g a w,K ys q σ->bU P nt w0.heap.size w0 h0 g σ a w->iP hs h0->JQ J Jx q ys h0 w0->YI l a->Q .normal a w) :
    ∀ (lo:List Oper) (i:Nat) (ys:List (List PA)) (q:Bool) (σ:St) (w0:World) (h0:Fz) (g:Gh) (a:Act) (w:World),(∀ j,lo[j]? = ops[i+j]?)->(∀ o∈lo,o.dst ≠ some 0)->jy P Γ nt ops lo K ys q σ ->
      bU P nt w0.heap.size w0 h0 g σ a w->iP hs h0->JQ J Jx q ys h0 w0->YI l a->wpOpsIn (FR none) n P ops Q (List.range' i lo.length) a w:=by
  intro lo
  induction lo with
  | nil=>intro i ys q σ w0 h0 g a w _ _ h S hle hj hd;exact hQ ys q σ w0 h0 g a w h S hle hj hd
  | cons o lo ih =>
    intro i ys q σ w0 h0 g a w hl hz h S hle hj hdf;have hz0:=hz o kR;have hz':∀ o∈lo,o.dst ≠ some 0:=λ o ho=>hz o (je _ ho);have ho:ops[i]? = some o:=by have:=hl 0;simpa using this.symm
    have hl':∀ j,lo[j]? = ops[i+1+j]?:=λ j=>by have:=hl (j+1);rw[SC] at this;rw[this];congr 1;omega
    simp only[Oi,List.range'_succ,wpOpsIn,ho];have run:∀ (σ:St),bU P nt w0.heap.size w0 h0 g σ a w->rJ P Γ nt o (jy P Γ nt ops lo K) ys q σ->o.wpIn (FR none) n P a w (wpOpsIn (FR none) n P ops Q (List.range' (i+1) lo.length)) Q:=by
      clear h S;intro σ S h;unfold rJ at h;split at h
      · rename_i args t hyl;obtain⟨f,ts,hop,hdst,hf,hf0⟩:=zcI hyl;split at h
        · rename_i y hy ht;obtain⟨rest,rfl,htr,hfa⟩:=h;have hfv:a.eval f=.func (.yield l) #[] #[]:=by
            have h1:oJ g _ (a.eval f):=S.ev f;rw[hf] at h1;have h2:=S.env 0 _ hf0;rw[hdf.y] at h2;have h1:a.eval f=g.sv OD/\_:=h1;have h2:Value.func (.yield l) #[] #[]=g.sv OD/\_:=h2;exact h1.1.trans h2.1.symm
          · obtain ⟨h1, S1, _⟩ := S.freeze (PK (ob := lk σ.aB) (ks := σ.aB.map (·.1)));have hJn:J (y :: rest) h1 w:=hj.later hJ hJx S1;have hus:RL (kL h1) y (args.toList.map a.eval):=LX (g:=⟨h1,g.bk,g.sv,g.iv⟩) rfl hy (BF S1 args.toList);obtain⟨fn,tmps,x,c,hrun,zn3⟩:=hY y rest h1 w _ hJn hus S1.hw (n - 1);refine zcH (by simp[hop]) (l:=l) (f:=fn) (tmps:=tmps) (x:=x) (y:=c) (w':=w) ?_ (zn3.mono ?_)
            · simp only [execOp, hop, resolve, hfv, Deferred.ofValue, fD, iT, fM, invoke];rw[show (#[] ++ Array.map a.eval args)=(args.toList.map a.eval).toArray by cases args;simp];exact hrun
            · have hto : dE nt (some t) = true := ht
              have next:∀ (b:Bool) (h':Fz) (W':World),iP h1 h'->Hw h' W'->JQ J Jx (!b) rest h' W'->jy P Γ nt ops lo K rest (!b) ((vF σ).setT t (.bool b)) ->
                  wpOpsIn (FR none) n P ops Q (List.range' (i+1) lo.length) (a.put o.dst (.bool b)) W':=by
                intro b h' W' fP hw' hj' hv';have S0:bU P nt W'.heap.size W' h' ⟨h',g.bk,g.sv,g.iv⟩ (vF σ) a W':=by
                  refine⟨by rw[hdf.d];exact Marks.nil _ _,S.size,?_,λ L o ho=>?_,λ L o b ho hob=>?_,λ L o b L' o' ho ho' hob fO=>?_,hw',λ _ _ h=>h,λ b o h=>.inl h,tN.refl _ _ _,iZ _,?_,λ L o ho M hM=>?_⟩
                  · intro u d hu;obtain⟨h2,_⟩:=nP hu;exact OO (g:=⟨h1,g.bk,g.sv,g.iv⟩) (g':=⟨h',g.bk,g.sv,g.iv⟩) (λ L hL=>⟨rfl,rfl,rfl⟩) fP (S1.env u d h2)
                  · rcases WM ho with ⟨_, rfl⟩ | ho
                    · trivial
                    obtain⟨l,rfl,h2⟩:=yI ho;obtain⟨C,ty,fr,hC,hr⟩:=S1.obj L _ h2;exact⟨C,ty,fr,fP _ _ hC,hr.mono λ _ _=>Rep.mono fP⟩
                  · rcases WM ho with ⟨_, rfl⟩ | ho
                    · exact hob.elim
                    obtain⟨l,rfl,_⟩:=yI ho;exact hob.elim
                  · rcases WM ho with ⟨_, rfl⟩ | ho
                    · exact hob.elim
                    obtain⟨l,rfl,_⟩:=yI ho;exact hob.elim
                  · intro u d hu L hL;exact uQ (l:=(OD,AO.gone) :: En σ) ((nP hu).2 L hL)
                  · rcases WM ho with ⟨_, rfl⟩ | ho
                    · simp[dJ] at hM
                    obtain⟨l,rfl,_⟩:=yI ho;simp[dJ] at hM
                have S2:=S0.put (dst:=some t) (d:=.bool b) (v:=.bool b) hto (.bool b) (iV _) [];rw[hdst];exact ih (i+1) rest (!b) _ W' h' _ _ W' hl' hz' hv' S2 (λ b o hb=>fP b o (S1.le0 b o (hle b o hb))) hj' (hdf.put (ds:=a.defers) (hdst ▸ hz0) ((put_defers _ _ _).trans hdf.d))
              rintro e W' ⟨h',fP,hw',(⟨rfl,hj'⟩ | ⟨rfl,hj'⟩)⟩
              · exact⟨_,rfl,next true h' W' fP hw' hj' htr⟩
              · exact⟨_,rfl,next false h' W' fP hw' ⟨rest,hj'⟩ hfa⟩
        · exact h.elim
      · split at h
        · rename_i hd;obtain⟨hs',hk⟩:=Aa.1 h;refine Lu (TF (Ai (i:=0) (Q:=Q) (r:=none) (n:=n) hok S hd rfl hs')) ?_;rintro a' w' ⟨⟨zDV,g',σ',hst,S'⟩,v,ds,rfl⟩;exact ih (i+1) ys q _ w0 h0 g' _ w' hl' hz' (hk σ' hst) (S'.log _) hle hj (hdf.put hz0 (zDV.trans hdf.d))
        · exact h.elim
    have skp:∀ (σ:St),dE nt o.dst=true->bU P nt w0.heap.size w0 h0 g σ a w->jy P Γ nt ops lo K ys q (σ.skip o.dst)->wpOpsIn (FR none) n P ops Q (List.range' (i+1) lo.length) (a.put o.dst undef) w:=by
      intro σ hd S h;exact ih (i+1) ys q _ w0 h0 g _ w hl' hz' h (S.skip hd) hle hj (hdf.put (ds:=a.defers) hz0 ((put_defers _ _ _).trans hdf.d))
    simp only[jy] at h;split at h
    · rename_i hg;rw[if_pos (by simp[Region.wanted,hg])];exact run σ S h
    · rename_i j want hg;split at h
      · rename_i gt hd hgt;split at h
        · rename_i b hb;have hv:a.tmps.getD gt undef=.bool b:=by
            have:=S.env gt _ hb;generalize a.tmps.getD gt undef=v at this;cases this;rfl
          have hy:=rU hgt hv;have S1:∀ c,b=c->bU P nt w0.heap.size w0 h0 g (σ.setT gt (.bool c)) a w:=by
            intro c hc;refine S.env' (t:=gt) (d:=.bool c) ?_ (iV _);rw[hv,hc];exact .bool c
          have h2:=mX.1 h;cases b with
          | true =>
            have h3:=h2.1 rfl;cases want with
            | true=>rw[if_pos (by simp[Region.wanted,hg,hy])];exact run _ (S1 true rfl) h3
            | false=>rw[if_neg (by simp[Region.wanted,hg,hy])];exact⟨λ _ _=>trivial,skp _ hd (S1 true rfl) h3⟩
          | false =>
            have h3:=h2.2 rfl;cases want with
            | true=>rw[if_neg (by simp[Region.wanted,hg,hy])];exact⟨λ _ _=>trivial,skp _ hd (S1 false rfl) h3⟩
            | false=>rw[if_pos (by simp[Region.wanted,hg,hy])];exact run _ (S1 false rfl) h3
        · rename_i hb;have hv:a.tmps.getD gt undef=undef:=S.env gt _ hb;have hy:=pM hgt hv;rw[if_neg (by simp[Region.wanted,hg,hy])];exact⟨λ _ _=>trivial,skp _ hd S h⟩
        · exact h.elim
      · exact h.elim

theorem zhr:∀ {l:List Oper}{o:Oper}{t:Nat},o∈l->o.dst=some t->t∈zY l:=fun {l} _ _ h e=>by
 obtain⟨j,hj⟩:=List.getElem?_of_mem h;exact FQ hj e
theorem YS (hok:iE P Γ) (aT:bW){l:Nat}(hJ:JSt J) (hJx:JSt Jx) (hY:YH P J Jx l){hs:Fz} : ∀ (c:Code) (K:YK) (ys:List (List PA)) (q:Bool) (σ:St) (w0:World) (h0:Fz) (g:Gh) (a:Act) (w:World),
  KY P Γ aT c K ys q σ->bU P aT.nt w0.heap.size w0 h0 g σ a w->iP hs h0->JQ J Jx q ys h0 w0->YI l a->c.wpIn (FR none) n P (WL J Jx P aT.nt l hs K) a w:=by
 intro c
 induction c with
 | skip=>intro K ys q σ w0 h0 g a w h S hle hj hd;exact wpIn_skip ⟨ys,q,σ,w0,h0,g,h,S,hle,hj,hd⟩
 | region id ops draw =>
  intro K ys q σ w0 h0 g a w h S hle hj hd;simp only[KY] at h;split at h
  ·exact h.elim
  ·-- a region that yields
   rename_i hz _;refine wpIn_region ?_;have:=LY (n:=n) hok hJ hJx hY (hs:=hs) (ops:=ops) (Q:=WL J Jx P aT.nt l hs K) (λ ys q σ w0 h0 g a w h S hle hj hd=>?_) ops.toList 0 ys q _ w0 h0 g a w (λ j=>by simp) (λ o ho e=>by have:=zhr ho e;simp at hz;exact hz this) h (S.log _) hle hj hd
   ·rw [List.range_eq_range'];simpa using this
   ·split at h
    ·split at h
     ·rename_i s hs';obtain⟨g2,S2⟩:=dP hs' S;exact⟨ys,q,s,w0,h0,g2,h,S2,hle,hj,hd⟩
     ·exact h.elim
    ·exact⟨ys,q,_,w0,h0,g,h,S.log _,hle,hj,hd⟩
  ·exact h.elim
  ·rename_i hz _;exact Kt (r:=none) (n:=n) hok aT (D:=zY ops.toList) (a0:=a) (λ _ h=>h) h S (Kp.refl _ _) λ g' σ' a' w' hK S' hk hdf=>⟨ys,q,σ',w0,h0,g',hK,S',hle,hj,hdf.trans hd.d,(hk.1 0 (by simpa using hz)).trans hd.y⟩
 | seq x y ihx Sv =>
  intro K ys q σ w0 h0 g a w h S hle hj hd;refine wpIn_seq (wpIn_mono (ihx _ ys q σ w0 h0 g a w h S hle hj hd) ?_);rintro e a' w' ⟨ys',q',σ',w1,h1,g',hK,S',fP,hj',hd'⟩;cases e with
  | normal =>
   simp only[znB,znD] at hK;split at hK
   ·split at hK
    ·rename_i s hs;obtain⟨g2,S2⟩:=dP hs S';exact Sv K ys' q' s w1 h1 g2 a' w' hK S2 fP hj' hd'
    ·exact hK.elim
   ·exact Sv K ys' q' σ' w1 h1 g' a' w' hK S' fP hj' hd'
  | exit id=>exact⟨ys',q',σ',w1,h1,g',hK,S',fP,hj',hd'⟩
  | goto l=>exact⟨ys',q',σ',w1,h1,g',hK,S',fP,hj',hd'⟩
  | ret=>exact⟨ys',q',σ',w1,h1,g',hK,S',fP,hj',hd'⟩
  | panic ch=>exact⟨ys',q',σ',w1,h1,g',hK,S',fP,hj',hd'⟩
  | outgrown=>exact⟨ys',q',σ',w1,h1,g',hK,S',fP,hj',hd'⟩
 | cond c x y ihx Sv =>
  intro K ys q σ w0 h0 g a w h S hle hj hd;simp only[KY] at h;split at h
  ·rename_i t ht;have hv:=qH S ht;have hS:∀ b,t=b->bU P aT.nt w0.heap.size w0 h0 g (tK σ c b) a w:=by
    intro b hb;cases c with
    | tmp q =>
     refine S.env' (t:=q) (d:=.bool b) ?_ (iV _);have:a.tmps.getD q undef=.bool t:=hv;rw[this,hb];exact .bool b
    | _=>exact S
   have h2:=mX.1 h;refine wpIn_cond hv ?_;cases t with
   | true=>exact ihx K ys q _ w0 h0 g a w (h2.1 rfl) (hS true rfl) hle hj hd
   | false=>exact Sv K ys q _ w0 h0 g a w (h2.2 rfl) (hS false rfl) hle hj hd
  ·exact h.elim
 | block id b ih =>
  intro K ys q σ w0 h0 g a w h S hle hj hd;refine wpIn_block (wpIn_mono (ih _ ys q σ w0 h0 g a w h S hle hj hd) ?_);rintro e a' w' ⟨ys',q',σ',w1,h1,g',hK,S',fP,hj',hd'⟩;cases e with
  | exit j =>
   simp only[SS] at hK;simp only[Exit.inBlock];split at hK
   ·rename_i hj;rw[if_pos (jb hj)];exact⟨ys',q',σ',w1,h1,g',hK,S',fP,hj',hd'⟩
   ·rename_i hj;rw[if_neg (Nat.ne_of_beq_eq_false hj)];exact⟨ys',q',σ',w1,h1,g',hK,S',fP,hj',hd'⟩
  | normal=>exact⟨ys',q',σ',w1,h1,g',hK,S',fP,hj',hd'⟩
  | goto l=>exact⟨ys',q',σ',w1,h1,g',hK,S',fP,hj',hd'⟩
  | ret=>exact⟨ys',q',σ',w1,h1,g',hK,S',fP,hj',hd'⟩
  | panic ch=>exact⟨ys',q',σ',w1,h1,g',hK,S',fP,hj',hd'⟩
  | outgrown=>exact⟨ys',q',σ',w1,h1,g',hK,S',fP,hj',hd'⟩
 | loop b ih =>
  intro K ys q σ w0 h0 g a w h S hle hj hd;simp only[KY] at h;split at h
  ·rename_i k hk;split at h
   ·rename_i s hs';obtain⟨g1,S1⟩:=dP hs' S;refine oU ?_;have key:=h (λ ys q s=>∀ w0 h0 g a w,bU P aT.nt w0.heap.size w0 h0 g s a w->iP hs h0->JQ J Jx q ys h0 w0->YI l a->FP (FR none) n P b (WL J Jx P aT.nt l hs K) a w) ?_
    ·exact key w0 h0 g1 a w S1 hle hj hd
    ·intro ys q s hs2 w0 h0 g a w S hle hj hd;refine oV (wpIn_mono (ih _ ys q s w0 h0 g a w hs2 S hle hj hd) ?_);rintro e a' w' ⟨ys',q',σ',w1,h1,g',hK,S',fP,hj',hd'⟩;cases e with
     | normal =>
      simp only[zbM,hk] at hK;split at hK
      ·rename_i s2 hs2;obtain⟨g2,S2⟩:=dP hs2 S';exact hK w1 h1 g2 a' w' S2 fP hj' hd'
      ·exact hK.elim
     | exit id=>exact⟨ys',q',σ',w1,h1,g',hK,S',fP,hj',hd'⟩
     | goto l=>exact⟨ys',q',σ',w1,h1,g',hK,S',fP,hj',hd'⟩
     | ret=>exact⟨ys',q',σ',w1,h1,g',hK,S',fP,hj',hd'⟩
     | panic ch=>exact⟨ys',q',σ',w1,h1,g',hK,S',fP,hj',hd'⟩
     | outgrown=>exact⟨ys',q',σ',w1,h1,g',hK,S',fP,hj',hd'⟩
   ·exact h.elim
  ·split at h
   ·rename_i m k hk
    have key:∀ (m:Nat) (ys:List (List PA)) (q:Bool) (σ:St) (w0:World) (h0:Fz) (g:Gh) (a:Act) (w:World),Jz P k (KY P Γ aT b) m K ys q σ->bU P aT.nt w0.heap.size w0 h0 g σ a w->iP hs h0->JQ J Jx q ys h0 w0->YI l a ->
      FP (FR none) n P b (WL J Jx P aT.nt l hs K) a w:=by
     intro m
     induction m with
     | zero=>intro ys q σ w0 h0 g a w h;exact h.elim
     | succ m ihm =>
      intro ys q σ w0 h0 g a w h S hle hj hd;simp only[Jz] at h;split at h
      ·rename_i s hs';obtain⟨g1,S1⟩:=dP hs' S;refine oV (wpIn_mono (ih _ ys q s w0 h0 g1 a w h S1 hle hj hd) ?_);rintro e a' w' ⟨ys',q',σ',w1,h1,g',hK,S',fP,hj',hd'⟩;cases e with
       | normal=>exact ihm ys' q' σ' w1 h1 g' a' w' hK S' fP hj' hd'
       | exit id=>exact⟨ys',q',σ',w1,h1,g',hK,S',fP,hj',hd'⟩
       | goto l=>exact⟨ys',q',σ',w1,h1,g',hK,S',fP,hj',hd'⟩
       | ret=>exact⟨ys',q',σ',w1,h1,g',hK,S',fP,hj',hd'⟩
       | panic ch=>exact⟨ys',q',σ',w1,h1,g',hK,S',fP,hj',hd'⟩
       | outgrown=>exact⟨ys',q',σ',w1,h1,g',hK,S',fP,hj',hd'⟩
      ·exact h.elim
    exact oU (key m ys q σ w0 h0 g a w h S hle hj hd)
   ·exact h.elim
 | exit id=>intro K ys q σ w0 h0 g a w h S hle hj hd;exact wpIn_exit ⟨ys,q,σ,w0,h0,g,h,S,hle,hj,hd⟩
 | scope b ih =>
  intro K ys q σ w0 h0 g a w h S hle hj hd;refine FO (wpIn_mono (ih _ ys q σ w0 h0 g a w h S hle hj hd) ?_);rintro e a' w' ⟨ys',q',σ',w1,h1,g',hK,S',fP,hj',hd'⟩;cases e with
  | goto l=>exact hK
  | normal=>exact⟨ys',q',σ',w1,h1,g',hK,S',fP,hj',hd'⟩
  | exit l=>exact⟨ys',q',σ',w1,h1,g',hK,S',fP,hj',hd'⟩
  | ret=>exact⟨ys',q',σ',w1,h1,g',hK,S',fP,hj',hd'⟩
  | panic ch=>exact⟨ys',q',σ',w1,h1,g',hK,S',fP,hj',hd'⟩
  | outgrown=>exact⟨ys',q',σ',w1,h1,g',hK,S',fP,hj',hd'⟩
 | label l=>intro K ys q σ w0 h0 g a w h S hle hj hd;exact wpIn_label ⟨ys,q,σ,w0,h0,g,h,S,hle,hj,hd⟩
 | ret=>intro K ys q σ w0 h0 g a w h S hle hj hd;exact wpIn_ret ⟨ys,q,σ,w0,h0,g,h,S,hle,hj,hd⟩
 | rangeFunc f ps x y _ _=>intro K ys q σ w0 h0 g a w h S;exact h.elim
 | goto l=>intro K ys q σ w0 h0 g a w h S;exact h.elim
 | refuse s=>intro K ys q σ w0 h0 g a w h S;exact h.elim

theorem zcJ {v:Value}{vs:List Value}{m:Nat} : ((v :: vs).toArray ++ Array.replicate m undef).getD 0 undef=v:=by
 rw[rE,Array.getElem?_append_left (by simp)];simp
theorem zn4 {nt l : Nat} {args : List PA} {w : World} {h0 : Fz} {vs : List Value} {m : Nat} (hnt : nt = m) (hlen : args.length + 1 ≤ nt) (hvs : RL (kL h0) args vs) (hfz : Hw h0 w) :
  bU P nt w.heap.size w h0 ⟨h0,λ _=>0,λ _=>.func (.yield l) #[] #[],λ _ _=>undef⟩ ⟨(0,.cl (.vec OD)) :: gQ 1 args,[(OD,.gone)],[]⟩ { tmps:=(.func (.yield l) #[] #[] :: vs).toArray ++ Array.replicate (m - (.func (.yield l) #[] #[] :: vs).toArray.size) undef,defers:=[] } w:=by
 have hl:=hvs.length;have ho:∀ {L:Nat} {o:AO},lk [(OD,AO.gone)] L=some o->o=.gone:=fun {L o} h=>by
  rw[aV] at h;split at h
  ·simp only[bJ] at h;exact h.symm
  ·simp[lk] at h
 refine⟨Marks.nil _ _,by simp;omega,?_,λ L o h=>by rw[ho h];trivial,λ L o b h hb=>by rw[ho h] at hb;exact hb.elim,λ L o b L' o' h h' hb=>by rw[ho h] at hb;exact hb.elim,hfz,λ _ _ h=>h,λ b o h=>.inl h,tN.refl _ _ _,iZ _,?_,λ L o h M hM=>by rw[ho h] at hM;simp[dJ] at hM⟩
 ·intro t d ht;rw[aV] at ht;split at ht
  ·rename_i e; subst e;simp only[bJ] at ht;subst ht;rw[zcJ];exact⟨rfl,rfl⟩
  ·obtain ⟨x, hx, hle, rfl⟩ := ny args 1 t d ht;obtain⟨v,hv,hxv⟩:=hvs.get (t - 1) x hx;have hlt:=(wW.1 hv).1;have:((.func (.yield l) #[] #[] :: vs).toArray ++ Array.replicate (m - (.func (.yield l) #[] #[] :: vs).toArray.size) undef).getD t undef=v:=by
    rw[rE,Array.getElem?_append_left (by simp;omega)];obtain⟨k,rfl⟩:∃ k,t=k+1:=⟨t - 1,by omega⟩;have hv:vs[k]? = some v:=hv;simp[hv]
   rw[this];exact ET (g:=⟨h0,λ _=>0,λ _=>.func (.yield l) #[] #[],λ _ _=>undef⟩) hxv
 ·intro t d ht L hL;rw[aV] at ht;split at ht
  ·simp only [bJ] at ht; subst ht;have e:L=OD:=by simpa [bY,cZ,bi] using hL
   subst e;exact⟨.gone,rfl⟩
  ·obtain ⟨x, hx, _, rfl⟩ := ny args 1 t d ht;rw[show bY (.one (Dc x))=cZ (Dc x) from rfl,rQ] at hL;simp at hL

theorem zcK {G : aX} (hok : iE P G) {f : FuncId} {C : List PA → ae (List (List PA))} (hc : dA P f)
    (h:∀ caps ys,(C caps).o=some ys->∃ vv aT,KZ P { G with vv:=vv } aT f caps ys):qB P f C:=by
  intro caps ys hC l J Jx w h0 vs hJ hJx hY hj0 hvs hfz;refine⟨hc,?_⟩;obtain⟨vv,aT,hv⟩:=h caps ys hC;unfold KZ at hv;split at hv
  · rename_i fn hfn;split at hv
    · rename_i c hbody;split at hv
      · rename_i hnt;simp only[fE,Nat.ble_eq] at hnt;obtain⟨⟨hnt,hlen⟩,hres⟩:=hnt;have S:=zn4 (P:=P) (l:=l) (args:=caps) (vs:=vs) (h0:=h0) (w:=w) (jb hnt) (by simpa using hlen) hvs hfz;have hwp:=YS (n:=0) (Γ:={ G with vv:=vv }) (J:=J) (Jx:=Jx) (hs:=h0) ⟨hok.mt,hok.fn,hok.own,hok.it,hok.cmp⟩ aT (l:=l) hJ hJx hY c _ ys false _ w h0 _ _ w hv S (λ _ _ h=>h) hj0 ⟨rfl,zcJ⟩;refine (callsIn_wide (n:=0)).1 ?_;refine callsIn_of_wp (F:=FR none) hfn hbody trivial (wpIn_mono hwp ?_);rintro e a' w' ⟨ys',q',σ',w1,h1,g',hK,S',hle,hj,hd⟩;have fin:zbN ys' q'->a'.defers=[]/\∃ v,(results fn a'.tmps).run P w'=.ok v w'/\∃ v2 h',Ending.returned v=.returned v2/\iP h0 h'/\Hw h' w'/\(J [] h' w'\/∃ rest,Jx rest h' w'):=by
          intro hf;have hr:fn.results = #[]:=by simpa using hres
          refine⟨hd.d,.tuple #[],?_,_,g'.h,rfl,λ b o hb=>S'.le0 b o (hle b o hb),S'.hw,?_⟩
          · simp[results,hr]
          · have := hj.later hJ hJx S';cases q' with
            | false=>simp only[zbN] at hf;subst hf;exact .inl this
            | true=>exact .inr this
        cases e with
        | normal=>exact fin hK
        | ret=>exact fin hK
        | exit id=>exact hK.elim
        | goto l=>exact hK.elim
        | panic ch=>exact hK.elim
        | outgrown=>exact hK.elim
      · exact hv.elim
    · exact hv.elim
  · exact hv.elim

def TW (n s:Nat) (get:Nat->List PV) (rs:List PV) (r:List PA):Prop:=r=.one (.sl n s get) :: rs.map .one
theorem YT {G : aX} (hok : iE P G) {f : FuncId} {e s b : Nat} {F : List PA → ae (Nat × (Nat → List PV) × List PV)} (hc : dA P f)
    (h:∀ az n get rs,(F az).o=some (n,get,rs)->∃ vv aT,VQ P { G with vv:=vv } aT f az e s b (TW n s get rs)):dX P f (.mkv e s b F):=by
  intro w h0 az vs n get rs hF hvs hfz;refine⟨hc,?_⟩;obtain⟨vv,aT,hv'⟩:=h az n get rs hF;unfold VQ at hv';split at hv'
  · rename_i fn hfn;split at hv'
    · rename_i c hbody;split at hv'
      · rename_i hnt;simp only[fE,Nat.ble_eq] at hnt;refine Kv (G:={ G with vv:=vv }) ⟨hok.mt,hok.fn,hok.own,hok.it,hok.cmp⟩ (Kx:=λ fn=>zbL fn e s b (TW n s get rs)) (vs:=vs) hfn hbody (jb hnt.1) hnt.2 hv' hvs hfz ?_;intro ex σ' g' a' w' hK' S'
        have fin:Jw fn e s b (TW n s get rs) σ'->∃ v,(results fn a'.tmps).run P w'=.ok v w'/\∃ (h':Fz) (v':Value) (xs:List Value),Ending.returned v=.returned (OG v' xs rs)/\RL (Rep h') rs xs/\v'.oneCell'=true/\pq get /\
            wB h' w' w.heap.size e s v' n get/\(∀ k,v'.ownBlock=some k->h' k=none)/\tN h0 w.heap.size w w'/\iP h0 h'/\Hw h' w'/\∀ b o,h' b=some o->h0 b=some o\/w.heap.size<=b:=by
          intro hf;unfold Jw at hf;split at hf
          · rename_i t hres;have hr:fn.results = #[.tmp t]:=by rw[<- Array.toArray_toList (xs:=fn.results),hres]
            have hrun:(results fn a'.tmps).run P w'=.ok (a'.tmps.getD t undef) w':=by
              simp only[results,hr];simp
            split at hf
            · rename_i L ht;split at hf
              · rename_i e' s' b' m get' hob;split at hf
                · rename_i hb;simp only[fE] at hb;have e1:=jb hb.1;have e2:=jb hb.2.1;subst e1 e2;obtain⟨htv,hone⟩:=S'.env t _ ht;obtain⟨hpos,hinfo,ys,hys,hrr⟩:=S'.obj L _ hob;unfold TW at hf;cases rs with
                  | nil =>
                    simp only[List.map_nil,Bq,PA.one.injEq,PV.sl.injEq,and_true] at hf;obtain⟨rfl,_,rfl⟩:=hf;exact⟨_,hrun,g'.h,g'.sv L,[],by rw[htv];rfl,trivial,by rw[<- htv];exact hone,hpos.1,⟨ys,hys,hrr⟩,λ k hk=>(S'.own L _ k hob hk).2,S'.below,S'.le0,S'.hw,S'.hn⟩
                  | cons x l=>simp at hf
                · exact hf.elim
              · exact hf.elim
            · exact hf.elim
          · rename_i t u hres;have hr:fn.results = #[.tmp t,.tmp u]:=by rw[<- Array.toArray_toList (xs:=fn.results),hres]
            have hrun:(results fn a'.tmps).run P w'=.ok (.tuple #[a'.tmps.getD t undef,a'.tmps.getD u undef]) w':=by
              simp only[results,hr];simp
            split at hf
            · rename_i L ht;split at hf
              · rename_i x hu;split at hf
                · rename_i e' s' b' m get' hob;split at hf
                  · rename_i hb;simp only[fE] at hb;have e1:=jb hb.1;have e2:=jb hb.2.1;subst e1 e2;obtain⟨htv,hone⟩:=S'.env t _ ht;have huv:=S'.env u _ hu;obtain⟨hpos,hinfo,ys,hys,hrr⟩:=S'.obj L _ hob;unfold TW at hf
                    match rs,hf with
                    | [y],hf =>
                      simp only[nG,List.map_nil,Bq,PA.one.injEq,PV.sl.injEq,and_true] at hf;obtain⟨⟨rfl,_,rfl⟩,rfl⟩:=hf;exact⟨_,hrun,g'.h,g'.sv L,[a'.tmps.getD u undef],by rw[<- htv];rfl,⟨huv,trivial⟩,by rw[<- htv];exact hone,hpos.1,⟨ys,hys,hrr⟩,λ k hk=>(S'.own L _ k hob hk).2,S'.below,S'.le0,S'.hw,S'.hn⟩
                    | [],hf=>simp at hf
                    | _ :: _ :: _,hf=>simp at hf
                  · exact hf.elim
                · exact hf.elim
              · exact hf.elim
            · exact hf.elim
          · exact hf.elim
        cases ex with
        | normal=>exact⟨.inl rfl,fin hK'⟩
        | ret=>exact⟨.inr rfl,fin hK'⟩
        | exit id=>exact hK'.elim
        | goto l=>exact hK'.elim
        | panic ch=>exact hK'.elim
        | outgrown=>exact hK'.elim
      · exact hv'.elim
    · exact hv'.elim
  · exact hv'.elim
end
end Go.Pm
namespace Go.Pm
variable [aJ]
open Go.RowKit (Below)

def Az (i j:Nat):Nat:=i+4096 * (j+1)
def FW : Nat → List XA → List (Nat × DV)
  | _,[]=>[]
  | i,.d a :: r=>(i,.one (Dc a)) :: FW (i+1) r
  | i,.box _ _ :: r=>(i,.cl (.ptr i 0)) :: FW (i+1) r
def vN : Nat → Nat → List o6
  | _,0=>[]
  | np,n+1=>.b np :: vN (np+1) n
def lX (i : Nat) : Nat → List XC → List Cl
  | _,[]=>[]
  | j,.p v :: r=>.p v :: lX i (j+1) r
  | j,.vec _ _ _ _ _ :: r=>.vec (Az i j) :: lX i (j+1) r
  | j,.mo _ _ _ _ _ :: r=>.mo (Az i j) :: lX i (j+1) r
  | j,.slf f np n :: r=>.clo f (vN np n) :: lX i (j+1) r
def jW (i : Nat) : Nat → List XC → List (Nat × AO)
  | _,[]=>[]
  | j,.p _ :: r=>jW i (j+1) r
  | j,.vec e s b n get :: r=>(Az i j,.vec e s b n get) :: jW i (j+1) r
  | j,.mo kt vt q n F :: r=>(Az i j,.mo kt vt q n F) :: jW i (j+1) r
  | j,.slf _ _ _ :: r=>jW i (j+1) r
def gq : Nat → List XA → List (Nat × AO)
  | _,[]=>[]
  | i,.d _ :: r=>gq (i+1) r
  | i,.box ty cs :: r=>(i,.box ty (lX i 0 cs)) :: (jW i 0 cs ++ gq (i+1) r)
def rX : Nat → List XA → List Nat
  | _,[]=>[]
  | i,.d _ :: r=>rX (i+1) r
  | i,.box _ _ :: r=>i :: rX (i+1) r

def WN : List XC → Option (FuncId × Nat × Nat)
  | []=>none
  | .slf f np n :: _=>some (f,np,n)
  | _ :: r=>WN r
def P5 : List XA → Option (FuncId × Nat × Nat)
  | []=>none
  | .d _ :: r=>P5 r
  | .box _ cs :: r=>match WN cs with
    | some x=>some x
    | none=>P5 r
def FX (env : List (Nat × DV)) : Nat → Nat → Option (List Nat)
  | _,0=>some []
  | np,n+1=>match lk env np,FX env (np+1) n with
    | some (.one (.c (.ptr L 0))),some l=>some (L :: l)
    | _,_=>none
def LZ (env:List (Nat×DV)) (xs:List XA):jv:=match P5 xs with
 | some (f,np,n)=>match FX env np n with
  | some l=>some (f,np,l)
  | none=>none
 | none=>none
def uS (bx : List Nat) : Nat → Nat → Bool
  | _,0=>true
  | np,n+1=>bx.contains np && uS bx (np+1) n
def FY (bx : List Nat) : List XC → Bool
  | []=>true
  | .slf _ np n :: r=>uS bx np n && FY bx r
  | _ :: r=>FY bx r
def uT (bx : List Nat) : List XA → Bool
  | []=>true
  | .d _ :: r=>uT bx r
  | .box _ cs :: r=>FY bx cs && uT bx r
section
variable (P:Program)
def yJ (σ : St) : List ResultVar → Option (List PA × List (Nat × AO))
  | []=>some ([],[])
  | .tmp t :: r=>match lk σ.env t with
    | some d=>match wu (lk σ.aB) d,yJ σ r with
      | some (x,u),some (l,us)=>some (x :: l,u ++ us)
      | _,_=>none
    | none=>none
  | .cell t ty :: r=>match lk σ.env t,ig P ty,mg P ty with
    | some (.one (.c (.ptr L off))),some g,some n=>match lk σ.aB L with
      | some (.box _ cells)=>match kS g n cells off with
        | some d=>match wu (lk σ.aB) (.one d),yJ σ r with
          | some (x,u),some (l,us)=>some (x :: l,u ++ us)
          | _,_=>none
        | none=>none
      | _=>none
    | _,_,_=>none
def P6 (sf : jv) (ob : Nat → Option AO) (env : List (Nat × DV)) : Nat → List XA → Option (List XA × List Nat)
  | _,[]=>some ([],[])
  | i,.d a :: r=>match P6 sf ob env (i+1) r with
    | some (ys,ls)=>some (.d a :: ys,ls)
    | none=>none
  | i,.box _ _ :: r=>match lk env i,P6 sf ob env (i+1) r with
    | some (.one (.c (.ptr L 0))),some (ys,ls)=>match wz sf ob (.one (.c (.ptr L 0))) with
      | some (y,l,_)=>some (y :: ys,l ++ ls)
      | none=>none
    | _,_=>none
def O5 (fn:Func) (xs:List XA) (K:List PA->List XA->Prop) (σ:St):Prop :=
 match yJ P σ fn.results.toList with
 | some (l,u)=>match P6 (LZ σ.env xs) (lk (u ++ σ.aB)) σ.env 0 xs with
  | some (ys,ls)=>match o9 ls with
   | true=>K l ys
   | false=>False
  | none=>False
 | none=>False
def zlL (fn : Func) (xs : List XA) (K : List PA → List XA → Prop) : Exit → St → Prop
  | .ret,σ=>O5 P fn xs K σ
  | .normal,σ=>O5 P fn xs K σ
  | _,_=>False
def P7 (Γ:aX) (aT:bW) (f:FuncId) (xs:List XA) (K:List PA->List XA->Prop):Prop :=
 match P.funcs[f]? with
 | some fn=>match fn.body with
  | some c=>match Nat.beq aT.nt fn.ntmps && Nat.ble xs.length aT.nt && o9 ((gq 0 xs).map (·.1)) && uT (rX 0 xs) xs && uf (rX 0 xs) (eY c) with
   | true=>vc P Γ aT c (zlL P fn xs K) ⟨FW 0 xs,gq 0 xs,[]⟩
   | false=>False
  | none=>False
 | none=>False
end

section
variable {P:Program}{Γ:aX}

def Dy (w:World) (v:Value):List Value:=match v with
 | .pointer (some a)=>match w.heap[a.block]? with
  | some (.cells C _ _)=>C.toList
  | _=>[]
 | _=>[]
def xVV (i : Nat) : Nat → List XC → List Value → List (Nat × Value)
  | j,.p _ :: r,_ :: vs=>xVV i (j+1) r vs
  | j,.vec _ _ _ _ _ :: r,v :: vs=>(Az i j,v) :: xVV i (j+1) r vs
  | j,.mo _ _ _ _ _ :: r,v :: vs=>(Az i j,v) :: xVV i (j+1) r vs
  | j,.slf _ _ _ :: r,_ :: vs=>xVV i (j+1) r vs
  | _,_,_=>[]
def uU (w : World) : Nat → List XA → List Value → List (Nat × Value)
  | i,.d _ :: r,_ :: vs=>uU w (i+1) r vs
  | i,.box _ cs :: r,v :: vs=>(i,v) :: (xVV i 0 cs (Dy w v) ++ uU w (i+1) r vs)
  | _,_,_=>[]
def zcL : Value → Nat
  | .pointer (some a)=>a.block
  | _=>0

theorem Cb : ∀ (n np : Nat) (bx : List Nat), uS bx np n = true → ∀ M ∈ jr (vN np n), M ∈ bx
  | 0,_,_,_,M,hM=>by simp[vN,jr] at hM
  | n+1,np,bx,h,M,hM=>by
    simp only[uS,fE] at h;simp only[vN,jr,jf] at hM;rcases hM with rfl | hM
    · simpa using h.1
    · exact Cb n (np+1) bx h.2 M hM
theorem xA : ∀ (n np : Nat) (bx : List Nat), uS bx np n = true → ∀ k, k < n → np + k ∈ bx
  | 0,_,_,_,k,h=>absurd h (by omega)
  | n+1,np,bx,h,k,hk=>by
    simp only[uS,fE] at h;cases k with
    | zero=>simpa using h.1
    | succ k=>rw[show np+(k+1)=np+1+k by omega];exact xA n (np+1) bx h.2 k (by omega)
theorem Kw {g : Gh} : ∀ (bs : List Nat) (np : Nat), (∀ k b, bs[k]? = some b → g.bk (np + k) = b) → RL (CQ g) (vN np bs.length) (bs.map uw)
  | [],_,_=>trivial
  | b :: bs,np,h=>⟨by show uw b=_;rw[<- h 0 b rfl];rfl,Kw bs (np+1) λ k b' hk=>by rw[<- h (k+1) b' (by simpa using hk)];congr 1;omega⟩
section start
variable {h:Fz}{w:World}{B:Nat}{g:Gh}(hle:∀ p x,Rep h p x->Rep g.h p x)
include hle
theorem P8 [df] {i:Nat}{bx:List Nat}(L6:∀ k b,(df.bs)[k]? = some b->df.np+k∈bx->g.bk (df.np+k)=b):∀ {cs:List XC}{j:Nat}{vs:List Value},RL (xcR P h w B) cs vs->FY bx cs=true->(∀ x∈xVV i j cs vs,g.sv x.1=x.2) ->
  RL (gJ g) (lX i j cs) vs/\(∀ x∈jW i j cs,Pi x.2/\dJ x.2=[]/\IX P g w B x.1 x.2)/\qC cs vs=(jW i j cs).flatMap (λ x=>kO g x.1 x.2)/\(xVV i j cs vs).map (·.1)=(jW i j cs).map (·.1) /\
   ∀ M∈(lX i j cs).flatMap bi,M∈(jW i j cs).map (·.1)\/M∈bx
 | [],j,[],_,_,_=>⟨trivial,λ x hx=>by simp[jW] at hx,rfl,rfl,λ M hM=>by simp[lX] at hM⟩
 | [],_,_ :: _,hr,_,_=>hr.elim
 | _ :: _,_,[],hr,_,_=>hr.elim
 | .slf f np n :: cs,j,v :: vs,hr,hb,hs=>by
  simp only[FY,fE] at hb;obtain⟨i1,i2,i3,i4,i5⟩:=P8 (j:=j+1) L6 hr.2 hb.2 hs;obtain⟨rfl,rfl,rfl,rfl⟩:=hr.1;refine⟨⟨⟨_,rfl,Kw _ _ λ k b hk=>L6 k b hk (xA _ _ _ hb.1 k (wW.1 hk).1)⟩,i1⟩,i2,by simp only[qC,Yk,List.nil_append];exact i3,i4,λ M hM=>?_⟩;simp only[lX,lJ,dL] at hM;rcases hM with hM | hM
  ·exact .inr (Cb _ _ _ hb.1 M hM)
  ·exact i5 M hM
 | .p p :: cs,j,v :: vs,hr,hb,hs=>by
  obtain⟨i1,i2,i3,i4,i5⟩:=P8 (j:=j+1) L6 hr.2 hb hs;exact⟨⟨hle _ _ hr.1,i1⟩,i2,by simp only[qC,Yk,List.nil_append];exact i3,i4,λ M hM=>i5 M (by simpa [lX,bi] using hM)⟩
 | .vec e s b n get :: cs,j,v :: vs,hr,hb,hs=>by
  obtain⟨i1,i2,i3,i4,i5⟩:=P8 (j:=j+1) L6 hr.2 hb (λ x hx=>hs x (je _ hx));have hv:g.sv (Az i j)=v:=hs (Az i j,v) kR;obtain⟨h1,h2,h3,xs,hx,hx2⟩:=hr.1;refine⟨⟨⟨hv.symm,h1⟩,i1⟩,λ x hx=>?_,?_,by simp[xVV,jW,i4],λ M hM=>?_⟩
  ·rcases jf.1 hx with e1 | hx
   ·subst e1;refine⟨trivial,rfl,h2,h3,xs,?_,λ q hq=>(hx2 q hq).mono hle⟩;show w.ownsRow B e s (g.sv (Az i j)) n xs;rw[hv];assumption
   ·exact i2 x hx
  ·simp only[qC,Yk,jW,lJ,kO,hv,i3]
  ·simp only [lX, lJ, dL, bi, jM] at hM;simp only[jW,nG,jf];rcases hM with hM | hM
   ·exact .inl (.inl hM)
   ·exact (i5 M hM).imp_left .inr
 | .mo kt vt q n F :: cs,j,v :: vs,hr,hbx,hs=>by
  obtain⟨i1,i2,i3,i4,i5⟩:=P8 (j:=j+1) L6 hr.2 hbx (λ x hx=>hs x (je _ hx));have hv:g.sv (Az i j)=v:=hs (Az i j,v) kR;obtain⟨b,es,clock,rfl,h2,h3⟩:=hr.1;have hb:lM (g.sv (Az i j))=b:=by rw[hv];rfl
  refine⟨⟨by show Value.map (some b)=.map (some (lM (g.sv (Az i j))));rw[hb],i1⟩,λ x hx=>?_,?_,by simp[xVV,jW,i4],λ M hM=>?_⟩
  ·rcases jf.1 hx with e1 | hx
   ·subst e1;exact⟨trivial,rfl,es,clock,by rw[hb];exact h2,h3⟩
   ·exact i2 x hx
  ·simp only[qC,Yk,jW,lJ,kO,hb,i3];rfl
  ·simp only [lX, lJ, dL, bi, jM] at hM;simp only[jW,nG,jf];rcases hM with hM | hM
   ·exact .inl (.inl hM)
   ·exact (i5 M hM).imp_left .inr
theorem L8 [df] {bx:List Nat}(L6:∀ k b,(df.bs)[k]? = some b->df.np+k∈bx->g.bk (df.np+k)=b):∀ {xs:List XA}{i:Nat}{vs:List Value},RL (wC P h w B) xs vs->uT bx xs=true->(∀ x∈uU w i xs vs,g.sv x.1=x.2/\g.bk x.1=zcL x.2) ->
  (∀ x∈gq i xs,Pi x.2/\(∀ M∈dJ x.2,M∈(gq i xs).map (·.1)\/M∈bx)/\IX P g w B x.1 x.2)/\mr w xs vs=(gq i xs).flatMap (λ x=>kO g x.1 x.2)/\(uU w i xs vs).map (·.1)=(gq i xs).map (·.1)
 | [],i,[],_,_,_=>⟨λ x hx=>by simp[gq] at hx,rfl,rfl⟩
 | [],_,_ :: _,hr,_,_=>hr.elim
 | _ :: _,_,[],hr,_,_=>hr.elim
 | .d a :: xs,i,v :: vs,hr,hbx,hs=>by
  obtain⟨i1,i2,i3⟩:=L8 (i:=i+1) L6 hr.2 hbx hs;exact⟨i1,by simp only[mr,OH,List.nil_append];exact i2,i3⟩
 | .box ty cs :: xs,i,v :: vs,hr,hbx,hs=>by
  simp only[uT,fE] at hbx;obtain⟨i1,i2,i3⟩:=L8 (i:=i+1) L6 hr.2 hbx.2 (λ x hx=>hs x (je _ (dL.2 (.inr hx))));obtain⟨k,C,rfl,hC,hrl⟩:=hr.1;have hca:Dy w (.pointer (some ⟨k,0,none⟩))=C.toList:=by simp only[Dy,hC]
  obtain⟨j1,j2,j3,j4,j5⟩:=P8 (i:=i) (j:=0) hle L6 hrl hbx.1 (λ x hx=>(hs x (je _ (dL.2 (.inl (by rw[hca];exact hx))))).1);have hb:g.bk i=k:=(hs (i,_) kR).2;refine⟨λ x hx=>?_,?_,?_⟩
  ·simp only [gq] at hx;rcases jf.1 hx with e | hx
   ·subst e;refine⟨trivial,λ M hM=>?_,C,by rw[hb];exact hC,j1⟩;simp only[gq,nG,List.map_append,jf,dL];exact (j5 M hM).imp_left λ h=>.inr (.inl h)
   ·rcases dL.1 hx with hx | hx
    ·obtain ⟨q1, q2, q3⟩ := j2 x hx;exact⟨q1,λ M hM=>by rw[q2] at hM;simp at hM,q3⟩
    ·obtain ⟨q1, q2, q3⟩ := i1 x hx;refine⟨q1,λ M hM=>?_,q3⟩;simp only[gq,nG,List.map_append,jf,dL];exact (q2 M hM).imp_left λ h=>.inr (.inr h)
  ·simp only[mr,OH,hC,gq,lJ,List.flatMap_append,kO,hb,j3,i2];simp
  ·simp only[uU,gq,nG,List.map_append,hca,j4,i3]
end start

theorem L9 : ∀ (xs : List XA) (i t : Nat) (d : DV), lk (FW i xs) t = some d → ∃ x, xs[t - i]? = some x ∧ i ≤ t ∧ d = match x with | .d a => .one (Dc a) | .box _ _ => .cl (.ptr t 0)
  | [],i,t,d,h=>by simp[FW,lk] at h
  | x :: r,i,t,d,h=>by
    have key:lk (FW (i+1) r) t=some d->i ≠ t->∃ y,(x :: r)[t - i]? = some y/\i<=t/\d=match y with | .d a=>.one (Dc a) | .box _ _=>.cl (.ptr t 0):=λ h hne=>by
      obtain⟨y,h1,h2,h3⟩:=L9 r (i+1) t d h;refine⟨y,?_,by omega,h3⟩;rw[show t - i=(t - (i+1))+1 by omega,SC];exact h1
    cases x with
    | d a =>
      simp only[FW] at h;rw[aV] at h;split at h
      · rename_i e;subst e;simp only[bJ] at h;exact⟨.d a,by simp,iZ _,h.symm⟩
      · rename_i e;exact key h e
    | box ty cs =>
      simp only[FW] at h;rw[aV] at h;split at h
      · rename_i e;subst e;simp only[bJ] at h;exact⟨.box ty cs,by simp,iZ _,h.symm⟩
      · rename_i e;exact key h e
theorem AA : ∀ {xs : List XA} {i t : Nat} {ty : Nat} {cs : List XC}, xs[t - i]? = some (.box ty cs) → i ≤ t → t ∈ (gq i xs).map (·.1)
  | [],i,t,ty,cs,h,_=>by simp at h
  | x :: xs,i,t,ty,cs,h,hi=>by
    by_cases e:t=i
    · subst e;simp at h;subst h;simp[gq]
    · rw [show t - i = (t - (i + 1)) + 1 by omega, SC] at h;have:=AA (i:=i+1) h (by omega);cases x with
      | d a=>exact this
      | box ty' cs' =>
        simp only[gq,nG,List.map_append,jf,dL];exact .inr (.inr this)
theorem AB {w : World} : ∀ {xs : List XA} {i t : Nat} {ty : Nat} {cs : List XC} {vs : List Value} {v : Value}, xs[t - i]? = some (.box ty cs) → vs[t - i]? = some v → i ≤ t → (t, v) ∈ uU w i xs vs
  | [],i,t,ty,cs,vs,v,h,_,_=>by simp at h
  | _ :: _,i,t,ty,cs,[],v,_,h,_=>by simp at h
  | x :: xs,i,t,ty,cs,u :: vs,v,h,h2,hi=>by
    by_cases e:t=i
    · subst e;simp at h h2;subst h h2;simp[uU]
    · rw [show t - i = (t - (i + 1)) + 1 by omega, SC] at h h2;have:=AB (w:=w) (i:=i+1) h h2 (by omega);cases x with
      | d a=>exact this
      | box ty' cs' =>
        simp only[uU,jf,dL];exact .inr (.inr this)

def pinned (h:Fz) (K:List Nat) (w:World):Fz:=λ b =>
 match h b with
 | some (.fz (.cells C ty fr))=>some (.fz (.cells C ty fr))
 | _=>match K.contains b with
  | true=>none
  | false=>(w.heap[b]?).map .pin
theorem P9 {h:Fz}{K:List Nat}{w:World}{b:Nat}{o:OE}(hb:h b=some o) (ho:(∃ C ty fr,o=.fz (.cells C ty fr))):pinned h K w b=some o:=by
 obtain⟨C,ty,fr,rfl⟩:=ho;simp only[pinned,hb]
def zwF (h:Fz) (K:List Nat) (w:World) (b:Nat):Prop :=
 (∃ o, h b = some o ∧ pinned h K w b = some o ∧ ((∃ C ty fr, o = .fz (.cells C ty fr)))) ∨
  (b∈K/\pinned h K w b=none)\/(b ∉ K/\pinned h K w b=(w.heap[b]?).map .pin)
theorem uV {h:Fz}{K:List Nat}{w:World}{b:Nat}(e:pinned h K w b=(match K.contains b with | true=>none | false=>(w.heap[b]?).map .pin)):zwF h K w b:=by
 cases hk:K.contains b with
 | true=>rw[hk] at e;exact .inr (.inl ⟨by simpa using hk,e⟩)
 | false=>rw[hk] at e;exact .inr (.inr ⟨by simpa using hk,e⟩)
theorem dK {h:Fz}{K:List Nat}{w:World}(b:Nat):zwF h K w b:=by
 cases hb:h b with
 | none=>exact uV (by simp only[pinned,hb])
 | some o =>
  cases o with
  | pin o=>exact uV (by simp only[pinned,hb])
  | fz o =>
   cases o with
   | cells C ty fr=>exact .inl ⟨_,hb,by simp only[pinned,hb],C,ty,fr,rfl⟩
   | _=>exact uV (by simp only[pinned,hb])
theorem rY {h:Fz}{K:List Nat}{w:World}{p:PV}{x:Value}(hr:Rep h p x):Rep (pinned h K w) p x:=hr.mono' λ _ _ hb ho=>P9 hb ho
theorem Ky {h:Fz}{K:List Nat}{w:World}(H:Hw h w):Hw (pinned h K w) w:=by
 intro b x hb;rcases dK (h:=h) (K:=K) (w:=w) b with ⟨o,h1,h2,_⟩ | ⟨_,h2⟩ | ⟨_,h2⟩
 ·rw[h2] at hb;simp only[bJ] at hb;subst hb;exact H b _ h1
 ·rw[h2] at hb;cases hb
 ·rw [h2] at hb;obtain⟨o,ho,rfl⟩:=RZ.1 hb;exact⟨o,ho,rfl⟩

theorem rZ {h h':Fz}(hle:∀ p x,Rep h p x->Rep h' p x){a:PA}{v:Value}(hr:kL h a v):kL h' a v:=by
 cases a with
 | one p=>exact hle _ _ hr
 | agg cs=>obtain⟨vs,rfl,hr⟩:=hr;exact⟨vs,rfl,hr.mono hle⟩
theorem zcM {h h':Fz}(hle:∀ p x,Rep h p x->Rep h' p x){rs:List PA}{v:Value}(hr:nJ h rs v):nJ h' rs v:=by
 match rs,hr with
 | [],⟨vs,e,r⟩=>exact⟨vs,e,r.mono λ _ _=>rZ hle⟩
 | [x],hr=>exact rZ hle hr
 | x :: y :: l,⟨vs,e,r⟩=>exact⟨vs,e,r.mono λ _ _=>rZ hle⟩
theorem zhs [df] {h h':Fz}{w:World}{B:Nat}(hle:∀ p x,Rep h p x->Rep h' p x){c:XC}{v:Value}(hr:xcR P h w B c v):xcR P h' w B c v:=by
 cases c with
 | p v=>exact hle _ _ hr
 | vec e s b n get=>obtain⟨h1,h2,h3,xs,h4,h5⟩:=hr;exact⟨h1,h2,h3,xs,h4,λ q hq=>(h5 q hq).mono hle⟩
 | mo kt vt q n F=>exact hr
 | slf f np n=>exact hr
theorem WO [df] {h h':Fz}{w:World}{B:Nat}(hle:∀ p x,Rep h p x->Rep h' p x){c:XA}{v:Value}(hr:wC P h w B c v):wC P h' w B c v:=by
 cases c with
 | d a=>exact rZ hle hr
 | box ty cs=>obtain⟨k,C,h1,h2,h3⟩:=hr;exact⟨k,C,h1,h2,h3.mono λ _ _=>zhs hle⟩

theorem yK : ∀ {xs : List XA} {i M : Nat}, M ∈ rX i xs → i ≤ M ∧ ∃ ty cs, xs[M - i]? = some (.box ty cs)
  | [],_,_,h=>by simp[rX] at h
  | .d a :: xs,i,M,h=>by
    obtain⟨h1,ty,cs,h2⟩:=yK (i:=i+1) h;exact⟨by omega,ty,cs,by rw[show M - i=(M - (i+1))+1 by omega,SC];exact h2⟩
  | .box ty cs :: xs,i,M,h=>by
    rcases jf.1 h with rfl | h
    · exact⟨iZ _,ty,cs,by simp⟩
    obtain⟨h1,ty,cs,h2⟩:=yK (i:=i+1) h;exact⟨by omega,ty,cs,by rw[show M - i=(M - (i+1))+1 by omega,SC];exact h2⟩
theorem zht [df] {nt m : Nat} {xs : List XA} {w : World} {h : Fz} {B : Nat} {vs : List Value} (hnt : nt = m) (hlen : xs.length ≤ nt) (hvs : RL (wC P h w B) xs vs) (hn : (mr w xs vs).Nodup)
    (hK:∀ b∈mr w xs vs,B<=b/\h b=none) (hw:Hw h w) (hB:B<=w.heap.size) (hlab:((gq 0 xs).map (·.1)).Nodup) (hbx:uT (rX 0 xs) xs=true) (hsv:∀ k b,(df.bs)[k]? = some b->vs[df.np+k]? = some (uw b)) :
    ∃ g,bU P nt B w (pinned h (mr w xs vs) w) g ⟨FW 0 xs,gq 0 xs,[]⟩ { tmps:=vs.toArray ++ Array.replicate (m - vs.toArray.size) undef,defers:=[] } w:=by
  let nv:=uU w 0 xs vs;let h0:=pinned h (mr w xs vs) w;let g:Gh:=⟨h0,λ L=>zcL ((lk nv L).getD undef),λ L=>(lk nv L).getD undef,λ _ _=>undef⟩;have hle:∀ p x,Rep h p x->Rep g.h p x:=λ p x hr=>rY hr;have hkeys:nv.map (·.1)=(gq 0 xs).map (·.1):=by
    have:∀ {xs:List XA} {i:Nat} {vs:List Value},RL (wC P h w B) xs vs->(uU w i xs vs).map (·.1)=(gq i xs).map (·.1):=by
      intro xs
      induction xs with
      | nil=>intro i vs hr;cases vs with
        | nil=>rfl
        | cons=>exact hr.elim
      | cons x xs ih =>
        intro i vs hr;cases vs with
        | nil=>exact hr.elim
        | cons v vs =>
          cases x with
          | d a=>exact ih hr.2
          | box ty cs =>
            obtain⟨k,C,rfl,hC,hrl⟩:=hr.1;have hv:∀ {cs:List XC} {j:Nat} {vs:List Value},RL (xcR P h w B) cs vs->(xVV i j cs vs).map (·.1)=(jW i j cs).map (·.1):=by
              intro cs
              induction cs with
              | nil=>intro j vs hr;cases vs with
                | nil=>rfl
                | cons=>exact hr.elim
              | cons c cs ih2 =>
                intro j vs hr;cases vs with
                | nil=>exact hr.elim
                | cons v vs=>cases c with
                  | p q=>exact ih2 hr.2
                  | vec e s b n get=>simp only[xVV,jW,nG];rw[ih2 hr.2]
                  | mo kt vt q n F=>simp only[xVV,jW,nG];rw[ih2 hr.2]
                  | slf f np n=>exact ih2 hr.2
            simp only[uU,gq,nG,List.map_append,Dy,hC];rw[hv hrl,ih hr.2]
    exact this hvs
  have zhu:∀ x∈nv,lk nv x.1=some x.2:=λ x hx=>Ag (by rw[hkeys];exact hlab) hx;obtain⟨o1,o2,o3⟩:=L8 (g:=g) (i:=0) hle (bx:=rX 0 xs) (λ k b hk hm=>by
    obtain⟨_,ty,cs,hx⟩:=yK hm;have:=zhu _ (AB (w:=w) (i:=0) hx (by rw[Nat.sub_zero];exact hsv k b hk) (Nat.zero_le _));show zcL ((lk nv (df.np+k)).getD undef)=b;rw[show lk nv (df.np+k)=some (uw b) from this];rfl) hvs hbx (λ x hx=>⟨by show (lk nv x.1).getD undef=x.2;rw[zhu x hx];rfl,by show zcL ((lk nv x.1).getD undef)=_;rw[zhu x hx];rfl⟩)
  have hmem:∀ L o,lk (gq 0 xs) L=some o->(L,o)∈gq 0 xs:=λ L o h=>dY h;have hl:=hvs.length;have hblk:∀ L o b,lk (gq 0 xs) L=some o->fB g L o b->b∈(gq 0 xs).flatMap (λ x=>kO g x.1 x.2):=λ L o b hL hb=>jE.2 ⟨_,hmem L o hL,Ae (o1 _ (hmem L o hL)).1 hb⟩;refine⟨g,Marks.nil _ _,by simp;omega,?_,λ L o hL=>(o1 _ (hmem L o hL)).2.2,?_,?_,Ky hw,λ _ _ h=>h,λ b o h=>.inl h,tN.refl _ _ _,hB,?_,?_⟩
  · intro t d ht;obtain⟨x,hx,_,rfl⟩:=L9 xs 0 t d ht;obtain⟨v,hv,hxv⟩:=hvs.get t x (by simpa using hx);have hlt:=(wW.1 hv).1;have:(vs.toArray ++ Array.replicate (m - vs.toArray.size) undef).getD t undef=v:=by
      rw[rE,Array.getElem?_append_left (by simpa using hlt)];simp[hv]
    rw[this];cases x with
    | d a=>exact ET (g:=g) (rZ hle hxv)
    | box ty cs =>
      obtain⟨k,C,rfl,hC,_⟩:=hxv;have:=zhu _ (AB (w:=w) (i:=0) hx (by simpa using hv) (Nat.zero_le _));show Value.pointer (some ⟨k,0,none⟩)=.pointer (some ⟨zcL ((lk nv t).getD undef),0,none⟩);rw[show lk nv t=some (.pointer (some ⟨k,0,none⟩)) from this];rfl
  · intro L o b hL hb;have hbK:b∈mr w xs vs:=by rw[o2];exact hblk L o b hL hb
    refine⟨(hK b hbK).1,?_⟩;show pinned h (mr w xs vs) w b=none;rcases dK (h:=h) (K:=mr w xs vs) (w:=w) b with ⟨o,h1,_⟩ | ⟨_,h2⟩ | ⟨h2,_⟩
    · rw[(hK b hbK).2] at h1;cases h1
    · exact h2
    · exact (h2 hbK).elim
  · intro L o b L' o' hL hL' hb hb';rw[o2] at hn;have:=Af hn (L,o) (L',o') b (hmem L o hL) (hmem L' o' hL') (Ae (o1 _ (hmem L o hL)).1 hb) (Ae (o1 _ (hmem L' o' hL')).1 hb');exact congrArg Prod.fst this
  · intro t d ht L hL;obtain⟨x,hx,_,rfl⟩:=L9 xs 0 t d ht;cases x with
    | d a=>rw[show bY (.one (Dc a))=cZ (Dc a) from rfl,rQ] at hL;simp at hL
    | box ty cs =>
      simp[bY,cZ,bi] at hL;subst hL;exact vH (AA (i:=0) hx (Nat.zero_le _))
  · intro L o hL M hM;rcases (o1 _ (hmem L o hL)).2.1 M hM with h | h
    · exact vH h
    · obtain ⟨_, ty, cs, hx⟩ := yK h;exact vH (AA (i:=0) hx (Nat.zero_le _))

theorem AC {nt B:Nat}{w0:World}{h0:Fz}{g:Gh}{σ:St}{a:Act}{w:World}(S:bU P nt B w0 h0 g σ a w):∀ (rs:List ResultVar) (l:List PA) (u:jT),yJ P σ rs=some (l,u) ->
  ∃ (vs:List Value),dW (lk σ.aB) u/\(rs.mapM (resV a.tmps)).run P w=.ok vs w/\∀ (u':jT) (h':Fz),(∀ y∈u,y∈u')->ed g (lk σ.aB) u' h'->RL (kL h') l vs
 | [],l,u,h=>by
  simp[yJ] at h;obtain⟨rfl,rfl⟩:=h;exact⟨[],dW.nil _,rfl,λ _ _ _ _=>trivial⟩
 | .tmp t :: r,l,u,h=>by
  simp only[yJ] at h;split at h
  ·rename_i d hd;split at h
   ·rename_i x u1 l2 u2 h1 h2;simp only[bJ,eF] at h;obtain⟨rfl,rfl⟩:=h;obtain⟨vs,hu2,hrun,hr⟩:=AC S r l2 u2 h2;refine⟨a.tmps.getD t undef :: vs,(yg h1).append hu2,?_,λ u' h' hu F=>⟨F.repD h1 (λ y hy=>hu y (dL.2 (.inl hy))) (S.env t d hd),hr u' h' (λ y hy=>hu y (dL.2 (.inr hy))) F⟩⟩;rw[List.mapM_cons];simp only[resV,fD,iT,fM];rw[hrun];rfl
   ·cases h
  ·cases h
 | .cell t ty :: r,l,u,h=>by
  simp only[yJ] at h;split at h
  ·rename_i L off ag m ht hg hs;split at h
   ·rename_i ty' cells hL;split at h
    ·rename_i d hd;split at h
     ·rename_i x u1 l2 u2 h1 h2;simp only[bJ,eF] at h;obtain⟨rfl,rfl⟩:=h;obtain⟨vs,hu2,hrun,hr⟩:=AC S r l2 u2 h2;obtain⟨C,hC,hcr⟩:=S.obj L _ hL;obtain⟨v,hload,hv⟩:=Ey (P:=P) hg hs hC 0 (λ j y hj=>by obtain⟨v,hv,hyv⟩:=hcr.get j y hj;exact⟨v,by simpa using hv,hyv⟩) hd;have hp:a.tmps.getD t undef=.pointer (some ⟨g.bk L,off,none⟩):=S.env t _ ht;rw[Nat.zero_add] at hload;refine⟨v :: vs,(yg h1).append hu2,?_,λ u' h' hu F=>⟨F.repD h1 (λ y hy=>hu y (dL.2 (.inl hy))) hv,hr u' h' (λ y hy=>hu y (dL.2 (.inr hy))) F⟩⟩;have h1:(resV a.tmps (.cell t ty)).run P w=.ok v w:=by
       simp only[resV,fD,hp,FU,fM,hload]
      rw[List.mapM_cons];simp only[fD,h1,fM];rw[hrun];rfl
     ·cases h
    ·cases h
   ·cases h
  ·cases h
theorem Mc {nt B : Nat} {w0 : World} {h0 : Fz} {g : Gh} {σ : St} {a : Act} {w : World} (S : bU P nt B w0 h0 g σ a w) {fn : Func} {l : List PA} {u : jT} (h : yJ P σ fn.results.toList = some (l, u)) :
  ∃ (v:Value),dW (lk σ.aB) u/\(results fn a.tmps).run P w=.ok v w/\∀ (h':Fz),ed g (lk σ.aB) u h'->nJ h' l v:=by
 obtain⟨vs,hu,hrun,hr⟩:=AC S fn.results.toList l u h;refine⟨if h:vs.toArray.size=1 then vs.toArray[0] else .tuple vs.toArray,hu,?_,λ h' F=>?_⟩
 ·have e : results fn a.tmps = (do let vs ← fn.results.mapM (resV a.tmps); pure (if h : vs.size = 1 then vs[0] else .tuple vs)) := rfl;rw[e,Array.mapM_eq_mapM_toList];simp only[fD,Sem.run_map];rw[hrun];simp only[fM,iT]
 ·have hrl := hr u h' (fun y hy => hy) F
  match l,vs,hrl with
  | [],[],_=>exact⟨[],rfl,trivial⟩
  | [x],[v],hrl=>exact hrl.1
  | x :: y :: l,v :: v2 :: vs,hrl =>
   refine⟨v :: v2 :: vs,?_,hrl⟩;rw[dif_neg (by simp)]
  | [],_ :: _,hrl=>exact hrl.elim
  | [_],[],hrl=>exact hrl.elim
  | [_],_ :: _ :: _,hrl=>exact hrl.2.elim
  | _ :: _ :: _,[],hrl=>exact hrl.elim
  | _ :: _ :: _,[_],hrl=>exact hrl.2.elim

theorem vO [df] {h : Fz} {B : Nat} {w : World} {bx : List Nat} : ∀ {cs : List XC} {vs : List Value} {f : FuncId} {np n : Nat}, WN cs = some (f, np, n) → RL (xcR P h w B) cs vs → FY bx cs = true → f = df.f ∧ np = df.np ∧ n = (df.bs).length ∧ uS bx np n = true
  | [],_,_,_,_,h1,_,_=>by cases h1
  | _ :: _,[],_,_,_,_,hr,_=>hr.elim
  | c :: cs,v :: vs,f,np,n,h1,hr,hb=>by
    cases c with
    | slf f' np' n' =>
      simp only[WN,bJ,eF] at h1;obtain⟨rfl,rfl,rfl⟩:=h1;simp only[FY,fE] at hb;obtain⟨q1,q2,q3,_⟩:=hr.1;exact⟨q1,q2,q3,hb.1⟩
    | p q=>exact vO (cs:=cs) h1 hr.2 hb
    | vec e s b n get=>exact vO (cs:=cs) h1 hr.2 hb
    | mo kt vt q n F=>exact vO (cs:=cs) h1 hr.2 hb
theorem AL [df] {h : Fz} {B : Nat} {w : World} {bx : List Nat} : ∀ {xs : List XA} {vs : List Value} {f : FuncId} {np n : Nat}, P5 xs = some (f, np, n) → RL (wC P h w B) xs vs → uT bx xs = true → f = df.f ∧ np = df.np ∧ n = (df.bs).length ∧ uS bx np n = true
  | [],_,_,_,_,h1,_,_=>by cases h1
  | _ :: _,[],_,_,_,_,hr,_=>hr.elim
  | .d a :: xs,v :: vs,f,np,n,h1,hr,hb=>AL (xs:=xs) h1 hr.2 hb
  | .box ty cs :: xs,v :: vs,f,np,n,h1,hr,hb=>by
    simp only[uT,fE] at hb;simp only[P5] at h1;split at h1
    · rename_i y hy;simp only[bJ] at h1;subst h1;obtain⟨k,C,_,_,hrl⟩:=hr.1;exact vO hy hrl hb.1
    · exact AL (xs:=xs) h1 hr.2 hb.2
theorem Qa {nt B : Nat} {w0 : World} {h0 : Fz} {g : Gh} {σ : St} {a : Act} {w : World} (S : bU P nt B w0 h0 g σ a w) : ∀ (bs : List Nat) (np : Nat) (l : List Nat), FX σ.env np bs.length = some l → (∀ k b, bs[k]? = some b → a.tmps.getD (np + k) undef = uw b) → bs = l.map g.bk
  | [],_,l,h1,_=>by simp only[SE,FX,bJ] at h1;subst h1;rfl
  | b :: bs,np,l,h1,h2=>by
    simp only[Oi,FX] at h1;split at h1
    · rename_i L l' hL hl';simp only[bJ] at h1;subst h1;have e1:a.tmps.getD np undef=.pointer (some ⟨g.bk L,0,none⟩):=S.env np _ hL;have e2:=h2 0 b rfl;rw[Nat.add_zero,e1] at e2;have e3:g.bk L=b:=by simpa [uw] using e2
      rw[nG,e3,<- Qa S bs (np+1) l' hl' λ k b' hk=>by rw[show np+1+k=np+(k+1) by omega];exact h2 (k+1) b' (by simpa using hk)]
    · cases h1
theorem zcN [df] {nt B : Nat} {w0 : World} {h0 h : Fz} {g : Gh} {σ : St} {a : Act} {w w1 : World} (S : bU P nt B w0 h0 g σ a w) {xs : List XA} {vs : List Value} (hvs : RL (wC P h w1 B) xs vs) (hbx : uT (rX 0 xs) xs = true)
    (hsv:∀ k b,(df.bs)[k]? = some b->vs[df.np+k]? = some (uw b)) (hkeep:∀ t u,vs[t]? = some u->t∈rX 0 xs->a.tmps.getD t undef=u):Tu g (LZ σ.env xs):=by
  intro f np ls h1;unfold LZ at h1;split at h1
  · rename_i f' np' n hx;split at h1
    · rename_i l hl;simp only[bJ,eF] at h1;obtain⟨rfl,rfl,rfl⟩:=h1;obtain⟨rfl,rfl,rfl,hbb⟩:=AL hx hvs hbx;exact⟨rfl,rfl,Qa S _ _ _ hl λ k b hk=>hkeep _ _ (hsv k b hk) (xA _ _ _ hbb k (wW.1 hk).1)⟩
    · cases h1
  · cases h1
theorem TY [df] {sf : jv} {nt B : Nat} {w0 : World} {h0 : Fz} {g : Gh} {σ : St} {a : Act} {w w1 : World} {h : Fz} (S : bU P nt B w0 h0 g σ a w) (hsf : Tu g sf) (hle : ∀ p x, Rep h p x → Rep g.h p x) :
  ∀ {xs ys:List XA} {ls:List Nat} {i:Nat} {vs:List Value},P6 sf (lk σ.aB) σ.env i xs=some (ys,ls)->RL (wC P h w1 B) xs vs->(∀ t v,vs[t]? = some v->i+t∈rX i xs->a.tmps.getD (i+t) undef=v) ->
  RL (wC P g.h w B) ys vs/\mr w ys vs=ls.flatMap (kB g (lk σ.aB))/\∀ L∈ls,isB (lk σ.aB) L
 | [],ys,ls,i,[],h1,_,_=>by
  simp only[P6,bJ,eF] at h1;obtain⟨rfl,rfl⟩:=h1;exact⟨trivial,rfl,λ L hL=>by simp at hL⟩
 | [],_,_,_,_ :: _,_,hr,_=>hr.elim
 | _ :: _,_,_,_,[],_,hr,_=>hr.elim
 | .d p :: xs,ys,ls,i,v :: vs,h1,hr,ht=>by
  simp only[P6] at h1;split at h1
  ·rename_i ys' ls' h2;simp only[bJ,eF] at h1;obtain⟨rfl,rfl⟩:=h1;obtain⟨i1,i2,i3⟩:=TY S hsf hle h2 hr.2 (λ t u hu hb=>by
    have:=ht (t+1) u (by simpa using hu) (by rw[show i+(t+1)=i+1+t by omega];exact hb);rw[show i+1+t=i+(t+1) by omega];exact this)
   exact⟨⟨rZ hle hr.1,i1⟩,by simp only[mr,OH,List.nil_append];exact i2,i3⟩
  ·cases h1
 | .box ty cs :: xs,ys,ls,i,v :: vs,h1,hr,ht=>by
  simp only[P6] at h1;split at h1
  ·rename_i L ys' ls' hL h2;split at h1
   ·rename_i y l ms hy;simp only[bJ,eF] at h1;obtain⟨rfl,rfl⟩:=h1;obtain⟨i1,i2,i3⟩:=TY S hsf hle h2 hr.2 (λ t u hu hb=>by
     have:=ht (t+1) u (by simpa using hu) (by rw[show i+(t+1)=i+1+t by omega];exact je _ hb);rw[show i+1+t=i+(t+1) by omega];exact this)
    have hv:a.tmps.getD i undef=v:=ht 0 v rfl (by simp[rX]);obtain⟨j1,j2,j3⟩:=zb9 S hsf hy (S.env i _ hL);rw[hv] at j1 j2;exact⟨⟨j1,i1⟩,by simp only[mr,i2,j2,List.flatMap_append],λ M hM=>(dL.1 hM).elim (j3 M) (i3 M)⟩
   ·cases h1
  ·cases h1

def WP [df] (P:Program) (h:Fz) (base:Nat) (w:World) (xs:List XA) (vs:List Value) (K:List PA->List XA->Prop) (e:Ending) (w':World):Prop :=
 ∃ (h':Fz) (v:Value) (rs:List PA) (ys:List XA),K rs ys/\e=.returned v/\nJ h' rs v/\RL (wC P h' w' base) ys vs/\(mr w' ys vs).Nodup /\
   (∀ b∈mr w' ys vs,(b∈mr w xs vs\/w.heap.size<=b)/\h' b=none)/\iP h h'/\Hw h' w'/\(∀ b o,h' b=some o->h b=some o\/w.heap.size<=b\/b∈mr w xs vs)/\Yj h (mr w xs vs) w w'
theorem zhv [df] {G : aX} (hok : iE P G) {f : FuncId} {aT : bW} {xs : List XA} {K : List PA → List XA → Prop} {w : World} {h : Fz} {base : Nat} {vs : List Value} (hv : P7 P G aT f xs K) (hvs : RL (wC P h w base) xs vs)
    (hn:(mr w xs vs).Nodup) (hK:∀ b∈mr w xs vs,base<=b/\h b=none) (hw:Hw h w) (hB:base<=w.heap.size) (hsv:∀ k b,(df.bs)[k]? = some b->vs[df.np+k]? = some (uw b)) :
    Calls P f vs.toArray w (WP P h base w xs vs K):=by
  unfold P7 at hv;split at hv
  · rename_i fn hfn;split at hv
    · rename_i c hbody;split at hv
      · rename_i hc;simp only[fE,Nat.ble_eq] at hc;obtain⟨⟨⟨⟨hnt,hlen⟩,hlab⟩,hbx⟩,hdisj⟩:=hc;obtain⟨g0,S⟩:=zht (P:=P) (jb hnt) hlen hvs hn hK hw hB (jU hlab) hbx hsv;have hwp:=FT (B:=base) (w0:=w) hok aT c none 0 (pinned h (mr w xs vs) w) (eY c) _ (zlL P fn xs K) _ _ _ _ (λ _ h=>h) (Rnd.none _) hv S (Kp.refl _ _);refine (callsIn_wide (n:=0)).1 ?_;refine callsIn_of_wp_marks (F:=FR none) hfn hbody trivial (wpIn_mono hwp ?_);have Su:∀ b,pinned h (mr w xs vs) w b=some (.fz (.deferred (some [])))->b < base:=λ b hb=>by
          rcases dK (h:=h) (K:=mr w xs vs) (w:=w) b with ⟨o,h1,h2,h3⟩ | ⟨_,h2⟩ | ⟨_,h2⟩
          · rw [h2] at hb; simp only [bJ] at hb; subst hb;obtain⟨C,ty,fr,e⟩:=h3;cases e
          · rw[h2] at hb;cases hb
          · rw [h2] at hb;obtain⟨o,_,e⟩:=RZ.1 hb;cases e
        rintro e a' w' ⟨g',σ',hK',S',hkp⟩;have fin:O5 P fn xs K σ'->LeavesInM (FR none) 0 P fn a'.tmps (WP P h base w xs vs K) a'.defers .returning w':=by
          intro hf;obtain⟨Ds,h1,h2,h3,h4⟩:=S'.dfr;refine vM Su Ds g' a' w' h1 h2 h3 h4 S' λ g2 a2 w2 ht S2=>?_;unfold O5 at hf;split at hf
          · rename_i l u hl;split at hf
            · rename_i ys ls ho;split at hf
              · rename_i hnl;obtain⟨v,hu,hrun,hres⟩:=Mc S2 hl;obtain⟨h3',S3,F⟩:=S2.freeze hu;have hle3:∀ p x,Rep h p x->Rep h3' p x:=λ p x hr=>(rY (K:=mr w xs vs) (w:=w) hr).mono S3.le0;have hkeep:∀ t u,vs[t]? = some u->t∈rX 0 xs->a2.tmps.getD t undef=u:=λ t u hu hb=>by
                  rw[ht,hkp.1 t (λ hd=>by
                    have:=List.all_eq_true.1 hdisj t hb;simp at this;exact this hd)]
                  have hlt:=(wW.1 hu).1;rw[rE,Array.getElem?_append_left (by simpa using hlt)];simp[hu]
                obtain⟨o1,o2,o3⟩:=TY S3 (zcN S3 hvs hbx hsv hkeep) (w1:=w) hle3 ho hvs (λ t u hu hb=>by
                  rw[Nat.zero_add] at hb ⊢;exact hkeep t u hu hb)
                let h':Fz:=λ b=>match h3' b with | some (.pin _)=>h b | x=>x
                have hnp:∀ b o,h3' b=some o->(∀ x,o ≠ .pin x)->h' b=some o:=λ b o hb hx=>by
                  show (match h3' b with | some (.pin _)=>h b | x=>x)=some o;rw[hb];cases o with
                  | pin x=>exact (hx x rfl).elim
                  | _=>rfl
                have hpn:∀ b x,h3' b=some (.pin x)->h' b=h b:=λ b x hb=>by
                  show (match h3' b with | some (.pin _)=>h b | x=>x)=h b;rw[hb]
                have hnn:∀ b,h3' b=none->h' b=none:=λ b hb=>by
                  show (match h3' b with | some (.pin _)=>h b | x=>x)=none;rw[hb]
                have hrep:∀ p x,Rep h3' p x->Rep h' p x:=λ p x hr=>hr.mono' λ b o hb ho=>hnp b o hb λ x e=>by
                  subst e;obtain⟨C,ty,fr,e⟩:=ho;cases e
                have pO:∀ b y,pinned h (mr w xs vs) w b=some y->h3' b=some y:=λ b y hb=>S3.le0 b y hb;have hlt:∀ b,b < w.heap.size->∃ o,w.heap[b]? = some o:=λ b hb=>⟨_,Array.getElem?_eq_getElem hb⟩;have hnd:=jU hnl;refine⟨v,hrun,h',v,l,ys,hf,rfl,zcM hrep (hres h3' F),o1.mono λ _ _=>WO hrep,by rw[o2];exact BG S3 hnd,λ b hb=>?_,λ b x hb=>?_,λ b x hb=>?_,λ b x hb=>?_,⟨S3.below.os,S3.below.tape,S3.below.output,S3.below.size,S3.below.drawn,λ k hk hkK=>?_⟩⟩
                · rw [o2] at hb;obtain⟨L,hL,hb⟩:=jE.1 hb;unfold kB at hb;split at hb
                  · rename_i o' ho';have hob:base<=b/\h3' b=none:=S3.own L o' b ho' (Lr hb);refine⟨?_,hnn b hob.2⟩;by_cases hbs:b < w.heap.size
                    · refine .inl ?_;rcases dK (h:=h) (K:=mr w xs vs) (w:=w) b with ⟨o,_,h2,_⟩ | ⟨h2,_⟩ | ⟨_,h2⟩
                      · have:=pO b _ h2;rw[hob.2] at this;cases this
                      · exact h2
                      · obtain ⟨o, ho⟩ := hlt b hbs;rw[ho] at h2;have:=pO b _ h2;rw[hob.2] at this;cases this
                    · exact .inr (by omega)
                  · simp at hb
                · rcases dK (h := h) (K := mr w xs vs) (w := w) b with ⟨o, h1, h2, h3⟩ | ⟨h2, _⟩ | ⟨_, h2⟩
                  · rw [h1] at hb; simp only [bJ] at hb; subst hb;exact hnp b _ (pO b _ h2) λ x e=>by subst e;obtain⟨C,ty,fr,e⟩:=h3;cases e
                  · rw[(hK b h2).2] at hb;cases hb
                  · obtain ⟨o, ho⟩ := hlt b (hw.lt hb);rw[ho] at h2;rw[hpn b _ (pO b _ h2)];exact hb
                · cases h3b:h3' b with
                  | none=>rw[hnn b h3b] at hb;cases hb
                  | some y =>
                    by_cases hy:∃ o,y=.pin o
                    · obtain ⟨o, rfl⟩ := hy;rw[hpn b _ h3b] at hb;rcases dK (h:=h) (K:=mr w xs vs) (w:=w) b with ⟨o',h1,h2,h3⟩ | ⟨h2,_⟩ | ⟨_,h2⟩
                      · have := pO b _ h2;rw[h3b] at this;simp only[bJ] at this;subst this;obtain⟨C,ty,fr,e⟩:=h3;cases e
                      · rw[(hK b h2).2] at hb;cases hb
                      · obtain ⟨o1, ho1, hx1⟩ := hw b x hb;rw[ho1] at h2;have:=pO b _ h2;rw[h3b] at this;simp only[bJ,OE.pin.injEq] at this;subst this;obtain⟨o2,ho2,hx2⟩:=S3.hw b _ h3b;simp only[OE.ok] at hx2;subst hx2;exact⟨_,ho2,hx1⟩
                    · rw [hnp b y h3b fun x e => hy ⟨x, e⟩] at hb;simp only[bJ] at hb;subst hb;exact S3.hw b _ h3b
                · cases h3b:h3' b with
                  | none=>rw[hnn b h3b] at hb;cases hb
                  | some y =>
                    by_cases hy:∃ o,y=.pin o
                    · obtain ⟨o, rfl⟩ := hy;rw[hpn b _ h3b] at hb;exact .inl hb
                    · rw [hnp b y h3b fun x e => hy ⟨x, e⟩] at hb;simp only[bJ] at hb;subst hb;by_cases hbs:b < w.heap.size
                      · rcases dK (h := h) (K := mr w xs vs) (w := w) b with ⟨o', h1, h2, h3⟩ | ⟨h2, _⟩ | ⟨_, h2⟩
                        · have := pO b _ h2;rw[h3b] at this;simp only[bJ] at this;subst this;exact .inl h1
                        · exact .inr (.inr h2)
                        · obtain ⟨o, ho⟩ := hlt b hbs;rw[ho] at h2;have:=pO b _ h2;rw[h3b] at this;simp only[bJ] at this;exact (hy ⟨_,this⟩).elim
                      · exact .inr (.inl (by omega))
                · rcases dK (h := h) (K := mr w xs vs) (w := w) k with ⟨o', h1, h2, h3⟩ | ⟨h2, _⟩ | ⟨_, h2⟩
                  · obtain ⟨C, ty, fr, rfl⟩ := h3;rw[S3.hw.fz (pO k _ h2),hw.fz h1]
                  · exact (hkK h2).elim
                  · obtain ⟨o, ho⟩ := hlt k hk;rw[ho] at h2 ⊢;obtain⟨o2,ho2,hx2⟩:=S3.hw k _ (pO k _ h2);simp only[OE.ok] at hx2;subst hx2;exact ho2
              · exact hf.elim
            · exact hf.elim
          · exact hf.elim
        cases e with
        | normal=>exact fin hK'
        | ret=>exact fin hK'
        | exit id=>exact hK'.elim
        | goto l=>exact hK'.elim
        | panic ch=>exact hK'.elim
        | outgrown=>exact hK'.elim
      · exact hv.elim
    · exact hv.elim
  · exact hv.elim
theorem YU {G : aX} (hok : iE P G) {f : FuncId} {C : MK} (hc : dA P f)
    (h:∀ xs rs ys,(C xs).o=some (rs,ys)->∃ vv aT,P7 P { G with vv:=vv } aT f xs λ l zs=>l=rs/\zs=ys):nK P f C:=by
  intro _ xs ys rs hC w h0 base vs hvs hsv hn hK hw hB;obtain⟨vv,aT,hv⟩:=h xs rs ys hC;refine⟨hc,(zhv (G:={ G with vv:=vv }) ⟨hok.mt,hok.fn,hok.own,hok.it,hok.cmp⟩ hv hvs hn hK hw hB hsv).mono ?_⟩;rintro e w' ⟨h',v,rs',ys',⟨rfl,rfl⟩,r⟩;exact⟨h',v,r⟩
end
end Go.Pm
namespace Go.Pm

section
variable {ρ τ:Type}
theorem ae.ext {c d:ae ρ}(h:∀ {A:Type}(k:ρ->Option A),c.T k=d.T k):c=d:=by
 obtain⟨T,n⟩:=c;obtain⟨T',n'⟩:=d;have : @T = @T':=by funext A k;exact h k
 subst this;rfl
def ae.bind (c:ae ρ) (f:ρ->ae τ):ae τ:=⟨λ k=>c.T λ r=>(f r).T k,λ k=>by
 rw[c.nat,c.nat λ r=>(f r).T some];cases c.T some with
 | none=>rfl
 | some r=>exact (f r).nat k⟩
def ae.mp (f:ρ->τ) (c:ae ρ):ae τ:=⟨λ k=>c.T λ r=>k (f r),λ k=>by
 rw[c.nat,c.nat λ r=>some (f r)];cases c.T some <;> rfl⟩
def ae.chk (b:Bool) (c:ae ρ):ae ρ:=⟨λ k=>match b with | true=>c.T k | false=>none,λ k=>by
 cases b with
 | true=>exact c.nat k
 | false=>rfl⟩
def ae.ite (b:Bool) (c d:ae ρ):ae ρ:=⟨λ k=>cond b (c.T k) (d.T k),λ k=>by
 cases b with
 | true=>exact c.nat k
 | false=>exact d.nat k⟩
def ae.opt : Option ρ → ae ρ
  | some r=>.ok r
  | none=>.no
theorem ae.bind_o {c:ae ρ}{f:ρ->ae τ}{y:τ}(h:(c.bind f).o=some y):∃ r,c.o=some r/\(f r).o=some y:=by
 have h:c.T (λ r=>(f r).T some)=some y:=h;rw[c.nat] at h;cases e:c.T some with
 | none=>rw[e] at h;cases h
 | some r=>rw[e] at h;exact⟨r,e,h⟩
theorem ae.mp_o {c:ae ρ}{f:ρ->τ}{y:τ}(h:(c.mp f).o=some y):∃ r,c.o=some r/\f r=y:=by
 have h:c.T (λ r=>some (f r))=some y:=h;rw[c.nat] at h;cases e:c.T some with
 | none=>rw[e] at h;cases h
 | some r=>rw[e] at h;exact⟨r,e,Option.some.inj h⟩
theorem ae.chk_o {b:Bool}{c:ae ρ}{y:ρ}(h:(ae.chk b c).o=some y):b=true/\c.o=some y:=by
 cases b with
 | true=>exact⟨rfl,h⟩
 | false=>cases h
theorem ae.ok_o {x y:ρ}(h:(ae.ok x).o=some y):x=y:=Option.some.inj h
theorem ae.no_o {y:ρ}(h:(ae.no:ae ρ).o=some y):False:=by cases h
theorem ae.opt_o {x:Option ρ}{y:ρ}(h:(ae.opt x).o=some y):x=some y:=by
 cases x with
 | none=>cases h
 | some x=>rw[ae.ok_o h]
end

structure Qb where
  ρ:Type
  c:ae ρ
  f:ρ->aH

section
variable (P:Program) (Γ:aX)

def zhx (C:MK) (sf:jv) (args:List DV) (ob:Nat->Option AO):Option Qb :=
 match jg sf ob args with
 | some (xs,ls,ms)=>some ⟨_,C xs,λ (rs,ys)=>match iI ob args ys with
   | some u=>match o9 ls && Nat.ble ms.length 1 && ms.all λ M=>((u.filter λ x=>!jG x.2).map (·.1)).contains M with
    | true=>.val (wr ((u.filter λ x=>!jG x.2).map (·.1)) ++ rd (args.flatMap (bF ob))) (resD rs) (u.filter λ x=>!jG x.2) ms
    | false=>.no
   | none=>.no⟩
 | none=>none
def zn5 (o:Oper) (e s b:Nat) (F:List PA->ae (Nat×(Nat->List PV)×List PV)) (args:List DV) (ob:Nat->Option AO):Option Qb :=
  match fQ ob args,o.dst with
  | some (az,u),some dst=>some ⟨_,F az,λ (n,get,rs)=>match ob dst,P.info? e,fA P e with
    | none,some ie,some _=>if ie.size=s/\ie.bytes=b/\0 < s/\zbH get u=true/\rs.all iD=true then
          .val ((dst, true) :: rd (args.flatMap (bF ob)))
            (match rs with | []=>.cl (.vec dst) | _=>.tup (.c (.vec dst) :: rs.map λ v=>.c (.p v))) [(dst,.vec e s b n get)] []
        else .no
    | _,_,_=>.no⟩
  | _,_=>none
def zcO (o:Oper) (e s b:Nat) (F:List PA->Nat->(Nat->List PV)->ae (Nat×(Nat->List PV))) (args:List DV) (ob:Nat->Option AO):Option Qb :=
  match Ec args with
    | some (ds,.one (.c (.vec L)))=>match fQ ob ds,ob L with
      | some (az,[]),some (.vec e' s' b' n get)=>some ⟨_,F az n get,λ (m,get')=>if e'=e/\s'=s/\b'=b then
            .val ((L,true) :: rd (ds.flatMap (bF ob))) (.cl (.vec L)) [(L,.vec e s b m get')] [L]
          else .no⟩
      | _,_=>none
    | some (ds,.one (.c (.p .nils)))=>match fQ ob ds,o.dst with
      | some (az,[]),some dst=>match ob dst,P.info? e,fA P e with
        | none,some ie,some z=>match iO z with
          | some l=>some ⟨_,F az 0 λ _=>l,λ (m,get')=>if ie.size=s/\ie.bytes=b/\0 < s then
                .val ((dst,true) :: rd (ds.flatMap (bF ob))) (.cl (.vec dst)) [(dst,.vec e s b m get')] []
              else .no⟩
          | none=>none
        | _,_,_=>none
      | _,_=>none
    | _=>none
def Qc (o:Oper) (ev:Operand->DV) (ob:Nat->Option AO):Option Qb :=
  match o.op with
  | .call { callee:=.value f,args,argTypes:=_ }=>match ev f with
    | .one (.c (.clo g caps))=>match Γ.mt g with
      | some C=>zhx C (zgH g args.size caps) (args.toList.map ev ++ caps.map capD) ob
      | none=>none
    | .one (.c (.p (.fn g first caps)))=>match Γ.mt g with
     | some C=>zhx C none (first.map (λ v=>.p v) ++ args.toList.map ev ++ caps.map (λ v=>.p v)) ob
     | none=>match Γ.own g with
       | .none=>match fQ ob (args.toList.map ev) with
         | some (az,u)=>some ⟨_,Γ.fn g (first.map .one ++ az ++ caps.map .one),λ r=>jm (args.toList.flatMap λ x=>bF ob (ev x)) u r⟩
         | none=>none
       | .mkv e s b F=>match first,caps with
         | [],[]=>zn5 P o e s b F (args.toList.map ev) ob
         | _,_=>none
       | .grow e s b F=>match first,caps with
         | [],[]=>zcO P o e s b F (args.toList.map ev) ob
         | _,_=>none
       | _=>none
    | .one (.c (.p (.fna g cells)))=>match fQ ob (args.toList.map ev) with
      | some (az,u)=>some ⟨_,Γ.fn g (.agg cells :: az),λ r=>jm (args.toList.flatMap λ x=>bF ob (ev x)) u r⟩
      | none=>none
    | _=>none
  | _=>none

def zcP (A:aH) (lg:List (Nat×Bool)->List Nat->List (Nat×Nat×Nat)) (i:Nat) (dst:Option Nat) (σ:St):ae St :=
 match A with
 | .no=>.no
 | .val fp d u kl=>.ok ((σ.upd i dst fp d u kl).relog (lg fp kl))
 | .chk fp s d u kl=>.chk s.b (.ok ((σ.upd i dst fp d u kl).relog (lg fp kl)))
def FZ (o:Oper) (lg:List (Nat×Bool)->List Nat->List (Nat×Nat×Nat)) (i:Nat) (σ:St):ae St :=
 match Qc P Γ o (eH σ.env) (lk σ.aB) with
 | some p=>p.c.bind λ r=>zcP (p.f r) lg i o.dst σ
 | none=>zcP (act P Γ o (eH σ.env) (lk σ.aB)) lg i o.dst σ

def qL (nt : Nat) (ops : Array Oper) : Nat → List Oper → St → ae St
  | _,[],σ=>.ok σ
  | i,o :: r,σ =>
    match dE nt o.dst with
    | false=>.no
    | true =>
    match o.guard with
    | none=>(FZ P Γ o (lL σ i o) i σ).bind (qL nt ops (i+1) r)
    | some (j,want) =>
      match (ops[j]?).bind (·.dst) with
      | none=>.no
      | some g =>
        match lk σ.env g with
        | some (.one (.c (.p (.bool b)))) =>
          .ite b
            (match want with
              | true=>(FZ P Γ o (lL (σ.setT g (.bool true)) i o) i (σ.setT g (.bool true))).bind (qL nt ops (i+1) r)
              | false=>qL nt ops (i+1) r ((σ.setT g (.bool true)).skip o.dst))
            (match want with
              | true=>qL nt ops (i+1) r ((σ.setT g (.bool false)).skip o.dst)
              | false=>(FZ P Γ o (lL (σ.setT g (.bool false)) i o) i (σ.setT g (.bool false))).bind (qL nt ops (i+1) r))
        | some (.one (.c .undef))=>qL nt ops (i+1) r (σ.skip o.dst)
        | _=>.no

def zcQ (aT:bW) (id:Nat) (ops:Array Oper) (draw:Bool) (σ:St):ae St :=
 match draw with
 | false=>(qL P Γ aT.nt ops 0 ops.toList { σ with log:=[] }).bind λ σ'=>match lk aT.reg id with
   | some k=>.opt (canon P k σ')
   | none=>.ok σ'
 | true=>match P.follows .mixedOrders && Ej ops && wZ ops (masks ops.toList []) with
  | true=>(qL P Γ aT.nt ops 0 ops.toList { σ with log:=[] }).bind λ σ'=>match qy (masks ops.toList []) σ'.log with
   | true=>match lk aT.reg id with
    | some k=>.opt (canon P k σ')
    | none=>.no
   | false=>.no
  | false=>.no

def TZ (aT:bW) (r:Nat) (σ:St):ae St :=
 match lk aT.cut r with
 | some k=>.opt (canon P k σ)
 | none=>.ok σ

def lpC (k : Keep) (step : St → ae (Exit × St)) : Nat → St → ae (Exit × St)
  | 0,_=>.no
  | n+1,s=>(step s).bind λ (e,s1)=>match e with
    | .normal=>(ae.opt (canon P k s1)).bind (lpC k step n)
    | e=>.ok (e,s1)
def unC (k : Keep) (step : St → ae (Exit × St)) : Nat → St → ae (Exit × St)
  | 0,_=>.no
  | n+1,σ=>(ae.opt (canon P k σ)).bind λ s=>(step s).bind λ (e,s1)=>match e with
    | .normal=>unC k step n s1
    | e=>.ok (e,s1)
def rgC (k : Keep) (ps : List Nat) (ah bd : St → ae (Exit × St)) : List (List PA) → St → ae (Exit × St)
  | [],s=>.ok (.normal,s)
  | y :: rest,s=>match mi ps y s.env with
    | some env=>(ah ⟨env,s.aB,[]⟩).bind λ (e,s1)=>match e with
      | .normal=>(bd s1).bind λ (e,s2)=>match e with
        | .normal=>(ae.opt (canon P k s2)).bind (rgC k ps ah bd rest)
        | .ret=>(ae.opt (canon P k s2)).mp λ s=>(.ret,s)
        | .exit id=>(ae.opt (canon P k s2)).mp λ s=>(.exit id,s)
        | _=>.no
      | _=>.no
    | none=>.no
def sqC (go : St → ae (Exit × St)) : Exit × St → ae (Exit × St)
  | (.normal,s)=>go s
  | r=>.ok r
def bkC (id : Nat) : Exit × St → Exit × St
  | (.exit i,s)=>match Nat.beq i id with | true=>(.normal,s) | false=>(.exit i,s)
  | r=>r
def scC : Exit × St → ae (Exit × St)
  | (.goto _,_)=>.no
  | r=>.ok r

variable (N:Nat)
def vcC (aT : bW) : Code → St → ae (Exit × St)
  | .skip,σ=>.ok (.normal,σ)
  | .region id ops draw,σ=>(zcQ P Γ aT id ops draw σ).mp λ s=>(.normal,s)
  | .seq a b,σ=>(vcC aT a σ).bind (sqC λ s=>(TZ P aT (iC b) s).bind (vcC aT b))
  | .cond c a b,σ=>match eH σ.env c with
    | .one (.c (.p (.bool t)))=>.ite t (vcC aT a (tK σ c true)) (vcC aT b (tK σ c false))
    | _=>.no
  | .block id b,σ=>(vcC aT b σ).mp (bkC id)
  | .loop b,σ=>match lk aT.head (iC b) with
    | some k=>(ae.opt (canon P k σ)).bind (lpC P k (vcC aT b) N)
    | none=>match lk aT.unr (iC b) with
      | some (n,k)=>unC P k (vcC aT b) n σ
      | none=>.no
  | .rangeFunc f ps assign body,σ=>match lk aT.head (SQ assign body) with
    | some k=>match canon P k σ,uf k.tmps (ps.toList ++ (eY assign ++ eY body)) && ps.toList.all (λ p=>Nat.blt p aT.nt) with
      | some s,true=>match eH s.env f with
        | .one (.c (.p (.fn gf [] caps)))=>(Γ.it gf (caps.map .one)).bind λ ys=>rgC P k ps.toList (vcC aT assign) (vcC aT body) ys s
        | _=>.no
      | _,_=>.no
    | none=>.no
  | .exit id,σ=>.ok (.exit id,σ)
  | .scope b,σ=>(vcC aT b σ).bind scC
  | .label _,σ=>.ok (.normal,σ)
  | .ret,σ=>.ok (.ret,σ)
  | _,_=>.no
end

section
variable {P:Program}{Γ:aX}

theorem WQ {C:MK}{sf:jv}{args:List DV}{ob:Nat->Option AO}{p:Qb}{r:p.ρ}(h:zhx C sf args ob=some p) (hr:p.c.o=some r):pg C sf args ob=p.f r:=by
 unfold zhx at h;unfold pg;split at h
 ·rename_i xs ls ms hx;cases h;obtain⟨rs,ys⟩:=r;simp only at hr ⊢;rw[hx];simp only[hr];cases iI ob args ys with
  | none=>rfl
  | some u=>rfl
 ·cases h
theorem zhy {o : Oper} {e s b : Nat} {F : List PA → ae (Nat × (Nat → List PV) × List PV)} {args : List DV} {ob : Nat → Option AO} {p : Qb} {r : p.ρ} (h : zn5 P o e s b F args ob = some p) (hr : p.c.o = some r) :
  iU P Γ o (.mkv e s b F) args ob=p.f r:=by
 unfold zn5 at h;unfold iU;split at h
 ·rename_i az u dst hx hd;cases h;obtain⟨n,get,rs⟩:=r;simp only at hr ⊢;rw[hx,hd];simp only[hr];cases ob dst <;> cases P.info? e <;> cases fA P e <;> rfl
 ·cases h
theorem zcR {o : Oper} {e s b : Nat} {F : List PA → Nat → (Nat → List PV) → ae (Nat × (Nat → List PV))} {args : List DV} {ob : Nat → Option AO} {p : Qb} {r : p.ρ} (h : zcO P o e s b F args ob = some p) (hr : p.c.o = some r) :
  iU P Γ o (.grow e s b F) args ob=p.f r:=by
 unfold zcO at h;unfold iU;split at h
 ·rename_i ds L hl;split at h
  ·rename_i az e' s' b' n get ha hL;cases h;obtain⟨m,get'⟩:=r;simp only at hr ⊢;rw[hl];simp only[ha,hL,hr]
  ·cases h
 ·rename_i ds hl;split at h
  ·rename_i az dst ha hd;split at h
   ·rename_i ie z h1 h2 h3;split at h
    ·rename_i l h4;cases h;obtain⟨m,get'⟩:=r;simp only at hr ⊢;rw[hl];simp only[ha,hd,h1,h2,h3,h4,hr]
    ·cases h
   ·cases h
  ·cases h
 ·cases h
theorem zhz {o:Oper}{ev:Operand->DV}{ob:Nat->Option AO}{p:Qb}{r:p.ρ}(h:Qc P Γ o ev ob=some p) (hr:p.c.o=some r):act P Γ o ev ob=p.f r:=by
 unfold Qc at h;split at h
 ·rename_i f args ats hop;simp only[act,hop,aCl];split at h
  ·rename_i g caps hf;simp only[hf];split at h
   ·rename_i C hC;simp only[hC];exact WQ h hr
   ·cases h
  ·rename_i g first caps hf
   simp only[hf];split at h
   ·rename_i C hC;simp only[hC];exact WQ h hr
   ·rename_i hC;simp only[hC];split at h
    ·rename_i hk;simp only[hk,zS.on];split at h
     ·rename_i az u hz;cases h;simp only at hr ⊢;rw[hz];simp only[hr]
     ·cases h
    ·rename_i e s b F hk;simp only[hk,zS.on];split at h
     ·exact zhy h hr
     ·cases h
    ·rename_i e s b F hk;simp only[hk,zS.on];split at h
     ·exact zcR h hr
     ·cases h
    ·cases h
  ·rename_i g cells hf;simp only[hf];split at h
   ·rename_i az u hz;cases h;simp only at hr ⊢;rw[hz];simp only[hr]
   ·cases h
  ·cases h
 ·cases h

theorem WR {A:aH}{lg:List (Nat×Bool)->List Nat->List (Nat×Nat×Nat)}{i:Nat}{dst:Option Nat}{σ s:St}{K:St->Prop}(h:(zcP A lg i dst σ).o=some s) (hK:K s):kH A lg i dst K σ:=by
 cases A with
 | no=>exact (ae.no_o h).elim
 | val fp d u kl=>have:=ae.ok_o h;subst this;exact hK
 | chk fp c d u kl =>
  obtain⟨h1,h2⟩:=ae.chk_o h;have:=ae.ok_o h2;subst this;exact⟨c.h h1,hK⟩
theorem WS {o:Oper}{lg:List (Nat×Bool)->List Nat->List (Nat×Nat×Nat)}{i:Nat}{σ s:St}{K:St->Prop}(h:(FZ P Γ o lg i σ).o=some s) (hK:K s):kH (act P Γ o (eH σ.env) (lk σ.aB)) lg i o.dst K σ:=by
 unfold FZ at h;split at h
 ·rename_i p hp;obtain⟨r,h1,h2⟩:=ae.bind_o h;rw[zhz hp h1];exact WR h2 hK
 ·exact WR h hK

theorem su {nt : Nat} {ops : Array Oper} {K : St → Prop} : ∀ (l : List Oper) (i : Nat) (σ s : St), (qL P Γ nt ops i l σ).o = some s → K s → iJ P Γ nt ops i l K σ
  | [],i,σ,s,h,hK=>by have:=ae.ok_o h;subst this;exact hK
  | o :: r,i,σ,s,h,hK=>by
    have one:∀ (lg:List (Nat×Bool)->List Nat->List (Nat×Nat×Nat)) (τ:St),((FZ P Γ o lg i τ).bind (qL P Γ nt ops (i+1) r)).o=some s->kH (act P Γ o (eH τ.env) (lk τ.aB)) lg i o.dst (iJ P Γ nt ops (i+1) r K) τ:=by
      intro lg τ h;obtain⟨s1,h1,h2⟩:=ae.bind_o h;exact WS h1 (su r _ _ _ h2 hK)
    simp only[qL] at h;simp only[iJ];split at h
    · exact (ae.no_o h).elim
    · rename_i hd;simp only[hd];split at h
      · rename_i hg;simp only[hg];exact one _ _ h
      · rename_i j want hg;simp only[hg];split at h
        · exact (ae.no_o h).elim
        · rename_i g hg2;simp only[hg2];split at h
          · rename_i b hb;simp only[hb];refine xZ (λ e=>?_) λ e=>?_
            · subst e;cases want with
              | true=>exact one _ _ h
              | false=>exact su r _ _ _ h hK
            · subst e;cases want with
              | true=>exact su r _ _ _ h hK
              | false=>exact one _ _ h
          · rename_i hb;simp only[hb];exact su r _ _ _ h hK
          · exact (ae.no_o h).elim

theorem WT {aT:bW}{id:Nat}{ops:Array Oper}{draw:Bool}{σ s:St}{K:St->Prop}(h:(zcQ P Γ aT id ops draw σ).o=some s) (hK:K s):Ju P Γ aT id ops draw K σ:=by
 unfold zcQ at h;unfold Ju;cases draw with
 | false =>
  obtain⟨s1,h1,h2⟩:=ae.bind_o h;refine su _ _ _ _ h1 ?_;split at h2
  ·rename_i k hk;rw[hk];simp only[ae.opt_o h2];exact hK
  ·rename_i hk;rw[hk];have:=ae.ok_o h2;subst this;exact hK
 | true =>
  simp only at h ⊢;split at h
  ·rename_i hc;rw[hc];obtain⟨s1,h1,h2⟩:=ae.bind_o h;refine su _ _ _ _ h1 ?_;split at h2
   ·rename_i hl;rw[hl];split at h2
    ·rename_i k hk;rw[hk];simp only[ae.opt_o h2];exact hK
    ·exact (ae.no_o h2).elim
   ·exact (ae.no_o h2).elim
  ·exact (ae.no_o h).elim

theorem zhA {aT:bW}{r:Nat}{σ s:St}{K:St->Prop}(h:(TZ P aT r σ).o=some s) (hK:K s):zgO P aT r K σ:=by
 unfold TZ at h;unfold zgO;split at h
 ·rename_i k hk;rw[hk];simp only[ae.opt_o h];exact hK
 ·rename_i hk;rw[hk];have:=ae.ok_o h;subst this;exact hK

theorem Ua {N:Nat}{aT:bW} : ∀ (c:Code) (σ s:St) (e:Exit) (K:Exit->St->Prop),(vcC P Γ N aT c σ).o=some (e,s)->K e s->vc P Γ aT c K σ:=by
 intro c
 induction c with
 | skip=>intro σ s e K h hK;cases ae.ok_o h;exact hK
 | region id ops draw =>
  intro σ s e K h hK;obtain⟨s1,h1,h2⟩:=ae.mp_o h;cases h2;exact WT h1 hK
 | seq a b iha ihb =>
  intro σ s e K h hK;obtain⟨⟨e1,s1⟩,h1,h2⟩:=ae.bind_o h;refine iha σ s1 e1 _ h1 ?_;cases e1 with
  | normal =>
   obtain⟨s2,h3,h4⟩:=ae.bind_o h2;exact zhA h3 (ihb _ _ _ _ h4 hK)
  | _=>cases ae.ok_o h2;exact hK
 | cond c a b iha ihb =>
  intro σ s e K h hK;simp only[vcC] at h;simp only[vc];split at h
  ·rename_i t ht;simp only[ht];refine xZ (λ e1=>?_) λ e1=>?_
   ·subst e1;exact iha _ _ _ _ h hK
   ·subst e1;exact ihb _ _ _ _ h hK
  ·exact (ae.no_o h).elim
 | block id b ih =>
  intro σ s e K h hK;obtain⟨⟨e1,s1⟩,h1,h2⟩:=ae.mp_o h;refine ih σ s1 e1 _ h1 ?_;cases e1 with
  | exit j =>
   simp only[bkC] at h2;simp only[SN];split at h2
   ·rename_i hj;rw[hj];cases h2;exact hK
   ·rename_i hj;rw[hj];cases h2;exact hK
  | _=>cases h2;exact hK
 | loop b ih =>
  intro σ s e K h hK;simp only[vcC] at h;simp only[vc];split at h
  ·rename_i k hk;obtain⟨s1,h1,h2⟩:=ae.bind_o h;simp only[hk,ae.opt_o h1];intro X hX;have key:∀ (n:Nat) (s1:St),(lpC P k (vcC P Γ N aT b) n s1).o=some (e,s)->X s1:=by
    intro n
    induction n with
    | zero=>intro s1 h;exact (ae.no_o h).elim
    | succ n ihn =>
     intro s1 h;obtain⟨⟨e1,s2⟩,h1,h2⟩:=ae.bind_o h;refine hX s1 (ih _ _ _ _ h1 ?_);cases e1 with
     | normal =>
      obtain⟨s3,h3,h4⟩:=ae.bind_o h2;simp only[zbJ,hk,ae.opt_o h3];exact ihn s3 h4
     | _=>cases ae.ok_o h2;exact hK
   exact key N s1 h2
  ·rename_i hk;split at h
   ·rename_i n k hn;simp only[hk,hn];have key:∀ (n:Nat) (σ:St),(unC P k (vcC P Γ N aT b) n σ).o=some (e,s)->Yh P k (vc P Γ aT b) n K σ:=by
     intro n
     induction n with
     | zero=>intro s1 h;exact (ae.no_o h).elim
     | succ n ihn =>
      intro s1 h;obtain⟨s0,h0,h⟩:=ae.bind_o h;obtain⟨⟨e1,s2⟩,h1,h2⟩:=ae.bind_o h;simp only[Yh,ae.opt_o h0];refine ih _ _ _ _ h1 ?_;cases e1 with
      | normal=>exact ihn _ h2
      | _=>cases ae.ok_o h2;exact hK
    exact key n σ h
   ·exact (ae.no_o h).elim
 | rangeFunc f ps ah bd iha ihb =>
  intro σ s e K h hK;simp only[vcC] at h;simp only[vc];split at h
  ·rename_i k hk;split at h
   ·rename_i s1 hs hd;simp only[hk,hs,hd];split at h
    ·rename_i gf caps hf;obtain⟨ys,h1,h2⟩:=ae.bind_o h;simp only[hf,h1];intro X hX0 hX1;have key:∀ (ys:List (List PA)) (s1:St),(rgC P k ps.toList (vcC P Γ N aT ah) (vcC P Γ N aT bd) ys s1).o=some (e,s)->X ys s1:=by
      intro ys
      induction ys with
      | nil=>intro s1 h;cases ae.ok_o h;exact hX0 _ hK
      | cons y rest ihr =>
       intro s1 h;simp only[rgC] at h;refine hX1 y rest s1 ?_;split at h
       ·rename_i env henv;simp only[henv];obtain⟨⟨e1,s2⟩,h1,h2⟩:=ae.bind_o h;refine iha _ _ _ _ h1 ?_;cases e1 with
        | normal =>
         obtain⟨⟨e2,s3⟩,h3,h4⟩:=ae.bind_o h2;refine ihb _ _ _ _ h3 ?_;cases e2 with
         | normal =>
          obtain⟨s4,h5,h6⟩:=ae.bind_o h4;simp only[ut,ae.opt_o h5];exact ihr _ h6
         | ret =>
          obtain⟨s4,h5,h6⟩:=ae.mp_o h4;cases h6;simp only[ut,ae.opt_o h5];exact hK
         | exit id =>
          obtain⟨s4,h5,h6⟩:=ae.mp_o h4;cases h6;simp only[ut,ae.opt_o h5];exact hK
         | _=>exact (ae.no_o h4).elim
        | _=>exact (ae.no_o h2).elim
       ·exact (ae.no_o h).elim
     exact key ys s1 h2
    ·exact (ae.no_o h).elim
   ·exact (ae.no_o h).elim
  ·exact (ae.no_o h).elim
 | exit id=>intro σ s e K h hK;cases ae.ok_o h;exact hK
 | scope b ih =>
  intro σ s e K h hK;obtain⟨⟨e1,s1⟩,h1,h2⟩:=ae.bind_o h;refine ih σ s1 e1 _ h1 ?_;cases e1 with
  | goto l=>exact (ae.no_o h2).elim
  | _=>cases ae.ok_o h2;exact hK
 | label l=>intro σ s e K h hK;cases ae.ok_o h;exact hK
 | ret=>intro σ s e K h hK;cases ae.ok_o h;exact hK
 | goto l=>intro σ s e K h hK;exact (ae.no_o h).elim
 | refuse s=>intro σ s e K h hK;exact (ae.no_o h).elim
end
end Go.Pm
namespace Go.Pm

section
variable (P:Program) (Γ:aX){A:Type}
def bf (b:Bool) (x:Option A):Option A:=match b with | true=>x | false=>none
def WU (a:aH) (lg:List (Nat×Bool)->List Nat->List (Nat×Nat×Nat)) (i:Nat) (dst:Option Nat) (K:St->Option A) (σ:St):Option A :=
 match a with
 | .no=>none
 | .val fp d u kl=>K ((σ.upd i dst fp d u kl).relog (lg fp kl))
 | .chk fp s d u kl=>bf s.b (K ((σ.upd i dst fp d u kl).relog (lg fp kl)))
def Ub (o:Oper) (lg:List (Nat×Bool)->List Nat->List (Nat×Nat×Nat)) (i:Nat) (K:St->Option A) (σ:St):Option A :=
 match Qc P Γ o (eH σ.env) (lk σ.aB) with
 | some p=>p.c.T λ r=>WU (p.f r) lg i o.dst K σ
 | none=>WU (act P Γ o (eH σ.env) (lk σ.aB)) lg i o.dst K σ
def opsT (nt : Nat) (ops : Array Oper) (K : St → Option A) : Nat → List Oper → St → Option A
  | _,[],σ=>K σ
  | i,o :: r,σ =>
    match dE nt o.dst with
    | false=>none
    | true =>
    match o.guard with
    | none=>Ub P Γ o (lL σ i o) i (opsT nt ops K (i+1) r) σ
    | some (j,want) =>
      match (ops[j]?).bind (·.dst) with
      | none=>none
      | some g =>
        match lk σ.env g with
        | some (.one (.c (.p (.bool b)))) =>
          cond b
            (match want with
              | true=>Ub P Γ o (lL (σ.setT g (.bool true)) i o) i (opsT nt ops K (i+1) r) (σ.setT g (.bool true))
              | false=>opsT nt ops K (i+1) r ((σ.setT g (.bool true)).skip o.dst))
            (match want with
              | true=>opsT nt ops K (i+1) r ((σ.setT g (.bool false)).skip o.dst)
              | false=>Ub P Γ o (lL (σ.setT g (.bool false)) i o) i (opsT nt ops K (i+1) r) (σ.setT g (.bool false)))
        | some (.one (.c .undef))=>opsT nt ops K (i+1) r (σ.skip o.dst)
        | _=>none
def AP (k:Keep) (K:St->Option A) (σ:St):Option A:=match canon P k σ with
 | some s=>K s
 | none=>none
def zcT (aT:bW) (id:Nat) (ops:Array Oper) (draw:Bool) (K:St->Option A) (σ:St):Option A:=match draw with
 | false=>match lk aT.reg id with
  | some k=>AP P k K σ
  | none=>K σ
 | true=>match qy (masks ops.toList []) σ.log with
  | true=>match lk aT.reg id with
   | some k=>AP P k K σ
   | none=>none
  | false=>none
def zhB (aT:bW) (id:Nat) (ops:Array Oper) (draw:Bool) (K:St->Option A) (σ:St):Option A :=
 match draw with
 | false=>opsT P Γ aT.nt ops (zcT P aT id ops false K) 0 ops.toList { σ with log:=[] }
 | true=>match P.follows .mixedOrders && Ej ops && wZ ops (masks ops.toList []) with
  | true=>opsT P Γ aT.nt ops (zcT P aT id ops true K) 0 ops.toList { σ with log:=[] }
  | false=>none
def YV (aT:bW) (r:Nat) (K:St->Option A) (σ:St):Option A:=match lk aT.cut r with
 | some k=>AP P k K σ
 | none=>K σ
abbrev EK (A:Type):=Exit->St->Option A
def bkT (id:Nat) (K:EK A):EK A:=λ e s=>match e with
 | .exit i=>match Nat.beq i id with | true=>K .normal s | false=>K (.exit i) s
 | e=>K e s
def scT (K:EK A):EK A:=λ e s=>match e with
 | .goto _=>none
 | e=>K e s
def lpK (k:Keep) (go:St->Option A) (K:EK A):EK A:=λ e s=>match e with
 | .normal=>AP P k go s
 | e=>K e s
def lpT (k : Keep) (step : EK A → St → Option A) (K : EK A) : Nat → St → Option A
  | 0,_=>none
  | n+1,s=>step (lpK P k (lpT k step K n) K) s
def unT (k : Keep) (step : EK A → St → Option A) (K : EK A) : Nat → St → Option A
  | 0,_=>none
  | n+1,σ=>AP P k (step λ e s=>match e with
    | .normal=>unT k step K n s
    | e=>K e s) σ
def rgK (k:Keep) (go:St->Option A) (K:EK A):EK A:=λ e s=>match e with
 | .normal=>AP P k go s
 | .ret=>AP P k (K .ret) s
 | .exit id=>AP P k (K (.exit id)) s
 | _=>none
def asK (bd:EK A->St->Option A) (K:EK A):EK A:=λ e s=>match e with
 | .normal=>bd K s
 | _=>none
def rgT (k : Keep) (ps : List Nat) (ah bd : EK A → St → Option A) (K : EK A) : List (List PA) → St → Option A
  | [],s=>K .normal s
  | y :: rest,s=>match mi ps y s.env with
    | some env=>ah (asK bd (rgK P k (rgT k ps ah bd K rest) K)) ⟨env,s.aB,[]⟩
    | none=>none
def sqT (aT:bW) (id:Nat) (go:EK A->St->Option A) (K:EK A):EK A:=λ e s=>match e with
 | .normal=>YV P aT id (go K) s
 | e=>K e s
variable (N:Nat)
def uk (aT : bW) : Code → EK A → St → Option A
  | .skip,K,σ=>K .normal σ
  | .region id ops draw,K,σ=>zhB P Γ aT id ops draw (K .normal) σ
  | .seq a b,K,σ=>uk aT a (sqT P aT (iC b) (uk aT b) K) σ
  | .cond c a b,K,σ=>match eH σ.env c with
    | .one (.c (.p (.bool t)))=>cond t (uk aT a K (tK σ c true)) (uk aT b K (tK σ c false))
    | _=>none
  | .block id b,K,σ=>uk aT b (bkT id K) σ
  | .loop b,K,σ=>match lk aT.head (iC b) with
    | some k=>AP P k (lpT P k (uk aT b) K N) σ
    | none=>match lk aT.unr (iC b) with
      | some (n,k)=>unT P k (uk aT b) K n σ
      | none=>none
  | .rangeFunc f ps assign body,K,σ=>match lk aT.head (SQ assign body) with
    | some k=>match canon P k σ,uf k.tmps (ps.toList ++ (eY assign ++ eY body)) && ps.toList.all (λ p=>Nat.blt p aT.nt) with
      | some s,true=>match eH s.env f with
        | .one (.c (.p (.fn gf [] caps)))=>(Γ.it gf (caps.map .one)).T λ ys=>rgT P k ps.toList (uk aT assign) (uk aT body) K ys s
        | _=>none
      | _,_=>none
    | none=>none
  | .exit id,K,σ=>K (.exit id) σ
  | .scope b,K,σ=>uk aT b (scT K) σ
  | .label _,K,σ=>K .normal σ
  | .ret,K,σ=>K .ret σ
  | _,_,_=>none
end

section
variable {P:Program}{Γ:aX}{A:Type}{N:Nat}
theorem WV {o:Oper}{lg:List (Nat×Bool)->List Nat->List (Nat×Nat×Nat)}{i:Nat}{K:St->Option A}{σ:St} : Ub P Γ o lg i K σ=(FZ P Γ o lg i σ).T K:=by
 have key:∀ a:aH,WU a lg i o.dst K σ=(zcP a lg i o.dst σ).T K:=by
  intro a;cases a with
  | no=>rfl
  | val=>rfl
  | chk fp s d u kl=>unfold WU zcP bf;cases hs:s.b <;> simp only[hs,ae.chk,ae.ok]
 unfold Ub FZ;cases Qc P Γ o (eH σ.env) (lk σ.aB) with
 | none=>exact key _
 | some p =>
  show p.c.T _=p.c.T _;congr 1;funext r;exact key _
theorem Dz {nt : Nat} {ops : Array Oper} {K : St → Option A} : ∀ (l : List Oper) (i : Nat) (σ : St), opsT P Γ nt ops K i l σ = (qL P Γ nt ops i l σ).T K
  | [],_,_=>rfl
  | o :: r,i,σ=>by
    have one:∀ (lg:List (Nat×Bool)->List Nat->List (Nat×Nat×Nat)) (τ:St),Ub P Γ o lg i (opsT P Γ nt ops K (i+1) r) τ=((FZ P Γ o lg i τ).bind (qL P Γ nt ops (i+1) r)).T K:=λ lg τ=>by
      rw[WV];show (FZ P Γ o lg i τ).T _=(FZ P Γ o lg i τ).T _;congr 1;funext s;exact Dz r _ s
    have rest:∀ σ:St,opsT P Γ nt ops K (i+1) r σ=(qL P Γ nt ops (i+1) r σ).T K:=λ σ=>Dz r _ σ;simp only[opsT,qL];cases dE nt o.dst with
    | false=>rfl
    | true =>
      simp only;cases o.guard with
      | none=>exact one _ _
      | some x =>
        obtain⟨j,want⟩:=x;simp only;cases (ops[j]?).bind (·.dst) with
        | none=>rfl
        | some g =>
          simp only;cases lk σ.env g with
          | none=>rfl
          | some d=>cases d with
            | tup _=>rfl
            | one d=>cases d with
              | agg _=>rfl
              | c x=>cases x with
                | undef=>exact rest _
                | p v=>cases v with
                  | bool b=>cases b <;> cases want <;> first | exact one _ _ | exact rest _
                  | _=>rfl
                | _=>rfl
theorem mM {k:Keep}{K:St->Option A}{σ:St} : AP P k K σ=(ae.opt (canon P k σ)).T K:=by
 unfold AP;cases canon P k σ <;> rfl
theorem WW {aT:bW}{id:Nat}{ops:Array Oper}{draw:Bool}{K:St->Option A}{σ:St} : zhB P Γ aT id ops draw K σ=(zcQ P Γ aT id ops draw σ).T K:=by
 cases draw with
 | false =>
  show opsT P Γ aT.nt ops _ 0 ops.toList _=(qL P Γ aT.nt ops 0 ops.toList _).T _;rw[Dz];congr 1;funext s;simp only[zcT];cases lk aT.reg id with
  | none=>rfl
  | some k=>exact mM
 | true =>
  simp only[zhB,zcQ];cases P.follows .mixedOrders && Ej ops && wZ ops (masks ops.toList []) with
  | false=>rfl
  | true =>
   simp only;rw[Dz];show _=(qL P Γ aT.nt ops 0 ops.toList _).T _;congr 1;funext s;show _=((match qy (masks ops.toList []) s.log with | true=>(match lk aT.reg id with | some k=>ae.opt (canon P k s) | none=>.no) | false=>.no):ae St).T K;simp only[zcT];cases qy (masks ops.toList []) s.log with
   | false=>rfl
   | true =>
    cases lk aT.reg id with
    | none=>rfl
    | some k=>exact mM
theorem WX {aT:bW}{r:Nat}{K:St->Option A}{σ:St} : YV P aT r K σ=(TZ P aT r σ).T K:=by
 unfold YV TZ;cases lk aT.cut r with
 | none=>rfl
 | some k=>exact mM
theorem Md {aT:bW} : ∀ (c:Code) (K:EK A) (σ:St),uk P Γ N aT c K σ=(vcC P Γ N aT c σ).T λ r=>K r.1 r.2:=by
 intro c
 induction c with
 | skip=>intro K σ;rfl
 | region id ops draw=>intro K σ;exact WW
 | seq a b iha ihb =>
  intro K σ;rw[uk,iha];show (vcC P Γ N aT a σ).T _=(vcC P Γ N aT a σ).T _;congr 1;funext r;obtain⟨e,s⟩:=r;cases e with
  | normal =>
   show YV P aT (iC b) (uk P Γ N aT b K) s=(TZ P aT (iC b) s).T _;rw[WX];congr 1;funext s;exact ihb _ _
  | _=>rfl
 | cond c a b iha ihb =>
  intro K σ;simp only[uk,vcC];cases eH σ.env c with
  | tup _=>rfl
  | one d=>cases d with
   | agg _=>rfl
   | c x=>cases x with
    | p v=>cases v with
     | bool t=>cases t with
      | true=>exact iha _ _
      | false=>exact ihb _ _
     | _=>rfl
    | _=>rfl
 | block id b ih =>
  intro K σ;rw[uk,ih];show (vcC P Γ N aT b σ).T _=(vcC P Γ N aT b σ).T _;congr 1;funext r;obtain⟨e,s⟩:=r;cases e with
  | exit j=>simp only[bkT,bkC];cases Nat.beq j id <;> rfl
  | _=>rfl
 | loop b ih =>
  intro K σ;simp only[uk,vcC];cases lk aT.head (iC b) with
  | some k =>
   simp only;rw[mM];show (ae.opt (canon P k σ)).T _=(ae.opt (canon P k σ)).T _;congr 1;funext s;have key:∀ (n:Nat) (s:St),lpT P k (uk P Γ N aT b) K n s=(lpC P k (vcC P Γ N aT b) n s).T λ r=>K r.1 r.2:=by
    intro n
    induction n with
    | zero=>intro s;rfl
    | succ n ihn =>
     intro s;rw[lpT,ih];show (vcC P Γ N aT b s).T _=(vcC P Γ N aT b s).T _;congr 1;funext r;obtain⟨e,s1⟩:=r;cases e with
     | normal =>
      show AP P k _ s1=(ae.opt (canon P k s1)).T _;rw[mM];congr 1;funext s;exact ihn s
     | _=>rfl
   exact key N s
  | none =>
   simp only;cases lk aT.unr (iC b) with
   | none=>rfl
   | some x =>
    obtain⟨n,k⟩:=x;simp only;have key:∀ (n:Nat) (s:St),unT P k (uk P Γ N aT b) K n s=(unC P k (vcC P Γ N aT b) n s).T λ r=>K r.1 r.2:=by
     intro n
     induction n with
     | zero=>intro s;rfl
     | succ n ihn =>
      intro s;rw[unT,mM];show (ae.opt (canon P k s)).T _=(ae.opt (canon P k s)).T _;congr 1;funext s;rw[ih];show (vcC P Γ N aT b s).T _=(vcC P Γ N aT b s).T _;congr 1;funext r;obtain⟨e,s1⟩:=r;cases e with
      | normal=>exact ihn s1
      | _=>rfl
    exact key n σ
 | rangeFunc f ps ah bd iha ihb =>
  intro K σ;simp only[uk,vcC];cases lk aT.head (SQ ah bd) with
  | none=>rfl
  | some k =>
   simp only;have key:∀ (ys:List (List PA)) (s:St),rgT P k ps.toList (uk P Γ N aT ah) (uk P Γ N aT bd) K ys s=(rgC P k ps.toList (vcC P Γ N aT ah) (vcC P Γ N aT bd) ys s).T λ r=>K r.1 r.2:=by
    intro ys
    induction ys with
    | nil=>intro s;rfl
    | cons y rest ihr =>
     intro s;simp only[rgT,rgC];cases mi ps.toList y s.env with
     | none=>rfl
     | some env =>
      simp only;rw[iha];show (vcC P Γ N aT ah _).T _=(vcC P Γ N aT ah _).T _;congr 1;funext r;obtain⟨e,s1⟩:=r;cases e with
      | normal =>
       show uk P Γ N aT bd _ s1=(vcC P Γ N aT bd s1).T _;rw[ihb];congr 1;funext r;obtain⟨e,s2⟩:=r;cases e with
       | normal =>
        show AP P k _ s2=(ae.opt (canon P k s2)).T _;rw[mM];congr 1;funext s;exact ihr s
       | ret=>exact mM
       | exit id=>exact mM
       | _=>rfl
      | _=>rfl
   cases canon P k σ with
   | none=>rfl
   | some s =>
    cases uf k.tmps (ps.toList ++ (eY ah ++ eY bd)) && ps.toList.all (λ p=>Nat.blt p aT.nt) with
    | false=>rfl
    | true =>
     simp only;cases eH s.env f with
     | tup _=>rfl
     | one d=>cases d with
      | agg _=>rfl
      | c x=>cases x with
       | p v=>cases v with
        | fn gf first caps=>cases first with
         | cons _ _=>rfl
         | nil =>
          show (Γ.it gf (caps.map .one)).T _=(Γ.it gf (caps.map .one)).T _;congr 1;funext ys;exact key ys s
        | _=>rfl
       | _=>rfl
 | exit id=>intro K σ;rfl
 | scope b ih =>
  intro K σ;rw[uk,ih];show (vcC P Γ N aT b σ).T _=(vcC P Γ N aT b σ).T _;congr 1;funext r;obtain⟨e,s⟩:=r;cases e <;> rfl
 | label l=>intro K σ;rfl
 | ret=>intro K σ;rfl
 | goto l=>intro K σ;rfl
 | refuse s=>intro K σ;rfl
end
end Go.Pm
namespace Go.Pm

abbrev YO:=Option (List (List PA))
section
variable (P:Program) (Γ:aX)

def yT (y:List PA) (a b:YO):YO:=match a with
 | some _=>match b with
  | some r=>some (y :: r)
  | none=>none
 | none=>none
def F5 (nt:Nat) (o:Oper) (next:Bool->St->YO) (q:Bool) (σ:St):YO :=
 match zgP σ o with
 | some (args,t)=>match nH (args.toList.map (eH σ.env)),Nat.blt t nt,q with
  | some y,true,false=>yT y (next true ((vF σ).setT t (.bool false))) (next false ((vF σ).setT t (.bool true)))
  | _,_,_=>none
 | none=>match dE nt o.dst with
  | true=>Ub P Γ o (λ _ _=>[]) 0 (next q) σ
  | false=>none
def wO (nt : Nat) (ops : Array Oper) : List Oper → (Bool → St → YO) → Bool → St → YO
  | [],K,q,σ=>K q σ
  | o :: r,K,q,σ=>match o.guard with
    | none=>F5 P Γ nt o (wO nt ops r K) q σ
    | some (j,want)=>match dE nt o.dst,(ops[j]?).bind (·.dst) with
      | true,some g=>match lk σ.env g with
        | some (.one (.c (.p (.bool b)))) => cond b
            (match want with | true=>F5 P Γ nt o (wO nt ops r K) q (σ.setT g (.bool true)) | false=>wO nt ops r K q ((σ.setT g (.bool true)).skip o.dst))
            (match want with | true=>wO nt ops r K q ((σ.setT g (.bool false)).skip o.dst) | false=>F5 P Γ nt o (wO nt ops r K) q (σ.setT g (.bool false)))
        | some (.one (.c .undef))=>wO nt ops r K q (σ.skip o.dst)
        | _=>none
      | _,_=>none
abbrev Om:=Exit->Bool->St->YO
def YW (k:Keep) (K:St->YO) (σ:St):YO:=match canon P k σ with
 | some s=>K s
 | none=>none
def lkY (k:Keep) (go:Bool->St->YO) (K:Om):Om:=λ e q s=>match e with
 | .normal=>YW P k (go q) s
 | e=>K e q s
def skY (aT:bW) (id:Nat) (go:Om->Bool->St->YO) (K:Om):Om:=λ e q s=>match e with
 | .normal=>YV P aT id (go K q) s
 | e=>K e q s
def bkY (id:Nat) (K:Om):Om:=λ e q s=>match e with
 | .exit i=>match Nat.beq i id with | true=>K .normal q s | false=>K (.exit i) q s
 | e=>K e q s
def zwG (K:Om):Om:=λ e q s=>match e with
 | .goto _=>none
 | e=>K e q s
def zcU (k : Keep) (step : Om → Bool → St → YO) (K : Om) : Nat → Bool → St → YO
  | 0,_,_=>none
  | n+1,q,s=>step (lkY P k (zcU k step K n) K) q s
def zn6 (k : Keep) (step : Om → Bool → St → YO) (K : Om) : Nat → Bool → St → YO
  | 0,_,_=>none
  | n+1,q,σ=>YW P k (step (λ e q s1=>match e with
    | .normal=>zn6 k step K n q s1
    | e=>K e q s1) q) σ
variable (N:Nat)
def qM (aT : bW) : Code → Om → Bool → St → YO
  | .skip,K,q,σ=>K .normal q σ
  | .region id ops draw,K,q,σ=>match (zY ops.toList).contains 0,aT.yl.contains id,draw with
    | true,_,_=>none
    | false,true,false=>wO P Γ aT.nt ops ops.toList (λ q' σ'=>match lk aT.reg id with
      | some k=>YW P k (K .normal q') σ'
      | none=>K .normal q' { σ' with log:=[] }) q { σ with log:=[] }
    | false,true,true=>none
    | false,false,_=>zhB P Γ aT id ops draw (K .normal q) σ
  | .seq a b,K,q,σ=>qM aT a (skY P aT (iC b) (qM aT b) K) q σ
  | .cond c a b,K,q,σ=>match eH σ.env c with
    | .one (.c (.p (.bool t)))=>cond t (qM aT a K q (tK σ c true)) (qM aT b K q (tK σ c false))
    | _=>none
  | .block id b,K,q,σ=>qM aT b (bkY id K) q σ
  | .loop b,K,q,σ=>match lk aT.head (iC b) with
    | some k=>YW P k (zcU P k (qM aT b) K N q) σ
    | none=>match lk aT.unr (iC b) with
      | some (n,k)=>zn6 P k (qM aT b) K n q σ
      | none=>none
  | .exit id,K,q,σ=>K (.exit id) q σ
  | .scope b,K,q,σ=>qM aT b (zwG K) q σ
  | .label _,K,q,σ=>K .normal q σ
  | .ret,K,q,σ=>K .ret q σ
  | _,_,_,_=>none
def zlM:Om:=λ e _ _=>match e with
 | .normal=>some []
 | .ret=>some []
 | _=>none
def aI (aT:bW) (f:FuncId) (caps:List PA):YO :=
 match P.funcs[f]? with
 | some fn=>match fn.body with
  | some c=>match Nat.beq aT.nt fn.ntmps && Nat.ble (caps.length+1) aT.nt && fn.results.isEmpty with
   | true=>qM P Γ N aT c zlM false ⟨(0,.cl (.vec OD)) :: gQ 1 caps,[(OD,.gone)],[]⟩
   | false=>none
  | none=>none
 | none=>none
end

section
variable [aJ] {P:Program}{Γ:aX}{N:Nat}
theorem ae.T_some {ρ A:Type}{c:ae ρ}{k:ρ->Option A}{x:A}(h:c.T k=some x):∃ r,c.o=some r/\k r=some x:=by
 rw[c.nat] at h;cases e:c.T some with
 | none=>rw[e] at h;cases h
 | some r=>rw[e] at h;exact⟨r,e,h⟩
def Me (K:Bool->St->YO) (K':List (List PA)->Bool->St->Prop):Prop:=∀ q s r ys,K q s=some r->(q=false->ys=r)->K' ys q s
theorem AQ {nt:Nat}{o:Oper}{next:Bool->St->YO}{next':List (List PA)->Bool->St->Prop}(hn:Me next next'):Me (F5 P Γ nt o next) (rJ P Γ nt o next'):=by
 intro q σ r ys h hq;unfold F5 at h;unfold rJ;split at h
 ·rename_i args t hy;rw[hy];simp only;split at h
  ·rename_i y h1 h2;unfold yT at h;split at h
   ·rename_i r1 hf;split at h
    ·rename_i r2 ht;cases h;rw[h1,h2];exact⟨r2,hq rfl,hn _ _ _ _ ht λ _=>rfl,hn _ _ _ _ hf λ e=>by cases e⟩
    ·cases h
   ·cases h
  ·cases h
 ·rename_i hy;rw[hy];simp only;split at h
  ·rename_i hd;rw[hd];rw[WV] at h;obtain⟨s,h1,h2⟩:=ae.T_some h;exact WS h1 (hn _ _ _ _ h2 hq)
  ·cases h
theorem Qd {nt : Nat} {ops : Array Oper} {K : Bool → St → YO} {K' : List (List PA) → Bool → St → Prop} (hK : Me K K') : ∀ l : List Oper, Me (wO P Γ nt ops l K) (jy P Γ nt ops l K')
  | []=>hK
  | o :: l=>by
    intro q σ r ys h hq;have ih:Me (wO P Γ nt ops l K) (jy P Γ nt ops l K'):=Qd hK l;simp only[wO] at h;simp only[jy];split at h
    · rename_i hg;simp only[hg];exact AQ ih _ _ _ _ h hq
    · rename_i j want hg;simp only[hg];split at h
      · rename_i g hd hj;simp only[hd,hj];split at h
        · rename_i b hb;simp only[hb];refine xZ (λ e=>?_) λ e=>?_
          · subst e;cases want with
            | true=>exact AQ ih _ _ _ _ h hq
            | false=>exact ih _ _ _ _ h hq
          · subst e;cases want with
            | true=>exact ih _ _ _ _ h hq
            | false=>exact AQ ih _ _ _ _ h hq
        · rename_i hb;simp only[hb];exact ih _ _ _ _ h hq
        · cases h
      · cases h
theorem vP {k:Keep}{K:St->YO}{σ:St}{r:List (List PA)}(h:YW P k K σ=some r):∃ s,canon P k σ=some s/\K s=some r:=by
 unfold YW at h;split at h
 ·rename_i s hs;exact⟨s,hs,h⟩
 ·cases h
def zwH (K:Om) (K':YK):Prop:=∀ e,Me (K e) (K' e)
theorem zhC {aT:bW} : ∀ (c:Code) (K:Om) (K':YK),zwH K K'->Me (qM P Γ N aT c K) (KY P Γ aT c K'):=by
 intro c
 induction c with
 | skip=>exact λ K K' hK=>hK .normal
 | region id ops draw =>
  intro K K' hK q σ r ys h hq;simp only[qM] at h;simp only[KY];split at h
  ·cases h
  ·rename_i h1 h2;simp only[h1,h2];refine Qd (λ q s r ys h hq=>?_) ops.toList _ _ _ _ h hq;split at h
   ·rename_i k hk;obtain⟨s1,h3,h4⟩:=vP h;simp only[hk,h3];exact hK _ _ _ _ _ h4 hq
   ·rename_i hk;simp only[hk];exact hK _ _ _ _ _ h hq
  ·cases h
  ·rename_i h1 h2;simp only[h1,h2];rw[WW] at h;obtain⟨s,h3,h4⟩:=ae.T_some h;exact WT h3 (hK _ _ _ _ _ h4 hq)
 | seq a b iha ihb =>
  intro K K' hK;refine iha _ _ λ e q s r ys h hq=>?_;cases e with
  | normal =>
   have h:YV P aT (iC b) (qM P Γ N aT b K q) s=some r:=h;rw[WX] at h;obtain⟨s1,h1,h2⟩:=ae.T_some h;simp only[znB,znD];have:=ihb K K' hK _ _ _ _ h2 hq;unfold TZ at h1;split at h1
   ·rename_i k hk;simp only[hk,ae.opt_o h1];exact this
   ·rename_i hk;simp only[hk];cases ae.ok_o h1;exact this
  | _=>exact hK _ _ _ _ _ h hq
 | cond c a b iha ihb =>
  intro K K' hK q σ r ys h hq;simp only[qM] at h;simp only[KY];split at h
  ·rename_i t ht;simp only[ht];refine xZ (λ e1=>?_) λ e1=>?_
   ·subst e1;exact iha _ _ hK _ _ _ _ h hq
   ·subst e1;exact ihb _ _ hK _ _ _ _ h hq
  ·cases h
 | block id b ih =>
  intro K K' hK;refine ih _ _ λ e q s r ys h hq=>?_;cases e with
  | exit j =>
   simp only[bkY] at h;simp only[SS];split at h
   ·rename_i hj;rw[hj];exact hK _ _ _ _ _ h hq
   ·rename_i hj;rw[hj];exact hK _ _ _ _ _ h hq
  | _=>exact hK _ _ _ _ _ h hq
 | loop b ih =>
  intro K K' hK q σ r ys h hq;simp only[qM] at h;simp only[KY];split at h
  ·rename_i k hk;obtain⟨s1,h1,h2⟩:=vP h;simp only[hk,h1];intro X hX;have key:∀ n:Nat,Me (zcU P k (qM P Γ N aT b) K n) X:=by
    intro n
    induction n with
    | zero=>intro q s r ys h;cases h
    | succ n ihn =>
     intro q s r ys h hq;refine hX _ _ _ (ih _ _ (λ e q s r ys h hq=>?_) _ _ _ _ h hq);cases e with
     | normal =>
      obtain⟨s2,h3,h4⟩:=vP h;simp only[zbM,hk,h3];exact ihn _ _ _ _ h4 hq
     | _=>exact hK _ _ _ _ _ h hq
   exact key N _ _ _ _ h2 hq
  ·rename_i hk;split at h
   ·rename_i n k hn;simp only[hk,hn];have key:∀ n:Nat,Me (zn6 P k (qM P Γ N aT b) K n) (Jz P k (KY P Γ aT b) n K'):=by
     intro n
     induction n with
     | zero=>intro q s r ys h;cases h
     | succ n ihn =>
      intro q s r ys h hq;obtain⟨s1,h1,h2⟩:=vP h;simp only[Jz,h1];refine ih _ _ (λ e q s r ys h hq=>?_) _ _ _ _ h2 hq;cases e with
      | normal=>exact ihn _ _ _ _ h hq
      | _=>exact hK _ _ _ _ _ h hq
    exact key n _ _ _ _ h hq
   ·cases h
 | exit id=>exact λ K K' hK=>hK _
 | scope b ih =>
  intro K K' hK;refine ih _ _ λ e q s r ys h hq=>?_;cases e with
  | goto l=>cases h
  | _=>exact hK _ _ _ _ _ h hq
 | label l=>exact λ K K' hK=>hK .normal
 | ret=>exact λ K K' hK=>hK .ret
 | rangeFunc f ps a b _ _=>intro K K' hK q σ r ys h;cases h
 | goto l=>intro K K' hK q σ r ys h;cases h
 | refuse s=>intro K K' hK q σ r ys h;cases h
theorem zwI {aT:bW}{f:FuncId}{caps:List PA}{ys:List (List PA)}(h:aI P Γ N aT f caps=some ys):KZ P Γ aT f caps ys:=by
 unfold aI at h;unfold KZ;split at h
 ·rename_i fn hfn;split at h
  ·rename_i c hb;split at h
   ·rename_i hc;rw[hfn];simp only[hb,hc];refine zhC c _ _ (λ e q s r ys h hq=>?_) _ _ _ _ h λ _=>rfl;have fin:some []=some r->zbN ys q:=by
     intro e;cases e;cases q with
     | true=>trivial
     | false=>exact hq rfl
    cases e with
    | normal=>exact fin h
    | ret=>exact fin h
    | _=>cases h
   ·cases h
  ·cases h
 ·cases h
end
end Go.Pm
namespace Go.Pm

section
variable [aJ]
class gu (α : Type) where
  enc:α->PA
  dec:PA->α
  ck:PA->Bool
  up:∀ {h:Fz} {a:PA} {v:Value},kL h a v->ck a=true->kL h (enc (dec a)) v
  eq:α->α->Bool
  eqk:∀ {h:Fz} {a b:α} {v:Value},eq a b=true->kL h (enc a) v->kL h (enc b) v
abbrev gu.one {α : Type} [bG α] : gu α where
  enc x:=match bG.enc x with | [v]=>.one v | l=>.agg l
  dec a:=match a with | .one v=>(bG.dec [v]).1 | .agg l=>(bG.dec l).1
  ck a:=match a with | .one v=>Jt (bG.ck (α:=α) [v]) | .agg _=>false
  up:=by
    intro h a v r hc;cases a with
    | agg l=>cases hc
    | one p =>
      have r:Rep h p v:=r;have h1:=kU (α:=α) (g:=λ _=>[p]) (λ _ _=>⟨r.un,trivial⟩) hc 0;change RL lV [p] (bG.enc (bG.dec (α:=α) [p]).1) at h1;generalize bG.enc (bG.dec (α:=α) [p]).1=m at h1
      match m,h1 with
      | [q],h1=>exact r.up h1.1
      | [],h1=>exact h1.elim
      | _ :: _ :: _,h1=>exact h1.2.elim
  eq:=bG.eq
  eqk:=by
    intro h a b v he r;have h1:=bG.eqk he;generalize bG.enc a=l at h1 r;generalize bG.enc b=m at h1;have ag:∀ {l m:List PV},RL lV l m->kL h (.agg l) v->kL h (.agg m) v:=λ e r1=>by
      obtain⟨vs,e1,r2⟩:=r1;exact⟨vs,e1,xg e r2⟩
    match l,m,h1 with
    | [_],[_],h1=>exact Rep.up h1.1 r
    | [],[],h1=>exact ag h1 r
    | _ :: _ :: _,_ :: _ :: _,h1=>exact ag h1 r
    | [],_ :: _,h1=>exact h1.elim
    | [_],[],h1=>exact h1.elim
    | [_],_ :: _ :: _,h1=>exact h1.2.elim
    | _ :: _ :: _,[],h1=>exact h1.elim
    | _ :: _ :: _,[_],h1=>exact h1.2.elim
abbrev gu.agg' {α : Type} [bG α] : gu α where
  enc x:=.agg (bG.enc x)
  dec a:=match a with | .one v=>(bG.dec [v]).1 | .agg l=>(bG.dec l).1
  ck a:=match a with | .agg l=>Jt (bG.ck (α:=α) l) | .one _=>false
  up:=by
    intro h a v r hc;cases a with
    | one p=>cases hc
    | agg l =>
      obtain⟨vs,rfl,r⟩:=r;exact⟨vs,rfl,xg (kU (α:=α) (g:=λ _=>l) (λ _ _=>uu r) hc 0) r⟩
  eq:=bG.eq
  eqk:=by
    intro h a b v he r;obtain⟨vs,rfl,r⟩:=r;exact⟨vs,rfl,xg (bG.eqk he) r⟩
instance:gu Int:=.one
instance:gu Bool:=.one
instance {α:Type} [bG α] [Inhabited α]:gu (Sl α):=.one
instance {α:Type} [bG α]:gu (Pt α):=.one
class dw (α : Type) where
  enc:α->List PA
  dec:List PA->α
  ck:List PA->Bool
  up:∀ {h:Fz} {l:List PA} {vs:List Value},RL (kL h) l vs->ck l=true->RL (kL h) (enc (dec l)) vs
  eq:α->α->Bool
  eqk:∀ {h:Fz} {a b:α} {vs:List Value},eq a b=true->RL (kL h) (enc a) vs->RL (kL h) (enc b) vs
instance : dw Unit where
  enc _:=[]
  dec _:=()
  ck l:=l.isEmpty
  up:=by
    intro h l vs r hc;cases l with
    | nil=>exact r
    | cons=>cases hc
  eq _ _:=true
  eqk _ r:=r
instance {α : Type} [gu α] : dw α where
  enc x:=[gu.enc x]
  dec l:=gu.dec (l.headD (.agg []))
  ck l:=match l with | [a]=>gu.ck (α:=α) a | _=>false
  up:=by
    intro h l vs r hc
    match l,vs,r,hc with
    | [a],[v],r,hc=>exact⟨gu.up r.1 hc,trivial⟩
    | [],_,_,hc=>cases hc
    | _ :: _ :: _,_,_,hc=>cases hc
    | [_],[],r,_=>exact r.elim
    | [_],_ :: _ :: _,r,_=>exact r.2.elim
  eq:=gu.eq
  eqk:=by
    intro h a b vs he r
    match vs,r with
    | [v],r=>exact⟨gu.eqk he r.1,trivial⟩
    | [],r=>exact r.elim
    | _ :: _ :: _,r=>exact r.2.elim
instance {α β : Type} [gu α] [dw β] : dw (α × β) where
  enc x:=gu.enc x.1 :: dw.enc x.2
  dec l:=(gu.dec (l.headD (.agg [])),dw.dec l.tail)
  ck l:=match l with | a :: r=>gu.ck (α:=α) a && dw.ck (α:=β) r | _=>false
  up:=by
    intro h l vs r hc
    match l,vs,r,hc with
    | a :: l,v :: vs,r,hc =>
      rw[Bool.and_eq_true] at hc;exact⟨gu.up r.1 hc.1,dw.up r.2 hc.2⟩
    | [],_,_,hc=>cases hc
    | _ :: _,[],r,_=>exact r.elim
  eq a b:=gu.eq a.1 b.1 && dw.eq a.2 b.2
  eqk:=by
    intro h a b vs he r;rw[Bool.and_eq_true] at he
    match vs,r with
    | v :: vs,r=>exact⟨gu.eqk he.1 r.1,dw.eqk he.2 r.2⟩
    | [],r=>exact r.elim
theorem yL {h:Fz}{l m:List PA}{v:Value}(hm:∀ vs,RL (kL h) l vs->RL (kL h) m vs) (r:nJ h l v):nJ h m v:=by
 have go:∀ vs,RL (kL h) m vs->(vs.length=1->vs=[v])->(vs.length ≠ 1->v=.tuple vs.toArray)->nJ h m v:=by
  intro vs hr h1 h2
  match m,vs,hr with
  | [],[],_=>exact⟨[],h2 (by simp),trivial⟩
  | [x],[u],hr=>cases h1 rfl;exact hr.1
  | x :: y :: l,u :: u2 :: vs,hr=>exact⟨_,h2 (by simp),hr⟩
  | [],_ :: _,hr=>exact hr.elim
  | [_],[],hr=>exact hr.elim
  | [_],_ :: _ :: _,hr=>exact hr.2.elim
  | _ :: _ :: _,[],hr=>exact hr.elim
  | _ :: _ :: _,[_],hr=>exact hr.2.elim
 match l,r with
 | [],⟨vs,e,r⟩=>exact go vs (hm vs r) (λ h=>by rw[<- r.length] at h;cases h) λ _=>e
 | [x],r=>exact go [v] (hm [v] ⟨r,trivial⟩) (λ _=>rfl) λ h=>absurd rfl h
 | x :: y :: l,⟨vs,e,r⟩=>exact go vs (hm vs r) (λ h=>by rw[<- r.length] at h;simp at h) λ _=>e
end

/-! What is wanted later, as a number's bits. -/
def orL (m : Nat) : List Nat → Nat
  | []=>m
  | t :: r=>orL (m ||| 2 ^ t) r
def clL (m : Nat) : List Nat → Nat
  | []=>m
  | t :: r=>clL (m ^^^ (m &&& 2 ^ t)) r
def zlN (ops : Array Oper) : List Oper → Nat → Nat
  | [],m=>m
  | o :: r,m=>orL (clL (zlN ops r m) o.dst.toList) (pF ops o)
def YX : Code → Nat → Nat → List (Nat × Nat) → Nat × List (Nat × Nat × Nat)
  | .skip,o,_,_=>(o,[])
  | .region id ops _,o,_,_=>(zlN ops ops.toList o,[(0,id,o)])
  | .seq a b,o,r,x=>match YX b o r x with
    | (mb,lb)=>match YX a mb r x with
      | (ma,la)=>(ma,la ++ (2,iC b,mb) :: lb)
  | .cond c a b,o,r,x=>match YX a o r x,YX b o r x with
    | (ma,la),(mb,lb)=>(orL (ma ||| mb) (SH c),la ++ lb)
  | .block id b,o,r,x=>YX b o r ((id,o) :: x)
  | .loop b,_,r,x=>match (YX b 0 r x).1 with
    | m=>(m,(1,iC b,m) :: (YX b m r x).2)
  | .rangeFunc f ps a b,o,r,x=>match (YX b 0 r x).1 with
    | m0=>match orL (clL (o ||| (YX a m0 r x).1) ps.toList) (SH f) with
      | m=>match YX b m r x with
        | (mb,lb)=>(m,(1,SQ a b,m) :: ((YX a mb r x).2 ++ lb))
  | .exit id,_,_,x=>((lk x id).getD 0,[])
  | .scope b,o,r,x=>YX b o r x
  | .label _,o,_,_=>(o,[])
  | .ret,_,r,_=>(r,[])
  | _,_,_,_=>(0,[])
def WY (m : Nat) : Nat → Nat → List Nat
  | _,0=>[]
  | i,n+1=>match m.testBit i with | true=>i :: WY m (i+1) n | false=>WY m (i+1) n
structure Ext where
  ks:List (Nat×Nat×Keep):=[]
  cut:List Nat:=[]
  unr:List (Nat×Nat):=[]
  yl:List Nat:=[]
  vv:List Nat:=[]
  clo:List Nat:=[]
def WZ (x:Ext) (nt k id m:Nat):Keep:=match x.ks.find? λ y=>Nat.beq y.1 k && Nat.beq y.2.1 id with
 | some y=>{ y.2.2 with tmps:=WY m 0 nt }
 | none=>⟨WY m 0 nt,[],[],[],[],[],[]⟩
def zwK (x : Ext) (nt : Nat) : List (Nat × Nat × Nat) → bW → bW
  | [],a=>a
  | (k,id,m) :: r,a=>match zwK x nt r a with
    | a=>match k with
      | 0=>{ a with reg:=(id,WZ x nt 0 id m) :: a.reg }
      | 1=>match lk x.unr id with
        | some n=>{ a with unr:=(id,n,WZ x nt 1 id m) :: a.unr }
        | none=>{ a with head:=(id,WZ x nt 1 id m) :: a.head }
      | _=>match x.cut.contains id with
        | true=>{ a with cut:=(id,WZ x nt 2 id m) :: a.cut }
        | false=>a
def zn7 : List ResultVar → List Nat
  | []=>[]
  | .tmp t :: r=>t :: zn7 r
  | .cell t _ :: r=>t :: zn7 r
def aU (P:Program) (f:Nat) (xt:List Nat) (x:Ext):bW:=match P.funcs[f]? with
 | some fn=>match fn.body with
  | some c=>match orL 0 (xt ++ zn7 fn.results.toList) with
   | m=>zwK x fn.ntmps (YX c m m []).2 ⟨fn.ntmps,[],[],[],[],x.yl⟩
  | none=>⟨0,[],[],[],[],[]⟩
 | none=>⟨0,[],[],[],[],[]⟩

section
variable (P:Program) (N:Nat) (Γ:aX){ρ:Type}
def MB (aT:bW) (f:FuncId) (n:Nat) (g:Code->Bool) (σ:St) (fin:Func->St->Option ρ):ae ρ :=
 match P.funcs[f]? with
 | some fn=>match fn.body with
  | some c=>match Nat.beq aT.nt fn.ntmps && Nat.ble n aT.nt && g c with
   | true=>(vcC P Γ N aT c σ).bind λ (e,s)=>match e with
    | .normal=>.opt (fin fn s)
    | .ret=>.opt (fin fn s)
    | _=>.no
   | false=>.no
  | none=>.no
 | none=>.no
def aF (aT:bW) (f:FuncId) (args:List PA):ae (List PA) :=
 MB P N Γ aT f args.length (λ _=>true) ⟨gQ 0 args,[],[]⟩ λ fn s=>kJ P s fn.results.toList
def Qe (fn:Func) (e s b:Nat) (σ:St):Option (Nat×(Nat->List PV)×List PV) :=
 match fn.results.toList with
 | .tmp t :: r=>match lk σ.env t with
  | some (.one (.c (.vec L)))=>match lk σ.aB L with
   | some (.vec e' s' b' n get)=>match Nat.beq e e' && (Nat.beq s s' && Nat.beq b b'),r with
    | true,[]=>some (n,get,[])
    | true,[.tmp u]=>match lk σ.env u with
     | some (.one (.c (.p x)))=>some (n,get,[x])
     | _=>none
    | _,_=>none
   | _=>none
  | _=>none
 | _=>none
def aK (aT:bW) (f:FuncId) (e s b:Nat) (args:List PA):ae (Nat×(Nat->List PV)×List PV) :=
 MB P N Γ aT f args.length (λ _=>true) ⟨gQ 0 args,[],[]⟩ λ fn σ=>Qe fn e s b σ
def W9 (xs:List XA) (fn:Func) (σ:St):Option (List PA×List XA) :=
 match yJ P σ fn.results.toList with
 | some (l,u)=>match P6 (LZ σ.env xs) (lk (u ++ σ.aB)) σ.env 0 xs with
  | some (ys,ls)=>match o9 ls with
   | true=>some (l,ys)
   | false=>none
  | none=>none
 | none=>none
def aM (aT:bW) (f:FuncId) (xs:List XA):ae (List PA×List XA) :=
 MB P N Γ aT f xs.length (λ c=>o9 ((gq 0 xs).map (·.1)) && uT (rX 0 xs) xs && uf (rX 0 xs) (eY c)) ⟨FW 0 xs,gq 0 xs,[]⟩ (W9 P xs)
end

section
variable [aJ] {P:Program}{N:Nat}{Γ:aX}
theorem DD {ρ : Type} {aT : bW} {f : FuncId} {n : Nat} {g : Code → Bool} {σ : St} {fin : Func → St → Option ρ} {r : ρ} (h : (MB P N Γ aT f n g σ fin).o = some r) :
  ∃ fn c,P.funcs[f]? = some fn/\fn.body=some c/\(Nat.beq aT.nt fn.ntmps && Nat.ble n aT.nt)=true/\g c=true/\∀ K:Exit->St->Prop,(∀ s,fin fn s=some r->K .normal s/\K .ret s)->vc P Γ aT c K σ:=by
 unfold MB at h;split at h
 ·rename_i fn hfn;split at h
  ·rename_i c hb;split at h
   ·rename_i hc;rw[fE] at hc;obtain⟨⟨e,s⟩,h1,h2⟩:=ae.bind_o h;refine⟨fn,c,hfn,hb,hc.1,hc.2,λ K hK=>Ua c σ s e K h1 ?_⟩;cases e with
    | normal=>exact (hK s (ae.opt_o h2)).1
    | ret=>exact (hK s (ae.opt_o h2)).2
    | _=>exact (ae.no_o h2).elim
   ·exact (ae.no_o h).elim
  ·exact (ae.no_o h).elim
 ·exact (ae.no_o h).elim
theorem zwL {aT:bW}{f:FuncId}{args rs:List PA}(h:(aF P N Γ aT f args).o=some rs):vcFun P Γ aT f args λ rs'=>rs'=rs:=by
 obtain⟨fn,c,h1,h2,h3,_,h4⟩:=DD h;unfold vcFun;rw[h1];simp only[h2,h3];refine h4 _ λ s hs=>?_;constructor <;> simp only[Jv,Em,hs]
theorem zwM {aT:bW}{f:FuncId}{e s b n:Nat}{get:Nat->List PV}{rs:List PV}{args:List PA}(h:(aK P N Γ aT f e s b args).o=some (n,get,rs)):VQ P Γ aT f args e s b (TW n s get rs):=by
 obtain⟨fn,c,h1,h2,h3,_,h4⟩:=DD h;unfold VQ;rw[h1];simp only[h2,h3];refine h4 _ λ σ hs=>?_;have:Jw fn e s b (TW n s get rs) σ:=by
  unfold Qe at hs;unfold Jw;split at hs
  ·rename_i t r hr;split at hs
   ·rename_i L hL;split at hs
    ·rename_i e' s' b' m g hO;split at hs
     ·rename_i hc;cases hs;rw[hr];simp only[hL,hO,hc];rfl
     ·rename_i u hc;split at hs
      ·rename_i x hu;cases hs;rw[hr];simp only[hL,hO,hc,hu];rfl
      ·cases hs
     ·cases hs
    ·cases hs
   ·cases hs
  ·cases hs
 exact⟨this,this⟩
theorem zwN {aT:bW}{f:FuncId}{xs ys:List XA}{rs:List PA}(h:(aM P N Γ aT f xs).o=some (rs,ys)):P7 P Γ aT f xs λ l zs=>l=rs/\zs=ys:=by
 obtain⟨fn,c,h1,h2,h3,h0,h4⟩:=DD h;unfold P7;rw[h1];simp only[fE] at h0 h3;simp only[h2,h3.1,h3.2,h0.1.1,h0.1.2,h0.2,Bool.and_self];refine h4 _ λ σ hs=>?_;have:O5 P fn xs (λ l zs=>l=rs/\zs=ys) σ:=by
  unfold W9 at hs;unfold O5;split at hs
  ·rename_i l u hr;split at hs
   ·rename_i zs ls ho;split at hs
    ·rename_i hn;cases hs;simp only[hr,ho,hn,and_self]
    ·cases hs
   ·cases hs
  ·cases hs
 exact⟨this,this⟩
end

structure Tabs where
  fn:List (Nat×(List PA->ae (List PA)))
  own:List (Nat×zS)
  it:List (Nat×(List PA->ae (List (List PA))))
  mt:List (Nat×Option MK)
  cf:List (Nat×(List PA->ae (List PA)))
def Qg {α : Type _} (d : α) : List (Nat × α) → Nat → α
  | [],_=>d
  | (k,c) :: r,f=>match Nat.beq k f with | true=>c | false=>Qg d r f
def dh (T:Tabs) (vv:List Nat):aX:=⟨Qg (λ _=>.no) T.fn,Qg zS.none T.own,Qg (λ _=>.no) T.it,λ t=>vv.contains t,Qg none T.mt,Qg (λ _=>.no) T.cf⟩
def Tabs.nil:Tabs:=⟨[],[],[],[],[]⟩
def Tabs.addF (T:Tabs) (f:Nat) (c:List PA->ae (List PA)):Tabs:=⟨(f,c) :: T.fn,T.own,T.it,T.mt,T.cf⟩
def Tabs.addO (T:Tabs) (f:Nat) (c:zS):Tabs:=⟨T.fn,(f,c) :: T.own,T.it,T.mt,T.cf⟩
def Tabs.addI (T:Tabs) (f:Nat) (c:List PA->ae (List (List PA))):Tabs:=⟨T.fn,T.own,(f,c) :: T.it,T.mt,T.cf⟩
def Tabs.addM (T:Tabs) (f:Nat) (c:MK):Tabs:=⟨T.fn,T.own,T.it,(f,some c) :: T.mt,T.cf⟩
def Tabs.addN (T : Tabs) : List Nat → Tabs
  | []=>T
  | f :: r=>(T.addM f λ _=>.no).addN r
def Tabs.addC (T:Tabs) (f:Nat) (c:List PA->ae (List PA)):Tabs:=⟨T.fn,T.own,T.it,T.mt,(f,c) :: T.cf⟩
variable [aJ]
structure ay (P : Program) (T : Tabs) : Prop where
  fn:∀ x∈T.fn,Ok P x.1 x.2
  own:∀ x∈T.own,dX P x.1 x.2
  it:∀ x∈T.it,qB P x.1 x.2
  mt:∀ x∈T.mt,∀ C,x.2=some C->nK P x.1 C
  cf:∀ x∈T.cf,@Ok ⟨1⟩ P x.1 x.2
theorem all_cons {α:Type _}{p:α->Prop}{a:α}{l:List α}(h:∀ x∈l,p x) (ha:p a):∀ x∈a :: l,p x:=λ x hx=>(jf.1 hx).elim (λ e=>e ▸ ha) (h x)
section
variable {P:Program}{T:Tabs}{f:Nat}
theorem ay.nil:ay P .nil:=⟨λ _ h=>(by cases h),λ _ h=>(by cases h),λ _ h=>(by cases h),λ _ h=>(by cases h),λ _ h=>(by cases h)⟩
theorem ay.addF (h:ay P T){c:List PA->ae (List PA)}(hc:Ok P f c):ay P (T.addF f c):=⟨all_cons h.fn hc,h.own,h.it,h.mt,h.cf⟩
theorem ay.addO (h:ay P T){c:zS}(hc:dX P f c):ay P (T.addO f c):=⟨h.fn,all_cons h.own hc,h.it,h.mt,h.cf⟩
theorem ay.addI (h:ay P T){c:List PA->ae (List (List PA))}(hc:qB P f c):ay P (T.addI f c):=⟨h.fn,h.own,all_cons h.it hc,h.mt,h.cf⟩
theorem ay.addM (h:ay P T){c:MK}(hc:nK P f c):ay P (T.addM f c):=⟨h.fn,h.own,h.it,all_cons h.mt λ _ e=>by cases e;exact hc,h.cf⟩
theorem ay.addC (h:ay P T){c:List PA->ae (List PA)}(hc : @Ok ⟨1⟩ P f c):ay P (T.addC f c):=⟨h.fn,h.own,h.it,h.mt,all_cons h.cf hc⟩
theorem ay.addN : ∀ {l : List Nat} {T : Tabs}, ay P T → ay P (T.addN l)
  | [],_,h=>h
  | _ :: _,_,h=>(h.addM λ _ _ _ h=>(ae.no_o h).elim).addN
theorem vS {α : Type _} {p : Nat → α → Prop} {d : α} (hd : p f d) : ∀ {l : List (Nat × α)}, (∀ x ∈ l, p x.1 x.2) → p f (Qg d l f)
  | [],_=>hd
  | (k,c) :: l,h=>by
    simp only[Qg];split
    · rename_i e;have:=h (k,c) kR;rw[<- jb e];exact this
    · exact vS hd λ x hx=>h x (je _ hx)
theorem ay.all (h:ay P T) (vv:List Nat):iE P (dh T vv) :=
 ⟨λ f C hC=>vS (p:=λ f o=>∀ C,o=some C->nK P f C) (λ _ e=>by cases e) (λ x hx C e=>h.mt x hx C e) C hC,λ f=>vS (p:=λ f c=>Ok P f c) (λ _ _ h=>(ae.no_o h).elim) λ x hx=>h.fn x hx,
  λ f=>vS (p:=λ f c=>dX P f c) (d:=.none) trivial λ x hx=>h.own x hx,λ f=>vS (p:=λ f c=>qB P f c) (λ _ _ h=>(ae.no_o h).elim) λ x hx=>h.it x hx,
  λ f=>vS (p:=λ f c=>@Ok ⟨1⟩ P f c) (λ _ _ h=>(ae.no_o h).elim) λ x hx=>h.cf x hx⟩
theorem aP (h:ay P T) (hc:dA P f){N:Nat}{vv:List Nat}{aT:bW} : Ok P f (aF P N (dh T vv) aT f) :=
 zcG (h.all vv) hc λ args rs h=>⟨_,aT,zwL h⟩
theorem MC (h:ay P T) (hc:dA P f){N e s b:Nat}{vv:List Nat}{aT:bW} : dX P f (.mkv e s b (aK P N (dh T vv) aT f e s b)) :=
 YT (h.all vv) hc λ args n get rs h=>⟨_,aT,zwM h⟩
theorem Uc (h:ay P T) (hc:dA P f){N:Nat}{vv:List Nat}{aT:List XA->bW} : nK P f (λ xs=>aM P N (dh T vv) (aT xs) f xs) :=
 YU (h.all vv) hc λ xs rs ys h=>⟨_,aT xs,zwN h⟩
theorem F6 (h:ay P T) (hc:dA P f){N:Nat}{vv:List Nat}{aT:bW} : qB P f (λ caps=>.opt (aI P (dh T vv) N aT f caps)) :=
 zcK (h.all vv) hc λ caps ys h=>⟨_,aT,zwI (ae.opt_o h)⟩
def zn8 (P : Program) (N : Nat) (T : Tabs) (x : Ext) (f : Nat) : Nat → MK
  | 0=>λ _=>.no
  | n+1=>λ xs=>aM P N (dh ((T.addM f (zn8 P N T x f n)).addN x.clo) x.vv) (aU P f (rX 0 xs) x) f xs
theorem Qh (h : ay P T) (hc : dA P f) {N : Nat} {x : Ext} : ∀ n, nK P f (zn8 P N T x f n)
  | 0=>λ _ _ _ h=>(ae.no_o h).elim
  | n+1=>Uc (h.addM (Qh h hc n)).addN hc

def ae.ty {δ ρ:Type} [dw δ] [dw ρ] (C:List PA->ae (List PA)) (x:δ):ae ρ:=(C (dw.enc x)).bind λ l=>.chk (dw.ck (α:=ρ) l) (.ok (dw.dec l))
def ae.un {δ ρ:Type} [dw δ] [dw ρ] (F:δ->ae ρ) (args:List PA):ae (List PA):=.chk (dw.ck (α:=δ) args) ((F (dw.dec args)).mp dw.enc)
theorem aY {δ ρ:Type} [dw δ] [dw ρ] {C:List PA->ae (List PA)}(h:Ok P f C):Ok P f (ae.un (ae.ty C:δ->ae ρ)):=by
 intro args rs hr w h0 vs hvs hw;obtain⟨h1,h2⟩:=ae.chk_o hr;obtain⟨r,h3,h4⟩:=ae.mp_o h2;obtain⟨l,h5,h6⟩:=ae.bind_o h3;obtain⟨h7,h8⟩:=ae.chk_o h6;have h8:=ae.ok_o h8;subst h4 h8;obtain⟨hc,h9⟩:=h _ _ h5 w h0 vs (dw.up hvs h1) hw;refine⟨hc,h9.mono ?_⟩;rintro e w' ⟨h',v,he,hv,r⟩;exact⟨h',v,he,yL (λ vs hvs=>dw.up hvs h7) hv,r⟩

def zhD {δ ρ:Type} [dw δ] [dw ρ] (C:List PA->ae (List PA)) (y:δ×ρ):Bool:=match (C (dw.enc y.1)).o with
 | some l=>dw.ck (α:=ρ) l && dw.eq (dw.dec l) y.2
 | none=>false
def zcV {δ ρ:Type} [dw δ] [dw ρ] (y:δ×ρ) (C:List PA->ae (List PA)) (args:List PA):ae (List PA):=match dw.ck (α:=δ) args && dw.eq (dw.dec args) y.1 with
 | true=>.ok (dw.enc y.2)
 | false=>C args
theorem zhE {δ ρ:Type} [dw δ] [dw ρ] {C:List PA->ae (List PA)}(h:Ok P f C){y:δ×ρ}(hy:zhD C y=true):Ok P f (zcV y C):=by
 intro args rs hr w h0 vs hvs hw;unfold zcV at hr;split at hr
 ·rename_i hc;rw[fE] at hc;cases ae.ok_o hr;unfold zhD at hy;split at hy
  ·rename_i l hl;rw[fE] at hy;obtain⟨h1,h2⟩:=h _ _ hl w h0 vs (dw.eqk hc.2 (dw.up hvs hc.1)) hw;refine⟨h1,h2.mono ?_⟩;rintro e w' ⟨h',v,he,hv,r⟩;exact⟨h',v,he,yL (λ vs hvs=>dw.eqk hy.2 (dw.up hvs hy.1)) hv,r⟩
  ·cases hy
 ·exact h _ _ hr w h0 vs hvs hw

def Tabs.memo {δ ρ:Type} [dw δ] [dw ρ] (T:Tabs) (f:Nat) (y:δ×ρ):Tabs:=T.addF f (zcV y ((dh T []).fn f))
theorem ay.memo {δ ρ:Type} [dw δ] [dw ρ] (h:ay P T){y:δ×ρ}(hy:zhD ((dh T []).fn f) y=true):ay P (T.memo f y):=h.addF (zhE ((h.all []).fn f) hy)
def Sl.of {α:Type} [Inhabited α] (l:List α):Sl α:=⟨l.length,λ i=>l.getD i default⟩
inductive Ent where
  | f (f:Nat) (x:Ext)
  | k (f e s b:Nat) (x:Ext)
  | m (f:Nat) (x:Ext)
  | r (f n:Nat) (x:Ext)
  | i (f:Nat) (x:Ext)
def Ent.fn : Ent → Nat
  | .f f _=>f
  | .k f _ _ _ _=>f
  | .m f _=>f
  | .r f _ _=>f
  | .i f _=>f
def zwO (P : Program) (N : Nat) (T : Tabs) : Ent → Tabs
  | .f f x=>T.addF f (aF P N (dh (T.addN x.clo) x.vv) (aU P f [] x) f)
  | .k f e s b x=>T.addO f (.mkv e s b (aK P N (dh (T.addN x.clo) x.vv) (aU P f [] x) f e s b))
  | .m f x=>T.addM f λ xs=>aM P N (dh (T.addN x.clo) x.vv) (aU P f (rX 0 xs) x) f xs
  | .r f n x=>T.addM f (zn8 P N T x f n)
  | .i f x=>T.addI f λ caps=>.opt (aI P (dh (T.addN x.clo) x.vv) N (aU P f [0] x) f caps)
def kZ (P:Program) (N:Nat) (T:Tabs) (l:List Ent):Tabs:=l.foldl (zwO P N) T
def Xa (P:Program) (f:Nat):Bool:=match P.funcs[f]? with
 | some fn => fn.body.isSome && !(fn.name == "runtime.NumGoroutine")
 | none=>false
theorem ak (h:Xa P f=true):dA P f:=by
 unfold Xa at h;split at h
 ·rename_i fn hf;rw[fE,Bool.not_eq_true'] at h;exact⟨fn,hf,h.1,h.2⟩
 ·cases h
theorem zhF {N:Nat}(h:ay P T){e:Ent}(hc:Xa P e.fn=true):ay P (zwO P N T e):=by
 cases e with
 | f f x=>exact h.addF (aP h.addN (ak hc))
 | k f e s b x=>exact h.addO (MC h.addN (ak hc))
 | m f x=>exact h.addM (Uc h.addN (ak hc))
 | r f n x=>exact h.addM (Qh h (ak hc) n)
 | i f x=>exact h.addI (F6 h.addN (ak hc))
theorem dO {N : Nat} : ∀ {l : List Ent} {T : Tabs}, ay P T → (l.all fun e => Xa P e.fn) = true → ay P (kZ P N T l)
  | [],_,h,_=>h
  | e :: l,_,h,hc=>by
    rw[List.all_cons,fE] at hc;exact dO (l:=l) (zhF h hc.1) hc.2
end
theorem zcW {P:Program}{T:Tabs}{f:Nat}(h : @ay ⟨1⟩ P T) (hc:dA P f){N:Nat}{vv:List Nat}{aT:bW} : @Ok ⟨1⟩ P f (aF P N (dh T vv) aT f):=@aP ⟨1⟩ P T f h hc N vv aT
end Go.Pm
namespace Go.Pm

section
variable (P:Program) (Γ:aX){A:Type}(N:Nat)
inductive zn9 where
  | n (n:Nat)
  | y (l:List (List PA))
  | o (i:Nat)
def atT (aT : bW) : Code → List Nat → List zn9 → EK A → St → Option A
  | .seq a b,0 :: p,r,K=>atT aT a p r (sqT P aT (iC b) (uk P Γ N aT b) K)
  | .seq _ b,_ :: p,r,K=>atT aT b p r K
  | .cond _ a _,0 :: p,r,K=>atT aT a p r K
  | .cond _ _ b,_ :: p,r,K=>atT aT b p r K
  | .block id b,_ :: p,r,K=>atT aT b p r (bkT id K)
  | .scope b,_ :: p,r,K=>atT aT b p r (scT K)
  | .loop b,_ :: p,.n n :: r,K=>match lk aT.head (iC b) with
    | some k=>atT aT b p r (lpK P k (lpT P k (uk P Γ N aT b) K n) K)
    | none=>λ _=>none
  | .loop b,[],.n n :: _,K=>match lk aT.head (iC b) with
    | some k=>lpT P k (uk P Γ N aT b) K n
    | none=>λ _=>none
  | .rangeFunc _ ps ah bd,_ :: p,.y l :: r,K=>match lk aT.head (SQ ah bd) with
    | some k=>atT aT bd p r (rgK P k (rgT P k ps.toList (uk P Γ N aT ah) (uk P Γ N aT bd) K l) K)
    | none=>λ _=>none
  | .rangeFunc _ ps ah bd,[],.y l :: _,K=>match lk aT.head (SQ ah bd) with
    | some k=>rgT P k ps.toList (uk P Γ N aT ah) (uk P Γ N aT bd) K l
    | none=>λ _=>none
  | .region id ops draw,[],.o i :: _,K=>opsT P Γ aT.nt ops (zcT P aT id ops draw (K .normal)) i (ops.toList.drop i)
  | c,[],_,K=>uk P Γ N aT c K
  | _,_,_,_=>λ _=>none
def Ud (fin:St->Option (List PA)) (K:List PA->Option A):EK A:=λ e s=>match e with
 | .normal=>match fin s with | some r=>K r | none=>none
 | .ret=>match fin s with | some r=>K r | none=>none
 | _=>none
def iH {ρ:Type} [aJ] [dw ρ] (k:ρ->Option A) (l:List PA):Option A:=match dw.ck (α:=ρ) l with | true=>k (dw.dec l) | false=>none
def runT (aT:bW) (f:FuncId) (K:List PA->Option A) (args:List PA):Option A :=
 match P.funcs[f]? with
 | some fn=>match fn.body with
  | some c=>match Nat.beq aT.nt fn.ntmps && Nat.ble args.length aT.nt && true with
   | true=>uk P Γ N aT c (Ud (λ s=>kJ P s fn.results.toList) K) ⟨gQ 0 args,[],[]⟩
   | false=>none
  | none=>none
 | none=>none
def iG (aT:bW) (f:FuncId) (p:List Nat) (r:List zn9) (K:List PA->Option A) (σ:St):Option A :=
 match P.funcs[f]? with
 | some fn=>match fn.body with
  | some c=>atT P Γ N aT c p r (Ud (λ s=>kJ P s fn.results.toList) K) σ
  | none=>none
 | none=>none
end

section
variable {P:Program}{Γ:aX}{A:Type}{N:Nat}
theorem runT_eq {aT:bW}{f:FuncId}{K:List PA->Option A}{args:List PA} : (aF P N Γ aT f args).T K=runT P Γ N aT f K args:=by
 unfold aF MB runT;cases P.funcs[f]? with
 | none=>rfl
 | some fn =>
  simp only;cases fn.body with
  | none=>rfl
  | some c =>
   simp only;cases Nat.beq aT.nt fn.ntmps && Nat.ble args.length aT.nt && true with
   | false=>rfl
   | true =>
    simp only;rw[Md];show (vcC P Γ N aT c _).T _=(vcC P Γ N aT c _).T _;congr 1;funext r;obtain⟨e,s⟩:=r;cases e with
    | normal=>simp only[Ud,ae.opt];cases kJ P s fn.results.toList <;> rfl
    | ret=>simp only[Ud,ae.opt];cases kJ P s fn.results.toList <;> rfl
    | _=>rfl
theorem bH [aJ] {δ ρ:Type} [dw δ] [dw ρ] {aT:bW}{f:FuncId}{x:δ}{k:ρ->Option A} : (ae.ty (aF P N Γ aT f) x:ae ρ).T k=runT P Γ N aT f (iH k) (dw.enc x):=by
 rw[<- runT_eq];show (aF P N Γ aT f (dw.enc x)).T _=_;congr 1
end

instance : bG Unit where
  enc _:=[]
  dec l:=((),l)
  ck l:=some l
  le:=by
    intro l r _ h;cases h;exact⟨[],rfl,rfl,trivial⟩
  inv:=by
    intro l m r h hc;cases hc;exact⟨m,rfl,h⟩
  sm _ _:=trivial
  eq _ _:=true
  eqk _:=trivial
structure dN (f : Nat) (α β : Type) where
  a:α
  v:β
theorem zcX {l m:List PV}(e:RL lV l m) (k:Nat) (x y:PV) (hx:l[k]? = some x) (hy:m[k]? = some y):lV x y:=by
 obtain⟨z,hz,r⟩:=RL.get e k x hx;rw[hy] at hz;cases hz;exact r
theorem zlO {h:Fz}{f:FuncId}{a b l m:List PV}{v:Value}(e0:RL lV a b) (e:RL lV l m) (r:Rep h (.fn f a l) v):Rep h (.fn f b m) v :=
 @Rep.up ⟨0⟩ _ _ _ (.fn f a b l m e0.length (zcX e0) e.length (zcX e)) _ r
theorem zlP {h:Fz}{f:FuncId}{a l:List PV}{v:Value}(r:Rep h (.fn f a l) v):RS a a/\RS l l:=by
 letI:aJ:=⟨0⟩;cases r with
 | fn _ _ _ fv cv h1 h2 hf hc =>
  refine⟨RL.of_get rfl λ j a b ha hb=>?_,RL.of_get rfl λ j a b ha hb=>?_⟩
  ·rw [ha] at hb; cases hb;obtain⟨w,hw⟩:=lF h1 ha;exact (hf j a w ha hw).un
  ·rw [ha] at hb; cases hb;obtain⟨w,hw⟩:=lF h2 ha;exact (hc j a w ha hw).un
instance {f : Nat} {α β : Type} [bG α] [bG β] : gu (dN f α β) where
  enc x:=.one (.fn f (bG.enc x.a) (bG.enc x.v))
  dec a:=match a with | .one (.fn _ k l)=>⟨(bG.dec k).1,(bG.dec l).1⟩ | _=>⟨(bG.dec []).1,(bG.dec []).1⟩
  ck a:=match a with | .one (.fn g k l)=>Nat.beq g f && (Jt (bG.ck (α:=α) k) && Jt (bG.ck (α:=β) l)) | _=>false
  up:=by
    intro h a v r hc
    match a,r,hc with
    | .one (.fn g k l),r,hc =>
      simp only[Bool.and_eq_true] at hc;have e:=Nat.eq_of_beq_eq_true hc.1;subst e;have r:Rep h (.fn g k l) v:=r;exact zlO (kU (α:=α) (g:=λ _=>k) (λ _ _=>(zlP r).1) hc.2.1 0) (kU (α:=β) (g:=λ _=>l) (λ _ _=>(zlP r).2) hc.2.2 0) r
  eq a b:=bG.eq a.a b.a && bG.eq a.v b.v
  eqk:=by
    intro h a b v he r;rw[Bool.and_eq_true] at he;exact zlO (bG.eqk he.1) (bG.eqk he.2) r
instance {α β : Type} [gu α] [gu β] : gu (α ⊕ β) where
  enc x:=match x with | .inl x=>gu.enc x | .inr x=>gu.enc x
  dec a:=match gu.ck (α:=α) a with | true=>.inl (gu.dec a) | false=>.inr (gu.dec a)
  ck a:=gu.ck (α:=α) a || gu.ck (α:=β) a
  up:=by
    intro h a v r hc;cases hb:gu.ck (α:=α) a with
    | true=>exact gu.up r hb
    | false=>rw[hb] at hc;exact gu.up r hc
  eq a b:=match a,b with | .inl a,.inl b=>gu.eq a b | .inr a,.inr b=>gu.eq a b | _,_=>false
  eqk:=by
    intro h a b v he r
    match a,b,he with
    | .inl a,.inl b,he=>exact gu.eqk he r
    | .inr a,.inr b,he=>exact gu.eqk he r

/-! Functions that hand back nothing but an error, or a pointer. -/
section
variable {α β τ A:Type}
def zoa (r:α ⊕ β) (f:α->Option A) (g:β->Option A):Option A:=match r with
 | .inl a=>f a
 | .inr b=>g b
def ae.alt (r:α ⊕ β) (f:α->ae τ) (g:β->ae τ):ae τ:=⟨λ k=>zoa r (λ a=>(f a).T k) (λ b=>(g b).T k),λ k=>by
 cases r with
 | inl a=>exact (f a).nat k
 | inr b=>exact (g b).nat k⟩
variable [aJ] {δ ε ρ:Type} [dw δ] [dw ε] [dw ρ]
def zcY (k : ε ⊕ ρ → Option A) : List PA → Option A
  | .one .nilp :: r=>match dw.ck (α:=ε) r with | true=>k (.inl (dw.dec r)) | false=>none
  | l=>match dw.ck (α:=ρ) l with | true=>k (.inr (dw.dec l)) | false=>none
def zob : List PA → ae (ε ⊕ ρ)
  | .one .nilp :: r=>.chk (dw.ck (α:=ε) r) (.ok (.inl (dw.dec r)))
  | l=>.chk (dw.ck (α:=ρ) l) (.ok (.inr (dw.dec l)))
def ae.tyA (C:List PA->ae (List PA)) (x:δ):ae (ε ⊕ ρ):=(C (dw.enc x)).bind zob
def ae.unA (F:δ->ae (ε ⊕ ρ)) (args:List PA):ae (List PA):=.chk (dw.ck (α:=δ) args) ((F (dw.dec args)).bind λ r=>.alt r (λ e=>.ok (.one .nilp :: dw.enc e)) λ p=>.ok (dw.enc p))
theorem zcZ {P:Program}{f:FuncId}{C:List PA->ae (List PA)}(h:Ok P f C):Ok P f (ae.unA (ae.tyA C:δ->ae (ε ⊕ ρ))):=by
 intro args rs hr w h0 vs hvs hw;obtain⟨h1,h2⟩:=ae.chk_o hr;obtain⟨r,h3,h4⟩:=ae.bind_o h2;obtain⟨l,h5,h6⟩:=ae.bind_o h3;obtain⟨hc,h9⟩:=h _ _ h5 w h0 vs (dw.up hvs h1) hw;have fin:∀ (h':Fz) (v:Value),nJ h' l v->nJ h' rs v:=by
  intro h' v hv;unfold zob at h6;split at h6
  ·obtain ⟨h7, h8⟩ := ae.chk_o h6;have h8:=ae.ok_o h8;subst h8;cases ae.ok_o h4;refine yL (λ vs hvs=>?_) hv
   match vs,hvs with
   | v :: vs,hvs=>exact⟨hvs.1,dw.up hvs.2 h7⟩
   | [],hvs=>exact hvs.elim
  ·obtain ⟨h7, h8⟩ := ae.chk_o h6;have h8:=ae.ok_o h8;subst h8;cases ae.ok_o h4;exact yL (λ vs hvs=>dw.up hvs h7) hv
 refine⟨hc,h9.mono ?_⟩;rintro e w' ⟨h',v,he,hv,r⟩;exact⟨h',v,he,fin h' v hv,r⟩
theorem zlQ {P:Program}{Γ:aX}{N:Nat}{aT:bW}{f:FuncId}{x:δ}{k:ε ⊕ ρ->Option A} : (ae.tyA (aF P N Γ aT f) x:ae (ε ⊕ ρ)).T k=runT P Γ N aT f (zcY k) (dw.enc x):=by
 rw[<- runT_eq];show (aF P N Γ aT f (dw.enc x)).T _=_;congr 1;funext l;unfold zob zcY;split
 ·cases dw.ck (α:=ε) _ <;> rfl
 ·cases dw.ck (α:=ρ) l <;> rfl
end

/-! Iterators. -/
def ae.tyI [aJ] {δ ε:Type} [dw δ] [dw ε] (C:List PA->ae (List (List PA))) (x:δ):ae (List ε):=(C (dw.enc x)).bind λ l=>.chk (l.all (dw.ck (α:=ε))) (.ok (l.map dw.dec))
def ae.unI [aJ] {δ ε:Type} [dw δ] [dw ε] (I:δ->ae (List ε)) (caps:List PA):ae (List (List PA)):=.chk (dw.ck (α:=δ) caps) ((I (dw.dec caps)).mp (List.map dw.enc))
theorem MF [aJ] {P:Program}{f:FuncId}{δ ε:Type} [dw δ] [dw ε] {C:List PA->ae (List (List PA))}(h:qB P f C):qB P f (ae.unI (ae.tyI C:δ->ae (List ε))):=by
  intro caps ys hr l J Jx w h0 vs sJ sX hy hj hvs hw;obtain⟨h1,h2⟩:=ae.chk_o hr;obtain⟨r,h3,h4⟩:=ae.mp_o h2;obtain⟨ls,h5,h6⟩:=ae.bind_o h3;obtain⟨h7,h8⟩:=ae.chk_o h6;have h8:=ae.ok_o h8;subst h8 h4
  obtain ⟨hc, h9⟩ := h _ _ h5 l (fun ys h W => ys.all (dw.ck (α := ε)) = true ∧ J ((ys.map (dw.dec (α := ε))).map dw.enc) h W)
    (λ ys h W=>Jx ((ys.map (dw.dec (α:=ε))).map dw.enc) h W) w h0 vs
    (λ ys h W h' W' a b c d e=>⟨a.1,sJ _ _ _ _ _ a.2 b c d e⟩) (λ ys h W h' W' a b c d e=>sX _ _ _ _ _ a b c d e)
    (λ y rest h W us hJ hu hW n=>by
      obtain⟨hk,hJ⟩:=hJ;rw[List.all_cons,fE] at hk;obtain⟨fn,tmps,ah,bd,e1,e2⟩:=hy _ _ _ _ _ hJ (dw.up hu hk.1) hW n;refine⟨fn,tmps,ah,bd,e1,e2.mono ?_⟩;rintro e W' ⟨h',a,b,c | c⟩
      · exact⟨h',a,b,.inl ⟨c.1,hk.2,c.2⟩⟩
      · exact⟨h',a,b,.inr c⟩)
    ⟨h7,hj⟩ (dw.up hvs h1) hw
  refine⟨hc,h9.mono ?_⟩;rintro e W' ⟨v,h',a,b,c,d⟩;refine⟨v,h',a,b,c,?_⟩;rcases d with d | ⟨rest,d⟩
  · exact .inl d.2
  · exact .inr ⟨_,d⟩
section
variable (P:Program) (Γ:aX) (N:Nat)
def atY (aT : bW) : Code → List Nat → List Nat → Om → Bool → St → YO
  | .seq a b,0 :: p,r,K=>atY aT a p r (skY P aT (iC b) (qM P Γ N aT b) K)
  | .seq _ b,_ :: p,r,K=>atY aT b p r K
  | .cond _ a _,0 :: p,r,K=>atY aT a p r K
  | .cond _ _ b,_ :: p,r,K=>atY aT b p r K
  | .block id b,_ :: p,r,K=>atY aT b p r (bkY id K)
  | .scope b,_ :: p,r,K=>atY aT b p r (zwG K)
  | .loop b,_ :: p,n :: r,K=>match lk aT.head (iC b) with
    | some k=>atY aT b p r (lkY P k (zcU P k (qM P Γ N aT b) K n) K)
    | none=>λ _ _=>none
  | .loop b,[],n :: _,K=>match lk aT.head (iC b) with
    | some k=>zcU P k (qM P Γ N aT b) K n
    | none=>λ _ _=>none
  | c,[],_,K=>qM P Γ N aT c K
  | _,_,_,_=>λ _ _=>none
def ptY (aT:bW) (f:FuncId) (p r:List Nat) (σ:St):YO :=
 match P.funcs[f]? with
 | some fn=>match fn.body with
  | some c=>atY P Γ N aT c p r zlM false σ
  | none=>none
 | none=>none
end

/-! Data in states. -/
def eP [aJ] {α:Type} [gu α] (x:α):DV:=.one (Dc (gu.enc x))
def eB {α:Type} [bG α] (t:Nat) (x:α):AO:=.box t ((bG.enc x).map .p)
def eV {α:Type} [bG α] (e s b:Nat) (w:Sl α):AO:=.vec e s b w.len (λ i=>bG.enc (w.get i))

/-! Slices that grow, of typed data. -/
abbrev aO (n:Int):Int:=IntKind.wrap .i64 n
def room (n b:Nat):Bool:=decide (n * b<=140737488355328/\n<=9223372036854775807)
section
variable {α:Type} [bG α]
def zoc (g:Nat->α) (r:Nat->List PV) (i:Nat):α:=(bG.dec (nzG (bG.enc (g 0)) r i)).1
def jd (n:Nat) (g h:Nat->α):Nat->α:=zoc g (appG n (λ i=>bG.enc (g i)) λ i=>bG.enc (h i))
def Qi (l:List α):Nat->α:=λ i=>(bG.dec (nzG (wX (l.map bG.enc) 0) (wX (l.map bG.enc)) i)).1
def Jf (g:Nat->α) (n i:Nat):α:=g (i+n)
class qm (α : Type) [bG α] : Prop where
  de:∀ x:α,(bG.dec (bG.enc x)).1=x
instance [Inhabited α] [qm α]:qm (Sl α):=⟨λ x=>by
 obtain⟨n,f⟩:=x;show (⟨n,λ i=>(bG.dec (bG.enc (f i))).1⟩:Sl α)=⟨n,f⟩;congr 1;funext i;exact qm.de (f i)⟩
variable [qm α]
theorem zhG {g:Nat->α}{r:Nat->List PV}{i:Nat}{x:α}(h:r i=bG.enc x):zoc g r i=x:=by
 unfold zoc nzG;rw[h,jO (pz 8) (bG.sm _ _),qm.de]
theorem iy (n:Nat) (g h:Nat->α) (i:Nat):jd n g h i=if n<=i then h (i - n) else g i:=by
 refine zhG ?_;unfold appG;cases hb:Nat.ble n i with
 | true=>rw[if_pos (Nat.le_of_ble_eq_true hb)]
 | false=>rw[if_neg λ hh=>by rw[Nat.ble_eq_true_of_le hh] at hb;cases hb]
end
end Go.Pm
namespace Go.Pm

section
variable (P:Program) (Γ:aX){A ρ:Type}(N:Nat)
def zhH (fin:St->Option ρ) (K:ρ->Option A):EK A:=λ e s=>match e with
 | .normal=>match fin s with | some r=>K r | none=>none
 | .ret=>match fin s with | some r=>K r | none=>none
 | _=>none
def zc0 (aT:bW) (f:FuncId) (n:Nat) (g:Code->Bool) (σ:St) (fin:Func->St->Option ρ) (K:ρ->Option A):Option A :=
 match P.funcs[f]? with
 | some fn=>match fn.body with
  | some c=>match Nat.beq aT.nt fn.ntmps && Nat.ble n aT.nt && g c with
   | true=>uk P Γ N aT c (zhH (fin fn) K) σ
   | false=>none
  | none=>none
 | none=>none
def ptG (aT:bW) (f:FuncId) (p:List Nat) (r:List zn9) (fin:Func->St->Option ρ) (K:ρ->Option A) (σ:St):Option A :=
 match P.funcs[f]? with
 | some fn=>match fn.body with
  | some c=>atT P Γ N aT c p r (zhH (fin fn) K) σ
  | none=>none
 | none=>none
end
theorem MG {P : Program} {Γ : aX} {A ρ : Type} {N : Nat} {aT : bW} {f : FuncId} {n : Nat} {g : Code → Bool} {σ : St} {fin : Func → St → Option ρ} {K : ρ → Option A} :
  (MB P N Γ aT f n g σ fin).T K=zc0 P Γ N aT f n g σ fin K:=by
 unfold MB zc0;cases P.funcs[f]? with
 | none=>rfl
 | some fn =>
  simp only;cases fn.body with
  | none=>rfl
  | some c =>
   simp only;cases Nat.beq aT.nt fn.ntmps && Nat.ble n aT.nt && g c with
   | false=>rfl
   | true =>
    simp only;rw[Md];show (vcC P Γ N aT c _).T _=(vcC P Γ N aT c _).T _;congr 1;funext r;obtain⟨e,s⟩:=r;cases e with
    | normal=>simp only[zhH,ae.opt];cases fin fn s <;> rfl
    | ret=>simp only[zhH,ae.opt];cases fin fn s <;> rfl
    | _=>rfl

/-! A slice of one's own. -/
variable [aJ]
theorem wB.up {h:Fz}{w:World}{base e s n:Nat}{v:Value}{g g':Nat->List PV}(hg:∀ i,RL lV (g i) (g' i)) (H:wB h w base e s v n g):wB h w base e s v n g':=by
 obtain⟨xs,h1,h2⟩:=H;exact⟨xs,h1,λ i hi=>xg (hg i) (h2 i hi)⟩
section
variable {δ α β A:Type} [dw δ] [bG α] [bG β]
abbrev VR:=Nat×(Nat->List PV)×List PV
def vrC (r:VR):Bool:=Jt (bG.ck (α:=β) r.2.2) && Jt (bG.ck (α:=α) (r.2.1 0))
def vrD (r:VR):Sl α×β:=(⟨r.1,λ i=>(bG.dec (r.2.1 i)).1⟩,(bG.dec r.2.2).1)
def ae.tyV (C:List PA->ae VR) (x:δ):ae (Sl α×β):=(C (dw.enc x)).bind λ r=>.chk (vrC (α:=α) (β:=β) r) (.ok (vrD r))
def ae.unV (F:δ->ae (Sl α×β)) (args:List PA):ae VR:=.chk (dw.ck (α:=δ) args) ((F (dw.dec args)).mp λ w=>(w.1.len,λ i=>bG.enc (w.1.get i),bG.enc w.2))
theorem zc1 {v:Value}{xs:List Value}{rs rs':List PV}(h:rs.length=rs'.length):OG v xs rs=OG v xs rs':=by
 cases rs with
 | nil=>cases rs' with
  | nil=>rfl
  | cons=>cases h
 | cons=>cases rs' with
  | nil=>cases h
  | cons=>rfl
theorem Ue {P:Program}{f:FuncId}{e s b:Nat}{C:List PA->ae VR}(h:dX P f (.mkv e s b C)):dX P f (.mkv e s b (ae.unV (ae.tyV C:δ->ae (Sl α×β)))):=by
 intro w hz az vs n get rs hr ha hw;obtain⟨h1,h2⟩:=ae.chk_o hr;obtain⟨w',h3,h4⟩:=ae.mp_o h2;obtain⟨⟨n',g',rs'⟩,h5,h6⟩:=ae.bind_o h3;obtain⟨h7,h8⟩:=ae.chk_o h6;have h8:=ae.ok_o h8;subst h8;cases h4;have h7:(Jt (bG.ck (α:=β) rs') && Jt (bG.ck (α:=α) (g' 0)))=true:=h7;rw[fE] at h7;obtain⟨hc,hk⟩:=h w hz _ vs _ _ _ h5 (dw.up ha h1) hw;refine⟨hc,hk.mono ?_⟩;rintro r w2 ⟨h',v',xs,a1,a2,a3,a4,a5,a6⟩;have e:RL lV rs' (bG.enc (bG.dec (α:=β) rs').1):=kU (α:=β) (g:=λ _=>rs') (λ _ _=>uu a2) h7.1 0;exact⟨h',v',xs,by rw[a1];exact congrArg _ (zc1 e.length),xg e a2,a3,λ _ _=>bG.sm _ _,a5.up (kU a4 h7.2),a6⟩
def Uf (k:Sl α×β->Option A) (r:VR):Option A:=match vrC (α:=α) (β:=β) r with | true=>k (vrD r) | false=>none
abbrev Ug (e s b:Nat) (fn:Func) (σ:St):Option VR:=Qe fn e s b σ
theorem zc2 {P : Program} {Γ : aX} {N : Nat} {aT : bW} {f : FuncId} {e s b : Nat} {x : δ} {k : Sl α × β → Option A} :
  (ae.tyV (aK P N Γ aT f e s b) x).T k=zc0 P Γ N aT f (dw.enc x).length (λ _=>true) ⟨gQ 0 (dw.enc x),[],[]⟩ (Ug e s b) (Uf k):=by
 rw[<- MG];show (aK P N Γ aT f e s b (dw.enc x)).T _=_;rfl
end

/-! What is given to be changed, as typed data. -/
class Xb (α : Type) (ε : outParam Type) where
  enc:α->XA
  dec:XA->α
  ck:XA->Bool
  up:∀ [df] {P:Program} {h:Fz} {w:World} {B:Nat} {x:XA} {v:Value},wC P h w B x v->ck x=true->wC P h w B (enc (dec x)) v/\OH w (enc (dec x)) v=OH w x v
  put:α->ε->XA
  out:XA->ε
  cko:α->XA->Bool
  outk:∀ [df] {P:Program} {h h':Fz} {w w':World} {B:Nat} {a:α} {y:XA} {v:Value},wC P h w B (enc a) v->(∀ p x,Rep h p x->Rep h' p x)->wC P h' w' B y v->cko a y=true ->
    wC P h' w' B (put a (out y)) v/\OH w' (put a (out y)) v=OH w' y v
class vT (δ : Type) (ε : outParam Type) where
  enc:δ->List XA
  dec:List XA->δ
  ck:List XA->Bool
  up:∀ [df] {P:Program} {h:Fz} {w:World} {B:Nat} {xs:List XA} {vs:List Value},RL (wC P h w B) xs vs->ck xs=true->RL (wC P h w B) (enc (dec xs)) vs/\mr w (enc (dec xs)) vs=mr w xs vs
  put:δ->ε->List XA
  out:List XA->ε
  cko:δ->List XA->Bool
  outk:∀ [df] {P:Program} {h h':Fz} {w w':World} {B:Nat} {a:δ} {ys:List XA} {vs:List Value},RL (wC P h w B) (enc a) vs->(∀ p x,Rep h p x->Rep h' p x)->RL (wC P h' w' B) ys vs->cko a ys=true ->
    RL (wC P h' w' B) (put a (out ys)) vs/\mr w' (put a (out ys)) vs=mr w' ys vs
instance : vT Unit Unit where
  enc _:=[]
  dec _:=()
  ck l:=l.isEmpty
  up:=by
    intro _ P h w B xs vs r hc;cases xs with
    | nil=>exact⟨r,rfl⟩
    | cons=>cases hc
  put _ _:=[]
  out _:=()
  cko _ l:=l.isEmpty
  outk:=by
    intro _ P h h' w w' B a ys vs _ _ r hc;cases ys with
    | nil=>exact⟨r,rfl⟩
    | cons=>cases hc
instance {α ε δ ζ : Type} [Xb α ε] [vT δ ζ] : vT (α × δ) (ε × ζ) where
  enc x:=Xb.enc x.1 :: vT.enc x.2
  dec l:=(Xb.dec (l.headD (.d (.agg []))),vT.dec l.tail)
  ck l:=match l with | x :: r=>Xb.ck (α:=α) x && vT.ck (δ:=δ) r | []=>false
  up:=by
    intro _ P h w B xs vs r hc
    match xs,vs,r,hc with
    | x :: xs,v :: vs,r,hc =>
      rw[Bool.and_eq_true] at hc;obtain⟨a1,a2⟩:=Xb.up r.1 hc.1;obtain⟨b1,b2⟩:=vT.up r.2 hc.2;refine⟨⟨a1,b1⟩,?_⟩;show _ ++ _=_ ++ _;exact congr (congrArg _ a2) b2
  put x o:=Xb.put x.1 o.1 :: vT.put x.2 o.2
  out l:=(Xb.out α (l.headD (.d (.agg []))),vT.out δ l.tail)
  cko a l:=match l with | x :: r=>Xb.cko a.1 x && vT.cko a.2 r | []=>false
  outk:=by
    intro _ P h h' w w' B a ys vs ra hle r hc
    match ys,vs,ra,r,hc with
    | y :: ys,v :: vs,ra,r,hc =>
      rw[Bool.and_eq_true] at hc;obtain⟨a1,a2⟩:=Xb.outk ra.1 hle r.1 hc.1;obtain⟨b1,b2⟩:=vT.outk ra.2 hle r.2 hc.2;refine⟨⟨a1,b1⟩,?_⟩;show _ ++ _=_ ++ _;exact congr (congrArg _ a2) b2
instance {α : Type} [gu α] : Xb α Unit where
  enc x:=.d (gu.enc x)
  dec x:=match x with | .d a=>gu.dec a | _=>gu.dec (.agg [])
  ck x:=match x with | .d a=>gu.ck (α:=α) a | _=>false
  up:=by
    intro _ P h w B x v r hc
    match x,r,hc with
    | .d a,r,hc=>exact⟨gu.up r hc,rfl⟩
  put x _:=.d (gu.enc x)
  out _:=()
  cko _ y:=match y with | .d _=>true | _=>false
  outk:=by
    intro _ P h h' w w' B a y v ra hle r hc
    match y,r,hc with
    | .d b,r,hc=>exact⟨WO hle ra,rfl⟩
structure Bc (ty : Nat) (α : Type) where
  v:α
def xcP : List XC → Option (List PV)
  | []=>some []
  | .p v :: r=>match xcP r with | some l=>some (v :: l) | none=>none
  | _ :: _=>none
theorem zc4:∀ {cs:List XC}{l:List PV},xcP cs=some l->cs=l.map .p:=by
 intro cs
 induction cs with
 | nil=>intro l h;cases h;rfl
 | cons c cs ih =>
  intro l h;cases c with
  | p v =>
   unfold xcP at h;split at h
   ·rename_i l' e;cases h;rw[ih e];rfl
   ·cases h
  | _=>cases h
theorem Xc [df] {P:Program}{h:Fz}{w:World}{B:Nat} : ∀ {l:List PV}{vs:List Value},RL (xcR P h w B) (l.map XC.p) vs↔RL (Rep h) l vs:=by
 intro l
 induction l with
 | nil=>intro vs;cases vs <;> exact Iff.rfl
 | cons x l ih=>intro vs;cases vs with
  | nil=>exact Iff.rfl
  | cons v vs=>exact and_congr Iff.rfl ih
theorem zc5:∀ {l:List PV}{vs:List Value},qC (l.map XC.p) vs=[]:=by
 intro l
 induction l with
 | nil=>intro vs;cases vs <;> rfl
 | cons x l ih=>intro vs;cases vs with
  | nil=>rfl
  | cons v vs=>exact ih
theorem zc6 {w:World}{ty ty':Nat}{cs ds:List XC}{v:Value}(h:∀ vs,qC cs vs=qC ds vs):OH w (.box ty cs) v=OH w (.box ty' ds) v:=by
 cases v with
 | pointer a=>cases a with
  | none=>rfl
  | some a =>
   show a.block :: _=a.block :: _;congr 1;cases w.heap[a.block]? with
   | none=>rfl
   | some o=>cases o with
    | cells C t l=>exact h C.toList
    | _=>rfl
 | _=>rfl
theorem zlS {w:World}{ty:Nat}{l m:List PV}{v:Value} : OH w (.box ty (l.map .p)) v=OH w (.box ty (m.map .p)) v:=zc6 λ _=>by rw[zc5,zc5]
instance {ty : Nat} {α : Type} [bG α] : Xb (Bc ty α) α where
  enc x:=.box ty ((bG.enc x.v).map .p)
  dec x:=match x with | .box _ cs=>⟨(bG.dec ((xcP cs).getD [])).1⟩ | _=>⟨(bG.dec []).1⟩
  ck x:=match x with | .box t cs=>Nat.beq t ty && (match xcP cs with | some l=>Jt (bG.ck (α:=α) l) | none=>false) | _=>false
  up:=by
    intro _ P h w B x v r hc
    match x,r,hc with
    | .box t cs,r,hc =>
      rw[Bool.and_eq_true] at hc;cases Nat.eq_of_beq_eq_true hc.1;cases e:xcP cs with
      | none=>rw[e] at hc;cases hc.2
      | some l =>
        rw[e] at hc;have e2:=zc4 e;subst e2;obtain⟨k,C,h1,h2,h3⟩:=r;have h3:=Xc.1 h3;have h4:RL lV l (bG.enc (bG.dec (α:=α) l).1):=kU (α:=α) (g:=λ _=>l) (λ _ _=>uu h3) hc.2 0;refine⟨⟨k,C,h1,h2,?_⟩,?_⟩
        · show RL _ ((bG.enc (bG.dec (α := α) ((xcP (l.map XC.p)).getD [])).1).map XC.p) _;rw[e];exact Xc.2 (xg h4 h3)
        · exact zlS
  put _ o:=.box ty ((bG.enc o).map .p)
  out x:=match x with | .box _ cs=>(bG.dec ((xcP cs).getD [])).1 | _=>(bG.dec []).1
  cko _ x:=match x with | .box t cs=>Nat.beq t ty && (match xcP cs with | some l=>Jt (bG.ck (α:=α) l) | none=>false) | _=>false
  outk:=by
    intro _ P h h' w w' B a y v ra hle r hc
    match y,r,hc with
    | .box t cs,r,hc =>
      rw[Bool.and_eq_true] at hc;cases Nat.eq_of_beq_eq_true hc.1;cases e:xcP cs with
      | none=>rw[e] at hc;cases hc.2
      | some l =>
        rw[e] at hc;have e2:=zc4 e;subst e2;obtain⟨k,C,h1,h2,h3⟩:=r;have h3:=Xc.1 h3;have h4:RL lV l (bG.enc (bG.dec (α:=α) l).1):=kU (α:=α) (g:=λ _=>l) (λ _ _=>uu h3) hc.2 0;refine⟨⟨k,C,h1,h2,?_⟩,?_⟩
        · show RL _ ((bG.enc (bG.dec (α := α) ((xcP (l.map XC.p)).getD [])).1).map XC.p) _;rw[e];exact Xc.2 (xg h4 h3)
        · exact zlS
structure Bw (ty e s b : Nat) (α : Type) where
  v:Sl α
def bwE {α:Type} [bG α] (ty e s b:Nat) (w:Sl α):XA:=.box ty [.vec e s b w.len λ i=>bG.enc (w.get i)]
theorem zlT [df] {P:Program}{h:Fz}{w:World}{B ty e s b n:Nat}{v:Value}{g g':Nat->List PV}(hg:∀ i,RL lV (g i) (g' i)) (hu:pq g') (r:wC P h w B (.box ty [.vec e s b n g]) v):wC P h w B (.box ty [.vec e s b n g']) v:=by
 obtain⟨k,C,h1,h2,h3⟩:=r;refine⟨k,C,h1,h2,?_⟩
 match C.toList,h3 with
 | [x],h3 =>
  obtain⟨⟨a1,a2,a3,a4⟩,_⟩:=h3;exact⟨⟨a1,⟨hu,a2.2⟩,a3,a4.up hg⟩,trivial⟩
theorem zc7 [df] {P:Program}{h:Fz}{w:World}{B ty e s b n:Nat}{v:Value}{g:Nat->List PV}(r:wC P h w B (.box ty [.vec e s b n g]) v):pq g:=by
 obtain⟨k,C,h1,h2,h3⟩:=r
 match C.toList,h3 with
 | [x],h3=>exact h3.1.2.1.1
instance {ty e s b : Nat} {α : Type} [Inhabited α] [bG α] : Xb (Bw ty e s b α) (Sl α) where
  enc x:=bwE ty e s b x.v
  dec x:=match x with | .box _ [.vec _ _ _ n g]=>⟨⟨n,λ i=>(bG.dec (g i)).1⟩⟩ | _=>⟨⟨0,λ _=>default⟩⟩
  ck x:=match x with | .box t [.vec e' s' b' _ g]=>Nat.beq t ty && (Nat.beq e' e && (Nat.beq s' s && (Nat.beq b' b && Jt (bG.ck (α:=α) (g 0))))) | _=>false
  up:=by
    intro _ P h w B x v r hc
    match x,r,hc with
    | .box t [.vec e' s' b' n g],r,hc =>
      simp only[Bool.and_eq_true] at hc;cases Nat.eq_of_beq_eq_true hc.1;cases Nat.eq_of_beq_eq_true hc.2.1;cases Nat.eq_of_beq_eq_true hc.2.2.1;cases Nat.eq_of_beq_eq_true hc.2.2.2.1;exact⟨zlT (kU (zc7 r) hc.2.2.2.2) (λ _ _=>bG.sm _ _) r,zc6 λ vs=>by cases vs <;> rfl⟩
  put _ w:=bwE ty e s b w
  out x:=match x with | .box _ [.vec _ _ _ n g]=>⟨n,λ i=>(bG.dec (g i)).1⟩ | _=>⟨0,λ _=>default⟩
  cko _ x:=match x with | .box t [.vec e' s' b' _ g]=>Nat.beq t ty && (Nat.beq e' e && (Nat.beq s' s && (Nat.beq b' b && Jt (bG.ck (α:=α) (g 0))))) | _=>false
  outk:=by
    intro _ P h h' w w' B a y v ra hle r hc
    match y,r,hc with
    | .box t [.vec e' s' b' n g],r,hc =>
      simp only[Bool.and_eq_true] at hc;cases Nat.eq_of_beq_eq_true hc.1;cases Nat.eq_of_beq_eq_true hc.2.1;cases Nat.eq_of_beq_eq_true hc.2.2.1;cases Nat.eq_of_beq_eq_true hc.2.2.2.1;exact⟨zlT (kU (zc7 r) hc.2.2.2.2) (λ _ _=>bG.sm _ _) r,zc6 λ vs=>by cases vs <;> rfl⟩
structure Bs (ty f np n:Nat) where
instance {ty f np n : Nat} : Xb (Bs ty f np n) Unit where
  enc _:=.box ty [.slf f np n]
  dec _:={}
  ck x:=match x with | .box t [.slf f' np' n']=>Nat.beq t ty && (Nat.beq f' f && (Nat.beq np' np && Nat.beq n' n)) | _=>false
  up:=by
    intro _ P h w B x v r hc
    match x,r,hc with
    | .box t [.slf f' np' n'],r,hc =>
      simp only[Bool.and_eq_true] at hc;cases Nat.eq_of_beq_eq_true hc.1;cases Nat.eq_of_beq_eq_true hc.2.1;cases Nat.eq_of_beq_eq_true hc.2.2.1;cases Nat.eq_of_beq_eq_true hc.2.2.2;exact⟨r,rfl⟩
  put _ _:=.box ty [.slf f np n]
  out _:=()
  cko _ x:=match x with | .box t [.slf f' np' n']=>Nat.beq t ty && (Nat.beq f' f && (Nat.beq np' np && Nat.beq n' n)) | _=>false
  outk:=by
    intro _ P h h' w w' B a y v ra hle r hc
    match y,r,hc with
    | .box t [.slf f' np' n'],r,hc =>
      simp only[Bool.and_eq_true] at hc;cases Nat.eq_of_beq_eq_true hc.1;cases Nat.eq_of_beq_eq_true hc.2.1;cases Nat.eq_of_beq_eq_true hc.2.2.1;cases Nat.eq_of_beq_eq_true hc.2.2.2;exact⟨r,rfl⟩
structure Bm (ty kt vt : Nat) (q : MQ) where
  n:Nat
  F:List Int->Option (List Int)
instance {ty kt vt : Nat} {q : MQ} [DecidableEq MQ] : Xb (Bm ty kt vt q) (Nat × (List Int → Option (List Int))) where
  enc x:=.box ty [.mo kt vt q x.n x.F]
  dec x:=match x with | .box _ [.mo _ _ _ n F]=>⟨n,F⟩ | _=>⟨0,λ _=>none⟩
  ck x:=match x with | .box t [.mo k' v' q' _ _]=>Nat.beq t ty && (Nat.beq k' kt && (Nat.beq v' vt && decide (q'=q))) | _=>false
  up:=by
    intro _ P h w B x v r hc
    match x,r,hc with
    | .box t [.mo k' v' q' n F],r,hc =>
      simp only[Bool.and_eq_true] at hc;cases Nat.eq_of_beq_eq_true hc.1;cases Nat.eq_of_beq_eq_true hc.2.1;cases Nat.eq_of_beq_eq_true hc.2.2.1;cases of_decide_eq_true hc.2.2.2;exact⟨r,rfl⟩
  put _ o:=.box ty [.mo kt vt q o.1 o.2]
  out x:=match x with | .box _ [.mo _ _ _ n F]=>(n,F) | _=>(0,λ _=>none)
  cko _ x:=match x with | .box t [.mo k' v' q' _ _]=>Nat.beq t ty && (Nat.beq k' kt && (Nat.beq v' vt && decide (q'=q))) | _=>false
  outk:=by
    intro _ P h h' w w' B a y v ra hle r hc
    match y,r,hc with
    | .box t [.mo k' v' q' n F],r,hc =>
      simp only[Bool.and_eq_true] at hc;cases Nat.eq_of_beq_eq_true hc.1;cases Nat.eq_of_beq_eq_true hc.2.1;cases Nat.eq_of_beq_eq_true hc.2.2.1;cases of_decide_eq_true hc.2.2.2;exact⟨r,rfl⟩

section
variable {δ ε ρ A:Type} [vT δ ε] [dw ρ]
def ae.tyM (C:MK) (x:δ):ae (ρ×ε):=(C (vT.enc x)).bind λ r=>.chk (dw.ck (α:=ρ) r.1 && vT.cko x r.2) (.ok (dw.dec r.1,vT.out δ r.2))
def ae.unM (F:δ->ae (ρ×ε)):MK:=λ xs=>.chk (vT.ck (δ:=δ) xs) ((F (vT.dec xs)).mp λ r=>(dw.enc r.1,vT.put (vT.dec xs:δ) r.2))
theorem zod {P:Program}{f:FuncId}{C:MK}(H:nK P f C):nK P f (ae.unM (ae.tyM C:δ->ae (ρ×ε))):=by
 intro _ xs ys rs hr w h base vs hv hs hn hb hw hsz;obtain⟨h1,h2⟩:=ae.chk_o hr;obtain⟨⟨r,o⟩,h3,h4⟩:=ae.mp_o h2;obtain⟨⟨rs',ys'⟩,h5,h6⟩:=ae.bind_o h3;obtain⟨h7,h8⟩:=ae.chk_o h6;cases ae.ok_o h8;cases h4;rw[fE] at h7;obtain⟨u1,u2⟩:=vT.up hv h1;have:=H _ _ _ h5 w h base vs u1 hs (by rw[u2];exact hn) (by rw[u2];exact hb) hw hsz;refine⟨this.1,this.2.mono ?_⟩;rintro e w' ⟨h',v,a1,a2,a3,a4,a5,a6,a7,a8,a9⟩;rw[u2] at a5 a8 a9;obtain⟨b1,b2⟩:=vT.outk u1 (λ _ _ r=>Rep.mono a6 r) a3 h7.2;refine⟨h',v,a1,yL (λ vs hvs=>dw.up hvs h7.1) a2,b1,?_,?_,a6,a7,a8,a9⟩
 ·show (mr w' (vT.put _ _) vs).Nodup;rw[b2];exact a4
 ·show ∀ b ∈ mr w' (vT.put _ _) vs, _;rw[b2];exact a5
def zwP (x:δ) (k:ρ×ε->Option A) (r:List PA×List XA):Option A:=match dw.ck (α:=ρ) r.1 && vT.cko x r.2 with | true=>k (dw.dec r.1,vT.out δ r.2) | false=>none
theorem zwQ {P : Program} {Γ : aX} {N : Nat} {aT : bW} {f : FuncId} {x : δ} {k : ρ × ε → Option A} :
    (ae.tyM (fun xs => aM P N Γ aT f xs) x).T k = zc0 P Γ N aT f (vT.enc x).length (fun c => o9 ((gq 0 (vT.enc x)).map (·.1)) && uT (rX 0 (vT.enc x)) (vT.enc x) && uf (rX 0 (vT.enc x)) (eY c))
      ⟨FW 0 (vT.enc x),gq 0 (vT.enc x),[]⟩ (W9 P (vT.enc x)) (zwP x k):=by
  rw[<- MG];rfl
end

/-! One function for two closures. -/
section
variable {α β γ ρ:Type} [gu α] [gu β] [gu γ] [dw ρ]
def ae.two (F:α×β->ae ρ) (G:α×γ->ae ρ) (x:α×(β ⊕ γ)):ae ρ:=match x.2 with | .inl b=>F (x.1,b) | .inr c=>G (x.1,c)
theorem zc8 {args:List PA}(h:dw.ck (α:=α×(β ⊕ γ)) args=true):(dw.ck (α:=α×β) args=true/\(dw.dec args:α×(β ⊕ γ))=((dw.dec args:α×β).1,.inl (dw.dec args:α×β).2))\/dw.ck (α:=α×γ) args=true/\(dw.dec args:α×(β ⊕ γ))=((dw.dec args:α×γ).1,.inr (dw.dec args:α×γ).2):=by
 match args,h with
 | [a,b],h =>
  have h:(gu.ck (α:=α) a && gu.ck (α:=β ⊕ γ) b)=true:=h;rw[fE] at h;have h2:(gu.ck (α:=β) b || gu.ck (α:=γ) b)=true:=h.2;cases hb:gu.ck (α:=β) b with
  | true =>
   refine .inl ⟨fE _ _ ▸ ⟨h.1,hb⟩,?_⟩;show (gu.dec a,(match gu.ck (α:=β) b with | true=>Sum.inl (gu.dec b) | false=>Sum.inr (gu.dec b):β ⊕ γ))=_;rw[hb];rfl
  | false =>
   rw[hb] at h2;refine .inr ⟨fE _ _ ▸ ⟨h.1,h2⟩,?_⟩;show (gu.dec a,(match gu.ck (α:=β) b with | true=>Sum.inl (gu.dec b) | false=>Sum.inr (gu.dec b):β ⊕ γ))=_;rw[hb];rfl
 | [a],h=>have h:(gu.ck (α:=α) a && false)=true:=h;rw[Bool.and_false] at h;cases h
 | a :: b :: c :: r,h=>have h:(gu.ck (α:=α) a && false)=true:=h;rw[Bool.and_false] at h;cases h
theorem zoe {F:α×β->ae ρ}{G:α×γ->ae ρ}{args:List PA}{rs:List PA}(hr:(ae.un (ae.two F G) args).o=some rs):(ae.un F args).o=some rs\/(ae.un G args).o=some rs:=by
 obtain⟨h1,h2⟩:=ae.chk_o hr;rcases zc8 h1 with ⟨a,b⟩ | ⟨a,b⟩
 ·rw[b] at h2;left;unfold ae.un;rw[a];exact h2
 ·rw[b] at h2;right;unfold ae.un;rw[a];exact h2
theorem uX {P:Program}{f:FuncId}{F:α×β->ae ρ}{G:α×γ->ae ρ}(h1:Ok P f (ae.un F)) (h2:Ok P f (ae.un G)):Ok P f (ae.un (ae.two F G)):=by
 intro args rs hr;rcases zoe hr with h | h
 ·exact h1 args rs h
 ·exact h2 args rs h
theorem zhJ {τ υ:Type} [bG τ] [bG υ] {P:Program}{f:FuncId}{e s b:Nat}{F:α×β->ae (Sl τ×υ)}{G:α×γ->ae (Sl τ×υ)}(h1:dX P f (.mkv e s b (ae.unV F))) (h2:dX P f (.mkv e s b (ae.unV G))):dX P f (.mkv e s b (ae.unV (ae.two F G))):=by
 intro w hz az vs n get rs hr;obtain⟨a1,a2⟩:=ae.chk_o hr;rcases zc8 a1 with ⟨a,b⟩ | ⟨a,b⟩
 ·rw[b] at a2;exact h1 w hz az vs n get rs (by unfold ae.unV;rw[a];exact a2)
 ·rw[b] at a2;exact h2 w hz az vs n get rs (by unfold ae.unV;rw[a];exact a2)
end
/-! Sorts of typed data. -/
section
variable {α:Type} [bG α]
def pR (w:Sl α) (i:Nat):List PV:=bG.enc (w.get i)
def soP (C:List PA->ae (List PA)) (caps:List PV) (ag:Bool) (w:Sl α):Bool:=(znu w.len (λ i j=>(Ea C caps ag (pR w) i j).isSome) (kT C caps ag (pR w))).b
def soG (C:List PA->ae (List PA)) (caps:List PV) (ag:Bool) (w:Sl α):Nat->α:=λ i=>(bG.dec (Eb w.len (kT C caps ag (pR w)) (pR w) i)).1
end
end Go.Pm
namespace Go.Pm
variable [aJ]
open Go.RowKit (Below)
structure qN where
  t1:Nat
  y1:TypeId
  t2:Nat
  y2:TypeId
  e:Int
  ty:TypeId
  on:Bool
def qN.v (pr:qN):Value:=.iface pr.ty (.agg #[])
def stA (pr : qN) : Oper := { dst := none, op := .store pr.y1 (.tmp pr.t1) (.const (.slice none 0 0)), type := 0, pos := "", after := #[], guard := none }
def stB (pr : qN) : Oper := { dst := none, op := .store pr.y2 (.tmp pr.t2) (.const (.int .i64 pr.e)), type := 0, pos := "", after := #[], guard := none }
def kP (pr:qN):Array Oper:=#[stA pr,stB pr]
section
variable (P:Program) (Γ:aX)
def zhK (aT:bW) (id:Nat) (K:St->Prop) (σ:St):Prop:=match lk aT.reg id with
 | some k=>match canon P k σ with
  | some s=>K s
  | none=>False
 | none=>K σ
def Cc (aT:bW) (id:Nat) (σ:St):ae St:=match lk aT.reg id with
 | some k=>.opt (canon P k σ)
 | none=>.ok σ
def sD (pr : qN) (fi : FuncId) : Code → Option (Nat × Nat)
  | .region id ops false=>match ops.toList with
    | [o1,o2]=>match o1.op,o1.dst,o1.guard,o2.op,o2.dst,o2.guard with
      | .makeFunc (.func f) first caps,some t,none,.defer { callee:=.value (.tmp t'),args,argTypes:=_ },none,none=>match caps.toList with
        | [.tmp c1,.tmp c2]=>match Nat.beq f fi && Nat.beq t t' && first.isEmpty && args.isEmpty && Nat.beq c1 pr.t1 && Nat.beq c2 pr.t2 && !Nat.beq t pr.t1 && !Nat.beq t pr.t2 with
          | true=>some (id,t)
          | false=>none
        | _=>none
      | _,_,_,_,_,_=>none
    | _=>none
  | _=>none
def wP (nt : Nat) (pr : qN) : Code → Option (Nat × Nat)
  | .region _ ops false=>match pr.on with
   | false=>none
   | true=>match ops.toList with
     | [o1,o2,o3]=>match o1.op,o1.dst,o1.guard,o2.op,o2.dst,o2.guard,o3.op,o3.guard with
      | .build ty parts,some x,none,.makeInterface ty' (.tmp x'),some y,none,.panic (.tmp y'),none=>match parts.isEmpty && Nat.beq ty pr.ty && Nat.beq ty' pr.ty && Nat.beq x x' && Nat.beq y y' && Nat.blt x nt && Nat.blt y nt with
        | true=>some (x,y)
        | false=>none
      | _,_,_,_,_,_,_,_=>none
     | _=>none
  | _=>none
def wQ (pr : qN) (fi : FuncId) (aT : bW) : Bool → Code → (Exit → St → Prop) → St → Prop
  | dn,.seq a b,K,σ=>match sD pr fi a with
    | some (id,t)=>match Nat.blt t aT.nt && !dn && uf [pr.t1,pr.t2] (eY b) with
      | true=>zhK P aT id (wQ pr fi aT true b K) ⟨(t,.junk) :: σ.env,σ.aB,[]⟩
      | false=>False
    | none=>vc P Γ aT a (Yg (wQ pr fi aT dn b K) K) σ
  | dn,c,K,σ=>match wP aT.nt pr c with
    | some (x,y)=>match dn with
      | true=>iJ P Γ aT.nt (kP pr) 0 (kP pr).toList (K .ret) ⟨(y,.junk) :: (x,.junk) :: σ.env,σ.aB,[]⟩
      | false=>False
    | none=>vc P Γ aT c K σ
def nR (N : Nat) (pr : qN) (fi : FuncId) (aT : bW) : Bool → Code → St → ae (Exit × St)
  | dn,.seq a b,σ=>match sD pr fi a with
    | some (id,t)=>match Nat.blt t aT.nt && !dn && uf [pr.t1,pr.t2] (eY b) with
      | true=>(Cc P aT id ⟨(t,.junk) :: σ.env,σ.aB,[]⟩).bind (nR N pr fi aT true b)
      | false=>.no
    | none=>(vcC P Γ N aT a σ).bind (sqC (nR N pr fi aT dn b))
  | dn,c,σ=>match wP aT.nt pr c with
    | some (x,y)=>match dn with
      | true=>(qL P Γ aT.nt (kP pr) 0 (kP pr).toList ⟨(y,.junk) :: (x,.junk) :: σ.env,σ.aB,[]⟩).mp λ s=>(.ret,s)
      | false=>.no
    | none=>vcC P Γ N aT c σ
def aD (N:Nat) (pr:qN) (fi:FuncId) (aT:bW) (f:FuncId) (args:List PA):ae (List PA) :=
 match P.funcs[f]? with
 | some fn=>match fn.body with
  | some c=>match Nat.beq aT.nt fn.ntmps && Nat.ble args.length aT.nt && uf [rfS] (eY c) with
   | true=>(nR P Γ N pr fi aT false c ⟨gQ 0 args,[],[]⟩).bind λ (e,s)=>match e with
    | .normal=>.opt (kJ P s fn.results.toList)
    | .ret=>.opt (kJ P s fn.results.toList)
    | _=>.no
   | false=>.no
  | none=>.no
 | none=>.no
def MH (pr:qN) (fi:FuncId) (aT:bW) (f:FuncId) (args:List PA) (K:List PA->Prop):Prop :=
 match P.funcs[f]? with
 | some fn=>match fn.body with
  | some c=>match Nat.beq aT.nt fn.ntmps && Nat.ble args.length aT.nt && uf [rfS] (eY c) with
   | true=>wQ P Γ pr fi aT false c (Jv P fn K) ⟨gQ 0 args,[],[]⟩
   | false=>False
  | none=>False
 | none=>False
end
section
variable {P:Program}{Γ:aX}{B:Nat}{w0:World}{pr:qN}
abbrev dfD (fi:FuncId) (v1 v2:Value):Deferred:={ target:=.fn (.func fi) #[v1,v2],args:=#[] }
theorem F7 {fi:FuncId}{c:Code}{id t:Nat}(h:sD pr fi c=some (id,t)):∃ (o1 o2:Oper) (ats:Array TypeId),c=.region id #[o1,o2] false/\t ≠ pr.t1/\t ≠ pr.t2/\o1.op=.makeFunc (.func fi) #[] #[.tmp pr.t1,.tmp pr.t2]/\o1.dst=some t/\o1.guard=none /\
  o2.op=.defer { callee:=.value (.tmp t),args:=#[],argTypes:=ats }/\o2.dst=none/\o2.guard=none:=by
 unfold sD at h;split at h
 ·rename_i id' ops;split at h
  ·rename_i o1 o2 hops;split at h
   ·rename_i f first caps t' t2 args ats e1 e2 e3 e4 e5 e6
    split at h
    ·rename_i c1 c2 zwR;split at h
     ·rename_i hc;simp only[fE] at hc;simp only[bJ,eF] at h;obtain⟨rfl,rfl⟩:=h;obtain⟨⟨⟨⟨⟨⟨⟨h1,h2⟩,h3⟩,h4⟩,h5⟩,h6⟩,h7⟩,h8⟩:=hc;have h1:=jb h1;have h2:=jb h2;have h3:first = #[]:=by simpa using h3
      have h4:args = #[]:=by simpa using h4
      have h5:=jb h5;have h6:=jb h6;have h7:t' ≠ pr.t1:=Nat.ne_of_beq_eq_false (by simpa using h7);have h8:t' ≠ pr.t2:=Nat.ne_of_beq_eq_false (by simpa using h8);have h9:caps = #[.tmp c1,.tmp c2]:=by rw[<- Array.toArray_toList (xs:=caps),zwR]
      subst h1 h2 h3 h4 h9;rw[h5,h6] at e1;refine⟨o1,o2,ats,?_,h7,h8,e1,e2,e3,e4,e5,e6⟩;rw[<- Array.toArray_toList (xs:=ops),hops]
     ·cases h
    ·cases h
   ·cases h
  ·cases h
 ·cases h
theorem AU {nt:Nat}{c:Code}{x y:Nat}(h:wP nt pr c=some (x,y)):pr.on=true/\∃ (id:Nat) (o1 o2 o3:Oper),c=.region id #[o1,o2,o3] false/\x < nt/\y < nt/\o1.op=.build pr.ty #[]/\o1.dst=some x/\o1.guard=none /\
  o2.op=.makeInterface pr.ty (.tmp x)/\o2.dst=some y/\o2.guard=none/\o3.op=.panic (.tmp y)/\o3.guard=none:=by
 unfold wP at h;split at h
 ·rename_i id' ops;split at h
  ·cases h
  rename_i hon;split at h
  ·rename_i o1 o2 o3 hops;split at h
   ·rename_i ty parts a ty' a' b b' e1 e2 e3 e4 e5 e6 e7 e8;split at h
    ·rename_i hc;simp only[fE] at hc;simp only[bJ,eF] at h;obtain⟨rfl,rfl⟩:=h;obtain⟨⟨⟨⟨⟨⟨h1,h2⟩,h3⟩,h4⟩,h5⟩,h6⟩,h7⟩:=hc;have h1:parts = #[]:=by simpa using h1
     have h2:=jb h2;have h3:=jb h3;have h4:=jb h4;have h5:=jb h5;subst h1 h2 h4 h5;rw[h3] at e4;refine⟨hon,id',o1,o2,o3,?_,by simpa [Nat.blt_eq] using h6,by simpa [Nat.blt_eq] using h7,e1,e2,e3,e4,e5,e6,e7,e8⟩;rw[<- Array.toArray_toList (xs:=ops),hops]
    ·cases h
   ·cases h
  ·cases h
 ·cases h
theorem Uh {fi : FuncId} (hidle : ∀ caps : Array Value, caps.size = 2 → Bz P { target := .fn (.func fi) caps, args := #[] }) {c : Code} {id t nt n : Nat} {h0 : Fz} {a : Act} {σ : St} {g : Gh} {w : World} {Q : Exit → Act → World → Prop}
    (h:sD pr fi c=some (id,t)) (ht:t < nt) (S:bU P nt B w0 h0 g σ a w)
    (hQ:∀ a',bU P nt B w0 h0 g ⟨(t,.junk) :: σ.env,σ.aB,[]⟩ a' w->a'.defers=dfD fi (a.tmps.getD pr.t1 undef) (a.tmps.getD pr.t2 undef) :: a.defers->(∀ u,u ≠ t->a'.tmps.getD u undef=a.tmps.getD u undef)->Q .normal a' w):c.wpIn (FR none) n P Q a w:=by
  obtain⟨o1,o2,ats,rfl,n1,n2,e1,e2,e3,e4,e5,e6⟩:=F7 h;refine wpIn_region ?_;show wpOpsIn (FR none) n P #[o1,o2] Q [0,1] a w;have w1:∀ tm,Region.wanted o1 (yielded #[o1,o2] tm)=true:=λ tm=>by simp[Region.wanted,e3]
  have w2:∀ tm,Region.wanted o2 (yielded #[o1,o2] tm)=true:=λ tm=>by simp[Region.wanted,e6]
  have r1:(execOp a.eval o1).run P w=.ok (.value (.func (.func fi) #[] #[a.tmps.getD pr.t1 undef,a.tmps.getD pr.t2 undef])) w:=by
    simp only[execOp,e1,Instr.makeFunc,fD,iT,fM];simp[Act.eval]
  have ets:t < a.tmps.size:=dqS ht S.size;have ev:(a.put (some t) (.func (.func fi) #[] #[a.tmps.getD pr.t1 undef,a.tmps.getD pr.t2 undef])).eval (.tmp t)=.func (.func fi) #[] #[a.tmps.getD pr.t1 undef,a.tmps.getD pr.t2 undef]:=by
    simp[Act.put,Act.eval,rE,ets]
  have r2:(execOp (a.put (some t) (.func (.func fi) #[] #[a.tmps.getD pr.t1 undef,a.tmps.getD pr.t2 undef])).eval o2).run P w=.ok (.defer (dfD fi (a.tmps.getD pr.t1 undef) (a.tmps.getD pr.t2 undef))) w:=by
    simp only[execOp,e4,resolve,fD,ev,Deferred.ofValue,iT,fM];simp
  show (if Region.wanted o1 (yielded #[o1,o2] a.tmps) then o1.wpIn (FR none) n P a w (wpOpsIn (FR none) n P #[o1,o2] Q [1]) Q else _);rw[if_pos (w1 _)];refine⟨λ _ _=>trivial,?_⟩;rw[show o1.semAt (FR none).round a.eval=execOp a.eval o1 from rfl,r1];show wpOpsIn (FR none) n P #[o1,o2] Q [1] (a.put o1.dst _) w;rw[e2];show (if Region.wanted o2 (yielded #[o1,o2] (a.put (some t) _).tmps) then o2.wpIn (FR none) n P (a.put (some t) _) w (wpOpsIn (FR none) n P #[o1,o2] Q []) Q else _);rw[if_pos (w2 _)];refine⟨λ _ _=>trivial,?_⟩;have r3:Sem.run P (o2.semAt (FR none).round (a.put (some t) (.func (.func fi) #[] #[a.tmps.getD pr.t1 undef,a.tmps.getD pr.t2 undef])).eval) w=.ok (.defer (dfD fi (a.tmps.getD pr.t1 undef) (a.tmps.getD pr.t2 undef))) w:=r2;rw[r3];have S1:=S.put (dst:=some t) (d:=.junk) (v:=.func (.func fi) #[] #[a.tmps.getD pr.t1 undef,a.tmps.getD pr.t2 undef]) (by simpa [dE,Nat.blt_eq] using ht) trivial (λ L hL=>by simp[bY,cZ,bi] at hL) [];rw[Oper.uponIn_defer,e5];refine hQ _ (S1.act ?_ ?_ ?_) rfl λ u hu=>?_
  · obtain ⟨es, m1, m2, m3, m4⟩ := S1.dfr;refine⟨.inr (dfD fi (a.tmps.getD pr.t1 undef) (a.tmps.getD pr.t2 undef)) :: es,m1,?_,λ E hE=>?_,λ d hd=>?_⟩
    · rw[nG,<- m2];rfl
    · rcases jf.1 hE with e | hE
      · cases e
      · exact m3 E hE
    · rcases jf.1 hd with e | hd
      · cases e;exact hidle _ rfl
      · exact m4 d hd
  · exact S1.size
  · exact S1.env
  · simp[Act.put,rE,Array.getElem?_setIfInBounds_ne (Ne.symm hu)]
theorem YY (hb : pr.on = true → ∀ w, (Instr.build pr.ty #[]).run P w = .ok (.agg #[]) w) (hm : pr.on = true → ∀ w, (Instr.makeInterface pr.ty (.agg #[])).run P w = .ok pr.v w) {c : Code} {x y nt n : Nat} {h0 : Fz} {a : Act} {σ : St} {g : Gh} {w : World} {Q : Exit → Act → World → Prop}
    (h:wP nt pr c=some (x,y)) (S:bU P nt B w0 h0 g σ a w)
    (hQ:∀ a',bU P nt B w0 h0 g ⟨(y,.junk) :: (x,.junk) :: σ.env,σ.aB,[]⟩ a' w->a'.defers=a.defers->(∀ u,u ≠ x->u ≠ y->a'.tmps.getD u undef=a.tmps.getD u undef)->Q (.panic [{ v:=pr.v,recovered:=false }]) a' w):c.wpIn (FR none) n P Q a w:=by
  obtain⟨hon,id,o1,o2,o3,rfl,hx,hy,e1,e2,e3,e4,e5,e6,e7,e8⟩:=AU h
  replace hb:=hb hon
  replace hm:=hm hon
  refine wpIn_region ?_;show wpOpsIn (FR none) n P #[o1,o2,o3] Q [0,1,2] a w;have w1:∀ tm,Region.wanted o1 (yielded #[o1,o2,o3] tm)=true:=λ tm=>by simp[Region.wanted,e3]
  have w2:∀ tm,Region.wanted o2 (yielded #[o1,o2,o3] tm)=true:=λ tm=>by simp[Region.wanted,e6]
  have w3:∀ tm,Region.wanted o3 (yielded #[o1,o2,o3] tm)=true:=λ tm=>by simp[Region.wanted,e8]
  have r1:(execOp a.eval o1).run P w=.ok (.value (.agg #[])) w:=by
    simp only[execOp,e1,fD,Array.map_empty,hb,iT,fM]
  have S1:=S.put (dst:=some x) (d:=.junk) (v:=.agg #[]) (by simpa [dE,Nat.blt_eq] using hx) trivial (λ L hL=>by simp[bY,cZ,bi] at hL) [];have S2:=S1.put (dst:=some y) (d:=.junk) (v:=pr.v) (by simpa [dE,Nat.blt_eq] using hy) trivial (λ L hL=>by simp[bY,cZ,bi] at hL) [];have ex:(a.put (some x) (.agg #[])).eval (.tmp x)=.agg #[]:=by
    simp[Act.put,Act.eval,rE,dqS hx S.size]
  have ey:((a.put (some x) (.agg #[])).put (some y) pr.v).eval (.tmp y)=pr.v:=by
    simp[Act.put,Act.eval,rE,dqS hy S.size]
  have r2:(execOp (a.put (some x) (.agg #[])).eval o2).run P w=.ok (.value pr.v) w:=by
    simp only[execOp,e4,ex,fD,hm,iT,fM]
  have r3:(execOp ((a.put (some x) (.agg #[])).put (some y) pr.v).eval o3).run P w=.halt (.panic pr.v) w:=by
    simp only[execOp,e7,ey];rfl
  show (if Region.wanted o1 (yielded #[o1,o2,o3] a.tmps) then o1.wpIn (FR none) n P a w (wpOpsIn (FR none) n P #[o1,o2,o3] Q [1,2]) Q else _);rw[if_pos (w1 _)];refine⟨λ _ _=>trivial,?_⟩;rw[show o1.semAt (FR none).round a.eval=execOp a.eval o1 from rfl,r1,Oper.uponIn_value,e2];show (if Region.wanted o2 (yielded #[o1,o2,o3] (a.put (some x) _).tmps) then o2.wpIn (FR none) n P (a.put (some x) _) w (wpOpsIn (FR none) n P #[o1,o2,o3] Q [2]) Q else _);rw[if_pos (w2 _)];refine⟨λ _ _=>trivial,?_⟩;rw[show o2.semAt (FR none).round (a.put (some x) (.agg #[])).eval=execOp (a.put (some x) (.agg #[])).eval o2 from rfl,r2,Oper.uponIn_value,e5];show (if Region.wanted o3 (yielded #[o1,o2,o3] ((a.put (some x) _).put (some y) _).tmps) then o3.wpIn (FR none) n P ((a.put (some x) _).put (some y) _) w (wpOpsIn (FR none) n P #[o1,o2,o3] Q []) Q else _);rw[if_pos (w3 _)];refine⟨λ _ _=>trivial,?_⟩;rw[show o3.semAt (FR none).round ((a.put (some x) (.agg #[])).put (some y) pr.v).eval=execOp ((a.put (some x) (.agg #[])).put (some y) pr.v).eval o3 from rfl,r3,Oper.uponIn_panic];refine hQ _ S2 rfl λ u hu hu'=>?_;simp[Act.put,rE,Array.getElem?_setIfInBounds_ne (Ne.symm hu),Array.getElem?_setIfInBounds_ne (Ne.symm hu')]
def MI (P:Program) (Γ:aX) (nt B:Nat) (w0:World) (h0:Fz) (pr:qN) (fi:FuncId) (K:Exit->St->Prop):Exit->Act->World->Prop :=
 fun e a' w' => (∃ g' σ', K e σ' ∧ bU P nt B w0 h0 g' σ' a' w') ∨
  (e=.panic [{ v:=pr.v,recovered:=false }]/\pr.on=true/\∃ g' σ',bU P nt B w0 h0 g' σ' a' w'/\a'.defers=[dfD fi (a'.tmps.getD pr.t1 undef) (a'.tmps.getD pr.t2 undef)]/\iJ P Γ nt (kP pr) 0 (kP pr).toList (K .ret) { σ' with log:=[] })
def PhD (pr : qN) (fi : FuncId) (D : List Nat) (a0 : Act) : Bool → Prop
  | false=>a0.defers=[]
  | true=>a0.defers=[dfD fi (a0.tmps.getD pr.t1 undef) (a0.tmps.getD pr.t2 undef)]/\pr.t1 ∉ D/\pr.t2 ∉ D
theorem Xd {a b:List Nat}(h:uf a b=true):∀ t∈a,t ∉ b:=λ t ht hb=>by
 have:=List.all_eq_true.1 h t ht;simp at this;exact this hb
theorem zhL (hok : iE P Γ) {fi : FuncId} (hidle : ∀ caps : Array Value, caps.size = 2 → Bz P { target := .fn (.func fi) caps, args := #[] })
    (hb:pr.on=true->∀ w,(Instr.build pr.ty #[]).run P w=.ok (.agg #[]) w) (hm:pr.on=true->∀ w,(Instr.makeInterface pr.ty (.agg #[])).run P w=.ok pr.v w) (aT:bW):∀ (c:Code) (dn:Bool) (n:Nat) (h0:Fz) (D:List Nat) (a0:Act) (K:Exit->St->Prop) (σ:St) (g:Gh) (a:Act) (w:World),
    (∀ t∈eY c,t∈D)->rfS ∉ D->PhD pr fi D a0 dn->wQ P Γ pr fi aT dn c K σ->bU P aT.nt B w0 h0 g σ a w->Kp D a0 a->c.wpIn (FR none) n P (MI P Γ aT.nt B w0 h0 pr fi K) a w:=by
  intro c
  have leaf:∀ (c:Code),(∀ dn K σ,wQ P Γ pr fi aT dn c K σ=(match wP aT.nt pr c with
      | some (x,y)=>(match dn with
        | true=>iJ P Γ aT.nt (kP pr) 0 (kP pr).toList (K .ret) ⟨(y,.junk) :: (x,.junk) :: σ.env,σ.aB,[]⟩
        | false=>False)
      | none=>vc P Γ aT c K σ))->∀ (dn:Bool) (n:Nat) (h0:Fz) (D:List Nat) (a0:Act) (K:Exit->St->Prop) (σ:St) (g:Gh) (a:Act) (w:World),
      (∀ t∈eY c,t∈D)->rfS ∉ D->PhD pr fi D a0 dn->wQ P Γ pr fi aT dn c K σ->bU P aT.nt B w0 h0 g σ a w->Kp D a0 a->c.wpIn (FR none) n P (MI P Γ aT.nt B w0 h0 pr fi K) a w:=by
    intro c hc dn n h0 D a0 K σ g a w hD hr hph h S hkp;rw[hc] at h;split at h
    · rename_i x y zc9;split at h
      · refine YY hb hm zc9 S fun a' S' hdf htm => .inr ⟨rfl, (AU zc9).1, g, _, S', ?_, h⟩;obtain⟨p1,p2,p3⟩:=hph;obtain⟨_,id,o1,o2,o3,rfl,_,_,_,e2,_,_,e5,_⟩:=AU zc9;have hxD:x∈D:=hD x (by simp[eY,zY,e2]);have hyD:y∈D:=hD y (by simp only[eY,zY,e2,e5];simp);rw[hdf,hkp.2.2 hr,p1,htm _ (λ e=>p2 (by rw[e];exact hxD)) (λ e=>p2 (by rw[e];exact hyD)),htm _ (λ e=>p3 (by rw[e];exact hxD)) (λ e=>p3 (by rw[e];exact hyD)),hkp.1 _ p2,hkp.1 _ p3]
      · exact h.elim
    · exact wpIn_mono (FT hok aT c none n h0 D a0 K σ g a w hD (Rnd.none h0) h S hkp) λ e a' w' ⟨g',σ',hK,S',_⟩=>.inl ⟨g',σ',hK,S'⟩
  induction c with
  | seq x y _ Sv =>
    intro dn n h0 D a0 K σ g a w hD hr hph h S hkp;have hDx:∀ t∈eY x,t∈D:=λ t ht=>hD t (dL.2 (.inl ht));have hDy:∀ t∈eY y,t∈D:=λ t ht=>hD t (dL.2 (.inr ht));simp only[wQ] at h;split at h
    · rename_i id t hdf;split at h
      · rename_i hlt;simp only[fE,Bool.not_eq_true'] at hlt;obtain⟨⟨ht,hdn⟩,hdj⟩:=hlt;subst hdn;have ht:t < aT.nt:=by simpa [Nat.blt_eq] using ht
        have hph:a0.defers=[]:=hph;refine wpIn_seq (Uh hidle hdf ht S λ a' S' hd' htm=>?_);have hd:=Xd hdj;obtain⟨_,_,_,rfl,n1,n2,_⟩:=F7 hdf;have zD4:PhD pr fi (eY y) a' true:=by
          refine⟨?_,hd _ (by simp),hd _ (by simp)⟩;rw[hd',hkp.2.2 hr,hph,htm _ (Ne.symm n1),htm _ (Ne.symm n2)]
        have hk:∀ s g2,wQ P Γ pr fi aT true y K s->bU P aT.nt B w0 h0 g2 s a' w->y.wpIn (FR none) n P (MI P Γ aT.nt B w0 h0 pr fi K) a' w:=λ s g2 hv S2 =>
          Sv true n h0 (eY y) a' K s g2 a' w (λ _ h=>h) (λ h=>hr (hDy _ h)) zD4 hv S2 (Kp.refl _ _)
        unfold zhK at h;split at h
        · split at h
          · rename_i s hs;obtain⟨g2,S2⟩:=dP hs S';exact hk s g2 h S2
          · exact h.elim
        · exact hk _ g h S'
      · exact h.elim
    · refine wpIn_seq (wpIn_mono (FT hok aT x none n h0 D a0 _ σ g a w hDx (Rnd.none h0) h S hkp) ?_);rintro e a' w' ⟨g',σ',hK,S',hk'⟩;cases e with
      | normal=>exact Sv dn n h0 D a0 K σ' g' a' w' hDy hr hph hK S' hk'
      | exit id=>exact .inl ⟨g',σ',hK,S'⟩
      | goto l=>exact .inl ⟨g',σ',hK,S'⟩
      | ret=>exact .inl ⟨g',σ',hK,S'⟩
      | panic ch=>exact .inl ⟨g',σ',hK,S'⟩
      | outgrown=>exact .inl ⟨g',σ',hK,S'⟩
  | skip=>exact leaf _ λ dn K σ=>rfl
  | region i o d=>exact leaf _ λ dn K σ=>rfl
  | cond c x y=>exact leaf _ λ dn K σ=>rfl
  | block i x=>exact leaf _ λ dn K σ=>rfl
  | loop x=>exact leaf _ λ dn K σ=>rfl
  | scope x=>exact leaf _ λ dn K σ=>rfl
  | exit i=>exact leaf _ λ dn K σ=>rfl
  | goto i=>exact leaf _ λ dn K σ=>rfl
  | label i=>exact leaf _ λ dn K σ=>rfl
  | ret=>exact leaf _ λ dn K σ=>rfl
  | rangeFunc f p x y=>exact leaf _ λ dn K σ=>rfl
  | refuse x=>exact leaf _ λ dn K σ=>rfl
theorem zhM {n : Nat} {a : Act} {w : World} {Q : Exit → Act → World → Prop} (h : wpOpsIn (FR none) n P (kP pr) Q [0, 1] a w) (hQ : ∀ ch a' w', ¬ Q (.panic ch) a' w') :
  ∃ w1 w2,(Instr.storeAt pr.y1 (a.tmps.getD pr.t1 undef) (.slice none 0 0)).run P w=.ok () w1/\(Instr.storeAt pr.y2 (a.tmps.getD pr.t2 undef) (.int .i64 pr.e)).run P w1=.ok () w2/\Q .normal a w2:=by
 have one:∀ (o:Oper) (ty:TypeId) (t:Nat) (v:Value) (w:World) (next:Act->World->Prop),o.op=.store ty (.tmp t) (.const v)->o.dst=none->o.wpIn (FR none) n P a w next Q->∃ w1,(Instr.storeAt ty (a.tmps.getD t undef) v).run P w=.ok () w1/\next a w1:=by
  intro o ty t v w next ho hd h
  obtain⟨_,h⟩:=h;have e:o.semAt (FR none).round a.eval=(do Instr.storeAt ty (a.tmps.getD t undef) v;pure .skip):=by
   show execOp a.eval o=_;simp only[execOp,ho];rfl
  rw[e] at h;simp only[fD] at h;cases hr:(Instr.storeAt ty (a.tmps.getD t undef) v).run P w with
  | ok u w1 =>
   rw[hr] at h;simp only[fM,iT,Oper.uponIn_skip,hd] at h;exact⟨w1,rfl,h⟩
  | halt hh w1 =>
   rw[hr] at h;cases hh with
   | panic v=>exact (hQ _ _ _ h).elim
   | _=>exact h.elim
 have w1:∀ (o:Oper) tm,o.guard=none->Region.wanted o (yielded (kP pr) tm)=true:=λ o tm e3=>by simp[Region.wanted,e3]
 have e0:(kP pr)[0]? = some (stA pr):=rfl;have e1:(kP pr)[1]? = some (stB pr):=rfl;simp only[wpOpsIn,e0,e1] at h;rw[if_pos (w1 _ _ rfl)] at h;obtain⟨wa,hr1,h⟩:=one _ _ _ _ _ _ rfl rfl h;rw[if_pos (w1 _ _ rfl)] at h;obtain⟨wb,hr2,h⟩:=one _ _ _ _ _ _ rfl rfl h;exact⟨wa,wb,hr1,hr2,h⟩
def zD5 (P:Program) (pr:qN) (fi:FuncId):Prop:=∀ (v1 v2:Value) (w:World),∃ os:Array Obj,∀ w1 w2,(Instr.storeAt pr.y1 v1 (.slice none 0 0)).run P { w with heap:=w.heap ++ os } = .ok () w1->(Instr.storeAt pr.y2 v2 (.int .i64 pr.e)).run P w1=.ok () w2 ->
 (∀ w,(invoke (dfD fi v1 v2).target (dfD fi v1 v2).args).run P w=.ok (.enter fi #[v1,v2]) w) /\
 ∀ n,CallsDIn (FR none) n P fi #[v1,v2] (.panicking [{ v:=pr.v,recovered:=false }]) w λ e u' w'=>(∃ v,e=.returned v)/\u'=.panicking [{ v:=pr.v,recovered:=true }]/\w'=w2
structure zof (P : Program) (pr : qN) (fi : FuncId) : Prop where
  idle:∀ caps:Array Value,caps.size=2->Bz P { target:=.fn (.func fi) caps,args:=#[] }
  bld:pr.on=true->∀ w,(Instr.build pr.ty #[]).run P w=.ok (.agg #[]) w
  mki:pr.on=true->∀ w,(Instr.makeInterface pr.ty (.agg #[])).run P w=.ok pr.v w
  pan:pr.on=true->zD5 P pr fi
theorem zda {G : aX} (hok : iE P G) {f fi : FuncId} (H : zof P pr fi) {args : List PA} {K : List PA → Prop} {aT : bW} (hv : MH P G pr fi aT f args K) {w : World} {h0 : Fz} {vs : List Value} (hvs : RL (kL h0) args vs) (hfz : Hw h0 w) :
    Calls P f vs.toArray w λ e w'=>∃ (h':Fz) (rs:List PA) (v:Value),K rs/\e=.returned v/\nJ h' rs v/\tN h0 w.heap.size w w' /\
      iP h0 h'/\Hw h' w'/\∀ b o,h' b=some o->h0 b=some o\/w.heap.size<=b:=by
  unfold MH at hv;split at hv
  · rename_i fn hfn;split at hv
    · rename_i c hbody;split at hv
      · rename_i hnt;simp only[fE,Nat.ble_eq] at hnt;have S:=Ku (P:=P) (jb hnt.1.1) hnt.1.2 hvs hfz;have hwp:=zhL (B:=w.heap.size) (w0:=w) hok H.idle H.bld H.mki aT c false 0 h0 (eY c) { tmps:=vs.toArray ++ Array.replicate (fn.ntmps - vs.toArray.size) undef,defers:=[] } _ _ _ _ _ (λ _ h=>h) (Xd hnt.2 _ (by simp)) rfl hv S (Kp.refl _ _);refine (callsIn_wide (n:=0)).1 ?_;refine callsIn_of_wp_marks (F:=FR none) hfn hbody trivial (wpIn_mono hwp ?_);have Su:∀ b,h0 b=some (.fz (.deferred (some [])))->b < w.heap.size:=λ b h=>hfz.lt h
        have res:∀ σ' g2 a2 w2,Em P fn K σ'->bU P aT.nt w.heap.size w h0 g2 σ' a2 w2->∃ v,(results fn a2.tmps).run P w2=.ok v w2/\∃ (h':Fz) (rs:List PA) (v':Value),K rs/\Ending.returned v=.returned v'/\nJ h' rs v'/\tN h0 w.heap.size w w2 /\
            iP h0 h'/\Hw h' w2/\∀ b o,h' b=some o->h0 b=some o\/w.heap.size<=b:=by
          intro σ' g2 a2 w2 hf S2;unfold Em at hf;split at hf
          · rename_i l hl;obtain⟨u,v,hu,hrun,hres⟩:=BZ S2 hl;obtain⟨h',S3,F⟩:=S2.freeze hu;exact⟨v,hrun,h',l,v,hf,rfl,hres h' F,S3.below,S3.le0,S3.hw,S3.hn⟩
          · exact hf.elim
        rintro e a' w' (⟨g',σ',hK',S'⟩ | ⟨rfl,hon,g',σ',S',hdf,hvo⟩)
        · have fin:Em P fn K σ'->LeavesInM (FR none) 0 P fn a'.tmps (λ e w'=>∃ (h':Fz) (rs:List PA) (v:Value),K rs/\e=.returned v/\nJ h' rs v/\tN h0 w.heap.size w w' /\
              iP h0 h'/\Hw h' w'/\∀ b o,h' b=some o->h0 b=some o\/w.heap.size<=b) a'.defers .returning w':=by
            intro hf;obtain⟨Ds,h1,h2,h3,h4⟩:=S'.dfr;exact vM Su Ds g' a' w' h1 h2 h3 h4 S' λ g2 a2 w2 _ S2=>res σ' g2 a2 w2 hf S2
          cases e with
          | normal=>exact fin hK'
          | ret=>exact fin hK'
          | exit id=>exact hK'.elim
          | goto l=>exact hK'.elim
          | panic ch=>exact hK'.elim
          | outgrown=>exact hK'.elim
        · show LeavesInM (FR none) 0 P fn a'.tmps _ a'.defers (.panicking _) w';rw[hdf];obtain⟨os,zc9⟩:=H.pan hon (a'.tmps.getD pr.t1 undef) (a'.tmps.getD pr.t2 undef) w';have hsame:∀ k,k < w'.heap.size->(w'.heap ++ os)[k]? = w'.heap[k]?:=λ k hk=>Array.getElem?_append_left hk
          have S1 : bU P aT.nt w.heap.size w h0 g' σ' a' { w' with heap := w'.heap ++ os } := S'.world (h' := g'.h) (fun _ _ h => h) (S'.hw.same fun k o hk => hsame k (S'.hw.lt hk)) (fun _ _ h => .inl h)
            ⟨rfl,rfl,rfl,by simp,iZ _,λ k hk=>hsame k hk⟩
          have hops:=BM (r:=none) (n:=0) (D:=[]) (a0:=a') (Q:=λ e a2 w2=>e=.normal/\a2.tmps=a'.tmps/\∃ g2 σ2,Em P fn K σ2/\bU P aT.nt w.heap.size w h0 g2 σ2 a2 w2) hok (λ j o ho t ht=>by
            match j,ho with
            | 0,ho=>cases ho;cases ht
            | 1,ho=>cases ho;cases ht
            | _+2,ho=>cases ho) hvo (S1.log []) (Kp.refl _ _) λ σ2 hK g2 a2 w2 S2 hk2 _=>⟨rfl,?_,g2,σ2,hK,S2⟩
          · obtain ⟨w1, w2, hr1, hr2, _, _, g2, σ2, hf, S2⟩ := zhM hops fun ch a2 w2 h => by cases h.1
            obtain⟨hinv,hcall⟩:=zc9 w1 w2 hr1 hr2;refine⟨by simp,.inr ⟨(λ h=>by cases h),.func fi,_,fi,_,rfl,hinv w',(λ _ _=>trivial),?_⟩⟩;refine (hcall _).mono ?_;rintro e u' w3 ⟨⟨v,rfl⟩,rfl,rfl⟩;exact res σ2 g2 a' _ hf S2
          · refine Array.ext (hk2.2.1) fun i h1 h2 => ?_;have:=hk2.1 i (by simp);rw[rE,rE,Array.getElem?_eq_getElem h1,Array.getElem?_eq_getElem h2] at this;exact this
      · exact hv.elim
    · exact hv.elim
  · exact hv.elim
theorem zdb {aT:bW}{id:Nat}{σ s:St}{K:St->Prop}(h:(Cc P aT id σ).o=some s) (hK:K s):zhK P aT id K σ:=by
 unfold Cc at h;unfold zhK;split at h
 ·simp only[ae.opt_o h];exact hK
 ·cases ae.ok_o h;exact hK
theorem YZ {N:Nat}{fi:FuncId}{aT:bW}{K:Exit->St->Prop} : ∀ (c:Code) (dn:Bool) (σ s:St) (e:Exit),(nR P Γ N pr fi aT dn c σ).o=some (e,s)->K e s->wQ P Γ pr fi aT dn c K σ:=by
 have other:∀ (c:Code) (dn:Bool) (σ s:St) (e:Exit),(match wP aT.nt pr c with
   | some (x,y)=>match dn with
    | true=>(qL P Γ aT.nt (kP pr) 0 (kP pr).toList ⟨(y,.junk) :: (x,.junk) :: σ.env,σ.aB,[]⟩).mp λ s=>(Exit.ret,s)
    | false=>.no
   | none=>vcC P Γ N aT c σ).o=some (e,s)->K e s->(match wP aT.nt pr c with
   | some (x,y)=>match dn with
    | true=>iJ P Γ aT.nt (kP pr) 0 (kP pr).toList (K .ret) ⟨(y,.junk) :: (x,.junk) :: σ.env,σ.aB,[]⟩
    | false=>False
   | none=>vc P Γ aT c K σ):=by
  intro c dn σ s e h hK;split at h
  ·cases dn with
   | false=>exact (ae.no_o h).elim
   | true =>
    obtain⟨s1,h1,h2⟩:=ae.mp_o h;cases h2;exact su _ _ _ _ h1 hK
  ·exact Ua c _ _ _ _ h hK
 intro c
 induction c with
 | seq a b _ ihb =>
  intro dn σ s e h hK;simp only[nR] at h;simp only[wQ];split at h
  ·split at h
   ·obtain ⟨s1, h1, h2⟩ := ae.bind_o h;exact zdb h1 (ihb _ _ _ _ h2 hK)
   ·exact (ae.no_o h).elim
  ·obtain ⟨⟨e1, s1⟩, h1, h2⟩ := ae.bind_o h;refine Ua a _ _ _ _ h1 ?_;cases e1 with
   | normal=>exact ihb _ _ _ _ h2 hK
   | _=>cases ae.ok_o h2;exact hK
 | skip=>exact other .skip
 | region i o d=>exact other (.region i o d)
 | cond c a b=>exact other (.cond c a b)
 | block i b=>exact other (.block i b)
 | loop b=>exact other (.loop b)
 | rangeFunc f p a b=>exact other (.rangeFunc f p a b)
 | exit i=>exact other (.exit i)
 | scope b=>exact other (.scope b)
 | label l=>exact other (.label l)
 | goto l=>exact other (.goto l)
 | ret=>exact other .ret
 | refuse s=>exact other (.refuse s)
theorem zdc {T:Tabs}(hT:ay P T){f fi:FuncId}(hc:dA P f){N:Nat}{vv:List Nat}{aT:bW}(H:zof P pr fi):Ok P f (aD P (dh T vv) N pr fi aT f):=by
 intro args rs hr w h0 vs hvs hfz;have hv:MH P (dh T vv) pr fi aT f args λ rs'=>rs'=rs:=by
  unfold aD at hr;unfold MH;split at hr
  ·rename_i fn hfn;split at hr
   ·rename_i c hb;split at hr
    ·obtain ⟨⟨e, s⟩, h1, h2⟩ := ae.bind_o hr;refine YZ c _ _ _ _ h1 ?_;cases e with
     | normal=>simp only[Jv,Em,ae.opt_o h2]
     | ret=>simp only[Jv,Em,ae.opt_o h2]
     | _=>exact (ae.no_o h2).elim
    ·exact (ae.no_o hr).elim
   ·exact (ae.no_o hr).elim
  ·exact (ae.no_o hr).elim
 refine⟨hc,(zda (hT.all vv) H hv hvs hfz).mono ?_⟩;rintro e w' ⟨h',rs',v,rfl,he⟩;exact⟨h',v,he⟩
end
end Go.Pm
namespace Go.Pm
section
variable (P:Program) (Γ:aX){A:Type}
def sqD (f:St->Option A) (K:EK A):EK A:=λ e s=>match e with | .normal=>f s | e=>K e s
def xB (N : Nat) (pr : qN) (fi : FuncId) (aT : bW) : Bool → Code → EK A → St → Option A
  | dn,.seq a b,K,σ=>match sD pr fi a with
    | some (id,t)=>match Nat.blt t aT.nt && !dn && uf [pr.t1,pr.t2] (eY b) with
      | true=>(Cc P aT id ⟨(t,.junk) :: σ.env,σ.aB,[]⟩).T (xB N pr fi aT true b K)
      | false=>none
    | none=>uk P Γ N aT a (sqD (xB N pr fi aT dn b K) K) σ
  | dn,c,K,σ=>match wP aT.nt pr c with
    | some (x,y)=>match dn with
      | true=>(qL P Γ aT.nt (kP pr) 0 (kP pr).toList ⟨(y,.junk) :: (x,.junk) :: σ.env,σ.aB,[]⟩).T λ s=>K .ret s
      | false=>none
    | none=>uk P Γ N aT c K σ
def zog (N:Nat) (pr:qN) (fi:FuncId) (aT:bW) (f:FuncId) (K:List PA->Option A) (args:List PA):Option A :=
 match P.funcs[f]? with
 | some fn=>match fn.body with
  | some c=>match Nat.beq aT.nt fn.ntmps && Nat.ble args.length aT.nt && uf [rfS] (eY c) with
   | true=>xB P Γ N pr fi aT false c (Ud (λ s=>kJ P s fn.results.toList) K) ⟨gQ 0 args,[],[]⟩
   | false=>none
  | none=>none
 | none=>none
end
section
variable {P:Program}{Γ:aX}{A:Type}{N:Nat}{pr:qN}{fi:FuncId}{aT:bW}
theorem Y0:∀ (c:Code) (dn:Bool) (K:EK A) (σ:St),xB P Γ N pr fi aT dn c K σ=(nR P Γ N pr fi aT dn c σ).T λ r=>K r.1 r.2:=by
 intro c
 induction c with
 | seq a b _ ih =>
  intro dn K σ
  show (match sD pr fi a with
   | some (id,t)=>match Nat.blt t aT.nt && !dn && uf [pr.t1,pr.t2] (eY b) with
    | true=>(Cc P aT id ⟨(t,.junk) :: σ.env,σ.aB,[]⟩).T (xB P Γ N pr fi aT true b K)
    | false=>none
   | none=>uk P Γ N aT a (sqD (xB P Γ N pr fi aT dn b K) K) σ)=ae.T (match sD pr fi a with
   | some (id,t)=>match Nat.blt t aT.nt && !dn && uf [pr.t1,pr.t2] (eY b) with
    | true=>(Cc P aT id ⟨(t,.junk) :: σ.env,σ.aB,[]⟩).bind (nR P Γ N pr fi aT true b)
    | false=>.no
   | none=>(vcC P Γ N aT a σ).bind (sqC (nR P Γ N pr fi aT dn b))) λ r=>K r.1 r.2
  cases sD pr fi a with
  | some x =>
   obtain⟨id,t⟩:=x;simp only;cases Nat.blt t aT.nt && !dn && uf [pr.t1,pr.t2] (eY b) with
   | false=>rfl
   | true =>
    show (Cc P aT id _).T _=(Cc P aT id _).T _;congr 1;funext s;exact ih true K s
  | none =>
   simp only;rw[Md];show (vcC P Γ N aT a σ).T _=(vcC P Γ N aT a σ).T _;congr 1;funext r;obtain⟨e,s⟩:=r;cases e with
   | normal=>exact ih dn K s
   | _=>rfl
 | _ =>
  intro dn K σ;unfold xB nR;generalize wP aT.nt pr _=o;cases o with
  | none=>exact Md _ K σ
  | some x=>cases dn <;> rfl
theorem zhN {f:FuncId}{K:List PA->Option A}{args:List PA} : (aD P Γ N pr fi aT f args).T K=zog P Γ N pr fi aT f K args:=by
 unfold aD zog;cases P.funcs[f]? with
 | none=>rfl
 | some fn =>
  simp only;cases fn.body with
  | none=>rfl
  | some c =>
   simp only;cases Nat.beq aT.nt fn.ntmps && Nat.ble args.length aT.nt && uf [rfS] (eY c) with
   | false=>rfl
   | true =>
    simp only;rw[Y0];show (nR P Γ N pr fi aT false c _).T _=(nR P Γ N pr fi aT false c _).T _;congr 1;funext r;obtain⟨e,s⟩:=r;cases e with
    | normal=>simp only[Ud,ae.opt];cases kJ P s fn.results.toList <;> rfl
    | ret=>simp only[Ud,ae.opt];cases kJ P s fn.results.toList <;> rfl
    | _=>rfl
theorem zwS [aJ] {δ ρ:Type} [dw δ] [dw ρ] {f:FuncId}{x:δ}{k:ρ->Option A} : (ae.ty (aD P Γ N pr fi aT f) x:ae ρ).T k=zog P Γ N pr fi aT f (iH k) (dw.enc x):=by
 rw[<- zhN];show (aD P Γ N pr fi aT f (dw.enc x)).T _=_;congr 1
end
end Go.Pm
namespace Go.Pm
variable [aJ]
open Go.RowKit (Below)
section
variable {P:Program}
theorem zwT {h h3 : Fz} {K : List Nat} {w w2 : World} {B : Nat} {hx : Fz} (hK : ∀ b ∈ K, h b = none) (hw : Hw h w) (hle : iP (pinned h K w) h3) (hw3 : Hw h3 w2) (hb : tN hx B w w2) :
  ∃ h':Fz,(∀ p x,Rep h3 p x->Rep h' p x)/\(∀ b,h3 b=none->h' b=none/\(b∈K\/w.heap.size<=b))/\iP h h'/\Hw h' w2/\(∀ b o,h' b=some o->h b=some o\/w.heap.size<=b\/b∈K)/\Yj h K w w2:=by
 let h':Fz:=λ b=>match h3 b with | some (.pin _)=>h b | x=>x
 have hnp:∀ b o,h3 b=some o->(∀ x,o ≠ .pin x)->h' b=some o:=λ b o hb hx=>by
  show (match h3 b with | some (.pin _)=>h b | x=>x)=some o;rw[hb];cases o with
  | pin x=>exact (hx x rfl).elim
  | _=>rfl
 have hpn:∀ b x,h3 b=some (.pin x)->h' b=h b:=λ b x hb=>by
  show (match h3 b with | some (.pin _)=>h b | x=>x)=h b;rw[hb]
 have hnn:∀ b,h3 b=none->h' b=none:=λ b hb=>by
  show (match h3 b with | some (.pin _)=>h b | x=>x)=none;rw[hb]
 have pO:∀ b y,pinned h K w b=some y->h3 b=some y:=λ b y hb=>hle b y hb;have hlt:∀ b,b < w.heap.size->∃ o,w.heap[b]? = some o:=λ b hb=>⟨_,Array.getElem?_eq_getElem hb⟩;refine⟨h',(λ p x hr=>hr.mono' λ b o hb ho=>hnp b o hb λ x e=>by subst e;obtain⟨C,ty,fr,e⟩:=ho;cases e),λ b hb=>⟨hnn b hb,?_⟩,λ b x hb=>?_,λ b x hb=>?_,λ b x hb=>?_,⟨hb.os,hb.tape,hb.output,hb.size,hb.drawn,λ k hk hkK=>?_⟩⟩
 ·by_cases hbs : b < w.heap.size
  ·refine .inl ?_;rcases dK (h:=h) (K:=K) (w:=w) b with ⟨o,_,h2,_⟩ | ⟨h2,_⟩ | ⟨_,h2⟩
   ·have:=pO b _ h2;rw[hb] at this;cases this
   ·exact h2
   ·obtain ⟨o, ho⟩ := hlt b hbs;rw[ho] at h2;have:=pO b _ h2;rw[hb] at this;cases this
  ·exact .inr (by omega)
 ·rcases dK (h := h) (K := K) (w := w) b with ⟨o, h1, h2, h3'⟩ | ⟨h2, _⟩ | ⟨_, h2⟩
  ·rw [h1] at hb; simp only [bJ] at hb; subst hb;exact hnp b _ (pO b _ h2) λ x e=>by subst e;obtain⟨C,ty,fr,e⟩:=h3';cases e
  ·rw[hK b h2] at hb;cases hb
  ·obtain ⟨o, ho⟩ := hlt b (hw.lt hb);rw[ho] at h2;rw[hpn b _ (pO b _ h2)];exact hb
 ·cases h3b:h3 b with
  | none=>rw[hnn b h3b] at hb;cases hb
  | some y =>
   by_cases hy:∃ o,y=.pin o
   ·obtain ⟨o, rfl⟩ := hy;rw[hpn b _ h3b] at hb;rcases dK (h:=h) (K:=K) (w:=w) b with ⟨o',h1,h2,h3'⟩ | ⟨h2,_⟩ | ⟨_,h2⟩
    ·have := pO b _ h2;rw[h3b] at this;simp only[bJ] at this;subst this;obtain⟨C,ty,fr,e⟩:=h3';cases e
    ·rw[hK b h2] at hb;cases hb
    ·obtain ⟨o1, ho1, hx1⟩ := hw b x hb;rw[ho1] at h2;have:=pO b _ h2;rw[h3b] at this;simp only[bJ,OE.pin.injEq] at this;subst this;obtain⟨o2,ho2,hx2⟩:=hw3 b _ h3b;simp only[OE.ok] at hx2;subst hx2;exact⟨_,ho2,hx1⟩
   ·rw [hnp b y h3b fun x e => hy ⟨x, e⟩] at hb;simp only[bJ] at hb;subst hb;exact hw3 b _ h3b
 ·cases h3b:h3 b with
  | none=>rw[hnn b h3b] at hb;cases hb
  | some y =>
   by_cases hy:∃ o,y=.pin o
   ·obtain ⟨o, rfl⟩ := hy;rw[hpn b _ h3b] at hb;exact .inl hb
   ·rw [hnp b y h3b fun x e => hy ⟨x, e⟩] at hb;simp only[bJ] at hb;subst hb;by_cases hbs:b < w.heap.size
    ·rcases dK (h := h) (K := K) (w := w) b with ⟨o', h1, h2, h3'⟩ | ⟨h2, _⟩ | ⟨_, h2⟩
     ·have := pO b _ h2;rw[h3b] at this;simp only[bJ] at this;subst this;exact .inl h1
     ·exact .inr (.inr h2)
     ·obtain ⟨o, ho⟩ := hlt b hbs;rw[ho] at h2;have:=pO b _ h2;rw[h3b] at this;simp only[bJ] at this;exact (hy ⟨_,this⟩).elim
    ·exact .inr (.inl (by omega))
 ·rcases dK (h := h) (K := K) (w := w) k with ⟨o', h1, h2, h3'⟩ | ⟨h2, _⟩ | ⟨_, h2⟩
  ·obtain ⟨C, ty, fr, rfl⟩ := h3';rw[hw3.fz (pO k _ h2),hw.fz h1]
  ·exact (hkK h2).elim
  ·obtain ⟨o, ho⟩ := hlt k hk;rw[ho] at h2 ⊢;obtain⟨o2,ho2,hx2⟩:=hw3 k _ (pO k _ h2);simp only[OE.ok] at hx2;subst hx2;exact ho2
def MJ (az:List PA) (e s b n:Nat) (get:Nat->List PV):St:=⟨gQ 0 az ++ [(az.length,.cl (.vec 4095))],[(4095,.vec e s b n get)],[]⟩
theorem zdd {nt m : Nat} {az : List PA} {w : World} {h : Fz} {B : Nat} {vs : List Value} {v : Value} {e s b n : Nat} {get : Nat → List PV} (hnt : nt = m) (hlen : az.length + 1 ≤ nt) (hvs : RL (kL h) az vs) (hone : v.oneCell' = true) (hpos : pq get ∧ 0 < s)
    (hinfo:∃ i z,P.info? e=some i/\i.size=s/\i.bytes=b/\i.zero=some z/\z.cells.size=s) (hV:wB h w B e s v n get) (hK:∀ k,v.ownBlock=some k->B<=k/\h k=none) (hw:Hw h w) (hB:B<=w.heap.size) :
    bU P nt B w (pinned h v.ownBlock.toList w) ⟨pinned h v.ownBlock.toList w,λ _=>0,λ _=>v,λ _ _=>undef⟩ (MJ az e s b n get) { tmps:=(vs ++ [v]).toArray ++ Array.replicate (m - (vs ++ [v]).toArray.size) undef,defers:=[] } w:=by
  have hl:=hvs.length;have hlo:∀ L o,lk [(4095,AO.vec e s b n get)] L=some o->L=4095/\o=.vec e s b n get:=λ L o h=>by
    rw[aV] at h;split at h
    · rename_i e1;exact⟨e1.symm,(Option.some.inj h).symm⟩
    · cases h
  have htm:∀ t u,(vs ++ [v])[t]? = some u->((vs ++ [v]).toArray ++ Array.replicate (m - (vs ++ [v]).toArray.size) undef).getD t undef=u:=λ t u hu=>by
    have hlt:=(wW.1 hu).1;rw[rE,Array.getElem?_append_left (by simpa using hlt)];simp only[List.getElem?_toArray,hu,Option.getD_some]
  have henv:∀ t d,lk (MJ az e s b n get).env t=some d->(∃ x,az[t]? = some x/\d=.one (Dc x))\/(t=az.length/\d=.cl (.vec 4095)):=λ t d ht=>by
    have ht:lk (gQ 0 az ++ [(az.length,DV.cl (.vec 4095))]) t=some d:=ht;rw[fC] at ht;cases hk:lk (gQ 0 az) t with
    | some y =>
      rw[hk] at ht;cases ht;obtain⟨x,hx,_,e1⟩:=ny az 0 t d hk;exact .inl ⟨x,by simpa using hx,e1⟩
    | none =>
      rw[hk] at ht;simp only[aV] at ht;split at ht
      · rename_i e1;exact .inr ⟨e1.symm,(Option.some.inj ht).symm⟩
      · cases ht
  refine⟨Marks.nil _ _,by simp;omega,?_,?_,?_,?_,Ky hw,λ _ _ h=>h,λ b o h=>.inl h,tN.refl _ _ _,hB,?_,?_⟩
  · intro t d ht;rcases henv t d ht with ⟨x,hx,rfl⟩ | ⟨rfl,rfl⟩
    · obtain ⟨u, hu, hxu⟩ := hvs.get t x hx;rw[htm t u (by rw[List.getElem?_append_left (wW.1 hu).1];exact hu)];exact ET (g:=⟨pinned h v.ownBlock.toList w,λ _=>0,λ _=>v,λ _ _=>undef⟩) (rZ (λ p x hr=>rY hr) hxu)
    · rw [htm az.length v (by rw [hl]; simp)];exact⟨rfl,hone⟩
  · intro L o ho;obtain⟨rfl,rfl⟩:=hlo L o ho;obtain⟨xs,h1,h2⟩:=hV;exact⟨hpos,hinfo,xs,h1,λ i hi=>(h2 i hi).mono λ _ _ hr=>rY hr⟩
  · intro L o k ho hk;obtain⟨rfl,rfl⟩:=hlo L o ho;have hk:v.ownBlock=some k:=hk;refine⟨(hK k hk).1,?_⟩;show pinned h v.ownBlock.toList w k=none;rcases dK (h:=h) (K:=v.ownBlock.toList) (w:=w) k with ⟨o,h1,_⟩ | ⟨_,h2⟩ | ⟨h2,_⟩
    · rw[(hK k hk).2] at h1;cases h1
    · exact h2
    · exact (h2 (by rw[hk];simp)).elim
  · intro L o k L' o' ho ho' _ _;rw[(hlo L o ho).1,(hlo L' o' ho').1]
  · intro t d ht L hL;rcases henv t d ht with ⟨x,hx,rfl⟩ | ⟨rfl,rfl⟩
    · rw[show bY (.one (Dc x))=cZ (Dc x) from rfl,rQ] at hL;simp at hL
    · simp [bY, cZ, bi] at hL; subst hL;exact⟨_,by show lk [(4095,AO.vec e s b n get)] 4095=_;rw[aV,if_pos rfl]⟩
  · intro L o ho M hM;obtain⟨rfl,rfl⟩:=hlo L o ho;simp[dJ] at hM
def F8 (e s b:Nat) (fn:Func) (σ:St):Option (Nat×(Nat->List PV)):=match Qe fn e s b σ with | some (n,get,[])=>some (n,get) | _=>none
def aG (P:Program) (N:Nat) (Γ:aX) (aT:bW) (f:FuncId) (e s b:Nat) (az:List PA) (n:Nat) (get:Nat->List PV):ae (Nat×(Nat->List PV)) :=
 MB P N Γ aT f (az.length+1) (λ _=>true) (MJ az e s b n get) (F8 e s b)
theorem zde {e s b m:Nat}{fn:Func}{σ:St}{get:Nat->List PV}(h:F8 e s b fn σ=some (m,get)):∃ t L,fn.results = #[.tmp t]/\lk σ.env t=some (.one (.c (.vec L)))/\lk σ.aB L=some (.vec e s b m get):=by
 unfold F8 at h;split at h
 ·rename_i n g hk;cases h;unfold Qe at hk;split at hk
  ·rename_i t r hr;split at hk
   ·rename_i L hL;split at hk
    ·rename_i e' s' b' n' g' hO;split at hk
     ·rename_i hc;cases hk;simp only[fE] at hc;have e1:=jb hc.1;have e2:=jb hc.2.1;have e3:=jb hc.2.2;subst e1 e2 e3;exact⟨t,L,by rw[<- Array.toArray_toList (xs:=fn.results),hr],hL,hO⟩
     ·split at hk
      ·cases hk
      ·cases hk
     ·cases hk
    ·cases hk
   ·cases hk
  ·cases hk
 ·cases h
theorem zoh {G:aX}(hok:iE P G){N:Nat}{aT:bW}{f:FuncId}{e s b:Nat}(hc:dA P f):dX P f (.grow e s b (aG P N G aT f e s b)):=by
  intro w h base az vs v n get m get' hF hvs hone hpos hinfo hV hK hw hB;refine⟨hc,?_⟩;obtain⟨fn,c,hfn,hbody,hnt,_,hv⟩:=DD hF;simp only[fE,Nat.ble_eq] at hnt;have S:=zdd (P:=P) (jb hnt.1) hnt.2 hvs hone hpos hinfo hV hK hw hB;have hv:=hv (λ ex σ=>(match ex with | .normal=>True | .ret=>True | _=>False)/\F8 e s b fn σ=some (m,get')) (λ s hs=>⟨⟨trivial,hs⟩,⟨trivial,hs⟩⟩);have hwp:=FT (B:=base) (w0:=w) hok aT c none 0 (pinned h v.ownBlock.toList w) (eY c) _ _ _ _ _ _ (λ _ h=>h) (Rnd.none _) hv S (Kp.refl _ _);refine (callsIn_wide (n:=0)).1 ?_;refine callsIn_of_wp_marks (F:=FR none) hfn hbody trivial (wpIn_mono hwp ?_);have Su:∀ b,pinned h v.ownBlock.toList w b=some (.fz (.deferred (some [])))->b < base:=λ b hb=>by
    rcases dK (h:=h) (K:=v.ownBlock.toList) (w:=w) b with ⟨o,h1,h2,h3⟩ | ⟨_,h2⟩ | ⟨_,h2⟩
    · rw [h2] at hb; simp only [bJ] at hb; subst hb;obtain⟨C,ty,fr,e⟩:=h3;cases e
    · rw[h2] at hb;cases hb
    · rw [h2] at hb;obtain⟨o,_,e⟩:=RZ.1 hb;cases e
  rintro ex a' w' ⟨g',σ',⟨hex,hf⟩,S',hkp⟩;obtain⟨Ds,h1,h2,h3,h4⟩:=S'.dfr
  have fin:=vM (n:=0) (fn:=fn) (R:=λ r w'=>∃ (h':Fz) (v':Value),r=.returned v'/\v'.oneCell'=true/\pq get'/\wB h' w' base e s v' m get' /\
        (∀ k,v'.ownBlock=some k->(k∈v.ownBlock.toList\/w.heap.size<=k)/\h' k=none)/\iP h h'/\Hw h' w'/\(∀ b o,h' b=some o->h b=some o\/w.heap.size<=b\/b∈v.ownBlock.toList)/\Yj h v.ownBlock.toList w w')
    Su Ds g' a' w' h1 h2 h3 h4 S' λ g2 a2 w2 ht S2=>by
      obtain⟨t,L,hr,hL,hO⟩:=zde hf;have hrun:(results fn a2.tmps).run P w2=.ok (a2.tmps.getD t undef) w2:=by
        simp only[results,hr];simp
      obtain⟨htv,PE⟩:=S2.env t _ hL;obtain⟨zb7,_,ys,hys,hrr⟩:=S2.obj L _ hO;obtain⟨h',q1,q2,q3,q4,q5,q6⟩:=zwT (h:=h) (K:=v.ownBlock.toList) (w:=w) (λ b hb=>(hK b (by simpa using hb)).2) hw S2.le0 S2.hw S2.below;exact⟨_,hrun,h',_,rfl,PE,zb7.1,⟨ys,by rw[htv];exact hys,λ i hi=>(hrr i hi).mono λ p x hr=>q1 p x hr⟩,λ k hk=>(by
        have:=q2 k (S2.own L _ k hO (by rw[htv] at hk;exact hk)).2;exact⟨this.2,this.1⟩),q3,q4,q5,q6⟩
  cases ex with
  | normal=>exact fin
  | ret=>exact fin
  | exit id=>exact hex.elim
  | goto l=>exact hex.elim
  | panic ch=>exact hex.elim
  | outgrown=>exact hex.elim
theorem zoi {T:Tabs}(h:ay P T){f:FuncId}(hc:dA P f){N e s b:Nat}{vv:List Nat}{aT:bW} : dX P f (.grow e s b (aG P N (dh T vv) aT f e s b)):=zoh (h.all vv) hc
end
/-! The same of typed data. -/
section
variable {δ α A:Type} [dw δ] [bG α]
def ae.tyW (C:List PA->Nat->(Nat->List PV)->ae (Nat×(Nat->List PV))) (x:δ×Sl α):ae (Sl α):=(C (dw.enc x.1) x.2.len λ i=>bG.enc (x.2.get i)).bind λ r=>.chk (Jt (bG.ck (α:=α) (r.2 0))) (.ok ⟨r.1,λ i=>(bG.dec (r.2 i)).1⟩)
def ae.unW (F:δ×Sl α->ae (Sl α)) (az:List PA) (n:Nat) (get:Nat->List PV):ae (Nat×(Nat->List PV)):=.chk (dw.ck (α:=δ) az && Jt (bG.ck (α:=α) (get 0))) ((F (dw.dec az,⟨n,λ i=>(bG.dec (get i)).1⟩)).mp λ w=>(w.len,λ i=>bG.enc (w.get i)))
theorem zoj {P:Program}{f:FuncId}{e s b:Nat}{C:List PA->Nat->(Nat->List PV)->ae (Nat×(Nat->List PV))}(H:dX P f (.grow e s b C)):dX P f (.grow e s b (ae.unW (ae.tyW C:δ×Sl α->ae (Sl α)))):=by
 intro w h base az vs v n get m get' hr hvs hone hpos hinfo hV hK hw hB;obtain⟨h1,h2⟩:=ae.chk_o hr;rw[fE] at h1;obtain⟨w',h3,h4⟩:=ae.mp_o h2;obtain⟨⟨n',g'⟩,h5,h6⟩:=ae.bind_o h3;obtain⟨h7,h8⟩:=ae.chk_o h6;have h8:=ae.ok_o h8;subst h8;cases h4;obtain⟨hc,hk⟩:=H w h base _ vs v n _ _ _ h5 (dw.up hvs h1.1) hone ⟨λ _ _=>bG.sm _ _,hpos.2⟩ hinfo (hV.up (kU hpos.1 h1.2)) hK hw hB;refine⟨hc,hk.mono ?_⟩;rintro r w2 ⟨h',v',a1,a2,a3,a4,a5⟩;exact⟨h',v',a1,a2,λ _ _=>bG.sm _ _,a4.up (kU a3 h7),a5⟩
def zok (k:Sl α->Option A) (r:Nat×(Nat->List PV)):Option A:=match Jt (bG.ck (α:=α) (r.2 0)) with | true=>k ⟨r.1,λ i=>(bG.dec (r.2 i)).1⟩ | false=>none
theorem zwU {P : Program} {Γ : aX} {N : Nat} {aT : bW} {f : FuncId} {e s b : Nat} {x : δ × Sl α} {k : Sl α → Option A} :
  (ae.tyW (aG P N Γ aT f e s b) x).T k=zc0 P Γ N aT f ((dw.enc x.1).length+1) (λ _=>true) (MJ (dw.enc x.1) e s b x.2.len λ i=>bG.enc (x.2.get i)) (F8 e s b) (zok k):=by
 rw[<- MG];rfl
end
end Go.Pm
namespace Go.Pm
open Go Go.Proofs
variable [aJ]
set_option maxRecDepth 100000
theorem zhO:∀ caps:Array Value,caps.size=2->Bz Tryz.prog { target:=.fn (.func 177) caps,args:=#[] }:=λ caps hc=>by
 match caps,hc with
 | ⟨[x,y]⟩,_ =>
 refine⟨.func 177,#[x,y],177,#[x,y],rfl,λ w=>?_,λ n w=>?_⟩
 ·have h : dA Tryz.prog 177 := ⟨_, rfl, rfl, by kernel_rfl⟩;show (callFunc 177 (#[] ++ #[x,y])).run Tryz.prog w=_;exact dQ h
 have key:CallsDIn { fn:=λ _=>True,depth:=none,alive:=false,round:=none } n Tryz.prog 177 #[x,y] .returning w λ e u' w'=>e=.returned (.tuple #[])/\u'=.returning/\w'=w:=by
  refine callsDIn_of_wpSIn Tryz.func177 rfl trivial λ c₀ cs hu=>?_;apply wpSIn_seq;apply wpSIn_region;simp[wpOpsSIn,go_sem,recoverD,hu,Tryz.ntmps177,Exit.thenS];refine wpSIn_of_wpIn rfl (wpIn_block (wpIn_seq (wpIn_region ?_)));simp[wpOpsIn,go_sem,Oper.wpIn];refine wpIn_cond (t:=true) (by simp[Act.eval,Array.replicate]) ?_;simp only[if_true];refine wpIn_region ?_;simp[wpOpsIn,go_sem,Oper.wpIn,Exit.inBlock];cases c₀;simp_all [bodyPostS,results,Tryz.results177]
 exact key.mono λ e u' w' h=>⟨⟨_,h.1⟩,h.2⟩
abbrev zdf:qN:=⟨4,30,5,4,0,254,false⟩
theorem zdg:zof Tryz.prog zdf 177:=⟨zhO,(λ h=>by cases h),(λ h=>by cases h),λ h=>by cases h⟩
end Go.Pm
namespace Go.Pm
instance dz0:aJ:=⟨0⟩
end Go.Pm
namespace Go.Proofs
open Go Go.Pm
set_option maxRecDepth 100000
abbrev ax:=Tryz.prog
structure bZ where
  Low:Int
  High:Int
deriving Inhabited
instance:bG bZ:=bG.iso (α:=Int×Int) (λ ⟨x0,x1⟩=>⟨x0,x1⟩) (λ x=>(x.Low,x.High)) (λ _=>rfl)
instance:gu bZ:=.agg'
structure aQ where
  Time:Int
  dI:bZ
deriving Inhabited
instance:bG aQ:=bG.iso (α:=Int×bZ) (λ ⟨x0,x1⟩=>⟨x0,x1⟩) (λ x=>(x.Time,x.dI)) (λ _=>rfl)
instance:gu aQ:=.agg'
structure af where
  Kind:Int
  View:Int
  Z:Int
  First:Int
  aZ:Int
  bM:Int
  dC:Int
  bu:bZ
  Clock:bZ
  dH:Int
  Least:Int
  aQ:Sl aQ
  Dead:Sl Int
deriving Inhabited
instance:bG af:=bG.iso (α:=Int×Int×Int×Int×Int×Int×Int×bZ×bZ×Int×Int×Sl aQ×Sl Int) (λ ⟨x0,x1,x2,x3,x4,x5,x6,x7,x8,x9,x10,x11,x12⟩=>⟨x0,x1,x2,x3,x4,x5,x6,x7,x8,x9,x10,x11,x12⟩) (λ x=>(x.Kind,x.View,x.Z,x.First,x.aZ,x.bM,x.dC,x.bu,x.Clock,x.dH,x.Least,x.aQ,x.Dead)) (λ _=>rfl)
instance:gu af:=.agg'
structure au where
  aj:Sl af
deriving Inhabited
instance:bG au:=bG.iso (α:=Sl af) (λ x0=>⟨x0⟩) (λ x=>x.aj) (λ _=>rfl)
instance:gu au:=.agg'
structure bP where
  jL:Int
  kF:Int
deriving Inhabited
instance:bG bP:=bG.iso (α:=Int×Int) (λ ⟨x0,x1⟩=>⟨x0,x1⟩) (λ x=>(x.jL,x.kF)) (λ _=>rfl)
instance:gu bP:=.agg'
structure bC where
  af:Int
  Channel:Int
  iM:Int
  aQ:Int
  xO:Int
  Time:Int
deriving Inhabited
instance:bG bC:=bG.iso (α:=Int×Int×Int×Int×Int×Int) (λ ⟨x0,x1,x2,x3,x4,x5⟩=>⟨x0,x1,x2,x3,x4,x5⟩) (λ x=>(x.af,x.Channel,x.iM,x.aQ,x.xO,x.Time)) (λ _=>rfl)
instance:gu bC:=.agg'
structure ai where
  View:Int
  Hits:Sl Int
  bz:Sl Int
deriving Inhabited
instance:bG ai:=bG.iso (α:=Int×Sl Int×Sl Int) (λ ⟨x0,x1,x2⟩=>⟨x0,x1,x2⟩) (λ x=>(x.View,x.Hits,x.bz)) (λ _=>rfl)
instance:gu ai:=.agg'
structure aC where
  Z:Int
  Low:Int
  High:Int
deriving Inhabited
instance:bG aC:=bG.iso (α:=Int×Int×Int) (λ ⟨x0,x1,x2⟩=>⟨x0,x1,x2⟩) (λ x=>(x.Z,x.Low,x.High)) (λ _=>rfl)
instance:gu aC:=.agg'
structure aW where
  au:au
  hits:Sl bC
  kQ:Sl (Sl aC)
  rules:bP
deriving Inhabited
instance:bG aW:=bG.iso (α:=au×Sl bC×Sl (Sl aC)×bP) (λ ⟨x0,x1,x2,x3⟩=>⟨x0,x1,x2,x3⟩) (λ x=>(x.au,x.hits,x.kQ,x.rules)) (λ _=>rfl)
instance:gu aW:=.agg'
structure placed where
  af:af
  index:Int
deriving Inhabited
instance:bG placed:=bG.iso (α:=af×Int) (λ ⟨x0,x1⟩=>⟨x0,x1⟩) (λ x=>(x.af,x.index)) (λ _=>rfl)
instance:gu placed:=.agg'
structure found where
  aW:Pt aW
  fits:Sl ai
  lD:Sl ai
deriving Inhabited
instance:bG found:=bG.iso (α:=Pt aW×Sl ai×Sl ai) (λ ⟨x0,x1,x2⟩=>⟨x0,x1,x2⟩) (λ x=>(x.aW,x.fits,x.lD)) (λ _=>rfl)
instance:gu found:=.agg'
structure aS where
  Num:Int
  cO:Int
deriving Inhabited
instance:bG aS:=bG.iso (α:=Int×Int) (λ ⟨x0,x1⟩=>⟨x0,x1⟩) (λ x=>(x.Num,x.cO)) (λ _=>rfl)
instance:gu aS:=.agg'
structure Line where
  dM:aS
  Start:aS
deriving Inhabited
instance:bG Line:=bG.iso (α:=aS×aS) (λ ⟨x0,x1⟩=>⟨x0,x1⟩) (λ x=>(x.dM,x.Start)) (λ _=>rfl)
instance:gu Line:=.agg'
structure list where
  bI:Sl aC
deriving Inhabited
instance:bG list:=bG.iso (α:=Sl aC) (λ x0=>⟨x0⟩) (λ x=>x.bI) (λ _=>rfl)
instance:gu list:=.agg'
structure straight where
  bK:Int
  start:Int
  den:Int
deriving Inhabited
instance:bG straight:=bG.iso (α:=Int×Int×Int) (λ ⟨x0,x1,x2⟩=>⟨x0,x1,x2⟩) (λ x=>(x.bK,x.start,x.den)) (λ _=>rfl)
instance:gu straight:=.agg'
structure set where
  list:list
  cu:Sl straight
deriving Inhabited
instance:bG set:=bG.iso (α:=list×Sl straight) (λ ⟨x0,x1⟩=>⟨x0,x1⟩) (λ x=>(x.list,x.cu)) (λ _=>rfl)
instance:gu set:=.agg'
structure ML where
  zOZ:Int
  Hits:Sl Int
  aj:Sl Int
  zk2:ai
deriving Inhabited
instance:bG ML:=bG.iso (α:=Int×Sl Int×Sl Int×ai) (λ ⟨x0,x1,x2,x3⟩=>⟨x0,x1,x2,x3⟩) (λ x=>(x.zOZ,x.Hits,x.aj,x.zk2)) (λ _=>rfl)
instance:gu ML:=.agg'
structure zhP where
  X:Int
  Y:Int
deriving Inhabited
instance:bG zhP:=bG.iso (α:=Int×Int) (λ ⟨x0,x1⟩=>⟨x0,x1⟩) (λ x=>(x.X,x.Y)) (λ _=>rfl)
instance:gu zhP:=.agg'
structure Bin where
  View:Int
  Low:aS
  High:aS
deriving Inhabited
instance:bG Bin:=bG.iso (α:=Int×aS×aS) (λ ⟨x0,x1,x2⟩=>⟨x0,x1,x2⟩) (λ x=>(x.View,x.Low,x.High)) (λ _=>rfl)
instance:gu Bin:=.agg'
structure Tally where
  zO0:Int
  zga:Int
deriving Inhabited
instance:bG Tally:=bG.iso (α:=Int×Int) (λ ⟨x0,x1⟩=>⟨x0,x1⟩) (λ x=>(x.zO0,x.zga)) (λ _=>rfl)
instance:gu Tally:=.agg'
instance:qm Int:=⟨λ _=>rfl⟩
instance:qm Bool:=⟨λ _=>rfl⟩
instance:qm bZ:=⟨λ _=>rfl⟩
instance:qm aQ:=⟨λ _=>rfl⟩
instance:qm af:=⟨λ _=>rfl⟩
instance:qm au:=⟨λ _=>rfl⟩
instance:qm bP:=⟨λ _=>rfl⟩
instance:qm bC:=⟨λ _=>rfl⟩
instance:qm ai:=⟨λ _=>rfl⟩
instance:qm aC:=⟨λ _=>rfl⟩
instance:qm aW:=⟨λ _=>rfl⟩
instance:qm placed:=⟨λ _=>rfl⟩
instance:qm found:=⟨λ _=>rfl⟩
instance:qm aS:=⟨λ _=>rfl⟩
instance:qm Line:=⟨λ _=>rfl⟩
instance:qm list:=⟨λ _=>rfl⟩
instance:qm straight:=⟨λ _=>rfl⟩
instance:qm set:=⟨λ _=>rfl⟩
instance:qm ML:=⟨λ _=>rfl⟩
instance:qm zhP:=⟨λ _=>rfl⟩
instance:qm Bin:=⟨λ _=>rfl⟩
instance:qm Tally:=⟨λ _=>rfl⟩
end Go.Proofs
namespace Go.Pm
variable [aJ]
open Go Go.Deep

theorem zdh (b o i j:Nat):((⟨b,o,none⟩:Addr).add i).add j=⟨b,o+i+j,none⟩:=by
 simp only[Addr.add];by_cases h1:i=0
 ·subst h1;by_cases h2:j=0
  ·subst h2;rfl
  ·rw[if_neg h2];rfl
 ·rw [if_neg h1];by_cases h2:j=0
  ·subst h2;rfl
  ·rw[if_neg h2]
def H0 (w:World):Fz:=λ b=>(w.heap[b]?).map .fz
theorem zwV (w:World):Hw (H0 w) w:=by
 intro b x h;unfold H0 at h;cases e:w.heap[b]? with
 | none=>rw[e] at h;cases h
 | some o=>rw[e] at h;cases h;exact⟨o,rfl,rfl⟩
def wfI (x:Int):Prop:=-9223372036854775808<=x/\x<=9223372036854775807
class qo (α : Type) where
  wf:α->Prop
instance:qo Int:=⟨wfI⟩
instance:qo Bool:=⟨λ _=>True⟩
instance {α:Type} [qo α]:qo (Sl α):=⟨λ x=>x.len<=9223372036854775807/\∀ i,i < x.len->qo.wf (x.get i)⟩
section
variable {H:Type}{en:TypeId×Value->H}{P:Program}{w:World}{sp:Nat->Bool}{held:Bool}
def Rd (H:Type) (en:TypeId×Value->H) (P:Program) (w:World) (sp:Nat->Bool) (held:Bool) (t:TypeId) (α:Type) [bG α] [qo α]:Prop :=
 ∀ (fuel:Nat) (cs:List Value) (x:DataW H×List MemPlace),DataW.trod en P w 0 sp held fuel t cs=some x->∃ a:α,RL (Rep (H0 w)) (bG.enc a) cs/\qo.wf a
theorem Ui {t:TypeId}(ht:P.underlying t=some (.int .i64)):Rd H en P w sp held t Int:=by
 intro fuel cs x h;obtain⟨n,rfl,_,hw⟩:=DataW.trod_int ht h;refine⟨n,⟨.int _ _,trivial⟩,?_⟩;simp only[Lit.wf,fE,decide_eq_true_eq] at hw;exact⟨hw.1,hw.2⟩
theorem nz {t : TypeId} {fs : Array Field} (ht : P.underlying t = some (.struct fs)) {fuel : Nat} {cs : List Value} {x : DataW H × List MemPlace} (h : DataW.trod en P w 0 sp held fuel t cs = some x) :
  cs.length=P.cellsOf t/\∀ (i:Nat) (f:Field),fs[i]? = some f->∃ n y,DataW.trod en P w 0 sp held n f.type ((cs.drop f.offset).take (P.cellsOf f.type))=some y:=by
 obtain⟨xs,n,_,_,hl,hx,hf⟩:=DataW.trod_struct ht h;refine⟨hl,λ i f hi=>?_⟩;have hlt:i < xs.length:=by rw[hx];exact (RX.1 hi).1
 exact⟨n,xs[i],by rw[hf i f hi,zL hlt]⟩
theorem yM {t e : TypeId} {α : Type} [bG α] [qo α] [Inhabited α] {s : Nat} (ht : P.underlying t = some (.slice e)) (hc : P.cellsOf e = s) (he : s = (bG.enc (default : α)).length) (hs : 0 < s)
    (hel:Rd H en P w sp held e α):Rd H en P w sp held t (Sl α):=by
  have hlen:∀ a:α,(bG.enc a).length=s:=λ a=>by rw[he];exact (bG.sm a default).length
  intro fuel cs x h;rcases open_slice ht h with ⟨rfl,_⟩ | ⟨a,len,cap,m,n,D,Pl,rfl,_,hl,hm,hmm,_,hget⟩
  · exact⟨⟨0,λ _=>default⟩,⟨.sl0 _ _ (λ _ _=>bG.sm _ _),trivial⟩,Nat.zero_le _,λ i hi=>absurd hi (Si i)⟩
  · by_cases h0 : len = 0
    · subst h0;exact⟨⟨0,λ _=>default⟩,⟨.sle _ _ _ _ (λ _ _=>bG.sm _ _),trivial⟩,Nat.zero_le _,λ i hi=>absurd hi (Si i)⟩
    · have hlm : len ≤ m := by rw [hmm]; split <;> omega
      rw[hc] at hget;have hex:∀ i,i < len->∃ y:α,(∃ cs',w.cells? 0 (a.add (i * s)) s=some cs'/\RL (Rep (H0 w)) (bG.enc y) cs')/\qo.wf y:=by
        intro i hi;obtain⟨cs',h1,h2⟩:=hget i (by omega);obtain⟨y,h3,h4⟩:=hel _ _ _ h2;exact⟨y,⟨cs',h1,h3⟩,h4⟩
      have hch:∃ f:Nat->α,∀ i,i < len->(∃ cs',w.cells? 0 (a.add (i * s)) s=some cs'/\RL (Rep (H0 w)) (bG.enc (f i)) cs')/\qo.wf (f i):=by
        refine⟨λ i=>if hi:i < len then Classical.choose (hex i hi) else default,λ i hi=>?_⟩;simp only[dif_pos hi];exact Classical.choose_spec (hex i hi)
      obtain⟨f,hf⟩:=hch
      -- the block
      have hcell:∀ i,i < len->∀ j,j < s->∃ cs',w.cells? 0 (a.add (i * s)) s=some cs'/\RL (Rep (H0 w)) (bG.enc (f i)) cs'/\w.cell? ((a.add (i * s)).add j)=cs'[j]?/\cs'.length=s:=by
        intro i hi j hj;obtain⟨⟨cs',h1,h2⟩,_⟩:=hf i hi;obtain⟨_,h3,h4⟩:=World.cells?_some h1;exact⟨cs',h1,h2,h4 j hj,h3⟩
      obtain⟨cs0,_,_,hc0,hl0⟩:=hcell 0 (by omega) 0 hs;have ha0:w.cell? a=cs0[0]?:=by simpa [Addr.add] using hc0
      rw[zL (by omega)] at ha0;obtain⟨C,ty,fr,hblk,hspot⟩:∃ C ty fr,w.heap[a.block]? = some (.cells C ty fr)/\a.spot=none:=by
        unfold World.cell? at ha0;split at ha0
        · rename_i C ty fr hb;refine⟨C,ty,fr,hb,?_⟩;cases hsp:a.spot with
          | none=>rfl
          | some k=>rw[hsp] at ha0;simp at ha0
        · cases ha0
      have ea:a=⟨a.block,a.off,none⟩:=by rw[<- hspot]
      have hat:∀ i j,i < len->j < s->∃ cs',RL (Rep (H0 w)) (bG.enc (f i)) cs'/\C[a.off+i * s+j]? = cs'[j]?/\cs'.length=s:=by
        intro i j hi hj;obtain⟨cs',_,h2,h3,h4⟩:=hcell i hi j hj;refine⟨cs',h2,?_,h4⟩;rw[<- h3];have e2:(a.add (i * s)).add j=⟨a.block,a.off+i * s+j,none⟩:=(congrArg (λ z:Addr=>(z.add (i * s)).add j) ea).trans (zdh _ _ _ _);rw[e2];simp[World.cell?,hblk]
      refine⟨⟨len,f⟩,⟨?_,trivial⟩,by simp only[maxLen] at hm;show len<=_;omega,λ i hi=>(hf i hi).2⟩;rw[ea];show Rep (H0 w) (.sl len (bG.enc (default:α)).length (λ i=>bG.enc (f i))) _;rw[<- he];refine .sl len s _ (λ _ _=>bG.sm _ _) a.block a.off cap C ty fr (λ i j=>C.getD (a.off+i * s+j) undef) (by simp[H0,hblk]) hl (λ i _=>hlen _) ?_ ?_
      · intro i j x hi hx;have hj:j < s:=by have:=(wW.1 hx).1;rw[hlen] at this;exact this
        obtain⟨cs',h1,h2,h3⟩:=hat i j hi hj;rw[rE,h2,zL (by omega)];rfl
      · intro i j x hi hx;have hj:j < s:=by have:=(wW.1 hx).1;rw[hlen] at this;exact this
        obtain⟨cs',h1,h2,h3⟩:=hat i j hi hj;obtain⟨v,hv,hr⟩:=h1.get j x hx;rw[rE,h2,hv];exact hr
theorem dF {α:Type}(l:List α) (o s:Nat):l.drop o=(l.drop o).take s ++ l.drop (o+s):=by
 rw[<- List.drop_drop];exact (List.take_append_drop s (l.drop o)).symm
theorem F9 {t:TypeId}{fs:Array Field}{r:Reach}{base:Nat}{v:Value}(ht:P.underlying t=some (.struct fs)) (h:Value.okWide P w r base t v):∃ cs,v=.agg cs:=by
 unfold Value.okWide at h;rw[ht] at h;obtain⟨cs,hv,_⟩:=h;exact⟨cs,hv⟩
def zwW : TypeDesc → Bool
  | .struct _=>false
  | .array _ _=>false
  | _=>true
theorem xC {t:TypeId}{d:TypeDesc}{r:Reach}{base:Nat}{v:Value}(ht:P.underlying t=some d) (hd:zwW d=true) (h:Value.okWide P w r base t v):v.cells.toList=[v]:=by
 unfold Value.okWide at h;rw[ht] at h;cases v with
 | agg cs =>
  exfalso;cases d <;> first | (cases hd;done) | (simp only[Cell.okWide,Cell.ok,ht] at h)
 | _=>rfl
theorem Uj {h:Fz}{p:PV}{v:Value}(hv:v.cells.toList=[v]) (r:RL (Rep h) [p] v.cells.toList):kL h (.one p) v:=by
 rw[hv] at r;exact r.1
theorem zdi {h:Fz}{l:List PV}{v:Value}(hv:∃ cs,v=.agg cs) (r:RL (Rep h) l v.cells.toList):kL h (.agg l) v:=by
 obtain⟨cs,rfl⟩:=hv;exact⟨cs.toList,by simp,r⟩
theorem zdj {w':World}(b:tN (H0 w) w.heap.size w w'):Go.RowKit.Below w.heap.size w w' :=
 ⟨b.os,b.tape,b.output,b.size,λ k hk=>b.block k hk⟩
end
end Go.Pm
