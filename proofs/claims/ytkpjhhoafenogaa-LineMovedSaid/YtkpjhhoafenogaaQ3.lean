/- Part 3 of what the proof rests on: a machine that runs functions of the program on pure values, proved sound; the functions that the law reaches, and what they compute. -/
import Derived.Test.YtkpjhhoafenogaaQ2
import Derived.OrdersIn
import Derived.RangeFuncNested
import Derived.Maps.RangeRun
set_option linter.all false
namespace Go.Pm
open Go.RowKit (Below)

section
variable {P:Program} {Γ:Ctrs} {nt B:Nat} {w0:World} {h0:Fz} {g:Gh} {σ:St} {a:Act} {w:World} {r:Option Nat} {n i:Nat} {Q:Exit→Act→World→Prop} {ops:Array Oper}

theorem zur {K:St→Prop} (hK:∀ σ τ,Eqv σ τ→K σ→K τ):∀ (l:List Oper) (i:Nat) (σ:St),(∀ j,l[j]? = ops[i+j]?)→ze8 P Γ nt ops i l K σ→vcL P Γ nt ops (List.range' i l.length) K σ:=by
 intro l
 induction l with
 | nil=>intro i σ _ h;exact h
 | cons o l ih =>
  intro i σ hl h
  have ho:ops[i]? = some o:=by have:=hl 0;simpa using this.symm
  have hl':∀ j,l[j]? = ops[i+1+j]?:=fun j=>by have:=hl (j+1);rw [List.getElem?_cons_succ] at this;rw [this];congr 1;omega
  rw [List.length_cons,List.range'_succ]
  simp only [ze8] at h
  split at h
  ·exact h.elim
  ·rename_i hd
   have one:∀ τ:St,ze9 ops τ.env o=some true→zff (act P Γ o (evO τ.env) (lk τ.objs)) (zi6 τ i o) i o.dst (ze8 P Γ nt ops (i+1) l K) τ→vcL P Γ nt ops (i :: List.range' (i+1) l.length) K τ:=by
    intro τ hw hv
    simp only [vcL,ho]
    have e1:zme P Γ nt ops τ o=act P Γ o (evO τ.env) (lk τ.objs):=by unfold zme;rw [hd,hw]
    have e2:lgG ops τ i o=zi6 τ i o:=by funext fp kl;unfold lgG;rw [hw]
    rw [e1,e2]
    rw [zde] at hv ⊢
    exact ⟨hv.1,fun d hd=>ih (i+1) _ hl' (hv.2 d hd)⟩
   have two:∀ τ:St,ze9 ops τ.env o=some false→ze8 P Γ nt ops (i+1) l K (τ.skip o.dst)→vcL P Γ nt ops (i :: List.range' (i+1) l.length) K τ:=by
    intro τ hw hv
    simp only [vcL,ho]
    have e1:zme P Γ nt ops τ o=.val [] (.cl .undef) [] []:=by unfold zme;rw [hd,hw]
    have e2:lgG ops τ i o=fun _ _=>[]:=by funext fp kl;unfold lgG;rw [hw]
    rw [e1,e2]
    change vcL P Γ nt ops (List.range' (i+1) l.length) K ((τ.upd i o.dst [] (.cl .undef) [] []).relog [])
    have e3:(τ.upd i o.dst [] (.cl .undef) [] []).relog []=τ.skip o.dst:=by cases o.dst <;> rfl
    rw [e3]
    exact ih (i+1) _ hl' hv
   split at h
   ·rename_i hg
    exact one σ (by unfold ze9;rw [hg]) h
   ·rename_i j want hg
    split at h
    ·exact h.elim
    ·rename_i gt hgt
     have wt:∀ b,ze9 ops (σ.setT gt (.bool b)).env o=some (b == want):=fun b=>by
      unfold ze9
      rw [hg]
      simp only [hgt]
      rw [show lk (σ.setT gt (.bool b)).env gt=some (.bool b) by simp [St.setT,zal]]
     split at h
     ·rename_i b hb
      have eq:∀ c,b=c→Eqv (σ.setT gt (.bool c)) σ:=fun c hc=>⟨fun t=>by
       simp only [St.setT,zal]
       split
       ·rename_i e;subst e;rw [hb,hc]
       ·rfl,fun _=>rfl,fun _=>Iff.rfl⟩
      have h2:=zgF.1 h
      refine zm0 hK _ _ _ (eq b rfl) ?_
      cases b with
      | true =>
       have h3:=h2.1 rfl
       cases want with
       | true=>exact one _ (wt true) h3
       | false=>exact two _ (wt true) h3
      | false =>
       have h3:=h2.2 rfl
       cases want with
       | true=>exact two _ (wt false) h3
       | false=>exact one _ (wt false) h3
     ·rename_i hb
      refine two σ ?_ h
      unfold ze9
      rw [hg]
      simp only [hgt]
      rw [hb]
     ·exact h.elim

theorem zIs (hok : OkAll P Γ) {K : St → Prop} {l : List Nat} {R : Act → World → Prop} {D : List Nat} {a0 : Act} {ad : List Deferred} (hD : ∀ (j : Nat) (o : Oper), ops[j]? = some o → ∀ t, o.dst = some t → t ∈ D)
    (hv:vcL P Γ nt ops (i :: l) K σ) (S:Sim P nt B w0 h0 g σ a w) (hkp:Kp D a0 a) (had:a.defers=ad)
    (hR:∀ σ' g' a' w',vcL P Γ nt ops l K σ'→Sim P nt B w0 h0 g' σ' a' w'→Kp D a0 a'→a'.defers=ad→R a' w'):wpOpIn (FR r) n P ops Q i R a w:=by
  simp only [vcL] at hv
  unfold wpOpIn
  split at hv
  · rename_i ho
    rw [ho]
    exact hR σ g a w hv S hkp had
  · rename_i o ho
    rw [ho]
    simp only
    obtain ⟨hs,hk⟩:=zjd.1 hv
    have wnt:∀ b,ze9 ops σ.env o=some b→Region.wanted o (yielded ops a.tmps)=b:=by
      intro b hw
      unfold ze9 at hw
      split at hw
      · rename_i hg
        simp only [Option.some.injEq] at hw;subst hw
        simp [Region.wanted,hg]
      · rename_i j want hg
        split at hw
        · cases hw
        · rename_i gt hgt
          split at hw
          · rename_i c hb
            simp only [Option.some.injEq] at hw;subst hw
            have hvv:a.tmps.getD gt undef=.bool c:=by
              have:=S.env gt _ hb
              generalize a.tmps.getD gt undef=v at this
              cases this;rfl
            simp [Region.wanted,hg,zix hgt hvv]
          · rename_i hb
            simp only [Option.some.injEq] at hw;subst hw
            have hvv:a.tmps.getD gt undef=undef:=S.env gt _ hb
            simp [Region.wanted,hg,zgV hgt hvv]
          · cases hw
    generalize hA:zme P Γ nt ops σ o=A at hs hk
    have hA':=hA
    unfold zme at hA
    split at hA
    · rename_i hd hw
      rw [if_pos (wnt true hw)]
      refine zjB (zCx (zjl (i:=i) (Q:=Q) (r:=r) (n:=n) hok S hd hA hs)) ?_
      rintro a' w' ⟨⟨hdf,g',σ',hst,S'⟩,v,ds,rfl⟩
      exact hR _ g' _ w' (hk σ' hst) (S'.log _) (hkp.put (hD i o ho) v ds) (hdf.trans had)
    · rename_i hd hw
      rw [if_neg (by rw [wnt false hw];simp)]
      refine ⟨fun _ _=>trivial,?_⟩
      subst hA
      refine hR _ g _ w (hk _ rfl) ?_ (hkp.put (hD i o ho) undef a.defers) ((put_defers _ _ _).trans had)
      have:=S.skip hd
      have e:(σ.upd i o.dst [] (.cl .undef) [] [])=σ.skip o.dst:=by cases o.dst <;> rfl
      rw [e]
      exact this.log _
    · subst hA;exact hs.elim

theorem zoU {K : St → Prop} {i : Nat} {oi : Oper} {l2 : List Nat} (hi : ops[i]? = some oi) (hE : ∀ σ τ, Eqv σ τ → K σ → K τ) {R : List (Nat × Nat × Nat) → Prop} (hR : ∀ l m, (∀ x ∈ l, x ∈ m) → R m → R l) (hK : ∀ σ, K σ → R σ.log) :
  ∀ (l1:List Nat) (σ:St),(∀ p∈l1,(∀ log,R log→zjA log p i)∧∀ op,ops[p]? = some op→zoo ops op oi=false) →
   vcL P Γ nt ops (l1 ++ i :: l2) K σ→vcL P Γ nt ops (i :: (l1 ++ l2)) K σ
 | [],σ,_,h=>h
 | p :: l1,σ,hp,h=>by
  have h1:vcL P Γ nt ops (p :: i :: (l1 ++ l2)) K σ:=zgU (fun σ h=>zoU hi hE hR hK l1 σ (fun q hq=>hp q (List.mem_cons_of_mem _ hq)) h) h
  obtain ⟨hN,hT⟩:=hp p List.mem_cons_self
  cases hop:ops[p]? with
  | none =>
   have e:∀ l σ,vcL P Γ nt ops (p :: l) K σ↔vcL P Γ nt ops l K σ:=fun l σ=>by simp only [vcL,hop]
   have h2:=(e _ _).1 h1
   exact zgU (fun τ h=>(e _ _).2 h) h2
  | some op =>
   exact zA0 hop hi (hT op hop) (fun τ τ' he hv=>zm0 hE _ _ _ he hv) (fun τ hv=>hN _ (zqi hR hK _ _ hv)) h1

theorem zjC {ms:List Nat} {S:Nat→Prop} {p:Nat} : ∀ (es:List Edge),(∀ e∈es,Region.binds .any e=true→S e.on) →
  (∀ k m,ms[k]? = some m→S k→m.testBit p=true→S p)→(zi7 ms es).testBit p=true→S p
 | [],_,_,h=>by simp [zi7] at h
 | e :: r,he,hm,h=>by
  have ih:=zjC (ms:=ms) (p:=p) r (fun e' h'=>he e' (List.mem_cons_of_mem _ h')) hm
  simp only [zi7] at h
  split at h
  ·rename_i m hb hms
   have hS:=he e List.mem_cons_self hb
   rw [Nat.testBit_or,Nat.testBit_or,Bool.or_eq_true,Bool.or_eq_true] at h
   rcases h with (h | h) | h
   ·rw [Nat.testBit_two_pow] at h
    have:e.on=p:=of_decide_eq_true h
    rw [← this];exact hS
   ·exact hm _ _ hms hS h
   ·exact ih h
  ·exact ih h

theorem zmi {S:Nat→Prop} {p:Nat} (hcl:∀ (k:Nat) (o:Oper),ops[k]? = some o→S k→∀ e∈o.after,Region.binds .any e=true→S e.on):∀ (l:List Oper) (ms:List Nat),(∀ j,l[j]? = ops[ms.length+j]?) →
  (∀ (k:Nat) (o:Oper) (m:Nat),ops[k]? = some o→ms[k]? = some m→(∀ e∈o.after,Region.binds .any e=true→S e.on)→m.testBit p=true→S p) →
  ∀ (k:Nat) (o:Oper) (m:Nat),ops[k]? = some o→(masks l ms)[k]? = some m→(∀ e∈o.after,Region.binds .any e=true→S e.on)→m.testBit p=true→S p
 | [],ms,_,h=>h
 | o :: r,ms,hl,h=>by
  have ho:ops[ms.length]? = some o:=by have:=hl 0;simpa using this.symm
  simp only [masks]
  refine zmi hcl r (ms ++ [zi7 ms o.after.toList]) (fun j=>by have:=hl (j+1);rw [List.getElem?_cons_succ] at this;rw [this,List.length_append];congr 1;simp;omega) ?_
  intro k ok m hk hm he hb
  rw [List.getElem?_append] at hm
  split at hm
  ·exact h k ok m hk hm he hb
  ·rename_i hlt
   have hk':k=ms.length:=by
    rcases Nat.lt_or_ge k (ms.length+1) with h1 | h1
    ·omega
    ·rw [List.getElem?_eq_none (by simp;omega)] at hm;cases hm
   subst hk'
   rw [ho] at hk
   simp only [Option.some.injEq] at hk;subst hk
   simp only [Nat.sub_self,List.getElem?_cons_zero,Option.some.injEq] at hm
   subst hm
   refine zjC _ (fun e h'=>he e (by simpa using h')) (fun k' m' hm' hS hb'=>?_) hb
   have hlt':k' < ms.length:=by
    rcases Nat.lt_or_ge k' ms.length with h1 | h1
    ·exact h1
    ·rw [List.getElem?_eq_none h1] at hm';cases hm'
   cases hok:ops[k']? with
   | some ok'=>exact h k' ok' m' hok hm' (hcl k' ok' hok hS) hb'
   | none =>
    have hlen:ms.length < ops.size:=by
     rcases Nat.lt_or_ge ms.length ops.size with h1 | h1
     ·exact h1
     ·rw [Array.getElem?_eq_none h1] at ho;cases ho
    rw [Array.getElem?_eq_none_iff] at hok;omega

def ziE (ms:List Nat) (log:List (Nat×Nat×Nat)):Prop:=zmA ms log=true
theorem ziE.sub {ms:List Nat} (l m:List (Nat×Nat×Nat)) (h:∀ x∈l,x∈m) (hm:ziE ms m):ziE ms l:=by
 simp only [ziE,zmA,List.all_eq_true] at hm ⊢
 exact fun x hx y hy=>hm x (h x hx) y (h y hy)
theorem ziE.no {ms:List Nat} {log:List (Nat×Nat×Nat)} (h:ziE ms log) {p i:Nat} (hpi:p < i) (hb:∀ m,ms[i]? = some m→m.testBit p=false):zjA log p i:=by
 intro L k m h1 h2
 simp only [ziE,zmA,List.all_eq_true] at h
 have:=h _ h1 _ h2
 simp only [Bool.or_eq_true,Bool.not_eq_true'] at this
 rcases this with ((h3 | h3) | h3) | h3
 ·rw [show Nat.blt p i=true from by simpa [Nat.blt_eq] using hpi] at h3;cases h3
 ·rw [show Nat.beq L L=true from by simp] at h3;cases h3
 ·exact h3
 ·split at h3
  ·rename_i m' hm';rw [hb m' hm'] at h3;cases h3
  ·cases h3

def unl (ops:Array Oper) (listed:Array Bool):List Nat:=(List.range ops.size).filter fun k=>!listed.getD k true

theorem zjD {listed:Array Bool} : i∈Region.ready .any ops listed↔i∈unl ops listed∧∃ o,ops[i]? = some o∧∀ e∈o.after,Region.binds .any e=true→listed.getD e.on false=true:=by
 simp only [Region.ready,unl,List.mem_filter,Bool.and_eq_true]
 constructor
 ·rintro ⟨h1, h2, h3⟩
  refine ⟨⟨h1,h2⟩,?_⟩
  cases ho:ops[i]? with
  | none=>rw [ho] at h3;simp at h3
  | some o =>
   rw [ho] at h3
   simp only [Option.map_some,Option.getD_some,Array.all_eq_true_iff_forall_mem,Bool.or_eq_true,Bool.not_eq_true'] at h3
   refine ⟨o,rfl,fun e he hb=>?_⟩
   rcases h3 e he with h | h
   ·rw [hb] at h;cases h
   ·exact h
 ·rintro ⟨⟨h1, h2⟩, o, ho, h3⟩
  refine ⟨h1,h2,?_⟩
  rw [ho]
  simp only [Option.map_some,Option.getD_some,Array.all_eq_true_iff_forall_mem,Bool.or_eq_true,Bool.not_eq_true']
  intro e he
  cases hb:Region.binds .any e with
  | false=>exact .inl rfl
  | true=>exact .inr (h3 e he hb)

theorem zsV {listed:Array Bool} {i k:Nat} {b:Bool} : (listed.setIfInBounds i true).getD k b=if k=i∧k < listed.size then true else listed.getD k b:=by
 rw [Array.getD_eq_getD_getElem?,Array.getD_eq_getD_getElem?,Array.getElem?_setIfInBounds]
 by_cases h:i=k
 ·subst h
  by_cases hs:i < listed.size
  ·simp [hs]
  ·simp [hs]
 ·rw [if_neg h,if_neg (by omega)]

theorem zD4 {listed:Array Bool} (hsz:listed.size=ops.size):unl ops (listed.setIfInBounds i true)=(unl ops listed).filter fun k=>!(k == i):=by
 unfold unl
 rw [List.filter_filter]
 refine List.filter_congr fun k hk=>?_
 have hk:=List.mem_range.1 hk
 rw [zsV]
 by_cases h:k=i
 ·subst h;rw [if_pos ⟨rfl,by omega⟩];simp
 ·rw [if_neg (fun h'=>h h'.1)];simp [h]

theorem zD5 (hok : OkAll P Γ) {K : St → Prop} {D : List Nat} {a0 : Act} {ad : List Deferred} (hD : ∀ (j : Nat) (o : Oper), ops[j]? = some o → ∀ t, o.dst = some t → t ∈ D) (hE : ∀ σ τ, Eqv σ τ → K σ → K τ) (hlow : zAw ops = true) (hT : zsq ops (masks ops.toList []) = true)
    (hL:∀ σ,K σ→ziE (masks ops.toList []) σ.log) (hQ:∀ σ',K σ'→∀ g' a' w',Sim P nt B w0 h0 g' σ' a' w'→Kp D a0 a'→a'.defers=ad→Q .normal a' w') :
    ∀ (fuel:Nat) (listed:Array Bool) (σ:St) (g:Gh) (a:Act) (w:World),listed.size=ops.size→(unl ops listed).length≤fuel →
      (∀ k o,ops[k]? = some o→listed.getD k false=true→∀ e∈o.after,Region.binds .any e=true→listed.getD e.on false=true) →
      vcL P Γ nt ops (unl ops listed) K σ→Sim P nt B w0 h0 g σ a w→Kp D a0 a→a.defers=ad→wpAnyIn (FR r) n P .any ops Q fuel listed a w:=by
  -- if nothing is ready, nothing is left
  have stuck:∀ listed:Array Bool,Region.ready .any ops listed=[]→unl ops listed=[]:=by
    intro listed hr
    cases hu:unl ops listed with
    | nil=>rfl
    | cons i rest =>
      exfalso
      have hi:i∈unl ops listed:=by rw [hu];exact List.mem_cons_self
      have hsz:i < ops.size:=List.mem_range.1 (List.mem_filter.1 hi).1
      have hsort:(unl ops listed).Pairwise (· < ·):=List.Pairwise.filter _ List.pairwise_lt_range
      have:i∈Region.ready .any ops listed:=by
        refine zjD.2 ⟨hi,ops[i],Array.getElem?_eq_getElem hsz,fun e he hb=>?_⟩
        simp only [zAw,List.all_eq_true] at hlow
        have h1:=hlow i (List.mem_range.2 hsz)
        rw [Array.getElem?_eq_getElem hsz] at h1
        simp only [List.all_eq_true,Bool.or_eq_true,Bool.not_eq_true'] at h1
        have h2:e.on < i:=by
          rcases h1 e (by simpa using he) with h | h
          · rw [hb] at h;cases h
          · simpa [Nat.blt_eq] using h
        cases hl:listed.getD e.on false with
        | true=>rfl
        | false =>
          exfalso
          have hmem:e.on∈unl ops listed∨listed.getD e.on true=true:=by
            cases hl2:listed.getD e.on true with
            | true=>exact .inr rfl
            | false=>exact .inl (List.mem_filter.2 ⟨List.mem_range.2 (by omega),by rw [hl2];rfl⟩)
          rw [hu] at hmem hsort
          rcases hmem with hmem | hmem
          · rcases List.mem_cons.1 hmem with h | h
            · omega
            · have:=(List.pairwise_cons.1 hsort).1 _ h;omega
          · -- then it lies outside
            rw [Array.getD_eq_getD_getElem?] at hl hmem
            have hout:listed[e.on]? = none:=by
              cases hx:listed[e.on]? with
              | none=>rfl
              | some b=>rw [hx] at hl hmem;simp at hl hmem;rw [hl] at hmem;cases hmem
            have hi2:listed.getD i true=true:=by
              rw [Array.getElem?_eq_none_iff] at hout
              rw [Array.getD_eq_getD_getElem?,Array.getElem?_eq_none (by omega)];rfl
            have:=(List.mem_filter.1 hi).2
            rw [hi2] at this;cases this
      rw [hr] at this;simp at this
  intro fuel
  induction fuel with
  | zero =>
    intro listed σ g a w hsz hf hcl hv S hkp had
    have hnil:unl ops listed=[]:=List.eq_nil_of_length_eq_zero (by omega)
    refine ⟨?_,?_⟩
    · cases hr:Region.ready .any ops listed with
      | nil=>rfl
      | cons i l =>
        have:=(zjD (i:=i) (ops:=ops) (listed:=listed)).1 (by rw [hr];exact List.mem_cons_self)
        rw [hnil] at this;simp at this
    · rw [hnil] at hv
      exact hQ σ hv g a w S hkp had
  | succ fuel ih =>
    intro listed σ g a w hsz hf hcl hv S hkp had
    refine ⟨fun hr=>?_,fun i hi=>?_⟩
    · have hnil := stuck listed hr
      rw [hnil] at hv
      exact hQ σ hv g a w S hkp had
    · obtain ⟨hu, oi, hoi, hed⟩ := zjD.1 hi
      have hil:i < ops.size:=List.mem_range.1 (List.mem_filter.1 hu).1
      have hsort:(unl ops listed).Pairwise (· < ·):=List.Pairwise.filter _ List.pairwise_lt_range
      obtain ⟨l1,l2,hl⟩:=List.append_of_mem hu
      rw [hl] at hsort hv
      have hlt:∀ p∈l1,p < i:=fun p hp=>(List.pairwise_append.1 hsort).2.2 p hp i List.mem_cons_self
      have hgt:∀ p∈l2,i < p:=fun p hp=>(List.pairwise_cons.1 (List.pairwise_append.1 hsort).2.1).1 p hp
      have hset:unl ops (listed.setIfInBounds i true)=l1 ++ l2:=by
        rw [zD4 hsz,hl,List.filter_append,List.filter_cons]
        rw [if_neg (by simp),List.filter_eq_self.2 fun p hp=>by have:=hlt p hp;simp;omega,List.filter_eq_self.2 fun p hp=>by have:=hgt p hp;simp;omega]
      have bits:∀ p∈l1,∀ m,(masks ops.toList [])[i]? = some m→m.testBit p=false:=by
        intro p hp m hm
        cases hb:m.testBit p with
        | false=>rfl
        | true =>
          exfalso
          have:=zmi (S:=fun k=>listed.getD k false=true) (p:=p) (ops:=ops) (fun k o ho hS=>hcl k o ho hS) ops.toList [] (fun j=>by simp) (fun k o m _ hm=>by simp at hm) i oi m hoi hm hed hb
          have hpu:p∈unl ops listed:=by rw [hl];exact List.mem_append.2 (.inl hp)
          have h2:=(List.mem_filter.1 hpu).2
          rw [Array.getD_eq_getD_getElem?] at this h2
          cases hx:listed[p]? with
          | none=>rw [hx] at this;simp at this
          | some b=>rw [hx] at this h2;simp at this h2;rw [this] at h2;cases h2
      have hfront:=zoU hoi hE (R:=ziE (masks ops.toList [])) ziE.sub hL l1 σ (fun p hp=>⟨fun log hlog=>hlog.no (hlt p hp) (bits p hp),fun op hop=>?_⟩) hv
      · refine zIs hok hD hfront S hkp had fun σ' g' a' w' hv' S' hkp' had' => ?_
        refine ih (listed.setIfInBounds i true) σ' g' a' w' (by simpa using hsz) ?_ ?_ ?_ S' hkp' had'
        · rw [hset]
          rw [hl] at hf
          simp only [List.length_append,List.length_cons] at hf ⊢
          omega
        · intro k o hk hlk e he hb
          rw [zsV] at hlk ⊢
          split at hlk
          · rename_i hki
            rw [hki.1,hoi] at hk
            simp only [Option.some.injEq] at hk;subst hk
            have:=hed e he hb
            split
            · rfl
            · exact this
          · have := hcl k o hk hlk e he hb
            split
            · rfl
            · exact this
        · rw [hset];exact hv'
      · simp only [zsq, List.all_eq_true] at hT
        have h1:=hT i (List.mem_range.2 hil) p (List.mem_range.2 (hlt p hp))
        rw [hop,hoi] at h1
        cases hm:(masks ops.toList [])[i]? with
        | none=>rw [hm] at h1;simp at h1
        | some m =>
          rw [hm] at h1
          simp only [Bool.or_eq_true,Bool.not_eq_true'] at h1
          rcases h1 with h | h
          · exact h
          · rw [bits p hp m hm] at h;cases h

theorem Sim.drew (S:Sim P nt B w0 h0 g σ a w):Sim P nt B w0 h0 g σ a { w with drawn:=w.drawn+1 }:=by
 refine { S with obj:=fun L o h=>?_,below:=?_,hw:=S.hw,bs:=S.bs }
 ·have := S.obj L o h
  cases o <;> exact this
 ·exact S.below.drew

theorem zus (hok : OkAll P Γ) {K : St → Prop} {D : List Nat} {a0 : Act} (hD : ∀ (j : Nat) (o : Oper), ops[j]? = some o → ∀ t, o.dst = some t → t ∈ D) (hkp : Kp D a0 a) (hm : P.follows .mixedOrders = true) (hlow : zAw ops = true) (hT : zsq ops (masks ops.toList []) = true) (hE : ∀ σ τ, Eqv σ τ → K σ → K τ)
    (h:ze8 P Γ nt ops 0 ops.toList (fun σ'=>match zmA (masks ops.toList []) σ'.log with
      | true=>K σ'
      | false=>False) σ) (S:Sim P nt B w0 h0 g σ a w)
    (hQ:∀ σ',K σ'→∀ g' a' w',Sim P nt B w0 h0 g' σ' a' w'→Kp D a0 a'→a'.defers=a.defers→Q .normal a' w') {id:Nat} : (Code.region id ops true).wpIn (FR r) n P Q a w:=by
  refine wpIn_region_any hm ?_
  have hE':∀ σ τ:St,Eqv σ τ→(match zmA (masks ops.toList []) σ.log with | true=>K σ | false=>False)→(match zmA (masks ops.toList []) τ.log with | true=>K τ | false=>False):=by
    intro σ τ he hσ
    split at hσ
    · rename_i hl
      have:ziE (masks ops.toList []) τ.log:=ziE.sub _ _ (fun x hx=>(he.log x).2 hx) hl
      rw [show zmA (masks ops.toList []) τ.log=true from this]
      exact hE σ τ he hσ
    · exact hσ.elim
  have hun:unl ops (Array.replicate ops.size false)=List.range ops.size:=by
    unfold unl
    refine List.filter_eq_self.2 fun k hk=>?_
    have:=List.mem_range.1 hk
    simp [Array.getD_eq_getD_getElem?,this]
  refine zD5 hok hD (K:=fun σ'=>match zmA (masks ops.toList []) σ'.log with | true=>K σ' | false=>False) hE' hlow hT (fun σ hσ=>?_) (fun σ' hσ=>?_) ops.size _ σ g a _ (by simp) ?_ ?_ ?_ S.drew hkp rfl
  · split at hσ
    · assumption
    · exact hσ.elim
  · split at hσ
    · exact hQ σ' hσ
    · exact hσ.elim
  · rw [hun];simp
  · intro k o _ hk
    rw [Array.getD_eq_getD_getElem?] at hk
    by_cases hks:k < ops.size
    · simp [hks] at hk
    · rw [Array.getElem?_eq_none (by simp;omega)] at hk;simp at hk
  · rw [hun]
    have:=zur hE' ops.toList 0 σ (fun j=>by simp) h
    rw [List.range_eq_range']
    simpa using this
end
end Go.Pm
namespace Go.Pm
open Go.RowKit (Below)

def zCy (h h':Fz):Prop:=∀ b o,h b=some o→(∃ C ty fr,o=.fz (.cells C ty fr))∨(∃ F,o=.inv F)∨(∃ es c,o=.fz (.map es c))→h' b=some o
theorem Fle.c {h h':Fz} (hl:Fle h h'):zCy h h':=fun b o hb _=>hl b o hb

section
variable {P:Program} {Γ:Ctrs} {nt B:Nat} {w0:World} {h0:Fz} {g:Gh} {σ:St} {a:Act} {w:World} {r:Option Nat} {n i:Nat} {Q:Exit→Act→World→Prop}

abbrev Gh.re (g:Gh) (h:Fz):Gh:=⟨h,g.bk,g.sv,g.iv⟩

theorem zCz {h:Fz} (hl:zCy g.h h) {c:Cl} {x:Value} (hc:clR g c x):clR (g.re h) c x:=by
 cases c with
 | p v=>exact Rep.mono' hl hc
 | _=>exact hc
theorem zIt {h:Fz} (hl:zCy g.h h):∀ {cs:List Cl} {vs:List Value},RL (clR g) cs vs→RL (clR (g.re h)) cs vs:=fun hc=>hc.mono fun _ _=>zCz hl
theorem zCA {h:Fz} (hl:zCy g.h h) {d:D1} {x:Value} (hd:d1R g d x):d1R (g.re h) d x:=by
 cases d with
 | c y=>exact zCz hl hd
 | agg cs=>obtain ⟨vs,rfl,hr⟩:=hd;exact ⟨vs,rfl,zIt hl hr⟩
theorem zvD {h:Fz} (hl:zCy g.h h) {d:DV} {x:Value} (hd:dvR g d x):dvR (g.re h) d x:=by
 cases d with
 | one y=>exact zCA hl hd
 | tup ds=>obtain ⟨vs,rfl,hr⟩:=hd;exact ⟨vs,rfl,hr.mono fun _ _=>zCA hl⟩
theorem zvE {h:Fz} (hl:zCy g.h h) {L:Nat} {o:AO} (ho:aoR P g w B L o):aoR P (g.re h) w B L o:=by
 cases o with
 | box ty cs=>obtain ⟨C,hC,hr⟩:=ho;exact ⟨C,hC,zIt hl hr⟩
 | fbox cs=>obtain ⟨C,ty,fr,hC,hr⟩:=ho;exact ⟨C,ty,fr,hl _ _ hC (.inl ⟨_,_,_,rfl⟩),hr.mono fun _ _=>Rep.mono' hl⟩
 | vec e s b n get=>obtain ⟨h1,h2,xs,hx,hr⟩:=ho;exact ⟨h1,h2,xs,hx,fun i hi=>(hr i hi).mono fun _ _=>Rep.mono' hl⟩
 | fvec s n get=>exact ⟨Rep.mono' hl ho.1,ho.2⟩
 | vv te bb e s b n ln get =>
  obtain ⟨h1,h2,h3,h4,h5,h6⟩:=ho
  exact ⟨h1,h2,h3,h4,fun i hi=>by obtain ⟨h7,xs,hx,hr⟩:=h5 i hi;exact ⟨h7,xs,hx,fun j hj=>(hr j hj).mono fun _ _=>Rep.mono' hl⟩,h6⟩
 | mo kt vt q n F=>exact ho
 | vm te bb kt vt q n mk nn F=>exact ho
 | mit q n F seen =>
  rcases ho with h1 | ⟨m,es,clock,sb,en,h1,h2⟩
  ·exact .inl h1
  ·exact .inr ⟨m,es,clock,sb,en,hl _ _ h1 (.inr (.inr ⟨_,_,rfl⟩)),h2⟩
 | gone=>trivial

def Fz.add (h:Fz) (b:Nat) (o:Obj):Fz:=fun k=>if k=b then some (.fz o) else h k
def Fz.del (h:Fz) (b:Nat):Fz:=fun k=>if k=b then none else h k
theorem Fz.add_same {h:Fz} {b:Nat} {o:Obj} : h.add b o b=some (.fz o):=if_pos rfl
theorem Fz.add_other {h:Fz} {b k:Nat} {o:Obj} (hk:k ≠ b):h.add b o k=h k:=if_neg hk
theorem Fz.del_same {h:Fz} {b:Nat} : h.del b b=none:=if_pos rfl
theorem Fz.del_other {h:Fz} {b k:Nat} (hk:k ≠ b):h.del b k=h k:=if_neg hk
theorem Fz.le_add {h:Fz} {b:Nat} {o:Obj} (hb:h b=none):Fle h (h.add b o):=fun k x hk=>by
 rw [Fz.add_other (fun e=>by subst e;rw [hb] at hk;cases hk)];exact hk

theorem Sim.hide (S : Sim P nt B w0 h0 g σ a w) {b : Nat} {o : Obj} (hb : g.h b = none) (hw : w.heap[b]? = some o) (hB : B ≤ b) (hno : ∀ L o, lk σ.objs L = some o → ¬ obk g L o b) :
  Sim P nt B w0 (h0.add b o) (g.re (g.h.add b o)) σ a w:=by
 have hle:=Fz.le_add (o:=o) hb
 have h0b:h0 b=none:=by
  cases h:h0 b with
  | none=>rfl
  | some x=>rw [S.le0 b x h] at hb;cases hb
 refine ⟨S.dfr.mono hle,S.size,fun t d ht=>zvD hle.c (S.env t d ht),fun L x hL=>zvE hle.c (S.obj L x hL),fun L x k hL hk=>?_,S.sep,?_,?_,?_,?_,S.bs,S.clE,S.clO⟩
 ·obtain ⟨h1, h2⟩ := S.own L x k hL hk
  refine ⟨h1,?_⟩
  show g.h.add b o k=none
  rw [Fz.add_other (fun e=>hno L x hL (by rw [← e];exact hk))];exact h2
 ·intro k x hk
  by_cases h:k=b
  ·subst h
   have hk:g.h.add k o k=some x:=hk
   rw [Fz.add_same] at hk;simp only [Option.some.injEq] at hk;subst hk
   exact ⟨o,hw,rfl⟩
  ·have hk : g.h.add b o k = some x := hk
   rw [Fz.add_other h] at hk;exact S.hw k x hk
 ·intro k x hk
  show g.h.add b o k=some x
  by_cases h:k=b
  ·subst h;rw [Fz.add_same] at hk ⊢;exact hk
  ·rw [Fz.add_other h] at hk ⊢;exact S.le0 k x hk
 ·intro k x hk
  have hk:g.h.add b o k=some x:=hk
  by_cases h:k=b
  ·exact .inr (h ▸ hB)
  ·rw [Fz.add_other h] at hk ⊢;exact S.hn k x hk
 ·exact ⟨S.below.os,S.below.tape,S.below.output,S.below.size,S.below.drawn,fun k hk hn=>S.below.block k hk fun F hF=>by
   refine hn F ?_
   rw [Fz.add_other (fun e=>by subst e;rw [h0b] at hF;cases hF)];exact hF⟩

theorem Sim.unhide {b : Nat} {o : Obj} (S : Sim P nt B w0 (h0.add b o) g σ a w) (hB : B ≤ b) (h0b : h0 b = none) (hc : o.isCells = false) (hm : ∀ ds, o ≠ .deferred ds) (hmm : ∀ es c, o ≠ .map es c) :
  g.h b=some (.fz o)∧(∀ L x,lk σ.objs L=some x→¬ obk g L x b)∧w.heap[b]? = some o∧Sim P nt B w0 h0 (g.re (g.h.del b)) σ a w:=by
 have hb:g.h b=some (.fz o):=S.le0 b _ Fz.add_same
 have hl:zCy g.h (g.h.del b):=fun k x hk hx=>by
  rw [Fz.del_other];exact hk
  intro e;subst e;rw [hb] at hk;simp only [Option.some.injEq] at hk;subst hk
  rcases hx with ⟨C,ty,fr,hx⟩ | ⟨F,hx⟩ | ⟨es,c,hx⟩
  ·cases hx;cases hc
  ·cases hx
  ·cases hx;exact hmm _ _ rfl
 have hwb:w.heap[b]? = some o:=S.hw.fz hb
 refine ⟨hb,(fun L x hL hk=>by (have:=(S.own L x b hL hk).2;rw [hb] at this;cases this)),hwb,?_⟩
 refine ⟨?_,S.size,fun t d ht=>zvD hl (S.env t d ht),fun L x hL=>zvE hl (S.obj L x hL),fun L x k hL hk=>?_,S.sep,?_,?_,?_,?_,S.bs,S.clE,S.clO⟩
 ·obtain ⟨Ds, h1, h2, h3⟩ := S.dfr
  refine ⟨Ds,h1,h2,fun D hD=>⟨(h3 D hD).1,?_⟩⟩
  show g.h.del b D=_
  rw [Fz.del_other];exact (h3 D hD).2
  intro e;subst e
  have:=(h3 D hD).2
  rw [hb] at this;simp only [Option.some.injEq,FzO.fz.injEq] at this
  exact hm _ this
 ·obtain ⟨h1, h2⟩ := S.own L x k hL hk
  refine ⟨h1,?_⟩
  show g.h.del b k=none
  unfold Fz.del
  split
  ·rfl
  ·exact h2
 ·intro k x hk
  have hk:g.h.del b k=some x:=hk
  unfold Fz.del at hk
  split at hk
  ·cases hk
  ·exact S.hw k x hk
 ·intro k x hk
  have hkb:k ≠ b:=fun e=>by subst e;rw [h0b] at hk;cases hk
  show g.h.del b k=some x
  rw [Fz.del_other hkb]
  exact S.le0 k x (by rw [Fz.add_other hkb];exact hk)
 ·intro k x hk
  have hk:g.h.del b k=some x:=hk
  by_cases h:k=b
  ·exact .inr (h ▸ hB)
  ·rw [Fz.del_other h] at hk
   rcases S.hn k x hk with h1 | h1
   ·rw [Fz.add_other h] at h1;exact .inl h1
   ·exact .inr h1
 ·exact ⟨S.below.os,S.below.tape,S.below.output,S.below.size,S.below.drawn,fun k hk hn=>S.below.block k hk fun F hF=>by
   by_cases h:k=b
   ·omega
   ·rw [Fz.add_other h] at hF;exact hn F hF⟩

theorem Sim.putObj (S:Sim P nt B w0 h0 g σ a w) {b:Nat} (o:Obj) (hb:g.h b=none) (hB:B≤b) (hno:∀ L x,lk σ.objs L=some x→¬ obk g L x b):Sim P nt B w0 h0 g σ a (w.putObj b o):=by
  have hne:∀ k,k ≠ b→(w.putObj b o).heap[k]? = w.heap[k]?:=fun k hk=>World.putObj_heap_other hk
  refine S.change (g' := g) (objs' := σ.objs) (fun L _ _ => zcO.refl g L) (fun _ _ h => h) (S.hw.same fun k x hk => hne k fun e => by subst e; rw [hb] at hk; cases hk) (fun _ _ h => .inl h)
    ⟨rfl,rfl,rfl,by simp,Nat.le_refl _,fun k hk _=>hne k (by omega)⟩ ?_ S.own S.sep (fun L o h=>⟨o,h⟩) S.clO
  intro L x hL
  exact zcj (S.obj L x hL) (zcO.refl g L) (fun M _=>zcO.refl g M) (fun _ _ h=>h) fun k hk=>hne k fun e=>by subst e;exact hno L x hL hk

theorem Sim.act (S:Sim P nt B w0 h0 g σ a w) {a':Act} (hd:Marks B g.h a'.defers) (hs:nt≤a'.tmps.size) (he:∀ t d,lk σ.env t=some d→dvR g d (a'.tmps.getD t undef)):Sim P nt B w0 h0 g σ a' w :=
 ⟨hd,hs,he,S.obj,S.own,S.sep,S.hw,S.le0,S.hn,S.below,S.bs,S.clE,S.clO⟩

theorem Sim.envs (S : Sim P nt B w0 h0 g σ a w) {env : List (Nat × DV)} (he : ∀ t d, lk env t = some d → dvR g d (a.tmps.getD t undef)) (hl : ∀ t d, lk env t = some d → ∀ L ∈ zaS d, ∃ o, lk σ.objs L = some o)
    (l:List (Nat×Nat×Nat)):Sim P nt B w0 h0 g ⟨env,σ.objs,l⟩ a w :=
  ⟨S.dfr,S.size,he,S.obj,S.own,S.sep,S.hw,S.le0,S.hn,S.below,S.bs,hl,S.clO⟩

theorem fold_size : ∀ (l : List (Nat × Value)) (t : Array Value), (l.foldl (fun t (p, v) => t.setIfInBounds p v) t).size = t.size
  | [],t=>rfl
  | (p,v) :: l,t=>by rw [List.foldl_cons,fold_size l];simp
theorem zmj : ∀ (l : List (Nat × Value)) (t : Array Value) (k : Nat), (∀ x ∈ l, x.1 ≠ k) → (l.foldl (fun t (p, v) => t.setIfInBounds p v) t).getD k undef = t.getD k undef
  | [],t,k,_=>rfl
  | (p,v) :: l,t,k,h=>by
    rw [List.foldl_cons,zmj l _ k fun x hx=>h x (List.mem_cons_of_mem _ hx)]
    have hp:p ≠ k:=h (p,v) List.mem_cons_self
    simp [Array.getD_eq_getD_getElem?,Array.getElem?_setIfInBounds_ne hp]

theorem zvF (nt0:Nat):∀ (ps:List Nat) (ys:List PA) (us:List Value) (e env:List (Nat×DV)) (t:Array Value),zgI ps ys e=some env→RL (paR g.h) ys us→(∀ p∈ps,p < t.size) →
  (∀ k d,lk e k=some d→dvR g d (t.getD k undef)) →
  us.length=ps.length∧∀ k d,lk env k=some d→dvR g d (((ps.zip us).foldl (fun t (p,v)=>t.setIfInBounds p v) t).getD k undef)
 | [],[],us,e,env,t,h,hr,_,he=>by
  simp only [zgI,Option.some.injEq] at h;subst h
  cases us with
  | nil=>exact ⟨rfl,he⟩
  | cons=>exact hr.elim
 | p :: ps,y :: ys,[],e,env,t,h,hr,_,he=>hr.elim
 | p :: ps,y :: ys,u :: us,e,env,t,h,hr,hp,he=>by
  simp only [zgI] at h
  have hlt:=hp p List.mem_cons_self
  obtain ⟨h1,h2⟩:=zvF nt0 ps ys us _ env (t.setIfInBounds p u) h hr.2 (fun q hq=>by have:=hp q (List.mem_cons_of_mem _ hq);simpa using this) (fun k d hk=>by
   rw [zal] at hk
   split at hk
   ·rename_i e1
    simp only [Option.some.injEq] at hk;subst hk;subst e1
    rw [show (t.setIfInBounds p u).getD p undef=u by simp [Array.getD_eq_getD_getElem?,hlt]]
    exact zAK hr.1
   ·rename_i e1
    have:=he k d hk
    rw [show (t.setIfInBounds p u).getD k undef=t.getD k undef by simp [Array.getD_eq_getD_getElem?,Array.getElem?_setIfInBounds_ne e1]]
    exact this)
  exact ⟨by simp [h1],h2⟩
 | [],_ :: _,_,_,_,_,h,_,_,_=>by simp [zgI] at h
 | _ :: _,[],_,_,_,_,h,_,_,_=>by simp [zgI] at h
theorem zoV : ∀ (ps : List Nat) (ys : List PA) (e env : List (Nat × DV)), zgI ps ys e = some env → ∀ k d, lk env k = some d → lk e k = some d ∨ zaS d = []
  | [],[],e,env,h,k,d,hk=>by simp only [zgI,Option.some.injEq] at h;subst h;exact .inl hk
  | p :: ps,y :: ys,e,env,h,k,d,hk=>by
    simp only [zgI] at h
    rcases zoV ps ys _ env h k d hk with h1 | h1
    · rw [zal] at h1
      split at h1
      · simp only [Option.some.injEq] at h1;subst h1;exact .inr (zmT y)
      · exact .inl h1
    · exact .inr h1
  | [],_ :: _,_,_,h,_,_,_=>by simp [zgI] at h
  | _ :: _,[],_,_,h,_,_,_=>by simp [zgI] at h

theorem Sim.up (S:Sim P nt B w0 h0 g σ a w):Sim P nt B w0 g.h g σ a w :=
 ⟨S.dfr,S.size,S.env,S.obj,S.own,S.sep,S.hw,fun _ _ h=>h,fun _ _ h=>.inl h,
  ⟨S.below.os,S.below.tape,S.below.output,S.below.size,S.below.drawn,fun k hk hn=>S.below.block k hk fun F hF=>hn F (S.le0 k _ hF)⟩,S.bs,S.clE,S.clO⟩
theorem Sim.down {h1:Fz} (S:Sim P nt B w0 h1 g σ a w) (hl:Fle h0 h1) (hn:∀ b o,h1 b=some o→h0 b=some o∨B≤b):Sim P nt B w0 h0 g σ a w :=
 ⟨S.dfr,S.size,S.env,S.obj,S.own,S.sep,S.hw,fun b o h=>S.le0 b o (hl b o h),fun b o h=>by
   rcases S.hn b o h with h | h
   ·exact hn b o h
   ·exact .inr h,
  ⟨S.below.os,S.below.tape,S.below.output,S.below.size,S.below.drawn,fun k hk hx=>S.below.block k hk fun F hF=>by
   rcases hn k _ hF with h | h
   ·exact hx F h
   ·omega⟩,S.bs,S.clE,S.clO⟩

theorem zjE {k:Keep} {σ s:St} (h:canon P k σ=some s):∀ t d,lk s.env t=some d→t∈k.tmps:=by
 unfold canon at h
 split at h
 ·unfold zi8 at h
  split at h
  ·cases h
  split at h
  ·cases h
  split at h
  ·cases h
  simp only [] at h
  split at h
  ·simp only [Option.some.injEq] at h
   subst h
   intro t d ht
   obtain ⟨_,_,_,h1⟩:=zc7 ht
   exact h1
  ·cases h
 ·cases h

def Rnd (r:Option Nat) (h0:Fz):Prop:=∀ l,r=some l→∃ rec:Loop,h0 l=some (.fz (.loop rec))
theorem Rnd.none (h0:Fz):Rnd none h0:=fun l h=>by cases h

theorem zm1 (S : Sim P nt B w0 h0 g σ a w) (hR : Rnd r h0) (fn : FuncId) (ps : Array Tmp) (x y : Code) :
  ∃ (l:Nat) (mark:List Deferred) (w1:World) (d:Nat) (h1:Fz),(Instr.enterLoop fn a.tmps ps x y r).run P w=.ok (l,mark) w1∧w.heap.size≤l ∧
   w1.heap[l]? = some (.loop { state:=.ready,pending:=none,fn,tmps:=a.tmps,params:=ps, assign:=x,body:=y,defers:=d })∧Fle g.h h1∧h1 l=none ∧
   Sim P nt B w0 h0 (g.re h1) σ { a with defers:=mark ++ a.defers } w1:=by
 have hnone:∀ k,w.heap.size≤k→g.h k=none:=fun k hk=>by
  cases h:g.h k with
  | none=>rfl
  | some x=>exact absurd (zf9 S.hw h) (by omega)
 cases r with
 | none =>
  have hb0:g.h w.heap.size=none:=hnone _ (Nat.le_refl _)
  have hw1:((w.alloc (.deferred (some []))).alloc (.loop { state:=.ready,pending:=none,fn,tmps:=a.tmps,params:=ps, assign:=x,body:=y,defers:=w.heap.size })).heap[w.heap.size]? = some (.deferred (some [])):=by
   exact (Below.heap_alloc _ _ _ (by simp)).trans (World.alloc_heap_new w _)
  have hbel:Below w.heap.size w ((w.alloc (.deferred (some []))).alloc (.loop { state:=.ready,pending:=none,fn,tmps:=a.tmps,params:=ps, assign:=x,body:=y,defers:=w.heap.size })) :=
   ((Below.refl _ w).alloc (Nat.le_refl _) _).alloc (by simp) _
  have S1:=S.world (h':=g.h.add w.heap.size (.deferred (some []))) (Fz.le_add hb0) (fun k z hk=>by
    by_cases h:k=w.heap.size
    ·subst h;rw [Fz.add_same] at hk;simp only [Option.some.injEq] at hk;subst hk;exact ⟨_,hw1,rfl⟩
    ·rw [Fz.add_other h] at hk
     obtain ⟨o,h1,h2⟩:=S.hw k z hk
     exact ⟨o,by rw [hbel.block k (S.hw.lt hk)];exact h1,h2⟩)
   (fun k z hk=>by
    by_cases h:k=w.heap.size
    ·exact .inr (by omega)
    ·rw [Fz.add_other h] at hk;exact .inl hk) (.of ⟨hbel,Nat.le_refl _⟩)
  refine ⟨w.heap.size+1,[{ target:=.collected w.heap.size,args:=#[] }],_,w.heap.size,g.h.add w.heap.size (.deferred (some [])),run_enterLoop_outer fn a.tmps ps x y,by omega,?_,Fz.le_add hb0,?_,?_⟩
  ·have := World.alloc_heap_new (w.alloc (.deferred (some []))) (.loop { state := .ready, pending := none, fn, tmps := a.tmps, params := ps, assign := x, body := y, defers := w.heap.size })
   rwa [World.size_alloc] at this
  ·rw [Fz.add_other (by omega)];exact hnone _ (by omega)
  ·refine S1.act ?_ S1.size S1.env
   obtain ⟨Ds,h1,h2,h3⟩:=S.dfr
   refine ⟨w.heap.size :: Ds,List.nodup_cons.2 ⟨fun hm=>?_,h1⟩,by simp [h2],fun D hD=>?_⟩
   ·have:=zf9 S.hw (h3 _ hm).2;omega
   ·rcases List.mem_cons.1 hD with rfl | hD
    ·exact ⟨S.bs,Fz.add_same⟩
    ·exact ⟨(h3 D hD).1,Fz.le_add hb0 _ _ (h3 D hD).2⟩
 | some l0 =>
  obtain ⟨rec,hrec⟩:=hR l0 rfl
  have hl0:w.heap[l0]? = some (.loop rec):=S.hw.fz (S.le0 _ _ hrec)
  have hbel:Below w.heap.size w (w.alloc (.loop { state:=.ready,pending:=none,fn,tmps:=a.tmps,params:=ps, assign:=x,body:=y,defers:=rec.defers })):=(Below.refl _ w).alloc (Nat.le_refl _) _
  have S1:=S.world (h':=g.h) (fun _ _ h=>h) (S.hw.same fun k z hk=>hbel.block k (S.hw.lt hk)) (fun _ _ h=>.inl h) (.of ⟨hbel,Nat.le_refl _⟩)
  exact ⟨w.heap.size,[],_,rec.defers,g.h,run_enterLoop_inner hl0 fn a.tmps ps x y,Nat.le_refl _,World.alloc_heap_new w _,fun _ _ h=>h,hnone _ (Nat.le_refl _),S1⟩
end
end Go.Pm
namespace Go.Pm
open Go.RowKit (Below)

theorem zm2 : ∀ {n : Nat} {K : List Int → Prop}, zK4 n K ↔ ∀ l, l.length = n → K l
  | 0,K=>⟨fun h l hl=>by rw [List.eq_nil_of_length_eq_zero hl];exact h,fun h=>h [] rfl⟩
  | n+1,K=>by
    simp only [zK4]
    constructor
    · intro h l hl
      cases l with
      | nil=>simp at hl
      | cons x l=>exact zm2.1 (h x) l (by simpa using hl)
    · intro h x
      exact zm2.2 fun l hl=>h (x :: l) (by simp [hl])

theorem zjF {c : List Int} : ∀ {en : List (List Int × List Int)}, zd3 c en ≠ none → ∃ (j : Nat) (v : List Int), en[j]? = some (c, v)
  | [],h=>by simp [zd3] at h
  | (k,v) :: r,h=>by
    simp only [zd3] at h
    split at h
    · rename_i e;subst e;exact ⟨0,v,rfl⟩
    · obtain ⟨j,u,hj⟩:=zjF h;exact ⟨j+1,u,by simpa using hj⟩

section
variable {P:Program} {Γ:Ctrs} {nt B:Nat} {w0:World} {h0:Fz} {g:Gh} {σ:St} {a:Act} {w:World} {r:Option Nat} {n i:Nat} {Q:Exit→Act→World→Prop}

theorem zoW {b:Nat} {ty:TypeId} (h:w.heap[b]? = some (.mapIter none 0 #[] 0)):(Instr.next (.pointer (some ⟨b,0,none⟩)) false ty).run P w=.ok (.tuple #[.bool false]) w:=by
 simp only [Instr.next,getObj,Sem.run_bind,Sem.run,h,Result.andThen]
 rfl

theorem zA1 {id : Nat} {ops : Array Oper} {x : Operand} {t u : Nat} {b : Bool} {v : Value} {w1 : World} {R : Act → World → Prop} (hn : zlW ops = some (x, t, u)) (htu : t < a.tmps.size)
    (hrun:∀ o1,ops[0]? = some o1→(Instr.next (a.eval x) false o1.type).run P w=.ok v w1) (hv:∃ vs:List Value,v=.tuple (Value.bool b :: vs).toArray)
    (hR:(R ((a.put (some t) v).put (some u) (.bool b)) w1)) (hQ:∀ a' w',R a' w'→Q .normal a' w'):(Code.region id ops false).wpIn (FR r) n P Q a w:=by
  unfold zlW at hn
  split at hn
  · rename_i o1 o2 hl
    split at hn
    · rename_i x' t' t2 u' e1 e2 e3 e4 e5 e6
      split at hn
      · rename_i hbe
        simp only [Option.some.injEq,Prod.mk.injEq] at hn
        obtain ⟨rfl,rfl,rfl⟩:=hn
        have hbe:=Nat.eq_of_beq_eq_true hbe
        subst hbe
        have hsz:ops.size=2:=by rw [← Array.length_toList,hl];rfl
        have h0:ops[0]? = some o1:=by rw [← Array.getElem?_toList,hl];rfl
        have h1:ops[1]? = some o2:=by rw [← Array.getElem?_toList,hl];rfl
        refine wpIn_region ?_
        rw [hsz,show List.range 2=[0,1] from rfl]
        simp only [wpOpsIn,h0,h1]
        rw [if_pos (by simp [Region.wanted,e5])]
        obtain ⟨vs,rfl⟩:=hv
        refine zjB (zdM (by simp [e1]) (v:=.tuple (Value.bool b :: vs).toArray) (w':=w1) (R:=fun a' w'=>a'=a.put o1.dst (.tuple (Value.bool b :: vs).toArray)∧w'=w1) ?_ ⟨rfl,rfl⟩) ?_
        · simp only [execOp,e1,Sem.run_bind,hrun o1 h0,Result.andThen_ok,Sem.run_pure]
        · rintro a' w' ⟨_, rfl, rfl⟩
          rw [if_pos (by simp [Region.wanted,e6])]
          refine zjB (zdM (by simp [e2]) (v:=.bool b) (w':=w') (R:=fun a'' w''=>a''=(a.put o1.dst (.tuple (Value.bool b :: vs).toArray)).put o2.dst (.bool b)∧w''=w') ?_ ⟨rfl,rfl⟩) ?_
          · have hev:(a.put o1.dst (.tuple (Value.bool b :: vs).toArray)).eval (.tmp t2)=.tuple (Value.bool b :: vs).toArray:=by
              have:=zsy a t2 (.tuple (Value.bool b :: vs).toArray) t2 htu
              rw [if_pos rfl] at this
              rw [e3];exact this
            simp only [execOp,e2,hev,Sem.run_bind]
            simp [Instr.extract]
          · rintro a'' w'' ⟨_, rfl, rfl⟩
            rw [e3,e4]
            exact hQ _ _ hR
      · cases hn
    · cases hn
  · cases hn

theorem zut (ann : Ann) {id : Nat} {ops : Array Oper} {draw : Bool} {x : Operand} {t u : Nat} {K : St → Prop} {D : List Nat} {a0 : Act}
    (hD:∀ t∈zAl ops.toList,t∈D) (hn:zlW ops=some (x,t,u)) (h:zuQ P ann id x t u draw K σ) (S:Sim P ann.nt B w0 h0 g σ a w) (hkp:Kp D a0 a)
    (hQ:∀ g' σ' a' w',K σ'→Sim P ann.nt B w0 h0 g' σ' a' w'→Kp D a0 a'→a'.defers=a.defers→Q .normal a' w'):(Code.region id ops draw).wpIn (FR r) n P Q a w:=by
  have hreg:∀ σ',zH6 P ann id K σ'→∀ g' a' w',Sim P ann.nt B w0 h0 g' σ' a' w'→Kp D a0 a'→a'.defers=a.defers→Q .normal a' w':=by
    intro σ' h g' a' w' S hk' hdf
    unfold zH6 at h
    split at h
    · split at h
      · rename_i s hs
        obtain ⟨g2,S2⟩:=za8 hs S
        exact hQ g2 s a' w' h S2 hk' hdf
      · exact h.elim
    · exact hQ g' σ' a' w' h S hk' hdf
  have hDtu:t∈D∧u∈D:=by
    unfold zlW at hn
    split at hn
    · rename_i o1 o2 hl
      split at hn
      · rename_i x' t' t2 u' e1 e2 e3 e4 e5 e6
        split at hn
        · simp only [Option.some.injEq, Prod.mk.injEq] at hn
          obtain ⟨rfl,rfl,rfl⟩:=hn
          rw [hl] at hD
          simp only [zAl,e3,e4] at hD
          exact ⟨hD _ (by simp),hD _ (by simp)⟩
        · cases hn
      · cases hn
    · cases hn
  unfold zuQ at h
  split at h
  · rename_i L hb hx
    simp only [Bool.and_eq_true,Bool.not_eq_true'] at hb
    obtain ⟨⟨ht,hu⟩,hdr⟩:=hb
    subst hdr
    split at h
    · rename_i q m F seen hL
      have hfm:zH7 q.2.1 m F:=by
        rcases S.obj L _ hL with ⟨_,rfl,h3,_⟩ | ⟨_,es,clock,_,en,_,M,_,_,_⟩
        · exact ⟨[],rfl,List.nodup_nil,fun k hk=>by simp at hk,fun c hc=>by simp [h3 c hc]⟩
        · refine ⟨en.map (·.1), by rw [List.length_map, M.size], M.nodup, fun k hk => ?_, fun c hc => ?_⟩
          · obtain ⟨x,hx,rfl⟩:=List.mem_map.1 hk;exact (M.len x hx).1
          · rw [M.find c hc]
            constructor
            · intro h
              obtain ⟨j,v,hj⟩:=zjF h
              exact List.mem_map.2 ⟨_,List.mem_of_getElem? hj,rfl⟩
            · intro h
              obtain ⟨⟨k,v⟩,hx,rfl⟩:=List.mem_map.1 h
              obtain ⟨j,hj⟩:=List.getElem?_of_mem hx
              rw [zel M.nodup hj];simp
      obtain ⟨hend,hround⟩:=h hfm
      have hxv:a.eval x=.pointer (some ⟨g.bk L,0,none⟩):=(zbz S hx).1
      have hts:t < a.tmps.size:=Nat.lt_of_lt_of_le (by simpa using ht) S.size
      -- behind the step
      have fin:∀ (w1:World) (b:Bool) (vs:List Value) (seen':List (List Int)),
          (∀ o1,ops[0]? = some o1→(Instr.next (a.eval x) false o1.type).run P w=.ok (.tuple (Value.bool b :: vs).toArray) w1)→Sim P ann.nt B w0 h0 g { σ with objs:=(L,.mit q m F seen') :: σ.objs } a w1 →
          zH6 P ann id K ⟨(u,.bool b) :: (t,.junk) :: σ.env,(L,.mit q m F seen') :: σ.objs,[]⟩→(Code.region id ops false).wpIn (FR r) n P Q a w:=by
        intro w1 b vs seen' hrun S1 hk
        refine zA1 (R:=fun a' w'=>a'=(a.put (some t) (.tuple (Value.bool b :: vs).toArray)).put (some u) (.bool b)∧w'=w1) hn hts hrun ⟨vs,rfl⟩ ⟨rfl,rfl⟩ ?_
        rintro a' w' ⟨rfl,rfl⟩
        have S2:=S1.put (dst:=some t) (d:=.junk) (v:=.tuple (Value.bool b :: vs).toArray) ht trivial (fun M hM=>by simp [zaS,zbh,zav] at hM) []
        have S3:=S2.put (dst:=some u) (d:=.bool b) (v:=.bool b) hu (.bool b) (zdc _) []
        exact hreg _ hk g _ _ S3 ((hkp.put (dst:=some t) (fun z hz=>by cases hz;exact hDtu.1) _ a.defers).put (dst:=some u) (fun z hz=>by cases hz;exact hDtu.2) _ a.defers) rfl
      rcases S.obj L _ hL with ⟨hit,h2,h3,h4⟩ | ⟨mb,es,clock,sb,en,hmb,M,hit,hseen,hcur⟩
      · refine fin w false [] seen (fun _ _ => by rw [hxv]; exact zoW hit) ?_ (hend fun c hc hne => (hne (h3 c hc)).elim)
        exact S.write (o':=.mit q m F seen) hL (fun b hb=>hb) (.refl B w) (fun _ _=>rfl) (.inl ⟨hit,h2,h3,h4⟩) (fun N hN=>by simp [zbM] at hN)
      · have hmap := S.hw.fz hmb
        have hlen:es.size=en.length:=by
          have:=congrArg List.length M.ents
          simpa using this
        have hat:∀ (c:List Int),c.length=q.2.1→F c ≠ none→∃ (j:Nat) (e:MapEntry) (v:List Int),es[j]? = some e∧en[j]? = some (c,v):=by
          intro c hc hne
          rw [M.find c hc] at hne
          obtain ⟨j,v,hj⟩:=zjF hne
          have hj2:j < es.size:=by rw [hlen];exact (List.getElem?_eq_some_iff.1 hj).1
          exact ⟨j,es[j],v,Array.getElem?_eq_getElem hj2,hj⟩
        obtain ⟨o1,ho1⟩:∃ o1,ops[0]? = some o1:=by
          unfold zlW at hn
          split at hn
          · rename_i o1 o2 hl;exact ⟨o1,by rw [← Array.getElem?_toList,hl];rfl⟩
          · cases hn
        rcases run_next_at (P:=P) w o1.type (g.bk L) mb clock clock sb es clock hit hmap M.born (Nat.le_refl _) with ⟨hz,hrun⟩ | ⟨e,he,w1,hw1,hrun⟩
        · refine fin w false [] seen (fun o ho => by rw [ho1] at ho; cases ho; rw [hxv]; exact hrun) ?_ (hend fun c hc hne => ?_)
          · exact S.write (o':=.mit q m F seen) hL (fun b hb=>hb) (.refl B w) (fun _ _=>rfl) (.inr ⟨mb,es,clock,sb,en,hmb,M,hit,hseen,hcur⟩) (fun N hN=>by simp [zbM] at hN)
          · obtain ⟨j, e, v, h1, h2⟩ := hat c hc hne
            refine (hseen j e (c,v) h1 h2).1 ?_
            have hem:e∈es:=Array.mem_of_getElem? h1
            by_cases hin:e.born∈sb
            · exact hin
            · have : e ∈ leftOf es sb := Array.mem_filter.2 ⟨hem, by simpa using hin⟩
              rw [Array.eq_empty_of_size_eq_zero hz] at this
              simp at this
        · have he' : e ∈ leftOf es sb := by simpa using he
          obtain ⟨hem,hnin⟩:=Array.mem_filter.1 he'
          have hnin:e.born ∉ sb:=by simpa using hnin
          obtain ⟨j,hj⟩:=Array.getElem?_of_mem hem
          have hj2:j < en.length:=by rw [← hlen];exact (Array.getElem?_eq_some_iff.1 hj).1
          obtain ⟨⟨c,v⟩,hcv⟩:∃ x,en[j]? = some x:=⟨en[j],List.getElem?_eq_getElem hj2⟩
          have hlc:=M.len (c,v) (List.mem_of_getElem? hcv)
          have hF:F c=some v:=by rw [M.find c hlc.1];exact zel M.nodup hcv
          have hns:c ∉ seen:=fun h=>hnin ((hseen j e (c,v) hj hcv).2 h)
          have hk:=zm2.1 hround c hlc.1 (by rw [hF];simp) hns
          have hlt:=(Array.getElem?_eq_some_iff.1 hit).1
          have hw1h:w1.heap=w.heap:=by rcases hw1 with rfl | rfl <;> rfl
          have hoth:∀ b,b ≠ g.bk L→(ChangeMaps.setBlock w1 (g.bk L) (.mapIter (some mb) clock (sb.push e.born) clock)).heap[b]? = w.heap[b]?:=fun b hb=>by
            show (w1.heap.setIfInBounds (g.bk L) _)[b]? = _
            rw [Array.getElem?_setIfInBounds,if_neg (fun x=>hb x.symm),hw1h]
          refine fin _ true [e.key,e.val] (c :: seen) (fun o ho=>by rw [ho1] at ho;cases ho;rw [hxv];exact hrun) ?_ hk
          have hB:=(S.own L _ (g.bk L) hL rfl).1
          refine S.write (o' := .mit q m F (c :: seen)) hL (fun b hb => hb)
            ⟨⟨by rcases hw1 with rfl | rfl <;> rfl,by rcases hw1 with rfl | rfl <;> rfl,by rcases hw1 with rfl | rfl <;> rfl,by show _≤(w1.heap.setIfInBounds _ _).size;rw [hw1h];simp,fun k hk=>hoth k (by omega)⟩,by rcases hw1 with rfl | rfl;exact Nat.le_refl _;exact Nat.le_succ _⟩
            (fun b hb=>hoth b fun x=>hb (by rw [x];rfl)) (.inr ⟨mb,es,clock,sb.push e.born,en,hmb,M,?_,?_,?_⟩) (fun N hN=>by simp [zbM] at hN)
          · show (w1.heap.setIfInBounds (g.bk L) _)[g.bk L]? = _
            rw [hw1h];simp [hlt]
          · intro j' e2 x2 h1 h2
            have hb2:e2.born=e.born↔x2.1=c:=by
              have hk2:(en.map (·.1))[j']? = some x2.1:=by simp [h2]
              have hk1:(en.map (·.1))[j]? = some c:=by simp [hcv]
              have hb1:(es.toList.map (·.born))[j]? = some e.born:=by simp [hj]
              have hb2':(es.toList.map (·.born))[j']? = some e2.born:=by simp [h1]
              constructor
              · intro h
                have:j'=j:=(List.getElem?_inj (List.getElem?_eq_some_iff.1 hb2').1 M.bornN).1 (by rw [hb2',hb1,h])
                subst this
                rw [hk2] at hk1;simpa using hk1
              · intro h
                have:j'=j:=(List.getElem?_inj (List.getElem?_eq_some_iff.1 hk2).1 M.nodup).1 (by rw [hk2,hk1,h])
                subst this
                rw [h1] at hj;simp only [Option.some.injEq] at hj;rw [hj]
            rw [Array.mem_push,List.mem_cons,hseen j' e2 x2 h1 h2,hb2]
            exact Or.comm
          · intro c' r' h
            simp only [List.cons.injEq] at h
            obtain ⟨rfl,rfl⟩:=h
            exact ⟨j,e,v,hj,hcv,by simp⟩
    · exact h.elim
  · exact h.elim
end
end Go.Pm
namespace Go.Pm
open Go.RowKit (Below)

theorem zge {P : Program} : ∀ (l : List (Nat × Nat × Nat × (Nat → List PV))) (σ τ : St), Eqv σ τ → (zdG P l σ = none ∧ zdG P l τ = none) ∨ ∃ σ' τ', zdG P l σ = some σ' ∧ zdG P l τ = some τ' ∧ Eqv σ' τ'
  | [],σ,τ,h=>.inr ⟨σ,τ,rfl,rfl,h⟩
  | (t,L,e,g) :: r,σ,τ,h=>by
    simp only [zdG]
    rw [← h.env,← h.objs]
    split
    · split
      · split
        · refine zge r _ _ ⟨fun s => ?_, fun s => ?_, h.log⟩
          · simp only [zal,h.env]
          · simp only [zal,h.objs]
        · exact .inl ⟨rfl,rfl⟩
      · exact .inl ⟨rfl,rfl⟩
    · exact zge r _ _ h
    · exact .inl ⟨rfl,rfl⟩
theorem zgf {P : Program} : ∀ (l : List (Nat × Nat × Nat × Nat × (Nat → List PV))) (σ τ : St), Eqv σ τ → (zdH P l σ = none ∧ zdH P l τ = none) ∨ ∃ σ' τ', zdH P l σ = some σ' ∧ zdH P l τ = some τ' ∧ Eqv σ' τ'
  | [],σ,τ,h=>.inr ⟨σ,τ,rfl,rfl,h⟩
  | (B,k,L,e,g) :: r,σ,τ,h=>by
    simp only [zdH]
    rw [← h.objs,← h.objs]
    split
    · split
      · split
        · split
          · refine zgf r _ _ ⟨h.env, fun s => ?_, h.log⟩
            simp only [zal,h.objs]
          · exact .inl ⟨rfl,rfl⟩
        · exact .inl ⟨rfl,rfl⟩
      · exact zgf r _ _ h
      · exact .inl ⟨rfl,rfl⟩
    · exact .inl ⟨rfl,rfl⟩
theorem zgg {P : Program} : ∀ (l : List (Nat × Nat × Nat × Nat × Nat × (Nat → Nat → List PV))) (σ τ : St), Eqv σ τ → (zdI P l σ = none ∧ zdI P l τ = none) ∨ ∃ σ' τ', zdI P l σ = some σ' ∧ zdI P l τ = some τ' ∧ Eqv σ' τ'
  | [],σ,τ,h=>.inr ⟨σ,τ,rfl,rfl,h⟩
  | (B,k,L,te,e,g) :: r,σ,τ,h=>by
    simp only [zdI]
    rw [← h.objs,← h.objs]
    split
    · split
      · split
        · split
          · split
            · refine zgg r _ _ ⟨h.env, fun s => ?_, h.log⟩
              simp only [zal,h.objs]
            · exact .inl ⟨rfl,rfl⟩
          · exact .inl ⟨rfl,rfl⟩
        · exact .inl ⟨rfl,rfl⟩
      · exact zgg r _ _ h
      · exact .inl ⟨rfl,rfl⟩
    · exact .inl ⟨rfl,rfl⟩
theorem zeI : ∀ (l : List (Nat × Nat × (Nat → List PV))) (σ τ : St), Eqv σ τ → (zdi l σ = none ∧ zdi l τ = none) ∨ ∃ σ' τ', zdi l σ = some σ' ∧ zdi l τ = some τ' ∧ Eqv σ' τ'
  | [],σ,τ,h=>.inr ⟨σ,τ,rfl,rfl,h⟩
  | (t,s,g) :: r,σ,τ,h=>by
    have ho:lk σ.objs=lk τ.objs:=funext h.objs
    simp only [zdi]
    rw [← h.env,← ho]
    split
    · split
      · split
        · refine zeI r _ _ ⟨fun s => ?_, h.objs, h.log⟩
          simp only [zal,h.env]
        · exact zeI r _ _ h
      · split
        · refine zeI r _ _ ⟨fun s => ?_, fun s => ?_, h.log⟩
          · simp only [zal,h.env]
          · simp only [zcy,h.objs]
        · exact .inl ⟨rfl,rfl⟩
    · exact .inl ⟨rfl,rfl⟩
theorem zjG {α : Type} {f : α → α} {l l' : List (Nat × α)} (h : ∀ t, lk l t = lk l' t) : ∀ ks, ziC f l ks = ziC f l' ks
  | []=>rfl
  | t :: r=>by simp only [ziC,h,zjG h r]
theorem zA2 {ob ob':Nat→Option AO} (h:∀ t,ob t=ob' t):∀ ks,zt4 ob ks=zt4 ob' ks:=by
 intro ks
 have:ob=ob':=funext h
 rw [this]
theorem zuu {P:Program} {k:Keep} {σ τ:St} (h:Eqv σ τ):zi8 P k σ=zi8 P k τ:=by
 unfold zi8
 rcases zge (P:=P) k.coT σ τ h with ⟨h1,h2⟩ | ⟨σ1,τ1,h1,h2,h3⟩
 ·rw [h1,h2]
 ·rw [h1, h2]
  simp only
  rcases zgf (P:=P) k.coB σ1 τ1 h3 with ⟨h4,h5⟩ | ⟨σ2,τ2,h4,h5,h6⟩
  ·rw [h4,h5]
  ·rw [h4, h5]
   simp only
   rcases zgg (P:=P) k.coV σ2 τ2 h6 with ⟨h7,h8⟩ | ⟨σ3,τ3,h7,h8,h9⟩
   ·rw [h7,h8]
   ·rw [h7, h8]
    simp only
    rw [zjG h9.env,zjG h9.objs]
theorem zvG {P:Program} {k:Keep} {σ τ:St} (h:Eqv σ τ):canon P k σ=canon P k τ:=by
 unfold canon
 have h1:Eqv (zH5 k.coF σ) (zH5 k.coF τ):=⟨h.env,fun t=>by simp only [zH5,zcy,h.objs,zA2 h.objs],h.log⟩
 rcases zeI k.coZ _ _ h1 with ⟨h2,h3⟩ | ⟨σ1,τ1,h2,h3,h4⟩
 ·rw [h2,h3]
 ·rw [h2,h3];exact zuu h4

section
variable {P:Program} {Γ:Ctrs} {nt B:Nat} {w0:World} {h0:Fz} {r:Option Nat} {n:Nat}

theorem zc4 {b : Frame} {a : Act} {k : List Item} {cs : List Frame} {w : World} {c : Code} :
  step P (lone (b.atR a (.code (.scope c) :: k)) cs w)=.next (lone (b.atR a (.code c :: .inScope c :: k)) cs w) :=
 step_lone_go (by simp [stepG,stepG.exec,Frame.atR])
theorem zm3 {b : Frame} {a : Act} {k : List Item} {cs : List Frame} {w : World} {c : Code} :
  step P (lone (b.atR a (.inScope c :: k)) cs w)=.next (lone (b.atR a k) cs w) :=
 step_lone_go (by simp [stepG,stepG.exec,Frame.atR])

theorem zmk {c:Code} {Q:Exit→Act→World→Prop} {a:Act} {w:World} {F:Fence} (h:c.wpIn F n P (Exit.noGoto Q) a w):(Code.scope c).wpIn F n P Q a w:=by
 intro b k cs hro hb hr
 obtain ⟨e,a₁,w₁,hq,harr⟩:=h b (.inScope c :: k) cs hro hb hr
 have h0:(lone (b.atR a (.code (.scope c) :: k)) cs w).fenced P F:=fenced_calm hb hr rfl
 cases e with
 | normal=>exact ⟨.normal,a₁,w₁,hq,.head h0 zc4 (StepsIn.trans harr (.one (fenced_calm hb hr rfl) zm3))⟩
 | exit id =>
  refine ⟨.exit id,a₁,w₁,hq,fun k' hk=>.head h0 zc4 (harr.1 k' (by simp [exitTo,hk])),fun hr' hk=>?_⟩
  obtain ⟨k₁,h1,h2⟩:=harr.2 hr' (by simp [exitTo,hk])
  exact ⟨k₁,h1,.head h0 zc4 h2⟩
 | goto l=>exact hq.elim
 | ret=>exact ⟨_,a₁,w₁,hq,.of_steps (.one h0 zc4) harr⟩
 | panic ch=>exact ⟨_,a₁,w₁,hq,.of_steps (.one h0 zc4) harr⟩
 | outgrown=>exact ⟨_,a₁,w₁,hq,.of_steps (b:=b) (k:=k) (cs:=cs) (e:=.outgrown) (.one h0 zc4) harr⟩

def zql (F:Fence) (n:Nat) (P:Program) (c:Code) (Q:Exit→Act→World→Prop) (a:Act) (w:World):Prop :=
 ∀ (b:Frame) (k:List Item) (cs:List Frame),b.roundOf=F.round→F.fn b.fn→F.room (cs.length+1+n) →
  ∃ e a' w',Q e a' w'∧ArrivesIn (Machine.fenced P F) P (lone (b.atR a (.code c :: .inLoop c :: k)) cs w) b k cs e a' w'

theorem zeJ {F:Fence} {c:Code} {Q:Exit→Act→World→Prop} {a:Act} {w:World} (h:zql F n P c Q a w):(Code.loop c).wpIn F n P Q a w:=by
 intro b k cs hro hb hr
 obtain ⟨e,a',w',hq,harr⟩:=h b k cs hro hb hr
 exact ⟨e,a',w',hq,.of_steps (.one (fenced_calm hb hr rfl) stepR_loop) harr⟩

theorem zeK {F:Fence} {c:Code} {Q:Exit→Act→World→Prop} {a:Act} {w:World} (h:c.wpIn F n P (Exit.then (zql F n P c Q) Q) a w):zql F n P c Q a w:=by
 intro b k cs hro hb hr
 obtain ⟨e,a₁,w₁,hq,harr⟩:=h b (.inLoop c :: k) cs hro hb hr
 cases e with
 | normal =>
  obtain ⟨e₂,a₂,w₂,hq₂,harr₂⟩:=hq b k cs hro hb hr
  exact ⟨e₂,a₂,w₂,hq₂,.of_steps (StepsIn.trans harr (.one (fenced_calm hb hr rfl) stepR_inLoop)) harr₂⟩
 | exit id=>exact ⟨_,a₁,w₁,hq,.pass (x:=.inLoop c) rfl (fun _ _=>.inl (by simp)) harr⟩
 | goto l=>exact ⟨_,a₁,w₁,hq,.pass (x:=.inLoop c) rfl (fun _ _=>.inl (by simp)) harr⟩
 | ret=>exact ⟨_,a₁,w₁,hq,.pass (x:=.inLoop c) rfl (fun _ _=>.inl (by simp)) harr⟩
 | panic ch=>exact ⟨_,a₁,w₁,hq,.pass (x:=.inLoop c) rfl (fun _ _=>.inl (by simp)) harr⟩
 | outgrown=>exact ⟨_,a₁,w₁,hq,.pass (x:=.inLoop c) rfl (fun _ _=>.inl (by simp)) harr⟩

def PostR (P:Program) (nt B:Nat) (w0:World) (h0:Fz) (D:List Nat) (a0:Act) (K:Exit→St→Prop):Exit→Act→World→Prop :=
 fun e a' w'=>∃ g' σ',K e σ'∧Sim P nt B w0 h0 g' σ' a' w'∧Kp D a0 a'

def Snd (P:Program) (Γ:Ctrs) (ann:Ann) (B:Nat) (w0:World) (c:Code):Prop :=
 ∀ (r:Option Nat) (n:Nat) (h0:Fz) (D:List Nat) (a0:Act) (K:Exit→St→Prop) (σ:St) (g:Gh) (a:Act) (w:World),(∀ t∈zlE c,t∈D)→Rnd r h0→vc P Γ ann c K σ →
  Sim P ann.nt B w0 h0 g σ a w→Kp D a0 a→c.wpIn (FR r) n P (PostR P ann.nt B w0 h0 D a0 K) a w

theorem zsW : ∀ {l : List Oper} {j : Nat} {o : Oper} {t : Nat}, l[j]? = some o → o.dst = some t → t ∈ zAl l
  | [],j,o,t,h,_=>by simp at h
  | x :: l,j,o,t,h,hd=>by
    cases j with
    | zero =>
      simp only [List.getElem?_cons_zero,Option.some.injEq] at h;subst h
      simp only [zAl,hd];exact List.mem_cons_self
    | succ j =>
      have:=zsW (l:=l) (j:=j) (by simpa using h) hd
      simp only [zAl];split
      · exact List.mem_cons_of_mem _ this
      · exact this

theorem zoX (hok : OkAll P Γ) (ann : Ann) {id : Nat} {ops : Array Oper} {draw : Bool} {K : St → Prop} {Q : Exit → Act → World → Prop} {D : List Nat} {a0 : Act} {σ : St} {g : Gh} {a : Act} {w : World}
    (hD:∀ t∈zAl ops.toList,t∈D) (h:zAx P Γ ann id ops draw K σ) (S:Sim P ann.nt B w0 h0 g σ a w) (hkp:Kp D a0 a)
    (hQ:∀ g' σ' a' w',K σ'→Sim P ann.nt B w0 h0 g' σ' a' w'→Kp D a0 a'→a'.defers=a.defers→Q .normal a' w'):(Code.region id ops draw).wpIn (FR r) n P Q a w:=by
  have hD':∀ (j:Nat) (o:Oper),ops[j]? = some o→∀ t,o.dst=some t→t∈D:=fun j o ho t ht=>hD t (zsW (by simpa using ho) ht)
  have hreg:∀ σ',(match lk ann.reg id with | some k=>(match canon P k σ' with | some s=>K s | none=>False) | none=>K σ')→∀ g' a' w',Sim P ann.nt B w0 h0 g' σ' a' w'→Kp D a0 a'→a'.defers=a.defers→Q .normal a' w':=by
    intro σ' h g' a' w' S hk' hdf
    split at h
    · split at h
      · rename_i s hs
        obtain ⟨g2,S2⟩:=za8 hs S
        exact hQ g2 s a' w' h S2 hk' hdf
      · exact h.elim
    · exact hQ g' σ' a' w' h S hk' hdf
  simp only [zAx] at h
  cases draw with
  | false =>
    refine wpIn_region ?_
    exact zqk hok hD' h (S.log _) hkp hreg
  | true =>
    simp only at h
    split at h
    · rename_i hc
      simp only [Bool.and_eq_true] at hc
      refine zus (K:=fun σ'=>match lk ann.reg id with
        | some k=>match canon P k σ' with
          | some s=>K s
          | none=>False
        | none=>False) hok hD' hkp hc.1.1 hc.1.2 hc.2 (fun σ τ he hσ=>?_) h (S.log []) ?_
      · split at hσ
        · rename_i k hk
          rw [zvG he] at hσ
          exact hσ
        · exact hσ.elim
      · intro σ' h g' a' w' S hk' hdf
        split at h
        · split at h
          · rename_i s hs
            obtain ⟨g2,S2⟩:=za8 hs S
            exact hQ g2 s a' w' h S2 hk' hdf
          · exact h.elim
        · exact h.elim
    · exact h.elim

def zvH (P : Program) (Γ : Ctrs) (ann : Ann) (x y : Code) (ps : List Nat) (k : Keep) (K : Exit → St → Prop) : List (List PA) → St → Prop
  | [],s=>K .normal s
  | yv :: rest,s=>match zgI ps yv s.env with
    | some env=>vc P Γ ann x (zDH (vc P Γ ann y (zlY P k (zvH P Γ ann x y ps k K rest) K)) fun _ _=>False) ⟨env,s.objs,[]⟩
    | none=>False

theorem zqm (hok:OkAll P Γ) {ann:Ann} {f:Operand} {ps:Array Tmp} {x y:Code} (ihx:Snd P Γ ann B w0 x) (ihy:Snd P Γ ann B w0 y):Snd P Γ ann B w0 (.rangeFunc f ps x y):=by
 intro r n h0 D a0 K σ g a w hD hR h S hkp
 simp only [vc] at h
 split at h
 ·rename_i k hk
  split at h
  ·rename_i s hs hdis
   simp only [Bool.and_eq_true] at hdis
   obtain ⟨hdis,hpnt⟩:=hdis
   split at h
   ·rename_i gf caps hf
    split at h
    ·rename_i safe ys hit
     obtain ⟨hsafe,h⟩:=h
     have hgood:zvH P Γ ann x y ps.toList k K ys s:=h (zvH P Γ ann x y ps.toList k K) (fun _ h=>h) (fun _ _ _ h=>h)
     obtain ⟨g1,S1⟩:=za8 hs S
     have hout:∀ t∈k.tmps,t ∉ ps.toList∧t ∉ zlE x ++ zlE y:=by
      intro t ht
      have h1:=List.all_eq_true.1 hdis t ht
      simp only [Bool.not_eq_true'] at h1
      have h2:t ∉ ps.toList ++ (zlE x ++ zlE y):=by simpa using h1
      exact ⟨fun h=>h2 (List.mem_append.2 (.inl h)),fun h=>h2 (List.mem_append.2 (.inr h))⟩
     refine wpIn_rangeFunc fun fn _=>?_
     obtain ⟨l,mark,w1,d,h1,hrun,hlw,hl1,hle1,hn1,S2⟩:=zm1 S1 hR fn ps x y
     have hfn:=zca S1 hf
     generalize hfv:a.eval f=fvv at hfn
     cases hfn with
     | fn _ _ _ fv cv l1 l2 hf1 hc1 =>
      have e1:fv=[]:=List.eq_nil_of_length_eq_zero l1.symm
      subst e1
      let a1:Act:={ a with defers:=mark ++ a.defers }
      let rec_:LoopState→Option Code→Loop:=fun st pe=>{ state:=st,pending:=pe,fn,tmps:=a.tmps,params:=ps, assign:=x,body:=y,defers:=d }
      let J:List (List PA)→Fz→World→Prop:=fun rest h W=>∃ s bk sv iv,zvH P Γ ann x y ps.toList k K rest s∧(∀ t d,lk s.env t=some d→t∈k.tmps)∧Sim P ann.nt B w0 h0 ⟨h,bk,sv,iv⟩ s a1 W∧h l=none∧B≤l ∧
       (∀ L o,lk s.objs L=some o→¬ obk ⟨h,bk,sv,iv⟩ L o l)∧W.heap[l]? = some (.loop (rec_ .ready none))
      let Jx:List (List PA)→Fz→World→Prop:=fun _ h W=>∃ s bk sv iv c,((c=.ret∧K .ret s)∨∃ id,c=.exit id∧K (.exit id) s)∧Sim P ann.nt B w0 h0 ⟨h,bk,sv,iv⟩ s a1 W∧h l=none∧B≤l ∧
       (∀ L o,lk s.objs L=some o→¬ obk ⟨h,bk,sv,iv⟩ L o l)∧W.heap[l]? = some (.loop (rec_ .done (some c)))
      have keepl:∀ {h h':Fz} {W W':World},W.heap[l]? ≠ none→h l=none→(∀ b o,h' b=some o→h b=some o∨W.heap.size≤b)→Bel h W.heap.size W W'→h' l=none∧W'.heap[l]? = W.heap[l]?:=by
       intro h h' W W' hW hl hn hb
       have hlt:l < W.heap.size:=by
        cases hx:W.heap[l]? with
        | none=>exact absurd hx hW
        | some o=>exact (Array.getElem?_eq_some_iff.1 hx).1
       refine ⟨?_,hb.block l hlt fun F hF=>by rw [hl] at hF;cases hF⟩
       cases hx:h' l with
       | none=>rfl
       | some o =>
        rcases hn l o hx with h3 | h3
        ·rw [hl] at h3;cases h3
        ·omega
      have hJ:JSt J:=by
       rintro rest h W h' W' ⟨s,bk,sv,iv,hg,he,SJ,hl,hB,hno,hW⟩ hle hw' hn hb
       obtain ⟨k1,k2⟩:=keepl (by rw [hW];simp) hl hn hb
       exact ⟨s,bk,sv,iv,hg,he,SJ.world hle hw' hn hb,k1,hB,hno,by rw [k2];exact hW⟩
      have hJx:JSt Jx:=by
       rintro rest h W h' W' ⟨s,bk,sv,iv,c,hc,SJ,hl,hB,hno,hW⟩ hle hw' hn hb
       obtain ⟨k1,k2⟩:=keepl (by rw [hW];simp) hl hn hb
       exact ⟨s,bk,sv,iv,c,hc,SJ.world hle hw' hn hb,k1,hB,hno,by rw [k2];exact hW⟩
      have hBl:B≤l:=Nat.le_trans S1.bs hlw
      have h0l:∀ {h:Fz} {bk sv iv} {s:St} {W:World},Sim P ann.nt B w0 h0 ⟨h,bk,sv,iv⟩ s a1 W→h l=none→h0 l=none:=fun SJ hl=>by
       cases hx:h0 l with
       | none=>rfl
       | some o=>have:=SJ.le0 l o hx;simp only [hl] at this;cases this
      have hno1:∀ L o,lk s.objs L=some o→¬ obk (g1.re h1) L o l:=fun L o ho hk=>by
       have:obk g1 L o l:=hk
       have:=zco (S1.obj L o ho) this
       omega
      have hstart:=hok.it gf (caps.map .one) safe ys hit hsafe l J Jx w1 h1 cv hJ hJx ?_ ⟨s,g1.bk,g1.sv,g1.iv,hgood,zjE hs,S2,hn1,hBl,hno1,hl1⟩ (zvo ((zAL l2 hc1).mono fun _ _ h=>h.mono hle1)) S2.hw
      ·obtain ⟨hcall, hseq⟩ := hstart
       refine ⟨l,mark,w1,{ target:=.fn (.func gf) cv.toArray,args:=#[.func (.yield l) #[] #[]] },w1,gf,(.func (.yield l) #[] #[] :: cv).toArray,w1,?_,?_,fun _ _=>trivial,?_,fun h=>by simp [FR] at h,(zsA hseq).mono ?_⟩
       ·exact hrun
       ·simp only [resolve, hfv]
        simp [go_sem]
       ·simp only [invoke]
        rw [show (#[.func (.yield l) #[] #[]] ++ cv.toArray)=(.func (.yield l) #[] #[] :: cv).toArray by simp]
        exact zdd hcall
       ·rintro e W3 ⟨v, h3, rfl, hle3, hw3, (⟨s3, bk, sv, iv, hg3, he3, S3, hl3, hB3, hno3, hW3⟩ | ⟨_, s3, bk, sv, iv, c, hc, S3, hl3, hB3, hno3, hW3⟩)⟩
        ·have S4 := S3.putObj (.loop { rec_ .ready none with state := .exhausted }) hl3 hB3 hno3
         refine ⟨none,_,run_endLoop hW3 (by simp [rec_]),_,s3,hg3,S4,hkp⟩
        ·have S4 := S3.putObj (.loop { rec_ .done (some c) with state := .exhausted }) hl3 hB3 hno3
         refine ⟨some c,_,run_endLoop hW3 (by simp [rec_]),?_⟩
         rcases hc with ⟨rfl,hc⟩ | ⟨id,rfl,hc⟩
         ·exact wpIn_ret ⟨_,s3,hc,S4,hkp⟩
         ·exact wpIn_exit ⟨_,s3,hc,S4,hkp⟩
      ·-- one round
       rintro yv rest h W us ⟨s,bk,sv,iv,hg,hek,SJ,hl,_,hno,hW⟩ hus hHw n'
       simp only [zvH] at hg
       split at hg
       ·rename_i env henv
        have hlt:l < W.heap.size:=(Array.getElem?_eq_some_iff.1 hW).1
        have h0l':=h0l SJ hl
        have SJ2:=SJ.up.hide hl hW hBl hno
        have hle2:Fle h (h.add l (.loop (rec_ .ready none))):=Fz.le_add hl
        have hpsz:∀ p∈ps.toList,p < a.tmps.size:=fun p hp=>by
         have:=List.all_eq_true.1 hpnt p hp
         exact Nat.lt_of_lt_of_le (by simpa [Nat.blt_eq] using this) SJ.size
        obtain ⟨hul,henvR⟩:=zvF (g:=(⟨h.add l (.loop (rec_ .ready none)),bk,sv,iv⟩:Gh)) 0 ps.toList yv us s.env env a.tmps henv (hus.mono fun p q hpq=>by
         cases p with
         | one v=>exact Rep.mono hle2 hpq
         | agg cs=>obtain ⟨vs,h5,h6⟩:=hpq;exact ⟨vs,h5,h6.mono fun _ _=>Rep.mono hle2⟩) hpsz (fun t d ht=>SJ2.env t d ht)
        have hzip:(ps.zip us.toArray).foldl (fun tmps (t,a)=>tmps.setIfInBounds t a) a.tmps=(ps.toList.zip us).foldl (fun t (p,v)=>t.setIfInBounds p v) a.tmps:=by
         rw [← Array.foldl_toList,Array.toList_zip]
        let ar:Act:={ tmps:=(ps.toList.zip us).foldl (fun t (p,v)=>t.setIfInBounds p v) a.tmps,defers:=[] }
        have Sr:Sim P ann.nt B w0 (h.add l (.loop (rec_ .ready none))) ⟨h.add l (.loop (rec_ .ready none)),bk,sv,iv⟩ ⟨env,s.objs,[]⟩ ar W:=by
         have Sa:=(SJ2.envs (env:=[]) (fun t d ht=>by simp [lk] at ht) (fun t d ht=>by simp [lk] at ht) []).act (a':=ar) (Marks.nil _ _) (by rw [show ar.tmps.size=a.tmps.size from fold_size _ _];exact SJ.size) (fun t d ht=>by simp [lk] at ht)
         exact Sa.envs henvR (fun t d ht L hL=>by
          rcases zoV _ _ _ _ henv t d ht with h5 | h5
          ·exact SJ.clE t d h5 L hL
          ·rw [h5] at hL;simp at hL) []
        have hrd:∀ st pe,Rnd (some l) (h.add l (.loop (rec_ st pe))):=fun st pe l' e=>by cases e;exact ⟨_,Fz.add_same⟩
        refine ⟨_,_,_,_,by rw [run_yield (P:=P) (args:=us.toArray) hW (by simp [rec_,hul]),hzip],roundIn_of_wpIn (F:=Fence.wide) trivial ?_⟩
        show x.wpIn (FR (some l)) n' P _ ar W
        refine wpIn_mono (ihx (some l) n' _ (zlE x ++ zlE y) ar _ _ _ ar W (fun t ht=>List.mem_append.2 (.inl ht)) (hrd _ _) hg Sr (Kp.refl _ _)) ?_
        rintro e a' w' ⟨g2,σ2,hK2,S2,hkp2⟩
        cases e with
        | normal =>
         simp only [zDH] at hK2
         obtain ⟨_,hno2,hw2,S3⟩:=S2.unhide hBl hl rfl (fun ds=>by simp) (fun _ _=>by simp)
         refine ⟨_,run_beginRound hw2 rfl,?_⟩
         have S4:=S3.putObj (.loop { rec_ .ready none with state:=.busy }) Fz.del_same hBl hno2
         have hw4:(w'.putObj l (.loop { rec_ .ready none with state:=.busy })).heap[l]? = some (.loop (rec_ .busy none)):=World.putObj_heap_same (Array.getElem?_eq_some_iff.1 hw2).1
         have S5:=S4.hide (o:=.loop (rec_ .busy none)) Fz.del_same hw4 hBl hno2
         show y.wpIn (FR (some l)) n' P _ a' _
         refine wpIn_mono (ihy (some l) n' _ (zlE x ++ zlE y) ar _ σ2 _ a' _ (fun t ht=>List.mem_append.2 (.inr ht)) (hrd _ _) hK2 S5 hkp2) ?_
         rintro e a5 w5 ⟨g6,σ6,hK6,S6,hkp6⟩
         have back:∀ s7,canon P k σ6=some s7→∃ (w5l:w5.heap[l]? = some (.loop (rec_ .busy none))) (h':Fz) (bk sv:_) (iv:Nat→Nat→Value),Fle h h'∧h' l=none ∧
           ∀ o',Sim P ann.nt B w0 h0 ⟨h',bk,sv,iv⟩ s7 a1 (w5.putObj l o')∧(∀ L o,lk s7.objs L=some o→¬ obk ⟨h',bk,sv,iv⟩ L o l):=by
          intro s7 hs7
          obtain ⟨g7,S7⟩:=za8 hs7 S6
          obtain ⟨_,hno8,hw8,S8⟩:=S7.unhide hBl hl rfl (fun ds=>by simp) (fun _ _=>by simp)
          have hle8:Fle h (g7.h.del l):=S8.le0
          refine ⟨hw8,g7.h.del l,g7.bk,g7.sv,g7.iv,hle8,Fz.del_same,fun o'=>⟨?_,hno8⟩⟩
          have S9:=(S8.putObj o' Fz.del_same hBl hno8).down (h0:=h0) SJ.le0 SJ.hn
          refine S9.act (SJ.dfr.mono hle8) SJ.size fun t d ht=>?_
          obtain ⟨h10,h11⟩:=hout t (zjE hs7 t d ht)
          have h12:=hkp6.1 t h11
          have h13:ar.tmps.getD t undef=a.tmps.getD t undef:=zmj _ _ _ fun q hq e=>h10 (e ▸ (List.of_mem_zip hq).1)
          have:=S9.env t d ht
          rw [h12,h13] at this
          exact this
         cases e with
         | normal =>
          simp only [zlY] at hK6
          split at hK6
          ·rename_i s7 hs7
           obtain ⟨w5l,h',bk',sv',iv',hle',hl',hS⟩:=back s7 hs7
           have hlt5:=(Array.getElem?_eq_some_iff.1 w5l).1
           refine ⟨_,_,run_endRound none w5l,h',hle',(hS _).1.hw,.inl ⟨rfl,s7,bk',sv',iv',hK6,zjE hs7,(hS _).1,hl',hBl,(hS (.loop (rec_ .ready none))).2,?_⟩⟩
           exact World.putObj_heap_same hlt5
          ·exact hK6.elim
         | ret =>
          simp only [zlY] at hK6
          split at hK6
          ·rename_i s7 hs7
           obtain ⟨w5l,h',bk',sv',iv',hle',hl',hS⟩:=back s7 hs7
           have hlt5:=(Array.getElem?_eq_some_iff.1 w5l).1
           refine ⟨_,_,run_endRound (some .ret) w5l,h',hle',(hS _).1.hw,.inr ⟨rfl,s7,bk',sv',iv',.ret,.inl ⟨rfl,hK6⟩,(hS _).1,hl',hBl,(hS (.loop (rec_ .ready none))).2,?_⟩⟩
           exact World.putObj_heap_same hlt5
          ·exact hK6.elim
         | exit id =>
          simp only [zlY] at hK6
          split at hK6
          ·rename_i s7 hs7
           obtain ⟨w5l,h',bk',sv',iv',hle',hl',hS⟩:=back s7 hs7
           have hlt5:=(Array.getElem?_eq_some_iff.1 w5l).1
           refine ⟨_,_,run_endRound (some (.exit id)) w5l,h',hle',(hS _).1.hw,.inr ⟨rfl,s7,bk',sv',iv',.exit id,.inr ⟨id,rfl,hK6⟩,(hS _).1,hl',hBl,(hS (.loop (rec_ .ready none))).2,?_⟩⟩
           exact World.putObj_heap_same hlt5
          ·exact hK6.elim
         | goto q=>exact hK6.elim
         | panic ch=>exact hK6.elim
         | outgrown=>exact hK6.elim
        | exit id=>exact hK2.elim
        | goto q=>exact hK2.elim
        | ret=>exact hK2.elim
        | panic ch=>exact hK2.elim
        | outgrown=>exact hK2.elim
       ·exact hg.elim
    ·exact h.elim
   ·exact h.elim
  ·exact h.elim
 ·exact h.elim

theorem zIu (hok:OkAll P Γ) (ann:Ann):∀ (c:Code),Snd P Γ ann B w0 c:=by
 intro c
 induction c with
 | skip=>intro r n h0 D a0 K σ g a w _ _ h S hkp;exact wpIn_skip ⟨g,σ,h,S,hkp⟩
 | region id ops draw =>
  intro r n h0 D a0 K σ g a w hD _ h S hkp
  simp only [vc] at h
  split at h
  ·rename_i x t u hn
   exact zut ann hD hn h S hkp fun g' σ' a' w' hK S' hk' _=>⟨g',σ',hK,S',hk'⟩
  ·exact zoX hok ann hD h S hkp fun g' σ' a' w' hK S' hk' _=>⟨g',σ',hK,S',hk'⟩
 | seq x y ihx ihy =>
  intro r n h0 D a0 K σ g a w hD hR h S hkp
  refine wpIn_seq (wpIn_mono (ihx r n h0 D a0 _ σ g a w (fun t ht=>hD t (List.mem_append.2 (.inl ht))) hR h S hkp) ?_)
  have hDy:∀ t∈zlE y,t∈D:=fun t ht=>hD t (List.mem_append.2 (.inr ht))
  rintro e a' w' ⟨g',σ',hK,S',hk'⟩
  cases e with
  | normal =>
   simp only [zDH,zLp] at hK
   split at hK
   ·split at hK
    ·rename_i s hs
     obtain ⟨g2,S2⟩:=za8 hs S'
     exact ihy r n h0 D a0 K s g2 a' w' hDy hR hK S2 hk'
    ·exact hK.elim
   ·exact ihy r n h0 D a0 K σ' g' a' w' hDy hR hK S' hk'
  | exit id=>exact ⟨g',σ',hK,S',hk'⟩
  | goto l=>exact ⟨g',σ',hK,S',hk'⟩
  | ret=>exact ⟨g',σ',hK,S',hk'⟩
  | panic ch=>exact ⟨g',σ',hK,S',hk'⟩
  | outgrown=>exact ⟨g',σ',hK,S',hk'⟩
 | cond c x y ihx ihy =>
  intro r n h0 D a0 K σ g a w hD hR h S hkp
  simp only [vc] at h
  split at h
  ·rename_i t ht
   have hv:=zfG S ht
   have hS:∀ b,t=b→Sim P ann.nt B w0 h0 g (zt5 σ c b) a w:=by
    intro b hb
    cases c with
    | tmp q =>
     refine S.env' (t:=q) (d:=.bool b) ?_ (zdc _)
     have:a.tmps.getD q undef=.bool t:=hv
     rw [this,hb];exact .bool b
    | _=>exact S
   have h2:=zgF.1 h
   refine wpIn_cond hv ?_
   cases t with
   | true=>exact ihx r n h0 D a0 K _ g a w (fun t ht=>hD t (List.mem_append.2 (.inl ht))) hR (h2.1 rfl) (hS true rfl) hkp
   | false=>exact ihy r n h0 D a0 K _ g a w (fun t ht=>hD t (List.mem_append.2 (.inr ht))) hR (h2.2 rfl) (hS false rfl) hkp
  ·exact h.elim
 | block id b ih =>
  intro r n h0 D a0 K σ g a w hD hR h S hkp
  refine wpIn_block (wpIn_mono (ih r n h0 D a0 _ σ g a w hD hR h S hkp) ?_)
  rintro e a' w' ⟨g',σ',hK,S',hk'⟩
  cases e with
  | exit j =>
   simp only [za6] at hK
   simp only [Exit.inBlock]
   split at hK
   ·rename_i hj;rw [if_pos (Nat.eq_of_beq_eq_true hj)];exact ⟨g',σ',hK,S',hk'⟩
   ·rename_i hj;rw [if_neg (Nat.ne_of_beq_eq_false hj)];exact ⟨g',σ',hK,S',hk'⟩
  | normal=>exact ⟨g',σ',hK,S',hk'⟩
  | goto l=>exact ⟨g',σ',hK,S',hk'⟩
  | ret=>exact ⟨g',σ',hK,S',hk'⟩
  | panic ch=>exact ⟨g',σ',hK,S',hk'⟩
  | outgrown=>exact ⟨g',σ',hK,S',hk'⟩
 | loop b ih =>
  intro r n h0 D a0 K σ g a w hD hR h S hkp
  simp only [vc] at h
  split at h
  ·rename_i k hk
   split at h
   ·rename_i s hs
    obtain ⟨g1,S1⟩:=za8 hs S
    refine zeJ ?_
    have key:=h (fun s=>∀ g a w,Sim P ann.nt B w0 h0 g s a w→Kp D a0 a→zql (FR r) n P b (PostR P ann.nt B w0 h0 D a0 K) a w) ?_
    ·exact key g1 a w S1 hkp
    ·intro s hs g a w S hkp
     refine zeK (wpIn_mono (ih r n h0 D a0 _ s g a w hD hR hs S hkp) ?_)
     rintro e a' w' ⟨g',σ',hK,S',hk'⟩
     cases e with
     | normal =>
      simp only [zd2,hk] at hK
      split at hK
      ·rename_i s2 hs2
       obtain ⟨g2,S2⟩:=za8 hs2 S'
       exact hK g2 a' w' S2 hk'
      ·exact hK.elim
     | exit id=>exact ⟨g',σ',hK,S',hk'⟩
     | goto l=>exact ⟨g',σ',hK,S',hk'⟩
     | ret=>exact ⟨g',σ',hK,S',hk'⟩
     | panic ch=>exact ⟨g',σ',hK,S',hk'⟩
     | outgrown=>exact ⟨g',σ',hK,S',hk'⟩
   ·exact h.elim
  ·split at h
   ·rename_i m k hk
    have key:∀ (m:Nat) (σ:St) (g:Gh) (a:Act) (w:World),zK5 P k (vc P Γ ann b) m K σ→Sim P ann.nt B w0 h0 g σ a w→Kp D a0 a→zql (FR r) n P b (PostR P ann.nt B w0 h0 D a0 K) a w:=by
     intro m
     induction m with
     | zero=>intro σ g a w h;exact h.elim
     | succ m ihm =>
      intro σ g a w h S hkp
      simp only [zK5] at h
      split at h
      ·rename_i s hs
       obtain ⟨g1,S1⟩:=za8 hs S
       refine zeK (wpIn_mono (ih r n h0 D a0 _ s g1 a w hD hR h S1 hkp) ?_)
       rintro e a' w' ⟨g',σ',hK,S',hk'⟩
       cases e with
       | normal=>exact ihm σ' g' a' w' hK S' hk'
       | exit id=>exact ⟨g',σ',hK,S',hk'⟩
       | goto l=>exact ⟨g',σ',hK,S',hk'⟩
       | ret=>exact ⟨g',σ',hK,S',hk'⟩
       | panic ch=>exact ⟨g',σ',hK,S',hk'⟩
       | outgrown=>exact ⟨g',σ',hK,S',hk'⟩
      ·exact h.elim
    exact zeJ (key m σ g a w h S hkp)
   ·exact h.elim
 | exit id=>intro r n h0 D a0 K σ g a w _ _ h S hkp;exact wpIn_exit ⟨g,σ,h,S,hkp⟩
 | scope b ih =>
  intro r n h0 D a0 K σ g a w hD hR h S hkp
  refine zmk (wpIn_mono (ih r n h0 D a0 _ σ g a w hD hR h S hkp) ?_)
  rintro e a' w' ⟨g',σ',hK,S',hk'⟩
  cases e with
  | goto l=>exact hK
  | normal=>exact ⟨g',σ',hK,S',hk'⟩
  | exit l=>exact ⟨g',σ',hK,S',hk'⟩
  | ret=>exact ⟨g',σ',hK,S',hk'⟩
  | panic ch=>exact ⟨g',σ',hK,S',hk'⟩
  | outgrown=>exact ⟨g',σ',hK,S',hk'⟩
 | label l=>intro r n h0 D a0 K σ g a w _ _ h S hkp;exact wpIn_label ⟨g,σ,h,S,hkp⟩
 | ret=>intro r n h0 D a0 K σ g a w _ _ h S hkp;exact wpIn_ret ⟨g,σ,h,S,hkp⟩
 | rangeFunc f ps x y ihx ihy=>exact zqm hok ihx ihy
 | goto l=>intro r n h0 D a0 K σ g a w _ _ h S;exact h.elim
 | refuse s=>intro r n h0 D a0 K σ g a w _ _ h S;exact h.elim
end
end Go.Pm
namespace Go.Pm
open Go.RowKit (Below)

section
variable {P:Program} {Γ:Ctrs}

theorem zjH : ∀ (args : List PA) (i t : Nat) (d : DV), lk (zgJ i args) t = some d → ∃ x, args[t - i]? = some x ∧ i ≤ t ∧ d = .one (paD x)
  | [],i,t,d,h=>by simp [zgJ,lk] at h
  | x :: r,i,t,d,h=>by
    simp only [zgJ] at h
    rw [zal] at h
    split at h
    · rename_i e
      simp only [Option.some.injEq] at h
      subst e
      exact ⟨x,by simp,Nat.le_refl _,h.symm⟩
    · rename_i e
      obtain ⟨y,h1,h2,h3⟩:=zjH r (i+1) t d h
      refine ⟨y,?_,by omega,h3⟩
      rw [show t - i=(t - (i+1))+1 by omega,List.getElem?_cons_succ];exact h1

def resV (tmps : Array Value) : ResultVar → Sem Value
  | .tmp t=>pure (tmps.getD t undef)
  | .cell b t=>do loadVar t (← asAddr (tmps.getD b undef))

theorem zuv {w:World} (x:Addr):(asAddr (.pointer (some x))).run P w=.ok x w:=rfl

theorem zjI {nt B:Nat} {w0:World} {h0:Fz} {g:Gh} {σ:St} {a:Act} {w:World} (S:Sim P nt B w0 h0 g σ a w):∀ (rs:List ResultVar) (l:List PA),zop P σ rs=some l →
  ∃ (u:Upd) (vs:List Value),zdj (lk σ.objs) u ∧
   (rs.mapM (resV a.tmps)).run P w=.ok vs w ∧
   ∀ (u':Upd) (h':Fz),(∀ y∈u,y∈u')→Frozen g (lk σ.objs) u' h'→RL (paR h') l vs
 | [],l,h=>by
  simp [zop] at h;subst h
  exact ⟨[],[],zdj.nil _,rfl,fun _ _ _ _=>trivial⟩
 | .tmp t :: r,l,h=>by
  simp only [zop] at h
  split at h
  ·rename_i d hd
   split at h
   ·rename_i x u1 l2 h1 h2
    simp only [Option.some.injEq] at h;subst h
    obtain ⟨u2,vs,hu2,hrun,hr⟩:=zjI S r l2 h2
    refine ⟨u1 ++ u2,a.tmps.getD t undef :: vs,(zpY h1).append hu2,?_,fun u' h' hu F=>⟨F.repD h1 (fun y hy=>hu y (List.mem_append.2 (.inl hy))) (S.env t d hd),hr u' h' (fun y hy=>hu y (List.mem_append.2 (.inr hy))) F⟩⟩
    rw [List.mapM_cons]
    simp only [resV,Sem.run_bind,Sem.run_pure,Result.andThen_ok]
    rw [hrun];rfl
   ·cases h
  ·cases h
 | .cell t ty :: r,l,h=>by
  simp only [zop] at h
  split at h
  ·rename_i L off ag m ht hg hs
   split at h
   ·rename_i ty' cells hL
    split at h
    ·rename_i d hd
     split at h
     ·rename_i x u1 l2 h1 h2
      simp only [Option.some.injEq] at h;subst h
      obtain ⟨u2,vs,hu2,hrun,hr⟩:=zjI S r l2 h2
      obtain ⟨C,hC,hcr⟩:=S.obj L _ hL
      obtain ⟨v,hload,hv⟩:=zsB (P:=P) hg hs hC 0 (fun j y hj=>by obtain ⟨v,hv,hyv⟩:=hcr.get j y hj;exact ⟨v,by simpa using hv,hyv⟩) hd
      have hp:a.tmps.getD t undef=.pointer (some ⟨g.bk L,off,none⟩):=S.env t _ ht
      rw [Nat.zero_add] at hload
      refine ⟨u1 ++ u2,v :: vs,(zpY h1).append hu2,?_,fun u' h' hu F=>⟨F.repD h1 (fun y hy=>hu y (List.mem_append.2 (.inl hy))) hv,hr u' h' (fun y hy=>hu y (List.mem_append.2 (.inr hy))) F⟩⟩
      have h1:(resV a.tmps (.cell t ty)).run P w=.ok v w:=by
       simp only [resV,Sem.run_bind,hp,zuv,Result.andThen_ok,hload]
      rw [List.mapM_cons]
      simp only [Sem.run_bind,h1,Result.andThen_ok]
      rw [hrun];rfl
     ·cases h
    ·cases h
   ·cases h
  ·cases h

theorem zqn {nt B : Nat} {w0 : World} {h0 : Fz} {g : Gh} {σ : St} {a : Act} {w : World} (S : Sim P nt B w0 h0 g σ a w) {fn : Func} {l : List PA} (h : zop P σ fn.results.toList = some l) :
  ∃ (u:Upd) (v:Value),zdj (lk σ.objs) u∧(results fn a.tmps).run P w=.ok v w∧∀ (h':Fz),Frozen g (lk σ.objs) u h'→zAA h' l v:=by
 obtain ⟨u,vs,hu,hrun,hr⟩:=zjI S fn.results.toList l h
 refine ⟨u,if h:vs.toArray.size=1 then vs.toArray[0] else .tuple vs.toArray,hu,?_,fun h' F=>?_⟩
 ·have e : results fn a.tmps = (do let vs ← fn.results.mapM (resV a.tmps); pure (if h : vs.size = 1 then vs[0] else .tuple vs)) := rfl
  rw [e,Array.mapM_eq_mapM_toList]
  simp only [Sem.run_bind,Sem.run_map]
  rw [hrun]
  simp only [Result.andThen_ok,Sem.run_pure]
 ·have hrl := hr u h' (fun y hy => hy) F
  match l,vs,hrl with
  | [],[],_=>exact ⟨[],rfl,trivial⟩
  | [x],[v],hrl=>exact hrl.1
  | x :: y :: l,v :: v2 :: vs,hrl =>
   refine ⟨v :: v2 :: vs,?_,hrl⟩
   rw [dif_neg (by simp)]
  | [],_ :: _,hrl=>exact hrl.elim
  | [_],[],hrl=>exact hrl.elim
  | [_],_ :: _ :: _,hrl=>exact hrl.2.elim
  | _ :: _ :: _,[],hrl=>exact hrl.elim
  | _ :: _ :: _,[_],hrl=>exact hrl.2.elim

theorem Sim.unmark {nt B : Nat} {w0 : World} {h0 : Fz} {g : Gh} {σ : St} {a : Act} {w : World} (S : Sim P nt B w0 h0 g σ a w) {D : Nat} {Ds : List Nat}
    (hnd:(D :: Ds).Nodup) (hm:∀ E∈D :: Ds,B≤E∧g.h E=some (.fz (.deferred (some [])))) (h0b:∀ b o,h0 b=some o→b < B) {ds:List Deferred} (hds:ds=Ds.map (fun D=>{ target:=.collected D,args:=#[] })) :
    w.heap[D]? = some (.deferred (some []))∧Sim P nt B w0 h0 (g.re (g.h.del D)) σ { a with defers:=ds } (w.putObj D (.deferred none)):=by
  obtain ⟨hB,hb⟩:=hm D List.mem_cons_self
  have hnot:=(List.nodup_cons.1 hnd).1
  have hl:zCy g.h (g.h.del D):=fun k x hk hx=>by
    rw [Fz.del_other];exact hk
    intro e;subst e;rw [hb] at hk;simp only [Option.some.injEq] at hk;subst hk
    rcases hx with ⟨C,ty,fr,hx⟩ | ⟨F,hx⟩ | ⟨es,c,hx⟩ <;> cases hx
  have hno:∀ L x,lk σ.objs L=some x→¬ obk g L x D:=fun L x hL hk=>by have:=(S.own L x D hL hk).2;rw [hb] at this;cases this
  refine ⟨S.hw.fz hb,?_⟩
  have S1:Sim P nt B w0 h0 (g.re (g.h.del D)) σ { a with defers:=ds } w:=by
    refine ⟨⟨Ds,(List.nodup_cons.1 hnd).2,hds,fun E hE=>⟨(hm E (List.mem_cons_of_mem _ hE)).1,?_⟩⟩,S.size,fun t d ht=>zvD hl (S.env t d ht),fun L x hL=>zvE hl (S.obj L x hL),fun L x k hL hk=>?_,S.sep,?_,?_,?_,S.below,S.bs,S.clE,S.clO⟩
    · show g.h.del D E = _
      rw [Fz.del_other (fun e=>hnot (by rw [← e];exact hE))];exact (hm E (List.mem_cons_of_mem _ hE)).2
    · obtain ⟨h1, h2⟩ := S.own L x k hL hk
      refine ⟨h1,?_⟩
      show g.h.del D k=none
      unfold Fz.del
      split
      · rfl
      · exact h2
    · intro k x hk
      have hk:g.h.del D k=some x:=hk
      unfold Fz.del at hk
      split at hk
      · cases hk
      · exact S.hw k x hk
    · intro k x hk
      show g.h.del D k=some x
      rw [Fz.del_other (fun e=>by subst e;have:=h0b _ _ hk;omega)];exact S.le0 k x hk
    · intro k x hk
      have hk:g.h.del D k=some x:=hk
      unfold Fz.del at hk
      split at hk
      · cases hk
      · exact S.hn k x hk
  exact S1.putObj _ Fz.del_same hB hno

theorem zvI {nt B : Nat} {w0 : World} {h0 : Fz} {σ : St} {fn : Func} {R : Ending → World → Prop} {n : Nat} (h0b : ∀ b o, h0 b = some o → b < B) :
  ∀ (Ds:List Nat) (g:Gh) (a:Act) (w:World),Ds.Nodup→a.defers=Ds.map (fun D=>{ target:=.collected D,args:=#[] })→(∀ D∈Ds,B≤D∧g.h D=some (.fz (.deferred (some []))))→Sim P nt B w0 h0 g σ a w →
   (∀ g' a' w',a'.tmps=a.tmps→Sim P nt B w0 h0 g' σ a' w'→∃ v,(results fn a'.tmps).run P w'=.ok v w'∧R (.returned v) w')→LeavesInM (FR none) n P fn a.tmps R a.defers .returning w
 | [],g,a,w,_,ha,_,S,hR=>by
  rw [ha]
  exact hR g a w rfl S
 | D :: Ds,g,a,w,hnd,ha,hm,S,hR=>by
  obtain ⟨h1,S1⟩:=S.unmark hnd hm h0b rfl
  rw [ha,List.map_cons]
  refine ⟨by simp,.inl ⟨D,_,rfl,run_takeDeferred h1,?_⟩⟩
  have hnot:=(List.nodup_cons.1 hnd).1
  exact zvI h0b Ds _ { a with defers:=Ds.map (fun D=>{ target:=.collected D,args:=#[] }) } _ (List.nodup_cons.1 hnd).2 rfl (fun E hE=>⟨(hm E (List.mem_cons_of_mem _ hE)).1,by
   show g.h.del D E=_
   rw [Fz.del_other (fun e=>hnot (by rw [← e];exact hE))];exact (hm E (List.mem_cons_of_mem _ hE)).2⟩) S1 (fun g' a' w' ht=>hR g' a' w' ht)

theorem zoY {nt : Nat} {args : List PA} {w : World} {h0 : Fz} {vs : List Value} {m : Nat} (hnt : nt = m) (hlen : args.length ≤ nt) (hvs : RL (paR h0) args vs) (hfz : Hw h0 w) :
  Sim P nt w.heap.size w h0 ⟨h0,fun _=>0,fun _=>undef,fun _ _=>undef⟩ ⟨zgJ 0 args,[],[]⟩ { tmps:=vs.toArray ++ Array.replicate (m - vs.toArray.size) undef,defers:=[] } w:=by
 have hl:=hvs.length
 refine ⟨Marks.nil _ _,by simp;omega,?_,fun L o ho=>by simp [lk] at ho,fun L o b ho=>by simp [lk] at ho,fun L o b L' o' ho=>by simp [lk] at ho,hfz,fun _ _ h=>h,fun b o h=>.inl h,Bel.refl _ _ _,Nat.le_refl _,?_,fun L o ho=>by simp [lk] at ho⟩
 ·intro t d ht
  obtain ⟨x,hx,_,rfl⟩:=zjH args 0 t d ht
  obtain ⟨v,hv,hxv⟩:=hvs.get t x (by simpa using hx)
  have hlt:=(List.getElem?_eq_some_iff.1 hv).1
  have:(vs.toArray ++ Array.replicate (m - vs.toArray.size) undef).getD t undef=v:=by
   rw [Array.getD_eq_getD_getElem?,Array.getElem?_append_left (by simpa using hlt)]
   simp [hv]
  rw [this]
  exact zAK (g:=⟨h0,fun _=>0,fun _=>undef,fun _ _=>undef⟩) hxv
 ·intro t d ht L hL
  obtain ⟨x,hx,_,rfl⟩:=zjH args 0 t d ht
  rw [show zaS (.one (paD x))=zbh (paD x) from rfl,zmT] at hL;simp at hL

theorem zoZ {G : Ctrs} (hok : OkAll P G) {f : FuncId} {ann : Ann} {args : List PA} {Kx : Func → Exit → St → Prop} {w : World} {h0 : Fz} {vs : List Value} {R : Ending → World → Prop} {fn : Func} {c : Code}
    (hfn:P.funcs[f]? = some fn) (hbody:fn.body=some c) (hnt:ann.nt=fn.ntmps) (hlen:args.length≤ann.nt) (hv:vc P G ann c (Kx fn) ⟨zgJ 0 args,[],[]⟩) (hvs:RL (paR h0) args vs) (hfz:Hw h0 w)
    (hend:∀ e σ g a w',Kx fn e σ→Sim P ann.nt w.heap.size w h0 g σ a w'→(e=.normal∨e=.ret)∧∃ v,(results fn a.tmps).run P w'=.ok v w'∧R (.returned v) w'):Calls P f vs.toArray w R:=by
  have S:=zoY (P:=P) hnt hlen hvs hfz
  have hwp:=zIu (B:=w.heap.size) (w0:=w) hok ann c none 0 h0 (zlE c) _ (Kx fn) _ _ _ _ (fun _ h=>h) (Rnd.none h0) hv S (Kp.refl _ _)
  refine (callsIn_wide (n:=0)).1 ?_
  refine callsIn_of_wp_marks (F:=FR none) hfn hbody trivial (wpIn_mono hwp ?_)
  have h0b:∀ b o,h0 b=some o→b < w.heap.size:=fun b o h=>hfz.lt h
  rintro e a' w' ⟨g',σ',hK',S',_⟩
  have fin:LeavesInM (FR none) 0 P fn a'.tmps R a'.defers .returning w':=by
    obtain ⟨Ds,h1,h2,h3⟩:=S'.dfr
    exact zvI h0b Ds g' a' w' h1 h2 h3 S' fun g2 a2 w2 _ S2=>(hend e σ' g2 a2 w2 hK' S2).2
  rcases (hend e σ' g' a' w' hK' S').1 with rfl | rfl
  · exact fin
  · exact fin

theorem zvJ {G : Ctrs} (hok : OkAll P G) {f : FuncId} {args : List PA} {K : List PA → Prop} {ann : Ann} (hv : vcFun P G ann f args K) {w : World} {h0 : Fz} {vs : List Value} (hvs : RL (paR h0) args vs) (hfz : Hw h0 w) :
  Calls P f vs.toArray w fun e w'=>∃ (h':Fz) (rs:List PA) (v:Value),K rs∧e=.returned v∧zAA h' rs v∧Bel h0 w.heap.size w w' ∧
   Fle h0 h'∧Hw h' w'∧∀ b o,h' b=some o→h0 b=some o∨w.heap.size≤b:=by
 unfold vcFun at hv
 split at hv
 ·rename_i fn hfn
  split at hv
  ·rename_i c hbody
   split at hv
   ·rename_i hnt
    simp only [Bool.and_eq_true,Nat.ble_eq] at hnt
    refine zoZ (G:=G) hok (Kx:=fun fn=>zcA P fn K) hfn hbody (Nat.eq_of_beq_eq_true hnt.1) hnt.2 hv hvs hfz ?_
    intro e σ' g' a' w' hK' S'
    have fin:zK6 P fn K σ'→∃ v,(results fn a'.tmps).run P w'=.ok v w' ∧
      (∃ (h':Fz) (rs:List PA) (v_1:Value),K rs∧Ending.returned v=.returned v_1∧zAA h' rs v_1∧Bel h0 w.heap.size w w'∧Fle h0 h'∧Hw h' w'∧∀ b o,h' b=some o→h0 b=some o∨w.heap.size≤b):=by
     intro hf
     unfold zK6 at hf
     split at hf
     ·rename_i l hl
      obtain ⟨u,v,hu,hrun,hres⟩:=zqn S' hl
      obtain ⟨h',S2,F⟩:=S'.freeze hu
      exact ⟨v,hrun,h',l,v,hf,rfl,hres h' F,S2.below,S2.le0,S2.hw,S2.hn⟩
     ·exact hf.elim
    cases e with
    | normal=>exact ⟨.inl rfl,fin hK'⟩
    | ret=>exact ⟨.inr rfl,fin hK'⟩
    | exit id=>exact hK'.elim
    | goto l=>exact hK'.elim
    | panic ch=>exact hK'.elim
    | outgrown=>exact hK'.elim
   ·exact hv.elim
  ·exact hv.elim
 ·exact hv.elim
theorem zA3 {G : Ctrs} (hok : OkAll P G) {f : FuncId} {C : List PA → COut} (hc : zai P f)
    (h:∀ args K,(C args).wp K→∃ memo vv ann,vcFun P { G with memo:=memo,vv:=vv } ann f args K):Ok P f C:=by
  intro args K hK w h0 vs hvs hfz
  obtain ⟨memo,vv,ann,hv⟩:=h args K hK
  exact ⟨hc,zvJ (G:={ G with memo:=memo,vv:=vv }) ⟨hok.fn,hok.own,hok.it⟩ hv hvs hfz⟩
end
end Go.Pm
namespace Go.Pm
open Go.RowKit (Below)

section
variable {P:Program} {Γ:Ctrs} {nt:Nat} {n:Nat}

theorem zA4 {o : Oper} {a : Act} {w w' : World} {R : Act → World → Prop} {Q : Exit → Act → World → Prop} (hnd : ∀ c, o.op ≠ .defer c) {l f : Nat} {tmps : Array Value} {x y : Code} (h : (execOp a.eval o).run P w = .ok (.round l f tmps x y) w')
    (hR:RoundIn Fence.wide (n - 1) P l f tmps x y w' fun e w''=>∃ v,e=.returned v∧R (a.put o.dst v) w''):o.wpIn (FR none) n P a w R Q:=by
  refine ⟨fun _ _=>trivial,?_⟩
  rw [Oper.semAt_eq _ _ _ hnd,h,Oper.uponIn_round]
  refine ⟨fun h=>by simp [FR] at h,?_⟩
  have hR':RoundIn (FR none) (n - 1) P l f tmps x y w' fun e w''=>∃ v,e=.returned v∧R (a.put o.dst v) w'':=hR
  refine hR'.mono ?_
  rintro e w'' ⟨v,rfl,hv⟩
  exact hv

theorem zqo {h : Fz} {g : Gh} (hg : g.h = h) : ∀ {ds : List DV} {l : List PA} {vs : List Value}, zfW ds = some l → RL (dvR g) ds vs → RL (paR h) l vs
  | [],l,vs,h,hr=>by
    simp only [zfW,Option.some.injEq] at h;subst h
    cases vs with
    | nil=>trivial
    | cons=>exact hr.elim
  | d :: ds,l,[],h,hr=>hr.elim
  | .one (.c (.p p)) :: ds,l,v :: vs,h,hr=>by
    simp only [zfW] at h
    split at h
    · rename_i l' hl'
      simp only [Option.some.injEq] at h;subst h
      refine ⟨?_,zqo hg hl' hr.2⟩
      have:=hr.1
      rw [← hg]
      exact this
    · cases h
  | .one (.agg cs) :: ds,l,v :: vs,h,hr=>by
    simp only [zfW] at h
    split at h
    · rename_i l' m' hc hm'
      simp only [Option.some.injEq] at h;subst h
      refine ⟨?_,zqo hg hm' hr.2⟩
      obtain ⟨us,rfl,hus⟩:=hr.1
      rw [zem hc] at hus
      have:=RL.map_left.1 hus
      exact ⟨us,rfl,by rw [← hg];exact this⟩
    · cases h
  | .one (.c (.ptr _ _)) :: ds,l,v :: vs,h,hr=>by simp [zfW] at h
  | .one (.c (.vptr _ _ _ _)) :: ds,l,v :: vs,h,hr=>by simp [zfW] at h
  | .one (.c (.vec _)) :: ds,l,v :: vs,h,hr=>by simp [zfW] at h
  | .one (.c (.ivec _ _)) :: ds,l,v :: vs,h,hr=>by simp [zfW] at h
  | .one (.c (.iptr _ _ _ _ _)) :: ds,l,v :: vs,h,hr=>by simp [zfW] at h
  | .one (.c .undef) :: ds,l,v :: vs,h,hr=>by simp [zfW] at h
  | .one (.c .junk) :: ds,l,v :: vs,h,hr=>by simp [zfW] at h
  | .one (.c (.dead _)) :: ds,l,v :: vs,h,hr=>by simp [zfW] at h
  | .tup _ :: ds,l,v :: vs,h,hr=>by simp [zfW] at h

variable (J Jx:List (List PA)→Fz→World→Prop)

def JQ (q:Bool) (ys:List (List PA)) (h:Fz) (w:World):Prop :=
 match q with
 | false=>J ys h w
 | true=>∃ rest,Jx rest h w

def zA5 (P:Program) (nt:Nat) (hs:Fz) (K:YK):Exit→Act→World→Prop :=
 fun e a' w'=>∃ ys q σ w0 h0 g,K e ys q σ∧Sim P nt w0.heap.size w0 h0 g σ a' w'∧Fle hs h0∧JQ J Jx q ys h0 w0∧a'.defers=[]

variable {J Jx}
theorem JQ.later {q:Bool} {ys:List (List PA)} {h0:Fz} {w0:World} {g:Gh} {σ:St} {a:Act} {w:World} (hJ:JSt J) (hJx:JSt Jx) (h:JQ J Jx q ys h0 w0) (S:Sim P nt w0.heap.size w0 h0 g σ a w):JQ J Jx q ys g.h w:=by
 cases q with
 | false=>exact hJ _ _ _ _ _ h S.le0 S.hw S.hn S.below
 | true=>obtain ⟨rest,h⟩:=h;exact ⟨rest,hJx _ _ _ _ _ h S.le0 S.hw S.hn S.below⟩

def YH (P:Program) (J Jx:List (List PA)→Fz→World→Prop) (l:Nat):Prop :=
 ∀ y rest h W us,J (y :: rest) h W→RL (paR h) y us→Hw h W→∀ n,∃ fn tmps assign body,(Instr.yield l us.toArray).run P W=.ok (.round l fn tmps assign body) W ∧
   RoundIn Fence.wide n P l fn tmps assign body W fun e W'=>∃ h',Fle h h'∧Hw h' W'∧((e=.returned (.bool true)∧J rest h' W')∨(e=.returned (.bool false)∧Jx rest h' W'))

theorem zeo {kl : List Nat} {l : List (Nat × DV)} : ∀ {ks : List Nat} {t : Nat} {d : DV}, lk (zf7 kl l ks) t = some d → lk l t = some d ∧ ∀ L ∈ zaS d, L ∈ kl
  | [],t,d,h=>by simp [zf7,lk] at h
  | k :: ks,t,d,h=>by
    simp only [zf7] at h
    split at h
    · rename_i d' hd'
      split at h
      · rename_i hl
        rw [zal] at h
        split at h
        · rename_i e
          simp only [Option.some.injEq] at h;subst h;subst e
          refine ⟨hd',fun L hL=>?_⟩
          have:=List.all_eq_true.1 hl L hL
          simpa using this
        · exact zeo h
      · exact zeo h
    · exact zeo h

theorem zm4 {ob : Nat → Option AO} : ∀ {ks : List Nat} {x : Nat × AO}, x ∈ zt6 ob ks → ∃ l, ob x.1 = some (.fbox l) ∧ x.2 = .fbox l
  | [],x,h=>by simp [zt6] at h
  | k :: ks,x,h=>by
    simp only [zt6] at h
    split at h
    · rename_i l hk
      rcases List.mem_cons.1 h with rfl | h
      · exact ⟨l,hk,rfl⟩
      · exact zm4 h
    · exact zm4 h
theorem ziP {σ:St} {L:Nat} {o:AO} (h:lk (zAy σ) L=some o):∃ l,o=.fbox l∧lk (zt4 (lk σ.objs) (σ.objs.map (·.1)) ++ σ.objs) L=some (.fbox l):=by
 unfold zAy at h
 rw [zcy] at h ⊢
 cases hb:lk (zt4 (lk σ.objs) (σ.objs.map (·.1))) L with
 | some x =>
  rw [hb] at h
  simp only [Option.some.injEq] at h
  subst h
  obtain ⟨ty,cells,l,_,h2,_⟩:=zjr (zcI hb)
  have h2:x=.fbox l:=h2
  subst h2
  exact ⟨l,rfl,rfl⟩
 | none =>
  rw [hb] at h
  simp only at h
  obtain ⟨l,h1,h2⟩:=zm4 (zcI h)
  exact ⟨l,h2,h1⟩
theorem zf1 {α : Type} : ∀ {l : List (Nat × α)} {L : Nat}, L ∈ l.map (·.1) → ∃ o, lk l L = some o
  | [],L,h=>by simp at h
  | (k,a) :: r,L,h=>by
    rw [zal]
    split
    · exact ⟨a,rfl⟩
    · rename_i hne
      simp only [List.map_cons,List.mem_cons] at h
      rcases h with rfl | h
      · exact absurd rfl hne
      · exact zf1 h

theorem zA6 {σ : St} {o : Oper} {args : Array Operand} {t l : Nat} (h : zLq σ o = some (args, t, l)) :
  ∃ f ts,o.op=.call { callee:=.value f,args,argTypes:=ts }∧o.guard=none∧o.dst=some t∧evO σ.env f=.one (.c (.p (.yl l))):=by
 unfold zLq at h
 split at h
 ·rename_i f as ts t' hop hg hd
  split at h
  ·rename_i l hl
   simp only [Option.some.injEq,Prod.mk.injEq] at h
   obtain ⟨rfl,rfl,rfl⟩:=h
   exact ⟨f,ts,hop,hg,hd,hl⟩
  ·cases h
 ·cases h

theorem zo0 (hok : OkAll P Γ) {l : Nat} (hJ : JSt J) (hJx : JSt Jx) (hY : YH P J Jx l) {hs : Fz} {ops : Array Oper} {K : List (List PA) → Bool → St → Prop} {Q : Exit → Act → World → Prop}
    (hQ:∀ ys q σ w0 h0 g a w,K ys q σ→Sim P nt w0.heap.size w0 h0 g σ a w→Fle hs h0→JQ J Jx q ys h0 w0→a.defers=[]→Q .normal a w) :
    ∀ (lo:List Oper) (i:Nat) (ys:List (List PA)) (q:Bool) (σ:St) (w0:World) (h0:Fz) (g:Gh) (a:Act) (w:World),(∀ j,lo[j]? = ops[i+j]?)→zi9 P Γ nt l lo K ys q σ →
      Sim P nt w0.heap.size w0 h0 g σ a w→Fle hs h0→JQ J Jx q ys h0 w0→a.defers=[]→wpOpsIn (FR none) n P ops Q (List.range' i lo.length) a w:=by
  intro lo
  induction lo with
  | nil=>intro i ys q σ w0 h0 g a w _ h S hle hj hd;exact hQ ys q σ w0 h0 g a w h S hle hj hd
  | cons o lo ih =>
    intro i ys q σ w0 h0 g a w hl h S hle hj hdf
    have ho:ops[i]? = some o:=by have:=hl 0;simpa using this.symm
    have hl':∀ j,lo[j]? = ops[i+1+j]?:=fun j=>by have:=hl (j+1);rw [List.getElem?_cons_succ] at this;rw [this];congr 1;omega
    simp only [List.length_cons,List.range'_succ,wpOpsIn,ho]
    simp only [zi9] at h
    split at h
    · rename_i args t l1 hyl
      obtain ⟨f,ts,hop,hg,hdst,hf⟩:=zA6 hyl
      rw [if_pos (by simp [Region.wanted,hg])]
      split at h
      · rename_i y hy ht
        obtain ⟨rfl,rest,rfl,htr,hfa⟩:=h
        have hfn:=zca S hf
        generalize hfv:a.eval f=fvv at hfn
        cases hfn with
        | yl _ =>
          obtain ⟨h1,S1,_⟩:=S.freeze (zsN (ob:=lk σ.objs) (ks:=σ.objs.map (·.1)))
          have hJn:J (y :: rest) h1 w:=hj.later hJ hJx S1
          have hus:RL (paR h1) y (args.toList.map a.eval):=zqo (g:=⟨h1,g.bk,g.sv,g.iv⟩) rfl hy (zDT S1 args.toList)
          obtain ⟨fn,tmps,x,c,hrun,hround⟩:=hY y rest h1 w _ hJn hus S1.hw (n - 1)
          refine zA4 (by simp [hop]) (l:=l1) (f:=fn) (tmps:=tmps) (x:=x) (y:=c) (w':=w) ?_ (hround.mono ?_)
          · simp only [execOp, hop, resolve, hfv, Deferred.ofValue, Sem.run_bind, Sem.run_pure, Result.andThen_ok, invoke]
            rw [show (#[] ++ Array.map a.eval args)=(args.toList.map a.eval).toArray by cases args;simp]
            exact hrun
          · have hto : zbF nt (some t) = true := ht
            have next:∀ (b:Bool) (h':Fz) (W':World),Fle h1 h'→Hw h' W'→JQ J Jx (!b) rest h' W'→zi9 P Γ nt l1 lo K rest (!b) ((zmC σ).setT t (.bool b)) →
                wpOpsIn (FR none) n P ops Q (List.range' (i+1) lo.length) (a.put o.dst (.bool b)) W':=by
              intro b h' W' hle' hw' hj' hv'
              have S0:Sim P nt W'.heap.size W' h' ⟨h',g.bk,g.sv,g.iv⟩ (zmC σ) a W':=by
                refine ⟨by rw [hdf];exact Marks.nil _ _,S.size,?_,fun L o ho=>?_,fun L o b ho hob=>?_,fun L o b L' o' ho ho' hob hob'=>?_,hw',fun _ _ h=>h,fun b o h=>.inl h,Bel.refl _ _ _,Nat.le_refl _,?_,fun L o ho M hM=>?_⟩
                · intro u d hu
                  obtain ⟨h2,_⟩:=zeo hu
                  exact zsv (g:=⟨h1,g.bk,g.sv,g.iv⟩) (g':=⟨h',g.bk,g.sv,g.iv⟩) (fun L hL=>⟨rfl,rfl,rfl⟩) hle' (S1.env u d h2)
                · obtain ⟨l, rfl, h2⟩ := ziP ho
                  obtain ⟨C,ty,fr,hC,hr⟩:=S1.obj L _ h2
                  exact ⟨C,ty,fr,hle' _ _ hC,hr.mono fun _ _=>Rep.mono hle'⟩
                · obtain ⟨l,rfl,_⟩:=ziP ho;exact hob.elim
                · obtain ⟨l,rfl,_⟩:=ziP ho;exact hob.elim
                · intro u d hu L hL
                  exact zf1 ((zeo hu).2 L hL)
                · obtain ⟨l,rfl,_⟩:=ziP ho;simp [zbM] at hM
              have S2:=S0.put (dst:=some t) (d:=.bool b) (v:=.bool b) hto (.bool b) (zdc _) []
              rw [hdst]
              exact ih (i+1) rest (!b) _ W' h' _ _ W' hl' hv' S2 (fun b o hb=>hle' b o (S1.le0 b o (hle b o hb))) hj' ((put_defers _ _ _).trans hdf)
            rintro e W' ⟨h',hle',hw',(⟨rfl,hj'⟩ | ⟨rfl,hj'⟩)⟩
            · exact ⟨_,rfl,next true h' W' hle' hw' hj' htr⟩
            · exact ⟨_,rfl,next false h' W' hle' hw' ⟨rest,hj'⟩ hfa⟩
      · exact h.elim
    · split at h
      · rename_i hd hg
        rw [if_pos (by simp [Region.wanted,hg])]
        obtain ⟨hs',hk⟩:=zjd.1 h
        refine zjB (zjl (i:=0) (Q:=Q) (r:=none) (n:=n) hok S hd rfl hs') ?_
        rintro a' w' ⟨hdf',g',σ',hst,S'⟩
        exact ih (i+1) ys q _ w0 h0 g' a' w' hl' (hk σ' hst) (S'.log _) hle hj (hdf'.trans hdf)
      · exact h.elim

theorem zvK (hok:OkAll P Γ) (ann:Ann) {l:Nat} (hJ:JSt J) (hJx:JSt Jx) (hY:YH P J Jx l) {hs:Fz} : ∀ (c:Code) (K:YK) (ys:List (List PA)) (q:Bool) (σ:St) (w0:World) (h0:Fz) (g:Gh) (a:Act) (w:World),
  vcY P Γ ann l c K ys q σ→Sim P ann.nt w0.heap.size w0 h0 g σ a w→Fle hs h0→JQ J Jx q ys h0 w0→a.defers=[]→c.wpIn (FR none) n P (zA5 J Jx P ann.nt hs K) a w:=by
 intro c
 induction c with
 | skip=>intro K ys q σ w0 h0 g a w h S hle hj hd;exact wpIn_skip ⟨ys,q,σ,w0,h0,g,h,S,hle,hj,hd⟩
 | region id ops draw =>
  intro K ys q σ w0 h0 g a w h S hle hj hd
  simp only [vcY] at h
  split at h
  ·-- a region that yields
   refine wpIn_region ?_
   have:=zo0 (n:=n) hok hJ hJx hY (hs:=hs) (ops:=ops) (Q:=zA5 J Jx P ann.nt hs K) (fun ys q σ w0 h0 g a w h S hle hj hd=>?_) ops.toList 0 ys q _ w0 h0 g a w (fun j=>by simp) h (S.log _) hle hj hd
   ·rw [List.range_eq_range']
    simpa using this
   ·split at h
    ·split at h
     ·rename_i s hs'
      obtain ⟨g2,S2⟩:=za8 hs' S
      exact ⟨ys,q,s,w0,h0,g2,h,S2,hle,hj,hd⟩
     ·exact h.elim
    ·exact ⟨ys,q,_,w0,h0,g,h,S.log _,hle,hj,hd⟩
  ·exact h.elim
  ·exact zoX (r:=none) (n:=n) hok ann (D:=zAl ops.toList) (a0:=a) (fun _ h=>h) h S (Kp.refl _ _) fun g' σ' a' w' hK S' _ hdf=>⟨ys,q,σ',w0,h0,g',hK,S',hle,hj,hdf.trans hd⟩
 | seq x y ihx ihy =>
  intro K ys q σ w0 h0 g a w h S hle hj hd
  refine wpIn_seq (wpIn_mono (ihx _ ys q σ w0 h0 g a w h S hle hj hd) ?_)
  rintro e a' w' ⟨ys',q',σ',w1,h1,g',hK,S',hle',hj',hd'⟩
  cases e with
  | normal =>
   simp only [zH8,zIa] at hK
   split at hK
   ·split at hK
    ·rename_i s hs
     obtain ⟨g2,S2⟩:=za8 hs S'
     exact ihy K ys' q' s w1 h1 g2 a' w' hK S2 hle' hj' hd'
    ·exact hK.elim
   ·exact ihy K ys' q' σ' w1 h1 g' a' w' hK S' hle' hj' hd'
  | exit id=>exact ⟨ys',q',σ',w1,h1,g',hK,S',hle',hj',hd'⟩
  | goto l=>exact ⟨ys',q',σ',w1,h1,g',hK,S',hle',hj',hd'⟩
  | ret=>exact ⟨ys',q',σ',w1,h1,g',hK,S',hle',hj',hd'⟩
  | panic ch=>exact ⟨ys',q',σ',w1,h1,g',hK,S',hle',hj',hd'⟩
  | outgrown=>exact ⟨ys',q',σ',w1,h1,g',hK,S',hle',hj',hd'⟩
 | cond c x y ihx ihy =>
  intro K ys q σ w0 h0 g a w h S hle hj hd
  simp only [vcY] at h
  split at h
  ·rename_i t ht
   have hv:=zfG S ht
   have hS:∀ b,t=b→Sim P ann.nt w0.heap.size w0 h0 g (zt5 σ c b) a w:=by
    intro b hb
    cases c with
    | tmp q =>
     refine S.env' (t:=q) (d:=.bool b) ?_ (zdc _)
     have:a.tmps.getD q undef=.bool t:=hv
     rw [this,hb];exact .bool b
    | _=>exact S
   have h2:=zgF.1 h
   refine wpIn_cond hv ?_
   cases t with
   | true=>exact ihx K ys q _ w0 h0 g a w (h2.1 rfl) (hS true rfl) hle hj hd
   | false=>exact ihy K ys q _ w0 h0 g a w (h2.2 rfl) (hS false rfl) hle hj hd
  ·exact h.elim
 | block id b ih =>
  intro K ys q σ w0 h0 g a w h S hle hj hd
  refine wpIn_block (wpIn_mono (ih _ ys q σ w0 h0 g a w h S hle hj hd) ?_)
  rintro e a' w' ⟨ys',q',σ',w1,h1,g',hK,S',hle',hj',hd'⟩
  cases e with
  | exit j =>
   simp only [zdb] at hK
   simp only [Exit.inBlock]
   split at hK
   ·rename_i hj;rw [if_pos (Nat.eq_of_beq_eq_true hj)];exact ⟨ys',q',σ',w1,h1,g',hK,S',hle',hj',hd'⟩
   ·rename_i hj;rw [if_neg (Nat.ne_of_beq_eq_false hj)];exact ⟨ys',q',σ',w1,h1,g',hK,S',hle',hj',hd'⟩
  | normal=>exact ⟨ys',q',σ',w1,h1,g',hK,S',hle',hj',hd'⟩
  | goto l=>exact ⟨ys',q',σ',w1,h1,g',hK,S',hle',hj',hd'⟩
  | ret=>exact ⟨ys',q',σ',w1,h1,g',hK,S',hle',hj',hd'⟩
  | panic ch=>exact ⟨ys',q',σ',w1,h1,g',hK,S',hle',hj',hd'⟩
  | outgrown=>exact ⟨ys',q',σ',w1,h1,g',hK,S',hle',hj',hd'⟩
 | loop b ih =>
  intro K ys q σ w0 h0 g a w h S hle hj hd
  simp only [vcY] at h
  split at h
  ·rename_i k hk
   split at h
   ·rename_i s hs'
    obtain ⟨g1,S1⟩:=za8 hs' S
    refine zeJ ?_
    have key:=h (fun ys q s=>∀ w0 h0 g a w,Sim P ann.nt w0.heap.size w0 h0 g s a w→Fle hs h0→JQ J Jx q ys h0 w0→a.defers=[]→zql (FR none) n P b (zA5 J Jx P ann.nt hs K) a w) ?_
    ·exact key w0 h0 g1 a w S1 hle hj hd
    ·intro ys q s hs2 w0 h0 g a w S hle hj hd
     refine zeK (wpIn_mono (ih _ ys q s w0 h0 g a w hs2 S hle hj hd) ?_)
     rintro e a' w' ⟨ys',q',σ',w1,h1,g',hK,S',hle',hj',hd'⟩
     cases e with
     | normal =>
      simp only [ziD,hk] at hK
      split at hK
      ·rename_i s2 hs2
       obtain ⟨g2,S2⟩:=za8 hs2 S'
       exact hK w1 h1 g2 a' w' S2 hle' hj' hd'
      ·exact hK.elim
     | exit id=>exact ⟨ys',q',σ',w1,h1,g',hK,S',hle',hj',hd'⟩
     | goto l=>exact ⟨ys',q',σ',w1,h1,g',hK,S',hle',hj',hd'⟩
     | ret=>exact ⟨ys',q',σ',w1,h1,g',hK,S',hle',hj',hd'⟩
     | panic ch=>exact ⟨ys',q',σ',w1,h1,g',hK,S',hle',hj',hd'⟩
     | outgrown=>exact ⟨ys',q',σ',w1,h1,g',hK,S',hle',hj',hd'⟩
   ·exact h.elim
  ·split at h
   ·rename_i m k hk
    have key:∀ (m:Nat) (ys:List (List PA)) (q:Bool) (σ:St) (w0:World) (h0:Fz) (g:Gh) (a:Act) (w:World),zAz P k (vcY P Γ ann l b) m K ys q σ→Sim P ann.nt w0.heap.size w0 h0 g σ a w→Fle hs h0→JQ J Jx q ys h0 w0→a.defers=[] →
      zql (FR none) n P b (zA5 J Jx P ann.nt hs K) a w:=by
     intro m
     induction m with
     | zero=>intro ys q σ w0 h0 g a w h;exact h.elim
     | succ m ihm =>
      intro ys q σ w0 h0 g a w h S hle hj hd
      simp only [zAz] at h
      split at h
      ·rename_i s hs'
       obtain ⟨g1,S1⟩:=za8 hs' S
       refine zeK (wpIn_mono (ih _ ys q s w0 h0 g1 a w h S1 hle hj hd) ?_)
       rintro e a' w' ⟨ys',q',σ',w1,h1,g',hK,S',hle',hj',hd'⟩
       cases e with
       | normal=>exact ihm ys' q' σ' w1 h1 g' a' w' hK S' hle' hj' hd'
       | exit id=>exact ⟨ys',q',σ',w1,h1,g',hK,S',hle',hj',hd'⟩
       | goto l=>exact ⟨ys',q',σ',w1,h1,g',hK,S',hle',hj',hd'⟩
       | ret=>exact ⟨ys',q',σ',w1,h1,g',hK,S',hle',hj',hd'⟩
       | panic ch=>exact ⟨ys',q',σ',w1,h1,g',hK,S',hle',hj',hd'⟩
       | outgrown=>exact ⟨ys',q',σ',w1,h1,g',hK,S',hle',hj',hd'⟩
      ·exact h.elim
    exact zeJ (key m ys q σ w0 h0 g a w h S hle hj hd)
   ·exact h.elim
 | exit id=>intro K ys q σ w0 h0 g a w h S hle hj hd;exact wpIn_exit ⟨ys,q,σ,w0,h0,g,h,S,hle,hj,hd⟩
 | scope b ih =>
  intro K ys q σ w0 h0 g a w h S hle hj hd
  refine zmk (wpIn_mono (ih _ ys q σ w0 h0 g a w h S hle hj hd) ?_)
  rintro e a' w' ⟨ys',q',σ',w1,h1,g',hK,S',hle',hj',hd'⟩
  cases e with
  | goto l=>exact hK
  | normal=>exact ⟨ys',q',σ',w1,h1,g',hK,S',hle',hj',hd'⟩
  | exit l=>exact ⟨ys',q',σ',w1,h1,g',hK,S',hle',hj',hd'⟩
  | ret=>exact ⟨ys',q',σ',w1,h1,g',hK,S',hle',hj',hd'⟩
  | panic ch=>exact ⟨ys',q',σ',w1,h1,g',hK,S',hle',hj',hd'⟩
  | outgrown=>exact ⟨ys',q',σ',w1,h1,g',hK,S',hle',hj',hd'⟩
 | label l=>intro K ys q σ w0 h0 g a w h S hle hj hd;exact wpIn_label ⟨ys,q,σ,w0,h0,g,h,S,hle,hj,hd⟩
 | ret=>intro K ys q σ w0 h0 g a w h S hle hj hd;exact wpIn_ret ⟨ys,q,σ,w0,h0,g,h,S,hle,hj,hd⟩
 | rangeFunc f ps x y _ _=>intro K ys q σ w0 h0 g a w h S;exact h.elim
 | goto l=>intro K ys q σ w0 h0 g a w h S;exact h.elim
 | refuse s=>intro K ys q σ w0 h0 g a w h S;exact h.elim

theorem zA7 {G : Ctrs} (hok : OkAll P G) {f : FuncId} {C : List PA → Option (Prop × List (List PA))} (hc : zai P f)
    (h:∀ l caps safe ys,C caps=some (safe,ys)→safe→∃ memo vv ann,vcIter P { G with memo:=memo,vv:=vv } ann f l caps ys):zCn P f C:=by
  intro caps safe ys hC hsafe l J Jx w h0 vs hJ hJx hY hj0 hvs hfz
  refine ⟨hc,?_⟩
  obtain ⟨memo,vv,ann,hv⟩:=h l caps safe ys hC hsafe
  unfold vcIter at hv
  split at hv
  · rename_i fn hfn
    split at hv
    · rename_i c hbody
      split at hv
      · rename_i hnt
        simp only [Bool.and_eq_true,Nat.ble_eq] at hnt
        obtain ⟨⟨hnt,hlen⟩,hres⟩:=hnt
        have S:=zoY (P:=P) (args:=.one (.yl l) :: caps) (vs:=.func (.yield l) #[] #[] :: vs) (h0:=h0) (w:=w) (Nat.eq_of_beq_eq_true hnt) (by simpa using hlen) ⟨.yl l,hvs⟩ hfz
        have hwp:=zvK (n:=0) (Γ:={ G with memo:=memo,vv:=vv }) (J:=J) (Jx:=Jx) (hs:=h0) ⟨hok.fn,hok.own,hok.it⟩ ann (l:=l) hJ hJx hY c _ ys false _ w h0 _ _ w hv S (fun _ _ h=>h) hj0 rfl
        refine (callsIn_wide (n:=0)).1 ?_
        refine callsIn_of_wp (F:=FR none) hfn hbody trivial (wpIn_mono hwp ?_)
        rintro e a' w' ⟨ys',q',σ',w1,h1,g',hK,S',hle,hj,hd⟩
        have fin:zK7 ys' q'→a'.defers=[]∧∃ v,(results fn a'.tmps).run P w'=.ok v w'∧∃ v2 h',Ending.returned v=.returned v2∧Fle h0 h'∧Hw h' w'∧(J [] h' w'∨∃ rest,Jx rest h' w'):=by
          intro hf
          have hr:fn.results = #[]:=by simpa using hres
          refine ⟨hd,.tuple #[],?_,_,g'.h,rfl,fun b o hb=>S'.le0 b o (hle b o hb),S'.hw,?_⟩
          · simp [results,hr]
          · have := hj.later hJ hJx S'
            cases q' with
            | false=>simp only [zK7] at hf;subst hf;exact .inl this
            | true=>exact .inr this
        cases e with
        | normal=>exact fin hK
        | ret=>exact fin hK
        | exit id=>exact hK.elim
        | goto l=>exact hK.elim
        | panic ch=>exact hK.elim
        | outgrown=>exact hK.elim
      · exact hv.elim
    · exact hv.elim
  · exact hv.elim

def zNs (P:Program) (fn:Func) (e s b n:Nat) (get:Nat→List PV):Exit→St→Prop:=fun ex σ =>
 (match ex with | .normal=>True | .ret=>True | _=>False)∧match fn.results.toList with
 | [.tmp t]=>match lk σ.env t with
  | some (.one (.c (.vec L)))=>match lk σ.objs L with
   | some (.vec e' s' b' n' get')=>e'=e∧s'=s∧b'=b∧n'=n∧∀ i,i < n→get' i=get i
   | _=>False
  | some (.one (.c (.p .nils)))=>n=0
  | _=>False
 | _=>False
def zvL (P:Program) (Γ:Ctrs) (ann:Ann) (f:FuncId) (args:List PA) (e s b n:Nat) (get:Nat→List PV):Prop :=
 match P.funcs[f]? with
 | some fn=>match fn.body with
  | some c=>match Nat.beq ann.nt fn.ntmps && Nat.ble args.length ann.nt with
   | true=>vc P Γ ann c (zNs P fn e s b n get) ⟨zgJ 0 args,[],[]⟩
   | false=>False
  | none=>False
 | none=>False

theorem zqp {G : Ctrs} (hok : OkAll P G) {f : FuncId} {e s b : Nat} (hc : zai P f)
    (h:∀ n get,n * b≤140737488355328→n≤9223372036854775807→∃ memo vv ann,zvL P { G with memo:=memo,vv:=vv } ann f [.one (.sl n s get)] e s b n get):zmD P f (.clone e s b):=by
  intro w h0 v n get hv hfz h1 h2
  refine ⟨hc,?_⟩
  obtain ⟨memo,vv,ann,hv'⟩:=h n get h1 h2
  unfold zvL at hv'
  split at hv'
  · rename_i fn hfn
    split at hv'
    · rename_i c hbody
      split at hv'
      · rename_i hnt
        simp only [Bool.and_eq_true,Nat.ble_eq] at hnt
        refine zoZ (G:={ G with memo:=memo,vv:=vv }) ⟨hok.fn,hok.own,hok.it⟩ (Kx:=fun fn=>zNs P fn e s b n get) (vs:=[v]) hfn hbody (Nat.eq_of_beq_eq_true hnt.1) hnt.2 hv' ⟨hv,trivial⟩ hfz ?_
        intro ex σ' g' a' w' hK' S'
        obtain ⟨hex,hK'⟩:=hK'
        refine ⟨by cases ex <;> first | exact .inl rfl | exact .inr rfl | exact hex.elim,?_⟩
        split at hK'
        · rename_i t hres
          have hr:fn.results = #[.tmp t]:=by rw [← Array.toArray_toList (xs:=fn.results),hres]
          have hrun:(results fn a'.tmps).run P w'=.ok (a'.tmps.getD t undef) w':=by
            simp only [results,hr]
            simp
          split at hK'
          · rename_i L hL
            split at hK'
            · rename_i e' s' b' n' get' hob
              obtain ⟨rfl,rfl,rfl,rfl,hg⟩:=hK'
              have hvt:=S'.env t _ hL
              obtain ⟨hvt,hone⟩:=hvt
              refine ⟨_,hrun,g'.h,g'.sv L,by rw [hvt],by rw [← hvt];exact hone,?_,fun k hk=>(S'.own L _ k hob hk).2,S'.below,S'.le0,S'.hw,S'.hn⟩
              obtain ⟨_,_,xs,hxs,hr⟩:=S'.obj L _ hob
              exact ⟨xs,hxs,fun i hi=>by rw [← hg i hi];exact hr i hi⟩
            · exact hK'.elim
          · rename_i hL
            subst hK'
            have hvt:a'.tmps.getD t undef=.slice none 0 0:=zgM (S'.env t _ hL)
            exact ⟨_,hrun,g'.h,.slice none 0 0,by rw [hvt],rfl,⟨[],World.ownsRow_nil w' _ e s,fun i hi=>absurd hi (by omega)⟩,fun k hk=>(by simp [Value.ownBlock] at hk),S'.below,S'.le0,S'.hw,S'.hn⟩
          · exact hK'.elim
        · exact hK'.elim
      · exact hv'.elim
    · exact hv'.elim
  · exact hv'.elim
end
end Go.Pm
