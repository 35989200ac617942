/- Part 2 of what the proof rests on: a machine that runs functions of the program on pure values, proved sound; the functions that the law reaches, and what they compute. -/
import Derived.Test.YtkpjhhoafenogaaQ1
import Derived.Laws.Slices
import Derived.Laws.OwnMore
import Derived.Scope
set_option linter.all false
namespace Go.Pm
open Go.RowKit (Below)

section
variable {P:Program} {Γ:Ctrs} {nt B:Nat} {w0:World} {h0:Fz} {g:Gh} {σ:St} {a:Act} {w:World} {r:Option Nat} {n i:Nat} {Q:Exit→Act→World→Prop}

theorem zDQ (k:Option IntKind) (x:Int):clR g (.p (zCl k x)) (cellV k x):=by
 cases k with
 | none=>exact .bool _
 | some k=>exact .int _ _
theorem zCt (o : Option (List Int)) : ∀ (ks : List (Option IntKind)) (i : Nat), RL (clR g) ((zLo o i ks).map .p) (zfh o i ks)
  | [],_=>trivial
  | k :: ks,i=>⟨zDQ k _,zCt o ks (i+1)⟩
theorem zCu {vag:Bool} {ks:List (Option IntKind)} {o:Option (List Int)} {d:D1} (h:zHQ vag ks o=some d):d1R g d (zdt vag ks o):=by
 have hr:=zCt (g:=g) o ks 0
 unfold zHQ at h
 cases vag with
 | true =>
  simp only [Option.some.injEq] at h
  rw [← h]
  exact ⟨_,rfl,hr⟩
 | false =>
  split at h
  ·rename_i l e;cases e
  ·rename_i v _ e
   simp only [Option.some.injEq] at h
   rw [← h]
   rw [e] at hr
   cases hc:zfh o 0 ks with
   | nil=>rw [hc] at hr;exact hr.elim
   | cons x l=>rw [hc] at hr;simp only [zdt,hc,List.headD_cons];exact hr.1
  ·cases h
theorem ziN {vag:Bool} {ks:List (Option IntKind)} {o:Option (List Int)} {d:D1} (h:zHQ vag ks o=some d):zbh d=[]:=by
 unfold zHQ at h
 split at h
 ·simp only [Option.some.injEq] at h;rw [← h];exact zc3 _
 ·simp only [Option.some.injEq] at h;rw [← h];rfl
 ·cases h

def zIj (c:Cl) (acc:Option (List (Option IntKind))):Option (List (Option IntKind)):=match c,acc with
 | .p (.int k (.ofNat 0)),some l=>some (some k :: l)
 | .p (.bool false),some l=>some (none :: l)
 | _,_=>none
theorem zho : ∀ (vs : List Value) (cs : List Cl) (ks : List (Option IntKind)) (i : Nat), zcH vs = some cs → cs.foldr zIj (some []) = some ks → vs = zfh none i ks
  | [],cs,ks,i,h1,h2=>by
    simp only [zcH,Option.some.injEq] at h1
    subst h1
    simp only [List.foldr_nil,Option.some.injEq] at h2
    subst h2;rfl
  | v :: vs,cs,ks,i,h1,h2=>by
    simp only [zcH] at h1
    split at h1
    · rename_i x l hx hl
      simp only [Option.some.injEq] at h1
      subst h1
      rw [List.foldr_cons] at h2
      unfold zIj at h2
      split at h2
      · rename_i k l' e1 e2
        simp only [Option.some.injEq] at h2
        subst h2
        simp only [Cl.p.injEq] at e1
        rw [zho vs l l' (i+1) hl e2]
        have:v=.int k 0:=by
          rw [e1] at hx
          unfold ziq at hx
          split at hx <;> simp at hx
          obtain ⟨rfl,rfl⟩:=hx;rfl
        rw [this];rfl
      · rename_i l' e1 e2
        simp only [Option.some.injEq] at h2
        subst h2
        simp only [Cl.p.injEq] at e1
        rw [zho vs l l' (i+1) hl e2]
        have:v=.bool false:=by
          rw [e1] at hx
          unfold ziq at hx
          split at hx <;> simp at hx
          subst hx;rfl
        rw [this];rfl
      · cases h2
    · cases h1

structure MapE (P : Program) (kt vt : Nat) (ag : Bool) (m : Nat) (vag : Bool) (ks : List (Option IntKind)) : Prop where
  key:zdV P 8 kt=some m
  kag:zeA P kt=some ag
  zero:∀ w,(zeroValue vt).run P w=.ok (zdt vag ks none) w
  one:vag=false→ks.length=1
theorem zsG {kt vt:Nat} {ag:Bool} {m:Nat} {vag:Bool} {ks:List (Option IntKind)} (h:zom P kt vt=some (ag,m,vag,ks)):MapE P kt vt ag m vag ks:=by
 unfold zom at h
 split at h
 ·rename_i m' ag' ks' vag' h1 h2 h3 h4
  have zero:∀ z,(P.info? vt).bind (·.zero)=some z→∀ w,(zeroValue vt).run P w=.ok z w∧z.cells.toList=zfh none 0 ks':=by
   intro z hz w
   unfold zCk at h3
   split at h3
   ·rename_i zc hzc
    obtain ⟨i,v,hi,hv,ho,_⟩:=zdD hzc
    rw [hi] at hz
    simp only [Option.bind_some,hv,Option.some.injEq] at hz
    subst hz
    exact ⟨zb5 hi hv,zho _ _ _ 0 ho h3⟩
   ·cases h3
  cases hb:((ag' || Nat.beq m' 1) && (vag' || Nat.beq ks'.length 1)) with
  | false=>rw [hb] at h;cases h
  | true =>
   rw [hb] at h
   cases hz:(P.info? vt).bind (·.zero) with
   | none=>rw [hz] at h;cases h
   | some z =>
    rw [hz] at h
    cases vag' with
    | true =>
     cases z with
     | agg cs =>
      simp only [Option.some.injEq,Prod.mk.injEq] at h
      obtain ⟨rfl,rfl,rfl,rfl⟩:=h
      refine ⟨h1,h2,fun w=>?_,fun e=>by cases e⟩
      obtain ⟨r1,r2⟩:=zero _ hz w
      rw [r1]
      simp only [Value.cells] at r2
      simp only [zdt,← r2]
     | _=>cases h
    | false =>
     have hlen:ks'.length=1:=by
      simp only [Bool.false_or,Bool.and_eq_true] at hb
      exact Nat.eq_of_beq_eq_true hb.2
     have fin:z.cells.toList=[z]→some (ag',m',false,ks')=some (ag,m,vag,ks)→MapE P kt vt ag m vag ks:=by
      intro hcz h
      simp only [Option.some.injEq,Prod.mk.injEq] at h
      obtain ⟨rfl,rfl,rfl,rfl⟩:=h
      refine ⟨h1,h2,fun w=>?_,fun _=>hlen⟩
      obtain ⟨r1,r2⟩:=zero _ hz w
      rw [r1]
      rw [hcz] at r2
      simp only [zdt,← r2,List.headD_cons]
     cases z with
     | agg cs=>cases h
     | _=>exact fin rfl h
 ·cases h

theorem zvb {ag:Bool} {m:Nat} {d:DV} {c:List Int} {v:Value} (h:zH1 ag m d=some c) (hag:ag=false→m=1) (hv:dvR g d v):v=zbn ag c∧c.length=m:=by
 unfold zH1 at h
 split at h
 ·rename_i cs
  split at h
  ·rename_i l hl
   split at h
   ·rename_i hb
    simp only [Option.some.injEq] at h
    subst h
    obtain ⟨vs,rfl,hr⟩:=hv
    exact ⟨by rw [zp2 hl hr];rfl,Nat.eq_of_beq_eq_true hb⟩
   ·cases h
  ·cases h
 ·simp only [Option.some.injEq] at h
  subst h
  cases hv
  exact ⟨rfl,(hag rfl).symm⟩
 ·cases h

theorem zmP : ∀ (ks : List (Option IntKind)) (cs : List Cl) (l : List Int) (vs : List Value) (pre : List Int), zgD ks cs = some l → RL (clR g) cs vs → vs = zfh (some (pre ++ l)) pre.length ks
  | [],[],l,[],pre,h,_=>rfl
  | [],[],_,_ :: _,_,_,hr=>hr.elim
  | [],_ :: _,l,vs,pre,h,_=>by simp [zgD] at h
  | k :: ks,[],l,vs,pre,h,_=>by cases k <;> simp [zgD] at h
  | k :: ks,c :: cs,l,[],pre,h,hr=>hr.elim
  | k :: ks,c :: cs,l,v :: vs,pre,h,hr=>by
    unfold zgD at h
    split at h
    · rename_i e1 e2;cases e1
    · rename_i k' ks' k2 x r e1 e2
      simp only [List.cons.injEq] at e1 e2
      obtain ⟨rfl,rfl⟩:=e1
      obtain ⟨rfl,rfl⟩:=e2
      split at h
      · rename_i hkk
        subst hkk
        split at h
        · rename_i l' hl'
          simp only [Option.some.injEq] at h
          subst h
          have ih:=zmP ks cs l' vs (pre ++ [x]) hl' hr.2
          have h1:=hr.1
          cases h1
          rw [show pre ++ [x] ++ l'=pre ++ x :: l' by simp,show (pre ++ [x]).length=pre.length+1 by simp] at ih
          rw [ih]
          simp [zfh,cellV,zdY]
        · cases h
      · cases h
    · rename_i ks' b r e1 e2
      simp only [List.cons.injEq] at e1 e2
      obtain ⟨rfl,rfl⟩:=e1
      obtain ⟨rfl,rfl⟩:=e2
      split at h
      · rename_i l' hl'
        simp only [Option.some.injEq] at h
        subst h
        have h1:=hr.1
        cases h1
        have ih:∀ y:Int,vs=zfh (some (pre ++ y :: l')) (pre.length+1) ks:=fun y=>by
          have ih:=zmP ks cs l' vs (pre ++ [y]) hl' hr.2
          rw [show pre ++ [y] ++ l'=pre ++ y :: l' by simp,show (pre ++ [y]).length=pre.length+1 by simp] at ih
          exact ih
        rw [ih (match b with | true=>1 | false=>0)]
        cases b <;> simp [zfh,cellV,zdY]
      · cases h
    · cases h

theorem zvc {vag:Bool} {ks:List (Option IntKind)} {dv:D1} {l:List Int} {v:Value} (h:zgD ks dv.cells=some l) (hag:dv.isAgg=vag) (hv:d1R g dv v):v=zdt vag ks (some l):=by
 subst hag
 cases dv with
 | c x =>
  have:=zmP (g:=g) ks [x] l [v] [] h ⟨hv,trivial⟩
  simp only [List.nil_append,List.length_nil] at this
  simp only [D1.isAgg,zdt,← this,List.headD_cons]
 | agg cs =>
  obtain ⟨vs,rfl,hr⟩:=hv
  have:=zmP (g:=g) ks cs l vs [] h hr
  simp only [List.nil_append,List.length_nil] at this
  simp only [D1.isAgg,zdt,← this]

theorem zp6 {kt vt m : Nat} {ag vag : Bool} {ks : List (Option IntKind)} (E : MapE P kt vt ag m vag ks) {es : Array MapEntry} {en : List (List Int × List Int)} (hen : es.toList.map (fun e => (e.key, e.val)) = en.map (fun x => (zbn ag x.1, zdt vag ks (some x.2))))
    (hl : ∀ x ∈ en, x.1.length = m) (hn : (en.map (·.1)).Nodup) {c : List Int} (hc : c.length = m) :
      ((Instr.findKey kt (zbn ag c) es.toList).run P w=.ok none w∧zd3 c en=none∧∀ x∈en,x.1 ≠ c) ∨
      ∃ (j:Nat) (e:MapEntry) (v:List Int),(Instr.findKey kt (zbn ag c) es.toList).run P w=.ok (some (j,zdt vag ks (some v))) w∧es[j]? = some e∧en[j]? = some (c,v)∧e.key=zbn ag c∧zd3 c en=some v:=by
  have hk:es.toList.map (·.key)=en.map (fun x=>zbn ag x.1):=by
    have:=congrArg (List.map Prod.fst) hen
    simpa [List.map_map,Function.comp_def] using this
  rcases run_findKey (w:=w) E.key E.kag hc es.toList en hk hl with ⟨h1,h2⟩ | ⟨j,e,v,h1,h2,h3⟩
  · exact .inl ⟨h1,zl4 h2,h2⟩
  · have h4 : (es.toList.map (fun e => (e.key, e.val)))[j]? = some (e.key, e.val) := by simp [h2]
    rw [hen] at h4
    simp only [List.getElem?_map,h3,Option.map_some,Option.some.injEq,Prod.mk.injEq] at h4
    exact .inr ⟨j,e,v,by rw [h1,← h4.2],by simpa using h2,h3,h4.1.symm,zel hn h3⟩

theorem zit {kt vt:Nat} {q:MQ} (h:zom P kt vt=some q):MapE P kt vt q.1 q.2.1 q.2.2.1 q.2.2.2:=by
 obtain ⟨ag,m,vag,ks⟩:=q
 exact zsG h

def zvd (q:MQ) (ok:Bool) (o:Option (List Int)):Value :=
 match ok with
 | true=>.tuple #[zdt q.2.2.1 q.2.2.2 o,.bool o.isSome]
 | false=>zdt q.2.2.1 q.2.2.2 o
theorem zhp {t kt vt b : Nat} {q : MQ} {ok : Bool} {F : List Int → Option (List Int)} {k : Nat} {es : Array MapEntry} {clock : Nat} (hu : P.underlying t = some (.map kt vt)) (E0 : zom P kt vt = some q)
    (hheap:w.heap[b]? = some (.map es clock)) (hm:moE q k F es clock) {c:List Int} (hc:c.length=q.2.1) :
    (Instr.lookup t (.map (some b)) (zbn q.1 c) ok).run P w=.ok (zvd q ok (F c)) w:=by
  obtain ⟨en,M⟩:=hm
  have E:=zit E0
  have hck:=zek (P:=P) (w:=w) 8 kt q.2.1 q.1 es.isEmpty E.key E.kag 9992 c hc
  rw [M.find c hc]
  rcases zp6 (w:=w) E M.ents (fun x hx=>(M.len x hx).1) M.nodup hc with ⟨h1,h2,_⟩ | ⟨j,e,v,h1,_,_,_,h2⟩
  · rw [h2]
    simp only [Instr.lookup,Sem.run_bind,run_underlying hu,Result.andThen_ok,MapKept.run_getObj_map hheap,Sem.run_pure,hck,h1,E.zero w]
    cases ok <;> rfl
  · rw [h2]
    simp only [Instr.lookup,Sem.run_bind,run_underlying hu,Result.andThen_ok,MapKept.run_getObj_map hheap,Sem.run_pure,hck,h1]
    cases ok <;> rfl
theorem zp7 {t kt vt : Nat} {q : MQ} {ok : Bool} (hu : P.underlying t = some (.map kt vt)) (E0 : zom P kt vt = some q) {c : List Int} (hc : c.length = q.2.1) :
  (Instr.lookup t (.map none) (zbn q.1 c) ok).run P w=.ok (zvd q ok none) w:=by
 have E:=zit E0
 have hck:=zek (P:=P) (w:=w) 8 kt q.2.1 q.1 true E.key E.kag 9992 c hc
 have hck:(Instr.checkKey (#[]:Array MapEntry).isEmpty 10000 kt (zbn q.1 c)).run P w=.ok () w:=hck
 have hfk:(Instr.findKey kt (zbn q.1 c) (#[]:Array MapEntry).toList).run P w=.ok none w:=by
  rcases zp6 (w:=w) E (es:=#[]) (en:=[]) rfl (fun x hx=>by simp at hx) List.nodup_nil hc with ⟨h1,_⟩ | ⟨j,e,v,_,h2,_⟩
  ·exact h1
  ·simp at h2
 simp only [Instr.lookup,Sem.run_bind,run_underlying hu,Result.andThen_ok,Sem.run_pure,hck,hfk,E.zero w]
 cases ok <;> rfl

theorem zjh {o : Oper} {t : TypeId} {x y : Operand} {q : MQ} {ok : Bool} {A : OpAct} {F : List Int → Option (List Int)} {fin : DV → OpAct} {fp : List (Nat × Bool)} (S : Sim P nt B w0 h0 g σ a w) (hd : zbF nt o.dst = true) (hop : o.op = .lookup t x y ok)
    (hA:found q (evO σ.env y) ok F fin=A) (hs:A.safe) (hone:q.1=false→q.2.1=1)
    (hst:∀ d,(fin d).safe→zei (fin d) i o.dst σ (σ.upd i o.dst fp d [] []))
    (hrun:∀ c d,fin d=A→c.length=q.2.1→(Instr.lookup t (a.eval x) (zbn q.1 c) ok).run P w=.ok (zvd q ok (F c)) w) :
    zdN P nt B w0 h0 r n i o A σ a w Q:=by
  unfold found at hA
  split at hA
  · rename_i c hc
    obtain ⟨hyv,hcl⟩:=zvb hc hone (S.ev y)
    split at hA
    · rename_i d hdv
      have hvd:=zCu (g:=g) hdv
      have hlab:=ziN hdv
      cases ok with
      | true =>
        have hr:=hrun c _ hA hcl
        subst hA
        refine zaG S hd (by simp [hop]) (d:=.tup [d,.c (.p (.bool (F c).isSome))]) (v:=zvd q true (F c)) (fp:=fp) (hst _ hs) ?_ ?_ ?_
        · simp only [execOp,hop,hyv,Sem.run_bind,hr,Result.andThen_ok,Sem.run_pure]
        · exact ⟨[_,_],rfl,hvd,.bool _,trivial⟩
        · intro M hM
          rw [show zaS (.tup [d,.c (.p (.bool (F c).isSome))])=zbh d ++ ([] ++ []) from rfl,hlab] at hM
          simp at hM
      | false =>
        have hr:=hrun c _ hA hcl
        subst hA
        refine zaG S hd (by simp [hop]) (d:=.one d) (v:=zvd q false (F c)) (fp:=fp) (hst _ hs) ?_ hvd ?_
        · simp only [execOp,hop,hyv,Sem.run_bind,hr,Result.andThen_ok,Sem.run_pure]
        · intro M hM
          simp [zaS,hlab] at hM
    · subst hA;exact hs.elim
  · subst hA;exact hs.elim

theorem zuf {o : Oper} {t : TypeId} {x y : Operand} {ok : Bool} {A : OpAct} (S : Sim P nt B w0 h0 g σ a w) (hd : zbF nt o.dst = true) (hop : o.op = .lookup t x y ok)
    (hA:zlV P t (evO σ.env x) (evO σ.env y) ok (lk σ.objs)=A) (hs:A.safe):zdN P nt B w0 h0 r n i o A σ a w Q:=by
  unfold zlV at hA
  split at hA
  · rename_i kt vt L hu hx
    split at hA
    · rename_i q kt' vt' q' k F hE hL
      split at hA
      · rename_i hcond
        obtain ⟨rfl,rfl,rfl⟩:=hcond
        have E:=zit hE
        obtain ⟨hxv,_⟩:=zbz S hx
        have hxv:a.eval x=.map (some (g.bk L)):=hxv
        obtain ⟨es,clock,hheap,_,hm⟩:=S.obj L _ hL
        exact zjh (fp:=[(L,false)]) S hd hop hA hs (zcb E.key E.kag) (fun d _=>rfl) fun c d _ hc=>by rw [hxv];exact zhp hu hE hheap hm hc
      · subst hA;exact hs.elim
    · subst hA;exact hs.elim
  · rename_i kt vt L ii hu hx
    split at hA
    · rename_i q te bb kt' vt' q' len mk nn F hE hL
      split at hA
      · rename_i hcond
        obtain ⟨rfl,rfl,rfl⟩:=hcond
        have E:=zit hE
        obtain ⟨⟨hxv,b,hxb⟩,_⟩:=zbz S hx
        obtain ⟨_,_,_,hel,_⟩:=S.obj L _ hL
        refine zjh (fp:=[(L,false)]) S hd hop hA hs (zcb E.key E.kag) (fun d _=>rfl) fun c d hfin hc=>?_
        have hlt:ii < len:=by rw [← hfin] at hs;exact hs
        cases hmk:mk ii with
        | true =>
          obtain ⟨b',es,clock,e1,e2,e3⟩:=(hel ii hlt).1 hmk
          rw [hxv,e1]
          exact zhp hu hE e2 e3 hc
        | false =>
          have:=((hel ii hlt).2 hmk).1
          rw [hxv,this] at hxb
          cases hxb
      · subst hA;exact hs.elim
    · subst hA;exact hs.elim
  · rename_i kt vt q' n' F hu hx
    split at hA
    · rename_i q hE
      split at hA
      · rename_i hcond
        subst hcond
        have E:=zit hE
        have hp:=zca S hx
        refine zjh (fp:=[]) S hd hop hA hs (zcb E.key E.kag) (fun d _=>rfl) fun c d _ hc=>?_
        generalize hv:a.eval x=v at hp
        cases hp with
        | fmn _ _ hF=>rw [hF c hc];exact zp7 hu hE hc
        | fm _ _ _ b es clock hb hm=>exact zhp hu hE (S.hw.fz hb) hm hc
      · subst hA;exact hs.elim
    · subst hA;exact hs.elim
  · subst hA;exact hs.elim

theorem zoy {c : List Int} (v : List Int) : ∀ {en : List (List Int × List Int)}, zd3 c en = none → ∀ c', zd3 c' (en ++ [(c, v)]) = if c' = c then some v else zd3 c' en
  | [],_,c'=>by
    simp only [List.nil_append,zd3]
    by_cases h:c=c'
    · subst h;simp
    · rw [if_neg h,if_neg (fun e=>h e.symm)]
  | (k,u) :: r,hn,c'=>by
    simp only [zd3] at hn
    split at hn
    · cases hn
    · rename_i hkc
      simp only [List.cons_append,zd3]
      by_cases h:k=c'
      · subst h
        rw [if_pos rfl,if_pos rfl,if_neg hkc]
      · rw [if_neg h, if_neg h]
        exact zoy v hn c'
theorem zoz {c v v' : List Int} : ∀ {en : List (List Int × List Int)} {j : Nat}, (en.map (·.1)).Nodup → en[j]? = some (c, v) → ∀ c', zd3 c' (en.set j (c, v')) = if c' = c then some v' else zd3 c' en
  | [],j,_,h,_=>by simp at h
  | (k,u) :: r,j,hn,h,c'=>by
    simp only [List.map_cons,List.nodup_cons] at hn
    cases j with
    | zero =>
      simp only [List.getElem?_cons_zero,Option.some.injEq,Prod.mk.injEq] at h
      obtain ⟨rfl,rfl⟩:=h
      simp only [List.set_cons_zero,zd3]
      by_cases h:k=c'
      · subst h;simp
      · rw [if_neg h,if_neg (fun e=>h e.symm),if_neg h]
    | succ j =>
      simp only [List.getElem?_cons_succ] at h
      have hkc:k ≠ c:=fun e=>hn.1 (List.mem_map.2 ⟨_,List.mem_of_getElem? h,e.symm⟩)
      simp only [List.set_cons_succ,zd3]
      by_cases h2:k=c'
      · subst h2
        rw [if_pos rfl,if_pos rfl,if_neg hkc]
      · rw [if_neg h2, if_neg h2]
        exact zoz hn.2 h c'
theorem zve (c v:List Int) (F:List Int→Option (List Int)) (x:List Int):zlU c v F x=if x=c then some v else F x:=by
 unfold zlU
 by_cases h:x=c <;> simp [h]

theorem zgL : ∀ {ks : List (Option IntKind)} {cs : List Cl} {l : List Int}, zgD ks cs = some l → l.length = ks.length
  | [],[],l,h=>by simp [zgD] at h;subst h;rfl
  | [],_ :: _,l,h=>by simp [zgD] at h
  | k :: ks,[],l,h=>by cases k <;> simp [zgD] at h
  | k :: ks,c :: cs,l,h=>by
    unfold zgD at h
    split at h
    · rename_i e1 e2;cases e1
    · rename_i k' ks' k2 x r e1 e2
      simp only [List.cons.injEq] at e1 e2
      obtain ⟨rfl,rfl⟩:=e1
      obtain ⟨rfl,rfl⟩:=e2
      split at h
      · split at h
        · rename_i l' hl'
          simp only [Option.some.injEq] at h
          subst h
          simp [zgL hl']
        · cases h
      · cases h
    · rename_i ks' b r e1 e2
      simp only [List.cons.injEq] at e1 e2
      obtain ⟨rfl,rfl⟩:=e1
      obtain ⟨rfl,rfl⟩:=e2
      split at h
      · rename_i l' hl'
        simp only [Option.some.injEq] at h
        subst h
        simp [zgL hl']
      · cases h
    · cases h

theorem zoA {t kt vt b : Nat} {q : MQ} {F : List Int → Option (List Int)} {k : Nat} {es : Array MapEntry} {clock : Nat} (hu : P.underlying t = some (.map kt vt)) (E0 : zom P kt vt = some q)
    (hheap:w.heap[b]? = some (.map es clock)) (hm:moE q k F es clock) {c:List Int} (hc:c.length=q.2.1) (l:List Int) (hll:l.length=q.2.2.2.length) :
    ∃ es' clock',(Instr.mapUpdate t (.map (some b)) (zbn q.1 c) (zdt q.2.2.1 q.2.2.2 (some l))).run P w=.ok () { w with heap:=w.heap.setIfInBounds b (.map es' clock') }∧moE q (addN (F c) k) (zlU c l F) es' clock':=by
  obtain ⟨ag,m,vag,ks⟩:=q
  obtain ⟨en,h1',h2',hen,hl,hn,hF,hsz,hbo,hbn⟩:=hm
  simp only at h1' h2' hen hl hn hF hc hll ⊢
  have E:=zsG E0
  have hck:=zek (P:=P) (w:=w) 8 kt m ag false E.key E.kag 9992 c hc
  rcases zp6 (w:=w) E hen (fun x hx=>(hl x hx).1) hn hc with ⟨h1,h2,h3⟩ | ⟨j,e,v,h1,h2,h3,h4,h5⟩
  · refine ⟨es.push { key := zbn ag c, val := zdt vag ks (some l), born := clock }, clock + 1, ?_, en ++ [(c, l)], h1', h2', ?_, ?_, ?_, ?_, ?_, ?_, ?_⟩
    · simp only [Instr.mapUpdate,Sem.run_bind,run_underlying hu,Result.andThen_ok,MapKept.run_getObj_map hheap,hck,h1,MapKept.run_setObj_map _ hheap]
    · rw [Array.toList_push,List.map_append,hen,List.map_append];rfl
    · intro x hx
      rcases List.mem_append.1 hx with hx | hx
      · exact hl x hx
      · simp only [List.mem_singleton] at hx;subst hx;exact ⟨hc,hll⟩
    · rw [List.map_append, List.nodup_append]
      refine ⟨hn,by simp,fun a ha b hb e=>?_⟩
      simp only [List.map_cons,List.map_nil,List.mem_singleton] at hb
      obtain ⟨x,hx,hxa⟩:=List.mem_map.1 ha
      exact h3 x hx (by rw [hxa,e,hb])
    · intro c' hc'
      rw [zve,zoy l h2,hF c' hc']
    · rw [hF c hc,h2,hsz];simp [addN]
    · intro x hx
      rw [Array.toList_push] at hx
      rcases List.mem_append.1 hx with hx | hx
      · exact Nat.lt_succ_of_lt (hbo x hx)
      · simp only [List.mem_singleton] at hx;subst hx;exact Nat.lt_succ_self _
    · rw [Array.toList_push, List.map_append, List.nodup_append]
      refine ⟨hbn,by simp,fun a ha b hb e=>?_⟩
      simp only [List.map_cons,List.map_nil,List.mem_singleton] at hb
      obtain ⟨x,hx,hxa⟩:=List.mem_map.1 ha
      have:=hbo x hx
      omega
  · have hmod:(es.modify j fun e=>{ e with key:=zbn ag c,val:=zdt vag ks (some l) }).toList=es.toList.set j { e with key:=zbn ag c,val:=zdt vag ks (some l) }:=by
      rw [Array.toList_modify]
      have h2':es.toList[j]? = some e:=by simpa using h2
      obtain ⟨hj,he⟩:=List.getElem?_eq_some_iff.1 h2'
      apply List.ext_getElem?
      intro q
      rw [List.getElem?_modify,List.getElem?_set]
      by_cases hq:j=q
      · subst hq
        rw [h2']
        have hj':j < es.size:=by simpa using hj
        simp [hj']
      · simp [hq]
    have hen':es.toList.map (fun e=>(e.key,e.val))=en.map (fun x=>(zbn ag x.1,zdt vag ks (some x.2))):=hen
    refine ⟨es.modify j fun e=>{ e with key:=zbn ag c,val:=zdt vag ks (some l) },clock,?_,en.set j (c,l),h1',h2',?_,?_,?_,?_,?_,?_,?_⟩
    · have hkey : ((es[j]?).map (·.key)).getD (zbn ag c) = zbn ag c := by rw [h2]; simp [h4]
      have hst:(Instr.keyThatStays (zbn ag c) (zbn ag c)).run P w=.ok (zbn ag c) w:=by
        simp [Instr.keyThatStays,zue]
      simp only [Instr.mapUpdate,Sem.run_bind,run_underlying hu,Result.andThen_ok,MapKept.run_getObj_map hheap,hck,h1,hkey,hst,MapKept.run_setObj_map _ hheap]
    · rw [hmod,List.map_set,List.map_set,hen']
    · intro x hx
      rcases List.mem_or_eq_of_mem_set hx with hx | rfl
      · exact hl x hx
      · exact ⟨hc,hll⟩
    · rw [List.map_set]
      rw [show (en.map (·.1)).set j c=en.map (·.1) from ?_]
      · exact hn
      · have : (en.map (·.1))[j]? = some c := by simp [h3]
        obtain ⟨hj,he⟩:=List.getElem?_eq_some_iff.1 this
        apply List.ext_getElem?
        intro q
        rw [List.getElem?_set]
        by_cases hq:j=q
        · subst hq;rw [this];simp;simpa using hj
        · simp [hq]
    · intro c' hc'
      rw [zve,zoz hn h3,hF c' hc']
    · rw [hF c hc,h5,List.length_set,hsz];rfl
    · intro x hx
      rw [hmod] at hx
      rcases List.mem_or_eq_of_mem_set hx with hx | rfl
      · exact hbo x hx
      · exact hbo e (List.mem_of_getElem? (by simpa using h2))
    · rw [hmod, List.map_set]
      rw [show (es.toList.map (·.born)).set j e.born=es.toList.map (·.born) from ?_]
      · exact hbn
      · have : (es.toList.map (·.born))[j]? = some e.born := by simp [h2]
        obtain ⟨hj,he⟩:=List.getElem?_eq_some_iff.1 this
        apply List.ext_getElem?
        intro q
        rw [List.getElem?_set]
        by_cases hq:j=q
        · subst hq;rw [this];simp;simpa using hj
        · simp [hq]

theorem zvf {o : Oper} {t : TypeId} {x y z : Operand} {A : OpAct} (S : Sim P nt B w0 h0 g σ a w) (hd : zbF nt o.dst = true) (hop : o.op = .mapUpdate t x y z)
    (hA:zt1 P t (evO σ.env x) (evO σ.env y) (evO σ.env z) (lk σ.objs)=A) (hs:A.safe):zdN P nt B w0 h0 r n i o A σ a w Q:=by
  unfold zt1 at hA
  split at hA
  · rename_i kt vt L hu hx
    split at hA
    · rename_i q kt' vt' q' k F hE hL
      split at hA
      · rename_i c dv hc hz
        split at hA
        · rename_i l hl
          split at hA
          · rename_i hcond
            obtain ⟨rfl,rfl,rfl,hag⟩:=hcond
            subst hA
            have E:=zit hE
            obtain ⟨hxv,_⟩:=zbz S hx
            have hxv:a.eval x=.map (some (g.bk L)):=hxv
            obtain ⟨hyv,hcl⟩:=zvb hc (zcb E.key E.kag) (S.ev y)
            have hzv:a.eval z=zdt q'.2.2.1 q'.2.2.2 (some l):=zvc hl hag (by have:=S.ev z;rw [hz] at this;exact this)
            obtain ⟨es,clock,hheap,_,hm⟩:=S.obj L _ hL
            obtain ⟨es',clock',hrun,hm'⟩:=zoA (P:=P) hu hE hheap hm hcl l (zgL hl)
            have hlt:=(Array.getElem?_eq_some_iff.1 hheap).1
            have hB:=(S.own L _ (g.bk L) hL rfl).1
            refine zgb (by simp [hop]) (w':={ w with heap:=w.heap.setIfInBounds (g.bk L) (.map es' clock') }) ?_ ⟨g,_,rfl,?_⟩
            · simp only [execOp,hop,hxv,hyv,hzv,Sem.run_bind,hrun,Result.andThen_ok,Sem.run_pure]
            · rw [zbv]
              have hoth:∀ b,¬ (g.bk L=b)→(w.heap.setIfInBounds (g.bk L) (Obj.map es' clock'))[b]? = w.heap[b]?:=fun b hb=>by rw [Array.getElem?_setIfInBounds,if_neg hb]
              have S' := S.write (o' := .mo kt' vt' q' (addN (F c) k) (zlU c l F)) (w' := { w with heap := w.heap.setIfInBounds (g.bk L) (.map es' clock') }) hL (fun b hb => hb)
                (zfI hB (by simp) (fun q hq=>hoth q fun e=>hq e.symm) rfl rfl rfl rfl) (fun b hb=>hoth b hb)
                ⟨es',clock',by show (w.heap.setIfInBounds (g.bk L) _)[g.bk L]? = _;simp [hlt],hE,hm'⟩ (fun M hM=>by simp [zbM] at hM)
              exact S'.put (d:=.junk) hd trivial (fun M hM=>by simp [zaS,zbh,zav] at hM) _
          · subst hA;exact hs.elim
        · subst hA;exact hs.elim
      · subst hA;exact hs.elim
    · subst hA;exact hs.elim
  · rename_i kt vt L ii hu hx
    split at hA
    · rename_i q te bb kt' vt' q' len mk nn F hE hL
      split at hA
      · rename_i c dv hc hz
        split at hA
        · rename_i l hl
          split at hA
          · rename_i hcond
            obtain ⟨rfl,rfl,rfl,hag⟩:=hcond
            subst hA
            have hlt:ii < len:=hs
            have E:=zit hE
            obtain ⟨⟨hxv,b,hxb⟩,_⟩:=zbz S hx
            obtain ⟨hyv,hcl⟩:=zvb hc (zcb E.key E.kag) (S.ev y)
            have hzv:a.eval z=zdt q'.2.2.1 q'.2.2.2 (some l):=zvc hl hag (by have:=S.ev z;rw [hz] at this;exact this)
            obtain ⟨_,hinf,hrow,hel,hsep⟩:=S.obj L _ hL
            have hmk:mk ii=true:=by
              cases hmk:mk ii with
              | true=>rfl
              | false=>have:=((hel ii hlt).2 hmk).1;rw [hxv,this] at hxb;cases hxb
            obtain ⟨b',es,clock,e1,hheap,hm⟩:=(hel ii hlt).1 hmk
            rw [hxv,e1] at hxb
            simp only [Value.map.injEq,Option.some.injEq] at hxb
            subst hxb
            obtain ⟨es',clock',hrun,hm'⟩:=zoA (P:=P) hu hE hheap hm hcl l (zgL hl)
            have hblt:=(Array.getElem?_eq_some_iff.1 hheap).1
            have hob:obk g L (.vm te bb kt' vt' q' len mk nn F) b':=.inr ⟨ii,hlt,e1⟩
            have hB:=(S.own L _ b' hL hob).1
            refine zgb (by simp [hop]) (w':={ w with heap:=w.heap.setIfInBounds b' (.map es' clock') }) ?_ ⟨g,_,rfl,?_⟩
            · simp only [execOp,hop,hxv,e1,hyv,hzv,Sem.run_bind,hrun,Result.andThen_ok,Sem.run_pure]
            · rw [zbv]
              have hoth:∀ b,b ≠ b'→(w.heap.setIfInBounds b' (Obj.map es' clock'))[b]? = w.heap[b]?:=fun b hb=>by rw [Array.getElem?_setIfInBounds,if_neg (fun e=>hb e.symm)]
              have S' := S.write (o' := .vm te bb kt' vt' q' len mk (zc2 ii (addN (F ii c) (nn ii)) nn) (zc2 ii (zlU c l (F ii)) F)) (w' := { w with heap := w.heap.setIfInBounds b' (.map es' clock') }) hL (fun b hb => hb)
                (zfI hB (by simp) hoth rfl rfl rfl rfl) (fun b hb=>hoth b fun e=>hb (by rw [e];exact hob))
                ⟨hE,hinf,zbt hrow fun k hk=>hoth k fun e=>by rw [e] at hk;exact (hsep ii b' hlt e1).1 hk,fun j hj=>by
                  by_cases e:j=ii
                  · subst e
                    have x2:zc2 j (addN (F j c) (nn j)) nn j=addN (F j c) (nn j):=by simp [zc2]
                    have x3:zc2 j (zlU c l (F j)) F j=zlU c l (F j):=by simp [zc2]
                    rw [x2,x3]
                    exact ⟨fun _=>⟨b',es',clock',e1,by show (w.heap.setIfInBounds b' _)[b']? = _;simp [hblt],hm'⟩,fun h=>by rw [hmk] at h;cases h⟩
                  · have hbf : Nat.beq j ii = false := by cases hq : Nat.beq j ii with | true => exact absurd (Nat.eq_of_beq_eq_true hq) e | false => rfl
                    have x2:zc2 ii (addN (F ii c) (nn ii)) nn j=nn j:=by simp only [zc2,hbf]
                    have x3:zc2 ii (zlU c l (F ii)) F j=F j:=by simp only [zc2,hbf]
                    rw [x2,x3]
                    refine ⟨fun h=>?_,(hel j hj).2⟩
                    obtain ⟨b2,es2,cl2,y1,y2,y3⟩:=(hel j hj).1 h
                    refine ⟨b2,es2,cl2,y1,?_,y3⟩
                    rw [hoth b2 fun e2=>e ((hsep ii b' hlt e1).2 j hj (by rw [← e2];exact y1)).symm];exact y2,hsep⟩ (fun M hM=>by simp [zbM] at hM)
              exact S'.put (d:=.junk) hd trivial (fun M hM=>by simp [zaS,zbh,zav] at hM) _
          · subst hA;exact hs.elim
        · subst hA;exact hs.elim
      · subst hA;exact hs.elim
    · subst hA;exact hs.elim
  · subst hA;exact hs.elim

theorem Sim.newMo (S : Sim P nt B w0 h0 g σ a w) {t kt vt : Nat} {q : MQ} (ht : lk σ.objs t = none) (hE : zom P kt vt = some q) :
  Sim P nt B w0 h0 (g.setBk t w.heap.size) { σ with objs:=(t,.mo kt vt q 0 (fun _=>none)) :: σ.objs } a (w.alloc (.map #[] 0)):=by
 have hne:∀ L o,lk σ.objs L=some o→L ≠ t:=fun L o h e=>by subst e;rw [ht] at h;cases h
 have hsame:∀ L o,lk σ.objs L=some o→zcO g (g.setBk t w.heap.size) L:=fun L o h=>⟨by simp [Gh.setBk,hne L o h],rfl,rfl⟩
 have hold:∀ b,b < w.heap.size→(w.alloc (.map #[] 0)).heap[b]? = w.heap[b]?:=fun b hb=>heap_alloc_old w _ b hb
 have hlk:∀ L o,lk ((t,AO.mo kt vt q 0 (fun _=>none)) :: σ.objs) L=some o→(L=t∧o=.mo kt vt q 0 (fun _=>none))∨(L ≠ t∧lk σ.objs L=some o):=by
  intro L o h
  rw [zal] at h
  split at h
  ·rename_i e;simp at h;exact .inl ⟨e.symm,h.symm⟩
  ·rename_i e;exact .inr ⟨fun e'=>e e'.symm,h⟩
 have hobkb:∀ L o b,lk σ.objs L=some o→obk (g.setBk t w.heap.size) L o b→obk g L o b:=fun L o b ho hob=>Eq.mp (congrFun (za7 (hsame L o ho)) _) hob
 refine S.change (g':=g.setBk t w.heap.size) hsame (fun _ _ h=>h) ?_ (fun b o h=>.inl h) (Bel.of ⟨(Below.refl B w).alloc S.bs _,Nat.le_refl _⟩) ?_ ?_ ?_ ?_ ?_
 ·exact S.hw.same fun b o h=>hold b (zf9 S.hw h)
 ·intro L o ho
  rcases hlk L o ho with ⟨rfl,rfl⟩ | ⟨_,ho⟩
  ·have E := zit hE
   exact ⟨#[],0,by show (w.alloc _).heap[(if _ then w.heap.size else _)]? = _;rw [if_pos rfl];exact heap_alloc_new w _,hE,[],zcb E.key E.kag,E.one,rfl,fun x hx=>by simp at hx,List.nodup_nil,fun c _=>rfl,rfl,fun e he=>by simp at he,by simp⟩
  ·refine zcj (S.obj L o ho) (hsame L o ho) (fun M hM => ?_) (fun _ _ h => h) (fun b hob => hold b (zco (S.obj L o ho) hob))
   obtain ⟨o',ho'⟩:=S.clO L o ho M hM
   exact hsame M o' ho'
 ·intro L o b ho hob
  rcases hlk L o ho with ⟨rfl,rfl⟩ | ⟨_,ho⟩
  ·simp [obk, Gh.setBk] at hob; subst hob
   refine ⟨S.bs,?_⟩
   cases hh:g.h w.heap.size with
   | none=>exact hh
   | some x=>exact absurd (zf9 S.hw hh) (by omega)
  ·exact S.own L o b ho (hobkb L o b ho hob)
 ·intro L o b L' o' ho ho' hob hob'
  rcases hlk L o ho with ⟨rfl,rfl⟩ | ⟨hn,ho2⟩ <;> rcases hlk L' o' ho' with ⟨rfl,rfl⟩ | ⟨hn',ho2'⟩
  ·rfl
  ·simp [obk, Gh.setBk] at hob; subst hob
   exact absurd (zco (S.obj L' o' ho2') (hobkb _ _ _ ho2' hob')) (by omega)
  ·simp [obk, Gh.setBk] at hob'; subst hob'
   exact absurd (zco (S.obj L o ho2) (hobkb _ _ _ ho2 hob)) (by omega)
  ·exact S.sep L o b L' o' ho2 ho2' (hobkb _ _ _ ho2 hob) (hobkb _ _ _ ho2' hob')
 ·intro L o ho
  refine ⟨o,?_⟩
  rw [zal,if_neg (fun e=>hne L o ho e.symm)];exact ho
 ·intro L o ho M hM
  have fin:∀ M o,lk σ.objs M=some o→∃ o',lk ((t,AO.mo kt vt q 0 (fun _=>none)) :: σ.objs) M=some o':=fun M o h=>⟨o,by rw [zal,if_neg (fun e=>hne M o h e.symm)];exact h⟩
  rcases hlk L o ho with ⟨rfl,rfl⟩ | ⟨_,ho⟩
  ·simp [zbM] at hM
  ·obtain ⟨o',ho'⟩:=S.clO L o ho M hM;exact fin M o' ho'

theorem zug {o : Oper} {t kt vt : TypeId} {q : MQ} {A : OpAct} (S : Sim P nt B w0 h0 g σ a w) (hd : zbF nt o.dst = true) (hop : o.op = .makeMap t none) (hE : zom P kt vt = some q)
    (hA:zpS (lk σ.objs) o.dst (.mo kt vt q 0 (fun _=>none)) (fun t=>.cl (.mo t))=A) (hs:A.safe):zdN P nt B w0 h0 r n i o A σ a w Q:=by
  unfold zpS at hA
  split at hA
  · rename_i L hL
    split at hA
    · rename_i hlk
      subst hA
      have S':=S.newMo (kt:=kt) (vt:=vt) hlk hE
      refine zdM (by simp [hop]) (v:=.map (some w.heap.size)) (w':=w.alloc (.map #[] 0)) ?_ ⟨g.setBk L w.heap.size,_,rfl,?_⟩
      · simp [execOp,hop,Instr.makeMap]
      · rw [zbv]
        refine S'.put (σ:={ σ with objs:=(L,AO.mo kt vt q 0 (fun _=>none)) :: σ.objs }) hd (d:=.cl (.mo L)) ?_ ?_ _
        · simp [dvR,d1R,clR,Gh.setBk]
        · intro M hM
          simp [zaS,zbh,zav] at hM
          subst hM
          exact ⟨_,by rw [zal,if_pos rfl]⟩
    · subst hA;exact hs.elim
  · subst hA;exact hs.elim
end
end Go.Pm
namespace Go.Pm
open Go.RowKit (Below)

section
variable {P:Program} {Γ:Ctrs} {nt B:Nat} {w0:World} {h0:Fz} {g:Gh} {σ:St} {a:Act} {w:World} {r:Option Nat} {n i:Nat} {Q:Exit→Act→World→Prop}

theorem zAG {h : Fz} {n s l k : Nat} {get : Nat → List PV} {v : Value} (hr : Rep h (.sl n s get) v) (hl : l ≤ k) (hk : k ≤ n) :
  ∃ a len cap,v=.slice a len cap∧len=n∧len≤cap∧Rep h (.sl (k - l) s (slG get l)) (sliced a l k cap s):=by
 cases hr with
 | sl0=>exact ⟨none,0,0,rfl,rfl,Nat.le_refl _,by
   obtain rfl:k=0:=by omega
   obtain rfl:l=0:=by omega
   exact .sl0 _ _⟩
 | sle _ _ a cap=>exact ⟨some a,0,cap,rfl,rfl,Nat.zero_le _,by
   obtain rfl:k=0:=by omega
   obtain rfl:l=0:=by omega
   unfold sliced
   split
   ·exact .sle _ _ _ _
   ·exact .sle _ _ _ _⟩
 | sl _ _ _ b o cap C ty fr vs hb hcap hlen hc hr =>
  refine ⟨_,n,cap,rfl,rfl,hcap,?_⟩
  unfold sliced
  by_cases hkl:k - l=0
  ·rw [hkl]
   split
   ·exact .sle _ _ _ _
   ·exact .sle _ _ _ _
  ·rw [if_neg (by omega)]
   simp only [Option.map_some,addr_add]
   refine .sl (k - l) s (slG get l) b (o+l * s) (cap - l) C ty fr (fun i=>vs (i+l)) hb (by omega) (fun i hi=>hlen (i+l) (by omega)) (fun i j x hi hj=>?_) (fun i j x hi hj=>hr (i+l) j x (by omega) hj)
   have:=hc (i+l) j x (by omega) hj
   rw [Nat.add_mul] at this
   rw [show o+l * s+i * s+j=o+(i * s+l * s)+j by omega]
   exact this

theorem zsH (S:Sim P nt B w0 h0 g σ a w) {x:Option Operand} {j:Option Int} (h:zt2 (evO σ.env) x=some j):(j=none∧x.map a.eval=none)∨∃ k q,j=some q∧x.map a.eval=some (.int k q):=by
 cases x with
 | none=>simp only [zt2,Option.some.injEq] at h;exact .inl ⟨h.symm,rfl⟩
 | some x =>
  simp only [zt2] at h
  split at h
  ·rename_i k q hx
   simp only [Option.some.injEq] at h
   exact .inr ⟨k,q,h.symm,by rw [Option.map_some,zcB S hx]⟩
  ·cases h

theorem zvg {o : Oper} {t : TypeId} {x : Operand} {lo hi : Option Operand} {A : OpAct} (S : Sim P nt B w0 h0 g σ a w) (hd : zbF nt o.dst = true) (hop : o.op = .slice t x lo hi none)
    (hA:ziL P t (evO σ.env x) (zt2 (evO σ.env) lo) (zt2 (evO σ.env) hi)=A) (hs:A.safe):zdN P nt B w0 h0 r n i o A σ a w Q:=by
  unfold ziL at hA
  split at hA
  · rename_i e m s get lo' hi' hu hx hlo hhi
    split at hA
    · rename_i q hq
      split at hA
      · rename_i hb
        have hsq:=Nat.eq_of_beq_eq_true hb
        subst hsq
        subst hA
        obtain ⟨h1,h2,h3⟩:0≤lo'.getD 0∧lo'.getD 0≤hi'.getD (m:Int)∧hi'.getD (m:Int)≤(m:Int):=hs
        have hv:=zca S hx
        obtain ⟨ad,len,cap,hav,hlen,hcap,hr⟩:=zAG (l:=(lo'.getD 0).toNat) (k:=(hi'.getD (m:Int)).toNat) hv (by omega) (by omega)
        subst hlen
        have hue:P.underlying t=some (.slice (P.elem t)):=by simp [Program.elem,hu]
        have hel:P.elem t=e:=by simp [Program.elem,hu]
        have hsz:=run_sizeOf (w:=w) hq
        have hrun:(Instr.slice t (a.eval x) (lo.map a.eval) (hi.map a.eval) none).run P w=.ok (sliced ad (lo'.getD 0).toNat (hi'.getD (len:Int)).toNat cap s) w:=by
          rw [hav,run_slice_any w t ad len cap hue,hel]
          have hb:(Instr.sliceBounds true len cap (lo.map a.eval) (hi.map a.eval) none).run P w=.ok ((lo'.getD 0).toNat,(hi'.getD (len:Int)).toNat,cap) w:=by
            rcases zsH S hlo with ⟨rfl,e1⟩ | ⟨k1,q1,rfl,e1⟩ <;> rcases zsH S hhi with ⟨rfl,e2⟩ | ⟨k2,q2,rfl,e2⟩ <;> rw [e1,e2] <;> simp only [Option.getD_some,Option.getD_none] at h1 h2 h3 ⊢
            · simp [Instr.sliceBounds]
            · simp [Instr.sliceBounds,run_sliceBound w k2 q2 cap _ (by omega) (by omega)]
            · simp [Instr.sliceBounds,run_sliceBound w k1 q1 len _ (by omega) (by omega)]
            · simp [Instr.sliceBounds,run_sliceBound w k2 q2 cap _ (by omega) (by omega),run_sliceBound w k1 q1 q2.toNat _ (by omega) (by omega)]
          rw [hb]
          simp only [Result.andThen_ok,hsz]
        refine zaG S hd (by simp [hop]) (d:=.p (.sl (hi'.getD (len:Int) - lo'.getD 0).toNat s (slG get (lo'.getD 0).toNat))) (v:=sliced ad (lo'.getD 0).toNat (hi'.getD (len:Int)).toNat cap s) (fp:=[]) rfl ?_ ?_ (zdc _)
        · simp [execOp,hop,Instr.sliceAt,run_underlying hu,hrun]
        · rw [show (hi'.getD (len : Int) - lo'.getD 0).toNat = (hi'.getD (len : Int)).toNat - (lo'.getD 0).toNat by omega]
          exact hr
      · subst hA;exact hs.elim
    · subst hA;exact hs.elim
  · subst hA;exact hs.elim
end
end Go.Pm
namespace Go.Pm
open Go.RowKit (Below)

section
variable {P:Program} {Γ:Ctrs} {nt B:Nat} {w0:World} {h0:Fz} {g:Gh} {σ:St} {a:Act} {w:World} {r:Option Nat} {n i:Nat} {Q:Exit→Act→World→Prop}

theorem Sim.newObj (S : Sim P nt B w0 h0 g σ a w) {t : Nat} {o : AO} {g' : Gh} {w' : World} (ht : lk σ.objs t = none) (hh : g'.h = g.h) (hs : ∀ M, M ≠ t → zcO g g' M)
    (hb:BelD B w w') (hold:∀ b,b < w.heap.size→w'.heap[b]? = w.heap[b]?) (hv:∀ b,obk g' t o b→w.heap.size≤b) (hlab:zbM o=[]) (hr:aoR P g' w' B t o) :
    Sim P nt B w0 h0 g' { σ with objs:=(t,o) :: σ.objs } a w':=by
  have hne:∀ L o,lk σ.objs L=some o→L ≠ t:=fun L o h e=>by subst e;rw [ht] at h;cases h
  have hsame:∀ L o,lk σ.objs L=some o→zcO g g' L:=fun L o h=>hs L (hne L o h)
  have hlk:∀ L x,lk ((t,o) :: σ.objs) L=some x→(L=t∧x=o)∨(L ≠ t∧lk σ.objs L=some x):=by
    intro L x h
    rw [zal] at h
    split at h
    · rename_i e;simp at h;exact .inl ⟨e.symm,h.symm⟩
    · rename_i e;exact .inr ⟨fun e'=>e e'.symm,h⟩
  have hobkb:∀ L o b,lk σ.objs L=some o→obk g' L o b→obk g L o b:=fun L o b ho hob=>Eq.mp (congrFun (za7 (hsame L o ho)) _) hob
  have hle:Fle g.h g'.h:=by rw [hh];exact fun _ _ h=>h
  refine S.change (g':=g') hsame hle ?_ (fun b o h=>by rw [hh] at h;exact .inl h) (.of hb) ?_ ?_ ?_ ?_ ?_
  · rw [hh];exact S.hw.same fun b o h=>hold b (zf9 S.hw h)
  · intro L x hx
    rcases hlk L x hx with ⟨rfl,rfl⟩ | ⟨_,hx⟩
    · exact hr
    · refine zcj (S.obj L x hx) (hsame L x hx) (fun M hM => ?_) hle (fun b hob => hold b (zco (S.obj L x hx) hob))
      obtain ⟨o',ho'⟩:=S.clO L x hx M hM
      exact hsame M o' ho'
  · intro L x b' hx hob
    rcases hlk L x hx with ⟨rfl,rfl⟩ | ⟨_,hx⟩
    · have h1 := hv b' hob
      refine ⟨Nat.le_trans S.bs h1,?_⟩
      rw [hh]
      cases hq:g.h b' with
      | none=>rfl
      | some x=>exact absurd (zf9 S.hw hq) (by omega)
    · rw [hh];exact S.own L x b' hx (hobkb L x b' hx hob)
  · intro L x b' L' x' hx hx' hob hob'
    rcases hlk L x hx with ⟨rfl,rfl⟩ | ⟨hn,hx2⟩ <;> rcases hlk L' x' hx' with ⟨rfl,rfl⟩ | ⟨hn',hx2'⟩
    · rfl
    · have := hv b' hob
      exact absurd (zco (S.obj L' x' hx2') (hobkb _ _ _ hx2' hob')) (by omega)
    · have := hv b' hob'
      exact absurd (zco (S.obj L x hx2) (hobkb _ _ _ hx2 hob)) (by omega)
    · exact S.sep L x b' L' x' hx2 hx2' (hobkb _ _ _ hx2 hob) (hobkb _ _ _ hx2' hob')
  · intro L o ho
    refine ⟨o,?_⟩
    rw [zal,if_neg (fun e=>hne L o ho e.symm)];exact ho
  · intro L x hx M hM
    rcases hlk L x hx with ⟨rfl,rfl⟩ | ⟨_,hx⟩
    · rw [hlab] at hM;simp at hM
    · obtain ⟨o', ho'⟩ := S.clO L x hx M hM
      exact ⟨o',by rw [zal,if_neg (fun e=>hne M o' ho' e.symm)];exact ho'⟩

theorem zoB {z:Array Value} {s m i:Nat} (hz:z.size=s) (hi:i < m):((madeCells z (m * s)).toList.drop (i * s)).take s=z.toList:=by
 have hii:i * s+s≤m * s:=by have:=Nat.mul_le_mul_right s (Nat.succ_le_of_lt hi);rw [Nat.succ_mul] at this;exact this
 apply List.ext_getElem?
 intro j
 rw [List.getElem?_take]
 split
 ·rename_i hj
  rw [List.getElem?_drop]
  have:(madeCells z (m * s)).toList[i * s+j]? = some z[(i * s+j) % z.size]!:=by
   simp only [madeCells,Array.toList_map,List.getElem?_map]
   rw [Array.toList_range,List.getElem?_range (by omega)]
   rfl
  rw [this,hz,Nat.mul_comm i s,Nat.mul_add_mod,Nat.mod_eq_of_lt hj]
  have hj':j < z.size:=by omega
  simp [hj']
 ·rename_i hj
  rw [List.getElem?_eq_none (by simp;omega)]

theorem zmQ {o : Oper} {t : TypeId} {x y : Operand} {A : OpAct} (S : Sim P nt B w0 h0 g σ a w) (hd : zbF nt o.dst = true) (hop : o.op = .makeSlice t x y)
    (hA:zfe P Γ t (evO σ.env x) (evO σ.env y) o.dst (lk σ.objs)=A) (hs:A.safe):zdN P nt B w0 h0 r n i o A σ a w Q:=by
  unfold zfe at hA
  split at hA
  · rename_i e k1 j k2 j2 dst hu hx hy hdst
    split at hA
    · rename_i ie z hi hz hfresh
      obtain ⟨i',zv,hi2,hzv,hov,hlen⟩:=zdD hz
      rw [hi] at hi2;simp only [Option.some.injEq] at hi2;subst hi2
      have hzs:zv.cells.size=ie.size:=by have:=(zdL (g:=g) _ _ hov).length;simp at this;omega
      have hxv:=zcB S hx
      have hyv:=zcB S hy
      have made:∀ (hs:0≤j∧j=j2∧j≤1000000) (hbytes:ie.bytes≤1000000),∃ w',(execOp a.eval o).run P w=.ok (.value (.slice (some ⟨w.heap.size,0,none⟩) j.toNat j.toNat)) w' ∧
          w'.ownsRow B e ie.size (.slice (some ⟨w.heap.size,0,none⟩) j.toNat j.toNat) j.toNat (madeCells zv.cells (j.toNat * ie.size)).toList∧BelD B w w'∧∀ b,b < w.heap.size→w'.heap[b]? = w.heap[b]?:=by
        intro hs hbytes
        obtain ⟨h0,rfl,h1⟩:=hs
        have hj:j=((j.toNat:Nat):Int):=by omega
        have hmul:ie.bytes * j.toNat≤281474976710656:=Nat.le_trans (Nat.mul_le_mul hbytes (show j.toNat≤1000000 by omega)) (by decide)
        obtain ⟨w',hr,hown,hg⟩:=run_make_full (P:=P) w B t e ie zv ie.size hu hi hzv rfl k1 k2 j.toNat hmul (by simp only [maxLen];omega) S.bs
        refine ⟨w',?_,hown,⟨⟨hg.os,hg.tape,hg.output,hg.size,fun k hk=>hg.block k (Nat.lt_of_lt_of_le hk S.bs) (by simp)⟩,zbO _ _ _ _ hr⟩,fun b hb=>hg.block b hb (by simp)⟩
        rw [← hj] at hr
        simp only [execOp,hop,hxv,hyv,Sem.run_bind,hr,Result.andThen_ok,Sem.run_pure]
      split at hA
      · split at hA
        · rename_i kt vt hum
          split at hA
          · rename_i q hE hcond
            simp only [Bool.and_eq_true,Nat.ble_eq] at hcond
            have hs1:=Nat.eq_of_beq_eq_true hcond.1
            subst hA
            obtain ⟨w',hrun,hown,hbel,hold⟩:=made hs hcond.2
            have hsv:(g.setVv dst (.slice (some ⟨w.heap.size,0,none⟩) j.toNat j.toNat) (fun _=>.map none)).sv dst=.slice (some ⟨w.heap.size,0,none⟩) j.toNat j.toNat:=by simp [Gh.setVv]
            have hiv:(g.setVv dst (.slice (some ⟨w.heap.size,0,none⟩) j.toNat j.toNat) (fun _=>.map none)).iv dst=fun _=>.map none:=by simp [Gh.setVv]
            have hz1:zv.cells.toList=[.map none]:=by
              match hl:zv.cells.toList,hov with
              | [],h=>simp [zcH] at h
              | [v],h =>
                simp only [zcH] at h
                split at h
                · rename_i x' l' h1 h2
                  simp only [Option.some.injEq] at h2;subst h2
                  simp only [Option.some.injEq,List.cons.injEq,Cl.p.injEq,and_true] at h;subst h
                  unfold ziq at h1
                  split at h1 <;> simp at h1
                  rfl
                · cases h
              | v :: u :: l,h =>
                simp only [zcH] at h
                split at h
                · rename_i x' l' h1 h2
                  simp only [Option.some.injEq,List.cons.injEq] at h
                  obtain ⟨_,rfl⟩:=h
                  split at h2
                  · simp at h2
                  · cases h2
                · cases h
            have S2 := S.newObj (t := dst) (o := .vm e ie.bytes kt vt q j.toNat (fun _ => false) (fun _ => 0) (fun _ _ => none)) (g' := g.setVv dst (.slice (some ⟨w.heap.size, 0, none⟩) j.toNat j.toNat) (fun _ => .map none)) (w' := w')
              hfresh rfl (fun M hM=>⟨rfl,by simp [Gh.setVv,hM],by simp [Gh.setVv,hM]⟩) hbel hold (fun b hb=>by
                rcases hb with hb | ⟨i,_,hb⟩
                · rw [hsv] at hb;simp only [Value.ownBlock,Option.some.injEq] at hb;omega
                · rw [hiv] at hb;cases hb) rfl (by
              refine ⟨hE,⟨ie,zv,hi,hs1,rfl,hzv,by rw [hzs,hs1]⟩,?_,fun i hi'=>⟨fun h=>absurd h (by simp),fun _=>⟨congrFun hiv i,rfl,fun _ _=>rfl⟩⟩,fun i k _ h=>?_⟩
              rotate_left
              · rw [hiv] at h;cases h
              rw [hsv,hiv]
              rw [hs1] at hown
              have:(madeCells zv.cells (j.toNat * 1)).toList=(List.range j.toNat).map fun _=>Value.map none:=by
                apply List.ext_getElem?
                intro q
                by_cases hq:q < j.toNat
                · have h1 := zoB (z := zv.cells) (s := 1) (by rw [hzs, hs1]) hq
                  have h2:=congrArg (fun l=>l[0]?) h1
                  simp only [List.getElem?_take,List.getElem?_drop] at h2
                  rw [if_pos (by decide)] at h2
                  simp only [Nat.mul_one,Nat.add_zero] at h2
                  rw [Nat.mul_one,h2,hz1]
                  simp [hq]
                · rw [List.getElem?_eq_none (by simp [madeCells];omega),List.getElem?_eq_none (by simp;omega)]
              rw [this] at hown
              exact hown)
            refine zdM (by simp [hop]) hrun ⟨g.setVv dst (.slice (some ⟨w.heap.size,0,none⟩) j.toNat j.toNat) (fun _=>.map none),_,rfl,?_⟩
            rw [zbv]
            refine S2.put (v:=.slice (some ⟨w.heap.size,0,none⟩) j.toNat j.toNat) hd (d:=.cl (.vec dst)) ⟨hsv.symm,rfl⟩ ?_ _
            intro M hM
            simp [zaS,zbh,zav] at hM
            subst hM
            exact ⟨_,by rw [zal,if_pos rfl]⟩
          · subst hA;exact hs.elim
        · subst hA;exact hs.elim
      · split at hA
        · rename_i l hl
          split at hA
          · rename_i hcond
            simp only [Bool.and_eq_true,Nat.ble_eq] at hcond
            subst hA
            obtain ⟨w',hrun,hown,hbel,hold⟩:=made hs hcond.2
            have hsv:(g.setSv dst (.slice (some ⟨w.heap.size,0,none⟩) j.toNat j.toNat)).sv dst=.slice (some ⟨w.heap.size,0,none⟩) j.toNat j.toNat:=by simp [Gh.setSv]
            have hrl:=zdL (g:=g) _ _ hov
            rw [zem hl] at hrl
            have hrl:=RL.map_left.1 hrl
            have S2 := S.newVec (t := dst) (w' := w') (e := e) (s := ie.size) (b := ie.bytes) (n := j.toNat) (get := fun _ => l) (v := .slice (some ⟨w.heap.size, 0, none⟩) j.toNat j.toNat) hfresh hbel hold
              (fun b hb=>by simp [Value.ownBlock] at hb;omega) ⟨by omega,⟨ie,zv,hi,rfl,rfl,hzv,hzs⟩,_,by rw [hsv];exact hown,fun i hi'=>by rw [zoB hzs hi'];exact hrl⟩
            refine zdM (by simp [hop]) hrun ⟨g.setSv dst (.slice (some ⟨w.heap.size,0,none⟩) j.toNat j.toNat),_,rfl,?_⟩
            rw [zbv]
            refine S2.put (v:=.slice (some ⟨w.heap.size,0,none⟩) j.toNat j.toNat) hd (d:=.cl (.vec dst)) ⟨hsv.symm,rfl⟩ ?_ _
            intro M hM
            simp [zaS,zbh,zav] at hM
            subst hM
            exact ⟨_,by rw [zal,if_pos rfl]⟩
          · subst hA;exact hs.elim
        · subst hA;exact hs.elim
    · subst hA;exact hs.elim
  · subst hA;exact hs.elim

theorem zvh {o : Oper} {t : TypeId} {x : Operand} {A : OpAct} (S : Sim P nt B w0 h0 g σ a w) (hd : zbF nt o.dst = true) (hop : o.op = .range t x)
    (hA:act P Γ o (evO σ.env) (lk σ.objs)=A) (hs:A.safe):zdN P nt B w0 h0 r n i o A σ a w Q:=by
  simp only [act,hop] at hA
  split at hA
  · rename_i q q' m F hq hx
    split at hA
    · rename_i e
      subst e
      unfold zpS at hA
      split at hA
      · rename_i dst hdst
        split at hA
        · rename_i hfresh
          subst hA
          have hp:=zca S hx
          have hu:∃ kt vt,P.underlying t=some (.map kt vt):=by
            unfold zH2 at hq
            split at hq
            · rename_i kt vt hu;exact ⟨kt,vt,hu⟩
            · cases hq
          obtain ⟨kt,vt,hu⟩:=hu
          have fin:∀ ob:Obj,(Instr.range t (a.eval x)).run P w=.ok (.pointer (some ⟨w.heap.size,0,none⟩)) (w.alloc ob)→zIb g.h (w.alloc ob) w.heap.size q' m F [] →
              zdN P nt B w0 h0 r n i o (.val [(dst,true)] (.cl (.ptr dst 0)) [(dst,.mit q' m F [])] []) σ a w Q:=by
            intro ob hrun hm
            have hbk:(g.setBk dst w.heap.size).bk dst=w.heap.size:=by simp [Gh.setBk]
            have S2 := S.newObj (t := dst) (o := .mit q' m F []) (g' := g.setBk dst w.heap.size) (w' := w.alloc ob) hfresh rfl (fun M hM => ⟨by simp [Gh.setBk, hM], rfl, rfl⟩)
              ⟨(Below.refl B w).alloc S.bs _,Nat.le_refl _⟩ (fun b hb=>heap_alloc_old w _ b hb) (fun b hb=>by simp only [obk,hbk] at hb;omega) rfl (by simp only [aoR,hbk];exact hm)
            refine zdM (by simp [hop]) (v:=.pointer (some ⟨w.heap.size,0,none⟩)) (w':=w.alloc ob) (by simp only [execOp,hop,Sem.run_bind,hrun,Result.andThen_ok,Sem.run_pure]) ⟨g.setBk dst w.heap.size,_,rfl,?_⟩
            rw [zbv]
            refine S2.put (v:=.pointer (some ⟨w.heap.size,0,none⟩)) hd (d:=.cl (.ptr dst 0)) ?_ ?_ _
            · show _ = Value.pointer (some ⟨_, 0, none⟩)
              rw [hbk]
            · intro M hM
              simp [zaS,zbh,zav] at hM
              subst hM
              exact ⟨_,by rw [zal,if_pos rfl]⟩
          generalize hv:a.eval x=v at hp
          cases hp with
          | fmn _ _ hF =>
            refine fin (.mapIter none 0 #[] 0) ?_ (.inl ⟨heap_alloc_new w _,rfl,hF,rfl⟩)
            rw [hv]
            simp [Instr.range,run_underlying hu]
          | fm _ _ _ b es clock hb hm =>
            have hheap:=S.hw.fz hb
            obtain ⟨en,hen⟩:=hm
            refine fin (.mapIter (some b) clock #[] clock) ?_ (.inr ⟨b,es,clock,#[],en,hb,hen,heap_alloc_new w _,fun j e x _ _=>by simp,fun c r h=>by cases h⟩)
            rw [hv]
            simp [Instr.range,run_underlying hu,MapKept.run_getObj_map hheap]
        · subst hA;exact hs.elim
      · subst hA;exact hs.elim
    · subst hA;exact hs.elim
  · subst hA;exact hs.elim

theorem find_born {es:List MapEntry} (hn:(es.map (·.born)).Nodup) {j:Nat} {e:MapEntry} (he:es[j]? = some e):es.find? (·.born == e.born)=some e:=by
 induction es generalizing j with
 | nil=>simp at he
 | cons x r ih =>
  simp only [List.map_cons,List.nodup_cons] at hn
  cases j with
  | zero=>simp at he;subst he;simp
  | succ j =>
   simp only [List.getElem?_cons_succ] at he
   have hne:(x.born == e.born)=false:=by
    simp only [beq_eq_false_iff_ne]
    intro h
    exact hn.1 (List.mem_map.2 ⟨e,List.mem_of_getElem? he,h.symm⟩)
   rw [List.find?_cons,hne]
   exact ih hn.2 he

theorem zIk {q : MQ} {m clock : Nat} {F : List Int → Option (List Int)} {es : Array MapEntry} {en : List (List Int × List Int)} (M : MoE q m F es clock en) {j : Nat} {e : MapEntry} {c v : List Int} (he : es[j]? = some e) (hx : en[j]? = some (c, v)) :
  e.key=zbn q.1 c∧e.val=zdt q.2.2.1 q.2.2.2 (some v):=by
 have h:=congrArg (fun l=>l[j]?) M.ents
 have he':es.toList[j]? = some e:=by simpa using he
 simp only [List.getElem?_map,he',hx,Option.map_some,Option.some.injEq,Prod.mk.injEq] at h
 exact h

theorem zji {b:Nat} {m:Option Nat} {since:Nat} {sb:Array Nat} {st:Nat} (h:w.heap[b]? = some (.mapIter m since sb st)):(getObj b).run P w=.ok (.mapIter m since sb st) w:=by
 simp [getObj,Sem.run,h]

theorem zIl {ag:Bool} {c:List Int} {d:D1} (h:zH3 ag c=some d):d1R g d (zbn ag c):=by
 unfold zH3 at h
 split at h
 ·simp only [Option.some.injEq] at h; subst h
  refine ⟨c.map (Value.int .i64),rfl,?_⟩
  induction c with
  | nil=>trivial
  | cons y l ih=>exact ⟨.int _ _,ih⟩
 ·simp only [Option.some.injEq] at h; subst h
  exact .int _ _
 ·cases h
theorem zsI {ag:Bool} {c:List Int} {d:D1} (h:zH3 ag c=some d):zbh d=[]:=by
 unfold zH3 at h
 split at h
 ·simp only [Option.some.injEq] at h; subst h
  induction c with
  | nil=>rfl
  | cons y l ih=>exact ih
 ·simp only [Option.some.injEq] at h;subst h;rfl
 ·cases h

theorem zvi {o : Oper} {x : Operand} {A : OpAct} (S : Sim P nt B w0 h0 g σ a w) (hd : zbF nt o.dst = true) (hop : o.op = .entry x)
    (hA:act P Γ o (evO σ.env) (lk σ.objs)=A) (hs:A.safe):zdN P nt B w0 h0 r n i o A σ a w Q:=by
  simp only [act,hop] at hA
  split at hA
  · rename_i L hx
    split at hA
    · rename_i q m F c seen hL
      split at hA
      · rename_i kd vd hkd hvd
        subst hA
        have hxv:a.eval x=.pointer (some ⟨g.bk L,0,none⟩):=(zbz S hx).1
        rcases S.obj L _ hL with ⟨_,_,_,h⟩ | ⟨mb,es,clock,sb,en,hmb,M,hit,hseen,hcur⟩
        · cases h
        · obtain ⟨j, e, v, he, hen, hback⟩ := hcur c _ rfl
          have hlc:=M.len (c,v) (List.mem_of_getElem? hen)
          have hF:F c=some v:=by rw [M.find c hlc.1];exact zel M.nodup hen
          rw [hF] at hvd
          have hmap:=S.hw.fz hmb
          obtain ⟨hk,hvl⟩:=zIk M he hen
          have hfind:es.find? (·.born == e.born)=some e:=by
            rw [← Array.find?_toList]
            exact find_born M.bornN (by simpa using he)
          have hrun:(Instr.entry (a.eval x)).run P w=.ok (.tuple #[zbn q.1 c,zdt q.2.2.1 q.2.2.2 (some v)]) w:=by
            rw [hxv]
            simp [Instr.entry,zji hit,hback,MapKept.run_getObj_map hmap,hfind,hk,hvl]
          refine zaG S hd (by simp [hop]) (d:=.tup [kd,vd]) (v:=.tuple #[zbn q.1 c,zdt q.2.2.1 q.2.2.2 (some v)]) (fp:=_) rfl ?_ ?_ ?_
          · simp only [execOp,hop,Sem.run_bind,hrun,Result.andThen_ok,Sem.run_pure]
          · exact ⟨[_,_],rfl,zIl hkd,zCu hvd,trivial⟩
          · intro M' hM
            have:zaS (.tup [kd,vd])=zbh kd ++ (zbh vd ++ []):=rfl
            rw [this,ziN hvd,zsI hkd] at hM
            simp at hM
      · subst hA;exact hs.elim
    · subst hA;exact hs.elim
  · subst hA;exact hs.elim
end
end Go.Pm
namespace Go.Pm
open Go.RowKit (Below)

section
variable {P:Program} {Γ:Ctrs} {nt B:Nat} {w0:World} {h0:Fz} {g:Gh} {σ:St} {a:Act} {w:World} {r:Option Nat} {n i:Nat} {Q:Exit→Act→World→Prop}

theorem zjj {ob : Nat → Option AO} : ∀ {cs : List Cl} {l : List PV} {u : Upd}, zc9 ob cs = some (l, u) → cs.all zpP = true ∧ l.length = cs.length
  | [],l,u,h=>by simp [zc9] at h;rw [h.1];exact ⟨rfl,rfl⟩
  | c :: cs,l,u,h=>by
    simp only [zc9] at h
    split at h
    · rename_i v u1 l2 u2 h1 h2
      simp only [Option.some.injEq,Prod.mk.injEq] at h;rw [← h.1]
      obtain ⟨h3,h4⟩:=zjj h2
      refine ⟨?_,by simp [h4]⟩
      have:zpP c=true:=by
        unfold zsp at h1
        split at h1
        · rfl
        · rfl
        · rfl
        · cases h1
      simp [this,h3]
    · cases h

theorem zl5 {ob:Nat→Option AO} {ev:Operand→DV} {s:Nat} : ∀ (parts:List (Nat×Operand)) (i:Nat) (ls:List (List PV)) (u:Upd) (labs:List Nat),
  zcw ob ev s i parts=some (ls,u,labs)→zdj ob u
 | [],i,ls,u,labs,h=>by simp [zcw] at h;rw [h.2.1];exact zdj.nil ob
 | (j,o) :: r,i,ls,u,labs,h=>by
  simp only [zcw] at h
  split at h
  ·split at h
   ·split at h
    ·rename_i h1 h2
     split at h
     ·simp only [Option.some.injEq, Prod.mk.injEq] at h
      rw [← h.2.1]
      exact (zmF h1).append (zl5 r _ _ _ _ h2)
     ·cases h
    ·cases h
   ·cases h
  ·cases h

theorem zl6 {ob : Nat → Option AO} {ev : Operand → DV} {ρ : Operand → Value} {s : Nat} {u' : Upd} {h' : Fz} (hev : ∀ o, dvR g (ev o) (ρ o)) (F : Frozen g ob u' h') :
    ∀ (parts:List (Nat×Operand)) (i:Nat) (ls:List (List PV)) (u:Upd) (labs:List Nat) (C:Array Value) (N:Nat),zcw ob ev s i parts=some (ls,u,labs)→(∀ y∈u,y∈u') →
      C.size=N * s→i+ls.length≤N →
      ∃ D:Array Value,Instr.fill (fun k=>some (k * s,s)) C (parts.map fun x=>(x.1,ρ x.2))=some D∧D.size=C.size∧(∀ q,q < i * s→D[q]? = C[q]?) ∧
        ∀ k l,ls[k]? = some l→RL (Rep h') l ((D.toList.drop ((i+k) * s)).take s)
  | [],i,ls,u,labs,C,N,h,hu,hC,hN=>by
    simp [zcw] at h
    refine ⟨C,rfl,rfl,fun _ _=>rfl,?_⟩
    intro k l hk;rw [h.1] at hk;simp at hk
  | (j,o) :: r,i,ls,u,labs,C,N,h,hu,hC,hN=>by
    have hd:=hev o
    simp only [zcw] at h
    split at h
    · rename_i hij
      have hij:=Nat.eq_of_beq_eq_true hij
      subst hij
      split at h
      · rename_i d he
        rw [he] at hd
        split at h
        · rename_i l1 u1 ls1 us1 labs1 h1 h2
          split at h
          · rename_i hlen
            have hlen:=Nat.eq_of_beq_eq_true hlen
            simp only [Option.some.injEq,Prod.mk.injEq] at h
            obtain ⟨hls,hus,_⟩:=h
            subst hls
            rw [← hus] at hu
            obtain ⟨hok,hll⟩:=zjj h1
            have hcr:=zeB hd hok
            have hcl:=hcr.length
            have hrep:=F.repL0 h1 (fun y hy=>hu y (List.mem_append.2 (.inl hy))) hcr
            have hvs : (ρ o).cells.size = s := by have : (ρ o).cells.toList.length = (ρ o).cells.size := by simp
                                                  omega
            simp only [List.length_cons] at hN
            have hb:i * s+s≤N * s:=by have:=Nat.mul_le_mul_right s (show i+1≤N by omega);rw [Nat.succ_mul] at this;exact this
            obtain ⟨D, hD, hDs, hlow, hel⟩ := zl6 hev F r (i + 1) ls1 us1 labs1 (spl C.toList (i * s) (ρ o).cells.toList).toArray N h2 (fun y hy => hu y (List.mem_append.2 (.inr hy)))
              (by simp [zdC,hC]) (by omega)
            have hsz:(spl C.toList (i * s) (ρ o).cells.toList).toArray.size=C.size:=by simp [zdC]
            have hget:∀ q,(spl C.toList (i * s) (ρ o).cells.toList).toArray[q]? = if i * s≤q∧q < i * s+s then (ρ o).cells.toList[q - i * s]? else C[q]?:=by
              intro q
              simp only [List.getElem?_toArray]
              rw [zmE _ _ _ _ (by simp [hvs,hC];omega)]
              simp [hvs]
            refine ⟨D,?_,hDs.trans hsz,?_,?_⟩
            · simp only [List.map_cons, Instr.fill]
              have h3 : ¬ ((decide ((ρ o).cells.size ≠ s) || decide (i * s+(ρ o).cells.size > C.size))=true):=by simp [hvs,hC];omega
              rw [if_neg h3,← hD]
              refine congrArg (fun z=>Instr.fill _ z _) ?_
              have:=zjb (i * s) (ρ o).cells.toList 0 C
              rw [Nat.add_zero] at this
              rw [← this]
              cases (ρ o).cells
              simp
            · intro q hq
              rw [hlow q (by rw [Nat.succ_mul];omega),hget,if_neg (by omega)]
            · intro k l hk
              cases k with
              | zero =>
                simp only [List.getElem?_cons_zero,Option.some.injEq] at hk
                subst hk
                have e:(D.toList.drop ((i+0) * s)).take s=(ρ o).cells.toList:=by
                  apply List.ext_getElem?
                  intro q
                  by_cases hq:q < s
                  · rw [List.getElem?_take, if_pos hq, List.getElem?_drop, Nat.add_zero]
                    have:=hlow (i * s+q) (by rw [Nat.succ_mul];omega)
                    rw [hget,if_pos (by omega),show i * s+q - i * s=q by omega] at this
                    simpa using this
                  · rw [List.getElem?_take, if_neg hq]
                    symm;apply List.getElem?_eq_none;simp [hvs];omega
                rw [e];exact hrep
              | succ k =>
                have:=hel k l (by simpa using hk)
                rwa [show i+1+k=i+(k+1) by omega] at this
          · cases h
        · cases h
      · cases h
    · cases h

theorem zAH (ls:List (List PV)) (k:Nat) (h:k < ls.length):ls[k]? = some (zcK ls k):=by
 unfold zcK
 split
 ·simp at h
 ·rename_i c;simp at h;subst h;rfl
 ·rename_i c r _
  have:∃ x,(c :: r)[k]? = some x:=⟨_,List.getElem?_eq_getElem h⟩
  obtain ⟨x,hx⟩:=this
  simp only [hx]

theorem zb4 {e:TypeId} {z:List Cl} (hz:zc8 P e=some z) {ie:TypeInfo} (hi:P.info? e=some ie):∃ v,ie.zero=some v∧v.cells.size=ie.size:=by
 obtain ⟨i',v,h1,h2,h3⟩:=zuS hz
 rw [hi] at h1;simp only [Option.some.injEq] at h1;subst h1
 exact ⟨v,h2,h3⟩

theorem zp8 {o : Oper} {t : TypeId} {m : Nat} {parts : Array (Nat × Operand)} {A : OpAct} (S : Sim P nt B w0 h0 g σ a w) (hd : zbF nt o.dst = true) (hop : o.op = .buildSlice t m parts)
    (hA:zf6 P o t m parts.toList (evO σ.env) (lk σ.objs)=A) (hs:A.safe):zdN P nt B w0 h0 r n i o A σ a w Q:=by
  unfold zf6 at hA
  split at hA
  · rename_i te x dst hu hparts hdst
    split at hA
    · rename_i ie z M hi hz hx
      split at hA
      · rename_i e s b m0 get hM hfresh
        split at hA
        · rename_i hcond
          simp only [Bool.and_eq_true,Nat.ble_eq] at hcond
          obtain ⟨⟨hm1,hs1⟩,hbig⟩:=hcond
          have hm1:=Nat.eq_of_beq_eq_true hm1
          have hs1:=Nat.eq_of_beq_eq_true hs1
          subst hm1
          subst hA
          obtain ⟨zv,hzv,hzs⟩:=zb4 hz hi
          have hsz:szT P te=some 1:=by simp [szT,hi,hs1]
          obtain ⟨hxv,hone⟩:=(zbz S hx).1
          have hcells:(a.eval x).cells = #[a.eval x]:=by
            revert hone
            generalize a.eval x=v
            intro hone
            cases v <;> first | rfl | cases hone
          let w':=w.alloc (.cells #[a.eval x] te)
          have hrun:(execOp a.eval o).run P w=.ok (.value (.slice (some ⟨w.heap.size,0,none⟩) 1 1)) w':=by
            simp only [execOp,hop,Instr.buildSlice,Sem.run_bind,run_underlying hu,Result.andThen_ok,run_sizeOf hsz]
            rw [Sem.run_ite,if_neg (by decide),if_neg (by decide)]
            simp only [Sem.run_bind,zb5 hi hzv,Sem.run_pure,Result.andThen_ok,Array.toList_map,hparts,List.map_cons,List.map_nil]
            have hz1:((Array.range (1 * 1)).map (zv.cells[· % zv.cells.size]!)).setIfInBounds 0 (a.eval x) = #[a.eval x]:=by
              apply Array.ext
              · simp
              · intro i h1 h2
                simp at h2;subst h2;simp
            simp only [Nat.mul_one] at hz1
            simp [Instr.fill,hcells,w',newRow,hz1]
          let g':=g.setVv dst (.slice (some ⟨w.heap.size,0,none⟩) 1 1) (fun _=>g.sv M)
          have hne:∀ L o,lk σ.objs L=some o→L ≠ dst:=fun L o h e=>by subst e;rw [hfresh] at h;cases h
          have hsame:∀ L o,lk σ.objs L=some o→zcO g g' L:=fun L o h=>⟨rfl,by simp [g',Gh.setVv,hne L o h],by simp [g',Gh.setVv,hne L o h]⟩
          have hsv:g'.sv dst=.slice (some ⟨w.heap.size,0,none⟩) 1 1:=by simp [g',Gh.setVv]
          have hiv:∀ i,g'.iv dst i=g.sv M:=fun i=>by simp [g',Gh.setVv]
          have hold:∀ k,k < w.heap.size→w'.heap[k]? = w.heap[k]?:=fun k hk=>heap_alloc_old w _ k hk
          obtain ⟨hpos,hinfo,xs,hxs,hr⟩:=S.obj M _ hM
          have hlk:∀ L o,lk ((dst,AO.vv te ie.bytes e s b 1 (fun _=>m0) (fun _=>get)) :: (M,.gone) :: σ.objs) L=some o →
              (L=dst∧o=.vv te ie.bytes e s b 1 (fun _=>m0) (fun _=>get))∨(o=.gone)∨(L ≠ dst∧L ≠ M∧lk σ.objs L=some o):=by
            intro L o h
            rw [zal] at h
            split at h
            · rename_i e';simp only [Option.some.injEq] at h;exact .inl ⟨e'.symm,h.symm⟩
            · rename_i e1
              rw [zal] at h
              split at h
              · simp only [Option.some.injEq] at h;exact .inr (.inl h.symm)
              · rename_i e2;exact .inr (.inr ⟨fun e=>e1 e.symm,fun e=>e2 e.symm,h⟩)
          have hdom:∀ L o,lk σ.objs L=some o→∃ o',lk ((dst,AO.vv te ie.bytes e s b 1 (fun _=>m0) (fun _=>get)) :: (M,.gone) :: σ.objs) L=some o':=by
            intro L o h
            rw [zal];split
            · exact ⟨_,rfl⟩
            · rw [zal]; split
              · exact ⟨_,rfl⟩
              · exact ⟨_,h⟩
          have hobk:∀ k,obk g' dst (.vv te ie.bytes e s b 1 (fun _=>m0) (fun _=>get)) k→k=w.heap.size∨obk g M (.vec e s b m0 get) k:=by
            intro k hk
            rcases hk with hk | ⟨i,_,hk⟩
            · rw [hsv] at hk;simp only [Value.ownBlock,Option.some.injEq] at hk;exact .inl hk.symm
            · rw [hiv] at hk;exact .inr hk
          have S1:Sim P nt B w0 h0 g' { σ with objs:=(dst,.vv te ie.bytes e s b 1 (fun _=>m0) (fun _=>get)) :: (M,.gone) :: σ.objs } a w':=by
            refine S.change (g':=g') hsame (fun _ _ h=>h) ?_ (fun b o h=>.inl h) (Bel.of ⟨(Below.refl B w).alloc S.bs _,Nat.le_refl _⟩) ?_ ?_ ?_ hdom ?_
            · exact S.hw.same fun b o h=>hold b (zf9 S.hw h)
            · intro L o ho
              rcases hlk L o ho with ⟨rfl,rfl⟩ | rfl | ⟨_,_,ho⟩
              · refine ⟨hpos, ⟨ie, zv, hi, hs1, rfl, hzv, by rw [hzs, hs1]⟩, hinfo, ?_, fun i hi' => ⟨by rw [hiv, ← hxv]; exact hone, xs, by rw [hiv]; exact zbt hxs fun k hk => hold k ((hxs.lt k hk).2), hr⟩, ?_⟩
                · rw [hsv]
                  refine ⟨by simp,.inr ⟨w.heap.size,1,#[a.eval x],rfl,S.bs,heap_alloc_new w _,Nat.le_refl _,by simp [maxLen],rfl,?_⟩⟩
                  simp [hiv,hxv]
                · intro i k hi' hk
                  rw [hiv] at hk
                  refine ⟨fun h=>?_,fun j hj _=>by omega⟩
                  rw [hsv] at h;simp only [Value.ownBlock,Option.some.injEq] at h
                  have:=(hxs.lt k hk).2
                  omega
              · trivial
              · exact zcj (S.obj L o ho) (hsame L o ho) (fun N hN=>by obtain ⟨o',ho'⟩:=S.clO L o ho N hN;exact hsame N o' ho') (fun _ _ h=>h) fun k hk=>hold k (zco (S.obj L o ho) hk)
            · intro L o k ho hk
              rcases hlk L o ho with ⟨rfl,rfl⟩ | rfl | ⟨_,_,ho⟩
              · rcases hobk k hk with rfl | hk
                · refine ⟨S.bs, ?_⟩
                  cases hh:g.h w.heap.size with
                  | none=>exact hh
                  | some x=>exact absurd (zf9 S.hw hh) (by omega)
                · exact S.own M _ k hM hk
              · exact hk.elim
              · rw [za7 (hsame L o ho)] at hk;exact S.own L o k ho hk
            · intro L o k L' o' ho ho' hk hk'
              have cross:∀ L o,L ≠ M→lk σ.objs L=some o→obk g L o k→(k=w.heap.size∨obk g M (.vec e s b m0 get) k)→False:=by
                intro L o hne ho hk h
                rcases h with rfl | h
                · exact absurd (zco (S.obj L o ho) hk) (by omega)
                · exact hne (S.sep L o k M _ ho hM hk h)
              rcases hlk L o ho with ⟨rfl,rfl⟩ | rfl | ⟨_,hneM,ho2⟩ <;> rcases hlk L' o' ho' with ⟨rfl,rfl⟩ | rfl | ⟨_,hne',ho2'⟩
              · rfl
              · exact hk'.elim
              · rw [za7 (hsame L' o' ho2')] at hk';exact (cross L' o' hne' ho2' hk' (hobk k hk)).elim
              · exact hk.elim
              · exact hk.elim
              · exact hk.elim
              · rw [za7 (hsame L o ho2)] at hk;exact (cross L o hneM ho2 hk (hobk k hk')).elim
              · exact hk'.elim
              · rw [za7 (hsame L o ho2)] at hk; rw [za7 (hsame L' o' ho2')] at hk'
                exact S.sep L o k L' o' ho2 ho2' hk hk'
            · intro L o ho N hN
              rcases hlk L o ho with ⟨rfl,rfl⟩ | rfl | ⟨_,_,ho⟩
              · simp [zbM] at hN
              · simp [zbM] at hN
              · obtain ⟨o',ho'⟩:=S.clO L o ho N hN;exact hdom N o' ho'
          refine zdM (by simp [hop]) hrun ⟨g',_,rfl,?_⟩
          rw [zbv]
          refine S1.put (σ:={ σ with objs:=(dst,AO.vv te ie.bytes e s b 1 (fun _=>m0) (fun _=>get)) :: (M,.gone) :: σ.objs }) hd (d:=.cl (.vec dst)) ⟨hsv.symm,rfl⟩ ?_ _
          intro L hL
          simp [zaS,zbh,zav] at hL
          subst hL
          exact ⟨_,by rw [zal,if_pos rfl]⟩
        · subst hA;exact hs.elim
      · subst hA;exact hs.elim
    · subst hA;exact hs.elim
  · subst hA;exact hs.elim

theorem zlL {o : Oper} {t : TypeId} {m : Nat} {parts : Array (Nat × Operand)} {A : OpAct} (S : Sim P nt B w0 h0 g σ a w) (hd : zbF nt o.dst = true) (hop : o.op = .buildSlice t m parts)
    (hA:act P Γ o (evO σ.env) (lk σ.objs)=A) (hs:A.safe):zdN P nt B w0 h0 r n i o A σ a w Q:=by
  simp only [act,hop] at hA
  split at hA
  · exact zp8 S hd hop hA hs
  split at hA
  · rename_i e hu
    split at hA
    · rename_i ie hi
      split at hA
      · rename_i ls u labs hp
        split at hA
        · rename_i z dst hcond hz hdst
          split at hA
          · rename_i hfresh
            simp only [Bool.and_eq_true,Nat.ble_eq] at hcond
            obtain ⟨⟨hm,hbig⟩,hpos⟩:=hcond
            have hm:=Nat.eq_of_beq_eq_true hm
            subst hA
            obtain ⟨zv,hzv,hzs⟩:=zb4 hz hi
            have hok:=zl5 _ _ _ _ _ hp
            obtain ⟨h',S1,F⟩:=S.freeze hok
            have hsz:szT P e=some ie.size:=by simp [szT,hi]
            obtain ⟨D,hD,hDs,_,hel⟩:=zl6 (fun x=>S.ev x) F parts.toList 0 ls u labs ((Array.range (m * ie.size)).map (zv.cells[· % zv.cells.size]!)) m hp (fun _ h=>h) (by simp) (by omega)
            have hDsz:D.size=m * ie.size:=by rw [hDs];simp
            have hmm:m≤1000000:=Nat.le_trans (Nat.le_mul_of_pos_right m hpos) hbig
            let w':=w.alloc (.cells D e)
            have hrun:(execOp a.eval o).run P w=.ok (.value (.slice (some ⟨w.heap.size,0,none⟩) m m)) w':=by
              simp only [execOp,hop,Instr.buildSlice,Sem.run_bind,run_underlying hu,Result.andThen_ok,run_sizeOf hsz]
              rw [Sem.run_ite,if_neg (by omega)]
              by_cases h00:m * ie.size=0
              · have hm0 : m = 0 := by rcases Nat.mul_eq_zero.1 h00 with h | h; · exact h
                                       · omega
                subst hm0
                have hpn:parts.toList=[]:=by
                  cases hpl:parts.toList with
                  | nil=>rfl
                  | cons x xs =>
                    rw [hpl] at hp
                    obtain ⟨j,q⟩:=x
                    simp only [zcw] at hp
                    split at hp
                    · split at hp
                      · split at hp
                        · split at hp
                          · simp only [Option.some.injEq, Prod.mk.injEq] at hp
                            rw [← hp.1] at hm;simp at hm
                          · cases hp
                        · cases hp
                      · cases hp
                    · cases hp
                have hDe:D = #[]:=by apply Array.eq_empty_of_size_eq_zero;simp [hDsz]
                rw [if_pos (by simp)]
                simp only [Sem.run_bind,Sem.run_pure,Result.andThen_ok,Array.toList_map,hpn,List.map_nil,Instr.fill]
                simp only [hDe,newRow,Nat.zero_mul,Sem.run_bind,run_newObj,Result.andThen_ok,Sem.run_pure,w']
                rw [show (Array.range 0) = #[] from rfl,List.map_toArray];rfl
              · rw [if_neg h00]
                simp only [Sem.run_bind,zb5 hi hzv,Sem.run_pure,Result.andThen_ok,Array.toList_map]
                rw [hD]
                simp [w',newRow]
            have hvec:zss P ((⟨h',g.bk,g.sv,g.iv⟩:Gh).setSv dst (.slice (some ⟨w.heap.size,0,none⟩) m m)) w' B dst e ie.size ie.bytes m (zcK ls):=by
              refine ⟨hpos,⟨ie,zv,hi,rfl,rfl,hzv,hzs⟩,D.toList,?_,?_⟩
              · rw [show ((⟨h', g.bk, g.sv, g.iv⟩ : Gh).setSv dst (.slice (some ⟨w.heap.size, 0, none⟩) m m)).sv dst = .slice (some ⟨w.heap.size, 0, none⟩) m m by simp [Gh.setSv]]
                refine ⟨by simpa using hDsz,.inr ⟨w.heap.size,m,D,rfl,S.bs,heap_alloc_new w _,Nat.le_refl _,?_,hDsz,?_⟩⟩
                · simp only [maxLen];omega
                · rw [← hDsz,← Array.length_toList,List.take_length]
              · intro k hk
                have:=hel k _ (zAH ls k (by omega))
                rwa [Nat.zero_add] at this
            have hfr2:lk (u ++ σ.objs) dst=none:=by
              rw [zcy]
              cases hl:lk u dst with
              | none=>exact hfresh
              | some x =>
                have:=hok _ (zcI hl)
                rcases this with ⟨_,_,_,_,_,h5,_⟩ | ⟨_,_,_,_,h5,_⟩ | ⟨_,_,_,_,_,_,_,_,h5,_⟩ | ⟨_,_,_,_,_,_,_,_,_,h5,_⟩ | ⟨_,_,_,_,_,h5,_⟩ <;> (simp only at h5;rw [hfresh] at h5;cases h5)
            have S2:=S1.newVec (t:=dst) (w':=w') hfr2 ⟨(Below.refl B w).alloc S.bs _,Nat.le_refl _⟩ (fun b hb=>heap_alloc_old w _ b hb) (fun b hb=>by simp [Value.ownBlock] at hb;omega) hvec
            refine zdM (by simp [hop]) hrun ⟨(⟨h',g.bk,g.sv,g.iv⟩:Gh).setSv dst (.slice (some ⟨w.heap.size,0,none⟩) m m),σ.upd i o.dst (wr labs ++ [(dst,true)]) (.cl (.vec dst)) ((dst,.vec e ie.size ie.bytes m (zcK ls)) :: u) [],rfl,?_⟩
            rw [zbv]
            refine S2.put (v:=.slice (some ⟨w.heap.size,0,none⟩) m m) hd (d:=.cl (.vec dst)) ?_ ?_ _
            · simp [dvR,d1R,clR,Gh.setSv,Value.oneCell']
            · intro L hL
              simp [zaS,zbh,zav] at hL
              subst hL
              exact ⟨_,by rw [zal,if_pos rfl]⟩
          · subst hA;exact hs.elim
        · subst hA;exact hs.elim
      · subst hA;exact hs.elim
    · subst hA;exact hs.elim
  · subst hA;exact hs.elim
end
end Go.Pm
namespace Go.Pm
open Go.RowKit (Below)

theorem ziO {α:Type} {f:α→α} {l:List (Nat×α)} {k:Nat} : lk (kills f l) k=(lk l k).map f:=by
 induction l with
 | nil=>rfl
 | cons x l ih =>
  obtain ⟨j,a⟩:=x
  rw [kills,zal,zal]
  split
  ·rfl
  ·exact ih

section
variable {P:Program} {Γ:Ctrs} {nt B:Nat} {w0:World} {h0:Fz} {g:Gh} {σ:St} {a:Act} {w:World} {r:Option Nat} {n i:Nat} {Q:Exit→Act→World→Prop}

theorem zvj {L:Nat} {g':Gh} (hh:g'.h=g.h) (hbk:∀ M,g'.bk M=g.bk M) (hs:∀ M,M ≠ L→zcO g g' M) {c:Cl} {x:Value} (h:clR g c x):clR g' (zbT [L] c) x:=by
 cases c with
 | p v=>simp only [zbT,clR] at h ⊢;rw [hh];exact h
 | ptr M off=>simp only [zbT,clR] at h ⊢;rw [hbk M];exact h
 | vptr M s k q =>
  show clR g' (match [L].contains M with | true=>.dead M | false=>.vptr M s k q) x
  cases hM:[L].contains M with
  | true=>trivial
  | false =>
   have hne:M ≠ L:=by simpa using hM
   simpa [clR,(hs M hne).2.1] using h
 | vec M =>
  show clR g' (match [L].contains M with | true=>.dead M | false=>.vec M) x
  cases hM:[L].contains M with
  | true=>trivial
  | false =>
   have hne:M ≠ L:=by simpa using hM
   simpa [clR,(hs M hne).2.1] using h
 | ivec M ii =>
  show clR g' (match [L].contains M with | true=>.dead M | false=>.ivec M ii) x
  cases hM:[L].contains M with
  | true=>trivial
  | false =>
   have hne:M ≠ L:=by simpa using hM
   simpa [clR,(hs M hne).2.2] using h
 | iptr M s ii k q =>
  show clR g' (match [L].contains M with | true=>.dead M | false=>.iptr M s ii k q) x
  cases hM:[L].contains M with
  | true=>trivial
  | false =>
   have hne:M ≠ L:=by simpa using hM
   simpa [clR,(hs M hne).2.2] using h
 | imap M ii =>
  show clR g' (match [L].contains M with | true=>.dead M | false=>.imap M ii) x
  cases hM:[L].contains M with
  | true=>trivial
  | false =>
   have hne:M ≠ L:=by simpa using hM
   simpa [clR,(hs M hne).2.2] using h
 | mo M=>simp only [zbT,clR] at h ⊢;rw [hbk M];exact h
 | undef=>exact h
 | junk=>trivial
 | dead M=>trivial
theorem zmR {L : Nat} {g' : Gh} (hh : g'.h = g.h) (hbk : ∀ M, g'.bk M = g.bk M) (hs : ∀ M, M ≠ L → zcO g g' M) : ∀ {cs : List Cl} {vs : List Value}, RL (clR g) cs vs → RL (clR g') (cs.map (zbT [L])) vs
  | [],[],_=>trivial
  | [],_ :: _,h=>h.elim
  | _ :: _,[],h=>h.elim
  | _ :: _,_ :: _,h=>⟨zvj hh hbk hs h.1,zmR hh hbk hs h.2⟩
theorem zsJ {L:Nat} {g':Gh} (hh:g'.h=g.h) (hbk:∀ M,g'.bk M=g.bk M) (hs:∀ M,M ≠ L→zcO g g' M) {d:D1} {x:Value} (h:d1R g d x):d1R g' (zci [L] d) x:=by
 cases d with
 | c y=>exact zvj hh hbk hs h
 | agg cs=>obtain ⟨vs,rfl,hr⟩:=h;exact ⟨vs,rfl,zmR hh hbk hs hr⟩
theorem zoC {L : Nat} {g' : Gh} (hh : g'.h = g.h) (hbk : ∀ M, g'.bk M = g.bk M) (hs : ∀ M, M ≠ L → zcO g g' M) : ∀ {cs : List D1} {vs : List Value}, RL (d1R g) cs vs → RL (d1R g') (cs.map (zci [L])) vs
  | [],[],_=>trivial
  | [],_ :: _,h=>h.elim
  | _ :: _,[],h=>h.elim
  | _ :: _,_ :: _,h=>⟨zsJ hh hbk hs h.1,zoC hh hbk hs h.2⟩
theorem zDR {L:Nat} {g':Gh} (hh:g'.h=g.h) (hbk:∀ M,g'.bk M=g.bk M) (hs:∀ M,M ≠ L→zcO g g' M) {d:DV} {x:Value} (h:dvR g d x):dvR g' (zcX [L] d) x:=by
 cases d with
 | one y=>exact zsJ hh hbk hs h
 | tup ds=>obtain ⟨vs,rfl,hr⟩:=h;exact ⟨vs,rfl,zoC hh hbk hs hr⟩
theorem zoD {l:List Nat} {c:Cl} : ∀ M∈zav (zbT l c),M∈zav c:=by
 intro M hM
 cases c with
 | vec K =>
  have hM:M∈zav (match l.contains K with | true=>.dead K | false=>.vec K):=hM
  cases h:l.contains K with
  | true=>rw [h] at hM;exact hM
  | false=>rw [h] at hM;exact hM
 | vptr K s k q =>
  have hM:M∈zav (match l.contains K with | true=>.dead K | false=>.vptr K s k q):=hM
  cases h:l.contains K with
  | true=>rw [h] at hM;exact hM
  | false=>rw [h] at hM;exact hM
 | ivec K ii =>
  have hM:M∈zav (match l.contains K with | true=>.dead K | false=>.ivec K ii):=hM
  cases h:l.contains K with
  | true=>rw [h] at hM;exact hM
  | false=>rw [h] at hM;exact hM
 | iptr K s ii k q =>
  have hM:M∈zav (match l.contains K with | true=>.dead K | false=>.iptr K s ii k q):=hM
  cases h:l.contains K with
  | true=>rw [h] at hM;exact hM
  | false=>rw [h] at hM;exact hM
 | imap K ii =>
  have hM:M∈zav (match l.contains K with | true=>.dead K | false=>.imap K ii):=hM
  cases h:l.contains K with
  | true=>rw [h] at hM;exact hM
  | false=>rw [h] at hM;exact hM
 | _=>exact hM
theorem zoE {l:List Nat} {cs:List Cl} : ∀ M∈(cs.map (zbT l)).flatMap zav,M∈cs.flatMap zav:=by
 intro M hM
 simp only [List.mem_flatMap,List.mem_map] at hM ⊢
 obtain ⟨_,⟨c,hc,rfl⟩,hM⟩:=hM
 exact ⟨c,hc,zoD M hM⟩
theorem zl7 {l:List Nat} {d:D1} : ∀ M∈zbh (zci l d),M∈zbh d:=by
 cases d with
 | c y=>exact zoD
 | agg cs=>exact zoE
theorem zvk {l:List Nat} {d:DV} : ∀ M∈zaS (zcX l d),M∈zaS d:=by
 cases d with
 | one y=>exact zl7
 | tup ds =>
  intro M hM
  simp only [zcX,zaS,List.mem_flatMap,List.mem_map] at hM ⊢
  obtain ⟨_,⟨d,hd,rfl⟩,hM⟩:=hM
  exact ⟨d,hd,zl7 M hM⟩
theorem zvl {l:List Nat} {o:AO} : ∀ M∈zbM (zcN l o),M∈zbM o:=by
 cases o with
 | box ty cs=>exact zoE
 | _=>exact fun _ h=>h

theorem Sim.regrow (S : Sim P nt B w0 h0 g σ a w) {L : Nat} {o0 o' : AO} {g' : Gh} {w' : World} {gs : List (Nat × AO)} {row : Option Nat} (hL : lk σ.objs L = some o0)
    (hh:g'.h=g.h) (hbk:∀ M,g'.bk M=g.bk M) (hs:∀ M,M ≠ L→zcO g g' M) (hgs:∀ x∈gs,x.2=.gone∧x.1 ≠ L)
    (hg:GrB w w' row) (hrow:∀ k,row=some k→obk g L o0 k)
    (hob:∀ k,obk g' L o' k→obk g L o0 k∨w.heap.size≤k∨∃ T oT,(T,.gone)∈gs∧lk σ.objs T=some oT∧obk g T oT k)
    (hv:aoR P g' w' B L o') (hlab:zbM o'=[]) (log:List (Nat×Nat×Nat)) :
    Sim P nt B w0 h0 g' ⟨kills (zcX [L]) σ.env,(L,o') :: (gs ++ kills (zcN [L]) σ.objs),log⟩ a w':=by
  have hlk:∀ M x,lk ((L,o') :: (gs ++ kills (zcN [L]) σ.objs)) M=some x→(M=L∧x=o')∨x=.gone∨(M ≠ L∧(M,.gone) ∉ gs∧∃ o,lk σ.objs M=some o∧x=zcN [L] o):=by
    intro M x h
    rw [zal] at h
    split at h
    · rename_i e;simp only [Option.some.injEq] at h;exact .inl ⟨e.symm,h.symm⟩
    · rename_i e
      rw [zcy] at h
      cases hgM:lk gs M with
      | some y =>
        rw [hgM] at h;simp only [Option.some.injEq] at h;subst h
        exact .inr (.inl (hgs _ (zcI hgM)).1)
      | none =>
        rw [hgM] at h;simp only [] at h
        rw [ziO] at h
        obtain ⟨o,ho,rfl⟩:=Option.map_eq_some_iff.1 h
        exact .inr (.inr ⟨fun e'=>e e'.symm,zuT hgM _,o,ho,rfl⟩)
  have hdom:∀ M o,lk σ.objs M=some o→∃ x,lk ((L,o') :: (gs ++ kills (zcN [L]) σ.objs)) M=some x:=by
    intro M o h
    rw [zal]
    split
    · exact ⟨_,rfl⟩
    · rw [zcy]
      cases lk gs M with
      | some y=>exact ⟨y,rfl⟩
      | none=>rw [ziO,h];exact ⟨_,rfl⟩
  have hobk:∀ M o,M ≠ L→obk g' M (zcN [L] o)=obk g M o:=by
    intro M o hne
    have:=hs M hne
    funext k
    cases o <;> simp [zcN,obk,this.1,this.2.1,this.2.2]
  have hold:∀ k,k < w.heap.size→¬ obk g L o0 k→w'.heap[k]? = w.heap[k]?:=fun k hk hne=>hg.block k hk (fun e=>hne (hrow k e.symm))
  have hfz:Hw g.h w':=S.hw.same fun k o hk=>hold k (zf9 S.hw hk) (fun e=>by have:=(S.own L o0 k hL e).2;rw [this] at hk;cases hk)
  have hbel:BelD B w w':=⟨⟨hg.os,hg.tape,hg.output,hg.size,fun k hk=>hold k (Nat.lt_of_lt_of_le hk S.bs) (fun e=>by have:=(S.own L o0 k hL e).1;omega)⟩,hg.drawn⟩
  have hnew:∀ k,w.heap.size≤k→B≤k∧g.h k=none:=fun k hk=>by
    refine ⟨Nat.le_trans S.bs hk,?_⟩
    cases hh:g.h k with
    | none=>rfl
    | some x=>exact absurd (zf9 S.hw hh) (by omega)
  refine ⟨by rw [hh];exact S.dfr,S.size,?_,?_,?_,?_,by rw [hh];exact hfz,by rw [hh];exact S.le0,by rw [hh];exact S.hn,S.below.trans (.of hbel),Nat.le_trans S.bs hg.size,?_,?_⟩
  · intro t d ht
    rw [ziO] at ht
    obtain ⟨d',hd',rfl⟩:=Option.map_eq_some_iff.1 ht
    exact zDR hh hbk hs (S.env t d' hd')
  · intro M x hx
    rcases hlk M x hx with ⟨rfl,rfl⟩ | rfl | ⟨hne,hng,o,ho,rfl⟩
    · exact hv
    · trivial
    · have hw':∀ k,obk g M o k→w'.heap[k]? = w.heap[k]?:=fun k hk =>
        hold k (zco (S.obj M o ho) hk) (fun e=>hne (S.sep M o k L _ ho hL hk e))
      have hr:=S.obj M o ho
      have hsM:=hs M hne
      have hle:Fle g.h g'.h:=by rw [hh];exact fun _ _ h=>h
      cases o with
      | box ty cs =>
        obtain ⟨C,hC,hr⟩:=hr
        exact ⟨C,by rw [hbk M,hw' _ rfl];exact hC,zmR hh hbk hs hr⟩
      | fbox cs =>
        obtain ⟨C,ty,fr,hC,hr⟩:=hr
        exact ⟨C,ty,fr,by rw [hh,hbk M];exact hC,by rw [hh];exact hr⟩
      | vec e' s' b' m2 get2=>exact zoq hr hsM.2.1 hle hw'
      | fvec s' m2 get2 =>
        simp only [zcN,aoR] at hr ⊢
        rw [hsM.2.1,hh]
        exact hr
      | vv te bb e' s' b' m2 ln2 get2=>exact zsw hr hsM hle hw'
      | mo kt vt q m2 F =>
        obtain ⟨es,clock,hC,hr⟩:=hr
        exact ⟨es,clock,by rw [hbk M,hw' _ rfl];exact hC,hr⟩
      | vm te bb kt vt q m2 mk nn F=>exact zsx hr hsM hw'
      | mit q m2 F seen =>
        simp only [zcN,aoR] at hr ⊢
        rw [hbk M]
        exact zor hr hle (hw' _ rfl)
      | gone=>trivial
  · intro M x k hx hk
    rw [hh]
    rcases hlk M x hx with ⟨rfl,rfl⟩ | rfl | ⟨hne,hng,o,ho,rfl⟩
    · rcases hob k hk with h | h | ⟨T, oT, _, hT, h⟩
      · exact S.own M o0 k hL h
      · exact hnew k h
      · exact S.own T oT k hT h
    · exact hk.elim
    · rw [hobk M o hne] at hk
      exact S.own M o k ho hk
  · intro M x k M' x' hx hx' hk hk'
    have cross:∀ M o,lk σ.objs M=some o→M ≠ L→(M,.gone) ∉ gs→obk g M o k→obk g' L o' k→False:=by
      intro M o ho hne hng hk hk'
      rcases hob k hk' with h | h | ⟨T,oT,hT,hT2,h⟩
      · exact hne (S.sep M o k L _ ho hL hk h)
      · exact absurd (zco (S.obj M o ho) hk) (by omega)
      · exact hng (by rw [S.sep M o k T oT ho hT2 hk h];exact hT)
    rcases hlk M x hx with ⟨rfl,rfl⟩ | rfl | ⟨hne,hng,o,ho,rfl⟩ <;> rcases hlk M' x' hx' with ⟨rfl,rfl⟩ | rfl | ⟨hne',hng',o2,ho2,rfl⟩
    · rfl
    · exact hk'.elim
    · rw [hobk M' o2 hne'] at hk'
      exact (cross M' o2 ho2 hne' hng' hk' hk).elim
    · exact hk.elim
    · exact hk.elim
    · exact hk.elim
    · rw [hobk M o hne] at hk
      exact (cross M o ho hne hng hk hk').elim
    · exact hk'.elim
    · rw [hobk M o hne] at hk; rw [hobk M' o2 hne'] at hk'
      exact S.sep M o k M' o2 ho ho2 hk hk'
  · intro t d ht M hM
    rw [ziO] at ht
    obtain ⟨d',hd',rfl⟩:=Option.map_eq_some_iff.1 ht
    obtain ⟨o,ho⟩:=S.clE t d' hd' M (zvk M hM)
    exact hdom M o ho
  · intro M x hx N hN
    rcases hlk M x hx with ⟨rfl,rfl⟩ | rfl | ⟨hne,hng,o,ho,rfl⟩
    · rw [hlab] at hN;simp at hN
    · simp [zbM] at hN
    · obtain ⟨o2, ho2⟩ := S.clO M o ho N (zvl N hN)
      exact hdom N o2 ho2

theorem zl8 {L:Nat} {v:Value} : ∀ M,M ≠ L→zcO g (g.setSv L v) M:=fun M h=>⟨rfl,by simp [Gh.setSv,h],rfl⟩
theorem zl9 {L:Nat} {v:Value} {iv:Nat→Value} : ∀ M,M ≠ L→zcO g (g.setVv L v iv) M:=fun M h=>⟨rfl,by simp [Gh.setVv,h],by simp [Gh.setVv,h]⟩

theorem Sim.grow (S : Sim P nt B w0 h0 g σ a w) {L e s b m m' : Nat} {get get' : Nat → List PV} {v' : Value} {w' : World} {dst : Option Nat} (hL : lk σ.objs L = some (.vec e s b m get)) (hd : zbF nt dst = true)
    (hg:GrB w w' (g.sv L).ownBlock) (hpl:v'.ownBlock=(g.sv L).ownBlock∨v'.ownBlock=some w.heap.size∨v'.ownBlock=none) (hv:zss P (g.setSv L v') w' B L e s b m' get') (h1:v'.oneCell'=true) (log:List (Nat×Nat×Nat)) :
    Sim P nt B w0 h0 (g.setSv L v') ⟨zHT dst (.cl (.vec L)) (kills (zcX [L]) σ.env),(L,.vec e s b m' get') :: kills (zcN [L]) σ.objs,log⟩ (a.put dst v') w':=by
  have hsv:(g.setSv L v').sv L=v':=by simp [Gh.setSv]
  have S1 := S.regrow (o' := .vec e s b m' get') (g' := g.setSv L v') (gs := []) (row := (g.sv L).ownBlock) hL rfl (fun _ => rfl) zl8 (fun x hx => by simp at hx) hg (fun k hk => hk)
    (fun k hk=>by
      simp only [obk,hsv] at hk
      rcases hpl with h | h | h
      · exact .inl (by show (g.sv L).ownBlock=some k;rw [← h];exact hk)
      · rw [h] at hk;simp only [Option.some.injEq] at hk;exact .inr (.inl (by omega))
      · rw [h] at hk;cases hk) hv rfl log
  refine S1.put hd (d:=.cl (.vec L)) (v:=v') ⟨hsv.symm,h1⟩ ?_ log
  intro M hM
  simp [zaS,zbh,zav] at hM
  subst hM
  exact ⟨_,by rw [zal,if_pos rfl]⟩

def zIm (w:World) (v:Value) (m s:Nat) (news:List Value):Prop :=
 (m=0∧(v=.slice none 0 0∨∃ a c,v=.slice (some a) 0 c)∧news=[])∨∃ (b o cap:Nat),v=.slice (some ⟨b,o,none⟩) m cap∧news.length=m * s∧(∀ j u,news[j]? = some u→w.cell? ⟨b,o+j,none⟩=some u)∧(∀ u∈news,u.oneCell'=true)

theorem zAI {P:Program} {B L te bb e s b n:Nat} {ln:Nat→Nat} {get:Nat→Nat→List PV} (hv:vvR P g w B L te bb e s b n ln get):zIm w (g.sv L) n 1 ((List.range n).map (g.iv L)):=by
 obtain ⟨_,_,_,h4,h5,_⟩:=hv
 rcases h4.2 with ⟨h1,h2⟩ | ⟨k,cap,cur,h1,hB,hg,hn,hcap,hsz,htk⟩
 ·subst h2;exact .inl ⟨rfl,.inl h1,rfl⟩
 ·refine .inr ⟨k, 0, cap, h1, by simp, fun j u hj => ?_, fun u hu => ?_⟩
  ·rw [cell_of hg, Nat.zero_add]
   rw [← htk,List.getElem?_take] at hj
   split at hj
   ·simpa using hj
   ·cases hj
  ·simp only [List.mem_map, List.mem_range] at hu
   obtain ⟨i,hi,rfl⟩:=hu
   exact (h5 i hi).1

def zvm (g:Gh) (w:World) (v:Value) (m s:Nat) (new:Nat→List PV):Prop :=
 (m=0∧(v=.slice none 0 0∨∃ a c,v=.slice (some a) 0 c))∨∃ (b o cap:Nat) (news:List Value),v=.slice (some ⟨b,o,none⟩) m cap∧news.length=m * s∧(∀ j u,news[j]? = some u→w.cell? ⟨b,o+j,none⟩=some u) ∧
  (∀ u∈news,u.oneCell'=true)∧∀ k,k < m→RL (Rep g.h) (new k) ((news.drop (k * s)).take s)

theorem src_of {b o cap m s : Nat} {C : Array Value} {ty : TypeId} {fr : Nat × Nat} {new : Nat → List PV} {v : Value} (hs : 0 < s) (hv : v = .slice (some ⟨b, o, none⟩) m cap) (hb : w.heap[b]? = some (.cells C ty fr))
    (hlen:∀ k,k < m→(new k).length=s) (hel:∀ k j x,k < m→(new k)[j]? = some x→∃ u,C[o+k * s+j]? = some u∧Rep g.h x u):zvm g w v m s new:=by
  refine .inr ⟨b,o,cap,(List.range (m * s)).map fun q=>C.getD (o+q) undef,hv,by simp,?_,?_,?_⟩
  all_goals
    have at_:∀ q,q < m * s→∃ x u,(new (q / s))[q % s]? = some x∧C[o+q]? = some u∧Rep g.h x u:=by
      intro q hq
      have hk:q / s < m:=Nat.div_lt_of_lt_mul (by rw [Nat.mul_comm];exact hq)
      have hj:q % s < s:=Nat.mod_lt _ hs
      have hx:(new (q / s))[q % s]? = some ((new (q / s))[q % s]'(by rw [hlen _ hk];exact hj)):=List.getElem?_eq_getElem _
      obtain ⟨u,hu,hxu⟩:=hel _ _ _ hk hx
      refine ⟨_,u,hx,?_,hxu⟩
      rw [show o+q=o+q / s * s+q % s by have:=Nat.div_add_mod q s;rw [Nat.mul_comm] at this;omega]
      exact hu
  · intro j u hj
    have hjm:j < m * s:=by have:=(List.getElem?_eq_some_iff.1 hj).1;simpa using this
    obtain ⟨x,u',_,hu,_⟩:=at_ j hjm
    rw [cell_of hb]
    simp [hjm] at hj
    rw [hu] at hj ⊢
    simpa using hj
  · intro u hu
    simp only [List.mem_map,List.mem_range] at hu
    obtain ⟨q,hq,rfl⟩:=hu
    obtain ⟨x,u',_,hu,hxu⟩:=at_ q hq
    rw [Array.getD_eq_getD_getElem?,hu]
    exact hxu.one
  · intro k hk
    have hle:k * s+s≤m * s:=by have:=Nat.mul_le_mul_right s (Nat.succ_le_of_lt hk);rw [Nat.succ_mul] at this;exact this
    refine RL.of_get ?_ ?_
    · rw [hlen k hk];simp;omega
    · intro j x u hx hu
      have hj:j < s:=by have:=(List.getElem?_eq_some_iff.1 hx).1;rw [hlen k hk] at this;exact this
      obtain ⟨u',hu',hxu⟩:=hel k j x hk hx
      rw [List.getElem?_take,if_pos hj,List.getElem?_drop] at hu
      have hin:k * s+j < m * s:=by omega
      simp [hin] at hu
      rw [show o+(k * s+j)=o+k * s+j by omega,hu'] at hu
      simp only [Option.getD_some] at hu
      rw [← hu];exact hxu

theorem zCv {m s:Nat} {new:Nat→List PV} {v:Value} (S:Sim P nt B w0 h0 g σ a w) (hs:0 < s) (h:Rep g.h (.sl m s new) v):zvm g w v m s new:=by
 cases h with
 | sl0=>exact .inl ⟨rfl,.inl rfl⟩
 | sle _ _ a c=>exact .inl ⟨rfl,.inr ⟨a,c,rfl⟩⟩
 | sl _ _ _ b o cap C ty fr vs hb hcap hlen hc hr=>exact src_of hs rfl (S.hw.fz hb) hlen fun k j x hk hj=>⟨vs k j,hc k j x hk hj,hr k j x hk hj⟩

theorem zDS {L e s b m:Nat} {new:Nat→List PV} (h:zss P g w B L e s b m new):zvm g w (g.sv L) m s new:=by
 by_cases hm:m=0
 ·subst hm
  obtain ⟨hs,_,xs,hx,_⟩:=h
  rcases hx.2 with ⟨h1,_⟩ | ⟨k,cap,cur,h1,_⟩
  ·exact .inl ⟨rfl,.inl h1⟩
  ·have hx0 : xs = [] := by have := hx.1; simpa using this
   exact .inr ⟨k,0,cap,[],h1,by simp,fun j u hj=>by simp at hj,fun u hu=>by simp at hu,fun k hk=>absurd hk (by omega)⟩
 ·obtain ⟨k, C, _, ⟨cap, hsv⟩, hC, _, _, _⟩ := zfF h (show 0 < m by omega)
  refine src_of h.1 hsv hC (fun q hq=>?_) (fun q j x hq hj=>?_)
  ·obtain ⟨_,_,_,_,_,_,h6,_⟩:=zfF h hq;exact h6
  ·obtain ⟨k', C', hk', ⟨cap', hsv'⟩, hC', _, _, h7⟩ := zfF h hq
   rw [hsv] at hsv'
   simp only [Value.slice.injEq,Option.some.injEq,Addr.mk.injEq] at hsv'
   obtain ⟨⟨rfl,_⟩,_⟩:=hsv'
   rw [hC] at hC';simp only [Option.some.injEq,Obj.cells.injEq] at hC'
   obtain ⟨rfl,_⟩:=hC'
   rw [Nat.zero_add];exact h7 j x hj
end
end Go.Pm
namespace Go.Pm
open Go.RowKit (Below)

section
variable {P:Program} {Γ:Ctrs} {nt B:Nat} {w0:World} {h0:Fz} {g:Gh} {σ:St} {a:Act} {w:World} {r:Option Nat} {n i:Nat} {Q:Exit→Act→World→Prop}

theorem zmS (σ : St) (i : Nat) (dst : Option Nat) (fp : List (Nat × Bool)) (d : DV) (u : List (Nat × AO)) (L : Nat) :
  σ.upd i dst fp d u [L]=⟨zHT dst d (kills (zcX [L]) σ.env),u ++ kills (zcN [L]) σ.objs,σ.log⟩:=by
 cases dst <;> rfl

theorem zgc {t e : TypeId} {ty : TypeId} {ie : TypeInfo} {base m m' s : Nat} {v x : Value} {xs news : List Value} (hu : P.underlying t = some (.slice e)) (hi : P.info? e = some ie)
    {z:Value} (hz:ie.zero=some z) (hzs:z.cells.size=ie.size) (hs:ie.size=s) (hpos:0 < s) (hbase:base≤w.heap.size) (hown:w.ownsRow base e s v m xs) (hsrc:zIm w x m' s news)
    (hlen:m+m'≤9223372036854775807) (hbytes:(m+m') * ie.bytes≤140737488355328) :
    ∃ v' w',(Builtin.append_ #[t,t] ty #[v,x]).run P w=.ok v' w'∧w'.ownsRow base e s v' (m+m') (xs ++ news)∧GrB w w' v.ownBlock∧(v'.ownBlock=v.ownBlock∨v'.ownBlock=some w.heap.size) ∧
      v'.oneCell'=true:=by
  have hvs:∃ ad c,v=.slice ad m c:=by
    rcases hown.2 with ⟨h1,h2⟩ | ⟨k,cap,cur,h1,_⟩
    · subst h2;exact ⟨_,_,h1⟩
    · exact ⟨_,_,h1⟩
  obtain ⟨ad,c,hvs⟩:=hvs
  rcases hsrc with ⟨rfl,hx | ⟨a',c',hx⟩,rfl⟩ | ⟨b,o,cap,hx,hl,hmem,h1⟩
  · subst hx
    have hrun:=run_append_owned_none (P:=P) (w:=w) base t ty e ie s hu hi v m xs hown
    refine ⟨v,w,hrun,by simpa using hown,⟨⟨rfl,rfl,rfl,Nat.le_refl _,fun _ _ _=>rfl⟩,Nat.le_refl _⟩,.inl rfl,by rw [hvs];rfl⟩
  · subst hx
    obtain ⟨v', w', hrun, hown', hg, _⟩ := run_append_own (P := P) w base t ty e ie z s ie.bytes hu hi hz hs rfl (by rw [hzs, hs]) hpos v m xs hown a' 0 c' [] (by simp)
      (fun j u hj=>by simp at hj) (fun u hu=>by simp at hu) (by simp only [maxLen];omega) hbytes hbase
    refine ⟨v',w',hrun,hown',⟨hg,zbO _ _ _ _ hrun⟩,?_,?_⟩
    · rw [hvs] at hrun
      have:=zis (P:=P) (t:=t) (ty:=ty) w v' w' hrun
      rw [hvs]
      cases ad <;> exact this
    · rcases hown'.2 with ⟨h1,_⟩ | ⟨k,cap,cur,h1,_⟩ <;> rw [h1] <;> rfl
  · subst hx
    obtain ⟨v', w', hrun, hown', hg, _⟩ := run_append_own (P := P) w base t ty e ie z s ie.bytes hu hi hz hs rfl (by rw [hzs, hs]) hpos v m xs hown ⟨b, o, none⟩ m' cap news hl
      (fun j u hj=>by rw [addr_add];exact hmem j u hj) h1 (by simp only [maxLen];omega) hbytes hbase
    refine ⟨v',w',hrun,hown',⟨hg,zbO _ _ _ _ hrun⟩,?_,?_⟩
    · rw [hvs] at hrun
      have:=zis (P:=P) (t:=t) (ty:=ty) w v' w' hrun
      rw [hvs]
      cases ad <;> exact this
    · rcases hown'.2 with ⟨h1,_⟩ | ⟨k,cap,cur,h1,_⟩ <;> rw [h1] <;> rfl

theorem zma {t e : TypeId} {ty : TypeId} {ie : TypeInfo} {base m m' s : Nat} {v x : Value} {xs : List Value} {new : Nat → List PV} (hu : P.underlying t = some (.slice e)) (hi : P.info? e = some ie)
    {z:Value} (hz:ie.zero=some z) (hzs:z.cells.size=ie.size) (hs:ie.size=s) (hpos:0 < s) (hbase:base≤w.heap.size) (hown:w.ownsRow base e s v m xs) (hsrc:zvm g w x m' s new)
    (hlen:m+m'≤9223372036854775807) (hbytes:(m+m') * ie.bytes≤140737488355328) :
    ∃ v' w' news,(Builtin.append_ #[t,t] ty #[v,x]).run P w=.ok v' w'∧w'.ownsRow base e s v' (m+m') (xs ++ news)∧GrB w w' v.ownBlock∧(v'.ownBlock=v.ownBlock∨v'.ownBlock=some w.heap.size) ∧
      v'.oneCell'=true∧news.length=m' * s∧∀ k,k < m'→RL (Rep g.h) (new k) ((news.drop (k * s)).take s):=by
  rcases hsrc with ⟨rfl,hx⟩ | ⟨b,o,cap,news,hx,hl,hmem,h1,hr⟩
  · obtain ⟨v', w', h⟩ := zgc (P := P) (ty := ty) (news := []) hu hi hz hzs hs hpos hbase hown (.inl ⟨rfl, hx, rfl⟩) hlen hbytes
    exact ⟨v',w',[],h.1,h.2.1,h.2.2.1,h.2.2.2.1,h.2.2.2.2,by simp,fun k hk=>absurd hk (by omega)⟩
  · obtain ⟨v', w', h⟩ := zgc (P := P) (ty := ty) (news := news) hu hi hz hzs hs hpos hbase hown (.inr ⟨b, o, cap, hx, hl, hmem, h1⟩) hlen hbytes
    exact ⟨v',w',news,h.1,h.2.1,h.2.2.1,h.2.2.2.1,h.2.2.2.2,hl,hr⟩

theorem zAJ {L e s b m m' : Nat} {get new : Nat → List PV} {v' : Value} {w' : World} {xs news : List Value} (hv0 : 0 < s ∧ ∃ i z, P.info? e = some i ∧ i.size = s ∧ i.bytes = b ∧ i.zero = some z ∧ z.cells.size = s)
    (hx:xs.length=m * s) (hr:∀ k,k < m→RL (Rep g.h) (get k) ((xs.drop (k * s)).take s)) (_hn:news.length=m' * s) (hrn:∀ k,k < m'→RL (Rep g.h) (new k) ((news.drop (k * s)).take s))
    (hown:w'.ownsRow B e s v' (m+m') (xs ++ news)):zss P (g.setSv L v') w' B L e s b (m+m') (appG m get new):=by
  refine ⟨hv0.1,hv0.2,xs ++ news,by rw [show (g.setSv L v').sv L=v' by simp [Gh.setSv]];exact hown,?_⟩
  intro k hk
  show RL (Rep g.h) (match Nat.ble m k with | true=>new (k - m) | false=>get k) _
  cases hb:Nat.ble m k with
  | true =>
    have hmk:=Nat.le_of_ble_eq_true hb
    have e:((xs ++ news).drop (k * s)).take s=(news.drop ((k - m) * s)).take s:=by
      rw [List.drop_append,show xs.drop (k * s)=[] from List.drop_eq_nil_of_le (by rw [hx];exact Nat.mul_le_mul_right s hmk),List.nil_append,hx,← Nat.sub_mul]
    rw [e];exact hrn (k - m) (by omega)
  | false =>
    have hmk:k < m:=by
      have : ¬ m≤k:=fun h=>by rw [Nat.ble_eq_true_of_le h] at hb;cases hb
      omega
    have hle:k * s+s≤m * s:=by have:=Nat.mul_le_mul_right s (Nat.succ_le_of_lt hmk);rw [Nat.succ_mul] at this;exact this
    have e:((xs ++ news).drop (k * s)).take s=(xs.drop (k * s)).take s:=by
      rw [List.drop_append_of_le_length (by omega),List.take_append_of_le_length (by simp;omega)]
    rw [e];exact hr k hmk

theorem zvn {α:Type} (f h:Nat→α) (n m:Nat):(List.range n).map f ++ (List.range m).map h=(List.range (n+m)).map fun j=>match Nat.ble n j with | true=>h (j - n) | false=>f j:=by
 apply List.ext_getElem?
 intro j
 by_cases hj:j < n
 ·have hb : Nat.ble n j = false := by cases hb : Nat.ble n j with | true => exact absurd (Nat.le_of_ble_eq_true hb) (by omega) | false => rfl
  rw [List.getElem?_append_left (by simpa using hj)]
  simp [hj,show j < n+m by omega,hb]
 ·have hb : Nat.ble n j = true := Nat.ble_eq_true_of_le (by omega)
  rw [List.getElem?_append_right (by simp;omega)]
  by_cases hj2:j < n+m
  ·simp [hj2,show j - n < m by omega,hb]
  ·simp [hj2,show ¬ j - n < m by omega]

theorem zoF {o : Oper} {s x : Operand} {t e : TypeId} {ie : TypeInfo} {z : List Cl} {T dst : Nat} {A : OpAct} (S : Sim P nt B w0 h0 g σ a w) (hd : zbF nt o.dst = true) (hnd : ∀ c, o.op ≠ .defer c)
    (hu:P.underlying t=some (.slice e)) (hi:P.info? e=some ie) (hz:zc8 P e=some z) (hdst:o.dst=some dst) (hx:evO σ.env x=.one (.c (.vec T)))
    (hrunOf:∀ (v':Value) (w':World),(Builtin.append_ #[t,t] o.type #[a.eval s,a.eval x]).run P w=.ok v' w'→(execOp a.eval o).run P w=.ok (.value v') w')
    (hA:zds o e ie (evO σ.env s) T (lk σ.objs)=A) (hs:A.safe):zdN P nt B w0 h0 r n i o A σ a w Q:=by
  obtain ⟨zv,hzv,hzs⟩:=zb4 hz hi
  unfold zds at hA
  split at hA
  · rename_i te' bb' e' s' b' m lnT zhn hT
    split at hA
    · rename_i L hsL
      split at hA
      · rename_i te bb e1 s1 b1 n0 ln get hL
        split at hA
        · rename_i hcond
          obtain ⟨rfl,rfl,rfl,rfl,hsz1,rfl,rfl,rfl,hLT⟩:=hcond
          subst hA
          have hs':(n0+m) * ie.bytes≤140737488355328∧n0+m≤9223372036854775807:=hs
          obtain ⟨h1,_⟩:=zbz S hsL
          obtain ⟨h2,_⟩:=zbz S hx
          have hvT:=S.obj T _ hT
          have hvL:=S.obj L _ hL
          obtain ⟨hpos,hinfo1,hinfo2,hown,hin,hdis⟩:=hvL
          obtain ⟨_,_,_,hownT,hinT,hdisT⟩:=id hvT
          obtain ⟨v',w',hrun,hown',hg,hpl,hone⟩:=zgc (P:=P) (ty:=o.type) hu hi hzv hzs hsz1 (by decide) S.bs hown (zAI hvT) hs'.2 hs'.1
          rw [← h1.1,← h2.1] at hrun
          rw [zvn] at hown'
          let iv':Nat→Value:=fun j=>match Nat.ble n0 j with | true=>g.iv T (j - n0) | false=>g.iv L j
          let g':=g.setVv L v' iv'
          have hsv:g'.sv L=v':=by simp [g',Gh.setVv]
          have hiv:g'.iv L=iv':=by simp [g',Gh.setVv]
          have hobL:∀ k,(g.sv L).ownBlock=some k→obk g L (.vv te' ie.bytes e1 s1 b1 n0 ln get) k:=fun k hk=>.inl hk
          have lo:∀ j,j < n0→iv' j=g.iv L j∧zDG n0 ln lnT j=ln j∧zpQ n0 get zhn j=get j:=by
            intro j hj
            have hb:Nat.ble n0 j=false:=by cases hb:Nat.ble n0 j with | true=>exact absurd (Nat.le_of_ble_eq_true hb) (by omega) | false=>rfl
            simp only [iv',zDG,zpQ,hb,and_self]
          have hi':∀ j,n0≤j→iv' j=g.iv T (j - n0)∧zDG n0 ln lnT j=lnT (j - n0)∧zpQ n0 get zhn j=zhn (j - n0):=by
            intro j hj
            have hb:Nat.ble n0 j=true:=Nat.ble_eq_true_of_le hj
            simp only [iv',zDG,zpQ,hb,and_self]
          have blk:∀ j k,j < n0+m→(iv' j).ownBlock=some k→(j < n0∧obk g L (.vv te' ie.bytes e1 s1 b1 n0 ln get) k∧(g.iv L j).ownBlock=some k)∨(n0≤j∧obk g T (.vv te' ie.bytes e1 s1 b1 m lnT zhn) k∧(g.iv T (j - n0)).ownBlock=some k):=by
            intro j k hj hk
            by_cases h:j < n0
            · rw [(lo j h).1] at hk;exact .inl ⟨h,.inr ⟨j,h,hk⟩,hk⟩
            · rw [(hi' j (by omega)).1] at hk;exact .inr ⟨by omega,.inr ⟨j - n0,by omega,hk⟩,hk⟩
          have hLTk:∀ k,obk g L (.vv te' ie.bytes e1 s1 b1 n0 ln get) k→obk g T (.vv te' ie.bytes e1 s1 b1 m lnT zhn) k→False:=fun k h h'=>hLT (S.sep L _ k T _ hL hT h h')
          have hlt:∀ j k,j < n0+m→(iv' j).ownBlock=some k→k < w.heap.size:=by
            intro j k hj hk
            rcases blk j k hj hk with ⟨_,h,_⟩ | ⟨_,h,_⟩
            · exact zco (S.obj L _ hL) h
            · exact zco (S.obj T _ hT) h
          have hkeep:∀ j k,j < n0+m→(iv' j).ownBlock=some k→w'.heap[k]? = w.heap[k]?:=by
            intro j k hj hk
            refine hg.block k (hlt j k hj hk) fun e=>?_
            rcases blk j k hj hk with ⟨h,_,h3⟩ | ⟨_,h,_⟩
            · exact (hdis j k h h3).1 e.symm
            · exact hLTk k (hobL k e.symm) h
          have hvv:vvR P g' w' B L te' ie.bytes e1 s1 b1 (n0+m) (zDG n0 ln lnT) (zpQ n0 get zhn):=by
            refine ⟨hpos,hinfo1,hinfo2,by rw [hsv,hiv];exact hown',fun j hj=>?_,fun j k hj hk=>?_⟩
            · rw [hiv]
              by_cases h:j < n0
              · obtain ⟨e1, e2, e3⟩ := lo j h
                have hk:=hkeep j
                rw [e1] at hk ⊢;rw [e2,e3]
                obtain ⟨h7,xs,hxs,hr⟩:=hin j h
                exact ⟨h7,xs,zbt hxs fun k=>hk k hj,hr⟩
              · obtain ⟨e1, e2, e3⟩ := hi' j (by omega)
                have hk:=hkeep j
                rw [e1] at hk ⊢;rw [e2,e3]
                obtain ⟨h7,xs,hxs,hr⟩:=hinT (j - n0) (by omega)
                exact ⟨h7,xs,zbt hxs fun k=>hk k hj,hr⟩
            · rw [hiv] at hk
              rw [hsv,hiv]
              refine ⟨fun e=>?_,fun q hq hk'=>?_⟩
              · rcases hpl with h | h
                · rw [h] at e
                  rcases blk j k hj hk with ⟨h3,_,h4⟩ | ⟨_,h3,_⟩
                  · exact (hdis j k h3 h4).1 e
                  · exact hLTk k (hobL k e) h3
                · rw [h] at e; simp only [Option.some.injEq] at e
                  have:=hlt j k hj hk;omega
              · rcases blk j k hj hk with ⟨h3, h4, h5⟩ | ⟨h3, h4, h5⟩ <;> rcases blk q k hq hk' with ⟨h6, h7, h8⟩ | ⟨h6, h7, h8⟩
                · exact (hdis j k h3 h5).2 q h6 h8
                · exact (hLTk k h4 h7).elim
                · exact (hLTk k h7 h4).elim
                · have := (hdisT (j - n0) k (by omega) h5).2 (q - n0) (by omega) h8
                  omega
          have S1 := S.regrow (o' := .vv te' ie.bytes e1 s1 b1 (n0 + m) (zDG n0 ln lnT) (zpQ n0 get zhn)) (g' := g') (gs := [(T, .gone)]) (row := (g.sv L).ownBlock) hL rfl (fun _ => rfl) zl9
            (fun x hx=>by simp only [List.mem_singleton] at hx;subst hx;exact ⟨rfl,fun e=>hLT e.symm⟩) hg (fun k hk=>hobL k hk)
            (fun k hk=>by
              rcases hk with hk | ⟨j,hj,hk⟩
              · rw [hsv] at hk
                rcases hpl with h | h
                · rw [h] at hk;exact .inl (hobL k hk)
                · rw [h] at hk;simp only [Option.some.injEq] at hk;exact .inr (.inl (by omega))
              · rw [hiv] at hk
                rcases blk j k hj hk with ⟨_,h,_⟩ | ⟨_,h,_⟩
                · exact .inl h
                · exact .inr (.inr ⟨T,_,by simp,hT,h⟩)) hvv rfl σ.log
          refine zdM hnd (hrunOf v' w' hrun) ⟨g',_,rfl,?_⟩
          rw [zmS]
          refine S1.put hd (d:=.cl (.vec L)) (v:=v') ⟨hsv.symm,hone⟩ ?_ σ.log
          intro M hM
          simp [zaS,zbh,zav] at hM
          subst hM
          exact ⟨_,by rw [zal,if_pos rfl]⟩
        · subst hA;exact hs.elim
      · subst hA;exact hs.elim
    · subst hA;exact hs.elim
  · subst hA;exact hs.elim

theorem zuh {o : Oper} {args : Array Operand} {ts : Array TypeId} {A : OpAct} (S : Sim P nt B w0 h0 g σ a w) (hd : zbF nt o.dst = true) (hop : o.op = .call { callee := .builtin .append, args, argTypes := ts })
    (hA:act P Γ o (evO σ.env) (lk σ.objs)=A) (hs:A.safe):zdN P nt B w0 h0 r n i o A σ a w Q:=by
  simp only [act,hop] at hA
  split at hA
  · rename_i s x t t' hargs hts
    split at hA
    · rename_i e dst hu htt hdst
      have htt:=Nat.eq_of_beq_eq_true htt
      subst htt
      have ha:args = #[s,x]:=by rw [← Array.toArray_toList (xs:=args),hargs]
      have ht:ts = #[t,t]:=by rw [← Array.toArray_toList (xs:=ts),hts]
      subst ha ht
      split at hA
      · rename_i ie z hi hz
        obtain ⟨zv,hzv,hzs⟩:=zb4 hz hi
        have hrunOf:∀ (v':Value) (w':World),(Builtin.append_ #[t,t] o.type #[a.eval s,a.eval x]).run P w=.ok v' w'→(execOp a.eval o).run P w=.ok (.value v') w':=by
          intro v' w' h
          refine fb hop ?_
          simp only [builtin,Sem.run_bind,List.map_toArray,List.map_cons,List.map_nil,h,Result.andThen_ok,Sem.run_pure]
        split at hA
        · rename_i T hT
          unfold zhm at hT
          split at hT
          · rename_i M hx
            split at hT
            · simp only [Option.some.injEq] at hT; subst hT
              exact zoF S hd (by simp [hop]) hu hi hz hdst hx hrunOf hA hs
            · cases hT
          · cases hT
        split at hA
        · rename_i src m sz new fps hsrc
          have hsrcOk:sz ≠ 0→zvm g w (a.eval x) m sz new:=by
            intro hsz
            have hsz:0 < sz:=by omega
            split at hsrc
            · rename_i hx
              simp only [Option.some.injEq,Prod.mk.injEq] at hsrc
              obtain ⟨rfl,rfl,rfl,_⟩:=hsrc
              exact zCv S hsz (zca S hx)
            · rename_i M hx
              obtain ⟨h1,_⟩:=zbz S hx
              split at hsrc
              · rename_i hM
                simp only [Option.some.injEq,Prod.mk.injEq] at hsrc
                obtain ⟨rfl,rfl,rfl,_⟩:=hsrc
                rw [h1.1];exact zDS (S.obj M _ hM)
              · rename_i hM
                simp only [Option.some.injEq,Prod.mk.injEq] at hsrc
                obtain ⟨rfl,rfl,rfl,_⟩:=hsrc
                rw [h1.1];exact zCv S hsz (S.obj M _ hM).1
              · cases hsrc
            · cases hsrc
          split at hA
          · rename_i L hsL
            obtain ⟨h1,_⟩:=zbz S hsL
            split at hA
            · rename_i e' s' b' m0 get hL
              split at hA
              · rename_i hcond
                obtain ⟨rfl,rfl,rfl,hszs,hpos,_⟩:=hcond
                subst hA
                have hs':(m0+m) * ie.bytes≤140737488355328∧m0+m≤9223372036854775807:=hs
                have hsz0:sz ≠ 0:=by omega
                have hsrc':=hsrcOk hsz0
                rw [hszs] at hsrc'
                obtain ⟨hp,hinfo,xs,hx,hr⟩:=S.obj L _ hL
                obtain ⟨v',w',news,hrun,hown',hg,hpl,hone,hnl,hrn⟩:=zma (P:=P) (ty:=o.type) hu hi hzv hzs rfl hp S.bs hx hsrc' hs'.2 hs'.1
                rw [← h1.1] at hrun
                have hvec:=zAJ (P:=P) (L:=L) ⟨hp,hinfo⟩ hx.1 hr hnl hrn hown'
                have S':=S.grow (dst:=o.dst) hL hd hg (hpl.imp id .inl) hvec hone σ.log
                refine zdM (by simp [hop]) (hrunOf v' w' hrun) ⟨g.setSv L v',σ.upd i o.dst ((L,true) :: fps) (.cl (.vec L)) [(L,.vec e' ie.size ie.bytes (m0+m) (appG m0 get new))] [L],rfl,?_⟩
                rw [zmS]
                exact S'
              · subst hA;exact hs.elim
            · subst hA;exact hs.elim
          · rename_i hsN
            split at hA
            · rename_i hfresh
              split at hA
              · rename_i hcond
                obtain ⟨hszs,hpos⟩:=hcond
                subst hA
                have hs':m * ie.bytes≤140737488355328∧m≤9223372036854775807:=hs
                have hsrc':=hsrcOk (by omega)
                have hnil:a.eval s=.slice none 0 0:=by
                  have:=zca S hsN
                  generalize a.eval s=v at this
                  cases this;rfl
                obtain ⟨v', w', news, hrun, hown', hg, hpl, hone, hnl, hrn⟩ := zma (P := P) (ty := o.type) (base := w.heap.size) (m := 0) (v := .slice none 0 0) (xs := []) hu hi hzv hzs hszs.symm hpos (Nat.le_refl _)
                  (World.ownsRow_nil w _ e sz) hsrc' (by omega) (by rw [Nat.zero_add];exact hs'.1)
                rw [← hnil] at hrun
                rw [Nat.zero_add,List.nil_append] at hown'
                have hownB:w'.ownsRow B e sz v' m news:=by
                  refine ⟨hown'.1,?_⟩
                  rcases hown'.2 with h | ⟨k,cap,cur,h1,h2,h3⟩
                  · exact .inl h
                  · exact .inr ⟨k,cap,cur,h1,Nat.le_trans S.bs h2,h3⟩
                have hvec:zss P (g.setSv dst v') w' B dst e sz ie.bytes m new:=by
                  refine ⟨hpos,⟨ie,zv,hi,hszs.symm,rfl,hzv,by rw [hzs,hszs]⟩,news,?_,hrn⟩
                  rw [show (g.setSv dst v').sv dst=v' by simp [Gh.setSv]]
                  exact hownB
                have hold:∀ b,b < w.heap.size→w'.heap[b]? = w.heap[b]?:=fun b hb=>hg.block b hb (by simp [Value.ownBlock])
                have S' := S.newVec (t := dst) (w' := w') hfresh ⟨⟨hg.os, hg.tape, hg.output, hg.size, fun k hk => hold k (Nat.lt_of_lt_of_le hk S.bs)⟩, hg.drawn⟩ hold
                  (fun b hb=>(hown'.lt b hb).1) hvec
                refine zdM (by simp [hop]) (hrunOf v' w' hrun) ⟨g.setSv dst v',σ.upd i o.dst ((dst,true) :: fps) (.cl (.vec dst)) [(dst,.vec e sz ie.bytes m new)] [],rfl,?_⟩
                rw [zbv]
                refine S'.put (v:=v') hd (d:=.cl (.vec dst)) ⟨by simp [Gh.setSv],hone⟩ ?_ _
                intro L hL
                simp [zaS,zbh,zav] at hL
                subst hL
                exact ⟨_,by rw [zal,if_pos rfl]⟩
              · subst hA;exact hs.elim
            · subst hA;exact hs.elim
          · subst hA;exact hs.elim
        · subst hA;exact hs.elim
      · subst hA;exact hs.elim
    · subst hA;exact hs.elim
  · subst hA;exact hs.elim
end
end Go.Pm
namespace Go.Pm
open Go.RowKit (Below)

section
variable {P:Program} {Γ:Ctrs} {nt B:Nat} {w0:World} {h0:Fz} {g:Gh} {σ:St} {a:Act} {w:World} {r:Option Nat} {n i:Nat} {Q:Exit→Act→World→Prop}

def zK8 (d:DV):List Cl:=match d with | .one (.c c)=>[c] | _=>[.junk]

theorem zjk (S : Sim P nt B w0 h0 g σ a w) : ∀ (l : List Operand), RL (clR g) (l.flatMap fun x => zK8 (evO σ.env x)) (l.map a.eval)
  | []=>trivial
  | x :: r=>by
    have h:=S.ev x
    simp only [List.flatMap_cons,List.map_cons]
    unfold zK8
    cases he:evO σ.env x with
    | one d =>
      cases d with
      | c c=>rw [he] at h;exact ⟨h,zjk S r⟩
      | agg cs=>exact ⟨trivial,zjk S r⟩
    | tup ds=>exact ⟨trivial,zjk S r⟩

theorem zsK {h:Fz} {l:List PV} {vs:List Value} (hr:RL (Rep h) l vs):l.length=vs.length∧∀ (j:Nat) (x:PV) (v:Value),l[j]? = some x→vs[j]? = some v→Rep h x v :=
 ⟨hr.length,fun j x v hx hv=>by obtain ⟨u,hu,hxu⟩:=hr.get j x hx;rw [hu] at hv;simp only [Option.some.injEq] at hv;rw [← hv];exact hxu⟩

theorem zoG {o : Oper} {f : FuncId} {first caps : Array Operand} {A : OpAct} (S : Sim P nt B w0 h0 g σ a w) (hd : zbF nt o.dst = true) (hop : o.op = .makeFunc (.func f) first caps)
    (hA:act P Γ o (evO σ.env) (lk σ.objs)=A) (hs:A.safe):zdN P nt B w0 h0 r n i o A σ a w Q:=by
  simp only [act,hop] at hA
  split at hA
  · rename_i l u l' u' h1 h2
    subst hA
    have h1:zlH (lk σ.objs) (first.toList.flatMap fun x=>zK8 (evO σ.env x))=some (l,u):=h1
    have h2:zlH (lk σ.objs) (caps.toList.flatMap fun x=>zK8 (evO σ.env x))=some (l',u'):=h2
    obtain ⟨h',S1,F⟩:=S.freeze ((zmG h1).append (zmG h2))
    have r1:=zsK (F.repL h1 (fun y hy=>List.mem_append.2 (.inl hy)) (zjk S first.toList))
    have r2:=zsK (F.repL h2 (fun y hy=>List.mem_append.2 (.inr hy)) (zjk S caps.toList))
    have hv:Rep h' (.fn f l l') (.func (.func f) (first.toList.map a.eval).toArray (caps.toList.map a.eval).toArray):=.fn f l l' _ _ r1.1 r2.1 r1.2 r2.2
    refine zdM (by simp [hop]) (v:=.func (.func f) (first.toList.map a.eval).toArray (caps.toList.map a.eval).toArray) (w':=w) ?_ ⟨⟨h',g.bk,g.sv,g.iv⟩,_,rfl,?_⟩
    · have e : ∀ l : Array Operand, l.map a.eval = (l.toList.map a.eval).toArray := fun l => by cases l; simp
      simp only [execOp,hop,Instr.makeFunc,Sem.run_bind,Sem.run_pure,Result.andThen_ok,e]
    · rw [zbv]
      exact S1.put (d:=.p (.fn f l l')) hd hv (fun L hL=>by simp [zaS,zbh,zav] at hL) _
  · subst hA;exact hs.elim

theorem zAK {h:Fz} {x:PA} {v:Value} (hx:paR h x v):d1R ⟨h,g.bk,g.sv,g.iv⟩ (paD x) v:=by
 cases x with
 | one p=>exact hx
 | agg cs =>
  obtain ⟨vs,rfl,hr⟩:=hx
  exact ⟨vs,rfl,RL.map_left.2 hr⟩
theorem zCw {h:Fz} {rs:List PA} {v:Value} (hr:zAA h rs v):dvR ⟨h,g.bk,g.sv,g.iv⟩ (resD rs) v:=by
 have tup:∀ l:List PA,(∃ vs:List Value,v=.tuple vs.toArray∧RL (paR h) l vs)→dvR ⟨h,g.bk,g.sv,g.iv⟩ (.tup (l.map paD)) v:=by
  rintro l ⟨vs,hv,hr2⟩
  exact ⟨vs,hv,RL.map_left.2 (RL.mono hr2 fun _ _ h=>zAK h)⟩
 match rs,hr with
 | [],hr=>exact tup _ hr
 | [x],hr=>exact zAK hr
 | x :: y :: l,hr=>exact tup _ hr
theorem zmT (x:PA):zbh (paD x)=[]:=by
 cases x with
 | one p=>rfl
 | agg cs=>exact zc3 cs
theorem zsL (rs:List PA):zaS (resD rs)=[]:=by
 have tup:∀ l:List PA,zaS (.tup (l.map paD))=[]:=by
  intro l
  induction l with
  | nil=>rfl
  | cons x l ih=>simp only [List.map_cons,zaS,List.flatMap_cons,zmT,List.nil_append] at ih ⊢;exact ih
 match rs with
 | []=>exact tup _
 | [x]=>exact zmT x
 | x :: y :: l=>exact tup _

theorem zdd {f:FuncId} {args:Array Value} (h:zai P f):(callFunc f args).run P w=.ok (.enter f args) w:=by
 obtain ⟨fn,h1,h2,h3⟩:=h
 have h2':fn.body.isNone=false:=by simpa using h2
 simp only [callFunc,Sem.run_bind,run_program,Result.andThen_ok,h1,h3,h2',Bool.false_eq_true,if_false,Sem.run_pure]

theorem zDT (S : Sim P nt B w0 h0 g σ a w) : ∀ (l : List Operand), RL (dvR g) (l.map (evO σ.env)) (l.map a.eval)
  | []=>trivial
  | x :: r=>⟨S.ev x,zDT S r⟩

theorem zvo {h:Fz} {l:List PV} {vs:List Value} (hr:RL (Rep h) l vs):RL (paR h) (l.map .one) vs:=RL.map_left.2 hr

theorem zAL {h:Fz} {l:List PV} {vs:List Value} (h1:l.length=vs.length) (h2:∀ (j:Nat) (x:PV) (v:Value),l[j]? = some x→vs[j]? = some v→Rep h x v):RL (Rep h) l vs:=RL.of_get h1 h2

def outOf (C:COut) (rs:List PA):Prop :=
 match C with
 | .no=>False
 | .tot r=>rs=r
 | .det _ r=>rs=r
 | .rel ρ _ post res=>∃ x:ρ,post x∧rs=res x

theorem Sim.adopt (S : Sim P nt B w0 h0 g σ a w) {t e s b n : Nat} {get : Nat → List PV} {v : Value} (ht : lk σ.objs t = none)
    (hv:∀ k,v.ownBlock=some k→B≤k∧g.h k=none∧∀ L o,lk σ.objs L=some o→¬ obk g L o k) (hr:zss P (g.setSv t v) w B t e s b n get) :
    Sim P nt B w0 h0 (g.setSv t v) { σ with objs:=(t,.vec e s b n get) :: σ.objs } a w:=by
  have hne:∀ L o,lk σ.objs L=some o→L ≠ t:=fun L o h e=>by subst e;rw [ht] at h;cases h
  have hsame:∀ L o,lk σ.objs L=some o→zcO g (g.setSv t v) L:=fun L o h=>zl8 L (hne L o h)
  have hlk:∀ L o,lk ((t,AO.vec e s b n get) :: σ.objs) L=some o→(L=t∧o=.vec e s b n get)∨(L ≠ t∧lk σ.objs L=some o):=by
    intro L o h
    rw [zal] at h
    split at h
    · rename_i e;simp at h;exact .inl ⟨e.symm,h.symm⟩
    · rename_i e;exact .inr ⟨fun e'=>e e'.symm,h⟩
  have hnew:(g.setSv t v).sv t=v:=by simp [Gh.setSv]
  have hobkb:∀ L o k,lk σ.objs L=some o→obk (g.setSv t v) L o k→obk g L o k:=fun L o k ho h=>by rw [za7 (hsame L o ho)] at h;exact h
  refine S.change (g':=g.setSv t v) hsame (fun _ _ h=>h) S.hw (fun b o h=>.inl h) (.refl _ B w) ?_ ?_ ?_ ?_ ?_
  · intro L o ho
    rcases hlk L o ho with ⟨rfl,rfl⟩ | ⟨_,ho⟩
    · exact hr
    · exact zcj (S.obj L o ho) (hsame L o ho) (fun M hM=>by obtain ⟨o',ho'⟩:=S.clO L o ho M hM;exact hsame M o' ho') (fun _ _ h=>h) fun _ _=>rfl
  · intro L o k ho hk
    rcases hlk L o ho with ⟨rfl,rfl⟩ | ⟨_,ho⟩
    · simp only [obk,hnew] at hk;exact ⟨(hv k hk).1,(hv k hk).2.1⟩
    · exact S.own L o k ho (hobkb L o k ho hk)
  · intro L o k L' o' ho ho' hk hk'
    rcases hlk L o ho with ⟨rfl,rfl⟩ | ⟨_,ho2⟩ <;> rcases hlk L' o' ho' with ⟨rfl,rfl⟩ | ⟨_,ho2'⟩
    · rfl
    · simp only [obk,hnew] at hk;exact ((hv k hk).2.2 L' o' ho2' (hobkb _ _ _ ho2' hk')).elim
    · simp only [obk,hnew] at hk';exact ((hv k hk').2.2 L o ho2 (hobkb _ _ _ ho2 hk)).elim
    · exact S.sep L o k L' o' ho2 ho2' (hobkb _ _ _ ho2 hk) (hobkb _ _ _ ho2' hk')
  · intro L o ho
    refine ⟨o,?_⟩
    rw [zal,if_neg (fun e=>hne L o ho e.symm)];exact ho
  · intro L o ho M hM
    rcases hlk L o ho with ⟨rfl,rfl⟩ | ⟨_,ho⟩
    · simp [zbM] at hM
    · obtain ⟨o', ho'⟩ := S.clO L o ho M hM
      exact ⟨o',by rw [zal,if_neg (fun e=>hne M o' ho' e.symm)];exact ho'⟩

theorem ownsRow_base {w:World} {base B e s n:Nat} {v:Value} {xs:List Value} (h:w.ownsRow base e s v n xs) (hB:∀ k,base≤k→v.ownBlock=some k→B≤k):w.ownsRow B e s v n xs:=by
 refine ⟨h.1,?_⟩
 rcases h.2 with hn | ⟨k,cap,cur,rfl,hk,rest⟩
 ·exact .inl hn
 ·exact .inr ⟨k,cap,cur,rfl,hB k hk rfl,rest⟩

theorem zvp {args:Array Operand} {ev:Operand→DV} {p:DV} (h:args.toList.map ev=[p]):∃ x,args = #[x]∧ev x=p:=by
 match hl:args.toList,h with
 | [x],h =>
  simp at h
  exact ⟨x,by rw [← Array.toArray_toList (xs:=args),hl],h⟩
 | [],h=>simp at h
 | _ :: _ :: _,h=>simp at h

theorem zDU {o : Oper} {f : Operand} {args : Array Operand} {ts : Array TypeId} {A : OpAct} {gf : FuncId} (hall : OkAll P Γ) (S : Sim P nt B w0 h0 g σ a w) (hd : zbF nt o.dst = true)
    (hop:o.op=.call { callee:=.value f,args,argTypes:=ts }) (hfv:a.eval f=.func (.func gf) #[] #[])
    (hA:zfY P Γ o (Γ.own gf) (args.toList.map (evO σ.env)) (lk σ.objs)=A) (hs:A.safe):zdN P nt B w0 h0 r n i o A σ a w Q:=by
  have enter:∀ x,args = #[x]→zai P gf→(execOp a.eval o).run P w=.ok (.enter gf #[a.eval x]) w:=by
    rintro x rfl hcall
    simp only [execOp,hop,resolve,hfv,Deferred.ofValue,Sem.run_bind,Sem.run_pure,Result.andThen_ok,invoke]
    rw [show (#[] ++ Array.map a.eval #[x] ++ #[]) = #[a.eval x] by simp]
    exact zdd hcall
  have hok:=hall.own gf
  unfold zfY at hA
  split at hA
  · subst hA;exact hs.elim
  · rename_i e s b hk
    rw [hk] at hok
    split at hA
    · rename_i L hf caps hargs
      obtain ⟨x,y,rfl,hx,hy⟩:=zmO hargs
      obtain ⟨⟨hxv,hone⟩,_⟩:=zbz S hx
      split at hA
      · rename_i e' s' b' m get ag hL hag
        split at hA
        · rename_i hcond
          obtain ⟨rfl,rfl,rfl⟩:=hcond
          subst hA
          have hs':m≤4611686018427387∧(∀ i j,i < m→j < m→zHR (Γ.fn hf) caps ag get i j)∧STO m (zuM (Γ.fn hf) caps ag get):=hs
          obtain ⟨hpos,hinfo,xs,hxs,hr⟩:=S.obj L _ hL
          have hown:∀ k,(g.sv L).ownBlock=some k→g.h k=none:=fun k hk=>(S.own L _ k hL hk).2
          have hfn:=zca S hy
          generalize hyv:a.eval y=yv at hfn
          cases hfn with
          | fn _ _ _ fv cv l1 l2 hf1 hc1 =>
            have e1:fv=[]:=List.eq_nil_of_length_eq_zero l1.symm
            subst e1
            obtain ⟨ii,zz,hi1,hi2,_⟩:=hinfo
            obtain ⟨hcall,hrun⟩:=hok w g.h B (g.sv L) m get hf caps cv ag (Γ.fn hf) (hall.fn hf) (zAL l2 hc1) hag ⟨ii,hi1,hi2⟩ hpos ⟨xs,hxs,hr⟩ (by rw [← hxv];exact hone) S.hw hown S.bs hs'.1 hs'.2.1 hs'.2.2
            refine zgK (by simp [hop]) (w':=w) (f:=gf) (args:=#[a.eval x,a.eval y]) ?_ ?_
            · simp only [execOp, hop, resolve, hfv, Deferred.ofValue, Sem.run_bind, Sem.run_pure, Result.andThen_ok, invoke]
              rw [show (#[] ++ Array.map a.eval #[x,y] ++ #[]) = #[a.eval x,a.eval y] by simp]
              exact zdd hcall
            · rw [hxv, hyv]
              refine hrun.mono ?_
              rintro r0 w' ⟨rfl,⟨xs',hxs',hr'⟩,hg⟩
              refine ⟨.tuple #[],rfl,g,_,rfl,?_⟩
              rw [zbv]
              have hold:∀ k,k < w.heap.size→¬ (g.sv L).ownBlock=some k→w'.heap[k]? = w.heap[k]?:=fun k hk hne=>hg.block k hk (fun e=>hne e.symm)
              have S' := S.write2 (o' := .vec e' s' b' m (zpT m (zuM (Γ.fn hf) caps ag get) get)) hL (fun b hb => hb) ⟨⟨hg.os, hg.tape, hg.output, hg.size, fun k hk => hold k (Nat.lt_of_lt_of_le hk S.bs) (fun e => by have := (S.own L _ k hL e).1; omega)⟩, hg.drawn⟩
                hold ⟨hpos,⟨ii,zz,hi1,hi2,by assumption⟩,xs',hxs',hr'⟩ (fun M hM=>by simp [zbM] at hM)
              exact S'.put (d:=.tup []) hd ⟨[],rfl,trivial⟩ (fun L hL=>by simp [zaS] at hL) _
        · subst hA;exact hs.elim
      · subst hA;exact hs.elim
    · subst hA;exact hs.elim
  · rename_i e s b hk
    rw [hk] at hok
    split at hA
    · rename_i m s' get dst hargs hdst
      obtain ⟨x,rfl,hx⟩:=zvp hargs
      split at hA
      · rename_i ie z hfresh hi hz
        split at hA
        · rename_i hcond
          obtain ⟨rfl,hsz,rfl,hpos⟩:=hcond
          subst hA
          have hs':m * ie.bytes≤140737488355328∧m≤9223372036854775807:=hs
          obtain ⟨zv,hzv,hzs⟩:=zb4 hz hi
          obtain ⟨hcall,hrun⟩:=hok w g.h (a.eval x) m get (zca S hx) S.hw hs'.1 hs'.2
          refine zgK (by simp [hop]) (w':=w) (f:=gf) (args:=#[a.eval x]) (enter x rfl hcall) (hrun.mono ?_)
          rintro r0 w' ⟨h',v',rfl,hone,⟨xs,hxs,hr⟩,hnh,hb,hle,hw',hn'⟩
          refine ⟨v',rfl,?_⟩
          have S2:=S.world hle hw' hn' hb
          have hbk:∀ k,v'.ownBlock=some k→w.heap.size≤k:=fun k hk=>(hxs.lt k hk).1
          have S3:=S2.adopt (t:=dst) (v:=v') (e:=e) (s:=s') (b:=ie.bytes) (n:=m) (get:=get) hfresh (fun k hk=>⟨Nat.le_trans S.bs (hbk k hk),hnh k hk,fun L o ho hob=>by
              have hob':obk g L o k:=hob
              have:=zco (S.obj L o ho) hob'
              have:=hbk k hk
              omega⟩) (by
            refine ⟨hpos,⟨ie,zv,hi,hsz,rfl,hzv,by rw [hzs,hsz]⟩,xs,?_,hr⟩
            rw [show ((⟨h',g.bk,g.sv,g.iv⟩:Gh).setSv dst v').sv dst=v' by simp [Gh.setSv]]
            exact ownsRow_base hxs fun k hk _=>Nat.le_trans S.bs hk)
          refine ⟨(⟨h',g.bk,g.sv,g.iv⟩:Gh).setSv dst v',_,rfl,?_⟩
          rw [zbv]
          refine S3.put (v:=v') hd (d:=.cl (.vec dst)) ⟨by simp [Gh.setSv],hone⟩ ?_ _
          intro L hL
          simp [zaS,zbh,zav] at hL
          subst hL
          exact ⟨_,by rw [zal,if_pos rfl]⟩
        · subst hA;exact hs.elim
      · subst hA;exact hs.elim
    · subst hA;exact hs.elim
  · rename_i e s b φ ret okk hk
    rw [hk] at hok
    split at hA
    · rename_i L hargs
      obtain ⟨x,rfl,hx⟩:=zvp hargs
      obtain ⟨⟨hxv,hone⟩,_⟩:=zbz S hx
      split at hA
      · rename_i e' s' b' m get hL
        split at hA
        · rename_i hcond
          obtain ⟨rfl,rfl,rfl⟩:=hcond
          obtain ⟨hpos,hinfo,xs,hxs,hr⟩:=S.obj L _ hL
          have hown:∀ k,(g.sv L).ownBlock=some k→g.h k=none:=fun k hk=>(S.own L _ k hL hk).2
          have pre:m≤4611686018427387→okk get→_:=hok w g.h B (g.sv L) m get ⟨xs,hxs,hr⟩ (by rw [← hxv];exact hone) S.hw hown S.bs
          split at hA
          · subst hA
            have hs':m≤4611686018427387∧okk get:=hs
            obtain ⟨hcall,hrun⟩:=pre hs'.1 hs'.2
            refine zgK (by simp [hop]) (w':=w) (f:=gf) (args:=#[a.eval x]) (enter x rfl hcall) ?_
            rw [hxv]
            refine hrun.mono ?_
            rintro r0 w' ⟨v',rfl,_,hone',hbl,⟨xs',hxs',hr'⟩,hg⟩
            refine ⟨v',rfl,g.setSv L v',_,rfl,?_⟩
            rw [zmS]
            exact S.grow (dst:=o.dst) hL hd hg (by
              cases hvb:v'.ownBlock with
              | none=>exact .inr (.inr rfl)
              | some k=>exact .inl (hbl k hvb).symm) ⟨hpos,hinfo,xs',by rw [show (g.setSv L v').sv L=v' by simp [Gh.setSv]];exact hxs',hr'⟩ hone' σ.log
          · subst hA
            have hs':m≤4611686018427387∧okk get:=hs
            obtain ⟨hcall,hrun⟩:=pre hs'.1 hs'.2
            refine zgK (by simp [hop]) (w':=w) (f:=gf) (args:=#[a.eval x]) (enter x rfl hcall) ?_
            rw [hxv]
            refine hrun.mono ?_
            rintro r0 w' ⟨v',rfl,hvv,hone',hbl,⟨xs',hxs',hr'⟩,hg⟩
            have hvv:=hvv rfl
            subst hvv
            refine ⟨.tuple #[],rfl,g,_,rfl,?_⟩
            rw [zbv]
            have hold:∀ k,k < w.heap.size→¬ (g.sv L).ownBlock=some k→w'.heap[k]? = w.heap[k]?:=fun k hk hne=>hg.block k hk (fun e=>hne e.symm)
            have S' := S.write2 (o' := .vec e' s' b' m (φ m get).2) hL (fun b hb => hb) ⟨⟨hg.os, hg.tape, hg.output, hg.size, fun k hk => hold k (Nat.lt_of_lt_of_le hk S.bs) (fun e => by have := (S.own L _ k hL e).1; omega)⟩, hg.drawn⟩
              hold ⟨hpos,hinfo,xs',hxs',hr'⟩ (fun M hM=>by simp [zbM] at hM)
            exact S'.put (d:=.tup []) hd ⟨[],rfl,trivial⟩ (fun L hL=>by simp [zaS] at hL) _
        · subst hA;exact hs.elim
      · subst hA;exact hs.elim
    · subst hA;exact hs.elim

theorem zvq {h h':Fz} {p:PV} {v:Value} (hs:zAq p=true) (hr:Rep h' p v):Rep h p v:=by
 cases hr with
 | bool b=>exact .bool b
 | int k n=>exact .int k n
 | _=>cases hs
theorem zsM {h h' : Fz} : ∀ {l : List PV} {vs : List Value}, l.all zAq = true → RL (Rep h') l vs → RL (Rep h) l vs
  | [],[],_,_=>trivial
  | [],_ :: _,_,hr=>hr.elim
  | _ :: _,[],_,hr=>hr.elim
  | p :: l,v :: vs,hs,hr=>by
    simp only [List.all_cons,Bool.and_eq_true] at hs
    exact ⟨zvq hs.1 hr.1,zsM hs.2 hr.2⟩
theorem zvr {h h':Fz} {x:PA} {v:Value} (hs:zDF x=true) (hr:paR h' x v):paR h x v:=by
 cases x with
 | one p=>exact zvq hs hr
 | agg cs =>
  obtain ⟨vs,rfl,hr⟩:=hr
  exact ⟨vs,rfl,zsM hs hr⟩
theorem zmU {h h' : Fz} : ∀ {l : List PA} {vs : List Value}, l.all zDF = true → RL (paR h') l vs → RL (paR h) l vs
  | [],[],_,_=>trivial
  | [],_ :: _,_,hr=>hr.elim
  | _ :: _,[],_,hr=>hr.elim
  | p :: l,v :: vs,hs,hr=>by
    simp only [List.all_cons,Bool.and_eq_true] at hs
    exact ⟨zvr hs.1 hr.1,zmU hs.2 hr.2⟩
theorem zAM {h h':Fz} {rs:List PA} {v:Value} (hs:zgC rs=true) (hr:zAA h' rs v):zAA h rs v:=by
 match rs,hs,hr with
 | [],_,⟨vs,e,r⟩=>exact ⟨vs,e,zmU rfl r⟩
 | [x],hs,hr =>
  simp only [zgC,List.all_cons,List.all_nil,Bool.and_true] at hs
  exact zvr hs hr
 | x :: y :: l,hs,⟨vs,e,r⟩=>exact ⟨vs,e,zmU hs r⟩

theorem Sim.borrow (S : Sim P nt B w0 h0 g σ a w) {u : Upd} {h' h2 hx : Fz} {w' : World} (F : Frozen g (lk σ.objs) u h') (hb : Bel h' w.heap.size w w') (hw2 : Hw h2 w')
    (h1:Fle g.h hx) (h3:Fle hx h2) (h4:∀ b o,hx b=some o→g.h b=some o∨w.heap.size≤b):Sim P nt B w0 h0 ⟨hx,g.bk,g.sv,g.iv⟩ σ a w' :=
  S.world h1 (fun b x hb'=>hw2 b x (h3 b x hb')) h4 ⟨hb.os,hb.tape,hb.output,hb.size,hb.drawn,fun k hk hn=>hb.block k hk fun Fn hF=>hn Fn (F.inv k Fn hF)⟩

theorem zvs {labs:List Nat} {u:List (Nat×AO)} {C:COut} (h:(COut.act labs u C).safe):C.wp (outOf C):=by
 cases C with
 | no=>exact h.elim
 | tot r=>rfl
 | det s r =>
  cases hsc:zgC r with
  | true=>rw [zmw hsc] at h;exact ⟨h,rfl⟩
  | false=>rw [zmx hsc] at h;exact ⟨h,rfl⟩
 | rel ρ s post res=>exact ⟨h.1,h.2,fun x hx=>⟨x,hx,rfl⟩⟩

theorem zAN {o : Oper} {f : Operand} {args : Array Operand} {ts : Array TypeId} {A : OpAct} (hok : OkAll P Γ) (S : Sim P nt B w0 h0 g σ a w) (hd : zbF nt o.dst = true)
    (hop:o.op=.call { callee:=.value f,args,argTypes:=ts })
    (hA:act P Γ o (evO σ.env) (lk σ.objs)=A) (hs:A.safe):zdN P nt B w0 h0 r n i o A σ a w Q:=by
  simp only [act,hop] at hA
  split at hA
  · rename_i gf first caps hf
    split at hA
    · split at hA
      · have hfn := zca S hf
        generalize hfv:a.eval f=fvv at hfn
        cases hfn with
        | fn _ _ _ fv cv l1 l2 hf1 hc1 =>
          have e1:fv=[]:=List.eq_nil_of_length_eq_zero l1.symm
          have e2:cv=[]:=List.eq_nil_of_length_eq_zero l2.symm
          subst e1 e2
          exact zDU hok S hd hop hfv hA hs
      · subst hA;exact hs.elim
    split at hA
    · rename_i as u has
      obtain ⟨h',S1,F⟩:=S.freeze (zsz has)
      have hargs:=F.repDs has (fun y hy=>hy) (zDT S args.toList)
      have hfn:=zca S hf
      generalize hfv:a.eval f=fvv at hfn
      cases hfn with
      | fn _ _ _ fv cv l1 l2 hf1 hc1 =>
        have hall:RL (paR h') (first.map .one ++ as ++ caps.map .one) (fv ++ args.toList.map a.eval ++ cv) :=
          ((zvo ((zAL l1 hf1).mono fun _ _ h=>h.mono F.le)).append hargs).append (zvo ((zAL l2 hc1).mono fun _ _ h=>h.mono F.le))
        generalize hC:Γ gf (first.map .one ++ as ++ caps.map .one)=C at hA
        have hwp:C.wp (outOf C):=by
          subst hA
          exact zvs hs
        obtain ⟨hcall,hrun⟩:=hok.fn gf (first.map .one ++ as ++ caps.map .one) (outOf C) (by rw [hC];exact hwp) w h' _ hall S1.hw
        refine zgK (by simp [hop]) (w':=w) (f:=gf) (args:=(fv ++ args.toList.map a.eval ++ cv).toArray) ?_ (hrun.mono ?_)
        · simp only [execOp, hop, resolve, hfv, Deferred.ofValue, Sem.run_bind, Sem.run_pure, Result.andThen_ok, invoke]
          rw [show (fv.toArray ++ Array.map a.eval args ++ cv.toArray)=(fv ++ args.toList.map a.eval ++ cv).toArray by cases args;simp]
          exact zdd hcall
        · rintro e w' ⟨h2, rs, v, hK, rfl, hres, hb, hle, hw2, hn2⟩
          refine ⟨v,rfl,?_⟩
          have S2:=S1.world hle hw2 hn2 hb
          have S3 := S2.put (v := v) (d := resD rs) hd (zCw (g := g) hres) (fun L hL => by rw [zsL] at hL; simp at hL)
            σ.log
          have T2:=S.borrow F hb hw2 (fun _ _ h=>h) (fun b x hx=>hle b x (F.le b x hx)) (fun _ _ h=>.inl h)
          have T3 : zgC rs = true → _ := fun hsc => T2.put (v := v) (d := resD rs) hd (zCw (g := g) (zAM (h := g.h) hsc hres)) (fun L hL => by rw [zsL] at hL; simp at hL)
            σ.log
          subst hA
          cases C with
          | no=>exact hs.elim
          | tot r =>
            cases hK
            cases hsc:zgC rs with
            | true=>rw [zpN hsc];exact ⟨⟨g.h,g.bk,g.sv,g.iv⟩,_,rfl,by rw [zbv];exact T3 hsc⟩
            | false=>rw [zpO hsc];exact ⟨⟨h2,g.bk,g.sv,g.iv⟩,_,rfl,by rw [zbv];exact S3⟩
          | det s r =>
            cases hK
            cases hsc:zgC rs with
            | true=>rw [zmw hsc];exact ⟨⟨g.h,g.bk,g.sv,g.iv⟩,_,rfl,by rw [zbv];exact T3 hsc⟩
            | false=>rw [zmx hsc];exact ⟨⟨h2,g.bk,g.sv,g.iv⟩,_,rfl,by rw [zbv];exact S3⟩
          | rel ρ s post res =>
            obtain ⟨x,hx,rfl⟩:=hK
            exact ⟨⟨h2,g.bk,g.sv,g.iv⟩,_,⟨x,hx,rfl⟩,by rw [zbv];exact S3⟩
    · subst hA;exact hs.elim
  · subst hA;exact hs.elim

theorem zjl {o : Oper} {A : OpAct} (hok : OkAll P Γ) (S : Sim P nt B w0 h0 g σ a w) (hd : zbF nt o.dst = true) (hA : act P Γ o (evO σ.env) (lk σ.objs) = A) (hs : A.safe) :
  zdN P nt B w0 h0 r n i o A σ a w Q:=by
 have hA':=hA
 cases hop:o.op with
 | move x=>simp only [act,hop] at hA;subst hA;exact zsF S hd (.inl hop)
 | assign x=>simp only [act,hop] at hA;subst hA;exact zsF S hd (.inr hop)
 | pick c x y =>
  simp only [act,hop] at hA
  split at hA
  ·rename_i t hc;subst hA;exact zAD S hd hop hc
  ·subst hA;exact hs.elim
 | alloc e =>
  simp only [act,hop] at hA
  split at hA
  ·rename_i z hz;exact zuZ S hd hop hz hA hs
  ·subst hA;exact hs.elim
 | box e x =>
  simp only [act,hop] at hA
  split at hA
  ·rename_i d m hx hm
   split at hA
   ·rename_i hcond
    simp only [Bool.and_eq_true] at hcond
    exact zDL S hd hop hx hcond.2 hA hs
   ·subst hA;exact hs.elim
  ·subst hA;exact hs.elim
 | build t parts =>
  simp only [act,hop] at hA
  split at hA
  ·rename_i z hf hz
   split at hA
   ·rename_i l hl
    subst hA
    refine zu0 S hd hop hf hz hl (fun L hL=>?_)
    rcases zl1 _ _ _ hl L hL with h | ⟨x,_,h⟩
    ·rw [zos hz] at h;simp at h
    ·exact S.evLab x.2 L h
   ·subst hA;exact hs.elim
  ·subst hA;exact hs.elim
 | buildSlice t m parts=>exact zlL S hd hop hA' hs
 | load t x=>exact zAE S hd hop hA' hs
 | store t x y=>exact zva S hd hop hA' hs
 | nilCheck x=>exact zox S hd hop hA' hs
 | binOp op t x y t'=>exact zu6 S hd hop hA' hs
 | unOp op t x=>exact zAF S hd hop hA' hs
 | fieldAddr t x f=>exact zmM S hd hop hA' hs
 | indexAddr t x y=>exact zmN S hd hop hA' hs
 | extract x k=>exact zp5 S hd hop hA' hs
 | index t x y=>exact zu4 S hd hop hA' hs
 | slice t x lo hi mx =>
  cases mx with
  | none=>simp only [act,hop] at hA;exact zvg S hd hop hA hs
  | some m=>simp only [act,hop] at hA;subst hA;exact hs.elim
 | lookup t x y k =>
  simp only [act,hop] at hA
  split at hA
  ·exact zuf S hd hop hA hs
  ·exact zua S hd hop hA hs
 | mapUpdate t x y z =>
  simp only [act,hop] at hA
  split at hA
  ·exact zvf S hd hop hA hs
  ·exact zmL S hd hop hA hs
 | makeMap t x =>
  cases x with
  | none =>
   simp only [act,hop] at hA
   split at hA
   ·split at hA
    ·split at hA
     ·rename_i hE;exact zug S hd hop hE hA hs
     ·subst hA;exact hs.elim
    ·subst hA;exact hs.elim
   ·exact zp3 (Γ:=Γ) S hd hop hA hs
  | some x=>simp only [act,hop] at hA;subst hA;exact hs.elim
 | makeSlice t x y=>simp only [act,hop] at hA;exact zmQ S hd hop hA hs
 | range t x=>exact zvh S hd hop hA' hs
 | entry x=>exact zvi S hd hop hA' hs
 | makeFunc fn first caps =>
  cases fn with
  | func f=>exact zoG S hd hop hA' hs
  | _=>simp only [act,hop] at hA;subst hA;exact hs.elim
 | call c =>
  obtain ⟨callee,args,ts⟩:=c
  cases callee with
  | value f=>exact zAN hok S hd hop hA' hs
  | invoke x m=>simp only [act,hop] at hA;subst hA;exact hs.elim
  | builtin b =>
   cases b with
   | len=>exact zDM S hd hop hA' hs
   | max=>exact zDN S hd hop hA' hs
   | min=>exact zDO S hd hop hA' hs
   | append=>exact zuh S hd hop hA' hs
   | _=>simp only [act,hop] at hA;subst hA;exact hs.elim
 | _=>simp only [act,hop] at hA;subst hA;exact hs.elim
end
end Go.Pm
namespace Go.Pm
open Go.RowKit (Below)

theorem zc7 {α : Type} {f : α → α} {l : List (Nat × α)} : ∀ {ks : List Nat} {t : Nat} {x : α}, lk (ziC f l ks) t = some x → ∃ y, lk l t = some y ∧ x = f y ∧ t ∈ ks
  | [],t,x,h=>by simp [ziC,lk] at h
  | k :: ks,t,x,h=>by
    simp only [ziC] at h
    split at h
    · rename_i d hd
      rw [zal] at h
      split at h
      · rename_i e
        simp only [Option.some.injEq] at h
        subst e
        exact ⟨d,hd,h.symm,List.mem_cons_self⟩
      · obtain ⟨y,h1,h2,h3⟩:=zc7 h;exact ⟨y,h1,h2,List.mem_cons_of_mem _ h3⟩
    · obtain ⟨y,h1,h2,h3⟩:=zc7 h;exact ⟨y,h1,h2,List.mem_cons_of_mem _ h3⟩

theorem zd1 {α : Type} {f : α → α} {l : List (Nat × α)} : ∀ {ks : List Nat} {t : Nat} {y : α}, lk l t = some y → t ∈ ks → lk (ziC f l ks) t = some (f y)
  | [],t,y,_,ht=>by simp at ht
  | k :: ks,t,y,h,ht=>by
    simp only [ziC]
    by_cases hk:k=t
    · subst hk;rw [h];rw [zal,if_pos rfl]
    · have ht' : t ∈ ks := by rcases List.mem_cons.1 ht with h | h; · exact absurd h.symm hk
                              · exact h
      split
      · rw [zal,if_neg hk];exact zd1 h ht'
      · exact zd1 h ht'

section
variable {P:Program} {Γ:Ctrs} {nt B:Nat} {w0:World} {h0:Fz} {g:Gh} {σ:St} {a:Act} {w:World} {r:Option Nat} {n i:Nat} {Q:Exit→Act→World→Prop}

theorem zoH {c:Cl} {x:Value} (h:clR g c x):clR g (zfg c) x:=by
 cases c <;> exact h
theorem zhq : ∀ {cs : List Cl} {vs : List Value}, RL (clR g) cs vs → RL (clR g) (cs.map zfg) vs
  | [],[],_=>trivial
  | [],_ :: _,h=>h.elim
  | _ :: _,[],h=>h.elim
  | _ :: _,_ :: _,h=>⟨zoH h.1,zhq h.2⟩
theorem zmb {d:D1} {x:Value} (h:d1R g d x):d1R g (zgH d) x:=by
 cases d with
 | c y=>exact zoH h
 | agg cs=>obtain ⟨vs,rfl,hr⟩:=h;exact ⟨vs,rfl,zhq hr⟩
theorem zjm : ∀ {cs : List D1} {vs : List Value}, RL (d1R g) cs vs → RL (d1R g) (cs.map zgH) vs
  | [],[],_=>trivial
  | [],_ :: _,h=>h.elim
  | _ :: _,[],h=>h.elim
  | _ :: _,_ :: _,h=>⟨zmb h.1,zjm h.2⟩
theorem zAO {d:DV} {x:Value} (h:dvR g d x):dvR g (zsr d) x:=by
 cases d with
 | one y=>exact zmb h
 | tup ds=>obtain ⟨vs,rfl,hr⟩:=h;exact ⟨vs,rfl,zjm hr⟩
theorem zjn {c:Cl} : ∀ M∈zav (zfg c),M∈zav c:=by
 cases c <;> first | exact fun _ h=>h | (intro M h;simp [zfg,zav] at h)
theorem zjo {cs:List Cl} : ∀ M∈(cs.map zfg).flatMap zav,M∈cs.flatMap zav:=by
 intro M hM
 simp only [List.mem_flatMap,List.mem_map] at hM ⊢
 obtain ⟨_,⟨c,hc,rfl⟩,hM⟩:=hM
 exact ⟨c,hc,zjn M hM⟩
theorem ziu {d:D1} : ∀ M∈zbh (zgH d),M∈zbh d:=by
 cases d with
 | c y=>exact zjn
 | agg cs=>exact zjo
theorem zui {d:DV} : ∀ M∈zaS (zsr d),M∈zaS d:=by
 cases d with
 | one y=>exact ziu
 | tup ds =>
  intro M hM
  simp only [zsr,zaS,List.mem_flatMap,List.mem_map] at hM ⊢
  obtain ⟨_,⟨d,hd,rfl⟩,hM⟩:=hM
  exact ⟨d,hd,ziu M hM⟩
theorem zp9 {o:AO} : ∀ M∈zbM (zmB o),M∈zbM o:=by
 cases o with
 | box ty cs=>exact zjo
 | _=>exact fun _ h=>h
theorem zvt {B L:Nat} {o:AO} (h:aoR P g w B L o):aoR P g w B L (zmB o):=by
 cases o with
 | box ty cs=>obtain ⟨C,hC,hr⟩:=h;exact ⟨C,hC,zhq hr⟩
 | _=>exact h
theorem zjq {L:Nat} {o:AO} : obk g L (zmB o)=obk g L o:=by cases o <;> rfl

theorem Sim.env' (S : Sim P nt B w0 h0 g σ a w) {t : Nat} {d : DV} (hv : dvR g d (a.tmps.getD t undef)) (hl : ∀ L ∈ zaS d, ∃ o, lk σ.objs L = some o) :
  Sim P nt B w0 h0 g { σ with env:=(t,d) :: σ.env } a w:=by
 refine ⟨S.dfr,S.size,?_,S.obj,S.own,S.sep,S.hw,S.le0,S.hn,S.below,S.bs,?_,S.clO⟩
 ·intro u e hu
  simp only [zal] at hu
  split at hu
  ·rename_i h;simp only [Option.some.injEq] at hu;subst hu;rw [← h];exact hv
  ·exact S.env u e hu
 ·intro u e hu
  simp only [zal] at hu
  split at hu
  ·simp only [Option.some.injEq] at hu;subst hu;exact hl
  ·exact S.clE u e hu

theorem Sim.coerce (S : Sim P nt B w0 h0 g σ a w) {L e : Nat} {ie : TypeInfo} {z : List Cl} (get : Nat → List PV) (hL : lk σ.objs L = none) (hi : P.info? e = some ie) (hz : zc8 P e = some z) (hp : 0 < ie.size) :
  Sim P nt B w0 h0 (g.setSv L (.slice none 0 0)) { σ with objs:=(L,.vec e ie.size ie.bytes 0 get) :: σ.objs } a w:=by
 obtain ⟨zv,hzv,hzs⟩:=zb4 hz hi
 refine S.newVec hL (.refl B w) (fun _ _=>rfl) (fun b hb=>by simp [Value.ownBlock] at hb) ⟨hp,⟨ie,zv,hi,rfl,rfl,hzv,hzs⟩,[],?_,fun k hk=>absurd hk (by omega)⟩
 rw [show (g.setSv L (.slice none 0 0)).sv L=.slice none 0 0 by simp [Gh.setSv]]
 exact World.ownsRow_nil w B e ie.size

theorem zgM {h:Fz} {v:Value} (hr:Rep h .nils v):v=.slice none 0 0:=by cases hr;rfl

theorem zeE : ∀ (l : List (Nat × Nat × Nat × (Nat → List PV))) (σ σ' : St) (g : Gh), zdG P l σ = some σ' → Sim P nt B w0 h0 g σ a w → ∃ g', Sim P nt B w0 h0 g' σ' a w
  | [],σ,σ',g,h,S=>by simp [zdG] at h;subst h;exact ⟨g,S⟩
  | (t,L,e,get) :: l,σ,σ',g,h,S=>by
    simp only [zdG] at h
    split at h
    · rename_i ht
      split at h
      · rename_i ie z hL hi hz
        split at h
        · rename_i hp
          have S1:=S.coerce get hL hi hz (Nat.lt_of_succ_le (Nat.le_of_ble_eq_true hp))
          have hv:a.tmps.getD t undef=.slice none 0 0:=zgM (S.env t _ ht)
          have S2:=S1.env' (t:=t) (d:=.cl (.vec L)) (by rw [hv];simp [dvR,d1R,clR,Gh.setSv,Value.oneCell']) (fun M hM=>by simp [zaS,zbh,zav] at hM;subst hM;exact ⟨_,by rw [zal,if_pos rfl]⟩)
          exact zeE l _ σ' _ h S2
        · cases h
      · cases h
    · exact zeE l σ σ' g h S
    · cases h

theorem zeF : ∀ (l : List (Nat × Nat × Nat × Nat × (Nat → List PV))) (σ σ' : St) (g : Gh), zdH P l σ = some σ' → Sim P nt B w0 h0 g σ a w → ∃ g', Sim P nt B w0 h0 g' σ' a w
  | [],σ,σ',g,h,S=>by simp [zdH] at h;subst h;exact ⟨g,S⟩
  | (bx,k,L,e,get) :: l,σ,σ',g,h,S=>by
    simp only [zdH] at h
    split at h
    · rename_i ty cs hbx
      split at h
      · rename_i hk
        split at h
        · rename_i ie z hL hi hz
          split at h
          · rename_i hp
            have S1:=S.coerce get hL hi hz (Nat.lt_of_succ_le (Nat.le_of_ble_eq_true hp))
            have hne:L ≠ bx:=fun e=>by subst e;rw [hL] at hbx;cases hbx
            have hbx1:lk ({ σ with objs:=(L,AO.vec e ie.size ie.bytes 0 get) :: σ.objs } : St).objs bx=some (.box ty cs):=by
              show lk ((L,AO.vec e ie.size ie.bytes 0 get) :: σ.objs) bx=_
              rw [zal,if_neg hne];exact hbx
            obtain ⟨C,hC,hr⟩:=S1.obj bx _ hbx1
            obtain ⟨v,hv,hkv⟩:=hr.get k _ hk
            have hv0:v=.slice none 0 0:=zgM hkv
            subst hv0
            have hCset:C.toList.set k (.slice none 0 0)=C.toList:=by
              apply List.ext_getElem?
              intro j
              by_cases hj:j=k
              · subst hj
                have hlt:=(List.getElem?_eq_some_iff.1 hv).1
                rw [List.getElem?_set_self hlt,hv]
              · rw [List.getElem?_set_ne (fun e=>hj e.symm)]
            have S2 := S1.write (o' := .box ty (cs.set k (.vec L))) (w' := w) hbx1 (fun b hb => hb) (.refl B w) (fun _ _ => rfl)
              ⟨C,hC,by rw [← hCset];exact hr.set k (by simp [clR,Gh.setSv,Value.oneCell'])⟩
              (fun M hM=>by
                simp only [zbM,List.mem_flatMap] at hM
                obtain ⟨c,hc,hM⟩:=hM
                rcases List.mem_or_eq_of_mem_set hc with h | h
                · exact S1.clO bx _ hbx1 M (List.mem_flatMap.2 ⟨c,h,hM⟩)
                · subst h;simp [zav] at hM;subst hM;exact ⟨_,by rw [zal,if_pos rfl]⟩)
            exact zeF l _ σ' _ h S2
          · cases h
        · cases h
      · exact zeF l σ σ' g h S
      · cases h
    · cases h

theorem Sim.adopt0 (S : Sim P nt B w0 h0 g σ a w) {t : Nat} {o' : AO} {g' : Gh} (ht : lk σ.objs t = none) (hh : g'.h = g.h) (hs : ∀ M, M ≠ t → zcO g g' M)
    (hv:∀ k,¬ obk g' t o' k) (hr:aoR P g' w B t o') (hlab:zbM o'=[]):Sim P nt B w0 h0 g' { σ with objs:=(t,o') :: σ.objs } a w:=by
  have hne:∀ L o,lk σ.objs L=some o→L ≠ t:=fun L o h e=>by subst e;rw [ht] at h;cases h
  have hsame:∀ L o,lk σ.objs L=some o→zcO g g' L:=fun L o h=>hs L (hne L o h)
  have hle:Fle g.h g'.h:=by rw [hh];exact fun _ _ h=>h
  have hlk:∀ L o,lk ((t,o') :: σ.objs) L=some o→(L=t∧o=o')∨(L ≠ t∧lk σ.objs L=some o):=by
    intro L o h
    rw [zal] at h
    split at h
    · rename_i e;simp only [Option.some.injEq] at h;exact .inl ⟨e.symm,h.symm⟩
    · rename_i e;exact .inr ⟨fun e'=>e e'.symm,h⟩
  refine S.change (g':=g') hsame hle (by rw [hh];exact S.hw) (fun b o h=>.inl (by rw [hh] at h;exact h)) (.refl _ B w) ?_ ?_ ?_ ?_ ?_
  · intro L o ho
    rcases hlk L o ho with ⟨rfl,rfl⟩ | ⟨_,ho⟩
    · exact hr
    · exact zcj (S.obj L o ho) (hsame L o ho) (fun M hM=>by obtain ⟨o',ho'⟩:=S.clO L o ho M hM;exact hsame M o' ho') hle fun _ _=>rfl
  · intro L o k ho hk
    rcases hlk L o ho with ⟨rfl,rfl⟩ | ⟨_,ho⟩
    · exact (hv k hk).elim
    · rw [za7 (hsame L o ho)] at hk;rw [hh];exact S.own L o k ho hk
  · intro L o k L' o2 ho ho' hk hk'
    rcases hlk L o ho with ⟨rfl,rfl⟩ | ⟨_,ho2⟩ <;> rcases hlk L' o2 ho' with ⟨rfl,rfl⟩ | ⟨_,ho2'⟩
    · rfl
    · exact (hv k hk).elim
    · exact (hv k hk').elim
    · rw [za7 (hsame L o ho2)] at hk; rw [za7 (hsame L' o2 ho2')] at hk'
      exact S.sep L o k L' o2 ho2 ho2' hk hk'
  · intro L o ho
    refine ⟨o,?_⟩
    rw [zal,if_neg (fun e=>hne L o ho e.symm)];exact ho
  · intro L o ho M hM
    rcases hlk L o ho with ⟨rfl,rfl⟩ | ⟨_,ho⟩
    · rw [hlab] at hM;simp at hM
    · obtain ⟨o2, ho2⟩ := S.clO L o ho M hM
      exact ⟨o2,by rw [zal,if_neg (fun e=>hne M o2 ho2 e.symm)];exact ho2⟩

theorem zeG : ∀ (l : List (Nat × Nat × Nat × Nat × Nat × (Nat → Nat → List PV))) (σ σ' : St) (g : Gh), zdI P l σ = some σ' → Sim P nt B w0 h0 g σ a w → ∃ g', Sim P nt B w0 h0 g' σ' a w
  | [],σ,σ',g,h,S=>by simp [zdI] at h;subst h;exact ⟨g,S⟩
  | (bx,k,L,te,e,get) :: l,σ,σ',g,h,S=>by
    simp only [zdI] at h
    split at h
    · rename_i ty cs hbx
      split at h
      · rename_i hk
        split at h
        · rename_i it zt hL hit hzt
          split at h
          · rename_i ie z hi hz
            split at h
            · rename_i hp
              simp only [Bool.and_eq_true] at hp
              have hs1:=Nat.eq_of_beq_eq_true hp.1
              have hpos:0 < ie.size:=Nat.lt_of_succ_le (Nat.le_of_ble_eq_true hp.2)
              obtain ⟨zv,hzv,hzs⟩:=zb4 hz hi
              obtain ⟨tv,htv,hts⟩:=zb4 hzt hit
              let g':=g.setVv L (.slice none 0 0) (fun _=>.slice none 0 0)
              have hsv:g'.sv L=.slice none 0 0:=by simp [g',Gh.setVv]
              have S1 := S.adopt0 (t := L) (o' := .vv te it.bytes e ie.size ie.bytes 0 (fun _ => 0) get) (g' := g') hL rfl zl9
                (fun k hk => by rcases hk with hk | ⟨i, hi, _⟩
                                · rw [hsv] at hk;cases hk
                                · omega)
                ⟨hpos,⟨it,tv,hit,hs1,rfl,htv,by rw [hts,hs1]⟩,⟨ie,zv,hi,rfl,rfl,hzv,hzs⟩,by rw [hsv];exact World.ownsRow_nil w B te 1,fun i hi=>absurd hi (by omega),fun i k hi=>absurd hi (by omega)⟩ rfl
              have hne:L ≠ bx:=fun e=>by subst e;rw [hL] at hbx;cases hbx
              have hbx1:lk ({ σ with objs:=(L,AO.vv te it.bytes e ie.size ie.bytes 0 (fun _=>0) get) :: σ.objs } : St).objs bx=some (.box ty cs):=by
                show lk ((L,AO.vv te it.bytes e ie.size ie.bytes 0 (fun _=>0) get) :: σ.objs) bx=_
                rw [zal,if_neg hne];exact hbx
              obtain ⟨C,hC,hr⟩:=S1.obj bx _ hbx1
              obtain ⟨v,hv,hkv⟩:=hr.get k _ hk
              have hv0:v=.slice none 0 0:=zgM hkv
              subst hv0
              have hCset:C.toList.set k (.slice none 0 0)=C.toList:=by
                apply List.ext_getElem?
                intro j
                by_cases hj:j=k
                · subst hj
                  have hlt:=(List.getElem?_eq_some_iff.1 hv).1
                  rw [List.getElem?_set_self hlt,hv]
                · rw [List.getElem?_set_ne (fun e=>hj e.symm)]
              have S2 := S1.write (o' := .box ty (cs.set k (.vec L))) (w' := w) hbx1 (fun b hb => hb) (.refl B w) (fun _ _ => rfl)
                ⟨C,hC,by rw [← hCset];exact hr.set k ⟨hsv.symm,rfl⟩⟩
                (fun M hM=>by
                  simp only [zbM,List.mem_flatMap] at hM
                  obtain ⟨c,hc,hM⟩:=hM
                  rcases List.mem_or_eq_of_mem_set hc with h | h
                  · exact S1.clO bx _ hbx1 M (List.mem_flatMap.2 ⟨c,h,hM⟩)
                  · subst h;simp [zav] at hM;subst hM;exact ⟨_,by rw [zal,if_pos rfl]⟩)
              exact zeG l _ σ' _ h S2
            · cases h
          · cases h
        · cases h
      · exact zeG l σ σ' g h S
      · cases h
    · cases h

theorem zjr {ob : Nat → Option AO} : ∀ {ks : List Nat} {x : Nat × AO}, x ∈ zt4 ob ks → ∃ ty cells l, ob x.1 = some (.box ty cells) ∧ x.2 = .fbox l ∧ zc9 ob cells = some (l, [])
  | [],x,h=>by simp [zt4] at h
  | k :: ks,x,h=>by
    simp only [zt4] at h
    split at h
    · rename_i ty cells hk
      split at h
      · rename_i l hl
        rcases List.mem_cons.1 h with rfl | h
        · exact ⟨ty,cells,l,hk,rfl,hl⟩
        · exact zjr h
      · exact zjr h
    · exact zjr h
theorem zsN {ob:Nat→Option AO} {ks:List Nat} : zdj ob (zt4 ob ks):=fun x hx=>by
 obtain ⟨ty,cells,l,h1,h2,h3⟩:=zjr hx
 exact .inr (.inl ⟨ty,cells,l,[],h1,h2,h3,fun y hy=>by simp at hy⟩)
theorem zdu : ∀ (l : List (Nat × Nat × (Nat → List PV))) (σ σ' : St) (g : Gh), zdi l σ = some σ' → Sim P nt B w0 h0 g σ a w → ∃ g', Sim P nt B w0 h0 g' σ' a w
  | [],σ,σ',g,h,S=>by simp [zdi] at h;subst h;exact ⟨g,S⟩
  | (t,s,gt) :: r,σ,σ',g,h,S=>by
    unfold zdi at h
    split at h
    · rename_i x hx
      have hv:=S.env t _ hx
      split at h
      · rename_i v
        split at h
        · have hn := zgM hv
          refine zdu r _ σ' g h (S.env' (t:=t) (d:=.p (.sl 0 s gt)) ?_ (fun L hL=>by simp [zaS,zbh,zav] at hL))
          show Rep g.h (.sl 0 s gt) (a.tmps.getD t undef)
          rw [hn];exact .sl0 s gt
        · exact zdu r _ σ' g h S
      · split at h
        · rename_i v u hf
          obtain ⟨h',S1,F⟩:=S.freeze (zpX hf)
          have hr:=F.rep0 hf (fun y hy=>hy) hv
          exact zdu r _ σ' _ h (S1.env' (t:=t) (d:=.p v) hr (fun L hL=>by simp [zaS,zbh,zav] at hL))
        · cases h
    · cases h
theorem zoI {k:Keep} {s:St} {g:Gh} {σ:St} (h:zi8 P k σ=some s) (S:Sim P nt B w0 h0 g σ a w):∃ g',Sim P nt B w0 h0 g' s a w:=by
 unfold zi8 at h
 split at h
 ·cases h
 ·rename_i σ1 h1
  obtain ⟨g1,S1⟩:=zeE k.coT σ σ1 g h1 S
  split at h
  ·cases h
  ·rename_i σ2 h2
   obtain ⟨g2',S2'⟩:=zeF k.coB σ1 σ2 g1 h2 S1
   split at h
   ·cases h
   rename_i σ3 h3
   obtain ⟨g2,S2⟩:=zeG k.coV σ2 σ3 g2' h3 S2'
   simp only [] at h
   split at h
   ·rename_i hcl
    simp only [Option.some.injEq] at h
    subst h
    simp only [Bool.and_eq_true,List.all_eq_true] at hcl
    obtain ⟨hc1,hc2⟩:=hcl
    have hin:∀ {labs l:List Nat},zuP labs l=true→∀ L∈l,L∈labs:=by
     intro labs l h L hL
     have:=List.all_eq_true.1 h L hL
     simpa using this
    refine ⟨g2,S2.dfr,S2.size,?_,?_,?_,?_,S2.hw,S2.le0,S2.hn,S2.below,S2.bs,?_,?_⟩
    ·intro t d ht
     obtain ⟨y,h1,rfl,_⟩:=zc7 ht
     exact zAO (S2.env t y h1)
    ·intro L o ho
     obtain ⟨y,h1,rfl,_⟩:=zc7 ho
     exact zvt (S2.obj L y h1)
    ·intro L o b ho hb
     obtain ⟨y,h1,rfl,_⟩:=zc7 ho
     rw [zjq] at hb
     exact S2.own L y b h1 hb
    ·intro L o b L' o' ho ho' hb hb'
     obtain ⟨y,h1,rfl,_⟩:=zc7 ho
     obtain ⟨y',h1',rfl,_⟩:=zc7 ho'
     rw [zjq] at hb hb'
     exact S2.sep L y b L' y' h1 h1' hb hb'
    ·intro t d ht L hL
     have hm:=hin (hc1 (t,d) (zcI ht)) L hL
     obtain ⟨y,h1,rfl,_⟩:=zc7 ht
     obtain ⟨o,ho⟩:=S2.clE t y h1 L (zui L hL)
     exact ⟨_,zd1 ho hm⟩
    ·intro L o ho M hM
     have hm:=hin (hc2 (L,o) (zcI ho)) M hM
     obtain ⟨y,h1,rfl,_⟩:=zc7 ho
     obtain ⟨o',ho'⟩:=S2.clO L y h1 M (zp9 M hM)
     exact ⟨_,zd1 ho' hm⟩
   ·cases h
theorem za8 {k:Keep} {s:St} (h:canon P k σ=some s) (S:Sim P nt B w0 h0 g σ a w):∃ g',Sim P nt B w0 h0 g' s a w:=by
 obtain ⟨h',S1,_⟩:=S.freeze (zsN (ob:=lk σ.objs) (ks:=k.coF))
 unfold canon at h
 split at h
 ·rename_i s1 h1
  obtain ⟨g1,S2⟩:=zdu k.coZ (zH5 k.coF σ) s1 _ h1 S1
  exact zoI h S2
 ·cases h
end
end Go.Pm
namespace Go.Pm

def OpAct.fp : OpAct → List (Nat × Bool)
  | .no=>[]
  | .val fp _ _ _=>fp
  | .chk fp _ _ _ _=>fp
  | .rel fp _ _ _ _ _=>fp
def OpAct.u : OpAct → List (Nat × AO)
  | .no=>[]
  | .val _ _ u _=>u
  | .chk _ _ _ u _=>u
  | .rel _ u _ _ _ _=>u
def OpAct.kl : OpAct → List Nat
  | .no=>[]
  | .val _ _ _ k=>k
  | .chk _ _ _ _ k=>k
  | .rel _ _ _ _ _ _=>[]
def OpAct.gives : OpAct → DV → Prop
  | .no,_=>False
  | .val _ d _ _,d'=>d'=d
  | .chk _ _ d _ _,d'=>d'=d
  | .rel _ _ ρ _ _ d,d'=>∃ x:ρ,d'=d x

def Men (o:Oper) (ev:Operand→DV) (ob:Nat→Option AO) (fp:List (Nat×Bool)) (L:Nat):Prop :=
 (∃ x∈o.op.operands.toList,L∈dvV (ev x))∨∃ y∈fp,∃ o',ob y.1=some o'∧L∈aoV o'

structure ActOk (P : Program) (Γ : Ctrs) (o : Oper) (ev : Operand → DV) (ob : Nat → Option AO) (A : OpAct) : Prop where
  wr:∀ x∈A.u,(x.1,true)∈A.fp
  kl:A.kl=[]∨∃ L,A.kl=[L]∧(L,true)∈A.fp
  labu:∀ x∈A.u,∀ L∈aoV x.2,Men o ev ob A.fp L
  labd:∀ d,A.gives d→∀ L∈dvV d,Men o ev ob A.fp L∨(L,true)∈A.fp
  congr:∀ ev' ob',(∀ x∈o.op.operands.toList,ev' x=ev x)→(∀ y∈A.fp,ob' y.1=ob y.1)→act P Γ o ev' ob'=A

section
variable {P:Program} {Γ:Ctrs} {o:Oper} {ev:Operand→DV} {ob:Nat→Option AO} {A:OpAct}

theorem ActOk.pure {fp : List (Nat × Bool)} {d : DV} (hd : ∀ L ∈ dvV d, Men o ev ob fp L ∨ (L, true) ∈ fp)
    (hc:∀ ev' ob',(∀ x∈o.op.operands.toList,ev' x=ev x)→(∀ y∈fp,ob' y.1=ob y.1)→act P Γ o ev' ob'=.val fp d [] []):ActOk P Γ o ev ob (.val fp d [] []) :=
  ⟨fun x hx=>by simp [OpAct.u] at hx,.inl rfl,fun x hx=>by simp [OpAct.u] at hx,fun d' h=>by simp only [OpAct.gives] at h;subst h;exact hd,hc⟩
theorem ActOk.pchk {fp : List (Nat × Bool)} {s : Prop} {d : DV} (hd : ∀ L ∈ dvV d, Men o ev ob fp L ∨ (L, true) ∈ fp)
    (hc:∀ ev' ob',(∀ x∈o.op.operands.toList,ev' x=ev x)→(∀ y∈fp,ob' y.1=ob y.1)→act P Γ o ev' ob'=.chk fp s d [] []):ActOk P Γ o ev ob (.chk fp s d [] []) :=
  ⟨fun x hx=>by simp [OpAct.u] at hx,.inl rfl,fun x hx=>by simp [OpAct.u] at hx,fun d' h=>by simp only [OpAct.gives] at h;subst h;exact hd,hc⟩
theorem zcc {fp:List (Nat×Bool)} (v:PV):∀ L∈dvV (.p v),Men o ev ob fp L∨(L,true)∈fp:=fun L hL=>by simp [dvV,d1V,clV] at hL
theorem ze5 {fp:List (Nat×Bool)} {x:Operand} {d:DV} (hx:x∈o.op.operands.toList) (h:∀ L∈dvV d,L∈dvV (ev x)):∀ L∈dvV d,Men o ev ob fp L∨(L,true)∈fp :=
 fun L hL=>.inl (.inl ⟨x,hx,h L hL⟩)

theorem zqa {c:Cl} : ∀ L∈clV c,L∈zav c:=by cases c <;> simp [clV,zav]

theorem zvu {ag:Bool} {m off:Nat} {cells:List Cl} {d:D1} (hr:zir ag m cells off=some d):∀ L∈d1V d,L∈cells.flatMap clV:=by
 cases ag with
 | true =>
  simp only [zir] at hr
  split at hr
  ·simp only [Option.some.injEq] at hr; subst hr
   intro L hL
   simp only [d1V,List.mem_flatMap] at hL ⊢
   obtain ⟨c,hc,hL⟩:=hL
   exact ⟨c,List.mem_of_mem_drop (List.mem_of_mem_take hc),hL⟩
  ·cases hr
 | false =>
  simp only [zir] at hr
  split at hr
  ·rename_i x hx
   simp only [Option.some.injEq] at hr;subst hr
   intro L hL
   simp only [d1V] at hL
   exact List.mem_flatMap.2 ⟨x,List.mem_of_getElem? hx,hL⟩
  ·cases hr
theorem zsO (cells:List PV):(cells.map Cl.p).flatMap clV=[]:=by
 induction cells with
 | nil=>rfl
 | cons c r ih=>simp [clV,ih]
theorem zjs {ag:Bool} {m off:Nat} {cells:List PV} {d:D1} (hr:zir ag m (cells.map .p) off=some d):d1V d=[]:=by
 have:=zvu hr
 rw [zsO] at this
 cases hd:d1V d with
 | nil=>rfl
 | cons x l=>have:=this x (by rw [hd];exact List.mem_cons_self);simp at this

theorem zmc {ob':Nat→Option AO} {c:Cl} (h:∀ L∈zav c,ob' L=ob L):zsp ob' c=zsp ob c:=by
 cases c <;> first | rfl | (simp only [zsp];rw [h _ (by simp [zav])])
theorem zgd {ob' : Nat → Option AO} : ∀ {cs : List Cl}, (∀ L ∈ cs.flatMap zav, ob' L = ob L) → zc9 ob' cs = zc9 ob cs
  | [],_=>rfl
  | c :: cs,h=>by
    simp only [zc9]
    rw [zmc (fun L hL=>h L (by simp [hL])),zgd (fun L hL=>h L (by simp only [List.flatMap_cons,List.mem_append];exact .inr hL))]
theorem zoJ {ob':Nat→Option AO} {c:Cl} (h:∀ L∈zav c,ob' L=ob L∧∀ o',ob L=some o'→∀ M∈zbM o',ob' M=ob M):frz ob' c=frz ob c:=by
 cases c with
 | ptr L off =>
  obtain ⟨h1,h2⟩:=h L (by simp [zav])
  simp only [frz]
  rw [h1]
  cases hL:ob L with
  | none=>rfl
  | some o' =>
   cases o' with
   | box ty cells=>simp only [];rw [zgd (fun M hM=>h2 _ hL M hM)]
   | _=>rfl
 | _=>exact zmc fun L hL=>(h L hL).1
theorem zhr {ob' : Nat → Option AO} : ∀ {cs : List Cl}, (∀ L ∈ cs.flatMap zav, ob' L = ob L ∧ ∀ o', ob L = some o' → ∀ M ∈ zbM o', ob' M = ob M) → zlH ob' cs = zlH ob cs
  | [],_=>rfl
  | c :: cs,h=>by
    simp only [zlH]
    rw [zoJ (fun L hL=>h L (by simp [hL])),zhr (fun L hL=>h L (by simp only [List.flatMap_cons,List.mem_append];exact .inr hL))]
theorem zuj {ob':Nat→Option AO} {d:DV} (h:∀ L∈zbi ob d,ob' L=ob L):ztZ ob' d=ztZ ob d:=by
 have key:∀ L∈zaS d,ob' L=ob L∧∀ o',ob L=some o'→∀ M∈zbM o',ob' M=ob M:=by
  intro L hL
  refine ⟨h L (List.mem_flatMap.2 ⟨L,hL,List.mem_cons_self⟩),fun o' ho' M hM=>h M (List.mem_flatMap.2 ⟨L,hL,List.mem_cons_of_mem _ ?_⟩)⟩
  rw [ho'];exact hM
 cases d with
 | one d =>
  cases d with
  | c c=>simp only [ztZ];rw [zoJ key]
  | agg cs=>simp only [ztZ];rw [zhr key]
 | tup ds=>rfl
theorem zjt {ob' : Nat → Option AO} : ∀ {ds : List DV}, (∀ L ∈ ds.flatMap (zbi ob), ob' L = ob L) → zfV ob' ds = zfV ob ds
  | [],_=>rfl
  | d :: ds,h=>by
    simp only [zfV]
    rw [zuj (fun L hL=>h L (by simp [hL])),zjt (fun L hL=>h L (by simp only [List.flatMap_cons,List.mem_append];exact .inr hL))]
theorem zgN {ob':Nat→Option AO} {d:DV} (h:∀ L∈zbi ob d,ob' L=ob L):zbi ob' d=zbi ob d:=by
 unfold zbi at h ⊢
 have:∀ l:List Nat,(∀ L∈l.flatMap (fun L=>L :: match ob L with | some o=>zbM o | none=>[]),ob' L=ob L) →
   (l.flatMap fun L=>L :: match ob' L with | some o=>zbM o | none=>[])=l.flatMap fun L=>L :: match ob L with | some o=>zbM o | none=>[]:=by
  intro l
  induction l with
  | nil=>intro _;rfl
  | cons L l ih =>
   intro h
   simp only [List.flatMap_cons]
   rw [h L (by simp),ih (fun M hM=>h M (by simp only [List.flatMap_cons,List.mem_append];exact .inr hM))]
 exact this _ h

theorem zgO {c:Cl} {v:PV} {u:Upd} (h:zsp ob c=some (v,u)):∀ x∈u,x.1∈zav c∧aoV x.2=[]:=by
 unfold zsp at h
 split at h
 ·simp only [Option.some.injEq,Prod.mk.injEq] at h;rw [← h.2];intro x hx;simp at hx
 ·split at h
  ·simp only [Option.some.injEq,Prod.mk.injEq] at h;rw [← h.2];intro x hx;simp at hx;subst hx;exact ⟨by simp [zav],rfl⟩
  ·simp only [Option.some.injEq,Prod.mk.injEq] at h;rw [← h.2];intro x hx;simp at hx
  ·simp only [Option.some.injEq,Prod.mk.injEq] at h;rw [← h.2];intro x hx;simp only [List.mem_singleton] at hx;subst hx;exact ⟨by simp [zav],rfl⟩
  ·simp only [Option.some.injEq,Prod.mk.injEq] at h;rw [← h.2];intro x hx;simp only [List.mem_singleton] at hx;subst hx;exact ⟨by simp [zav],rfl⟩
  ·cases h
 ·split at h
  ·simp only [Option.some.injEq,Prod.mk.injEq] at h;rw [← h.2];intro x hx;simp only [List.mem_singleton] at hx;subst hx;exact ⟨by simp [zav],rfl⟩
  ·cases h
 ·cases h
theorem zen : ∀ {cs : List Cl} {l : List PV} {u : Upd}, zc9 ob cs = some (l, u) → ∀ x ∈ u, x.1 ∈ cs.flatMap zav ∧ aoV x.2 = []
  | [],l,u,h=>by simp [zc9] at h;rw [h.2];intro x hx;simp at hx
  | c :: cs,l,u,h=>by
    simp only [zc9] at h
    split at h
    · rename_i v u1 l2 u2 h1 h2
      simp only [Option.some.injEq,Prod.mk.injEq] at h;rw [← h.2]
      intro x hx
      simp only [List.flatMap_cons,List.mem_append]
      rcases List.mem_append.1 hx with hx | hx
      · exact ⟨.inl (zgO h1 x hx).1,(zgO h1 x hx).2⟩
      · exact ⟨.inr (zen h2 x hx).1,(zen h2 x hx).2⟩
    · cases h
theorem zsP {c:Cl} {v:PV} {u:Upd} (h:frz ob c=some (v,u)):∀ x∈u,(x.1∈zav c∨∃ L∈zav c,∃ o',ob L=some o'∧x.1∈zbM o')∧aoV x.2=[]:=by
 unfold frz at h
 split at h
 ·split at h
  ·rename_i L off _x ty cells hL
   split at h
   ·rename_i l us hl
    simp only [Option.some.injEq,Prod.mk.injEq] at h;rw [← h.2]
    intro x hx
    rcases List.mem_append.1 hx with hx | hx
    ·exact ⟨.inr ⟨L,by simp [zav],_,hL,(zen hl x hx).1⟩,(zen hl x hx).2⟩
    ·simp at hx;subst hx;exact ⟨.inl (by simp [zav]),rfl⟩
   ·cases h
  ·simp only [Option.some.injEq,Prod.mk.injEq] at h;rw [← h.2];intro x hx;simp at hx
  ·cases h
 ·intro x hx;exact ⟨.inl (zgO h x hx).1,(zgO h x hx).2⟩
theorem zju : ∀ {cs : List Cl} {l : List PV} {u : Upd}, zlH ob cs = some (l, u) → ∀ x ∈ u, (x.1 ∈ cs.flatMap zav ∨ ∃ L ∈ cs.flatMap zav, ∃ o', ob L = some o' ∧ x.1 ∈ zbM o') ∧ aoV x.2 = []
  | [],l,u,h=>by simp [zlH] at h;rw [h.2];intro x hx;simp at hx
  | c :: cs,l,u,h=>by
    simp only [zlH] at h
    split at h
    · rename_i v u1 l2 u2 h1 h2
      simp only [Option.some.injEq,Prod.mk.injEq] at h;rw [← h.2]
      intro x hx
      simp only [List.flatMap_cons,List.mem_append]
      rcases List.mem_append.1 hx with hx | hx
      · obtain ⟨h3, h4⟩ := zsP h1 x hx
        refine ⟨?_,h4⟩
        rcases h3 with h3 | ⟨L,hL,o',h5,h6⟩
        · exact .inl (.inl h3)
        · exact .inr ⟨L,.inl hL,o',h5,h6⟩
      · obtain ⟨h3, h4⟩ := zju h2 x hx
        refine ⟨?_,h4⟩
        rcases h3 with h3 | ⟨L,hL,o',h5,h6⟩
        · exact .inl (.inr h3)
        · exact .inr ⟨L,.inr hL,o',h5,h6⟩
    · cases h
theorem zoK {d:DV} {v:PA} {u:Upd} (h:ztZ ob d=some (v,u)):∀ x∈u,x.1∈zbi ob d∧aoV x.2=[]:=by
 have deep:∀ k,(k∈zaS d∨∃ L∈zaS d,∃ o',ob L=some o'∧k∈zbM o')→k∈zbi ob d:=by
  intro k hk
  rcases hk with hk | ⟨L,hL,o',h5,h6⟩
  ·exact List.mem_flatMap.2 ⟨k,hk,List.mem_cons_self⟩
  ·refine List.mem_flatMap.2 ⟨L, hL, List.mem_cons_of_mem _ ?_⟩
   rw [h5];exact h6
 unfold ztZ at h
 split at h
 ·split at h
  ·rename_i v' u' h1
   simp only [Option.some.injEq,Prod.mk.injEq] at h;rw [← h.2]
   intro x hx;obtain ⟨h3,h4⟩:=zsP h1 x hx;exact ⟨deep _ h3,h4⟩
  ·cases h
 ·split at h
  ·rename_i v' u' h1
   simp only [Option.some.injEq,Prod.mk.injEq] at h;rw [← h.2]
   intro x hx;obtain ⟨h3,h4⟩:=zju h1 x hx;exact ⟨deep _ h3,h4⟩
  ·cases h
 ·cases h
theorem zhs : ∀ {ds : List DV} {l : List PA} {u : Upd}, zfV ob ds = some (l, u) → ∀ x ∈ u, x.1 ∈ ds.flatMap (zbi ob) ∧ aoV x.2 = []
  | [],l,u,h=>by simp [zfV] at h;rw [h.2];intro x hx;simp at hx
  | d :: ds,l,u,h=>by
    simp only [zfV] at h
    split at h
    · rename_i v u1 l2 u2 h1 h2
      simp only [Option.some.injEq,Prod.mk.injEq] at h;rw [← h.2]
      intro x hx
      simp only [List.flatMap_cons,List.mem_append]
      rcases List.mem_append.1 hx with hx | hx
      · exact ⟨.inl (zoK h1 x hx).1,(zoK h1 x hx).2⟩
      · exact ⟨.inr (zhs h2 x hx).1,(zhs h2 x hx).2⟩
    · cases h
end
end Go.Pm
namespace Go.Pm

section
variable {P:Program} {Γ:Ctrs} {o:Oper} {ev:Operand→DV} {ob:Nat→Option AO} {A:OpAct}

theorem fmc {α β : Type} {f h : α → List β} : ∀ {l : List α}, (∀ x ∈ l, f x = h x) → l.flatMap f = l.flatMap h
  | [],_=>rfl
  | x :: l,hf=>by simp only [List.flatMap_cons];rw [hf x List.mem_cons_self,fmc fun y hy=>hf y (List.mem_cons_of_mem _ hy)]

theorem zvv {x:Operand} (hop:o.op=.move x∨o.op=.assign x):ActOk P Γ o ev ob (.val [] (ev x) [] []):=by
 have hx:x∈o.op.operands.toList:=by rcases hop with h | h <;> simp [h,Op.operands]
 refine ActOk.pure (ze5 hx fun L hL=>hL) fun ev' ob' he _=>?_
 rcases hop with h | h <;> simp only [act,h,he x hx]

theorem zDV {b:Bool} {x y:DV} : ∀ L∈dvV (zlI b x y),L∈dvV x∨L∈dvV y:=by
 unfold zlI
 split
 ·intro L hL;simp [dvV,d1V,clV] at hL
 ·cases b with
  | true=>exact fun L hL=>.inl hL
  | false=>exact fun L hL=>.inr hL

theorem zDW {c x y:Operand} {t:Bool} (hop:o.op=.pick c x y) (hc:ev c=.one (.c (.p (.bool t)))):ActOk P Γ o ev ob (.val [] (zlI t (ev x) (ev y)) [] []):=by
 have hcm:c∈o.op.operands.toList:=by simp [hop,Op.operands]
 have hx:x∈o.op.operands.toList:=by simp [hop,Op.operands]
 have hy:y∈o.op.operands.toList:=by simp [hop,Op.operands]
 refine ActOk.pure (fun L hL=>?_) fun ev' ob' he _=>?_
 ·rcases zDV L hL with h | h
  ·exact .inl (.inl ⟨x,hx,h⟩)
  ·exact .inl (.inl ⟨y,hy,h⟩)
 ·simp only [act,hop,he c hcm,he x hx,he y hy,hc]

theorem zmV {ao : AO} {d : Nat → DV} (hlo : ∀ L ∈ aoV ao, Men o ev ob [] L) (hld : ∀ t, ∀ L ∈ dvV (d t), L = t)
    (hc:∀ ev' ob',(∀ x∈o.op.operands.toList,ev' x=ev x)→act P Γ o ev' ob'=zpS ob' o.dst ao d) (hA:zpS ob o.dst ao d=A) (hs:A.safe):ActOk P Γ o ev ob A:=by
  have hA':=hA
  unfold zpS at hA
  split at hA
  · rename_i t ht
    split at hA
    · rename_i hn
      subst hA
      have men:∀ L,Men o ev ob [] L→Men o ev ob [(t,true)] L:=fun L h=>h.imp_right fun ⟨y,hy,_⟩=>by simp at hy
      refine ⟨fun x hx=>?_,.inl rfl,fun x hx L hL=>?_,fun d' hd' L hL=>?_,fun ev' ob' he hob=>?_⟩
      · simp only [OpAct.u,List.mem_singleton] at hx;subst hx;simp [OpAct.fp]
      · simp only [OpAct.u,List.mem_singleton] at hx;subst hx;exact men L (hlo L hL)
      · simp only [OpAct.gives] at hd';subst hd';rw [hld t L hL];exact .inr (by simp [OpAct.fp])
      · rw [hc ev' ob' he]
        have:=hob (t,true) (by simp [OpAct.fp])
        simp only at this
        simp only [zpS,ht,this,hn]
    · subst hA;exact hs.elim
  · subst hA;exact hs.elim

theorem zvw {t:TypeId} {z:List Cl} (h:zc8 P t=some z):z.flatMap clV=[]:=by
 have h1:=zos h
 cases hz:z.flatMap clV with
 | nil=>rfl
 | cons L l =>
  have:L∈z.flatMap clV:=by rw [hz];exact List.mem_cons_self
  obtain ⟨c,hc,hL⟩:=List.mem_flatMap.1 this
  have:L∈z.flatMap zav:=List.mem_flatMap.2 ⟨c,hc,zqa L hL⟩
  rw [h1] at this;simp at this

theorem zqb (d:D1):d.cells.flatMap clV=d1V d:=by cases d <;> simp [D1.cells,d1V]

theorem zsQ {t : TypeId} : ∀ (parts : List (Nat × Operand)) (z l : List Cl), zcl P t ev z parts = some l → ∀ L ∈ l.flatMap clV, L ∈ z.flatMap clV ∨ ∃ x ∈ parts, L ∈ dvV (ev x.2)
  | [],z,l,h=>by simp [zcl] at h;subst h;exact fun L hL=>.inl hL
  | (i,x) :: r,z,l,h=>by
    simp only [zcl] at h
    split at h
    · rename_i d hd
      have splV:∀ (l' l:List Cl) (off:Nat),∀ L∈(spl l off l').flatMap clV,L∈l.flatMap clV∨L∈l'.flatMap clV:=by
        intro l'
        induction l' with
        | nil=>intro l off L hL;exact .inl hL
        | cons c l' ih =>
          intro l off L hL
          simp only [spl] at hL
          rcases ih _ _ L hL with h | h
          · obtain ⟨c', hc', hL'⟩ := List.mem_flatMap.1 h
            rcases List.mem_or_eq_of_mem_set hc' with h2 | h2
            · exact .inl (List.mem_flatMap.2 ⟨c',h2,hL'⟩)
            · subst h2;exact .inr (List.mem_flatMap.2 ⟨c',List.mem_cons_self,hL'⟩)
          · exact .inr (by simp only [List.flatMap_cons,List.mem_append];exact .inr h)
      have step:∀ off,zcl P t ev (spl z off d.cells) r=some l→∀ L∈l.flatMap clV,L∈z.flatMap clV∨∃ y∈(i,x) :: r,L∈dvV (ev y.2):=by
        intro off hb L hL
        rcases zsQ r _ l hb L hL with h | ⟨y,hy,hL⟩
        · rcases splV _ _ _ L h with h | h
          · exact .inl h
          · refine .inr ⟨(i, x), List.mem_cons_self, ?_⟩
            simp only [hd,dvV];rw [← zqb];exact h
        · exact .inr ⟨y,List.mem_cons_of_mem _ hy,hL⟩
      split at h
      · split at h
        · split at h
          · split at h
            · exact step _ h
            · cases h
          · cases h
        · cases h
      · split at h
        · split at h
          · exact step _ h
          · cases h
        · cases h
      · cases h
    · cases h

theorem ziv {ev' : Operand → DV} {t : TypeId} : ∀ (parts : List (Nat × Operand)) (z : List Cl), (∀ x ∈ parts, ev' x.2 = ev x.2) → zcl P t ev' z parts = zcl P t ev z parts
  | [],z,_=>rfl
  | (i,x) :: r,z,h=>by
    have hx:ev' x=ev x:=h (i,x) List.mem_cons_self
    have ih:∀ z,zcl P t ev' z r=zcl P t ev z r:=fun z=>ziv r z fun y hy=>h y (List.mem_cons_of_mem _ hy)
    simp only [zcl,hx,ih]

theorem zgP {ev':Operand→DV} {ob':Nat→Option AO} {s:Nat} : ∀ (parts:List (Nat×Operand)) (i:Nat) (ls:List (List PV)) (u:Upd) (labs:List Nat),zcw ob ev s i parts=some (ls,u,labs) →
  (∀ x∈parts,ev' x.2=ev x.2)→(∀ L∈labs,ob' L=ob L)→zcw ob' ev' s i parts=some (ls,u,labs)
 | [],i,ls,u,labs,h,_,_=>by simpa [zcw] using h
 | (j,x) :: r,i,ls,u,labs,h,he,hob=>by
  have hx:ev' x=ev x:=he (j,x) List.mem_cons_self
  simp only [zcw] at h ⊢
  rw [hx]
  split at h
  ·rename_i hij
   split at h
   ·rename_i d hd
    split at h
    ·rename_i l u1 ls' us labs' h1 h2
     split at h
     ·rename_i hlen
      simp only [Option.some.injEq,Prod.mk.injEq] at h
      obtain ⟨rfl,rfl,rfl⟩:=h
      have e1:zc9 ob' d.cells=some (l,u1):=by
       rw [← h1]
       refine zgd fun L hL=>hob L (List.mem_append.2 (.inl ?_))
       cases d <;> simpa [D1.cells,zbh] using hL
      have e2:=zgP r (i+1) ls' us labs' h2 (fun y hy=>he y (List.mem_cons_of_mem _ hy)) (fun L hL=>hob L (List.mem_append.2 (.inr hL)))
      simp only [e1,e2,hlen]
     ·cases h
    ·cases h
   ·cases h
  ·cases h
theorem zfi {s : Nat} : ∀ (parts : List (Nat × Operand)) (i : Nat) (ls : List (List PV)) (u : Upd) (labs : List Nat), zcw ob ev s i parts = some (ls, u, labs) → ∀ x ∈ u, x.1 ∈ labs ∧ aoV x.2 = []
  | [],i,ls,u,labs,h=>by simp [zcw] at h;rw [h.2.1];intro x hx;simp at hx
  | (j,x) :: r,i,ls,u,labs,h=>by
    simp only [zcw] at h
    split at h
    · split at h
      · rename_i d hd
        split at h
        · rename_i l u1 ls' us labs' h1 h2
          split at h
          · simp only [Option.some.injEq, Prod.mk.injEq] at h
            obtain ⟨rfl,rfl,rfl⟩:=h
            intro y hy
            rcases List.mem_append.1 hy with hy | hy
            · obtain ⟨h3, h4⟩ := zen h1 y hy
              refine ⟨List.mem_append.2 (.inl ?_),h4⟩
              cases d <;> simpa [D1.cells,zbh] using h3
            · obtain ⟨h3, h4⟩ := zfi r _ _ _ _ h2 y hy
              exact ⟨List.mem_append.2 (.inr h3),h4⟩
          · cases h
        · cases h
      · cases h
    · cases h

theorem zAP {t : TypeId} {parts : Array (Nat × Operand)} {z l : List Cl} (hop : o.op = .build t parts) (hf : zgE P t = true) (hz : zc8 P t = some z) (hl : zcl P t ev z parts.toList = some l) :
  ActOk P Γ o ev ob (.val [] (.one (.agg l)) [] []):=by
 have hm:∀ x∈parts.toList,x.2∈o.op.operands.toList:=fun x hx=>by
  simp only [hop,Op.operands]
  exact List.mem_map.2 ⟨x,hx,rfl⟩
 refine ActOk.pure (fun L hL=>?_) fun ev' ob' he _=>?_
 ·rcases zsQ _ _ _ hl L hL with h | ⟨x, hx, h⟩
  ·rw [zvw hz] at h;simp at h
  ·exact .inl (.inl ⟨x.2,hm x hx,h⟩)
 ·simp only [act,hop,hf,hz,ziv parts.toList z (fun x hx=>he x.2 (hm x hx)),hl]

theorem zsR {l:List Nat} {L:Nat} (h:L∈l):(L,true)∈wr l:=List.mem_map.2 ⟨L,h,rfl⟩

theorem zuk {t:TypeId} {n:Nat} {parts:Array (Nat×Operand)} (hop:o.op=.buildSlice t n parts) (hf:zH0 Γ o.dst=true) (hA:zf6 P o t n parts.toList ev ob=A) (hs:A.safe):ActOk P Γ o ev ob A:=by
 have hm:∀ x∈parts.toList,x.2∈o.op.operands.toList:=fun x hx=>by
  simp only [hop,Op.operands]
  exact List.mem_map.2 ⟨x,hx,rfl⟩
 have hc:∀ ev' ob',act P Γ o ev' ob'=zf6 P o t n parts.toList ev' ob':=fun ev' ob'=>by
  simp only [act,hop,hf]
 unfold zf6 at hA
 split at hA
 ·rename_i te x dst hu hp hd
  have hx:x∈o.op.operands.toList:=hm (0,x) (by rw [hp];simp)
  split at hA
  ·rename_i ie z M hi hz hex
   split at hA
   ·rename_i hM hn
    split at hA
    ·rename_i hb
     subst hA
     refine ⟨fun x hx=>?_,.inl rfl,fun x hx L hL=>?_,fun d' hd' L hL=>?_,fun ev' ob' he hob=>?_⟩
     ·simp only [OpAct.u, List.mem_cons, List.not_mem_nil, or_false] at hx
      rcases hx with rfl | rfl <;> simp [OpAct.fp]
     ·simp only [OpAct.u, List.mem_cons, List.not_mem_nil, or_false] at hx
      rcases hx with rfl | rfl <;> simp [aoV] at hL
     ·simp only [OpAct.gives] at hd'; subst hd'
      simp only [dvV,d1V,clV,List.mem_singleton] at hL
      subst hL
      exact .inr (by simp [OpAct.fp])
     ·have e1 := hob (M, true) (by simp [OpAct.fp])
      have e2:=hob (dst,true) (by simp [OpAct.fp])
      simp only at e1 e2
      rw [hc]
      simp only [zf6,hu,hp,hd,hi,hz,he x hx,hex,e1,hM,e2,hn,hb]
    ·subst hA;exact hs.elim
   ·subst hA;exact hs.elim
  ·subst hA;exact hs.elim
 ·subst hA;exact hs.elim

theorem zmW {t:TypeId} {n:Nat} {parts:Array (Nat×Operand)} (hop:o.op=.buildSlice t n parts) (hA:act P Γ o ev ob=A) (hs:A.safe):ActOk P Γ o ev ob A:=by
 have hm:∀ x∈parts.toList,x.2∈o.op.operands.toList:=fun x hx=>by
  simp only [hop,Op.operands]
  exact List.mem_map.2 ⟨x,hx,rfl⟩
 simp only [act,hop] at hA
 split at hA
 ·rename_i hf
  exact zuk hop hf hA hs
 rename_i hvf
 split at hA
 ·rename_i e hu
  split at hA
  ·rename_i ie hie
   split at hA
   ·rename_i ls u labs hp
    split at hA
    ·rename_i z dst hb hz hd
     split at hA
     ·rename_i hn
      subst hA
      refine ⟨fun x hx=>?_,.inl rfl,fun x hx L hL=>?_,fun d' hd' L hL=>?_,fun ev' ob' he hob=>?_⟩
      ·simp only [OpAct.u, List.mem_cons] at hx
       simp only [OpAct.fp,List.mem_append]
       rcases hx with rfl | hx
       ·exact .inr (by simp)
       ·exact .inl (zsR (zfi _ _ _ _ _ hp x hx).1)
      ·simp only [OpAct.u, List.mem_cons] at hx
       rcases hx with rfl | hx
       ·simp [aoV] at hL
       ·rw [(zfi _ _ _ _ _ hp x hx).2] at hL;simp at hL
      ·simp only [OpAct.gives] at hd'; subst hd'
       simp only [dvV,d1V,clV,List.mem_singleton] at hL
       subst hL
       exact .inr (by simp [OpAct.fp])
      ·have e1 := zgP (ev' := ev') (ob' := ob') _ _ _ _ _ hp (fun x hx => he x.2 (hm x hx)) (fun L hL => hob (L, true) (List.mem_append.2 (.inl (zsR hL))))
       have e2:=hob (dst,true) (List.mem_append.2 (.inr (by simp)))
       simp only at e2
       rw [hd] at hvf
       simp only [act,hop,hvf,hu,hie,e1,hb,hz,hd,e2,hn]
     ·subst hA;exact hs.elim
    ·subst hA;exact hs.elim
   ·subst hA;exact hs.elim
  ·subst hA;exact hs.elim
 ·subst hA;exact hs.elim

theorem zIn {L:Nat} {ao:AO} {w:Bool} {d:D1} (hL:ob L=some ao) (h:∀ M∈d1V d,M∈aoV ao):∀ M∈dvV (.one d),Men o ev ob [(L,w)] M∨(M,true)∈[(L,w)] :=
 fun M hM=>.inl (.inr ⟨(L,w),by simp,ao,hL,h M hM⟩)

theorem zDX {t:TypeId} {x:Operand} (hop:o.op=.load t x) (hA:act P Γ o ev ob=A) (hs:A.safe):ActOk P Γ o ev ob A:=by
 have hm:x∈o.op.operands.toList:=by simp [hop,Op.operands]
 simp only [act,hop] at hA
 split at hA
 ·rename_i ag n hag hn
  split at hA
  ·rename_i L off hx
   split at hA
   ·rename_i ty cells hL
    split at hA
    ·rename_i d hr
     subst hA
     refine ActOk.pure (zIn hL (zvu hr)) fun ev' ob' he hob=>?_
     have e:=hob (L,false) (by simp);simp only at e
     simp only [act,hop,hag,hn,he x hm,hx,e,hL,hr]
    ·subst hA;exact hs.elim
   ·rename_i cells hL
    split at hA
    ·rename_i d hr
     subst hA
     refine ActOk.pure (fun M hM=>?_) fun ev' ob' he hob=>?_
     ·simp only [dvV] at hM;rw [zjs hr] at hM;simp at hM
     have e:=hob (L,false) (by simp);simp only at e
     simp only [act,hop,hag,hn,he x hm,hx,e,hL,hr]
    ·subst hA;exact hs.elim
   ·subst hA;exact hs.elim
  ·rename_i cells off hx
   split at hA
   ·rename_i d hr
    subst hA
    refine ActOk.pure (fun M hM=>?_) fun ev' ob' he hob=>?_
    ·simp only [dvV] at hM;rw [zjs hr] at hM;simp at hM
    simp only [act,hop,hag,hn,he x hm,hx,hr]
   ·subst hA;exact hs.elim
  ·rename_i L s i k hx
   split at hA
   ·rename_i e s' b len get hL
    split at hA
    ·rename_i d hss hr
     subst hA
     refine ActOk.pchk (fun M hM=>?_) fun ev' ob' he hob=>?_
     ·simp only [dvV] at hM;rw [zjs hr] at hM;simp at hM
     have e:=hob (L,false) (by simp);simp only at e
     simp only [act,hop,hag,hn,he x hm,hx,e,hL,hss,hr]
    ·subst hA;exact hs.elim
   ·rename_i s' len get hL
    split at hA
    ·rename_i d hss hr
     subst hA
     refine ActOk.pchk (fun M hM=>?_) fun ev' ob' he hob=>?_
     ·simp only [dvV] at hM;rw [zjs hr] at hM;simp at hM
     have e:=hob (L,false) (by simp);simp only at e
     simp only [act,hop,hag,hn,he x hm,hx,e,hL,hss,hr]
    ·subst hA;exact hs.elim
   ·rename_i hL
    split at hA
    ·rename_i hss
     subst hA
     refine ActOk.pchk (fun M hM=>.inl (.inl ⟨x,hm,?_⟩)) fun ev' ob' he hob=>?_
     ·rw [hx];exact hM
     have e:=hob (L,false) (by simp);simp only at e
     simp only [act,hop,hag,hn,he x hm,hx,e,hL,hss]
    ·subst hA;exact hs.elim
   ·rename_i hL
    split at hA
    ·rename_i hss
     subst hA
     refine ActOk.pchk (fun M hM=>.inl (.inl ⟨x,hm,?_⟩)) fun ev' ob' he hob=>?_
     ·rw [hx];exact hM
     have e:=hob (L,false) (by simp);simp only at e
     simp only [act,hop,hag,hn,he x hm,hx,e,hL,hss]
    ·subst hA;exact hs.elim
   ·subst hA;exact hs.elim
  ·rename_i L s i j k hx
   split at hA
   ·rename_i hL
    split at hA
    ·rename_i d hss hr
     subst hA
     refine ActOk.pchk (fun M hM=>?_) fun ev' ob' he hob=>?_
     ·simp only [dvV] at hM;rw [zjs hr] at hM;simp at hM
     have e:=hob (L,false) (by simp);simp only at e
     simp only [act,hop,hag,hn,he x hm,hx,e,hL,hss,hr]
    ·subst hA;exact hs.elim
   ·subst hA;exact hs.elim
  ·subst hA;exact hs.elim
 ·subst hA;exact hs.elim

theorem zLs:∀ (l' l:List Cl) (off:Nat),∀ L∈(spl l off l').flatMap clV,L∈l.flatMap clV∨L∈l'.flatMap clV:=by
 intro l'
 induction l' with
 | nil=>intro l off L hL;exact .inl hL
 | cons c l' ih =>
  intro l off L hL
  simp only [spl] at hL
  rcases ih _ _ L hL with h | h
  ·obtain ⟨c', hc', hL'⟩ := List.mem_flatMap.1 h
   rcases List.mem_or_eq_of_mem_set hc' with h2 | h2
   ·exact .inl (List.mem_flatMap.2 ⟨c',h2,hL'⟩)
   ·subst h2;exact .inr (List.mem_flatMap.2 ⟨c',List.mem_cons_self,hL'⟩)
  ·exact .inr (by simp only [List.flatMap_cons,List.mem_append];exact .inr h)

theorem zAQ {t:TypeId} {x y:Operand} (hop:o.op=.store t x y) (hA:act P Γ o ev ob=A) (hs:A.safe):ActOk P Γ o ev ob A:=by
 have hx:x∈o.op.operands.toList:=by simp [hop,Op.operands]
 have hy:y∈o.op.operands.toList:=by simp [hop,Op.operands]
 simp only [act,hop] at hA
 split at hA
 ·rename_i n L off d hn hex hey
  split at hA
  ·rename_i ty cells hL
   split at hA
   ·rename_i hb
    subst hA
    refine ⟨fun z hz=>?_,.inl rfl,fun z hz M hM=>?_,fun d' hd' M hM=>?_,fun ev' ob' he hob=>?_⟩
    ·simp only [OpAct.u,List.mem_singleton] at hz;subst hz;simp [OpAct.fp]
    ·simp only [OpAct.u, List.mem_singleton] at hz; subst hz
     simp only [aoV] at hM
     rcases zLs _ _ _ M hM with h | h
     ·exact .inr ⟨(L,true),by simp [OpAct.fp],_,hL,h⟩
     ·refine .inl ⟨y, hy, ?_⟩
      rw [hey];simp only [dvV];rw [← zqb];exact h
    ·simp only [OpAct.gives] at hd';subst hd';simp [dvV,d1V,clV] at hM
    ·have e := hob (L, true) (by simp [OpAct.fp]); simp only at e
     simp only [act,hop,hn,he x hx,he y hy,hex,hey,e,hL,hb]
   ·subst hA;exact hs.elim
  ·subst hA;exact hs.elim
 ·rename_i n L s i k d hn hex hey
  split at hA
  ·rename_i e s' b len get hL
   split at hA
   ·rename_i l hl
    split at hA
    ·rename_i hb
     subst hA
     refine ⟨fun z hz=>?_,.inl rfl,fun z hz M hM=>?_,fun d' hd' M hM=>?_,fun ev' ob' he hob=>?_⟩
     ·simp only [OpAct.u,List.mem_singleton] at hz;subst hz;simp [OpAct.fp]
     ·simp only [OpAct.u,List.mem_singleton] at hz;subst hz;simp [aoV] at hM
     ·simp only [OpAct.gives] at hd';subst hd';simp [dvV,d1V,clV] at hM
     ·have e := hob (L, true) (by simp [OpAct.fp]); simp only at e
      simp only [act,hop,hn,he x hx,he y hy,hex,hey,e,hL,hl,hb]
    ·subst hA;exact hs.elim
   ·subst hA;exact hs.elim
  ·rename_i te bb kt vt q len mk nn F hL
   split at hA
   ·rename_i M'
    split at hA
    ·rename_i kt' vt' q' mm F' hM'
     split at hA
     ·rename_i hb
      split at hA
      ·rename_i hq
       subst hA
       refine ⟨fun z hz=>?_,.inl rfl,fun z hz M hM=>?_,fun d' hd' M hM=>?_,fun ev' ob' he hob=>?_⟩
       ·simp only [OpAct.u, List.mem_cons, List.not_mem_nil, or_false] at hz
        rcases hz with rfl | rfl <;> simp [OpAct.fp]
       ·simp only [OpAct.u, List.mem_cons, List.not_mem_nil, or_false] at hz
        rcases hz with rfl | rfl <;> simp [aoV] at hM
       ·simp only [OpAct.gives] at hd';subst hd';simp [dvV,d1V,clV] at hM
       ·have e := hob (L, true) (by simp [OpAct.fp]); simp only at e
        have e2:=hob (M',true) (by simp [OpAct.fp]);simp only at e2
        simp only [act,hop,hn,he x hx,he y hy,hex,hey,e,hL,e2,hM',hb]
        rw [if_pos hq]
      ·subst hA;exact hs.elim
     ·subst hA;exact hs.elim
    ·subst hA;exact hs.elim
   ·subst hA;exact hs.elim
  ·subst hA;exact hs.elim
 ·rename_i n L s i j k d hn hex hey
  split at hA
  ·rename_i hL
   split at hA
   ·rename_i l hl
    split at hA
    ·rename_i hb
     subst hA
     refine ⟨fun z hz=>?_,.inl rfl,fun z hz M hM=>?_,fun d' hd' M hM=>?_,fun ev' ob' he hob=>?_⟩
     ·simp only [OpAct.u,List.mem_singleton] at hz;subst hz;simp [OpAct.fp]
     ·simp only [OpAct.u,List.mem_singleton] at hz;subst hz;simp [aoV] at hM
     ·simp only [OpAct.gives] at hd';subst hd';simp [dvV,d1V,clV] at hM
     ·have e := hob (L, true) (by simp [OpAct.fp]); simp only at e
      simp only [act,hop,hn,he x hx,he y hy,hex,hey,e,hL,hl,hb]
    ·subst hA;exact hs.elim
   ·subst hA;exact hs.elim
  ·subst hA;exact hs.elim
 ·subst hA;exact hs.elim

theorem zqc {x:Operand} (hop:o.op=.nilCheck x) (hA:act P Γ o ev ob=A) (hs:A.safe):ActOk P Γ o ev ob A:=by
 have hx:x∈o.op.operands.toList:=by simp [hop,Op.operands]
 simp only [act,hop] at hA
 split at hA
 ·rename_i L off h; subst hA
  exact ActOk.pure (ze5 hx fun L hL=>by rw [h];exact hL) fun ev' ob' he _=>by simp only [act,hop,he x hx,h]
 ·rename_i L off h; subst hA
  exact ActOk.pure (ze5 hx fun L hL=>by rw [h];exact hL) fun ev' ob' he _=>by simp only [act,hop,he x hx,h]
 ·rename_i L s i k h; subst hA
  exact ActOk.pure (ze5 hx fun L hL=>by rw [h];exact hL) fun ev' ob' he _=>by simp only [act,hop,he x hx,h]
 ·rename_i h; subst hA
  exact ActOk.pure (ze5 hx fun L hL=>by rw [h];exact hL) fun ev' ob' he _=>by simp only [act,hop,he x hx,h]
 ·subst hA;exact hs.elim

theorem zAR {op : BinOp} {k : IntKind} {p q : Int} (hs : (zuL op k p q).safe)
    (hc:∀ ev' ob',(∀ x∈o.op.operands.toList,ev' x=ev x)→act P Γ o ev' ob'=zuL op k p q):ActOk P Γ o ev ob (zuL op k p q):=by
  cases op <;> first
    | exact hs.elim
    | exact ActOk.pure (zcc _) fun ev' ob' he _=>hc ev' ob' he
    | exact ActOk.pchk (zcc _) fun ev' ob' he _=>hc ev' ob' he

theorem zAS {op:BinOp} {t t':TypeId} {x y:Operand} (hop:o.op=.binOp op t x y t') (hA:act P Γ o ev ob=A) (hs:A.safe):ActOk P Γ o ev ob A:=by
 have hx:x∈o.op.operands.toList:=by simp [hop,Op.operands]
 have hy:y∈o.op.operands.toList:=by simp [hop,Op.operands]
 simp only [act,hop] at hA
 split at hA
 ·rename_i k p k' q hex hey
  split at hA
  ·rename_i hk
   subst hA
   exact zAR hs fun ev' ob' he=>by simp only [act,hop,he x hx,he y hy,hex,hey,hk,if_true]
  ·subst hA;exact hs.elim
 ·rename_i p q hex hey
  split at hA
  ·rename_i hu; subst hA
   exact ActOk.pure (zcc _) fun ev' ob' he _=>by simp only [act,hop,he x hx,he y hy,hex,hey,hu]
  ·rename_i hu; subst hA
   exact ActOk.pure (zcc _) fun ev' ob' he _=>by simp only [act,hop,he x hx,he y hy,hex,hey,hu]
  ·subst hA;exact hs.elim
 ·rename_i cs ds hex hey
  have hc:∀ ev' ob',(∀ x∈o.op.operands.toList,ev' x=ev x)→act P Γ o ev' ob'=A:=fun ev' ob' he=>by
   simp only [act,hop,he x hx,he y hy,hex,hey];exact hA
  unfold zAt at hA
  split at hA
  ·split at hA
   ·subst hA;exact ActOk.pure (zcc _) fun ev' ob' he _=>hc ev' ob' he
   ·subst hA;exact ActOk.pure (zcc _) fun ev' ob' he _=>hc ev' ob' he
   ·subst hA;exact hs.elim
  ·subst hA;exact hs.elim
 ·rename_i hex hey
  have hc:∀ ev' ob',(∀ x∈o.op.operands.toList,ev' x=ev x)→act P Γ o ev' ob'=A:=fun ev' ob' he=>by
   simp only [act,hop,he x hx,he y hy,hex,hey];exact hA
  split at hA
  ·subst hA
   exact ⟨fun x hx=>by simp [OpAct.u] at hx,.inl rfl,fun x hx=>by simp [OpAct.u] at hx,fun d hd L hL=>by (simp only [OpAct.gives] at hd;obtain ⟨q,rfl⟩:=hd;simp [dvV,d1V,clV] at hL),fun ev' ob' he _=>hc ev' ob' he⟩
  ·subst hA
   exact ⟨fun x hx=>by simp [OpAct.u] at hx,.inl rfl,fun x hx=>by simp [OpAct.u] at hx,fun d hd L hL=>by (simp only [OpAct.gives] at hd;obtain ⟨q,rfl⟩:=hd;simp [dvV,d1V,clV] at hL),fun ev' ob' he _=>hc ev' ob' he⟩
  ·subst hA;exact hs.elim
 ·rename_i hex hey
  have hc:∀ ev' ob',(∀ x∈o.op.operands.toList,ev' x=ev x)→act P Γ o ev' ob'=A:=fun ev' ob' he=>by
   simp only [act,hop,he x hx,he y hy,hex,hey];exact hA
  split at hA
  ·subst hA;exact ActOk.pure (zcc _) fun ev' ob' he _=>hc ev' ob' he
  ·subst hA;exact ActOk.pure (zcc _) fun ev' ob' he _=>hc ev' ob' he
  ·subst hA;exact hs.elim
 ·subst hA;exact hs.elim

theorem zAT {t:TypeId} {x y:Operand} (hop:o.op=.index t x y) (hA:act P Γ o ev ob=A) (hs:A.safe):ActOk P Γ o ev ob A:=by
 have hx:x∈o.op.operands.toList:=by simp [hop,Op.operands]
 have hy:y∈o.op.operands.toList:=by simp [hop,Op.operands]
 have hc:∀ ev' ob',(∀ x∈o.op.operands.toList,ev' x=ev x)→act P Γ o ev' ob'=A:=fun ev' ob' he=>by
  rw [← hA];simp only [act,hop,he x hx,he y hy]
 simp only [act,hop,zmy] at hA
 split at hA
 ·split at hA
  ·rename_i cs k j _ _ hex hey
   split at hA
   ·rename_i d _ hr
    subst hA
    refine ActOk.pure (ze5 hx fun L hL=>?_) fun ev' ob' he _=>hc ev' ob' he
    rw [hex];exact zvu hr L hL
   ·subst hA;exact hs.elim
  ·subst hA;exact hs.elim
 ·subst hA;exact hs.elim

theorem ok_slice {t:TypeId} {x:Operand} {lo hi:Option Operand} (hop:o.op=.slice t x lo hi none) (hA:act P Γ o ev ob=A) (hs:A.safe):ActOk P Γ o ev ob A:=by
 have hx:x∈o.op.operands.toList:=by simp [hop,Op.operands]
 have hlo:∀ y,lo=some y→y∈o.op.operands.toList:=fun y e=>by subst e;simp [hop,Op.operands]
 have hhi:∀ y,hi=some y→y∈o.op.operands.toList:=fun y e=>by subst e;simp [hop,Op.operands]
 have hc:∀ ev' ob',(∀ x∈o.op.operands.toList,ev' x=ev x)→act P Γ o ev' ob'=A:=fun ev' ob' he=>by
  have e1:zt2 ev' lo=zt2 ev lo:=by
   cases lo with
   | none=>rfl
   | some y=>simp only [zt2,he y (hlo y rfl)]
  have e2:zt2 ev' hi=zt2 ev hi:=by
   cases hi with
   | none=>rfl
   | some y=>simp only [zt2,he y (hhi y rfl)]
  rw [← hA];simp only [act,hop,he x hx,e1,e2]
 simp only [act,hop,ziL] at hA
 split at hA
 ·split at hA
  ·split at hA
   ·subst hA
    exact ActOk.pchk (fun L hL=>by simp [dvV,d1V,clV] at hL) fun ev' ob' he _=>hc ev' ob' he
   ·subst hA;exact hs.elim
  ·subst hA;exact hs.elim
 ·subst hA;exact hs.elim

theorem zqd {d:D1} : ∀ L,L∈d1V d→L∈zbh d:=by
 intro L hL
 cases d with
 | c y=>exact zqa L hL
 | agg cs =>
  obtain ⟨c,hc,hL⟩:=List.mem_flatMap.1 hL
  exact List.mem_flatMap.2 ⟨c,hc,zqa L hL⟩

theorem zjv {q:MQ} {kd:DV} {ok:Bool} {F:List Int→Option (List Int)} {fin:DV→OpAct} (hA:found q kd ok F fin=A) (hs:A.safe):∃ d,(∀ M∈dvV d,False)∧fin d=A:=by
 unfold found at hA
 split at hA
 ·split at hA
  ·rename_i d hdv
   have hV:∀ M,M∈d1V d→False:=fun M hM=>by have:=zqd M hM;rw [ziN hdv] at this;simp at this
   cases ok with
   | true =>
    refine ⟨_,fun M hM=>?_,hA⟩
    simp only [dvV,List.flatMap_cons,List.flatMap_nil,List.append_nil,List.mem_append] at hM
    rcases hM with hM | hM
    ·exact hV M hM
    ·simp [d1V,clV] at hM
   | false=>exact ⟨.one d,fun M hM=>hV M hM,hA⟩
  ·subst hA;exact hs.elim
 ·subst hA;exact hs.elim

theorem zvx {t:TypeId} {x y:Operand} {k:Bool} (hop:o.op=.lookup t x y k) (hA:act P Γ o ev ob=A) (hs:A.safe):ActOk P Γ o ev ob A:=by
 have hx:x∈o.op.operands.toList:=by simp [hop,Op.operands]
 have hy:y∈o.op.operands.toList:=by simp [hop,Op.operands]
 have hc0:∀ ev' ob',(∀ x∈o.op.operands.toList,ev' x=ev x)→act P Γ o ev' ob'=match zCm (ev x) with | true=>zlV P t (ev x) (ev y) k ob' | false=>zfc P t (ev x) (ev y) k:=fun ev' ob' he=>by
  simp only [act,hop,he x hx,he y hy]
  cases zCm (ev x) <;> rfl
 cases hmo:zCm (ev x) with
 | true =>
  rw [hc0 ev ob (fun _ _=>rfl),hmo] at hA
  have hc1:∀ ev' ob',(∀ x∈o.op.operands.toList,ev' x=ev x)→act P Γ o ev' ob'=zlV P t (ev x) (ev y) k ob':=fun ev' ob' he=>by rw [hc0 ev' ob' he,hmo]
  simp only at hA
  unfold zlV at hA hc1
  split at hA
  ·rename_i kt vt L hu hex
   split at hA
   ·rename_i q kt' vt' q' n F hE hL
    split at hA
    ·rename_i hcond
     obtain ⟨d,hd,e⟩:=zjv hA hs
     subst e
     refine ActOk.pure (fun M hM=>(hd M hM).elim) fun ev' ob' he hob=>?_
     rw [hc1 ev' ob' he]
     have:=hob (L,false) (by simp);simp only at this
     simp only [hu,hex,this,hL,hE,if_pos hcond]
     exact hA
    ·subst hA;exact hs.elim
   ·subst hA;exact hs.elim
  ·rename_i kt vt L i hu hex
   split at hA
   ·rename_i q te bb kt' vt' q' n mk nn F hE hL
    split at hA
    ·rename_i hcond
     obtain ⟨d,hd,e⟩:=zjv hA hs
     subst e
     refine ActOk.pchk (fun M hM=>(hd M hM).elim) fun ev' ob' he hob=>?_
     rw [hc1 ev' ob' he]
     have:=hob (L,false) (by simp);simp only at this
     simp only [hu,hex,this,hL,hE,if_pos hcond]
     exact hA
    ·subst hA;exact hs.elim
   ·subst hA;exact hs.elim
  ·rename_i kt vt q' n F hu hex
   split at hA
   ·rename_i q hE
    split at hA
    ·rename_i hcond
     obtain ⟨d,hd,e⟩:=zjv hA hs
     subst e
     refine ActOk.pure (fun M hM=>(hd M hM).elim) fun ev' ob' he hob=>?_
     rw [hc1 ev' ob' he]
     simp only [hu,hex,hE,if_pos hcond]
     exact hA
    ·subst hA;exact hs.elim
   ·subst hA;exact hs.elim
  ·subst hA;exact hs.elim
 | false =>
 have hc:∀ ev' ob',(∀ x∈o.op.operands.toList,ev' x=ev x)→act P Γ o ev' ob'=A:=fun ev' ob' he=>by
  rw [← hA,hc0 ev' ob' he,hc0 ev ob (fun _ _=>rfl),hmo]
 rw [hc0 ev ob (fun _ _=>rfl),hmo] at hA
 simp only [zfc] at hA
 split at hA
 ·split at hA
  ·rename_i F j _ _ _ _ _
   subst hA
   refine ⟨fun x hx=>by simp [OpAct.u] at hx,.inl rfl,fun x hx=>by simp [OpAct.u] at hx,fun d hd L hL=>?_,fun ev' ob' he _=>hc ev' ob' he⟩
   simp only [OpAct.gives] at hd
   obtain ⟨q,rfl⟩:=hd
   have:∀ l:List Int,(zAs q l).flatMap clV=[]:=by
    intro l
    induction l with
    | nil=>rfl
    | cons x l ih=>simp [zAs,clV,ih]
   simp [dvV,d1V,clV,this] at hL
  ·subst hA;exact hs.elim
 ·subst hA;exact hs.elim

theorem zoL {t:TypeId} {x y z:Operand} (hop:o.op=.mapUpdate t x y z) (hA:act P Γ o ev ob=A) (hs:A.safe):ActOk P Γ o ev ob A:=by
 have hx:x∈o.op.operands.toList:=by simp [hop,Op.operands]
 have hy:y∈o.op.operands.toList:=by simp [hop,Op.operands]
 have hz:z∈o.op.operands.toList:=by simp [hop,Op.operands]
 have hc0:∀ ev' ob',(∀ x∈o.op.operands.toList,ev' x=ev x)→act P Γ o ev' ob'=match zCm (ev x) with | true=>zt1 P t (ev x) (ev y) (ev z) ob' | false=>zfd P t (ev x) (ev y) (ev z):=fun ev' ob' he=>by
  simp only [act,hop,he x hx,he y hy,he z hz]
  cases zCm (ev x) <;> rfl
 cases hmo:zCm (ev x) with
 | true =>
  rw [hc0 ev ob (fun _ _=>rfl),hmo] at hA
  have hc1:∀ ev' ob',(∀ x∈o.op.operands.toList,ev' x=ev x)→act P Γ o ev' ob'=zt1 P t (ev x) (ev y) (ev z) ob':=fun ev' ob' he=>by rw [hc0 ev' ob' he,hmo]
  simp only at hA
  unfold zt1 at hA hc1
  split at hA
  ·rename_i kt vt L hu hex
   split at hA
   ·rename_i q kt' vt' q' n F hE hL
    split at hA
    ·rename_i c dv hck hez
     split at hA
     ·rename_i l hl
      split at hA
      ·rename_i hcond
       have hcc:∀ ev' ob',(∀ x∈o.op.operands.toList,ev' x=ev x)→(∀ y∈[(L,true)],ob' y.1=ob y.1)→act P Γ o ev' ob'=A:=fun ev' ob' he hob=>by
        rw [hc1 ev' ob' he]
        have:=hob (L,true) (by simp);simp only at this
        simp only [hu,hex,this,hL,hE,hck,hez,hl,if_pos hcond]
        exact hA
       subst hA
       refine ⟨fun x hx=>?_,.inl rfl,fun x hx M hM=>?_,fun d' hd' M hM=>?_,fun ev' ob' he hob=>hcc ev' ob' he hob⟩
       ·simp only [OpAct.u,List.mem_singleton] at hx;subst hx;simp [OpAct.fp]
       ·simp only [OpAct.u,List.mem_singleton] at hx;subst hx;simp [aoV] at hM
       ·simp only [OpAct.gives] at hd';subst hd';simp [dvV,d1V,clV] at hM
      ·subst hA;exact hs.elim
     ·subst hA;exact hs.elim
    ·subst hA;exact hs.elim
   ·subst hA;exact hs.elim
  ·rename_i kt vt L i hu hex
   split at hA
   ·rename_i q te bb kt' vt' q' n mk nn F hE hL
    split at hA
    ·rename_i c dv hck hez
     split at hA
     ·rename_i l hl
      split at hA
      ·rename_i hcond
       have hcc:∀ ev' ob',(∀ x∈o.op.operands.toList,ev' x=ev x)→(∀ y∈[(L,true)],ob' y.1=ob y.1)→act P Γ o ev' ob'=A:=fun ev' ob' he hob=>by
        rw [hc1 ev' ob' he]
        have:=hob (L,true) (by simp);simp only at this
        simp only [hu,hex,this,hL,hE,hck,hez,hl,if_pos hcond]
        exact hA
       subst hA
       refine ⟨fun x hx=>?_,.inl rfl,fun x hx M hM=>?_,fun d' hd' M hM=>?_,fun ev' ob' he hob=>hcc ev' ob' he hob⟩
       ·simp only [OpAct.u,List.mem_singleton] at hx;subst hx;simp [OpAct.fp]
       ·simp only [OpAct.u,List.mem_singleton] at hx;subst hx;simp [aoV] at hM
       ·simp only [OpAct.gives] at hd';subst hd';simp [dvV,d1V,clV] at hM
      ·subst hA;exact hs.elim
     ·subst hA;exact hs.elim
    ·subst hA;exact hs.elim
   ·subst hA;exact hs.elim
  ·subst hA;exact hs.elim
 | false =>
 have hc:∀ ev' ob',(∀ x∈o.op.operands.toList,ev' x=ev x)→act P Γ o ev' ob'=A:=fun ev' ob' he=>by
  rw [← hA,hc0 ev' ob' he,hc0 ev ob (fun _ _=>rfl),hmo]
 rw [hc0 ev ob (fun _ _=>rfl),hmo] at hA
 simp only [zfd] at hA
 split at hA
 ·split at hA
  ·subst hA
   exact ActOk.pchk (fun L hL=>by simp [dvV,d1V,clV] at hL) fun ev' ob' he _=>hc ev' ob' he
  ·subst hA;exact hs.elim
 ·subst hA;exact hs.elim

theorem zul {t:TypeId} (hop:o.op=.makeMap t none) (hA:act P Γ o ev ob=A) (hs:A.safe):ActOk P Γ o ev ob A:=by
 cases hv:zH0 Γ o.dst with
 | true =>
  simp only [act,hop,hv] at hA
  split at hA
  ·rename_i kt vt hu
   split at hA
   ·rename_i q hE
    exact zmV (ao:=.mo kt vt q 0 (fun _=>none)) (d:=fun t=>.cl (.mo t)) (fun L hL=>by simp [aoV] at hL) (fun t L hL=>by simp [dvV,d1V,clV] at hL) (fun ev' ob' _=>by simp only [act,hop,hv,hu,hE]) hA hs
   ·subst hA;exact hs.elim
  ·subst hA;exact hs.elim
 | false =>
 have hc:∀ ev' ob',act P Γ o ev' ob'=A:=fun ev' ob'=>by rw [← hA];simp only [act,hop,hv]
 simp only [act,hop,hv] at hA
 split at hA
 ·split at hA
  ·subst hA;exact ActOk.pchk (zcc _) fun ev' ob' _ _=>hc ev' ob'
  ·subst hA;exact hs.elim
 ·subst hA;exact hs.elim

theorem zDY {op:UnOp} {t:TypeId} {x:Operand} (hop:o.op=.unOp op t x) (hA:act P Γ o ev ob=A) (hs:A.safe):ActOk P Γ o ev ob A:=by
 have hx:x∈o.op.operands.toList:=by simp [hop,Op.operands]
 simp only [act,hop] at hA
 split at hA
 ·rename_i h; subst hA
  exact ActOk.pure (zcc _) fun ev' ob' he _=>by simp only [act,hop,he x hx,h]
 ·rename_i h; subst hA
  exact ActOk.pure (zcc _) fun ev' ob' he _=>by simp only [act,hop,he x hx,h]
 ·subst hA;exact hs.elim

theorem zoM {t:TypeId} {x:Operand} {f:Nat} (hop:o.op=.fieldAddr t x f) (hA:act P Γ o ev ob=A) (hs:A.safe):ActOk P Γ o ev ob A:=by
 have hx:x∈o.op.operands.toList:=by simp [hop,Op.operands]
 simp only [act,hop] at hA
 split at hA
 ·rename_i off hf
  split at hA
  ·rename_i h; subst hA
   exact ActOk.pure (ze5 hx fun L hL=>by rw [h];exact hL) fun ev' ob' he _=>by simp only [act,hop,he x hx,h,hf]
  ·rename_i h; subst hA
   exact ActOk.pure (ze5 hx fun L hL=>by rw [h];exact hL) fun ev' ob' he _=>by simp only [act,hop,he x hx,h,hf]
  ·rename_i h; subst hA
   exact ActOk.pure (ze5 hx fun L hL=>by rw [h];exact hL) fun ev' ob' he _=>by simp only [act,hop,he x hx,h,hf]
  ·rename_i h; subst hA
   exact ActOk.pure (ze5 hx fun L hL=>by rw [h];exact hL) fun ev' ob' he _=>by simp only [act,hop,he x hx,h,hf]
  ·subst hA;exact hs.elim
 ·subst hA;exact hs.elim

theorem zoN {t:TypeId} {x y:Operand} (hop:o.op=.indexAddr t x y) (hA:act P Γ o ev ob=A) (hs:A.safe):ActOk P Γ o ev ob A:=by
 have hx:x∈o.op.operands.toList:=by simp [hop,Op.operands]
 have hy:y∈o.op.operands.toList:=by simp [hop,Op.operands]
 simp only [act,hop] at hA
 split at hA
 ·rename_i e hu
  split at hA
  ·rename_i n k j hn hj
   split at hA
   ·rename_i len s get hex
    split at hA
    ·rename_i hs'; subst hA
     exact ActOk.pchk (zcc _) fun ev' ob' he _=>by simp only [act,hop,he x hx,he y hy,hex,hu,hn,hj,hs',if_true]
    ·subst hA;exact hs.elim
   ·rename_i L hex
    split at hA
    ·rename_i e' s b len get hL
     split at hA
     ·rename_i hs'; subst hA
      refine ActOk.pchk (fun M hM=>.inl (.inl ⟨x,hx,?_⟩)) fun ev' ob' he hob=>?_
      ·rw [hex];exact hM
      have e:=hob (L,false) (by simp);simp only at e
      simp only [act,hop,he x hx,he y hy,hex,hu,hn,hj,e,hL,hs',if_true]
     ·subst hA;exact hs.elim
    ·rename_i s len get hL
     split at hA
     ·rename_i hs'; subst hA
      refine ActOk.pchk (zcc _) fun ev' ob' he hob=>?_
      have e:=hob (L,false) (by simp);simp only at e
      simp only [act,hop,he x hx,he y hy,hex,hu,hn,hj,e,hL,hs',if_true]
     ·subst hA;exact hs.elim
    ·rename_i hL
     split at hA
     ·rename_i hs'; subst hA
      refine ActOk.pchk (fun M hM=>.inl (.inl ⟨x,hx,?_⟩)) fun ev' ob' he hob=>?_
      ·rw [hex];exact hM
      have e:=hob (L,false) (by simp);simp only at e
      simp only [act,hop,he x hx,he y hy,hex,hu,hn,hj,e,hL,hs',if_true]
     ·subst hA;exact hs.elim
    ·rename_i hL
     split at hA
     ·rename_i hs'; subst hA
      refine ActOk.pchk (fun M hM=>.inl (.inl ⟨x,hx,?_⟩)) fun ev' ob' he hob=>?_
      ·rw [hex];exact hM
      have e:=hob (L,false) (by simp);simp only at e
      simp only [act,hop,he x hx,he y hy,hex,hu,hn,hj,e,hL,hs',if_true]
     ·subst hA;exact hs.elim
    ·subst hA;exact hs.elim
   ·rename_i L i hex
    split at hA
    ·rename_i hL
     split at hA
     ·rename_i hs'; subst hA
      refine ActOk.pchk (fun M hM=>.inl (.inl ⟨x,hx,?_⟩)) fun ev' ob' he hob=>?_
      ·rw [hex];exact hM
      have e:=hob (L,false) (by simp);simp only at e
      simp only [act,hop,he x hx,he y hy,hex,hu,hn,hj,e,hL,hs',if_true]
     ·subst hA;exact hs.elim
    ·subst hA;exact hs.elim
   ·subst hA;exact hs.elim
  ·subst hA;exact hs.elim
 ·rename_i m e hu
  have hc:∀ ev' ob',(∀ x∈o.op.operands.toList,ev' x=ev x)→act P Γ o ev' ob'=A:=fun ev' ob' he=>by
   simp only [act,hop,hu,he x hx,he y hy];exact hA
  unfold ziK at hA
  split at hA
  ·split at hA
   ·split at hA
    ·rename_i h;subst hA;exact ActOk.pure (ze5 hx fun L hL=>by simp [dvV,d1V,clV] at hL) fun ev' ob' he _=>hc ev' ob' he
    ·rename_i h;subst hA;exact ActOk.pure (zcc _) fun ev' ob' he _=>hc ev' ob' he
    ·subst hA;exact hs.elim
   ·subst hA;exact hs.elim
  ·subst hA;exact hs.elim
 ·subst hA;exact hs.elim

theorem zum {x:Operand} {k:Nat} (hop:o.op=.extract x k) (hA:act P Γ o ev ob=A) (hs:A.safe):ActOk P Γ o ev ob A:=by
 have hx:x∈o.op.operands.toList:=by simp [hop,Op.operands]
 simp only [act,hop] at hA
 split at hA
 ·rename_i ds h
  split at hA
  ·rename_i d hd; subst hA
   refine ActOk.pure (ze5 hx fun L hL=>?_) fun ev' ob' he _=>by simp only [act,hop,he x hx,h,hd]
   rw [h];exact List.mem_flatMap.2 ⟨d,List.mem_of_getElem? hd,hL⟩
  ·subst hA;exact hs.elim
 ·subst hA;exact hs.elim

theorem zgQ {c:Callee} {args:Array Operand} {ts:Array TypeId} (hop:o.op=.call { callee:=c,args,argTypes:=ts }):∀ x∈args.toList,x∈o.op.operands.toList:=by
 intro x hx
 simp only [hop,Op.operands]
 cases c <;> simp [Call.operands] <;> simp at hx <;> first | exact hx | exact .inr hx

theorem zIo {b:Builtin} {args:Array Operand} {ts:Array TypeId} (hb:b=.max∨b=.min) (hop:o.op=.call { callee:=.builtin b,args,argTypes:=ts }) (hA:act P Γ o ev ob=A) (hs:A.safe):ActOk P Γ o ev ob A:=by
 have hm:=zgQ hop
 have hmap:∀ ev':Operand→DV,(∀ x∈o.op.operands.toList,ev' x=ev x)→args.toList.map ev'=args.toList.map ev:=fun ev' he=>List.map_congr_left fun x hx=>he x (hm x hx)
 rcases hb with rfl | rfl <;> simp only [act,hop] at hA <;> split at hA
 ·rename_i h;subst hA;exact ActOk.pure (zcc _) fun ev' ob' he _=>by simp only [act,hop,hmap ev' he,h]
 ·subst hA;exact hs.elim
 ·rename_i h;subst hA;exact ActOk.pure (zcc _) fun ev' ob' he _=>by simp only [act,hop,hmap ev' he,h]
 ·subst hA;exact hs.elim

theorem zIp {args:Array Operand} {ts:Array TypeId} (hop:o.op=.call { callee:=.builtin .len,args,argTypes:=ts }) (hA:act P Γ o ev ob=A) (hs:A.safe):ActOk P Γ o ev ob A:=by
 have hm:=zgQ hop
 simp only [act,hop] at hA
 split at hA
 ·rename_i x t hargs ht
  have hx:x∈o.op.operands.toList:=hm x (by rw [hargs];simp)
  split at hA
  ·rename_i e hu
   split at hA
   ·rename_i h;subst hA;exact ActOk.pure (zcc _) fun ev' ob' he _=>by simp only [act,hop,hargs,ht,hu,he x hx,h]
   ·rename_i h;subst hA;exact ActOk.pure (zcc _) fun ev' ob' he _=>by simp only [act,hop,hargs,ht,hu,he x hx,h]
   ·rename_i L h
    split at hA
    ·rename_i hL; subst hA
     refine ActOk.pure (zcc _) fun ev' ob' he hob=>?_
     have e:=hob (L,false) (by simp);simp only at e
     simp only [act,hop,hargs,ht,hu,he x hx,h,e,hL]
    ·rename_i hL; subst hA
     refine ActOk.pure (zcc _) fun ev' ob' he hob=>?_
     have e:=hob (L,false) (by simp);simp only at e
     simp only [act,hop,hargs,ht,hu,he x hx,h,e,hL]
    ·rename_i hL; subst hA
     refine ActOk.pure (zcc _) fun ev' ob' he hob=>?_
     have e:=hob (L,false) (by simp);simp only at e
     simp only [act,hop,hargs,ht,hu,he x hx,h,e,hL]
    ·rename_i hL; subst hA
     refine ActOk.pure (zcc _) fun ev' ob' he hob=>?_
     have e:=hob (L,false) (by simp);simp only at e
     simp only [act,hop,hargs,ht,hu,he x hx,h,e,hL]
    ·subst hA;exact hs.elim
   ·rename_i L i h
    split at hA
    ·rename_i hL; subst hA
     refine ActOk.pchk (zcc _) fun ev' ob' he hob=>?_
     have e:=hob (L,false) (by simp);simp only at e
     simp only [act,hop,hargs,ht,hu,he x hx,h,e,hL]
    ·subst hA;exact hs.elim
   ·subst hA;exact hs.elim
  ·rename_i kt vt hu
   split at hA
   ·rename_i L h
    split at hA
    ·rename_i hL; subst hA
     refine ActOk.pure (zcc _) fun ev' ob' he hob=>?_
     have e:=hob (L,false) (by simp);simp only at e
     simp only [act,hop,hargs,ht,hu,he x hx,h,e,hL]
    ·subst hA;exact hs.elim
   ·rename_i h; subst hA
    exact ActOk.pure (zcc _) fun ev' ob' he _=>by simp only [act,hop,hargs,ht,hu,he x hx,h]
   ·subst hA;exact hs.elim
  ·subst hA;exact hs.elim
 ·subst hA;exact hs.elim

theorem zun {d:DV} {T:Nat} (h:zhm d ob=some T):d=.one (.c (.vec T))∧∃ a1 a2 a3 a4 a5 a6 a7 a8,ob T=some (.vv a1 a2 a3 a4 a5 a6 a7 a8):=by
 unfold zhm at h
 split at h
 ·split at h
  ·rename_i hT
   simp only [Option.some.injEq] at h;subst h
   exact ⟨rfl,_,_,_,_,_,_,_,_,hT⟩
  ·cases h
 ·cases h

def ziw (d:DV) (ob:Nat→Option AO):Option (Nat×Nat×(Nat→List PV)×List (Nat×Bool)) :=
 match d with
 | .one (.c (.p (.sl n sz get)))=>some (n,sz,get,[])
 | .one (.c (.vec M))=>match ob M with
  | some (.vec _ sz _ n get)=>some (n,sz,get,[(M,false)])
  | some (.fvec sz n get)=>some (n,sz,get,[(M,false)])
  | _=>none
 | _=>none
theorem zoO {d : DV} {ob' : Nat → Option AO} {m sz : Nat} {new : Nat → List PV} {fps : List (Nat × Bool)} (h : ziw d ob = some (m, sz, new, fps)) (hob : ∀ y ∈ fps, ob' y.1 = ob y.1) :
  ziw d ob'=some (m,sz,new,fps):=by
 unfold ziw at h ⊢
 split at h
 ·exact h
 ·rename_i M
  split at h
  ·rename_i hM
   have h':=h
   simp only [Option.some.injEq,Prod.mk.injEq] at h
   have e:=hob (M,false) (by rw [← h.2.2.2];simp);simp only at e
   rw [e,hM];exact h'
  ·rename_i hM
   have h':=h
   simp only [Option.some.injEq,Prod.mk.injEq] at h
   have e:=hob (M,false) (by rw [← h.2.2.2];simp);simp only at e
   rw [e,hM];exact h'
  ·cases h
 ·cases h

theorem zuo {d:DV} {ob':Nat→Option AO} {m sz:Nat} {new:Nat→List PV} {fps:List (Nat×Bool)} (h:ziw d ob=some (m,sz,new,fps)) (hob:∀ y∈fps,ob' y.1=ob y.1):zhm d ob'=none:=by
 unfold ziw at h
 split at h
 ·rfl
 ·rename_i M
  split at h
  ·rename_i hM
   simp only [Option.some.injEq,Prod.mk.injEq] at h
   have e:=hob (M,false) (by rw [← h.2.2.2];simp);simp only at e
   simp only [zhm,e,hM]
  ·rename_i hM
   simp only [Option.some.injEq,Prod.mk.injEq] at h
   have e:=hob (M,false) (by rw [← h.2.2.2];simp);simp only at e
   simp only [zhm,e,hM]
  ·cases h
 ·cases h

theorem zqe {s x : Operand} {e : TypeId} {ie : TypeInfo} {T : Nat} (hsm : s ∈ o.op.operands.toList) (hx : x ∈ o.op.operands.toList) (hT0 : zhm (ev x) ob = some T)
    (hc:∀ ev' ob',ev' x=ev x→zhm (ev' x) ob'=some T→act P Γ o ev' ob'=zds o e ie (ev' s) T ob') (hA:zds o e ie (ev s) T ob=A) (hs:A.safe):ActOk P Γ o ev ob A:=by
  obtain ⟨hxT,a1,a2,a3,a4,a5,a6,a7,a8,hTT⟩:=zun hT0
  unfold zds at hA
  split at hA
  · rename_i hT
    split at hA
    · rename_i L hes
      split at hA
      · rename_i hL
        split at hA
        · rename_i hif
          subst hA
          refine ⟨fun z hz=>?_,.inr ⟨L,rfl,by simp [OpAct.fp]⟩,fun z hz M hM=>?_,fun d' hd' M hM=>?_,fun ev' ob' he hob=>?_⟩
          · simp only [OpAct.u, List.mem_cons, List.not_mem_nil, or_false] at hz
            rcases hz with rfl | rfl <;> simp [OpAct.fp]
          · simp only [OpAct.u, List.mem_cons, List.not_mem_nil, or_false] at hz
            rcases hz with rfl | rfl <;> simp [aoV] at hM
          · simp only [OpAct.gives] at hd'; subst hd'
            simp only [dvV,d1V,clV,List.mem_singleton] at hM;subst hM
            exact .inr (by simp [OpAct.fp])
          · have e1 := hob (L, true) (by simp [OpAct.fp])
            have e2:=hob (T,true) (by simp [OpAct.fp])
            simp only at e1 e2
            rw [hc ev' ob' (he x hx) (by rw [he x hx,hxT];simp only [zhm,e2,hTT])]
            simp only [zds,he s hsm,hes,e1,e2,hL,hT]
            rw [if_pos hif]
        · subst hA;exact hs.elim
      · subst hA;exact hs.elim
    · subst hA;exact hs.elim
  · subst hA;exact hs.elim

theorem zvy {args:Array Operand} {ts:Array TypeId} (hop:o.op=.call { callee:=.builtin .append,args,argTypes:=ts }) (hA:act P Γ o ev ob=A) (hs:A.safe):ActOk P Γ o ev ob A:=by
 have hm:=zgQ hop
 have hA0:=hA
 simp only [act,hop] at hA
 split at hA
 ·rename_i s x t t' hargs ht
  have hsm:s∈o.op.operands.toList:=hm s (by rw [hargs];simp)
  have hx:x∈o.op.operands.toList:=hm x (by rw [hargs];simp)
  split at hA
  ·rename_i e dst hu htt hd
   split at hA
   ·rename_i ie z hie hz
    have hA2:(match zhm (ev x) ob with
     | some T=>zds o e ie (ev s) T ob
     | none=>match ziw (ev x) ob with
      | some (m,sz,new,fps)=>(match ev s with
       | .one (.c (.vec L))=>match ob L with
        | some (.vec e' s' b' n get)=>if e'=e∧s'=ie.size∧b'=ie.bytes∧sz=s'∧0 < s'∧zaS (ev x) ≠ [L] then
          .chk ((L,true) :: fps) ((n+m) * b'≤140737488355328∧n+m≤9223372036854775807) (.cl (.vec L)) [(L,.vec e s' b' (n+m) (appG n get new))] [L]
         else .no
        | _=>.no
       | .one (.c (.p .nils))=>match ob dst with
        | none=>if sz=ie.size∧0 < sz then
          .chk ((dst,true) :: fps) (m * ie.bytes≤140737488355328∧m≤9223372036854775807) (.cl (.vec dst)) [(dst,.vec e sz ie.bytes m new)] []
         else .no
        | some _=>.no
       | _=>.no)
      | none=>.no)=A:=hA
    clear hA
    have hcut:∀ (ev':Operand→DV) (ob':Nat→Option AO),act P Γ o ev' ob'=(match zhm (ev' x) ob' with
     | some T=>zds o e ie (ev' s) T ob'
     | none=>match ziw (ev' x) ob' with
      | some (m,sz,new,fps)=>(match ev' s with
       | .one (.c (.vec L))=>match ob' L with
        | some (.vec e' s' b' n get)=>if e'=e∧s'=ie.size∧b'=ie.bytes∧sz=s'∧0 < s'∧zaS (ev' x) ≠ [L] then
          .chk ((L,true) :: fps) ((n+m) * b'≤140737488355328∧n+m≤9223372036854775807) (.cl (.vec L)) [(L,.vec e s' b' (n+m) (appG n get new))] [L]
         else .no
        | _=>.no
       | .one (.c (.p .nils))=>match ob' dst with
        | none=>if sz=ie.size∧0 < sz then
          .chk ((dst,true) :: fps) (m * ie.bytes≤140737488355328∧m≤9223372036854775807) (.cl (.vec dst)) [(dst,.vec e sz ie.bytes m new)] []
         else .no
        | some _=>.no
       | _=>.no)
      | none=>.no):=by
     intro ev' ob'
     simp only [act,hop,hargs,ht,hu,htt,hd,hie,hz]
     rfl
    split at hA2
    ·rename_i T hT
     exact zqe hsm hx hT (fun ev' ob' he hT'=>by rw [hcut,hT']) hA2 hs
    rename_i hVn
    have hA:=hA2
    split at hA
    ·rename_i m sz new fps hsrc
     have hvn':∀ (ev':Operand→DV) (ob':Nat→Option AO),(∀ x∈o.op.operands.toList,ev' x=ev x)→(∀ y∈fps,ob' y.1=ob y.1)→zhm (ev' x) ob'=none:=by
      intro ev' ob' he hob
      rw [he x hx];exact zuo hsrc hob
     -- the source looks only at what fps names
     have src':∀ (ev':Operand→DV) (ob':Nat→Option AO),(∀ x∈o.op.operands.toList,ev' x=ev x)→(∀ y∈fps,ob' y.1=ob y.1) →
       ziw (ev' x) ob'=some (m,sz,new,fps):=by
      intro ev' ob' he hob
      rw [he x hx]
      exact zoO hsrc hob
     split at hA
     ·rename_i L hes
      split at hA
      ·rename_i e' s' b' n' get' hL
       split at hA
       ·rename_i hif
        subst hA
        refine ⟨fun z hz=>?_,.inr ⟨L,rfl,by simp [OpAct.fp]⟩,fun z hz M hM=>?_,fun d' hd' M hM=>?_,fun ev' ob' he hob=>?_⟩
        ·simp only [OpAct.u,List.mem_singleton] at hz;subst hz;simp [OpAct.fp]
        ·simp only [OpAct.u,List.mem_singleton] at hz;subst hz;simp [aoV] at hM
        ·simp only [OpAct.gives] at hd'; subst hd'
         simp only [dvV,d1V,clV,List.mem_singleton] at hM;subst hM
         exact .inr (by simp [OpAct.fp])
        ·have e1 := src' ev' ob' he (fun y hy => hob y (List.mem_cons_of_mem _ hy))
         have e2:=hob (L,true) (by simp [OpAct.fp]);simp only at e2
         rw [hcut,hvn' ev' ob' he (fun y hy=>hob y (List.mem_cons_of_mem _ hy))]
         simp only []
         rw [e1]
         simp only [he s hsm,he x hx,hes,e2,hL]
         rw [if_pos hif]
       ·subst hA;exact hs.elim
      ·subst hA;exact hs.elim
     ·rename_i hes
      split at hA
      ·rename_i hn
       split at hA
       ·rename_i hif
        subst hA
        refine ⟨fun z hz=>?_,.inl rfl,fun z hz M hM=>?_,fun d' hd' M hM=>?_,fun ev' ob' he hob=>?_⟩
        ·simp only [OpAct.u,List.mem_singleton] at hz;subst hz;simp [OpAct.fp]
        ·simp only [OpAct.u,List.mem_singleton] at hz;subst hz;simp [aoV] at hM
        ·simp only [OpAct.gives] at hd'; subst hd'
         simp only [dvV,d1V,clV,List.mem_singleton] at hM;subst hM
         exact .inr (by simp [OpAct.fp])
        ·have e1 := src' ev' ob' he (fun y hy => hob y (List.mem_cons_of_mem _ hy))
         have e2:=hob (dst,true) (by simp [OpAct.fp]);simp only at e2
         rw [hcut,hvn' ev' ob' he (fun y hy=>hob y (List.mem_cons_of_mem _ hy))]
         simp only []
         rw [e1]
         simp only [he s hsm,hes,e2,hn]
         rw [if_pos hif]
       ·subst hA;exact hs.elim
      ·subst hA;exact hs.elim
     ·subst hA;exact hs.elim
    ·subst hA;exact hs.elim
   ·subst hA;exact hs.elim
  ·subst hA;exact hs.elim
 ·subst hA;exact hs.elim

theorem zIq (x:PA):d1V (paD x)=[]:=by
 cases x with
 | one p=>rfl
 | agg cs=>exact zsO cs
theorem zoP (rs:List PA):dvV (resD rs)=[]:=by
 have tup:∀ l:List PA,dvV (.tup (l.map paD))=[]:=by
  intro l
  induction l with
  | nil=>rfl
  | cons x l ih=>simp only [List.map_cons,dvV,List.flatMap_cons,zIq,List.nil_append] at ih ⊢;exact ih
 match rs with
 | []=>exact tup _
 | [x]=>exact zIq x
 | x :: y :: l=>exact tup _

theorem zIr {k : OwnK} {args : Array Operand} {c : Callee} {ts : Array TypeId} (hop : o.op = .call { callee := c, args, argTypes := ts })
    (hc:∀ ev' ob',(∀ x∈o.op.operands.toList,ev' x=ev x)→act P Γ o ev' ob'=zfY P Γ o k (args.toList.map ev') ob') (hA:zfY P Γ o k (args.toList.map ev) ob=A) (hs:A.safe):ActOk P Γ o ev ob A:=by
  have hm:=zgQ hop
  have hmap:∀ ev':Operand→DV,(∀ x∈o.op.operands.toList,ev' x=ev x)→args.toList.map ev'=args.toList.map ev:=fun ev' he=>List.map_congr_left fun x hx=>he x (hm x hx)
  unfold zfY at hA
  split at hA
  · subst hA;exact hs.elim
  · split at hA
    · rename_i L hf caps hargs
      split at hA
      · rename_i hL hag
        split at hA
        · rename_i hif
          subst hA
          refine ⟨fun z hz=>?_,.inl rfl,fun z hz M hM=>?_,fun d' hd' M hM=>?_,fun ev' ob' he hob=>?_⟩
          · simp only [OpAct.u,List.mem_singleton] at hz;subst hz;simp [OpAct.fp]
          · simp only [OpAct.u,List.mem_singleton] at hz;subst hz;simp [aoV] at hM
          · simp only [OpAct.gives] at hd';subst hd';simp [dvV] at hM
          · have e2 := hob (L, true) (by simp [OpAct.fp]); simp only at e2
            rw [hc ev' ob' he,hmap ev' he]
            simp only [zfY,hargs,e2,hL,hag]
            rw [if_pos hif]
        · subst hA;exact hs.elim
      · subst hA;exact hs.elim
    · subst hA;exact hs.elim
  · split at hA
    · rename_i dst hargs hd
      split at hA
      · rename_i hn hi hz
        split at hA
        · rename_i hif
          subst hA
          refine ⟨fun z hz=>?_,.inl rfl,fun z hz M hM=>?_,fun d' hd' M hM=>?_,fun ev' ob' he hob=>?_⟩
          · simp only [OpAct.u,List.mem_singleton] at hz;subst hz;simp [OpAct.fp]
          · simp only [OpAct.u,List.mem_singleton] at hz;subst hz;simp [aoV] at hM
          · simp only [OpAct.gives] at hd'; subst hd'
            simp only [dvV,d1V,clV,List.mem_singleton] at hM;subst hM
            exact .inr (by simp [OpAct.fp])
          · have e2 := hob (dst, true) (by simp [OpAct.fp]); simp only at e2
            rw [hc ev' ob' he,hmap ev' he]
            simp only [zfY,hargs,hd,e2,hn,hi,hz]
            rw [if_pos hif]
        · subst hA;exact hs.elim
      · subst hA;exact hs.elim
    · subst hA;exact hs.elim
  · split at hA
    · rename_i L hargs
      split at hA
      · rename_i hL
        split at hA
        · rename_i hif
          split at hA
          · subst hA
            refine ⟨fun z hz=>?_,.inr ⟨L,rfl,by simp [OpAct.fp]⟩,fun z hz M hM=>?_,fun d' hd' M hM=>?_,fun ev' ob' he hob=>?_⟩
            · simp only [OpAct.u,List.mem_singleton] at hz;subst hz;simp [OpAct.fp]
            · simp only [OpAct.u,List.mem_singleton] at hz;subst hz;simp [aoV] at hM
            · simp only [OpAct.gives] at hd'; subst hd'
              simp only [dvV,d1V,clV,List.mem_singleton] at hM;subst hM
              exact .inr (by simp [OpAct.fp])
            · have e2 := hob (L, true) (by simp [OpAct.fp]); simp only at e2
              rw [hc ev' ob' he,hmap ev' he]
              simp only [zfY,hargs,e2,hL]
              rw [if_pos hif]
          · subst hA
            refine ⟨fun z hz=>?_,.inl rfl,fun z hz M hM=>?_,fun d' hd' M hM=>?_,fun ev' ob' he hob=>?_⟩
            · simp only [OpAct.u,List.mem_singleton] at hz;subst hz;simp [OpAct.fp]
            · simp only [OpAct.u,List.mem_singleton] at hz;subst hz;simp [aoV] at hM
            · simp only [OpAct.gives] at hd';subst hd';simp [dvV] at hM
            · have e2 := hob (L, true) (by simp [OpAct.fp]); simp only at e2
              rw [hc ev' ob' he,hmap ev' he]
              simp only [zfY,hargs,e2,hL]
              rw [if_pos hif]
        · subst hA;exact hs.elim
      · subst hA;exact hs.elim
    · subst hA;exact hs.elim

theorem zDZ {f:Operand} {args:Array Operand} {ts:Array TypeId} (hop:o.op=.call { callee:=.value f,args,argTypes:=ts }) (hA:act P Γ o ev ob=A) (hs:A.safe):ActOk P Γ o ev ob A:=by
 have hm:=zgQ hop
 have hf:f∈o.op.operands.toList:=by simp [hop,Op.operands,Call.operands]
 simp only [act,hop] at hA
 split at hA
 ·rename_i gf first caps hef
  split at hA
  ·rename_i hk
   split at hA
   ·exact zIr (k:=Γ.own gf) hop (fun ev' ob' he=>by simp only [act,hop,he f hf,hef,hk]) hA hs
   ·subst hA;exact hs.elim
  rename_i hko
  split at hA
  ·rename_i as u has
   have key:∀ (ev':Operand→DV) (ob':Nat→Option AO),(∀ x∈o.op.operands.toList,ev' x=ev x)→(∀ L∈args.toList.flatMap fun x=>zbi ob (ev x),ob' L=ob L) →
     act P Γ o ev' ob'=(Γ gf (first.map .one ++ as ++ caps.map .one)).act (args.toList.flatMap fun x=>zbi ob (ev x)) u:=by
    intro ev' ob' he hl
    have e0:args.toList.map ev'=args.toList.map ev:=List.map_congr_left fun x hx=>he x (hm x hx)
    have e1:zfV ob' (args.toList.map ev)=zfV ob (args.toList.map ev):=zjt fun L hL=>hl L (by rw [List.flatMap_map] at hL;exact hL)
    have e2:(args.toList.flatMap fun x=>zbi ob' (ev' x))=args.toList.flatMap fun x=>zbi ob (ev x):=by
     refine fmc fun x hx=>?_
     rw [he x (hm x hx)]
     exact zgN fun L hL=>hl L (List.mem_flatMap.2 ⟨x,hx,hL⟩)
    simp only [act,hop,he f hf,hef,hko,e0,e1,has,e2]
   have hwrT:∀ L,L∈(args.toList.flatMap fun x=>zbi ob (ev x))→(L,true)∈wr (args.toList.flatMap fun x=>zbi ob (ev x)):=fun L hL=>List.mem_map.2 ⟨L,hL,rfl⟩
   have hrdF:∀ L,L∈(args.toList.flatMap fun x=>zbi ob (ev x))→(L,false)∈rd (args.toList.flatMap fun x=>zbi ob (ev x)):=fun L hL=>List.mem_map.2 ⟨L,hL,rfl⟩
   have hk:∀ x∈u,(x.1,true)∈wr (args.toList.flatMap fun x=>zbi ob (ev x))∧aoV x.2=[]:=fun x hx=>by
    obtain ⟨h1,h2⟩:=zhs has x hx
    refine ⟨hwrT _ ?_,h2⟩
    rw [List.flatMap_map] at h1;exact h1
   generalize hC:Γ gf (first.map .one ++ as ++ caps.map .one)=C at hA key
   generalize (args.toList.flatMap fun x=>zbi ob (ev x))=labs at hA key hk hwrT hrdF
   cases C with
   | no=>subst hA;exact hs.elim
   | tot r =>
    cases hsc:zgC r with
    | true =>
     rw [zpN hsc] at hA;simp only [zpN hsc] at key;subst hA
     exact ⟨fun x hx=>by simp [OpAct.u] at hx,.inl rfl,fun x hx=>by simp [OpAct.u] at hx,fun d hd L hL=>(by cases hd;rw [zoP] at hL;simp at hL),fun ev' ob' he hob=>key ev' ob' he fun L hL=>hob (L,false) (hrdF L hL)⟩
    | false =>
     rw [zpO hsc] at hA;simp only [zpO hsc] at key;subst hA
     exact ⟨fun x hx=>(hk x hx).1,.inl rfl,fun x hx L hL=>(by rw [(hk x hx).2] at hL;simp at hL),fun d hd L hL=>(by simp only [OpAct.gives] at hd;subst hd;rw [zoP] at hL;simp at hL),fun ev' ob' he hob=>key ev' ob' he fun L hL=>hob (L,true) (hwrT L hL)⟩
   | det s r =>
    cases hsc:zgC r with
    | true =>
     rw [zmw hsc] at hA;simp only [zmw hsc] at key;subst hA
     exact ⟨fun x hx=>by simp [OpAct.u] at hx,.inl rfl,fun x hx=>by simp [OpAct.u] at hx,fun d hd L hL=>(by cases hd;rw [zoP] at hL;simp at hL),fun ev' ob' he hob=>key ev' ob' he fun L hL=>hob (L,false) (hrdF L hL)⟩
    | false =>
     rw [zmx hsc] at hA;simp only [zmx hsc] at key;subst hA
     exact ⟨fun x hx=>(hk x hx).1,.inl rfl,fun x hx L hL=>(by rw [(hk x hx).2] at hL;simp at hL),fun d hd L hL=>(by simp only [OpAct.gives] at hd;subst hd;rw [zoP] at hL;simp at hL),fun ev' ob' he hob=>key ev' ob' he fun L hL=>hob (L,true) (hwrT L hL)⟩
   | rel ρ s post r =>
    subst hA
    exact ⟨fun x hx=>(hk x hx).1,.inl rfl,fun x hx L hL=>(by rw [(hk x hx).2] at hL;simp at hL),fun d hd L hL=>(by simp only [COut.act,OpAct.gives] at hd;obtain ⟨x,rfl⟩:=hd;rw [zoP] at hL;simp at hL),fun ev' ob' he hob=>key ev' ob' he fun L hL=>hob (L,true) (hwrT L hL)⟩
  ·subst hA;exact hs.elim
 ·subst hA;exact hs.elim

theorem zqf {f:FuncId} {first caps:Array Operand} (hop:o.op=.makeFunc (.func f) first caps) (hA:act P Γ o ev ob=A) (hs:A.safe):ActOk P Γ o ev ob A:=by
 have hm:∀ x∈first.toList ++ caps.toList,x∈o.op.operands.toList:=fun x hx=>by simp only [hop,Op.operands];simpa using hx
 simp only [act,hop] at hA
 split at hA
 ·rename_i l u l' u' h1 h2
  subst hA
  have lab1:∀ (x:Operand) (c:Cl),ev x=.one (.c c)→∀ L,L∈zav c→L∈zbi ob (ev x):=fun x c h L hL=>by
   rw [h];exact List.mem_flatMap.2 ⟨L,hL,List.mem_cons_self⟩
  have lab2:∀ (x:Operand) (c:Cl),ev x=.one (.c c)→∀ L,L∈zav c→∀ o',ob L=some o'→∀ M∈zbM o',M∈zbi ob (ev x):=fun x c h L hL o' ho' M hM=>by
   rw [h];refine List.mem_flatMap.2 ⟨L,hL,List.mem_cons_of_mem _ ?_⟩;rw [ho'];exact hM
  have clm:∀ (xs:List Operand),∀ L∈(xs.flatMap fun x=>match ev x with | .one (.c c)=>[c] | _=>[.junk]).flatMap zav,∃ x∈xs,∃ c,ev x=.one (.c c)∧L∈zav c:=by
   intro xs L hL
   obtain ⟨c,hc,hL⟩:=List.mem_flatMap.1 hL
   obtain ⟨x,hx,hc⟩:=List.mem_flatMap.1 hc
   refine ⟨x,hx,?_⟩
   split at hc
   ·rename_i c' h;simp at hc;subst hc;exact ⟨_,h,hL⟩
   ·simp at hc;subst hc;simp [zav] at hL
  have keys:∀ (xs:List Operand) (l:List PV) (u:Upd),zlH ob (xs.flatMap fun x=>match ev x with | .one (.c c)=>[c] | _=>[.junk])=some (l,u) →
    ∀ x∈u,x.1∈xs.flatMap (fun x=>zbi ob (ev x))∧aoV x.2=[]:=by
   intro xs l u h y hy
   obtain ⟨h3,h4⟩:=zju h y hy
   refine ⟨?_,h4⟩
   rcases h3 with h3 | ⟨L,hL,o',h5,h6⟩
   ·obtain ⟨x, hx, c, hc, hL⟩ := clm xs _ h3
    exact List.mem_flatMap.2 ⟨x,hx,lab1 x c hc _ hL⟩
   ·obtain ⟨x, hx, c, hc, hL⟩ := clm xs _ hL
    exact List.mem_flatMap.2 ⟨x,hx,lab2 x c hc _ hL _ h5 _ h6⟩
  have cong:∀ (xs:List Operand) (ev':Operand→DV) (ob':Nat→Option AO),(∀ x∈xs,ev' x=ev x)→(∀ L∈xs.flatMap (fun x=>zbi ob (ev x)),ob' L=ob L) →
    zlH ob' (xs.flatMap fun x=>match ev' x with | .one (.c c)=>[c] | _=>[.junk])=zlH ob (xs.flatMap fun x=>match ev x with | .one (.c c)=>[c] | _=>[.junk]):=by
   intro xs ev' ob' he hob
   have e0:(xs.flatMap fun x=>match ev' x with | .one (.c c)=>[c] | _=>[.junk])=xs.flatMap fun x=>match ev x with | .one (.c c)=>[c] | _=>[.junk] :=
    fmc fun x hx=>by rw [he x hx]
   rw [e0]
   refine zhr fun L hL=>?_
   obtain ⟨x,hx,c,hc,hL⟩:=clm xs _ hL
   exact ⟨hob L (List.mem_flatMap.2 ⟨x,hx,lab1 x c hc _ hL⟩),fun o' ho' M hM=>hob M (List.mem_flatMap.2 ⟨x,hx,lab2 x c hc _ hL _ ho' _ hM⟩)⟩
  refine ⟨fun x hx=>?_,.inl rfl,fun x hx L hL=>?_,fun d' hd' L hL=>?_,fun ev' ob' he hob=>?_⟩
  ·simp only [OpAct.u] at hx
   refine zsR ?_
   rw [List.flatMap_append]
   rcases List.mem_append.1 hx with hx | hx
   ·exact List.mem_append.2 (.inl (keys _ _ _ h1 x hx).1)
   ·exact List.mem_append.2 (.inr (keys _ _ _ h2 x hx).1)
  ·simp only [OpAct.u] at hx
   rcases List.mem_append.1 hx with hx | hx
   ·rw [(keys _ _ _ h1 x hx).2] at hL;simp at hL
   ·rw [(keys _ _ _ h2 x hx).2] at hL;simp at hL
  ·simp only [OpAct.gives] at hd';subst hd';simp [dvV,d1V,clV] at hL
  ·have hl : ∀ L ∈ (first.toList ++ caps.toList).flatMap fun x => zbi ob (ev x), ob' L = ob L := fun L hL => hob (L, true) (zsR hL)
   have e1:=cong first.toList ev' ob' (fun x hx=>he x (hm x (List.mem_append.2 (.inl hx)))) (fun L hL=>hl L (by rw [List.flatMap_append];exact List.mem_append.2 (.inl hL)))
   have e2:=cong caps.toList ev' ob' (fun x hx=>he x (hm x (List.mem_append.2 (.inr hx)))) (fun L hL=>hl L (by rw [List.flatMap_append];exact List.mem_append.2 (.inr hL)))
   have e3:((first.toList ++ caps.toList).flatMap fun x=>zbi ob' (ev' x))=(first.toList ++ caps.toList).flatMap fun x=>zbi ob (ev x):=by
    refine fmc fun x hx=>?_
    rw [he x (hm x hx)]
    exact zgN fun L hL=>hl L (List.mem_flatMap.2 ⟨x,hx,hL⟩)
   simp only [act,hop,e3]
   split
   ·rename_i l2 u2 l3 u3 h3 h4
    have a1:some (l2,u2)=some (l,u):=h3.symm.trans (e1.trans h1)
    have a2:some (l3,u3)=some (l',u'):=h4.symm.trans (e2.trans h2)
    simp only [Option.some.injEq,Prod.mk.injEq] at a1 a2
    obtain ⟨rfl,rfl⟩:=a1
    obtain ⟨rfl,rfl⟩:=a2
    rfl
   ·rename_i hno
    exact (hno l u l' u' (e1.trans h1) (e2.trans h2)).elim
 ·subst hA;exact hs.elim

theorem zoQ {t:TypeId} {x y:Operand} (hop:o.op=.makeSlice t x y) (hA:act P Γ o ev ob=A) (hs:A.safe):ActOk P Γ o ev ob A:=by
 have hx:x∈o.op.operands.toList:=by simp [hop,Op.operands]
 have hy:y∈o.op.operands.toList:=by simp [hop,Op.operands]
 have hc0:∀ ev' ob',(∀ x∈o.op.operands.toList,ev' x=ev x)→act P Γ o ev' ob'=zfe P Γ t (ev x) (ev y) o.dst ob':=fun ev' ob' he=>by simp only [act,hop,he x hx,he y hy]
 have hA0:=hA
 rw [hc0 ev ob (fun _ _=>rfl)] at hA
 unfold zfe at hA
 split at hA
 ·rename_i e k1 j k2 j2 dst hu hex hey hdst
  split at hA
  ·rename_i ie z hi hz hfresh
   have fin:∀ (s:Prop) (ao:AO),aoV ao=[]→OpAct.chk [(dst,true)] s (.cl (.vec dst)) [(dst,ao)] []=A→(∀ ob':Nat→Option AO,ob' dst=none→zfe P Γ t (ev x) (ev y) o.dst ob'=A)→ActOk P Γ o ev ob A:=by
    intro s ao hao e hcc
    subst e
    refine ⟨fun z hz=>?_,.inl rfl,fun z hz M hM=>?_,fun d' hd' M hM=>?_,fun ev' ob' he hob=>?_⟩
    ·simp only [OpAct.u,List.mem_singleton] at hz;subst hz;simp [OpAct.fp]
    ·simp only [OpAct.u,List.mem_singleton] at hz;subst hz;rw [hao] at hM;simp at hM
    ·simp only [OpAct.gives] at hd'; subst hd'
     simp only [dvV,d1V,clV,List.mem_singleton] at hM;subst hM
     exact .inr (by simp [OpAct.fp])
    ·have e2 := hob (dst, true) (by simp [OpAct.fp]); simp only at e2
     rw [hc0 ev' ob' he]
     exact hcc ob' (e2.trans hfresh)
   have hcc:∀ ob':Nat→Option AO,ob' dst=none→zfe P Γ t (ev x) (ev y) o.dst ob'=A:=fun ob' h=>by
    have:act P Γ o ev ob=A:=hA0
    rw [hc0 ev ob (fun _ _=>rfl)] at this
    rw [← this]
    unfold zfe
    simp only [hu,hex,hey,hdst,hi,hz,hfresh,h]
   split at hA
   ·split at hA
    ·split at hA
     ·exact fin _ _ rfl hA hcc
     ·subst hA;exact hs.elim
    ·subst hA;exact hs.elim
   ·split at hA
    ·split at hA
     ·exact fin _ _ rfl hA hcc
     ·subst hA;exact hs.elim
    ·subst hA;exact hs.elim
  ·subst hA;exact hs.elim
 ·subst hA;exact hs.elim

theorem zAU {t:TypeId} {x:Operand} (hop:o.op=.range t x) (hA:act P Γ o ev ob=A) (hs:A.safe):ActOk P Γ o ev ob A:=by
 have hx:x∈o.op.operands.toList:=by simp [hop,Op.operands]
 simp only [act,hop] at hA
 split at hA
 ·rename_i q q' m F hq hex
  split at hA
  ·rename_i e
   exact zmV (ao:=.mit q m F []) (d:=fun t=>.cl (.ptr t 0)) (fun L hL=>by simp [aoV] at hL) (fun t L hL=>by simp [dvV,d1V,clV] at hL) (fun ev' ob' he=>by simp only [act,hop,he x hx,hex,hq,if_pos e]) hA hs
  ·subst hA;exact hs.elim
 ·subst hA;exact hs.elim

theorem zAV {x:Operand} (hop:o.op=.entry x) (hA:act P Γ o ev ob=A) (hs:A.safe):ActOk P Γ o ev ob A:=by
 have hx:x∈o.op.operands.toList:=by simp [hop,Op.operands]
 simp only [act,hop] at hA
 split at hA
 ·rename_i L hex
  split at hA
  ·rename_i q m F c seen hL
   split at hA
   ·rename_i kd vd hkd hvd
    subst hA
    refine ActOk.pure (fun M hM=>?_) fun ev' ob' he hob=>?_
    ·simp only [dvV, List.flatMap_cons, List.flatMap_nil, List.append_nil, List.mem_append] at hM
     rcases hM with hM | hM
     ·have:=zqd M hM;rw [zsI hkd] at this;simp at this
     ·have:=zqd M hM;rw [ziN hvd] at this;simp at this
    ·have e := hob (L, false) (by simp); simp only at e
     simp only [act,hop,he x hx,hex,e,hL,hkd,hvd]
   ·subst hA;exact hs.elim
  ·subst hA;exact hs.elim
 ·subst hA;exact hs.elim

theorem zLt (hA:act P Γ o ev ob=A) (hs:A.safe):ActOk P Γ o ev ob A:=by
 have hA':=hA
 cases hop:o.op with
 | move x=>simp only [act,hop] at hA;subst hA;exact zvv (.inl hop)
 | assign x=>simp only [act,hop] at hA;subst hA;exact zvv (.inr hop)
 | pick c x y =>
  simp only [act,hop] at hA
  split at hA
  ·rename_i t hc;subst hA;exact zDW hop hc
  ·subst hA;exact hs.elim
 | alloc e =>
  simp only [act,hop] at hA
  split at hA
  ·rename_i z hz
   refine zmV (ao:=.box e z) (d:=fun t=>.cl (.ptr t 0)) (fun L hL=>?_) (fun t L hL=>by simp [dvV,d1V,clV] at hL) (fun ev' ob' _=>by simp only [act,hop,hz]) hA hs
   simp only [aoV] at hL;rw [zvw hz] at hL;simp at hL
  ·subst hA;exact hs.elim
 | box e x =>
  have hx:x∈o.op.operands.toList:=by simp [hop,Op.operands]
  simp only [act,hop] at hA
  split at hA
  ·rename_i d m hex hm
   split at hA
   ·rename_i hcond
    refine zmV (ao:=.box e d.cells) (d:=fun t=>.cl (.ptr t 0)) (fun L hL=>?_) (fun t L hL=>by simp [dvV,d1V,clV] at hL) (fun ev' ob' he=>by simp only [act,hop,he x hx,hex,hm,hcond]) hA hs
    simp only [aoV] at hL
    rw [zqb] at hL
    exact .inl ⟨x,hx,by rw [hex];exact hL⟩
   ·subst hA;exact hs.elim
  ·subst hA;exact hs.elim
 | build t parts =>
  simp only [act,hop] at hA
  split at hA
  ·rename_i z hf hz
   split at hA
   ·rename_i l hl;subst hA;exact zAP hop hf hz hl
   ·subst hA;exact hs.elim
  ·subst hA;exact hs.elim
 | buildSlice t m parts=>exact zmW hop hA' hs
 | load t x=>exact zDX hop hA' hs
 | store t x y=>exact zAQ hop hA' hs
 | nilCheck x=>exact zqc hop hA' hs
 | binOp op t x y t'=>exact zAS hop hA' hs
 | unOp op t x=>exact zDY hop hA' hs
 | fieldAddr t x f=>exact zoM hop hA' hs
 | indexAddr t x y=>exact zoN hop hA' hs
 | extract x k=>exact zum hop hA' hs
 | index t x y=>exact zAT hop hA' hs
 | slice t x lo hi mx =>
  cases mx with
  | none=>exact ok_slice hop hA' hs
  | some m=>simp only [act,hop] at hA;subst hA;exact hs.elim
 | lookup t x y k=>exact zvx hop hA' hs
 | mapUpdate t x y z=>exact zoL hop hA' hs
 | makeMap t x =>
  cases x with
  | none=>exact zul hop hA' hs
  | some x=>simp only [act,hop] at hA;subst hA;exact hs.elim
 | makeSlice t x y=>exact zoQ hop hA' hs
 | range t x=>exact zAU hop hA' hs
 | entry x=>exact zAV hop hA' hs
 | makeFunc fn first caps =>
  cases fn with
  | func f=>exact zqf hop hA' hs
  | _=>simp only [act,hop] at hA;subst hA;exact hs.elim
 | call c =>
  obtain ⟨callee,args,ts⟩:=c
  cases callee with
  | value f=>exact zDZ hop hA' hs
  | invoke x m=>simp only [act,hop] at hA;subst hA;exact hs.elim
  | builtin b =>
   cases b with
   | len=>exact zIp hop hA' hs
   | max=>exact zIo (.inl rfl) hop hA' hs
   | min=>exact zIo (.inr rfl) hop hA' hs
   | append=>exact zvy hop hA' hs
   | _=>simp only [act,hop] at hA;subst hA;exact hs.elim
 | _=>simp only [act,hop] at hA;subst hA;exact hs.elim
end
end Go.Pm
namespace Go.Pm

structure Eqv (σ τ : St) : Prop where
  env:∀ t,lk σ.env t=lk τ.env t
  objs:∀ L,lk σ.objs L=lk τ.objs L
  log:∀ x,x∈σ.log↔x∈τ.log

theorem Eqv.refl (σ:St):Eqv σ σ:=⟨fun _=>rfl,fun _=>rfl,fun _=>Iff.rfl⟩
theorem Eqv.symm {σ τ:St} (h:Eqv σ τ):Eqv τ σ:=⟨fun t=>(h.env t).symm,fun t=>(h.objs t).symm,fun x=>(h.log x).symm⟩

theorem zjw {e e':List (Nat×DV)} {x:Operand} (h:∀ t∈zH4 x,lk e t=lk e' t):evO e x=evO e' x:=by
 cases x with
 | tmp t=>simp only [evO];rw [h t (by simp [zH4])]
 | _=>rfl

theorem zjx (x:Cl):zbT [] x=x:=by cases x <;> rfl
theorem zmd (x:D1):zci [] x=x:=by
 cases x with
 | c x=>simp [zci,zjx]
 | agg cs=>simp only [zci];rw [show zbT []=id from funext zjx,List.map_id]
theorem zvz (x:DV):zcX [] x=x:=by
 cases x with
 | one x=>simp [zcX,zmd]
 | tup cs=>simp only [zcX];rw [show zci []=id from funext zmd,List.map_id]
theorem zvA (x:AO):zcN [] x=x:=by
 cases x with
 | box ty cs=>simp only [zcN];rw [show zbT []=id from funext zjx,List.map_id]
 | _=>rfl

theorem zmX {l:List Nat} {x:Cl} (h:∀ L∈clV x,L ∉ l):zbT l x=x:=by
 cases x with
 | vec L =>
  have h1:l.contains L=false:=by simpa using h L (by simp [clV])
  simp only [zbT,h1]
 | vptr L s i k =>
  have h1:l.contains L=false:=by simpa using h L (by simp [clV])
  simp only [zbT,h1]
 | ivec L i =>
  have h1:l.contains L=false:=by simpa using h L (by simp [clV])
  simp only [zbT,h1]
 | iptr L s i j k =>
  have h1:l.contains L=false:=by simpa using h L (by simp [clV])
  simp only [zbT,h1]
 | imap L i =>
  have h1:l.contains L=false:=by simpa using h L (by simp [clV])
  simp only [zbT,h1]
 | _=>rfl
theorem zgR {α : Type} {f : α → α} : ∀ {l : List α}, (∀ x ∈ l, f x = x) → l.map f = l
  | [],_=>rfl
  | x :: l,h=>by rw [List.map_cons,h x List.mem_cons_self,zgR fun y hy=>h y (List.mem_cons_of_mem _ hy)]
theorem zoR {l:List Nat} {x:D1} (h:∀ L∈d1V x,L ∉ l):zci l x=x:=by
 cases x with
 | c x=>simp only [zci];rw [zmX h]
 | agg cs=>simp only [zci];rw [zgR fun x hx=>zmX fun L hL=>h L (List.mem_flatMap.2 ⟨x,hx,hL⟩)]
theorem zmY {l:List Nat} {x:DV} (h:∀ L∈dvV x,L ∉ l):zcX l x=x:=by
 cases x with
 | one x=>simp only [zcX];rw [zoR h]
 | tup cs=>simp only [zcX];rw [zgR fun x hx=>zoR fun L hL=>h L (List.mem_flatMap.2 ⟨x,hx,hL⟩)]
theorem zmZ {l:List Nat} {x:AO} (h:∀ L∈aoV x,L ∉ l):zcN l x=x:=by
 cases x with
 | box ty cs=>simp only [zcN];rw [zgR fun x hx=>zmX fun L hL=>h L (List.mem_flatMap.2 ⟨x,hx,hL⟩)]
 | _=>rfl

theorem zqg {l:List Nat} {x:Cl} : clV (zbT l x)=clV x:=by
 cases x with
 | vec L=>simp only [zbT];split <;> rfl
 | vptr L s i k=>simp only [zbT];split <;> rfl
 | ivec L i=>simp only [zbT];split <;> rfl
 | iptr L s i j k=>simp only [zbT];split <;> rfl
 | imap L i=>simp only [zbT];split <;> rfl
 | _=>rfl
theorem zsS {l:List Nat} {x:D1} : d1V (zci l x)=d1V x:=by
 cases x with
 | c x=>exact zqg
 | agg cs=>simp only [zci,d1V,List.flatMap_map];exact fmc fun x _=>zqg
theorem zD0 {l:List Nat} {x:DV} : dvV (zcX l x)=dvV x:=by
 cases x with
 | one x=>exact zsS
 | tup cs=>simp only [zcX,dvV,List.flatMap_map];exact fmc fun x _=>zsS
theorem zqh {l:List Nat} {x:AO} : aoV (zcN l x)=aoV x:=by
 cases x with
 | box ty cs=>simp only [zcN,aoV,List.flatMap_map];exact fmc fun x _=>zqg
 | _=>rfl

theorem zht {l m:List Nat} (x:Cl):zbT l (zbT m x)=zbT m (zbT l x):=by
 cases x with
 | vec L=>simp only [zbT];cases hl:l.contains L <;> cases hm:m.contains L <;> simp only [hl,hm]
 | vptr L s i k=>simp only [zbT];cases hl:l.contains L <;> cases hm:m.contains L <;> simp only [hl,hm]
 | ivec L i=>simp only [zbT];cases hl:l.contains L <;> cases hm:m.contains L <;> simp only [hl,hm]
 | imap L i=>simp only [zbT];cases hl:l.contains L <;> cases hm:m.contains L <;> simp only [hl,hm]
 | iptr L s i j k=>simp only [zbT];cases hl:l.contains L <;> cases hm:m.contains L <;> simp only [hl,hm]
 | _=>rfl
theorem zjy {l m:List Nat} (x:D1):zci l (zci m x)=zci m (zci l x):=by
 cases x with
 | c x=>simp only [zci];rw [zht]
 | agg cs=>simp only [zci,List.map_map];rw [show zbT l ∘ zbT m=zbT m ∘ zbT l from funext zht]
theorem zup {l m:List Nat} (x:DV):zcX l (zcX m x)=zcX m (zcX l x):=by
 cases x with
 | one x=>simp only [zcX];rw [zjy]
 | tup cs=>simp only [zcX,List.map_map];rw [show zci l ∘ zci m=zci m ∘ zci l from funext zjy]
theorem zuq {l m:List Nat} (x:AO):zcN l (zcN m x)=zcN m (zcN l x):=by
 cases x with
 | box ty cs=>simp only [zcN,List.map_map];rw [show zbT l ∘ zbT m=zbT m ∘ zbT l from funext zht]
 | _=>rfl

theorem zAW {α : Type} {f : α → α} : ∀ {l : List (Nat × α)} {t : Nat}, lk (kills f l) t = (lk l t).map f
  | [],_=>rfl
  | (k,a) :: r,t=>by
    simp only [kills]
    rw [zal,zal]
    split
    · rfl
    · exact zAW

theorem zD1 {σ : St} {i : Nat} {dst : Option Nat} {fp : List (Nat × Bool)} {d : DV} {u : List (Nat × AO)} {kl : List Nat} (t : Nat) :
  lk (σ.upd i dst fp d u kl).env t=if dst=some t then some d else (lk σ.env t).map (zcX kl):=by
 cases kl with
 | nil =>
  have e:(lk σ.env t).map (zcX [])=lk σ.env t:=by cases lk σ.env t <;> simp [zvz]
  rw [e]
  cases dst with
  | none=>rfl
  | some s=>simp only [St.upd,zal,Option.some.injEq]
 | cons K r =>
  cases dst with
  | none=>simp only [St.upd,zAW];rw [if_neg (by simp)]
  | some s=>simp only [St.upd,zal,zAW,Option.some.injEq]
theorem zAX {σ : St} {i : Nat} {dst : Option Nat} {fp : List (Nat × Bool)} {d : DV} {u : List (Nat × AO)} {kl : List Nat} (L : Nat) :
  lk (σ.upd i dst fp d u kl).objs L=match lk u L with | some o=>some o | none=>(lk σ.objs L).map (zcN kl):=by
 cases kl with
 | nil =>
  have e:(lk σ.objs L).map (zcN [])=lk σ.objs L:=by cases lk σ.objs L <;> simp [zvA]
  rw [e]
  change lk (u ++ σ.objs) L=_
  rw [zcy]
  cases lk u L <;> rfl
 | cons K r =>
  simp only [St.upd,zcy,zAW]
  cases lk u L <;> rfl
theorem zD2 {σ:St} {i:Nat} {dst:Option Nat} {fp:List (Nat×Bool)} {d:DV} {u:List (Nat×AO)} {kl:List Nat} : (σ.upd i dst fp d u kl).log=σ.log:=by
 cases kl <;> rfl

def OpAct.may : OpAct → DV → Prop
  | .no,_=>False
  | .val _ d _ _,d'=>d'=d
  | .chk _ _ d _ _,d'=>d'=d
  | .rel _ _ ρ _ post d,d'=>∃ x:ρ,post x∧d'=d x
theorem OpAct.may_gives {A:OpAct} {d:DV} (h:A.may d):A.gives d:=by
 cases A with
 | rel fp u ρ s post r=>obtain ⟨x,_,hx⟩:=h;exact ⟨x,hx⟩
 | _=>exact h
theorem OpAct.may_of_safe {A:OpAct} (h:A.safe):∃ d,A.may d:=by
 cases A with
 | no=>exact h.elim
 | val fp d u kl=>exact ⟨d,rfl⟩
 | chk fp s d u kl=>exact ⟨d,rfl⟩
 | rel fp u ρ s post r=>obtain ⟨_,x,hx⟩:=h;exact ⟨r x,x,hx,rfl⟩

def nx (A:OpAct) (lg:List (Nat×Bool)→List Nat→List (Nat×Nat×Nat)) (i:Nat) (dst:Option Nat) (σ:St) (d:DV):St :=
 (σ.upd i dst A.fp d A.u A.kl).relog (lg A.fp A.kl)

theorem zde {A : OpAct} {lg : List (Nat × Bool) → List Nat → List (Nat × Nat × Nat)} {i : Nat} {dst : Option Nat} {K : St → Prop} {σ : St} :
  zff A lg i dst K σ↔A.safe∧∀ d,A.may d→K (nx A lg i dst σ d):=by
 cases A with
 | no=>simp [zff,OpAct.safe]
 | val fp d u kl=>simp [zff,OpAct.safe,OpAct.may,nx,OpAct.fp,OpAct.u,OpAct.kl]
 | chk fp s d u kl=>simp [zff,OpAct.safe,OpAct.may,nx,OpAct.fp,OpAct.u,OpAct.kl]
 | rel fp u ρ s post d =>
  simp only [zff,OpAct.safe,OpAct.may,nx,OpAct.fp,OpAct.u,OpAct.kl]
  constructor
  ·rintro ⟨h1, h2, h3⟩
   exact ⟨⟨h1,h2⟩,fun d' ⟨x,hx,e⟩=>e ▸ h3 x hx⟩
  ·rintro ⟨⟨h1, h2⟩, h3⟩
   exact ⟨h1,h2,fun x hx=>h3 _ ⟨x,hx,rfl⟩⟩

section
variable (P:Program) (Γ:Ctrs) (nt:Nat) (ops:Array Oper)

def ze9 (env:List (Nat×DV)) (o:Oper):Option Bool :=
 match o.guard with
 | none=>some true
 | some (j,want) =>
  match (ops[j]?).bind (·.dst) with
  | none=>none
  | some g =>
   match lk env g with
   | some (.one (.c (.p (.bool b))))=>some (b == want)
   | some (.one (.c .undef))=>some false
   | _=>none

def zme (σ:St) (o:Oper):OpAct :=
 match zbF nt o.dst,ze9 ops σ.env o with
 | true,some true=>act P Γ o (evO σ.env) (lk σ.objs)
 | true,some false=>.val [] (.cl .undef) [] []
 | _,_=>.no

def lgG (σ:St) (i:Nat) (o:Oper) (fp:List (Nat×Bool)) (kl:List Nat):List (Nat×Nat×Nat) :=
 match ze9 ops σ.env o with
 | some true=>zi6 σ i o fp kl
 | _=>[]

def vcL : List Nat → (St → Prop) → St → Prop
  | [],K,σ=>K σ
  | i :: r,K,σ=>match ops[i]? with
    | none=>vcL r K σ
    | some o=>zff (zme P Γ nt ops σ o) (lgG ops σ i o) i o.dst (vcL r K) σ

def looks (σ:St) (o:Oper):List Nat :=
 match ze9 ops σ.env o with
 | some true=>zgG ops o
 | _=>gdT ops o

end

section
variable {P:Program} {Γ:Ctrs} {nt:Nat} {ops:Array Oper} {σ τ:St} {o:Oper} {i:Nat} {A:OpAct}

theorem zgS {L k:Nat} {r:List Nat} : k∈zAk σ (L :: r)↔∃ o,lk σ.objs k=some o∧L∈aoV o:=by
 simp only [zAk,List.mem_filter,List.mem_map]
 constructor
 ·rintro ⟨_, h⟩
  split at h
  ·rename_i o ho;exact ⟨o,ho,by simpa using h⟩
  ·cases h
 ·rintro ⟨o, ho, hL⟩
  refine ⟨⟨(k,o),zcI ho,rfl⟩,?_⟩
  rw [ho];simpa using hL

theorem zoS:∀ t∈looks ops σ o,t∈zgG ops o:=by
 unfold looks
 split
 ·exact fun _ h=>h
 ·exact fun t h=>List.mem_append.2 (.inr h)
theorem zoT:∀ t∈gdT ops o,t∈looks ops σ o:=by
 unfold looks
 split
 ·exact fun t h=>List.mem_append.2 (.inr h)
 ·exact fun t h=>h

theorem zeH {env env':List (Nat×DV)} (h:∀ t∈gdT ops o,lk env' t=lk env t):ze9 ops env' o=ze9 ops env o:=by
 unfold ze9
 split
 ·rfl
 ·rename_i j want hg
  split
  ·rfl
  ·rename_i g hgt
   rw [h g (by simp [gdT,hg,hgt])]

theorem zvB {b:Bool} (h:ze9 ops σ.env o=some b):∀ t∈gdT ops o,∀ v,lk σ.env t=some v→dvV v=[]:=by
 intro t ht v hv
 unfold gdT at ht
 split at ht
 ·rename_i j want hg
  split at ht
  ·rename_i g hgt
   simp only [List.mem_singleton] at ht
   subst ht
   unfold ze9 at h
   rw [hg] at h
   simp only [hgt] at h
   rw [hv] at h
   split at h
   ·rename_i e;simp only [Option.some.injEq] at e;subst e;rfl
   ·rename_i e;simp only [Option.some.injEq] at e;subst e;rfl
   ·cases h
  ·simp at ht
 ·simp at ht

structure Loc (P : Program) (Γ : Ctrs) (nt : Nat) (ops : Array Oper) (σ : St) (i : Nat) (o : Oper) (A : OpAct) (lg : List (Nat × Nat × Nat)) : Prop where
  fst:∀ x∈lg,x.1=i
  wr:∀ x∈A.u,(i,x.1,1)∈lg
  kl:A.kl=[]∨∃ L,A.kl=[L]
  kl3:∀ L∈A.kl,(i,L,3)∈lg
  kl1:∀ L∈A.kl,(i,L,1)∈lg
  kb:∀ L∈A.kl,∀ k o',lk σ.objs k=some o'→L∈aoV o'→(i,k,1)∈lg
  labu:∀ x∈A.u,∀ L∈aoV x.2,(i,L,2)∈lg
  labd:∀ d,A.may d→∀ L∈dvV d,(i,L,2)∈lg∨(i,L,1)∈lg
  see:∀ t∈looks ops σ o,∀ v,lk σ.env t=some v→∀ L∈dvV v,(i,L,2)∈lg
  fpm:∀ y∈A.fp,∀ o',lk σ.objs y.1=some o'→∀ L∈aoV o',(i,L,2)∈lg
  fpt:∀ y∈A.fp,(i,y.1,0)∈lg∨(i,y.1,1)∈lg
  wfp:∀ x∈A.u,(x.1,true)∈A.fp
  congr:∀ τ,(∀ t∈looks ops σ o,lk τ.env t=lk σ.env t)→(∀ y∈A.fp,lk τ.objs y.1=lk σ.objs y.1)→zme P Γ nt ops τ o=A
  logc:∀ τ,(∀ t∈looks ops σ o,lk τ.env t=lk σ.env t)→(∀ y∈A.fp,lk τ.objs y.1=lk σ.objs y.1) →
    (∀ L∈A.kl,∀ k,(∃ o',lk τ.objs k=some o'∧L∈aoV o')↔∃ o',lk σ.objs k=some o'∧L∈aoV o')→∀ x,x∈lgG ops τ i o A.fp A.kl↔x∈lg

theorem zcp {fp : List (Nat × Bool)} {kl : List Nat} {x : Nat × Nat × Nat} : x ∈ zi6 σ i o fp kl ↔
    (∃ y∈fp,x=(i,y.1,match y.2 with | true=>1 | false=>0))∨(∃ L∈zpU σ o fp,x=(i,L,2))∨(∃ L∈kl,x=(i,L,3))∨∃ k∈zAk σ kl,x=(i,k,1):=by
  simp only [zi6,List.mem_append,List.mem_map,or_assoc]
  constructor
  · rintro (⟨y, h1, h2⟩ | ⟨y, h1, h2⟩ | ⟨y, h1, h2⟩ | ⟨y, h1, h2⟩)
    · exact .inl ⟨y,h1,h2.symm⟩
    · exact .inr (.inl ⟨y,h1,h2.symm⟩)
    · exact .inr (.inr (.inl ⟨y,h1,h2.symm⟩))
    · exact .inr (.inr (.inr ⟨y,h1,h2.symm⟩))
  · rintro (⟨y, h1, h2⟩ | ⟨y, h1, h2⟩ | ⟨y, h1, h2⟩ | ⟨y, h1, h2⟩)
    · exact .inl ⟨y,h1,h2.symm⟩
    · exact .inr (.inl ⟨y,h1,h2.symm⟩)
    · exact .inr (.inr (.inl ⟨y,h1,h2.symm⟩))
    · exact .inr (.inr (.inr ⟨y,h1,h2.symm⟩))

theorem zvC {fp:List (Nat×Bool)} {L:Nat} (h:Men o (evO σ.env) (lk σ.objs) fp L):L∈zpU σ o fp:=by
 unfold zpU
 rcases h with ⟨x,hx,hL⟩ | ⟨y,hy,o',ho,hL⟩
 ·exact List.mem_append.2 (.inl (List.mem_flatMap.2 ⟨x,hx,hL⟩))
 ·refine List.mem_append.2 (.inr (List.mem_flatMap.2 ⟨y,hy,?_⟩));rw [ho];exact hL

theorem zjz {fp:List (Nat×Bool)} (he:∀ x∈o.op.operands.toList,evO τ.env x=evO σ.env x) (hob:∀ y∈fp,lk τ.objs y.1=lk σ.objs y.1):zpU τ o fp=zpU σ o fp:=by
 unfold zpU
 rw [fmc (f:=fun x=>dvV (evO τ.env x)) (h:=fun x=>dvV (evO σ.env x)) fun x hx=>by rw [he x hx]]
 congr 1
 exact fmc fun y hy=>by rw [hob y hy]

theorem zsU (hA:zme P Γ nt ops σ o=A) (hs:A.safe):Loc P Γ nt ops σ i o A (lgG ops σ i o A.fp A.kl):=by
 have hA':=hA
 unfold zme at hA
 split at hA
 ·rename_i hd hw
  have K:=zLt hA hs
  have hlg:∀ fp kl,lgG ops σ i o fp kl=zi6 σ i o fp kl:=fun fp kl=>by unfold lgG;rw [hw]
  have hlooks:looks ops σ o=zgG ops o:=by unfold looks;rw [hw]
  have hmen:∀ L,Men o (evO σ.env) (lk σ.objs) A.fp L→(i,L,2)∈lgG ops σ i o A.fp A.kl:=fun L h=>by
   rw [hlg];exact zcp.2 (.inr (.inl ⟨L,zvC h,rfl⟩))
  have hfw:∀ L,(L,true)∈A.fp→(i,L,1)∈lgG ops σ i o A.fp A.kl:=fun L h=>by
   rw [hlg];exact zcp.2 (.inl ⟨_,h,rfl⟩)
  have hop:∀ τ:St,(∀ t∈looks ops σ o,lk τ.env t=lk σ.env t)→∀ x∈o.op.operands.toList,evO τ.env x=evO σ.env x:=fun τ h x hx =>
   zjw fun t ht=>h t (by rw [hlooks];exact List.mem_append.2 (.inl (List.mem_flatMap.2 ⟨x,hx,ht⟩)))
  have hwt:∀ τ:St,(∀ t∈looks ops σ o,lk τ.env t=lk σ.env t)→ze9 ops τ.env o=some true:=fun τ h=>by
   rw [zeH (env:=σ.env) fun t ht=>h t (zoT t ht),hw]
  refine ⟨fun x hx=>?_,fun x hx=>hfw _ (K.wr x hx),?_,fun L hL=>?_,fun L hL=>?_,fun L hL k o' hk hL'=>?_,fun x hx L hL=>hmen L (K.labu x hx L hL),
   fun d hd' L hL=>(K.labd d (OpAct.may_gives hd') L hL).imp (hmen L) (hfw L),fun t ht v hv L hL=>?_,fun y hy o' ho L hL=>hmen L (.inr ⟨y,hy,o',ho,hL⟩),fun y hy=>?_,K.wr,fun τ he hob=>?_,fun τ he hob hkb x=>?_⟩
  ·rw [hlg] at hx
   rcases zcp.1 hx with ⟨_,_,h⟩ | ⟨_,_,h⟩ | ⟨_,_,h⟩ | ⟨_,_,h⟩ <;> rw [h]
  ·exact K.kl.imp_right fun ⟨L,h,_⟩=>⟨L,h⟩
  ·rw [hlg];exact zcp.2 (.inr (.inr (.inl ⟨L,hL,rfl⟩)))
  ·rcases K.kl with h | ⟨M, h, h2⟩
   ·rw [h] at hL;simp at hL
   ·rw [h] at hL;simp at hL;subst hL;exact hfw _ h2
  ·rw [hlg]
   refine zcp.2 (.inr (.inr (.inr ⟨k,?_,rfl⟩)))
   rcases K.kl with h | ⟨M,h,h2⟩
   ·rw [h] at hL;simp at hL
   ·rw [h] at hL ⊢;simp at hL;subst hL;exact zgS.2 ⟨o',hk,hL'⟩
  ·rw [hlooks] at ht
   rcases List.mem_append.1 ht with ht | ht
   ·obtain ⟨x, hx, ht⟩ := List.mem_flatMap.1 ht
    refine hmen L (.inl ⟨x,hx,?_⟩)
    cases x with
    | tmp s=>simp only [zH4,List.mem_singleton] at ht;subst ht;simp only [evO,hv];exact hL
    | _=>simp [zH4] at ht
   ·rw [zvB hw t ht v hv] at hL;simp at hL
  ·rw [hlg]
   obtain ⟨L,b⟩:=y
   cases b with
   | true=>exact .inr (zcp.2 (.inl ⟨_,hy,rfl⟩))
   | false=>exact .inl (zcp.2 (.inl ⟨_,hy,rfl⟩))
  ·unfold zme
   rw [hd,hwt τ he]
   exact K.congr _ _ (hop τ he) hob
  ·have e1 : lgG ops τ i o A.fp A.kl = zi6 τ i o A.fp A.kl := by unfold lgG; rw [hwt τ he]
   rw [e1,hlg,zcp,zcp,zjz (hop τ he) hob]
   refine or_congr Iff.rfl (or_congr Iff.rfl (or_congr Iff.rfl ?_))
   rcases K.kl with h | ⟨M,h,h2⟩
   ·rw [h];simp [zAk]
   ·rw [h]
    have:∀ k,k∈zAk τ [M]↔k∈zAk σ [M]:=fun k=>by rw [zgS,zgS];exact hkb M (by rw [h];simp) k
    constructor
    ·rintro ⟨k,h1,h2⟩;exact ⟨k,(this k).1 h1,h2⟩
    ·rintro ⟨k,h1,h2⟩;exact ⟨k,(this k).2 h1,h2⟩
 ·rename_i hd hw
  subst hA
  have hlg:∀ fp kl,lgG ops σ i o fp kl=[]:=fun fp kl=>by unfold lgG;rw [hw]
  have hlooks:looks ops σ o=gdT ops o:=by unfold looks;rw [hw]
  have hwt:∀ τ:St,(∀ t∈looks ops σ o,lk τ.env t=lk σ.env t)→ze9 ops τ.env o=some false:=fun τ h=>by
   rw [zeH (env:=σ.env) fun t ht=>h t (zoT t ht),hw]
  refine ⟨fun x hx=>?_,fun x hx=>?_,.inl rfl,fun L hL=>?_,fun L hL=>?_,fun L hL=>?_,fun x hx=>?_,fun d hd' L hL=>?_,fun t ht v hv L hL=>?_,fun y hy=>?_,fun y hy=>?_,fun x hx=>?_,fun τ he hob=>?_,fun τ he hob hkb x=>?_⟩
  ·rw [hlg] at hx;simp at hx
  ·simp [OpAct.u] at hx
  ·simp [OpAct.kl] at hL
  ·simp [OpAct.kl] at hL
  ·simp [OpAct.kl] at hL
  ·simp [OpAct.u] at hx
  ·simp only [OpAct.may] at hd';subst hd';simp [dvV,d1V,clV] at hL
  ·rw [hlooks] at ht;rw [zvB hw t ht v hv] at hL;simp at hL
  ·simp [OpAct.fp] at hy
  ·simp [OpAct.fp] at hy
  ·simp [OpAct.u] at hx
  ·unfold zme;rw [hd,hwt τ he]
  ·rw [hlg]
   have:lgG ops τ i o (OpAct.val [] (.cl .undef) [] []).fp (OpAct.val [] (.cl .undef) [] []).kl=[]:=by unfold lgG;rw [hwt τ he]
   rw [this]
 ·subst hA;exact hs.elim

theorem zmf {lg:List (Nat×Bool)→List Nat→List (Nat×Nat×Nat)} {dst:Option Nat} {d:DV} (t:Nat):lk (nx A lg i dst σ d).env t=if dst=some t then some d else (lk σ.env t).map (zcX A.kl):=zD1 t
theorem zhu {lg:List (Nat×Bool)→List Nat→List (Nat×Nat×Nat)} {dst:Option Nat} {d:DV} (L:Nat):lk (nx A lg i dst σ d).objs L=match lk A.u L with | some o=>some o | none=>(lk σ.objs L).map (zcN A.kl):=zAX L
theorem zgT {lg:List (Nat×Bool)→List Nat→List (Nat×Nat×Nat)} {dst:Option Nat} {d:DV} : (nx A lg i dst σ d).log=lg A.fp A.kl ++ σ.log:=by simp only [nx,St.relog,zD2]

theorem zAY (h:Eqv σ τ) (o:Oper):zme P Γ nt ops τ o=zme P Γ nt ops σ o:=by
 unfold zme
 rw [zeH (env:=σ.env) fun t _=>(h.env t).symm,show evO τ.env=evO σ.env from funext fun x=>zjw fun t _=>(h.env t).symm,show lk τ.objs=lk σ.objs from funext fun t=>(h.objs t).symm]
theorem zD3 (h:Eqv σ τ) {fp:List (Nat×Bool)} {kl:List Nat} (x:Nat×Nat×Nat):x∈lgG ops σ i o fp kl↔x∈lgG ops τ i o fp kl:=by
 unfold lgG
 rw [zeH (env:=σ.env) (env':=τ.env) fun t _=>(h.env t).symm]
 split
 ·rw [zcp, zcp, zjz (σ := σ) (τ := τ) (fun x _ => zjw fun t _ => (h.env t).symm) (fun y _ => (h.objs y.1).symm)]
  refine or_congr Iff.rfl (or_congr Iff.rfl (or_congr Iff.rfl ?_))
  cases kl with
  | nil=>simp [zAk]
  | cons L r =>
   have:∀ k,k∈zAk σ (L :: r)↔k∈zAk τ (L :: r):=fun k=>by rw [zgS,zgS,h.objs k]
   constructor
   ·rintro ⟨k,h1,h2⟩;exact ⟨k,(this k).1 h1,h2⟩
   ·rintro ⟨k,h1,h2⟩;exact ⟨k,(this k).2 h1,h2⟩
 ·exact Iff.rfl

theorem zm0 {K : St → Prop} (hK : ∀ σ τ, Eqv σ τ → K σ → K τ) : ∀ (l : List Nat) (σ τ : St), Eqv σ τ → vcL P Γ nt ops l K σ → vcL P Γ nt ops l K τ
  | [],σ,τ,h,hv=>hK σ τ h hv
  | i :: r,σ,τ,h,hv=>by
    simp only [vcL] at hv ⊢
    split at hv
    · exact zm0 hK r σ τ h hv
    · rename_i o ho
      rw [zde] at hv ⊢
      rw [zAY h]
      refine ⟨hv.1,fun d hd=>zm0 hK r _ _ ⟨fun t=>?_,fun L=>?_,fun x=>?_⟩ (hv.2 d hd)⟩
      · rw [zmf,zmf,h.env]
      · rw [zhu,zhu,h.objs]
      · rw [zgT, zgT, List.mem_append, List.mem_append, h.log x]
        exact or_congr (zD3 h x) Iff.rfl

theorem zgU {K K':St→Prop} {l l':List Nat} {i:Nat} (hK:∀ σ,vcL P Γ nt ops l K σ→vcL P Γ nt ops l' K' σ) (hv:vcL P Γ nt ops (i :: l) K σ):vcL P Γ nt ops (i :: l') K' σ:=by
 simp only [vcL] at hv ⊢
 split at hv
 ·exact hK _ hv
 ·rw [zde] at hv ⊢
  exact ⟨hv.1,fun d hd=>hK _ (hv.2 d hd)⟩

theorem zqi {K : St → Prop} {R : List (Nat × Nat × Nat) → Prop} (hR : ∀ l m, (∀ x ∈ l, x ∈ m) → R m → R l) (hK : ∀ σ, K σ → R σ.log) : ∀ (l : List Nat) (σ : St), vcL P Γ nt ops l K σ → R σ.log
  | [],σ,hv=>hK σ hv
  | i :: r,σ,hv=>by
    simp only [vcL] at hv
    split at hv
    · exact zqi hR hK r σ hv
    · rw [zde] at hv
      obtain ⟨d,hd⟩:=OpAct.may_of_safe hv.1
      refine hR _ _ (fun x hx=>?_) (zqi hR hK r _ (hv.2 d hd))
      rw [zgT];exact List.mem_append.2 (.inr hx)

def zjA (log:List (Nat×Nat×Nat)) (i j:Nat):Prop:=∀ L k m,(i,L,k)∈log→(j,L,m)∈log→zuO k m=false

theorem zmg {l:List Nat} {x:Option DV} (h:∀ v,x=some v→∀ L∈dvV v,L ∉ l):x.map (zcX l)=x:=by
 cases x with
 | none=>rfl
 | some v=>simp only [Option.map_some];rw [zmY (h v rfl)]
theorem zmh {l:List Nat} {x:Option AO} (h:∀ v,x=some v→∀ L∈aoV v,L ∉ l):x.map (zcN l)=x:=by
 cases x with
 | none=>rfl
 | some v=>simp only [Option.map_some];rw [zmZ (h v rfl)]

theorem zAZ {a b:Oper} (h:zoo ops a b=false):(∀ t∈zgG ops b,a.dst ≠ some t)∧(∀ t∈zgG ops a,b.dst ≠ some t)∧∀ t,a.dst=some t→b.dst ≠ some t:=by
 simp only [zoo,Bool.or_eq_false_iff] at h
 obtain ⟨⟨h1,h2⟩,h3⟩:=h
 refine ⟨fun t ht e=>?_,fun t ht e=>?_,fun t e e'=>?_⟩
 ·rw [e] at h1; simp only [meets] at h1
  have:(zgG ops b).contains t=true:=by simpa using ht
  rw [this] at h1;cases h1
 ·rw [e] at h2; simp only [meets] at h2
  have:(zgG ops a).contains t=true:=by simpa using ht
  rw [this] at h2;cases h2
 ·rw [e, e'] at h3; simp only [zuN] at h3
  rw [show Nat.beq t t=true from by simp] at h3;cases h3

theorem zA0 {K : St → Prop} {i j : Nat} {oi oj : Oper} {r : List Nat} (hi : ops[i]? = some oi) (hj : ops[j]? = some oj) (hT : zoo ops oi oj = false)
    (hE:∀ τ τ',Eqv τ τ'→vcL P Γ nt ops r K τ→vcL P Γ nt ops r K τ') (hN:∀ τ,vcL P Γ nt ops r K τ→zjA τ.log i j)
    (h:vcL P Γ nt ops (i :: j :: r) K σ):vcL P Γ nt ops (j :: i :: r) K σ:=by
  obtain ⟨cT1,cT2,cT3⟩:=zAZ hT
  simp only [vcL,hi,hj] at h ⊢
  rw [zde] at h
  obtain ⟨hsA,hA⟩:=h
  generalize hAe:zme P Γ nt ops σ oi=A at hsA hA
  have LA:=zsU (i:=i) hAe hsA
  -- the second operation behind the first: as before it
  have key:∀ d,A.may d→∃ B,zme P Γ nt ops (nx A (lgG ops σ i oi) i oi.dst σ d) oj=B∧B.safe ∧
      (∀ e,B.may e→vcL P Γ nt ops r K (nx B (lgG ops (nx A (lgG ops σ i oi) i oi.dst σ d) j oj) j oj.dst (nx A (lgG ops σ i oi) i oi.dst σ d) e)) ∧
      zjA (lgG ops (nx A (lgG ops σ i oi) i oi.dst σ d) j oj B.fp B.kl ++ (lgG ops σ i oi A.fp A.kl)) i j:=by
    intro d hd
    have h2:=hA d hd
    rw [zde] at h2
    obtain ⟨hsB,hB⟩:=h2
    refine ⟨_,rfl,hsB,hB,?_⟩
    obtain ⟨e,he⟩:=OpAct.may_of_safe hsB
    have:=hN _ (hB e he)
    rw [zgT,zgT] at this
    intro L k m hk hm
    refine this L k m ?_ ?_
    · rcases List.mem_append.1 hk with h | h
      · exact List.mem_append.2 (.inl h)
      · exact List.mem_append.2 (.inr (List.mem_append.2 (.inl h)))
    · rcases List.mem_append.1 hm with h | h
      · exact List.mem_append.2 (.inl h)
      · exact List.mem_append.2 (.inr (List.mem_append.2 (.inl h)))
  have main:∀ d,A.may d→∀ B,zme P Γ nt ops (nx A (lgG ops σ i oi) i oi.dst σ d) oj=B→B.safe →
      (∀ e,B.may e→vcL P Γ nt ops r K (nx B (lgG ops (nx A (lgG ops σ i oi) i oi.dst σ d) j oj) j oj.dst (nx A (lgG ops σ i oi) i oi.dst σ d) e)) →
      zjA (lgG ops (nx A (lgG ops σ i oi) i oi.dst σ d) j oj B.fp B.kl ++ (lgG ops σ i oi A.fp A.kl)) i j →
      zme P Γ nt ops σ oj=B∧∀ e,B.may e→zme P Γ nt ops (nx B (lgG ops σ j oj) j oj.dst σ e) oi=A ∧
        vcL P Γ nt ops r K (nx A (lgG ops (nx B (lgG ops σ j oj) j oj.dst σ e) i oi) i oi.dst (nx B (lgG ops σ j oj) j oj.dst σ e) d):=by
    intro d hd B hBe hsB hB hno
    generalize hσ1:nx A (lgG ops σ i oi) i oi.dst σ d=σ1 at hBe hB hno
    have LB:=zsU (i:=j) hBe hsB
    have no:∀ L k m,(i,L,k)∈lgG ops σ i oi A.fp A.kl→(j,L,m)∈lgG ops σ1 j oj B.fp B.kl→zuO k m=true→False:=fun L k m h1 h2 hc=>by
      have:=hno L k m (List.mem_append.2 (.inr h1)) (List.mem_append.2 (.inl h2))
      rw [this] at hc;cases hc
    have zNr:∀ t,lk σ1.env t=if oi.dst=some t then some d else (lk σ.env t).map (zcX A.kl):=fun t=>by rw [← hσ1,zmf]
    have objs1:∀ L,lk σ1.objs L=match lk A.u L with | some o=>some o | none=>(lk σ.objs L).map (zcN A.kl):=fun L=>by rw [← hσ1,zhu]
    -- what the second looks at, the first has not changed
    have seeB:∀ t∈looks ops σ1 oj,lk σ.env t=lk σ1.env t:=by
      intro t ht
      have e:=zNr t
      rw [if_neg (cT1 t (zoS t ht))] at e
      rw [e]
      refine (zmg fun v hv L hL hk=>?_).symm
      rw [hv,Option.map_some] at e
      exact no L 3 2 (LA.kl3 L hk) (LB.see t ht _ e L (by rw [zD0];exact hL)) rfl
    have fpB:∀ y∈B.fp,lk σ.objs y.1=lk σ1.objs y.1:=by
      intro y hy
      have e:=objs1 y.1
      have hn:lk A.u y.1=none:=by
        cases hu:lk A.u y.1 with
        | none=>rfl
        | some o' =>
          have h1:=LA.wr _ (zcI hu)
          rcases LB.fpt y hy with h2 | h2
          · exact (no _ _ _ h1 h2 rfl).elim
          · exact (no _ _ _ h1 h2 rfl).elim
      rw [hn] at e
      simp only at e
      rw [e]
      refine (zmh fun v hv L hL hk=>?_).symm
      rw [hv,Option.map_some] at e
      exact no L 3 2 (LA.kl3 L hk) (LB.fpm y hy _ e L (by rw [zqh];exact hL)) rfl
    have hBσ:=LB.congr σ seeB fpB
    refine ⟨hBσ,fun e he=>?_⟩
    generalize hσ1':nx B (lgG ops σ j oj) j oj.dst σ e=σ1'
    have env1':∀ t,lk σ1'.env t=if oj.dst=some t then some e else (lk σ.env t).map (zcX B.kl):=fun t=>by rw [← hσ1',zmf]
    have objs1':∀ L,lk σ1'.objs L=match lk B.u L with | some o=>some o | none=>(lk σ.objs L).map (zcN B.kl):=fun L=>by rw [← hσ1',zhu]
    have seeA:∀ t∈looks ops σ oi,lk σ1'.env t=lk σ.env t:=by
      intro t ht
      rw [env1',if_neg (cT2 t (zoS t ht))]
      exact zmg fun v hv L hL hk=>no L 2 3 (LA.see t ht v hv L hL) (LB.kl3 L hk) rfl
    have uB:∀ y∈A.fp,lk B.u y.1=none:=by
      intro y hy
      cases hu:lk B.u y.1 with
      | none=>rfl
      | some o' =>
        have h1:=LB.wr _ (zcI hu)
        rcases LA.fpt y hy with h2 | h2
        · exact (no _ _ _ h2 h1 rfl).elim
        · exact (no _ _ _ h2 h1 rfl).elim
    have fpA:∀ y∈A.fp,lk σ1'.objs y.1=lk σ.objs y.1:=by
      intro y hy
      rw [objs1',uB y hy]
      exact zmh fun v hv L hL hk=>no L 2 3 (LA.fpm y hy v hv L hL) (LB.kl3 L hk) rfl
    have hAσ:=LA.congr σ1' seeA fpA
    refine ⟨hAσ,hE _ _ ⟨fun t=>?_,fun L=>?_,fun x=>?_⟩ (hB e he)⟩
    · -- the temporaries
      rw [zmf,zmf,zNr,env1']
      by_cases h1:oj.dst=some t
      · rw [if_pos h1, if_pos h1, if_neg fun h2 => cT3 t h2 h1, Option.map_some, zmY fun L hL hk => ?_]
        rcases LB.labd e he L hL with h3 | h3
        · exact no L 3 2 (LA.kl3 L hk) h3 rfl
        · exact no L 1 1 (LA.kl1 L hk) h3 rfl
      · rw [if_neg h1, if_neg h1]
        by_cases h2:oi.dst=some t
        · rw [if_pos h2, if_pos h2, Option.map_some, zmY fun L hL hk => ?_]
          rcases LA.labd d hd L hL with h3 | h3
          · exact no L 2 3 h3 (LB.kl3 L hk) rfl
          · exact no L 1 1 h3 (LB.kl1 L hk) rfl
        · rw [if_neg h2, if_neg h2]
          cases lk σ.env t with
          | none=>rfl
          | some v=>simp only [Option.map_some];rw [zup]
    · -- the objects
      rw [zhu,zhu,objs1,objs1']
      cases hb:lk B.u L with
      | some ob =>
        cases ha:lk A.u L with
        | some oa=>exact (no L 1 1 (LA.wr _ (zcI ha)) (LB.wr _ (zcI hb)) rfl).elim
        | none =>
          simp only [Option.map_some]
          rw [zmZ fun M hM hk=>no M 3 2 (LA.kl3 M hk) (LB.labu _ (zcI hb) M hM) rfl]
      | none =>
        cases ha:lk A.u L with
        | some oa =>
          simp only [Option.map_some]
          rw [zmZ fun M hM hk=>no M 2 3 (LA.labu _ (zcI ha) M hM) (LB.kl3 M hk) rfl]
        | none =>
          simp only
          cases lk σ.objs L with
          | none=>rfl
          | some v=>simp only [Option.map_some];rw [zuq]
    · -- the log
      rw [zgT,zgT]
      have l1:σ1.log=lgG ops σ i oi A.fp A.kl ++ σ.log:=by rw [← hσ1,zgT]
      have l2:σ1'.log=lgG ops σ j oj B.fp B.kl ++ σ.log:=by rw [← hσ1',zgT]
      rw [l1,l2]
      have e1:x∈lgG ops σ j oj B.fp B.kl↔x∈lgG ops σ1 j oj B.fp B.kl:=by
        refine LB.logc σ seeB fpB (fun L hL k=>?_) x
        rw [objs1]
        cases ha:lk A.u k with
        | some oa =>
          simp only [Option.some.injEq]
          constructor
          · rintro ⟨o', ho, hL'⟩
            exact (no L 2 3 (LA.fpm _ (LA.wfp _ (zcI ha)) o' ho L hL') (LB.kl3 L hL) rfl).elim
          · rintro ⟨o', rfl, hL'⟩
            exact (no L 2 3 (LA.labu _ (zcI ha) L hL') (LB.kl3 L hL) rfl).elim
        | none =>
          simp only
          cases lk σ.objs k with
          | none=>simp
          | some v=>simp [zqh]
      have e2:x∈lgG ops σ1' i oi A.fp A.kl↔x∈lgG ops σ i oi A.fp A.kl:=by
        refine LA.logc σ1' seeA fpA (fun L hL k=>?_) x
        rw [objs1']
        cases hb:lk B.u k with
        | some ob =>
          simp only [Option.some.injEq]
          constructor
          · rintro ⟨o', rfl, hL'⟩
            exact (no L 3 2 (LA.kl3 L hL) (LB.labu _ (zcI hb) L hL') rfl).elim
          · rintro ⟨o', ho, hL'⟩
            exact (no k 1 1 (LA.kb L hL k o' ho hL') (LB.wr _ (zcI hb)) rfl).elim
        | none =>
          simp only
          cases lk σ.objs k with
          | none=>simp
          | some v=>simp [zqh]
      simp only [List.mem_append]
      rw [e1,e2,← or_assoc,← or_assoc]
      exact or_congr (or_comm) Iff.rfl
  rw [zde]
  obtain ⟨d0,hd0⟩:=OpAct.may_of_safe hsA
  obtain ⟨B,hBe,hsB,hB,hno⟩:=key d0 hd0
  obtain ⟨hBσ,hrest⟩:=main d0 hd0 B hBe hsB hB hno
  rw [hBσ]
  refine ⟨hsB,fun e he=>?_⟩
  rw [zde]
  rw [(hrest e he).1]
  refine ⟨hsA,fun d hd=>?_⟩
  obtain ⟨B',hBe',hsB',hB',hno'⟩:=key d hd
  obtain ⟨hBσ',hrest'⟩:=main d hd B' hBe' hsB' hB' hno'
  have hBB:B'=B:=hBσ'.symm.trans hBσ
  subst hBB
  exact (hrest' e he).2

end
end Go.Pm
namespace Go.Pm
open Go.RowKit (Below)

section
variable {P:Program} {Γ:Ctrs} {nt B:Nat} {w0:World} {h0:Fz} {g:Gh} {σ:St} {a:Act} {w:World} {r:Option Nat} {n i:Nat} {Q:Exit→Act→World→Prop}

theorem zjB {o:Oper} {R R':Act→World→Prop} (h:o.wpIn (FR r) n P a w R Q) (hR:∀ a w,R a w→R' a w):o.wpIn (FR r) n P a w R' Q:=by
 refine ⟨h.1,?_⟩
 have h2:=h.2
 generalize (o.semAt (FR r).round a.eval).run P w=res at h2 ⊢
 match res,h2 with
 | .ok (.value v) w',h2=>exact hR _ _ h2
 | .ok .skip w',h2=>exact hR _ _ h2
 | .ok (.defer d) w',h2=>exact hR _ _ h2
 | .ok (.enter f args) w',h2 =>
  refine ⟨h2.1,h2.2.mono ?_⟩
  intro e w'' he
  cases e with
  | returned v=>exact hR _ _ he
  | panicked ch=>exact he
  | outgrown=>exact he
 | .ok (.row row args) w',h2=>exact ⟨h2.1,h2.2.mono fun v w'' hv=>hR _ _ hv⟩
 | .ok (.round l f tmps x y) w',h2 =>
  refine ⟨h2.1,h2.2.mono ?_⟩
  intro e w'' he
  cases e with
  | returned v=>exact hR _ _ he
  | panicked ch=>exact he
  | outgrown=>exact he
 | .halt (.panic v) w',h2=>exact h2

theorem zCx {o:Oper} {R:Act→World→Prop} (h:o.wpIn (FR r) n P a w R Q):o.wpIn (FR r) n P a w (fun a' w'=>R a' w'∧∃ v ds,a'=({ a with defers:=ds } : Act).put o.dst v) Q:=by
 refine ⟨h.1,?_⟩
 have h2:=h.2
 generalize (o.semAt (FR r).round a.eval).run P w=res at h2 ⊢
 match res,h2 with
 | .ok (.value v) w',h2=>exact ⟨h2,v,a.defers,rfl⟩
 | .ok .skip w',h2=>exact ⟨h2,undef,a.defers,rfl⟩
 | .ok (.defer d) w',h2=>exact ⟨h2,undef,d :: a.defers,rfl⟩
 | .ok (.enter f args) w',h2 =>
  refine ⟨h2.1,h2.2.mono ?_⟩
  intro e w'' he
  cases e with
  | returned v=>exact ⟨he,v,a.defers,rfl⟩
  | panicked ch=>exact he
  | outgrown=>exact he
 | .ok (.row row args) w',h2=>exact ⟨h2.1,h2.2.mono fun v w'' hv=>⟨hv,v,a.defers,rfl⟩⟩
 | .ok (.round l f tmps x y) w',h2 =>
  refine ⟨h2.1,h2.2.mono ?_⟩
  intro e w'' he
  cases e with
  | returned v=>exact ⟨he,v,a.defers,rfl⟩
  | panicked ch=>exact he
  | outgrown=>exact he
 | .halt (.panic v) w',h2=>exact h2

def Kp (D:List Nat) (a a':Act):Prop:=(∀ t,t ∉ D→a'.tmps.getD t undef=a.tmps.getD t undef)∧a'.tmps.size=a.tmps.size
theorem Kp.refl (D:List Nat) (a:Act):Kp D a a:=⟨fun _ _=>rfl,rfl⟩
theorem Kp.put {D:List Nat} {a0 a:Act} (h:Kp D a0 a) {dst:Option Nat} (hd:∀ t,dst=some t→t∈D) (v:Value) (ds:List Deferred):Kp D a0 (({ a with defers:=ds } : Act).put dst v):=by
 cases dst with
 | none=>exact h
 | some t =>
  refine ⟨fun u hu=>?_,by simp [Act.put,h.2]⟩
  have hne:t ≠ u:=fun e=>hu (e ▸ hd t rfl)
  rw [← h.1 u hu]
  simp [Act.put,Array.getD_eq_getD_getElem?,Array.getElem?_setIfInBounds_ne hne]

theorem zix {ops:Array Oper} {tmps:Array Value} {j g:Nat} {b:Bool} (hg:(ops[j]?).bind (·.dst)=some g) (hv:tmps.getD g undef=.bool b):yielded ops tmps j=some b:=by
 unfold yielded
 rw [hg]
 simp only [Option.bind_some]
 rw [Array.getD_eq_getD_getElem?] at hv
 cases h:tmps[g]? with
 | none=>rw [h] at hv;simp [undef] at hv
 | some v=>rw [h] at hv;simp only [Option.getD_some] at hv;subst hv;rfl
theorem zgV {ops:Array Oper} {tmps:Array Value} {j g:Nat} (hg:(ops[j]?).bind (·.dst)=some g) (hv:tmps.getD g undef=undef):yielded ops tmps j=none:=by
 unfold yielded
 rw [hg]
 simp only [Option.bind_some]
 rw [Array.getD_eq_getD_getElem?] at hv
 cases h:tmps[g]? with
 | none=>rfl
 | some v=>rw [h] at hv;simp only [Option.getD_some] at hv;subst hv;rfl

theorem Sim.skip (S:Sim P nt B w0 h0 g σ a w) {dst:Option Nat} (hd:zbF nt dst=true):Sim P nt B w0 h0 g (σ.skip dst) (a.put dst undef) w:=by
 have:=S.put (d:=.cl .undef) (v:=undef) hd rfl (fun L hL=>by simp [zaS,zbh,zav] at hL) σ.log
 cases dst <;> exact this

theorem zqj (hok : OkAll P Γ) {ops : Array Oper} {K : St → Prop} {D : List Nat} {a0 : Act} {ad : List Deferred} (hD : ∀ (j : Nat) (o : Oper), ops[j]? = some o → ∀ t, o.dst = some t → t ∈ D)
    (hQ:∀ σ',K σ'→∀ g' a' w',Sim P nt B w0 h0 g' σ' a' w'→Kp D a0 a'→a'.defers=ad→Q .normal a' w') :
    ∀ (l:List Oper) (i:Nat) (σ:St) (g:Gh) (a:Act) (w:World),(∀ j,l[j]? = ops[i+j]?)→ze8 P Γ nt ops i l K σ→Sim P nt B w0 h0 g σ a w→Kp D a0 a→a.defers=ad →
      wpOpsIn (FR r) n P ops Q (List.range' i l.length) a w:=by
  intro l
  induction l with
  | nil=>intro i σ g a w _ h S hk had;exact hQ σ h g a w S hk had
  | cons o l ih =>
    intro i σ g a w hl h S hkp had
    have ho:ops[i]? = some o:=by have:=hl 0;simpa using this.symm
    have hl':∀ j,l[j]? = ops[i+1+j]?:=fun j=>by have:=hl (j+1);rw [List.getElem?_cons_succ] at this;rw [this];congr 1;omega
    simp only [List.length_cons,List.range'_succ,wpOpsIn,ho]
    simp only [ze8] at h
    split at h
    · exact h.elim
    · rename_i hd
      have run:∀ (σ:St),Sim P nt B w0 h0 g σ a w→zff (act P Γ o (evO σ.env) (lk σ.objs)) (zi6 σ i o) i o.dst (ze8 P Γ nt ops (i+1) l K) σ→o.wpIn (FR r) n P a w (wpOpsIn (FR r) n P ops Q (List.range' (i+1) l.length)) Q:=by
        intro σ S h
        obtain ⟨hs,hk⟩:=zjd.1 h
        refine zjB (zCx (zjl (i:=i) (Q:=Q) (r:=r) (n:=n) hok S hd rfl hs)) ?_
        rintro a' w' ⟨⟨hdf,g',σ',hst,S'⟩,v,ds,rfl⟩
        exact ih (i+1) _ g' _ w' hl' (hk σ' hst) (S'.log _) (hkp.put (hD i o ho) v ds) (hdf.trans had)
      have skp:∀ (σ:St),Sim P nt B w0 h0 g σ a w→ze8 P Γ nt ops (i+1) l K (σ.skip o.dst)→wpOpsIn (FR r) n P ops Q (List.range' (i+1) l.length) (a.put o.dst undef) w:=by
        intro σ S h
        exact ih (i+1) _ g _ w hl' h (S.skip hd) (hkp.put (hD i o ho) undef a.defers) ((put_defers _ _ _).trans had)
      split at h
      · rename_i hg
        rw [if_pos (by simp [Region.wanted,hg])]
        exact run σ S h
      · rename_i j want hg
        split at h
        · exact h.elim
        · rename_i gt hgt
          split at h
          · rename_i b hb
            have hv:a.tmps.getD gt undef=.bool b:=by
              have:=S.env gt _ hb
              generalize a.tmps.getD gt undef=v at this
              cases this;rfl
            have hy:=zix hgt hv
            have S1:∀ c,b=c→Sim P nt B w0 h0 g (σ.setT gt (.bool c)) a w:=by
              intro c hc
              refine S.env' (t:=gt) (d:=.bool c) ?_ (zdc _)
              rw [hv,hc];exact .bool c
            have h2:=zgF.1 h
            cases b with
            | true =>
              have h3:=h2.1 rfl
              cases want with
              | true=>rw [if_pos (by simp [Region.wanted,hg,hy])];exact run _ (S1 true rfl) h3
              | false=>rw [if_neg (by simp [Region.wanted,hg,hy])];exact ⟨fun _ _=>trivial,skp _ (S1 true rfl) h3⟩
            | false =>
              have h3:=h2.2 rfl
              cases want with
              | true=>rw [if_neg (by simp [Region.wanted,hg,hy])];exact ⟨fun _ _=>trivial,skp _ (S1 false rfl) h3⟩
              | false=>rw [if_pos (by simp [Region.wanted,hg,hy])];exact run _ (S1 false rfl) h3
          · rename_i hb
            have hv:a.tmps.getD gt undef=undef:=S.env gt _ hb
            have hy:=zgV hgt hv
            rw [if_neg (by simp [Region.wanted,hg,hy])]
            exact ⟨fun _ _=>trivial,skp _ S h⟩
          · exact h.elim

theorem zqk (hok : OkAll P Γ) {ops : Array Oper} {K : St → Prop} {D : List Nat} {a0 : Act} (hD : ∀ (j : Nat) (o : Oper), ops[j]? = some o → ∀ t, o.dst = some t → t ∈ D)
    (h:ze8 P Γ nt ops 0 ops.toList K σ) (S:Sim P nt B w0 h0 g σ a w) (hkp:Kp D a0 a)
    (hQ:∀ σ',K σ'→∀ g' a' w',Sim P nt B w0 h0 g' σ' a' w'→Kp D a0 a'→a'.defers=a.defers→Q .normal a' w'):wpOpsIn (FR r) n P ops Q (List.range ops.size) a w:=by
  have:=zqj (r:=r) (n:=n) hok hD hQ ops.toList 0 σ g a w (fun j=>by simp) h S hkp rfl
  rw [List.range_eq_range']
  simpa using this

end
end Go.Pm
