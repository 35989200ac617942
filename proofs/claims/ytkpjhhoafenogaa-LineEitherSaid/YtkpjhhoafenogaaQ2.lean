/- Part 2 of what the proof rests on: a machine that runs functions of the program on pure values, proved sound; the functions that the law reaches, and what they compute. -/
import Derived.Test.YtkpjhhoafenogaaQ1
import Derived.Laws.Slices
import Derived.Laws.OwnMore
import Derived.Scope
set_option linter.all false
namespace Go.Pm
open Go.RowKit (Below)

section
variable {P:Program} {Γ:Ctrs} {nt B:Nat} {w0:World} {h0:Fz} {g:Gh} {σ:St} {a:Act} {w:World} {r:Option Nat} {n i:Nat} {Q:Exit→Act→World→Prop}

theorem zC1 (k:Option IntKind) (x:Int):clR g (.p (zBt k x)) (cellV k x):=by
 cases k with
 | none=>exact .bool _
 | some k=>exact .int _ _
theorem zBB (o : Option (List Int)) : ∀ (ks : List (Option IntKind)) (i : Nat), RL (clR g) ((zK6 o i ks).map .p) (zeR o i ks)
  | [],_=>trivial
  | k :: ks,i=>⟨zC1 k _,zBB o ks (i+1)⟩
theorem zBC {vag:Bool} {ks:List (Option IntKind)} {o:Option (List Int)} {d:D1} (h:zHx vag ks o=some d):d1R g d (zde vag ks o):=by
 have hr:=zBB (g:=g) o ks 0
 unfold zHx at h
 cases vag with
 | true =>
  simp only [Option.some.injEq] at h
  rw [← h]
  exact ⟨_,rfl,hr⟩
 | false =>
  split at h
  ·rename_i l e;cases e
  ·rename_i v _ e
   simp only [Option.some.injEq] at h
   rw [← h]
   rw [e] at hr
   cases hc:zeR o 0 ks with
   | nil=>rw [hc] at hr;exact hr.elim
   | cons x l=>rw [hc] at hr;simp only [zde,hc,List.headD_cons];exact hr.1
  ·cases h
theorem ziA {vag:Bool} {ks:List (Option IntKind)} {o:Option (List Int)} {d:D1} (h:zHx vag ks o=some d):za5 d=[]:=by
 unfold zHx at h
 split at h
 ·simp only [Option.some.injEq] at h;rw [← h];exact zcS _
 ·simp only [Option.some.injEq] at h;rw [← h];rfl
 ·cases h

def zH2 (c:Cl) (acc:Option (List (Option IntKind))):Option (List (Option IntKind)):=match c,acc with
 | .p (.int k (.ofNat 0)),some l=>some (some k :: l)
 | .p (.bool false),some l=>some (none :: l)
 | _,_=>none
theorem zgV : ∀ (vs : List Value) (cs : List Cl) (ks : List (Option IntKind)) (i : Nat), zcu vs = some cs → cs.foldr zH2 (some []) = some ks → vs = zeR none i ks
  | [],cs,ks,i,h1,h2=>by
    simp only [zcu,Option.some.injEq] at h1
    subst h1
    simp only [List.foldr_nil,Option.some.injEq] at h2
    subst h2;rfl
  | v :: vs,cs,ks,i,h1,h2=>by
    simp only [zcu] at h1
    split at h1
    · rename_i x l hx hl
      simp only [Option.some.injEq] at h1
      subst h1
      rw [List.foldr_cons] at h2
      unfold zH2 at h2
      split at h2
      · rename_i k l' e1 e2
        simp only [Option.some.injEq] at h2
        subst h2
        simp only [Cl.p.injEq] at e1
        rw [zgV vs l l' (i+1) hl e2]
        have:v=.int k 0:=by
          rw [e1] at hx
          unfold zid at hx
          split at hx <;> simp at hx
          obtain ⟨rfl,rfl⟩:=hx;rfl
        rw [this];rfl
      · rename_i l' e1 e2
        simp only [Option.some.injEq] at h2
        subst h2
        simp only [Cl.p.injEq] at e1
        rw [zgV vs l l' (i+1) hl e2]
        have:v=.bool false:=by
          rw [e1] at hx
          unfold zid at hx
          split at hx <;> simp at hx
          subst hx;rfl
        rw [this];rfl
      · cases h2
    · cases h1

structure MapE (P : Program) (kt vt : Nat) (ag : Bool) (m : Nat) (vag : Bool) (ks : List (Option IntKind)) : Prop where
  key:zdF P 8 kt=some m
  kag:zeh P kt=some ag
  zero:∀ w,(zeroValue vt).run P w=.ok (zde vag ks none) w
  one:vag=false→ks.length=1
theorem zrY {kt vt:Nat} {ag:Bool} {m:Nat} {vag:Bool} {ks:List (Option IntKind)} (h:znC P kt vt=some (ag,m,vag,ks)):MapE P kt vt ag m vag ks:=by
 unfold znC at h
 split at h
 ·rename_i m' ag' ks' vag' h1 h2 h3 h4
  have zero:∀ z,(P.info? vt).bind (·.zero)=some z→∀ w,(zeroValue vt).run P w=.ok z w∧z.cells.toList=zeR none 0 ks':=by
   intro z hz w
   unfold zBs at h3
   split at h3
   ·rename_i zc hzc
    obtain ⟨i,v,hi,hv,ho,_⟩:=zdo hzc
    rw [hi] at hz
    simp only [Option.bind_some,hv,Option.some.injEq] at hz
    subst hz
    exact ⟨zbR hi hv,zgV _ _ _ 0 ho h3⟩
   ·cases h3
  cases hb:((ag' || Nat.beq m' 1) && (vag' || Nat.beq ks'.length 1)) with
  | false=>rw [hb] at h;cases h
  | true =>
   rw [hb] at h
   cases hz:(P.info? vt).bind (·.zero) with
   | none=>rw [hz] at h;cases h
   | some z =>
    rw [hz] at h
    cases vag' with
    | true =>
     cases z with
     | agg cs =>
      simp only [Option.some.injEq,Prod.mk.injEq] at h
      obtain ⟨rfl,rfl,rfl,rfl⟩:=h
      refine ⟨h1,h2,fun w=>?_,fun e=>by cases e⟩
      obtain ⟨r1,r2⟩:=zero _ hz w
      rw [r1]
      simp only [Value.cells] at r2
      simp only [zde,← r2]
     | _=>cases h
    | false =>
     have hlen:ks'.length=1:=by
      simp only [Bool.false_or,Bool.and_eq_true] at hb
      exact Nat.eq_of_beq_eq_true hb.2
     have fin:z.cells.toList=[z]→some (ag',m',false,ks')=some (ag,m,vag,ks)→MapE P kt vt ag m vag ks:=by
      intro hcz h
      simp only [Option.some.injEq,Prod.mk.injEq] at h
      obtain ⟨rfl,rfl,rfl,rfl⟩:=h
      refine ⟨h1,h2,fun w=>?_,fun _=>hlen⟩
      obtain ⟨r1,r2⟩:=zero _ hz w
      rw [r1]
      rw [hcz] at r2
      simp only [zde,← r2,List.headD_cons]
     cases z with
     | agg cs=>cases h
     | _=>exact fin rfl h
 ·cases h

theorem zuv {ag:Bool} {m:Nat} {d:DV} {c:List Int} {v:Value} (h:zHK ag m d=some c) (hag:ag=false→m=1) (hv:dvR g d v):v=zbb ag c∧c.length=m:=by
 unfold zHK at h
 split at h
 ·rename_i cs
  split at h
  ·rename_i l hl
   split at h
   ·rename_i hb
    simp only [Option.some.injEq] at h
    subst h
    obtain ⟨vs,rfl,hr⟩:=hv
    exact ⟨by rw [zpf hl hr];rfl,Nat.eq_of_beq_eq_true hb⟩
   ·cases h
  ·cases h
 ·simp only [Option.some.injEq] at h
  subst h
  cases hv
  exact ⟨rfl,(hag rfl).symm⟩
 ·cases h

theorem zl4 : ∀ (ks : List (Option IntKind)) (cs : List Cl) (l : List Int) (vs : List Value) (pre : List Int), zf8 ks cs = some l → RL (clR g) cs vs → vs = zeR (some (pre ++ l)) pre.length ks
  | [],[],l,[],pre,h,_=>rfl
  | [],[],_,_ :: _,_,_,hr=>hr.elim
  | [],_ :: _,l,vs,pre,h,_=>by simp [zf8] at h
  | k :: ks,[],l,vs,pre,h,_=>by cases k <;> simp [zf8] at h
  | k :: ks,c :: cs,l,[],pre,h,hr=>hr.elim
  | k :: ks,c :: cs,l,v :: vs,pre,h,hr=>by
    unfold zf8 at h
    split at h
    · rename_i e1 e2;cases e1
    · rename_i k' ks' k2 x r e1 e2
      simp only [List.cons.injEq] at e1 e2
      obtain ⟨rfl,rfl⟩:=e1
      obtain ⟨rfl,rfl⟩:=e2
      split at h
      · rename_i hkk
        subst hkk
        split at h
        · rename_i l' hl'
          simp only [Option.some.injEq] at h
          subst h
          have ih:=zl4 ks cs l' vs (pre ++ [x]) hl' hr.2
          have h1:=hr.1
          cases h1
          rw [show pre ++ [x] ++ l'=pre ++ x :: l' by simp,show (pre ++ [x]).length=pre.length+1 by simp] at ih
          rw [ih]
          simp [zeR,cellV,zdI]
        · cases h
      · cases h
    · rename_i ks' b r e1 e2
      simp only [List.cons.injEq] at e1 e2
      obtain ⟨rfl,rfl⟩:=e1
      obtain ⟨rfl,rfl⟩:=e2
      split at h
      · rename_i l' hl'
        simp only [Option.some.injEq] at h
        subst h
        have h1:=hr.1
        cases h1
        have ih:∀ y:Int,vs=zeR (some (pre ++ y :: l')) (pre.length+1) ks:=fun y=>by
          have ih:=zl4 ks cs l' vs (pre ++ [y]) hl' hr.2
          rw [show pre ++ [y] ++ l'=pre ++ y :: l' by simp,show (pre ++ [y]).length=pre.length+1 by simp] at ih
          exact ih
        rw [ih (match b with | true=>1 | false=>0)]
        cases b <;> simp [zeR,cellV,zdI]
      · cases h
    · cases h

theorem zuw {vag:Bool} {ks:List (Option IntKind)} {dv:D1} {l:List Int} {v:Value} (h:zf8 ks dv.cells=some l) (hag:dv.isAgg=vag) (hv:d1R g dv v):v=zde vag ks (some l):=by
 subst hag
 cases dv with
 | c x =>
  have:=zl4 (g:=g) ks [x] l [v] [] h ⟨hv,trivial⟩
  simp only [List.nil_append,List.length_nil] at this
  simp only [D1.isAgg,zde,← this,List.headD_cons]
 | agg cs =>
  obtain ⟨vs,rfl,hr⟩:=hv
  have:=zl4 (g:=g) ks cs l vs [] h hr
  simp only [List.nil_append,List.length_nil] at this
  simp only [D1.isAgg,zde,← this]

theorem zpj {kt vt m : Nat} {ag vag : Bool} {ks : List (Option IntKind)} (E : MapE P kt vt ag m vag ks) {es : Array MapEntry} {en : List (List Int × List Int)} (hen : es.toList.map (fun e => (e.key, e.val)) = en.map (fun x => (zbb ag x.1, zde vag ks (some x.2))))
    (hl : ∀ x ∈ en, x.1.length = m) (hn : (en.map (·.1)).Nodup) {c : List Int} (hc : c.length = m) :
      ((Instr.findKey kt (zbb ag c) es.toList).run P w=.ok none w∧zdP c en=none∧∀ x∈en,x.1 ≠ c) ∨
      ∃ (j:Nat) (e:MapEntry) (v:List Int),(Instr.findKey kt (zbb ag c) es.toList).run P w=.ok (some (j,zde vag ks (some v))) w∧es[j]? = some e∧en[j]? = some (c,v)∧e.key=zbb ag c∧zdP c en=some v:=by
  have hk:es.toList.map (·.key)=en.map (fun x=>zbb ag x.1):=by
    have:=congrArg (List.map Prod.fst) hen
    simpa [List.map_map,Function.comp_def] using this
  rcases run_findKey (w:=w) E.key E.kag hc es.toList en hk hl with ⟨h1,h2⟩ | ⟨j,e,v,h1,h2,h3⟩
  · exact .inl ⟨h1,zlo h2,h2⟩
  · have h4 : (es.toList.map (fun e => (e.key, e.val)))[j]? = some (e.key, e.val) := by simp [h2]
    rw [hen] at h4
    simp only [List.getElem?_map,h3,Option.map_some,Option.some.injEq,Prod.mk.injEq] at h4
    exact .inr ⟨j,e,v,by rw [h1,← h4.2],by simpa using h2,h3,h4.1.symm,zd6 hn h3⟩

theorem zih {kt vt:Nat} {q:MQ} (h:znC P kt vt=some q):MapE P kt vt q.1 q.2.1 q.2.2.1 q.2.2.2:=by
 obtain ⟨ag,m,vag,ks⟩:=q
 exact zrY h

def zux (q:MQ) (ok:Bool) (o:Option (List Int)):Value :=
 match ok with
 | true=>.tuple #[zde q.2.2.1 q.2.2.2 o,.bool o.isSome]
 | false=>zde q.2.2.1 q.2.2.2 o
theorem zgW {t kt vt b : Nat} {q : MQ} {ok : Bool} {F : List Int → Option (List Int)} {k : Nat} {es : Array MapEntry} {clock : Nat} (hu : P.underlying t = some (.map kt vt)) (E0 : znC P kt vt = some q)
    (hheap:w.heap[b]? = some (.map es clock)) (hm:moE q k F es clock) {c:List Int} (hc:c.length=q.2.1) :
    (Instr.lookup t (.map (some b)) (zbb q.1 c) ok).run P w=.ok (zux q ok (F c)) w:=by
  obtain ⟨en,M⟩:=hm
  have E:=zih E0
  have hck:=zd5 (P:=P) (w:=w) 8 kt q.2.1 q.1 es.isEmpty E.key E.kag 9992 c hc
  rw [M.find c hc]
  rcases zpj (w:=w) E M.ents (fun x hx=>(M.len x hx).1) M.nodup hc with ⟨h1,h2,_⟩ | ⟨j,e,v,h1,_,_,_,h2⟩
  · rw [h2]
    simp only [Instr.lookup,Sem.run_bind,run_underlying hu,Result.andThen_ok,MapKept.run_getObj_map hheap,Sem.run_pure,hck,h1,E.zero w]
    cases ok <;> rfl
  · rw [h2]
    simp only [Instr.lookup,Sem.run_bind,run_underlying hu,Result.andThen_ok,MapKept.run_getObj_map hheap,Sem.run_pure,hck,h1]
    cases ok <;> rfl
theorem zpk {t kt vt : Nat} {q : MQ} {ok : Bool} (hu : P.underlying t = some (.map kt vt)) (E0 : znC P kt vt = some q) {c : List Int} (hc : c.length = q.2.1) :
  (Instr.lookup t (.map none) (zbb q.1 c) ok).run P w=.ok (zux q ok none) w:=by
 have E:=zih E0
 have hck:=zd5 (P:=P) (w:=w) 8 kt q.2.1 q.1 true E.key E.kag 9992 c hc
 have hck:(Instr.checkKey (#[]:Array MapEntry).isEmpty 10000 kt (zbb q.1 c)).run P w=.ok () w:=hck
 have hfk:(Instr.findKey kt (zbb q.1 c) (#[]:Array MapEntry).toList).run P w=.ok none w:=by
  rcases zpj (w:=w) E (es:=#[]) (en:=[]) rfl (fun x hx=>by simp at hx) List.nodup_nil hc with ⟨h1,_⟩ | ⟨j,e,v,_,h2,_⟩
  ·exact h1
  ·simp at h2
 simp only [Instr.lookup,Sem.run_bind,run_underlying hu,Result.andThen_ok,Sem.run_pure,hck,hfk,E.zero w]
 cases ok <;> rfl

theorem zi5 {o : Oper} {t : TypeId} {x y : Operand} {q : MQ} {ok : Bool} {A : OpAct} {F : List Int → Option (List Int)} {fin : DV → OpAct} {fp : List (Nat × Bool)} (S : Sim P nt B w0 h0 g σ a w) (hd : zbu nt o.dst = true) (hop : o.op = .lookup t x y ok)
    (hA:found q (evO σ.env y) ok F fin=A) (hs:A.safe) (hone:q.1=false→q.2.1=1)
    (hst:∀ d,(fin d).safe→zd3 (fin d) i o.dst σ (σ.upd i o.dst fp d [] []))
    (hrun:∀ c d,fin d=A→c.length=q.2.1→(Instr.lookup t (a.eval x) (zbb q.1 c) ok).run P w=.ok (zux q ok (F c)) w) :
    zdw P nt B w0 h0 r n i o A σ a w Q:=by
  unfold found at hA
  split at hA
  · rename_i c hc
    obtain ⟨hyv,hcl⟩:=zuv hc hone (S.ev y)
    split at hA
    · rename_i d hdv
      have hvd:=zBC (g:=g) hdv
      have hlab:=ziA hdv
      cases ok with
      | true =>
        have hr:=hrun c _ hA hcl
        subst hA
        refine zaF S hd (by simp [hop]) (d:=.tup [d,.c (.p (.bool (F c).isSome))]) (v:=zux q true (F c)) (fp:=fp) (hst _ hs) ?_ ?_ ?_
        · simp only [execOp,hop,hyv,Sem.run_bind,hr,Result.andThen_ok,Sem.run_pure]
        · exact ⟨[_,_],rfl,hvd,.bool _,trivial⟩
        · intro M hM
          rw [show zaN (.tup [d,.c (.p (.bool (F c).isSome))])=za5 d ++ ([] ++ []) from rfl,hlab] at hM
          simp at hM
      | false =>
        have hr:=hrun c _ hA hcl
        subst hA
        refine zaF S hd (by simp [hop]) (d:=.one d) (v:=zux q false (F c)) (fp:=fp) (hst _ hs) ?_ hvd ?_
        · simp only [execOp,hop,hyv,Sem.run_bind,hr,Result.andThen_ok,Sem.run_pure]
        · intro M hM
          simp [zaN,hlab] at hM
    · subst hA;exact hs.elim
  · subst hA;exact hs.elim

theorem ztC {o : Oper} {t : TypeId} {x y : Operand} {ok : Bool} {A : OpAct} (S : Sim P nt B w0 h0 g σ a w) (hd : zbu nt o.dst = true) (hop : o.op = .lookup t x y ok)
    (hA:zlf P t (evO σ.env x) (evO σ.env y) ok (lk σ.objs)=A) (hs:A.safe):zdw P nt B w0 h0 r n i o A σ a w Q:=by
  unfold zlf at hA
  split at hA
  · rename_i kt vt L hu hx
    split at hA
    · rename_i q kt' vt' q' k F hE hL
      split at hA
      · rename_i hcond
        obtain ⟨rfl,rfl,rfl⟩:=hcond
        have E:=zih hE
        obtain ⟨hxv,_⟩:=zbm S hx
        have hxv:a.eval x=.map (some (g.bk L)):=hxv
        obtain ⟨es,clock,hheap,_,hm⟩:=S.obj L _ hL
        exact zi5 (fp:=[(L,false)]) S hd hop hA hs (zbX E.key E.kag) (fun d _=>rfl) fun c d _ hc=>by rw [hxv];exact zgW hu hE hheap hm hc
      · subst hA;exact hs.elim
    · subst hA;exact hs.elim
  · rename_i kt vt L ii hu hx
    split at hA
    · rename_i q te bb kt' vt' q' len mk nn F hE hL
      split at hA
      · rename_i hcond
        obtain ⟨rfl,rfl,rfl⟩:=hcond
        have E:=zih hE
        obtain ⟨⟨hxv,b,hxb⟩,_⟩:=zbm S hx
        obtain ⟨_,_,_,hel,_⟩:=S.obj L _ hL
        refine zi5 (fp:=[(L,false)]) S hd hop hA hs (zbX E.key E.kag) (fun d _=>rfl) fun c d hfin hc=>?_
        have hlt:ii < len:=by rw [← hfin] at hs;exact hs
        cases hmk:mk ii with
        | true =>
          obtain ⟨b',es,clock,e1,e2,e3⟩:=(hel ii hlt).1 hmk
          rw [hxv,e1]
          exact zgW hu hE e2 e3 hc
        | false =>
          have:=((hel ii hlt).2 hmk).1
          rw [hxv,this] at hxb
          cases hxb
      · subst hA;exact hs.elim
    · subst hA;exact hs.elim
  · rename_i kt vt q' n' F hu hx
    split at hA
    · rename_i q hE
      split at hA
      · rename_i hcond
        subst hcond
        have E:=zih hE
        have hp:=zbW S hx
        refine zi5 (fp:=[]) S hd hop hA hs (zbX E.key E.kag) (fun d _=>rfl) fun c d _ hc=>?_
        generalize hv:a.eval x=v at hp
        cases hp with
        | fmn _ _ hF=>rw [hF c hc];exact zpk hu hE hc
        | fm _ _ _ b es clock hb hm=>exact zgW hu hE (S.hw.fz hb) hm hc
      · subst hA;exact hs.elim
    · subst hA;exact hs.elim
  · subst hA;exact hs.elim

theorem znO {c : List Int} (v : List Int) : ∀ {en : List (List Int × List Int)}, zdP c en = none → ∀ c', zdP c' (en ++ [(c, v)]) = if c' = c then some v else zdP c' en
  | [],_,c'=>by
    simp only [List.nil_append,zdP]
    by_cases h:c=c'
    · subst h;simp
    · rw [if_neg h,if_neg (fun e=>h e.symm)]
  | (k,u) :: r,hn,c'=>by
    simp only [zdP] at hn
    split at hn
    · cases hn
    · rename_i hkc
      simp only [List.cons_append,zdP]
      by_cases h:k=c'
      · subst h
        rw [if_pos rfl,if_pos rfl,if_neg hkc]
      · rw [if_neg h, if_neg h]
        exact znO v hn c'
theorem znP {c v v' : List Int} : ∀ {en : List (List Int × List Int)} {j : Nat}, (en.map (·.1)).Nodup → en[j]? = some (c, v) → ∀ c', zdP c' (en.set j (c, v')) = if c' = c then some v' else zdP c' en
  | [],j,_,h,_=>by simp at h
  | (k,u) :: r,j,hn,h,c'=>by
    simp only [List.map_cons,List.nodup_cons] at hn
    cases j with
    | zero =>
      simp only [List.getElem?_cons_zero,Option.some.injEq,Prod.mk.injEq] at h
      obtain ⟨rfl,rfl⟩:=h
      simp only [List.set_cons_zero,zdP]
      by_cases h:k=c'
      · subst h;simp
      · rw [if_neg h,if_neg (fun e=>h e.symm),if_neg h]
    | succ j =>
      simp only [List.getElem?_cons_succ] at h
      have hkc:k ≠ c:=fun e=>hn.1 (List.mem_map.2 ⟨_,List.mem_of_getElem? h,e.symm⟩)
      simp only [List.set_cons_succ,zdP]
      by_cases h2:k=c'
      · subst h2
        rw [if_pos rfl,if_pos rfl,if_neg hkc]
      · rw [if_neg h2, if_neg h2]
        exact znP hn.2 h c'
theorem zuy (c v:List Int) (F:List Int→Option (List Int)) (x:List Int):zle c v F x=if x=c then some v else F x:=by
 unfold zle
 by_cases h:x=c <;> simp [h]

theorem zgg : ∀ {ks : List (Option IntKind)} {cs : List Cl} {l : List Int}, zf8 ks cs = some l → l.length = ks.length
  | [],[],l,h=>by simp [zf8] at h;subst h;rfl
  | [],_ :: _,l,h=>by simp [zf8] at h
  | k :: ks,[],l,h=>by cases k <;> simp [zf8] at h
  | k :: ks,c :: cs,l,h=>by
    unfold zf8 at h
    split at h
    · rename_i e1 e2;cases e1
    · rename_i k' ks' k2 x r e1 e2
      simp only [List.cons.injEq] at e1 e2
      obtain ⟨rfl,rfl⟩:=e1
      obtain ⟨rfl,rfl⟩:=e2
      split at h
      · split at h
        · rename_i l' hl'
          simp only [Option.some.injEq] at h
          subst h
          simp [zgg hl']
        · cases h
      · cases h
    · rename_i ks' b r e1 e2
      simp only [List.cons.injEq] at e1 e2
      obtain ⟨rfl,rfl⟩:=e1
      obtain ⟨rfl,rfl⟩:=e2
      split at h
      · rename_i l' hl'
        simp only [Option.some.injEq] at h
        subst h
        simp [zgg hl']
      · cases h
    · cases h

theorem znQ {t kt vt b : Nat} {q : MQ} {F : List Int → Option (List Int)} {k : Nat} {es : Array MapEntry} {clock : Nat} (hu : P.underlying t = some (.map kt vt)) (E0 : znC P kt vt = some q)
    (hheap:w.heap[b]? = some (.map es clock)) (hm:moE q k F es clock) {c:List Int} (hc:c.length=q.2.1) (l:List Int) (hll:l.length=q.2.2.2.length) :
    ∃ es' clock',(Instr.mapUpdate t (.map (some b)) (zbb q.1 c) (zde q.2.2.1 q.2.2.2 (some l))).run P w=.ok () { w with heap:=w.heap.setIfInBounds b (.map es' clock') }∧moE q (addN (F c) k) (zle c l F) es' clock':=by
  obtain ⟨ag,m,vag,ks⟩:=q
  obtain ⟨en,h1',h2',hen,hl,hn,hF,hsz,hbo,hbn⟩:=hm
  simp only at h1' h2' hen hl hn hF hc hll ⊢
  have E:=zrY E0
  have hck:=zd5 (P:=P) (w:=w) 8 kt m ag false E.key E.kag 9992 c hc
  rcases zpj (w:=w) E hen (fun x hx=>(hl x hx).1) hn hc with ⟨h1,h2,h3⟩ | ⟨j,e,v,h1,h2,h3,h4,h5⟩
  · refine ⟨es.push { key := zbb ag c, val := zde vag ks (some l), born := clock }, clock + 1, ?_, en ++ [(c, l)], h1', h2', ?_, ?_, ?_, ?_, ?_, ?_, ?_⟩
    · simp only [Instr.mapUpdate,Sem.run_bind,run_underlying hu,Result.andThen_ok,MapKept.run_getObj_map hheap,hck,h1,MapKept.run_setObj_map _ hheap]
    · rw [Array.toList_push,List.map_append,hen,List.map_append];rfl
    · intro x hx
      rcases List.mem_append.1 hx with hx | hx
      · exact hl x hx
      · simp only [List.mem_singleton] at hx;subst hx;exact ⟨hc,hll⟩
    · rw [List.map_append, List.nodup_append]
      refine ⟨hn,by simp,fun a ha b hb e=>?_⟩
      simp only [List.map_cons,List.map_nil,List.mem_singleton] at hb
      obtain ⟨x,hx,hxa⟩:=List.mem_map.1 ha
      exact h3 x hx (by rw [hxa,e,hb])
    · intro c' hc'
      rw [zuy,znO l h2,hF c' hc']
    · rw [hF c hc,h2,hsz];simp [addN]
    · intro x hx
      rw [Array.toList_push] at hx
      rcases List.mem_append.1 hx with hx | hx
      · exact Nat.lt_succ_of_lt (hbo x hx)
      · simp only [List.mem_singleton] at hx;subst hx;exact Nat.lt_succ_self _
    · rw [Array.toList_push, List.map_append, List.nodup_append]
      refine ⟨hbn,by simp,fun a ha b hb e=>?_⟩
      simp only [List.map_cons,List.map_nil,List.mem_singleton] at hb
      obtain ⟨x,hx,hxa⟩:=List.mem_map.1 ha
      have:=hbo x hx
      omega
  · have hmod:(es.modify j fun e=>{ e with key:=zbb ag c,val:=zde vag ks (some l) }).toList=es.toList.set j { e with key:=zbb ag c,val:=zde vag ks (some l) }:=by
      rw [Array.toList_modify]
      have h2':es.toList[j]? = some e:=by simpa using h2
      obtain ⟨hj,he⟩:=List.getElem?_eq_some_iff.1 h2'
      apply List.ext_getElem?
      intro q
      rw [List.getElem?_modify,List.getElem?_set]
      by_cases hq:j=q
      · subst hq
        rw [h2']
        have hj':j < es.size:=by simpa using hj
        simp [hj']
      · simp [hq]
    have hen':es.toList.map (fun e=>(e.key,e.val))=en.map (fun x=>(zbb ag x.1,zde vag ks (some x.2))):=hen
    refine ⟨es.modify j fun e=>{ e with key:=zbb ag c,val:=zde vag ks (some l) },clock,?_,en.set j (c,l),h1',h2',?_,?_,?_,?_,?_,?_,?_⟩
    · have hkey : ((es[j]?).map (·.key)).getD (zbb ag c) = zbb ag c := by rw [h2]; simp [h4]
      have hst:(Instr.keyThatStays (zbb ag c) (zbb ag c)).run P w=.ok (zbb ag c) w:=by
        simp [Instr.keyThatStays,ztB]
      simp only [Instr.mapUpdate,Sem.run_bind,run_underlying hu,Result.andThen_ok,MapKept.run_getObj_map hheap,hck,h1,hkey,hst,MapKept.run_setObj_map _ hheap]
    · rw [hmod,List.map_set,List.map_set,hen']
    · intro x hx
      rcases List.mem_or_eq_of_mem_set hx with hx | rfl
      · exact hl x hx
      · exact ⟨hc,hll⟩
    · rw [List.map_set]
      rw [show (en.map (·.1)).set j c=en.map (·.1) from ?_]
      · exact hn
      · have : (en.map (·.1))[j]? = some c := by simp [h3]
        obtain ⟨hj,he⟩:=List.getElem?_eq_some_iff.1 this
        apply List.ext_getElem?
        intro q
        rw [List.getElem?_set]
        by_cases hq:j=q
        · subst hq;rw [this];simp;simpa using hj
        · simp [hq]
    · intro c' hc'
      rw [zuy,znP hn h3,hF c' hc']
    · rw [hF c hc,h5,List.length_set,hsz];rfl
    · intro x hx
      rw [hmod] at hx
      rcases List.mem_or_eq_of_mem_set hx with hx | rfl
      · exact hbo x hx
      · exact hbo e (List.mem_of_getElem? (by simpa using h2))
    · rw [hmod, List.map_set]
      rw [show (es.toList.map (·.born)).set j e.born=es.toList.map (·.born) from ?_]
      · exact hbn
      · have : (es.toList.map (·.born))[j]? = some e.born := by simp [h2]
        obtain ⟨hj,he⟩:=List.getElem?_eq_some_iff.1 this
        apply List.ext_getElem?
        intro q
        rw [List.getElem?_set]
        by_cases hq:j=q
        · subst hq;rw [this];simp;simpa using hj
        · simp [hq]

theorem zuz {o : Oper} {t : TypeId} {x y z : Operand} {A : OpAct} (S : Sim P nt B w0 h0 g σ a w) (hd : zbu nt o.dst = true) (hop : o.op = .mapUpdate t x y z)
    (hA:zts P t (evO σ.env x) (evO σ.env y) (evO σ.env z) (lk σ.objs)=A) (hs:A.safe):zdw P nt B w0 h0 r n i o A σ a w Q:=by
  unfold zts at hA
  split at hA
  · rename_i kt vt L hu hx
    split at hA
    · rename_i q kt' vt' q' k F hE hL
      split at hA
      · rename_i c dv hc hz
        split at hA
        · rename_i l hl
          split at hA
          · rename_i hcond
            obtain ⟨rfl,rfl,rfl,hag⟩:=hcond
            subst hA
            have E:=zih hE
            obtain ⟨hxv,_⟩:=zbm S hx
            have hxv:a.eval x=.map (some (g.bk L)):=hxv
            obtain ⟨hyv,hcl⟩:=zuv hc (zbX E.key E.kag) (S.ev y)
            have hzv:a.eval z=zde q'.2.2.1 q'.2.2.2 (some l):=zuw hl hag (by have:=S.ev z;rw [hz] at this;exact this)
            obtain ⟨es,clock,hheap,_,hm⟩:=S.obj L _ hL
            obtain ⟨es',clock',hrun,hm'⟩:=znQ (P:=P) hu hE hheap hm hcl l (zgg hl)
            have hlt:=(Array.getElem?_eq_some_iff.1 hheap).1
            have hB:=(S.own L _ (g.bk L) hL rfl).1
            refine zfH (by simp [hop]) (w':={ w with heap:=w.heap.setIfInBounds (g.bk L) (.map es' clock') }) ?_ ⟨g,_,rfl,?_⟩
            · simp only [execOp,hop,hxv,hyv,hzv,Sem.run_bind,hrun,Result.andThen_ok,Sem.run_pure]
            · rw [zbi]
              have hoth:∀ b,¬ (g.bk L=b)→(w.heap.setIfInBounds (g.bk L) (Obj.map es' clock'))[b]? = w.heap[b]?:=fun b hb=>by rw [Array.getElem?_setIfInBounds,if_neg hb]
              have S' := S.write (o' := .mo kt' vt' q' (addN (F c) k) (zle c l F)) (w' := { w with heap := w.heap.setIfInBounds (g.bk L) (.map es' clock') }) hL (fun b hb => hb)
                (zfo hB (by simp) (fun q hq=>hoth q fun e=>hq e.symm) rfl rfl rfl rfl) (fun b hb=>hoth b hb)
                ⟨es',clock',by show (w.heap.setIfInBounds (g.bk L) _)[g.bk L]? = _;simp [hlt],hE,hm'⟩ (fun M hM=>by simp [zbB] at hM)
              exact S'.put (d:=.junk) hd trivial (fun M hM=>by simp [zaN,za5,zav] at hM) _
          · subst hA;exact hs.elim
        · subst hA;exact hs.elim
      · subst hA;exact hs.elim
    · subst hA;exact hs.elim
  · rename_i kt vt L ii hu hx
    split at hA
    · rename_i q te bb kt' vt' q' len mk nn F hE hL
      split at hA
      · rename_i c dv hc hz
        split at hA
        · rename_i l hl
          split at hA
          · rename_i hcond
            obtain ⟨rfl,rfl,rfl,hag⟩:=hcond
            subst hA
            have hlt:ii < len:=hs
            have E:=zih hE
            obtain ⟨⟨hxv,b,hxb⟩,_⟩:=zbm S hx
            obtain ⟨hyv,hcl⟩:=zuv hc (zbX E.key E.kag) (S.ev y)
            have hzv:a.eval z=zde q'.2.2.1 q'.2.2.2 (some l):=zuw hl hag (by have:=S.ev z;rw [hz] at this;exact this)
            obtain ⟨_,hinf,hrow,hel,hsep⟩:=S.obj L _ hL
            have hmk:mk ii=true:=by
              cases hmk:mk ii with
              | true=>rfl
              | false=>have:=((hel ii hlt).2 hmk).1;rw [hxv,this] at hxb;cases hxb
            obtain ⟨b',es,clock,e1,hheap,hm⟩:=(hel ii hlt).1 hmk
            rw [hxv,e1] at hxb
            simp only [Value.map.injEq,Option.some.injEq] at hxb
            subst hxb
            obtain ⟨es',clock',hrun,hm'⟩:=znQ (P:=P) hu hE hheap hm hcl l (zgg hl)
            have hblt:=(Array.getElem?_eq_some_iff.1 hheap).1
            have hob:obk g L (.vm te bb kt' vt' q' len mk nn F) b':=.inr ⟨ii,hlt,e1⟩
            have hB:=(S.own L _ b' hL hob).1
            refine zfH (by simp [hop]) (w':={ w with heap:=w.heap.setIfInBounds b' (.map es' clock') }) ?_ ⟨g,_,rfl,?_⟩
            · simp only [execOp,hop,hxv,e1,hyv,hzv,Sem.run_bind,hrun,Result.andThen_ok,Sem.run_pure]
            · rw [zbi]
              have hoth:∀ b,b ≠ b'→(w.heap.setIfInBounds b' (Obj.map es' clock'))[b]? = w.heap[b]?:=fun b hb=>by rw [Array.getElem?_setIfInBounds,if_neg (fun e=>hb e.symm)]
              have S' := S.write (o' := .vm te bb kt' vt' q' len mk (zcR ii (addN (F ii c) (nn ii)) nn) (zcR ii (zle c l (F ii)) F)) (w' := { w with heap := w.heap.setIfInBounds b' (.map es' clock') }) hL (fun b hb => hb)
                (zfo hB (by simp) hoth rfl rfl rfl rfl) (fun b hb=>hoth b fun e=>hb (by rw [e];exact hob))
                ⟨hE,hinf,zbf hrow fun k hk=>hoth k fun e=>by rw [e] at hk;exact (hsep ii b' hlt e1).1 hk,fun j hj=>by
                  by_cases e:j=ii
                  · subst e
                    have x2:zcR j (addN (F j c) (nn j)) nn j=addN (F j c) (nn j):=by simp [zcR]
                    have x3:zcR j (zle c l (F j)) F j=zle c l (F j):=by simp [zcR]
                    rw [x2,x3]
                    exact ⟨fun _=>⟨b',es',clock',e1,by show (w.heap.setIfInBounds b' _)[b']? = _;simp [hblt],hm'⟩,fun h=>by rw [hmk] at h;cases h⟩
                  · have hbf : Nat.beq j ii = false := by cases hq : Nat.beq j ii with | true => exact absurd (Nat.eq_of_beq_eq_true hq) e | false => rfl
                    have x2:zcR ii (addN (F ii c) (nn ii)) nn j=nn j:=by simp only [zcR,hbf]
                    have x3:zcR ii (zle c l (F ii)) F j=F j:=by simp only [zcR,hbf]
                    rw [x2,x3]
                    refine ⟨fun h=>?_,(hel j hj).2⟩
                    obtain ⟨b2,es2,cl2,y1,y2,y3⟩:=(hel j hj).1 h
                    refine ⟨b2,es2,cl2,y1,?_,y3⟩
                    rw [hoth b2 fun e2=>e ((hsep ii b' hlt e1).2 j hj (by rw [← e2];exact y1)).symm];exact y2,hsep⟩ (fun M hM=>by simp [zbB] at hM)
              exact S'.put (d:=.junk) hd trivial (fun M hM=>by simp [zaN,za5,zav] at hM) _
          · subst hA;exact hs.elim
        · subst hA;exact hs.elim
      · subst hA;exact hs.elim
    · subst hA;exact hs.elim
  · subst hA;exact hs.elim

theorem Sim.newMo (S : Sim P nt B w0 h0 g σ a w) {t kt vt : Nat} {q : MQ} (ht : lk σ.objs t = none) (hE : znC P kt vt = some q) :
  Sim P nt B w0 h0 (g.setBk t w.heap.size) { σ with objs:=(t,.mo kt vt q 0 (fun _=>none)) :: σ.objs } a (w.alloc (.map #[] 0)):=by
 have hne:∀ L o,lk σ.objs L=some o→L ≠ t:=fun L o h e=>by subst e;rw [ht] at h;cases h
 have hsame:∀ L o,lk σ.objs L=some o→zcB g (g.setBk t w.heap.size) L:=fun L o h=>⟨by simp [Gh.setBk,hne L o h],rfl,rfl⟩
 have hold:∀ b,b < w.heap.size→(w.alloc (.map #[] 0)).heap[b]? = w.heap[b]?:=fun b hb=>heap_alloc_old w _ b hb
 have hlk:∀ L o,lk ((t,AO.mo kt vt q 0 (fun _=>none)) :: σ.objs) L=some o→(L=t∧o=.mo kt vt q 0 (fun _=>none))∨(L ≠ t∧lk σ.objs L=some o):=by
  intro L o h
  rw [zak] at h
  split at h
  ·rename_i e;simp at h;exact .inl ⟨e.symm,h.symm⟩
  ·rename_i e;exact .inr ⟨fun e'=>e e'.symm,h⟩
 have hobkb:∀ L o b,lk σ.objs L=some o→obk (g.setBk t w.heap.size) L o b→obk g L o b:=fun L o b ho hob=>Eq.mp (congrFun (zaZ (hsame L o ho)) _) hob
 refine S.change (g':=g.setBk t w.heap.size) hsame (fun _ _ h=>h) ?_ (fun b o h=>.inl h) (Bel.of ⟨(Below.refl B w).alloc S.bs _,Nat.le_refl _⟩) ?_ ?_ ?_ ?_ ?_
 ·exact S.hw.same fun b o h=>hold b (zfF S.hw h)
 ·intro L o ho
  rcases hlk L o ho with ⟨rfl,rfl⟩ | ⟨_,ho⟩
  ·have E := zih hE
   exact ⟨#[],0,by show (w.alloc _).heap[(if _ then w.heap.size else _)]? = _;rw [if_pos rfl];exact heap_alloc_new w _,hE,[],zbX E.key E.kag,E.one,rfl,fun x hx=>by simp at hx,List.nodup_nil,fun c _=>rfl,rfl,fun e he=>by simp at he,by simp⟩
  ·refine zb6 (S.obj L o ho) (hsame L o ho) (fun M hM => ?_) (fun _ _ h => h) (fun b hob => hold b (zca (S.obj L o ho) hob))
   obtain ⟨o',ho'⟩:=S.clO L o ho M hM
   exact hsame M o' ho'
 ·intro L o b ho hob
  rcases hlk L o ho with ⟨rfl,rfl⟩ | ⟨_,ho⟩
  ·simp [obk, Gh.setBk] at hob; subst hob
   refine ⟨S.bs,?_⟩
   cases hh:g.h w.heap.size with
   | none=>exact hh
   | some x=>exact absurd (zfF S.hw hh) (by omega)
  ·exact S.own L o b ho (hobkb L o b ho hob)
 ·intro L o b L' o' ho ho' hob hob'
  rcases hlk L o ho with ⟨rfl,rfl⟩ | ⟨hn,ho2⟩ <;> rcases hlk L' o' ho' with ⟨rfl,rfl⟩ | ⟨hn',ho2'⟩
  ·rfl
  ·simp [obk, Gh.setBk] at hob; subst hob
   exact absurd (zca (S.obj L' o' ho2') (hobkb _ _ _ ho2' hob')) (by omega)
  ·simp [obk, Gh.setBk] at hob'; subst hob'
   exact absurd (zca (S.obj L o ho2) (hobkb _ _ _ ho2 hob)) (by omega)
  ·exact S.sep L o b L' o' ho2 ho2' (hobkb _ _ _ ho2 hob) (hobkb _ _ _ ho2' hob')
 ·intro L o ho
  refine ⟨o,?_⟩
  rw [zak,if_neg (fun e=>hne L o ho e.symm)];exact ho
 ·intro L o ho M hM
  have fin:∀ M o,lk σ.objs M=some o→∃ o',lk ((t,AO.mo kt vt q 0 (fun _=>none)) :: σ.objs) M=some o':=fun M o h=>⟨o,by rw [zak,if_neg (fun e=>hne M o h e.symm)];exact h⟩
  rcases hlk L o ho with ⟨rfl,rfl⟩ | ⟨_,ho⟩
  ·simp [zbB] at hM
  ·obtain ⟨o',ho'⟩:=S.clO L o ho M hM;exact fin M o' ho'

theorem ztD {o : Oper} {t kt vt : TypeId} {q : MQ} {A : OpAct} (S : Sim P nt B w0 h0 g σ a w) (hd : zbu nt o.dst = true) (hop : o.op = .makeMap t none) (hE : znC P kt vt = some q)
    (hA:zo5 (lk σ.objs) o.dst (.mo kt vt q 0 (fun _=>none)) (fun t=>.cl (.mo t))=A) (hs:A.safe):zdw P nt B w0 h0 r n i o A σ a w Q:=by
  unfold zo5 at hA
  split at hA
  · rename_i L hL
    split at hA
    · rename_i hlk
      subst hA
      have S':=S.newMo (kt:=kt) (vt:=vt) hlk hE
      refine zdv (by simp [hop]) (v:=.map (some w.heap.size)) (w':=w.alloc (.map #[] 0)) ?_ ⟨g.setBk L w.heap.size,_,rfl,?_⟩
      · simp [execOp,hop,Instr.makeMap]
      · rw [zbi]
        refine S'.put (σ:={ σ with objs:=(L,AO.mo kt vt q 0 (fun _=>none)) :: σ.objs }) hd (d:=.cl (.mo L)) ?_ ?_ _
        · simp [dvR,d1R,clR,Gh.setBk]
        · intro M hM
          simp [zaN,za5,zav] at hM
          subst hM
          exact ⟨_,by rw [zak,if_pos rfl]⟩
    · subst hA;exact hs.elim
  · subst hA;exact hs.elim
end
end Go.Pm
namespace Go.Pm
open Go.RowKit (Below)

section
variable {P:Program} {Γ:Ctrs} {nt B:Nat} {w0:World} {h0:Fz} {g:Gh} {σ:St} {a:Act} {w:World} {r:Option Nat} {n i:Nat} {Q:Exit→Act→World→Prop}

theorem zzT {h : Fz} {n s l k : Nat} {get : Nat → List PV} {v : Value} (hr : Rep h (.sl n s get) v) (hl : l ≤ k) (hk : k ≤ n) :
  ∃ a len cap,v=.slice a len cap∧len=n∧len≤cap∧Rep h (.sl (k - l) s (slG get l)) (sliced a l k cap s):=by
 cases hr with
 | sl0=>exact ⟨none,0,0,rfl,rfl,Nat.le_refl _,by
   obtain rfl:k=0:=by omega
   obtain rfl:l=0:=by omega
   exact .sl0 _ _⟩
 | sle _ _ a cap=>exact ⟨some a,0,cap,rfl,rfl,Nat.zero_le _,by
   obtain rfl:k=0:=by omega
   obtain rfl:l=0:=by omega
   unfold sliced
   split
   ·exact .sle _ _ _ _
   ·exact .sle _ _ _ _⟩
 | sl _ _ _ b o cap C ty fr vs hb hcap hlen hc hr =>
  refine ⟨_,n,cap,rfl,rfl,hcap,?_⟩
  unfold sliced
  by_cases hkl:k - l=0
  ·rw [hkl]
   split
   ·exact .sle _ _ _ _
   ·exact .sle _ _ _ _
  ·rw [if_neg (by omega)]
   simp only [Option.map_some,addr_add]
   refine .sl (k - l) s (slG get l) b (o+l * s) (cap - l) C ty fr (fun i=>vs (i+l)) hb (by omega) (fun i hi=>hlen (i+l) (by omega)) (fun i j x hi hj=>?_) (fun i j x hi hj=>hr (i+l) j x (by omega) hj)
   have:=hc (i+l) j x (by omega) hj
   rw [Nat.add_mul] at this
   rw [show o+l * s+i * s+j=o+(i * s+l * s)+j by omega]
   exact this

theorem zrZ (S:Sim P nt B w0 h0 g σ a w) {x:Option Operand} {j:Option Int} (h:ztt (evO σ.env) x=some j):(j=none∧x.map a.eval=none)∨∃ k q,j=some q∧x.map a.eval=some (.int k q):=by
 cases x with
 | none=>simp only [ztt,Option.some.injEq] at h;exact .inl ⟨h.symm,rfl⟩
 | some x =>
  simp only [ztt] at h
  split at h
  ·rename_i k q hx
   simp only [Option.some.injEq] at h
   exact .inr ⟨k,q,h.symm,by rw [Option.map_some,zcp S hx]⟩
  ·cases h

theorem zuA {o : Oper} {t : TypeId} {x : Operand} {lo hi : Option Operand} {A : OpAct} (S : Sim P nt B w0 h0 g σ a w) (hd : zbu nt o.dst = true) (hop : o.op = .slice t x lo hi none)
    (hA:ziy P t (evO σ.env x) (ztt (evO σ.env) lo) (ztt (evO σ.env) hi)=A) (hs:A.safe):zdw P nt B w0 h0 r n i o A σ a w Q:=by
  unfold ziy at hA
  split at hA
  · rename_i e m s get lo' hi' hu hx hlo hhi
    split at hA
    · rename_i q hq
      split at hA
      · rename_i hb
        have hsq:=Nat.eq_of_beq_eq_true hb
        subst hsq
        subst hA
        obtain ⟨h1,h2,h3⟩:0≤lo'.getD 0∧lo'.getD 0≤hi'.getD (m:Int)∧hi'.getD (m:Int)≤(m:Int):=hs
        have hv:=zbW S hx
        obtain ⟨ad,len,cap,hav,hlen,hcap,hr⟩:=zzT (l:=(lo'.getD 0).toNat) (k:=(hi'.getD (m:Int)).toNat) hv (by omega) (by omega)
        subst hlen
        have hue:P.underlying t=some (.slice (P.elem t)):=by simp [Program.elem,hu]
        have hel:P.elem t=e:=by simp [Program.elem,hu]
        have hsz:=run_sizeOf (w:=w) hq
        have hrun:(Instr.slice t (a.eval x) (lo.map a.eval) (hi.map a.eval) none).run P w=.ok (sliced ad (lo'.getD 0).toNat (hi'.getD (len:Int)).toNat cap s) w:=by
          rw [hav,run_slice_any w t ad len cap hue,hel]
          have hb:(Instr.sliceBounds true len cap (lo.map a.eval) (hi.map a.eval) none).run P w=.ok ((lo'.getD 0).toNat,(hi'.getD (len:Int)).toNat,cap) w:=by
            rcases zrZ S hlo with ⟨rfl,e1⟩ | ⟨k1,q1,rfl,e1⟩ <;> rcases zrZ S hhi with ⟨rfl,e2⟩ | ⟨k2,q2,rfl,e2⟩ <;> rw [e1,e2] <;> simp only [Option.getD_some,Option.getD_none] at h1 h2 h3 ⊢
            · simp [Instr.sliceBounds]
            · simp [Instr.sliceBounds,run_sliceBound w k2 q2 cap _ (by omega) (by omega)]
            · simp [Instr.sliceBounds,run_sliceBound w k1 q1 len _ (by omega) (by omega)]
            · simp [Instr.sliceBounds,run_sliceBound w k2 q2 cap _ (by omega) (by omega),run_sliceBound w k1 q1 q2.toNat _ (by omega) (by omega)]
          rw [hb]
          simp only [Result.andThen_ok,hsz]
        refine zaF S hd (by simp [hop]) (d:=.p (.sl (hi'.getD (len:Int) - lo'.getD 0).toNat s (slG get (lo'.getD 0).toNat))) (v:=sliced ad (lo'.getD 0).toNat (hi'.getD (len:Int)).toNat cap s) (fp:=[]) rfl ?_ ?_ (zcZ _)
        · simp [execOp,hop,Instr.sliceAt,run_underlying hu,hrun]
        · rw [show (hi'.getD (len : Int) - lo'.getD 0).toNat = (hi'.getD (len : Int)).toNat - (lo'.getD 0).toNat by omega]
          exact hr
      · subst hA;exact hs.elim
    · subst hA;exact hs.elim
  · subst hA;exact hs.elim
end
end Go.Pm
namespace Go.Pm
open Go.RowKit (Below)

section
variable {P:Program} {Γ:Ctrs} {nt B:Nat} {w0:World} {h0:Fz} {g:Gh} {σ:St} {a:Act} {w:World} {r:Option Nat} {n i:Nat} {Q:Exit→Act→World→Prop}

theorem Sim.newObj (S : Sim P nt B w0 h0 g σ a w) {t : Nat} {o : AO} {g' : Gh} {w' : World} (ht : lk σ.objs t = none) (hh : g'.h = g.h) (hs : ∀ M, M ≠ t → zcB g g' M)
    (hb:BelD B w w') (hold:∀ b,b < w.heap.size→w'.heap[b]? = w.heap[b]?) (hv:∀ b,obk g' t o b→w.heap.size≤b) (hlab:zbB o=[]) (hr:aoR P g' w' B t o) :
    Sim P nt B w0 h0 g' { σ with objs:=(t,o) :: σ.objs } a w':=by
  have hne:∀ L o,lk σ.objs L=some o→L ≠ t:=fun L o h e=>by subst e;rw [ht] at h;cases h
  have hsame:∀ L o,lk σ.objs L=some o→zcB g g' L:=fun L o h=>hs L (hne L o h)
  have hlk:∀ L x,lk ((t,o) :: σ.objs) L=some x→(L=t∧x=o)∨(L ≠ t∧lk σ.objs L=some x):=by
    intro L x h
    rw [zak] at h
    split at h
    · rename_i e;simp at h;exact .inl ⟨e.symm,h.symm⟩
    · rename_i e;exact .inr ⟨fun e'=>e e'.symm,h⟩
  have hobkb:∀ L o b,lk σ.objs L=some o→obk g' L o b→obk g L o b:=fun L o b ho hob=>Eq.mp (congrFun (zaZ (hsame L o ho)) _) hob
  have hle:Fle g.h g'.h:=by rw [hh];exact fun _ _ h=>h
  refine S.change (g':=g') hsame hle ?_ (fun b o h=>by rw [hh] at h;exact .inl h) (.of hb) ?_ ?_ ?_ ?_ ?_
  · rw [hh];exact S.hw.same fun b o h=>hold b (zfF S.hw h)
  · intro L x hx
    rcases hlk L x hx with ⟨rfl,rfl⟩ | ⟨_,hx⟩
    · exact hr
    · refine zb6 (S.obj L x hx) (hsame L x hx) (fun M hM => ?_) hle (fun b hob => hold b (zca (S.obj L x hx) hob))
      obtain ⟨o',ho'⟩:=S.clO L x hx M hM
      exact hsame M o' ho'
  · intro L x b' hx hob
    rcases hlk L x hx with ⟨rfl,rfl⟩ | ⟨_,hx⟩
    · have h1 := hv b' hob
      refine ⟨Nat.le_trans S.bs h1,?_⟩
      rw [hh]
      cases hq:g.h b' with
      | none=>rfl
      | some x=>exact absurd (zfF S.hw hq) (by omega)
    · rw [hh];exact S.own L x b' hx (hobkb L x b' hx hob)
  · intro L x b' L' x' hx hx' hob hob'
    rcases hlk L x hx with ⟨rfl,rfl⟩ | ⟨hn,hx2⟩ <;> rcases hlk L' x' hx' with ⟨rfl,rfl⟩ | ⟨hn',hx2'⟩
    · rfl
    · have := hv b' hob
      exact absurd (zca (S.obj L' x' hx2') (hobkb _ _ _ hx2' hob')) (by omega)
    · have := hv b' hob'
      exact absurd (zca (S.obj L x hx2) (hobkb _ _ _ hx2 hob)) (by omega)
    · exact S.sep L x b' L' x' hx2 hx2' (hobkb _ _ _ hx2 hob) (hobkb _ _ _ hx2' hob')
  · intro L o ho
    refine ⟨o,?_⟩
    rw [zak,if_neg (fun e=>hne L o ho e.symm)];exact ho
  · intro L x hx M hM
    rcases hlk L x hx with ⟨rfl,rfl⟩ | ⟨_,hx⟩
    · rw [hlab] at hM;simp at hM
    · obtain ⟨o', ho'⟩ := S.clO L x hx M hM
      exact ⟨o',by rw [zak,if_neg (fun e=>hne M o' ho' e.symm)];exact ho'⟩

theorem znR {z:Array Value} {s m i:Nat} (hz:z.size=s) (hi:i < m):((madeCells z (m * s)).toList.drop (i * s)).take s=z.toList:=by
 have hii:i * s+s≤m * s:=by have:=Nat.mul_le_mul_right s (Nat.succ_le_of_lt hi);rw [Nat.succ_mul] at this;exact this
 apply List.ext_getElem?
 intro j
 rw [List.getElem?_take]
 split
 ·rename_i hj
  rw [List.getElem?_drop]
  have:(madeCells z (m * s)).toList[i * s+j]? = some z[(i * s+j) % z.size]!:=by
   simp only [madeCells,Array.toList_map,List.getElem?_map]
   rw [Array.toList_range,List.getElem?_range (by omega)]
   rfl
  rw [this,hz,Nat.mul_comm i s,Nat.mul_add_mod,Nat.mod_eq_of_lt hj]
  have hj':j < z.size:=by omega
  simp [hj']
 ·rename_i hj
  rw [List.getElem?_eq_none (by simp;omega)]

theorem zl5 {o : Oper} {t : TypeId} {x y : Operand} {A : OpAct} (S : Sim P nt B w0 h0 g σ a w) (hd : zbu nt o.dst = true) (hop : o.op = .makeSlice t x y)
    (hA:zeO P Γ t (evO σ.env x) (evO σ.env y) o.dst (lk σ.objs)=A) (hs:A.safe):zdw P nt B w0 h0 r n i o A σ a w Q:=by
  unfold zeO at hA
  split at hA
  · rename_i e k1 j k2 j2 dst hu hx hy hdst
    split at hA
    · rename_i ie z hi hz hfresh
      obtain ⟨i',zv,hi2,hzv,hov,hlen⟩:=zdo hz
      rw [hi] at hi2;simp only [Option.some.injEq] at hi2;subst hi2
      have hzs:zv.cells.size=ie.size:=by have:=(zdu (g:=g) _ _ hov).length;simp at this;omega
      have hxv:=zcp S hx
      have hyv:=zcp S hy
      have made:∀ (hs:0≤j∧j=j2∧j≤1000000) (hbytes:ie.bytes≤1000000),∃ w',(execOp a.eval o).run P w=.ok (.value (.slice (some ⟨w.heap.size,0,none⟩) j.toNat j.toNat)) w' ∧
          w'.ownsRow B e ie.size (.slice (some ⟨w.heap.size,0,none⟩) j.toNat j.toNat) j.toNat (madeCells zv.cells (j.toNat * ie.size)).toList∧BelD B w w'∧∀ b,b < w.heap.size→w'.heap[b]? = w.heap[b]?:=by
        intro hs hbytes
        obtain ⟨h0,rfl,h1⟩:=hs
        have hj:j=((j.toNat:Nat):Int):=by omega
        have hmul:ie.bytes * j.toNat≤281474976710656:=Nat.le_trans (Nat.mul_le_mul hbytes (show j.toNat≤1000000 by omega)) (by decide)
        obtain ⟨w',hr,hown,hg⟩:=run_make_full (P:=P) w B t e ie zv ie.size hu hi hzv rfl k1 k2 j.toNat hmul (by simp only [maxLen];omega) S.bs
        refine ⟨w',?_,hown,⟨⟨hg.os,hg.tape,hg.output,hg.size,fun k hk=>hg.block k (Nat.lt_of_lt_of_le hk S.bs) (by simp)⟩,zbC _ _ _ _ hr⟩,fun b hb=>hg.block b hb (by simp)⟩
        rw [← hj] at hr
        simp only [execOp,hop,hxv,hyv,Sem.run_bind,hr,Result.andThen_ok,Sem.run_pure]
      split at hA
      · split at hA
        · rename_i kt vt hum
          split at hA
          · rename_i q hE hcond
            simp only [Bool.and_eq_true,Nat.ble_eq] at hcond
            have hs1:=Nat.eq_of_beq_eq_true hcond.1
            subst hA
            obtain ⟨w',hrun,hown,hbel,hold⟩:=made hs hcond.2
            have hsv:(g.setVv dst (.slice (some ⟨w.heap.size,0,none⟩) j.toNat j.toNat) (fun _=>.map none)).sv dst=.slice (some ⟨w.heap.size,0,none⟩) j.toNat j.toNat:=by simp [Gh.setVv]
            have hiv:(g.setVv dst (.slice (some ⟨w.heap.size,0,none⟩) j.toNat j.toNat) (fun _=>.map none)).iv dst=fun _=>.map none:=by simp [Gh.setVv]
            have hz1:zv.cells.toList=[.map none]:=by
              match hl:zv.cells.toList,hov with
              | [],h=>simp [zcu] at h
              | [v],h =>
                simp only [zcu] at h
                split at h
                · rename_i x' l' h1 h2
                  simp only [Option.some.injEq] at h2;subst h2
                  simp only [Option.some.injEq,List.cons.injEq,Cl.p.injEq,and_true] at h;subst h
                  unfold zid at h1
                  split at h1 <;> simp at h1
                  rfl
                · cases h
              | v :: u :: l,h =>
                simp only [zcu] at h
                split at h
                · rename_i x' l' h1 h2
                  simp only [Option.some.injEq,List.cons.injEq] at h
                  obtain ⟨_,rfl⟩:=h
                  split at h2
                  · simp at h2
                  · cases h2
                · cases h
            have S2 := S.newObj (t := dst) (o := .vm e ie.bytes kt vt q j.toNat (fun _ => false) (fun _ => 0) (fun _ _ => none)) (g' := g.setVv dst (.slice (some ⟨w.heap.size, 0, none⟩) j.toNat j.toNat) (fun _ => .map none)) (w' := w')
              hfresh rfl (fun M hM=>⟨rfl,by simp [Gh.setVv,hM],by simp [Gh.setVv,hM]⟩) hbel hold (fun b hb=>by
                rcases hb with hb | ⟨i,_,hb⟩
                · rw [hsv] at hb;simp only [Value.ownBlock,Option.some.injEq] at hb;omega
                · rw [hiv] at hb;cases hb) rfl (by
              refine ⟨hE,⟨ie,zv,hi,hs1,rfl,hzv,by rw [hzs,hs1]⟩,?_,fun i hi'=>⟨fun h=>absurd h (by simp),fun _=>⟨congrFun hiv i,rfl,fun _ _=>rfl⟩⟩,fun i k _ h=>?_⟩
              rotate_left
              · rw [hiv] at h;cases h
              rw [hsv,hiv]
              rw [hs1] at hown
              have:(madeCells zv.cells (j.toNat * 1)).toList=(List.range j.toNat).map fun _=>Value.map none:=by
                apply List.ext_getElem?
                intro q
                by_cases hq:q < j.toNat
                · have h1 := znR (z := zv.cells) (s := 1) (by rw [hzs, hs1]) hq
                  have h2:=congrArg (fun l=>l[0]?) h1
                  simp only [List.getElem?_take,List.getElem?_drop] at h2
                  rw [if_pos (by decide)] at h2
                  simp only [Nat.mul_one,Nat.add_zero] at h2
                  rw [Nat.mul_one,h2,hz1]
                  simp [hq]
                · rw [List.getElem?_eq_none (by simp [madeCells];omega),List.getElem?_eq_none (by simp;omega)]
              rw [this] at hown
              exact hown)
            refine zdv (by simp [hop]) hrun ⟨g.setVv dst (.slice (some ⟨w.heap.size,0,none⟩) j.toNat j.toNat) (fun _=>.map none),_,rfl,?_⟩
            rw [zbi]
            refine S2.put (v:=.slice (some ⟨w.heap.size,0,none⟩) j.toNat j.toNat) hd (d:=.cl (.vec dst)) ⟨hsv.symm,rfl⟩ ?_ _
            intro M hM
            simp [zaN,za5,zav] at hM
            subst hM
            exact ⟨_,by rw [zak,if_pos rfl]⟩
          · subst hA;exact hs.elim
        · subst hA;exact hs.elim
      · split at hA
        · rename_i l hl
          split at hA
          · rename_i hcond
            simp only [Bool.and_eq_true,Nat.ble_eq] at hcond
            subst hA
            obtain ⟨w',hrun,hown,hbel,hold⟩:=made hs hcond.2
            have hsv:(g.setSv dst (.slice (some ⟨w.heap.size,0,none⟩) j.toNat j.toNat)).sv dst=.slice (some ⟨w.heap.size,0,none⟩) j.toNat j.toNat:=by simp [Gh.setSv]
            have hrl:=zdu (g:=g) _ _ hov
            rw [zd7 hl] at hrl
            have hrl:=RL.map_left.1 hrl
            have S2 := S.newVec (t := dst) (w' := w') (e := e) (s := ie.size) (b := ie.bytes) (n := j.toNat) (get := fun _ => l) (v := .slice (some ⟨w.heap.size, 0, none⟩) j.toNat j.toNat) hfresh hbel hold
              (fun b hb=>by simp [Value.ownBlock] at hb;omega) ⟨by omega,⟨ie,zv,hi,rfl,rfl,hzv,hzs⟩,_,by rw [hsv];exact hown,fun i hi'=>by rw [znR hzs hi'];exact hrl⟩
            refine zdv (by simp [hop]) hrun ⟨g.setSv dst (.slice (some ⟨w.heap.size,0,none⟩) j.toNat j.toNat),_,rfl,?_⟩
            rw [zbi]
            refine S2.put (v:=.slice (some ⟨w.heap.size,0,none⟩) j.toNat j.toNat) hd (d:=.cl (.vec dst)) ⟨hsv.symm,rfl⟩ ?_ _
            intro M hM
            simp [zaN,za5,zav] at hM
            subst hM
            exact ⟨_,by rw [zak,if_pos rfl]⟩
          · subst hA;exact hs.elim
        · subst hA;exact hs.elim
    · subst hA;exact hs.elim
  · subst hA;exact hs.elim

theorem zuB {o : Oper} {t : TypeId} {x : Operand} {A : OpAct} (S : Sim P nt B w0 h0 g σ a w) (hd : zbu nt o.dst = true) (hop : o.op = .range t x)
    (hA:act P Γ o (evO σ.env) (lk σ.objs)=A) (hs:A.safe):zdw P nt B w0 h0 r n i o A σ a w Q:=by
  simp only [act,hop] at hA
  split at hA
  · rename_i q q' m F hq hx
    split at hA
    · rename_i e
      subst e
      unfold zo5 at hA
      split at hA
      · rename_i dst hdst
        split at hA
        · rename_i hfresh
          subst hA
          have hp:=zbW S hx
          have hu:∃ kt vt,P.underlying t=some (.map kt vt):=by
            unfold zHL at hq
            split at hq
            · rename_i kt vt hu;exact ⟨kt,vt,hu⟩
            · cases hq
          obtain ⟨kt,vt,hu⟩:=hu
          have fin:∀ ob:Obj,(Instr.range t (a.eval x)).run P w=.ok (.pointer (some ⟨w.heap.size,0,none⟩)) (w.alloc ob)→zHU g.h (w.alloc ob) w.heap.size q' m F [] →
              zdw P nt B w0 h0 r n i o (.val [(dst,true)] (.cl (.ptr dst 0)) [(dst,.mit q' m F [])] []) σ a w Q:=by
            intro ob hrun hm
            have hbk:(g.setBk dst w.heap.size).bk dst=w.heap.size:=by simp [Gh.setBk]
            have S2 := S.newObj (t := dst) (o := .mit q' m F []) (g' := g.setBk dst w.heap.size) (w' := w.alloc ob) hfresh rfl (fun M hM => ⟨by simp [Gh.setBk, hM], rfl, rfl⟩)
              ⟨(Below.refl B w).alloc S.bs _,Nat.le_refl _⟩ (fun b hb=>heap_alloc_old w _ b hb) (fun b hb=>by simp only [obk,hbk] at hb;omega) rfl (by simp only [aoR,hbk];exact hm)
            refine zdv (by simp [hop]) (v:=.pointer (some ⟨w.heap.size,0,none⟩)) (w':=w.alloc ob) (by simp only [execOp,hop,Sem.run_bind,hrun,Result.andThen_ok,Sem.run_pure]) ⟨g.setBk dst w.heap.size,_,rfl,?_⟩
            rw [zbi]
            refine S2.put (v:=.pointer (some ⟨w.heap.size,0,none⟩)) hd (d:=.cl (.ptr dst 0)) ?_ ?_ _
            · show _ = Value.pointer (some ⟨_, 0, none⟩)
              rw [hbk]
            · intro M hM
              simp [zaN,za5,zav] at hM
              subst hM
              exact ⟨_,by rw [zak,if_pos rfl]⟩
          generalize hv:a.eval x=v at hp
          cases hp with
          | fmn _ _ hF =>
            refine fin (.mapIter none 0 #[] 0) ?_ (.inl ⟨heap_alloc_new w _,rfl,hF,rfl⟩)
            rw [hv]
            simp [Instr.range,run_underlying hu]
          | fm _ _ _ b es clock hb hm =>
            have hheap:=S.hw.fz hb
            obtain ⟨en,hen⟩:=hm
            refine fin (.mapIter (some b) clock #[] clock) ?_ (.inr ⟨b,es,clock,#[],en,hb,hen,heap_alloc_new w _,fun j e x _ _=>by simp,fun c r h=>by cases h⟩)
            rw [hv]
            simp [Instr.range,run_underlying hu,MapKept.run_getObj_map hheap]
        · subst hA;exact hs.elim
      · subst hA;exact hs.elim
    · subst hA;exact hs.elim
  · subst hA;exact hs.elim

theorem find_born {es:List MapEntry} (hn:(es.map (·.born)).Nodup) {j:Nat} {e:MapEntry} (he:es[j]? = some e):es.find? (·.born == e.born)=some e:=by
 induction es generalizing j with
 | nil=>simp at he
 | cons x r ih =>
  simp only [List.map_cons,List.nodup_cons] at hn
  cases j with
  | zero=>simp at he;subst he;simp
  | succ j =>
   simp only [List.getElem?_cons_succ] at he
   have hne:(x.born == e.born)=false:=by
    simp only [beq_eq_false_iff_ne]
    intro h
    exact hn.1 (List.mem_map.2 ⟨e,List.mem_of_getElem? he,h.symm⟩)
   rw [List.find?_cons,hne]
   exact ih hn.2 he

theorem zH3 {q : MQ} {m clock : Nat} {F : List Int → Option (List Int)} {es : Array MapEntry} {en : List (List Int × List Int)} (M : MoE q m F es clock en) {j : Nat} {e : MapEntry} {c v : List Int} (he : es[j]? = some e) (hx : en[j]? = some (c, v)) :
  e.key=zbb q.1 c∧e.val=zde q.2.2.1 q.2.2.2 (some v):=by
 have h:=congrArg (fun l=>l[j]?) M.ents
 have he':es.toList[j]? = some e:=by simpa using he
 simp only [List.getElem?_map,he',hx,Option.map_some,Option.some.injEq,Prod.mk.injEq] at h
 exact h

theorem zi6 {b:Nat} {m:Option Nat} {since:Nat} {sb:Array Nat} {st:Nat} (h:w.heap[b]? = some (.mapIter m since sb st)):(getObj b).run P w=.ok (.mapIter m since sb st) w:=by
 simp [getObj,Sem.run,h]

theorem zH4 {ag:Bool} {c:List Int} {d:D1} (h:zHM ag c=some d):d1R g d (zbb ag c):=by
 unfold zHM at h
 split at h
 ·simp only [Option.some.injEq] at h; subst h
  refine ⟨c.map (Value.int .i64),rfl,?_⟩
  induction c with
  | nil=>trivial
  | cons y l ih=>exact ⟨.int _ _,ih⟩
 ·simp only [Option.some.injEq] at h; subst h
  exact .int _ _
 ·cases h
theorem zr0 {ag:Bool} {c:List Int} {d:D1} (h:zHM ag c=some d):za5 d=[]:=by
 unfold zHM at h
 split at h
 ·simp only [Option.some.injEq] at h; subst h
  induction c with
  | nil=>rfl
  | cons y l ih=>exact ih
 ·simp only [Option.some.injEq] at h;subst h;rfl
 ·cases h

theorem zuC {o : Oper} {x : Operand} {A : OpAct} (S : Sim P nt B w0 h0 g σ a w) (hd : zbu nt o.dst = true) (hop : o.op = .entry x)
    (hA:act P Γ o (evO σ.env) (lk σ.objs)=A) (hs:A.safe):zdw P nt B w0 h0 r n i o A σ a w Q:=by
  simp only [act,hop] at hA
  split at hA
  · rename_i L hx
    split at hA
    · rename_i q m F c seen hL
      split at hA
      · rename_i kd vd hkd hvd
        subst hA
        have hxv:a.eval x=.pointer (some ⟨g.bk L,0,none⟩):=(zbm S hx).1
        rcases S.obj L _ hL with ⟨_,_,_,h⟩ | ⟨mb,es,clock,sb,en,hmb,M,hit,hseen,hcur⟩
        · cases h
        · obtain ⟨j, e, v, he, hen, hback⟩ := hcur c _ rfl
          have hlc:=M.len (c,v) (List.mem_of_getElem? hen)
          have hF:F c=some v:=by rw [M.find c hlc.1];exact zd6 M.nodup hen
          rw [hF] at hvd
          have hmap:=S.hw.fz hmb
          obtain ⟨hk,hvl⟩:=zH3 M he hen
          have hfind:es.find? (·.born == e.born)=some e:=by
            rw [← Array.find?_toList]
            exact find_born M.bornN (by simpa using he)
          have hrun:(Instr.entry (a.eval x)).run P w=.ok (.tuple #[zbb q.1 c,zde q.2.2.1 q.2.2.2 (some v)]) w:=by
            rw [hxv]
            simp [Instr.entry,zi6 hit,hback,MapKept.run_getObj_map hmap,hfind,hk,hvl]
          refine zaF S hd (by simp [hop]) (d:=.tup [kd,vd]) (v:=.tuple #[zbb q.1 c,zde q.2.2.1 q.2.2.2 (some v)]) (fp:=_) rfl ?_ ?_ ?_
          · simp only [execOp,hop,Sem.run_bind,hrun,Result.andThen_ok,Sem.run_pure]
          · exact ⟨[_,_],rfl,zH4 hkd,zBC hvd,trivial⟩
          · intro M' hM
            have:zaN (.tup [kd,vd])=za5 kd ++ (za5 vd ++ []):=rfl
            rw [this,ziA hvd,zr0 hkd] at hM
            simp at hM
      · subst hA;exact hs.elim
    · subst hA;exact hs.elim
  · subst hA;exact hs.elim
end
end Go.Pm
namespace Go.Pm
open Go.RowKit (Below)

section
variable {P:Program} {Γ:Ctrs} {nt B:Nat} {w0:World} {h0:Fz} {g:Gh} {σ:St} {a:Act} {w:World} {r:Option Nat} {n i:Nat} {Q:Exit→Act→World→Prop}

theorem zi7 {ob : Nat → Option AO} : ∀ {cs : List Cl} {l : List PV} {u : Upd}, zcX ob cs = some (l, u) → cs.all zo2 = true ∧ l.length = cs.length
  | [],l,u,h=>by simp [zcX] at h;rw [h.1];exact ⟨rfl,rfl⟩
  | c :: cs,l,u,h=>by
    simp only [zcX] at h
    split at h
    · rename_i v u1 l2 u2 h1 h2
      simp only [Option.some.injEq,Prod.mk.injEq] at h;rw [← h.1]
      obtain ⟨h3,h4⟩:=zi7 h2
      refine ⟨?_,by simp [h4]⟩
      have:zo2 c=true:=by
        unfold zrH at h1
        split at h1
        · rfl
        · rfl
        · rfl
        · cases h1
      simp [this,h3]
    · cases h

theorem zlp {ob:Nat→Option AO} {ev:Operand→DV} {s:Nat} : ∀ (parts:List (Nat×Operand)) (i:Nat) (ls:List (List PV)) (u:Upd) (labs:List Nat),
  zci ob ev s i parts=some (ls,u,labs)→zc6 ob u
 | [],i,ls,u,labs,h=>by simp [zci] at h;rw [h.2.1];exact zc6.nil ob
 | (j,o) :: r,i,ls,u,labs,h=>by
  simp only [zci] at h
  split at h
  ·split at h
   ·split at h
    ·rename_i h1 h2
     split at h
     ·simp only [Option.some.injEq, Prod.mk.injEq] at h
      rw [← h.2.1]
      exact (zlU h1).append (zlp r _ _ _ _ h2)
     ·cases h
    ·cases h
   ·cases h
  ·cases h

theorem zlq {ob : Nat → Option AO} {ev : Operand → DV} {ρ : Operand → Value} {s : Nat} {u' : Upd} {h' : Fz} (hev : ∀ o, dvR g (ev o) (ρ o)) (F : Frozen g ob u' h') :
    ∀ (parts:List (Nat×Operand)) (i:Nat) (ls:List (List PV)) (u:Upd) (labs:List Nat) (C:Array Value) (N:Nat),zci ob ev s i parts=some (ls,u,labs)→(∀ y∈u,y∈u') →
      C.size=N * s→i+ls.length≤N →
      ∃ D:Array Value,Instr.fill (fun k=>some (k * s,s)) C (parts.map fun x=>(x.1,ρ x.2))=some D∧D.size=C.size∧(∀ q,q < i * s→D[q]? = C[q]?) ∧
        ∀ k l,ls[k]? = some l→RL (Rep h') l ((D.toList.drop ((i+k) * s)).take s)
  | [],i,ls,u,labs,C,N,h,hu,hC,hN=>by
    simp [zci] at h
    refine ⟨C,rfl,rfl,fun _ _=>rfl,?_⟩
    intro k l hk;rw [h.1] at hk;simp at hk
  | (j,o) :: r,i,ls,u,labs,C,N,h,hu,hC,hN=>by
    have hd:=hev o
    simp only [zci] at h
    split at h
    · rename_i hij
      have hij:=Nat.eq_of_beq_eq_true hij
      subst hij
      split at h
      · rename_i d he
        rw [he] at hd
        split at h
        · rename_i l1 u1 ls1 us1 labs1 h1 h2
          split at h
          · rename_i hlen
            have hlen:=Nat.eq_of_beq_eq_true hlen
            simp only [Option.some.injEq,Prod.mk.injEq] at h
            obtain ⟨hls,hus,_⟩:=h
            subst hls
            rw [← hus] at hu
            obtain ⟨hok,hll⟩:=zi7 h1
            have hcr:=zei hd hok
            have hcl:=hcr.length
            have hrep:=F.repL0 h1 (fun y hy=>hu y (List.mem_append.2 (.inl hy))) hcr
            have hvs : (ρ o).cells.size = s := by have : (ρ o).cells.toList.length = (ρ o).cells.size := by simp
                                                  omega
            simp only [List.length_cons] at hN
            have hb:i * s+s≤N * s:=by have:=Nat.mul_le_mul_right s (show i+1≤N by omega);rw [Nat.succ_mul] at this;exact this
            obtain ⟨D, hD, hDs, hlow, hel⟩ := zlq hev F r (i + 1) ls1 us1 labs1 (spl C.toList (i * s) (ρ o).cells.toList).toArray N h2 (fun y hy => hu y (List.mem_append.2 (.inr hy)))
              (by simp [zdn,hC]) (by omega)
            have hsz:(spl C.toList (i * s) (ρ o).cells.toList).toArray.size=C.size:=by simp [zdn]
            have hget:∀ q,(spl C.toList (i * s) (ρ o).cells.toList).toArray[q]? = if i * s≤q∧q < i * s+s then (ρ o).cells.toList[q - i * s]? else C[q]?:=by
              intro q
              simp only [List.getElem?_toArray]
              rw [zlT _ _ _ _ (by simp [hvs,hC];omega)]
              simp [hvs]
            refine ⟨D,?_,hDs.trans hsz,?_,?_⟩
            · simp only [List.map_cons, Instr.fill]
              have h3 : ¬ ((decide ((ρ o).cells.size ≠ s) || decide (i * s+(ρ o).cells.size > C.size))=true):=by simp [hvs,hC];omega
              rw [if_neg h3,← hD]
              refine congrArg (fun z=>Instr.fill _ z _) ?_
              have:=ziZ (i * s) (ρ o).cells.toList 0 C
              rw [Nat.add_zero] at this
              rw [← this]
              cases (ρ o).cells
              simp
            · intro q hq
              rw [hlow q (by rw [Nat.succ_mul];omega),hget,if_neg (by omega)]
            · intro k l hk
              cases k with
              | zero =>
                simp only [List.getElem?_cons_zero,Option.some.injEq] at hk
                subst hk
                have e:(D.toList.drop ((i+0) * s)).take s=(ρ o).cells.toList:=by
                  apply List.ext_getElem?
                  intro q
                  by_cases hq:q < s
                  · rw [List.getElem?_take, if_pos hq, List.getElem?_drop, Nat.add_zero]
                    have:=hlow (i * s+q) (by rw [Nat.succ_mul];omega)
                    rw [hget,if_pos (by omega),show i * s+q - i * s=q by omega] at this
                    simpa using this
                  · rw [List.getElem?_take, if_neg hq]
                    symm;apply List.getElem?_eq_none;simp [hvs];omega
                rw [e];exact hrep
              | succ k =>
                have:=hel k l (by simpa using hk)
                rwa [show i+1+k=i+(k+1) by omega] at this
          · cases h
        · cases h
      · cases h
    · cases h

theorem zzU (ls:List (List PV)) (k:Nat) (h:k < ls.length):ls[k]? = some (zcn ls k):=by
 unfold zcn
 split
 ·simp at h
 ·rename_i c;simp at h;subst h;rfl
 ·rename_i c r _
  have:∃ x,(c :: r)[k]? = some x:=⟨_,List.getElem?_eq_getElem h⟩
  obtain ⟨x,hx⟩:=this
  simp only [hx]

theorem zbQ {e:TypeId} {z:List Cl} (hz:zcW P e=some z) {ie:TypeInfo} (hi:P.info? e=some ie):∃ v,ie.zero=some v∧v.cells.size=ie.size:=by
 obtain ⟨i',v,h1,h2,h3⟩:=zua hz
 rw [hi] at h1;simp only [Option.some.injEq] at h1;subst h1
 exact ⟨v,h2,h3⟩

theorem zpl {o : Oper} {t : TypeId} {m : Nat} {parts : Array (Nat × Operand)} {A : OpAct} (S : Sim P nt B w0 h0 g σ a w) (hd : zbu nt o.dst = true) (hop : o.op = .buildSlice t m parts)
    (hA:zfC P o t m parts.toList (evO σ.env) (lk σ.objs)=A) (hs:A.safe):zdw P nt B w0 h0 r n i o A σ a w Q:=by
  unfold zfC at hA
  split at hA
  · rename_i te x dst hu hparts hdst
    split at hA
    · rename_i ie z M hi hz hx
      split at hA
      · rename_i e s b m0 get hM hfresh
        split at hA
        · rename_i hcond
          simp only [Bool.and_eq_true,Nat.ble_eq] at hcond
          obtain ⟨⟨hm1,hs1⟩,hbig⟩:=hcond
          have hm1:=Nat.eq_of_beq_eq_true hm1
          have hs1:=Nat.eq_of_beq_eq_true hs1
          subst hm1
          subst hA
          obtain ⟨zv,hzv,hzs⟩:=zbQ hz hi
          have hsz:szT P te=some 1:=by simp [szT,hi,hs1]
          obtain ⟨hxv,hone⟩:=(zbm S hx).1
          have hcells:(a.eval x).cells = #[a.eval x]:=by
            revert hone
            generalize a.eval x=v
            intro hone
            cases v <;> first | rfl | cases hone
          let w':=w.alloc (.cells #[a.eval x] te)
          have hrun:(execOp a.eval o).run P w=.ok (.value (.slice (some ⟨w.heap.size,0,none⟩) 1 1)) w':=by
            simp only [execOp,hop,Instr.buildSlice,Sem.run_bind,run_underlying hu,Result.andThen_ok,run_sizeOf hsz]
            rw [Sem.run_ite,if_neg (by decide),if_neg (by decide)]
            simp only [Sem.run_bind,zbR hi hzv,Sem.run_pure,Result.andThen_ok,Array.toList_map,hparts,List.map_cons,List.map_nil]
            have hz1:((Array.range (1 * 1)).map (zv.cells[· % zv.cells.size]!)).setIfInBounds 0 (a.eval x) = #[a.eval x]:=by
              apply Array.ext
              · simp
              · intro i h1 h2
                simp at h2;subst h2;simp
            simp only [Nat.mul_one] at hz1
            simp [Instr.fill,hcells,w',newRow,hz1]
          let g':=g.setVv dst (.slice (some ⟨w.heap.size,0,none⟩) 1 1) (fun _=>g.sv M)
          have hne:∀ L o,lk σ.objs L=some o→L ≠ dst:=fun L o h e=>by subst e;rw [hfresh] at h;cases h
          have hsame:∀ L o,lk σ.objs L=some o→zcB g g' L:=fun L o h=>⟨rfl,by simp [g',Gh.setVv,hne L o h],by simp [g',Gh.setVv,hne L o h]⟩
          have hsv:g'.sv dst=.slice (some ⟨w.heap.size,0,none⟩) 1 1:=by simp [g',Gh.setVv]
          have hiv:∀ i,g'.iv dst i=g.sv M:=fun i=>by simp [g',Gh.setVv]
          have hold:∀ k,k < w.heap.size→w'.heap[k]? = w.heap[k]?:=fun k hk=>heap_alloc_old w _ k hk
          obtain ⟨hpos,hinfo,xs,hxs,hr⟩:=S.obj M _ hM
          have hlk:∀ L o,lk ((dst,AO.vv te ie.bytes e s b 1 (fun _=>m0) (fun _=>get)) :: (M,.gone) :: σ.objs) L=some o →
              (L=dst∧o=.vv te ie.bytes e s b 1 (fun _=>m0) (fun _=>get))∨(o=.gone)∨(L ≠ dst∧L ≠ M∧lk σ.objs L=some o):=by
            intro L o h
            rw [zak] at h
            split at h
            · rename_i e';simp only [Option.some.injEq] at h;exact .inl ⟨e'.symm,h.symm⟩
            · rename_i e1
              rw [zak] at h
              split at h
              · simp only [Option.some.injEq] at h;exact .inr (.inl h.symm)
              · rename_i e2;exact .inr (.inr ⟨fun e=>e1 e.symm,fun e=>e2 e.symm,h⟩)
          have hdom:∀ L o,lk σ.objs L=some o→∃ o',lk ((dst,AO.vv te ie.bytes e s b 1 (fun _=>m0) (fun _=>get)) :: (M,.gone) :: σ.objs) L=some o':=by
            intro L o h
            rw [zak];split
            · exact ⟨_,rfl⟩
            · rw [zak]; split
              · exact ⟨_,rfl⟩
              · exact ⟨_,h⟩
          have hobk:∀ k,obk g' dst (.vv te ie.bytes e s b 1 (fun _=>m0) (fun _=>get)) k→k=w.heap.size∨obk g M (.vec e s b m0 get) k:=by
            intro k hk
            rcases hk with hk | ⟨i,_,hk⟩
            · rw [hsv] at hk;simp only [Value.ownBlock,Option.some.injEq] at hk;exact .inl hk.symm
            · rw [hiv] at hk;exact .inr hk
          have S1:Sim P nt B w0 h0 g' { σ with objs:=(dst,.vv te ie.bytes e s b 1 (fun _=>m0) (fun _=>get)) :: (M,.gone) :: σ.objs } a w':=by
            refine S.change (g':=g') hsame (fun _ _ h=>h) ?_ (fun b o h=>.inl h) (Bel.of ⟨(Below.refl B w).alloc S.bs _,Nat.le_refl _⟩) ?_ ?_ ?_ hdom ?_
            · exact S.hw.same fun b o h=>hold b (zfF S.hw h)
            · intro L o ho
              rcases hlk L o ho with ⟨rfl,rfl⟩ | rfl | ⟨_,_,ho⟩
              · refine ⟨hpos, ⟨ie, zv, hi, hs1, rfl, hzv, by rw [hzs, hs1]⟩, hinfo, ?_, fun i hi' => ⟨by rw [hiv, ← hxv]; exact hone, xs, by rw [hiv]; exact zbf hxs fun k hk => hold k ((hxs.lt k hk).2), hr⟩, ?_⟩
                · rw [hsv]
                  refine ⟨by simp,.inr ⟨w.heap.size,1,#[a.eval x],rfl,S.bs,heap_alloc_new w _,Nat.le_refl _,by simp [maxLen],rfl,?_⟩⟩
                  simp [hiv,hxv]
                · intro i k hi' hk
                  rw [hiv] at hk
                  refine ⟨fun h=>?_,fun j hj _=>by omega⟩
                  rw [hsv] at h;simp only [Value.ownBlock,Option.some.injEq] at h
                  have:=(hxs.lt k hk).2
                  omega
              · trivial
              · exact zb6 (S.obj L o ho) (hsame L o ho) (fun N hN=>by obtain ⟨o',ho'⟩:=S.clO L o ho N hN;exact hsame N o' ho') (fun _ _ h=>h) fun k hk=>hold k (zca (S.obj L o ho) hk)
            · intro L o k ho hk
              rcases hlk L o ho with ⟨rfl,rfl⟩ | rfl | ⟨_,_,ho⟩
              · rcases hobk k hk with rfl | hk
                · refine ⟨S.bs, ?_⟩
                  cases hh:g.h w.heap.size with
                  | none=>exact hh
                  | some x=>exact absurd (zfF S.hw hh) (by omega)
                · exact S.own M _ k hM hk
              · exact hk.elim
              · rw [zaZ (hsame L o ho)] at hk;exact S.own L o k ho hk
            · intro L o k L' o' ho ho' hk hk'
              have cross:∀ L o,L ≠ M→lk σ.objs L=some o→obk g L o k→(k=w.heap.size∨obk g M (.vec e s b m0 get) k)→False:=by
                intro L o hne ho hk h
                rcases h with rfl | h
                · exact absurd (zca (S.obj L o ho) hk) (by omega)
                · exact hne (S.sep L o k M _ ho hM hk h)
              rcases hlk L o ho with ⟨rfl,rfl⟩ | rfl | ⟨_,hneM,ho2⟩ <;> rcases hlk L' o' ho' with ⟨rfl,rfl⟩ | rfl | ⟨_,hne',ho2'⟩
              · rfl
              · exact hk'.elim
              · rw [zaZ (hsame L' o' ho2')] at hk';exact (cross L' o' hne' ho2' hk' (hobk k hk)).elim
              · exact hk.elim
              · exact hk.elim
              · exact hk.elim
              · rw [zaZ (hsame L o ho2)] at hk;exact (cross L o hneM ho2 hk (hobk k hk')).elim
              · exact hk'.elim
              · rw [zaZ (hsame L o ho2)] at hk; rw [zaZ (hsame L' o' ho2')] at hk'
                exact S.sep L o k L' o' ho2 ho2' hk hk'
            · intro L o ho N hN
              rcases hlk L o ho with ⟨rfl,rfl⟩ | rfl | ⟨_,_,ho⟩
              · simp [zbB] at hN
              · simp [zbB] at hN
              · obtain ⟨o',ho'⟩:=S.clO L o ho N hN;exact hdom N o' ho'
          refine zdv (by simp [hop]) hrun ⟨g',_,rfl,?_⟩
          rw [zbi]
          refine S1.put (σ:={ σ with objs:=(dst,AO.vv te ie.bytes e s b 1 (fun _=>m0) (fun _=>get)) :: (M,.gone) :: σ.objs }) hd (d:=.cl (.vec dst)) ⟨hsv.symm,rfl⟩ ?_ _
          intro L hL
          simp [zaN,za5,zav] at hL
          subst hL
          exact ⟨_,by rw [zak,if_pos rfl]⟩
        · subst hA;exact hs.elim
      · subst hA;exact hs.elim
    · subst hA;exact hs.elim
  · subst hA;exact hs.elim

theorem zk8 {o : Oper} {t : TypeId} {m : Nat} {parts : Array (Nat × Operand)} {A : OpAct} (S : Sim P nt B w0 h0 g σ a w) (hd : zbu nt o.dst = true) (hop : o.op = .buildSlice t m parts)
    (hA:act P Γ o (evO σ.env) (lk σ.objs)=A) (hs:A.safe):zdw P nt B w0 h0 r n i o A σ a w Q:=by
  simp only [act,hop] at hA
  split at hA
  · exact zpl S hd hop hA hs
  split at hA
  · rename_i e hu
    split at hA
    · rename_i ie hi
      split at hA
      · rename_i ls u labs hp
        split at hA
        · rename_i z dst hcond hz hdst
          split at hA
          · rename_i hfresh
            simp only [Bool.and_eq_true,Nat.ble_eq] at hcond
            obtain ⟨⟨hm,hbig⟩,hpos⟩:=hcond
            have hm:=Nat.eq_of_beq_eq_true hm
            subst hA
            obtain ⟨zv,hzv,hzs⟩:=zbQ hz hi
            have hok:=zlp _ _ _ _ _ hp
            obtain ⟨h',S1,F⟩:=S.freeze hok
            have hsz:szT P e=some ie.size:=by simp [szT,hi]
            obtain ⟨D,hD,hDs,_,hel⟩:=zlq (fun x=>S.ev x) F parts.toList 0 ls u labs ((Array.range (m * ie.size)).map (zv.cells[· % zv.cells.size]!)) m hp (fun _ h=>h) (by simp) (by omega)
            have hDsz:D.size=m * ie.size:=by rw [hDs];simp
            have hmm:m≤1000000:=Nat.le_trans (Nat.le_mul_of_pos_right m hpos) hbig
            let w':=w.alloc (.cells D e)
            have hrun:(execOp a.eval o).run P w=.ok (.value (.slice (some ⟨w.heap.size,0,none⟩) m m)) w':=by
              simp only [execOp,hop,Instr.buildSlice,Sem.run_bind,run_underlying hu,Result.andThen_ok,run_sizeOf hsz]
              rw [Sem.run_ite,if_neg (by omega)]
              by_cases h00:m * ie.size=0
              · have hm0 : m = 0 := by rcases Nat.mul_eq_zero.1 h00 with h | h; · exact h
                                       · omega
                subst hm0
                have hpn:parts.toList=[]:=by
                  cases hpl:parts.toList with
                  | nil=>rfl
                  | cons x xs =>
                    rw [hpl] at hp
                    obtain ⟨j,q⟩:=x
                    simp only [zci] at hp
                    split at hp
                    · split at hp
                      · split at hp
                        · split at hp
                          · simp only [Option.some.injEq, Prod.mk.injEq] at hp
                            rw [← hp.1] at hm;simp at hm
                          · cases hp
                        · cases hp
                      · cases hp
                    · cases hp
                have hDe:D = #[]:=by apply Array.eq_empty_of_size_eq_zero;simp [hDsz]
                rw [if_pos (by simp)]
                simp only [Sem.run_bind,Sem.run_pure,Result.andThen_ok,Array.toList_map,hpn,List.map_nil,Instr.fill]
                simp only [hDe,newRow,Nat.zero_mul,Sem.run_bind,run_newObj,Result.andThen_ok,Sem.run_pure,w']
                rw [show (Array.range 0) = #[] from rfl,List.map_toArray];rfl
              · rw [if_neg h00]
                simp only [Sem.run_bind,zbR hi hzv,Sem.run_pure,Result.andThen_ok,Array.toList_map]
                rw [hD]
                simp [w',newRow]
            have hvec:zrK P ((⟨h',g.bk,g.sv,g.iv⟩:Gh).setSv dst (.slice (some ⟨w.heap.size,0,none⟩) m m)) w' B dst e ie.size ie.bytes m (zcn ls):=by
              refine ⟨hpos,⟨ie,zv,hi,rfl,rfl,hzv,hzs⟩,D.toList,?_,?_⟩
              · rw [show ((⟨h', g.bk, g.sv, g.iv⟩ : Gh).setSv dst (.slice (some ⟨w.heap.size, 0, none⟩) m m)).sv dst = .slice (some ⟨w.heap.size, 0, none⟩) m m by simp [Gh.setSv]]
                refine ⟨by simpa using hDsz,.inr ⟨w.heap.size,m,D,rfl,S.bs,heap_alloc_new w _,Nat.le_refl _,?_,hDsz,?_⟩⟩
                · simp only [maxLen];omega
                · rw [← hDsz,← Array.length_toList,List.take_length]
              · intro k hk
                have:=hel k _ (zzU ls k (by omega))
                rwa [Nat.zero_add] at this
            have hfr2:lk (u ++ σ.objs) dst=none:=by
              rw [zck]
              cases hl:lk u dst with
              | none=>exact hfresh
              | some x =>
                have:=hok _ (zcv hl)
                rcases this with ⟨_,_,_,_,_,h5,_⟩ | ⟨_,_,_,_,h5,_⟩ | ⟨_,_,_,_,_,_,_,_,h5,_⟩ | ⟨_,_,_,_,_,_,_,_,_,h5,_⟩ | ⟨_,_,_,_,_,h5,_⟩ <;> (simp only at h5;rw [hfresh] at h5;cases h5)
            have S2:=S1.newVec (t:=dst) (w':=w') hfr2 ⟨(Below.refl B w).alloc S.bs _,Nat.le_refl _⟩ (fun b hb=>heap_alloc_old w _ b hb) (fun b hb=>by simp [Value.ownBlock] at hb;omega) hvec
            refine zdv (by simp [hop]) hrun ⟨(⟨h',g.bk,g.sv,g.iv⟩:Gh).setSv dst (.slice (some ⟨w.heap.size,0,none⟩) m m),σ.upd i o.dst (wr labs ++ [(dst,true)]) (.cl (.vec dst)) ((dst,.vec e ie.size ie.bytes m (zcn ls)) :: u) [],rfl,?_⟩
            rw [zbi]
            refine S2.put (v:=.slice (some ⟨w.heap.size,0,none⟩) m m) hd (d:=.cl (.vec dst)) ?_ ?_ _
            · simp [dvR,d1R,clR,Gh.setSv,Value.oneCell']
            · intro L hL
              simp [zaN,za5,zav] at hL
              subst hL
              exact ⟨_,by rw [zak,if_pos rfl]⟩
          · subst hA;exact hs.elim
        · subst hA;exact hs.elim
      · subst hA;exact hs.elim
    · subst hA;exact hs.elim
  · subst hA;exact hs.elim
end
end Go.Pm
namespace Go.Pm
open Go.RowKit (Below)

theorem ziB {α:Type} {f:α→α} {l:List (Nat×α)} {k:Nat} : lk (kills f l) k=(lk l k).map f:=by
 induction l with
 | nil=>rfl
 | cons x l ih =>
  obtain ⟨j,a⟩:=x
  rw [kills,zak,zak]
  split
  ·rfl
  ·exact ih

section
variable {P:Program} {Γ:Ctrs} {nt B:Nat} {w0:World} {h0:Fz} {g:Gh} {σ:St} {a:Act} {w:World} {r:Option Nat} {n i:Nat} {Q:Exit→Act→World→Prop}

theorem zuD {L:Nat} {g':Gh} (hh:g'.h=g.h) (hbk:∀ M,g'.bk M=g.bk M) (hs:∀ M,M ≠ L→zcB g g' M) {c:Cl} {x:Value} (h:clR g c x):clR g' (zbH [L] c) x:=by
 cases c with
 | p v=>simp only [zbH,clR] at h ⊢;rw [hh];exact h
 | ptr M off=>simp only [zbH,clR] at h ⊢;rw [hbk M];exact h
 | vptr M s k q =>
  show clR g' (match [L].contains M with | true=>.dead M | false=>.vptr M s k q) x
  cases hM:[L].contains M with
  | true=>trivial
  | false =>
   have hne:M ≠ L:=by simpa using hM
   simpa [clR,(hs M hne).2.1] using h
 | vec M =>
  show clR g' (match [L].contains M with | true=>.dead M | false=>.vec M) x
  cases hM:[L].contains M with
  | true=>trivial
  | false =>
   have hne:M ≠ L:=by simpa using hM
   simpa [clR,(hs M hne).2.1] using h
 | ivec M ii =>
  show clR g' (match [L].contains M with | true=>.dead M | false=>.ivec M ii) x
  cases hM:[L].contains M with
  | true=>trivial
  | false =>
   have hne:M ≠ L:=by simpa using hM
   simpa [clR,(hs M hne).2.2] using h
 | iptr M s ii k q =>
  show clR g' (match [L].contains M with | true=>.dead M | false=>.iptr M s ii k q) x
  cases hM:[L].contains M with
  | true=>trivial
  | false =>
   have hne:M ≠ L:=by simpa using hM
   simpa [clR,(hs M hne).2.2] using h
 | imap M ii =>
  show clR g' (match [L].contains M with | true=>.dead M | false=>.imap M ii) x
  cases hM:[L].contains M with
  | true=>trivial
  | false =>
   have hne:M ≠ L:=by simpa using hM
   simpa [clR,(hs M hne).2.2] using h
 | mo M=>simp only [zbH,clR] at h ⊢;rw [hbk M];exact h
 | undef=>exact h
 | junk=>trivial
 | dead M=>trivial
theorem zl6 {L : Nat} {g' : Gh} (hh : g'.h = g.h) (hbk : ∀ M, g'.bk M = g.bk M) (hs : ∀ M, M ≠ L → zcB g g' M) : ∀ {cs : List Cl} {vs : List Value}, RL (clR g) cs vs → RL (clR g') (cs.map (zbH [L])) vs
  | [],[],_=>trivial
  | [],_ :: _,h=>h.elim
  | _ :: _,[],h=>h.elim
  | _ :: _,_ :: _,h=>⟨zuD hh hbk hs h.1,zl6 hh hbk hs h.2⟩
theorem zr1 {L:Nat} {g':Gh} (hh:g'.h=g.h) (hbk:∀ M,g'.bk M=g.bk M) (hs:∀ M,M ≠ L→zcB g g' M) {d:D1} {x:Value} (h:d1R g d x):d1R g' (zb5 [L] d) x:=by
 cases d with
 | c y=>exact zuD hh hbk hs h
 | agg cs=>obtain ⟨vs,rfl,hr⟩:=h;exact ⟨vs,rfl,zl6 hh hbk hs hr⟩
theorem znS {L : Nat} {g' : Gh} (hh : g'.h = g.h) (hbk : ∀ M, g'.bk M = g.bk M) (hs : ∀ M, M ≠ L → zcB g g' M) : ∀ {cs : List D1} {vs : List Value}, RL (d1R g) cs vs → RL (d1R g') (cs.map (zb5 [L])) vs
  | [],[],_=>trivial
  | [],_ :: _,h=>h.elim
  | _ :: _,[],h=>h.elim
  | _ :: _,_ :: _,h=>⟨zr1 hh hbk hs h.1,znS hh hbk hs h.2⟩
theorem zC2 {L:Nat} {g':Gh} (hh:g'.h=g.h) (hbk:∀ M,g'.bk M=g.bk M) (hs:∀ M,M ≠ L→zcB g g' M) {d:DV} {x:Value} (h:dvR g d x):dvR g' (zcM [L] d) x:=by
 cases d with
 | one y=>exact zr1 hh hbk hs h
 | tup ds=>obtain ⟨vs,rfl,hr⟩:=h;exact ⟨vs,rfl,znS hh hbk hs hr⟩
theorem znT {l:List Nat} {c:Cl} : ∀ M∈zav (zbH l c),M∈zav c:=by
 intro M hM
 cases c with
 | vec K =>
  have hM:M∈zav (match l.contains K with | true=>.dead K | false=>.vec K):=hM
  cases h:l.contains K with
  | true=>rw [h] at hM;exact hM
  | false=>rw [h] at hM;exact hM
 | vptr K s k q =>
  have hM:M∈zav (match l.contains K with | true=>.dead K | false=>.vptr K s k q):=hM
  cases h:l.contains K with
  | true=>rw [h] at hM;exact hM
  | false=>rw [h] at hM;exact hM
 | ivec K ii =>
  have hM:M∈zav (match l.contains K with | true=>.dead K | false=>.ivec K ii):=hM
  cases h:l.contains K with
  | true=>rw [h] at hM;exact hM
  | false=>rw [h] at hM;exact hM
 | iptr K s ii k q =>
  have hM:M∈zav (match l.contains K with | true=>.dead K | false=>.iptr K s ii k q):=hM
  cases h:l.contains K with
  | true=>rw [h] at hM;exact hM
  | false=>rw [h] at hM;exact hM
 | imap K ii =>
  have hM:M∈zav (match l.contains K with | true=>.dead K | false=>.imap K ii):=hM
  cases h:l.contains K with
  | true=>rw [h] at hM;exact hM
  | false=>rw [h] at hM;exact hM
 | _=>exact hM
theorem znU {l:List Nat} {cs:List Cl} : ∀ M∈(cs.map (zbH l)).flatMap zav,M∈cs.flatMap zav:=by
 intro M hM
 simp only [List.mem_flatMap,List.mem_map] at hM ⊢
 obtain ⟨_,⟨c,hc,rfl⟩,hM⟩:=hM
 exact ⟨c,hc,znT M hM⟩
theorem zlr {l:List Nat} {d:D1} : ∀ M∈za5 (zb5 l d),M∈za5 d:=by
 cases d with
 | c y=>exact znT
 | agg cs=>exact znU
theorem zuE {l:List Nat} {d:DV} : ∀ M∈zaN (zcM l d),M∈zaN d:=by
 cases d with
 | one y=>exact zlr
 | tup ds =>
  intro M hM
  simp only [zcM,zaN,List.mem_flatMap,List.mem_map] at hM ⊢
  obtain ⟨_,⟨d,hd,rfl⟩,hM⟩:=hM
  exact ⟨d,hd,zlr M hM⟩
theorem zuF {l:List Nat} {o:AO} : ∀ M∈zbB (zcA l o),M∈zbB o:=by
 cases o with
 | box ty cs=>exact znU
 | _=>exact fun _ h=>h

theorem Sim.regrow (S : Sim P nt B w0 h0 g σ a w) {L : Nat} {o0 o' : AO} {g' : Gh} {w' : World} {gs : List (Nat × AO)} {row : Option Nat} (hL : lk σ.objs L = some o0)
    (hh:g'.h=g.h) (hbk:∀ M,g'.bk M=g.bk M) (hs:∀ M,M ≠ L→zcB g g' M) (hgs:∀ x∈gs,x.2=.gone∧x.1 ≠ L)
    (hg:GrB w w' row) (hrow:∀ k,row=some k→obk g L o0 k)
    (hob:∀ k,obk g' L o' k→obk g L o0 k∨w.heap.size≤k∨∃ T oT,(T,.gone)∈gs∧lk σ.objs T=some oT∧obk g T oT k)
    (hv:aoR P g' w' B L o') (hlab:zbB o'=[]) (log:List (Nat×Nat×Nat)) :
    Sim P nt B w0 h0 g' ⟨kills (zcM [L]) σ.env,(L,o') :: (gs ++ kills (zcA [L]) σ.objs),log⟩ a w':=by
  have hlk:∀ M x,lk ((L,o') :: (gs ++ kills (zcA [L]) σ.objs)) M=some x→(M=L∧x=o')∨x=.gone∨(M ≠ L∧(M,.gone) ∉ gs∧∃ o,lk σ.objs M=some o∧x=zcA [L] o):=by
    intro M x h
    rw [zak] at h
    split at h
    · rename_i e;simp only [Option.some.injEq] at h;exact .inl ⟨e.symm,h.symm⟩
    · rename_i e
      rw [zck] at h
      cases hgM:lk gs M with
      | some y =>
        rw [hgM] at h;simp only [Option.some.injEq] at h;subst h
        exact .inr (.inl (hgs _ (zcv hgM)).1)
      | none =>
        rw [hgM] at h;simp only [] at h
        rw [ziB] at h
        obtain ⟨o,ho,rfl⟩:=Option.map_eq_some_iff.1 h
        exact .inr (.inr ⟨fun e'=>e e'.symm,zue hgM _,o,ho,rfl⟩)
  have hdom:∀ M o,lk σ.objs M=some o→∃ x,lk ((L,o') :: (gs ++ kills (zcA [L]) σ.objs)) M=some x:=by
    intro M o h
    rw [zak]
    split
    · exact ⟨_,rfl⟩
    · rw [zck]
      cases lk gs M with
      | some y=>exact ⟨y,rfl⟩
      | none=>rw [ziB,h];exact ⟨_,rfl⟩
  have hobk:∀ M o,M ≠ L→obk g' M (zcA [L] o)=obk g M o:=by
    intro M o hne
    have:=hs M hne
    funext k
    cases o <;> simp [zcA,obk,this.1,this.2.1,this.2.2]
  have hold:∀ k,k < w.heap.size→¬ obk g L o0 k→w'.heap[k]? = w.heap[k]?:=fun k hk hne=>hg.block k hk (fun e=>hne (hrow k e.symm))
  have hfz:Hw g.h w':=S.hw.same fun k o hk=>hold k (zfF S.hw hk) (fun e=>by have:=(S.own L o0 k hL e).2;rw [this] at hk;cases hk)
  have hbel:BelD B w w':=⟨⟨hg.os,hg.tape,hg.output,hg.size,fun k hk=>hold k (Nat.lt_of_lt_of_le hk S.bs) (fun e=>by have:=(S.own L o0 k hL e).1;omega)⟩,hg.drawn⟩
  have hnew:∀ k,w.heap.size≤k→B≤k∧g.h k=none:=fun k hk=>by
    refine ⟨Nat.le_trans S.bs hk,?_⟩
    cases hh:g.h k with
    | none=>rfl
    | some x=>exact absurd (zfF S.hw hh) (by omega)
  refine ⟨by rw [hh];exact S.dfr,S.size,?_,?_,?_,?_,by rw [hh];exact hfz,by rw [hh];exact S.le0,by rw [hh];exact S.hn,S.below.trans (.of hbel),Nat.le_trans S.bs hg.size,?_,?_⟩
  · intro t d ht
    rw [ziB] at ht
    obtain ⟨d',hd',rfl⟩:=Option.map_eq_some_iff.1 ht
    exact zC2 hh hbk hs (S.env t d' hd')
  · intro M x hx
    rcases hlk M x hx with ⟨rfl,rfl⟩ | rfl | ⟨hne,hng,o,ho,rfl⟩
    · exact hv
    · trivial
    · have hw':∀ k,obk g M o k→w'.heap[k]? = w.heap[k]?:=fun k hk =>
        hold k (zca (S.obj M o ho) hk) (fun e=>hne (S.sep M o k L _ ho hL hk e))
      have hr:=S.obj M o ho
      have hsM:=hs M hne
      have hle:Fle g.h g'.h:=by rw [hh];exact fun _ _ h=>h
      cases o with
      | box ty cs =>
        obtain ⟨C,hC,hr⟩:=hr
        exact ⟨C,by rw [hbk M,hw' _ rfl];exact hC,zl6 hh hbk hs hr⟩
      | fbox cs =>
        obtain ⟨C,ty,fr,hC,hr⟩:=hr
        exact ⟨C,ty,fr,by rw [hh,hbk M];exact hC,by rw [hh];exact hr⟩
      | vec e' s' b' m2 get2=>exact znG hr hsM.2.1 hle hw'
      | fvec s' m2 get2 =>
        simp only [zcA,aoR] at hr ⊢
        rw [hsM.2.1,hh]
        exact hr
      | vv te bb e' s' b' m2 ln2 get2=>exact zrO hr hsM hle hw'
      | mo kt vt q m2 F =>
        obtain ⟨es,clock,hC,hr⟩:=hr
        exact ⟨es,clock,by rw [hbk M,hw' _ rfl];exact hC,hr⟩
      | vm te bb kt vt q m2 mk nn F=>exact zrP hr hsM hw'
      | mit q m2 F seen =>
        simp only [zcA,aoR] at hr ⊢
        rw [hbk M]
        exact znH hr hle (hw' _ rfl)
      | gone=>trivial
  · intro M x k hx hk
    rw [hh]
    rcases hlk M x hx with ⟨rfl,rfl⟩ | rfl | ⟨hne,hng,o,ho,rfl⟩
    · rcases hob k hk with h | h | ⟨T, oT, _, hT, h⟩
      · exact S.own M o0 k hL h
      · exact hnew k h
      · exact S.own T oT k hT h
    · exact hk.elim
    · rw [hobk M o hne] at hk
      exact S.own M o k ho hk
  · intro M x k M' x' hx hx' hk hk'
    have cross:∀ M o,lk σ.objs M=some o→M ≠ L→(M,.gone) ∉ gs→obk g M o k→obk g' L o' k→False:=by
      intro M o ho hne hng hk hk'
      rcases hob k hk' with h | h | ⟨T,oT,hT,hT2,h⟩
      · exact hne (S.sep M o k L _ ho hL hk h)
      · exact absurd (zca (S.obj M o ho) hk) (by omega)
      · exact hng (by rw [S.sep M o k T oT ho hT2 hk h];exact hT)
    rcases hlk M x hx with ⟨rfl,rfl⟩ | rfl | ⟨hne,hng,o,ho,rfl⟩ <;> rcases hlk M' x' hx' with ⟨rfl,rfl⟩ | rfl | ⟨hne',hng',o2,ho2,rfl⟩
    · rfl
    · exact hk'.elim
    · rw [hobk M' o2 hne'] at hk'
      exact (cross M' o2 ho2 hne' hng' hk' hk).elim
    · exact hk.elim
    · exact hk.elim
    · exact hk.elim
    · rw [hobk M o hne] at hk
      exact (cross M o ho hne hng hk hk').elim
    · exact hk'.elim
    · rw [hobk M o hne] at hk; rw [hobk M' o2 hne'] at hk'
      exact S.sep M o k M' o2 ho ho2 hk hk'
  · intro t d ht M hM
    rw [ziB] at ht
    obtain ⟨d',hd',rfl⟩:=Option.map_eq_some_iff.1 ht
    obtain ⟨o,ho⟩:=S.clE t d' hd' M (zuE M hM)
    exact hdom M o ho
  · intro M x hx N hN
    rcases hlk M x hx with ⟨rfl,rfl⟩ | rfl | ⟨hne,hng,o,ho,rfl⟩
    · rw [hlab] at hN;simp at hN
    · simp [zbB] at hN
    · obtain ⟨o2, ho2⟩ := S.clO M o ho N (zuF N hN)
      exact hdom N o2 ho2

theorem zls {L:Nat} {v:Value} : ∀ M,M ≠ L→zcB g (g.setSv L v) M:=fun M h=>⟨rfl,by simp [Gh.setSv,h],rfl⟩
theorem zlt {L:Nat} {v:Value} {iv:Nat→Value} : ∀ M,M ≠ L→zcB g (g.setVv L v iv) M:=fun M h=>⟨rfl,by simp [Gh.setVv,h],by simp [Gh.setVv,h]⟩

theorem Sim.grow (S : Sim P nt B w0 h0 g σ a w) {L e s b m m' : Nat} {get get' : Nat → List PV} {v' : Value} {w' : World} {dst : Option Nat} (hL : lk σ.objs L = some (.vec e s b m get)) (hd : zbu nt dst = true)
    (hg:GrB w w' (g.sv L).ownBlock) (hpl:v'.ownBlock=(g.sv L).ownBlock∨v'.ownBlock=some w.heap.size∨v'.ownBlock=none) (hv:zrK P (g.setSv L v') w' B L e s b m' get') (h1:v'.oneCell'=true) (log:List (Nat×Nat×Nat)) :
    Sim P nt B w0 h0 (g.setSv L v') ⟨zHA dst (.cl (.vec L)) (kills (zcM [L]) σ.env),(L,.vec e s b m' get') :: kills (zcA [L]) σ.objs,log⟩ (a.put dst v') w':=by
  have hsv:(g.setSv L v').sv L=v':=by simp [Gh.setSv]
  have S1 := S.regrow (o' := .vec e s b m' get') (g' := g.setSv L v') (gs := []) (row := (g.sv L).ownBlock) hL rfl (fun _ => rfl) zls (fun x hx => by simp at hx) hg (fun k hk => hk)
    (fun k hk=>by
      simp only [obk,hsv] at hk
      rcases hpl with h | h | h
      · exact .inl (by show (g.sv L).ownBlock=some k;rw [← h];exact hk)
      · rw [h] at hk;simp only [Option.some.injEq] at hk;exact .inr (.inl (by omega))
      · rw [h] at hk;cases hk) hv rfl log
  refine S1.put hd (d:=.cl (.vec L)) (v:=v') ⟨hsv.symm,h1⟩ ?_ log
  intro M hM
  simp [zaN,za5,zav] at hM
  subst hM
  exact ⟨_,by rw [zak,if_pos rfl]⟩

def zH5 (w:World) (v:Value) (m s:Nat) (news:List Value):Prop :=
 (m=0∧(v=.slice none 0 0∨∃ a c,v=.slice (some a) 0 c)∧news=[])∨∃ (b o cap:Nat),v=.slice (some ⟨b,o,none⟩) m cap∧news.length=m * s∧(∀ j u,news[j]? = some u→w.cell? ⟨b,o+j,none⟩=some u)∧(∀ u∈news,u.oneCell'=true)

theorem zzV {P:Program} {B L te bb e s b n:Nat} {ln:Nat→Nat} {get:Nat→Nat→List PV} (hv:vvR P g w B L te bb e s b n ln get):zH5 w (g.sv L) n 1 ((List.range n).map (g.iv L)):=by
 obtain ⟨_,_,_,h4,h5,_⟩:=hv
 rcases h4.2 with ⟨h1,h2⟩ | ⟨k,cap,cur,h1,hB,hg,hn,hcap,hsz,htk⟩
 ·subst h2;exact .inl ⟨rfl,.inl h1,rfl⟩
 ·refine .inr ⟨k, 0, cap, h1, by simp, fun j u hj => ?_, fun u hu => ?_⟩
  ·rw [cell_of hg, Nat.zero_add]
   rw [← htk,List.getElem?_take] at hj
   split at hj
   ·simpa using hj
   ·cases hj
  ·simp only [List.mem_map, List.mem_range] at hu
   obtain ⟨i,hi,rfl⟩:=hu
   exact (h5 i hi).1

def zuG (g:Gh) (w:World) (v:Value) (m s:Nat) (new:Nat→List PV):Prop :=
 (m=0∧(v=.slice none 0 0∨∃ a c,v=.slice (some a) 0 c))∨∃ (b o cap:Nat) (news:List Value),v=.slice (some ⟨b,o,none⟩) m cap∧news.length=m * s∧(∀ j u,news[j]? = some u→w.cell? ⟨b,o+j,none⟩=some u) ∧
  (∀ u∈news,u.oneCell'=true)∧∀ k,k < m→RL (Rep g.h) (new k) ((news.drop (k * s)).take s)

theorem src_of {b o cap m s : Nat} {C : Array Value} {ty : TypeId} {fr : Nat × Nat} {new : Nat → List PV} {v : Value} (hs : 0 < s) (hv : v = .slice (some ⟨b, o, none⟩) m cap) (hb : w.heap[b]? = some (.cells C ty fr))
    (hlen:∀ k,k < m→(new k).length=s) (hel:∀ k j x,k < m→(new k)[j]? = some x→∃ u,C[o+k * s+j]? = some u∧Rep g.h x u):zuG g w v m s new:=by
  refine .inr ⟨b,o,cap,(List.range (m * s)).map fun q=>C.getD (o+q) undef,hv,by simp,?_,?_,?_⟩
  all_goals
    have at_:∀ q,q < m * s→∃ x u,(new (q / s))[q % s]? = some x∧C[o+q]? = some u∧Rep g.h x u:=by
      intro q hq
      have hk:q / s < m:=Nat.div_lt_of_lt_mul (by rw [Nat.mul_comm];exact hq)
      have hj:q % s < s:=Nat.mod_lt _ hs
      have hx:(new (q / s))[q % s]? = some ((new (q / s))[q % s]'(by rw [hlen _ hk];exact hj)):=List.getElem?_eq_getElem _
      obtain ⟨u,hu,hxu⟩:=hel _ _ _ hk hx
      refine ⟨_,u,hx,?_,hxu⟩
      rw [show o+q=o+q / s * s+q % s by have:=Nat.div_add_mod q s;rw [Nat.mul_comm] at this;omega]
      exact hu
  · intro j u hj
    have hjm:j < m * s:=by have:=(List.getElem?_eq_some_iff.1 hj).1;simpa using this
    obtain ⟨x,u',_,hu,_⟩:=at_ j hjm
    rw [cell_of hb]
    simp [hjm] at hj
    rw [hu] at hj ⊢
    simpa using hj
  · intro u hu
    simp only [List.mem_map,List.mem_range] at hu
    obtain ⟨q,hq,rfl⟩:=hu
    obtain ⟨x,u',_,hu,hxu⟩:=at_ q hq
    rw [Array.getD_eq_getD_getElem?,hu]
    exact hxu.one
  · intro k hk
    have hle:k * s+s≤m * s:=by have:=Nat.mul_le_mul_right s (Nat.succ_le_of_lt hk);rw [Nat.succ_mul] at this;exact this
    refine RL.of_get ?_ ?_
    · rw [hlen k hk];simp;omega
    · intro j x u hx hu
      have hj:j < s:=by have:=(List.getElem?_eq_some_iff.1 hx).1;rw [hlen k hk] at this;exact this
      obtain ⟨u',hu',hxu⟩:=hel k j x hk hx
      rw [List.getElem?_take,if_pos hj,List.getElem?_drop] at hu
      have hin:k * s+j < m * s:=by omega
      simp [hin] at hu
      rw [show o+(k * s+j)=o+k * s+j by omega,hu'] at hu
      simp only [Option.getD_some] at hu
      rw [← hu];exact hxu

theorem zBD {m s:Nat} {new:Nat→List PV} {v:Value} (S:Sim P nt B w0 h0 g σ a w) (hs:0 < s) (h:Rep g.h (.sl m s new) v):zuG g w v m s new:=by
 cases h with
 | sl0=>exact .inl ⟨rfl,.inl rfl⟩
 | sle _ _ a c=>exact .inl ⟨rfl,.inr ⟨a,c,rfl⟩⟩
 | sl _ _ _ b o cap C ty fr vs hb hcap hlen hc hr=>exact src_of hs rfl (S.hw.fz hb) hlen fun k j x hk hj=>⟨vs k j,hc k j x hk hj,hr k j x hk hj⟩

theorem zC3 {L e s b m:Nat} {new:Nat→List PV} (h:zrK P g w B L e s b m new):zuG g w (g.sv L) m s new:=by
 by_cases hm:m=0
 ·subst hm
  obtain ⟨hs,_,xs,hx,_⟩:=h
  rcases hx.2 with ⟨h1,_⟩ | ⟨k,cap,cur,h1,_⟩
  ·exact .inl ⟨rfl,.inl h1⟩
  ·have hx0 : xs = [] := by have := hx.1; simpa using this
   exact .inr ⟨k,0,cap,[],h1,by simp,fun j u hj=>by simp at hj,fun u hu=>by simp at hu,fun k hk=>absurd hk (by omega)⟩
 ·obtain ⟨k, C, _, ⟨cap, hsv⟩, hC, _, _, _⟩ := zfl h (show 0 < m by omega)
  refine src_of h.1 hsv hC (fun q hq=>?_) (fun q j x hq hj=>?_)
  ·obtain ⟨_,_,_,_,_,_,h6,_⟩:=zfl h hq;exact h6
  ·obtain ⟨k', C', hk', ⟨cap', hsv'⟩, hC', _, _, h7⟩ := zfl h hq
   rw [hsv] at hsv'
   simp only [Value.slice.injEq,Option.some.injEq,Addr.mk.injEq] at hsv'
   obtain ⟨⟨rfl,_⟩,_⟩:=hsv'
   rw [hC] at hC';simp only [Option.some.injEq,Obj.cells.injEq] at hC'
   obtain ⟨rfl,_⟩:=hC'
   rw [Nat.zero_add];exact h7 j x hj
end
end Go.Pm
namespace Go.Pm
open Go.RowKit (Below)

section
variable {P:Program} {Γ:Ctrs} {nt B:Nat} {w0:World} {h0:Fz} {g:Gh} {σ:St} {a:Act} {w:World} {r:Option Nat} {n i:Nat} {Q:Exit→Act→World→Prop}

theorem zl7 (σ : St) (i : Nat) (dst : Option Nat) (fp : List (Nat × Bool)) (d : DV) (u : List (Nat × AO)) (L : Nat) :
  σ.upd i dst fp d u [L]=⟨zHA dst d (kills (zcM [L]) σ.env),u ++ kills (zcA [L]) σ.objs,σ.log⟩:=by
 cases dst <;> rfl

theorem zfI {t e : TypeId} {ty : TypeId} {ie : TypeInfo} {base m m' s : Nat} {v x : Value} {xs news : List Value} (hu : P.underlying t = some (.slice e)) (hi : P.info? e = some ie)
    {z:Value} (hz:ie.zero=some z) (hzs:z.cells.size=ie.size) (hs:ie.size=s) (hpos:0 < s) (hbase:base≤w.heap.size) (hown:w.ownsRow base e s v m xs) (hsrc:zH5 w x m' s news)
    (hlen:m+m'≤9223372036854775807) (hbytes:(m+m') * ie.bytes≤140737488355328) :
    ∃ v' w',(Builtin.append_ #[t,t] ty #[v,x]).run P w=.ok v' w'∧w'.ownsRow base e s v' (m+m') (xs ++ news)∧GrB w w' v.ownBlock∧(v'.ownBlock=v.ownBlock∨v'.ownBlock=some w.heap.size) ∧
      v'.oneCell'=true:=by
  have hvs:∃ ad c,v=.slice ad m c:=by
    rcases hown.2 with ⟨h1,h2⟩ | ⟨k,cap,cur,h1,_⟩
    · subst h2;exact ⟨_,_,h1⟩
    · exact ⟨_,_,h1⟩
  obtain ⟨ad,c,hvs⟩:=hvs
  rcases hsrc with ⟨rfl,hx | ⟨a',c',hx⟩,rfl⟩ | ⟨b,o,cap,hx,hl,hmem,h1⟩
  · subst hx
    have hrun:=run_append_owned_none (P:=P) (w:=w) base t ty e ie s hu hi v m xs hown
    refine ⟨v,w,hrun,by simpa using hown,⟨⟨rfl,rfl,rfl,Nat.le_refl _,fun _ _ _=>rfl⟩,Nat.le_refl _⟩,.inl rfl,by rw [hvs];rfl⟩
  · subst hx
    obtain ⟨v', w', hrun, hown', hg, _⟩ := run_append_own (P := P) w base t ty e ie z s ie.bytes hu hi hz hs rfl (by rw [hzs, hs]) hpos v m xs hown a' 0 c' [] (by simp)
      (fun j u hj=>by simp at hj) (fun u hu=>by simp at hu) (by simp only [maxLen];omega) hbytes hbase
    refine ⟨v',w',hrun,hown',⟨hg,zbC _ _ _ _ hrun⟩,?_,?_⟩
    · rw [hvs] at hrun
      have:=zif (P:=P) (t:=t) (ty:=ty) w v' w' hrun
      rw [hvs]
      cases ad <;> exact this
    · rcases hown'.2 with ⟨h1,_⟩ | ⟨k,cap,cur,h1,_⟩ <;> rw [h1] <;> rfl
  · subst hx
    obtain ⟨v', w', hrun, hown', hg, _⟩ := run_append_own (P := P) w base t ty e ie z s ie.bytes hu hi hz hs rfl (by rw [hzs, hs]) hpos v m xs hown ⟨b, o, none⟩ m' cap news hl
      (fun j u hj=>by rw [addr_add];exact hmem j u hj) h1 (by simp only [maxLen];omega) hbytes hbase
    refine ⟨v',w',hrun,hown',⟨hg,zbC _ _ _ _ hrun⟩,?_,?_⟩
    · rw [hvs] at hrun
      have:=zif (P:=P) (t:=t) (ty:=ty) w v' w' hrun
      rw [hvs]
      cases ad <;> exact this
    · rcases hown'.2 with ⟨h1,_⟩ | ⟨k,cap,cur,h1,_⟩ <;> rw [h1] <;> rfl

theorem zlu {t e : TypeId} {ty : TypeId} {ie : TypeInfo} {base m m' s : Nat} {v x : Value} {xs : List Value} {new : Nat → List PV} (hu : P.underlying t = some (.slice e)) (hi : P.info? e = some ie)
    {z:Value} (hz:ie.zero=some z) (hzs:z.cells.size=ie.size) (hs:ie.size=s) (hpos:0 < s) (hbase:base≤w.heap.size) (hown:w.ownsRow base e s v m xs) (hsrc:zuG g w x m' s new)
    (hlen:m+m'≤9223372036854775807) (hbytes:(m+m') * ie.bytes≤140737488355328) :
    ∃ v' w' news,(Builtin.append_ #[t,t] ty #[v,x]).run P w=.ok v' w'∧w'.ownsRow base e s v' (m+m') (xs ++ news)∧GrB w w' v.ownBlock∧(v'.ownBlock=v.ownBlock∨v'.ownBlock=some w.heap.size) ∧
      v'.oneCell'=true∧news.length=m' * s∧∀ k,k < m'→RL (Rep g.h) (new k) ((news.drop (k * s)).take s):=by
  rcases hsrc with ⟨rfl,hx⟩ | ⟨b,o,cap,news,hx,hl,hmem,h1,hr⟩
  · obtain ⟨v', w', h⟩ := zfI (P := P) (ty := ty) (news := []) hu hi hz hzs hs hpos hbase hown (.inl ⟨rfl, hx, rfl⟩) hlen hbytes
    exact ⟨v',w',[],h.1,h.2.1,h.2.2.1,h.2.2.2.1,h.2.2.2.2,by simp,fun k hk=>absurd hk (by omega)⟩
  · obtain ⟨v', w', h⟩ := zfI (P := P) (ty := ty) (news := news) hu hi hz hzs hs hpos hbase hown (.inr ⟨b, o, cap, hx, hl, hmem, h1⟩) hlen hbytes
    exact ⟨v',w',news,h.1,h.2.1,h.2.2.1,h.2.2.2.1,h.2.2.2.2,hl,hr⟩

theorem zzW {L e s b m m' : Nat} {get new : Nat → List PV} {v' : Value} {w' : World} {xs news : List Value} (hv0 : 0 < s ∧ ∃ i z, P.info? e = some i ∧ i.size = s ∧ i.bytes = b ∧ i.zero = some z ∧ z.cells.size = s)
    (hx:xs.length=m * s) (hr:∀ k,k < m→RL (Rep g.h) (get k) ((xs.drop (k * s)).take s)) (_hn:news.length=m' * s) (hrn:∀ k,k < m'→RL (Rep g.h) (new k) ((news.drop (k * s)).take s))
    (hown:w'.ownsRow B e s v' (m+m') (xs ++ news)):zrK P (g.setSv L v') w' B L e s b (m+m') (appG m get new):=by
  refine ⟨hv0.1,hv0.2,xs ++ news,by rw [show (g.setSv L v').sv L=v' by simp [Gh.setSv]];exact hown,?_⟩
  intro k hk
  show RL (Rep g.h) (match Nat.ble m k with | true=>new (k - m) | false=>get k) _
  cases hb:Nat.ble m k with
  | true =>
    have hmk:=Nat.le_of_ble_eq_true hb
    have e:((xs ++ news).drop (k * s)).take s=(news.drop ((k - m) * s)).take s:=by
      rw [List.drop_append,show xs.drop (k * s)=[] from List.drop_eq_nil_of_le (by rw [hx];exact Nat.mul_le_mul_right s hmk),List.nil_append,hx,← Nat.sub_mul]
    rw [e];exact hrn (k - m) (by omega)
  | false =>
    have hmk:k < m:=by
      have : ¬ m≤k:=fun h=>by rw [Nat.ble_eq_true_of_le h] at hb;cases hb
      omega
    have hle:k * s+s≤m * s:=by have:=Nat.mul_le_mul_right s (Nat.succ_le_of_lt hmk);rw [Nat.succ_mul] at this;exact this
    have e:((xs ++ news).drop (k * s)).take s=(xs.drop (k * s)).take s:=by
      rw [List.drop_append_of_le_length (by omega),List.take_append_of_le_length (by simp;omega)]
    rw [e];exact hr k hmk

theorem zuH {α:Type} (f h:Nat→α) (n m:Nat):(List.range n).map f ++ (List.range m).map h=(List.range (n+m)).map fun j=>match Nat.ble n j with | true=>h (j - n) | false=>f j:=by
 apply List.ext_getElem?
 intro j
 by_cases hj:j < n
 ·have hb : Nat.ble n j = false := by cases hb : Nat.ble n j with | true => exact absurd (Nat.le_of_ble_eq_true hb) (by omega) | false => rfl
  rw [List.getElem?_append_left (by simpa using hj)]
  simp [hj,show j < n+m by omega,hb]
 ·have hb : Nat.ble n j = true := Nat.ble_eq_true_of_le (by omega)
  rw [List.getElem?_append_right (by simp;omega)]
  by_cases hj2:j < n+m
  ·simp [hj2,show j - n < m by omega,hb]
  ·simp [hj2,show ¬ j - n < m by omega]

theorem znV {o : Oper} {s x : Operand} {t e : TypeId} {ie : TypeInfo} {z : List Cl} {T dst : Nat} {A : OpAct} (S : Sim P nt B w0 h0 g σ a w) (hd : zbu nt o.dst = true) (hnd : ∀ c, o.op ≠ .defer c)
    (hu:P.underlying t=some (.slice e)) (hi:P.info? e=some ie) (hz:zcW P e=some z) (hdst:o.dst=some dst) (hx:evO σ.env x=.one (.c (.vec T)))
    (hrunOf:∀ (v':Value) (w':World),(Builtin.append_ #[t,t] o.type #[a.eval s,a.eval x]).run P w=.ok v' w'→(execOp a.eval o).run P w=.ok (.value v') w')
    (hA:zdd o e ie (evO σ.env s) T (lk σ.objs)=A) (hs:A.safe):zdw P nt B w0 h0 r n i o A σ a w Q:=by
  obtain ⟨zv,hzv,hzs⟩:=zbQ hz hi
  unfold zdd at hA
  split at hA
  · rename_i te' bb' e' s' b' m lnT zgU hT
    split at hA
    · rename_i L hsL
      split at hA
      · rename_i te bb e1 s1 b1 n0 ln get hL
        split at hA
        · rename_i hcond
          obtain ⟨rfl,rfl,rfl,rfl,hsz1,rfl,rfl,rfl,hLT⟩:=hcond
          subst hA
          have hs':(n0+m) * ie.bytes≤140737488355328∧n0+m≤9223372036854775807:=hs
          obtain ⟨h1,_⟩:=zbm S hsL
          obtain ⟨h2,_⟩:=zbm S hx
          have hvT:=S.obj T _ hT
          have hvL:=S.obj L _ hL
          obtain ⟨hpos,hinfo1,hinfo2,hown,hin,hdis⟩:=hvL
          obtain ⟨_,_,_,hownT,hinT,hdisT⟩:=id hvT
          obtain ⟨v',w',hrun,hown',hg,hpl,hone⟩:=zfI (P:=P) (ty:=o.type) hu hi hzv hzs hsz1 (by decide) S.bs hown (zzV hvT) hs'.2 hs'.1
          rw [← h1.1,← h2.1] at hrun
          rw [zuH] at hown'
          let iv':Nat→Value:=fun j=>match Nat.ble n0 j with | true=>g.iv T (j - n0) | false=>g.iv L j
          let g':=g.setVv L v' iv'
          have hsv:g'.sv L=v':=by simp [g',Gh.setVv]
          have hiv:g'.iv L=iv':=by simp [g',Gh.setVv]
          have hobL:∀ k,(g.sv L).ownBlock=some k→obk g L (.vv te' ie.bytes e1 s1 b1 n0 ln get) k:=fun k hk=>.inl hk
          have lo:∀ j,j < n0→iv' j=g.iv L j∧zCR n0 ln lnT j=ln j∧zo3 n0 get zgU j=get j:=by
            intro j hj
            have hb:Nat.ble n0 j=false:=by cases hb:Nat.ble n0 j with | true=>exact absurd (Nat.le_of_ble_eq_true hb) (by omega) | false=>rfl
            simp only [iv',zCR,zo3,hb,and_self]
          have hi':∀ j,n0≤j→iv' j=g.iv T (j - n0)∧zCR n0 ln lnT j=lnT (j - n0)∧zo3 n0 get zgU j=zgU (j - n0):=by
            intro j hj
            have hb:Nat.ble n0 j=true:=Nat.ble_eq_true_of_le hj
            simp only [iv',zCR,zo3,hb,and_self]
          have blk:∀ j k,j < n0+m→(iv' j).ownBlock=some k→(j < n0∧obk g L (.vv te' ie.bytes e1 s1 b1 n0 ln get) k∧(g.iv L j).ownBlock=some k)∨(n0≤j∧obk g T (.vv te' ie.bytes e1 s1 b1 m lnT zgU) k∧(g.iv T (j - n0)).ownBlock=some k):=by
            intro j k hj hk
            by_cases h:j < n0
            · rw [(lo j h).1] at hk;exact .inl ⟨h,.inr ⟨j,h,hk⟩,hk⟩
            · rw [(hi' j (by omega)).1] at hk;exact .inr ⟨by omega,.inr ⟨j - n0,by omega,hk⟩,hk⟩
          have hLTk:∀ k,obk g L (.vv te' ie.bytes e1 s1 b1 n0 ln get) k→obk g T (.vv te' ie.bytes e1 s1 b1 m lnT zgU) k→False:=fun k h h'=>hLT (S.sep L _ k T _ hL hT h h')
          have hlt:∀ j k,j < n0+m→(iv' j).ownBlock=some k→k < w.heap.size:=by
            intro j k hj hk
            rcases blk j k hj hk with ⟨_,h,_⟩ | ⟨_,h,_⟩
            · exact zca (S.obj L _ hL) h
            · exact zca (S.obj T _ hT) h
          have hkeep:∀ j k,j < n0+m→(iv' j).ownBlock=some k→w'.heap[k]? = w.heap[k]?:=by
            intro j k hj hk
            refine hg.block k (hlt j k hj hk) fun e=>?_
            rcases blk j k hj hk with ⟨h,_,h3⟩ | ⟨_,h,_⟩
            · exact (hdis j k h h3).1 e.symm
            · exact hLTk k (hobL k e.symm) h
          have hvv:vvR P g' w' B L te' ie.bytes e1 s1 b1 (n0+m) (zCR n0 ln lnT) (zo3 n0 get zgU):=by
            refine ⟨hpos,hinfo1,hinfo2,by rw [hsv,hiv];exact hown',fun j hj=>?_,fun j k hj hk=>?_⟩
            · rw [hiv]
              by_cases h:j < n0
              · obtain ⟨e1, e2, e3⟩ := lo j h
                have hk:=hkeep j
                rw [e1] at hk ⊢;rw [e2,e3]
                obtain ⟨h7,xs,hxs,hr⟩:=hin j h
                exact ⟨h7,xs,zbf hxs fun k=>hk k hj,hr⟩
              · obtain ⟨e1, e2, e3⟩ := hi' j (by omega)
                have hk:=hkeep j
                rw [e1] at hk ⊢;rw [e2,e3]
                obtain ⟨h7,xs,hxs,hr⟩:=hinT (j - n0) (by omega)
                exact ⟨h7,xs,zbf hxs fun k=>hk k hj,hr⟩
            · rw [hiv] at hk
              rw [hsv,hiv]
              refine ⟨fun e=>?_,fun q hq hk'=>?_⟩
              · rcases hpl with h | h
                · rw [h] at e
                  rcases blk j k hj hk with ⟨h3,_,h4⟩ | ⟨_,h3,_⟩
                  · exact (hdis j k h3 h4).1 e
                  · exact hLTk k (hobL k e) h3
                · rw [h] at e; simp only [Option.some.injEq] at e
                  have:=hlt j k hj hk;omega
              · rcases blk j k hj hk with ⟨h3, h4, h5⟩ | ⟨h3, h4, h5⟩ <;> rcases blk q k hq hk' with ⟨h6, h7, h8⟩ | ⟨h6, h7, h8⟩
                · exact (hdis j k h3 h5).2 q h6 h8
                · exact (hLTk k h4 h7).elim
                · exact (hLTk k h7 h4).elim
                · have := (hdisT (j - n0) k (by omega) h5).2 (q - n0) (by omega) h8
                  omega
          have S1 := S.regrow (o' := .vv te' ie.bytes e1 s1 b1 (n0 + m) (zCR n0 ln lnT) (zo3 n0 get zgU)) (g' := g') (gs := [(T, .gone)]) (row := (g.sv L).ownBlock) hL rfl (fun _ => rfl) zlt
            (fun x hx=>by simp only [List.mem_singleton] at hx;subst hx;exact ⟨rfl,fun e=>hLT e.symm⟩) hg (fun k hk=>hobL k hk)
            (fun k hk=>by
              rcases hk with hk | ⟨j,hj,hk⟩
              · rw [hsv] at hk
                rcases hpl with h | h
                · rw [h] at hk;exact .inl (hobL k hk)
                · rw [h] at hk;simp only [Option.some.injEq] at hk;exact .inr (.inl (by omega))
              · rw [hiv] at hk
                rcases blk j k hj hk with ⟨_,h,_⟩ | ⟨_,h,_⟩
                · exact .inl h
                · exact .inr (.inr ⟨T,_,by simp,hT,h⟩)) hvv rfl σ.log
          refine zdv hnd (hrunOf v' w' hrun) ⟨g',_,rfl,?_⟩
          rw [zl7]
          refine S1.put hd (d:=.cl (.vec L)) (v:=v') ⟨hsv.symm,hone⟩ ?_ σ.log
          intro M hM
          simp [zaN,za5,zav] at hM
          subst hM
          exact ⟨_,by rw [zak,if_pos rfl]⟩
        · subst hA;exact hs.elim
      · subst hA;exact hs.elim
    · subst hA;exact hs.elim
  · subst hA;exact hs.elim

theorem ztE {o : Oper} {args : Array Operand} {ts : Array TypeId} {A : OpAct} (S : Sim P nt B w0 h0 g σ a w) (hd : zbu nt o.dst = true) (hop : o.op = .call { callee := .builtin .append, args, argTypes := ts })
    (hA:act P Γ o (evO σ.env) (lk σ.objs)=A) (hs:A.safe):zdw P nt B w0 h0 r n i o A σ a w Q:=by
  simp only [act,hop] at hA
  split at hA
  · rename_i s x t t' hargs hts
    split at hA
    · rename_i e dst hu htt hdst
      have htt:=Nat.eq_of_beq_eq_true htt
      subst htt
      have ha:args = #[s,x]:=by rw [← Array.toArray_toList (xs:=args),hargs]
      have ht:ts = #[t,t]:=by rw [← Array.toArray_toList (xs:=ts),hts]
      subst ha ht
      split at hA
      · rename_i ie z hi hz
        obtain ⟨zv,hzv,hzs⟩:=zbQ hz hi
        have hrunOf:∀ (v':Value) (w':World),(Builtin.append_ #[t,t] o.type #[a.eval s,a.eval x]).run P w=.ok v' w'→(execOp a.eval o).run P w=.ok (.value v') w':=by
          intro v' w' h
          refine fb hop ?_
          simp only [builtin,Sem.run_bind,List.map_toArray,List.map_cons,List.map_nil,h,Result.andThen_ok,Sem.run_pure]
        split at hA
        · rename_i T hT
          unfold zgT at hT
          split at hT
          · rename_i M hx
            split at hT
            · simp only [Option.some.injEq] at hT; subst hT
              exact znV S hd (by simp [hop]) hu hi hz hdst hx hrunOf hA hs
            · cases hT
          · cases hT
        split at hA
        · rename_i src m sz new fps hsrc
          have hsrcOk:sz ≠ 0→zuG g w (a.eval x) m sz new:=by
            intro hsz
            have hsz:0 < sz:=by omega
            split at hsrc
            · rename_i hx
              simp only [Option.some.injEq,Prod.mk.injEq] at hsrc
              obtain ⟨rfl,rfl,rfl,_⟩:=hsrc
              exact zBD S hsz (zbW S hx)
            · rename_i M hx
              obtain ⟨h1,_⟩:=zbm S hx
              split at hsrc
              · rename_i hM
                simp only [Option.some.injEq,Prod.mk.injEq] at hsrc
                obtain ⟨rfl,rfl,rfl,_⟩:=hsrc
                rw [h1.1];exact zC3 (S.obj M _ hM)
              · rename_i hM
                simp only [Option.some.injEq,Prod.mk.injEq] at hsrc
                obtain ⟨rfl,rfl,rfl,_⟩:=hsrc
                rw [h1.1];exact zBD S hsz (S.obj M _ hM).1
              · cases hsrc
            · cases hsrc
          split at hA
          · rename_i L hsL
            obtain ⟨h1,_⟩:=zbm S hsL
            split at hA
            · rename_i e' s' b' m0 get hL
              split at hA
              · rename_i hcond
                obtain ⟨rfl,rfl,rfl,hszs,hpos,_⟩:=hcond
                subst hA
                have hs':(m0+m) * ie.bytes≤140737488355328∧m0+m≤9223372036854775807:=hs
                have hsz0:sz ≠ 0:=by omega
                have hsrc':=hsrcOk hsz0
                rw [hszs] at hsrc'
                obtain ⟨hp,hinfo,xs,hx,hr⟩:=S.obj L _ hL
                obtain ⟨v',w',news,hrun,hown',hg,hpl,hone,hnl,hrn⟩:=zlu (P:=P) (ty:=o.type) hu hi hzv hzs rfl hp S.bs hx hsrc' hs'.2 hs'.1
                rw [← h1.1] at hrun
                have hvec:=zzW (P:=P) (L:=L) ⟨hp,hinfo⟩ hx.1 hr hnl hrn hown'
                have S':=S.grow (dst:=o.dst) hL hd hg (hpl.imp id .inl) hvec hone σ.log
                refine zdv (by simp [hop]) (hrunOf v' w' hrun) ⟨g.setSv L v',σ.upd i o.dst ((L,true) :: fps) (.cl (.vec L)) [(L,.vec e' ie.size ie.bytes (m0+m) (appG m0 get new))] [L],rfl,?_⟩
                rw [zl7]
                exact S'
              · subst hA;exact hs.elim
            · subst hA;exact hs.elim
          · rename_i hsN
            split at hA
            · rename_i hfresh
              split at hA
              · rename_i hcond
                obtain ⟨hszs,hpos⟩:=hcond
                subst hA
                have hs':m * ie.bytes≤140737488355328∧m≤9223372036854775807:=hs
                have hsrc':=hsrcOk (by omega)
                have hnil:a.eval s=.slice none 0 0:=by
                  have:=zbW S hsN
                  generalize a.eval s=v at this
                  cases this;rfl
                obtain ⟨v', w', news, hrun, hown', hg, hpl, hone, hnl, hrn⟩ := zlu (P := P) (ty := o.type) (base := w.heap.size) (m := 0) (v := .slice none 0 0) (xs := []) hu hi hzv hzs hszs.symm hpos (Nat.le_refl _)
                  (World.ownsRow_nil w _ e sz) hsrc' (by omega) (by rw [Nat.zero_add];exact hs'.1)
                rw [← hnil] at hrun
                rw [Nat.zero_add,List.nil_append] at hown'
                have hownB:w'.ownsRow B e sz v' m news:=by
                  refine ⟨hown'.1,?_⟩
                  rcases hown'.2 with h | ⟨k,cap,cur,h1,h2,h3⟩
                  · exact .inl h
                  · exact .inr ⟨k,cap,cur,h1,Nat.le_trans S.bs h2,h3⟩
                have hvec:zrK P (g.setSv dst v') w' B dst e sz ie.bytes m new:=by
                  refine ⟨hpos,⟨ie,zv,hi,hszs.symm,rfl,hzv,by rw [hzs,hszs]⟩,news,?_,hrn⟩
                  rw [show (g.setSv dst v').sv dst=v' by simp [Gh.setSv]]
                  exact hownB
                have hold:∀ b,b < w.heap.size→w'.heap[b]? = w.heap[b]?:=fun b hb=>hg.block b hb (by simp [Value.ownBlock])
                have S' := S.newVec (t := dst) (w' := w') hfresh ⟨⟨hg.os, hg.tape, hg.output, hg.size, fun k hk => hold k (Nat.lt_of_lt_of_le hk S.bs)⟩, hg.drawn⟩ hold
                  (fun b hb=>(hown'.lt b hb).1) hvec
                refine zdv (by simp [hop]) (hrunOf v' w' hrun) ⟨g.setSv dst v',σ.upd i o.dst ((dst,true) :: fps) (.cl (.vec dst)) [(dst,.vec e sz ie.bytes m new)] [],rfl,?_⟩
                rw [zbi]
                refine S'.put (v:=v') hd (d:=.cl (.vec dst)) ⟨by simp [Gh.setSv],hone⟩ ?_ _
                intro L hL
                simp [zaN,za5,zav] at hL
                subst hL
                exact ⟨_,by rw [zak,if_pos rfl]⟩
              · subst hA;exact hs.elim
            · subst hA;exact hs.elim
          · subst hA;exact hs.elim
        · subst hA;exact hs.elim
      · subst hA;exact hs.elim
    · subst hA;exact hs.elim
  · subst hA;exact hs.elim
end
end Go.Pm
namespace Go.Pm
open Go.RowKit (Below)

section
variable {P:Program} {Γ:Ctrs} {nt B:Nat} {w0:World} {h0:Fz} {g:Gh} {σ:St} {a:Act} {w:World} {r:Option Nat} {n i:Nat} {Q:Exit→Act→World→Prop}

def zKO (d:DV):List Cl:=match d with | .one (.c c)=>[c] | _=>[.junk]

theorem zi8 (S : Sim P nt B w0 h0 g σ a w) : ∀ (l : List Operand), RL (clR g) (l.flatMap fun x => zKO (evO σ.env x)) (l.map a.eval)
  | []=>trivial
  | x :: r=>by
    have h:=S.ev x
    simp only [List.flatMap_cons,List.map_cons]
    unfold zKO
    cases he:evO σ.env x with
    | one d =>
      cases d with
      | c c=>rw [he] at h;exact ⟨h,zi8 S r⟩
      | agg cs=>exact ⟨trivial,zi8 S r⟩
    | tup ds=>exact ⟨trivial,zi8 S r⟩

theorem zr2 {h:Fz} {l:List PV} {vs:List Value} (hr:RL (Rep h) l vs):l.length=vs.length∧∀ (j:Nat) (x:PV) (v:Value),l[j]? = some x→vs[j]? = some v→Rep h x v :=
 ⟨hr.length,fun j x v hx hv=>by obtain ⟨u,hu,hxu⟩:=hr.get j x hx;rw [hu] at hv;simp only [Option.some.injEq] at hv;rw [← hv];exact hxu⟩

theorem znW {o : Oper} {f : FuncId} {first caps : Array Operand} {A : OpAct} (S : Sim P nt B w0 h0 g σ a w) (hd : zbu nt o.dst = true) (hop : o.op = .makeFunc (.func f) first caps)
    (hA:act P Γ o (evO σ.env) (lk σ.objs)=A) (hs:A.safe):zdw P nt B w0 h0 r n i o A σ a w Q:=by
  simp only [act,hop] at hA
  split at hA
  · rename_i l u l' u' h1 h2
    subst hA
    have h1:zk4 (lk σ.objs) (first.toList.flatMap fun x=>zKO (evO σ.env x))=some (l,u):=h1
    have h2:zk4 (lk σ.objs) (caps.toList.flatMap fun x=>zKO (evO σ.env x))=some (l',u'):=h2
    obtain ⟨h',S1,F⟩:=S.freeze ((zlV h1).append (zlV h2))
    have r1:=zr2 (F.repL h1 (fun y hy=>List.mem_append.2 (.inl hy)) (zi8 S first.toList))
    have r2:=zr2 (F.repL h2 (fun y hy=>List.mem_append.2 (.inr hy)) (zi8 S caps.toList))
    have hv:Rep h' (.fn f l l') (.func (.func f) (first.toList.map a.eval).toArray (caps.toList.map a.eval).toArray):=.fn f l l' _ _ r1.1 r2.1 r1.2 r2.2
    refine zdv (by simp [hop]) (v:=.func (.func f) (first.toList.map a.eval).toArray (caps.toList.map a.eval).toArray) (w':=w) ?_ ⟨⟨h',g.bk,g.sv,g.iv⟩,_,rfl,?_⟩
    · have e : ∀ l : Array Operand, l.map a.eval = (l.toList.map a.eval).toArray := fun l => by cases l; simp
      simp only [execOp,hop,Instr.makeFunc,Sem.run_bind,Sem.run_pure,Result.andThen_ok,e]
    · rw [zbi]
      exact S1.put (d:=.p (.fn f l l')) hd hv (fun L hL=>by simp [zaN,za5,zav] at hL) _
  · subst hA;exact hs.elim

theorem zzX {h:Fz} {x:PA} {v:Value} (hx:paR h x v):d1R ⟨h,g.bk,g.sv,g.iv⟩ (paD x) v:=by
 cases x with
 | one p=>exact hx
 | agg cs =>
  obtain ⟨vs,rfl,hr⟩:=hx
  exact ⟨vs,rfl,RL.map_left.2 hr⟩
theorem zBE {h:Fz} {rs:List PA} {v:Value} (hr:zzN h rs v):dvR ⟨h,g.bk,g.sv,g.iv⟩ (resD rs) v:=by
 have tup:∀ l:List PA,(∃ vs:List Value,v=.tuple vs.toArray∧RL (paR h) l vs)→dvR ⟨h,g.bk,g.sv,g.iv⟩ (.tup (l.map paD)) v:=by
  rintro l ⟨vs,hv,hr2⟩
  exact ⟨vs,hv,RL.map_left.2 (RL.mono hr2 fun _ _ h=>zzX h)⟩
 match rs,hr with
 | [],hr=>exact tup _ hr
 | [x],hr=>exact zzX hr
 | x :: y :: l,hr=>exact tup _ hr
theorem zl8 (x:PA):za5 (paD x)=[]:=by
 cases x with
 | one p=>rfl
 | agg cs=>exact zcS cs
theorem zr3 (rs:List PA):zaN (resD rs)=[]:=by
 have tup:∀ l:List PA,zaN (.tup (l.map paD))=[]:=by
  intro l
  induction l with
  | nil=>rfl
  | cons x l ih=>simp only [List.map_cons,zaN,List.flatMap_cons,zl8,List.nil_append] at ih ⊢;exact ih
 match rs with
 | []=>exact tup _
 | [x]=>exact zl8 x
 | x :: y :: l=>exact tup _

theorem zc0 {f:FuncId} {args:Array Value} (h:zah P f):(callFunc f args).run P w=.ok (.enter f args) w:=by
 obtain ⟨fn,h1,h2,h3⟩:=h
 have h2':fn.body.isNone=false:=by simpa using h2
 simp only [callFunc,Sem.run_bind,run_program,Result.andThen_ok,h1,h3,h2',Bool.false_eq_true,if_false,Sem.run_pure]

theorem zC4 (S : Sim P nt B w0 h0 g σ a w) : ∀ (l : List Operand), RL (dvR g) (l.map (evO σ.env)) (l.map a.eval)
  | []=>trivial
  | x :: r=>⟨S.ev x,zC4 S r⟩

theorem zuI {h:Fz} {l:List PV} {vs:List Value} (hr:RL (Rep h) l vs):RL (paR h) (l.map .one) vs:=RL.map_left.2 hr

theorem zzY {h:Fz} {l:List PV} {vs:List Value} (h1:l.length=vs.length) (h2:∀ (j:Nat) (x:PV) (v:Value),l[j]? = some x→vs[j]? = some v→Rep h x v):RL (Rep h) l vs:=RL.of_get h1 h2

def outOf (C:COut) (rs:List PA):Prop :=
 match C with
 | .no=>False
 | .tot r=>rs=r
 | .det _ r=>rs=r
 | .rel ρ _ post res=>∃ x:ρ,post x∧rs=res x

theorem Sim.adopt (S : Sim P nt B w0 h0 g σ a w) {t e s b n : Nat} {get : Nat → List PV} {v : Value} (ht : lk σ.objs t = none)
    (hv:∀ k,v.ownBlock=some k→B≤k∧g.h k=none∧∀ L o,lk σ.objs L=some o→¬ obk g L o k) (hr:zrK P (g.setSv t v) w B t e s b n get) :
    Sim P nt B w0 h0 (g.setSv t v) { σ with objs:=(t,.vec e s b n get) :: σ.objs } a w:=by
  have hne:∀ L o,lk σ.objs L=some o→L ≠ t:=fun L o h e=>by subst e;rw [ht] at h;cases h
  have hsame:∀ L o,lk σ.objs L=some o→zcB g (g.setSv t v) L:=fun L o h=>zls L (hne L o h)
  have hlk:∀ L o,lk ((t,AO.vec e s b n get) :: σ.objs) L=some o→(L=t∧o=.vec e s b n get)∨(L ≠ t∧lk σ.objs L=some o):=by
    intro L o h
    rw [zak] at h
    split at h
    · rename_i e;simp at h;exact .inl ⟨e.symm,h.symm⟩
    · rename_i e;exact .inr ⟨fun e'=>e e'.symm,h⟩
  have hnew:(g.setSv t v).sv t=v:=by simp [Gh.setSv]
  have hobkb:∀ L o k,lk σ.objs L=some o→obk (g.setSv t v) L o k→obk g L o k:=fun L o k ho h=>by rw [zaZ (hsame L o ho)] at h;exact h
  refine S.change (g':=g.setSv t v) hsame (fun _ _ h=>h) S.hw (fun b o h=>.inl h) (.refl _ B w) ?_ ?_ ?_ ?_ ?_
  · intro L o ho
    rcases hlk L o ho with ⟨rfl,rfl⟩ | ⟨_,ho⟩
    · exact hr
    · exact zb6 (S.obj L o ho) (hsame L o ho) (fun M hM=>by obtain ⟨o',ho'⟩:=S.clO L o ho M hM;exact hsame M o' ho') (fun _ _ h=>h) fun _ _=>rfl
  · intro L o k ho hk
    rcases hlk L o ho with ⟨rfl,rfl⟩ | ⟨_,ho⟩
    · simp only [obk,hnew] at hk;exact ⟨(hv k hk).1,(hv k hk).2.1⟩
    · exact S.own L o k ho (hobkb L o k ho hk)
  · intro L o k L' o' ho ho' hk hk'
    rcases hlk L o ho with ⟨rfl,rfl⟩ | ⟨_,ho2⟩ <;> rcases hlk L' o' ho' with ⟨rfl,rfl⟩ | ⟨_,ho2'⟩
    · rfl
    · simp only [obk,hnew] at hk;exact ((hv k hk).2.2 L' o' ho2' (hobkb _ _ _ ho2' hk')).elim
    · simp only [obk,hnew] at hk';exact ((hv k hk').2.2 L o ho2 (hobkb _ _ _ ho2 hk)).elim
    · exact S.sep L o k L' o' ho2 ho2' (hobkb _ _ _ ho2 hk) (hobkb _ _ _ ho2' hk')
  · intro L o ho
    refine ⟨o,?_⟩
    rw [zak,if_neg (fun e=>hne L o ho e.symm)];exact ho
  · intro L o ho M hM
    rcases hlk L o ho with ⟨rfl,rfl⟩ | ⟨_,ho⟩
    · simp [zbB] at hM
    · obtain ⟨o', ho'⟩ := S.clO L o ho M hM
      exact ⟨o',by rw [zak,if_neg (fun e=>hne M o' ho' e.symm)];exact ho'⟩

theorem ownsRow_base {w:World} {base B e s n:Nat} {v:Value} {xs:List Value} (h:w.ownsRow base e s v n xs) (hB:∀ k,base≤k→v.ownBlock=some k→B≤k):w.ownsRow B e s v n xs:=by
 refine ⟨h.1,?_⟩
 rcases h.2 with hn | ⟨k,cap,cur,rfl,hk,rest⟩
 ·exact .inl hn
 ·exact .inr ⟨k,cap,cur,rfl,hB k hk rfl,rest⟩

theorem zuJ {args:Array Operand} {ev:Operand→DV} {p:DV} (h:args.toList.map ev=[p]):∃ x,args = #[x]∧ev x=p:=by
 match hl:args.toList,h with
 | [x],h =>
  simp at h
  exact ⟨x,by rw [← Array.toArray_toList (xs:=args),hl],h⟩
 | [],h=>simp at h
 | _ :: _ :: _,h=>simp at h

theorem zC5 {o : Oper} {f : Operand} {args : Array Operand} {ts : Array TypeId} {A : OpAct} {gf : FuncId} (hall : OkAll P Γ) (S : Sim P nt B w0 h0 g σ a w) (hd : zbu nt o.dst = true)
    (hop:o.op=.call { callee:=.value f,args,argTypes:=ts }) (hfv:a.eval f=.func (.func gf) #[] #[])
    (hA:zfw P Γ o (Γ.own gf) (args.toList.map (evO σ.env)) (lk σ.objs)=A) (hs:A.safe):zdw P nt B w0 h0 r n i o A σ a w Q:=by
  have enter:∀ x,args = #[x]→zah P gf→(execOp a.eval o).run P w=.ok (.enter gf #[a.eval x]) w:=by
    rintro x rfl hcall
    simp only [execOp,hop,resolve,hfv,Deferred.ofValue,Sem.run_bind,Sem.run_pure,Result.andThen_ok,invoke]
    rw [show (#[] ++ Array.map a.eval #[x] ++ #[]) = #[a.eval x] by simp]
    exact zc0 hcall
  have hok:=hall.own gf
  unfold zfw at hA
  split at hA
  · subst hA;exact hs.elim
  · rename_i e s b hk
    rw [hk] at hok
    split at hA
    · rename_i L hf caps hargs
      obtain ⟨x,y,rfl,hx,hy⟩:=zl3 hargs
      obtain ⟨⟨hxv,hone⟩,_⟩:=zbm S hx
      split at hA
      · rename_i e' s' b' m get ag hL hag
        split at hA
        · rename_i hcond
          obtain ⟨rfl,rfl,rfl⟩:=hcond
          subst hA
          have hs':m≤4611686018427387∧(∀ i j,i < m→j < m→zHy (Γ.fn hf) caps ag get i j)∧STO m (zt4 (Γ.fn hf) caps ag get):=hs
          obtain ⟨hpos,hinfo,xs,hxs,hr⟩:=S.obj L _ hL
          have hown:∀ k,(g.sv L).ownBlock=some k→g.h k=none:=fun k hk=>(S.own L _ k hL hk).2
          have hfn:=zbW S hy
          generalize hyv:a.eval y=yv at hfn
          cases hfn with
          | fn _ _ _ fv cv l1 l2 hf1 hc1 =>
            have e1:fv=[]:=List.eq_nil_of_length_eq_zero l1.symm
            subst e1
            obtain ⟨ii,zz,hi1,hi2,_⟩:=hinfo
            obtain ⟨hcall,hrun⟩:=hok w g.h B (g.sv L) m get hf caps cv ag (Γ.fn hf) (hall.fn hf) (zzY l2 hc1) hag ⟨ii,hi1,hi2⟩ hpos ⟨xs,hxs,hr⟩ (by rw [← hxv];exact hone) S.hw hown S.bs hs'.1 hs'.2.1 hs'.2.2
            refine zgf (by simp [hop]) (w':=w) (f:=gf) (args:=#[a.eval x,a.eval y]) ?_ ?_
            · simp only [execOp, hop, resolve, hfv, Deferred.ofValue, Sem.run_bind, Sem.run_pure, Result.andThen_ok, invoke]
              rw [show (#[] ++ Array.map a.eval #[x,y] ++ #[]) = #[a.eval x,a.eval y] by simp]
              exact zc0 hcall
            · rw [hxv, hyv]
              refine hrun.mono ?_
              rintro r0 w' ⟨rfl,⟨xs',hxs',hr'⟩,hg⟩
              refine ⟨.tuple #[],rfl,g,_,rfl,?_⟩
              rw [zbi]
              have hold:∀ k,k < w.heap.size→¬ (g.sv L).ownBlock=some k→w'.heap[k]? = w.heap[k]?:=fun k hk hne=>hg.block k hk (fun e=>hne e.symm)
              have S' := S.write2 (o' := .vec e' s' b' m (zo6 m (zt4 (Γ.fn hf) caps ag get) get)) hL (fun b hb => hb) ⟨⟨hg.os, hg.tape, hg.output, hg.size, fun k hk => hold k (Nat.lt_of_lt_of_le hk S.bs) (fun e => by have := (S.own L _ k hL e).1; omega)⟩, hg.drawn⟩
                hold ⟨hpos,⟨ii,zz,hi1,hi2,by assumption⟩,xs',hxs',hr'⟩ (fun M hM=>by simp [zbB] at hM)
              exact S'.put (d:=.tup []) hd ⟨[],rfl,trivial⟩ (fun L hL=>by simp [zaN] at hL) _
        · subst hA;exact hs.elim
      · subst hA;exact hs.elim
    · subst hA;exact hs.elim
  · rename_i e s b hk
    rw [hk] at hok
    split at hA
    · rename_i m s' get dst hargs hdst
      obtain ⟨x,rfl,hx⟩:=zuJ hargs
      split at hA
      · rename_i ie z hfresh hi hz
        split at hA
        · rename_i hcond
          obtain ⟨rfl,hsz,rfl,hpos⟩:=hcond
          subst hA
          have hs':m * ie.bytes≤140737488355328∧m≤9223372036854775807:=hs
          obtain ⟨zv,hzv,hzs⟩:=zbQ hz hi
          obtain ⟨hcall,hrun⟩:=hok w g.h (a.eval x) m get (zbW S hx) S.hw hs'.1 hs'.2
          refine zgf (by simp [hop]) (w':=w) (f:=gf) (args:=#[a.eval x]) (enter x rfl hcall) (hrun.mono ?_)
          rintro r0 w' ⟨h',v',rfl,hone,⟨xs,hxs,hr⟩,hnh,hb,hle,hw',hn'⟩
          refine ⟨v',rfl,?_⟩
          have S2:=S.world hle hw' hn' hb
          have hbk:∀ k,v'.ownBlock=some k→w.heap.size≤k:=fun k hk=>(hxs.lt k hk).1
          have S3:=S2.adopt (t:=dst) (v:=v') (e:=e) (s:=s') (b:=ie.bytes) (n:=m) (get:=get) hfresh (fun k hk=>⟨Nat.le_trans S.bs (hbk k hk),hnh k hk,fun L o ho hob=>by
              have hob':obk g L o k:=hob
              have:=zca (S.obj L o ho) hob'
              have:=hbk k hk
              omega⟩) (by
            refine ⟨hpos,⟨ie,zv,hi,hsz,rfl,hzv,by rw [hzs,hsz]⟩,xs,?_,hr⟩
            rw [show ((⟨h',g.bk,g.sv,g.iv⟩:Gh).setSv dst v').sv dst=v' by simp [Gh.setSv]]
            exact ownsRow_base hxs fun k hk _=>Nat.le_trans S.bs hk)
          refine ⟨(⟨h',g.bk,g.sv,g.iv⟩:Gh).setSv dst v',_,rfl,?_⟩
          rw [zbi]
          refine S3.put (v:=v') hd (d:=.cl (.vec dst)) ⟨by simp [Gh.setSv],hone⟩ ?_ _
          intro L hL
          simp [zaN,za5,zav] at hL
          subst hL
          exact ⟨_,by rw [zak,if_pos rfl]⟩
        · subst hA;exact hs.elim
      · subst hA;exact hs.elim
    · subst hA;exact hs.elim
  · rename_i e s b φ ret okk hk
    rw [hk] at hok
    split at hA
    · rename_i L hargs
      obtain ⟨x,rfl,hx⟩:=zuJ hargs
      obtain ⟨⟨hxv,hone⟩,_⟩:=zbm S hx
      split at hA
      · rename_i e' s' b' m get hL
        split at hA
        · rename_i hcond
          obtain ⟨rfl,rfl,rfl⟩:=hcond
          obtain ⟨hpos,hinfo,xs,hxs,hr⟩:=S.obj L _ hL
          have hown:∀ k,(g.sv L).ownBlock=some k→g.h k=none:=fun k hk=>(S.own L _ k hL hk).2
          have pre:m≤4611686018427387→okk get→_:=hok w g.h B (g.sv L) m get ⟨xs,hxs,hr⟩ (by rw [← hxv];exact hone) S.hw hown S.bs
          split at hA
          · subst hA
            have hs':m≤4611686018427387∧okk get:=hs
            obtain ⟨hcall,hrun⟩:=pre hs'.1 hs'.2
            refine zgf (by simp [hop]) (w':=w) (f:=gf) (args:=#[a.eval x]) (enter x rfl hcall) ?_
            rw [hxv]
            refine hrun.mono ?_
            rintro r0 w' ⟨v',rfl,_,hone',hbl,⟨xs',hxs',hr'⟩,hg⟩
            refine ⟨v',rfl,g.setSv L v',_,rfl,?_⟩
            rw [zl7]
            exact S.grow (dst:=o.dst) hL hd hg (by
              cases hvb:v'.ownBlock with
              | none=>exact .inr (.inr rfl)
              | some k=>exact .inl (hbl k hvb).symm) ⟨hpos,hinfo,xs',by rw [show (g.setSv L v').sv L=v' by simp [Gh.setSv]];exact hxs',hr'⟩ hone' σ.log
          · subst hA
            have hs':m≤4611686018427387∧okk get:=hs
            obtain ⟨hcall,hrun⟩:=pre hs'.1 hs'.2
            refine zgf (by simp [hop]) (w':=w) (f:=gf) (args:=#[a.eval x]) (enter x rfl hcall) ?_
            rw [hxv]
            refine hrun.mono ?_
            rintro r0 w' ⟨v',rfl,hvv,hone',hbl,⟨xs',hxs',hr'⟩,hg⟩
            have hvv:=hvv rfl
            subst hvv
            refine ⟨.tuple #[],rfl,g,_,rfl,?_⟩
            rw [zbi]
            have hold:∀ k,k < w.heap.size→¬ (g.sv L).ownBlock=some k→w'.heap[k]? = w.heap[k]?:=fun k hk hne=>hg.block k hk (fun e=>hne e.symm)
            have S' := S.write2 (o' := .vec e' s' b' m (φ m get).2) hL (fun b hb => hb) ⟨⟨hg.os, hg.tape, hg.output, hg.size, fun k hk => hold k (Nat.lt_of_lt_of_le hk S.bs) (fun e => by have := (S.own L _ k hL e).1; omega)⟩, hg.drawn⟩
              hold ⟨hpos,hinfo,xs',hxs',hr'⟩ (fun M hM=>by simp [zbB] at hM)
            exact S'.put (d:=.tup []) hd ⟨[],rfl,trivial⟩ (fun L hL=>by simp [zaN] at hL) _
        · subst hA;exact hs.elim
      · subst hA;exact hs.elim
    · subst hA;exact hs.elim

theorem zuK {h h':Fz} {p:PV} {v:Value} (hs:zzD p=true) (hr:Rep h' p v):Rep h p v:=by
 cases hr with
 | bool b=>exact .bool b
 | int k n=>exact .int k n
 | _=>cases hs
theorem zr4 {h h' : Fz} : ∀ {l : List PV} {vs : List Value}, l.all zzD = true → RL (Rep h') l vs → RL (Rep h) l vs
  | [],[],_,_=>trivial
  | [],_ :: _,_,hr=>hr.elim
  | _ :: _,[],_,hr=>hr.elim
  | p :: l,v :: vs,hs,hr=>by
    simp only [List.all_cons,Bool.and_eq_true] at hs
    exact ⟨zuK hs.1 hr.1,zr4 hs.2 hr.2⟩
theorem zuL {h h':Fz} {x:PA} {v:Value} (hs:zCQ x=true) (hr:paR h' x v):paR h x v:=by
 cases x with
 | one p=>exact zuK hs hr
 | agg cs =>
  obtain ⟨vs,rfl,hr⟩:=hr
  exact ⟨vs,rfl,zr4 hs hr⟩
theorem zl9 {h h' : Fz} : ∀ {l : List PA} {vs : List Value}, l.all zCQ = true → RL (paR h') l vs → RL (paR h) l vs
  | [],[],_,_=>trivial
  | [],_ :: _,_,hr=>hr.elim
  | _ :: _,[],_,hr=>hr.elim
  | p :: l,v :: vs,hs,hr=>by
    simp only [List.all_cons,Bool.and_eq_true] at hs
    exact ⟨zuL hs.1 hr.1,zl9 hs.2 hr.2⟩
theorem zzZ {h h':Fz} {rs:List PA} {v:Value} (hs:zf7 rs=true) (hr:zzN h' rs v):zzN h rs v:=by
 match rs,hs,hr with
 | [],_,⟨vs,e,r⟩=>exact ⟨vs,e,zl9 rfl r⟩
 | [x],hs,hr =>
  simp only [zf7,List.all_cons,List.all_nil,Bool.and_true] at hs
  exact zuL hs hr
 | x :: y :: l,hs,⟨vs,e,r⟩=>exact ⟨vs,e,zl9 hs r⟩

theorem Sim.borrow (S : Sim P nt B w0 h0 g σ a w) {u : Upd} {h' h2 hx : Fz} {w' : World} (F : Frozen g (lk σ.objs) u h') (hb : Bel h' w.heap.size w w') (hw2 : Hw h2 w')
    (h1:Fle g.h hx) (h3:Fle hx h2) (h4:∀ b o,hx b=some o→g.h b=some o∨w.heap.size≤b):Sim P nt B w0 h0 ⟨hx,g.bk,g.sv,g.iv⟩ σ a w' :=
  S.world h1 (fun b x hb'=>hw2 b x (h3 b x hb')) h4 ⟨hb.os,hb.tape,hb.output,hb.size,hb.drawn,fun k hk hn=>hb.block k hk fun Fn hF=>hn Fn (F.inv k Fn hF)⟩

theorem zuM {labs:List Nat} {u:List (Nat×AO)} {C:COut} (h:(COut.act labs u C).safe):C.wp (outOf C):=by
 cases C with
 | no=>exact h.elim
 | tot r=>rfl
 | det s r =>
  cases hsc:zf7 r with
  | true=>rw [zlL hsc] at h;exact ⟨h,rfl⟩
  | false=>rw [zlM hsc] at h;exact ⟨h,rfl⟩
 | rel ρ s post res=>exact ⟨h.1,h.2,fun x hx=>⟨x,hx,rfl⟩⟩

theorem zz0 {o : Oper} {f : Operand} {args : Array Operand} {ts : Array TypeId} {A : OpAct} (hok : OkAll P Γ) (S : Sim P nt B w0 h0 g σ a w) (hd : zbu nt o.dst = true)
    (hop:o.op=.call { callee:=.value f,args,argTypes:=ts })
    (hA:act P Γ o (evO σ.env) (lk σ.objs)=A) (hs:A.safe):zdw P nt B w0 h0 r n i o A σ a w Q:=by
  simp only [act,hop] at hA
  split at hA
  · rename_i gf first caps hf
    split at hA
    · split at hA
      · have hfn := zbW S hf
        generalize hfv:a.eval f=fvv at hfn
        cases hfn with
        | fn _ _ _ fv cv l1 l2 hf1 hc1 =>
          have e1:fv=[]:=List.eq_nil_of_length_eq_zero l1.symm
          have e2:cv=[]:=List.eq_nil_of_length_eq_zero l2.symm
          subst e1 e2
          exact zC5 hok S hd hop hfv hA hs
      · subst hA;exact hs.elim
    split at hA
    · rename_i as u has
      obtain ⟨h',S1,F⟩:=S.freeze (zrR has)
      have hargs:=F.repDs has (fun y hy=>hy) (zC4 S args.toList)
      have hfn:=zbW S hf
      generalize hfv:a.eval f=fvv at hfn
      cases hfn with
      | fn _ _ _ fv cv l1 l2 hf1 hc1 =>
        have hall:RL (paR h') (first.map .one ++ as ++ caps.map .one) (fv ++ args.toList.map a.eval ++ cv) :=
          ((zuI ((zzY l1 hf1).mono fun _ _ h=>h.mono F.le)).append hargs).append (zuI ((zzY l2 hc1).mono fun _ _ h=>h.mono F.le))
        generalize hC:Γ gf (first.map .one ++ as ++ caps.map .one)=C at hA
        have hwp:C.wp (outOf C):=by
          subst hA
          exact zuM hs
        obtain ⟨hcall,hrun⟩:=hok.fn gf (first.map .one ++ as ++ caps.map .one) (outOf C) (by rw [hC];exact hwp) w h' _ hall S1.hw
        refine zgf (by simp [hop]) (w':=w) (f:=gf) (args:=(fv ++ args.toList.map a.eval ++ cv).toArray) ?_ (hrun.mono ?_)
        · simp only [execOp, hop, resolve, hfv, Deferred.ofValue, Sem.run_bind, Sem.run_pure, Result.andThen_ok, invoke]
          rw [show (fv.toArray ++ Array.map a.eval args ++ cv.toArray)=(fv ++ args.toList.map a.eval ++ cv).toArray by cases args;simp]
          exact zc0 hcall
        · rintro e w' ⟨h2, rs, v, hK, rfl, hres, hb, hle, hw2, hn2⟩
          refine ⟨v,rfl,?_⟩
          have S2:=S1.world hle hw2 hn2 hb
          have S3 := S2.put (v := v) (d := resD rs) hd (zBE (g := g) hres) (fun L hL => by rw [zr3] at hL; simp at hL)
            σ.log
          have T2:=S.borrow F hb hw2 (fun _ _ h=>h) (fun b x hx=>hle b x (F.le b x hx)) (fun _ _ h=>.inl h)
          have T3 : zf7 rs = true → _ := fun hsc => T2.put (v := v) (d := resD rs) hd (zBE (g := g) (zzZ (h := g.h) hsc hres)) (fun L hL => by rw [zr3] at hL; simp at hL)
            σ.log
          subst hA
          cases C with
          | no=>exact hs.elim
          | tot r =>
            cases hK
            cases hsc:zf7 rs with
            | true=>rw [zo0 hsc];exact ⟨⟨g.h,g.bk,g.sv,g.iv⟩,_,rfl,by rw [zbi];exact T3 hsc⟩
            | false=>rw [zo1 hsc];exact ⟨⟨h2,g.bk,g.sv,g.iv⟩,_,rfl,by rw [zbi];exact S3⟩
          | det s r =>
            cases hK
            cases hsc:zf7 rs with
            | true=>rw [zlL hsc];exact ⟨⟨g.h,g.bk,g.sv,g.iv⟩,_,rfl,by rw [zbi];exact T3 hsc⟩
            | false=>rw [zlM hsc];exact ⟨⟨h2,g.bk,g.sv,g.iv⟩,_,rfl,by rw [zbi];exact S3⟩
          | rel ρ s post res =>
            obtain ⟨x,hx,rfl⟩:=hK
            exact ⟨⟨h2,g.bk,g.sv,g.iv⟩,_,⟨x,hx,rfl⟩,by rw [zbi];exact S3⟩
    · subst hA;exact hs.elim
  · subst hA;exact hs.elim

theorem zi9 {o : Oper} {A : OpAct} (hok : OkAll P Γ) (S : Sim P nt B w0 h0 g σ a w) (hd : zbu nt o.dst = true) (hA : act P Γ o (evO σ.env) (lk σ.objs) = A) (hs : A.safe) :
  zdw P nt B w0 h0 r n i o A σ a w Q:=by
 have hA':=hA
 cases hop:o.op with
 | move x=>simp only [act,hop] at hA;subst hA;exact zrX S hd (.inl hop)
 | assign x=>simp only [act,hop] at hA;subst hA;exact zrX S hd (.inr hop)
 | pick c x y =>
  simp only [act,hop] at hA
  split at hA
  ·rename_i t hc;subst hA;exact zzQ S hd hop hc
  ·subst hA;exact hs.elim
 | alloc e =>
  simp only [act,hop] at hA
  split at hA
  ·rename_i z hz;exact zuk S hd hop hz hA hs
  ·subst hA;exact hs.elim
 | box e x =>
  simp only [act,hop] at hA
  split at hA
  ·rename_i d m hx hm
   split at hA
   ·rename_i hcond
    simp only [Bool.and_eq_true] at hcond
    exact zCW S hd hop hx hcond.2 hA hs
   ·subst hA;exact hs.elim
  ·subst hA;exact hs.elim
 | build t parts =>
  simp only [act,hop] at hA
  split at hA
  ·rename_i z hf hz
   split at hA
   ·rename_i l hl
    subst hA
    refine zul S hd hop hf hz hl (fun L hL=>?_)
    rcases zll _ _ _ hl L hL with h | ⟨x,_,h⟩
    ·rw [znI hz] at h;simp at h
    ·exact S.evLab x.2 L h
   ·subst hA;exact hs.elim
  ·subst hA;exact hs.elim
 | buildSlice t m parts=>exact zk8 S hd hop hA' hs
 | load t x=>exact zzR S hd hop hA' hs
 | store t x y=>exact zuu S hd hop hA' hs
 | nilCheck x=>exact znN S hd hop hA' hs
 | binOp op t x y t'=>exact zuq S hd hop hA' hs
 | unOp op t x=>exact zzS S hd hop hA' hs
 | fieldAddr t x f=>exact zl1 S hd hop hA' hs
 | indexAddr t x y=>exact zl2 S hd hop hA' hs
 | extract x k=>exact zpi S hd hop hA' hs
 | index t x y=>exact zuo S hd hop hA' hs
 | slice t x lo hi mx =>
  cases mx with
  | none=>simp only [act,hop] at hA;exact zuA S hd hop hA hs
  | some m=>simp only [act,hop] at hA;subst hA;exact hs.elim
 | lookup t x y k =>
  simp only [act,hop] at hA
  split at hA
  ·exact ztC S hd hop hA hs
  ·exact ztA S hd hop hA hs
 | mapUpdate t x y z =>
  simp only [act,hop] at hA
  split at hA
  ·exact zuz S hd hop hA hs
  ·exact zl0 S hd hop hA hs
 | makeMap t x =>
  cases x with
  | none =>
   simp only [act,hop] at hA
   split at hA
   ·split at hA
    ·split at hA
     ·rename_i hE;exact ztD S hd hop hE hA hs
     ·subst hA;exact hs.elim
    ·subst hA;exact hs.elim
   ·exact zpg (Γ:=Γ) S hd hop hA hs
  | some x=>simp only [act,hop] at hA;subst hA;exact hs.elim
 | makeSlice t x y=>simp only [act,hop] at hA;exact zl5 S hd hop hA hs
 | range t x=>exact zuB S hd hop hA' hs
 | entry x=>exact zuC S hd hop hA' hs
 | makeFunc fn first caps =>
  cases fn with
  | func f=>exact znW S hd hop hA' hs
  | _=>simp only [act,hop] at hA;subst hA;exact hs.elim
 | call c =>
  obtain ⟨callee,args,ts⟩:=c
  cases callee with
  | value f=>exact zz0 hok S hd hop hA' hs
  | invoke x m=>simp only [act,hop] at hA;subst hA;exact hs.elim
  | builtin b =>
   cases b with
   | len=>exact zCX S hd hop hA' hs
   | max=>exact zCY S hd hop hA' hs
   | min=>exact zCZ S hd hop hA' hs
   | append=>exact ztE S hd hop hA' hs
   | _=>simp only [act,hop] at hA;subst hA;exact hs.elim
 | _=>simp only [act,hop] at hA;subst hA;exact hs.elim
end
end Go.Pm
namespace Go.Pm
open Go.RowKit (Below)

theorem zcV {α : Type} {f : α → α} {l : List (Nat × α)} : ∀ {ks : List Nat} {t : Nat} {x : α}, lk (zir f l ks) t = some x → ∃ y, lk l t = some y ∧ x = f y ∧ t ∈ ks
  | [],t,x,h=>by simp [zir,lk] at h
  | k :: ks,t,x,h=>by
    simp only [zir] at h
    split at h
    · rename_i d hd
      rw [zak] at h
      split at h
      · rename_i e
        simp only [Option.some.injEq] at h
        subst e
        exact ⟨d,hd,h.symm,List.mem_cons_self⟩
      · obtain ⟨y,h1,h2,h3⟩:=zcV h;exact ⟨y,h1,h2,List.mem_cons_of_mem _ h3⟩
    · obtain ⟨y,h1,h2,h3⟩:=zcV h;exact ⟨y,h1,h2,List.mem_cons_of_mem _ h3⟩

theorem zdL {α : Type} {f : α → α} {l : List (Nat × α)} : ∀ {ks : List Nat} {t : Nat} {y : α}, lk l t = some y → t ∈ ks → lk (zir f l ks) t = some (f y)
  | [],t,y,_,ht=>by simp at ht
  | k :: ks,t,y,h,ht=>by
    simp only [zir]
    by_cases hk:k=t
    · subst hk;rw [h];rw [zak,if_pos rfl]
    · have ht' : t ∈ ks := by rcases List.mem_cons.1 ht with h | h; · exact absurd h.symm hk
                              · exact h
      split
      · rw [zak,if_neg hk];exact zdL h ht'
      · exact zdL h ht'

section
variable {P:Program} {Γ:Ctrs} {nt B:Nat} {w0:World} {h0:Fz} {g:Gh} {σ:St} {a:Act} {w:World} {r:Option Nat} {n i:Nat} {Q:Exit→Act→World→Prop}

theorem znX {c:Cl} {x:Value} (h:clR g c x):clR g (zeQ c) x:=by
 cases c <;> exact h
theorem zgX : ∀ {cs : List Cl} {vs : List Value}, RL (clR g) cs vs → RL (clR g) (cs.map zeQ) vs
  | [],[],_=>trivial
  | [],_ :: _,h=>h.elim
  | _ :: _,[],h=>h.elim
  | _ :: _,_ :: _,h=>⟨znX h.1,zgX h.2⟩
theorem zlv {d:D1} {x:Value} (h:d1R g d x):d1R g (zgc d) x:=by
 cases d with
 | c y=>exact znX h
 | agg cs=>obtain ⟨vs,rfl,hr⟩:=h;exact ⟨vs,rfl,zgX hr⟩
theorem zja : ∀ {cs : List D1} {vs : List Value}, RL (d1R g) cs vs → RL (d1R g) (cs.map zgc) vs
  | [],[],_=>trivial
  | [],_ :: _,h=>h.elim
  | _ :: _,[],h=>h.elim
  | _ :: _,_ :: _,h=>⟨zlv h.1,zja h.2⟩
theorem zz1 {d:DV} {x:Value} (h:dvR g d x):dvR g (zrJ d) x:=by
 cases d with
 | one y=>exact zlv h
 | tup ds=>obtain ⟨vs,rfl,hr⟩:=h;exact ⟨vs,rfl,zja hr⟩
theorem zjb {c:Cl} : ∀ M∈zav (zeQ c),M∈zav c:=by
 cases c <;> first | exact fun _ h=>h | (intro M h;simp [zeQ,zav] at h)
theorem zjc {cs:List Cl} : ∀ M∈(cs.map zeQ).flatMap zav,M∈cs.flatMap zav:=by
 intro M hM
 simp only [List.mem_flatMap,List.mem_map] at hM ⊢
 obtain ⟨_,⟨c,hc,rfl⟩,hM⟩:=hM
 exact ⟨c,hc,zjb M hM⟩
theorem zii {d:D1} : ∀ M∈za5 (zgc d),M∈za5 d:=by
 cases d with
 | c y=>exact zjb
 | agg cs=>exact zjc
theorem ztF {d:DV} : ∀ M∈zaN (zrJ d),M∈zaN d:=by
 cases d with
 | one y=>exact zii
 | tup ds =>
  intro M hM
  simp only [zrJ,zaN,List.mem_flatMap,List.mem_map] at hM ⊢
  obtain ⟨_,⟨d,hd,rfl⟩,hM⟩:=hM
  exact ⟨d,hd,zii M hM⟩
theorem zpm {o:AO} : ∀ M∈zbB (zlQ o),M∈zbB o:=by
 cases o with
 | box ty cs=>exact zjc
 | _=>exact fun _ h=>h
theorem zuN {B L:Nat} {o:AO} (h:aoR P g w B L o):aoR P g w B L (zlQ o):=by
 cases o with
 | box ty cs=>obtain ⟨C,hC,hr⟩:=h;exact ⟨C,hC,zgX hr⟩
 | _=>exact h
theorem zjd {L:Nat} {o:AO} : obk g L (zlQ o)=obk g L o:=by cases o <;> rfl

theorem Sim.env' (S : Sim P nt B w0 h0 g σ a w) {t : Nat} {d : DV} (hv : dvR g d (a.tmps.getD t undef)) (hl : ∀ L ∈ zaN d, ∃ o, lk σ.objs L = some o) :
  Sim P nt B w0 h0 g { σ with env:=(t,d) :: σ.env } a w:=by
 refine ⟨S.dfr,S.size,?_,S.obj,S.own,S.sep,S.hw,S.le0,S.hn,S.below,S.bs,?_,S.clO⟩
 ·intro u e hu
  simp only [zak] at hu
  split at hu
  ·rename_i h;simp only [Option.some.injEq] at hu;subst hu;rw [← h];exact hv
  ·exact S.env u e hu
 ·intro u e hu
  simp only [zak] at hu
  split at hu
  ·simp only [Option.some.injEq] at hu;subst hu;exact hl
  ·exact S.clE u e hu

theorem Sim.coerce (S : Sim P nt B w0 h0 g σ a w) {L e : Nat} {ie : TypeInfo} {z : List Cl} (get : Nat → List PV) (hL : lk σ.objs L = none) (hi : P.info? e = some ie) (hz : zcW P e = some z) (hp : 0 < ie.size) :
  Sim P nt B w0 h0 (g.setSv L (.slice none 0 0)) { σ with objs:=(L,.vec e ie.size ie.bytes 0 get) :: σ.objs } a w:=by
 obtain ⟨zv,hzv,hzs⟩:=zbQ hz hi
 refine S.newVec hL (.refl B w) (fun _ _=>rfl) (fun b hb=>by simp [Value.ownBlock] at hb) ⟨hp,⟨ie,zv,hi,rfl,rfl,hzv,hzs⟩,[],?_,fun k hk=>absurd hk (by omega)⟩
 rw [show (g.setSv L (.slice none 0 0)).sv L=.slice none 0 0 by simp [Gh.setSv]]
 exact World.ownsRow_nil w B e ie.size

theorem zgh {h:Fz} {v:Value} (hr:Rep h .nils v):v=.slice none 0 0:=by cases hr;rfl

theorem zel : ∀ (l : List (Nat × Nat × Nat × (Nat → List PV))) (σ σ' : St) (g : Gh), zdp P l σ = some σ' → Sim P nt B w0 h0 g σ a w → ∃ g', Sim P nt B w0 h0 g' σ' a w
  | [],σ,σ',g,h,S=>by simp [zdp] at h;subst h;exact ⟨g,S⟩
  | (t,L,e,get) :: l,σ,σ',g,h,S=>by
    simp only [zdp] at h
    split at h
    · rename_i ht
      split at h
      · rename_i ie z hL hi hz
        split at h
        · rename_i hp
          have S1:=S.coerce get hL hi hz (Nat.lt_of_succ_le (Nat.le_of_ble_eq_true hp))
          have hv:a.tmps.getD t undef=.slice none 0 0:=zgh (S.env t _ ht)
          have S2:=S1.env' (t:=t) (d:=.cl (.vec L)) (by rw [hv];simp [dvR,d1R,clR,Gh.setSv,Value.oneCell']) (fun M hM=>by simp [zaN,za5,zav] at hM;subst hM;exact ⟨_,by rw [zak,if_pos rfl]⟩)
          exact zel l _ σ' _ h S2
        · cases h
      · cases h
    · exact zel l σ σ' g h S
    · cases h

theorem zem : ∀ (l : List (Nat × Nat × Nat × Nat × (Nat → List PV))) (σ σ' : St) (g : Gh), zdq P l σ = some σ' → Sim P nt B w0 h0 g σ a w → ∃ g', Sim P nt B w0 h0 g' σ' a w
  | [],σ,σ',g,h,S=>by simp [zdq] at h;subst h;exact ⟨g,S⟩
  | (bx,k,L,e,get) :: l,σ,σ',g,h,S=>by
    simp only [zdq] at h
    split at h
    · rename_i ty cs hbx
      split at h
      · rename_i hk
        split at h
        · rename_i ie z hL hi hz
          split at h
          · rename_i hp
            have S1:=S.coerce get hL hi hz (Nat.lt_of_succ_le (Nat.le_of_ble_eq_true hp))
            have hne:L ≠ bx:=fun e=>by subst e;rw [hL] at hbx;cases hbx
            have hbx1:lk ({ σ with objs:=(L,AO.vec e ie.size ie.bytes 0 get) :: σ.objs } : St).objs bx=some (.box ty cs):=by
              show lk ((L,AO.vec e ie.size ie.bytes 0 get) :: σ.objs) bx=_
              rw [zak,if_neg hne];exact hbx
            obtain ⟨C,hC,hr⟩:=S1.obj bx _ hbx1
            obtain ⟨v,hv,hkv⟩:=hr.get k _ hk
            have hv0:v=.slice none 0 0:=zgh hkv
            subst hv0
            have hCset:C.toList.set k (.slice none 0 0)=C.toList:=by
              apply List.ext_getElem?
              intro j
              by_cases hj:j=k
              · subst hj
                have hlt:=(List.getElem?_eq_some_iff.1 hv).1
                rw [List.getElem?_set_self hlt,hv]
              · rw [List.getElem?_set_ne (fun e=>hj e.symm)]
            have S2 := S1.write (o' := .box ty (cs.set k (.vec L))) (w' := w) hbx1 (fun b hb => hb) (.refl B w) (fun _ _ => rfl)
              ⟨C,hC,by rw [← hCset];exact hr.set k (by simp [clR,Gh.setSv,Value.oneCell'])⟩
              (fun M hM=>by
                simp only [zbB,List.mem_flatMap] at hM
                obtain ⟨c,hc,hM⟩:=hM
                rcases List.mem_or_eq_of_mem_set hc with h | h
                · exact S1.clO bx _ hbx1 M (List.mem_flatMap.2 ⟨c,h,hM⟩)
                · subst h;simp [zav] at hM;subst hM;exact ⟨_,by rw [zak,if_pos rfl]⟩)
            exact zem l _ σ' _ h S2
          · cases h
        · cases h
      · exact zem l σ σ' g h S
      · cases h
    · cases h

theorem Sim.adopt0 (S : Sim P nt B w0 h0 g σ a w) {t : Nat} {o' : AO} {g' : Gh} (ht : lk σ.objs t = none) (hh : g'.h = g.h) (hs : ∀ M, M ≠ t → zcB g g' M)
    (hv:∀ k,¬ obk g' t o' k) (hr:aoR P g' w B t o') (hlab:zbB o'=[]):Sim P nt B w0 h0 g' { σ with objs:=(t,o') :: σ.objs } a w:=by
  have hne:∀ L o,lk σ.objs L=some o→L ≠ t:=fun L o h e=>by subst e;rw [ht] at h;cases h
  have hsame:∀ L o,lk σ.objs L=some o→zcB g g' L:=fun L o h=>hs L (hne L o h)
  have hle:Fle g.h g'.h:=by rw [hh];exact fun _ _ h=>h
  have hlk:∀ L o,lk ((t,o') :: σ.objs) L=some o→(L=t∧o=o')∨(L ≠ t∧lk σ.objs L=some o):=by
    intro L o h
    rw [zak] at h
    split at h
    · rename_i e;simp only [Option.some.injEq] at h;exact .inl ⟨e.symm,h.symm⟩
    · rename_i e;exact .inr ⟨fun e'=>e e'.symm,h⟩
  refine S.change (g':=g') hsame hle (by rw [hh];exact S.hw) (fun b o h=>.inl (by rw [hh] at h;exact h)) (.refl _ B w) ?_ ?_ ?_ ?_ ?_
  · intro L o ho
    rcases hlk L o ho with ⟨rfl,rfl⟩ | ⟨_,ho⟩
    · exact hr
    · exact zb6 (S.obj L o ho) (hsame L o ho) (fun M hM=>by obtain ⟨o',ho'⟩:=S.clO L o ho M hM;exact hsame M o' ho') hle fun _ _=>rfl
  · intro L o k ho hk
    rcases hlk L o ho with ⟨rfl,rfl⟩ | ⟨_,ho⟩
    · exact (hv k hk).elim
    · rw [zaZ (hsame L o ho)] at hk;rw [hh];exact S.own L o k ho hk
  · intro L o k L' o2 ho ho' hk hk'
    rcases hlk L o ho with ⟨rfl,rfl⟩ | ⟨_,ho2⟩ <;> rcases hlk L' o2 ho' with ⟨rfl,rfl⟩ | ⟨_,ho2'⟩
    · rfl
    · exact (hv k hk).elim
    · exact (hv k hk').elim
    · rw [zaZ (hsame L o ho2)] at hk; rw [zaZ (hsame L' o2 ho2')] at hk'
      exact S.sep L o k L' o2 ho2 ho2' hk hk'
  · intro L o ho
    refine ⟨o,?_⟩
    rw [zak,if_neg (fun e=>hne L o ho e.symm)];exact ho
  · intro L o ho M hM
    rcases hlk L o ho with ⟨rfl,rfl⟩ | ⟨_,ho⟩
    · rw [hlab] at hM;simp at hM
    · obtain ⟨o2, ho2⟩ := S.clO L o ho M hM
      exact ⟨o2,by rw [zak,if_neg (fun e=>hne M o2 ho2 e.symm)];exact ho2⟩

theorem zen : ∀ (l : List (Nat × Nat × Nat × Nat × Nat × (Nat → Nat → List PV))) (σ σ' : St) (g : Gh), zdr P l σ = some σ' → Sim P nt B w0 h0 g σ a w → ∃ g', Sim P nt B w0 h0 g' σ' a w
  | [],σ,σ',g,h,S=>by simp [zdr] at h;subst h;exact ⟨g,S⟩
  | (bx,k,L,te,e,get) :: l,σ,σ',g,h,S=>by
    simp only [zdr] at h
    split at h
    · rename_i ty cs hbx
      split at h
      · rename_i hk
        split at h
        · rename_i it zt hL hit hzt
          split at h
          · rename_i ie z hi hz
            split at h
            · rename_i hp
              simp only [Bool.and_eq_true] at hp
              have hs1:=Nat.eq_of_beq_eq_true hp.1
              have hpos:0 < ie.size:=Nat.lt_of_succ_le (Nat.le_of_ble_eq_true hp.2)
              obtain ⟨zv,hzv,hzs⟩:=zbQ hz hi
              obtain ⟨tv,htv,hts⟩:=zbQ hzt hit
              let g':=g.setVv L (.slice none 0 0) (fun _=>.slice none 0 0)
              have hsv:g'.sv L=.slice none 0 0:=by simp [g',Gh.setVv]
              have S1 := S.adopt0 (t := L) (o' := .vv te it.bytes e ie.size ie.bytes 0 (fun _ => 0) get) (g' := g') hL rfl zlt
                (fun k hk => by rcases hk with hk | ⟨i, hi, _⟩
                                · rw [hsv] at hk;cases hk
                                · omega)
                ⟨hpos,⟨it,tv,hit,hs1,rfl,htv,by rw [hts,hs1]⟩,⟨ie,zv,hi,rfl,rfl,hzv,hzs⟩,by rw [hsv];exact World.ownsRow_nil w B te 1,fun i hi=>absurd hi (by omega),fun i k hi=>absurd hi (by omega)⟩ rfl
              have hne:L ≠ bx:=fun e=>by subst e;rw [hL] at hbx;cases hbx
              have hbx1:lk ({ σ with objs:=(L,AO.vv te it.bytes e ie.size ie.bytes 0 (fun _=>0) get) :: σ.objs } : St).objs bx=some (.box ty cs):=by
                show lk ((L,AO.vv te it.bytes e ie.size ie.bytes 0 (fun _=>0) get) :: σ.objs) bx=_
                rw [zak,if_neg hne];exact hbx
              obtain ⟨C,hC,hr⟩:=S1.obj bx _ hbx1
              obtain ⟨v,hv,hkv⟩:=hr.get k _ hk
              have hv0:v=.slice none 0 0:=zgh hkv
              subst hv0
              have hCset:C.toList.set k (.slice none 0 0)=C.toList:=by
                apply List.ext_getElem?
                intro j
                by_cases hj:j=k
                · subst hj
                  have hlt:=(List.getElem?_eq_some_iff.1 hv).1
                  rw [List.getElem?_set_self hlt,hv]
                · rw [List.getElem?_set_ne (fun e=>hj e.symm)]
              have S2 := S1.write (o' := .box ty (cs.set k (.vec L))) (w' := w) hbx1 (fun b hb => hb) (.refl B w) (fun _ _ => rfl)
                ⟨C,hC,by rw [← hCset];exact hr.set k ⟨hsv.symm,rfl⟩⟩
                (fun M hM=>by
                  simp only [zbB,List.mem_flatMap] at hM
                  obtain ⟨c,hc,hM⟩:=hM
                  rcases List.mem_or_eq_of_mem_set hc with h | h
                  · exact S1.clO bx _ hbx1 M (List.mem_flatMap.2 ⟨c,h,hM⟩)
                  · subst h;simp [zav] at hM;subst hM;exact ⟨_,by rw [zak,if_pos rfl]⟩)
              exact zen l _ σ' _ h S2
            · cases h
          · cases h
        · cases h
      · exact zen l σ σ' g h S
      · cases h
    · cases h

theorem zje {ob : Nat → Option AO} : ∀ {ks : List Nat} {x : Nat × AO}, x ∈ ztu ob ks → ∃ ty cells l, ob x.1 = some (.box ty cells) ∧ x.2 = .fbox l ∧ zcX ob cells = some (l, [])
  | [],x,h=>by simp [ztu] at h
  | k :: ks,x,h=>by
    simp only [ztu] at h
    split at h
    · rename_i ty cells hk
      split at h
      · rename_i l hl
        rcases List.mem_cons.1 h with rfl | h
        · exact ⟨ty,cells,l,hk,rfl,hl⟩
        · exact zje h
      · exact zje h
    · exact zje h
theorem zr5 {ob:Nat→Option AO} {ks:List Nat} : zc6 ob (ztu ob ks):=fun x hx=>by
 obtain ⟨ty,cells,l,h1,h2,h3⟩:=zje hx
 exact .inr (.inl ⟨ty,cells,l,[],h1,h2,h3,fun y hy=>by simp at hy⟩)
theorem zdf : ∀ (l : List (Nat × Nat × (Nat → List PV))) (σ σ' : St) (g : Gh), zc5 l σ = some σ' → Sim P nt B w0 h0 g σ a w → ∃ g', Sim P nt B w0 h0 g' σ' a w
  | [],σ,σ',g,h,S=>by simp [zc5] at h;subst h;exact ⟨g,S⟩
  | (t,s,gt) :: r,σ,σ',g,h,S=>by
    unfold zc5 at h
    split at h
    · rename_i x hx
      have hv:=S.env t _ hx
      split at h
      · rename_i v
        split at h
        · have hn := zgh hv
          refine zdf r _ σ' g h (S.env' (t:=t) (d:=.p (.sl 0 s gt)) ?_ (fun L hL=>by simp [zaN,za5,zav] at hL))
          show Rep g.h (.sl 0 s gt) (a.tmps.getD t undef)
          rw [hn];exact .sl0 s gt
        · exact zdf r _ σ' g h S
      · split at h
        · rename_i v u hf
          obtain ⟨h',S1,F⟩:=S.freeze (zpa hf)
          have hr:=F.rep0 hf (fun y hy=>hy) hv
          exact zdf r _ σ' _ h (S1.env' (t:=t) (d:=.p v) hr (fun L hL=>by simp [zaN,za5,zav] at hL))
        · cases h
    · cases h
theorem znY {k:Keep} {s:St} {g:Gh} {σ:St} (h:ziW P k σ=some s) (S:Sim P nt B w0 h0 g σ a w):∃ g',Sim P nt B w0 h0 g' s a w:=by
 unfold ziW at h
 split at h
 ·cases h
 ·rename_i σ1 h1
  obtain ⟨g1,S1⟩:=zel k.coT σ σ1 g h1 S
  split at h
  ·cases h
  ·rename_i σ2 h2
   obtain ⟨g2',S2'⟩:=zem k.coB σ1 σ2 g1 h2 S1
   split at h
   ·cases h
   rename_i σ3 h3
   obtain ⟨g2,S2⟩:=zen k.coV σ2 σ3 g2' h3 S2'
   simp only [] at h
   split at h
   ·rename_i hcl
    simp only [Option.some.injEq] at h
    subst h
    simp only [Bool.and_eq_true,List.all_eq_true] at hcl
    obtain ⟨hc1,hc2⟩:=hcl
    have hin:∀ {labs l:List Nat},zt7 labs l=true→∀ L∈l,L∈labs:=by
     intro labs l h L hL
     have:=List.all_eq_true.1 h L hL
     simpa using this
    refine ⟨g2,S2.dfr,S2.size,?_,?_,?_,?_,S2.hw,S2.le0,S2.hn,S2.below,S2.bs,?_,?_⟩
    ·intro t d ht
     obtain ⟨y,h1,rfl,_⟩:=zcV ht
     exact zz1 (S2.env t y h1)
    ·intro L o ho
     obtain ⟨y,h1,rfl,_⟩:=zcV ho
     exact zuN (S2.obj L y h1)
    ·intro L o b ho hb
     obtain ⟨y,h1,rfl,_⟩:=zcV ho
     rw [zjd] at hb
     exact S2.own L y b h1 hb
    ·intro L o b L' o' ho ho' hb hb'
     obtain ⟨y,h1,rfl,_⟩:=zcV ho
     obtain ⟨y',h1',rfl,_⟩:=zcV ho'
     rw [zjd] at hb hb'
     exact S2.sep L y b L' y' h1 h1' hb hb'
    ·intro t d ht L hL
     have hm:=hin (hc1 (t,d) (zcv ht)) L hL
     obtain ⟨y,h1,rfl,_⟩:=zcV ht
     obtain ⟨o,ho⟩:=S2.clE t y h1 L (ztF L hL)
     exact ⟨_,zdL ho hm⟩
    ·intro L o ho M hM
     have hm:=hin (hc2 (L,o) (zcv ho)) M hM
     obtain ⟨y,h1,rfl,_⟩:=zcV ho
     obtain ⟨o',ho'⟩:=S2.clO L y h1 M (zpm M hM)
     exact ⟨_,zdL ho' hm⟩
   ·cases h
theorem za0 {k:Keep} {s:St} (h:canon P k σ=some s) (S:Sim P nt B w0 h0 g σ a w):∃ g',Sim P nt B w0 h0 g' s a w:=by
 obtain ⟨h',S1,_⟩:=S.freeze (zr5 (ob:=lk σ.objs) (ks:=k.coF))
 unfold canon at h
 split at h
 ·rename_i s1 h1
  obtain ⟨g1,S2⟩:=zdf k.coZ (zHO k.coF σ) s1 _ h1 S1
  exact znY h S2
 ·cases h
end
end Go.Pm
namespace Go.Pm

def OpAct.fp : OpAct → List (Nat × Bool)
  | .no=>[]
  | .val fp _ _ _=>fp
  | .chk fp _ _ _ _=>fp
  | .rel fp _ _ _ _ _=>fp
def OpAct.u : OpAct → List (Nat × AO)
  | .no=>[]
  | .val _ _ u _=>u
  | .chk _ _ _ u _=>u
  | .rel _ u _ _ _ _=>u
def OpAct.kl : OpAct → List Nat
  | .no=>[]
  | .val _ _ _ k=>k
  | .chk _ _ _ _ k=>k
  | .rel _ _ _ _ _ _=>[]
def OpAct.gives : OpAct → DV → Prop
  | .no,_=>False
  | .val _ d _ _,d'=>d'=d
  | .chk _ _ d _ _,d'=>d'=d
  | .rel _ _ ρ _ _ d,d'=>∃ x:ρ,d'=d x

def Men (o:Oper) (ev:Operand→DV) (ob:Nat→Option AO) (fp:List (Nat×Bool)) (L:Nat):Prop :=
 (∃ x∈o.op.operands.toList,L∈dvV (ev x))∨∃ y∈fp,∃ o',ob y.1=some o'∧L∈aoV o'

structure ActOk (P : Program) (Γ : Ctrs) (o : Oper) (ev : Operand → DV) (ob : Nat → Option AO) (A : OpAct) : Prop where
  wr:∀ x∈A.u,(x.1,true)∈A.fp
  kl:A.kl=[]∨∃ L,A.kl=[L]∧(L,true)∈A.fp
  labu:∀ x∈A.u,∀ L∈aoV x.2,Men o ev ob A.fp L
  labd:∀ d,A.gives d→∀ L∈dvV d,Men o ev ob A.fp L∨(L,true)∈A.fp
  congr:∀ ev' ob',(∀ x∈o.op.operands.toList,ev' x=ev x)→(∀ y∈A.fp,ob' y.1=ob y.1)→act P Γ o ev' ob'=A

section
variable {P:Program} {Γ:Ctrs} {o:Oper} {ev:Operand→DV} {ob:Nat→Option AO} {A:OpAct}

theorem ActOk.pure {fp : List (Nat × Bool)} {d : DV} (hd : ∀ L ∈ dvV d, Men o ev ob fp L ∨ (L, true) ∈ fp)
    (hc:∀ ev' ob',(∀ x∈o.op.operands.toList,ev' x=ev x)→(∀ y∈fp,ob' y.1=ob y.1)→act P Γ o ev' ob'=.val fp d [] []):ActOk P Γ o ev ob (.val fp d [] []) :=
  ⟨fun x hx=>by simp [OpAct.u] at hx,.inl rfl,fun x hx=>by simp [OpAct.u] at hx,fun d' h=>by simp only [OpAct.gives] at h;subst h;exact hd,hc⟩
theorem ActOk.pchk {fp : List (Nat × Bool)} {s : Prop} {d : DV} (hd : ∀ L ∈ dvV d, Men o ev ob fp L ∨ (L, true) ∈ fp)
    (hc:∀ ev' ob',(∀ x∈o.op.operands.toList,ev' x=ev x)→(∀ y∈fp,ob' y.1=ob y.1)→act P Γ o ev' ob'=.chk fp s d [] []):ActOk P Γ o ev ob (.chk fp s d [] []) :=
  ⟨fun x hx=>by simp [OpAct.u] at hx,.inl rfl,fun x hx=>by simp [OpAct.u] at hx,fun d' h=>by simp only [OpAct.gives] at h;subst h;exact hd,hc⟩
theorem zbY {fp:List (Nat×Bool)} (v:PV):∀ L∈dvV (.p v),Men o ev ob fp L∨(L,true)∈fp:=fun L hL=>by simp [dvV,d1V,clV] at hL
theorem zeG {fp:List (Nat×Bool)} {x:Operand} {d:DV} (hx:x∈o.op.operands.toList) (h:∀ L∈dvV d,L∈dvV (ev x)):∀ L∈dvV d,Men o ev ob fp L∨(L,true)∈fp :=
 fun L hL=>.inl (.inl ⟨x,hx,h L hL⟩)

theorem zpn {c:Cl} : ∀ L∈clV c,L∈zav c:=by cases c <;> simp [clV,zav]

theorem zuO {ag:Bool} {m off:Nat} {cells:List Cl} {d:D1} (hr:zie ag m cells off=some d):∀ L∈d1V d,L∈cells.flatMap clV:=by
 cases ag with
 | true =>
  simp only [zie] at hr
  split at hr
  ·simp only [Option.some.injEq] at hr; subst hr
   intro L hL
   simp only [d1V,List.mem_flatMap] at hL ⊢
   obtain ⟨c,hc,hL⟩:=hL
   exact ⟨c,List.mem_of_mem_drop (List.mem_of_mem_take hc),hL⟩
  ·cases hr
 | false =>
  simp only [zie] at hr
  split at hr
  ·rename_i x hx
   simp only [Option.some.injEq] at hr;subst hr
   intro L hL
   simp only [d1V] at hL
   exact List.mem_flatMap.2 ⟨x,List.mem_of_getElem? hx,hL⟩
  ·cases hr
theorem zr6 (cells:List PV):(cells.map Cl.p).flatMap clV=[]:=by
 induction cells with
 | nil=>rfl
 | cons c r ih=>simp [clV,ih]
theorem zjf {ag:Bool} {m off:Nat} {cells:List PV} {d:D1} (hr:zie ag m (cells.map .p) off=some d):d1V d=[]:=by
 have:=zuO hr
 rw [zr6] at this
 cases hd:d1V d with
 | nil=>rfl
 | cons x l=>have:=this x (by rw [hd];exact List.mem_cons_self);simp at this

theorem zlw {ob':Nat→Option AO} {c:Cl} (h:∀ L∈zav c,ob' L=ob L):zrH ob' c=zrH ob c:=by
 cases c <;> first | rfl | (simp only [zrH];rw [h _ (by simp [zav])])
theorem zfJ {ob' : Nat → Option AO} : ∀ {cs : List Cl}, (∀ L ∈ cs.flatMap zav, ob' L = ob L) → zcX ob' cs = zcX ob cs
  | [],_=>rfl
  | c :: cs,h=>by
    simp only [zcX]
    rw [zlw (fun L hL=>h L (by simp [hL])),zfJ (fun L hL=>h L (by simp only [List.flatMap_cons,List.mem_append];exact .inr hL))]
theorem znZ {ob':Nat→Option AO} {c:Cl} (h:∀ L∈zav c,ob' L=ob L∧∀ o',ob L=some o'→∀ M∈zbB o',ob' M=ob M):frz ob' c=frz ob c:=by
 cases c with
 | ptr L off =>
  obtain ⟨h1,h2⟩:=h L (by simp [zav])
  simp only [frz]
  rw [h1]
  cases hL:ob L with
  | none=>rfl
  | some o' =>
   cases o' with
   | box ty cells=>simp only [];rw [zfJ (fun M hM=>h2 _ hL M hM)]
   | _=>rfl
 | _=>exact zlw fun L hL=>(h L hL).1
theorem zgY {ob' : Nat → Option AO} : ∀ {cs : List Cl}, (∀ L ∈ cs.flatMap zav, ob' L = ob L ∧ ∀ o', ob L = some o' → ∀ M ∈ zbB o', ob' M = ob M) → zk4 ob' cs = zk4 ob cs
  | [],_=>rfl
  | c :: cs,h=>by
    simp only [zk4]
    rw [znZ (fun L hL=>h L (by simp [hL])),zgY (fun L hL=>h L (by simp only [List.flatMap_cons,List.mem_append];exact .inr hL))]
theorem ztG {ob':Nat→Option AO} {d:DV} (h:∀ L∈za6 ob d,ob' L=ob L):ztq ob' d=ztq ob d:=by
 have key:∀ L∈zaN d,ob' L=ob L∧∀ o',ob L=some o'→∀ M∈zbB o',ob' M=ob M:=by
  intro L hL
  refine ⟨h L (List.mem_flatMap.2 ⟨L,hL,List.mem_cons_self⟩),fun o' ho' M hM=>h M (List.mem_flatMap.2 ⟨L,hL,List.mem_cons_of_mem _ ?_⟩)⟩
  rw [ho'];exact hM
 cases d with
 | one d =>
  cases d with
  | c c=>simp only [ztq];rw [znZ key]
  | agg cs=>simp only [ztq];rw [zgY key]
 | tup ds=>rfl
theorem zjg {ob' : Nat → Option AO} : ∀ {ds : List DV}, (∀ L ∈ ds.flatMap (za6 ob), ob' L = ob L) → zfs ob' ds = zfs ob ds
  | [],_=>rfl
  | d :: ds,h=>by
    simp only [zfs]
    rw [ztG (fun L hL=>h L (by simp [hL])),zjg (fun L hL=>h L (by simp only [List.flatMap_cons,List.mem_append];exact .inr hL))]
theorem zgi {ob':Nat→Option AO} {d:DV} (h:∀ L∈za6 ob d,ob' L=ob L):za6 ob' d=za6 ob d:=by
 unfold za6 at h ⊢
 have:∀ l:List Nat,(∀ L∈l.flatMap (fun L=>L :: match ob L with | some o=>zbB o | none=>[]),ob' L=ob L) →
   (l.flatMap fun L=>L :: match ob' L with | some o=>zbB o | none=>[])=l.flatMap fun L=>L :: match ob L with | some o=>zbB o | none=>[]:=by
  intro l
  induction l with
  | nil=>intro _;rfl
  | cons L l ih =>
   intro h
   simp only [List.flatMap_cons]
   rw [h L (by simp),ih (fun M hM=>h M (by simp only [List.flatMap_cons,List.mem_append];exact .inr hM))]
 exact this _ h

theorem zgj {c:Cl} {v:PV} {u:Upd} (h:zrH ob c=some (v,u)):∀ x∈u,x.1∈zav c∧aoV x.2=[]:=by
 unfold zrH at h
 split at h
 ·simp only [Option.some.injEq,Prod.mk.injEq] at h;rw [← h.2];intro x hx;simp at hx
 ·split at h
  ·simp only [Option.some.injEq,Prod.mk.injEq] at h;rw [← h.2];intro x hx;simp at hx;subst hx;exact ⟨by simp [zav],rfl⟩
  ·simp only [Option.some.injEq,Prod.mk.injEq] at h;rw [← h.2];intro x hx;simp at hx
  ·simp only [Option.some.injEq,Prod.mk.injEq] at h;rw [← h.2];intro x hx;simp only [List.mem_singleton] at hx;subst hx;exact ⟨by simp [zav],rfl⟩
  ·simp only [Option.some.injEq,Prod.mk.injEq] at h;rw [← h.2];intro x hx;simp only [List.mem_singleton] at hx;subst hx;exact ⟨by simp [zav],rfl⟩
  ·cases h
 ·split at h
  ·simp only [Option.some.injEq,Prod.mk.injEq] at h;rw [← h.2];intro x hx;simp only [List.mem_singleton] at hx;subst hx;exact ⟨by simp [zav],rfl⟩
  ·cases h
 ·cases h
theorem zd8 : ∀ {cs : List Cl} {l : List PV} {u : Upd}, zcX ob cs = some (l, u) → ∀ x ∈ u, x.1 ∈ cs.flatMap zav ∧ aoV x.2 = []
  | [],l,u,h=>by simp [zcX] at h;rw [h.2];intro x hx;simp at hx
  | c :: cs,l,u,h=>by
    simp only [zcX] at h
    split at h
    · rename_i v u1 l2 u2 h1 h2
      simp only [Option.some.injEq,Prod.mk.injEq] at h;rw [← h.2]
      intro x hx
      simp only [List.flatMap_cons,List.mem_append]
      rcases List.mem_append.1 hx with hx | hx
      · exact ⟨.inl (zgj h1 x hx).1,(zgj h1 x hx).2⟩
      · exact ⟨.inr (zd8 h2 x hx).1,(zd8 h2 x hx).2⟩
    · cases h
theorem zr7 {c:Cl} {v:PV} {u:Upd} (h:frz ob c=some (v,u)):∀ x∈u,(x.1∈zav c∨∃ L∈zav c,∃ o',ob L=some o'∧x.1∈zbB o')∧aoV x.2=[]:=by
 unfold frz at h
 split at h
 ·split at h
  ·rename_i L off _x ty cells hL
   split at h
   ·rename_i l us hl
    simp only [Option.some.injEq,Prod.mk.injEq] at h;rw [← h.2]
    intro x hx
    rcases List.mem_append.1 hx with hx | hx
    ·exact ⟨.inr ⟨L,by simp [zav],_,hL,(zd8 hl x hx).1⟩,(zd8 hl x hx).2⟩
    ·simp at hx;subst hx;exact ⟨.inl (by simp [zav]),rfl⟩
   ·cases h
  ·simp only [Option.some.injEq,Prod.mk.injEq] at h;rw [← h.2];intro x hx;simp at hx
  ·cases h
 ·intro x hx;exact ⟨.inl (zgj h x hx).1,(zgj h x hx).2⟩
theorem zjh : ∀ {cs : List Cl} {l : List PV} {u : Upd}, zk4 ob cs = some (l, u) → ∀ x ∈ u, (x.1 ∈ cs.flatMap zav ∨ ∃ L ∈ cs.flatMap zav, ∃ o', ob L = some o' ∧ x.1 ∈ zbB o') ∧ aoV x.2 = []
  | [],l,u,h=>by simp [zk4] at h;rw [h.2];intro x hx;simp at hx
  | c :: cs,l,u,h=>by
    simp only [zk4] at h
    split at h
    · rename_i v u1 l2 u2 h1 h2
      simp only [Option.some.injEq,Prod.mk.injEq] at h;rw [← h.2]
      intro x hx
      simp only [List.flatMap_cons,List.mem_append]
      rcases List.mem_append.1 hx with hx | hx
      · obtain ⟨h3, h4⟩ := zr7 h1 x hx
        refine ⟨?_,h4⟩
        rcases h3 with h3 | ⟨L,hL,o',h5,h6⟩
        · exact .inl (.inl h3)
        · exact .inr ⟨L,.inl hL,o',h5,h6⟩
      · obtain ⟨h3, h4⟩ := zjh h2 x hx
        refine ⟨?_,h4⟩
        rcases h3 with h3 | ⟨L,hL,o',h5,h6⟩
        · exact .inl (.inr h3)
        · exact .inr ⟨L,.inr hL,o',h5,h6⟩
    · cases h
theorem zn0 {d:DV} {v:PA} {u:Upd} (h:ztq ob d=some (v,u)):∀ x∈u,x.1∈za6 ob d∧aoV x.2=[]:=by
 have deep:∀ k,(k∈zaN d∨∃ L∈zaN d,∃ o',ob L=some o'∧k∈zbB o')→k∈za6 ob d:=by
  intro k hk
  rcases hk with hk | ⟨L,hL,o',h5,h6⟩
  ·exact List.mem_flatMap.2 ⟨k,hk,List.mem_cons_self⟩
  ·refine List.mem_flatMap.2 ⟨L, hL, List.mem_cons_of_mem _ ?_⟩
   rw [h5];exact h6
 unfold ztq at h
 split at h
 ·split at h
  ·rename_i v' u' h1
   simp only [Option.some.injEq,Prod.mk.injEq] at h;rw [← h.2]
   intro x hx;obtain ⟨h3,h4⟩:=zr7 h1 x hx;exact ⟨deep _ h3,h4⟩
  ·cases h
 ·split at h
  ·rename_i v' u' h1
   simp only [Option.some.injEq,Prod.mk.injEq] at h;rw [← h.2]
   intro x hx;obtain ⟨h3,h4⟩:=zjh h1 x hx;exact ⟨deep _ h3,h4⟩
  ·cases h
 ·cases h
theorem zgZ : ∀ {ds : List DV} {l : List PA} {u : Upd}, zfs ob ds = some (l, u) → ∀ x ∈ u, x.1 ∈ ds.flatMap (za6 ob) ∧ aoV x.2 = []
  | [],l,u,h=>by simp [zfs] at h;rw [h.2];intro x hx;simp at hx
  | d :: ds,l,u,h=>by
    simp only [zfs] at h
    split at h
    · rename_i v u1 l2 u2 h1 h2
      simp only [Option.some.injEq,Prod.mk.injEq] at h;rw [← h.2]
      intro x hx
      simp only [List.flatMap_cons,List.mem_append]
      rcases List.mem_append.1 hx with hx | hx
      · exact ⟨.inl (zn0 h1 x hx).1,(zn0 h1 x hx).2⟩
      · exact ⟨.inr (zgZ h2 x hx).1,(zgZ h2 x hx).2⟩
    · cases h
end
end Go.Pm
namespace Go.Pm

section
variable {P:Program} {Γ:Ctrs} {o:Oper} {ev:Operand→DV} {ob:Nat→Option AO} {A:OpAct}

theorem fmc {α β : Type} {f h : α → List β} : ∀ {l : List α}, (∀ x ∈ l, f x = h x) → l.flatMap f = l.flatMap h
  | [],_=>rfl
  | x :: l,hf=>by simp only [List.flatMap_cons];rw [hf x List.mem_cons_self,fmc fun y hy=>hf y (List.mem_cons_of_mem _ hy)]

theorem zuP {x:Operand} (hop:o.op=.move x∨o.op=.assign x):ActOk P Γ o ev ob (.val [] (ev x) [] []):=by
 have hx:x∈o.op.operands.toList:=by rcases hop with h | h <;> simp [h,Op.operands]
 refine ActOk.pure (zeG hx fun L hL=>hL) fun ev' ob' he _=>?_
 rcases hop with h | h <;> simp only [act,h,he x hx]

theorem zC6 {b:Bool} {x y:DV} : ∀ L∈dvV (zk5 b x y),L∈dvV x∨L∈dvV y:=by
 unfold zk5
 split
 ·intro L hL;simp [dvV,d1V,clV] at hL
 ·cases b with
  | true=>exact fun L hL=>.inl hL
  | false=>exact fun L hL=>.inr hL

theorem zC7 {c x y:Operand} {t:Bool} (hop:o.op=.pick c x y) (hc:ev c=.one (.c (.p (.bool t)))):ActOk P Γ o ev ob (.val [] (zk5 t (ev x) (ev y)) [] []):=by
 have hcm:c∈o.op.operands.toList:=by simp [hop,Op.operands]
 have hx:x∈o.op.operands.toList:=by simp [hop,Op.operands]
 have hy:y∈o.op.operands.toList:=by simp [hop,Op.operands]
 refine ActOk.pure (fun L hL=>?_) fun ev' ob' he _=>?_
 ·rcases zC6 L hL with h | h
  ·exact .inl (.inl ⟨x,hx,h⟩)
  ·exact .inl (.inl ⟨y,hy,h⟩)
 ·simp only [act,hop,he c hcm,he x hx,he y hy,hc]

theorem zma {ao : AO} {d : Nat → DV} (hlo : ∀ L ∈ aoV ao, Men o ev ob [] L) (hld : ∀ t, ∀ L ∈ dvV (d t), L = t)
    (hc:∀ ev' ob',(∀ x∈o.op.operands.toList,ev' x=ev x)→act P Γ o ev' ob'=zo5 ob' o.dst ao d) (hA:zo5 ob o.dst ao d=A) (hs:A.safe):ActOk P Γ o ev ob A:=by
  have hA':=hA
  unfold zo5 at hA
  split at hA
  · rename_i t ht
    split at hA
    · rename_i hn
      subst hA
      have men:∀ L,Men o ev ob [] L→Men o ev ob [(t,true)] L:=fun L h=>h.imp_right fun ⟨y,hy,_⟩=>by simp at hy
      refine ⟨fun x hx=>?_,.inl rfl,fun x hx L hL=>?_,fun d' hd' L hL=>?_,fun ev' ob' he hob=>?_⟩
      · simp only [OpAct.u,List.mem_singleton] at hx;subst hx;simp [OpAct.fp]
      · simp only [OpAct.u,List.mem_singleton] at hx;subst hx;exact men L (hlo L hL)
      · simp only [OpAct.gives] at hd';subst hd';rw [hld t L hL];exact .inr (by simp [OpAct.fp])
      · rw [hc ev' ob' he]
        have:=hob (t,true) (by simp [OpAct.fp])
        simp only at this
        simp only [zo5,ht,this,hn]
    · subst hA;exact hs.elim
  · subst hA;exact hs.elim

theorem zuQ {t:TypeId} {z:List Cl} (h:zcW P t=some z):z.flatMap clV=[]:=by
 have h1:=znI h
 cases hz:z.flatMap clV with
 | nil=>rfl
 | cons L l =>
  have:L∈z.flatMap clV:=by rw [hz];exact List.mem_cons_self
  obtain ⟨c,hc,hL⟩:=List.mem_flatMap.1 this
  have:L∈z.flatMap zav:=List.mem_flatMap.2 ⟨c,hc,zpn L hL⟩
  rw [h1] at this;simp at this

theorem zpo (d:D1):d.cells.flatMap clV=d1V d:=by cases d <;> simp [D1.cells,d1V]

theorem zr8 {t : TypeId} : ∀ (parts : List (Nat × Operand)) (z l : List Cl), zb7 P t ev z parts = some l → ∀ L ∈ l.flatMap clV, L ∈ z.flatMap clV ∨ ∃ x ∈ parts, L ∈ dvV (ev x.2)
  | [],z,l,h=>by simp [zb7] at h;subst h;exact fun L hL=>.inl hL
  | (i,x) :: r,z,l,h=>by
    simp only [zb7] at h
    split at h
    · rename_i d hd
      have splV:∀ (l' l:List Cl) (off:Nat),∀ L∈(spl l off l').flatMap clV,L∈l.flatMap clV∨L∈l'.flatMap clV:=by
        intro l'
        induction l' with
        | nil=>intro l off L hL;exact .inl hL
        | cons c l' ih =>
          intro l off L hL
          simp only [spl] at hL
          rcases ih _ _ L hL with h | h
          · obtain ⟨c', hc', hL'⟩ := List.mem_flatMap.1 h
            rcases List.mem_or_eq_of_mem_set hc' with h2 | h2
            · exact .inl (List.mem_flatMap.2 ⟨c',h2,hL'⟩)
            · subst h2;exact .inr (List.mem_flatMap.2 ⟨c',List.mem_cons_self,hL'⟩)
          · exact .inr (by simp only [List.flatMap_cons,List.mem_append];exact .inr h)
      have step:∀ off,zb7 P t ev (spl z off d.cells) r=some l→∀ L∈l.flatMap clV,L∈z.flatMap clV∨∃ y∈(i,x) :: r,L∈dvV (ev y.2):=by
        intro off hb L hL
        rcases zr8 r _ l hb L hL with h | ⟨y,hy,hL⟩
        · rcases splV _ _ _ L h with h | h
          · exact .inl h
          · refine .inr ⟨(i, x), List.mem_cons_self, ?_⟩
            simp only [hd,dvV];rw [← zpo];exact h
        · exact .inr ⟨y,List.mem_cons_of_mem _ hy,hL⟩
      split at h
      · split at h
        · split at h
          · split at h
            · exact step _ h
            · cases h
          · cases h
        · cases h
      · split at h
        · split at h
          · exact step _ h
          · cases h
        · cases h
      · cases h
    · cases h

theorem zij {ev' : Operand → DV} {t : TypeId} : ∀ (parts : List (Nat × Operand)) (z : List Cl), (∀ x ∈ parts, ev' x.2 = ev x.2) → zb7 P t ev' z parts = zb7 P t ev z parts
  | [],z,_=>rfl
  | (i,x) :: r,z,h=>by
    have hx:ev' x=ev x:=h (i,x) List.mem_cons_self
    have ih:∀ z,zb7 P t ev' z r=zb7 P t ev z r:=fun z=>zij r z fun y hy=>h y (List.mem_cons_of_mem _ hy)
    simp only [zb7,hx,ih]

theorem zgk {ev':Operand→DV} {ob':Nat→Option AO} {s:Nat} : ∀ (parts:List (Nat×Operand)) (i:Nat) (ls:List (List PV)) (u:Upd) (labs:List Nat),zci ob ev s i parts=some (ls,u,labs) →
  (∀ x∈parts,ev' x.2=ev x.2)→(∀ L∈labs,ob' L=ob L)→zci ob' ev' s i parts=some (ls,u,labs)
 | [],i,ls,u,labs,h,_,_=>by simpa [zci] using h
 | (j,x) :: r,i,ls,u,labs,h,he,hob=>by
  have hx:ev' x=ev x:=he (j,x) List.mem_cons_self
  simp only [zci] at h ⊢
  rw [hx]
  split at h
  ·rename_i hij
   split at h
   ·rename_i d hd
    split at h
    ·rename_i l u1 ls' us labs' h1 h2
     split at h
     ·rename_i hlen
      simp only [Option.some.injEq,Prod.mk.injEq] at h
      obtain ⟨rfl,rfl,rfl⟩:=h
      have e1:zcX ob' d.cells=some (l,u1):=by
       rw [← h1]
       refine zfJ fun L hL=>hob L (List.mem_append.2 (.inl ?_))
       cases d <;> simpa [D1.cells,za5] using hL
      have e2:=zgk r (i+1) ls' us labs' h2 (fun y hy=>he y (List.mem_cons_of_mem _ hy)) (fun L hL=>hob L (List.mem_append.2 (.inr hL)))
      simp only [e1,e2,hlen]
     ·cases h
    ·cases h
   ·cases h
  ·cases h
theorem zeS {s : Nat} : ∀ (parts : List (Nat × Operand)) (i : Nat) (ls : List (List PV)) (u : Upd) (labs : List Nat), zci ob ev s i parts = some (ls, u, labs) → ∀ x ∈ u, x.1 ∈ labs ∧ aoV x.2 = []
  | [],i,ls,u,labs,h=>by simp [zci] at h;rw [h.2.1];intro x hx;simp at hx
  | (j,x) :: r,i,ls,u,labs,h=>by
    simp only [zci] at h
    split at h
    · split at h
      · rename_i d hd
        split at h
        · rename_i l u1 ls' us labs' h1 h2
          split at h
          · simp only [Option.some.injEq, Prod.mk.injEq] at h
            obtain ⟨rfl,rfl,rfl⟩:=h
            intro y hy
            rcases List.mem_append.1 hy with hy | hy
            · obtain ⟨h3, h4⟩ := zd8 h1 y hy
              refine ⟨List.mem_append.2 (.inl ?_),h4⟩
              cases d <;> simpa [D1.cells,za5] using h3
            · obtain ⟨h3, h4⟩ := zeS r _ _ _ _ h2 y hy
              exact ⟨List.mem_append.2 (.inr h3),h4⟩
          · cases h
        · cases h
      · cases h
    · cases h

theorem zz2 {t : TypeId} {parts : Array (Nat × Operand)} {z l : List Cl} (hop : o.op = .build t parts) (hf : zf9 P t = true) (hz : zcW P t = some z) (hl : zb7 P t ev z parts.toList = some l) :
  ActOk P Γ o ev ob (.val [] (.one (.agg l)) [] []):=by
 have hm:∀ x∈parts.toList,x.2∈o.op.operands.toList:=fun x hx=>by
  simp only [hop,Op.operands]
  exact List.mem_map.2 ⟨x,hx,rfl⟩
 refine ActOk.pure (fun L hL=>?_) fun ev' ob' he _=>?_
 ·rcases zr8 _ _ _ hl L hL with h | ⟨x, hx, h⟩
  ·rw [zuQ hz] at h;simp at h
  ·exact .inl (.inl ⟨x.2,hm x hx,h⟩)
 ·simp only [act,hop,hf,hz,zij parts.toList z (fun x hx=>he x.2 (hm x hx)),hl]

theorem zr9 {l:List Nat} {L:Nat} (h:L∈l):(L,true)∈wr l:=List.mem_map.2 ⟨L,h,rfl⟩

theorem ztH {t:TypeId} {n:Nat} {parts:Array (Nat×Operand)} (hop:o.op=.buildSlice t n parts) (hf:zHJ Γ o.dst=true) (hA:zfC P o t n parts.toList ev ob=A) (hs:A.safe):ActOk P Γ o ev ob A:=by
 have hm:∀ x∈parts.toList,x.2∈o.op.operands.toList:=fun x hx=>by
  simp only [hop,Op.operands]
  exact List.mem_map.2 ⟨x,hx,rfl⟩
 have hc:∀ ev' ob',act P Γ o ev' ob'=zfC P o t n parts.toList ev' ob':=fun ev' ob'=>by
  simp only [act,hop,hf]
 unfold zfC at hA
 split at hA
 ·rename_i te x dst hu hp hd
  have hx:x∈o.op.operands.toList:=hm (0,x) (by rw [hp];simp)
  split at hA
  ·rename_i ie z M hi hz hex
   split at hA
   ·rename_i hM hn
    split at hA
    ·rename_i hb
     subst hA
     refine ⟨fun x hx=>?_,.inl rfl,fun x hx L hL=>?_,fun d' hd' L hL=>?_,fun ev' ob' he hob=>?_⟩
     ·simp only [OpAct.u, List.mem_cons, List.not_mem_nil, or_false] at hx
      rcases hx with rfl | rfl <;> simp [OpAct.fp]
     ·simp only [OpAct.u, List.mem_cons, List.not_mem_nil, or_false] at hx
      rcases hx with rfl | rfl <;> simp [aoV] at hL
     ·simp only [OpAct.gives] at hd'; subst hd'
      simp only [dvV,d1V,clV,List.mem_singleton] at hL
      subst hL
      exact .inr (by simp [OpAct.fp])
     ·have e1 := hob (M, true) (by simp [OpAct.fp])
      have e2:=hob (dst,true) (by simp [OpAct.fp])
      simp only at e1 e2
      rw [hc]
      simp only [zfC,hu,hp,hd,hi,hz,he x hx,hex,e1,hM,e2,hn,hb]
    ·subst hA;exact hs.elim
   ·subst hA;exact hs.elim
  ·subst hA;exact hs.elim
 ·subst hA;exact hs.elim

theorem zmb {t:TypeId} {n:Nat} {parts:Array (Nat×Operand)} (hop:o.op=.buildSlice t n parts) (hA:act P Γ o ev ob=A) (hs:A.safe):ActOk P Γ o ev ob A:=by
 have hm:∀ x∈parts.toList,x.2∈o.op.operands.toList:=fun x hx=>by
  simp only [hop,Op.operands]
  exact List.mem_map.2 ⟨x,hx,rfl⟩
 simp only [act,hop] at hA
 split at hA
 ·rename_i hf
  exact ztH hop hf hA hs
 rename_i hvf
 split at hA
 ·rename_i e hu
  split at hA
  ·rename_i ie hie
   split at hA
   ·rename_i ls u labs hp
    split at hA
    ·rename_i z dst hb hz hd
     split at hA
     ·rename_i hn
      subst hA
      refine ⟨fun x hx=>?_,.inl rfl,fun x hx L hL=>?_,fun d' hd' L hL=>?_,fun ev' ob' he hob=>?_⟩
      ·simp only [OpAct.u, List.mem_cons] at hx
       simp only [OpAct.fp,List.mem_append]
       rcases hx with rfl | hx
       ·exact .inr (by simp)
       ·exact .inl (zr9 (zeS _ _ _ _ _ hp x hx).1)
      ·simp only [OpAct.u, List.mem_cons] at hx
       rcases hx with rfl | hx
       ·simp [aoV] at hL
       ·rw [(zeS _ _ _ _ _ hp x hx).2] at hL;simp at hL
      ·simp only [OpAct.gives] at hd'; subst hd'
       simp only [dvV,d1V,clV,List.mem_singleton] at hL
       subst hL
       exact .inr (by simp [OpAct.fp])
      ·have e1 := zgk (ev' := ev') (ob' := ob') _ _ _ _ _ hp (fun x hx => he x.2 (hm x hx)) (fun L hL => hob (L, true) (List.mem_append.2 (.inl (zr9 hL))))
       have e2:=hob (dst,true) (List.mem_append.2 (.inr (by simp)))
       simp only at e2
       rw [hd] at hvf
       simp only [act,hop,hvf,hu,hie,e1,hb,hz,hd,e2,hn]
     ·subst hA;exact hs.elim
    ·subst hA;exact hs.elim
   ·subst hA;exact hs.elim
  ·subst hA;exact hs.elim
 ·subst hA;exact hs.elim

theorem zH6 {L:Nat} {ao:AO} {w:Bool} {d:D1} (hL:ob L=some ao) (h:∀ M∈d1V d,M∈aoV ao):∀ M∈dvV (.one d),Men o ev ob [(L,w)] M∨(M,true)∈[(L,w)] :=
 fun M hM=>.inl (.inr ⟨(L,w),by simp,ao,hL,h M hM⟩)

theorem zC8 {t:TypeId} {x:Operand} (hop:o.op=.load t x) (hA:act P Γ o ev ob=A) (hs:A.safe):ActOk P Γ o ev ob A:=by
 have hm:x∈o.op.operands.toList:=by simp [hop,Op.operands]
 simp only [act,hop] at hA
 split at hA
 ·rename_i ag n hag hn
  split at hA
  ·rename_i L off hx
   split at hA
   ·rename_i ty cells hL
    split at hA
    ·rename_i d hr
     subst hA
     refine ActOk.pure (zH6 hL (zuO hr)) fun ev' ob' he hob=>?_
     have e:=hob (L,false) (by simp);simp only at e
     simp only [act,hop,hag,hn,he x hm,hx,e,hL,hr]
    ·subst hA;exact hs.elim
   ·rename_i cells hL
    split at hA
    ·rename_i d hr
     subst hA
     refine ActOk.pure (fun M hM=>?_) fun ev' ob' he hob=>?_
     ·simp only [dvV] at hM;rw [zjf hr] at hM;simp at hM
     have e:=hob (L,false) (by simp);simp only at e
     simp only [act,hop,hag,hn,he x hm,hx,e,hL,hr]
    ·subst hA;exact hs.elim
   ·subst hA;exact hs.elim
  ·rename_i cells off hx
   split at hA
   ·rename_i d hr
    subst hA
    refine ActOk.pure (fun M hM=>?_) fun ev' ob' he hob=>?_
    ·simp only [dvV] at hM;rw [zjf hr] at hM;simp at hM
    simp only [act,hop,hag,hn,he x hm,hx,hr]
   ·subst hA;exact hs.elim
  ·rename_i L s i k hx
   split at hA
   ·rename_i e s' b len get hL
    split at hA
    ·rename_i d hss hr
     subst hA
     refine ActOk.pchk (fun M hM=>?_) fun ev' ob' he hob=>?_
     ·simp only [dvV] at hM;rw [zjf hr] at hM;simp at hM
     have e:=hob (L,false) (by simp);simp only at e
     simp only [act,hop,hag,hn,he x hm,hx,e,hL,hss,hr]
    ·subst hA;exact hs.elim
   ·rename_i s' len get hL
    split at hA
    ·rename_i d hss hr
     subst hA
     refine ActOk.pchk (fun M hM=>?_) fun ev' ob' he hob=>?_
     ·simp only [dvV] at hM;rw [zjf hr] at hM;simp at hM
     have e:=hob (L,false) (by simp);simp only at e
     simp only [act,hop,hag,hn,he x hm,hx,e,hL,hss,hr]
    ·subst hA;exact hs.elim
   ·rename_i hL
    split at hA
    ·rename_i hss
     subst hA
     refine ActOk.pchk (fun M hM=>.inl (.inl ⟨x,hm,?_⟩)) fun ev' ob' he hob=>?_
     ·rw [hx];exact hM
     have e:=hob (L,false) (by simp);simp only at e
     simp only [act,hop,hag,hn,he x hm,hx,e,hL,hss]
    ·subst hA;exact hs.elim
   ·rename_i hL
    split at hA
    ·rename_i hss
     subst hA
     refine ActOk.pchk (fun M hM=>.inl (.inl ⟨x,hm,?_⟩)) fun ev' ob' he hob=>?_
     ·rw [hx];exact hM
     have e:=hob (L,false) (by simp);simp only at e
     simp only [act,hop,hag,hn,he x hm,hx,e,hL,hss]
    ·subst hA;exact hs.elim
   ·subst hA;exact hs.elim
  ·rename_i L s i j k hx
   split at hA
   ·rename_i hL
    split at hA
    ·rename_i d hss hr
     subst hA
     refine ActOk.pchk (fun M hM=>?_) fun ev' ob' he hob=>?_
     ·simp only [dvV] at hM;rw [zjf hr] at hM;simp at hM
     have e:=hob (L,false) (by simp);simp only at e
     simp only [act,hop,hag,hn,he x hm,hx,e,hL,hss,hr]
    ·subst hA;exact hs.elim
   ·subst hA;exact hs.elim
  ·subst hA;exact hs.elim
 ·subst hA;exact hs.elim

theorem zLa:∀ (l' l:List Cl) (off:Nat),∀ L∈(spl l off l').flatMap clV,L∈l.flatMap clV∨L∈l'.flatMap clV:=by
 intro l'
 induction l' with
 | nil=>intro l off L hL;exact .inl hL
 | cons c l' ih =>
  intro l off L hL
  simp only [spl] at hL
  rcases ih _ _ L hL with h | h
  ·obtain ⟨c', hc', hL'⟩ := List.mem_flatMap.1 h
   rcases List.mem_or_eq_of_mem_set hc' with h2 | h2
   ·exact .inl (List.mem_flatMap.2 ⟨c',h2,hL'⟩)
   ·subst h2;exact .inr (List.mem_flatMap.2 ⟨c',List.mem_cons_self,hL'⟩)
  ·exact .inr (by simp only [List.flatMap_cons,List.mem_append];exact .inr h)

theorem zz3 {t:TypeId} {x y:Operand} (hop:o.op=.store t x y) (hA:act P Γ o ev ob=A) (hs:A.safe):ActOk P Γ o ev ob A:=by
 have hx:x∈o.op.operands.toList:=by simp [hop,Op.operands]
 have hy:y∈o.op.operands.toList:=by simp [hop,Op.operands]
 simp only [act,hop] at hA
 split at hA
 ·rename_i n L off d hn hex hey
  split at hA
  ·rename_i ty cells hL
   split at hA
   ·rename_i hb
    subst hA
    refine ⟨fun z hz=>?_,.inl rfl,fun z hz M hM=>?_,fun d' hd' M hM=>?_,fun ev' ob' he hob=>?_⟩
    ·simp only [OpAct.u,List.mem_singleton] at hz;subst hz;simp [OpAct.fp]
    ·simp only [OpAct.u, List.mem_singleton] at hz; subst hz
     simp only [aoV] at hM
     rcases zLa _ _ _ M hM with h | h
     ·exact .inr ⟨(L,true),by simp [OpAct.fp],_,hL,h⟩
     ·refine .inl ⟨y, hy, ?_⟩
      rw [hey];simp only [dvV];rw [← zpo];exact h
    ·simp only [OpAct.gives] at hd';subst hd';simp [dvV,d1V,clV] at hM
    ·have e := hob (L, true) (by simp [OpAct.fp]); simp only at e
     simp only [act,hop,hn,he x hx,he y hy,hex,hey,e,hL,hb]
   ·subst hA;exact hs.elim
  ·subst hA;exact hs.elim
 ·rename_i n L s i k d hn hex hey
  split at hA
  ·rename_i e s' b len get hL
   split at hA
   ·rename_i l hl
    split at hA
    ·rename_i hb
     subst hA
     refine ⟨fun z hz=>?_,.inl rfl,fun z hz M hM=>?_,fun d' hd' M hM=>?_,fun ev' ob' he hob=>?_⟩
     ·simp only [OpAct.u,List.mem_singleton] at hz;subst hz;simp [OpAct.fp]
     ·simp only [OpAct.u,List.mem_singleton] at hz;subst hz;simp [aoV] at hM
     ·simp only [OpAct.gives] at hd';subst hd';simp [dvV,d1V,clV] at hM
     ·have e := hob (L, true) (by simp [OpAct.fp]); simp only at e
      simp only [act,hop,hn,he x hx,he y hy,hex,hey,e,hL,hl,hb]
    ·subst hA;exact hs.elim
   ·subst hA;exact hs.elim
  ·rename_i te bb kt vt q len mk nn F hL
   split at hA
   ·rename_i M'
    split at hA
    ·rename_i kt' vt' q' mm F' hM'
     split at hA
     ·rename_i hb
      split at hA
      ·rename_i hq
       subst hA
       refine ⟨fun z hz=>?_,.inl rfl,fun z hz M hM=>?_,fun d' hd' M hM=>?_,fun ev' ob' he hob=>?_⟩
       ·simp only [OpAct.u, List.mem_cons, List.not_mem_nil, or_false] at hz
        rcases hz with rfl | rfl <;> simp [OpAct.fp]
       ·simp only [OpAct.u, List.mem_cons, List.not_mem_nil, or_false] at hz
        rcases hz with rfl | rfl <;> simp [aoV] at hM
       ·simp only [OpAct.gives] at hd';subst hd';simp [dvV,d1V,clV] at hM
       ·have e := hob (L, true) (by simp [OpAct.fp]); simp only at e
        have e2:=hob (M',true) (by simp [OpAct.fp]);simp only at e2
        simp only [act,hop,hn,he x hx,he y hy,hex,hey,e,hL,e2,hM',hb]
        rw [if_pos hq]
      ·subst hA;exact hs.elim
     ·subst hA;exact hs.elim
    ·subst hA;exact hs.elim
   ·subst hA;exact hs.elim
  ·subst hA;exact hs.elim
 ·rename_i n L s i j k d hn hex hey
  split at hA
  ·rename_i hL
   split at hA
   ·rename_i l hl
    split at hA
    ·rename_i hb
     subst hA
     refine ⟨fun z hz=>?_,.inl rfl,fun z hz M hM=>?_,fun d' hd' M hM=>?_,fun ev' ob' he hob=>?_⟩
     ·simp only [OpAct.u,List.mem_singleton] at hz;subst hz;simp [OpAct.fp]
     ·simp only [OpAct.u,List.mem_singleton] at hz;subst hz;simp [aoV] at hM
     ·simp only [OpAct.gives] at hd';subst hd';simp [dvV,d1V,clV] at hM
     ·have e := hob (L, true) (by simp [OpAct.fp]); simp only at e
      simp only [act,hop,hn,he x hx,he y hy,hex,hey,e,hL,hl,hb]
    ·subst hA;exact hs.elim
   ·subst hA;exact hs.elim
  ·subst hA;exact hs.elim
 ·subst hA;exact hs.elim

theorem zpp {x:Operand} (hop:o.op=.nilCheck x) (hA:act P Γ o ev ob=A) (hs:A.safe):ActOk P Γ o ev ob A:=by
 have hx:x∈o.op.operands.toList:=by simp [hop,Op.operands]
 simp only [act,hop] at hA
 split at hA
 ·rename_i L off h; subst hA
  exact ActOk.pure (zeG hx fun L hL=>by rw [h];exact hL) fun ev' ob' he _=>by simp only [act,hop,he x hx,h]
 ·rename_i L off h; subst hA
  exact ActOk.pure (zeG hx fun L hL=>by rw [h];exact hL) fun ev' ob' he _=>by simp only [act,hop,he x hx,h]
 ·rename_i L s i k h; subst hA
  exact ActOk.pure (zeG hx fun L hL=>by rw [h];exact hL) fun ev' ob' he _=>by simp only [act,hop,he x hx,h]
 ·rename_i h; subst hA
  exact ActOk.pure (zeG hx fun L hL=>by rw [h];exact hL) fun ev' ob' he _=>by simp only [act,hop,he x hx,h]
 ·subst hA;exact hs.elim

theorem zz4 {op : BinOp} {k : IntKind} {p q : Int} (hs : (zt3 op k p q).safe)
    (hc:∀ ev' ob',(∀ x∈o.op.operands.toList,ev' x=ev x)→act P Γ o ev' ob'=zt3 op k p q):ActOk P Γ o ev ob (zt3 op k p q):=by
  cases op <;> first
    | exact hs.elim
    | exact ActOk.pure (zbY _) fun ev' ob' he _=>hc ev' ob' he
    | exact ActOk.pchk (zbY _) fun ev' ob' he _=>hc ev' ob' he

theorem zz5 {op:BinOp} {t t':TypeId} {x y:Operand} (hop:o.op=.binOp op t x y t') (hA:act P Γ o ev ob=A) (hs:A.safe):ActOk P Γ o ev ob A:=by
 have hx:x∈o.op.operands.toList:=by simp [hop,Op.operands]
 have hy:y∈o.op.operands.toList:=by simp [hop,Op.operands]
 simp only [act,hop] at hA
 split at hA
 ·rename_i k p k' q hex hey
  split at hA
  ·rename_i hk
   subst hA
   exact zz4 hs fun ev' ob' he=>by simp only [act,hop,he x hx,he y hy,hex,hey,hk,if_true]
  ·subst hA;exact hs.elim
 ·rename_i p q hex hey
  split at hA
  ·rename_i hu; subst hA
   exact ActOk.pure (zbY _) fun ev' ob' he _=>by simp only [act,hop,he x hx,he y hy,hex,hey,hu]
  ·rename_i hu; subst hA
   exact ActOk.pure (zbY _) fun ev' ob' he _=>by simp only [act,hop,he x hx,he y hy,hex,hey,hu]
  ·subst hA;exact hs.elim
 ·rename_i cs ds hex hey
  have hc:∀ ev' ob',(∀ x∈o.op.operands.toList,ev' x=ev x)→act P Γ o ev' ob'=A:=fun ev' ob' he=>by
   simp only [act,hop,he x hx,he y hy,hex,hey];exact hA
  unfold zzG at hA
  split at hA
  ·split at hA
   ·subst hA;exact ActOk.pure (zbY _) fun ev' ob' he _=>hc ev' ob' he
   ·subst hA;exact ActOk.pure (zbY _) fun ev' ob' he _=>hc ev' ob' he
   ·subst hA;exact hs.elim
  ·subst hA;exact hs.elim
 ·rename_i hex hey
  have hc:∀ ev' ob',(∀ x∈o.op.operands.toList,ev' x=ev x)→act P Γ o ev' ob'=A:=fun ev' ob' he=>by
   simp only [act,hop,he x hx,he y hy,hex,hey];exact hA
  split at hA
  ·subst hA
   exact ⟨fun x hx=>by simp [OpAct.u] at hx,.inl rfl,fun x hx=>by simp [OpAct.u] at hx,fun d hd L hL=>by (simp only [OpAct.gives] at hd;obtain ⟨q,rfl⟩:=hd;simp [dvV,d1V,clV] at hL),fun ev' ob' he _=>hc ev' ob' he⟩
  ·subst hA
   exact ⟨fun x hx=>by simp [OpAct.u] at hx,.inl rfl,fun x hx=>by simp [OpAct.u] at hx,fun d hd L hL=>by (simp only [OpAct.gives] at hd;obtain ⟨q,rfl⟩:=hd;simp [dvV,d1V,clV] at hL),fun ev' ob' he _=>hc ev' ob' he⟩
  ·subst hA;exact hs.elim
 ·rename_i hex hey
  have hc:∀ ev' ob',(∀ x∈o.op.operands.toList,ev' x=ev x)→act P Γ o ev' ob'=A:=fun ev' ob' he=>by
   simp only [act,hop,he x hx,he y hy,hex,hey];exact hA
  split at hA
  ·subst hA;exact ActOk.pure (zbY _) fun ev' ob' he _=>hc ev' ob' he
  ·subst hA;exact ActOk.pure (zbY _) fun ev' ob' he _=>hc ev' ob' he
  ·subst hA;exact hs.elim
 ·subst hA;exact hs.elim

theorem zz6 {t:TypeId} {x y:Operand} (hop:o.op=.index t x y) (hA:act P Γ o ev ob=A) (hs:A.safe):ActOk P Γ o ev ob A:=by
 have hx:x∈o.op.operands.toList:=by simp [hop,Op.operands]
 have hy:y∈o.op.operands.toList:=by simp [hop,Op.operands]
 have hc:∀ ev' ob',(∀ x∈o.op.operands.toList,ev' x=ev x)→act P Γ o ev' ob'=A:=fun ev' ob' he=>by
  rw [← hA];simp only [act,hop,he x hx,he y hy]
 simp only [act,hop,zlN] at hA
 split at hA
 ·split at hA
  ·rename_i cs k j _ _ hex hey
   split at hA
   ·rename_i d _ hr
    subst hA
    refine ActOk.pure (zeG hx fun L hL=>?_) fun ev' ob' he _=>hc ev' ob' he
    rw [hex];exact zuO hr L hL
   ·subst hA;exact hs.elim
  ·subst hA;exact hs.elim
 ·subst hA;exact hs.elim

theorem ok_slice {t:TypeId} {x:Operand} {lo hi:Option Operand} (hop:o.op=.slice t x lo hi none) (hA:act P Γ o ev ob=A) (hs:A.safe):ActOk P Γ o ev ob A:=by
 have hx:x∈o.op.operands.toList:=by simp [hop,Op.operands]
 have hlo:∀ y,lo=some y→y∈o.op.operands.toList:=fun y e=>by subst e;simp [hop,Op.operands]
 have hhi:∀ y,hi=some y→y∈o.op.operands.toList:=fun y e=>by subst e;simp [hop,Op.operands]
 have hc:∀ ev' ob',(∀ x∈o.op.operands.toList,ev' x=ev x)→act P Γ o ev' ob'=A:=fun ev' ob' he=>by
  have e1:ztt ev' lo=ztt ev lo:=by
   cases lo with
   | none=>rfl
   | some y=>simp only [ztt,he y (hlo y rfl)]
  have e2:ztt ev' hi=ztt ev hi:=by
   cases hi with
   | none=>rfl
   | some y=>simp only [ztt,he y (hhi y rfl)]
  rw [← hA];simp only [act,hop,he x hx,e1,e2]
 simp only [act,hop,ziy] at hA
 split at hA
 ·split at hA
  ·split at hA
   ·subst hA
    exact ActOk.pchk (fun L hL=>by simp [dvV,d1V,clV] at hL) fun ev' ob' he _=>hc ev' ob' he
   ·subst hA;exact hs.elim
  ·subst hA;exact hs.elim
 ·subst hA;exact hs.elim

theorem zpq {d:D1} : ∀ L,L∈d1V d→L∈za5 d:=by
 intro L hL
 cases d with
 | c y=>exact zpn L hL
 | agg cs =>
  obtain ⟨c,hc,hL⟩:=List.mem_flatMap.1 hL
  exact List.mem_flatMap.2 ⟨c,hc,zpn L hL⟩

theorem zji {q:MQ} {kd:DV} {ok:Bool} {F:List Int→Option (List Int)} {fin:DV→OpAct} (hA:found q kd ok F fin=A) (hs:A.safe):∃ d,(∀ M∈dvV d,False)∧fin d=A:=by
 unfold found at hA
 split at hA
 ·split at hA
  ·rename_i d hdv
   have hV:∀ M,M∈d1V d→False:=fun M hM=>by have:=zpq M hM;rw [ziA hdv] at this;simp at this
   cases ok with
   | true =>
    refine ⟨_,fun M hM=>?_,hA⟩
    simp only [dvV,List.flatMap_cons,List.flatMap_nil,List.append_nil,List.mem_append] at hM
    rcases hM with hM | hM
    ·exact hV M hM
    ·simp [d1V,clV] at hM
   | false=>exact ⟨.one d,fun M hM=>hV M hM,hA⟩
  ·subst hA;exact hs.elim
 ·subst hA;exact hs.elim

theorem zuR {t:TypeId} {x y:Operand} {k:Bool} (hop:o.op=.lookup t x y k) (hA:act P Γ o ev ob=A) (hs:A.safe):ActOk P Γ o ev ob A:=by
 have hx:x∈o.op.operands.toList:=by simp [hop,Op.operands]
 have hy:y∈o.op.operands.toList:=by simp [hop,Op.operands]
 have hc0:∀ ev' ob',(∀ x∈o.op.operands.toList,ev' x=ev x)→act P Γ o ev' ob'=match zBu (ev x) with | true=>zlf P t (ev x) (ev y) k ob' | false=>zeM P t (ev x) (ev y) k:=fun ev' ob' he=>by
  simp only [act,hop,he x hx,he y hy]
  cases zBu (ev x) <;> rfl
 cases hmo:zBu (ev x) with
 | true =>
  rw [hc0 ev ob (fun _ _=>rfl),hmo] at hA
  have hc1:∀ ev' ob',(∀ x∈o.op.operands.toList,ev' x=ev x)→act P Γ o ev' ob'=zlf P t (ev x) (ev y) k ob':=fun ev' ob' he=>by rw [hc0 ev' ob' he,hmo]
  simp only at hA
  unfold zlf at hA hc1
  split at hA
  ·rename_i kt vt L hu hex
   split at hA
   ·rename_i q kt' vt' q' n F hE hL
    split at hA
    ·rename_i hcond
     obtain ⟨d,hd,e⟩:=zji hA hs
     subst e
     refine ActOk.pure (fun M hM=>(hd M hM).elim) fun ev' ob' he hob=>?_
     rw [hc1 ev' ob' he]
     have:=hob (L,false) (by simp);simp only at this
     simp only [hu,hex,this,hL,hE,if_pos hcond]
     exact hA
    ·subst hA;exact hs.elim
   ·subst hA;exact hs.elim
  ·rename_i kt vt L i hu hex
   split at hA
   ·rename_i q te bb kt' vt' q' n mk nn F hE hL
    split at hA
    ·rename_i hcond
     obtain ⟨d,hd,e⟩:=zji hA hs
     subst e
     refine ActOk.pchk (fun M hM=>(hd M hM).elim) fun ev' ob' he hob=>?_
     rw [hc1 ev' ob' he]
     have:=hob (L,false) (by simp);simp only at this
     simp only [hu,hex,this,hL,hE,if_pos hcond]
     exact hA
    ·subst hA;exact hs.elim
   ·subst hA;exact hs.elim
  ·rename_i kt vt q' n F hu hex
   split at hA
   ·rename_i q hE
    split at hA
    ·rename_i hcond
     obtain ⟨d,hd,e⟩:=zji hA hs
     subst e
     refine ActOk.pure (fun M hM=>(hd M hM).elim) fun ev' ob' he hob=>?_
     rw [hc1 ev' ob' he]
     simp only [hu,hex,hE,if_pos hcond]
     exact hA
    ·subst hA;exact hs.elim
   ·subst hA;exact hs.elim
  ·subst hA;exact hs.elim
 | false =>
 have hc:∀ ev' ob',(∀ x∈o.op.operands.toList,ev' x=ev x)→act P Γ o ev' ob'=A:=fun ev' ob' he=>by
  rw [← hA,hc0 ev' ob' he,hc0 ev ob (fun _ _=>rfl),hmo]
 rw [hc0 ev ob (fun _ _=>rfl),hmo] at hA
 simp only [zeM] at hA
 split at hA
 ·split at hA
  ·rename_i F j _ _ _ _ _
   subst hA
   refine ⟨fun x hx=>by simp [OpAct.u] at hx,.inl rfl,fun x hx=>by simp [OpAct.u] at hx,fun d hd L hL=>?_,fun ev' ob' he _=>hc ev' ob' he⟩
   simp only [OpAct.gives] at hd
   obtain ⟨q,rfl⟩:=hd
   have:∀ l:List Int,(zzF q l).flatMap clV=[]:=by
    intro l
    induction l with
    | nil=>rfl
    | cons x l ih=>simp [zzF,clV,ih]
   simp [dvV,d1V,clV,this] at hL
  ·subst hA;exact hs.elim
 ·subst hA;exact hs.elim

theorem zn1 {t:TypeId} {x y z:Operand} (hop:o.op=.mapUpdate t x y z) (hA:act P Γ o ev ob=A) (hs:A.safe):ActOk P Γ o ev ob A:=by
 have hx:x∈o.op.operands.toList:=by simp [hop,Op.operands]
 have hy:y∈o.op.operands.toList:=by simp [hop,Op.operands]
 have hz:z∈o.op.operands.toList:=by simp [hop,Op.operands]
 have hc0:∀ ev' ob',(∀ x∈o.op.operands.toList,ev' x=ev x)→act P Γ o ev' ob'=match zBu (ev x) with | true=>zts P t (ev x) (ev y) (ev z) ob' | false=>zeN P t (ev x) (ev y) (ev z):=fun ev' ob' he=>by
  simp only [act,hop,he x hx,he y hy,he z hz]
  cases zBu (ev x) <;> rfl
 cases hmo:zBu (ev x) with
 | true =>
  rw [hc0 ev ob (fun _ _=>rfl),hmo] at hA
  have hc1:∀ ev' ob',(∀ x∈o.op.operands.toList,ev' x=ev x)→act P Γ o ev' ob'=zts P t (ev x) (ev y) (ev z) ob':=fun ev' ob' he=>by rw [hc0 ev' ob' he,hmo]
  simp only at hA
  unfold zts at hA hc1
  split at hA
  ·rename_i kt vt L hu hex
   split at hA
   ·rename_i q kt' vt' q' n F hE hL
    split at hA
    ·rename_i c dv hck hez
     split at hA
     ·rename_i l hl
      split at hA
      ·rename_i hcond
       have hcc:∀ ev' ob',(∀ x∈o.op.operands.toList,ev' x=ev x)→(∀ y∈[(L,true)],ob' y.1=ob y.1)→act P Γ o ev' ob'=A:=fun ev' ob' he hob=>by
        rw [hc1 ev' ob' he]
        have:=hob (L,true) (by simp);simp only at this
        simp only [hu,hex,this,hL,hE,hck,hez,hl,if_pos hcond]
        exact hA
       subst hA
       refine ⟨fun x hx=>?_,.inl rfl,fun x hx M hM=>?_,fun d' hd' M hM=>?_,fun ev' ob' he hob=>hcc ev' ob' he hob⟩
       ·simp only [OpAct.u,List.mem_singleton] at hx;subst hx;simp [OpAct.fp]
       ·simp only [OpAct.u,List.mem_singleton] at hx;subst hx;simp [aoV] at hM
       ·simp only [OpAct.gives] at hd';subst hd';simp [dvV,d1V,clV] at hM
      ·subst hA;exact hs.elim
     ·subst hA;exact hs.elim
    ·subst hA;exact hs.elim
   ·subst hA;exact hs.elim
  ·rename_i kt vt L i hu hex
   split at hA
   ·rename_i q te bb kt' vt' q' n mk nn F hE hL
    split at hA
    ·rename_i c dv hck hez
     split at hA
     ·rename_i l hl
      split at hA
      ·rename_i hcond
       have hcc:∀ ev' ob',(∀ x∈o.op.operands.toList,ev' x=ev x)→(∀ y∈[(L,true)],ob' y.1=ob y.1)→act P Γ o ev' ob'=A:=fun ev' ob' he hob=>by
        rw [hc1 ev' ob' he]
        have:=hob (L,true) (by simp);simp only at this
        simp only [hu,hex,this,hL,hE,hck,hez,hl,if_pos hcond]
        exact hA
       subst hA
       refine ⟨fun x hx=>?_,.inl rfl,fun x hx M hM=>?_,fun d' hd' M hM=>?_,fun ev' ob' he hob=>hcc ev' ob' he hob⟩
       ·simp only [OpAct.u,List.mem_singleton] at hx;subst hx;simp [OpAct.fp]
       ·simp only [OpAct.u,List.mem_singleton] at hx;subst hx;simp [aoV] at hM
       ·simp only [OpAct.gives] at hd';subst hd';simp [dvV,d1V,clV] at hM
      ·subst hA;exact hs.elim
     ·subst hA;exact hs.elim
    ·subst hA;exact hs.elim
   ·subst hA;exact hs.elim
  ·subst hA;exact hs.elim
 | false =>
 have hc:∀ ev' ob',(∀ x∈o.op.operands.toList,ev' x=ev x)→act P Γ o ev' ob'=A:=fun ev' ob' he=>by
  rw [← hA,hc0 ev' ob' he,hc0 ev ob (fun _ _=>rfl),hmo]
 rw [hc0 ev ob (fun _ _=>rfl),hmo] at hA
 simp only [zeN] at hA
 split at hA
 ·split at hA
  ·subst hA
   exact ActOk.pchk (fun L hL=>by simp [dvV,d1V,clV] at hL) fun ev' ob' he _=>hc ev' ob' he
  ·subst hA;exact hs.elim
 ·subst hA;exact hs.elim

theorem ztI {t:TypeId} (hop:o.op=.makeMap t none) (hA:act P Γ o ev ob=A) (hs:A.safe):ActOk P Γ o ev ob A:=by
 cases hv:zHJ Γ o.dst with
 | true =>
  simp only [act,hop,hv] at hA
  split at hA
  ·rename_i kt vt hu
   split at hA
   ·rename_i q hE
    exact zma (ao:=.mo kt vt q 0 (fun _=>none)) (d:=fun t=>.cl (.mo t)) (fun L hL=>by simp [aoV] at hL) (fun t L hL=>by simp [dvV,d1V,clV] at hL) (fun ev' ob' _=>by simp only [act,hop,hv,hu,hE]) hA hs
   ·subst hA;exact hs.elim
  ·subst hA;exact hs.elim
 | false =>
 have hc:∀ ev' ob',act P Γ o ev' ob'=A:=fun ev' ob'=>by rw [← hA];simp only [act,hop,hv]
 simp only [act,hop,hv] at hA
 split at hA
 ·split at hA
  ·subst hA;exact ActOk.pchk (zbY _) fun ev' ob' _ _=>hc ev' ob'
  ·subst hA;exact hs.elim
 ·subst hA;exact hs.elim

theorem zC9 {op:UnOp} {t:TypeId} {x:Operand} (hop:o.op=.unOp op t x) (hA:act P Γ o ev ob=A) (hs:A.safe):ActOk P Γ o ev ob A:=by
 have hx:x∈o.op.operands.toList:=by simp [hop,Op.operands]
 simp only [act,hop] at hA
 split at hA
 ·rename_i h; subst hA
  exact ActOk.pure (zbY _) fun ev' ob' he _=>by simp only [act,hop,he x hx,h]
 ·rename_i h; subst hA
  exact ActOk.pure (zbY _) fun ev' ob' he _=>by simp only [act,hop,he x hx,h]
 ·subst hA;exact hs.elim

theorem zn2 {t:TypeId} {x:Operand} {f:Nat} (hop:o.op=.fieldAddr t x f) (hA:act P Γ o ev ob=A) (hs:A.safe):ActOk P Γ o ev ob A:=by
 have hx:x∈o.op.operands.toList:=by simp [hop,Op.operands]
 simp only [act,hop] at hA
 split at hA
 ·rename_i off hf
  split at hA
  ·rename_i h; subst hA
   exact ActOk.pure (zeG hx fun L hL=>by rw [h];exact hL) fun ev' ob' he _=>by simp only [act,hop,he x hx,h,hf]
  ·rename_i h; subst hA
   exact ActOk.pure (zeG hx fun L hL=>by rw [h];exact hL) fun ev' ob' he _=>by simp only [act,hop,he x hx,h,hf]
  ·rename_i h; subst hA
   exact ActOk.pure (zeG hx fun L hL=>by rw [h];exact hL) fun ev' ob' he _=>by simp only [act,hop,he x hx,h,hf]
  ·rename_i h; subst hA
   exact ActOk.pure (zeG hx fun L hL=>by rw [h];exact hL) fun ev' ob' he _=>by simp only [act,hop,he x hx,h,hf]
  ·subst hA;exact hs.elim
 ·subst hA;exact hs.elim

theorem zn3 {t:TypeId} {x y:Operand} (hop:o.op=.indexAddr t x y) (hA:act P Γ o ev ob=A) (hs:A.safe):ActOk P Γ o ev ob A:=by
 have hx:x∈o.op.operands.toList:=by simp [hop,Op.operands]
 have hy:y∈o.op.operands.toList:=by simp [hop,Op.operands]
 simp only [act,hop] at hA
 split at hA
 ·rename_i e hu
  split at hA
  ·rename_i n k j hn hj
   split at hA
   ·rename_i len s get hex
    split at hA
    ·rename_i hs'; subst hA
     exact ActOk.pchk (zbY _) fun ev' ob' he _=>by simp only [act,hop,he x hx,he y hy,hex,hu,hn,hj,hs',if_true]
    ·subst hA;exact hs.elim
   ·rename_i L hex
    split at hA
    ·rename_i e' s b len get hL
     split at hA
     ·rename_i hs'; subst hA
      refine ActOk.pchk (fun M hM=>.inl (.inl ⟨x,hx,?_⟩)) fun ev' ob' he hob=>?_
      ·rw [hex];exact hM
      have e:=hob (L,false) (by simp);simp only at e
      simp only [act,hop,he x hx,he y hy,hex,hu,hn,hj,e,hL,hs',if_true]
     ·subst hA;exact hs.elim
    ·rename_i s len get hL
     split at hA
     ·rename_i hs'; subst hA
      refine ActOk.pchk (zbY _) fun ev' ob' he hob=>?_
      have e:=hob (L,false) (by simp);simp only at e
      simp only [act,hop,he x hx,he y hy,hex,hu,hn,hj,e,hL,hs',if_true]
     ·subst hA;exact hs.elim
    ·rename_i hL
     split at hA
     ·rename_i hs'; subst hA
      refine ActOk.pchk (fun M hM=>.inl (.inl ⟨x,hx,?_⟩)) fun ev' ob' he hob=>?_
      ·rw [hex];exact hM
      have e:=hob (L,false) (by simp);simp only at e
      simp only [act,hop,he x hx,he y hy,hex,hu,hn,hj,e,hL,hs',if_true]
     ·subst hA;exact hs.elim
    ·rename_i hL
     split at hA
     ·rename_i hs'; subst hA
      refine ActOk.pchk (fun M hM=>.inl (.inl ⟨x,hx,?_⟩)) fun ev' ob' he hob=>?_
      ·rw [hex];exact hM
      have e:=hob (L,false) (by simp);simp only at e
      simp only [act,hop,he x hx,he y hy,hex,hu,hn,hj,e,hL,hs',if_true]
     ·subst hA;exact hs.elim
    ·subst hA;exact hs.elim
   ·rename_i L i hex
    split at hA
    ·rename_i hL
     split at hA
     ·rename_i hs'; subst hA
      refine ActOk.pchk (fun M hM=>.inl (.inl ⟨x,hx,?_⟩)) fun ev' ob' he hob=>?_
      ·rw [hex];exact hM
      have e:=hob (L,false) (by simp);simp only at e
      simp only [act,hop,he x hx,he y hy,hex,hu,hn,hj,e,hL,hs',if_true]
     ·subst hA;exact hs.elim
    ·subst hA;exact hs.elim
   ·subst hA;exact hs.elim
  ·subst hA;exact hs.elim
 ·rename_i m e hu
  have hc:∀ ev' ob',(∀ x∈o.op.operands.toList,ev' x=ev x)→act P Γ o ev' ob'=A:=fun ev' ob' he=>by
   simp only [act,hop,hu,he x hx,he y hy];exact hA
  unfold zix at hA
  split at hA
  ·split at hA
   ·split at hA
    ·rename_i h;subst hA;exact ActOk.pure (zeG hx fun L hL=>by simp [dvV,d1V,clV] at hL) fun ev' ob' he _=>hc ev' ob' he
    ·rename_i h;subst hA;exact ActOk.pure (zbY _) fun ev' ob' he _=>hc ev' ob' he
    ·subst hA;exact hs.elim
   ·subst hA;exact hs.elim
  ·subst hA;exact hs.elim
 ·subst hA;exact hs.elim

theorem ztJ {x:Operand} {k:Nat} (hop:o.op=.extract x k) (hA:act P Γ o ev ob=A) (hs:A.safe):ActOk P Γ o ev ob A:=by
 have hx:x∈o.op.operands.toList:=by simp [hop,Op.operands]
 simp only [act,hop] at hA
 split at hA
 ·rename_i ds h
  split at hA
  ·rename_i d hd; subst hA
   refine ActOk.pure (zeG hx fun L hL=>?_) fun ev' ob' he _=>by simp only [act,hop,he x hx,h,hd]
   rw [h];exact List.mem_flatMap.2 ⟨d,List.mem_of_getElem? hd,hL⟩
  ·subst hA;exact hs.elim
 ·subst hA;exact hs.elim

theorem zgl {c:Callee} {args:Array Operand} {ts:Array TypeId} (hop:o.op=.call { callee:=c,args,argTypes:=ts }):∀ x∈args.toList,x∈o.op.operands.toList:=by
 intro x hx
 simp only [hop,Op.operands]
 cases c <;> simp [Call.operands] <;> simp at hx <;> first | exact hx | exact .inr hx

theorem zH7 {b:Builtin} {args:Array Operand} {ts:Array TypeId} (hb:b=.max∨b=.min) (hop:o.op=.call { callee:=.builtin b,args,argTypes:=ts }) (hA:act P Γ o ev ob=A) (hs:A.safe):ActOk P Γ o ev ob A:=by
 have hm:=zgl hop
 have hmap:∀ ev':Operand→DV,(∀ x∈o.op.operands.toList,ev' x=ev x)→args.toList.map ev'=args.toList.map ev:=fun ev' he=>List.map_congr_left fun x hx=>he x (hm x hx)
 rcases hb with rfl | rfl <;> simp only [act,hop] at hA <;> split at hA
 ·rename_i h;subst hA;exact ActOk.pure (zbY _) fun ev' ob' he _=>by simp only [act,hop,hmap ev' he,h]
 ·subst hA;exact hs.elim
 ·rename_i h;subst hA;exact ActOk.pure (zbY _) fun ev' ob' he _=>by simp only [act,hop,hmap ev' he,h]
 ·subst hA;exact hs.elim

theorem zH8 {args:Array Operand} {ts:Array TypeId} (hop:o.op=.call { callee:=.builtin .len,args,argTypes:=ts }) (hA:act P Γ o ev ob=A) (hs:A.safe):ActOk P Γ o ev ob A:=by
 have hm:=zgl hop
 simp only [act,hop] at hA
 split at hA
 ·rename_i x t hargs ht
  have hx:x∈o.op.operands.toList:=hm x (by rw [hargs];simp)
  split at hA
  ·rename_i e hu
   split at hA
   ·rename_i h;subst hA;exact ActOk.pure (zbY _) fun ev' ob' he _=>by simp only [act,hop,hargs,ht,hu,he x hx,h]
   ·rename_i h;subst hA;exact ActOk.pure (zbY _) fun ev' ob' he _=>by simp only [act,hop,hargs,ht,hu,he x hx,h]
   ·rename_i L h
    split at hA
    ·rename_i hL; subst hA
     refine ActOk.pure (zbY _) fun ev' ob' he hob=>?_
     have e:=hob (L,false) (by simp);simp only at e
     simp only [act,hop,hargs,ht,hu,he x hx,h,e,hL]
    ·rename_i hL; subst hA
     refine ActOk.pure (zbY _) fun ev' ob' he hob=>?_
     have e:=hob (L,false) (by simp);simp only at e
     simp only [act,hop,hargs,ht,hu,he x hx,h,e,hL]
    ·rename_i hL; subst hA
     refine ActOk.pure (zbY _) fun ev' ob' he hob=>?_
     have e:=hob (L,false) (by simp);simp only at e
     simp only [act,hop,hargs,ht,hu,he x hx,h,e,hL]
    ·rename_i hL; subst hA
     refine ActOk.pure (zbY _) fun ev' ob' he hob=>?_
     have e:=hob (L,false) (by simp);simp only at e
     simp only [act,hop,hargs,ht,hu,he x hx,h,e,hL]
    ·subst hA;exact hs.elim
   ·rename_i L i h
    split at hA
    ·rename_i hL; subst hA
     refine ActOk.pchk (zbY _) fun ev' ob' he hob=>?_
     have e:=hob (L,false) (by simp);simp only at e
     simp only [act,hop,hargs,ht,hu,he x hx,h,e,hL]
    ·subst hA;exact hs.elim
   ·subst hA;exact hs.elim
  ·rename_i kt vt hu
   split at hA
   ·rename_i L h
    split at hA
    ·rename_i hL; subst hA
     refine ActOk.pure (zbY _) fun ev' ob' he hob=>?_
     have e:=hob (L,false) (by simp);simp only at e
     simp only [act,hop,hargs,ht,hu,he x hx,h,e,hL]
    ·subst hA;exact hs.elim
   ·rename_i h; subst hA
    exact ActOk.pure (zbY _) fun ev' ob' he _=>by simp only [act,hop,hargs,ht,hu,he x hx,h]
   ·subst hA;exact hs.elim
  ·subst hA;exact hs.elim
 ·subst hA;exact hs.elim

theorem ztK {d:DV} {T:Nat} (h:zgT d ob=some T):d=.one (.c (.vec T))∧∃ a1 a2 a3 a4 a5 a6 a7 a8,ob T=some (.vv a1 a2 a3 a4 a5 a6 a7 a8):=by
 unfold zgT at h
 split at h
 ·split at h
  ·rename_i hT
   simp only [Option.some.injEq] at h;subst h
   exact ⟨rfl,_,_,_,_,_,_,_,_,hT⟩
  ·cases h
 ·cases h

def zik (d:DV) (ob:Nat→Option AO):Option (Nat×Nat×(Nat→List PV)×List (Nat×Bool)) :=
 match d with
 | .one (.c (.p (.sl n sz get)))=>some (n,sz,get,[])
 | .one (.c (.vec M))=>match ob M with
  | some (.vec _ sz _ n get)=>some (n,sz,get,[(M,false)])
  | some (.fvec sz n get)=>some (n,sz,get,[(M,false)])
  | _=>none
 | _=>none
theorem zn4 {d : DV} {ob' : Nat → Option AO} {m sz : Nat} {new : Nat → List PV} {fps : List (Nat × Bool)} (h : zik d ob = some (m, sz, new, fps)) (hob : ∀ y ∈ fps, ob' y.1 = ob y.1) :
  zik d ob'=some (m,sz,new,fps):=by
 unfold zik at h ⊢
 split at h
 ·exact h
 ·rename_i M
  split at h
  ·rename_i hM
   have h':=h
   simp only [Option.some.injEq,Prod.mk.injEq] at h
   have e:=hob (M,false) (by rw [← h.2.2.2];simp);simp only at e
   rw [e,hM];exact h'
  ·rename_i hM
   have h':=h
   simp only [Option.some.injEq,Prod.mk.injEq] at h
   have e:=hob (M,false) (by rw [← h.2.2.2];simp);simp only at e
   rw [e,hM];exact h'
  ·cases h
 ·cases h

theorem ztL {d:DV} {ob':Nat→Option AO} {m sz:Nat} {new:Nat→List PV} {fps:List (Nat×Bool)} (h:zik d ob=some (m,sz,new,fps)) (hob:∀ y∈fps,ob' y.1=ob y.1):zgT d ob'=none:=by
 unfold zik at h
 split at h
 ·rfl
 ·rename_i M
  split at h
  ·rename_i hM
   simp only [Option.some.injEq,Prod.mk.injEq] at h
   have e:=hob (M,false) (by rw [← h.2.2.2];simp);simp only at e
   simp only [zgT,e,hM]
  ·rename_i hM
   simp only [Option.some.injEq,Prod.mk.injEq] at h
   have e:=hob (M,false) (by rw [← h.2.2.2];simp);simp only at e
   simp only [zgT,e,hM]
  ·cases h
 ·cases h

theorem zpr {s x : Operand} {e : TypeId} {ie : TypeInfo} {T : Nat} (hsm : s ∈ o.op.operands.toList) (hx : x ∈ o.op.operands.toList) (hT0 : zgT (ev x) ob = some T)
    (hc:∀ ev' ob',ev' x=ev x→zgT (ev' x) ob'=some T→act P Γ o ev' ob'=zdd o e ie (ev' s) T ob') (hA:zdd o e ie (ev s) T ob=A) (hs:A.safe):ActOk P Γ o ev ob A:=by
  obtain ⟨hxT,a1,a2,a3,a4,a5,a6,a7,a8,hTT⟩:=ztK hT0
  unfold zdd at hA
  split at hA
  · rename_i hT
    split at hA
    · rename_i L hes
      split at hA
      · rename_i hL
        split at hA
        · rename_i hif
          subst hA
          refine ⟨fun z hz=>?_,.inr ⟨L,rfl,by simp [OpAct.fp]⟩,fun z hz M hM=>?_,fun d' hd' M hM=>?_,fun ev' ob' he hob=>?_⟩
          · simp only [OpAct.u, List.mem_cons, List.not_mem_nil, or_false] at hz
            rcases hz with rfl | rfl <;> simp [OpAct.fp]
          · simp only [OpAct.u, List.mem_cons, List.not_mem_nil, or_false] at hz
            rcases hz with rfl | rfl <;> simp [aoV] at hM
          · simp only [OpAct.gives] at hd'; subst hd'
            simp only [dvV,d1V,clV,List.mem_singleton] at hM;subst hM
            exact .inr (by simp [OpAct.fp])
          · have e1 := hob (L, true) (by simp [OpAct.fp])
            have e2:=hob (T,true) (by simp [OpAct.fp])
            simp only at e1 e2
            rw [hc ev' ob' (he x hx) (by rw [he x hx,hxT];simp only [zgT,e2,hTT])]
            simp only [zdd,he s hsm,hes,e1,e2,hL,hT]
            rw [if_pos hif]
        · subst hA;exact hs.elim
      · subst hA;exact hs.elim
    · subst hA;exact hs.elim
  · subst hA;exact hs.elim

theorem zuS {args:Array Operand} {ts:Array TypeId} (hop:o.op=.call { callee:=.builtin .append,args,argTypes:=ts }) (hA:act P Γ o ev ob=A) (hs:A.safe):ActOk P Γ o ev ob A:=by
 have hm:=zgl hop
 have hA0:=hA
 simp only [act,hop] at hA
 split at hA
 ·rename_i s x t t' hargs ht
  have hsm:s∈o.op.operands.toList:=hm s (by rw [hargs];simp)
  have hx:x∈o.op.operands.toList:=hm x (by rw [hargs];simp)
  split at hA
  ·rename_i e dst hu htt hd
   split at hA
   ·rename_i ie z hie hz
    have hA2:(match zgT (ev x) ob with
     | some T=>zdd o e ie (ev s) T ob
     | none=>match zik (ev x) ob with
      | some (m,sz,new,fps)=>(match ev s with
       | .one (.c (.vec L))=>match ob L with
        | some (.vec e' s' b' n get)=>if e'=e∧s'=ie.size∧b'=ie.bytes∧sz=s'∧0 < s'∧zaN (ev x) ≠ [L] then
          .chk ((L,true) :: fps) ((n+m) * b'≤140737488355328∧n+m≤9223372036854775807) (.cl (.vec L)) [(L,.vec e s' b' (n+m) (appG n get new))] [L]
         else .no
        | _=>.no
       | .one (.c (.p .nils))=>match ob dst with
        | none=>if sz=ie.size∧0 < sz then
          .chk ((dst,true) :: fps) (m * ie.bytes≤140737488355328∧m≤9223372036854775807) (.cl (.vec dst)) [(dst,.vec e sz ie.bytes m new)] []
         else .no
        | some _=>.no
       | _=>.no)
      | none=>.no)=A:=hA
    clear hA
    have hcut:∀ (ev':Operand→DV) (ob':Nat→Option AO),act P Γ o ev' ob'=(match zgT (ev' x) ob' with
     | some T=>zdd o e ie (ev' s) T ob'
     | none=>match zik (ev' x) ob' with
      | some (m,sz,new,fps)=>(match ev' s with
       | .one (.c (.vec L))=>match ob' L with
        | some (.vec e' s' b' n get)=>if e'=e∧s'=ie.size∧b'=ie.bytes∧sz=s'∧0 < s'∧zaN (ev' x) ≠ [L] then
          .chk ((L,true) :: fps) ((n+m) * b'≤140737488355328∧n+m≤9223372036854775807) (.cl (.vec L)) [(L,.vec e s' b' (n+m) (appG n get new))] [L]
         else .no
        | _=>.no
       | .one (.c (.p .nils))=>match ob' dst with
        | none=>if sz=ie.size∧0 < sz then
          .chk ((dst,true) :: fps) (m * ie.bytes≤140737488355328∧m≤9223372036854775807) (.cl (.vec dst)) [(dst,.vec e sz ie.bytes m new)] []
         else .no
        | some _=>.no
       | _=>.no)
      | none=>.no):=by
     intro ev' ob'
     simp only [act,hop,hargs,ht,hu,htt,hd,hie,hz]
     rfl
    split at hA2
    ·rename_i T hT
     exact zpr hsm hx hT (fun ev' ob' he hT'=>by rw [hcut,hT']) hA2 hs
    rename_i hVn
    have hA:=hA2
    split at hA
    ·rename_i m sz new fps hsrc
     have hvn':∀ (ev':Operand→DV) (ob':Nat→Option AO),(∀ x∈o.op.operands.toList,ev' x=ev x)→(∀ y∈fps,ob' y.1=ob y.1)→zgT (ev' x) ob'=none:=by
      intro ev' ob' he hob
      rw [he x hx];exact ztL hsrc hob
     -- the source looks only at what fps names
     have src':∀ (ev':Operand→DV) (ob':Nat→Option AO),(∀ x∈o.op.operands.toList,ev' x=ev x)→(∀ y∈fps,ob' y.1=ob y.1) →
       zik (ev' x) ob'=some (m,sz,new,fps):=by
      intro ev' ob' he hob
      rw [he x hx]
      exact zn4 hsrc hob
     split at hA
     ·rename_i L hes
      split at hA
      ·rename_i e' s' b' n' get' hL
       split at hA
       ·rename_i hif
        subst hA
        refine ⟨fun z hz=>?_,.inr ⟨L,rfl,by simp [OpAct.fp]⟩,fun z hz M hM=>?_,fun d' hd' M hM=>?_,fun ev' ob' he hob=>?_⟩
        ·simp only [OpAct.u,List.mem_singleton] at hz;subst hz;simp [OpAct.fp]
        ·simp only [OpAct.u,List.mem_singleton] at hz;subst hz;simp [aoV] at hM
        ·simp only [OpAct.gives] at hd'; subst hd'
         simp only [dvV,d1V,clV,List.mem_singleton] at hM;subst hM
         exact .inr (by simp [OpAct.fp])
        ·have e1 := src' ev' ob' he (fun y hy => hob y (List.mem_cons_of_mem _ hy))
         have e2:=hob (L,true) (by simp [OpAct.fp]);simp only at e2
         rw [hcut,hvn' ev' ob' he (fun y hy=>hob y (List.mem_cons_of_mem _ hy))]
         simp only []
         rw [e1]
         simp only [he s hsm,he x hx,hes,e2,hL]
         rw [if_pos hif]
       ·subst hA;exact hs.elim
      ·subst hA;exact hs.elim
     ·rename_i hes
      split at hA
      ·rename_i hn
       split at hA
       ·rename_i hif
        subst hA
        refine ⟨fun z hz=>?_,.inl rfl,fun z hz M hM=>?_,fun d' hd' M hM=>?_,fun ev' ob' he hob=>?_⟩
        ·simp only [OpAct.u,List.mem_singleton] at hz;subst hz;simp [OpAct.fp]
        ·simp only [OpAct.u,List.mem_singleton] at hz;subst hz;simp [aoV] at hM
        ·simp only [OpAct.gives] at hd'; subst hd'
         simp only [dvV,d1V,clV,List.mem_singleton] at hM;subst hM
         exact .inr (by simp [OpAct.fp])
        ·have e1 := src' ev' ob' he (fun y hy => hob y (List.mem_cons_of_mem _ hy))
         have e2:=hob (dst,true) (by simp [OpAct.fp]);simp only at e2
         rw [hcut,hvn' ev' ob' he (fun y hy=>hob y (List.mem_cons_of_mem _ hy))]
         simp only []
         rw [e1]
         simp only [he s hsm,hes,e2,hn]
         rw [if_pos hif]
       ·subst hA;exact hs.elim
      ·subst hA;exact hs.elim
     ·subst hA;exact hs.elim
    ·subst hA;exact hs.elim
   ·subst hA;exact hs.elim
  ·subst hA;exact hs.elim
 ·subst hA;exact hs.elim

theorem zH9 (x:PA):d1V (paD x)=[]:=by
 cases x with
 | one p=>rfl
 | agg cs=>exact zr6 cs
theorem zn5 (rs:List PA):dvV (resD rs)=[]:=by
 have tup:∀ l:List PA,dvV (.tup (l.map paD))=[]:=by
  intro l
  induction l with
  | nil=>rfl
  | cons x l ih=>simp only [List.map_cons,dvV,List.flatMap_cons,zH9,List.nil_append] at ih ⊢;exact ih
 match rs with
 | []=>exact tup _
 | [x]=>exact zH9 x
 | x :: y :: l=>exact tup _

theorem zIa {k : OwnK} {args : Array Operand} {c : Callee} {ts : Array TypeId} (hop : o.op = .call { callee := c, args, argTypes := ts })
    (hc:∀ ev' ob',(∀ x∈o.op.operands.toList,ev' x=ev x)→act P Γ o ev' ob'=zfw P Γ o k (args.toList.map ev') ob') (hA:zfw P Γ o k (args.toList.map ev) ob=A) (hs:A.safe):ActOk P Γ o ev ob A:=by
  have hm:=zgl hop
  have hmap:∀ ev':Operand→DV,(∀ x∈o.op.operands.toList,ev' x=ev x)→args.toList.map ev'=args.toList.map ev:=fun ev' he=>List.map_congr_left fun x hx=>he x (hm x hx)
  unfold zfw at hA
  split at hA
  · subst hA;exact hs.elim
  · split at hA
    · rename_i L hf caps hargs
      split at hA
      · rename_i hL hag
        split at hA
        · rename_i hif
          subst hA
          refine ⟨fun z hz=>?_,.inl rfl,fun z hz M hM=>?_,fun d' hd' M hM=>?_,fun ev' ob' he hob=>?_⟩
          · simp only [OpAct.u,List.mem_singleton] at hz;subst hz;simp [OpAct.fp]
          · simp only [OpAct.u,List.mem_singleton] at hz;subst hz;simp [aoV] at hM
          · simp only [OpAct.gives] at hd';subst hd';simp [dvV] at hM
          · have e2 := hob (L, true) (by simp [OpAct.fp]); simp only at e2
            rw [hc ev' ob' he,hmap ev' he]
            simp only [zfw,hargs,e2,hL,hag]
            rw [if_pos hif]
        · subst hA;exact hs.elim
      · subst hA;exact hs.elim
    · subst hA;exact hs.elim
  · split at hA
    · rename_i dst hargs hd
      split at hA
      · rename_i hn hi hz
        split at hA
        · rename_i hif
          subst hA
          refine ⟨fun z hz=>?_,.inl rfl,fun z hz M hM=>?_,fun d' hd' M hM=>?_,fun ev' ob' he hob=>?_⟩
          · simp only [OpAct.u,List.mem_singleton] at hz;subst hz;simp [OpAct.fp]
          · simp only [OpAct.u,List.mem_singleton] at hz;subst hz;simp [aoV] at hM
          · simp only [OpAct.gives] at hd'; subst hd'
            simp only [dvV,d1V,clV,List.mem_singleton] at hM;subst hM
            exact .inr (by simp [OpAct.fp])
          · have e2 := hob (dst, true) (by simp [OpAct.fp]); simp only at e2
            rw [hc ev' ob' he,hmap ev' he]
            simp only [zfw,hargs,hd,e2,hn,hi,hz]
            rw [if_pos hif]
        · subst hA;exact hs.elim
      · subst hA;exact hs.elim
    · subst hA;exact hs.elim
  · split at hA
    · rename_i L hargs
      split at hA
      · rename_i hL
        split at hA
        · rename_i hif
          split at hA
          · subst hA
            refine ⟨fun z hz=>?_,.inr ⟨L,rfl,by simp [OpAct.fp]⟩,fun z hz M hM=>?_,fun d' hd' M hM=>?_,fun ev' ob' he hob=>?_⟩
            · simp only [OpAct.u,List.mem_singleton] at hz;subst hz;simp [OpAct.fp]
            · simp only [OpAct.u,List.mem_singleton] at hz;subst hz;simp [aoV] at hM
            · simp only [OpAct.gives] at hd'; subst hd'
              simp only [dvV,d1V,clV,List.mem_singleton] at hM;subst hM
              exact .inr (by simp [OpAct.fp])
            · have e2 := hob (L, true) (by simp [OpAct.fp]); simp only at e2
              rw [hc ev' ob' he,hmap ev' he]
              simp only [zfw,hargs,e2,hL]
              rw [if_pos hif]
          · subst hA
            refine ⟨fun z hz=>?_,.inl rfl,fun z hz M hM=>?_,fun d' hd' M hM=>?_,fun ev' ob' he hob=>?_⟩
            · simp only [OpAct.u,List.mem_singleton] at hz;subst hz;simp [OpAct.fp]
            · simp only [OpAct.u,List.mem_singleton] at hz;subst hz;simp [aoV] at hM
            · simp only [OpAct.gives] at hd';subst hd';simp [dvV] at hM
            · have e2 := hob (L, true) (by simp [OpAct.fp]); simp only at e2
              rw [hc ev' ob' he,hmap ev' he]
              simp only [zfw,hargs,e2,hL]
              rw [if_pos hif]
        · subst hA;exact hs.elim
      · subst hA;exact hs.elim
    · subst hA;exact hs.elim

theorem zDa {f:Operand} {args:Array Operand} {ts:Array TypeId} (hop:o.op=.call { callee:=.value f,args,argTypes:=ts }) (hA:act P Γ o ev ob=A) (hs:A.safe):ActOk P Γ o ev ob A:=by
 have hm:=zgl hop
 have hf:f∈o.op.operands.toList:=by simp [hop,Op.operands,Call.operands]
 simp only [act,hop] at hA
 split at hA
 ·rename_i gf first caps hef
  split at hA
  ·rename_i hk
   split at hA
   ·exact zIa (k:=Γ.own gf) hop (fun ev' ob' he=>by simp only [act,hop,he f hf,hef,hk]) hA hs
   ·subst hA;exact hs.elim
  rename_i hko
  split at hA
  ·rename_i as u has
   have key:∀ (ev':Operand→DV) (ob':Nat→Option AO),(∀ x∈o.op.operands.toList,ev' x=ev x)→(∀ L∈args.toList.flatMap fun x=>za6 ob (ev x),ob' L=ob L) →
     act P Γ o ev' ob'=(Γ gf (first.map .one ++ as ++ caps.map .one)).act (args.toList.flatMap fun x=>za6 ob (ev x)) u:=by
    intro ev' ob' he hl
    have e0:args.toList.map ev'=args.toList.map ev:=List.map_congr_left fun x hx=>he x (hm x hx)
    have e1:zfs ob' (args.toList.map ev)=zfs ob (args.toList.map ev):=zjg fun L hL=>hl L (by rw [List.flatMap_map] at hL;exact hL)
    have e2:(args.toList.flatMap fun x=>za6 ob' (ev' x))=args.toList.flatMap fun x=>za6 ob (ev x):=by
     refine fmc fun x hx=>?_
     rw [he x (hm x hx)]
     exact zgi fun L hL=>hl L (List.mem_flatMap.2 ⟨x,hx,hL⟩)
    simp only [act,hop,he f hf,hef,hko,e0,e1,has,e2]
   have hwrT:∀ L,L∈(args.toList.flatMap fun x=>za6 ob (ev x))→(L,true)∈wr (args.toList.flatMap fun x=>za6 ob (ev x)):=fun L hL=>List.mem_map.2 ⟨L,hL,rfl⟩
   have hrdF:∀ L,L∈(args.toList.flatMap fun x=>za6 ob (ev x))→(L,false)∈rd (args.toList.flatMap fun x=>za6 ob (ev x)):=fun L hL=>List.mem_map.2 ⟨L,hL,rfl⟩
   have hk:∀ x∈u,(x.1,true)∈wr (args.toList.flatMap fun x=>za6 ob (ev x))∧aoV x.2=[]:=fun x hx=>by
    obtain ⟨h1,h2⟩:=zgZ has x hx
    refine ⟨hwrT _ ?_,h2⟩
    rw [List.flatMap_map] at h1;exact h1
   generalize hC:Γ gf (first.map .one ++ as ++ caps.map .one)=C at hA key
   generalize (args.toList.flatMap fun x=>za6 ob (ev x))=labs at hA key hk hwrT hrdF
   cases C with
   | no=>subst hA;exact hs.elim
   | tot r =>
    cases hsc:zf7 r with
    | true =>
     rw [zo0 hsc] at hA;simp only [zo0 hsc] at key;subst hA
     exact ⟨fun x hx=>by simp [OpAct.u] at hx,.inl rfl,fun x hx=>by simp [OpAct.u] at hx,fun d hd L hL=>(by cases hd;rw [zn5] at hL;simp at hL),fun ev' ob' he hob=>key ev' ob' he fun L hL=>hob (L,false) (hrdF L hL)⟩
    | false =>
     rw [zo1 hsc] at hA;simp only [zo1 hsc] at key;subst hA
     exact ⟨fun x hx=>(hk x hx).1,.inl rfl,fun x hx L hL=>(by rw [(hk x hx).2] at hL;simp at hL),fun d hd L hL=>(by simp only [OpAct.gives] at hd;subst hd;rw [zn5] at hL;simp at hL),fun ev' ob' he hob=>key ev' ob' he fun L hL=>hob (L,true) (hwrT L hL)⟩
   | det s r =>
    cases hsc:zf7 r with
    | true =>
     rw [zlL hsc] at hA;simp only [zlL hsc] at key;subst hA
     exact ⟨fun x hx=>by simp [OpAct.u] at hx,.inl rfl,fun x hx=>by simp [OpAct.u] at hx,fun d hd L hL=>(by cases hd;rw [zn5] at hL;simp at hL),fun ev' ob' he hob=>key ev' ob' he fun L hL=>hob (L,false) (hrdF L hL)⟩
    | false =>
     rw [zlM hsc] at hA;simp only [zlM hsc] at key;subst hA
     exact ⟨fun x hx=>(hk x hx).1,.inl rfl,fun x hx L hL=>(by rw [(hk x hx).2] at hL;simp at hL),fun d hd L hL=>(by simp only [OpAct.gives] at hd;subst hd;rw [zn5] at hL;simp at hL),fun ev' ob' he hob=>key ev' ob' he fun L hL=>hob (L,true) (hwrT L hL)⟩
   | rel ρ s post r =>
    subst hA
    exact ⟨fun x hx=>(hk x hx).1,.inl rfl,fun x hx L hL=>(by rw [(hk x hx).2] at hL;simp at hL),fun d hd L hL=>(by simp only [COut.act,OpAct.gives] at hd;obtain ⟨x,rfl⟩:=hd;rw [zn5] at hL;simp at hL),fun ev' ob' he hob=>key ev' ob' he fun L hL=>hob (L,true) (hwrT L hL)⟩
  ·subst hA;exact hs.elim
 ·subst hA;exact hs.elim

theorem zps {f:FuncId} {first caps:Array Operand} (hop:o.op=.makeFunc (.func f) first caps) (hA:act P Γ o ev ob=A) (hs:A.safe):ActOk P Γ o ev ob A:=by
 have hm:∀ x∈first.toList ++ caps.toList,x∈o.op.operands.toList:=fun x hx=>by simp only [hop,Op.operands];simpa using hx
 simp only [act,hop] at hA
 split at hA
 ·rename_i l u l' u' h1 h2
  subst hA
  have lab1:∀ (x:Operand) (c:Cl),ev x=.one (.c c)→∀ L,L∈zav c→L∈za6 ob (ev x):=fun x c h L hL=>by
   rw [h];exact List.mem_flatMap.2 ⟨L,hL,List.mem_cons_self⟩
  have lab2:∀ (x:Operand) (c:Cl),ev x=.one (.c c)→∀ L,L∈zav c→∀ o',ob L=some o'→∀ M∈zbB o',M∈za6 ob (ev x):=fun x c h L hL o' ho' M hM=>by
   rw [h];refine List.mem_flatMap.2 ⟨L,hL,List.mem_cons_of_mem _ ?_⟩;rw [ho'];exact hM
  have clm:∀ (xs:List Operand),∀ L∈(xs.flatMap fun x=>match ev x with | .one (.c c)=>[c] | _=>[.junk]).flatMap zav,∃ x∈xs,∃ c,ev x=.one (.c c)∧L∈zav c:=by
   intro xs L hL
   obtain ⟨c,hc,hL⟩:=List.mem_flatMap.1 hL
   obtain ⟨x,hx,hc⟩:=List.mem_flatMap.1 hc
   refine ⟨x,hx,?_⟩
   split at hc
   ·rename_i c' h;simp at hc;subst hc;exact ⟨_,h,hL⟩
   ·simp at hc;subst hc;simp [zav] at hL
  have keys:∀ (xs:List Operand) (l:List PV) (u:Upd),zk4 ob (xs.flatMap fun x=>match ev x with | .one (.c c)=>[c] | _=>[.junk])=some (l,u) →
    ∀ x∈u,x.1∈xs.flatMap (fun x=>za6 ob (ev x))∧aoV x.2=[]:=by
   intro xs l u h y hy
   obtain ⟨h3,h4⟩:=zjh h y hy
   refine ⟨?_,h4⟩
   rcases h3 with h3 | ⟨L,hL,o',h5,h6⟩
   ·obtain ⟨x, hx, c, hc, hL⟩ := clm xs _ h3
    exact List.mem_flatMap.2 ⟨x,hx,lab1 x c hc _ hL⟩
   ·obtain ⟨x, hx, c, hc, hL⟩ := clm xs _ hL
    exact List.mem_flatMap.2 ⟨x,hx,lab2 x c hc _ hL _ h5 _ h6⟩
  have cong:∀ (xs:List Operand) (ev':Operand→DV) (ob':Nat→Option AO),(∀ x∈xs,ev' x=ev x)→(∀ L∈xs.flatMap (fun x=>za6 ob (ev x)),ob' L=ob L) →
    zk4 ob' (xs.flatMap fun x=>match ev' x with | .one (.c c)=>[c] | _=>[.junk])=zk4 ob (xs.flatMap fun x=>match ev x with | .one (.c c)=>[c] | _=>[.junk]):=by
   intro xs ev' ob' he hob
   have e0:(xs.flatMap fun x=>match ev' x with | .one (.c c)=>[c] | _=>[.junk])=xs.flatMap fun x=>match ev x with | .one (.c c)=>[c] | _=>[.junk] :=
    fmc fun x hx=>by rw [he x hx]
   rw [e0]
   refine zgY fun L hL=>?_
   obtain ⟨x,hx,c,hc,hL⟩:=clm xs _ hL
   exact ⟨hob L (List.mem_flatMap.2 ⟨x,hx,lab1 x c hc _ hL⟩),fun o' ho' M hM=>hob M (List.mem_flatMap.2 ⟨x,hx,lab2 x c hc _ hL _ ho' _ hM⟩)⟩
  refine ⟨fun x hx=>?_,.inl rfl,fun x hx L hL=>?_,fun d' hd' L hL=>?_,fun ev' ob' he hob=>?_⟩
  ·simp only [OpAct.u] at hx
   refine zr9 ?_
   rw [List.flatMap_append]
   rcases List.mem_append.1 hx with hx | hx
   ·exact List.mem_append.2 (.inl (keys _ _ _ h1 x hx).1)
   ·exact List.mem_append.2 (.inr (keys _ _ _ h2 x hx).1)
  ·simp only [OpAct.u] at hx
   rcases List.mem_append.1 hx with hx | hx
   ·rw [(keys _ _ _ h1 x hx).2] at hL;simp at hL
   ·rw [(keys _ _ _ h2 x hx).2] at hL;simp at hL
  ·simp only [OpAct.gives] at hd';subst hd';simp [dvV,d1V,clV] at hL
  ·have hl : ∀ L ∈ (first.toList ++ caps.toList).flatMap fun x => za6 ob (ev x), ob' L = ob L := fun L hL => hob (L, true) (zr9 hL)
   have e1:=cong first.toList ev' ob' (fun x hx=>he x (hm x (List.mem_append.2 (.inl hx)))) (fun L hL=>hl L (by rw [List.flatMap_append];exact List.mem_append.2 (.inl hL)))
   have e2:=cong caps.toList ev' ob' (fun x hx=>he x (hm x (List.mem_append.2 (.inr hx)))) (fun L hL=>hl L (by rw [List.flatMap_append];exact List.mem_append.2 (.inr hL)))
   have e3:((first.toList ++ caps.toList).flatMap fun x=>za6 ob' (ev' x))=(first.toList ++ caps.toList).flatMap fun x=>za6 ob (ev x):=by
    refine fmc fun x hx=>?_
    rw [he x (hm x hx)]
    exact zgi fun L hL=>hl L (List.mem_flatMap.2 ⟨x,hx,hL⟩)
   simp only [act,hop,e3]
   split
   ·rename_i l2 u2 l3 u3 h3 h4
    have a1:some (l2,u2)=some (l,u):=h3.symm.trans (e1.trans h1)
    have a2:some (l3,u3)=some (l',u'):=h4.symm.trans (e2.trans h2)
    simp only [Option.some.injEq,Prod.mk.injEq] at a1 a2
    obtain ⟨rfl,rfl⟩:=a1
    obtain ⟨rfl,rfl⟩:=a2
    rfl
   ·rename_i hno
    exact (hno l u l' u' (e1.trans h1) (e2.trans h2)).elim
 ·subst hA;exact hs.elim

theorem zn6 {t:TypeId} {x y:Operand} (hop:o.op=.makeSlice t x y) (hA:act P Γ o ev ob=A) (hs:A.safe):ActOk P Γ o ev ob A:=by
 have hx:x∈o.op.operands.toList:=by simp [hop,Op.operands]
 have hy:y∈o.op.operands.toList:=by simp [hop,Op.operands]
 have hc0:∀ ev' ob',(∀ x∈o.op.operands.toList,ev' x=ev x)→act P Γ o ev' ob'=zeO P Γ t (ev x) (ev y) o.dst ob':=fun ev' ob' he=>by simp only [act,hop,he x hx,he y hy]
 have hA0:=hA
 rw [hc0 ev ob (fun _ _=>rfl)] at hA
 unfold zeO at hA
 split at hA
 ·rename_i e k1 j k2 j2 dst hu hex hey hdst
  split at hA
  ·rename_i ie z hi hz hfresh
   have fin:∀ (s:Prop) (ao:AO),aoV ao=[]→OpAct.chk [(dst,true)] s (.cl (.vec dst)) [(dst,ao)] []=A→(∀ ob':Nat→Option AO,ob' dst=none→zeO P Γ t (ev x) (ev y) o.dst ob'=A)→ActOk P Γ o ev ob A:=by
    intro s ao hao e hcc
    subst e
    refine ⟨fun z hz=>?_,.inl rfl,fun z hz M hM=>?_,fun d' hd' M hM=>?_,fun ev' ob' he hob=>?_⟩
    ·simp only [OpAct.u,List.mem_singleton] at hz;subst hz;simp [OpAct.fp]
    ·simp only [OpAct.u,List.mem_singleton] at hz;subst hz;rw [hao] at hM;simp at hM
    ·simp only [OpAct.gives] at hd'; subst hd'
     simp only [dvV,d1V,clV,List.mem_singleton] at hM;subst hM
     exact .inr (by simp [OpAct.fp])
    ·have e2 := hob (dst, true) (by simp [OpAct.fp]); simp only at e2
     rw [hc0 ev' ob' he]
     exact hcc ob' (e2.trans hfresh)
   have hcc:∀ ob':Nat→Option AO,ob' dst=none→zeO P Γ t (ev x) (ev y) o.dst ob'=A:=fun ob' h=>by
    have:act P Γ o ev ob=A:=hA0
    rw [hc0 ev ob (fun _ _=>rfl)] at this
    rw [← this]
    unfold zeO
    simp only [hu,hex,hey,hdst,hi,hz,hfresh,h]
   split at hA
   ·split at hA
    ·split at hA
     ·exact fin _ _ rfl hA hcc
     ·subst hA;exact hs.elim
    ·subst hA;exact hs.elim
   ·split at hA
    ·split at hA
     ·exact fin _ _ rfl hA hcc
     ·subst hA;exact hs.elim
    ·subst hA;exact hs.elim
  ·subst hA;exact hs.elim
 ·subst hA;exact hs.elim

theorem zz7 {t:TypeId} {x:Operand} (hop:o.op=.range t x) (hA:act P Γ o ev ob=A) (hs:A.safe):ActOk P Γ o ev ob A:=by
 have hx:x∈o.op.operands.toList:=by simp [hop,Op.operands]
 simp only [act,hop] at hA
 split at hA
 ·rename_i q q' m F hq hex
  split at hA
  ·rename_i e
   exact zma (ao:=.mit q m F []) (d:=fun t=>.cl (.ptr t 0)) (fun L hL=>by simp [aoV] at hL) (fun t L hL=>by simp [dvV,d1V,clV] at hL) (fun ev' ob' he=>by simp only [act,hop,he x hx,hex,hq,if_pos e]) hA hs
  ·subst hA;exact hs.elim
 ·subst hA;exact hs.elim

theorem zz8 {x:Operand} (hop:o.op=.entry x) (hA:act P Γ o ev ob=A) (hs:A.safe):ActOk P Γ o ev ob A:=by
 have hx:x∈o.op.operands.toList:=by simp [hop,Op.operands]
 simp only [act,hop] at hA
 split at hA
 ·rename_i L hex
  split at hA
  ·rename_i q m F c seen hL
   split at hA
   ·rename_i kd vd hkd hvd
    subst hA
    refine ActOk.pure (fun M hM=>?_) fun ev' ob' he hob=>?_
    ·simp only [dvV, List.flatMap_cons, List.flatMap_nil, List.append_nil, List.mem_append] at hM
     rcases hM with hM | hM
     ·have:=zpq M hM;rw [zr0 hkd] at this;simp at this
     ·have:=zpq M hM;rw [ziA hvd] at this;simp at this
    ·have e := hob (L, false) (by simp); simp only at e
     simp only [act,hop,he x hx,hex,e,hL,hkd,hvd]
   ·subst hA;exact hs.elim
  ·subst hA;exact hs.elim
 ·subst hA;exact hs.elim

theorem zLb (hA:act P Γ o ev ob=A) (hs:A.safe):ActOk P Γ o ev ob A:=by
 have hA':=hA
 cases hop:o.op with
 | move x=>simp only [act,hop] at hA;subst hA;exact zuP (.inl hop)
 | assign x=>simp only [act,hop] at hA;subst hA;exact zuP (.inr hop)
 | pick c x y =>
  simp only [act,hop] at hA
  split at hA
  ·rename_i t hc;subst hA;exact zC7 hop hc
  ·subst hA;exact hs.elim
 | alloc e =>
  simp only [act,hop] at hA
  split at hA
  ·rename_i z hz
   refine zma (ao:=.box e z) (d:=fun t=>.cl (.ptr t 0)) (fun L hL=>?_) (fun t L hL=>by simp [dvV,d1V,clV] at hL) (fun ev' ob' _=>by simp only [act,hop,hz]) hA hs
   simp only [aoV] at hL;rw [zuQ hz] at hL;simp at hL
  ·subst hA;exact hs.elim
 | box e x =>
  have hx:x∈o.op.operands.toList:=by simp [hop,Op.operands]
  simp only [act,hop] at hA
  split at hA
  ·rename_i d m hex hm
   split at hA
   ·rename_i hcond
    refine zma (ao:=.box e d.cells) (d:=fun t=>.cl (.ptr t 0)) (fun L hL=>?_) (fun t L hL=>by simp [dvV,d1V,clV] at hL) (fun ev' ob' he=>by simp only [act,hop,he x hx,hex,hm,hcond]) hA hs
    simp only [aoV] at hL
    rw [zpo] at hL
    exact .inl ⟨x,hx,by rw [hex];exact hL⟩
   ·subst hA;exact hs.elim
  ·subst hA;exact hs.elim
 | build t parts =>
  simp only [act,hop] at hA
  split at hA
  ·rename_i z hf hz
   split at hA
   ·rename_i l hl;subst hA;exact zz2 hop hf hz hl
   ·subst hA;exact hs.elim
  ·subst hA;exact hs.elim
 | buildSlice t m parts=>exact zmb hop hA' hs
 | load t x=>exact zC8 hop hA' hs
 | store t x y=>exact zz3 hop hA' hs
 | nilCheck x=>exact zpp hop hA' hs
 | binOp op t x y t'=>exact zz5 hop hA' hs
 | unOp op t x=>exact zC9 hop hA' hs
 | fieldAddr t x f=>exact zn2 hop hA' hs
 | indexAddr t x y=>exact zn3 hop hA' hs
 | extract x k=>exact ztJ hop hA' hs
 | index t x y=>exact zz6 hop hA' hs
 | slice t x lo hi mx =>
  cases mx with
  | none=>exact ok_slice hop hA' hs
  | some m=>simp only [act,hop] at hA;subst hA;exact hs.elim
 | lookup t x y k=>exact zuR hop hA' hs
 | mapUpdate t x y z=>exact zn1 hop hA' hs
 | makeMap t x =>
  cases x with
  | none=>exact ztI hop hA' hs
  | some x=>simp only [act,hop] at hA;subst hA;exact hs.elim
 | makeSlice t x y=>exact zn6 hop hA' hs
 | range t x=>exact zz7 hop hA' hs
 | entry x=>exact zz8 hop hA' hs
 | makeFunc fn first caps =>
  cases fn with
  | func f=>exact zps hop hA' hs
  | _=>simp only [act,hop] at hA;subst hA;exact hs.elim
 | call c =>
  obtain ⟨callee,args,ts⟩:=c
  cases callee with
  | value f=>exact zDa hop hA' hs
  | invoke x m=>simp only [act,hop] at hA;subst hA;exact hs.elim
  | builtin b =>
   cases b with
   | len=>exact zH8 hop hA' hs
   | max=>exact zH7 (.inl rfl) hop hA' hs
   | min=>exact zH7 (.inr rfl) hop hA' hs
   | append=>exact zuS hop hA' hs
   | _=>simp only [act,hop] at hA;subst hA;exact hs.elim
 | _=>simp only [act,hop] at hA;subst hA;exact hs.elim
end
end Go.Pm
namespace Go.Pm

structure Eqv (σ τ : St) : Prop where
  env:∀ t,lk σ.env t=lk τ.env t
  objs:∀ L,lk σ.objs L=lk τ.objs L
  log:∀ x,x∈σ.log↔x∈τ.log

theorem Eqv.refl (σ:St):Eqv σ σ:=⟨fun _=>rfl,fun _=>rfl,fun _=>Iff.rfl⟩
theorem Eqv.symm {σ τ:St} (h:Eqv σ τ):Eqv τ σ:=⟨fun t=>(h.env t).symm,fun t=>(h.objs t).symm,fun x=>(h.log x).symm⟩

theorem zjj {e e':List (Nat×DV)} {x:Operand} (h:∀ t∈zHN x,lk e t=lk e' t):evO e x=evO e' x:=by
 cases x with
 | tmp t=>simp only [evO];rw [h t (by simp [zHN])]
 | _=>rfl

theorem zjk (x:Cl):zbH [] x=x:=by cases x <;> rfl
theorem zlx (x:D1):zb5 [] x=x:=by
 cases x with
 | c x=>simp [zb5,zjk]
 | agg cs=>simp only [zb5];rw [show zbH []=id from funext zjk,List.map_id]
theorem zuT (x:DV):zcM [] x=x:=by
 cases x with
 | one x=>simp [zcM,zlx]
 | tup cs=>simp only [zcM];rw [show zb5 []=id from funext zlx,List.map_id]
theorem zuU (x:AO):zcA [] x=x:=by
 cases x with
 | box ty cs=>simp only [zcA];rw [show zbH []=id from funext zjk,List.map_id]
 | _=>rfl

theorem zmc {l:List Nat} {x:Cl} (h:∀ L∈clV x,L ∉ l):zbH l x=x:=by
 cases x with
 | vec L =>
  have h1:l.contains L=false:=by simpa using h L (by simp [clV])
  simp only [zbH,h1]
 | vptr L s i k =>
  have h1:l.contains L=false:=by simpa using h L (by simp [clV])
  simp only [zbH,h1]
 | ivec L i =>
  have h1:l.contains L=false:=by simpa using h L (by simp [clV])
  simp only [zbH,h1]
 | iptr L s i j k =>
  have h1:l.contains L=false:=by simpa using h L (by simp [clV])
  simp only [zbH,h1]
 | imap L i =>
  have h1:l.contains L=false:=by simpa using h L (by simp [clV])
  simp only [zbH,h1]
 | _=>rfl
theorem zgm {α : Type} {f : α → α} : ∀ {l : List α}, (∀ x ∈ l, f x = x) → l.map f = l
  | [],_=>rfl
  | x :: l,h=>by rw [List.map_cons,h x List.mem_cons_self,zgm fun y hy=>h y (List.mem_cons_of_mem _ hy)]
theorem zn7 {l:List Nat} {x:D1} (h:∀ L∈d1V x,L ∉ l):zb5 l x=x:=by
 cases x with
 | c x=>simp only [zb5];rw [zmc h]
 | agg cs=>simp only [zb5];rw [zgm fun x hx=>zmc fun L hL=>h L (List.mem_flatMap.2 ⟨x,hx,hL⟩)]
theorem zmd {l:List Nat} {x:DV} (h:∀ L∈dvV x,L ∉ l):zcM l x=x:=by
 cases x with
 | one x=>simp only [zcM];rw [zn7 h]
 | tup cs=>simp only [zcM];rw [zgm fun x hx=>zn7 fun L hL=>h L (List.mem_flatMap.2 ⟨x,hx,hL⟩)]
theorem zme {l:List Nat} {x:AO} (h:∀ L∈aoV x,L ∉ l):zcA l x=x:=by
 cases x with
 | box ty cs=>simp only [zcA];rw [zgm fun x hx=>zmc fun L hL=>h L (List.mem_flatMap.2 ⟨x,hx,hL⟩)]
 | _=>rfl

theorem zpt {l:List Nat} {x:Cl} : clV (zbH l x)=clV x:=by
 cases x with
 | vec L=>simp only [zbH];split <;> rfl
 | vptr L s i k=>simp only [zbH];split <;> rfl
 | ivec L i=>simp only [zbH];split <;> rfl
 | iptr L s i j k=>simp only [zbH];split <;> rfl
 | imap L i=>simp only [zbH];split <;> rfl
 | _=>rfl
theorem zsa {l:List Nat} {x:D1} : d1V (zb5 l x)=d1V x:=by
 cases x with
 | c x=>exact zpt
 | agg cs=>simp only [zb5,d1V,List.flatMap_map];exact fmc fun x _=>zpt
theorem zDb {l:List Nat} {x:DV} : dvV (zcM l x)=dvV x:=by
 cases x with
 | one x=>exact zsa
 | tup cs=>simp only [zcM,dvV,List.flatMap_map];exact fmc fun x _=>zsa
theorem zpu {l:List Nat} {x:AO} : aoV (zcA l x)=aoV x:=by
 cases x with
 | box ty cs=>simp only [zcA,aoV,List.flatMap_map];exact fmc fun x _=>zpt
 | _=>rfl

theorem zg0 {l m:List Nat} (x:Cl):zbH l (zbH m x)=zbH m (zbH l x):=by
 cases x with
 | vec L=>simp only [zbH];cases hl:l.contains L <;> cases hm:m.contains L <;> simp only [hl,hm]
 | vptr L s i k=>simp only [zbH];cases hl:l.contains L <;> cases hm:m.contains L <;> simp only [hl,hm]
 | ivec L i=>simp only [zbH];cases hl:l.contains L <;> cases hm:m.contains L <;> simp only [hl,hm]
 | imap L i=>simp only [zbH];cases hl:l.contains L <;> cases hm:m.contains L <;> simp only [hl,hm]
 | iptr L s i j k=>simp only [zbH];cases hl:l.contains L <;> cases hm:m.contains L <;> simp only [hl,hm]
 | _=>rfl
theorem zjl {l m:List Nat} (x:D1):zb5 l (zb5 m x)=zb5 m (zb5 l x):=by
 cases x with
 | c x=>simp only [zb5];rw [zg0]
 | agg cs=>simp only [zb5,List.map_map];rw [show zbH l ∘ zbH m=zbH m ∘ zbH l from funext zg0]
theorem ztM {l m:List Nat} (x:DV):zcM l (zcM m x)=zcM m (zcM l x):=by
 cases x with
 | one x=>simp only [zcM];rw [zjl]
 | tup cs=>simp only [zcM,List.map_map];rw [show zb5 l ∘ zb5 m=zb5 m ∘ zb5 l from funext zjl]
theorem ztN {l m:List Nat} (x:AO):zcA l (zcA m x)=zcA m (zcA l x):=by
 cases x with
 | box ty cs=>simp only [zcA,List.map_map];rw [show zbH l ∘ zbH m=zbH m ∘ zbH l from funext zg0]
 | _=>rfl

theorem zz9 {α : Type} {f : α → α} : ∀ {l : List (Nat × α)} {t : Nat}, lk (kills f l) t = (lk l t).map f
  | [],_=>rfl
  | (k,a) :: r,t=>by
    simp only [kills]
    rw [zak,zak]
    split
    · rfl
    · exact zz9

theorem zDc {σ : St} {i : Nat} {dst : Option Nat} {fp : List (Nat × Bool)} {d : DV} {u : List (Nat × AO)} {kl : List Nat} (t : Nat) :
  lk (σ.upd i dst fp d u kl).env t=if dst=some t then some d else (lk σ.env t).map (zcM kl):=by
 cases kl with
 | nil =>
  have e:(lk σ.env t).map (zcM [])=lk σ.env t:=by cases lk σ.env t <;> simp [zuT]
  rw [e]
  cases dst with
  | none=>rfl
  | some s=>simp only [St.upd,zak,Option.some.injEq]
 | cons K r =>
  cases dst with
  | none=>simp only [St.upd,zz9];rw [if_neg (by simp)]
  | some s=>simp only [St.upd,zak,zz9,Option.some.injEq]
theorem zAa {σ : St} {i : Nat} {dst : Option Nat} {fp : List (Nat × Bool)} {d : DV} {u : List (Nat × AO)} {kl : List Nat} (L : Nat) :
  lk (σ.upd i dst fp d u kl).objs L=match lk u L with | some o=>some o | none=>(lk σ.objs L).map (zcA kl):=by
 cases kl with
 | nil =>
  have e:(lk σ.objs L).map (zcA [])=lk σ.objs L:=by cases lk σ.objs L <;> simp [zuU]
  rw [e]
  change lk (u ++ σ.objs) L=_
  rw [zck]
  cases lk u L <;> rfl
 | cons K r =>
  simp only [St.upd,zck,zz9]
  cases lk u L <;> rfl
theorem zDd {σ:St} {i:Nat} {dst:Option Nat} {fp:List (Nat×Bool)} {d:DV} {u:List (Nat×AO)} {kl:List Nat} : (σ.upd i dst fp d u kl).log=σ.log:=by
 cases kl <;> rfl

def OpAct.may : OpAct → DV → Prop
  | .no,_=>False
  | .val _ d _ _,d'=>d'=d
  | .chk _ _ d _ _,d'=>d'=d
  | .rel _ _ ρ _ post d,d'=>∃ x:ρ,post x∧d'=d x
theorem OpAct.may_gives {A:OpAct} {d:DV} (h:A.may d):A.gives d:=by
 cases A with
 | rel fp u ρ s post r=>obtain ⟨x,_,hx⟩:=h;exact ⟨x,hx⟩
 | _=>exact h
theorem OpAct.may_of_safe {A:OpAct} (h:A.safe):∃ d,A.may d:=by
 cases A with
 | no=>exact h.elim
 | val fp d u kl=>exact ⟨d,rfl⟩
 | chk fp s d u kl=>exact ⟨d,rfl⟩
 | rel fp u ρ s post r=>obtain ⟨_,x,hx⟩:=h;exact ⟨r x,x,hx,rfl⟩

def nx (A:OpAct) (lg:List (Nat×Bool)→List Nat→List (Nat×Nat×Nat)) (i:Nat) (dst:Option Nat) (σ:St) (d:DV):St :=
 (σ.upd i dst A.fp d A.u A.kl).relog (lg A.fp A.kl)

theorem zc1 {A : OpAct} {lg : List (Nat × Bool) → List Nat → List (Nat × Nat × Nat)} {i : Nat} {dst : Option Nat} {K : St → Prop} {σ : St} :
  zeP A lg i dst K σ↔A.safe∧∀ d,A.may d→K (nx A lg i dst σ d):=by
 cases A with
 | no=>simp [zeP,OpAct.safe]
 | val fp d u kl=>simp [zeP,OpAct.safe,OpAct.may,nx,OpAct.fp,OpAct.u,OpAct.kl]
 | chk fp s d u kl=>simp [zeP,OpAct.safe,OpAct.may,nx,OpAct.fp,OpAct.u,OpAct.kl]
 | rel fp u ρ s post d =>
  simp only [zeP,OpAct.safe,OpAct.may,nx,OpAct.fp,OpAct.u,OpAct.kl]
  constructor
  ·rintro ⟨h1, h2, h3⟩
   exact ⟨⟨h1,h2⟩,fun d' ⟨x,hx,e⟩=>e ▸ h3 x hx⟩
  ·rintro ⟨⟨h1, h2⟩, h3⟩
   exact ⟨h1,h2,fun x hx=>h3 _ ⟨x,hx,rfl⟩⟩

section
variable (P:Program) (Γ:Ctrs) (nt:Nat) (ops:Array Oper)

def zeI (env:List (Nat×DV)) (o:Oper):Option Bool :=
 match o.guard with
 | none=>some true
 | some (j,want) =>
  match (ops[j]?).bind (·.dst) with
  | none=>none
  | some g =>
   match lk env g with
   | some (.one (.c (.p (.bool b))))=>some (b == want)
   | some (.one (.c .undef))=>some false
   | _=>none

def zly (σ:St) (o:Oper):OpAct :=
 match zbu nt o.dst,zeI ops σ.env o with
 | true,some true=>act P Γ o (evO σ.env) (lk σ.objs)
 | true,some false=>.val [] (.cl .undef) [] []
 | _,_=>.no

def lgG (σ:St) (i:Nat) (o:Oper) (fp:List (Nat×Bool)) (kl:List Nat):List (Nat×Nat×Nat) :=
 match zeI ops σ.env o with
 | some true=>ziU σ i o fp kl
 | _=>[]

def vcL : List Nat → (St → Prop) → St → Prop
  | [],K,σ=>K σ
  | i :: r,K,σ=>match ops[i]? with
    | none=>vcL r K σ
    | some o=>zeP (zly P Γ nt ops σ o) (lgG ops σ i o) i o.dst (vcL r K) σ

def looks (σ:St) (o:Oper):List Nat :=
 match zeI ops σ.env o with
 | some true=>zgb ops o
 | _=>gdT ops o

end

section
variable {P:Program} {Γ:Ctrs} {nt:Nat} {ops:Array Oper} {σ τ:St} {o:Oper} {i:Nat} {A:OpAct}

theorem zgn {L k:Nat} {r:List Nat} : k∈zzw σ (L :: r)↔∃ o,lk σ.objs k=some o∧L∈aoV o:=by
 simp only [zzw,List.mem_filter,List.mem_map]
 constructor
 ·rintro ⟨_, h⟩
  split at h
  ·rename_i o ho;exact ⟨o,ho,by simpa using h⟩
  ·cases h
 ·rintro ⟨o, ho, hL⟩
  refine ⟨⟨(k,o),zcv ho,rfl⟩,?_⟩
  rw [ho];simpa using hL

theorem zn8:∀ t∈looks ops σ o,t∈zgb ops o:=by
 unfold looks
 split
 ·exact fun _ h=>h
 ·exact fun t h=>List.mem_append.2 (.inr h)
theorem zn9:∀ t∈gdT ops o,t∈looks ops σ o:=by
 unfold looks
 split
 ·exact fun t h=>List.mem_append.2 (.inr h)
 ·exact fun t h=>h

theorem zeo {env env':List (Nat×DV)} (h:∀ t∈gdT ops o,lk env' t=lk env t):zeI ops env' o=zeI ops env o:=by
 unfold zeI
 split
 ·rfl
 ·rename_i j want hg
  split
  ·rfl
  ·rename_i g hgt
   rw [h g (by simp [gdT,hg,hgt])]

theorem zuV {b:Bool} (h:zeI ops σ.env o=some b):∀ t∈gdT ops o,∀ v,lk σ.env t=some v→dvV v=[]:=by
 intro t ht v hv
 unfold gdT at ht
 split at ht
 ·rename_i j want hg
  split at ht
  ·rename_i g hgt
   simp only [List.mem_singleton] at ht
   subst ht
   unfold zeI at h
   rw [hg] at h
   simp only [hgt] at h
   rw [hv] at h
   split at h
   ·rename_i e;simp only [Option.some.injEq] at e;subst e;rfl
   ·rename_i e;simp only [Option.some.injEq] at e;subst e;rfl
   ·cases h
  ·simp at ht
 ·simp at ht

structure Loc (P : Program) (Γ : Ctrs) (nt : Nat) (ops : Array Oper) (σ : St) (i : Nat) (o : Oper) (A : OpAct) (lg : List (Nat × Nat × Nat)) : Prop where
  fst:∀ x∈lg,x.1=i
  wr:∀ x∈A.u,(i,x.1,1)∈lg
  kl:A.kl=[]∨∃ L,A.kl=[L]
  kl3:∀ L∈A.kl,(i,L,3)∈lg
  kl1:∀ L∈A.kl,(i,L,1)∈lg
  kb:∀ L∈A.kl,∀ k o',lk σ.objs k=some o'→L∈aoV o'→(i,k,1)∈lg
  labu:∀ x∈A.u,∀ L∈aoV x.2,(i,L,2)∈lg
  labd:∀ d,A.may d→∀ L∈dvV d,(i,L,2)∈lg∨(i,L,1)∈lg
  see:∀ t∈looks ops σ o,∀ v,lk σ.env t=some v→∀ L∈dvV v,(i,L,2)∈lg
  fpm:∀ y∈A.fp,∀ o',lk σ.objs y.1=some o'→∀ L∈aoV o',(i,L,2)∈lg
  fpt:∀ y∈A.fp,(i,y.1,0)∈lg∨(i,y.1,1)∈lg
  wfp:∀ x∈A.u,(x.1,true)∈A.fp
  congr:∀ τ,(∀ t∈looks ops σ o,lk τ.env t=lk σ.env t)→(∀ y∈A.fp,lk τ.objs y.1=lk σ.objs y.1)→zly P Γ nt ops τ o=A
  logc:∀ τ,(∀ t∈looks ops σ o,lk τ.env t=lk σ.env t)→(∀ y∈A.fp,lk τ.objs y.1=lk σ.objs y.1) →
    (∀ L∈A.kl,∀ k,(∃ o',lk τ.objs k=some o'∧L∈aoV o')↔∃ o',lk σ.objs k=some o'∧L∈aoV o')→∀ x,x∈lgG ops τ i o A.fp A.kl↔x∈lg

theorem zcb {fp : List (Nat × Bool)} {kl : List Nat} {x : Nat × Nat × Nat} : x ∈ ziU σ i o fp kl ↔
    (∃ y∈fp,x=(i,y.1,match y.2 with | true=>1 | false=>0))∨(∃ L∈zo7 σ o fp,x=(i,L,2))∨(∃ L∈kl,x=(i,L,3))∨∃ k∈zzw σ kl,x=(i,k,1):=by
  simp only [ziU,List.mem_append,List.mem_map,or_assoc]
  constructor
  · rintro (⟨y, h1, h2⟩ | ⟨y, h1, h2⟩ | ⟨y, h1, h2⟩ | ⟨y, h1, h2⟩)
    · exact .inl ⟨y,h1,h2.symm⟩
    · exact .inr (.inl ⟨y,h1,h2.symm⟩)
    · exact .inr (.inr (.inl ⟨y,h1,h2.symm⟩))
    · exact .inr (.inr (.inr ⟨y,h1,h2.symm⟩))
  · rintro (⟨y, h1, h2⟩ | ⟨y, h1, h2⟩ | ⟨y, h1, h2⟩ | ⟨y, h1, h2⟩)
    · exact .inl ⟨y,h1,h2.symm⟩
    · exact .inr (.inl ⟨y,h1,h2.symm⟩)
    · exact .inr (.inr (.inl ⟨y,h1,h2.symm⟩))
    · exact .inr (.inr (.inr ⟨y,h1,h2.symm⟩))

theorem zuW {fp:List (Nat×Bool)} {L:Nat} (h:Men o (evO σ.env) (lk σ.objs) fp L):L∈zo7 σ o fp:=by
 unfold zo7
 rcases h with ⟨x,hx,hL⟩ | ⟨y,hy,o',ho,hL⟩
 ·exact List.mem_append.2 (.inl (List.mem_flatMap.2 ⟨x,hx,hL⟩))
 ·refine List.mem_append.2 (.inr (List.mem_flatMap.2 ⟨y,hy,?_⟩));rw [ho];exact hL

theorem zjm {fp:List (Nat×Bool)} (he:∀ x∈o.op.operands.toList,evO τ.env x=evO σ.env x) (hob:∀ y∈fp,lk τ.objs y.1=lk σ.objs y.1):zo7 τ o fp=zo7 σ o fp:=by
 unfold zo7
 rw [fmc (f:=fun x=>dvV (evO τ.env x)) (h:=fun x=>dvV (evO σ.env x)) fun x hx=>by rw [he x hx]]
 congr 1
 exact fmc fun y hy=>by rw [hob y hy]

theorem zsb (hA:zly P Γ nt ops σ o=A) (hs:A.safe):Loc P Γ nt ops σ i o A (lgG ops σ i o A.fp A.kl):=by
 have hA':=hA
 unfold zly at hA
 split at hA
 ·rename_i hd hw
  have K:=zLb hA hs
  have hlg:∀ fp kl,lgG ops σ i o fp kl=ziU σ i o fp kl:=fun fp kl=>by unfold lgG;rw [hw]
  have hlooks:looks ops σ o=zgb ops o:=by unfold looks;rw [hw]
  have hmen:∀ L,Men o (evO σ.env) (lk σ.objs) A.fp L→(i,L,2)∈lgG ops σ i o A.fp A.kl:=fun L h=>by
   rw [hlg];exact zcb.2 (.inr (.inl ⟨L,zuW h,rfl⟩))
  have hfw:∀ L,(L,true)∈A.fp→(i,L,1)∈lgG ops σ i o A.fp A.kl:=fun L h=>by
   rw [hlg];exact zcb.2 (.inl ⟨_,h,rfl⟩)
  have hop:∀ τ:St,(∀ t∈looks ops σ o,lk τ.env t=lk σ.env t)→∀ x∈o.op.operands.toList,evO τ.env x=evO σ.env x:=fun τ h x hx =>
   zjj fun t ht=>h t (by rw [hlooks];exact List.mem_append.2 (.inl (List.mem_flatMap.2 ⟨x,hx,ht⟩)))
  have hwt:∀ τ:St,(∀ t∈looks ops σ o,lk τ.env t=lk σ.env t)→zeI ops τ.env o=some true:=fun τ h=>by
   rw [zeo (env:=σ.env) fun t ht=>h t (zn9 t ht),hw]
  refine ⟨fun x hx=>?_,fun x hx=>hfw _ (K.wr x hx),?_,fun L hL=>?_,fun L hL=>?_,fun L hL k o' hk hL'=>?_,fun x hx L hL=>hmen L (K.labu x hx L hL),
   fun d hd' L hL=>(K.labd d (OpAct.may_gives hd') L hL).imp (hmen L) (hfw L),fun t ht v hv L hL=>?_,fun y hy o' ho L hL=>hmen L (.inr ⟨y,hy,o',ho,hL⟩),fun y hy=>?_,K.wr,fun τ he hob=>?_,fun τ he hob hkb x=>?_⟩
  ·rw [hlg] at hx
   rcases zcb.1 hx with ⟨_,_,h⟩ | ⟨_,_,h⟩ | ⟨_,_,h⟩ | ⟨_,_,h⟩ <;> rw [h]
  ·exact K.kl.imp_right fun ⟨L,h,_⟩=>⟨L,h⟩
  ·rw [hlg];exact zcb.2 (.inr (.inr (.inl ⟨L,hL,rfl⟩)))
  ·rcases K.kl with h | ⟨M, h, h2⟩
   ·rw [h] at hL;simp at hL
   ·rw [h] at hL;simp at hL;subst hL;exact hfw _ h2
  ·rw [hlg]
   refine zcb.2 (.inr (.inr (.inr ⟨k,?_,rfl⟩)))
   rcases K.kl with h | ⟨M,h,h2⟩
   ·rw [h] at hL;simp at hL
   ·rw [h] at hL ⊢;simp at hL;subst hL;exact zgn.2 ⟨o',hk,hL'⟩
  ·rw [hlooks] at ht
   rcases List.mem_append.1 ht with ht | ht
   ·obtain ⟨x, hx, ht⟩ := List.mem_flatMap.1 ht
    refine hmen L (.inl ⟨x,hx,?_⟩)
    cases x with
    | tmp s=>simp only [zHN,List.mem_singleton] at ht;subst ht;simp only [evO,hv];exact hL
    | _=>simp [zHN] at ht
   ·rw [zuV hw t ht v hv] at hL;simp at hL
  ·rw [hlg]
   obtain ⟨L,b⟩:=y
   cases b with
   | true=>exact .inr (zcb.2 (.inl ⟨_,hy,rfl⟩))
   | false=>exact .inl (zcb.2 (.inl ⟨_,hy,rfl⟩))
  ·unfold zly
   rw [hd,hwt τ he]
   exact K.congr _ _ (hop τ he) hob
  ·have e1 : lgG ops τ i o A.fp A.kl = ziU τ i o A.fp A.kl := by unfold lgG; rw [hwt τ he]
   rw [e1,hlg,zcb,zcb,zjm (hop τ he) hob]
   refine or_congr Iff.rfl (or_congr Iff.rfl (or_congr Iff.rfl ?_))
   rcases K.kl with h | ⟨M,h,h2⟩
   ·rw [h];simp [zzw]
   ·rw [h]
    have:∀ k,k∈zzw τ [M]↔k∈zzw σ [M]:=fun k=>by rw [zgn,zgn];exact hkb M (by rw [h];simp) k
    constructor
    ·rintro ⟨k,h1,h2⟩;exact ⟨k,(this k).1 h1,h2⟩
    ·rintro ⟨k,h1,h2⟩;exact ⟨k,(this k).2 h1,h2⟩
 ·rename_i hd hw
  subst hA
  have hlg:∀ fp kl,lgG ops σ i o fp kl=[]:=fun fp kl=>by unfold lgG;rw [hw]
  have hlooks:looks ops σ o=gdT ops o:=by unfold looks;rw [hw]
  have hwt:∀ τ:St,(∀ t∈looks ops σ o,lk τ.env t=lk σ.env t)→zeI ops τ.env o=some false:=fun τ h=>by
   rw [zeo (env:=σ.env) fun t ht=>h t (zn9 t ht),hw]
  refine ⟨fun x hx=>?_,fun x hx=>?_,.inl rfl,fun L hL=>?_,fun L hL=>?_,fun L hL=>?_,fun x hx=>?_,fun d hd' L hL=>?_,fun t ht v hv L hL=>?_,fun y hy=>?_,fun y hy=>?_,fun x hx=>?_,fun τ he hob=>?_,fun τ he hob hkb x=>?_⟩
  ·rw [hlg] at hx;simp at hx
  ·simp [OpAct.u] at hx
  ·simp [OpAct.kl] at hL
  ·simp [OpAct.kl] at hL
  ·simp [OpAct.kl] at hL
  ·simp [OpAct.u] at hx
  ·simp only [OpAct.may] at hd';subst hd';simp [dvV,d1V,clV] at hL
  ·rw [hlooks] at ht;rw [zuV hw t ht v hv] at hL;simp at hL
  ·simp [OpAct.fp] at hy
  ·simp [OpAct.fp] at hy
  ·simp [OpAct.u] at hx
  ·unfold zly;rw [hd,hwt τ he]
  ·rw [hlg]
   have:lgG ops τ i o (OpAct.val [] (.cl .undef) [] []).fp (OpAct.val [] (.cl .undef) [] []).kl=[]:=by unfold lgG;rw [hwt τ he]
   rw [this]
 ·subst hA;exact hs.elim

theorem zlz {lg:List (Nat×Bool)→List Nat→List (Nat×Nat×Nat)} {dst:Option Nat} {d:DV} (t:Nat):lk (nx A lg i dst σ d).env t=if dst=some t then some d else (lk σ.env t).map (zcM A.kl):=zDc t
theorem zg1 {lg:List (Nat×Bool)→List Nat→List (Nat×Nat×Nat)} {dst:Option Nat} {d:DV} (L:Nat):lk (nx A lg i dst σ d).objs L=match lk A.u L with | some o=>some o | none=>(lk σ.objs L).map (zcA A.kl):=zAa L
theorem zgo {lg:List (Nat×Bool)→List Nat→List (Nat×Nat×Nat)} {dst:Option Nat} {d:DV} : (nx A lg i dst σ d).log=lg A.fp A.kl ++ σ.log:=by simp only [nx,St.relog,zDd]

theorem zAb (h:Eqv σ τ) (o:Oper):zly P Γ nt ops τ o=zly P Γ nt ops σ o:=by
 unfold zly
 rw [zeo (env:=σ.env) fun t _=>(h.env t).symm,show evO τ.env=evO σ.env from funext fun x=>zjj fun t _=>(h.env t).symm,show lk τ.objs=lk σ.objs from funext fun t=>(h.objs t).symm]
theorem zDe (h:Eqv σ τ) {fp:List (Nat×Bool)} {kl:List Nat} (x:Nat×Nat×Nat):x∈lgG ops σ i o fp kl↔x∈lgG ops τ i o fp kl:=by
 unfold lgG
 rw [zeo (env:=σ.env) (env':=τ.env) fun t _=>(h.env t).symm]
 split
 ·rw [zcb, zcb, zjm (σ := σ) (τ := τ) (fun x _ => zjj fun t _ => (h.env t).symm) (fun y _ => (h.objs y.1).symm)]
  refine or_congr Iff.rfl (or_congr Iff.rfl (or_congr Iff.rfl ?_))
  cases kl with
  | nil=>simp [zzw]
  | cons L r =>
   have:∀ k,k∈zzw σ (L :: r)↔k∈zzw τ (L :: r):=fun k=>by rw [zgn,zgn,h.objs k]
   constructor
   ·rintro ⟨k,h1,h2⟩;exact ⟨k,(this k).1 h1,h2⟩
   ·rintro ⟨k,h1,h2⟩;exact ⟨k,(this k).2 h1,h2⟩
 ·exact Iff.rfl

theorem zmf {K : St → Prop} (hK : ∀ σ τ, Eqv σ τ → K σ → K τ) : ∀ (l : List Nat) (σ τ : St), Eqv σ τ → vcL P Γ nt ops l K σ → vcL P Γ nt ops l K τ
  | [],σ,τ,h,hv=>hK σ τ h hv
  | i :: r,σ,τ,h,hv=>by
    simp only [vcL] at hv ⊢
    split at hv
    · exact zmf hK r σ τ h hv
    · rename_i o ho
      rw [zc1] at hv ⊢
      rw [zAb h]
      refine ⟨hv.1,fun d hd=>zmf hK r _ _ ⟨fun t=>?_,fun L=>?_,fun x=>?_⟩ (hv.2 d hd)⟩
      · rw [zlz,zlz,h.env]
      · rw [zg1,zg1,h.objs]
      · rw [zgo, zgo, List.mem_append, List.mem_append, h.log x]
        exact or_congr (zDe h x) Iff.rfl

theorem zgp {K K':St→Prop} {l l':List Nat} {i:Nat} (hK:∀ σ,vcL P Γ nt ops l K σ→vcL P Γ nt ops l' K' σ) (hv:vcL P Γ nt ops (i :: l) K σ):vcL P Γ nt ops (i :: l') K' σ:=by
 simp only [vcL] at hv ⊢
 split at hv
 ·exact hK _ hv
 ·rw [zc1] at hv ⊢
  exact ⟨hv.1,fun d hd=>hK _ (hv.2 d hd)⟩

theorem zpv {K : St → Prop} {R : List (Nat × Nat × Nat) → Prop} (hR : ∀ l m, (∀ x ∈ l, x ∈ m) → R m → R l) (hK : ∀ σ, K σ → R σ.log) : ∀ (l : List Nat) (σ : St), vcL P Γ nt ops l K σ → R σ.log
  | [],σ,hv=>hK σ hv
  | i :: r,σ,hv=>by
    simp only [vcL] at hv
    split at hv
    · exact zpv hR hK r σ hv
    · rw [zc1] at hv
      obtain ⟨d,hd⟩:=OpAct.may_of_safe hv.1
      refine hR _ _ (fun x hx=>?_) (zpv hR hK r _ (hv.2 d hd))
      rw [zgo];exact List.mem_append.2 (.inr hx)

def zjn (log:List (Nat×Nat×Nat)) (i j:Nat):Prop:=∀ L k m,(i,L,k)∈log→(j,L,m)∈log→zt6 k m=false

theorem zlA {l:List Nat} {x:Option DV} (h:∀ v,x=some v→∀ L∈dvV v,L ∉ l):x.map (zcM l)=x:=by
 cases x with
 | none=>rfl
 | some v=>simp only [Option.map_some];rw [zmd (h v rfl)]
theorem zlB {l:List Nat} {x:Option AO} (h:∀ v,x=some v→∀ L∈aoV v,L ∉ l):x.map (zcA l)=x:=by
 cases x with
 | none=>rfl
 | some v=>simp only [Option.map_some];rw [zme (h v rfl)]

theorem zAc {a b:Oper} (h:znE ops a b=false):(∀ t∈zgb ops b,a.dst ≠ some t)∧(∀ t∈zgb ops a,b.dst ≠ some t)∧∀ t,a.dst=some t→b.dst ≠ some t:=by
 simp only [znE,Bool.or_eq_false_iff] at h
 obtain ⟨⟨h1,h2⟩,h3⟩:=h
 refine ⟨fun t ht e=>?_,fun t ht e=>?_,fun t e e'=>?_⟩
 ·rw [e] at h1; simp only [meets] at h1
  have:(zgb ops b).contains t=true:=by simpa using ht
  rw [this] at h1;cases h1
 ·rw [e] at h2; simp only [meets] at h2
  have:(zgb ops a).contains t=true:=by simpa using ht
  rw [this] at h2;cases h2
 ·rw [e, e'] at h3; simp only [zt5] at h3
  rw [show Nat.beq t t=true from by simp] at h3;cases h3

theorem zAd {K : St → Prop} {i j : Nat} {oi oj : Oper} {r : List Nat} (hi : ops[i]? = some oi) (hj : ops[j]? = some oj) (hT : znE ops oi oj = false)
    (hE:∀ τ τ',Eqv τ τ'→vcL P Γ nt ops r K τ→vcL P Γ nt ops r K τ') (hN:∀ τ,vcL P Γ nt ops r K τ→zjn τ.log i j)
    (h:vcL P Γ nt ops (i :: j :: r) K σ):vcL P Γ nt ops (j :: i :: r) K σ:=by
  obtain ⟨cT1,cT2,cT3⟩:=zAc hT
  simp only [vcL,hi,hj] at h ⊢
  rw [zc1] at h
  obtain ⟨hsA,hA⟩:=h
  generalize hAe:zly P Γ nt ops σ oi=A at hsA hA
  have LA:=zsb (i:=i) hAe hsA
  -- the second operation behind the first: as before it
  have key:∀ d,A.may d→∃ B,zly P Γ nt ops (nx A (lgG ops σ i oi) i oi.dst σ d) oj=B∧B.safe ∧
      (∀ e,B.may e→vcL P Γ nt ops r K (nx B (lgG ops (nx A (lgG ops σ i oi) i oi.dst σ d) j oj) j oj.dst (nx A (lgG ops σ i oi) i oi.dst σ d) e)) ∧
      zjn (lgG ops (nx A (lgG ops σ i oi) i oi.dst σ d) j oj B.fp B.kl ++ (lgG ops σ i oi A.fp A.kl)) i j:=by
    intro d hd
    have h2:=hA d hd
    rw [zc1] at h2
    obtain ⟨hsB,hB⟩:=h2
    refine ⟨_,rfl,hsB,hB,?_⟩
    obtain ⟨e,he⟩:=OpAct.may_of_safe hsB
    have:=hN _ (hB e he)
    rw [zgo,zgo] at this
    intro L k m hk hm
    refine this L k m ?_ ?_
    · rcases List.mem_append.1 hk with h | h
      · exact List.mem_append.2 (.inl h)
      · exact List.mem_append.2 (.inr (List.mem_append.2 (.inl h)))
    · rcases List.mem_append.1 hm with h | h
      · exact List.mem_append.2 (.inl h)
      · exact List.mem_append.2 (.inr (List.mem_append.2 (.inl h)))
  have main:∀ d,A.may d→∀ B,zly P Γ nt ops (nx A (lgG ops σ i oi) i oi.dst σ d) oj=B→B.safe →
      (∀ e,B.may e→vcL P Γ nt ops r K (nx B (lgG ops (nx A (lgG ops σ i oi) i oi.dst σ d) j oj) j oj.dst (nx A (lgG ops σ i oi) i oi.dst σ d) e)) →
      zjn (lgG ops (nx A (lgG ops σ i oi) i oi.dst σ d) j oj B.fp B.kl ++ (lgG ops σ i oi A.fp A.kl)) i j →
      zly P Γ nt ops σ oj=B∧∀ e,B.may e→zly P Γ nt ops (nx B (lgG ops σ j oj) j oj.dst σ e) oi=A ∧
        vcL P Γ nt ops r K (nx A (lgG ops (nx B (lgG ops σ j oj) j oj.dst σ e) i oi) i oi.dst (nx B (lgG ops σ j oj) j oj.dst σ e) d):=by
    intro d hd B hBe hsB hB hno
    generalize hσ1:nx A (lgG ops σ i oi) i oi.dst σ d=σ1 at hBe hB hno
    have LB:=zsb (i:=j) hBe hsB
    have no:∀ L k m,(i,L,k)∈lgG ops σ i oi A.fp A.kl→(j,L,m)∈lgG ops σ1 j oj B.fp B.kl→zt6 k m=true→False:=fun L k m h1 h2 hc=>by
      have:=hno L k m (List.mem_append.2 (.inr h1)) (List.mem_append.2 (.inl h2))
      rw [this] at hc;cases hc
    have zM6:∀ t,lk σ1.env t=if oi.dst=some t then some d else (lk σ.env t).map (zcM A.kl):=fun t=>by rw [← hσ1,zlz]
    have objs1:∀ L,lk σ1.objs L=match lk A.u L with | some o=>some o | none=>(lk σ.objs L).map (zcA A.kl):=fun L=>by rw [← hσ1,zg1]
    -- what the second looks at, the first has not changed
    have seeB:∀ t∈looks ops σ1 oj,lk σ.env t=lk σ1.env t:=by
      intro t ht
      have e:=zM6 t
      rw [if_neg (cT1 t (zn8 t ht))] at e
      rw [e]
      refine (zlA fun v hv L hL hk=>?_).symm
      rw [hv,Option.map_some] at e
      exact no L 3 2 (LA.kl3 L hk) (LB.see t ht _ e L (by rw [zDb];exact hL)) rfl
    have fpB:∀ y∈B.fp,lk σ.objs y.1=lk σ1.objs y.1:=by
      intro y hy
      have e:=objs1 y.1
      have hn:lk A.u y.1=none:=by
        cases hu:lk A.u y.1 with
        | none=>rfl
        | some o' =>
          have h1:=LA.wr _ (zcv hu)
          rcases LB.fpt y hy with h2 | h2
          · exact (no _ _ _ h1 h2 rfl).elim
          · exact (no _ _ _ h1 h2 rfl).elim
      rw [hn] at e
      simp only at e
      rw [e]
      refine (zlB fun v hv L hL hk=>?_).symm
      rw [hv,Option.map_some] at e
      exact no L 3 2 (LA.kl3 L hk) (LB.fpm y hy _ e L (by rw [zpu];exact hL)) rfl
    have hBσ:=LB.congr σ seeB fpB
    refine ⟨hBσ,fun e he=>?_⟩
    generalize hσ1':nx B (lgG ops σ j oj) j oj.dst σ e=σ1'
    have env1':∀ t,lk σ1'.env t=if oj.dst=some t then some e else (lk σ.env t).map (zcM B.kl):=fun t=>by rw [← hσ1',zlz]
    have objs1':∀ L,lk σ1'.objs L=match lk B.u L with | some o=>some o | none=>(lk σ.objs L).map (zcA B.kl):=fun L=>by rw [← hσ1',zg1]
    have seeA:∀ t∈looks ops σ oi,lk σ1'.env t=lk σ.env t:=by
      intro t ht
      rw [env1',if_neg (cT2 t (zn8 t ht))]
      exact zlA fun v hv L hL hk=>no L 2 3 (LA.see t ht v hv L hL) (LB.kl3 L hk) rfl
    have uB:∀ y∈A.fp,lk B.u y.1=none:=by
      intro y hy
      cases hu:lk B.u y.1 with
      | none=>rfl
      | some o' =>
        have h1:=LB.wr _ (zcv hu)
        rcases LA.fpt y hy with h2 | h2
        · exact (no _ _ _ h2 h1 rfl).elim
        · exact (no _ _ _ h2 h1 rfl).elim
    have fpA:∀ y∈A.fp,lk σ1'.objs y.1=lk σ.objs y.1:=by
      intro y hy
      rw [objs1',uB y hy]
      exact zlB fun v hv L hL hk=>no L 2 3 (LA.fpm y hy v hv L hL) (LB.kl3 L hk) rfl
    have hAσ:=LA.congr σ1' seeA fpA
    refine ⟨hAσ,hE _ _ ⟨fun t=>?_,fun L=>?_,fun x=>?_⟩ (hB e he)⟩
    · -- the temporaries
      rw [zlz,zlz,zM6,env1']
      by_cases h1:oj.dst=some t
      · rw [if_pos h1, if_pos h1, if_neg fun h2 => cT3 t h2 h1, Option.map_some, zmd fun L hL hk => ?_]
        rcases LB.labd e he L hL with h3 | h3
        · exact no L 3 2 (LA.kl3 L hk) h3 rfl
        · exact no L 1 1 (LA.kl1 L hk) h3 rfl
      · rw [if_neg h1, if_neg h1]
        by_cases h2:oi.dst=some t
        · rw [if_pos h2, if_pos h2, Option.map_some, zmd fun L hL hk => ?_]
          rcases LA.labd d hd L hL with h3 | h3
          · exact no L 2 3 h3 (LB.kl3 L hk) rfl
          · exact no L 1 1 h3 (LB.kl1 L hk) rfl
        · rw [if_neg h2, if_neg h2]
          cases lk σ.env t with
          | none=>rfl
          | some v=>simp only [Option.map_some];rw [ztM]
    · -- the objects
      rw [zg1,zg1,objs1,objs1']
      cases hb:lk B.u L with
      | some ob =>
        cases ha:lk A.u L with
        | some oa=>exact (no L 1 1 (LA.wr _ (zcv ha)) (LB.wr _ (zcv hb)) rfl).elim
        | none =>
          simp only [Option.map_some]
          rw [zme fun M hM hk=>no M 3 2 (LA.kl3 M hk) (LB.labu _ (zcv hb) M hM) rfl]
      | none =>
        cases ha:lk A.u L with
        | some oa =>
          simp only [Option.map_some]
          rw [zme fun M hM hk=>no M 2 3 (LA.labu _ (zcv ha) M hM) (LB.kl3 M hk) rfl]
        | none =>
          simp only
          cases lk σ.objs L with
          | none=>rfl
          | some v=>simp only [Option.map_some];rw [ztN]
    · -- the log
      rw [zgo,zgo]
      have l1:σ1.log=lgG ops σ i oi A.fp A.kl ++ σ.log:=by rw [← hσ1,zgo]
      have l2:σ1'.log=lgG ops σ j oj B.fp B.kl ++ σ.log:=by rw [← hσ1',zgo]
      rw [l1,l2]
      have e1:x∈lgG ops σ j oj B.fp B.kl↔x∈lgG ops σ1 j oj B.fp B.kl:=by
        refine LB.logc σ seeB fpB (fun L hL k=>?_) x
        rw [objs1]
        cases ha:lk A.u k with
        | some oa =>
          simp only [Option.some.injEq]
          constructor
          · rintro ⟨o', ho, hL'⟩
            exact (no L 2 3 (LA.fpm _ (LA.wfp _ (zcv ha)) o' ho L hL') (LB.kl3 L hL) rfl).elim
          · rintro ⟨o', rfl, hL'⟩
            exact (no L 2 3 (LA.labu _ (zcv ha) L hL') (LB.kl3 L hL) rfl).elim
        | none =>
          simp only
          cases lk σ.objs k with
          | none=>simp
          | some v=>simp [zpu]
      have e2:x∈lgG ops σ1' i oi A.fp A.kl↔x∈lgG ops σ i oi A.fp A.kl:=by
        refine LA.logc σ1' seeA fpA (fun L hL k=>?_) x
        rw [objs1']
        cases hb:lk B.u k with
        | some ob =>
          simp only [Option.some.injEq]
          constructor
          · rintro ⟨o', rfl, hL'⟩
            exact (no L 3 2 (LA.kl3 L hL) (LB.labu _ (zcv hb) L hL') rfl).elim
          · rintro ⟨o', ho, hL'⟩
            exact (no k 1 1 (LA.kb L hL k o' ho hL') (LB.wr _ (zcv hb)) rfl).elim
        | none =>
          simp only
          cases lk σ.objs k with
          | none=>simp
          | some v=>simp [zpu]
      simp only [List.mem_append]
      rw [e1,e2,← or_assoc,← or_assoc]
      exact or_congr (or_comm) Iff.rfl
  rw [zc1]
  obtain ⟨d0,hd0⟩:=OpAct.may_of_safe hsA
  obtain ⟨B,hBe,hsB,hB,hno⟩:=key d0 hd0
  obtain ⟨hBσ,hrest⟩:=main d0 hd0 B hBe hsB hB hno
  rw [hBσ]
  refine ⟨hsB,fun e he=>?_⟩
  rw [zc1]
  rw [(hrest e he).1]
  refine ⟨hsA,fun d hd=>?_⟩
  obtain ⟨B',hBe',hsB',hB',hno'⟩:=key d hd
  obtain ⟨hBσ',hrest'⟩:=main d hd B' hBe' hsB' hB' hno'
  have hBB:B'=B:=hBσ'.symm.trans hBσ
  subst hBB
  exact (hrest' e he).2

end
end Go.Pm
namespace Go.Pm
open Go.RowKit (Below)

section
variable {P:Program} {Γ:Ctrs} {nt B:Nat} {w0:World} {h0:Fz} {g:Gh} {σ:St} {a:Act} {w:World} {r:Option Nat} {n i:Nat} {Q:Exit→Act→World→Prop}

theorem zjo {o:Oper} {R R':Act→World→Prop} (h:o.wpIn (FR r) n P a w R Q) (hR:∀ a w,R a w→R' a w):o.wpIn (FR r) n P a w R' Q:=by
 refine ⟨h.1,?_⟩
 have h2:=h.2
 generalize (o.semAt (FR r).round a.eval).run P w=res at h2 ⊢
 match res,h2 with
 | .ok (.value v) w',h2=>exact hR _ _ h2
 | .ok .skip w',h2=>exact hR _ _ h2
 | .ok (.defer d) w',h2=>exact hR _ _ h2
 | .ok (.enter f args) w',h2 =>
  refine ⟨h2.1,h2.2.mono ?_⟩
  intro e w'' he
  cases e with
  | returned v=>exact hR _ _ he
  | panicked ch=>exact he
  | outgrown=>exact he
 | .ok (.row row args) w',h2=>exact ⟨h2.1,h2.2.mono fun v w'' hv=>hR _ _ hv⟩
 | .ok (.round l f tmps x y) w',h2 =>
  refine ⟨h2.1,h2.2.mono ?_⟩
  intro e w'' he
  cases e with
  | returned v=>exact hR _ _ he
  | panicked ch=>exact he
  | outgrown=>exact he
 | .halt (.panic v) w',h2=>exact h2

theorem zBF {o:Oper} {R:Act→World→Prop} (h:o.wpIn (FR r) n P a w R Q):o.wpIn (FR r) n P a w (fun a' w'=>R a' w'∧∃ v ds,a'=({ a with defers:=ds } : Act).put o.dst v) Q:=by
 refine ⟨h.1,?_⟩
 have h2:=h.2
 generalize (o.semAt (FR r).round a.eval).run P w=res at h2 ⊢
 match res,h2 with
 | .ok (.value v) w',h2=>exact ⟨h2,v,a.defers,rfl⟩
 | .ok .skip w',h2=>exact ⟨h2,undef,a.defers,rfl⟩
 | .ok (.defer d) w',h2=>exact ⟨h2,undef,d :: a.defers,rfl⟩
 | .ok (.enter f args) w',h2 =>
  refine ⟨h2.1,h2.2.mono ?_⟩
  intro e w'' he
  cases e with
  | returned v=>exact ⟨he,v,a.defers,rfl⟩
  | panicked ch=>exact he
  | outgrown=>exact he
 | .ok (.row row args) w',h2=>exact ⟨h2.1,h2.2.mono fun v w'' hv=>⟨hv,v,a.defers,rfl⟩⟩
 | .ok (.round l f tmps x y) w',h2 =>
  refine ⟨h2.1,h2.2.mono ?_⟩
  intro e w'' he
  cases e with
  | returned v=>exact ⟨he,v,a.defers,rfl⟩
  | panicked ch=>exact he
  | outgrown=>exact he
 | .halt (.panic v) w',h2=>exact h2

def Kp (D:List Nat) (a a':Act):Prop:=(∀ t,t ∉ D→a'.tmps.getD t undef=a.tmps.getD t undef)∧a'.tmps.size=a.tmps.size
theorem Kp.refl (D:List Nat) (a:Act):Kp D a a:=⟨fun _ _=>rfl,rfl⟩
theorem Kp.put {D:List Nat} {a0 a:Act} (h:Kp D a0 a) {dst:Option Nat} (hd:∀ t,dst=some t→t∈D) (v:Value) (ds:List Deferred):Kp D a0 (({ a with defers:=ds } : Act).put dst v):=by
 cases dst with
 | none=>exact h
 | some t =>
  refine ⟨fun u hu=>?_,by simp [Act.put,h.2]⟩
  have hne:t ≠ u:=fun e=>hu (e ▸ hd t rfl)
  rw [← h.1 u hu]
  simp [Act.put,Array.getD_eq_getD_getElem?,Array.getElem?_setIfInBounds_ne hne]

theorem zil {ops:Array Oper} {tmps:Array Value} {j g:Nat} {b:Bool} (hg:(ops[j]?).bind (·.dst)=some g) (hv:tmps.getD g undef=.bool b):yielded ops tmps j=some b:=by
 unfold yielded
 rw [hg]
 simp only [Option.bind_some]
 rw [Array.getD_eq_getD_getElem?] at hv
 cases h:tmps[g]? with
 | none=>rw [h] at hv;simp [undef] at hv
 | some v=>rw [h] at hv;simp only [Option.getD_some] at hv;subst hv;rfl
theorem zgq {ops:Array Oper} {tmps:Array Value} {j g:Nat} (hg:(ops[j]?).bind (·.dst)=some g) (hv:tmps.getD g undef=undef):yielded ops tmps j=none:=by
 unfold yielded
 rw [hg]
 simp only [Option.bind_some]
 rw [Array.getD_eq_getD_getElem?] at hv
 cases h:tmps[g]? with
 | none=>rfl
 | some v=>rw [h] at hv;simp only [Option.getD_some] at hv;subst hv;rfl

theorem Sim.skip (S:Sim P nt B w0 h0 g σ a w) {dst:Option Nat} (hd:zbu nt dst=true):Sim P nt B w0 h0 g (σ.skip dst) (a.put dst undef) w:=by
 have:=S.put (d:=.cl .undef) (v:=undef) hd rfl (fun L hL=>by simp [zaN,za5,zav] at hL) σ.log
 cases dst <;> exact this

theorem zpw (hok : OkAll P Γ) {ops : Array Oper} {K : St → Prop} {D : List Nat} {a0 : Act} {ad : List Deferred} (hD : ∀ (j : Nat) (o : Oper), ops[j]? = some o → ∀ t, o.dst = some t → t ∈ D)
    (hQ:∀ σ',K σ'→∀ g' a' w',Sim P nt B w0 h0 g' σ' a' w'→Kp D a0 a'→a'.defers=ad→Q .normal a' w') :
    ∀ (l:List Oper) (i:Nat) (σ:St) (g:Gh) (a:Act) (w:World),(∀ j,l[j]? = ops[i+j]?)→zeH P Γ nt ops i l K σ→Sim P nt B w0 h0 g σ a w→Kp D a0 a→a.defers=ad →
      wpOpsIn (FR r) n P ops Q (List.range' i l.length) a w:=by
  intro l
  induction l with
  | nil=>intro i σ g a w _ h S hk had;exact hQ σ h g a w S hk had
  | cons o l ih =>
    intro i σ g a w hl h S hkp had
    have ho:ops[i]? = some o:=by have:=hl 0;simpa using this.symm
    have hl':∀ j,l[j]? = ops[i+1+j]?:=fun j=>by have:=hl (j+1);rw [List.getElem?_cons_succ] at this;rw [this];congr 1;omega
    simp only [List.length_cons,List.range'_succ,wpOpsIn,ho]
    simp only [zeH] at h
    split at h
    · exact h.elim
    · rename_i hd
      have run:∀ (σ:St),Sim P nt B w0 h0 g σ a w→zeP (act P Γ o (evO σ.env) (lk σ.objs)) (ziU σ i o) i o.dst (zeH P Γ nt ops (i+1) l K) σ→o.wpIn (FR r) n P a w (wpOpsIn (FR r) n P ops Q (List.range' (i+1) l.length)) Q:=by
        intro σ S h
        obtain ⟨hs,hk⟩:=zi1.1 h
        refine zjo (zBF (zi9 (i:=i) (Q:=Q) (r:=r) (n:=n) hok S hd rfl hs)) ?_
        rintro a' w' ⟨⟨hdf,g',σ',hst,S'⟩,v,ds,rfl⟩
        exact ih (i+1) _ g' _ w' hl' (hk σ' hst) (S'.log _) (hkp.put (hD i o ho) v ds) (hdf.trans had)
      have skp:∀ (σ:St),Sim P nt B w0 h0 g σ a w→zeH P Γ nt ops (i+1) l K (σ.skip o.dst)→wpOpsIn (FR r) n P ops Q (List.range' (i+1) l.length) (a.put o.dst undef) w:=by
        intro σ S h
        exact ih (i+1) _ g _ w hl' h (S.skip hd) (hkp.put (hD i o ho) undef a.defers) ((put_defers _ _ _).trans had)
      split at h
      · rename_i hg
        rw [if_pos (by simp [Region.wanted,hg])]
        exact run σ S h
      · rename_i j want hg
        split at h
        · exact h.elim
        · rename_i gt hgt
          split at h
          · rename_i b hb
            have hv:a.tmps.getD gt undef=.bool b:=by
              have:=S.env gt _ hb
              generalize a.tmps.getD gt undef=v at this
              cases this;rfl
            have hy:=zil hgt hv
            have S1:∀ c,b=c→Sim P nt B w0 h0 g (σ.setT gt (.bool c)) a w:=by
              intro c hc
              refine S.env' (t:=gt) (d:=.bool c) ?_ (zcZ _)
              rw [hv,hc];exact .bool c
            have h2:=zga.1 h
            cases b with
            | true =>
              have h3:=h2.1 rfl
              cases want with
              | true=>rw [if_pos (by simp [Region.wanted,hg,hy])];exact run _ (S1 true rfl) h3
              | false=>rw [if_neg (by simp [Region.wanted,hg,hy])];exact ⟨fun _ _=>trivial,skp _ (S1 true rfl) h3⟩
            | false =>
              have h3:=h2.2 rfl
              cases want with
              | true=>rw [if_neg (by simp [Region.wanted,hg,hy])];exact ⟨fun _ _=>trivial,skp _ (S1 false rfl) h3⟩
              | false=>rw [if_pos (by simp [Region.wanted,hg,hy])];exact run _ (S1 false rfl) h3
          · rename_i hb
            have hv:a.tmps.getD gt undef=undef:=S.env gt _ hb
            have hy:=zgq hgt hv
            rw [if_neg (by simp [Region.wanted,hg,hy])]
            exact ⟨fun _ _=>trivial,skp _ S h⟩
          · exact h.elim

theorem zpx (hok : OkAll P Γ) {ops : Array Oper} {K : St → Prop} {D : List Nat} {a0 : Act} (hD : ∀ (j : Nat) (o : Oper), ops[j]? = some o → ∀ t, o.dst = some t → t ∈ D)
    (h:zeH P Γ nt ops 0 ops.toList K σ) (S:Sim P nt B w0 h0 g σ a w) (hkp:Kp D a0 a)
    (hQ:∀ σ',K σ'→∀ g' a' w',Sim P nt B w0 h0 g' σ' a' w'→Kp D a0 a'→a'.defers=a.defers→Q .normal a' w'):wpOpsIn (FR r) n P ops Q (List.range ops.size) a w:=by
  have:=zpw (r:=r) (n:=n) hok hD hQ ops.toList 0 σ g a w (fun j=>by simp) h S hkp rfl
  rw [List.range_eq_range']
  simpa using this

end
end Go.Pm
